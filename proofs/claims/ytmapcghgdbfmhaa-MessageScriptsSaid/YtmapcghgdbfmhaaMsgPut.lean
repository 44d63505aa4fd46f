/-
  Messages: numbers' bytes, one behind the other, by the document (printed by msg8.py). Conditions: none.
-/
import Derived.Test.YtmapcghgdbfmhaaCodF
import Derived.Test.YtmapcghgdbfmhaaSymD
import Derived.Test.YtmapcghgdbfmhaaSeg
import Derived.Test.YtmapcghgdbfmhaaKitB
namespace Go.Proofs.Ytmapcghgdbfmhaa
open Go Go.RowKit Go.Own Go.Shelf
theorem row_castM {w : World} {t : TypeId} {v : Value} {n : Nat} {x y z : List UInt8} (h : Row w t 1 v n (B x ++ B y)) (e : x ++ y = z) (hn : n = z.length) : Row w t 1 v z.length (B z) := by
  subst hn; rw [← B_append, e] at h; exact h
def Un (ns : List Nat) : List Value := ns.map fun x => .int .u64 ((x : Nat) : Int)
theorem Un_get {ns : List Nat} {i x : Nat} (h : ns[i]? = some x) : (Un ns).toArray[i]? = some (.int .u64 ((x : Nat) : Int)) := by simp [Un, h]
def encs (ns : List Nat) : List UInt8 := ns.flatMap Cod.enc
theorem encs_succ {ns : List Nat} {i x : Nat} (h : ns[i]? = some x) : encs (ns.take (i + 1)) = encs (ns.take i) ++ Cod.enc x := by unfold encs; rw [List.take_add_one, h]; simp
theorem encs_len (ns : List Nat) : (encs ns).length ≤ 10 * ns.length := by
  induction ns with
  | nil => simp [encs]
  | cons n r ih => have := Cod.enc_length n; simp only [encs, List.flatMap_cons, List.length_append, List.length_cons] at ih ⊢; omega
theorem row_end {w : World} {t : TypeId} {v : Value} {ns : List Nat} {i : Nat} (h : Row w t 1 v (encs (ns.take i)).length (B (encs (ns.take i)))) (e : i = ns.length) : Row w t 1 v (encs ns).length (B (encs ns)) := by
  rwa [e, List.take_length] at h
noncomputable def part_rmput (n : Nat) : Code := partOf Try.f50 n
noncomputable abbrev o_rmput (n k : Nat) : Oper := (opsAt (part_rmput n)).getD k default
set_option maxRecDepth 100000 in
set_option maxHeartbeats 4000000 in
theorem rmput_ok (g : Nat) (ns : List Nat) (w : World) (h0 : w.heap[g]? = some (.cells (Un ns).toArray 25 (0, 0))) (hns : ∀ (k : Nat) (x : Nat), ns[k]? = some x → x < 2 ^ 64) (hmax : ns.length ≤ 1000) :
    Calls Try.prog 50 #[.slice (some ⟨g, 0, none⟩) ns.length ns.length] w (fun e w' => ∃ X, e = .returned X ∧ Row w' 5 1 X (encs ns).length (B (encs ns)) ∧ NewFrom w.heap.size X ∧ Keeps Nob w w') := by
  obtain ⟨i0, hi0, hz0, hz1, hz2⟩ := info_parts u8_info0
  have r0 : Row w 5 1 (.slice none 0 0) (encs (ns.take 0)).length (B (encs (ns.take 0))) := World.ownsRow_nil _ _ _ _
  have K0 : Keeps Nob w w := Keeps.refl _ _
  refine sy_enter (part_rmput 1) ⟨#[.slice (some ⟨g, 0, none⟩) ns.length ns.length, undef, undef, undef, undef, undef, undef, undef, undef, undef, undef, undef, undef, undef, undef, undef, undef, undef, undef], []⟩ Try.func50 (by kernel_rfl) (by kernel_rfl) ?_
  refine sy_sq (part_rmput 2) (part_rmput 3) ?_
  refine sy_reg ?_
  refine rg_plain 0 (opsAt (part_rmput 2)) [0] (by kernel_rfl) (by kernel_rfl) ?_
  refine ps_k (o_rmput 2 0) (.slice none 0 0) ?_
  refine ps_end ?_
  refine then_n ?_
  refine sy_sq (part_rmput 6) (part_rmput 7) ?_
  refine sy_reg ?_
  refine rg_plain 1 (opsAt (part_rmput 6)) [0] (by kernel_rfl) (by kernel_rfl) ?_
  refine ps_k (o_rmput 6 0) (.slice none 0 0) ?_
  refine ps_end ?_
  refine then_n ?_
  refine sy_sq (part_rmput 14) (part_rmput 15) ?_
  refine sy_sq (part_rmput 28) (part_rmput 29) ?_
  refine sy_reg ?_
  refine rg_plain 2 (opsAt (part_rmput 28)) [0] (by kernel_rfl) (by kernel_rfl) ?_
  refine ps_k (o_rmput 28 0) (.int .i64 0) ?_
  refine ps_end ?_
  refine then_n ?_
  refine sy_bk 0 (part_rmput 58) ?_
  refine sy_loop (part_rmput 116) (fun a V => ∃ (i : Nat) (v : Value) (u5 u6 u7 u8 u9 u10 u11 u12 u13 u14 u15 u16 u17 : Value), (a = ⟨#[.slice (some ⟨g, 0, none⟩) ns.length ns.length, undef, .slice none 0 0, v, iN i, u5, u6, u7, u8, u9, u10, u11, u12, u13, u14, u15, u16, u17, undef], []⟩) ∧ (i ≤ ns.length) ∧ (Row V 5 1 v ((encs (ns.take i)).length) (B (encs (ns.take i)))) ∧ (Keeps Nob w V) ∧ (NewFrom w.heap.size v)) (fun a _ => ns.length - (intOf (a.tmps.getD 4 undef)).toNat) (by kernel_rfl) ?_ ?_
  · exact ⟨0, .slice none 0 0, undef, undef, undef, undef, undef, undef, undef, undef, undef, undef, undef, undef, undef, by kernel_rfl, by omega, r0, K0, NewFrom.nil _⟩
  · rintro a V1 ⟨i, v, u5, u6, u7, u8, u9, u10, u11, u12, u13, u14, u15, u16, u17, rfl, hi, h2, K3, hnw⟩
    by_cases lt_i : i < ns.length
    · obtain ⟨x, hx⟩ : ∃ x, ns[i]? = some x := ⟨_, List.getElem?_eq_getElem lt_i⟩
      have hx0 := hns i x hx
      have hbl := encs_len (ns.take i)
      rw [List.length_take] at hbl
      have hen := Cod.enc_length x
      refine sy_sq (part_rmput 232) (part_rmput 233) ?_
      refine sy_sq (part_rmput 464) (part_rmput 465) ?_
      refine sy_reg ?_
      refine rg_plain 3 (opsAt (part_rmput 464)) [0, 1, 2, 3] (by kernel_rfl) (by kernel_rfl) ?_
      refine ps_k (o_rmput 464 0) (iN i) ?_
      refine ps_k (o_rmput 464 1) (.slice (some ⟨g, 0, none⟩) ns.length ns.length) ?_
      refine ps_p (o_rmput 464 2) (iN ns.length) (exec_len (.tmp 6) 122 _ (by kernel_rfl) Try.underlying122 (some ⟨g, 0, none⟩) ns.length ns.length (by kernel_rfl)) ?_
      refine ps_p (o_rmput 464 3) (.bool true) (dct ((((i : Nat) : Int)) < (((ns.length : Nat) : Int))) (by omega)) ?_
      refine ps_end ?_
      refine then_n ?_
      refine sy_ys (.tmp 8) (part_rmput 930) (part_rmput 931) ?_
      refine sy_sk ?_
      refine then_n ?_
      refine sy_sq (part_rmput 466) (part_rmput 467) ?_
      refine sy_bk 1 (part_rmput 932) ?_
      refine sy_reg ?_
      refine rg_plain 5 (opsAt (part_rmput 932)) [0, 1, 2, 3, 4, 5, 6, 7] (by kernel_rfl) (by kernel_rfl) ?_
      refine ps_k (o_rmput 932 0) (v) ?_
      refine ps_k (o_rmput 932 1) (.slice (some ⟨g, 0, none⟩) ns.length ns.length) ?_
      refine ps_k (o_rmput 932 2) (iN i) ?_
      refine ps_p (o_rmput 932 3) (pT g i) (exec_cast (v := pT g (0 + i * 1)) (by simp) (exec_indexAt_slice 122 (.tmp 12) (.tmp 13) (by kernel_rfl) g 0 ns.length ns.length (by kernel_rfl) .i64 i (by kernel_rfl) _ 1 Try.underlying122 (by kernel_rfl) (by omega))) ?_
      refine ps_p (o_rmput 932 4) (uN x) (exec_ld 25 (.tmp 14) g i Try.underlying25 ((cell_of_row _ _ _ _ _ _ ((K3.block g (lt_of_block h0) (fun x => x)).trans h0)).trans (Un_get hx))) ?_
      refine ps_c (o_rmput 932 5) 73 #[uN x] Try.func73 ((rPut_ok x hx0 _).mono ?_)
      rintro e V4 ⟨vp, rfl, hV4, hnvp, hzvp, kV4⟩
      refine ⟨_, rfl, ?_⟩
      have h5 : Row V4 5 1 v ((encs (ns.take i)).length) (B (encs (ns.take i))) := h2.keeps kV4 (fun _ _ x => x)
      have K6 := K3.nn kV4
      have z7 := kV4.size
      obtain ⟨v8, V9, hr10, h11, hg12, hn13, ha14⟩ := run_append_any (P := Try.prog) (w := V4) 22 (Oper.type (o_rmput 932 6)) 5 i0 (.int .u8 0) 1 1 Try.underlying22 hi0 hz0 hz1 hz2 rfl (by decide) v ((encs (ns.take i)).length) (B (encs (ns.take i))) h5 vp ((Cod.enc x).length) (B (Cod.enc x)) (Row.src hV4 (B_one _)) (by unfold maxLen; omega) (by omega)
      have kV9 : Keeps (fun j => v.ownBlock = some j) V4 V9 := Keeps.rowAdd hg12
      have hw15 : NewFrom w.heap.size v8 := hnw.next K6.size ha14
      refine ps_r (o_rmput 932 6) v8 (w' := V9) (exec_append (.tmp 11) (.tmp 16) 22 (by kernel_rfl) v vp (by kernel_rfl) (by kernel_rfl) hr10) ?_
      have h16 : Row V9 5 1 v8 ((encs (ns.take (i + 1))).length) (B (encs (ns.take (i + 1)))) := row_castM h11 (encs_succ hx).symm (by rw [encs_succ hx, List.length_append])
      have K17 : Keeps Nob w V9 := K6.then kV9 (fun i hi hm => absurd hi (by have := hnw i hm; omega))
      have z18 := kV9.size
      refine ps_k (o_rmput 932 7) (v8) ?_
      refine ps_end ?_
      refine blk_n ?_
      refine then_n ?_
      refine sy_reg ?_
      refine rg_plain 4 (opsAt (part_rmput 467)) [0, 1, 2] (by kernel_rfl) (by kernel_rfl) ?_
      refine ps_k (o_rmput 467 0) (iN i) ?_
      refine ps_p (o_rmput 467 1) (iN (i + 1)) (exec_cast (congrArg (Value.int .i64) (wrapN (i + 1) (by omega))) (by kernel_rfl)) ?_
      refine ps_k (o_rmput 467 2) (iN (i + 1)) ?_
      refine ps_end ?_
      refine then_n ?_
      refine ⟨⟨i + 1, v8, (iN i), (.slice (some ⟨g, 0, none⟩) ns.length ns.length), (iN ns.length), (.bool true), (iN i), (iN (i + 1)), v, (.slice (some ⟨g, 0, none⟩) ns.length ns.length), (iN i), (pT g i), (uN x), vp, v8, by kernel_rfl, by omega, h16, K17, hw15⟩, ?_⟩
      exact lt_meas (x := ns.length - (i + 1)) (y := ns.length - i) (by kernel_rfl) (by kernel_rfl) (by omega)
    · have eq_i : i = ns.length := by omega
      refine sy_sq (part_rmput 232) (part_rmput 233) ?_
      refine sy_sq (part_rmput 464) (part_rmput 465) ?_
      refine sy_reg ?_
      refine rg_plain 3 (opsAt (part_rmput 464)) [0, 1, 2, 3] (by kernel_rfl) (by kernel_rfl) ?_
      refine ps_k (o_rmput 464 0) (iN i) ?_
      refine ps_k (o_rmput 464 1) (.slice (some ⟨g, 0, none⟩) ns.length ns.length) ?_
      refine ps_p (o_rmput 464 2) (iN ns.length) (exec_len (.tmp 6) 122 _ (by kernel_rfl) Try.underlying122 (some ⟨g, 0, none⟩) ns.length ns.length (by kernel_rfl)) ?_
      refine ps_p (o_rmput 464 3) (.bool false) (dcf ((((i : Nat) : Int)) < (((ns.length : Nat) : Int))) (by omega)) ?_
      refine ps_end ?_
      refine then_n ?_
      refine sy_n (.tmp 8) (part_rmput 930) (part_rmput 931) ?_
      refine sy_exit 0 (by kernel_rfl) ?_
      refine then_e ?_
      refine then_e ?_
      refine blk_e ?_
      refine then_n ?_
      refine sy_sq (part_rmput 30) (part_rmput 31) ?_
      refine sy_reg ?_
      refine rg_plain 6 (opsAt (part_rmput 30)) [0, 1] (by kernel_rfl) (by kernel_rfl) ?_
      refine ps_k (o_rmput 30 0) (v) ?_
      refine ps_k (o_rmput 30 1) (v) ?_
      refine ps_end ?_
      refine then_n ?_
      refine sy_ret (by kernel_rfl) ?_
      refine sy_out (v) rfl (by kernel_rfl) ?_
      exact ⟨_, rfl, row_end h2 eq_i, hnw, K3⟩
theorem rmput_1 (g : Nat) (x0 : Nat) (w : World) (h0 : w.heap[g]? = some (.cells #[.int .u64 ((x0 : Nat) : Int)] 25 (0, 0))) (lx0 : x0 < 2 ^ 64) : Calls Try.prog 50 #[.slice (some ⟨g, 0, none⟩) 1 1] w (fun e w' => ∃ X, e = .returned X ∧ Row w' 5 1 X (encs [x0]).length (B (encs [x0])) ∧ NewFrom w.heap.size X ∧ Keeps Nob w w') :=
      rmput_ok g [x0] w h0 (fun k x h => by match k, h with | 0, h => cases h; exact lx0 | k + 1, h => cases h) (by simp)
theorem rmput_2 (g : Nat) (x0 x1 : Nat) (w : World) (h0 : w.heap[g]? = some (.cells #[.int .u64 ((x0 : Nat) : Int), .int .u64 ((x1 : Nat) : Int)] 25 (0, 0))) (lx0 : x0 < 2 ^ 64) (lx1 : x1 < 2 ^ 64) : Calls Try.prog 50 #[.slice (some ⟨g, 0, none⟩) 2 2] w (fun e w' => ∃ X, e = .returned X ∧ Row w' 5 1 X (encs [x0, x1]).length (B (encs [x0, x1])) ∧ NewFrom w.heap.size X ∧ Keeps Nob w w') :=
      rmput_ok g [x0, x1] w h0 (fun k x h => by match k, h with | 0, h => cases h; exact lx0 | 1, h => cases h; exact lx1 | k + 2, h => cases h) (by simp)
theorem rmput_4 (g : Nat) (x0 x1 x2 x3 : Nat) (w : World) (h0 : w.heap[g]? = some (.cells #[.int .u64 ((x0 : Nat) : Int), .int .u64 ((x1 : Nat) : Int), .int .u64 ((x2 : Nat) : Int), .int .u64 ((x3 : Nat) : Int)] 25 (0, 0))) (lx0 : x0 < 2 ^ 64) (lx1 : x1 < 2 ^ 64) (lx2 : x2 < 2 ^ 64) (lx3 : x3 < 2 ^ 64) : Calls Try.prog 50 #[.slice (some ⟨g, 0, none⟩) 4 4] w (fun e w' => ∃ X, e = .returned X ∧ Row w' 5 1 X (encs [x0, x1, x2, x3]).length (B (encs [x0, x1, x2, x3])) ∧ NewFrom w.heap.size X ∧ Keeps Nob w w') :=
      rmput_ok g [x0, x1, x2, x3] w h0 (fun k x h => by match k, h with | 0, h => cases h; exact lx0 | 1, h => cases h; exact lx1 | 2, h => cases h; exact lx2 | 3, h => cases h; exact lx3 | k + 4, h => cases h) (by simp)
end Go.Proofs.Ytmapcghgdbfmhaa
