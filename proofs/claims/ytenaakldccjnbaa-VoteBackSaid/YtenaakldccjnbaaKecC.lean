/-
  Keccak: the constants, the permutation (printed by kec2.py). Conditions: none.
-/
import Derived.Test.YtenaakldccjnbaaKecB
import Derived.Test.YtenaakldccjnbaaSymIn
import Derived.Lib.Hide
import Derived.Sort.LoopGhostIn
import Derived.Laws.EntriesVeiled
namespace Go.Proofs.Ytenaakldccjnbaa
open Go Go.RowKit Go.Own Go.Shelf
attribute [local go_sem] Oper.semAt_some

set_option maxRecDepth 100000 in
set_option maxHeartbeats 1000000 in
theorem kregister_ok (w : World) : Calls Try.prog 118 #[] w fun e w' => e = .returned (.func (.func 119) #[] #[]) ∧ w = w' := by
  go_enter Try.func118, Try.ntmps118
  go_wp2
  go_ret
  exact ⟨rfl, rfl⟩
theorem reg_and1 (k : Nat) : bits .and .u64 ((Kec.regn k : Nat) : Int) 1 = ((Kec.bitn k : Nat) : Int) := u64_and_nat (Kec.regn k) 1 (by have := Kec.regn_lt k; omega) (by decide)
theorem reg_and255 (m : Nat) (h : m < 512) : bits .and .u64 ((m : Nat) : Int) 255 = ((m &&& 255 : Nat) : Int) := u64_and_nat m 255 (by omega) (by decide)
theorem reg_xor113 (m : Nat) (h : m < 256) : bits .xor .u64 ((m : Nat) : Int) 113 = ((m ^^^ 113 : Nat) : Int) := u64_xor_nat m 113 (by omega) (by decide)

/-- The bits of the register, of which the caller takes n. -/
theorem kregister_seq (n : Nat) (hn : 1 ≤ n) (m : Nat) :
    SeqOwnG True Fence.wide n Try.prog 119 #[] (fun x : Nat => #[.int .u64 (x : Int)]) ((List.range m).map Kec.bitn) Nob (fun _ _ => True) := by
  intro l J Jx W0 hJ hJx hY hE h0 _
  have HY := Lib.hid hY; clear hY
  have HE := Lib.hid (hE trivial); clear hE
  refine callsIn_of_wp Try.func119 rfl trivial ?_ rfl
  simp only [Try.ntmps119, List.size_toArray, List.length_cons, List.length_nil, Nat.reduceAdd, Nat.reduceSub, Array.replicate_succ, Array.replicate_zero, List.push_toArray, List.append_toArray, List.nil_append, List.cons_append]
  gi_wp2_with fail
  gi_loopg [2] m (fun g e wr => ∃ k : Nat, k ≤ m ∧ g = m - k ∧ e = .int .u64 ((Kec.regn k : Nat) : Int) ∧ J k wr)
  case atStart => exact ⟨0, by omega, by omega, rfl, h0⟩
  case round =>
    obtain ⟨k, hk, hg, rfl, hj⟩ := hrel
    by_cases hlt : k < m
    · have hget : ((List.range m).map Kec.bitn)[k]? = some (Kec.bitn k) := by simp [hlt]
      obtain ⟨fn, tmps, assign, body, hy, hR⟩ := HY.out k _ wr hget hj trivial
      have hb := reg_and1 k
      have hr := Kec.regn_lt k
      have hn2 : Kec.regn (k + 1) = if 256 ≤ 2 * Kec.regn k then ((2 * Kec.regn k) &&& 255) ^^^ 113 else 2 * Kec.regn k := rfl
      have HN := Lib.hid hn2
      clear hn2 hget
      generalize Kec.regn k = r at *
      generalize Kec.bitn k = bt at *
      gi_wp2_with fail
      refine hR.mono ?_
      rintro e W3 (⟨rfl, hj3, _⟩ | ⟨rfl, hx3⟩)
      · by_cases h256 : 256 ≤ 2 * r
        · have d1 : decide ((256 : Int) ≤ (r : Int) * 2) = true := by simp; omega
          have e1 := reg_and255 (2 * r) (by omega)
          have e2 : (2 * r) &&& 255 < 2 ^ 8 := Nat.and_lt_two_pow _ (by decide)
          have e3 := reg_xor113 ((2 * r) &&& 255) e2
          rw [show ((2 * r : Nat) : Int) = (r : Int) * 2 by omega] at e1
          have w1 : IntKind.u64.wrap ((r : Int) * 2) = (r : Int) * 2 := by rw [show (r : Int) * 2 = ((2 * r : Nat) : Int) by omega]; exact wrapU _ (by omega)
          clear e2
          gi_wp2_with fail
          gi_roundg (m - (k + 1))
          case measure => omega
          case rel => exact ⟨k + 1, by omega, rfl, by rw [HN.out, if_pos h256], hj3⟩
        · have d1 : decide ((256 : Int) ≤ (r : Int) * 2) = false := by simp; omega
          have w1 : IntKind.u64.wrap ((r : Int) * 2) = (r : Int) * 2 := by rw [show (r : Int) * 2 = ((2 * r : Nat) : Int) by omega]; exact wrapU _ (by omega)
          gi_wp2_with fail
          gi_roundg (m - (k + 1))
          case measure => omega
          case rel => exact ⟨k + 1, by omega, rfl, by rw [HN.out, if_neg h256]; congr 1; omega, hj3⟩
      · gi_wp2
        go_end0
        exact ⟨⟨_, rfl⟩, .inr hx3⟩
    · exfalso
      have : k = m := by omega
      subst this
      exact HE.out wr (by simpa using hj)


theorem shl1 (j : Nat) (h : j < 7) : (1 <<< j) % Kec.W = 1 <<< j ∧ 1 <<< j ≤ 64 ∧ 1 ≤ 1 <<< j := by
  have : ∀ j : Fin 7, (1 <<< j.val) % Kec.W = 1 <<< j.val ∧ 1 <<< j.val ≤ 64 ∧ 1 ≤ 1 <<< j.val := by decide
  exact this ⟨j, h⟩

noncomputable def part_kconstants (n : Nat) : Code := partOf Try.f113 n
noncomputable abbrev o_kconstants (n k : Nat) : Oper := (opsAt (part_kconstants n)).getD k default
set_option maxRecDepth 100000 in
set_option maxHeartbeats 4000000 in
theorem kconst_more {l N : Nat} {u0 u4 u6 u7 u8 u9 u10 u11 u12 u13 u14 u15 u16 u17 u18 u19 u20 u21 u22 : Value} (k x go gs : Nat) (hx : x < Kec.W) (hxk : x = Kec.bitn k) (hlt : k < 168) (h168 : k + 1 ≠ 168) (hne : go ≠ gs) (w : World) (Q : Exit → Act → World → Prop) (hL : ¬ LetsOut Q) (hgo : w.heap[go]? = some (.cells (Wz (Kec.outn k)) 135 (0, 0))) (hgs : w.heap[gs]? = some (.cells #[.int .i64 ((k : Nat) : Int)] 3 (0, 0))) (hQ : ∀ a W, W.heap[go]? = some (.cells (Wz (Kec.outn (k + 1))) 135 (0, 0)) → W.heap[gs]? = some (.cells #[.int .i64 ((k + 1 : Nat) : Int)] 3 (0, 0)) → Keeps (fun j => j = go ∨ j = gs) w W → Q .normal a W) :
    (part_kconstants 245).wpIn (Fence.wide.inRound l) N Try.prog Q ⟨#[u0, .pointer (some ⟨go, 0, none⟩), .pointer (some ⟨gs, 0, none⟩), .int .u64 ((x : Nat) : Int), u4, .int .u64 ((x : Nat) : Int), u6, u7, u8, u9, u10, u11, u12, u13, u14, u15, u16, u17, u18, u19, u20, u21, u22], []⟩ w := by
  have s1 := shl1 (k % 7) (by omega)
  obtain ⟨_, s2, s3⟩ := s1
  have K0 : Keeps ((fun j => j = go ∨ j = gs)) w w := Keeps.refl _ _
  refine syI_block 1 (part_kconstants 490) (by kernel_rfl) ?_
  refine syI_seq (part_kconstants 980) (part_kconstants 981) (by kernel_rfl) ?_
  refine syI_reg (by kernel_rfl) (fun ⟨a, w, h⟩ => hL ⟨a, w, h⟩) ?_
  refine rg_still 5 12 (opsAt (part_kconstants 980)) [o_kconstants 980 0, o_kconstants 980 1, o_kconstants 980 2, o_kconstants 980 3, o_kconstants 980 4, o_kconstants 980 5, o_kconstants 980 6, o_kconstants 980 7, o_kconstants 980 8, o_kconstants 980 9, o_kconstants 980 10, o_kconstants 980 11] [o_kconstants 980 12] (by kernel_rfl) (by kernel_rfl) (by kernel_rfl) (by kernel_rfl) (by kernel_rfl) ?_
  obtain ⟨V2, eV2, kV2⟩ := drew_step w
  rw [eV2]
  clear eV2
  have h3 := kV2.bk hgo
  have h4 := kV2.bk hgs
  have K5 := K0.nn kV2
  refine st_p (o_kconstants 980 0) (iN k) (exec_ld 3 (.tmp 2) gs 0 Try.underlying3 (rc (h4) (by kernel_rfl))) ?_
  refine st_p (o_kconstants 980 1) (iN (k / 7)) (exec_cast (congrArg (Value.int .i64) (wrapN (k / 7) (by omega))) (by kernel_rfl)) ?_
  refine st_p (o_kconstants 980 2) (.pointer (some ⟨go, k / 7, none⟩)) (exec_cast (v := .pointer (some ⟨go, 0 + (k / 7) * 1, none⟩)) (by simp) (exec_indexAt_arr 135 (.tmp 1) (.tmp 7) (by kernel_rfl) go 0 (by kernel_rfl) .i64 (k / 7) (by kernel_rfl) _ _ 1 Try.underlying135 (by kernel_rfl) (by omega))) ?_
  refine st_p (o_kconstants 980 3) (uN (Kec.g (Kec.outn k) (k / 7))) (exec_ld 27 (.tmp 8) go (k / 7) Try.underlying27 (rc (h3) (Wz_get _ (k / 7) (by rw [Kec.outn_len]; omega)))) ?_
  refine st_k (o_kconstants 980 4) (uN x) ?_
  refine st_p (o_kconstants 980 5) (iN k) (exec_ld 3 (.tmp 2) gs 0 Try.underlying3 (rc (h4) (by kernel_rfl))) ?_
  refine st_k (o_kconstants 980 6) (iN (k % 7)) ?_
  refine st_p (o_kconstants 980 7) (uN (1 <<< (k % 7))) (exec_cast (congrArg (fun n : Nat => Value.int .u64 (n : Int)) (shl1 (k % 7) (by omega)).1) (exec_binop .shl 125 3 (.const (.int .u64 1)) (.tmp 12) (by kernel_rfl) (uN 1) (iN (k % 7)) _ (by kernel_rfl) (by kernel_rfl) (by kernel_rfl) (run_shlU _ _ 1 (k % 7) (by omega)))) ?_
  refine st_p (o_kconstants 980 8) (uN (1 <<< (k % 7) - 1)) (exec_cast (v := .int .u64 (IntKind.u64.wrap (((1 <<< (k % 7) : Nat) : Int) - 1))) (congrArg (Value.int .u64) (by rw [show ((1 <<< (k % 7) : Nat) : Int) - (1 : Int) = ((1 <<< (k % 7) - 1 : Nat) : Int) by omega]; exact wrapU _ (by omega))) (by kernel_rfl)) ?_
  refine st_p (o_kconstants 980 9) (uN ((x <<< (1 <<< (k % 7) - 1)) % Kec.W)) (exec_binop .shl 27 125 (.tmp 10) (.tmp 14) (by kernel_rfl) (uN x) (uN (1 <<< (k % 7) - 1)) _ (by kernel_rfl) (by kernel_rfl) (by kernel_rfl) (run_shlU _ _ x _ (by omega))) ?_
  refine st_p (o_kconstants 980 10) (uN ((Kec.g (Kec.outn k) (k / 7)) ||| ((x <<< (1 <<< (k % 7) - 1)) % Kec.W))) (exec_cast (orU (Kec.g (Kec.outn k) (k / 7)) ((x <<< (1 <<< (k % 7) - 1)) % Kec.W) (Kec.ws_outn _ _) (Nat.mod_lt _ Kec.W_pos)) (by kernel_rfl)) ?_
  refine st_p (o_kconstants 980 11) (.pointer (some ⟨go, k / 7, none⟩)) (exec_cast (v := .pointer (some ⟨go, 0 + (k / 7) * 1, none⟩)) (by simp) (exec_indexAt_arr 135 (.tmp 1) (.tmp 7) (by kernel_rfl) go 0 (by kernel_rfl) .i64 (k / 7) (by kernel_rfl) _ _ 1 Try.underlying135 (by kernel_rfl) (by omega))) ?_
  refine st_end ?_
  obtain ⟨V6, eV6, kV6⟩ := cell_step V2 go (k / 7) (.int .u64 (((Kec.g (Kec.outn k) (k / 7)) ||| ((x <<< (1 <<< (k % 7) - 1)) % Kec.W) : Nat) : Int))
  have h7 : V6.heap[go]? = some (.cells (Wz (Kec.outn (k + 1))) 135 (0, 0)) := eV6 ▸ ((heap_setCell_same _ go (k / 7) _ _ (.int .u64 (((Kec.g (Kec.outn k) (k / 7)) ||| ((x <<< (1 <<< (k % 7) - 1)) % Kec.W) : Nat) : Int)) h3).trans (congrArg (fun c => some (Obj.cells c 135 (0, 0))) (show (Wz (Kec.outn k) : Array Value).setIfInBounds (k / 7) (.int .u64 (((Kec.g (Kec.outn k) (k / 7)) ||| ((x <<< (1 <<< (k % 7) - 1)) % Kec.W) : Nat) : Int)) = Wz (Kec.outn (k + 1)) from by rw [Wz_set]; exact congrArg Wz (by subst hxk; rfl))))
  refine ls_skip (o_kconstants 980 12) (w' := V6) (by kernel_rfl) (by rw [← eV6]; exact exec_store_cell 27 (.tmp 17) (.tmp 16) (by kernel_rfl) go (k / 7) (by kernel_rfl) (.int .u64 (((Kec.g (Kec.outn k) (k / 7)) ||| ((x <<< (1 <<< (k % 7) - 1)) % Kec.W) : Nat) : Int)) (by kernel_rfl) (by kernel_rfl) (by kernel_rfl) (.int .u64 ((Kec.g (Kec.outn k) (k / 7) : Nat) : Int)) (rc (h3) (Wz_get _ (k / 7) (by rw [Kec.outn_len]; omega))) (frozen_of_row _ _ _ _ _ h3) (by kernel_rfl)) ?_
  clear eV6
  have h8 := kV6.bo h4 (by omega)
  have K9 : Keeps ((fun j => j = go ∨ j = gs)) w V6 := K5.then kV6 (fun i hi hm => by unfold Own.One at hm; subst hm; exact .inl rfl)
  refine ls_end ?_
  refine sy_a ⟨#[u0, pT go 0, pT gs 0, uN x, u4, uN x, iN k, iN (k / 7), .pointer (some ⟨go, k / 7, none⟩), uN (Kec.g (Kec.outn k) (k / 7)), uN x, iN k, iN (k % 7), uN (1 <<< (k % 7)), uN (1 <<< (k % 7) - 1), uN ((x <<< (1 <<< (k % 7) - 1)) % Kec.W), uN ((Kec.g (Kec.outn k) (k / 7)) ||| ((x <<< (1 <<< (k % 7) - 1)) % Kec.W)), .pointer (some ⟨go, k / 7, none⟩), u18, u19, u20, u21, u22], []⟩ ?_
  refine then_n ?_
  refine syI_seq (part_kconstants 1962) (part_kconstants 1963) (by kernel_rfl) ?_
  refine syI_reg (by kernel_rfl) (fun ⟨a, w, h⟩ => hL ⟨a, w, h⟩) ?_
  refine rg_plain 6 (opsAt (part_kconstants 1962)) [0, 1, 2] (by kernel_rfl) (by kernel_rfl) ?_
  refine ps_p (o_kconstants 1962 0) (iN k) (exec_ld 3 (.tmp 2) gs 0 Try.underlying3 (rc (h8) (by kernel_rfl))) ?_
  refine ps_p (o_kconstants 1962 1) (iN (k + 1)) (exec_cast (congrArg (Value.int .i64) (wrapN (k + 1) (by omega))) (by kernel_rfl)) ?_
  obtain ⟨V10, eV10, kV10⟩ := cell_step V6 gs 0 (.int .i64 ((k + 1 : Nat) : Int))
  have h11 : V10.heap[gs]? = some (.cells (#[.int .i64 ((k + 1 : Nat) : Int)]) 3 (0, 0)) := eV10 ▸ ((heap_setCell_same _ gs 0 _ _ (.int .i64 ((k + 1 : Nat) : Int)) h8).trans (congrArg (fun c => some (Obj.cells c 3 (0, 0))) (show (#[.int .i64 ((k : Nat) : Int)] : Array Value).setIfInBounds 0 (.int .i64 ((k + 1 : Nat) : Int)) = #[.int .i64 ((k + 1 : Nat) : Int)] from by kernel_rfl)))
  refine ps_s (o_kconstants 1962 2) (w' := V10) (by rw [← eV10]; exact exec_store_cell 3 (.tmp 2) (.tmp 19) (by kernel_rfl) gs 0 (by kernel_rfl) (iN (k + 1)) (by kernel_rfl) (by kernel_rfl) (by kernel_rfl) (iN k) (rc (h8) (by kernel_rfl)) (frozen_of_row _ _ _ _ _ h8) (by kernel_rfl)) ?_
  clear eV10
  have h12 := kV10.bo h7 (by omega)
  have K13 : Keeps ((fun j => j = go ∨ j = gs)) w V10 := K9.then kV10 (fun i hi hm => by unfold Own.One at hm; subst hm; exact .inr rfl)
  refine ps_end ?_
  refine sy_a ⟨#[u0, pT go 0, pT gs 0, uN x, u4, uN x, iN k, iN (k / 7), .pointer (some ⟨go, k / 7, none⟩), uN (Kec.g (Kec.outn k) (k / 7)), uN x, iN k, iN (k % 7), uN (1 <<< (k % 7)), uN (1 <<< (k % 7) - 1), uN ((x <<< (1 <<< (k % 7) - 1)) % Kec.W), uN ((Kec.g (Kec.outn k) (k / 7)) ||| ((x <<< (1 <<< (k % 7) - 1)) % Kec.W)), .pointer (some ⟨go, k / 7, none⟩), iN k, iN (k + 1), u20, u21, u22], []⟩ ?_
  refine then_n ?_
  refine syI_seq (part_kconstants 3926) (part_kconstants 3927) (by kernel_rfl) ?_
  refine syI_reg (by kernel_rfl) (fun ⟨a, w, h⟩ => hL ⟨a, w, h⟩) ?_
  refine rg_plain 7 (opsAt (part_kconstants 3926)) [0, 1] (by kernel_rfl) (by kernel_rfl) ?_
  refine ps_p (o_kconstants 3926 0) (iN (k + 1)) (exec_ld 3 (.tmp 2) gs 0 Try.underlying3 (rc (h11) (by kernel_rfl))) ?_
  refine ps_p (o_kconstants 3926 1) (.bool false) (eqf (((k + 1 : Nat) : Int)) ((168) : Int) (by omega)) ?_
  refine ps_end ?_
  refine sy_a ⟨#[u0, pT go 0, pT gs 0, uN x, u4, uN x, iN k, iN (k / 7), .pointer (some ⟨go, k / 7, none⟩), uN (Kec.g (Kec.outn k) (k / 7)), uN x, iN k, iN (k % 7), uN (1 <<< (k % 7)), uN (1 <<< (k % 7) - 1), uN ((x <<< (1 <<< (k % 7) - 1)) % Kec.W), uN ((Kec.g (Kec.outn k) (k / 7)) ||| ((x <<< (1 <<< (k % 7) - 1)) % Kec.W)), .pointer (some ⟨go, k / 7, none⟩), iN k, iN (k + 1), iN (k + 1), .bool false, u22], []⟩ ?_
  refine then_n ?_
  refine syI_no (.tmp 21) (part_kconstants 7854) (part_kconstants 7855) (by kernel_rfl) (by kernel_rfl) ?_
  refine syI_skip (by kernel_rfl) ?_
  refine blk_n ?_
  exact hQ _ _ h12 h11 K13
set_option maxRecDepth 100000 in
set_option maxHeartbeats 4000000 in
theorem kconst_last {l N : Nat} {u0 u4 u6 u7 u8 u9 u10 u11 u12 u13 u14 u15 u16 u17 u18 u19 u20 u21 u22 : Value} (k x go gs : Nat) (hx : x < Kec.W) (hxk : x = Kec.bitn k) (hlt : k < 168) (h168 : k + 1 = 168) (hne : go ≠ gs) (w : World) (Q : Exit → Act → World → Prop) (hL : ¬ LetsOut Q) (hgo : w.heap[go]? = some (.cells (Wz (Kec.outn k)) 135 (0, 0))) (hgs : w.heap[gs]? = some (.cells #[.int .i64 ((k : Nat) : Int)] 3 (0, 0))) (hQ : ∀ a W, W.heap[go]? = some (.cells (Wz (Kec.outn (k + 1))) 135 (0, 0)) → W.heap[gs]? = some (.cells #[.int .i64 ((k + 1 : Nat) : Int)] 3 (0, 0)) → Keeps (fun j => j = go ∨ j = gs) w W → Q (.exit 0) a W) :
    (part_kconstants 245).wpIn (Fence.wide.inRound l) N Try.prog Q ⟨#[u0, .pointer (some ⟨go, 0, none⟩), .pointer (some ⟨gs, 0, none⟩), .int .u64 ((x : Nat) : Int), u4, .int .u64 ((x : Nat) : Int), u6, u7, u8, u9, u10, u11, u12, u13, u14, u15, u16, u17, u18, u19, u20, u21, u22], []⟩ w := by
  have s1 := shl1 (k % 7) (by omega)
  obtain ⟨_, s2, s3⟩ := s1
  have K0 : Keeps ((fun j => j = go ∨ j = gs)) w w := Keeps.refl _ _
  refine syI_block 1 (part_kconstants 490) (by kernel_rfl) ?_
  refine syI_seq (part_kconstants 980) (part_kconstants 981) (by kernel_rfl) ?_
  refine syI_reg (by kernel_rfl) (fun ⟨a, w, h⟩ => hL ⟨a, w, h⟩) ?_
  refine rg_still 5 12 (opsAt (part_kconstants 980)) [o_kconstants 980 0, o_kconstants 980 1, o_kconstants 980 2, o_kconstants 980 3, o_kconstants 980 4, o_kconstants 980 5, o_kconstants 980 6, o_kconstants 980 7, o_kconstants 980 8, o_kconstants 980 9, o_kconstants 980 10, o_kconstants 980 11] [o_kconstants 980 12] (by kernel_rfl) (by kernel_rfl) (by kernel_rfl) (by kernel_rfl) (by kernel_rfl) ?_
  obtain ⟨V15, eV15, kV15⟩ := drew_step w
  rw [eV15]
  clear eV15
  have h16 := kV15.bk hgo
  have h17 := kV15.bk hgs
  have K18 := K0.nn kV15
  refine st_p (o_kconstants 980 0) (iN k) (exec_ld 3 (.tmp 2) gs 0 Try.underlying3 (rc (h17) (by kernel_rfl))) ?_
  refine st_p (o_kconstants 980 1) (iN (k / 7)) (exec_cast (congrArg (Value.int .i64) (wrapN (k / 7) (by omega))) (by kernel_rfl)) ?_
  refine st_p (o_kconstants 980 2) (.pointer (some ⟨go, k / 7, none⟩)) (exec_cast (v := .pointer (some ⟨go, 0 + (k / 7) * 1, none⟩)) (by simp) (exec_indexAt_arr 135 (.tmp 1) (.tmp 7) (by kernel_rfl) go 0 (by kernel_rfl) .i64 (k / 7) (by kernel_rfl) _ _ 1 Try.underlying135 (by kernel_rfl) (by omega))) ?_
  refine st_p (o_kconstants 980 3) (uN (Kec.g (Kec.outn k) (k / 7))) (exec_ld 27 (.tmp 8) go (k / 7) Try.underlying27 (rc (h16) (Wz_get _ (k / 7) (by rw [Kec.outn_len]; omega)))) ?_
  refine st_k (o_kconstants 980 4) (uN x) ?_
  refine st_p (o_kconstants 980 5) (iN k) (exec_ld 3 (.tmp 2) gs 0 Try.underlying3 (rc (h17) (by kernel_rfl))) ?_
  refine st_k (o_kconstants 980 6) (iN (k % 7)) ?_
  refine st_p (o_kconstants 980 7) (uN (1 <<< (k % 7))) (exec_cast (congrArg (fun n : Nat => Value.int .u64 (n : Int)) (shl1 (k % 7) (by omega)).1) (exec_binop .shl 125 3 (.const (.int .u64 1)) (.tmp 12) (by kernel_rfl) (uN 1) (iN (k % 7)) _ (by kernel_rfl) (by kernel_rfl) (by kernel_rfl) (run_shlU _ _ 1 (k % 7) (by omega)))) ?_
  refine st_p (o_kconstants 980 8) (uN (1 <<< (k % 7) - 1)) (exec_cast (v := .int .u64 (IntKind.u64.wrap (((1 <<< (k % 7) : Nat) : Int) - 1))) (congrArg (Value.int .u64) (by rw [show ((1 <<< (k % 7) : Nat) : Int) - (1 : Int) = ((1 <<< (k % 7) - 1 : Nat) : Int) by omega]; exact wrapU _ (by omega))) (by kernel_rfl)) ?_
  refine st_p (o_kconstants 980 9) (uN ((x <<< (1 <<< (k % 7) - 1)) % Kec.W)) (exec_binop .shl 27 125 (.tmp 10) (.tmp 14) (by kernel_rfl) (uN x) (uN (1 <<< (k % 7) - 1)) _ (by kernel_rfl) (by kernel_rfl) (by kernel_rfl) (run_shlU _ _ x _ (by omega))) ?_
  refine st_p (o_kconstants 980 10) (uN ((Kec.g (Kec.outn k) (k / 7)) ||| ((x <<< (1 <<< (k % 7) - 1)) % Kec.W))) (exec_cast (orU (Kec.g (Kec.outn k) (k / 7)) ((x <<< (1 <<< (k % 7) - 1)) % Kec.W) (Kec.ws_outn _ _) (Nat.mod_lt _ Kec.W_pos)) (by kernel_rfl)) ?_
  refine st_p (o_kconstants 980 11) (.pointer (some ⟨go, k / 7, none⟩)) (exec_cast (v := .pointer (some ⟨go, 0 + (k / 7) * 1, none⟩)) (by simp) (exec_indexAt_arr 135 (.tmp 1) (.tmp 7) (by kernel_rfl) go 0 (by kernel_rfl) .i64 (k / 7) (by kernel_rfl) _ _ 1 Try.underlying135 (by kernel_rfl) (by omega))) ?_
  refine st_end ?_
  obtain ⟨V19, eV19, kV19⟩ := cell_step V15 go (k / 7) (.int .u64 (((Kec.g (Kec.outn k) (k / 7)) ||| ((x <<< (1 <<< (k % 7) - 1)) % Kec.W) : Nat) : Int))
  have h20 : V19.heap[go]? = some (.cells (Wz (Kec.outn (k + 1))) 135 (0, 0)) := eV19 ▸ ((heap_setCell_same _ go (k / 7) _ _ (.int .u64 (((Kec.g (Kec.outn k) (k / 7)) ||| ((x <<< (1 <<< (k % 7) - 1)) % Kec.W) : Nat) : Int)) h16).trans (congrArg (fun c => some (Obj.cells c 135 (0, 0))) (show (Wz (Kec.outn k) : Array Value).setIfInBounds (k / 7) (.int .u64 (((Kec.g (Kec.outn k) (k / 7)) ||| ((x <<< (1 <<< (k % 7) - 1)) % Kec.W) : Nat) : Int)) = Wz (Kec.outn (k + 1)) from by rw [Wz_set]; exact congrArg Wz (by subst hxk; rfl))))
  refine ls_skip (o_kconstants 980 12) (w' := V19) (by kernel_rfl) (by rw [← eV19]; exact exec_store_cell 27 (.tmp 17) (.tmp 16) (by kernel_rfl) go (k / 7) (by kernel_rfl) (.int .u64 (((Kec.g (Kec.outn k) (k / 7)) ||| ((x <<< (1 <<< (k % 7) - 1)) % Kec.W) : Nat) : Int)) (by kernel_rfl) (by kernel_rfl) (by kernel_rfl) (.int .u64 ((Kec.g (Kec.outn k) (k / 7) : Nat) : Int)) (rc (h16) (Wz_get _ (k / 7) (by rw [Kec.outn_len]; omega))) (frozen_of_row _ _ _ _ _ h16) (by kernel_rfl)) ?_
  clear eV19
  have h21 := kV19.bo h17 (by omega)
  have K22 : Keeps ((fun j => j = go ∨ j = gs)) w V19 := K18.then kV19 (fun i hi hm => by unfold Own.One at hm; subst hm; exact .inl rfl)
  refine ls_end ?_
  refine sy_a ⟨#[u0, pT go 0, pT gs 0, uN x, u4, uN x, iN k, iN (k / 7), .pointer (some ⟨go, k / 7, none⟩), uN (Kec.g (Kec.outn k) (k / 7)), uN x, iN k, iN (k % 7), uN (1 <<< (k % 7)), uN (1 <<< (k % 7) - 1), uN ((x <<< (1 <<< (k % 7) - 1)) % Kec.W), uN ((Kec.g (Kec.outn k) (k / 7)) ||| ((x <<< (1 <<< (k % 7) - 1)) % Kec.W)), .pointer (some ⟨go, k / 7, none⟩), u18, u19, u20, u21, u22], []⟩ ?_
  refine then_n ?_
  refine syI_seq (part_kconstants 1962) (part_kconstants 1963) (by kernel_rfl) ?_
  refine syI_reg (by kernel_rfl) (fun ⟨a, w, h⟩ => hL ⟨a, w, h⟩) ?_
  refine rg_plain 6 (opsAt (part_kconstants 1962)) [0, 1, 2] (by kernel_rfl) (by kernel_rfl) ?_
  refine ps_p (o_kconstants 1962 0) (iN k) (exec_ld 3 (.tmp 2) gs 0 Try.underlying3 (rc (h21) (by kernel_rfl))) ?_
  refine ps_p (o_kconstants 1962 1) (iN (k + 1)) (exec_cast (congrArg (Value.int .i64) (wrapN (k + 1) (by omega))) (by kernel_rfl)) ?_
  obtain ⟨V23, eV23, kV23⟩ := cell_step V19 gs 0 (.int .i64 ((k + 1 : Nat) : Int))
  have h24 : V23.heap[gs]? = some (.cells (#[.int .i64 ((k + 1 : Nat) : Int)]) 3 (0, 0)) := eV23 ▸ ((heap_setCell_same _ gs 0 _ _ (.int .i64 ((k + 1 : Nat) : Int)) h21).trans (congrArg (fun c => some (Obj.cells c 3 (0, 0))) (show (#[.int .i64 ((k : Nat) : Int)] : Array Value).setIfInBounds 0 (.int .i64 ((k + 1 : Nat) : Int)) = #[.int .i64 ((k + 1 : Nat) : Int)] from by kernel_rfl)))
  refine ps_s (o_kconstants 1962 2) (w' := V23) (by rw [← eV23]; exact exec_store_cell 3 (.tmp 2) (.tmp 19) (by kernel_rfl) gs 0 (by kernel_rfl) (iN (k + 1)) (by kernel_rfl) (by kernel_rfl) (by kernel_rfl) (iN k) (rc (h21) (by kernel_rfl)) (frozen_of_row _ _ _ _ _ h21) (by kernel_rfl)) ?_
  clear eV23
  have h25 := kV23.bo h20 (by omega)
  have K26 : Keeps ((fun j => j = go ∨ j = gs)) w V23 := K22.then kV23 (fun i hi hm => by unfold Own.One at hm; subst hm; exact .inr rfl)
  refine ps_end ?_
  refine sy_a ⟨#[u0, pT go 0, pT gs 0, uN x, u4, uN x, iN k, iN (k / 7), .pointer (some ⟨go, k / 7, none⟩), uN (Kec.g (Kec.outn k) (k / 7)), uN x, iN k, iN (k % 7), uN (1 <<< (k % 7)), uN (1 <<< (k % 7) - 1), uN ((x <<< (1 <<< (k % 7) - 1)) % Kec.W), uN ((Kec.g (Kec.outn k) (k / 7)) ||| ((x <<< (1 <<< (k % 7) - 1)) % Kec.W)), .pointer (some ⟨go, k / 7, none⟩), iN k, iN (k + 1), u20, u21, u22], []⟩ ?_
  refine then_n ?_
  refine syI_seq (part_kconstants 3926) (part_kconstants 3927) (by kernel_rfl) ?_
  refine syI_reg (by kernel_rfl) (fun ⟨a, w, h⟩ => hL ⟨a, w, h⟩) ?_
  refine rg_plain 7 (opsAt (part_kconstants 3926)) [0, 1] (by kernel_rfl) (by kernel_rfl) ?_
  refine ps_p (o_kconstants 3926 0) (iN (k + 1)) (exec_ld 3 (.tmp 2) gs 0 Try.underlying3 (rc (h24) (by kernel_rfl))) ?_
  refine ps_p (o_kconstants 3926 1) (.bool true) (eqt (((k + 1 : Nat) : Int)) ((168) : Int) (by omega)) ?_
  refine ps_end ?_
  refine sy_a ⟨#[u0, pT go 0, pT gs 0, uN x, u4, uN x, iN k, iN (k / 7), .pointer (some ⟨go, k / 7, none⟩), uN (Kec.g (Kec.outn k) (k / 7)), uN x, iN k, iN (k % 7), uN (1 <<< (k % 7)), uN (1 <<< (k % 7) - 1), uN ((x <<< (1 <<< (k % 7) - 1)) % Kec.W), uN ((Kec.g (Kec.outn k) (k / 7)) ||| ((x <<< (1 <<< (k % 7) - 1)) % Kec.W)), .pointer (some ⟨go, k / 7, none⟩), iN k, iN (k + 1), iN (k + 1), .bool true, u22], []⟩ ?_
  refine then_n ?_
  refine syI_yes (.tmp 21) (part_kconstants 7854) (part_kconstants 7855) (by kernel_rfl) (by kernel_rfl) ?_
  refine syI_exit 0 (by kernel_rfl) ?_
  refine blk_p (by decide) ?_
  exact hQ _ _ h25 h24 K26
set_option maxRecDepth 100000 in
set_option maxHeartbeats 4000000 in
theorem kconst_assign {l N : Nat} {u0 u1 u2 u3 u4 u6 u7 u8 u9 u10 u11 u12 u13 u14 u15 u16 u17 u18 u19 u20 u21 u22 : Value} (x : Nat) (w : World) (Q : Exit → Act → World → Prop) (hL : ¬ LetsOut Q) (hQ : Q .normal ⟨#[u0, u1, u2, .int .u64 ((x : Nat) : Int), u4, .int .u64 ((x : Nat) : Int), u6, u7, u8, u9, u10, u11, u12, u13, u14, u15, u16, u17, u18, u19, u20, u21, u22], []⟩ w) :
    (part_kconstants 244).wpIn (Fence.wide.inRound l) N Try.prog Q ⟨#[u0, u1, u2, u3, u4, .int .u64 ((x : Nat) : Int), u6, u7, u8, u9, u10, u11, u12, u13, u14, u15, u16, u17, u18, u19, u20, u21, u22], []⟩ w := by
  have K0 : Keeps Nob w w := Keeps.refl _ _
  refine syI_reg (by kernel_rfl) (fun ⟨a, w, h⟩ => hL ⟨a, w, h⟩) ?_
  refine rg_plain 4 (opsAt (part_kconstants 244)) [0] (by kernel_rfl) (by kernel_rfl) ?_
  refine ps_k (o_kconstants 244 0) (uN x) ?_
  refine ps_end ?_
  refine sy_a ⟨#[u0, u1, u2, uN x, u4, uN x, u6, u7, u8, u9, u10, u11, u12, u13, u14, u15, u16, u17, u18, u19, u20, u21, u22], []⟩ ?_
  exact hQ
set_option maxRecDepth 100000 in
set_option maxHeartbeats 4000000 in
theorem kconstants_ok (w : World) :
    Calls Try.prog 113 #[] w (fun e w' => e = .returned (.agg (Wz Kec.K)) ∧ Keeps Nob w w') := by
  have K0 : Keeps Nob w w := Keeps.refl _ _
  refine calls_marks 3 (c := (part_kconstants 1)) Try.func113 (by kernel_rfl) ?_
  refine sy_frame ⟨#[undef, undef, undef, undef, undef, undef, undef, undef, undef, undef, undef, undef, undef, undef, undef, undef, undef, undef, undef, undef, undef, undef, undef], []⟩ (by kernel_rfl) ?_
  refine sy_sq (part_kconstants 2) (part_kconstants 3) ?_
  refine sy_reg ?_
  refine rg_plain 0 (opsAt (part_kconstants 2)) [0] (by kernel_rfl) (by kernel_rfl) ?_
  obtain ⟨V27, eV27, gr, egr, h28, kV27⟩ := alloc_step w (zr_u64_24) 135
  have n29 : w.heap.size ≤ gr := egr ▸ K0.size
  refine ps_r (o_kconstants 2 0) (pT gr 0) (w' := V27) (by rw [← eV27, ← egr]; exact exec_alloc0 135 (by kernel_rfl) (.agg (zr_u64_24)) (by kernel_rfl)) ?_
  clear eV27
  have K30 := K0.nn kV27
  refine ps_end ?_
  refine sy_a ⟨#[pT gr 0, undef, undef, undef, undef, undef, undef, undef, undef, undef, undef, undef, undef, undef, undef, undef, undef, undef, undef, undef, undef, undef, undef], []⟩ ?_
  refine then_n ?_
  refine sy_sq (part_kconstants 6) (part_kconstants 7) ?_
  refine sy_reg ?_
  refine rg_plain 1 (opsAt (part_kconstants 6)) [0] (by kernel_rfl) (by kernel_rfl) ?_
  obtain ⟨V31, eV31, go, ego, h32, kV31⟩ := alloc_step V27 (zr_u64_24) 135
  have n33 : gr < go := ego ▸ lt_of_block h28
  have n34 : w.heap.size ≤ go := ego ▸ K30.size
  refine ps_r (o_kconstants 6 0) (pT go 0) (w' := V31) (by rw [← eV31, ← ego]; exact exec_alloc0 135 (by kernel_rfl) (.agg (zr_u64_24)) (by kernel_rfl)) ?_
  clear eV31
  have h35 := kV31.bk h28
  have K36 := K30.nn kV31
  refine ps_end ?_
  refine sy_a ⟨#[pT gr 0, pT go 0, undef, undef, undef, undef, undef, undef, undef, undef, undef, undef, undef, undef, undef, undef, undef, undef, undef, undef, undef, undef, undef], []⟩ ?_
  refine then_n ?_
  refine sy_sq (part_kconstants 14) (part_kconstants 15) ?_
  refine sy_reg ?_
  refine rg_plain 2 (opsAt (part_kconstants 14)) [0, 1] (by kernel_rfl) (by kernel_rfl) ?_
  obtain ⟨V37, eV37, gs, egs, h38, kV37⟩ := alloc_step V31 (#[.int .i64 0]) 3
  have n39 : gr < gs := egs ▸ lt_of_block h35
  have n40 : go < gs := egs ▸ lt_of_block h32
  have n41 : w.heap.size ≤ gs := egs ▸ K36.size
  refine ps_r (o_kconstants 14 0) (pT gs 0) (w' := V37) (by rw [← eV37, ← egs]; exact exec_alloc0 3 (by kernel_rfl) (.int .i64 0) (by kernel_rfl)) ?_
  clear eV37
  have h42 := kV37.bk h35
  have h43 := kV37.bk h32
  have K44 := K36.nn kV37
  obtain ⟨V45, eV45, kV45⟩ := cell_step V37 gs 0 (.int .i64 0)
  have h46 : V45.heap[gs]? = some (.cells (#[.int .i64 0]) 3 (0, 0)) := eV45 ▸ ((heap_setCell_same _ gs 0 _ _ (.int .i64 0) h38).trans (congrArg (fun c => some (Obj.cells c 3 (0, 0))) (show (#[.int .i64 0] : Array Value).setIfInBounds 0 (.int .i64 0) = #[.int .i64 0] from by kernel_rfl)))
  refine ps_s (o_kconstants 14 1) (w' := V45) (by rw [← eV45]; exact exec_store_cell 3 (.tmp 2) (.const (.int .i64 0)) (by kernel_rfl) gs 0 (by kernel_rfl) (.int .i64 0) (by kernel_rfl) (by kernel_rfl) (by kernel_rfl) (.int .i64 0) (rc (h38) (by kernel_rfl)) (frozen_of_row _ _ _ _ _ h38) (by kernel_rfl)) ?_
  clear eV45
  have h47 := kV45.bo h42 (by omega)
  have h48 := kV45.bo h43 (by omega)
  have K49 := K44.no kV45 (by omega)
  refine ps_end ?_
  refine sy_a ⟨#[pT gr 0, pT go 0, pT gs 0, undef, undef, undef, undef, undef, undef, undef, undef, undef, undef, undef, undef, undef, undef, undef, undef, undef, undef, undef, undef], []⟩ ?_
  refine then_n ?_
  refine sy_sq (part_kconstants 30) (part_kconstants 31) ?_
  refine sy_sq (part_kconstants 60) (part_kconstants 61) ?_
  refine sy_reg ?_
  refine rg_plain 3 (opsAt (part_kconstants 60)) [0] (by kernel_rfl) (by kernel_rfl) ?_
  refine ps_c (o_kconstants 60 0) 118 #[] Try.func118 ((kregister_ok _).mono ?_)
  rintro e w1 ⟨rfl, rfl⟩
  refine ⟨_, rfl, ?_⟩
  refine ps_end ?_
  refine sy_a ⟨#[pT gr 0, pT go 0, pT gs 0, undef, .func (.func 119) #[] #[], undef, undef, undef, undef, undef, undef, undef, undef, undef, undef, undef, undef, undef, undef, undef, undef, undef, undef], []⟩ ?_
  refine then_n ?_
  refine sy_bk 0 (part_kconstants 122) ?_
  have szW : w.heap.size ≤ V45.heap.size := K49.size
  have ltr := lt_of_block h47
  have lto := lt_of_block h48
  have lts := lt_of_block h46
  refine sy_part (.rangeFunc (.tmp 4) #[5] (part_kconstants 244) (part_kconstants 245)) (by kernel_rfl) ?_
  refine wp_range1G True 3 (gf := 119) (lb := #[]) (by kernel_rfl) (enters_of Try.func119 (by kernel_rfl) rfl) (encs := fun x : Nat => #[.int .u64 (x : Int)]) (fun _ => rfl) (xs := (List.range 168).map Kec.bitn) (Mi := Nob) (S := fun _ _ => True) (fun _ h => h.elim) (kregister_seq 5 (by omega) 168) (fun _ _ _ _ _ => trivial) trivial
    (fun k V => k < 168 ∧ V.heap[gr]? = some (.cells zr_u64_24 135 (0, 0)) ∧ V.heap[go]? = some (.cells (Wz (Kec.outn k)) 135 (0, 0)) ∧ V.heap[gs]? = some (.cells #[.int .i64 ((k : Nat) : Int)] 3 (0, 0)) ∧ Keeps Nob w V) (fun c V => c = .exit 0 ∧ V.heap[gr]? = some (.cells zr_u64_24 135 (0, 0)) ∧ V.heap[go]? = some (.cells (Wz (Kec.outn 168)) 135 (0, 0)) ∧ V.heap[gs]? = some (.cells #[.int .i64 ((168 : Nat) : Int)] 3 (0, 0)) ∧ Keeps Nob w V) ?hI ?hIx ?h0 ?hE (fun x => ⟨#[.pointer (some ⟨gr, 0, none⟩), .pointer (some ⟨go, 0, none⟩), .pointer (some ⟨gs, 0, none⟩), .int .u64 ((x : Nat) : Int), .func (.func 119) #[] #[], .int .u64 ((x : Nat) : Int), undef, undef, undef, undef, undef, undef, undef, undef, undef, undef, undef, undef, undef, undef, undef, undef, undef], []⟩) ?assign ?body ?done ?stop
  case h0 => exact ⟨by omega, h47, h48.trans (by kernel_rfl), h46.trans (by kernel_rfl), K49⟩
  case hE => rintro _ V ⟨h, _⟩; simp at h
  case hI =>
    rintro k A V ⟨h1, h2, h3, h4, h5⟩ t
    exact ⟨h1, t.same _ _ h2 (fun x => x) (.inr rfl), t.same _ _ h3 (fun x => x) (.inr rfl), t.same _ _ h4 (fun x => x) (.inr rfl), t.keepsN h5 szW⟩
  case hIx =>
    rintro k A V ⟨h1, h2, h3, h4, h5⟩ t
    exact ⟨h1, t.same _ _ h2 (fun x => x) (.inr rfl), t.same _ _ h3 (fun x => x) (.inr rfl), t.same _ _ h4 (fun x => x) (.inr rfl), t.keepsN h5 szW⟩
  case assign =>
    intro l k x V K hx hi hs hK
    refine syI_frame ⟨#[.pointer (some ⟨gr, 0, none⟩), .pointer (some ⟨go, 0, none⟩), .pointer (some ⟨gs, 0, none⟩), undef, .func (.func 119) #[] #[], .int .u64 ((x : Nat) : Int), undef, undef, undef, undef, undef, undef, undef, undef, undef, undef, undef, undef, undef, undef, undef, undef, undef], []⟩ (by kernel_rfl) ?_
    refine kconst_assign x V _ ?_ ?_
    · exact fun h => h.elim fun _ h => h.elim fun _ h => h
    · exact hK
  case body =>
    rintro l k x V hl hr hx ⟨h1, h2, h3, h4, h5⟩ _
    have hxk : x = Kec.bitn k := by rw [List.getElem?_map, List.getElem?_range h1] at hx; simpa using hx.symm
    have hxl : x < Kec.W := by have := Kec.bitn_lt k; have := Kec.W_eq; rw [hxk]; omega
    by_cases h168 : k + 1 = 168
    · refine kconst_last k x go gs hxl hxk h1 h168 (by omega) V _ (fun h => h.elim fun _ h => h.elim fun _ h => h) h3 h4 (fun a W g1 g2 g3 => ?_)
      have e1 := (g3.block gr (lt_of_block h2) (by intro e; omega)).trans h2
      refine ⟨g3.from (fun j hj => by rcases hj with rfl | rfl <;> omega), rfl, e1, ?_, ?_, h5.then g3 (fun i hi hm => by omega)⟩
      · rw [h168] at g1; exact g1
      · rw [h168] at g2; exact g2
    · refine kconst_more k x go gs hxl hxk h1 h168 (by omega) V _ (fun h => h.elim fun _ h => h.elim fun _ h => h) h3 h4 (fun a W g1 g2 g3 => ?_)
      have e1 := (g3.block gr (lt_of_block h2) (by intro e; omega)).trans h2
      exact ⟨g3.from (fun j hj => by rcases hj with rfl | rfl <;> omega), ⟨by omega, e1, g1, g2, h5.then g3 (fun i hi hm => by omega)⟩, trivial⟩
  case done =>
    rintro D V hD ⟨h, _⟩ hK
    simp at h
  case stop =>
    rintro D c Vz hD ⟨rfl, h2, h3, h4, h5⟩ hK
    have hDs : V45.heap.size ≤ D := hD
    refine sy_exit 0 rfl ?_
    refine blk_e ?_
    refine then_n ?_
    refine sy_sq (part_kconstants 62) (part_kconstants 63) ?_
    refine sy_reg ?_
    refine rg_plain 8 (opsAt (part_kconstants 62)) [0, 1] (by kernel_rfl) (by kernel_rfl) ?_
    refine ps_p (o_kconstants 62 0) (.agg (Wz (Kec.outn 168))) (exec_load_row 135 (.tmp 1) (by kernel_rfl) go (by kernel_rfl) _ _ (0, 0) _ (h3) Try.underlying135 rfl (by rw [Wz_size, Kec.outn_len]; kernel_rfl)) ?_
    obtain ⟨V50, eV50, kV50⟩ := rowset_step Vz gr ((Wz (Kec.outn 168)))
    have h51 : V50.heap[gr]? = some (.cells (Wz (Kec.outn 168)) 135 (0, 0)) := eV50 ▸ setRow_heap _ _ _ _ _ _ h2
    refine ps_s (o_kconstants 62 1) (w' := V50) (by rw [← eV50]; exact exec_store_row 135 (.tmp 0) (.tmp 22) (by kernel_rfl) gr ((Wz (Kec.outn 168))) (by kernel_rfl) (by kernel_rfl) 135 (zr_u64_24) h2 (by rw [Wz_size, Kec.outn_len]; kernel_rfl) (by rw [Wz_size, Kec.outn_len]; rfl) (Wz_one _)) ?_
    clear eV50
    have h52 := kV50.bo h3 (by omega)
    have h53 := kV50.bo h4 (by omega)
    have h54 : V50.heap[D]? = some (.deferred (some [])) := (kV50.block D (Array.getElem?_eq_some_iff.1 hK).1 (by intro e; first | exact e.elim | (unfold Own.One at e; omega) | omega)).trans hK
    have K55 := h5.no kV50 (by omega)
    refine ps_end ?_
    refine sy_a ⟨#[pT gr 0, pT go 0, pT gs 0, undef, .func (.func 119) #[] #[], undef, undef, undef, undef, undef, undef, undef, undef, undef, undef, undef, undef, undef, undef, undef, undef, undef, .agg (Wz (Kec.outn 168))], [{ target := .collected D, args := #[] }]⟩ ?_
    refine then_n ?_
    refine sy_ret (by kernel_rfl) ?_
    obtain ⟨V56, eV56⟩ : ∃ V, V50.putObj D (.deferred none) = V := ⟨_, rfl⟩
    have tV56 : Turn V45.heap.size Nob V50 V56 := eV56 ▸ Turn.put _ _ _ _ hDs h54 rfl
    have h57 : V56.heap[go]? = some (.cells (Wz (Kec.outn 168)) 135 (0, 0)) := tV56.same _ _ h52 (fun x => x) (.inr rfl)
    have h58 : V56.heap[gs]? = some (.cells (#[.int .i64 168]) 3 (0, 0)) := tV56.same _ _ h53 (fun x => x) (.inr rfl)
    have h59 : V56.heap[gr]? = some (.cells (Wz (Kec.outn 168)) 135 (0, 0)) := tV56.same _ _ h51 (fun x => x) (.inr rfl)
    have K60 : Keeps Nob w V56 := tV56.keepsN K55 (by omega)
    refine marks_ret h54 (v := .agg (Wz (Kec.outn 168))) (by rw [eV56]; exact results_cell_row (p := 0) (ty := 135) (by kernel_rfl) _ _ gr 135 (Wz (Kec.outn 168)) (0, 0) _ (by kernel_rfl) h59 Try.underlying135 rfl (by rw [Wz_size, Kec.outn_len]; kernel_rfl)) ?_
    rw [eV56]
    exact ⟨by rw [Kec.outn_K], K60⟩

theorem K_len : Kec.K.length = 24 := rfl
theorem ws_K : Kec.Ws Kec.K := by
  intro i
  by_cases h : i < 24
  · have : ∀ j : Fin 24, Kec.g Kec.K j.val < Kec.W := by decide
    exact this ⟨i, h⟩
  · rw [Kec.g_big _ _ (by rw [K_len]; omega)]; exact Kec.W_pos
/-- So many rounds. -/
def permn (s : List Nat) (r : Nat) : List Nat := (Kec.K.take r).foldl Kec.round s
theorem permn_succ (s : List Nat) (r : Nat) (h : r < 24) : permn s (r + 1) = Kec.round (permn s r) (Kec.g Kec.K r) := by
  unfold permn Kec.g
  rw [List.take_succ_eq_append_getElem (by rw [K_len]; exact h), List.foldl_append]
  simp [List.getElem?_eq_getElem (show r < Kec.K.length by rw [K_len]; exact h)]
theorem permn_len (s : List Nat) (hs : s.length = 25) (r : Nat) : (permn s r).length = 25 := Kec.len_fold _ _ hs
theorem permn_ws (s : List Nat) (ws : Kec.Ws s) (r : Nat) : Kec.Ws (permn s r) := Kec.ws_fold _ (fun k hk => Kec.K_lt k (List.mem_of_mem_take hk)) s ws
theorem permn_all (s : List Nat) : permn s 24 = Kec.perm s := by
  unfold permn Kec.perm
  rw [List.take_of_length_le (by rw [K_len]; omega)]

noncomputable def part_kpermuted (n : Nat) : Code := partOf Try.f105 n
noncomputable abbrev o_kpermuted (n k : Nat) : Oper := (opsAt (part_kpermuted n)).getD k default
set_option maxRecDepth 100000 in
set_option maxHeartbeats 4000000 in
theorem kpermuted_ok (s : List Nat) (w : World) (hs : s.length = 25) (ws : Kec.Ws s) :
    Calls Try.prog 105 #[.agg (Wz s)] w (fun e w' => e = .returned (.agg (Wz (Kec.perm s))) ∧ Keeps Nob w w') := by
  have K0 : Keeps Nob w w := Keeps.refl _ _
  refine sy_enter (part_kpermuted 1) ⟨#[.agg (Wz s), undef, undef, undef, undef, undef, undef, undef, undef, undef, undef, undef, undef, undef, undef, undef, undef, undef, undef, undef, undef, undef, undef, undef, undef, undef, undef, undef, undef, undef], []⟩ Try.func105 (by kernel_rfl) (by kernel_rfl) ?_
  refine sy_sq (part_kpermuted 2) (part_kpermuted 3) ?_
  refine sy_reg ?_
  refine rg_plain 0 (opsAt (part_kpermuted 2)) [0, 1] (by kernel_rfl) (by kernel_rfl) ?_
  obtain ⟨V1, eV1, gb, egb, h2, kV1⟩ := alloc_step w ((Wz s)) 87
  have n3 : w.heap.size ≤ gb := egb ▸ K0.size
  refine ps_r (o_kpermuted 2 0) (pT gb 0) (w' := V1) (by rw [← eV1, ← egb]; exact exec_box 87 (.tmp 0) (by kernel_rfl) (.agg (Wz s)) (by kernel_rfl)) ?_
  clear eV1
  have K4 := K0.nn kV1
  obtain ⟨V5, eV5, gr, egr, h6, kV5⟩ := alloc_step V1 (zr_u64_25) 87
  have n7 : gb < gr := egr ▸ lt_of_block h2
  have n8 : w.heap.size ≤ gr := egr ▸ K4.size
  refine ps_r (o_kpermuted 2 1) (pT gr 0) (w' := V5) (by rw [← eV5, ← egr]; exact exec_alloc0 87 (by kernel_rfl) (.agg (zr_u64_25)) (by kernel_rfl)) ?_
  clear eV5
  have h9 := kV5.bk h2
  have K10 := K4.nn kV5
  refine ps_end ?_
  refine then_n ?_
  refine sy_sq (part_kpermuted 6) (part_kpermuted 7) ?_
  refine sy_reg ?_
  refine rg_plain 1 (opsAt (part_kpermuted 6)) [0, 1, 2, 3, 4, 5] (by kernel_rfl) (by kernel_rfl) ?_
  refine ps_k (o_kpermuted 6 0) (.func (.func 110) #[pT gb 0] #[]) ?_
  refine ps_k (o_kpermuted 6 1) (.func (.func 111) #[pT gb 0] #[]) ?_
  refine ps_k (o_kpermuted 6 2) (.func (.func 112) #[pT gb 0] #[]) ?_
  refine ps_k (o_kpermuted 6 3) (.agg #[.func (.func 110) #[pT gb 0] #[], .func (.func 111) #[pT gb 0] #[], .func (.func 112) #[pT gb 0] #[]]) ?_
  obtain ⟨V11, eV11, gt, egt, h12, kV11⟩ := alloc_step V5 (#[.nilFunc, .nilFunc, .nilFunc]) 144
  have n13 : gb < gt := egt ▸ lt_of_block h9
  have n14 : gr < gt := egt ▸ lt_of_block h6
  have n15 : w.heap.size ≤ gt := egt ▸ K10.size
  refine ps_r (o_kpermuted 6 4) (pT gt 0) (w' := V11) (by rw [← eV11, ← egt]; exact exec_alloc0 144 (by kernel_rfl) (.agg (#[.nilFunc, .nilFunc, .nilFunc])) (by kernel_rfl)) ?_
  clear eV11
  have h16 := kV11.bk h9
  have h17 := kV11.bk h6
  have K18 := K10.nn kV11
  obtain ⟨V19, eV19, kV19⟩ := rowset_step V11 gt (#[.func (.func 110) #[.pointer (some ⟨gb, 0, none⟩)] #[], .func (.func 111) #[.pointer (some ⟨gb, 0, none⟩)] #[], .func (.func 112) #[.pointer (some ⟨gb, 0, none⟩)] #[]])
  have h20 : V19.heap[gt]? = some (.cells (#[.func (.func 110) #[.pointer (some ⟨gb, 0, none⟩)] #[], .func (.func 111) #[.pointer (some ⟨gb, 0, none⟩)] #[], .func (.func 112) #[.pointer (some ⟨gb, 0, none⟩)] #[]]) 144 (0, 0)) := eV19 ▸ setRow_heap _ _ _ _ _ _ h12
  refine ps_s (o_kpermuted 6 5) (w' := V19) (by rw [← eV19]; exact exec_store_row 144 (.tmp 3) (.tmp 11) (by kernel_rfl) gt (#[.func (.func 110) #[pT gb 0] #[], .func (.func 111) #[pT gb 0] #[], .func (.func 112) #[pT gb 0] #[]]) (by kernel_rfl) (by kernel_rfl) 144 (#[.nilFunc, .nilFunc, .nilFunc]) h12 (by kernel_rfl) (by kernel_rfl) (by kernel_rfl)) ?_
  clear eV19
  have h21 := kV19.bo h16 (by omega)
  have h22 := kV19.bo h17 (by omega)
  have K23 := K18.no kV19 (by omega)
  refine ps_end ?_
  refine then_n ?_
  refine sy_sq (part_kpermuted 14) (part_kpermuted 15) ?_
  refine sy_sq (part_kpermuted 28) (part_kpermuted 29) ?_
  refine sy_reg ?_
  refine rg_plain 2 (opsAt (part_kpermuted 28)) [0, 1] (by kernel_rfl) (by kernel_rfl) ?_
  refine ps_c (o_kpermuted 28 0) 113 #[] Try.func113 ((kconstants_ok _).mono ?_)
  rintro e V24 ⟨rfl, kV24⟩
  refine ⟨_, rfl, ?_⟩
  have h25 := kV24.bk h21
  have h26 := kV24.bk h22
  have h27 := kV24.bk h20
  have K28 := K23.nn kV24
  refine ps_k (o_kpermuted 28 1) (.int .i64 0) ?_
  refine ps_end ?_
  refine then_n ?_
  refine sy_bk 0 (part_kpermuted 58) ?_
  refine sy_loop (part_kpermuted 116) (fun a V => ∃ (r : Nat) (u5 u7 u14 u15 u16 u17 u18 u19 u20 u21 u22 u23 u24 u25 u26 u27 u28 : Value), (a = ⟨#[.agg (Wz s), pT gb 0, pT gr 0, pT gt 0, undef, u5, undef, u7, .func (.func 110) #[pT gb 0] #[], .func (.func 111) #[pT gb 0] #[], .func (.func 112) #[pT gb 0] #[], .agg #[.func (.func 110) #[pT gb 0] #[], .func (.func 111) #[pT gb 0] #[], .func (.func 112) #[pT gb 0] #[]], .agg (Wz Kec.K), iN r, u14, u15, u16, u17, u18, u19, u20, u21, u22, u23, u24, u25, u26, u27, u28, undef], []⟩) ∧ (r ≤ 24) ∧ (V.heap[gb]? = some (.cells (Wz (permn s r)) 87 (0, 0))) ∧ (V.heap[gr]? = some (.cells (zr_u64_25) 87 (0, 0))) ∧ (V.heap[gt]? = some (.cells (#[.func (.func 110) #[pT gb 0] #[], .func (.func 111) #[pT gb 0] #[], .func (.func 112) #[pT gb 0] #[]]) 144 (0, 0))) ∧ (Keeps Nob w V)) (fun a _ => 24 - (intOf (a.tmps.getD 13 undef)).toNat) (by kernel_rfl) ?_ ?_
  · exact ⟨0, undef, undef, undef, undef, undef, undef, undef, undef, undef, undef, undef, undef, undef, undef, undef, undef, undef, by kernel_rfl, by omega, h25, h26, h27, K28⟩
  · rintro a V29 ⟨r, u5, u7, u14, u15, u16, u17, u18, u19, u20, u21, u22, u23, u24, u25, u26, u27, u28, rfl, hr, h30, h31, h32, K33⟩
    by_cases lt_r : r < 24
    · show _
      refine sy_sq (part_kpermuted 232) (part_kpermuted 233) ?_
      refine sy_reg ?_
      refine rg_plain 3 (opsAt (part_kpermuted 232)) [0] (by kernel_rfl) (by kernel_rfl) ?_
      refine ps_p (o_kpermuted 232 0) (.bool true) (dct ((((r : Nat) : Int)) < ((24) : Int)) (by omega)) ?_
      refine ps_end ?_
      refine then_n ?_
      refine sy_sq (part_kpermuted 466) (part_kpermuted 467) ?_
      refine sy_ys (.tmp 14) (part_kpermuted 932) (part_kpermuted 933) ?_
      refine sy_sk ?_
      refine then_n ?_
      refine sy_sq (part_kpermuted 934) (part_kpermuted 935) ?_
      refine sy_bk 1 (part_kpermuted 1868) ?_
      refine sy_sq (part_kpermuted 3736) (part_kpermuted 3737) ?_
      refine sy_reg ?_
      refine rg_plain 4 (opsAt (part_kpermuted 3736)) [0, 1] (by kernel_rfl) (by kernel_rfl) ?_
      refine ps_p (o_kpermuted 3736 0) (uN (Kec.g Kec.K r)) (exec_index_arr 135 (.tmp 12) (.tmp 13) (by kernel_rfl) (Wz Kec.K) (by kernel_rfl) .i64 r (by kernel_rfl) 24 27 Try.underlying135 (by kernel_rfl) (by kernel_rfl) (by omega) _ (Wz_get Kec.K r (by rw [K_len]; omega))) ?_
      refine ps_k (o_kpermuted 3736 1) (uN (Kec.g Kec.K r)) ?_
      refine ps_end ?_
      refine then_n ?_
      refine sy_sq (part_kpermuted 7474) (part_kpermuted 7475) ?_
      refine sy_sq (part_kpermuted 14948) (part_kpermuted 14949) ?_
      refine sy_reg ?_
      refine rg_plain 5 (opsAt (part_kpermuted 14948)) [0, 1] (by kernel_rfl) (by kernel_rfl) ?_
      refine ps_p (o_kpermuted 14948 0) (.agg #[.func (.func 110) #[pT gb 0] #[], .func (.func 111) #[pT gb 0] #[], .func (.func 112) #[pT gb 0] #[]]) (exec_load_row 144 (.tmp 3) (by kernel_rfl) gt (by kernel_rfl) _ _ (0, 0) _ (h32) Try.underlying144 rfl (by kernel_rfl)) ?_
      refine ps_k (o_kpermuted 14948 1) (.int .i64 0) ?_
      refine ps_end ?_
      refine then_n ?_
      refine sy_bk 2 (part_kpermuted 29898) ?_
      refine sy_rounds 4 (part_kpermuted 59796) (by kernel_rfl) ?_
      refine rd_step ?_
      refine sy_sq (part_kpermuted 119592) (part_kpermuted 119593) ?_
      refine sy_reg ?_
      refine rg_plain 6 (opsAt (part_kpermuted 119592)) [0] (by kernel_rfl) (by kernel_rfl) ?_
      refine ps_k (o_kpermuted 119592 0) (.bool true) ?_
      refine ps_end ?_
      refine then_n ?_
      refine sy_sq (part_kpermuted 239186) (part_kpermuted 239187) ?_
      refine sy_ys (.tmp 18) (part_kpermuted 478372) (part_kpermuted 478373) ?_
      refine sy_sk ?_
      refine then_n ?_
      refine sy_sq (part_kpermuted 478374) (part_kpermuted 478375) ?_
      refine sy_bk 3 (part_kpermuted 956748) ?_
      refine sy_sq (part_kpermuted 1913496) (part_kpermuted 1913497) ?_
      refine sy_reg ?_
      refine rg_plain 7 (opsAt (part_kpermuted 1913496)) [0, 1] (by kernel_rfl) (by kernel_rfl) ?_
      refine ps_k (o_kpermuted 1913496 0) (.func (.func 110) #[pT gb 0] #[]) ?_
      refine ps_k (o_kpermuted 1913496 1) (.func (.func 110) #[pT gb 0] #[]) ?_
      refine ps_end ?_
      refine then_n ?_
      refine sy_reg ?_
      refine rg_plain 8 (opsAt (part_kpermuted 1913497)) [0, 1] (by kernel_rfl) (by kernel_rfl) ?_
      refine ps_k (o_kpermuted 1913497 0) (.func (.func 110) #[pT gb 0] #[]) ?_
      refine ps_callV (o_kpermuted 1913497 1) (.tmp 20) 110 #[pT gb 0] #[] #[pT gb 0] (by kernel_rfl) (by kernel_rfl) (by kernel_rfl) (by kernel_rfl) (by kernel_rfl) (enters_of Try.func110 (by kernel_rfl) rfl) ((kcolumns_ok gb (permn s r) _ (by rw [permn_len s hs]) (permn_ws s ws r) h30).mono ?_)
      rintro e V34 ⟨rfl, h35, kV34⟩
      refine ⟨_, rfl, ?_⟩
      have h36 := kV34.bo h31 (by omega)
      have h37 := kV34.bo h32 (by omega)
      have K38 := K33.no kV34 (by omega)
      refine ps_end ?_
      refine blk_n ?_
      refine then_n ?_
      refine sy_reg ?_
      refine rg_plain 9 (opsAt (part_kpermuted 478375)) [0, 1] (by kernel_rfl) (by kernel_rfl) ?_
      refine ps_k (o_kpermuted 478375 0) (.int .i64 1) ?_
      refine ps_k (o_kpermuted 478375 1) (.int .i64 1) ?_
      refine ps_end ?_
      refine then_n ?_
      refine rd_step ?_
      refine sy_sq (part_kpermuted 119592) (part_kpermuted 119593) ?_
      refine sy_reg ?_
      refine rg_plain 6 (opsAt (part_kpermuted 119592)) [0] (by kernel_rfl) (by kernel_rfl) ?_
      refine ps_k (o_kpermuted 119592 0) (.bool true) ?_
      refine ps_end ?_
      refine then_n ?_
      refine sy_sq (part_kpermuted 239186) (part_kpermuted 239187) ?_
      refine sy_ys (.tmp 18) (part_kpermuted 478372) (part_kpermuted 478373) ?_
      refine sy_sk ?_
      refine then_n ?_
      refine sy_sq (part_kpermuted 478374) (part_kpermuted 478375) ?_
      refine sy_bk 3 (part_kpermuted 956748) ?_
      refine sy_sq (part_kpermuted 1913496) (part_kpermuted 1913497) ?_
      refine sy_reg ?_
      refine rg_plain 7 (opsAt (part_kpermuted 1913496)) [0, 1] (by kernel_rfl) (by kernel_rfl) ?_
      refine ps_k (o_kpermuted 1913496 0) (.func (.func 111) #[pT gb 0] #[]) ?_
      refine ps_k (o_kpermuted 1913496 1) (.func (.func 111) #[pT gb 0] #[]) ?_
      refine ps_end ?_
      refine then_n ?_
      refine sy_reg ?_
      refine rg_plain 8 (opsAt (part_kpermuted 1913497)) [0, 1] (by kernel_rfl) (by kernel_rfl) ?_
      refine ps_k (o_kpermuted 1913497 0) (.func (.func 111) #[pT gb 0] #[]) ?_
      refine ps_callV (o_kpermuted 1913497 1) (.tmp 20) 111 #[pT gb 0] #[] #[pT gb 0] (by kernel_rfl) (by kernel_rfl) (by kernel_rfl) (by kernel_rfl) (by kernel_rfl) (enters_of Try.func111 (by kernel_rfl) rfl) ((kmoves_ok gb (Kec.columns (permn s r)) _ (by rw [show (Kec.columns (permn s r)).length = 25 from Kec.len_columns _]) (Kec.ws_columns (permn_ws s ws r)) h35).mono ?_)
      rintro e V39 ⟨rfl, h40, kV39⟩
      refine ⟨_, rfl, ?_⟩
      have h41 := kV39.bo h36 (by omega)
      have h42 := kV39.bo h37 (by omega)
      have K43 := K38.no kV39 (by omega)
      refine ps_end ?_
      refine blk_n ?_
      refine then_n ?_
      refine sy_reg ?_
      refine rg_plain 9 (opsAt (part_kpermuted 478375)) [0, 1] (by kernel_rfl) (by kernel_rfl) ?_
      refine ps_k (o_kpermuted 478375 0) (.int .i64 2) ?_
      refine ps_k (o_kpermuted 478375 1) (.int .i64 2) ?_
      refine ps_end ?_
      refine then_n ?_
      refine rd_step ?_
      refine sy_sq (part_kpermuted 119592) (part_kpermuted 119593) ?_
      refine sy_reg ?_
      refine rg_plain 6 (opsAt (part_kpermuted 119592)) [0] (by kernel_rfl) (by kernel_rfl) ?_
      refine ps_k (o_kpermuted 119592 0) (.bool true) ?_
      refine ps_end ?_
      refine then_n ?_
      refine sy_sq (part_kpermuted 239186) (part_kpermuted 239187) ?_
      refine sy_ys (.tmp 18) (part_kpermuted 478372) (part_kpermuted 478373) ?_
      refine sy_sk ?_
      refine then_n ?_
      refine sy_sq (part_kpermuted 478374) (part_kpermuted 478375) ?_
      refine sy_bk 3 (part_kpermuted 956748) ?_
      refine sy_sq (part_kpermuted 1913496) (part_kpermuted 1913497) ?_
      refine sy_reg ?_
      refine rg_plain 7 (opsAt (part_kpermuted 1913496)) [0, 1] (by kernel_rfl) (by kernel_rfl) ?_
      refine ps_k (o_kpermuted 1913496 0) (.func (.func 112) #[pT gb 0] #[]) ?_
      refine ps_k (o_kpermuted 1913496 1) (.func (.func 112) #[pT gb 0] #[]) ?_
      refine ps_end ?_
      refine then_n ?_
      refine sy_reg ?_
      refine rg_plain 8 (opsAt (part_kpermuted 1913497)) [0, 1] (by kernel_rfl) (by kernel_rfl) ?_
      refine ps_k (o_kpermuted 1913497 0) (.func (.func 112) #[pT gb 0] #[]) ?_
      refine ps_callV (o_kpermuted 1913497 1) (.tmp 20) 112 #[pT gb 0] #[] #[pT gb 0] (by kernel_rfl) (by kernel_rfl) (by kernel_rfl) (by kernel_rfl) (by kernel_rfl) (enters_of Try.func112 (by kernel_rfl) rfl) ((kmixes_ok gb (Kec.moves (Kec.columns (permn s r))) _ (by rw [show (Kec.moves (Kec.columns (permn s r))).length = 25 from Kec.len_moves _]) (Kec.ws_moves (Kec.ws_columns (permn_ws s ws r))) h40).mono ?_)
      rintro e V44 ⟨rfl, h45, kV44⟩
      refine ⟨_, rfl, ?_⟩
      have h46 := kV44.bo h41 (by omega)
      have h47 := kV44.bo h42 (by omega)
      have K48 := K43.no kV44 (by omega)
      refine ps_end ?_
      refine sy_a ⟨#[.agg (Wz s), pT gb 0, pT gr 0, pT gt 0, undef, uN (Kec.g Kec.K r), undef, .func (.func 112) #[pT gb 0] #[], .func (.func 110) #[pT gb 0] #[], .func (.func 111) #[pT gb 0] #[], .func (.func 112) #[pT gb 0] #[], .agg #[.func (.func 110) #[pT gb 0] #[], .func (.func 111) #[pT gb 0] #[], .func (.func 112) #[pT gb 0] #[]], .agg (Wz Kec.K), iN r, .bool true, uN (Kec.g Kec.K r), .agg #[.func (.func 110) #[pT gb 0] #[], .func (.func 111) #[pT gb 0] #[], .func (.func 112) #[pT gb 0] #[]], .int .i64 2, .bool true, .func (.func 112) #[pT gb 0] #[], .func (.func 112) #[pT gb 0] #[], .tuple #[], .int .i64 2, u23, u24, u25, u26, u27, u28, undef], []⟩ ?_
      refine blk_n ?_
      refine then_n ?_
      refine sy_reg ?_
      refine rg_plain 9 (opsAt (part_kpermuted 478375)) [0, 1] (by kernel_rfl) (by kernel_rfl) ?_
      refine ps_k (o_kpermuted 478375 0) (.int .i64 3) ?_
      refine ps_k (o_kpermuted 478375 1) (.int .i64 3) ?_
      refine ps_end ?_
      refine then_n ?_
      refine rd_step ?_
      refine sy_sq (part_kpermuted 119592) (part_kpermuted 119593) ?_
      refine sy_reg ?_
      refine rg_plain 6 (opsAt (part_kpermuted 119592)) [0] (by kernel_rfl) (by kernel_rfl) ?_
      refine ps_k (o_kpermuted 119592 0) (.bool false) ?_
      refine ps_end ?_
      refine then_n ?_
      refine sy_sq (part_kpermuted 239186) (part_kpermuted 239187) ?_
      refine sy_n (.tmp 18) (part_kpermuted 478372) (part_kpermuted 478373) ?_
      refine sy_exit 2 (by kernel_rfl) ?_
      refine then_e ?_
      refine then_e ?_
      refine blk_e ?_
      refine then_n ?_
      refine sy_reg ?_
      refine rg_plain 10 (opsAt (part_kpermuted 7475)) [0, 1, 2, 3, 4, 5] (by kernel_rfl) (by kernel_rfl) ?_
      refine ps_p (o_kpermuted 7475 0) (pT gb 0) (exec_cast (v := pT gb (0 + 0 * 1)) (by simp) (exec_indexAt_arr 87 (.tmp 1) (.const (.int .i64 0)) (by kernel_rfl) gb 0 (by kernel_rfl) .i64 0 (by kernel_rfl) _ _ 1 Try.underlying87 (by kernel_rfl) (by omega))) ?_
      refine ps_p (o_kpermuted 7475 1) (uN (Kec.g (Kec.mixes (Kec.moves (Kec.columns (permn s r)))) 0)) (exec_ld 27 (.tmp 23) gb 0 Try.underlying27 (rc (h45) (Wz_get _ 0 (by rw [show (Kec.mixes (Kec.moves (Kec.columns (permn s r)))).length = 25 from Kec.len_mixes _]; omega)))) ?_
      refine ps_k (o_kpermuted 7475 2) (uN (Kec.g Kec.K r)) ?_
      refine ps_p (o_kpermuted 7475 3) (uN ((Kec.g (Kec.mixes (Kec.moves (Kec.columns (permn s r)))) 0) ^^^ (Kec.g Kec.K r))) (exec_cast (xorU (Kec.g (Kec.mixes (Kec.moves (Kec.columns (permn s r)))) 0) (Kec.g Kec.K r) (Kec.ws_mixes (Kec.ws_moves (Kec.ws_columns (permn_ws s ws r))) _) (ws_K r)) (by kernel_rfl)) ?_
      refine ps_p (o_kpermuted 7475 4) (pT gb 0) (exec_cast (v := pT gb (0 + 0 * 1)) (by simp) (exec_indexAt_arr 87 (.tmp 1) (.const (.int .i64 0)) (by kernel_rfl) gb 0 (by kernel_rfl) .i64 0 (by kernel_rfl) _ _ 1 Try.underlying87 (by kernel_rfl) (by omega))) ?_
      obtain ⟨V49, eV49, kV49⟩ := cell_step V44 gb 0 (.int .u64 (((Kec.g (Kec.mixes (Kec.moves (Kec.columns (permn s r)))) 0) ^^^ (Kec.g Kec.K r) : Nat) : Int))
      have h50 : V49.heap[gb]? = some (.cells (Wz ((Kec.mixes (Kec.moves (Kec.columns (permn s r)))).set 0 ((Kec.g (Kec.mixes (Kec.moves (Kec.columns (permn s r)))) 0) ^^^ (Kec.g Kec.K r)))) 87 (0, 0)) := eV49 ▸ ((heap_setCell_same _ gb 0 _ _ (.int .u64 (((Kec.g (Kec.mixes (Kec.moves (Kec.columns (permn s r)))) 0) ^^^ (Kec.g Kec.K r) : Nat) : Int)) h45).trans (congrArg (fun c => some (Obj.cells c 87 (0, 0))) (show (Wz (Kec.mixes (Kec.moves (Kec.columns (permn s r)))) : Array Value).setIfInBounds 0 (.int .u64 (((Kec.g (Kec.mixes (Kec.moves (Kec.columns (permn s r)))) 0) ^^^ (Kec.g Kec.K r) : Nat) : Int)) = Wz ((Kec.mixes (Kec.moves (Kec.columns (permn s r)))).set 0 ((Kec.g (Kec.mixes (Kec.moves (Kec.columns (permn s r)))) 0) ^^^ (Kec.g Kec.K r))) from by rw [Wz_set])))
      refine ps_s (o_kpermuted 7475 5) (w' := V49) (by rw [← eV49]; exact exec_store_cell 27 (.tmp 27) (.tmp 26) (by kernel_rfl) gb 0 (by kernel_rfl) (uN ((Kec.g (Kec.mixes (Kec.moves (Kec.columns (permn s r)))) 0) ^^^ (Kec.g Kec.K r))) (by kernel_rfl) (by kernel_rfl) (by kernel_rfl) (uN (Kec.g (Kec.mixes (Kec.moves (Kec.columns (permn s r)))) 0)) (rc (h45) (Wz_get _ 0 (by rw [show (Kec.mixes (Kec.moves (Kec.columns (permn s r)))).length = 25 from Kec.len_mixes _]; omega))) (frozen_of_row _ _ _ _ _ h45) (by kernel_rfl)) ?_
      clear eV49
      have h51 := kV49.bo h46 (by omega)
      have h52 := kV49.bo h47 (by omega)
      have K53 := K48.no kV49 (by omega)
      refine ps_end ?_
      refine blk_n ?_
      refine then_n ?_
      refine sy_reg ?_
      refine rg_plain 11 (opsAt (part_kpermuted 935)) [0, 1] (by kernel_rfl) (by kernel_rfl) ?_
      refine ps_p (o_kpermuted 935 0) (iN (r + 1)) (exec_cast (congrArg (Value.int .i64) (wrapN (r + 1) (by omega))) (by kernel_rfl)) ?_
      refine ps_k (o_kpermuted 935 1) (iN (r + 1)) ?_
      refine ps_end ?_
      refine then_n ?_
      refine ⟨⟨r + 1, (uN (Kec.g Kec.K r)), (.func (.func 112) #[pT gb 0] #[]), (.bool true), (uN (Kec.g Kec.K r)), (.agg #[.func (.func 110) #[pT gb 0] #[], .func (.func 111) #[pT gb 0] #[], .func (.func 112) #[pT gb 0] #[]]), (.int .i64 3), (.bool false), (.func (.func 112) #[pT gb 0] #[]), (.func (.func 112) #[pT gb 0] #[]), (.tuple #[]), (.int .i64 3), (pT gb 0), (uN (Kec.g (Kec.mixes (Kec.moves (Kec.columns (permn s r)))) 0)), (uN (Kec.g Kec.K r)), (uN ((Kec.g (Kec.mixes (Kec.moves (Kec.columns (permn s r)))) 0) ^^^ (Kec.g Kec.K r))), (pT gb 0), (iN (r + 1)), by kernel_rfl, by omega, h50.trans (by rw [permn_succ s r lt_r]; rfl), h51, h52, K53⟩, ?_⟩
      exact lt_meas (x := 24 - (r + 1)) (y := 24 - r) (by kernel_rfl) (by kernel_rfl) (by omega)
    · have eq_r : r = 24 := by omega
      have h54 : V29.heap[gb]? = some (.cells (Wz (Kec.perm s)) 87 (0, 0)) := h30.trans (by rw [eq_r, permn_all])
      refine sy_sq (part_kpermuted 232) (part_kpermuted 233) ?_
      refine sy_reg ?_
      refine rg_plain 3 (opsAt (part_kpermuted 232)) [0] (by kernel_rfl) (by kernel_rfl) ?_
      refine ps_p (o_kpermuted 232 0) (.bool false) (dcf ((((r : Nat) : Int)) < ((24) : Int)) (by omega)) ?_
      refine ps_end ?_
      refine then_n ?_
      refine sy_sq (part_kpermuted 466) (part_kpermuted 467) ?_
      refine sy_n (.tmp 14) (part_kpermuted 932) (part_kpermuted 933) ?_
      refine sy_exit 0 (by kernel_rfl) ?_
      refine then_e ?_
      refine then_e ?_
      refine blk_e ?_
      refine then_n ?_
      refine sy_sq (part_kpermuted 30) (part_kpermuted 31) ?_
      refine sy_reg ?_
      refine rg_plain 12 (opsAt (part_kpermuted 30)) [0, 1] (by kernel_rfl) (by kernel_rfl) ?_
      refine ps_p (o_kpermuted 30 0) (.agg (Wz (Kec.perm s))) (exec_load_row 87 (.tmp 1) (by kernel_rfl) gb (by kernel_rfl) _ _ (0, 0) _ (h54) Try.underlying87 rfl (by rw [Wz_size, Kec.len_perm hs]; kernel_rfl)) ?_
      obtain ⟨V55, eV55, kV55⟩ := rowset_step V29 gr ((Wz (Kec.perm s)))
      have h56 : V55.heap[gr]? = some (.cells (Wz (Kec.perm s)) 87 (0, 0)) := eV55 ▸ setRow_heap _ _ _ _ _ _ h31
      refine ps_s (o_kpermuted 30 1) (w' := V55) (by rw [← eV55]; exact exec_store_row 87 (.tmp 2) (.tmp 29) (by kernel_rfl) gr ((Wz (Kec.perm s))) (by kernel_rfl) (by kernel_rfl) 87 (zr_u64_25) h31 (by rw [Wz_size, Kec.len_perm hs]; kernel_rfl) (by rw [Wz_size, Kec.len_perm hs]; rfl) (Wz_one _)) ?_
      clear eV55
      have h57 := kV55.bo h54 (by omega)
      have h58 := kV55.bo h32 (by omega)
      have K59 := K33.no kV55 (by omega)
      refine ps_end ?_
      refine then_n ?_
      refine sy_ret (by kernel_rfl) ?_
      refine sy_out (.agg (Wz (Kec.perm s))) rfl (results_cell_row (p := 2) (ty := 87) (by kernel_rfl) _ _ gr 87 (Wz (Kec.perm s)) (0, 0) _ (by kernel_rfl) h56 Try.underlying87 rfl (by rw [Wz_size, Kec.len_perm hs]; kernel_rfl)) ?_
      exact ⟨rfl, K59⟩
end Go.Proofs.Ytenaakldccjnbaa
