/-
  Keccak: the constants, the permutation (printed by kec2.py). Conditions: none.
-/
import Derived.Test.YtolbdhgclcemlaaKecB
import Derived.Test.YtolbdhgclcemlaaSymIn
import Derived.Lib.Hide
import Derived.Sort.LoopGhostIn
import Derived.Laws.EntriesVeiled
namespace Go.Proofs.Ytolbdhgclcemlaa
open Go Go.RowKit Go.Own Go.Shelf
attribute [local go_sem] Oper.semAt_some

set_option maxRecDepth 100000 in
set_option maxHeartbeats 1000000 in
theorem kregister_ok (w : World) : Calls Try.prog 57 #[] w fun e w' => e = .returned (.func (.func 58) #[] #[]) ∧ w = w' := by
  go_enter Try.func57, Try.ntmps57
  go_wp2
  go_ret
  exact ⟨rfl, rfl⟩
theorem reg_and1 (k : Nat) : bits .and .u64 ((Kec.regn k : Nat) : Int) 1 = ((Kec.bitn k : Nat) : Int) := u64_and_nat (Kec.regn k) 1 (by have := Kec.regn_lt k; omega) (by decide)
theorem reg_and255 (m : Nat) (h : m < 512) : bits .and .u64 ((m : Nat) : Int) 255 = ((m &&& 255 : Nat) : Int) := u64_and_nat m 255 (by omega) (by decide)
theorem reg_xor113 (m : Nat) (h : m < 256) : bits .xor .u64 ((m : Nat) : Int) 113 = ((m ^^^ 113 : Nat) : Int) := u64_xor_nat m 113 (by omega) (by decide)

/-- The bits of the register, of which the caller takes n. -/
theorem kregister_seq (n : Nat) (hn : 1 ≤ n) (m : Nat) :
    SeqOwnG True Fence.wide n Try.prog 58 #[] (fun x : Nat => #[.int .u64 (x : Int)]) ((List.range m).map Kec.bitn) Nob (fun _ _ => True) := by
  intro l J Jx W0 hJ hJx hY hE h0 _
  have HY := Lib.hid hY; clear hY
  have HE := Lib.hid (hE trivial); clear hE
  refine callsIn_of_wp Try.func58 rfl trivial ?_ rfl
  simp only [Try.ntmps58, List.size_toArray, List.length_cons, List.length_nil, Nat.reduceAdd, Nat.reduceSub, Array.replicate_succ, Array.replicate_zero, List.push_toArray, List.append_toArray, List.nil_append, List.cons_append]
  gi_wp2_with fail
  gi_loopg [2] m (fun g e wr => ∃ k : Nat, k ≤ m ∧ g = m - k ∧ e = .int .u64 ((Kec.regn k : Nat) : Int) ∧ J k wr)
  case atStart => exact ⟨0, by omega, by omega, rfl, h0⟩
  case round =>
    obtain ⟨k, hk, hg, rfl, hj⟩ := hrel
    by_cases hlt : k < m
    · have hget : ((List.range m).map Kec.bitn)[k]? = some (Kec.bitn k) := by simp [hlt]
      obtain ⟨fn, tmps, assign, body, hy, hR⟩ := HY.out k _ wr hget hj trivial
      have hb := reg_and1 k
      have hr := Kec.regn_lt k
      have hn2 : Kec.regn (k + 1) = if 256 ≤ 2 * Kec.regn k then ((2 * Kec.regn k) &&& 255) ^^^ 113 else 2 * Kec.regn k := rfl
      have HN := Lib.hid hn2
      clear hn2 hget
      generalize Kec.regn k = r at *
      generalize Kec.bitn k = bt at *
      gi_wp2_with fail
      refine hR.mono ?_
      rintro e W3 (⟨rfl, hj3, _⟩ | ⟨rfl, hx3⟩)
      · by_cases h256 : 256 ≤ 2 * r
        · have d1 : decide ((256 : Int) ≤ (r : Int) * 2) = true := by simp; omega
          have e1 := reg_and255 (2 * r) (by omega)
          have e2 : (2 * r) &&& 255 < 2 ^ 8 := Nat.and_lt_two_pow _ (by decide)
          have e3 := reg_xor113 ((2 * r) &&& 255) e2
          rw [show ((2 * r : Nat) : Int) = (r : Int) * 2 by omega] at e1
          have w1 : IntKind.u64.wrap ((r : Int) * 2) = (r : Int) * 2 := by rw [show (r : Int) * 2 = ((2 * r : Nat) : Int) by omega]; exact wrapU _ (by omega)
          clear e2
          gi_wp2_with fail
          gi_roundg (m - (k + 1))
          case measure => omega
          case rel => exact ⟨k + 1, by omega, rfl, by rw [HN.out, if_pos h256], hj3⟩
        · have d1 : decide ((256 : Int) ≤ (r : Int) * 2) = false := by simp; omega
          have w1 : IntKind.u64.wrap ((r : Int) * 2) = (r : Int) * 2 := by rw [show (r : Int) * 2 = ((2 * r : Nat) : Int) by omega]; exact wrapU _ (by omega)
          gi_wp2_with fail
          gi_roundg (m - (k + 1))
          case measure => omega
          case rel => exact ⟨k + 1, by omega, rfl, by rw [HN.out, if_neg h256]; congr 1; omega, hj3⟩
      · gi_wp2
        go_end0
        exact ⟨⟨_, rfl⟩, .inr hx3⟩
    · exfalso
      have : k = m := by omega
      subst this
      exact HE.out wr (by simpa using hj)


theorem shl1 (j : Nat) (h : j < 7) : (1 <<< j) % Kec.W = 1 <<< j ∧ 1 <<< j ≤ 64 ∧ 1 ≤ 1 <<< j := by
  have : ∀ j : Fin 7, (1 <<< j.val) % Kec.W = 1 <<< j.val ∧ 1 <<< j.val ≤ 64 ∧ 1 ≤ 1 <<< j.val := by decide
  exact this ⟨j, h⟩

noncomputable def part_kconstants (n : Nat) : Code := partOf Try.f49 n
noncomputable abbrev o_kconstants (n k : Nat) : Oper := (opsAt (part_kconstants n)).getD k default
set_option maxRecDepth 100000 in
set_option maxHeartbeats 4000000 in
theorem kconst_more {l N : Nat} {u0 u4 u6 u7 u8 u9 u10 u11 u12 u13 u14 u15 u16 u17 u18 u19 u20 u21 u22 : Value} (k x go gs : Nat) (hx : x < Kec.W) (hxk : x = Kec.bitn k) (hlt : k < 168) (h168 : k + 1 ≠ 168) (hne : go ≠ gs) (w : World) (Q : Exit → Act → World → Prop) (hL : ¬ LetsOut Q) (hgo : w.heap[go]? = some (.cells (Wz (Kec.outn k)) 72 (0, 0))) (hgs : w.heap[gs]? = some (.cells #[.int .i64 ((k : Nat) : Int)] 3 (0, 0))) (hQ : ∀ a W, W.heap[go]? = some (.cells (Wz (Kec.outn (k + 1))) 72 (0, 0)) → W.heap[gs]? = some (.cells #[.int .i64 ((k + 1 : Nat) : Int)] 3 (0, 0)) → Keeps (fun j => j = go ∨ j = gs) w W → Q .normal a W) :
    (part_kconstants 245).wpIn (Fence.wide.inRound l) N Try.prog Q ⟨#[u0, .pointer (some ⟨go, 0, none⟩), .pointer (some ⟨gs, 0, none⟩), .int .u64 ((x : Nat) : Int), u4, .int .u64 ((x : Nat) : Int), u6, u7, u8, u9, u10, u11, u12, u13, u14, u15, u16, u17, u18, u19, u20, u21, u22], []⟩ w := by
  have s1 := shl1 (k % 7) (by omega)
  obtain ⟨_, s2, s3⟩ := s1
  have K0 : Keeps ((fun j => j = go ∨ j = gs)) w w := Keeps.refl _ _
  refine syI_block 1 (part_kconstants 490) (by kernel_rfl) ?_
  refine syI_seq (part_kconstants 980) (part_kconstants 981) (by kernel_rfl) ?_
  refine syI_reg (by kernel_rfl) (fun ⟨a, w, h⟩ => hL ⟨a, w, h⟩) ?_
  refine rg_still 5 12 (opsAt (part_kconstants 980)) [o_kconstants 980 0, o_kconstants 980 1, o_kconstants 980 2, o_kconstants 980 3, o_kconstants 980 4, o_kconstants 980 5, o_kconstants 980 6, o_kconstants 980 7, o_kconstants 980 8, o_kconstants 980 9, o_kconstants 980 10, o_kconstants 980 11] [o_kconstants 980 12] (by kernel_rfl) (by kernel_rfl) (by kernel_rfl) (by kernel_rfl) (by kernel_rfl) ?_
  obtain ⟨V2, eV2⟩ : ∃ V, w.drew = V := ⟨_, rfl⟩
  have kV2 : Keeps Nob w V2 := eV2 ▸ (Keeps.refl _ _).drew
  rw [eV2]
  clear eV2
  have h3 : V2.heap[go]? = some (.cells (Wz (Kec.outn k)) 72 (0, 0)) := (kV2.block go (lt_of_block hgo) (fun x => x)).trans hgo
  have h4 : V2.heap[gs]? = some (.cells (#[.int .i64 ((k : Nat) : Int)]) 3 (0, 0)) := (kV2.block gs (lt_of_block hgs) (fun x => x)).trans hgs
  have K5 : Keeps ((fun j => j = go ∨ j = gs)) w V2 := K0.then kV2 (fun _ _ x => x.elim)
  refine st_p (o_kconstants 980 0) (iN k) (exec_load_cell 3 (.tmp 2) (by kernel_rfl) ⟨gs, 0, none⟩ (by kernel_rfl) _ _ Try.underlying3 rfl ((cell_of_row _ _ _ _ _ _ (h4)).trans (by kernel_rfl))) ?_
  refine st_p (o_kconstants 980 1) (iN (k / 7)) (exec_cast (congrArg (Value.int .i64) (wrapN (k / 7) (by omega))) (by kernel_rfl)) ?_
  refine st_p (o_kconstants 980 2) (.pointer (some ⟨go, k / 7, none⟩)) (exec_cast (v := .pointer (some ⟨go, 0 + (k / 7) * 1, none⟩)) (by simp) (exec_indexAt_arr 72 (.tmp 1) (.tmp 7) (by kernel_rfl) go 0 (by kernel_rfl) .i64 (k / 7) (by kernel_rfl) _ _ 1 Try.underlying72 (by kernel_rfl) (by omega))) ?_
  refine st_p (o_kconstants 980 3) (uN (Kec.g (Kec.outn k) (k / 7))) (exec_load_cell 45 (.tmp 8) (by kernel_rfl) ⟨go, k / 7, none⟩ (by kernel_rfl) _ _ Try.underlying45 rfl ((cell_of_row _ _ _ _ _ _ (h3)).trans (Wz_get _ (k / 7) (by rw [Kec.outn_len]; omega)))) ?_
  refine st_k (o_kconstants 980 4) (uN x) ?_
  refine st_p (o_kconstants 980 5) (iN k) (exec_load_cell 3 (.tmp 2) (by kernel_rfl) ⟨gs, 0, none⟩ (by kernel_rfl) _ _ Try.underlying3 rfl ((cell_of_row _ _ _ _ _ _ (h4)).trans (by kernel_rfl))) ?_
  refine st_k (o_kconstants 980 6) (iN (k % 7)) ?_
  refine st_p (o_kconstants 980 7) (uN (1 <<< (k % 7))) (exec_cast (congrArg (fun n : Nat => Value.int .u64 (n : Int)) (shl1 (k % 7) (by omega)).1) (exec_binop .shl 70 3 (.const (.int .u64 1)) (.tmp 12) (by kernel_rfl) (uN 1) (iN (k % 7)) _ (by kernel_rfl) (by kernel_rfl) (by kernel_rfl) (run_shlU _ _ 1 (k % 7) (by omega)))) ?_
  refine st_p (o_kconstants 980 8) (uN (1 <<< (k % 7) - 1)) (exec_cast (v := .int .u64 (IntKind.u64.wrap (((1 <<< (k % 7) : Nat) : Int) - 1))) (congrArg (Value.int .u64) (by rw [show ((1 <<< (k % 7) : Nat) : Int) - (1 : Int) = ((1 <<< (k % 7) - 1 : Nat) : Int) by omega]; exact wrapU _ (by omega))) (by kernel_rfl)) ?_
  refine st_p (o_kconstants 980 9) (uN ((x <<< (1 <<< (k % 7) - 1)) % Kec.W)) (exec_binop .shl 45 70 (.tmp 10) (.tmp 14) (by kernel_rfl) (uN x) (uN (1 <<< (k % 7) - 1)) _ (by kernel_rfl) (by kernel_rfl) (by kernel_rfl) (run_shlU _ _ x _ (by omega))) ?_
  refine st_p (o_kconstants 980 10) (uN ((Kec.g (Kec.outn k) (k / 7)) ||| ((x <<< (1 <<< (k % 7) - 1)) % Kec.W))) (exec_cast (orU (Kec.g (Kec.outn k) (k / 7)) ((x <<< (1 <<< (k % 7) - 1)) % Kec.W) (Kec.ws_outn _ _) (Nat.mod_lt _ Kec.W_pos)) (by kernel_rfl)) ?_
  refine st_p (o_kconstants 980 11) (.pointer (some ⟨go, k / 7, none⟩)) (exec_cast (v := .pointer (some ⟨go, 0 + (k / 7) * 1, none⟩)) (by simp) (exec_indexAt_arr 72 (.tmp 1) (.tmp 7) (by kernel_rfl) go 0 (by kernel_rfl) .i64 (k / 7) (by kernel_rfl) _ _ 1 Try.underlying72 (by kernel_rfl) (by omega))) ?_
  refine st_end ?_
  obtain ⟨V6, eV6⟩ : ∃ V, V2.setCell ⟨go, k / 7, none⟩ (.int .u64 (((Kec.g (Kec.outn k) (k / 7)) ||| ((x <<< (1 <<< (k % 7) - 1)) % Kec.W) : Nat) : Int)) = V := ⟨_, rfl⟩
  have kV6 : Keeps (One go) V2 V6 := eV6 ▸ (Keeps.refl _ _).setOne _
  have h7 : V6.heap[go]? = some (.cells (Wz (Kec.outn (k + 1))) 72 (0, 0)) := eV6 ▸ ((heap_setCell_same _ go (k / 7) _ _ (.int .u64 (((Kec.g (Kec.outn k) (k / 7)) ||| ((x <<< (1 <<< (k % 7) - 1)) % Kec.W) : Nat) : Int)) h3).trans (congrArg (fun c => some (Obj.cells c 72 (0, 0))) (show (Wz (Kec.outn k) : Array Value).setIfInBounds (k / 7) (.int .u64 (((Kec.g (Kec.outn k) (k / 7)) ||| ((x <<< (1 <<< (k % 7) - 1)) % Kec.W) : Nat) : Int)) = Wz (Kec.outn (k + 1)) from by rw [Wz_set]; exact congrArg Wz (by subst hxk; rfl))))
  refine ls_skip (o_kconstants 980 12) (w' := V6) (by kernel_rfl) (by rw [← eV6]; exact exec_store_cell 45 (.tmp 17) (.tmp 16) (by kernel_rfl) go (k / 7) (by kernel_rfl) (.int .u64 (((Kec.g (Kec.outn k) (k / 7)) ||| ((x <<< (1 <<< (k % 7) - 1)) % Kec.W) : Nat) : Int)) (by kernel_rfl) (by kernel_rfl) (by kernel_rfl) (.int .u64 ((Kec.g (Kec.outn k) (k / 7) : Nat) : Int)) ((cell_of_row _ _ _ _ _ _ (h3)).trans (Wz_get _ (k / 7) (by rw [Kec.outn_len]; omega))) (frozen_of_row _ _ _ _ _ h3) (by kernel_rfl)) ?_
  clear eV6
  have h8 : V6.heap[gs]? = some (.cells (#[.int .i64 ((k : Nat) : Int)]) 3 (0, 0)) := (kV6.block gs (lt_of_block h4) (fun e => by unfold Own.One at e; omega)).trans h4
  have K9 : Keeps ((fun j => j = go ∨ j = gs)) w V6 := K5.then kV6 (fun i hi hm => by unfold Own.One at hm; subst hm; exact .inl rfl)
  refine ls_end ?_
  refine sy_a ⟨#[u0, pT go 0, pT gs 0, uN x, u4, uN x, iN k, iN (k / 7), .pointer (some ⟨go, k / 7, none⟩), uN (Kec.g (Kec.outn k) (k / 7)), uN x, iN k, iN (k % 7), uN (1 <<< (k % 7)), uN (1 <<< (k % 7) - 1), uN ((x <<< (1 <<< (k % 7) - 1)) % Kec.W), uN ((Kec.g (Kec.outn k) (k / 7)) ||| ((x <<< (1 <<< (k % 7) - 1)) % Kec.W)), .pointer (some ⟨go, k / 7, none⟩), u18, u19, u20, u21, u22], []⟩ ?_
  refine then_n ?_
  refine syI_seq (part_kconstants 1962) (part_kconstants 1963) (by kernel_rfl) ?_
  refine syI_reg (by kernel_rfl) (fun ⟨a, w, h⟩ => hL ⟨a, w, h⟩) ?_
  refine rg_plain 6 (opsAt (part_kconstants 1962)) [0, 1, 2] (by kernel_rfl) (by kernel_rfl) ?_
  refine ps_p (o_kconstants 1962 0) (iN k) (exec_load_cell 3 (.tmp 2) (by kernel_rfl) ⟨gs, 0, none⟩ (by kernel_rfl) _ _ Try.underlying3 rfl ((cell_of_row _ _ _ _ _ _ (h8)).trans (by kernel_rfl))) ?_
  refine ps_p (o_kconstants 1962 1) (iN (k + 1)) (exec_cast (congrArg (Value.int .i64) (wrapN (k + 1) (by omega))) (by kernel_rfl)) ?_
  obtain ⟨V10, eV10⟩ : ∃ V, V6.setCell ⟨gs, 0, none⟩ (.int .i64 ((k + 1 : Nat) : Int)) = V := ⟨_, rfl⟩
  have kV10 : Keeps (One gs) V6 V10 := eV10 ▸ (Keeps.refl _ _).setOne _
  have h11 : V10.heap[gs]? = some (.cells (#[.int .i64 ((k + 1 : Nat) : Int)]) 3 (0, 0)) := eV10 ▸ ((heap_setCell_same _ gs 0 _ _ (.int .i64 ((k + 1 : Nat) : Int)) h8).trans (congrArg (fun c => some (Obj.cells c 3 (0, 0))) (show (#[.int .i64 ((k : Nat) : Int)] : Array Value).setIfInBounds 0 (.int .i64 ((k + 1 : Nat) : Int)) = #[.int .i64 ((k + 1 : Nat) : Int)] from by kernel_rfl)))
  refine ps_skip (o_kconstants 1962 2) (w' := V10) (by kernel_rfl) (by kernel_rfl) (by rw [← eV10]; exact exec_store_cell 3 (.tmp 2) (.tmp 19) (by kernel_rfl) gs 0 (by kernel_rfl) (iN (k + 1)) (by kernel_rfl) (by kernel_rfl) (by kernel_rfl) (iN k) ((cell_of_row _ _ _ _ _ _ (h8)).trans (by kernel_rfl)) (frozen_of_row _ _ _ _ _ h8) (by kernel_rfl)) ?_
  clear eV10
  have h12 : V10.heap[go]? = some (.cells (Wz (Kec.outn (k + 1))) 72 (0, 0)) := (kV10.block go (lt_of_block h7) (fun e => by unfold Own.One at e; omega)).trans h7
  have K13 : Keeps ((fun j => j = go ∨ j = gs)) w V10 := K9.then kV10 (fun i hi hm => by unfold Own.One at hm; subst hm; exact .inr rfl)
  refine ps_end ?_
  refine sy_a ⟨#[u0, pT go 0, pT gs 0, uN x, u4, uN x, iN k, iN (k / 7), .pointer (some ⟨go, k / 7, none⟩), uN (Kec.g (Kec.outn k) (k / 7)), uN x, iN k, iN (k % 7), uN (1 <<< (k % 7)), uN (1 <<< (k % 7) - 1), uN ((x <<< (1 <<< (k % 7) - 1)) % Kec.W), uN ((Kec.g (Kec.outn k) (k / 7)) ||| ((x <<< (1 <<< (k % 7) - 1)) % Kec.W)), .pointer (some ⟨go, k / 7, none⟩), iN k, iN (k + 1), u20, u21, u22], []⟩ ?_
  refine then_n ?_
  refine syI_seq (part_kconstants 3926) (part_kconstants 3927) (by kernel_rfl) ?_
  refine syI_reg (by kernel_rfl) (fun ⟨a, w, h⟩ => hL ⟨a, w, h⟩) ?_
  refine rg_plain 7 (opsAt (part_kconstants 3926)) [0, 1] (by kernel_rfl) (by kernel_rfl) ?_
  refine ps_p (o_kconstants 3926 0) (iN (k + 1)) (exec_load_cell 3 (.tmp 2) (by kernel_rfl) ⟨gs, 0, none⟩ (by kernel_rfl) _ _ Try.underlying3 rfl ((cell_of_row _ _ _ _ _ _ (h11)).trans (by kernel_rfl))) ?_
  refine ps_p (o_kconstants 3926 1) (.bool false) (exec_cast (congrArg Value.bool (show (((((k + 1 : Nat) : Int)) == ((168) : Int))) = false from by simp only [beq_eq_false_iff_ne, ne_eq]; omega)) (by kernel_rfl)) ?_
  refine ps_end ?_
  refine sy_a ⟨#[u0, pT go 0, pT gs 0, uN x, u4, uN x, iN k, iN (k / 7), .pointer (some ⟨go, k / 7, none⟩), uN (Kec.g (Kec.outn k) (k / 7)), uN x, iN k, iN (k % 7), uN (1 <<< (k % 7)), uN (1 <<< (k % 7) - 1), uN ((x <<< (1 <<< (k % 7) - 1)) % Kec.W), uN ((Kec.g (Kec.outn k) (k / 7)) ||| ((x <<< (1 <<< (k % 7) - 1)) % Kec.W)), .pointer (some ⟨go, k / 7, none⟩), iN k, iN (k + 1), iN (k + 1), .bool false, u22], []⟩ ?_
  refine then_n ?_
  refine syI_no (.tmp 21) (part_kconstants 7854) (part_kconstants 7855) (by kernel_rfl) (by kernel_rfl) ?_
  refine syI_skip (by kernel_rfl) ?_
  refine blk_n ?_
  exact hQ _ _ h12 h11 K13
set_option maxRecDepth 100000 in
set_option maxHeartbeats 4000000 in
theorem kconst_last {l N : Nat} {u0 u4 u6 u7 u8 u9 u10 u11 u12 u13 u14 u15 u16 u17 u18 u19 u20 u21 u22 : Value} (k x go gs : Nat) (hx : x < Kec.W) (hxk : x = Kec.bitn k) (hlt : k < 168) (h168 : k + 1 = 168) (hne : go ≠ gs) (w : World) (Q : Exit → Act → World → Prop) (hL : ¬ LetsOut Q) (hgo : w.heap[go]? = some (.cells (Wz (Kec.outn k)) 72 (0, 0))) (hgs : w.heap[gs]? = some (.cells #[.int .i64 ((k : Nat) : Int)] 3 (0, 0))) (hQ : ∀ a W, W.heap[go]? = some (.cells (Wz (Kec.outn (k + 1))) 72 (0, 0)) → W.heap[gs]? = some (.cells #[.int .i64 ((k + 1 : Nat) : Int)] 3 (0, 0)) → Keeps (fun j => j = go ∨ j = gs) w W → Q (.exit 0) a W) :
    (part_kconstants 245).wpIn (Fence.wide.inRound l) N Try.prog Q ⟨#[u0, .pointer (some ⟨go, 0, none⟩), .pointer (some ⟨gs, 0, none⟩), .int .u64 ((x : Nat) : Int), u4, .int .u64 ((x : Nat) : Int), u6, u7, u8, u9, u10, u11, u12, u13, u14, u15, u16, u17, u18, u19, u20, u21, u22], []⟩ w := by
  have s1 := shl1 (k % 7) (by omega)
  obtain ⟨_, s2, s3⟩ := s1
  have K0 : Keeps ((fun j => j = go ∨ j = gs)) w w := Keeps.refl _ _
  refine syI_block 1 (part_kconstants 490) (by kernel_rfl) ?_
  refine syI_seq (part_kconstants 980) (part_kconstants 981) (by kernel_rfl) ?_
  refine syI_reg (by kernel_rfl) (fun ⟨a, w, h⟩ => hL ⟨a, w, h⟩) ?_
  refine rg_still 5 12 (opsAt (part_kconstants 980)) [o_kconstants 980 0, o_kconstants 980 1, o_kconstants 980 2, o_kconstants 980 3, o_kconstants 980 4, o_kconstants 980 5, o_kconstants 980 6, o_kconstants 980 7, o_kconstants 980 8, o_kconstants 980 9, o_kconstants 980 10, o_kconstants 980 11] [o_kconstants 980 12] (by kernel_rfl) (by kernel_rfl) (by kernel_rfl) (by kernel_rfl) (by kernel_rfl) ?_
  obtain ⟨V15, eV15⟩ : ∃ V, w.drew = V := ⟨_, rfl⟩
  have kV15 : Keeps Nob w V15 := eV15 ▸ (Keeps.refl _ _).drew
  rw [eV15]
  clear eV15
  have h16 : V15.heap[go]? = some (.cells (Wz (Kec.outn k)) 72 (0, 0)) := (kV15.block go (lt_of_block hgo) (fun x => x)).trans hgo
  have h17 : V15.heap[gs]? = some (.cells (#[.int .i64 ((k : Nat) : Int)]) 3 (0, 0)) := (kV15.block gs (lt_of_block hgs) (fun x => x)).trans hgs
  have K18 : Keeps ((fun j => j = go ∨ j = gs)) w V15 := K0.then kV15 (fun _ _ x => x.elim)
  refine st_p (o_kconstants 980 0) (iN k) (exec_load_cell 3 (.tmp 2) (by kernel_rfl) ⟨gs, 0, none⟩ (by kernel_rfl) _ _ Try.underlying3 rfl ((cell_of_row _ _ _ _ _ _ (h17)).trans (by kernel_rfl))) ?_
  refine st_p (o_kconstants 980 1) (iN (k / 7)) (exec_cast (congrArg (Value.int .i64) (wrapN (k / 7) (by omega))) (by kernel_rfl)) ?_
  refine st_p (o_kconstants 980 2) (.pointer (some ⟨go, k / 7, none⟩)) (exec_cast (v := .pointer (some ⟨go, 0 + (k / 7) * 1, none⟩)) (by simp) (exec_indexAt_arr 72 (.tmp 1) (.tmp 7) (by kernel_rfl) go 0 (by kernel_rfl) .i64 (k / 7) (by kernel_rfl) _ _ 1 Try.underlying72 (by kernel_rfl) (by omega))) ?_
  refine st_p (o_kconstants 980 3) (uN (Kec.g (Kec.outn k) (k / 7))) (exec_load_cell 45 (.tmp 8) (by kernel_rfl) ⟨go, k / 7, none⟩ (by kernel_rfl) _ _ Try.underlying45 rfl ((cell_of_row _ _ _ _ _ _ (h16)).trans (Wz_get _ (k / 7) (by rw [Kec.outn_len]; omega)))) ?_
  refine st_k (o_kconstants 980 4) (uN x) ?_
  refine st_p (o_kconstants 980 5) (iN k) (exec_load_cell 3 (.tmp 2) (by kernel_rfl) ⟨gs, 0, none⟩ (by kernel_rfl) _ _ Try.underlying3 rfl ((cell_of_row _ _ _ _ _ _ (h17)).trans (by kernel_rfl))) ?_
  refine st_k (o_kconstants 980 6) (iN (k % 7)) ?_
  refine st_p (o_kconstants 980 7) (uN (1 <<< (k % 7))) (exec_cast (congrArg (fun n : Nat => Value.int .u64 (n : Int)) (shl1 (k % 7) (by omega)).1) (exec_binop .shl 70 3 (.const (.int .u64 1)) (.tmp 12) (by kernel_rfl) (uN 1) (iN (k % 7)) _ (by kernel_rfl) (by kernel_rfl) (by kernel_rfl) (run_shlU _ _ 1 (k % 7) (by omega)))) ?_
  refine st_p (o_kconstants 980 8) (uN (1 <<< (k % 7) - 1)) (exec_cast (v := .int .u64 (IntKind.u64.wrap (((1 <<< (k % 7) : Nat) : Int) - 1))) (congrArg (Value.int .u64) (by rw [show ((1 <<< (k % 7) : Nat) : Int) - (1 : Int) = ((1 <<< (k % 7) - 1 : Nat) : Int) by omega]; exact wrapU _ (by omega))) (by kernel_rfl)) ?_
  refine st_p (o_kconstants 980 9) (uN ((x <<< (1 <<< (k % 7) - 1)) % Kec.W)) (exec_binop .shl 45 70 (.tmp 10) (.tmp 14) (by kernel_rfl) (uN x) (uN (1 <<< (k % 7) - 1)) _ (by kernel_rfl) (by kernel_rfl) (by kernel_rfl) (run_shlU _ _ x _ (by omega))) ?_
  refine st_p (o_kconstants 980 10) (uN ((Kec.g (Kec.outn k) (k / 7)) ||| ((x <<< (1 <<< (k % 7) - 1)) % Kec.W))) (exec_cast (orU (Kec.g (Kec.outn k) (k / 7)) ((x <<< (1 <<< (k % 7) - 1)) % Kec.W) (Kec.ws_outn _ _) (Nat.mod_lt _ Kec.W_pos)) (by kernel_rfl)) ?_
  refine st_p (o_kconstants 980 11) (.pointer (some ⟨go, k / 7, none⟩)) (exec_cast (v := .pointer (some ⟨go, 0 + (k / 7) * 1, none⟩)) (by simp) (exec_indexAt_arr 72 (.tmp 1) (.tmp 7) (by kernel_rfl) go 0 (by kernel_rfl) .i64 (k / 7) (by kernel_rfl) _ _ 1 Try.underlying72 (by kernel_rfl) (by omega))) ?_
  refine st_end ?_
  obtain ⟨V19, eV19⟩ : ∃ V, V15.setCell ⟨go, k / 7, none⟩ (.int .u64 (((Kec.g (Kec.outn k) (k / 7)) ||| ((x <<< (1 <<< (k % 7) - 1)) % Kec.W) : Nat) : Int)) = V := ⟨_, rfl⟩
  have kV19 : Keeps (One go) V15 V19 := eV19 ▸ (Keeps.refl _ _).setOne _
  have h20 : V19.heap[go]? = some (.cells (Wz (Kec.outn (k + 1))) 72 (0, 0)) := eV19 ▸ ((heap_setCell_same _ go (k / 7) _ _ (.int .u64 (((Kec.g (Kec.outn k) (k / 7)) ||| ((x <<< (1 <<< (k % 7) - 1)) % Kec.W) : Nat) : Int)) h16).trans (congrArg (fun c => some (Obj.cells c 72 (0, 0))) (show (Wz (Kec.outn k) : Array Value).setIfInBounds (k / 7) (.int .u64 (((Kec.g (Kec.outn k) (k / 7)) ||| ((x <<< (1 <<< (k % 7) - 1)) % Kec.W) : Nat) : Int)) = Wz (Kec.outn (k + 1)) from by rw [Wz_set]; exact congrArg Wz (by subst hxk; rfl))))
  refine ls_skip (o_kconstants 980 12) (w' := V19) (by kernel_rfl) (by rw [← eV19]; exact exec_store_cell 45 (.tmp 17) (.tmp 16) (by kernel_rfl) go (k / 7) (by kernel_rfl) (.int .u64 (((Kec.g (Kec.outn k) (k / 7)) ||| ((x <<< (1 <<< (k % 7) - 1)) % Kec.W) : Nat) : Int)) (by kernel_rfl) (by kernel_rfl) (by kernel_rfl) (.int .u64 ((Kec.g (Kec.outn k) (k / 7) : Nat) : Int)) ((cell_of_row _ _ _ _ _ _ (h16)).trans (Wz_get _ (k / 7) (by rw [Kec.outn_len]; omega))) (frozen_of_row _ _ _ _ _ h16) (by kernel_rfl)) ?_
  clear eV19
  have h21 : V19.heap[gs]? = some (.cells (#[.int .i64 ((k : Nat) : Int)]) 3 (0, 0)) := (kV19.block gs (lt_of_block h17) (fun e => by unfold Own.One at e; omega)).trans h17
  have K22 : Keeps ((fun j => j = go ∨ j = gs)) w V19 := K18.then kV19 (fun i hi hm => by unfold Own.One at hm; subst hm; exact .inl rfl)
  refine ls_end ?_
  refine sy_a ⟨#[u0, pT go 0, pT gs 0, uN x, u4, uN x, iN k, iN (k / 7), .pointer (some ⟨go, k / 7, none⟩), uN (Kec.g (Kec.outn k) (k / 7)), uN x, iN k, iN (k % 7), uN (1 <<< (k % 7)), uN (1 <<< (k % 7) - 1), uN ((x <<< (1 <<< (k % 7) - 1)) % Kec.W), uN ((Kec.g (Kec.outn k) (k / 7)) ||| ((x <<< (1 <<< (k % 7) - 1)) % Kec.W)), .pointer (some ⟨go, k / 7, none⟩), u18, u19, u20, u21, u22], []⟩ ?_
  refine then_n ?_
  refine syI_seq (part_kconstants 1962) (part_kconstants 1963) (by kernel_rfl) ?_
  refine syI_reg (by kernel_rfl) (fun ⟨a, w, h⟩ => hL ⟨a, w, h⟩) ?_
  refine rg_plain 6 (opsAt (part_kconstants 1962)) [0, 1, 2] (by kernel_rfl) (by kernel_rfl) ?_
  refine ps_p (o_kconstants 1962 0) (iN k) (exec_load_cell 3 (.tmp 2) (by kernel_rfl) ⟨gs, 0, none⟩ (by kernel_rfl) _ _ Try.underlying3 rfl ((cell_of_row _ _ _ _ _ _ (h21)).trans (by kernel_rfl))) ?_
  refine ps_p (o_kconstants 1962 1) (iN (k + 1)) (exec_cast (congrArg (Value.int .i64) (wrapN (k + 1) (by omega))) (by kernel_rfl)) ?_
  obtain ⟨V23, eV23⟩ : ∃ V, V19.setCell ⟨gs, 0, none⟩ (.int .i64 ((k + 1 : Nat) : Int)) = V := ⟨_, rfl⟩
  have kV23 : Keeps (One gs) V19 V23 := eV23 ▸ (Keeps.refl _ _).setOne _
  have h24 : V23.heap[gs]? = some (.cells (#[.int .i64 ((k + 1 : Nat) : Int)]) 3 (0, 0)) := eV23 ▸ ((heap_setCell_same _ gs 0 _ _ (.int .i64 ((k + 1 : Nat) : Int)) h21).trans (congrArg (fun c => some (Obj.cells c 3 (0, 0))) (show (#[.int .i64 ((k : Nat) : Int)] : Array Value).setIfInBounds 0 (.int .i64 ((k + 1 : Nat) : Int)) = #[.int .i64 ((k + 1 : Nat) : Int)] from by kernel_rfl)))
  refine ps_skip (o_kconstants 1962 2) (w' := V23) (by kernel_rfl) (by kernel_rfl) (by rw [← eV23]; exact exec_store_cell 3 (.tmp 2) (.tmp 19) (by kernel_rfl) gs 0 (by kernel_rfl) (iN (k + 1)) (by kernel_rfl) (by kernel_rfl) (by kernel_rfl) (iN k) ((cell_of_row _ _ _ _ _ _ (h21)).trans (by kernel_rfl)) (frozen_of_row _ _ _ _ _ h21) (by kernel_rfl)) ?_
  clear eV23
  have h25 : V23.heap[go]? = some (.cells (Wz (Kec.outn (k + 1))) 72 (0, 0)) := (kV23.block go (lt_of_block h20) (fun e => by unfold Own.One at e; omega)).trans h20
  have K26 : Keeps ((fun j => j = go ∨ j = gs)) w V23 := K22.then kV23 (fun i hi hm => by unfold Own.One at hm; subst hm; exact .inr rfl)
  refine ps_end ?_
  refine sy_a ⟨#[u0, pT go 0, pT gs 0, uN x, u4, uN x, iN k, iN (k / 7), .pointer (some ⟨go, k / 7, none⟩), uN (Kec.g (Kec.outn k) (k / 7)), uN x, iN k, iN (k % 7), uN (1 <<< (k % 7)), uN (1 <<< (k % 7) - 1), uN ((x <<< (1 <<< (k % 7) - 1)) % Kec.W), uN ((Kec.g (Kec.outn k) (k / 7)) ||| ((x <<< (1 <<< (k % 7) - 1)) % Kec.W)), .pointer (some ⟨go, k / 7, none⟩), iN k, iN (k + 1), u20, u21, u22], []⟩ ?_
  refine then_n ?_
  refine syI_seq (part_kconstants 3926) (part_kconstants 3927) (by kernel_rfl) ?_
  refine syI_reg (by kernel_rfl) (fun ⟨a, w, h⟩ => hL ⟨a, w, h⟩) ?_
  refine rg_plain 7 (opsAt (part_kconstants 3926)) [0, 1] (by kernel_rfl) (by kernel_rfl) ?_
  refine ps_p (o_kconstants 3926 0) (iN (k + 1)) (exec_load_cell 3 (.tmp 2) (by kernel_rfl) ⟨gs, 0, none⟩ (by kernel_rfl) _ _ Try.underlying3 rfl ((cell_of_row _ _ _ _ _ _ (h24)).trans (by kernel_rfl))) ?_
  refine ps_p (o_kconstants 3926 1) (.bool true) (exec_cast (congrArg Value.bool (show (((((k + 1 : Nat) : Int)) == ((168) : Int))) = true from by simp only [beq_iff_eq]; omega)) (by kernel_rfl)) ?_
  refine ps_end ?_
  refine sy_a ⟨#[u0, pT go 0, pT gs 0, uN x, u4, uN x, iN k, iN (k / 7), .pointer (some ⟨go, k / 7, none⟩), uN (Kec.g (Kec.outn k) (k / 7)), uN x, iN k, iN (k % 7), uN (1 <<< (k % 7)), uN (1 <<< (k % 7) - 1), uN ((x <<< (1 <<< (k % 7) - 1)) % Kec.W), uN ((Kec.g (Kec.outn k) (k / 7)) ||| ((x <<< (1 <<< (k % 7) - 1)) % Kec.W)), .pointer (some ⟨go, k / 7, none⟩), iN k, iN (k + 1), iN (k + 1), .bool true, u22], []⟩ ?_
  refine then_n ?_
  refine syI_yes (.tmp 21) (part_kconstants 7854) (part_kconstants 7855) (by kernel_rfl) (by kernel_rfl) ?_
  refine syI_exit 0 (by kernel_rfl) ?_
  refine blk_p (by decide) ?_
  exact hQ _ _ h25 h24 K26
set_option maxRecDepth 100000 in
set_option maxHeartbeats 4000000 in
theorem kconst_assign {l N : Nat} {u0 u1 u2 u3 u4 u6 u7 u8 u9 u10 u11 u12 u13 u14 u15 u16 u17 u18 u19 u20 u21 u22 : Value} (x : Nat) (w : World) (Q : Exit → Act → World → Prop) (hL : ¬ LetsOut Q) (hQ : Q .normal ⟨#[u0, u1, u2, .int .u64 ((x : Nat) : Int), u4, .int .u64 ((x : Nat) : Int), u6, u7, u8, u9, u10, u11, u12, u13, u14, u15, u16, u17, u18, u19, u20, u21, u22], []⟩ w) :
    (part_kconstants 244).wpIn (Fence.wide.inRound l) N Try.prog Q ⟨#[u0, u1, u2, u3, u4, .int .u64 ((x : Nat) : Int), u6, u7, u8, u9, u10, u11, u12, u13, u14, u15, u16, u17, u18, u19, u20, u21, u22], []⟩ w := by
  have K0 : Keeps Nob w w := Keeps.refl _ _
  refine syI_reg (by kernel_rfl) (fun ⟨a, w, h⟩ => hL ⟨a, w, h⟩) ?_
  refine rg_plain 4 (opsAt (part_kconstants 244)) [0] (by kernel_rfl) (by kernel_rfl) ?_
  refine ps_k (o_kconstants 244 0) (uN x) ?_
  refine ps_end ?_
  refine sy_a ⟨#[u0, u1, u2, uN x, u4, uN x, u6, u7, u8, u9, u10, u11, u12, u13, u14, u15, u16, u17, u18, u19, u20, u21, u22], []⟩ ?_
  exact hQ
set_option maxRecDepth 100000 in
set_option maxHeartbeats 4000000 in
theorem kconstants_ok (w : World) :
    Calls Try.prog 49 #[] w (fun e w' => e = .returned (.agg (Wz Kec.K)) ∧ Keeps Nob w w') := by
  have K0 : Keeps Nob w w := Keeps.refl _ _
  refine calls_marks 3 (c := (part_kconstants 1)) Try.func49 (by kernel_rfl) ?_
  refine sy_frame ⟨#[undef, undef, undef, undef, undef, undef, undef, undef, undef, undef, undef, undef, undef, undef, undef, undef, undef, undef, undef, undef, undef, undef, undef], []⟩ (by kernel_rfl) ?_
  refine sy_sq (part_kconstants 2) (part_kconstants 3) ?_
  refine sy_reg ?_
  refine rg_plain 0 (opsAt (part_kconstants 2)) [0] (by kernel_rfl) (by kernel_rfl) ?_
  obtain ⟨V27, eV27⟩ : ∃ V, w.alloc (.cells (zr_u64_24) 72) = V := ⟨_, rfl⟩
  obtain ⟨gr, egr⟩ : ∃ g, w.heap.size = g := ⟨_, rfl⟩
  have n29 : w.heap.size ≤ gr := egr ▸ K0.size
  have h28 : V27.heap[gr]? = some (.cells (zr_u64_24) 72 (0, 0)) := by rw [← eV27, ← egr]; exact heap_alloc_new _ _
  have kV27 : Keeps Nob w V27 := eV27 ▸ (Keeps.refl _ _).alloc _
  refine ps_run (o_kconstants 2 0) (pT gr 0) (w' := V27) (by kernel_rfl) (by kernel_rfl) (by rw [← eV27, ← egr]; exact exec_alloc0 72 (by kernel_rfl) (.agg (zr_u64_24)) (by kernel_rfl)) ?_
  clear eV27
  have K30 : Keeps Nob w V27 := K0.then kV27 (fun _ _ x => x.elim)
  refine ps_end ?_
  refine sy_a ⟨#[pT gr 0, undef, undef, undef, undef, undef, undef, undef, undef, undef, undef, undef, undef, undef, undef, undef, undef, undef, undef, undef, undef, undef, undef], []⟩ ?_
  refine then_n ?_
  refine sy_sq (part_kconstants 6) (part_kconstants 7) ?_
  refine sy_reg ?_
  refine rg_plain 1 (opsAt (part_kconstants 6)) [0] (by kernel_rfl) (by kernel_rfl) ?_
  obtain ⟨V31, eV31⟩ : ∃ V, V27.alloc (.cells (zr_u64_24) 72) = V := ⟨_, rfl⟩
  obtain ⟨go, ego⟩ : ∃ g, V27.heap.size = g := ⟨_, rfl⟩
  have n33 : gr < go := ego ▸ lt_of_block h28
  have n34 : w.heap.size ≤ go := ego ▸ K30.size
  have h32 : V31.heap[go]? = some (.cells (zr_u64_24) 72 (0, 0)) := by rw [← eV31, ← ego]; exact heap_alloc_new _ _
  have kV31 : Keeps Nob V27 V31 := eV31 ▸ (Keeps.refl _ _).alloc _
  refine ps_run (o_kconstants 6 0) (pT go 0) (w' := V31) (by kernel_rfl) (by kernel_rfl) (by rw [← eV31, ← ego]; exact exec_alloc0 72 (by kernel_rfl) (.agg (zr_u64_24)) (by kernel_rfl)) ?_
  clear eV31
  have h35 : V31.heap[gr]? = some (.cells (zr_u64_24) 72 (0, 0)) := (kV31.block gr (lt_of_block h28) (fun x => x)).trans h28
  have K36 : Keeps Nob w V31 := K30.then kV31 (fun _ _ x => x.elim)
  refine ps_end ?_
  refine sy_a ⟨#[pT gr 0, pT go 0, undef, undef, undef, undef, undef, undef, undef, undef, undef, undef, undef, undef, undef, undef, undef, undef, undef, undef, undef, undef, undef], []⟩ ?_
  refine then_n ?_
  refine sy_sq (part_kconstants 14) (part_kconstants 15) ?_
  refine sy_reg ?_
  refine rg_plain 2 (opsAt (part_kconstants 14)) [0, 1] (by kernel_rfl) (by kernel_rfl) ?_
  obtain ⟨V37, eV37⟩ : ∃ V, V31.alloc (.cells (#[.int .i64 0]) 3) = V := ⟨_, rfl⟩
  obtain ⟨gs, egs⟩ : ∃ g, V31.heap.size = g := ⟨_, rfl⟩
  have n39 : gr < gs := egs ▸ lt_of_block h35
  have n40 : go < gs := egs ▸ lt_of_block h32
  have n41 : w.heap.size ≤ gs := egs ▸ K36.size
  have h38 : V37.heap[gs]? = some (.cells (#[.int .i64 0]) 3 (0, 0)) := by rw [← eV37, ← egs]; exact heap_alloc_new _ _
  have kV37 : Keeps Nob V31 V37 := eV37 ▸ (Keeps.refl _ _).alloc _
  refine ps_run (o_kconstants 14 0) (pT gs 0) (w' := V37) (by kernel_rfl) (by kernel_rfl) (by rw [← eV37, ← egs]; exact exec_alloc0 3 (by kernel_rfl) (.int .i64 0) (by kernel_rfl)) ?_
  clear eV37
  have h42 : V37.heap[gr]? = some (.cells (zr_u64_24) 72 (0, 0)) := (kV37.block gr (lt_of_block h35) (fun x => x)).trans h35
  have h43 : V37.heap[go]? = some (.cells (zr_u64_24) 72 (0, 0)) := (kV37.block go (lt_of_block h32) (fun x => x)).trans h32
  have K44 : Keeps Nob w V37 := K36.then kV37 (fun _ _ x => x.elim)
  obtain ⟨V45, eV45⟩ : ∃ V, V37.setCell ⟨gs, 0, none⟩ (.int .i64 0) = V := ⟨_, rfl⟩
  have kV45 : Keeps (One gs) V37 V45 := eV45 ▸ (Keeps.refl _ _).setOne _
  have h46 : V45.heap[gs]? = some (.cells (#[.int .i64 0]) 3 (0, 0)) := eV45 ▸ ((heap_setCell_same _ gs 0 _ _ (.int .i64 0) h38).trans (congrArg (fun c => some (Obj.cells c 3 (0, 0))) (show (#[.int .i64 0] : Array Value).setIfInBounds 0 (.int .i64 0) = #[.int .i64 0] from by kernel_rfl)))
  refine ps_skip (o_kconstants 14 1) (w' := V45) (by kernel_rfl) (by kernel_rfl) (by rw [← eV45]; exact exec_store_cell 3 (.tmp 2) (.const (.int .i64 0)) (by kernel_rfl) gs 0 (by kernel_rfl) (.int .i64 0) (by kernel_rfl) (by kernel_rfl) (by kernel_rfl) (.int .i64 0) ((cell_of_row _ _ _ _ _ _ (h38)).trans (by kernel_rfl)) (frozen_of_row _ _ _ _ _ h38) (by kernel_rfl)) ?_
  clear eV45
  have h47 : V45.heap[gr]? = some (.cells (zr_u64_24) 72 (0, 0)) := (kV45.block gr (lt_of_block h42) (fun e => by unfold Own.One at e; omega)).trans h42
  have h48 : V45.heap[go]? = some (.cells (zr_u64_24) 72 (0, 0)) := (kV45.block go (lt_of_block h43) (fun e => by unfold Own.One at e; omega)).trans h43
  have K49 : Keeps Nob w V45 := K44.then kV45 (fun i hi hm => absurd hi (by unfold Own.One at hm; omega))
  refine ps_end ?_
  refine sy_a ⟨#[pT gr 0, pT go 0, pT gs 0, undef, undef, undef, undef, undef, undef, undef, undef, undef, undef, undef, undef, undef, undef, undef, undef, undef, undef, undef, undef], []⟩ ?_
  refine then_n ?_
  refine sy_sq (part_kconstants 30) (part_kconstants 31) ?_
  refine sy_sq (part_kconstants 60) (part_kconstants 61) ?_
  refine sy_reg ?_
  refine rg_plain 3 (opsAt (part_kconstants 60)) [0] (by kernel_rfl) (by kernel_rfl) ?_
  refine ps_call (o_kconstants 60 0) 57 #[] (by kernel_rfl) (by kernel_rfl) (by kernel_rfl) (by kernel_rfl) (enters_of Try.func57 (by kernel_rfl) rfl) ((kregister_ok _).mono ?_)
  rintro e w1 ⟨rfl, rfl⟩
  refine ⟨_, rfl, ?_⟩
  refine ps_end ?_
  refine sy_a ⟨#[pT gr 0, pT go 0, pT gs 0, undef, .func (.func 58) #[] #[], undef, undef, undef, undef, undef, undef, undef, undef, undef, undef, undef, undef, undef, undef, undef, undef, undef, undef], []⟩ ?_
  refine then_n ?_
  refine sy_bk 0 (part_kconstants 122) ?_
  have szW : w.heap.size ≤ V45.heap.size := K49.size
  have ltr := lt_of_block h47
  have lto := lt_of_block h48
  have lts := lt_of_block h46
  refine sy_part (.rangeFunc (.tmp 4) #[5] (part_kconstants 244) (part_kconstants 245)) (by kernel_rfl) ?_
  refine wp_range1G True 3 (gf := 58) (lb := #[]) (by kernel_rfl) (enters_of Try.func58 (by kernel_rfl) rfl) (encs := fun x : Nat => #[.int .u64 (x : Int)]) (fun _ => rfl) (xs := (List.range 168).map Kec.bitn) (Mi := Nob) (S := fun _ _ => True) (fun _ h => h.elim) (kregister_seq 5 (by omega) 168) (fun _ _ _ _ _ => trivial) trivial
    (fun k V => k < 168 ∧ V.heap[gr]? = some (.cells zr_u64_24 72 (0, 0)) ∧ V.heap[go]? = some (.cells (Wz (Kec.outn k)) 72 (0, 0)) ∧ V.heap[gs]? = some (.cells #[.int .i64 ((k : Nat) : Int)] 3 (0, 0)) ∧ Keeps Nob w V) (fun c V => c = .exit 0 ∧ V.heap[gr]? = some (.cells zr_u64_24 72 (0, 0)) ∧ V.heap[go]? = some (.cells (Wz (Kec.outn 168)) 72 (0, 0)) ∧ V.heap[gs]? = some (.cells #[.int .i64 ((168 : Nat) : Int)] 3 (0, 0)) ∧ Keeps Nob w V) ?hI ?hIx ?h0 ?hE (fun x => ⟨#[.pointer (some ⟨gr, 0, none⟩), .pointer (some ⟨go, 0, none⟩), .pointer (some ⟨gs, 0, none⟩), .int .u64 ((x : Nat) : Int), .func (.func 58) #[] #[], .int .u64 ((x : Nat) : Int), undef, undef, undef, undef, undef, undef, undef, undef, undef, undef, undef, undef, undef, undef, undef, undef, undef], []⟩) ?assign ?body ?done ?stop
  case h0 => exact ⟨by omega, h47, h48.trans (by kernel_rfl), h46.trans (by kernel_rfl), K49⟩
  case hE => rintro _ V ⟨h, _⟩; simp at h
  case hI =>
    rintro k A V ⟨h1, h2, h3, h4, h5⟩ t
    exact ⟨h1, t.same _ _ h2 (fun x => x) (.inr rfl), t.same _ _ h3 (fun x => x) (.inr rfl), t.same _ _ h4 (fun x => x) (.inr rfl), t.keepsN h5 szW⟩
  case hIx =>
    rintro k A V ⟨h1, h2, h3, h4, h5⟩ t
    exact ⟨h1, t.same _ _ h2 (fun x => x) (.inr rfl), t.same _ _ h3 (fun x => x) (.inr rfl), t.same _ _ h4 (fun x => x) (.inr rfl), t.keepsN h5 szW⟩
  case assign =>
    intro l k x V K hx hi hs hK
    refine syI_frame ⟨#[.pointer (some ⟨gr, 0, none⟩), .pointer (some ⟨go, 0, none⟩), .pointer (some ⟨gs, 0, none⟩), undef, .func (.func 58) #[] #[], .int .u64 ((x : Nat) : Int), undef, undef, undef, undef, undef, undef, undef, undef, undef, undef, undef, undef, undef, undef, undef, undef, undef], []⟩ (by kernel_rfl) ?_
    refine kconst_assign x V _ ?_ ?_
    · exact fun h => h.elim fun _ h => h.elim fun _ h => h
    · exact hK
  case body =>
    rintro l k x V hl hr hx ⟨h1, h2, h3, h4, h5⟩ _
    have hxk : x = Kec.bitn k := by rw [List.getElem?_map, List.getElem?_range h1] at hx; simpa using hx.symm
    have hxl : x < Kec.W := by have := Kec.bitn_lt k; have := Kec.W_eq; rw [hxk]; omega
    by_cases h168 : k + 1 = 168
    · refine kconst_last k x go gs hxl hxk h1 h168 (by omega) V _ (fun h => h.elim fun _ h => h.elim fun _ h => h) h3 h4 (fun a W g1 g2 g3 => ?_)
      have e1 := (g3.block gr (lt_of_block h2) (by intro e; omega)).trans h2
      refine ⟨g3.from (fun j hj => by rcases hj with rfl | rfl <;> omega), rfl, e1, ?_, ?_, h5.then g3 (fun i hi hm => by omega)⟩
      · rw [h168] at g1; exact g1
      · rw [h168] at g2; exact g2
    · refine kconst_more k x go gs hxl hxk h1 h168 (by omega) V _ (fun h => h.elim fun _ h => h.elim fun _ h => h) h3 h4 (fun a W g1 g2 g3 => ?_)
      have e1 := (g3.block gr (lt_of_block h2) (by intro e; omega)).trans h2
      exact ⟨g3.from (fun j hj => by rcases hj with rfl | rfl <;> omega), ⟨by omega, e1, g1, g2, h5.then g3 (fun i hi hm => by omega)⟩, trivial⟩
  case done =>
    rintro D V hD ⟨h, _⟩ hK
    simp at h
  case stop =>
    rintro D c Vz hD ⟨rfl, h2, h3, h4, h5⟩ hK
    have hDs : V45.heap.size ≤ D := hD
    refine sy_exit 0 rfl ?_
    refine blk_e ?_
    refine then_n ?_
    refine sy_sq (part_kconstants 62) (part_kconstants 63) ?_
    refine sy_reg ?_
    refine rg_plain 8 (opsAt (part_kconstants 62)) [0, 1] (by kernel_rfl) (by kernel_rfl) ?_
    refine ps_p (o_kconstants 62 0) (.agg (Wz (Kec.outn 168))) (exec_load_row 72 (.tmp 1) (by kernel_rfl) go (by kernel_rfl) _ _ (0, 0) _ (h3) Try.underlying72 rfl (by rw [Wz_size, Kec.outn_len]; kernel_rfl)) ?_
    obtain ⟨V50, eV50⟩ : ∃ V, Vz.setRow gr ((Wz (Kec.outn 168))) = V := ⟨_, rfl⟩
    have kV50 : Keeps (One gr) Vz V50 := eV50 ▸ (Keeps.refl (One gr) _).setRow (fun _ => (rfl : Own.One gr gr)) _
    have h51 : V50.heap[gr]? = some (.cells (Wz (Kec.outn 168)) 72 (0, 0)) := eV50 ▸ setRow_heap _ _ _ _ _ _ h2
    refine ps_skip (o_kconstants 62 1) (w' := V50) (by kernel_rfl) (by kernel_rfl) (by rw [← eV50]; exact exec_store_row 72 (.tmp 0) (.tmp 22) (by kernel_rfl) gr ((Wz (Kec.outn 168))) (by kernel_rfl) (by kernel_rfl) 72 (zr_u64_24) h2 (by rw [Wz_size, Kec.outn_len]; kernel_rfl) (by rw [Wz_size, Kec.outn_len]; rfl) (Wz_one _)) ?_
    clear eV50
    have h52 : V50.heap[go]? = some (.cells (Wz (Kec.outn 168)) 72 (0, 0)) := (kV50.block go (lt_of_block h3) (fun e => by unfold Own.One at e; omega)).trans h3
    have h53 : V50.heap[gs]? = some (.cells (#[.int .i64 168]) 3 (0, 0)) := (kV50.block gs (lt_of_block h4) (fun e => by unfold Own.One at e; omega)).trans h4
    have h54 : V50.heap[D]? = some (.deferred (some [])) := (kV50.block D (Array.getElem?_eq_some_iff.1 hK).1 (by intro e; first | exact e.elim | (unfold Own.One at e; omega) | omega)).trans hK
    have K55 : Keeps Nob w V50 := h5.then kV50 (fun i hi hm => absurd hi (by unfold Own.One at hm; omega))
    refine ps_end ?_
    refine sy_a ⟨#[pT gr 0, pT go 0, pT gs 0, undef, .func (.func 58) #[] #[], undef, undef, undef, undef, undef, undef, undef, undef, undef, undef, undef, undef, undef, undef, undef, undef, undef, .agg (Wz (Kec.outn 168))], [{ target := .collected D, args := #[] }]⟩ ?_
    refine then_n ?_
    refine sy_ret (by kernel_rfl) ?_
    obtain ⟨V56, eV56⟩ : ∃ V, V50.putObj D (.deferred none) = V := ⟨_, rfl⟩
    have tV56 : Turn V45.heap.size Nob V50 V56 := eV56 ▸ Turn.put _ _ _ _ hDs h54 rfl
    have h57 : V56.heap[go]? = some (.cells (Wz (Kec.outn 168)) 72 (0, 0)) := tV56.same _ _ h52 (fun x => x) (.inr rfl)
    have h58 : V56.heap[gs]? = some (.cells (#[.int .i64 168]) 3 (0, 0)) := tV56.same _ _ h53 (fun x => x) (.inr rfl)
    have h59 : V56.heap[gr]? = some (.cells (Wz (Kec.outn 168)) 72 (0, 0)) := tV56.same _ _ h51 (fun x => x) (.inr rfl)
    have K60 : Keeps Nob w V56 := tV56.keepsN K55 (by omega)
    refine marks_ret h54 (v := .agg (Wz (Kec.outn 168))) (by rw [eV56]; exact results_cell_row (p := 0) (ty := 72) (by kernel_rfl) _ _ gr 72 (Wz (Kec.outn 168)) (0, 0) _ (by kernel_rfl) h59 Try.underlying72 rfl (by rw [Wz_size, Kec.outn_len]; kernel_rfl)) ?_
    rw [eV56]
    exact ⟨by rw [Kec.outn_K], K60⟩

theorem K_len : Kec.K.length = 24 := rfl
theorem ws_K : Kec.Ws Kec.K := by
  intro i
  by_cases h : i < 24
  · have : ∀ j : Fin 24, Kec.g Kec.K j.val < Kec.W := by decide
    exact this ⟨i, h⟩
  · rw [Kec.g_big _ _ (by rw [K_len]; omega)]; exact Kec.W_pos
/-- So many rounds. -/
def permn (s : List Nat) (r : Nat) : List Nat := (Kec.K.take r).foldl Kec.round s
theorem permn_succ (s : List Nat) (r : Nat) (h : r < 24) : permn s (r + 1) = Kec.round (permn s r) (Kec.g Kec.K r) := by
  unfold permn Kec.g
  rw [List.take_succ_eq_append_getElem (by rw [K_len]; exact h), List.foldl_append]
  simp [List.getElem?_eq_getElem (show r < Kec.K.length by rw [K_len]; exact h)]
theorem permn_len (s : List Nat) (hs : s.length = 25) (r : Nat) : (permn s r).length = 25 := Kec.len_fold _ _ hs
theorem permn_ws (s : List Nat) (ws : Kec.Ws s) (r : Nat) : Kec.Ws (permn s r) := Kec.ws_fold _ (fun k hk => Kec.K_lt k (List.mem_of_mem_take hk)) s ws
theorem permn_all (s : List Nat) : permn s 24 = Kec.perm s := by
  unfold permn Kec.perm
  rw [List.take_of_length_le (by rw [K_len]; omega)]

noncomputable def part_kpermuted (n : Nat) : Code := partOf Try.f42 n
noncomputable abbrev o_kpermuted (n k : Nat) : Oper := (opsAt (part_kpermuted n)).getD k default
set_option maxRecDepth 100000 in
set_option maxHeartbeats 4000000 in
theorem kpermuted_ok (s : List Nat) (w : World) (hs : s.length = 25) (ws : Kec.Ws s) :
    Calls Try.prog 42 #[.agg (Wz s)] w (fun e w' => e = .returned (.agg (Wz (Kec.perm s))) ∧ Keeps Nob w w') := by
  have K0 : Keeps Nob w w := Keeps.refl _ _
  refine sy_enter (part_kpermuted 1) ⟨#[.agg (Wz s), undef, undef, undef, undef, undef, undef, undef, undef, undef, undef, undef, undef, undef, undef, undef, undef, undef, undef, undef, undef, undef, undef, undef, undef, undef, undef, undef, undef, undef], []⟩ Try.func42 (by kernel_rfl) (by kernel_rfl) ?_
  refine sy_sq (part_kpermuted 2) (part_kpermuted 3) ?_
  refine sy_reg ?_
  refine rg_plain 0 (opsAt (part_kpermuted 2)) [0, 1] (by kernel_rfl) (by kernel_rfl) ?_
  obtain ⟨V1, eV1⟩ : ∃ V, w.alloc (.cells ((Wz s)) 61) = V := ⟨_, rfl⟩
  obtain ⟨gb, egb⟩ : ∃ g, w.heap.size = g := ⟨_, rfl⟩
  have n3 : w.heap.size ≤ gb := egb ▸ K0.size
  have h2 : V1.heap[gb]? = some (.cells ((Wz s)) 61 (0, 0)) := by rw [← eV1, ← egb]; exact heap_alloc_new _ _
  have kV1 : Keeps Nob w V1 := eV1 ▸ (Keeps.refl _ _).alloc _
  refine ps_run (o_kpermuted 2 0) (pT gb 0) (w' := V1) (by kernel_rfl) (by kernel_rfl) (by rw [← eV1, ← egb]; exact exec_box 61 (.tmp 0) (by kernel_rfl) (.agg (Wz s)) (by kernel_rfl)) ?_
  clear eV1
  have K4 : Keeps Nob w V1 := K0.then kV1 (fun _ _ x => x.elim)
  obtain ⟨V5, eV5⟩ : ∃ V, V1.alloc (.cells (zr_u64_25) 61) = V := ⟨_, rfl⟩
  obtain ⟨gr, egr⟩ : ∃ g, V1.heap.size = g := ⟨_, rfl⟩
  have n7 : gb < gr := egr ▸ lt_of_block h2
  have n8 : w.heap.size ≤ gr := egr ▸ K4.size
  have h6 : V5.heap[gr]? = some (.cells (zr_u64_25) 61 (0, 0)) := by rw [← eV5, ← egr]; exact heap_alloc_new _ _
  have kV5 : Keeps Nob V1 V5 := eV5 ▸ (Keeps.refl _ _).alloc _
  refine ps_run (o_kpermuted 2 1) (pT gr 0) (w' := V5) (by kernel_rfl) (by kernel_rfl) (by rw [← eV5, ← egr]; exact exec_alloc0 61 (by kernel_rfl) (.agg (zr_u64_25)) (by kernel_rfl)) ?_
  clear eV5
  have h9 : V5.heap[gb]? = some (.cells (Wz s) 61 (0, 0)) := (kV5.block gb (lt_of_block h2) (fun x => x)).trans h2
  have K10 : Keeps Nob w V5 := K4.then kV5 (fun _ _ x => x.elim)
  refine ps_end ?_
  refine sy_a ⟨#[.agg (Wz s), pT gb 0, pT gr 0, undef, undef, undef, undef, undef, undef, undef, undef, undef, undef, undef, undef, undef, undef, undef, undef, undef, undef, undef, undef, undef, undef, undef, undef, undef, undef, undef], []⟩ ?_
  refine then_n ?_
  refine sy_sq (part_kpermuted 6) (part_kpermuted 7) ?_
  refine sy_reg ?_
  refine rg_plain 1 (opsAt (part_kpermuted 6)) [0, 1, 2, 3, 4, 5] (by kernel_rfl) (by kernel_rfl) ?_
  refine ps_k (o_kpermuted 6 0) (.func (.func 46) #[pT gb 0] #[]) ?_
  refine ps_k (o_kpermuted 6 1) (.func (.func 47) #[pT gb 0] #[]) ?_
  refine ps_k (o_kpermuted 6 2) (.func (.func 48) #[pT gb 0] #[]) ?_
  refine ps_k (o_kpermuted 6 3) (.agg #[.func (.func 46) #[pT gb 0] #[], .func (.func 47) #[pT gb 0] #[], .func (.func 48) #[pT gb 0] #[]]) ?_
  obtain ⟨V11, eV11⟩ : ∃ V, V5.alloc (.cells (#[.nilFunc, .nilFunc, .nilFunc]) 75) = V := ⟨_, rfl⟩
  obtain ⟨gt, egt⟩ : ∃ g, V5.heap.size = g := ⟨_, rfl⟩
  have n13 : gb < gt := egt ▸ lt_of_block h9
  have n14 : gr < gt := egt ▸ lt_of_block h6
  have n15 : w.heap.size ≤ gt := egt ▸ K10.size
  have h12 : V11.heap[gt]? = some (.cells (#[.nilFunc, .nilFunc, .nilFunc]) 75 (0, 0)) := by rw [← eV11, ← egt]; exact heap_alloc_new _ _
  have kV11 : Keeps Nob V5 V11 := eV11 ▸ (Keeps.refl _ _).alloc _
  refine ps_run (o_kpermuted 6 4) (pT gt 0) (w' := V11) (by kernel_rfl) (by kernel_rfl) (by rw [← eV11, ← egt]; exact exec_alloc0 75 (by kernel_rfl) (.agg (#[.nilFunc, .nilFunc, .nilFunc])) (by kernel_rfl)) ?_
  clear eV11
  have h16 : V11.heap[gb]? = some (.cells (Wz s) 61 (0, 0)) := (kV11.block gb (lt_of_block h9) (fun x => x)).trans h9
  have h17 : V11.heap[gr]? = some (.cells (zr_u64_25) 61 (0, 0)) := (kV11.block gr (lt_of_block h6) (fun x => x)).trans h6
  have K18 : Keeps Nob w V11 := K10.then kV11 (fun _ _ x => x.elim)
  obtain ⟨V19, eV19⟩ : ∃ V, V11.setRow gt (#[.func (.func 46) #[.pointer (some ⟨gb, 0, none⟩)] #[], .func (.func 47) #[.pointer (some ⟨gb, 0, none⟩)] #[], .func (.func 48) #[.pointer (some ⟨gb, 0, none⟩)] #[]]) = V := ⟨_, rfl⟩
  have kV19 : Keeps (One gt) V11 V19 := eV19 ▸ (Keeps.refl (One gt) _).setRow (fun _ => (rfl : Own.One gt gt)) _
  have h20 : V19.heap[gt]? = some (.cells (#[.func (.func 46) #[.pointer (some ⟨gb, 0, none⟩)] #[], .func (.func 47) #[.pointer (some ⟨gb, 0, none⟩)] #[], .func (.func 48) #[.pointer (some ⟨gb, 0, none⟩)] #[]]) 75 (0, 0)) := eV19 ▸ setRow_heap _ _ _ _ _ _ h12
  refine ps_skip (o_kpermuted 6 5) (w' := V19) (by kernel_rfl) (by kernel_rfl) (by rw [← eV19]; exact exec_store_row 75 (.tmp 3) (.tmp 11) (by kernel_rfl) gt (#[.func (.func 46) #[pT gb 0] #[], .func (.func 47) #[pT gb 0] #[], .func (.func 48) #[pT gb 0] #[]]) (by kernel_rfl) (by kernel_rfl) 75 (#[.nilFunc, .nilFunc, .nilFunc]) h12 (by kernel_rfl) (by kernel_rfl) (by kernel_rfl)) ?_
  clear eV19
  have h21 : V19.heap[gb]? = some (.cells (Wz s) 61 (0, 0)) := (kV19.block gb (lt_of_block h16) (fun e => by unfold Own.One at e; omega)).trans h16
  have h22 : V19.heap[gr]? = some (.cells (zr_u64_25) 61 (0, 0)) := (kV19.block gr (lt_of_block h17) (fun e => by unfold Own.One at e; omega)).trans h17
  have K23 : Keeps Nob w V19 := K18.then kV19 (fun i hi hm => absurd hi (by unfold Own.One at hm; omega))
  refine ps_end ?_
  refine sy_a ⟨#[.agg (Wz s), pT gb 0, pT gr 0, pT gt 0, undef, undef, undef, undef, .func (.func 46) #[pT gb 0] #[], .func (.func 47) #[pT gb 0] #[], .func (.func 48) #[pT gb 0] #[], .agg #[.func (.func 46) #[pT gb 0] #[], .func (.func 47) #[pT gb 0] #[], .func (.func 48) #[pT gb 0] #[]], undef, undef, undef, undef, undef, undef, undef, undef, undef, undef, undef, undef, undef, undef, undef, undef, undef, undef], []⟩ ?_
  refine then_n ?_
  refine sy_sq (part_kpermuted 14) (part_kpermuted 15) ?_
  refine sy_sq (part_kpermuted 28) (part_kpermuted 29) ?_
  refine sy_reg ?_
  refine rg_plain 2 (opsAt (part_kpermuted 28)) [0, 1] (by kernel_rfl) (by kernel_rfl) ?_
  refine ps_call (o_kpermuted 28 0) 49 #[] (by kernel_rfl) (by kernel_rfl) (by kernel_rfl) (by kernel_rfl) (enters_of Try.func49 (by kernel_rfl) rfl) ((kconstants_ok _).mono ?_)
  rintro e V24 ⟨rfl, kV24⟩
  refine ⟨_, rfl, ?_⟩
  have h25 : V24.heap[gb]? = some (.cells (Wz s) 61 (0, 0)) := (kV24.block gb (lt_of_block h21) (fun x => x)).trans h21
  have h26 : V24.heap[gr]? = some (.cells (zr_u64_25) 61 (0, 0)) := (kV24.block gr (lt_of_block h22) (fun x => x)).trans h22
  have h27 : V24.heap[gt]? = some (.cells (#[.func (.func 46) #[.pointer (some ⟨gb, 0, none⟩)] #[], .func (.func 47) #[.pointer (some ⟨gb, 0, none⟩)] #[], .func (.func 48) #[.pointer (some ⟨gb, 0, none⟩)] #[]]) 75 (0, 0)) := (kV24.block gt (lt_of_block h20) (fun x => x)).trans h20
  have K28 : Keeps Nob w V24 := K23.then kV24 (fun _ _ x => x.elim)
  refine ps_k (o_kpermuted 28 1) (.int .i64 0) ?_
  refine ps_end ?_
  refine sy_a ⟨#[.agg (Wz s), pT gb 0, pT gr 0, pT gt 0, undef, undef, undef, undef, .func (.func 46) #[pT gb 0] #[], .func (.func 47) #[pT gb 0] #[], .func (.func 48) #[pT gb 0] #[], .agg #[.func (.func 46) #[pT gb 0] #[], .func (.func 47) #[pT gb 0] #[], .func (.func 48) #[pT gb 0] #[]], .agg (Wz Kec.K), .int .i64 0, undef, undef, undef, undef, undef, undef, undef, undef, undef, undef, undef, undef, undef, undef, undef, undef], []⟩ ?_
  refine then_n ?_
  refine sy_bk 0 (part_kpermuted 58) ?_
  refine sy_loop (part_kpermuted 116) (fun a V => ∃ (r : Nat) (u5 u7 u14 u15 u16 u17 u18 u19 u20 u21 u22 u23 u24 u25 u26 u27 u28 : Value), (a = ⟨#[.agg (Wz s), pT gb 0, pT gr 0, pT gt 0, undef, u5, undef, u7, .func (.func 46) #[pT gb 0] #[], .func (.func 47) #[pT gb 0] #[], .func (.func 48) #[pT gb 0] #[], .agg #[.func (.func 46) #[pT gb 0] #[], .func (.func 47) #[pT gb 0] #[], .func (.func 48) #[pT gb 0] #[]], .agg (Wz Kec.K), iN r, u14, u15, u16, u17, u18, u19, u20, u21, u22, u23, u24, u25, u26, u27, u28, undef], []⟩) ∧ (r ≤ 24) ∧ (V.heap[gb]? = some (.cells (Wz (permn s r)) 61 (0, 0))) ∧ (V.heap[gr]? = some (.cells (zr_u64_25) 61 (0, 0))) ∧ (V.heap[gt]? = some (.cells (#[.func (.func 46) #[pT gb 0] #[], .func (.func 47) #[pT gb 0] #[], .func (.func 48) #[pT gb 0] #[]]) 75 (0, 0))) ∧ (Keeps Nob w V)) (fun a _ => 24 - (intOf (a.tmps.getD 13 undef)).toNat) (by kernel_rfl) ?_ ?_
  · exact ⟨0, undef, undef, undef, undef, undef, undef, undef, undef, undef, undef, undef, undef, undef, undef, undef, undef, undef, by kernel_rfl, by omega, h25, h26, h27, K28⟩
  · rintro a V29 ⟨r, u5, u7, u14, u15, u16, u17, u18, u19, u20, u21, u22, u23, u24, u25, u26, u27, u28, rfl, hr, h30, h31, h32, K33⟩
    by_cases lt_r : r < 24
    · show _
      refine sy_sq (part_kpermuted 232) (part_kpermuted 233) ?_
      refine sy_reg ?_
      refine rg_plain 3 (opsAt (part_kpermuted 232)) [0] (by kernel_rfl) (by kernel_rfl) ?_
      refine ps_p (o_kpermuted 232 0) (.bool true) (exec_cast (congrArg Value.bool (show (decide ((((r : Nat) : Int)) < ((24) : Int))) = true from by simp only [decide_eq_true_eq]; omega)) (by kernel_rfl)) ?_
      refine ps_end ?_
      refine sy_a ⟨#[.agg (Wz s), pT gb 0, pT gr 0, pT gt 0, undef, u5, undef, u7, .func (.func 46) #[pT gb 0] #[], .func (.func 47) #[pT gb 0] #[], .func (.func 48) #[pT gb 0] #[], .agg #[.func (.func 46) #[pT gb 0] #[], .func (.func 47) #[pT gb 0] #[], .func (.func 48) #[pT gb 0] #[]], .agg (Wz Kec.K), iN r, .bool true, u15, u16, u17, u18, u19, u20, u21, u22, u23, u24, u25, u26, u27, u28, undef], []⟩ ?_
      refine then_n ?_
      refine sy_sq (part_kpermuted 466) (part_kpermuted 467) ?_
      refine sy_ys (.tmp 14) (part_kpermuted 932) (part_kpermuted 933) ?_
      refine sy_sk ?_
      refine then_n ?_
      refine sy_sq (part_kpermuted 934) (part_kpermuted 935) ?_
      refine sy_bk 1 (part_kpermuted 1868) ?_
      refine sy_sq (part_kpermuted 3736) (part_kpermuted 3737) ?_
      refine sy_reg ?_
      refine rg_plain 4 (opsAt (part_kpermuted 3736)) [0, 1] (by kernel_rfl) (by kernel_rfl) ?_
      refine ps_p (o_kpermuted 3736 0) (uN (Kec.g Kec.K r)) (exec_index_arr 72 (.tmp 12) (.tmp 13) (by kernel_rfl) (Wz Kec.K) (by kernel_rfl) .i64 r (by kernel_rfl) 24 45 Try.underlying72 (by kernel_rfl) (by kernel_rfl) (by omega) _ (Wz_get Kec.K r (by rw [K_len]; omega))) ?_
      refine ps_k (o_kpermuted 3736 1) (uN (Kec.g Kec.K r)) ?_
      refine ps_end ?_
      refine sy_a ⟨#[.agg (Wz s), pT gb 0, pT gr 0, pT gt 0, undef, uN (Kec.g Kec.K r), undef, u7, .func (.func 46) #[pT gb 0] #[], .func (.func 47) #[pT gb 0] #[], .func (.func 48) #[pT gb 0] #[], .agg #[.func (.func 46) #[pT gb 0] #[], .func (.func 47) #[pT gb 0] #[], .func (.func 48) #[pT gb 0] #[]], .agg (Wz Kec.K), iN r, .bool true, uN (Kec.g Kec.K r), u16, u17, u18, u19, u20, u21, u22, u23, u24, u25, u26, u27, u28, undef], []⟩ ?_
      refine then_n ?_
      refine sy_sq (part_kpermuted 7474) (part_kpermuted 7475) ?_
      refine sy_sq (part_kpermuted 14948) (part_kpermuted 14949) ?_
      refine sy_reg ?_
      refine rg_plain 5 (opsAt (part_kpermuted 14948)) [0, 1] (by kernel_rfl) (by kernel_rfl) ?_
      refine ps_p (o_kpermuted 14948 0) (.agg #[.func (.func 46) #[pT gb 0] #[], .func (.func 47) #[pT gb 0] #[], .func (.func 48) #[pT gb 0] #[]]) (exec_load_row 75 (.tmp 3) (by kernel_rfl) gt (by kernel_rfl) _ _ (0, 0) _ (h32) Try.underlying75 rfl (by kernel_rfl)) ?_
      refine ps_k (o_kpermuted 14948 1) (.int .i64 0) ?_
      refine ps_end ?_
      refine sy_a ⟨#[.agg (Wz s), pT gb 0, pT gr 0, pT gt 0, undef, uN (Kec.g Kec.K r), undef, u7, .func (.func 46) #[pT gb 0] #[], .func (.func 47) #[pT gb 0] #[], .func (.func 48) #[pT gb 0] #[], .agg #[.func (.func 46) #[pT gb 0] #[], .func (.func 47) #[pT gb 0] #[], .func (.func 48) #[pT gb 0] #[]], .agg (Wz Kec.K), iN r, .bool true, uN (Kec.g Kec.K r), .agg #[.func (.func 46) #[pT gb 0] #[], .func (.func 47) #[pT gb 0] #[], .func (.func 48) #[pT gb 0] #[]], .int .i64 0, u18, u19, u20, u21, u22, u23, u24, u25, u26, u27, u28, undef], []⟩ ?_
      refine then_n ?_
      refine sy_bk 2 (part_kpermuted 29898) ?_
      refine sy_rounds 4 (part_kpermuted 59796) (by kernel_rfl) ?_
      refine rd_step ?_
      refine sy_sq (part_kpermuted 119592) (part_kpermuted 119593) ?_
      refine sy_reg ?_
      refine rg_plain 6 (opsAt (part_kpermuted 119592)) [0] (by kernel_rfl) (by kernel_rfl) ?_
      refine ps_k (o_kpermuted 119592 0) (.bool true) ?_
      refine ps_end ?_
      refine sy_a ⟨#[.agg (Wz s), pT gb 0, pT gr 0, pT gt 0, undef, uN (Kec.g Kec.K r), undef, u7, .func (.func 46) #[pT gb 0] #[], .func (.func 47) #[pT gb 0] #[], .func (.func 48) #[pT gb 0] #[], .agg #[.func (.func 46) #[pT gb 0] #[], .func (.func 47) #[pT gb 0] #[], .func (.func 48) #[pT gb 0] #[]], .agg (Wz Kec.K), iN r, .bool true, uN (Kec.g Kec.K r), .agg #[.func (.func 46) #[pT gb 0] #[], .func (.func 47) #[pT gb 0] #[], .func (.func 48) #[pT gb 0] #[]], .int .i64 0, .bool true, u19, u20, u21, u22, u23, u24, u25, u26, u27, u28, undef], []⟩ ?_
      refine then_n ?_
      refine sy_sq (part_kpermuted 239186) (part_kpermuted 239187) ?_
      refine sy_ys (.tmp 18) (part_kpermuted 478372) (part_kpermuted 478373) ?_
      refine sy_sk ?_
      refine then_n ?_
      refine sy_sq (part_kpermuted 478374) (part_kpermuted 478375) ?_
      refine sy_bk 3 (part_kpermuted 956748) ?_
      refine sy_sq (part_kpermuted 1913496) (part_kpermuted 1913497) ?_
      refine sy_reg ?_
      refine rg_plain 7 (opsAt (part_kpermuted 1913496)) [0, 1] (by kernel_rfl) (by kernel_rfl) ?_
      refine ps_k (o_kpermuted 1913496 0) (.func (.func 46) #[pT gb 0] #[]) ?_
      refine ps_k (o_kpermuted 1913496 1) (.func (.func 46) #[pT gb 0] #[]) ?_
      refine ps_end ?_
      refine sy_a ⟨#[.agg (Wz s), pT gb 0, pT gr 0, pT gt 0, undef, uN (Kec.g Kec.K r), undef, .func (.func 46) #[pT gb 0] #[], .func (.func 46) #[pT gb 0] #[], .func (.func 47) #[pT gb 0] #[], .func (.func 48) #[pT gb 0] #[], .agg #[.func (.func 46) #[pT gb 0] #[], .func (.func 47) #[pT gb 0] #[], .func (.func 48) #[pT gb 0] #[]], .agg (Wz Kec.K), iN r, .bool true, uN (Kec.g Kec.K r), .agg #[.func (.func 46) #[pT gb 0] #[], .func (.func 47) #[pT gb 0] #[], .func (.func 48) #[pT gb 0] #[]], .int .i64 0, .bool true, .func (.func 46) #[pT gb 0] #[], u20, u21, u22, u23, u24, u25, u26, u27, u28, undef], []⟩ ?_
      refine then_n ?_
      refine sy_reg ?_
      refine rg_plain 8 (opsAt (part_kpermuted 1913497)) [0, 1] (by kernel_rfl) (by kernel_rfl) ?_
      refine ps_k (o_kpermuted 1913497 0) (.func (.func 46) #[pT gb 0] #[]) ?_
      refine ps_callV (o_kpermuted 1913497 1) (.tmp 20) 46 #[pT gb 0] #[] #[pT gb 0] (by kernel_rfl) (by kernel_rfl) (by kernel_rfl) (by kernel_rfl) (by kernel_rfl) (enters_of Try.func46 (by kernel_rfl) rfl) ((kcolumns_ok gb (permn s r) _ (by rw [permn_len s hs]) (permn_ws s ws r) h30).mono ?_)
      rintro e V34 ⟨rfl, h35, kV34⟩
      refine ⟨_, rfl, ?_⟩
      have h36 : V34.heap[gr]? = some (.cells (zr_u64_25) 61 (0, 0)) := (kV34.block gr (lt_of_block h31) (fun e => by unfold Own.One at e; omega)).trans h31
      have h37 : V34.heap[gt]? = some (.cells (#[.func (.func 46) #[.pointer (some ⟨gb, 0, none⟩)] #[], .func (.func 47) #[.pointer (some ⟨gb, 0, none⟩)] #[], .func (.func 48) #[.pointer (some ⟨gb, 0, none⟩)] #[]]) 75 (0, 0)) := (kV34.block gt (lt_of_block h32) (fun e => by unfold Own.One at e; omega)).trans h32
      have K38 : Keeps Nob w V34 := K33.then kV34 (fun i hi hm => absurd hi (by unfold Own.One at hm; omega))
      refine ps_end ?_
      refine sy_a ⟨#[.agg (Wz s), pT gb 0, pT gr 0, pT gt 0, undef, uN (Kec.g Kec.K r), undef, .func (.func 46) #[pT gb 0] #[], .func (.func 46) #[pT gb 0] #[], .func (.func 47) #[pT gb 0] #[], .func (.func 48) #[pT gb 0] #[], .agg #[.func (.func 46) #[pT gb 0] #[], .func (.func 47) #[pT gb 0] #[], .func (.func 48) #[pT gb 0] #[]], .agg (Wz Kec.K), iN r, .bool true, uN (Kec.g Kec.K r), .agg #[.func (.func 46) #[pT gb 0] #[], .func (.func 47) #[pT gb 0] #[], .func (.func 48) #[pT gb 0] #[]], .int .i64 0, .bool true, .func (.func 46) #[pT gb 0] #[], .func (.func 46) #[pT gb 0] #[], .tuple #[], u22, u23, u24, u25, u26, u27, u28, undef], []⟩ ?_
      refine blk_n ?_
      refine then_n ?_
      refine sy_reg ?_
      refine rg_plain 9 (opsAt (part_kpermuted 478375)) [0, 1] (by kernel_rfl) (by kernel_rfl) ?_
      refine ps_k (o_kpermuted 478375 0) (.int .i64 1) ?_
      refine ps_k (o_kpermuted 478375 1) (.int .i64 1) ?_
      refine ps_end ?_
      refine sy_a ⟨#[.agg (Wz s), pT gb 0, pT gr 0, pT gt 0, undef, uN (Kec.g Kec.K r), undef, .func (.func 46) #[pT gb 0] #[], .func (.func 46) #[pT gb 0] #[], .func (.func 47) #[pT gb 0] #[], .func (.func 48) #[pT gb 0] #[], .agg #[.func (.func 46) #[pT gb 0] #[], .func (.func 47) #[pT gb 0] #[], .func (.func 48) #[pT gb 0] #[]], .agg (Wz Kec.K), iN r, .bool true, uN (Kec.g Kec.K r), .agg #[.func (.func 46) #[pT gb 0] #[], .func (.func 47) #[pT gb 0] #[], .func (.func 48) #[pT gb 0] #[]], .int .i64 1, .bool true, .func (.func 46) #[pT gb 0] #[], .func (.func 46) #[pT gb 0] #[], .tuple #[], .int .i64 1, u23, u24, u25, u26, u27, u28, undef], []⟩ ?_
      refine then_n ?_
      refine rd_step ?_
      refine sy_sq (part_kpermuted 119592) (part_kpermuted 119593) ?_
      refine sy_reg ?_
      refine rg_plain 6 (opsAt (part_kpermuted 119592)) [0] (by kernel_rfl) (by kernel_rfl) ?_
      refine ps_k (o_kpermuted 119592 0) (.bool true) ?_
      refine ps_end ?_
      refine sy_a ⟨#[.agg (Wz s), pT gb 0, pT gr 0, pT gt 0, undef, uN (Kec.g Kec.K r), undef, .func (.func 46) #[pT gb 0] #[], .func (.func 46) #[pT gb 0] #[], .func (.func 47) #[pT gb 0] #[], .func (.func 48) #[pT gb 0] #[], .agg #[.func (.func 46) #[pT gb 0] #[], .func (.func 47) #[pT gb 0] #[], .func (.func 48) #[pT gb 0] #[]], .agg (Wz Kec.K), iN r, .bool true, uN (Kec.g Kec.K r), .agg #[.func (.func 46) #[pT gb 0] #[], .func (.func 47) #[pT gb 0] #[], .func (.func 48) #[pT gb 0] #[]], .int .i64 1, .bool true, .func (.func 46) #[pT gb 0] #[], .func (.func 46) #[pT gb 0] #[], .tuple #[], .int .i64 1, u23, u24, u25, u26, u27, u28, undef], []⟩ ?_
      refine then_n ?_
      refine sy_sq (part_kpermuted 239186) (part_kpermuted 239187) ?_
      refine sy_ys (.tmp 18) (part_kpermuted 478372) (part_kpermuted 478373) ?_
      refine sy_sk ?_
      refine then_n ?_
      refine sy_sq (part_kpermuted 478374) (part_kpermuted 478375) ?_
      refine sy_bk 3 (part_kpermuted 956748) ?_
      refine sy_sq (part_kpermuted 1913496) (part_kpermuted 1913497) ?_
      refine sy_reg ?_
      refine rg_plain 7 (opsAt (part_kpermuted 1913496)) [0, 1] (by kernel_rfl) (by kernel_rfl) ?_
      refine ps_k (o_kpermuted 1913496 0) (.func (.func 47) #[pT gb 0] #[]) ?_
      refine ps_k (o_kpermuted 1913496 1) (.func (.func 47) #[pT gb 0] #[]) ?_
      refine ps_end ?_
      refine sy_a ⟨#[.agg (Wz s), pT gb 0, pT gr 0, pT gt 0, undef, uN (Kec.g Kec.K r), undef, .func (.func 47) #[pT gb 0] #[], .func (.func 46) #[pT gb 0] #[], .func (.func 47) #[pT gb 0] #[], .func (.func 48) #[pT gb 0] #[], .agg #[.func (.func 46) #[pT gb 0] #[], .func (.func 47) #[pT gb 0] #[], .func (.func 48) #[pT gb 0] #[]], .agg (Wz Kec.K), iN r, .bool true, uN (Kec.g Kec.K r), .agg #[.func (.func 46) #[pT gb 0] #[], .func (.func 47) #[pT gb 0] #[], .func (.func 48) #[pT gb 0] #[]], .int .i64 1, .bool true, .func (.func 47) #[pT gb 0] #[], .func (.func 46) #[pT gb 0] #[], .tuple #[], .int .i64 1, u23, u24, u25, u26, u27, u28, undef], []⟩ ?_
      refine then_n ?_
      refine sy_reg ?_
      refine rg_plain 8 (opsAt (part_kpermuted 1913497)) [0, 1] (by kernel_rfl) (by kernel_rfl) ?_
      refine ps_k (o_kpermuted 1913497 0) (.func (.func 47) #[pT gb 0] #[]) ?_
      refine ps_callV (o_kpermuted 1913497 1) (.tmp 20) 47 #[pT gb 0] #[] #[pT gb 0] (by kernel_rfl) (by kernel_rfl) (by kernel_rfl) (by kernel_rfl) (by kernel_rfl) (enters_of Try.func47 (by kernel_rfl) rfl) ((kmoves_ok gb (Kec.columns (permn s r)) _ (by rw [show (Kec.columns (permn s r)).length = 25 from Kec.len_columns _]) (Kec.ws_columns (permn_ws s ws r)) h35).mono ?_)
      rintro e V39 ⟨rfl, h40, kV39⟩
      refine ⟨_, rfl, ?_⟩
      have h41 : V39.heap[gr]? = some (.cells (zr_u64_25) 61 (0, 0)) := (kV39.block gr (lt_of_block h36) (fun e => by unfold Own.One at e; omega)).trans h36
      have h42 : V39.heap[gt]? = some (.cells (#[.func (.func 46) #[.pointer (some ⟨gb, 0, none⟩)] #[], .func (.func 47) #[.pointer (some ⟨gb, 0, none⟩)] #[], .func (.func 48) #[.pointer (some ⟨gb, 0, none⟩)] #[]]) 75 (0, 0)) := (kV39.block gt (lt_of_block h37) (fun e => by unfold Own.One at e; omega)).trans h37
      have K43 : Keeps Nob w V39 := K38.then kV39 (fun i hi hm => absurd hi (by unfold Own.One at hm; omega))
      refine ps_end ?_
      refine sy_a ⟨#[.agg (Wz s), pT gb 0, pT gr 0, pT gt 0, undef, uN (Kec.g Kec.K r), undef, .func (.func 47) #[pT gb 0] #[], .func (.func 46) #[pT gb 0] #[], .func (.func 47) #[pT gb 0] #[], .func (.func 48) #[pT gb 0] #[], .agg #[.func (.func 46) #[pT gb 0] #[], .func (.func 47) #[pT gb 0] #[], .func (.func 48) #[pT gb 0] #[]], .agg (Wz Kec.K), iN r, .bool true, uN (Kec.g Kec.K r), .agg #[.func (.func 46) #[pT gb 0] #[], .func (.func 47) #[pT gb 0] #[], .func (.func 48) #[pT gb 0] #[]], .int .i64 1, .bool true, .func (.func 47) #[pT gb 0] #[], .func (.func 47) #[pT gb 0] #[], .tuple #[], .int .i64 1, u23, u24, u25, u26, u27, u28, undef], []⟩ ?_
      refine blk_n ?_
      refine then_n ?_
      refine sy_reg ?_
      refine rg_plain 9 (opsAt (part_kpermuted 478375)) [0, 1] (by kernel_rfl) (by kernel_rfl) ?_
      refine ps_k (o_kpermuted 478375 0) (.int .i64 2) ?_
      refine ps_k (o_kpermuted 478375 1) (.int .i64 2) ?_
      refine ps_end ?_
      refine sy_a ⟨#[.agg (Wz s), pT gb 0, pT gr 0, pT gt 0, undef, uN (Kec.g Kec.K r), undef, .func (.func 47) #[pT gb 0] #[], .func (.func 46) #[pT gb 0] #[], .func (.func 47) #[pT gb 0] #[], .func (.func 48) #[pT gb 0] #[], .agg #[.func (.func 46) #[pT gb 0] #[], .func (.func 47) #[pT gb 0] #[], .func (.func 48) #[pT gb 0] #[]], .agg (Wz Kec.K), iN r, .bool true, uN (Kec.g Kec.K r), .agg #[.func (.func 46) #[pT gb 0] #[], .func (.func 47) #[pT gb 0] #[], .func (.func 48) #[pT gb 0] #[]], .int .i64 2, .bool true, .func (.func 47) #[pT gb 0] #[], .func (.func 47) #[pT gb 0] #[], .tuple #[], .int .i64 2, u23, u24, u25, u26, u27, u28, undef], []⟩ ?_
      refine then_n ?_
      refine rd_step ?_
      refine sy_sq (part_kpermuted 119592) (part_kpermuted 119593) ?_
      refine sy_reg ?_
      refine rg_plain 6 (opsAt (part_kpermuted 119592)) [0] (by kernel_rfl) (by kernel_rfl) ?_
      refine ps_k (o_kpermuted 119592 0) (.bool true) ?_
      refine ps_end ?_
      refine sy_a ⟨#[.agg (Wz s), pT gb 0, pT gr 0, pT gt 0, undef, uN (Kec.g Kec.K r), undef, .func (.func 47) #[pT gb 0] #[], .func (.func 46) #[pT gb 0] #[], .func (.func 47) #[pT gb 0] #[], .func (.func 48) #[pT gb 0] #[], .agg #[.func (.func 46) #[pT gb 0] #[], .func (.func 47) #[pT gb 0] #[], .func (.func 48) #[pT gb 0] #[]], .agg (Wz Kec.K), iN r, .bool true, uN (Kec.g Kec.K r), .agg #[.func (.func 46) #[pT gb 0] #[], .func (.func 47) #[pT gb 0] #[], .func (.func 48) #[pT gb 0] #[]], .int .i64 2, .bool true, .func (.func 47) #[pT gb 0] #[], .func (.func 47) #[pT gb 0] #[], .tuple #[], .int .i64 2, u23, u24, u25, u26, u27, u28, undef], []⟩ ?_
      refine then_n ?_
      refine sy_sq (part_kpermuted 239186) (part_kpermuted 239187) ?_
      refine sy_ys (.tmp 18) (part_kpermuted 478372) (part_kpermuted 478373) ?_
      refine sy_sk ?_
      refine then_n ?_
      refine sy_sq (part_kpermuted 478374) (part_kpermuted 478375) ?_
      refine sy_bk 3 (part_kpermuted 956748) ?_
      refine sy_sq (part_kpermuted 1913496) (part_kpermuted 1913497) ?_
      refine sy_reg ?_
      refine rg_plain 7 (opsAt (part_kpermuted 1913496)) [0, 1] (by kernel_rfl) (by kernel_rfl) ?_
      refine ps_k (o_kpermuted 1913496 0) (.func (.func 48) #[pT gb 0] #[]) ?_
      refine ps_k (o_kpermuted 1913496 1) (.func (.func 48) #[pT gb 0] #[]) ?_
      refine ps_end ?_
      refine sy_a ⟨#[.agg (Wz s), pT gb 0, pT gr 0, pT gt 0, undef, uN (Kec.g Kec.K r), undef, .func (.func 48) #[pT gb 0] #[], .func (.func 46) #[pT gb 0] #[], .func (.func 47) #[pT gb 0] #[], .func (.func 48) #[pT gb 0] #[], .agg #[.func (.func 46) #[pT gb 0] #[], .func (.func 47) #[pT gb 0] #[], .func (.func 48) #[pT gb 0] #[]], .agg (Wz Kec.K), iN r, .bool true, uN (Kec.g Kec.K r), .agg #[.func (.func 46) #[pT gb 0] #[], .func (.func 47) #[pT gb 0] #[], .func (.func 48) #[pT gb 0] #[]], .int .i64 2, .bool true, .func (.func 48) #[pT gb 0] #[], .func (.func 47) #[pT gb 0] #[], .tuple #[], .int .i64 2, u23, u24, u25, u26, u27, u28, undef], []⟩ ?_
      refine then_n ?_
      refine sy_reg ?_
      refine rg_plain 8 (opsAt (part_kpermuted 1913497)) [0, 1] (by kernel_rfl) (by kernel_rfl) ?_
      refine ps_k (o_kpermuted 1913497 0) (.func (.func 48) #[pT gb 0] #[]) ?_
      refine ps_callV (o_kpermuted 1913497 1) (.tmp 20) 48 #[pT gb 0] #[] #[pT gb 0] (by kernel_rfl) (by kernel_rfl) (by kernel_rfl) (by kernel_rfl) (by kernel_rfl) (enters_of Try.func48 (by kernel_rfl) rfl) ((kmixes_ok gb (Kec.moves (Kec.columns (permn s r))) _ (by rw [show (Kec.moves (Kec.columns (permn s r))).length = 25 from Kec.len_moves _]) (Kec.ws_moves (Kec.ws_columns (permn_ws s ws r))) h40).mono ?_)
      rintro e V44 ⟨rfl, h45, kV44⟩
      refine ⟨_, rfl, ?_⟩
      have h46 : V44.heap[gr]? = some (.cells (zr_u64_25) 61 (0, 0)) := (kV44.block gr (lt_of_block h41) (fun e => by unfold Own.One at e; omega)).trans h41
      have h47 : V44.heap[gt]? = some (.cells (#[.func (.func 46) #[.pointer (some ⟨gb, 0, none⟩)] #[], .func (.func 47) #[.pointer (some ⟨gb, 0, none⟩)] #[], .func (.func 48) #[.pointer (some ⟨gb, 0, none⟩)] #[]]) 75 (0, 0)) := (kV44.block gt (lt_of_block h42) (fun e => by unfold Own.One at e; omega)).trans h42
      have K48 : Keeps Nob w V44 := K43.then kV44 (fun i hi hm => absurd hi (by unfold Own.One at hm; omega))
      refine ps_end ?_
      refine sy_a ⟨#[.agg (Wz s), pT gb 0, pT gr 0, pT gt 0, undef, uN (Kec.g Kec.K r), undef, .func (.func 48) #[pT gb 0] #[], .func (.func 46) #[pT gb 0] #[], .func (.func 47) #[pT gb 0] #[], .func (.func 48) #[pT gb 0] #[], .agg #[.func (.func 46) #[pT gb 0] #[], .func (.func 47) #[pT gb 0] #[], .func (.func 48) #[pT gb 0] #[]], .agg (Wz Kec.K), iN r, .bool true, uN (Kec.g Kec.K r), .agg #[.func (.func 46) #[pT gb 0] #[], .func (.func 47) #[pT gb 0] #[], .func (.func 48) #[pT gb 0] #[]], .int .i64 2, .bool true, .func (.func 48) #[pT gb 0] #[], .func (.func 48) #[pT gb 0] #[], .tuple #[], .int .i64 2, u23, u24, u25, u26, u27, u28, undef], []⟩ ?_
      refine blk_n ?_
      refine then_n ?_
      refine sy_reg ?_
      refine rg_plain 9 (opsAt (part_kpermuted 478375)) [0, 1] (by kernel_rfl) (by kernel_rfl) ?_
      refine ps_k (o_kpermuted 478375 0) (.int .i64 3) ?_
      refine ps_k (o_kpermuted 478375 1) (.int .i64 3) ?_
      refine ps_end ?_
      refine sy_a ⟨#[.agg (Wz s), pT gb 0, pT gr 0, pT gt 0, undef, uN (Kec.g Kec.K r), undef, .func (.func 48) #[pT gb 0] #[], .func (.func 46) #[pT gb 0] #[], .func (.func 47) #[pT gb 0] #[], .func (.func 48) #[pT gb 0] #[], .agg #[.func (.func 46) #[pT gb 0] #[], .func (.func 47) #[pT gb 0] #[], .func (.func 48) #[pT gb 0] #[]], .agg (Wz Kec.K), iN r, .bool true, uN (Kec.g Kec.K r), .agg #[.func (.func 46) #[pT gb 0] #[], .func (.func 47) #[pT gb 0] #[], .func (.func 48) #[pT gb 0] #[]], .int .i64 3, .bool true, .func (.func 48) #[pT gb 0] #[], .func (.func 48) #[pT gb 0] #[], .tuple #[], .int .i64 3, u23, u24, u25, u26, u27, u28, undef], []⟩ ?_
      refine then_n ?_
      refine rd_step ?_
      refine sy_sq (part_kpermuted 119592) (part_kpermuted 119593) ?_
      refine sy_reg ?_
      refine rg_plain 6 (opsAt (part_kpermuted 119592)) [0] (by kernel_rfl) (by kernel_rfl) ?_
      refine ps_k (o_kpermuted 119592 0) (.bool false) ?_
      refine ps_end ?_
      refine sy_a ⟨#[.agg (Wz s), pT gb 0, pT gr 0, pT gt 0, undef, uN (Kec.g Kec.K r), undef, .func (.func 48) #[pT gb 0] #[], .func (.func 46) #[pT gb 0] #[], .func (.func 47) #[pT gb 0] #[], .func (.func 48) #[pT gb 0] #[], .agg #[.func (.func 46) #[pT gb 0] #[], .func (.func 47) #[pT gb 0] #[], .func (.func 48) #[pT gb 0] #[]], .agg (Wz Kec.K), iN r, .bool true, uN (Kec.g Kec.K r), .agg #[.func (.func 46) #[pT gb 0] #[], .func (.func 47) #[pT gb 0] #[], .func (.func 48) #[pT gb 0] #[]], .int .i64 3, .bool false, .func (.func 48) #[pT gb 0] #[], .func (.func 48) #[pT gb 0] #[], .tuple #[], .int .i64 3, u23, u24, u25, u26, u27, u28, undef], []⟩ ?_
      refine then_n ?_
      refine sy_sq (part_kpermuted 239186) (part_kpermuted 239187) ?_
      refine sy_n (.tmp 18) (part_kpermuted 478372) (part_kpermuted 478373) ?_
      refine sy_exit 2 (by kernel_rfl) ?_
      refine then_e ?_
      refine then_e ?_
      refine blk_e ?_
      refine then_n ?_
      refine sy_reg ?_
      refine rg_plain 10 (opsAt (part_kpermuted 7475)) [0, 1, 2, 3, 4, 5] (by kernel_rfl) (by kernel_rfl) ?_
      refine ps_p (o_kpermuted 7475 0) (pT gb 0) (exec_cast (v := pT gb (0 + 0 * 1)) (by simp) (exec_indexAt_arr 61 (.tmp 1) (.const (.int .i64 0)) (by kernel_rfl) gb 0 (by kernel_rfl) .i64 0 (by kernel_rfl) _ _ 1 Try.underlying61 (by kernel_rfl) (by omega))) ?_
      refine ps_p (o_kpermuted 7475 1) (uN (Kec.g (Kec.mixes (Kec.moves (Kec.columns (permn s r)))) 0)) (exec_load_cell 45 (.tmp 23) (by kernel_rfl) ⟨gb, 0, none⟩ (by kernel_rfl) _ _ Try.underlying45 rfl ((cell_of_row _ _ _ _ _ _ (h45)).trans (Wz_get _ 0 (by rw [show (Kec.mixes (Kec.moves (Kec.columns (permn s r)))).length = 25 from Kec.len_mixes _]; omega)))) ?_
      refine ps_k (o_kpermuted 7475 2) (uN (Kec.g Kec.K r)) ?_
      refine ps_p (o_kpermuted 7475 3) (uN ((Kec.g (Kec.mixes (Kec.moves (Kec.columns (permn s r)))) 0) ^^^ (Kec.g Kec.K r))) (exec_cast (xorU (Kec.g (Kec.mixes (Kec.moves (Kec.columns (permn s r)))) 0) (Kec.g Kec.K r) (Kec.ws_mixes (Kec.ws_moves (Kec.ws_columns (permn_ws s ws r))) _) (ws_K r)) (by kernel_rfl)) ?_
      refine ps_p (o_kpermuted 7475 4) (pT gb 0) (exec_cast (v := pT gb (0 + 0 * 1)) (by simp) (exec_indexAt_arr 61 (.tmp 1) (.const (.int .i64 0)) (by kernel_rfl) gb 0 (by kernel_rfl) .i64 0 (by kernel_rfl) _ _ 1 Try.underlying61 (by kernel_rfl) (by omega))) ?_
      obtain ⟨V49, eV49⟩ : ∃ V, V44.setCell ⟨gb, 0, none⟩ (.int .u64 (((Kec.g (Kec.mixes (Kec.moves (Kec.columns (permn s r)))) 0) ^^^ (Kec.g Kec.K r) : Nat) : Int)) = V := ⟨_, rfl⟩
      have kV49 : Keeps (One gb) V44 V49 := eV49 ▸ (Keeps.refl _ _).setOne _
      have h50 : V49.heap[gb]? = some (.cells (Wz ((Kec.mixes (Kec.moves (Kec.columns (permn s r)))).set 0 ((Kec.g (Kec.mixes (Kec.moves (Kec.columns (permn s r)))) 0) ^^^ (Kec.g Kec.K r)))) 61 (0, 0)) := eV49 ▸ ((heap_setCell_same _ gb 0 _ _ (.int .u64 (((Kec.g (Kec.mixes (Kec.moves (Kec.columns (permn s r)))) 0) ^^^ (Kec.g Kec.K r) : Nat) : Int)) h45).trans (congrArg (fun c => some (Obj.cells c 61 (0, 0))) (show (Wz (Kec.mixes (Kec.moves (Kec.columns (permn s r)))) : Array Value).setIfInBounds 0 (.int .u64 (((Kec.g (Kec.mixes (Kec.moves (Kec.columns (permn s r)))) 0) ^^^ (Kec.g Kec.K r) : Nat) : Int)) = Wz ((Kec.mixes (Kec.moves (Kec.columns (permn s r)))).set 0 ((Kec.g (Kec.mixes (Kec.moves (Kec.columns (permn s r)))) 0) ^^^ (Kec.g Kec.K r))) from by rw [Wz_set])))
      refine ps_skip (o_kpermuted 7475 5) (w' := V49) (by kernel_rfl) (by kernel_rfl) (by rw [← eV49]; exact exec_store_cell 45 (.tmp 27) (.tmp 26) (by kernel_rfl) gb 0 (by kernel_rfl) (uN ((Kec.g (Kec.mixes (Kec.moves (Kec.columns (permn s r)))) 0) ^^^ (Kec.g Kec.K r))) (by kernel_rfl) (by kernel_rfl) (by kernel_rfl) (uN (Kec.g (Kec.mixes (Kec.moves (Kec.columns (permn s r)))) 0)) ((cell_of_row _ _ _ _ _ _ (h45)).trans (Wz_get _ 0 (by rw [show (Kec.mixes (Kec.moves (Kec.columns (permn s r)))).length = 25 from Kec.len_mixes _]; omega))) (frozen_of_row _ _ _ _ _ h45) (by kernel_rfl)) ?_
      clear eV49
      have h51 : V49.heap[gr]? = some (.cells (zr_u64_25) 61 (0, 0)) := (kV49.block gr (lt_of_block h46) (fun e => by unfold Own.One at e; omega)).trans h46
      have h52 : V49.heap[gt]? = some (.cells (#[.func (.func 46) #[.pointer (some ⟨gb, 0, none⟩)] #[], .func (.func 47) #[.pointer (some ⟨gb, 0, none⟩)] #[], .func (.func 48) #[.pointer (some ⟨gb, 0, none⟩)] #[]]) 75 (0, 0)) := (kV49.block gt (lt_of_block h47) (fun e => by unfold Own.One at e; omega)).trans h47
      have K53 : Keeps Nob w V49 := K48.then kV49 (fun i hi hm => absurd hi (by unfold Own.One at hm; omega))
      refine ps_end ?_
      refine sy_a ⟨#[.agg (Wz s), pT gb 0, pT gr 0, pT gt 0, undef, uN (Kec.g Kec.K r), undef, .func (.func 48) #[pT gb 0] #[], .func (.func 46) #[pT gb 0] #[], .func (.func 47) #[pT gb 0] #[], .func (.func 48) #[pT gb 0] #[], .agg #[.func (.func 46) #[pT gb 0] #[], .func (.func 47) #[pT gb 0] #[], .func (.func 48) #[pT gb 0] #[]], .agg (Wz Kec.K), iN r, .bool true, uN (Kec.g Kec.K r), .agg #[.func (.func 46) #[pT gb 0] #[], .func (.func 47) #[pT gb 0] #[], .func (.func 48) #[pT gb 0] #[]], .int .i64 3, .bool false, .func (.func 48) #[pT gb 0] #[], .func (.func 48) #[pT gb 0] #[], .tuple #[], .int .i64 3, pT gb 0, uN (Kec.g (Kec.mixes (Kec.moves (Kec.columns (permn s r)))) 0), uN (Kec.g Kec.K r), uN ((Kec.g (Kec.mixes (Kec.moves (Kec.columns (permn s r)))) 0) ^^^ (Kec.g Kec.K r)), pT gb 0, u28, undef], []⟩ ?_
      refine blk_n ?_
      refine then_n ?_
      refine sy_reg ?_
      refine rg_plain 11 (opsAt (part_kpermuted 935)) [0, 1] (by kernel_rfl) (by kernel_rfl) ?_
      refine ps_p (o_kpermuted 935 0) (iN (r + 1)) (exec_cast (congrArg (Value.int .i64) (wrapN (r + 1) (by omega))) (by kernel_rfl)) ?_
      refine ps_k (o_kpermuted 935 1) (iN (r + 1)) ?_
      refine ps_end ?_
      refine sy_a ⟨#[.agg (Wz s), pT gb 0, pT gr 0, pT gt 0, undef, uN (Kec.g Kec.K r), undef, .func (.func 48) #[pT gb 0] #[], .func (.func 46) #[pT gb 0] #[], .func (.func 47) #[pT gb 0] #[], .func (.func 48) #[pT gb 0] #[], .agg #[.func (.func 46) #[pT gb 0] #[], .func (.func 47) #[pT gb 0] #[], .func (.func 48) #[pT gb 0] #[]], .agg (Wz Kec.K), iN (r + 1), .bool true, uN (Kec.g Kec.K r), .agg #[.func (.func 46) #[pT gb 0] #[], .func (.func 47) #[pT gb 0] #[], .func (.func 48) #[pT gb 0] #[]], .int .i64 3, .bool false, .func (.func 48) #[pT gb 0] #[], .func (.func 48) #[pT gb 0] #[], .tuple #[], .int .i64 3, pT gb 0, uN (Kec.g (Kec.mixes (Kec.moves (Kec.columns (permn s r)))) 0), uN (Kec.g Kec.K r), uN ((Kec.g (Kec.mixes (Kec.moves (Kec.columns (permn s r)))) 0) ^^^ (Kec.g Kec.K r)), pT gb 0, iN (r + 1), undef], []⟩ ?_
      refine then_n ?_
      refine ⟨⟨r + 1, (uN (Kec.g Kec.K r)), (.func (.func 48) #[pT gb 0] #[]), (.bool true), (uN (Kec.g Kec.K r)), (.agg #[.func (.func 46) #[pT gb 0] #[], .func (.func 47) #[pT gb 0] #[], .func (.func 48) #[pT gb 0] #[]]), (.int .i64 3), (.bool false), (.func (.func 48) #[pT gb 0] #[]), (.func (.func 48) #[pT gb 0] #[]), (.tuple #[]), (.int .i64 3), (pT gb 0), (uN (Kec.g (Kec.mixes (Kec.moves (Kec.columns (permn s r)))) 0)), (uN (Kec.g Kec.K r)), (uN ((Kec.g (Kec.mixes (Kec.moves (Kec.columns (permn s r)))) 0) ^^^ (Kec.g Kec.K r))), (pT gb 0), (iN (r + 1)), by kernel_rfl, by omega, h50.trans (by rw [permn_succ s r lt_r]; rfl), h51, h52, K53⟩, ?_⟩
      exact lt_meas (x := 24 - (r + 1)) (y := 24 - r) (by kernel_rfl) (by kernel_rfl) (by omega)
    · have eq_r : r = 24 := by omega
      have h54 : V29.heap[gb]? = some (.cells (Wz (Kec.perm s)) 61 (0, 0)) := h30.trans (by rw [eq_r, permn_all])
      refine sy_sq (part_kpermuted 232) (part_kpermuted 233) ?_
      refine sy_reg ?_
      refine rg_plain 3 (opsAt (part_kpermuted 232)) [0] (by kernel_rfl) (by kernel_rfl) ?_
      refine ps_p (o_kpermuted 232 0) (.bool false) (exec_cast (congrArg Value.bool (show (decide ((((r : Nat) : Int)) < ((24) : Int))) = false from by simp only [decide_eq_false_iff_not]; omega)) (by kernel_rfl)) ?_
      refine ps_end ?_
      refine sy_a ⟨#[.agg (Wz s), pT gb 0, pT gr 0, pT gt 0, undef, u5, undef, u7, .func (.func 46) #[pT gb 0] #[], .func (.func 47) #[pT gb 0] #[], .func (.func 48) #[pT gb 0] #[], .agg #[.func (.func 46) #[pT gb 0] #[], .func (.func 47) #[pT gb 0] #[], .func (.func 48) #[pT gb 0] #[]], .agg (Wz Kec.K), iN r, .bool false, u15, u16, u17, u18, u19, u20, u21, u22, u23, u24, u25, u26, u27, u28, undef], []⟩ ?_
      refine then_n ?_
      refine sy_sq (part_kpermuted 466) (part_kpermuted 467) ?_
      refine sy_n (.tmp 14) (part_kpermuted 932) (part_kpermuted 933) ?_
      refine sy_exit 0 (by kernel_rfl) ?_
      refine then_e ?_
      refine then_e ?_
      refine blk_e ?_
      refine then_n ?_
      refine sy_sq (part_kpermuted 30) (part_kpermuted 31) ?_
      refine sy_reg ?_
      refine rg_plain 12 (opsAt (part_kpermuted 30)) [0, 1] (by kernel_rfl) (by kernel_rfl) ?_
      refine ps_p (o_kpermuted 30 0) (.agg (Wz (Kec.perm s))) (exec_load_row 61 (.tmp 1) (by kernel_rfl) gb (by kernel_rfl) _ _ (0, 0) _ (h54) Try.underlying61 rfl (by rw [Wz_size, Kec.len_perm hs]; kernel_rfl)) ?_
      obtain ⟨V55, eV55⟩ : ∃ V, V29.setRow gr ((Wz (Kec.perm s))) = V := ⟨_, rfl⟩
      have kV55 : Keeps (One gr) V29 V55 := eV55 ▸ (Keeps.refl (One gr) _).setRow (fun _ => (rfl : Own.One gr gr)) _
      have h56 : V55.heap[gr]? = some (.cells (Wz (Kec.perm s)) 61 (0, 0)) := eV55 ▸ setRow_heap _ _ _ _ _ _ h31
      refine ps_skip (o_kpermuted 30 1) (w' := V55) (by kernel_rfl) (by kernel_rfl) (by rw [← eV55]; exact exec_store_row 61 (.tmp 2) (.tmp 29) (by kernel_rfl) gr ((Wz (Kec.perm s))) (by kernel_rfl) (by kernel_rfl) 61 (zr_u64_25) h31 (by rw [Wz_size, Kec.len_perm hs]; kernel_rfl) (by rw [Wz_size, Kec.len_perm hs]; rfl) (Wz_one _)) ?_
      clear eV55
      have h57 : V55.heap[gb]? = some (.cells (Wz (Kec.perm s)) 61 (0, 0)) := (kV55.block gb (lt_of_block h54) (fun e => by unfold Own.One at e; omega)).trans h54
      have h58 : V55.heap[gt]? = some (.cells (#[.func (.func 46) #[.pointer (some ⟨gb, 0, none⟩)] #[], .func (.func 47) #[.pointer (some ⟨gb, 0, none⟩)] #[], .func (.func 48) #[.pointer (some ⟨gb, 0, none⟩)] #[]]) 75 (0, 0)) := (kV55.block gt (lt_of_block h32) (fun e => by unfold Own.One at e; omega)).trans h32
      have K59 : Keeps Nob w V55 := K33.then kV55 (fun i hi hm => absurd hi (by unfold Own.One at hm; omega))
      refine ps_end ?_
      refine sy_a ⟨#[.agg (Wz s), pT gb 0, pT gr 0, pT gt 0, undef, u5, undef, u7, .func (.func 46) #[pT gb 0] #[], .func (.func 47) #[pT gb 0] #[], .func (.func 48) #[pT gb 0] #[], .agg #[.func (.func 46) #[pT gb 0] #[], .func (.func 47) #[pT gb 0] #[], .func (.func 48) #[pT gb 0] #[]], .agg (Wz Kec.K), iN r, .bool false, u15, u16, u17, u18, u19, u20, u21, u22, u23, u24, u25, u26, u27, u28, .agg (Wz (Kec.perm s))], []⟩ ?_
      refine then_n ?_
      refine sy_ret (by kernel_rfl) ?_
      refine sy_out (.agg (Wz (Kec.perm s))) rfl (results_cell_row (p := 2) (ty := 61) (by kernel_rfl) _ _ gr 61 (Wz (Kec.perm s)) (0, 0) _ (by kernel_rfl) h56 Try.underlying61 rfl (by rw [Wz_size, Kec.len_perm hs]; kernel_rfl)) ?_
      exact ⟨rfl, K59⟩
noncomputable def part_kPermute (n : Nat) : Code := partOf Try.f29 n
noncomputable abbrev o_kPermute (n k : Nat) : Oper := (opsAt (part_kPermute n)).getD k default
set_option maxRecDepth 100000 in
set_option maxHeartbeats 4000000 in
theorem kPermute_ok (s : List Nat) (w : World) (hs : s.length = 25) (ws : Kec.Ws s) :
    Calls Try.prog 29 #[.agg (Wz s)] w (fun e w' => e = .returned (.agg (Wz (Kec.perm s))) ∧ Keeps Nob w w') := by
  have K0 : Keeps Nob w w := Keeps.refl _ _
  refine sy_enter (part_kPermute 1) ⟨#[.agg (Wz s), undef, undef, undef, undef], []⟩ Try.func29 (by kernel_rfl) (by kernel_rfl) ?_
  refine sy_sq (part_kPermute 2) (part_kPermute 3) ?_
  refine sy_reg ?_
  refine rg_plain 0 (opsAt (part_kPermute 2)) [0, 1] (by kernel_rfl) (by kernel_rfl) ?_
  obtain ⟨V1, eV1⟩ : ∃ V, w.alloc (.cells ((Wz s)) 46) = V := ⟨_, rfl⟩
  obtain ⟨gb, egb⟩ : ∃ g, w.heap.size = g := ⟨_, rfl⟩
  have n3 : w.heap.size ≤ gb := egb ▸ K0.size
  have h2 : V1.heap[gb]? = some (.cells ((Wz s)) 46 (0, 0)) := by rw [← eV1, ← egb]; exact heap_alloc_new _ _
  have kV1 : Keeps Nob w V1 := eV1 ▸ (Keeps.refl _ _).alloc _
  refine ps_run (o_kPermute 2 0) (pT gb 0) (w' := V1) (by kernel_rfl) (by kernel_rfl) (by rw [← eV1, ← egb]; exact exec_box 46 (.tmp 0) (by kernel_rfl) (.agg (Wz s)) (by kernel_rfl)) ?_
  clear eV1
  have K4 : Keeps Nob w V1 := K0.then kV1 (fun _ _ x => x.elim)
  obtain ⟨V5, eV5⟩ : ∃ V, V1.alloc (.cells (zr_u64_25) 46) = V := ⟨_, rfl⟩
  obtain ⟨gr, egr⟩ : ∃ g, V1.heap.size = g := ⟨_, rfl⟩
  have n7 : gb < gr := egr ▸ lt_of_block h2
  have n8 : w.heap.size ≤ gr := egr ▸ K4.size
  have h6 : V5.heap[gr]? = some (.cells (zr_u64_25) 46 (0, 0)) := by rw [← eV5, ← egr]; exact heap_alloc_new _ _
  have kV5 : Keeps Nob V1 V5 := eV5 ▸ (Keeps.refl _ _).alloc _
  refine ps_run (o_kPermute 2 1) (pT gr 0) (w' := V5) (by kernel_rfl) (by kernel_rfl) (by rw [← eV5, ← egr]; exact exec_alloc0 46 (by kernel_rfl) (.agg (zr_u64_25)) (by kernel_rfl)) ?_
  clear eV5
  have h9 : V5.heap[gb]? = some (.cells (Wz s) 46 (0, 0)) := (kV5.block gb (lt_of_block h2) (fun x => x)).trans h2
  have K10 : Keeps Nob w V5 := K4.then kV5 (fun _ _ x => x.elim)
  refine ps_end ?_
  refine sy_a ⟨#[.agg (Wz s), pT gb 0, pT gr 0, undef, undef], []⟩ ?_
  refine then_n ?_
  refine sy_sq (part_kPermute 6) (part_kPermute 7) ?_
  refine sy_reg ?_
  refine rg_plain 1 (opsAt (part_kPermute 6)) [0, 1, 2] (by kernel_rfl) (by kernel_rfl) ?_
  refine ps_p (o_kPermute 6 0) (.agg (Wz s)) (exec_load_row 46 (.tmp 1) (by kernel_rfl) gb (by kernel_rfl) _ _ (0, 0) _ (h9) Try.underlying46 rfl (by rw [Wz_size, hs]; kernel_rfl)) ?_
  refine ps_call (o_kPermute 6 1) 42 #[.agg (Wz s)] (by kernel_rfl) (by kernel_rfl) (by kernel_rfl) (by kernel_rfl) (enters_of Try.func42 (by kernel_rfl) rfl) ((kpermuted_ok s _ hs ws).mono ?_)
  rintro e V11 ⟨rfl, kV11⟩
  refine ⟨_, rfl, ?_⟩
  have h12 : V11.heap[gb]? = some (.cells (Wz s) 46 (0, 0)) := (kV11.block gb (lt_of_block h9) (fun x => x)).trans h9
  have h13 : V11.heap[gr]? = some (.cells (zr_u64_25) 46 (0, 0)) := (kV11.block gr (lt_of_block h6) (fun x => x)).trans h6
  have K14 : Keeps Nob w V11 := K10.then kV11 (fun _ _ x => x.elim)
  obtain ⟨V15, eV15⟩ : ∃ V, V11.setRow gr ((Wz (Kec.perm s))) = V := ⟨_, rfl⟩
  have kV15 : Keeps (One gr) V11 V15 := eV15 ▸ (Keeps.refl (One gr) _).setRow (fun _ => (rfl : Own.One gr gr)) _
  have h16 : V15.heap[gr]? = some (.cells (Wz (Kec.perm s)) 46 (0, 0)) := eV15 ▸ setRow_heap _ _ _ _ _ _ h13
  refine ps_skip (o_kPermute 6 2) (w' := V15) (by kernel_rfl) (by kernel_rfl) (by rw [← eV15]; exact exec_store_row 46 (.tmp 2) (.tmp 4) (by kernel_rfl) gr ((Wz (Kec.perm s))) (by kernel_rfl) (by kernel_rfl) 46 (zr_u64_25) h13 (by rw [Wz_size, Kec.len_perm hs]; kernel_rfl) (by rw [Wz_size, Kec.len_perm hs]; rfl) (Wz_one _)) ?_
  clear eV15
  have h17 : V15.heap[gb]? = some (.cells (Wz s) 46 (0, 0)) := (kV15.block gb (lt_of_block h12) (fun e => by unfold Own.One at e; omega)).trans h12
  have K18 : Keeps Nob w V15 := K14.then kV15 (fun i hi hm => absurd hi (by unfold Own.One at hm; omega))
  refine ps_end ?_
  refine sy_a ⟨#[.agg (Wz s), pT gb 0, pT gr 0, .agg (Wz s), .agg (Wz (Kec.perm s))], []⟩ ?_
  refine then_n ?_
  refine sy_ret (by kernel_rfl) ?_
  refine sy_out (.agg (Wz (Kec.perm s))) rfl (results_cell_row (p := 2) (ty := 46) (by kernel_rfl) _ _ gr 46 (Wz (Kec.perm s)) (0, 0) _ (by kernel_rfl) h16 Try.underlying46 rfl (by rw [Wz_size, Kec.len_perm hs]; kernel_rfl)) ?_
  exact ⟨rfl, K18⟩
end Go.Proofs.Ytolbdhgclcemlaa
