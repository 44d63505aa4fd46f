import Derived.Test.YthmclmbeflbhhaaGreatDetectNoneP4
namespace Go.Proofs.YthmclmbeflbhhaaGreat
set_option maxRecDepth 100000
set_option maxHeartbeats 4000000
open Go Go.RowKit Go.Own Go.Shelf
attribute [local go_sem] Oper.semAt_some
theorem kregister_ok (w : World) : Calls Tryz.prog 197 #[] w fun e w' => e = .returned (.func (.func 200) #[] #[]) ∧ w = w' := by
 go_enter Tryz.func197, Tryz.ntmps197
 go_wp2
 go_ret
 exact ⟨rfl, rfl⟩
theorem reg_and1 (k : Nat) : bits .and .u64 ((Kec.regn k : Nat) : Int) 1 = ((Kec.bitn k : Nat) : Int) := u64_and_nat (Kec.regn k) 1 (by have := Kec.regn_lt k; omega) (by decide)
theorem reg_and255 (m : Nat) (h : m < 512) : bits .and .u64 ((m : Nat) : Int) 255 = ((m &&& 255 : Nat) : Int) := u64_and_nat m 255 (by omega) (by decide)
theorem reg_xor113 (m : Nat) (h : m < 256) : bits .xor .u64 ((m : Nat) : Int) 113 = ((m ^^^ 113 : Nat) : Int) := u64_xor_nat m 113 (by omega) (by decide)
/-- The bits of the register, of which the caller takes n. -/
theorem kregister_seq (n : Nat) (hn : 1 ≤ n) (m : Nat) :
  SeqOwnG True Fence.wide n Tryz.prog 200 #[] (fun x : Nat => #[.int .u64 (x : Int)]) ((List.range m).map Kec.bitn) Nob (fun _ _ => True) := by
 intro l J Jx W0 hJ hJx hY hE h0 _
 have HY := Lib.hid hY; clear hY
 have HE := Lib.hid (hE trivial); clear hE
 refine callsIn_of_wp Tryz.func200 rfl trivial ?_ rfl
 simp only [Tryz.ntmps200, List.size_toArray, List.length_cons, List.length_nil, Nat.reduceAdd, Nat.reduceSub, Array.replicate_succ, Array.replicate_zero, List.push_toArray, List.append_toArray, List.nil_append, List.cons_append]
 gi_wp2_with fail
 gi_loopg [2] m (fun g e wr => ∃ k : Nat, k ≤ m ∧ g = m - k ∧ e = .int .u64 ((Kec.regn k : Nat) : Int) ∧ J k wr)
 case atStart => exact ⟨0, by omega, by omega, rfl, h0⟩
 case round =>
  obtain ⟨k, hk, hg, rfl, hj⟩ := hrel
  by_cases hlt : k < m
  ·have hget : ((List.range m).map Kec.bitn)[k]? = some (Kec.bitn k) := by simp [hlt]
   obtain ⟨fn, tmps, assign, body, hy, hR⟩ := HY.out k _ wr hget hj trivial
   have hb := reg_and1 k
   have hr := Kec.regn_lt k
   have hn2 : Kec.regn (k + 1) = if 256 ≤ 2 * Kec.regn k then ((2 * Kec.regn k) &&& 255) ^^^ 113 else 2 * Kec.regn k := rfl
   have HN := Lib.hid hn2
   clear hn2 hget
   generalize Kec.regn k = r at *
   generalize Kec.bitn k = bt at *
   gi_wp2_with fail
   refine hR.mono ?_
   rintro e W3 (⟨rfl, hj3, _⟩ | ⟨rfl, hx3⟩)
   ·by_cases h256 : 256 ≤ 2 * r
    ·have d1 : decide ((256 : Int) ≤ (r : Int) * 2) = true := by simp; omega
     have e1 := reg_and255 (2 * r) (by omega)
     have e2 : (2 * r) &&& 255 < 2 ^ 8 := Nat.and_lt_two_pow _ (by decide)
     have e3 := reg_xor113 ((2 * r) &&& 255) e2
     rw [show ((2 * r : Nat) : Int) = (r : Int) * 2 by omega] at e1
     have w1 : IntKind.u64.wrap ((r : Int) * 2) = (r : Int) * 2 := by rw [show (r : Int) * 2 = ((2 * r : Nat) : Int) by omega]; exact wrapU _ (by omega)
     clear e2
     gi_wp2_with fail
     gi_roundg (m - (k + 1))
     case measure => omega
     case rel => exact ⟨k + 1, by omega, rfl, by rw [HN.out, if_pos h256], hj3⟩
    ·have d1 : decide ((256 : Int) ≤ (r : Int) * 2) = false := by simp; omega
     have w1 : IntKind.u64.wrap ((r : Int) * 2) = (r : Int) * 2 := by rw [show (r : Int) * 2 = ((2 * r : Nat) : Int) by omega]; exact wrapU _ (by omega)
     gi_wp2_with fail
     gi_roundg (m - (k + 1))
     case measure => omega
     case rel => exact ⟨k + 1, by omega, rfl, by rw [HN.out, if_neg h256]; congr 1; omega, hj3⟩
   ·gi_wp2
    go_end0
    exact ⟨⟨_, rfl⟩, .inr hx3⟩
  ·exfalso
   have : k = m := by omega
   subst this
   exact HE.out wr (by simpa using hj)
theorem shl1 (j : Nat) (h : j < 7) : (1 <<< j) % Kec.W = 1 <<< j ∧ 1 <<< j ≤ 64 ∧ 1 ≤ 1 <<< j := by
 have : ∀ j : Fin 7, (1 <<< j.val) % Kec.W = 1 <<< j.val ∧ 1 <<< j.val ≤ 64 ∧ 1 ≤ 1 <<< j.val := by decide
 exact this ⟨j, h⟩
noncomputable def qc83_0 (n : Nat) : Code := partOf Tryz.f191 n
noncomputable abbrev qo83_0 (n k : Nat) : Oper := (opsAt (qc83_0 n)).getD k default
theorem kconst_more {l N : Nat} {u0 u4 u6 u7 u8 u9 u10 u11 u12 u13 u14 u15 u16 u17 u18 u19 u20 u21 u22 : Value} (k x go gs : Nat) (hx : x < Kec.W) (hxk : x = Kec.bitn k) (hlt : k < 168) (h168 : k + 1 ≠ 168) (hne : go ≠ gs) (w : World) (Q : Exit → Act → World → Prop) (hL : ¬ LetsOut Q) (hgo : w.heap[go]? = some (.cells (Wz (Kec.outn k)) 250 (0, 0))) (hgs : w.heap[gs]? = some (.cells #[.int .i64 ((k : Nat) : Int)] 3 (0, 0))) (hQ : ∀ a W, W.heap[go]? = some (.cells (Wz (Kec.outn (k + 1))) 250 (0, 0)) → W.heap[gs]? = some (.cells #[.int .i64 ((k + 1 : Nat) : Int)] 3 (0, 0)) → Keeps (fun j => j = go ∨ j = gs) w W → Q .normal a W) :
  (qc83_0 245).wpIn (Fence.wide.inRound l) N Tryz.prog Q ⟨#[u0, pT go 0, pT gs 0, .int .u64 ((x : Nat) : Int), u4, .int .u64 ((x : Nat) : Int), u6, u7, u8, u9, u10, u11, u12, u13, u14, u15, u16, u17, u18, u19, u20, u21, u22], []⟩ w := by
 have s1 := shl1 (k % 7) (by omega)
 obtain ⟨_, s2, s3⟩ := s1
 have K0 : Keeps ((fun j => j = go ∨ j = gs)) w w := Keeps.refl _ _
 refine syI_block 1 (qc83_0 490) (by kernel_rfl) <| syI_seq (qc83_0 980) (qc83_0 981) (by kernel_rfl) <| syI_reg (by kernel_rfl) (fun ⟨a, w, h⟩ => hL ⟨a, w, h⟩) <| rg_still 5 12 (opsAt (qc83_0 980)) [qo83_0 980 0, qo83_0 980 1, qo83_0 980 2, qo83_0 980 3, qo83_0 980 4, qo83_0 980 5, qo83_0 980 6, qo83_0 980 7, qo83_0 980 8, qo83_0 980 9, qo83_0 980 10, qo83_0 980 11] [qo83_0 980 12] (by kernel_rfl) (by kernel_rfl) (by kernel_rfl) (by kernel_rfl) (by kernel_rfl) ?_
 obtain ⟨V2, eV2, kV2⟩ := drew_step w
 rw [eV2]
 clear eV2
 have ⟨K5, h3, h4⟩ := kV2.K2 K0 hgo hgs
 refine spq (iN k) (ldk 3 gs 0 h4) <| spq (iN (k / 7)) (exec_cast (congrArg (Value.int .i64) (wrapN (k / 7) (by omega))) (by kernel_rfl)) <| spq (pT go (k / 7)) (exec_cast (v := pT go (0 + (k / 7) * 1)) (by simp) (exec_indexAt_arr 250 (.tmp 1) (.tmp 7) (by kernel_rfl) go 0 (by kernel_rfl) .i64 (k / 7) (by kernel_rfl) _ _ 1 Tryz.underlying250 (by kernel_rfl) (by omega))) <| spq (uN (Kec.g (Kec.outn k) (k / 7))) (ldc 26 go (k / 7) (rc (h3) (Wz_get _ (k / 7) (by rw [Kec.outn_len]; omega)))) <| skq (uN x) <| spq (iN k) (ldk 3 gs 0 h4) <| skq (iN (k % 7)) <| spq (uN (1 <<< (k % 7))) (exec_cast (congrArg (fun n : Nat => Value.int .u64 (n : Int)) (shl1 (k % 7) (by omega)).1) (exec_binop .shl 254 3 (.const (.int .u64 1)) (.tmp 12) (by kernel_rfl) (uN 1) (iN (k % 7)) _ (by kernel_rfl) (by kernel_rfl) (by kernel_rfl) (run_shlU _ _ 1 (k % 7) (by omega)))) <| spq (uN (1 <<< (k % 7) - 1)) (exec_cast (v := .int .u64 (IntKind.u64.wrap (((1 <<< (k % 7) : Nat) : Int) - 1))) (congrArg (Value.int .u64) (by rw [show ((1 <<< (k % 7) : Nat) : Int) - (1 : Int) = ((1 <<< (k % 7) - 1 : Nat) : Int) by omega]; exact wrapU _ (by omega))) (by kernel_rfl)) <| spq (uN ((x <<< (1 <<< (k % 7) - 1)) % Kec.W)) (exec_binop .shl 26 254 (.tmp 10) (.tmp 14) (by kernel_rfl) (uN x) (uN (1 <<< (k % 7) - 1)) _ (by kernel_rfl) (by kernel_rfl) (by kernel_rfl) (run_shlU _ _ x _ (by omega))) <| spq (uN ((Kec.g (Kec.outn k) (k / 7)) ||| ((x <<< (1 <<< (k % 7) - 1)) % Kec.W))) (exec_cast (orU (Kec.g (Kec.outn k) (k / 7)) ((x <<< (1 <<< (k % 7) - 1)) % Kec.W) (Kec.ws_outn _ _) (Nat.mod_lt _ Kec.W_pos)) (by kernel_rfl)) <| spq (pT go (k / 7)) (exec_cast (v := pT go (0 + (k / 7) * 1)) (by simp) (exec_indexAt_arr 250 (.tmp 1) (.tmp 7) (by kernel_rfl) go 0 (by kernel_rfl) .i64 (k / 7) (by kernel_rfl) _ _ 1 Tryz.underlying250 (by kernel_rfl) (by omega))) <| st_end ?_
 obtain ⟨V6, eV6, kV6⟩ := cell_step V2 go (k / 7) (.int .u64 (((Kec.g (Kec.outn k) (k / 7)) ||| ((x <<< (1 <<< (k % 7) - 1)) % Kec.W) : Nat) : Int))
 have h7 : V6.heap[go]? = some (.cells (Wz (Kec.outn (k + 1))) 250 (0, 0)) := eV6 ▸ ((heap_setCell_same _ go (k / 7) _ _ (.int .u64 (((Kec.g (Kec.outn k) (k / 7)) ||| ((x <<< (1 <<< (k % 7) - 1)) % Kec.W) : Nat) : Int)) h3).trans (congrArg (fun c => some (Obj.cells c 250 (0, 0))) (show (Wz (Kec.outn k) : Array Value).setIfInBounds (k / 7) (.int .u64 (((Kec.g (Kec.outn k) (k / 7)) ||| ((x <<< (1 <<< (k % 7) - 1)) % Kec.W) : Nat) : Int)) = Wz (Kec.outn (k + 1)) from by rw [Wz_set]; exact congrArg Wz (by subst hxk; rfl))))
 refine ls_skip (qo83_0 980 12) (w' := V6) (by kernel_rfl) (by rw [← eV6]; exact exec_store_cell 26 (.tmp 17) (.tmp 16) (by kernel_rfl) go (k / 7) (by kernel_rfl) (.int .u64 (((Kec.g (Kec.outn k) (k / 7)) ||| ((x <<< (1 <<< (k % 7) - 1)) % Kec.W) : Nat) : Int)) (by kernel_rfl) (by kernel_rfl) (by kernel_rfl) (.int .u64 ((Kec.g (Kec.outn k) (k / 7) : Nat) : Int)) (rc (h3) (Wz_get _ (k / 7) (by rw [Kec.outn_len]; omega))) (frozen_of_row _ _ _ _ _ h3) (by kernel_rfl)) ?_
 clear eV6
 have h8 := kV6.bO h4
 have K9 : Keeps ((fun j => j = go ∨ j = gs)) w V6 := K5.then kV6 (fun i hi hm => by unfold Own.One at hm; subst hm; exact .inl rfl)
 refine ls_end <| sy_a ⟨#[u0, pT go 0, pT gs 0, uN x, u4, uN x, iN k, iN (k / 7), pT go (k / 7), uN (Kec.g (Kec.outn k) (k / 7)), uN x, iN k, iN (k % 7), uN (1 <<< (k % 7)), uN (1 <<< (k % 7) - 1), uN ((x <<< (1 <<< (k % 7) - 1)) % Kec.W), uN ((Kec.g (Kec.outn k) (k / 7)) ||| ((x <<< (1 <<< (k % 7) - 1)) % Kec.W)), pT go (k / 7), u18, u19, u20, u21, u22], []⟩ <| then_n <| syI_seq (qc83_0 1962) (qc83_0 1963) (by kernel_rfl) <| syI_reg (by kernel_rfl) (fun ⟨a, w, h⟩ => hL ⟨a, w, h⟩) <| rg_plain 6 (opsAt (qc83_0 1962)) [0, 1, 2] (by kernel_rfl) (by kernel_rfl) <| ppq (iN k) (ldk 3 gs 0 h8) <| ppq (iN (k + 1)) (exec_cast (congrArg (Value.int .i64) (wrapN (k + 1) (by omega))) (by kernel_rfl)) <| pce 3 gs 0 (iN (k + 1)) (#[.int .i64 ((k + 1 : Nat) : Int)]) h8 (rc (h8) (by kernel_rfl)) (by kernel_rfl) (u := iN k) fun V10 h11 kV10 => ?_
 have h12 := kV10.bO h7
 have K13 : Keeps ((fun j => j = go ∨ j = gs)) w V10 := K9.then kV10 (fun i hi hm => by unfold Own.One at hm; subst hm; exact .inr rfl)
 refine ps_end <| sy_a ⟨#[u0, pT go 0, pT gs 0, uN x, u4, uN x, iN k, iN (k / 7), pT go (k / 7), uN (Kec.g (Kec.outn k) (k / 7)), uN x, iN k, iN (k % 7), uN (1 <<< (k % 7)), uN (1 <<< (k % 7) - 1), uN ((x <<< (1 <<< (k % 7) - 1)) % Kec.W), uN ((Kec.g (Kec.outn k) (k / 7)) ||| ((x <<< (1 <<< (k % 7) - 1)) % Kec.W)), pT go (k / 7), iN k, iN (k + 1), u20, u21, u22], []⟩ <| then_n <| syI_seq (qc83_0 3926) (qc83_0 3927) (by kernel_rfl) <| syI_reg (by kernel_rfl) (fun ⟨a, w, h⟩ => hL ⟨a, w, h⟩) <| rg_plain 7 (opsAt (qc83_0 3926)) [0, 1] (by kernel_rfl) (by kernel_rfl) <| ppq (iN (k + 1)) (ldk 3 gs 0 h11) <| ppq (.bool false) (eqf (((k + 1 : Nat) : Int)) ((168) : Int) (by omega)) <| ps_end <| sy_a ⟨#[u0, pT go 0, pT gs 0, uN x, u4, uN x, iN k, iN (k / 7), pT go (k / 7), uN (Kec.g (Kec.outn k) (k / 7)), uN x, iN k, iN (k % 7), uN (1 <<< (k % 7)), uN (1 <<< (k % 7) - 1), uN ((x <<< (1 <<< (k % 7) - 1)) % Kec.W), uN ((Kec.g (Kec.outn k) (k / 7)) ||| ((x <<< (1 <<< (k % 7) - 1)) % Kec.W)), pT go (k / 7), iN k, iN (k + 1), iN (k + 1), .bool false, u22], []⟩ <| then_n <| syI_no (.tmp 21) (qc83_0 7854) (qc83_0 7855) (by kernel_rfl) (by kernel_rfl) <| syI_skip (by kernel_rfl) <| blk_n ?_
 exact hQ _ _ h12 h11 K13
theorem kconst_last {l N : Nat} {u0 u4 u6 u7 u8 u9 u10 u11 u12 u13 u14 u15 u16 u17 u18 u19 u20 u21 u22 : Value} (k x go gs : Nat) (hx : x < Kec.W) (hxk : x = Kec.bitn k) (hlt : k < 168) (h168 : k + 1 = 168) (hne : go ≠ gs) (w : World) (Q : Exit → Act → World → Prop) (hL : ¬ LetsOut Q) (hgo : w.heap[go]? = some (.cells (Wz (Kec.outn k)) 250 (0, 0))) (hgs : w.heap[gs]? = some (.cells #[.int .i64 ((k : Nat) : Int)] 3 (0, 0))) (hQ : ∀ a W, W.heap[go]? = some (.cells (Wz (Kec.outn (k + 1))) 250 (0, 0)) → W.heap[gs]? = some (.cells #[.int .i64 ((k + 1 : Nat) : Int)] 3 (0, 0)) → Keeps (fun j => j = go ∨ j = gs) w W → Q (.exit 0) a W) :
  (qc83_0 245).wpIn (Fence.wide.inRound l) N Tryz.prog Q ⟨#[u0, pT go 0, pT gs 0, .int .u64 ((x : Nat) : Int), u4, .int .u64 ((x : Nat) : Int), u6, u7, u8, u9, u10, u11, u12, u13, u14, u15, u16, u17, u18, u19, u20, u21, u22], []⟩ w := by
 have s1 := shl1 (k % 7) (by omega)
 obtain ⟨_, s2, s3⟩ := s1
 have K0 : Keeps ((fun j => j = go ∨ j = gs)) w w := Keeps.refl _ _
 refine syI_block 1 (qc83_0 490) (by kernel_rfl) <| syI_seq (qc83_0 980) (qc83_0 981) (by kernel_rfl) <| syI_reg (by kernel_rfl) (fun ⟨a, w, h⟩ => hL ⟨a, w, h⟩) <| rg_still 5 12 (opsAt (qc83_0 980)) [qo83_0 980 0, qo83_0 980 1, qo83_0 980 2, qo83_0 980 3, qo83_0 980 4, qo83_0 980 5, qo83_0 980 6, qo83_0 980 7, qo83_0 980 8, qo83_0 980 9, qo83_0 980 10, qo83_0 980 11] [qo83_0 980 12] (by kernel_rfl) (by kernel_rfl) (by kernel_rfl) (by kernel_rfl) (by kernel_rfl) ?_
 obtain ⟨V15, eV15, kV15⟩ := drew_step w
 rw [eV15]
 clear eV15
 have ⟨K18, h16, h17⟩ := kV15.K2 K0 hgo hgs
 refine spq (iN k) (ldk 3 gs 0 h17) <| spq (iN (k / 7)) (exec_cast (congrArg (Value.int .i64) (wrapN (k / 7) (by omega))) (by kernel_rfl)) <| spq (pT go (k / 7)) (exec_cast (v := pT go (0 + (k / 7) * 1)) (by simp) (exec_indexAt_arr 250 (.tmp 1) (.tmp 7) (by kernel_rfl) go 0 (by kernel_rfl) .i64 (k / 7) (by kernel_rfl) _ _ 1 Tryz.underlying250 (by kernel_rfl) (by omega))) <| spq (uN (Kec.g (Kec.outn k) (k / 7))) (ldc 26 go (k / 7) (rc (h16) (Wz_get _ (k / 7) (by rw [Kec.outn_len]; omega)))) <| skq (uN x) <| spq (iN k) (ldk 3 gs 0 h17) <| skq (iN (k % 7)) <| spq (uN (1 <<< (k % 7))) (exec_cast (congrArg (fun n : Nat => Value.int .u64 (n : Int)) (shl1 (k % 7) (by omega)).1) (exec_binop .shl 254 3 (.const (.int .u64 1)) (.tmp 12) (by kernel_rfl) (uN 1) (iN (k % 7)) _ (by kernel_rfl) (by kernel_rfl) (by kernel_rfl) (run_shlU _ _ 1 (k % 7) (by omega)))) <| spq (uN (1 <<< (k % 7) - 1)) (exec_cast (v := .int .u64 (IntKind.u64.wrap (((1 <<< (k % 7) : Nat) : Int) - 1))) (congrArg (Value.int .u64) (by rw [show ((1 <<< (k % 7) : Nat) : Int) - (1 : Int) = ((1 <<< (k % 7) - 1 : Nat) : Int) by omega]; exact wrapU _ (by omega))) (by kernel_rfl)) <| spq (uN ((x <<< (1 <<< (k % 7) - 1)) % Kec.W)) (exec_binop .shl 26 254 (.tmp 10) (.tmp 14) (by kernel_rfl) (uN x) (uN (1 <<< (k % 7) - 1)) _ (by kernel_rfl) (by kernel_rfl) (by kernel_rfl) (run_shlU _ _ x _ (by omega))) <| spq (uN ((Kec.g (Kec.outn k) (k / 7)) ||| ((x <<< (1 <<< (k % 7) - 1)) % Kec.W))) (exec_cast (orU (Kec.g (Kec.outn k) (k / 7)) ((x <<< (1 <<< (k % 7) - 1)) % Kec.W) (Kec.ws_outn _ _) (Nat.mod_lt _ Kec.W_pos)) (by kernel_rfl)) <| spq (pT go (k / 7)) (exec_cast (v := pT go (0 + (k / 7) * 1)) (by simp) (exec_indexAt_arr 250 (.tmp 1) (.tmp 7) (by kernel_rfl) go 0 (by kernel_rfl) .i64 (k / 7) (by kernel_rfl) _ _ 1 Tryz.underlying250 (by kernel_rfl) (by omega))) <| st_end ?_
 obtain ⟨V19, eV19, kV19⟩ := cell_step V15 go (k / 7) (.int .u64 (((Kec.g (Kec.outn k) (k / 7)) ||| ((x <<< (1 <<< (k % 7) - 1)) % Kec.W) : Nat) : Int))
 have h20 : V19.heap[go]? = some (.cells (Wz (Kec.outn (k + 1))) 250 (0, 0)) := eV19 ▸ ((heap_setCell_same _ go (k / 7) _ _ (.int .u64 (((Kec.g (Kec.outn k) (k / 7)) ||| ((x <<< (1 <<< (k % 7) - 1)) % Kec.W) : Nat) : Int)) h16).trans (congrArg (fun c => some (Obj.cells c 250 (0, 0))) (show (Wz (Kec.outn k) : Array Value).setIfInBounds (k / 7) (.int .u64 (((Kec.g (Kec.outn k) (k / 7)) ||| ((x <<< (1 <<< (k % 7) - 1)) % Kec.W) : Nat) : Int)) = Wz (Kec.outn (k + 1)) from by rw [Wz_set]; exact congrArg Wz (by subst hxk; rfl))))
 refine ls_skip (qo83_0 980 12) (w' := V19) (by kernel_rfl) (by rw [← eV19]; exact exec_store_cell 26 (.tmp 17) (.tmp 16) (by kernel_rfl) go (k / 7) (by kernel_rfl) (.int .u64 (((Kec.g (Kec.outn k) (k / 7)) ||| ((x <<< (1 <<< (k % 7) - 1)) % Kec.W) : Nat) : Int)) (by kernel_rfl) (by kernel_rfl) (by kernel_rfl) (.int .u64 ((Kec.g (Kec.outn k) (k / 7) : Nat) : Int)) (rc (h16) (Wz_get _ (k / 7) (by rw [Kec.outn_len]; omega))) (frozen_of_row _ _ _ _ _ h16) (by kernel_rfl)) ?_
 clear eV19
 have h21 := kV19.bO h17
 have K22 : Keeps ((fun j => j = go ∨ j = gs)) w V19 := K18.then kV19 (fun i hi hm => by unfold Own.One at hm; subst hm; exact .inl rfl)
 refine ls_end <| sy_a ⟨#[u0, pT go 0, pT gs 0, uN x, u4, uN x, iN k, iN (k / 7), pT go (k / 7), uN (Kec.g (Kec.outn k) (k / 7)), uN x, iN k, iN (k % 7), uN (1 <<< (k % 7)), uN (1 <<< (k % 7) - 1), uN ((x <<< (1 <<< (k % 7) - 1)) % Kec.W), uN ((Kec.g (Kec.outn k) (k / 7)) ||| ((x <<< (1 <<< (k % 7) - 1)) % Kec.W)), pT go (k / 7), u18, u19, u20, u21, u22], []⟩ <| then_n <| syI_seq (qc83_0 1962) (qc83_0 1963) (by kernel_rfl) <| syI_reg (by kernel_rfl) (fun ⟨a, w, h⟩ => hL ⟨a, w, h⟩) <| rg_plain 6 (opsAt (qc83_0 1962)) [0, 1, 2] (by kernel_rfl) (by kernel_rfl) <| ppq (iN k) (ldk 3 gs 0 h21) <| ppq (iN (k + 1)) (exec_cast (congrArg (Value.int .i64) (wrapN (k + 1) (by omega))) (by kernel_rfl)) <| pce 3 gs 0 (iN (k + 1)) (#[.int .i64 ((k + 1 : Nat) : Int)]) h21 (rc (h21) (by kernel_rfl)) (by kernel_rfl) (u := iN k) fun V23 h24 kV23 => ?_
 have h25 := kV23.bO h20
 have K26 : Keeps ((fun j => j = go ∨ j = gs)) w V23 := K22.then kV23 (fun i hi hm => by unfold Own.One at hm; subst hm; exact .inr rfl)
 refine ps_end <| sy_a ⟨#[u0, pT go 0, pT gs 0, uN x, u4, uN x, iN k, iN (k / 7), pT go (k / 7), uN (Kec.g (Kec.outn k) (k / 7)), uN x, iN k, iN (k % 7), uN (1 <<< (k % 7)), uN (1 <<< (k % 7) - 1), uN ((x <<< (1 <<< (k % 7) - 1)) % Kec.W), uN ((Kec.g (Kec.outn k) (k / 7)) ||| ((x <<< (1 <<< (k % 7) - 1)) % Kec.W)), pT go (k / 7), iN k, iN (k + 1), u20, u21, u22], []⟩ <| then_n <| syI_seq (qc83_0 3926) (qc83_0 3927) (by kernel_rfl) <| syI_reg (by kernel_rfl) (fun ⟨a, w, h⟩ => hL ⟨a, w, h⟩) <| rg_plain 7 (opsAt (qc83_0 3926)) [0, 1] (by kernel_rfl) (by kernel_rfl) <| ppq (iN (k + 1)) (ldk 3 gs 0 h24) <| ppq (.bool true) (eqt (((k + 1 : Nat) : Int)) ((168) : Int) (by omega)) <| ps_end <| sy_a ⟨#[u0, pT go 0, pT gs 0, uN x, u4, uN x, iN k, iN (k / 7), pT go (k / 7), uN (Kec.g (Kec.outn k) (k / 7)), uN x, iN k, iN (k % 7), uN (1 <<< (k % 7)), uN (1 <<< (k % 7) - 1), uN ((x <<< (1 <<< (k % 7) - 1)) % Kec.W), uN ((Kec.g (Kec.outn k) (k / 7)) ||| ((x <<< (1 <<< (k % 7) - 1)) % Kec.W)), pT go (k / 7), iN k, iN (k + 1), iN (k + 1), .bool true, u22], []⟩ <| then_n <| syI_yes (.tmp 21) (qc83_0 7854) (qc83_0 7855) (by kernel_rfl) (by kernel_rfl) <| syI_exit 0 (by kernel_rfl) <| blk_p (by decide) ?_
 exact hQ _ _ h25 h24 K26
theorem kconst_assign {l N : Nat} {u0 u1 u2 u3 u4 u6 u7 u8 u9 u10 u11 u12 u13 u14 u15 u16 u17 u18 u19 u20 u21 u22 : Value} (x : Nat) (w : World) (Q : Exit → Act → World → Prop) (hL : ¬ LetsOut Q) (hQ : Q .normal ⟨#[u0, u1, u2, .int .u64 ((x : Nat) : Int), u4, .int .u64 ((x : Nat) : Int), u6, u7, u8, u9, u10, u11, u12, u13, u14, u15, u16, u17, u18, u19, u20, u21, u22], []⟩ w) :
  (qc83_0 244).wpIn (Fence.wide.inRound l) N Tryz.prog Q ⟨#[u0, u1, u2, u3, u4, .int .u64 ((x : Nat) : Int), u6, u7, u8, u9, u10, u11, u12, u13, u14, u15, u16, u17, u18, u19, u20, u21, u22], []⟩ w := by
 have K0 : Keeps Nob w w := Keeps.refl _ _
 refine syI_reg (by kernel_rfl) (fun ⟨a, w, h⟩ => hL ⟨a, w, h⟩) <| rg_plain 4 (opsAt (qc83_0 244)) [0] (by kernel_rfl) (by kernel_rfl) <| pkq (uN x) <| ps_end <| sy_a ⟨#[u0, u1, u2, uN x, u4, uN x, u6, u7, u8, u9, u10, u11, u12, u13, u14, u15, u16, u17, u18, u19, u20, u21, u22], []⟩ ?_
 exact hQ
theorem kconstants_ok (w : World) :
  Calls Tryz.prog 191 #[] w (fun e w' => e = .returned (.agg (Wz Kec.K)) ∧ Keeps Nob w w') := by
 have K0 : Keeps Nob w w := Keeps.refl _ _
 refine calls_marks 3 (c := (qc83_0 1)) Tryz.func191 (by kernel_rfl) <| sy_frame ⟨fr [ud] 22, []⟩ (by kernel_rfl) <| qr_ [0] <| pal 250 (zr_u64_24) (.agg (zr_u64_24)) fun V27 gr egr h28 kV27 => ?_
 have n29 := nk egr K0
 have K30 := K0.nn kV27
 refine ps_end <| sy_a ⟨fr [pT gr 0] 22, []⟩ <| tqr_ [0] <| pal 250 (zr_u64_24) (.agg (zr_u64_24)) fun V31 go ego h32 kV31 => ?_
 have n33 := nl ego h28
 have n34 := nk ego K30
 have ⟨K36, h35⟩ := kV31.K1 K30 h28
 refine ps_end <| sy_a ⟨fr [pT gr 0, pT go 0] 21, []⟩ <| tqr_ [0, 1] <| pal 3 (#[.int .i64 0]) (.int .i64 0) fun V37 gs egs h38 kV37 => ?_
 have n39 := nl egs h35
 have n40 := nl egs h32
 have n41 := nk egs K36
 have ⟨K44, h42, h43⟩ := kV37.K2 K36 h35 h32
 refine pce 3 gs 0 (.int .i64 0) (#[.int .i64 0]) h38 (rc (h38) (by kernel_rfl)) (by kernel_rfl) (u := .int .i64 0) fun V45 h46 kV45 => ?_
 have ⟨K49, h47, h48⟩ := kV45.Ko2 K44 h42 h43
 refine ps_end <| sy_a ⟨fr [pT gr 0, pT go 0, pT gs 0] 20, []⟩ <| tq_ <| qr_ [0] ?_
 refine pcq 197 #[] Tryz.func197 ((kregister_ok _).mono ?_)
 rintro e w1 ⟨rfl, rfl⟩
 refine ⟨_, rfl, ?_⟩
 refine ps_end <| sy_a ⟨fr [pT gr 0, pT go 0, pT gs 0, ud, .func (.func 200) #[] #[]] 18, []⟩ <| then_n <| bl_ 0 ?_
 have szW : w.heap.size ≤ V45.heap.size := K49.size
 have ltr := lt_of_block h47
 have lto := lt_of_block h48
 have lts := lt_of_block h46
 refine sy_part (.rangeFunc (.tmp 4) #[5] (qc83_0 244) (qc83_0 245)) (by kernel_rfl) ?_
 refine wp_range1G True 3 (gf := 200) (lb := #[]) (by kernel_rfl) (enters_of Tryz.func200 (by kernel_rfl) rfl) (encs := fun x : Nat => #[.int .u64 (x : Int)]) (fun _ => rfl) (xs := (List.range 168).map Kec.bitn) (Mi := Nob) (S := fun _ _ => True) (fun _ h => h.elim) (kregister_seq 5 (by omega) 168) (fun _ _ _ _ _ => trivial) trivial
  (fun k V => k < 168 ∧ V.heap[gr]? = some (.cells zr_u64_24 250 (0, 0)) ∧ V.heap[go]? = some (.cells (Wz (Kec.outn k)) 250 (0, 0)) ∧ V.heap[gs]? = some (.cells #[.int .i64 ((k : Nat) : Int)] 3 (0, 0)) ∧ Keeps Nob w V) (fun c V => c = .exit 0 ∧ V.heap[gr]? = some (.cells zr_u64_24 250 (0, 0)) ∧ V.heap[go]? = some (.cells (Wz (Kec.outn 168)) 250 (0, 0)) ∧ V.heap[gs]? = some (.cells #[.int .i64 ((168 : Nat) : Int)] 3 (0, 0)) ∧ Keeps Nob w V) ?hI ?hIx ?h0 ?hE (fun x => ⟨fr [pT gr 0, pT go 0, pT gs 0, .int .u64 ((x : Nat) : Int), .func (.func 200) #[] #[], .int .u64 ((x : Nat) : Int)] 17, []⟩) ?assign ?body ?done ?stop
 case h0 => exact ⟨by omega, h47, h48.trans (by kernel_rfl), h46.trans (by kernel_rfl), K49⟩
 case hE => rintro _ V ⟨h, _⟩; simp at h
 case hI =>
  rintro k A V ⟨h1, h2, h3, h4, h5⟩ t
  exact ⟨h1, t.same _ _ h2 (fun x => x) (.inr rfl), t.same _ _ h3 (fun x => x) (.inr rfl), t.same _ _ h4 (fun x => x) (.inr rfl), t.keepsN h5 szW⟩
 case hIx =>
  rintro k A V ⟨h1, h2, h3, h4, h5⟩ t
  exact ⟨h1, t.same _ _ h2 (fun x => x) (.inr rfl), t.same _ _ h3 (fun x => x) (.inr rfl), t.same _ _ h4 (fun x => x) (.inr rfl), t.keepsN h5 szW⟩
 case assign =>
  intro l k x V K hx hi hs hK
  refine syI_frame ⟨fr [pT gr 0, pT go 0, pT gs 0, ud, .func (.func 200) #[] #[], .int .u64 ((x : Nat) : Int)] 17, []⟩ (by kernel_rfl) ?_
  refine kconst_assign x V _ ?_ ?_
  ·exact fun h => h.elim fun _ h => h.elim fun _ h => h
  ·exact hK
 case body =>
  rintro l k x V hl hr hx ⟨h1, h2, h3, h4, h5⟩ _
  have hxk : x = Kec.bitn k := by rw [List.getElem?_map, List.getElem?_range h1] at hx; simpa using hx.symm
  have hxl : x < Kec.W := by have := Kec.bitn_lt k; have := Kec.W_eq; rw [hxk]; omega
  by_cases h168 : k + 1 = 168
  ·refine kconst_last k x go gs hxl hxk h1 h168 (by omega) V _ (fun h => h.elim fun _ h => h.elim fun _ h => h) h3 h4 (fun a W g1 g2 g3 => ?_)
   have e1 := (g3.block gr (lt_of_block h2) (by intro e; omega)).trans h2
   refine ⟨g3.from (fun j hj => by rcases hj with rfl | rfl <;> omega), rfl, e1, ?_, ?_, h5.then g3 (fun i hi hm => by omega)⟩
   ·rw [h168] at g1; exact g1
   ·rw [h168] at g2; exact g2
  ·refine kconst_more k x go gs hxl hxk h1 h168 (by omega) V _ (fun h => h.elim fun _ h => h.elim fun _ h => h) h3 h4 (fun a W g1 g2 g3 => ?_)
   have e1 := (g3.block gr (lt_of_block h2) (by intro e; omega)).trans h2
   exact ⟨g3.from (fun j hj => by rcases hj with rfl | rfl <;> omega), ⟨by omega, e1, g1, g2, h5.then g3 (fun i hi hm => by omega)⟩, trivial⟩
 case done =>
  rintro D V hD ⟨h, _⟩ hK
  simp at h
 case stop =>
  rintro D c Vz hD ⟨rfl, h2, h3, h4, h5⟩ hK
  have hDs : V45.heap.size ≤ D := hD
  refine sy_exit 0 rfl <| blk_e <| tqr_ [0, 1] <| ppq (.agg (Wz (Kec.outn 168))) (ldr 250 go (h3) (by rw [Wz_size, Kec.outn_len]; kernel_rfl)) <| pst 250 gr ((Wz (Kec.outn 168))) h2 (by rw [Wz_size, Kec.outn_len]; kernel_rfl) (by rw [Wz_size, Kec.outn_len]; rfl) (Wz_one _) fun V50 h51 kV50 => ?_
  have h54 : V50.heap[D]? = some (.deferred (some [])) := (kV50.block D (Array.getElem?_eq_some_iff.1 hK).1 (by intro e; first | exact e.elim | (unfold Own.One at e; omega) | omega)).trans hK
  have K55 := h5.nO kV50
  refine ps_end <| sy_a ⟨#[pT gr 0, pT go 0, pT gs 0, undef, .func (.func 200) #[] #[], undef, undef, undef, undef, undef, undef, undef, undef, undef, undef, undef, undef, undef, undef, undef, undef, undef, .agg (Wz (Kec.outn 168))], [{ target := .collected D, args := #[] }]⟩ <| then_n <| u_ ?_
  obtain ⟨V56, eV56⟩ : ∃ V, V50.putObj D (.deferred none) = V := ⟨_, rfl⟩
  have tV56 : Turn V45.heap.size Nob V50 V56 := eV56 ▸ Turn.put _ _ _ _ hDs h54 rfl
  have h59 : V56.heap[gr]? = some (.cells (Wz (Kec.outn 168)) 250 (0, 0)) := tV56.same _ _ h51 (fun x => x) (.inr rfl)
  have K60 : Keeps Nob w V56 := tV56.keepsN K55 (by omega)
  refine marks_ret h54 (v := .agg (Wz (Kec.outn 168))) (by rw [eV56]; exact results_cell_row (p := 0) (ty := 250) (by kernel_rfl) _ _ gr 250 (Wz (Kec.outn 168)) (0, 0) _ (by kernel_rfl) h59 Tryz.underlying250 rfl (by rw [Wz_size, Kec.outn_len]; kernel_rfl)) ?_
  rw [eV56]
  exact ⟨by rw [Kec.outn_K], K60⟩
theorem K_len : Kec.K.length = 24 := rfl
theorem ws_K : Kec.Ws Kec.K := by
 intro i
 by_cases h : i < 24
 ·have : ∀ j : Fin 24, Kec.g Kec.K j.val < Kec.W := by decide
  exact this ⟨i, h⟩
 ·rw [Kec.g_big _ _ (by rw [K_len]; omega)]; exact Kec.W_pos
/-- So many rounds. -/
def permn (s : List Nat) (r : Nat) : List Nat := (Kec.K.take r).foldl Kec.round s
theorem permn_succ (s : List Nat) (r : Nat) (h : r < 24) : permn s (r + 1) = Kec.round (permn s r) (Kec.g Kec.K r) := by
 unfold permn Kec.g
 rw [List.take_succ_eq_append_getElem (by rw [K_len]; exact h), List.foldl_append]
 simp [List.getElem?_eq_getElem (show r < Kec.K.length by rw [K_len]; exact h)]
theorem permn_len (s : List Nat) (hs : s.length = 25) (r : Nat) : (permn s r).length = 25 := Kec.len_fold _ _ hs
theorem permn_ws (s : List Nat) (ws : Kec.Ws s) (r : Nat) : Kec.Ws (permn s r) := Kec.ws_fold _ (fun k hk => Kec.K_lt k (List.mem_of_mem_take hk)) s ws
theorem permn_all (s : List Nat) : permn s 24 = Kec.perm s := by
 unfold permn Kec.perm
 rw [List.take_of_length_le (by rw [K_len]; omega)]
noncomputable def qc83_1 (n : Nat) : Code := partOf Tryz.f183 n
noncomputable abbrev qo83_1 (n k : Nat) : Oper := (opsAt (qc83_1 n)).getD k default
theorem kpermuted_ok (s : List Nat) (w : World) (hs : s.length = 25) (ws : Kec.Ws s) :
  Calls Tryz.prog 183 #[.agg (Wz s)] w (fun e w' => e = .returned (.agg (Wz (Kec.perm s))) ∧ Keeps Nob w w') := by
 have K0 : Keeps Nob w w := Keeps.refl _ _
 refine sy_enter (qc83_1 1) ⟨fr [.agg (Wz s)] 29, []⟩ Tryz.func183 (by kernel_rfl) (by kernel_rfl) <| qr_ [0, 1] <| pbx 229 ((Wz s)) (.agg (Wz s)) fun V1 gb egb h2 kV1 => ?_
 have n3 := nk egb K0
 have K4 := K0.nn kV1
 refine pal 229 (zr_u64_25) (.agg (zr_u64_25)) fun V5 gr egr h6 kV5 => ?_
 have n7 := nl egr h2
 have n8 := nk egr K4
 have ⟨K10, h9⟩ := kV5.K1 K4 h2
 refine eqr_ [0, 1, 2, 3, 4, 5] <| pkq (.func (.func 188) #[pT gb 0] #[]) <| pkq (.func (.func 189) #[pT gb 0] #[]) <| pkq (.func (.func 190) #[pT gb 0] #[]) <| pkq (.agg #[.func (.func 188) #[pT gb 0] #[], .func (.func 189) #[pT gb 0] #[], .func (.func 190) #[pT gb 0] #[]]) <| pal 259 (#[.nilFunc, .nilFunc, .nilFunc]) (.agg (#[.nilFunc, .nilFunc, .nilFunc])) fun V11 gt egt h12 kV11 => ?_
 have n13 := nl egt h9
 have n14 := nl egt h6
 have n15 := nk egt K10
 have ⟨K18, h16, h17⟩ := kV11.K2 K10 h9 h6
 obtain ⟨V19, eV19, kV19⟩ := rowset_step V11 gt (#[.func (.func 188) #[pT gb 0] #[], .func (.func 189) #[pT gb 0] #[], .func (.func 190) #[pT gb 0] #[]])
 have h20 : V19.heap[gt]? = some (.cells (#[.func (.func 188) #[pT gb 0] #[], .func (.func 189) #[pT gb 0] #[], .func (.func 190) #[pT gb 0] #[]]) 259 (0, 0)) := eV19 ▸ setRow_heap _ _ _ _ _ _ h12
 refine pzq (w' := V19) (by rw [← eV19]; exact exec_store_row 259 (.tmp 3) (.tmp 11) (by kernel_rfl) gt (#[.func (.func 188) #[pT gb 0] #[], .func (.func 189) #[pT gb 0] #[], .func (.func 190) #[pT gb 0] #[]]) (by kernel_rfl) (by kernel_rfl) 259 (#[.nilFunc, .nilFunc, .nilFunc]) h12 (by kernel_rfl) (by kernel_rfl) (by kernel_rfl)) ?_
 clear eV19
 have ⟨K23, h21, h22⟩ := kV19.Ko2 K18 h16 h17
 refine eq_ <| qr_ [0, 1] ?_
 refine pcq 191 #[] Tryz.func191 ((kconstants_ok _).mono ?_)
 rintro e V24 ⟨rfl, kV24⟩
 refine ⟨_, rfl, ?_⟩
 have ⟨K28, h25, h26, h27⟩ := kV24.K3 K23 h21 h22 h20
 refine pkq (.int .i64 0) <| et_ <| bl_ 0 ?_
 refine sy_loop (qc83_1 116) (fun a V => ∃ (r : Nat) (u5 u7 u14 u15 u16 u17 u18 u19 u20 u21 u22 u23 u24 u25 u26 u27 u28 : Value), (a = ⟨#[.agg (Wz s), pT gb 0, pT gr 0, pT gt 0, ud, u5, ud, u7, .func (.func 188) #[pT gb 0] #[], .func (.func 189) #[pT gb 0] #[], .func (.func 190) #[pT gb 0] #[], .agg #[.func (.func 188) #[pT gb 0] #[], .func (.func 189) #[pT gb 0] #[], .func (.func 190) #[pT gb 0] #[]], .agg (Wz Kec.K), iN r, u14, u15, u16, u17, u18, u19, u20, u21, u22, u23, u24, u25, u26, u27, u28, ud], []⟩) ∧ (r ≤ 24) ∧ (V.heap[gb]? = some (.cells (Wz (permn s r)) 229 (0, 0))) ∧ (V.heap[gr]? = some (.cells (zr_u64_25) 229 (0, 0))) ∧ (V.heap[gt]? = some (.cells (#[.func (.func 188) #[pT gb 0] #[], .func (.func 189) #[pT gb 0] #[], .func (.func 190) #[pT gb 0] #[]]) 259 (0, 0))) ∧ (Keeps Nob w V)) (fun a _ => 24 - (intOf (a.tmps.getD 13 undef)).toNat) (by kernel_rfl) ?_ ?_
 ·exact ⟨0, undef, undef, undef, undef, undef, undef, undef, undef, undef, undef, undef, undef, undef, undef, undef, undef, undef, by kernel_rfl, by omega, h25, h26, h27, K28⟩
 ·rintro a V29 ⟨r, u5, u7, u14, u15, u16, u17, u18, u19, u20, u21, u22, u23, u24, u25, u26, u27, u28, rfl, hr, h30, h31, h32, K33⟩
  by_cases lt_r : r < 24
  ·show _
   refine qr_ [0] <| ppq (.bool true) (dct ((((r : Nat) : Int)) < ((24) : Int)) (by omega)) <| eq_ <| y_ <| s_ <| tq_ <| bl_ 1 <| qr_ [0, 1] <| ppq (uN (Kec.g Kec.K r)) (exec_index_arr 250 (.tmp 12) (.tmp 13) (by kernel_rfl) (Wz Kec.K) (by kernel_rfl) .i64 r (by kernel_rfl) 24 26 Tryz.underlying250 (by kernel_rfl) (by kernel_rfl) (by omega) _ (Wz_get Kec.K r (by rw [K_len]; omega))) <| pkq (uN (Kec.g Kec.K r)) <| eq_ <| qr_ [0, 1] <| ppq (.agg #[.func (.func 188) #[pT gb 0] #[], .func (.func 189) #[pT gb 0] #[], .func (.func 190) #[pT gb 0] #[]]) (ldr 259 gt (h32) (by kernel_rfl)) <| pkq (.int .i64 0) ?_
   refine et_ <| bl_ 2 <| sy_rounds 4 (qc83_1 59796) (by kernel_rfl) <| rd_step <| qr_ [0] <| pkq (.bool true) <| eq_ <| y_ <| s_ <| tq_ <| bl_ 3 <| qr_ [0, 1] <| pkq (.func (.func 188) #[pT gb 0] #[]) <| pkq (.func (.func 188) #[pT gb 0] #[]) ?_
   refine er_ [0, 1] <| pkq (.func (.func 188) #[pT gb 0] #[]) ?_
   refine ps_callV (qo83_1 1913497 1) (.tmp 20) 188 #[pT gb 0] #[] #[pT gb 0] (by kernel_rfl) (by kernel_rfl) (by kernel_rfl) (by kernel_rfl) (by kernel_rfl) (enters_of Tryz.func188 (by kernel_rfl) rfl) ((kcolumns_ok gb (permn s r) _ (by rw [permn_len s hs]) (permn_ws s ws r) h30).mono ?_)
   rintro e V34 ⟨rfl, h35, kV34⟩
   refine ⟨_, rfl, ?_⟩
   have ⟨K38, h36, h37⟩ := kV34.Ko2 K33 h31 h32
   refine ps_end <| blk_n <| tr_ [0, 1] <| pkq (.int .i64 1) <| pkq (.int .i64 1) <| et_ <| rd_step <| qr_ [0] <| pkq (.bool true) <| eq_ <| y_ <| s_ <| tq_ <| bl_ 3 ?_
   refine qr_ [0, 1] <| pkq (.func (.func 189) #[pT gb 0] #[]) <| pkq (.func (.func 189) #[pT gb 0] #[]) <| er_ [0, 1] <| pkq (.func (.func 189) #[pT gb 0] #[]) ?_
   refine ps_callV (qo83_1 1913497 1) (.tmp 20) 189 #[pT gb 0] #[] #[pT gb 0] (by kernel_rfl) (by kernel_rfl) (by kernel_rfl) (by kernel_rfl) (by kernel_rfl) (enters_of Tryz.func189 (by kernel_rfl) rfl) ((kmoves_ok gb (Kec.columns (permn s r)) _ (by rw [show (Kec.columns (permn s r)).length = 25 from Kec.len_columns _]) (Kec.ws_columns (permn_ws s ws r)) h35).mono ?_)
   rintro e V39 ⟨rfl, h40, kV39⟩
   refine ⟨_, rfl, ?_⟩
   have ⟨K43, h41, h42⟩ := kV39.Ko2 K38 h36 h37
   refine ps_end <| blk_n <| tr_ [0, 1] <| pkq (.int .i64 2) <| pkq (.int .i64 2) <| et_ <| rd_step <| qr_ [0] <| pkq (.bool true) <| eq_ <| y_ <| s_ <| tq_ <| bl_ 3 ?_
   refine qr_ [0, 1] <| pkq (.func (.func 190) #[pT gb 0] #[]) <| pkq (.func (.func 190) #[pT gb 0] #[]) <| er_ [0, 1] <| pkq (.func (.func 190) #[pT gb 0] #[]) ?_
   refine ps_callV (qo83_1 1913497 1) (.tmp 20) 190 #[pT gb 0] #[] #[pT gb 0] (by kernel_rfl) (by kernel_rfl) (by kernel_rfl) (by kernel_rfl) (by kernel_rfl) (enters_of Tryz.func190 (by kernel_rfl) rfl) ((kmixes_ok gb (Kec.moves (Kec.columns (permn s r))) _ (by rw [show (Kec.moves (Kec.columns (permn s r))).length = 25 from Kec.len_moves _]) (Kec.ws_moves (Kec.ws_columns (permn_ws s ws r))) h40).mono ?_)
   rintro e V44 ⟨rfl, h45, kV44⟩
   refine ⟨_, rfl, ?_⟩
   have ⟨K48, h46, h47⟩ := kV44.Ko2 K43 h41 h42
   refine ps_end <| sy_a ⟨#[.agg (Wz s), pT gb 0, pT gr 0, pT gt 0, ud, uN (Kec.g Kec.K r), ud, .func (.func 190) #[pT gb 0] #[], .func (.func 188) #[pT gb 0] #[], .func (.func 189) #[pT gb 0] #[], .func (.func 190) #[pT gb 0] #[], .agg #[.func (.func 188) #[pT gb 0] #[], .func (.func 189) #[pT gb 0] #[], .func (.func 190) #[pT gb 0] #[]], .agg (Wz Kec.K), iN r, .bool true, uN (Kec.g Kec.K r), .agg #[.func (.func 188) #[pT gb 0] #[], .func (.func 189) #[pT gb 0] #[], .func (.func 190) #[pT gb 0] #[]], .int .i64 2, .bool true, .func (.func 190) #[pT gb 0] #[], .func (.func 190) #[pT gb 0] #[], .tuple #[], .int .i64 2, u23, u24, u25, u26, u27, u28, ud], []⟩ <| blk_n <| tr_ [0, 1] <| pkq (.int .i64 3) <| pkq (.int .i64 3) <| et_ <| rd_step <| qr_ [0] <| pkq (.bool false) <| eq_ <| n_ <| sy_exit 2 (by kernel_rfl) <| then_e ?_
   refine then_e <| blk_e <| tr_ [0, 1, 2, 3, 4, 5] <| ppq (pT gb 0) (exec_cast (v := pT gb (0 + 0 * 1)) (by simp) (exec_indexAt_arr 229 (.tmp 1) (.const (.int .i64 0)) (by kernel_rfl) gb 0 (by kernel_rfl) .i64 0 (by kernel_rfl) _ _ 1 Tryz.underlying229 (by kernel_rfl) (by omega))) <| ppq (uN (Kec.g (Kec.mixes (Kec.moves (Kec.columns (permn s r)))) 0)) (ldc 26 gb 0 (rc (h45) (Wz_get _ 0 (by rw [show (Kec.mixes (Kec.moves (Kec.columns (permn s r)))).length = 25 from Kec.len_mixes _]; omega)))) <| pkq (uN (Kec.g Kec.K r)) <| ppq (uN ((Kec.g (Kec.mixes (Kec.moves (Kec.columns (permn s r)))) 0) ^^^ (Kec.g Kec.K r))) (exec_cast (xorU (Kec.g (Kec.mixes (Kec.moves (Kec.columns (permn s r)))) 0) (Kec.g Kec.K r) (Kec.ws_mixes (Kec.ws_moves (Kec.ws_columns (permn_ws s ws r))) _) (ws_K r)) (by kernel_rfl)) <| ppq (pT gb 0) (exec_cast (v := pT gb (0 + 0 * 1)) (by simp) (exec_indexAt_arr 229 (.tmp 1) (.const (.int .i64 0)) (by kernel_rfl) gb 0 (by kernel_rfl) .i64 0 (by kernel_rfl) _ _ 1 Tryz.underlying229 (by kernel_rfl) (by omega))) <| pce 26 gb 0 (uN ((Kec.g (Kec.mixes (Kec.moves (Kec.columns (permn s r)))) 0) ^^^ (Kec.g Kec.K r))) (Wz ((Kec.mixes (Kec.moves (Kec.columns (permn s r)))).set 0 ((Kec.g (Kec.mixes (Kec.moves (Kec.columns (permn s r)))) 0) ^^^ (Kec.g Kec.K r)))) h45 (rc (h45) (Wz_get _ 0 (by rw [show (Kec.mixes (Kec.moves (Kec.columns (permn s r)))).length = 25 from Kec.len_mixes _]; omega))) (by rw [Wz_set]) fun V49 h50 kV49 => ?_
   have ⟨K53, h51, h52⟩ := kV49.Ko2 K48 h46 h47
   refine ps_end <| blk_n <| tr_ [0, 1] <| ppq (iN (r + 1)) (exec_cast (congrArg (Value.int .i64) (wrapN (r + 1) (by omega))) (by kernel_rfl)) <| pkq (iN (r + 1)) <| et_ ?_
   refine ⟨⟨r + 1, (uN (Kec.g Kec.K r)), (.func (.func 190) #[pT gb 0] #[]), (.bool true), (uN (Kec.g Kec.K r)), (.agg #[.func (.func 188) #[pT gb 0] #[], .func (.func 189) #[pT gb 0] #[], .func (.func 190) #[pT gb 0] #[]]), (.int .i64 3), (.bool false), (.func (.func 190) #[pT gb 0] #[]), (.func (.func 190) #[pT gb 0] #[]), (.tuple #[]), (.int .i64 3), (pT gb 0), (uN (Kec.g (Kec.mixes (Kec.moves (Kec.columns (permn s r)))) 0)), (uN (Kec.g Kec.K r)), (uN ((Kec.g (Kec.mixes (Kec.moves (Kec.columns (permn s r)))) 0) ^^^ (Kec.g Kec.K r))), (pT gb 0), (iN (r + 1)), by kernel_rfl, by omega, h50.trans (by rw [permn_succ s r lt_r]; rfl), h51, h52, K53⟩, ?_⟩
   exact lt_meas (x := 24 - (r + 1)) (y := 24 - r) (by kernel_rfl) (by kernel_rfl) (by omega)
  ·have eq_r : r = 24 := by omega
   have h54 : V29.heap[gb]? = some (.cells (Wz (Kec.perm s)) 229 (0, 0)) := h30.trans (by rw [eq_r, permn_all])
   refine qr_ [0] <| ppq (.bool false) (dcf ((((r : Nat) : Int)) < ((24) : Int)) (by omega)) <| eq_ <| n_ <| sy_exit 0 (by kernel_rfl) <| then_e <| then_e <| blk_e <| tqr_ [0, 1] <| ppq (.agg (Wz (Kec.perm s))) (ldr 229 gb (h54) (by rw [Wz_size, Kec.len_perm hs]; kernel_rfl)) <| pst 229 gr ((Wz (Kec.perm s))) h31 (by rw [Wz_size, Kec.len_perm hs]; kernel_rfl) (by rw [Wz_size, Kec.len_perm hs]; rfl) (Wz_one _) fun V55 h56 kV55 => ?_
   have K59 := K33.nO kV55
   refine eu_ <| sy_out (.agg (Wz (Kec.perm s))) rfl (results_cell_row (p := 2) (ty := 229) (by kernel_rfl) _ _ gr 229 (Wz (Kec.perm s)) (0, 0) _ (by kernel_rfl) h56 Tryz.underlying229 rfl (by rw [Wz_size, Kec.len_perm hs]; kernel_rfl)) ?_
   exact ⟨rfl, K59⟩
end Go.Proofs.YthmclmbeflbhhaaGreat
namespace Go.Proofs.YthmclmbeflbhhaaGreat
set_option maxRecDepth 100000
set_option maxHeartbeats 4000000
open Go Go.RowKit Go.Own Go.Shelf
theorem word_snoc (l : List UInt8) (k : Nat) (hk : k < l.length) : Kec.word (l.take (k + 1)) = Kec.word (l.take k) + 256 ^ k * (l.getD k 0).toNat := by
  induction l generalizing k with
  | nil => simp at hk
  | cons x r ih =>
    cases k with
    | zero => simp [Kec.word]
    | succ k =>
      have := ih k (by simpa using hk)
      simp only [List.take_succ_cons, Kec.word, List.getD_cons_succ]
      rw [this, Nat.pow_succ, Nat.mul_add]
      have e : 256 ^ k * 256 * (r.getD k 0).toNat = 256 * (256 ^ k * (r.getD k 0).toNat) := by rw [Nat.mul_comm (256 ^ k) 256, Nat.mul_assoc]
      omega
theorem word_step (l : List UInt8) (k : Nat) (hk : k < l.length) (h8 : k < 8) : Kec.word (l.take k) ||| (((l.getD k 0).toNat <<< (8 * k)) % Kec.W) = Kec.word (l.take (k + 1)) := by
  have h1 := Kec.word_lt (l.take k)
  have h2 : (l.take k).length = k := by rw [List.length_take]; omega
  rw [h2] at h1
  have h3 := (l.getD k 0).toNat_lt
  have e1 : (256 : Nat) ^ k = 2 ^ (8 * k) := by rw [Nat.pow_mul]
  have h4 : (l.getD k 0).toNat <<< (8 * k) < Kec.W := by
    rw [Nat.shiftLeft_eq, Kec.W_eq]
    calc (l.getD k 0).toNat * 2 ^ (8 * k) < 256 * 2 ^ (8 * k) := Nat.mul_lt_mul_of_pos_right h3 (Nat.two_pow_pos _)
      _ = 2 ^ (8 * k + 8) := by rw [Nat.pow_add, Nat.mul_comm]
      _ ≤ 2 ^ 64 := Nat.pow_le_pow_right (by decide) (by omega)
  rw [Nat.mod_eq_of_lt h4, Nat.or_comm, ← Nat.shiftLeft_add_eq_or_of_lt (by rw [← e1]; exact h1), word_snoc l k hk, Nat.shiftLeft_eq, ← e1, Nat.mul_comm, Nat.add_comm]
theorem word_take_lt (l : List UInt8) (k : Nat) (h8 : k ≤ 8) : Kec.word (l.take k) < Kec.W := by
  have h1 := Kec.word_lt (l.take k)
  have h2 : (l.take k).length ≤ 8 := by rw [List.length_take]; omega
  have h3 : (256 : Nat) ^ (l.take k).length ≤ 256 ^ 8 := Nat.pow_le_pow_right (by decide) h2
  have h4 : (256 : Nat) ^ 8 = Kec.W := by decide
  omega
/-- The cells of a sponge: its words, its block, how many bytes of it are taken, how many came. -/
def Sp (s : List Nat) (blk : List UInt8) (n m : Nat) : Array Value := Wz s ++ (B blk).toArray ++ #[.int .i64 (n : Int), .int .i64 (m : Int)]
theorem Sp_size (s : List Nat) (blk : List UInt8) (n m : Nat) (hs : s.length = 25) (hb : blk.length = 136) : (Sp s blk n m).size = 163 := by simp [Sp, Wz_size, B_length, hs, hb]
theorem Sp_word (s : List Nat) (blk : List UInt8) (n m : Nat) (hs : s.length = 25) (i : Nat) (hi : i < 25) : (Sp s blk n m)[i]? = some (.int .u64 ((Kec.g s i : Nat) : Int)) := by
  unfold Sp
  rw [Array.append_assoc, Array.getElem?_append_left (by rw [Wz_size]; omega)]
  exact Wz_get s i (by omega)
theorem Sp_byte (s : List Nat) (blk : List UInt8) (n m : Nat) (hs : s.length = 25) (i : Nat) (x : UInt8) (hi : blk[i]? = some x) : (Sp s blk n m)[25 + i]? = some (.int .u8 ((x.toNat : Nat) : Int)) := by
  have hlt : i < blk.length := (List.getElem?_eq_some_iff.1 hi).1
  unfold Sp
  rw [Array.append_assoc, Array.getElem?_append_right (by rw [Wz_size]; omega), Wz_size, hs, Nat.add_sub_cancel_left, Array.getElem?_append_left (by simp [B_length]; omega)]
  simpa using B_get blk i x hi
theorem Sp_n (s : List Nat) (blk : List UInt8) (n m : Nat) (hs : s.length = 25) (hb : blk.length = 136) : (Sp s blk n m)[161]? = some (.int .i64 (n : Int)) := by
  unfold Sp
  rw [Array.getElem?_append_right (by simp [Wz_size, B_length, hs, hb])]
  simp [Wz_size, B_length, hs, hb]
theorem Sp_m (s : List Nat) (blk : List UInt8) (n m : Nat) (hs : s.length = 25) (hb : blk.length = 136) : (Sp s blk n m)[162]? = some (.int .i64 (m : Int)) := by
  unfold Sp
  rw [Array.getElem?_append_right (by simp [Wz_size, B_length, hs, hb])]
  simp [Wz_size, B_length, hs, hb]
theorem Sp_set_word (s : List Nat) (blk : List UInt8) (n m : Nat) (hs : s.length = 25) (i v : Nat) (hi : i < 25) : (Sp s blk n m).setIfInBounds i (.int .u64 ((v : Nat) : Int)) = Sp (s.set i v) blk n m := by
  unfold Sp
  rw [Array.append_assoc, Array.append_assoc, ← Wz_set]
  apply Array.toList_inj.1
  simp [List.set_append, Wz_size, hs, hi, Wz]
theorem Sp_set_n (s : List Nat) (blk : List UInt8) (n m k : Nat) (hs : s.length = 25) (hb : blk.length = 136) : (Sp s blk n m).setIfInBounds 161 (.int .i64 ((k : Nat) : Int)) = Sp s blk k m := by
  unfold Sp
  apply Array.toList_inj.1
  simp [List.set_append, Wz_size, B_length, hs, hb, Wz]
theorem Sp_set_m (s : List Nat) (blk : List UInt8) (n m k : Nat) (hs : s.length = 25) (hb : blk.length = 136) : (Sp s blk n m).setIfInBounds 162 (.int .i64 ((k : Nat) : Int)) = Sp s blk n k := by
  unfold Sp
  apply Array.toList_inj.1
  simp [List.set_append, Wz_size, B_length, hs, hb, Wz]
theorem Sp_set_byte (s : List Nat) (blk : List UInt8) (n m : Nat) (hs : s.length = 25) (i : Nat) (x : UInt8) (hi : i < blk.length) : (Sp s blk n m).setIfInBounds (25 + i) (.int .u8 ((x.toNat : Nat) : Int)) = Sp s (blk.set i x) n m := by
  unfold Sp
  apply Array.toList_inj.1
  have hl : (s.map fun (x : Nat) => Value.int .u64 (x : Int)).length = 25 := by simp [hs]
  simp only [Array.toList_setIfInBounds, Array.toList_append, Wz]
  rw [List.append_assoc, List.set_append, if_neg (by omega), hl, Nat.add_sub_cancel_left, List.set_append, if_pos (by simpa [B_length] using hi)]
  simp [B, List.map_set]
theorem Sp_seg_words (s s' : List Nat) (blk : List UInt8) (n m : Nat) (hs : s.length = 25) (hs' : s'.length = 25) : seg (Sp s blk n m) 0 (Wz s').toList = Sp s' blk n m := by
  apply Array.toList_inj.1
  have hl : (s.map fun (x : Nat) => Value.int .u64 (x : Int)).length = 25 := by simp [hs]
  have hl' : (s'.map fun (x : Nat) => Value.int .u64 (x : Int)).length = 25 := by simp [hs']
  simp only [seg, Sp, Wz, Array.toList_append, List.take_zero, List.nil_append, hl', Nat.zero_add]
  rw [List.append_assoc, List.drop_append_of_le_length (by omega), List.drop_of_length_le (by omega), List.nil_append, List.append_assoc]
theorem seg_lists (A B C L : List Value) (k : Nat) (hA : A.length = 25) (hk : k + L.length ≤ B.length) : (A ++ B ++ C).take (25 + k) ++ L ++ (A ++ B ++ C).drop (25 + k + L.length) = A ++ (B.take k ++ L ++ B.drop (k + L.length)) ++ C := by
  rw [List.append_assoc A B C, List.take_append, List.take_of_length_le (by omega), hA, Nat.add_sub_cancel_left, List.take_append_of_le_length (by omega)]
  rw [List.drop_append, List.drop_of_length_le (by omega), hA, List.nil_append, show 25 + k + L.length - 25 = k + L.length by omega, List.drop_append_of_le_length (by omega)]
  simp
theorem Sp_seg_bytes (s : List Nat) (blk l : List UInt8) (n m k : Nat) (hs : s.length = 25) (hk : k + l.length ≤ blk.length) : seg (Sp s blk n m) (25 + k) (B l) = Sp s (blk.take k ++ l ++ blk.drop (k + l.length)) n m := by
  apply Array.toList_inj.1
  have := seg_lists (s.map fun (x : Nat) => Value.int .u64 (x : Int)) (B blk) [.int .i64 (n : Int), .int .i64 (m : Int)] (B l) k (by simp [hs]) (by rw [B_length, B_length]; exact hk)
  simp only [seg, Sp, Wz, Array.toList_append, B_append, ← B_take, ← B_drop]
  rw [B_length] at this
  simpa [B_length] using this
theorem Sp_load (s : List Nat) (blk : List UInt8) (n m : Nat) (hs : s.length = 25) : ∀ j v, (Wz s).toList[j]? = some v → (Sp s blk n m)[0 + j]? = some v := by
  intro j v hj
  have hlt : j < 25 := by have := (List.getElem?_eq_some_iff.1 hj).1; simp [Wz] at this; omega
  rw [Nat.zero_add]
  unfold Sp
  rw [Array.append_assoc, Array.getElem?_append_left (by rw [Wz_size]; omega)]
  simpa using hj
/-- The block of a sponge as bytes. -/
theorem Sp_bytes {w : World} {g : Nat} {T : TypeId} {s : List Nat} {blk : List UInt8} {n m : Nat} (h : w.heap[g]? = some (.cells (Sp s blk n m) T (0, 0))) (hs : s.length = 25) (hb : blk.length = 136) (k : Nat) (hk : k < 136) :
    BytesAt w (.slice (some ⟨g, 25 + k, none⟩) (136 - k) (136 - k)) (blk.drop k) := by
  refine ⟨⟨_, _, by rw [List.length_drop, hb], by rw [List.length_drop]; omega, by unfold maxLen; omega, fun h => by cases h⟩, fun i x hi => ?_⟩
  rw [List.getElem?_drop] at hi
  refine ⟨g, 25 + k, _, by rw [List.length_drop, hb], lt_of_block h, ?_⟩
  rw [Nat.add_assoc]
  exact (cell_of_row _ _ _ _ _ _ h).trans (Sp_byte s blk n m hs (k + i) x hi)
end Go.Proofs.YthmclmbeflbhhaaGreat
namespace Go.Proofs.YthmclmbeflbhhaaGreat
set_option maxRecDepth 100000
set_option maxHeartbeats 4000000
open Go Go.RowKit Go.Own Go.Shelf
noncomputable def qc85_3 (n : Nat) : Code := partOf Tryz.f182 n
theorem kword_ok (g o n cap : Nat) (l : List UInt8) (w : World) (hn : l.length = n) (h8 : 8 ≤ n) (hc : n ≤ cap) (hv : BytesAt w (.slice (some ⟨g, o, none⟩) n cap) l) :
  Calls Tryz.prog 182 #[.slice (some ⟨g, o, none⟩) n cap] w (fun e w' => e = .returned (.int .u64 ((Kec.word (l.take 8) : Nat) : Int)) ∧ w = w') := by
 have K0 : Keeps Nob w w := Keeps.refl _ _
 refine sy_enter (qc85_3 1) ⟨fr [.slice (some ⟨g, o, none⟩) n cap] 22, []⟩ Tryz.func182 (by kernel_rfl) (by kernel_rfl) <| qr_ [0] <| pkq (.int .u64 0) <| eqr_ [0] <| pkq (.int .u64 0) <| eq_ <| qr_ [0, 1, 2, 3] <| pkq (.slice (some ⟨g, o, none⟩) n cap) <| ppq (.slice (some ⟨g, o, none⟩) 8 cap) (exec_slice_to 214 (.tmp 6) (.const (.int .i64 8)) (by kernel_rfl) (some ⟨g, o, none⟩) n cap (by kernel_rfl) .i64 8 (by kernel_rfl) 5 Tryz.underlying214 (by kernel_rfl) (by omega)) <| ppq (.int .i64 8) (exec_len (.tmp 7) 214 _ (by kernel_rfl) Tryz.underlying214 (some ⟨g, o, none⟩) 8 cap (by kernel_rfl)) <| pkq (.int .i64 0) <| et_ <| bl_ 0 ?_
 refine sy_loop (qc85_3 116) (fun a V => ∃ (k : Nat) (u4 u5 u10 u11 u12 u13 u14 u15 u16 u17 u18 u19 u20 u21 : Value), (a = ⟨#[.slice (some ⟨g, o, none⟩) n cap, ud, .int .u64 0, uN (Kec.word (l.take k)), u4, u5, .slice (some ⟨g, o, none⟩) n cap, .slice (some ⟨g, o, none⟩) 8 cap, .int .i64 8, iN k, u10, u11, u12, u13, u14, u15, u16, u17, u18, u19, u20, u21, ud], []⟩) ∧ (k ≤ 8) ∧ (w = V)) (fun a _ => 8 - (intOf (a.tmps.getD 9 undef)).toNat) (by kernel_rfl) ?_ ?_
 ·exact ⟨0, undef, undef, undef, undef, undef, undef, undef, undef, undef, undef, undef, undef, undef, undef, by kernel_rfl, by omega, rfl⟩
 ·rintro a V1 ⟨k, u4, u5, u10, u11, u12, u13, u14, u15, u16, u17, u18, u19, u20, u21, rfl, hk, rfl⟩
  by_cases lt_k : k < 8
  ·show _
   refine qr_ [0] <| ppq (.bool true) (dct ((((k : Nat) : Int)) < ((8) : Int)) (by omega)) <| eq_ <| y_ <| s_ <| tq_ <| bl_ 1 <| qr_ [0, 1, 2, 3, 4] <| pkq (iN k) <| ppq (pT g (o + k)) (exec_cast (v := pT g (o + k * 1)) (by simp) (exec_indexAt_slice 214 (.tmp 7) (.tmp 9) (by kernel_rfl) g o 8 cap (by kernel_rfl) .i64 k (by kernel_rfl) _ 1 Tryz.underlying214 (by kernel_rfl) (by omega))) <| ppq (cN ((l.getD k 0).toNat)) (ldc 5 g (o + k) (bytes_cell hv k (by rw [hn]; omega))) <| pkq (iN k) <| pkq (cN ((l.getD k 0).toNat)) <| er_ [0, 1, 2, 3, 4, 5, 6, 7] ?_
   refine pkq (uN (Kec.word (l.take k))) <| pkq (cN ((l.getD k 0).toNat)) <| ppq (uN ((l.getD k 0).toNat)) (exec_cast (congrArg (Value.int .u64) (wrapU (l.getD k 0).toNat (by have := (l.getD k 0).toNat_lt; omega))) (by kernel_rfl)) <| pkq (iN k) <| ppq (iN (8 * k)) (exec_cast (congrArg (Value.int .i64) (wrapN (8 * k) (by omega))) (by kernel_rfl)) <| ppq (uN (((l.getD k 0).toNat <<< (8 * k)) % Kec.W)) (exec_binop .shl 26 3 (.tmp 16) (.tmp 18) (by kernel_rfl) (uN ((l.getD k 0).toNat)) (iN (8 * k)) _ (by kernel_rfl) (by kernel_rfl) (by kernel_rfl) (run_shlU _ _ _ (8 * k) (by omega))) <| ppq (uN (Kec.word (l.take (k + 1)))) (exec_cast ((orU _ _ (word_take_lt l k (by omega)) (Nat.mod_lt _ Kec.W_pos)).trans (congrArg (fun n : Nat => Value.int .u64 (n : Int)) (word_step l k (by rw [hn]; omega) (by omega)))) (by kernel_rfl)) <| pkq (uN (Kec.word (l.take (k + 1)))) <| ps_end <| blk_n <| tr_ [0, 1] <| ppq (iN (k + 1)) (exec_cast (congrArg (Value.int .i64) (wrapN (k + 1) (by omega))) (by kernel_rfl)) <| pkq (iN (k + 1)) <| et_ ?_
   refine ⟨⟨k + 1, (iN k), (cN ((l.getD k 0).toNat)), (.bool true), (iN k), (pT g (o + k)), (cN ((l.getD k 0).toNat)), (uN (Kec.word (l.take k))), (cN ((l.getD k 0).toNat)), (uN ((l.getD k 0).toNat)), (iN k), (iN (8 * k)), (uN (((l.getD k 0).toNat <<< (8 * k)) % Kec.W)), (uN (Kec.word (l.take (k + 1)))), (iN (k + 1)), by kernel_rfl, by omega, rfl⟩, ?_⟩
   exact lt_meas (x := 8 - (k + 1)) (y := 8 - k) (by kernel_rfl) (by kernel_rfl) (by omega)
  ·have eq_k : k = 8 := by omega
   refine qr_ [0] <| ppq (.bool false) (dcf ((((k : Nat) : Int)) < ((8) : Int)) (by omega)) <| eq_ <| n_ <| sy_exit 0 (by kernel_rfl) <| then_e <| then_e <| blk_e <| tqr_ [0, 1] <| pkq (uN (Kec.word (l.take k))) <| pkq (uN (Kec.word (l.take k))) <| eu_ <| so_ (.int .u64 ((Kec.word (l.take k) : Nat) : Int)) ?_
   subst eq_k; exact ⟨rfl, rfl⟩
theorem eight_len {wd : Nat} : (Kec.eight wd).length = 8 := by simp [Kec.eight]
noncomputable def qc85_0 (n : Nat) : Code := partOf Tryz.f176 n
theorem keight_ok (wd : Nat) (w : World) (hw : wd < Kec.W) :
  Calls Tryz.prog 176 #[.int .u64 ((wd : Nat) : Int)] w (fun e w' => e = .returned (.agg (B (Kec.eight wd)).toArray) ∧ Keeps Nob w w') := by
 have K0 : Keeps Nob w w := Keeps.refl _ _
 refine sy_enter (qc85_0 1) ⟨fr [uN wd] 16, []⟩ Tryz.func176 (by kernel_rfl) (by kernel_rfl) <| qr_ [0] <| pal 246 (zr_u8_8) (.agg (zr_u8_8)) fun V1 gr egr h2 kV1 => ?_
 have n3 := nk egr K0
 have K4 := K0.nn kV1
 refine eqr_ [0] <| pal 246 (zr_u8_8) (.agg (zr_u8_8)) fun V5 go ego h6 kV5 => ?_
 have n7 := nl ego h2
 have n8 := nk ego K4
 have ⟨K10, h9⟩ := kV5.K1 K4 h2
 refine eq_ <| qr_ [0] <| pkq (.int .i64 0) <| et_ <| bl_ 0 ?_
 refine sy_loop (qc85_0 116) (fun a V => ∃ (k : Nat) (u4 u6 u7 u8 u9 u10 u11 u12 u13 u14 u15 : Value), (a = ⟨#[uN wd, ud, pT gr 0, pT go 0, u4, iN k, u6, u7, u8, u9, u10, u11, u12, u13, u14, u15, ud], []⟩) ∧ (k ≤ 8) ∧ (V.heap[gr]? = some (.cells (zr_u8_8) 246 (0, 0))) ∧ (V.heap[go]? = some (.cells ((B (stpB (fun i => UInt8.ofNat (wd / 256 ^ i)) k (List.replicate 8 0))).toArray) 246 (0, 0))) ∧ (Keeps Nob w V)) (fun a _ => 8 - (intOf (a.tmps.getD 5 undef)).toNat) (by kernel_rfl) ?_ ?_
 ·exact ⟨0, undef, undef, undef, undef, undef, undef, undef, undef, undef, undef, undef, by kernel_rfl, by omega, h9, h6.trans (by kernel_rfl), K10⟩
 ·rintro a V11 ⟨k, u4, u6, u7, u8, u9, u10, u11, u12, u13, u14, u15, rfl, hk, h12, h13, K14⟩
  by_cases lt_k : k < 8
  ·show _
   refine qr_ [0] <| ppq (.bool true) (dct ((((k : Nat) : Int)) < ((8) : Int)) (by omega)) <| eq_ <| y_ <| s_ <| tq_ <| bl_ 1 <| qr_ [0, 1] <| pkq (iN k) <| pkq (iN k) <| er_ [0, 1, 2, 3, 4, 5, 6, 7] <| pkq (iN k) <| pkq (uN wd) <| pkq (iN k) ?_
   refine ppq (iN (8 * k)) (exec_cast (congrArg (Value.int .i64) (wrapN (8 * k) (by omega))) (by kernel_rfl)) <| ppq (uN (wd >>> (8 * k))) (exec_binop .shr 26 3 (.tmp 9) (.tmp 11) (by kernel_rfl) (uN wd) (iN (8 * k)) _ (by kernel_rfl) (by kernel_rfl) (by kernel_rfl) (run_shrU _ _ wd (8 * k) (by omega))) <| ppq (cN ((UInt8.ofNat (wd / 256 ^ k)).toNat)) (exec_cast (congrArg (Value.int .u8) ((wrap8 (wd >>> (8 * k))).trans (by rw [Nat.shiftRight_eq_div_pow, Nat.pow_mul]))) (by kernel_rfl)) <| ppq (pT go k) (exec_cast (v := pT go (0 + k * 1)) (by simp) (exec_indexAt_arr 246 (.tmp 3) (.tmp 8) (by kernel_rfl) go 0 (by kernel_rfl) .i64 k (by kernel_rfl) _ _ 1 Tryz.underlying246 (by kernel_rfl) (by omega))) ?_
   refine pce 5 go k (cN ((UInt8.ofNat (wd / 256 ^ k)).toNat)) ((B (stpB (fun i => UInt8.ofNat (wd / 256 ^ i)) (k + 1) (List.replicate 8 0))).toArray) h13 (rc (h13) (Bz_get _ k (by rw [stpB_len, List.length_replicate]; omega))) (by rw [Bz_set]; exact congrArg (fun l => (B l).toArray) (by rw [stpB_succ])) fun V15 h16 kV15 => ?_
   have ⟨K18, h17⟩ := kV15.Ko1 K14 h12
   refine ps_end <| blk_n <| tr_ [0, 1] <| ppq (iN (k + 1)) (exec_cast (congrArg (Value.int .i64) (wrapN (k + 1) (by omega))) (by kernel_rfl)) <| pkq (iN (k + 1)) <| et_ ?_
   refine ⟨⟨k + 1, (iN k), (.bool true), (iN k), (iN k), (uN wd), (iN k), (iN (8 * k)), (uN (wd >>> (8 * k))), (cN ((UInt8.ofNat (wd / 256 ^ k)).toNat)), (pT go k), (iN (k + 1)), by kernel_rfl, by omega, h17, h16, K18⟩, ?_⟩
   exact lt_meas (x := 8 - (k + 1)) (y := 8 - k) (by kernel_rfl) (by kernel_rfl) (by omega)
  ·have eq_k : k = 8 := by omega
   have h19 : V11.heap[go]? = some (.cells ((B (Kec.eight wd)).toArray) 246 (0, 0)) := h13.trans (by rw [eq_k, stpB_all _ _ 8 rfl]; rfl)
   refine qr_ [0] <| ppq (.bool false) (dcf ((((k : Nat) : Int)) < ((8) : Int)) (by omega)) <| eq_ <| n_ <| sy_exit 0 (by kernel_rfl) <| then_e <| then_e <| blk_e <| tqr_ [0, 1] <| ppq (.agg ((B (Kec.eight wd)).toArray)) (ldr 246 go (h19) (by rw [Bz_size, eight_len]; kernel_rfl)) <| pst 246 gr (((B (Kec.eight wd)).toArray)) h12 (by rw [Bz_size, eight_len]; kernel_rfl) (by rw [Bz_size, eight_len]; rfl) (by rw [List.all_toArray]; exact List.all_eq_true.2 (B_one _)) fun V20 h21 kV20 => ?_
   have K23 := K14.nO kV20
   refine eu_ <| sy_out (.agg ((B (Kec.eight wd)).toArray)) rfl (results_cell_row (p := 2) (ty := 246) (by kernel_rfl) _ _ gr 246 ((B (Kec.eight wd)).toArray) (0, 0) _ (by kernel_rfl) h21 Tryz.underlying246 rfl (by rw [Bz_size, eight_len]; kernel_rfl)) ?_
   exact ⟨rfl, K23⟩
theorem getD_some (l : List UInt8) (k : Nat) (h : k < l.length) : l[k]? = some (l.getD k 0) := by rw [List.getD_eq_getElem?_getD, List.getElem?_eq_getElem h]; rfl
def zero136 : List UInt8 := List.replicate 136 0
theorem zero136_len : zero136.length = 136 := by simp [zero136]
theorem Sp_seg_zero (s : List Nat) (blk : List UInt8) (n m : Nat) (hs : s.length = 25) (hb : blk.length = 136) : seg (Sp s blk n m) 25 (B zero136).toArray.toList = Sp s zero136 n m := by
 have := Sp_seg_bytes s blk zero136 n m 0 hs (by rw [zero136_len, hb]; omega)
 have e : blk.drop (0 + zero136.length) = [] := List.drop_of_length_le (by rw [zero136_len, hb]; omega)
 rw [e, List.append_nil, List.take_zero, List.nil_append] at this
 exact this
theorem g_get (s : List Nat) (i : Nat) (h : i < s.length) : Kec.g s i = s[i] := by
 unfold Kec.g
 rw [List.getD_eq_getElem?_getD, List.getElem?_eq_getElem h]; rfl
theorem stp_mixin (s : List Nat) (blk : List UInt8) (hs : s.length = 25) : stp (fun i => Kec.g s i ^^^ Kec.wordAt blk i) 17 s = Kec.mixin s blk := by
 refine List.ext_getElem (by rw [stp_len, Kec.len_mixin, hs]) fun i h1 h2 => ?_
 have hi : i < 25 := by rwa [stp_len, hs] at h1
 have e1 := stp_get (fun i => Kec.g s i ^^^ Kec.wordAt blk i) 17 s i (by omega)
 have e2 := Kec.g_map (fun i => if i < 17 then Kec.g s i ^^^ Kec.wordAt blk i else Kec.g s i) i hi
 have e3 : Kec.g (stp (fun i => Kec.g s i ^^^ Kec.wordAt blk i) 17 s) i = Kec.g (Kec.mixin s blk) i := by
  rw [e1]; exact e2.symm
 rw [g_get _ _ h1, g_get _ _ h2] at e3
 exact e3
noncomputable def qc85_1 (n : Nat) : Code := partOf Tryz.f175 n
noncomputable abbrev qo85_1 (n k : Nat) : Oper := (opsAt (qc85_1 n)).getD k default
theorem ktakes_ok (p : Nat) (s : List Nat) (blk : List UInt8) (n m : Nat) (hs : s.length = 25) (ws : Kec.Ws s) (hb : blk.length = 136) (w : World) (hp : w.heap[p]? = some (.cells (Sp s blk n m) 232 (0, 0))) :
  Calls Tryz.prog 175 #[pT p 0] w (fun e w' => e = .returned (.tuple #[]) ∧ w'.heap[p]? = some (.cells (Sp (Kec.takes s blk) zero136 0 m) 232 (0, 0)) ∧ Keeps (One p) w w') := by
 have K0 : Keeps (One p) w w := Keeps.refl _ _
 refine sy_enter (qc85_1 1) ⟨fr [pT p 0] 38, []⟩ Tryz.func175 (by kernel_rfl) (by kernel_rfl) <| q_ <| qr_ [0] <| pkq (.int .i64 0) <| et_ <| bl_ 0 ?_
 refine sy_loop (qc85_1 20) (fun a V => ∃ (i : Nat) (u3 u4 u5 u6 u7 u8 u9 u10 u11 u12 u13 u14 u15 u16 u17 u18 u19 u20 u21 u22 u23 : Value), (a = ⟨fr [pT p 0, ud, iN i, u3, u4, u5, u6, u7, u8, u9, u10, u11, u12, u13, u14, u15, u16, u17, u18, u19, u20, u21, u22, u23] 15, []⟩) ∧ (i ≤ 17) ∧ (V.heap[p]? = some (.cells (Sp (stp (fun i => Kec.g s i ^^^ Kec.wordAt blk i) i s) blk n m) 232 (0, 0))) ∧ (Keeps (One p) w V)) (fun a _ => 17 - (intOf (a.tmps.getD 2 undef)).toNat) (by kernel_rfl) ?_ ?_
 ·exact ⟨0, undef, undef, undef, undef, undef, undef, undef, undef, undef, undef, undef, undef, undef, undef, undef, undef, undef, undef, undef, undef, undef, by kernel_rfl, by omega, hp, K0⟩
 ·rintro a V1 ⟨i, u3, u4, u5, u6, u7, u8, u9, u10, u11, u12, u13, u14, u15, u16, u17, u18, u19, u20, u21, u22, u23, rfl, hi, h2, K3⟩
  by_cases lt_i : i < 17
  ·show _
   refine q_ <| qr_ [0, 1] <| pkq (iN i) <| ppq (.bool true) (dct ((((i : Nat) : Int)) < ((17) : Int)) (by omega)) <| ey_ <| s_ <| tq_ <| bl_ 1 <| sy_reg <| rg_still 3 17 (opsAt (qc85_1 164)) [qo85_1 164 0, qo85_1 164 1, qo85_1 164 2, qo85_1 164 3, qo85_1 164 4, qo85_1 164 5, qo85_1 164 6, qo85_1 164 7, qo85_1 164 8, qo85_1 164 9, qo85_1 164 10, qo85_1 164 11, qo85_1 164 12, qo85_1 164 13, qo85_1 164 14, qo85_1 164 15, qo85_1 164 16] [qo85_1 164 17] (by kernel_rfl) (by kernel_rfl) (by kernel_rfl) (by kernel_rfl) (by kernel_rfl) ?_
   obtain ⟨V5, eV5, kV5⟩ := drew_step V1
   rw [eV5]
   clear eV5
   have ⟨K7, h6⟩ := kV5.K1 K3 h2
   refine skq (pT p 0) <| skq (iN i) <| skq (pT p 0) <| skq (pT p 0) <| spq (pT p i) (exec_cast (v := pT p (0 + i * 1)) (by simp) (exec_indexAt_arr 229 (.tmp 10) (.tmp 8) (by kernel_rfl) p 0 (by kernel_rfl) .i64 i (by kernel_rfl) _ _ 1 Tryz.underlying229 (by kernel_rfl) (by omega))) <| spq (uN (Kec.g s i)) (ldc 26 p i (rc (h6) ((Sp_word _ _ _ _ ((stp_len _ _ _).trans hs) i (by omega)).trans (congrArg (fun n : Nat => some (Value.int .u64 (n : Int))) (by rw [stp_get _ _ _ _ (by omega), if_neg (by omega)]))))) <| skq (pT p 0) <| skq (pT p 0) <| skq (pT p 25) <| skq (iN i) <| spq (iN (8 * i)) (exec_cast (congrArg (Value.int .i64) (wrapN (8 * i) (by omega))) (by kernel_rfl)) <| spq (.slice (some ⟨p, 25 + 8 * i, none⟩) (136 - 8 * i) (136 - 8 * i)) (exec_slice_arr 230 (.tmp 15) (.tmp 17) (by kernel_rfl) p 25 (by kernel_rfl) .i64 (8 * i) (by kernel_rfl) 136 5 Tryz.underlying230 (by kernel_rfl) (by omega)) <| scq 182 #[.slice (some ⟨p, 25 + 8 * i, none⟩) (136 - 8 * i) (136 - 8 * i)] (uN (Kec.wordAt blk i)) Tryz.func182 (kword_ok p (25 + 8 * i) (136 - 8 * i) (136 - 8 * i) (blk.drop (8 * i)) _ (by rw [List.length_drop, hb]) (by omega) (Nat.le_refl _) (Sp_bytes h6 ((stp_len _ _ _).trans hs) hb (8 * i) (by omega))) <| spq (uN ((Kec.g s i) ^^^ (Kec.wordAt blk i))) (exec_cast (xorU (Kec.g s i) (Kec.wordAt blk i) (ws _) (Kec.wordAt_lt _ _)) (by kernel_rfl)) ?_
   refine skq (pT p 0) <| skq (pT p 0) <| spq (pT p i) (exec_cast (v := pT p (0 + i * 1)) (by simp) (exec_indexAt_arr 229 (.tmp 22) (.tmp 8) (by kernel_rfl) p 0 (by kernel_rfl) .i64 i (by kernel_rfl) _ _ 1 Tryz.underlying229 (by kernel_rfl) (by omega))) <| st_end ?_
   obtain ⟨V8, eV8, kV8⟩ := cell_step V5 p i (.int .u64 (((Kec.g s i) ^^^ (Kec.wordAt blk i) : Nat) : Int))
   have h9 : V8.heap[p]? = some (.cells (Sp (stp (fun i => Kec.g s i ^^^ Kec.wordAt blk i) (i + 1) s) blk n m) 232 (0, 0)) := eV8 ▸ ((heap_setCell_same _ p i _ _ (.int .u64 (((Kec.g s i) ^^^ (Kec.wordAt blk i) : Nat) : Int)) h6).trans (congrArg (fun c => some (Obj.cells c 232 (0, 0))) (show (Sp (stp (fun i => Kec.g s i ^^^ Kec.wordAt blk i) i s) blk n m : Array Value).setIfInBounds i (.int .u64 (((Kec.g s i) ^^^ (Kec.wordAt blk i) : Nat) : Int)) = Sp (stp (fun i => Kec.g s i ^^^ Kec.wordAt blk i) (i + 1) s) blk n m from (Sp_set_word _ _ _ _ ((stp_len _ _ _).trans hs) i _ (by omega)).trans (congrArg (fun s => Sp s blk n m) (by rw [stp_succ])))))
   refine ls_skip (qo85_1 164 17) (w' := V8) (by kernel_rfl) (by rw [← eV8]; exact exec_store_cell 26 (.tmp 23) (.tmp 20) (by kernel_rfl) p i (by kernel_rfl) (.int .u64 (((Kec.g s i) ^^^ (Kec.wordAt blk i) : Nat) : Int)) (by kernel_rfl) (by kernel_rfl) (by kernel_rfl) (.int .u64 ((Kec.g s i : Nat) : Int)) (rc (h6) ((Sp_word _ _ _ _ ((stp_len _ _ _).trans hs) i (by omega)).trans (congrArg (fun n : Nat => some (Value.int .u64 (n : Int))) (by rw [stp_get _ _ _ _ (by omega), if_neg (by omega)])))) (frozen_of_row _ _ _ _ _ h6) (by kernel_rfl)) ?_
   clear eV8
   have K10 : Keeps (One p) w V8 := K7.then kV8 (fun i hi hm => by unfold Own.One at hm; subst hm; exact rfl)
   refine ls_end <| blk_n <| tr_ [0, 1, 2] <| pkq (iN i) <| ppq (iN (i + 1)) (exec_cast (congrArg (Value.int .i64) (wrapN (i + 1) (by omega))) (by kernel_rfl)) <| pkq (iN (i + 1)) <| et_ ?_
   refine ⟨⟨i + 1, (iN i), (.bool true), (iN i), (iN (i + 1)), (pT p 0), (iN i), (pT p 0), (pT p 0), (pT p i), (uN (Kec.g s i)), (pT p 0), (pT p 0), (pT p 25), (iN i), (iN (8 * i)), (.slice (some ⟨p, 25 + 8 * i, none⟩) (136 - 8 * i) (136 - 8 * i)), (uN (Kec.wordAt blk i)), (uN ((Kec.g s i) ^^^ (Kec.wordAt blk i))), (pT p 0), (pT p 0), (pT p i), by kernel_rfl, by omega, h9, K10⟩, ?_⟩
   exact lt_meas (x := 17 - (i + 1)) (y := 17 - i) (by kernel_rfl) (by kernel_rfl) (by omega)
  ·have eq_i : i = 17 := by omega
   have h11 : V1.heap[p]? = some (.cells (Sp (Kec.mixin s blk) blk n m) 232 (0, 0)) := h2.trans (by rw [eq_i, stp_mixin s blk hs])
   refine q_ <| qr_ [0, 1] <| pkq (iN i) <| ppq (.bool false) (dcf ((((i : Nat) : Int)) < ((17) : Int)) (by omega)) <| en_ <| sy_exit 0 (by kernel_rfl) <| then_e <| then_e <| blk_e <| tqr_ [0, 1, 2, 3, 4, 5, 6, 7, 8] <| pkq (pT p 0) <| pkq (pT p 0) <| pkq (pT p 0) <| pkq (pT p 0) ?_
   refine ppq (.agg (Wz (Kec.mixin s blk))) (exec_load_seg 229 (.tmp 27) (by kernel_rfl) p 0 (by kernel_rfl) (Wz (Kec.mixin s blk)).toList _ _ _ h11 (Sp_load _ _ _ _ (Kec.len_mixin s blk)) Tryz.underlying229 rfl (by rw [show (Wz (Kec.mixin s blk)).toList.length = 25 by simp [Wz, Kec.len_mixin]]; kernel_rfl)) ?_
   refine pcq 183 #[.agg (Wz (Kec.mixin s blk))] Tryz.func183 ((kpermuted_ok (Kec.mixin s blk) _ (Kec.len_mixin s blk) (Kec.ws_mixin ws blk)).mono ?_)
   rintro e V12 ⟨rfl, kV12⟩
   refine ⟨_, rfl, ?_⟩
   have ⟨K14, h13⟩ := kV12.K1 K3 h11
   refine pkq (pT p 0) <| pkq (pT p 0) ?_
   obtain ⟨V15, eV15⟩ : ∃ V, V12.setCells p 0 (Wz (Kec.takes s blk)).toList = V := ⟨_, rfl⟩
   have kV15 : Keeps (One p) V12 V15 := eV15 ▸ Keeps.setCells _ _ _ _
   have h16 : V15.heap[p]? = some (.cells (Sp (Kec.takes s blk) blk n m) 232 (0, 0)) := eV15 ▸ (heap_setCells p _ _ 0 _ _ h13 (by rw [Sp_size _ _ _ _ (Kec.len_mixin s blk) hb]; simp [Wz, Kec.len_takes])).trans (congrArg (fun c => some (Obj.cells c 232 (0, 0))) (Sp_seg_words _ _ _ _ _ (Kec.len_mixin s blk) (Kec.len_takes s blk)))
   refine pzq (w' := V15) (by rw [← eV15]; exact exec_store_mid 229 (.tmp 31) (.tmp 29) (by kernel_rfl) p 0 (by kernel_rfl) (Wz (Kec.takes s blk)) (by kernel_rfl) _ _ h13 (by rw [Sp_size _ _ _ _ (Kec.len_mixin s blk) hb]; simp [Wz, Kec.len_takes]) (by rw [Wz_size, Kec.len_takes]; kernel_rfl) (Wz_one _)) ?_
   clear eV15
   have K17 : Keeps (One p) w V15 := K14.then kV15 (fun i hi hm => by unfold Own.One at hm; subst hm; exact rfl)
   refine er_ [0, 1, 2, 3, 4, 5, 6, 7, 8] <| pkq (pT p 0) <| pkq (pT p 0) <| pkq (.agg (B zero136).toArray) <| pkq (pT p 0) <| pkq (pT p 25) ?_
   obtain ⟨V18, eV18⟩ : ∃ V, V15.setCells p 25 ((B zero136).toArray).toList = V := ⟨_, rfl⟩
   have kV18 : Keeps (One p) V15 V18 := eV18 ▸ Keeps.setCells _ _ _ _
   have h19 : V18.heap[p]? = some (.cells (Sp (Kec.takes s blk) zero136 n m) 232 (0, 0)) := eV18 ▸ (heap_setCells p _ _ 25 _ _ h16 (by rw [Sp_size _ _ _ _ (Kec.len_takes s blk) hb]; simp [B_length, zero136])).trans (congrArg (fun c => some (Obj.cells c 232 (0, 0))) (Sp_seg_zero _ _ _ _ (Kec.len_takes s blk) hb))
   refine pzq (w' := V18) (by rw [← eV18]; exact exec_store_mid 230 (.tmp 36) (.tmp 34) (by kernel_rfl) p 25 (by kernel_rfl) ((B zero136).toArray) (by kernel_rfl) _ _ h16 (by rw [Sp_size _ _ _ _ (Kec.len_takes s blk) hb]; simp [B_length, zero136]) (by kernel_rfl) (by rw [List.all_toArray]; exact List.all_eq_true.2 (B_one _))) ?_
   clear eV18
   have K20 : Keeps (One p) w V18 := K17.then kV18 (fun i hi hm => by unfold Own.One at hm; subst hm; exact rfl)
   refine pkq (pT p 0) <| pkq (pT p 161) <| pce 3 p 161 (.int .i64 0) (Sp (Kec.takes s blk) zero136 0 m) h19 (rc (h19) (Sp_n _ _ _ _ (Kec.len_takes s blk) zero136_len)) (Sp_set_n _ _ _ _ _ (Kec.len_takes s blk) zero136_len) fun V21 h22 kV21 => ?_
   have K23 : Keeps (One p) w V21 := K20.then kV21 (fun i hi hm => by unfold Own.One at hm; subst hm; exact rfl)
   refine ps_end <| sy_fall (.tuple #[]) rfl (by kernel_rfl) ?_
   exact ⟨rfl, h22, K23⟩
/-- The block of a sponge that took bytes. -/
def blkOf (l : List UInt8) : List UInt8 := Kec.restOf l ++ List.replicate (136 - l.length % 136) 0
theorem blkOf_len (l : List UInt8) : (blkOf l).length = 136 := by unfold blkOf; rw [List.length_append, Kec.restOf_len, List.length_replicate]; omega
theorem blkOf_cut (l y : List UInt8) (h : l.length % 136 + y.length ≤ 136) : (blkOf l).take (l.length % 136) ++ y ++ (blkOf l).drop (l.length % 136 + y.length) = Kec.restOf l ++ y ++ List.replicate (136 - l.length % 136 - y.length) 0 := by
 have hr := Kec.restOf_len l
 unfold blkOf
 rw [List.take_left' hr, List.drop_append, List.drop_of_length_le (by omega), List.nil_append, hr, Nat.add_sub_cancel_left, List.drop_replicate]
theorem write_some (l y : List UInt8) (h : l.length % 136 + y.length < 136) : (blkOf l).take (l.length % 136) ++ y ++ (blkOf l).drop (l.length % 136 + y.length) = blkOf (l ++ y) ∧ Kec.stateOf l = Kec.stateOf (l ++ y) ∧ l.length % 136 + y.length = (l ++ y).length % 136 := by
 have hr := Kec.restOf_len l
 have hs := Kec.sponge_some l y (by omega)
 have hl : l.length % 136 + y.length = (l ++ y).length % 136 := by rw [List.length_append]; omega
 refine ⟨?_, hs.1.symm, hl⟩
 rw [blkOf_cut l y (by omega)]
 unfold blkOf
 rw [hs.2, ← hl, Nat.sub_sub]
theorem write_full (l y : List UInt8) (h : l.length % 136 + y.length = 136) : Kec.takes (Kec.stateOf l) ((blkOf l).take (l.length % 136) ++ y ++ (blkOf l).drop (l.length % 136 + y.length)) = Kec.stateOf (l ++ y) ∧ zero136 = blkOf (l ++ y) ∧ 0 = (l ++ y).length % 136 := by
 have hr := Kec.restOf_len l
 have hs := Kec.sponge_fill l y (by omega)
 have hl : 0 = (l ++ y).length % 136 := by rw [List.length_append]; omega
 refine ⟨?_, ?_, hl⟩
 ·rw [blkOf_cut l y (by omega), hs.1, show 136 - l.length % 136 - y.length = 0 by omega]; simp
 ·unfold blkOf zero136
  rw [hs.2, ← hl]; simp
theorem wcase (n r : Nat) (hr : r < 136) : (∃ c, 0 < n ∧ c = n ∧ c = Nat.min n (136 - r) ∧ r + c < 136) ∨ (∃ c, 0 < n ∧ c ≤ n ∧ c = Nat.min n (136 - r) ∧ r + c = 136) ∨ n = 0 := by
 have h : Nat.min n (136 - r) = if n ≤ 136 - r then n else 136 - r := Nat.min_def
 by_cases h0 : n = 0
 ·exact .inr (.inr h0)
 ·by_cases h1 : r + n < 136
  ·exact .inl ⟨n, by omega, rfl, by rw [h, if_pos (by omega)], h1⟩
  ·refine .inr (.inl ⟨136 - r, by omega, by omega, ?_, by omega⟩)
   rw [h]; split <;> omega
def sliceLen : Value → Nat | .slice _ n _ => n | _ => 0
/-- A sponge at p that took the bytes l. -/
def SpAt (w : World) (p : Nat) (l : List UInt8) : Prop := w.heap[p]? = some (.cells (Sp (Kec.stateOf l) (blkOf l) (l.length % 136) l.length) 232 (0, 0))
theorem take_step (x : List UInt8) (k c : Nat) : x.take (k + c) = x.take k ++ (x.drop k).take c := by rw [List.take_add]
theorem sp_next (l x y : List UInt8) (k c m : Nat) (hy : y = (x.drop k).take c) (cs : Array Value) (h : cs = Sp (Kec.stateOf (l ++ x.take k ++ y)) (blkOf (l ++ x.take k ++ y)) ((l ++ x.take k ++ y).length % 136) m) : cs = Sp (Kec.stateOf (l ++ x.take (k + c))) (blkOf (l ++ x.take (k + c))) ((l ++ x.take (k + c)).length % 136) m := by
 rw [h, hy, take_step, List.append_assoc]
theorem cut_block (A : Option Addr) (n cap c j : Nat) (h : (Value.slice (if cap = c then A else A.map (·.add c)) (n - c) (cap - c)).ownBlock = some j) : (Value.slice A n cap).ownBlock = some j := by
 cases A with
 | none => split at h <;> simp [Value.ownBlock] at h
 | some a =>
  have hb : (a.add c).block = a.block := by unfold Addr.add; split <;> rfl
  split at h
  ·exact h
  ·simp only [Value.ownBlock, Option.map_some, hb] at h ⊢; exact h
noncomputable def qc85_2 (n : Nat) : Code := partOf Tryz.f162 n
noncomputable abbrev qo85_2 (n k : Nat) : Oper := (opsAt (qc85_2 n)).getD k default
theorem kwrite_ok (p : Nat) (l x : List UInt8) (A0 : Option Addr) (cap0 : Nat) (w : World) (hp : SpAt w p l) (hx : BytesAt w (.slice A0 x.length cap0) x) (hA0 : 0 < x.length → ∀ j, (Value.slice A0 x.length cap0).ownBlock = some j → j ≠ p) (hl : l.length + x.length ≤ 9000000000000000000) :
  Calls Tryz.prog 162 #[pT p 0, .slice A0 x.length cap0] w (fun e w' => e = .returned (.tuple #[]) ∧ SpAt w' p (l ++ x) ∧ Keeps (One p) w w') := by
 have K0 : Keeps (One p) w w := Keeps.refl _ _
 refine sy_enter (qc85_2 1) ⟨fr [pT p 0, .slice A0 x.length cap0] 43, []⟩ Tryz.func162 (by kernel_rfl) (by kernel_rfl) <| qr_ [0, 1, 2, 3, 4, 5, 6, 7, 8, 9] <| pkq (pT p 0) <| pkq (pT p 0) <| pkq (pT p 162) <| ppq (iN l.length) (ldc 3 p 162 (rc (hp) (Sp_m _ _ _ _ (Kec.len_stateOf _) (blkOf_len _)))) <| pkq (.slice A0 x.length cap0) <| ppq (iN x.length) (exec_len (.tmp 9) 214 _ (by kernel_rfl) Tryz.underlying214 A0 x.length cap0 (by kernel_rfl)) <| ppq (iN (l.length + x.length)) (exec_cast (congrArg (Value.int .i64) (wrapN (l.length + x.length) (by omega))) (by kernel_rfl)) <| pkq (pT p 0) <| pkq (pT p 162) <| pce 3 p 162 (iN (l.length + x.length)) (Sp (Kec.stateOf l) (blkOf l) (l.length % 136) (l.length + x.length)) hp (rc (hp) (Sp_m _ _ _ _ (Kec.len_stateOf _) (blkOf_len _))) (Sp_set_m _ _ _ _ _ (Kec.len_stateOf _) (blkOf_len _)) fun V1 h2 kV1 => ?_
 have h3 : BytesAt V1 (.slice A0 x.length cap0) x := hx.keeps0 kV1 (fun hn j hj e => hA0 hn j hj e)
 have K4 : Keeps (One p) w V1 := K0.then kV1 (fun i hi hm => by unfold Own.One at hm; subst hm; exact rfl)
 refine et_ <| bl_ 0 ?_
 refine sy_loop (qc85_2 12) (fun a V => ∃ (k : Nat) (n : Nat) (cap : Nat) (A : Option Addr) (u4 u14 u15 u16 u17 u18 u19 u20 u21 u22 u23 u24 u25 u26 u27 u28 u29 u30 u31 u32 u33 u34 u35 u36 u37 u38 u39 u40 u41 u42 u43 u44 : Value), (a = ⟨#[pT p 0, .slice A n cap, ud, ud, u4, pT p 0, pT p 0, pT p 162, iN l.length, .slice A0 x.length cap0, iN x.length, iN (l.length + x.length), pT p 0, pT p 162, u14, u15, u16, u17, u18, u19, u20, u21, u22, u23, u24, u25, u26, u27, u28, u29, u30, u31, u32, u33, u34, u35, u36, u37, u38, u39, u40, u41, u42, u43, u44], []⟩) ∧ (n + k = x.length) ∧ (0 < n → ∀ j, (Value.slice A n cap).ownBlock = some j → j ≠ p) ∧ (BytesAt V (.slice A n cap) (x.drop k)) ∧ (V.heap[p]? = some (.cells (Sp (Kec.stateOf (l ++ x.take k)) (blkOf (l ++ x.take k)) ((l ++ x.take k).length % 136) (l.length + x.length)) 232 (0, 0))) ∧ (Keeps (One p) w V)) (fun a _ => sliceLen (a.tmps.getD 1 undef)) (by kernel_rfl) ?_ ?_
 ·exact ⟨0, x.length, cap0, A0, undef, undef, undef, undef, undef, undef, undef, undef, undef, undef, undef, undef, undef, undef, undef, undef, undef, undef, undef, undef, undef, undef, undef, undef, undef, undef, undef, undef, undef, undef, undef, undef, by kernel_rfl, rfl, hA0, h3, h2.trans (by rw [List.take_zero, List.append_nil]), K4⟩
 ·rintro a V5 ⟨k, n, cap, A, u4, u14, u15, u16, u17, u18, u19, u20, u21, u22, u23, u24, u25, u26, u27, u28, u29, u30, u31, u32, u33, u34, u35, u36, u37, u38, u39, u40, u41, u42, u43, u44, rfl, hkn, hA, h6, h7, K8⟩
  rcases wcase n ((l ++ x.take k).length % 136) (Nat.mod_lt _ (by decide)) with ⟨c, h0, hcn, hcm, hcr⟩ | ⟨c, h0, hcn, hcm, hcr⟩ | h0
  ·show _
   refine q_ <| qr_ [0, 1, 2] <| pkq (.slice A n cap) <| ppq (iN n) (exec_len (.tmp 14) 214 _ (by kernel_rfl) Tryz.underlying214 A n cap (by kernel_rfl)) <| ppq (.bool true) (dct ((((n : Nat) : Int)) > ((0) : Int)) (by omega)) <| ey_ <| s_ <| then_n <| bl_ 1 <| q_ <| sy_reg <| rg_still 2 9 (opsAt (qc85_2 100)) [qo85_2 100 0, qo85_2 100 1, qo85_2 100 2, qo85_2 100 3, qo85_2 100 4, qo85_2 100 5, qo85_2 100 6, qo85_2 100 7, qo85_2 100 8] [qo85_2 100 9, qo85_2 100 10] (by kernel_rfl) (by kernel_rfl) (by kernel_rfl) (by kernel_rfl) (by kernel_rfl) ?_
   obtain ⟨V10, eV10, kV10⟩ := drew_step V5
   rw [eV10]
   clear eV10
   have h11 : BytesAt V10 (.slice A n cap) (x.drop k) := h6.keepsN kV10
   have ⟨K13, h12⟩ := kV10.K1 K8 h7
   refine skq (pT p 0) <| skq (pT p 0) <| skq (pT p 25) <| skq (pT p 0) <| skq (pT p 0) <| skq (pT p 161) <| spq (iN ((l ++ x.take k).length % 136)) (ldc 3 p 161 (rc (h12) (Sp_n _ _ _ _ (Kec.len_stateOf _) (blkOf_len _)))) <| spq (.slice (some ⟨p, 25 + ((l ++ x.take k).length % 136), none⟩) (136 - ((l ++ x.take k).length % 136)) (136 - ((l ++ x.take k).length % 136))) (exec_slice_arr 230 (.tmp 19) (.tmp 23) (by kernel_rfl) p 25 (by kernel_rfl) .i64 ((l ++ x.take k).length % 136) (by kernel_rfl) 136 5 Tryz.underlying230 (by kernel_rfl) (Nat.mod_lt _ (by decide))) <| skq (.slice A n cap) <| st_end ?_
   have hyl : ((x.drop k).take c).length = c := by rw [List.length_take, List.length_drop]; omega
   have hrk : (l ++ x.take k).length % 136 < 136 := Nat.mod_lt _ (by decide)
   obtain ⟨V14, eV14⟩ : ∃ V, V10.setRow p (seg (Sp (Kec.stateOf (l ++ x.take k)) (blkOf (l ++ x.take k)) ((l ++ x.take k).length % 136) (l.length + x.length)) (25 + ((l ++ x.take k).length % 136)) (B ((x.drop k).take c))) = V := ⟨_, rfl⟩
   have kV14 : Keeps (One p) V10 V14 := eV14 ▸ (Keeps.refl (One p) _).setRow (fun _ => (rfl : Own.One p p)) _
   have h15 : V14.heap[p]? = some (.cells (Sp (Kec.stateOf (l ++ x.take k)) ((blkOf (l ++ x.take k)).take ((l ++ x.take k).length % 136) ++ ((x.drop k).take c) ++ (blkOf (l ++ x.take k)).drop ((l ++ x.take k).length % 136 + ((x.drop k).take c).length)) ((l ++ x.take k).length % 136) (l.length + x.length)) 232 (0, 0)) := eV14 ▸ (setRow_heap _ _ _ _ _ _ h12).trans (congrArg (fun c => some (Obj.cells c 232 (0, 0))) (Sp_seg_bytes _ _ _ _ _ _ (Kec.len_stateOf _) (by rw [blkOf_len, hyl]; omega)))
   refine ls_run (qo85_2 100 9) (w' := V14) (iN c) (by kernel_rfl) (by rw [← eV14]; exact exec_copy (.tmp 24) (.tmp 25) 214 (by kernel_rfl) 5 Tryz.underlying214 (by kernel_rfl) p (25 + ((l ++ x.take k).length % 136)) (136 - ((l ++ x.take k).length % 136)) (136 - ((l ++ x.take k).length % 136)) (by kernel_rfl) (.slice A n cap) (x.drop k) (by kernel_rfl) h11 _ _ h12 c (by rw [List.length_drop, show x.length - k = n by omega]; exact hcm) (by rw [Sp_size _ _ _ _ (Kec.len_stateOf _) (blkOf_len _)]; omega) (by rw [List.length_drop]; omega)) ?_
   clear eV14
   have h16 : BytesAt V14 (.slice A n cap) (x.drop k) := h11.keeps0 kV14 (fun hn j hj e => hA (by rw [List.length_drop] at hn; omega) j hj e)
   have K17 : Keeps (One p) w V14 := K13.then kV14 (fun i hi hm => by unfold Own.One at hm; subst hm; exact rfl)
   refine ls_run (qo85_2 100 10) (iN c) (w' := V14) (by kernel_rfl) (by kernel_rfl) <| ls_end <| tqr_ [0, 1, 2, 3, 4, 5, 6, 7, 8] <| pkq (pT p 0) <| pkq (pT p 0) <| pkq (pT p 161) <| ppq (iN ((l ++ x.take k).length % 136)) (ldc 3 p 161 (rc (h15) (Sp_n _ _ _ _ (Kec.len_stateOf _) ((by rw [List.length_append, List.length_append, List.length_take, List.length_drop, blkOf_len, hyl]; omega : ((blkOf (l ++ x.take k)).take ((l ++ x.take k).length % 136) ++ ((x.drop k).take c) ++ (blkOf (l ++ x.take k)).drop ((l ++ x.take k).length % 136 + ((x.drop k).take c).length)).length = 136))))) <| pkq (iN c) <| ppq (iN (((l ++ x.take k).length % 136) + c)) (exec_cast (congrArg (Value.int .i64) (wrapN (((l ++ x.take k).length % 136) + c) (by omega))) (by kernel_rfl)) <| pkq (pT p 0) <| pkq (pT p 161) <| pce 3 p 161 (iN (((l ++ x.take k).length % 136) + c)) (Sp (Kec.stateOf (l ++ x.take k)) ((blkOf (l ++ x.take k)).take ((l ++ x.take k).length % 136) ++ ((x.drop k).take c) ++ (blkOf (l ++ x.take k)).drop ((l ++ x.take k).length % 136 + ((x.drop k).take c).length)) (((l ++ x.take k).length % 136) + c) (l.length + x.length)) h15 (rc (h15) (Sp_n _ _ _ _ (Kec.len_stateOf _) ((by rw [List.length_append, List.length_append, List.length_take, List.length_drop, blkOf_len, hyl]; omega : ((blkOf (l ++ x.take k)).take ((l ++ x.take k).length % 136) ++ ((x.drop k).take c) ++ (blkOf (l ++ x.take k)).drop ((l ++ x.take k).length % 136 + ((x.drop k).take c).length)).length = 136)))) (Sp_set_n _ _ _ _ _ (Kec.len_stateOf _) ((by rw [List.length_append, List.length_append, List.length_take, List.length_drop, blkOf_len, hyl]; omega : ((blkOf (l ++ x.take k)).take ((l ++ x.take k).length % 136) ++ ((x.drop k).take c) ++ (blkOf (l ++ x.take k)).drop ((l ++ x.take k).length % 136 + ((x.drop k).take c).length)).length = 136))) fun V18 h19 kV18 => ?_
   have h20 : BytesAt V18 (.slice A n cap) (x.drop k) := h16.keeps0 kV18 (fun hn j hj e => hA (by rw [List.length_drop] at hn; omega) j hj e)
   have K21 : Keeps (One p) w V18 := K17.then kV18 (fun i hi hm => by unfold Own.One at hm; subst hm; exact rfl)
   refine eqr_ [0, 1, 2, 3] <| pkq (.slice A n cap) <| pkq (iN c) <| ppq (.slice (if cap = c then A else A.map (·.add c)) (n - c) (cap - c)) (exec_slice_from 214 (.tmp 35) (.tmp 36) (by kernel_rfl) A n cap (by kernel_rfl) .i64 c (by kernel_rfl) 5 Tryz.underlying214 (by kernel_rfl) (by omega)) <| pkq (.slice (if cap = c then A else A.map (·.add c)) (n - c) (cap - c)) <| ps_end <| sy_a ⟨#[pT p 0, .slice (if cap = c then A else A.map (·.add c)) (n - c) (cap - c), ud, ud, iN c, pT p 0, pT p 0, pT p 162, iN l.length, .slice A0 x.length cap0, iN x.length, iN (l.length + x.length), pT p 0, pT p 162, .slice A n cap, iN n, .bool true, pT p 0, pT p 0, pT p 25, pT p 0, pT p 0, pT p 161, iN ((l ++ x.take k).length % 136), .slice (some ⟨p, 25 + ((l ++ x.take k).length % 136), none⟩) (136 - ((l ++ x.take k).length % 136)) (136 - ((l ++ x.take k).length % 136)), .slice A n cap, iN c, pT p 0, pT p 0, pT p 161, iN ((l ++ x.take k).length % 136), iN c, iN (((l ++ x.take k).length % 136) + c), pT p 0, pT p 161, .slice A n cap, iN c, .slice (if cap = c then A else A.map (·.add c)) (n - c) (cap - c), u38, u39, u40, u41, u42, u43, u44], []⟩ <| tqr_ [0, 1, 2, 3, 4] <| pkq (pT p 0) <| pkq (pT p 0) <| pkq (pT p 161) <| ppq (iN (((l ++ x.take k).length % 136) + c)) (ldc 3 p 161 (rc (h19) (Sp_n _ _ _ _ (Kec.len_stateOf _) ((by rw [List.length_append, List.length_append, List.length_take, List.length_drop, blkOf_len, hyl]; omega : ((blkOf (l ++ x.take k)).take ((l ++ x.take k).length % 136) ++ ((x.drop k).take c) ++ (blkOf (l ++ x.take k)).drop ((l ++ x.take k).length % 136 + ((x.drop k).take c).length)).length = 136))))) <| ppq (.bool false) (exec_cast (congrArg Value.bool (show (((((((l ++ x.take k).length % 136) + c : Nat) : Int)) == ((136) : Int))) = false from by simp only [beq_eq_false_iff_ne, ne_eq]; omega)) (by kernel_rfl)) <| en_ ?_
   refine s_ <| blk_n <| then_n ?_
   refine ⟨⟨k + c, n - c, cap - c, (if cap = c then A else A.map (·.add c)), (iN c), (.slice A n cap), (iN n), (.bool true), (pT p 0), (pT p 0), (pT p 25), (pT p 0), (pT p 0), (pT p 161), (iN ((l ++ x.take k).length % 136)), (.slice (some ⟨p, 25 + ((l ++ x.take k).length % 136), none⟩) (136 - ((l ++ x.take k).length % 136)) (136 - ((l ++ x.take k).length % 136))), (.slice A n cap), (iN c), (pT p 0), (pT p 0), (pT p 161), (iN ((l ++ x.take k).length % 136)), (iN c), (iN (((l ++ x.take k).length % 136) + c)), (pT p 0), (pT p 161), (.slice A n cap), (iN c), (.slice (if cap = c then A else A.map (·.add c)) (n - c) (cap - c)), (pT p 0), (pT p 0), (pT p 161), (iN (((l ++ x.take k).length % 136) + c)), (.bool false), u43, u44, by kernel_rfl, by omega, fun hn j hj => hA (by omega) j (cut_block A n cap c j hj), (show BytesAt _ (.slice (if cap = c then A else A.map (·.add c)) (n - c) (cap - c)) (x.drop (k + c)) from by have := BytesAt.drop h20 c (by rw [List.length_drop]; omega) _ _ _ rfl; rwa [List.drop_drop] at this), h19.trans (congrArg (fun c => some (Obj.cells c 232 (0, 0))) (sp_next l x _ k c _ rfl _ (by obtain ⟨e1, e2, e3⟩ := write_some (l ++ x.take k) ((x.drop k).take c) (by rw [hyl]; omega); rw [← e1, ← e2, ← e3, hyl]))), K21⟩, ?_⟩
   exact lt_meas (x := n - c) (y := n) (by kernel_rfl) (by kernel_rfl) (by omega)
  ·show _
   refine q_ <| qr_ [0, 1, 2] <| pkq (.slice A n cap) <| ppq (iN n) (exec_len (.tmp 14) 214 _ (by kernel_rfl) Tryz.underlying214 A n cap (by kernel_rfl)) <| ppq (.bool true) (dct ((((n : Nat) : Int)) > ((0) : Int)) (by omega)) <| ey_ <| s_ <| then_n <| bl_ 1 <| q_ <| sy_reg <| rg_still 2 9 (opsAt (qc85_2 100)) [qo85_2 100 0, qo85_2 100 1, qo85_2 100 2, qo85_2 100 3, qo85_2 100 4, qo85_2 100 5, qo85_2 100 6, qo85_2 100 7, qo85_2 100 8] [qo85_2 100 9, qo85_2 100 10] (by kernel_rfl) (by kernel_rfl) (by kernel_rfl) (by kernel_rfl) (by kernel_rfl) ?_
   obtain ⟨V23, eV23, kV23⟩ := drew_step V5
   rw [eV23]
   clear eV23
   have h24 : BytesAt V23 (.slice A n cap) (x.drop k) := h6.keepsN kV23
   have ⟨K26, h25⟩ := kV23.K1 K8 h7
   refine skq (pT p 0) <| skq (pT p 0) <| skq (pT p 25) <| skq (pT p 0) <| skq (pT p 0) <| skq (pT p 161) <| spq (iN ((l ++ x.take k).length % 136)) (ldc 3 p 161 (rc (h25) (Sp_n _ _ _ _ (Kec.len_stateOf _) (blkOf_len _)))) <| spq (.slice (some ⟨p, 25 + ((l ++ x.take k).length % 136), none⟩) (136 - ((l ++ x.take k).length % 136)) (136 - ((l ++ x.take k).length % 136))) (exec_slice_arr 230 (.tmp 19) (.tmp 23) (by kernel_rfl) p 25 (by kernel_rfl) .i64 ((l ++ x.take k).length % 136) (by kernel_rfl) 136 5 Tryz.underlying230 (by kernel_rfl) (Nat.mod_lt _ (by decide))) <| skq (.slice A n cap) <| st_end ?_
   have hyl : ((x.drop k).take c).length = c := by rw [List.length_take, List.length_drop]; omega
   have hrk : (l ++ x.take k).length % 136 < 136 := Nat.mod_lt _ (by decide)
   obtain ⟨V27, eV27⟩ : ∃ V, V23.setRow p (seg (Sp (Kec.stateOf (l ++ x.take k)) (blkOf (l ++ x.take k)) ((l ++ x.take k).length % 136) (l.length + x.length)) (25 + ((l ++ x.take k).length % 136)) (B ((x.drop k).take c))) = V := ⟨_, rfl⟩
   have kV27 : Keeps (One p) V23 V27 := eV27 ▸ (Keeps.refl (One p) _).setRow (fun _ => (rfl : Own.One p p)) _
   have h28 : V27.heap[p]? = some (.cells (Sp (Kec.stateOf (l ++ x.take k)) ((blkOf (l ++ x.take k)).take ((l ++ x.take k).length % 136) ++ ((x.drop k).take c) ++ (blkOf (l ++ x.take k)).drop ((l ++ x.take k).length % 136 + ((x.drop k).take c).length)) ((l ++ x.take k).length % 136) (l.length + x.length)) 232 (0, 0)) := eV27 ▸ (setRow_heap _ _ _ _ _ _ h25).trans (congrArg (fun c => some (Obj.cells c 232 (0, 0))) (Sp_seg_bytes _ _ _ _ _ _ (Kec.len_stateOf _) (by rw [blkOf_len, hyl]; omega)))
   refine ls_run (qo85_2 100 9) (w' := V27) (iN c) (by kernel_rfl) (by rw [← eV27]; exact exec_copy (.tmp 24) (.tmp 25) 214 (by kernel_rfl) 5 Tryz.underlying214 (by kernel_rfl) p (25 + ((l ++ x.take k).length % 136)) (136 - ((l ++ x.take k).length % 136)) (136 - ((l ++ x.take k).length % 136)) (by kernel_rfl) (.slice A n cap) (x.drop k) (by kernel_rfl) h24 _ _ h25 c (by rw [List.length_drop, show x.length - k = n by omega]; exact hcm) (by rw [Sp_size _ _ _ _ (Kec.len_stateOf _) (blkOf_len _)]; omega) (by rw [List.length_drop]; omega)) ?_
   clear eV27
   have h29 : BytesAt V27 (.slice A n cap) (x.drop k) := h24.keeps0 kV27 (fun hn j hj e => hA (by rw [List.length_drop] at hn; omega) j hj e)
   have K30 : Keeps (One p) w V27 := K26.then kV27 (fun i hi hm => by unfold Own.One at hm; subst hm; exact rfl)
   refine ls_run (qo85_2 100 10) (iN c) (w' := V27) (by kernel_rfl) (by kernel_rfl) <| ls_end <| tqr_ [0, 1, 2, 3, 4, 5, 6, 7, 8] <| pkq (pT p 0) <| pkq (pT p 0) <| pkq (pT p 161) <| ppq (iN ((l ++ x.take k).length % 136)) (ldc 3 p 161 (rc (h28) (Sp_n _ _ _ _ (Kec.len_stateOf _) ((by rw [List.length_append, List.length_append, List.length_take, List.length_drop, blkOf_len, hyl]; omega : ((blkOf (l ++ x.take k)).take ((l ++ x.take k).length % 136) ++ ((x.drop k).take c) ++ (blkOf (l ++ x.take k)).drop ((l ++ x.take k).length % 136 + ((x.drop k).take c).length)).length = 136))))) <| pkq (iN c) <| ppq (iN (((l ++ x.take k).length % 136) + c)) (exec_cast (congrArg (Value.int .i64) (wrapN (((l ++ x.take k).length % 136) + c) (by omega))) (by kernel_rfl)) <| pkq (pT p 0) <| pkq (pT p 161) <| pce 3 p 161 (iN (((l ++ x.take k).length % 136) + c)) (Sp (Kec.stateOf (l ++ x.take k)) ((blkOf (l ++ x.take k)).take ((l ++ x.take k).length % 136) ++ ((x.drop k).take c) ++ (blkOf (l ++ x.take k)).drop ((l ++ x.take k).length % 136 + ((x.drop k).take c).length)) (((l ++ x.take k).length % 136) + c) (l.length + x.length)) h28 (rc (h28) (Sp_n _ _ _ _ (Kec.len_stateOf _) ((by rw [List.length_append, List.length_append, List.length_take, List.length_drop, blkOf_len, hyl]; omega : ((blkOf (l ++ x.take k)).take ((l ++ x.take k).length % 136) ++ ((x.drop k).take c) ++ (blkOf (l ++ x.take k)).drop ((l ++ x.take k).length % 136 + ((x.drop k).take c).length)).length = 136)))) (Sp_set_n _ _ _ _ _ (Kec.len_stateOf _) ((by rw [List.length_append, List.length_append, List.length_take, List.length_drop, blkOf_len, hyl]; omega : ((blkOf (l ++ x.take k)).take ((l ++ x.take k).length % 136) ++ ((x.drop k).take c) ++ (blkOf (l ++ x.take k)).drop ((l ++ x.take k).length % 136 + ((x.drop k).take c).length)).length = 136))) fun V31 h32 kV31 => ?_
   have h33 : BytesAt V31 (.slice A n cap) (x.drop k) := h29.keeps0 kV31 (fun hn j hj e => hA (by rw [List.length_drop] at hn; omega) j hj e)
   have K34 : Keeps (One p) w V31 := K30.then kV31 (fun i hi hm => by unfold Own.One at hm; subst hm; exact rfl)
   refine eqr_ [0, 1, 2, 3] <| pkq (.slice A n cap) <| pkq (iN c) <| ppq (.slice (if cap = c then A else A.map (·.add c)) (n - c) (cap - c)) (exec_slice_from 214 (.tmp 35) (.tmp 36) (by kernel_rfl) A n cap (by kernel_rfl) .i64 c (by kernel_rfl) 5 Tryz.underlying214 (by kernel_rfl) (by omega)) <| pkq (.slice (if cap = c then A else A.map (·.add c)) (n - c) (cap - c)) <| ps_end <| sy_a ⟨#[pT p 0, .slice (if cap = c then A else A.map (·.add c)) (n - c) (cap - c), ud, ud, iN c, pT p 0, pT p 0, pT p 162, iN l.length, .slice A0 x.length cap0, iN x.length, iN (l.length + x.length), pT p 0, pT p 162, .slice A n cap, iN n, .bool true, pT p 0, pT p 0, pT p 25, pT p 0, pT p 0, pT p 161, iN ((l ++ x.take k).length % 136), .slice (some ⟨p, 25 + ((l ++ x.take k).length % 136), none⟩) (136 - ((l ++ x.take k).length % 136)) (136 - ((l ++ x.take k).length % 136)), .slice A n cap, iN c, pT p 0, pT p 0, pT p 161, iN ((l ++ x.take k).length % 136), iN c, iN (((l ++ x.take k).length % 136) + c), pT p 0, pT p 161, .slice A n cap, iN c, .slice (if cap = c then A else A.map (·.add c)) (n - c) (cap - c), u38, u39, u40, u41, u42, u43, u44], []⟩ <| tqr_ [0, 1, 2, 3, 4] <| pkq (pT p 0) <| pkq (pT p 0) <| pkq (pT p 161) <| ppq (iN (((l ++ x.take k).length % 136) + c)) (ldc 3 p 161 (rc (h32) (Sp_n _ _ _ _ (Kec.len_stateOf _) ((by rw [List.length_append, List.length_append, List.length_take, List.length_drop, blkOf_len, hyl]; omega : ((blkOf (l ++ x.take k)).take ((l ++ x.take k).length % 136) ++ ((x.drop k).take c) ++ (blkOf (l ++ x.take k)).drop ((l ++ x.take k).length % 136 + ((x.drop k).take c).length)).length = 136))))) <| ppq (.bool true) (exec_cast (congrArg Value.bool (show (((((((l ++ x.take k).length % 136) + c : Nat) : Int)) == ((136) : Int))) = true from by simp only [beq_iff_eq]; omega)) (by kernel_rfl)) <| ey_ ?_
   refine r_ [0, 1] <| pkq (pT p 0) ?_
   refine pcq 175 #[pT p 0] Tryz.func175 ((ktakes_ok p _ _ _ _ (Kec.len_stateOf _) (Kec.ws_stateOf _) ((by rw [List.length_append, List.length_append, List.length_take, List.length_drop, blkOf_len, hyl]; omega : ((blkOf (l ++ x.take k)).take ((l ++ x.take k).length % 136) ++ ((x.drop k).take c) ++ (blkOf (l ++ x.take k)).drop ((l ++ x.take k).length % 136 + ((x.drop k).take c).length)).length = 136)) _ h32).mono ?_)
   rintro e V35 ⟨rfl, h36, kV35⟩
   refine ⟨_, rfl, ?_⟩
   have h37 : BytesAt V35 (.slice A n cap) (x.drop k) := h33.keeps0 kV35 (fun hn j hj e => hA (by rw [List.length_drop] at hn; omega) j hj e)
   have K38 : Keeps (One p) w V35 := K34.then kV35 (fun i hi hm => by unfold Own.One at hm; subst hm; exact rfl)
   refine ps_end <| blk_n <| then_n ?_
   refine ⟨⟨k + c, n - c, cap - c, (if cap = c then A else A.map (·.add c)), (iN c), (.slice A n cap), (iN n), (.bool true), (pT p 0), (pT p 0), (pT p 25), (pT p 0), (pT p 0), (pT p 161), (iN ((l ++ x.take k).length % 136)), (.slice (some ⟨p, 25 + ((l ++ x.take k).length % 136), none⟩) (136 - ((l ++ x.take k).length % 136)) (136 - ((l ++ x.take k).length % 136))), (.slice A n cap), (iN c), (pT p 0), (pT p 0), (pT p 161), (iN ((l ++ x.take k).length % 136)), (iN c), (iN (((l ++ x.take k).length % 136) + c)), (pT p 0), (pT p 161), (.slice A n cap), (iN c), (.slice (if cap = c then A else A.map (·.add c)) (n - c) (cap - c)), (pT p 0), (pT p 0), (pT p 161), (iN (((l ++ x.take k).length % 136) + c)), (.bool true), (pT p 0), (.tuple #[]), by kernel_rfl, by omega, fun hn j hj => hA (by omega) j (cut_block A n cap c j hj), (show BytesAt _ (.slice (if cap = c then A else A.map (·.add c)) (n - c) (cap - c)) (x.drop (k + c)) from by have := BytesAt.drop h37 c (by rw [List.length_drop]; omega) _ _ _ rfl; rwa [List.drop_drop] at this), h36.trans (congrArg (fun c => some (Obj.cells c 232 (0, 0))) (sp_next l x _ k c _ rfl _ (by obtain ⟨e1, e2, e3⟩ := write_full (l ++ x.take k) ((x.drop k).take c) (by rw [hyl]; omega); rw [← e1, ← e2, ← e3]))), K38⟩, ?_⟩
   exact lt_meas (x := n - c) (y := n) (by kernel_rfl) (by kernel_rfl) (by omega)
  ·have hkx : x.take k = x := List.take_of_length_le (by omega)
   refine q_ <| qr_ [0, 1, 2] <| pkq (.slice A n cap) <| ppq (iN n) (exec_len (.tmp 14) 214 _ (by kernel_rfl) Tryz.underlying214 A n cap (by kernel_rfl)) <| ppq (.bool false) (dcf ((((n : Nat) : Int)) > ((0) : Int)) (by omega)) <| en_ <| sy_exit 0 (by kernel_rfl) <| then_e <| then_e <| blk_e <| sy_fall (.tuple #[]) rfl (by kernel_rfl) ?_
   exact ⟨rfl, (by unfold SpAt; rw [List.length_append]; have h := h7; rw [hkx, List.length_append] at h; exact h), K8⟩
theorem xor8_fin : ∀ c : Fin 256, bits .xor .u8 ((c.val : Nat) : Int) 6 = ((c.val ^^^ 6 : Nat) : Int) ∧ bits .xor .u8 ((c.val : Nat) : Int) 128 = ((c.val ^^^ 128 : Nat) : Int) := by decide +kernel
theorem xor8_6 (c : UInt8) : Value.int .u8 (bits .xor .u8 ((c.toNat : Nat) : Int) 6) = .int .u8 (((c ^^^ 6).toNat : Nat) : Int) := congrArg _ (xor8_fin ⟨c.toNat, c.toNat_lt⟩).1
theorem xor8_128 (c : UInt8) : Value.int .u8 (bits .xor .u8 ((c.toNat : Nat) : Int) 128) = .int .u8 (((c ^^^ 128).toNat : Nat) : Int) := congrArg _ (xor8_fin ⟨c.toNat, c.toNat_lt⟩).2
theorem last_eq (l : List UInt8) : ((blkOf l).set (l.length % 136) ((blkOf l).getD (l.length % 136) 0 ^^^ 6)).set 135 (((blkOf l).set (l.length % 136) ((blkOf l).getD (l.length % 136) 0 ^^^ 6)).getD 135 0 ^^^ 128) = Kec.lastBlock (Kec.restOf l) := by
 have hr := Kec.restOf_len l
 have e1 : (blkOf l).getD (l.length % 136) 0 = 0 := by
  unfold blkOf
  rw [Kec.getD_right _ _ _ _ (by omega), hr, Nat.sub_self, List.getD_eq_getElem?_getD, List.getElem?_replicate]
  split <;> rfl
 have e2 : (blkOf l).set (l.length % 136) ((blkOf l).getD (l.length % 136) 0 ^^^ 6) = Kec.restOf l ++ 6 :: List.replicate (135 - l.length % 136) 0 := by
  rw [e1]
  unfold blkOf
  rw [List.set_append, if_neg (by omega), hr, Nat.sub_self, show 136 - l.length % 136 = (135 - l.length % 136) + 1 by omega, List.replicate_succ]
  rfl
 rw [e2]
 unfold Kec.lastBlock
 rw [hr]
theorem squeeze_step (S : List Nat) (k : Nat) (hk : k < 4) : (Kec.squeeze S).take (8 * k + 8) = (Kec.squeeze S).take (8 * k) ++ Kec.eight (Kec.g S k) := by
 have e (n : Nat) : (Kec.eight n).length = 8 := eight_len
 unfold Kec.squeeze
 match k, hk with
 | 0, _ => rw [List.append_assoc, List.append_assoc, List.take_append_of_le_length (by rw [e]; omega), List.take_of_length_le (by rw [e]; omega)]; simp
 | 1, _ =>
  rw [List.append_assoc, List.take_append_of_le_length (by simp [e]), List.take_of_length_le (by simp [e]), List.append_assoc, List.take_append_of_le_length (by rw [e]; omega), List.take_of_length_le (by rw [e]; omega)]
 | 2, _ =>
  rw [List.take_append_of_le_length (by simp [e]), List.take_of_length_le (by simp [e]), List.append_assoc (Kec.eight _ ++ Kec.eight _), List.take_append_of_le_length (by simp [e]), List.take_of_length_le (by simp [e])]
 | 3, _ =>
  rw [List.take_of_length_le (by simp [e]), List.take_append_of_le_length (by simp [e]), List.take_of_length_le (by simp [e])]
def sqk (S : List Nat) (k : Nat) : List UInt8 := (Kec.squeeze S).take (8 * k) ++ List.replicate (32 - 8 * k) 0
theorem sqk_len (S : List Nat) (k : Nat) (hk : k ≤ 4) : (sqk S k).length = 32 := by unfold sqk; rw [List.length_append, List.length_take, Kec.squeeze_len, List.length_replicate]; omega
theorem seg_bytes (l y : List UInt8) (o : Nat) : seg (B l).toArray o (B y) = (B (l.take o ++ y ++ l.drop (o + y.length))).toArray := by
 apply Array.toList_inj.1
 simp [seg, B_append, ← B_take, ← B_drop, B_length]
theorem sqk_step (S : List Nat) (k : Nat) (hk : k < 4) : (sqk S k).take (8 * k) ++ Kec.eight (Kec.g S k) ++ (sqk S k).drop (8 * k + (Kec.eight (Kec.g S k)).length) = sqk S (k + 1) := by
 have hl : ((Kec.squeeze S).take (8 * k)).length = 8 * k := by rw [List.length_take, Kec.squeeze_len]; omega
 unfold sqk
 rw [List.take_left' hl, List.drop_append, List.drop_of_length_le (by omega), List.nil_append, hl, eight_len, Nat.add_sub_cancel_left, List.drop_replicate, show 8 * (k + 1) = 8 * k + 8 by omega, squeeze_step S k hk, Nat.sub_sub]
theorem sqk_all (S : List Nat) : sqk S 4 = Kec.squeeze S := by
 unfold sqk
 rw [List.take_of_length_le (by rw [Kec.squeeze_len]; omega)]; simp
theorem blk_bytes {w : World} {g n : Nat} {l : List UInt8} {T : TypeId} (h : w.heap[g]? = some (.cells (B l).toArray T (0, 0))) (hn : l.length = n) (hm : n ≤ maxLen) : BytesAt w (.slice (some ⟨g, 0, none⟩) n n) l := by
 subst hn
 refine ⟨⟨_, _, rfl, Nat.le_refl _, hm, fun h => by cases h⟩, fun k x hk => ⟨g, 0, _, rfl, lt_of_block h, ?_⟩⟩
 rw [Nat.zero_add]
 refine (cell_of_row _ _ _ _ _ _ h).trans ?_
 rw [List.getElem?_toArray]; exact B_get l k x hk
noncomputable def qc85_4 (n : Nat) : Code := partOf Tryz.f163 n
noncomputable abbrev qo85_4 (n k : Nat) : Oper := (opsAt (qc85_4 n)).getD k default
theorem ksum_ok (l : List UInt8) (w : World) :
  Calls Tryz.prog 163 #[.agg (Sp (Kec.stateOf l) (blkOf l) (l.length % 136) l.length)] w (fun e w' => e = .returned (.agg (B (Kec.sum l)).toArray) ∧ Keeps Nob w w') := by
 obtain ⟨S, hS⟩ : ∃ S, Kec.takes (Kec.stateOf l) (Kec.lastBlock (Kec.restOf l)) = S := ⟨_, rfl⟩
 have hSl : S.length = 25 := hS ▸ Kec.len_takes _ _
 have hSw : Kec.Ws S := hS ▸ Kec.ws_takes (Kec.ws_stateOf l) _
 have hmod : l.length % 136 < 136 := Nat.mod_lt _ (by decide)
 have K0 : Keeps Nob w w := Keeps.refl _ _
 refine sy_enter (qc85_4 1) ⟨fr [.agg (Sp (Kec.stateOf l) (blkOf l) (l.length % 136) l.length)] 35, []⟩ Tryz.func163 (by kernel_rfl) (by kernel_rfl) <| qr_ [0, 1] <| pbx 232 ((Sp (Kec.stateOf l) (blkOf l) (l.length % 136) l.length)) (.agg (Sp (Kec.stateOf l) (blkOf l) (l.length % 136) l.length)) fun V1 p ep h2 kV1 => ?_
 have n3 := nk ep K0
 have K4 := K0.nn kV1
 refine pal 25 (zr_u8_32) (.agg (zr_u8_32)) fun V5 gr egr h6 kV5 => ?_
 have n7 := nl egr h2
 have n8 := nk egr K4
 have ⟨K10, h9⟩ := kV5.K1 K4 h2
 refine eqr_ [0, 1, 2, 3, 4, 5, 6, 7, 8] <| pkq (pT p 161) <| ppq (iN (l.length % 136)) (ldc 3 p 161 (rc (h9) (Sp_n _ _ _ _ (Kec.len_stateOf _) (blkOf_len _)))) <| pkq (pT p 25) <| ppq (pT p (25 + (l.length % 136))) (exec_cast (v := pT p (25 + (l.length % 136) * 1)) (by simp) (exec_indexAt_arr 230 (.tmp 8) (.tmp 7) (by kernel_rfl) p 25 (by kernel_rfl) .i64 (l.length % 136) (by kernel_rfl) _ _ 1 Tryz.underlying230 (by kernel_rfl) (by omega))) <| ppq (cN (((blkOf l).getD ((l.length % 136)) 0).toNat)) (exec_ld 5 (.tmp 9) p (25 + (l.length % 136)) Tryz.underlying5 (rc (h9) (Sp_byte _ _ _ _ (Kec.len_stateOf _) ((l.length % 136)) ((blkOf l).getD ((l.length % 136)) 0) (getD_some _ _ (by rw [(blkOf_len _)]; omega))))) <| ppq (cN (((blkOf l).getD (l.length % 136) 0 ^^^ 6).toNat)) (exec_cast (xor8_6 ((blkOf l).getD (l.length % 136) 0)) (by kernel_rfl)) <| pkq (pT p 25) <| ppq (pT p (25 + (l.length % 136))) (exec_cast (v := pT p (25 + (l.length % 136) * 1)) (by simp) (exec_indexAt_arr 230 (.tmp 12) (.tmp 7) (by kernel_rfl) p 25 (by kernel_rfl) .i64 (l.length % 136) (by kernel_rfl) _ _ 1 Tryz.underlying230 (by kernel_rfl) (by omega))) <| pce 5 p (25 + (l.length % 136)) (cN (((blkOf l).getD (l.length % 136) 0 ^^^ 6).toNat)) (Sp (Kec.stateOf l) ((blkOf l).set ((l.length % 136)) (((blkOf l).getD (l.length % 136) 0 ^^^ 6))) (l.length % 136) l.length) h9 (rc (h9) (Sp_byte _ _ _ _ (Kec.len_stateOf _) ((l.length % 136)) ((blkOf l).getD ((l.length % 136)) 0) (getD_some _ _ (by rw [(blkOf_len _)]; omega)))) (Sp_set_byte _ _ _ _ (Kec.len_stateOf _) ((l.length % 136)) (((blkOf l).getD (l.length % 136) 0 ^^^ 6)) (by rw [(blkOf_len _)]; omega)) fun V11 h12 kV11 => ?_
 have ⟨K14, h13⟩ := kV11.Ko1 K10 h6
 refine eqr_ [0, 1, 2, 3, 4, 5, 6] <| pkq (pT p 25) <| ppq (pT p 160) (exec_cast (v := pT p (25 + 135 * 1)) (by simp) (exec_indexAt_arr 230 (.tmp 14) (.const (.int .i64 135)) (by kernel_rfl) p 25 (by kernel_rfl) .i64 135 (by kernel_rfl) _ _ 1 Tryz.underlying230 (by kernel_rfl) (by omega))) <| ppq (cN ((((blkOf l).set ((l.length % 136)) (((blkOf l).getD (l.length % 136) 0 ^^^ 6))).getD 135 0).toNat)) (ldc 5 p 160 (rc (h12) (Sp_byte _ _ _ _ (Kec.len_stateOf _) 135 (((blkOf l).set ((l.length % 136)) (((blkOf l).getD (l.length % 136) 0 ^^^ 6))).getD 135 0) (getD_some _ _ (by rw [((List.length_set ..).trans (blkOf_len _))]; omega))))) <| ppq (cN ((((blkOf l).set (l.length % 136) ((blkOf l).getD (l.length % 136) 0 ^^^ 6)).getD 135 0 ^^^ 128).toNat)) (exec_cast (xor8_128 (((blkOf l).set (l.length % 136) ((blkOf l).getD (l.length % 136) 0 ^^^ 6)).getD 135 0)) (by kernel_rfl)) <| pkq (pT p 25) <| ppq (pT p 160) (exec_cast (v := pT p (25 + 135 * 1)) (by simp) (exec_indexAt_arr 230 (.tmp 18) (.const (.int .i64 135)) (by kernel_rfl) p 25 (by kernel_rfl) .i64 135 (by kernel_rfl) _ _ 1 Tryz.underlying230 (by kernel_rfl) (by omega))) <| pce 5 p 160 (cN ((((blkOf l).set (l.length % 136) ((blkOf l).getD (l.length % 136) 0 ^^^ 6)).getD 135 0 ^^^ 128).toNat)) (Sp (Kec.stateOf l) (((blkOf l).set ((l.length % 136)) (((blkOf l).getD (l.length % 136) 0 ^^^ 6))).set 135 ((((blkOf l).set (l.length % 136) ((blkOf l).getD (l.length % 136) 0 ^^^ 6)).getD 135 0 ^^^ 128))) (l.length % 136) l.length) h12 (rc (h12) (Sp_byte _ _ _ _ (Kec.len_stateOf _) 135 (((blkOf l).set ((l.length % 136)) (((blkOf l).getD (l.length % 136) 0 ^^^ 6))).getD 135 0) (getD_some _ _ (by rw [((List.length_set ..).trans (blkOf_len _))]; omega)))) (Sp_set_byte _ _ _ _ (Kec.len_stateOf _) 135 ((((blkOf l).set (l.length % 136) ((blkOf l).getD (l.length % 136) 0 ^^^ 6)).getD 135 0 ^^^ 128)) (by rw [((List.length_set ..).trans (blkOf_len _))]; omega)) fun V15 h16 kV15 => ?_
 have ⟨K18, h17⟩ := kV15.Ko1 K14 h13
 refine eqr_ [0] ?_
 refine pcq 175 #[pT p 0] Tryz.func175 ((ktakes_ok p _ _ _ _ (Kec.len_stateOf _) (Kec.ws_stateOf _) ((List.length_set ..).trans ((List.length_set ..).trans (blkOf_len _))) _ h16).mono ?_)
 rintro e V19 ⟨rfl, h20, kV19⟩
 rw [last_eq, hS] at h20
 refine ⟨_, rfl, ?_⟩
 have ⟨K22, h21⟩ := kV19.Ko1 K18 h17
 refine eqr_ [0] <| pal 25 (zr_u8_32) (.agg (zr_u8_32)) fun V23 go ego h24 kV23 => ?_
 have n25 := nl ego h21
 have n26 := nl ego h20
 have n27 := nk ego K22
 have ⟨K30, h28, h29⟩ := kV23.K2 K22 h21 h20
 refine eq_ <| qr_ [0] <| pkq (.int .i64 0) <| et_ <| bl_ 0 ?_
 refine sy_loop (qc85_4 1012) (fun a V => ∃ (k : Nat) (u4 u5 u22 u23 u24 u25 u26 u27 u28 u29 u30 u31 u32 u33 u34 : Value), (a = ⟨#[.agg (Sp (Kec.stateOf l) (blkOf l) (l.length % 136) l.length), pT p 0, pT gr 0, pT go 0, u4, u5, pT p 161, iN (l.length % 136), pT p 25, pT p (25 + (l.length % 136)), cN (((blkOf l).getD ((l.length % 136)) 0).toNat), cN (((blkOf l).getD (l.length % 136) 0 ^^^ 6).toNat), pT p 25, pT p (25 + (l.length % 136)), pT p 25, pT p 160, cN ((((blkOf l).set ((l.length % 136)) (((blkOf l).getD (l.length % 136) 0 ^^^ 6))).getD 135 0).toNat), cN ((((blkOf l).set (l.length % 136) ((blkOf l).getD (l.length % 136) 0 ^^^ 6)).getD 135 0 ^^^ 128).toNat), pT p 25, pT p 160, .tuple #[], iN k, u22, u23, u24, u25, u26, u27, u28, u29, u30, u31, u32, u33, u34, ud], []⟩) ∧ (k ≤ 4) ∧ (V.heap[gr]? = some (.cells (zr_u8_32) 25 (0, 0))) ∧ (V.heap[p]? = some (.cells (Sp S zero136 0 l.length) 232 (0, 0))) ∧ (V.heap[go]? = some (.cells ((B (sqk S k)).toArray) 25 (0, 0))) ∧ (Keeps Nob w V)) (fun a _ => 4 - (intOf (a.tmps.getD 21 undef)).toNat) (by kernel_rfl) ?_ ?_
 ·exact ⟨0, undef, undef, undef, undef, undef, undef, undef, undef, undef, undef, undef, undef, undef, undef, undef, by kernel_rfl, by omega, h28, h29, h24.trans (by kernel_rfl), K30⟩
 ·rintro a V31 ⟨k, u4, u5, u22, u23, u24, u25, u26, u27, u28, u29, u30, u31, u32, u33, u34, rfl, hk, h32, h33, h34, K35⟩
  by_cases lt_k : k < 4
  ·show _
   refine qr_ [0] <| ppq (.bool true) (dct ((((k : Nat) : Int)) < ((4) : Int)) (by omega)) <| eq_ <| y_ <| s_ <| tq_ <| bl_ 1 <| qr_ [0, 1] <| pkq (iN k) <| pkq (iN k) <| eqr_ [0, 1, 2, 3, 4, 5, 6] <| pkq (iN k) <| pkq (pT p 0) <| ppq (pT p k) (exec_cast (v := pT p (0 + k * 1)) (by simp) (exec_indexAt_arr 229 (.tmp 25) (.tmp 24) (by kernel_rfl) p 0 (by kernel_rfl) .i64 k (by kernel_rfl) _ _ 1 Tryz.underlying229 (by kernel_rfl) (by omega))) ?_
   refine ppq (uN (Kec.g S k)) (ldc 26 p k (rc (h33) (Sp_word _ _ _ _ hSl k (by omega)))) ?_
   refine pcq 176 #[uN (Kec.g S k)] Tryz.func176 ((keight_ok (Kec.g S k) _ (hSw _)).mono ?_)
   rintro e V36 ⟨rfl, kV36⟩
   refine ⟨_, rfl, ?_⟩
   have ⟨K40, h37, h38, h39⟩ := kV36.K3 K35 h32 h33 h34
   refine pal 246 (zr_u8_8) (.agg (zr_u8_8)) fun V41 gt egt h42 kV41 => ?_
   have n43 := nl egt h37
   have n44 := nl egt h38
   have n45 := nl egt h39
   have n46 := nk egt K40
   have ⟨K50, h47, h48, h49⟩ := kV41.K3 K40 h37 h38 h39
   refine pst 246 gt ((B (Kec.eight (Kec.g S k))).toArray) h42 (by rw [Bz_size, eight_len]; kernel_rfl) (by rw [Bz_size, eight_len]; rfl) (by rw [List.all_toArray]; exact List.all_eq_true.2 (B_one _)) fun V51 h52 kV51 => ?_
   have ⟨K56, h53, h54, h55⟩ := kV51.Ko3 K50 h47 h48 h49
   refine et_ <| sy_reg <| rg_still 9 4 (opsAt (qc85_4 64819)) [qo85_4 64819 0, qo85_4 64819 1, qo85_4 64819 2, qo85_4 64819 3] [qo85_4 64819 4] (by kernel_rfl) (by kernel_rfl) (by kernel_rfl) (by kernel_rfl) (by kernel_rfl) ?_
   obtain ⟨V58, eV58, kV58⟩ := drew_step V51
   rw [eV58]
   clear eV58
   have ⟨K63, h59, h60, h61, h62⟩ := kV58.K4 K56 h53 h54 h55 h52
   refine skq (iN k) <| spq (iN (8 * k)) (exec_cast (congrArg (Value.int .i64) (wrapN (8 * k) (by omega))) (by kernel_rfl)) <| spq (.slice (some ⟨go, 0 + 8 * k, none⟩) (32 - 8 * k) (32 - 8 * k)) (exec_slice_arr 25 (.tmp 3) (.tmp 30) (by kernel_rfl) go 0 (by kernel_rfl) .i64 (8 * k) (by kernel_rfl) 32 5 Tryz.underlying25 (by kernel_rfl) (by omega)) <| spq (.slice (some ⟨gt, 0, none⟩) 8 8) (exec_slice_all 246 (.tmp 5) (by kernel_rfl) gt 0 (by kernel_rfl) 8 5 Tryz.underlying246 (by kernel_rfl)) <| st_end ?_
   obtain ⟨V64, eV64⟩ : ∃ V, V58.setRow go (seg (B (sqk S k)).toArray (0 + 8 * k) (B ((Kec.eight (Kec.g S k)).take 8))) = V := ⟨_, rfl⟩
   have kV64 : Keeps (One go) V58 V64 := eV64 ▸ (Keeps.refl (One go) _).setRow (fun _ => (rfl : Own.One go go)) _
   have h65 : V64.heap[go]? = some (.cells ((B (sqk S (k + 1))).toArray) 25 (0, 0)) := eV64 ▸ (setRow_heap _ _ _ _ _ _ h61).trans (congrArg (fun c => some (Obj.cells c 25 (0, 0))) (by rw [List.take_of_length_le (by rw [eight_len]; omega), Nat.zero_add, seg_bytes, sqk_step S k lt_k]))
   refine ls_run (qo85_4 64819 4) (w' := V64) (.int .i64 8) (by kernel_rfl) (by rw [← eV64]; exact exec_copy (.tmp 31) (.tmp 32) 214 (by kernel_rfl) 5 Tryz.underlying214 (by kernel_rfl) go (0 + 8 * k) (32 - 8 * k) (32 - 8 * k) (by kernel_rfl) (.slice (some ⟨gt, 0, none⟩) 8 8) (Kec.eight (Kec.g S k)) (by kernel_rfl) (blk_bytes h62 eight_len (by decide)) _ _ h61 8 (by rw [eight_len]; exact (Nat.min_eq_left (by omega)).symm) (by rw [Bz_size, sqk_len S _ (by omega)]; omega) (by rw [eight_len]; omega)) ?_
   clear eV64
   have ⟨K69, h66, h67⟩ := kV64.Ko2 K63 h59 h60
   refine ls_end <| blk_n <| tr_ [0, 1] <| ppq (iN (k + 1)) (exec_cast (congrArg (Value.int .i64) (wrapN (k + 1) (by omega))) (by kernel_rfl)) <| pkq (iN (k + 1)) <| et_ ?_
   refine ⟨⟨k + 1, (iN k), (pT gt 0), (.bool true), (iN k), (iN k), (pT p 0), (pT p k), (uN (Kec.g S k)), (.agg (B (Kec.eight (Kec.g S k))).toArray), (iN k), (iN (8 * k)), (.slice (some ⟨go, 0 + 8 * k, none⟩) (32 - 8 * k) (32 - 8 * k)), (.slice (some ⟨gt, 0, none⟩) 8 8), (.int .i64 8), (iN (k + 1)), by kernel_rfl, by omega, h66, h67, h65, K69⟩, ?_⟩
   exact lt_meas (x := 4 - (k + 1)) (y := 4 - k) (by kernel_rfl) (by kernel_rfl) (by omega)
  ·have eq_k : k = 4 := by omega
   have h70 : V31.heap[go]? = some (.cells ((B (Kec.sum l)).toArray) 25 (0, 0)) := h34.trans (by rw [eq_k, sqk_all, ← hS]; rfl)
   refine qr_ [0] <| ppq (.bool false) (dcf ((((k : Nat) : Int)) < ((4) : Int)) (by omega)) <| eq_ <| n_ <| sy_exit 0 (by kernel_rfl) <| then_e <| then_e <| blk_e <| tqr_ [0, 1] <| ppq (.agg ((B (Kec.sum l)).toArray)) (ldr 25 go (h70) (by rw [Bz_size, Kec.sum_len]; kernel_rfl)) <| pst 25 gr (((B (Kec.sum l)).toArray)) h32 (by rw [Bz_size, Kec.sum_len]; kernel_rfl) (by rw [Bz_size, Kec.sum_len]; rfl) (by rw [List.all_toArray]; exact List.all_eq_true.2 (B_one _)) fun V71 h72 kV71 => ?_
   have K75 := K35.nO kV71
   refine eu_ <| sy_out (.agg ((B (Kec.sum l)).toArray)) rfl (results_cell_row (p := 2) (ty := 25) (by kernel_rfl) _ _ gr 25 ((B (Kec.sum l)).toArray) (0, 0) _ (by kernel_rfl) h72 Tryz.underlying25 rfl (by rw [Bz_size, Kec.sum_len]; kernel_rfl)) ?_
   exact ⟨rfl, K75⟩
end Go.Proofs.YthmclmbeflbhhaaGreat
namespace Go.Proofs.YthmclmbeflbhhaaGreat
set_option maxRecDepth 100000
set_option maxHeartbeats 4000000
open Go Go.RowKit Go.Own Go.Shelf
theorem SpAt.lt {w : World} {p : Nat} {l : List UInt8} (h : SpAt w p l) : p < w.heap.size := lt_of_block h
theorem SpAt.keeps {w w' : World} {M : Nat → Prop} {p : Nat} {l : List UInt8} (h : SpAt w p l) (k : Keeps M w w') (hm : ¬ M p) : SpAt w' p l := (k.block p (lt_of_block h) hm).trans h
theorem sp_nil : (Sp Kec.zero zero136 0 0) = Sp (Kec.stateOf []) (blkOf []) (([] : List UInt8).length % 136) ([] : List UInt8).length := by
 unfold Sp
 have : blkOf [] = zero136 := by simp [blkOf, zero136, Kec.restOf_nil]
 rw [this]; rfl
noncomputable def qc86_0 (n : Nat) : Code := partOf Tryz.f152 n
theorem kSum_ok (x : List UInt8) (A : Option Addr) (cap : Nat) (w : World) (hx : BytesAt w (.slice A x.length cap) x) (hl : x.length ≤ 9000000000000000000) :
  Calls Tryz.prog 152 #[.slice A x.length cap] w (fun e w' => e = .returned (.agg (B (Kec.sum x)).toArray) ∧ Keeps Nob w w') := by
 have K0 : Keeps Nob w w := Keeps.refl _ _
 refine sy_enter (qc86_0 1) ⟨fr [.slice A x.length cap] 7, []⟩ Tryz.func152 (by kernel_rfl) (by kernel_rfl) <| qr_ [0] <| pal 25 (zr_u8_32) (.agg (zr_u8_32)) fun V1 gr egr h2 kV1 => ?_
 have n3 := nk egr K0
 have h4 : BytesAt V1 (.slice A x.length cap) x := hx.keepsN kV1
 have K5 := K0.nn kV1
 refine eqr_ [0] <| pal 232 (Sp Kec.zero zero136 0 0) (.agg (Sp Kec.zero zero136 0 0)) fun V6 p ep h7 kV6 => ?_
 have n8 := nl ep h2
 have n9 := nk ep K5
 have h10 : BytesAt V6 (.slice A x.length cap) x := h4.keepsN kV6
 have ⟨K12, h11⟩ := kV6.K1 K5 h2
 refine eqr_ [0, 1] <| pkq (.slice A x.length cap) ?_
 have h15 : SpAt V6 p [] := h7.trans (congrArg (fun c => some (Obj.cells c 232 (0, 0))) sp_nil)
 have hA2 : 0 < x.length → ∀ j, (Value.slice A x.length cap).ownBlock = some j → j ≠ p := fun hn j hj => by have := hx.blockLt hn j hj; omega
 refine pcq 162 #[pT p 0, .slice A x.length cap] Tryz.func162 ((kwrite_ok p [] x A cap _ h15 h10 hA2 (by simpa using hl)).mono ?_)
 rintro e V13 ⟨rfl, h14, kV13⟩
 refine ⟨_, rfl, ?_⟩
 have ⟨K18, h17⟩ := kV13.Ko1 K12 h11
 refine eqr_ [0, 1, 2] <| ppq (.agg (Sp (Kec.stateOf x) (blkOf x) (x.length % 136) x.length)) (ldr 232 p (h14) (by rw [Sp_size _ _ _ _ (Kec.len_stateOf _) (blkOf_len _)]; kernel_rfl)) ?_
 refine pcq 163 #[.agg (Sp (Kec.stateOf x) (blkOf x) (x.length % 136) x.length)] Tryz.func163 ((ksum_ok x _).mono ?_)
 rintro e V19 ⟨rfl, kV19⟩
 refine ⟨_, rfl, ?_⟩
 have ⟨K23, h21⟩ := kV19.K1 K18 h17
 refine pst 25 gr ((B (Kec.sum x)).toArray) h21 (by rw [Bz_size, Kec.sum_len]; kernel_rfl) (by rw [Bz_size, Kec.sum_len]; rfl) (by rw [List.all_toArray]; exact List.all_eq_true.2 (B_one _)) fun V24 h25 kV24 => ?_
 have K28 := K23.nO kV24
 refine eu_ <| sy_out (.agg ((B (Kec.sum x)).toArray)) rfl (results_cell_row (p := 2) (ty := 25) (by kernel_rfl) _ _ gr 25 ((B (Kec.sum x)).toArray) (0, 0) _ (by kernel_rfl) h25 Tryz.underlying25 rfl (by rw [Bz_size, Kec.sum_len]; kernel_rfl)) ?_
 exact ⟨rfl, K28⟩
end Go.Proofs.YthmclmbeflbhhaaGreat
namespace Go.Proofs.YthmclmbeflbhhaaGreat
set_option maxRecDepth 100000
set_option maxHeartbeats 4000000
open Go Go.RowKit Go.Own Go.Shelf
def Att.dig (a : Att) : List UInt8 := Kec.sum a.bare
def Pro.dig (a : Pro) : List UInt8 := Kec.sum a.bare
theorem Att.dig_len (a : Att) : a.dig.length = 32 := Kec.sum_len _
theorem Pro.dig_len (a : Pro) : a.dig.length = 32 := Kec.sum_len _
theorem ksum_any (v : Value) (x : List UInt8) (w : World) (hx : BytesAt w v x) (hl : x.length ≤ 9000000000000000000) : Calls Tryz.prog 152 #[v] w fun e w' => e = .returned (.agg (B (Kec.sum x)).toArray) ∧ Keeps Nob w w' := by
 obtain ⟨A, cap, rfl⟩ := hx.len; exact kSum_ok x A cap w hx hl
noncomputable def qc87_2 (n : Nat) : Code := partOf Tryz.f130 n
theorem vhash_bad (x : Int) (v : Value) (w : World) (hx : x ≠ 0) :
  Calls Tryz.prog 130 #[.int .i64 x, v] w (fun e w' => e = .returned (.tuple #[.agg (B zhash).toArray, .int .i64 x]) ∧ Keeps Nob w w') := by
 have K0 : Keeps Nob w w := Keeps.refl _ _
 refine sy_enter (qc87_2 1) ⟨fr [.int .i64 x, v] 17, []⟩ Tryz.func130 (by kernel_rfl) (by kernel_rfl) <| qr_ [0, 1] <| pal 25 (zr_u8_32) (.agg (zr_u8_32)) fun V1 gr egr h2 kV1 => ?_
 have n3 := nk egr K0
 have K4 := K0.nn kV1
 have z5 := kV1.size
 refine pkq (.int .i64 0) <| eqr_ [0, 1, 2, 3, 4, 5, 6, 7] <| pkq (.int .i64 x) <| pkq (v) ?_
 refine pcq 151 #[.int .i64 x, v] Tryz.func151 ((vwritten_bad x v _ hx).mono ?_)
 rintro e w1 ⟨rfl, rfl⟩
 refine ⟨_, rfl, ?_⟩
 refine pkq (.tuple #[.slice none 0 0, .int .i64 x]) <| pkq (.slice none 0 0) <| pkq (.int .i64 x) <| pkq (.slice none 0 0) <| pkq (.int .i64 x) <| eq_ <| qr_ [0, 1] <| pkq (.int .i64 x) <| ppq (.bool true) (nqt ((x) : Int) ((0) : Int) (by omega)) <| ey_ <| qr_ [0, 1, 2, 3] <| pkq (.agg (B zhash).toArray) <| pkq (.int .i64 x) <| pst 25 gr ((B zhash).toArray) h2 (by rw [Bz_size, zhash_len]; kernel_rfl) (by rw [Bz_size, zhash_len]; rfl) (by rw [List.all_toArray]; exact List.all_eq_true.2 (B_one _)) fun V6 h7 kV6 => ?_
 have K8 := K4.nO kV6
 have z9 := kV6.size
 refine pkq (.int .i64 x) <| eu_ <| then_r <| sy_out (.tuple #[.agg ((B zhash).toArray), .int .i64 x]) rfl (results_row_tmp (p := 4) (q := 5) (ty := 25) (by kernel_rfl) _ _ gr 25 ((B zhash).toArray) (0, 0) _ (.int .i64 x) (by kernel_rfl) h7 Tryz.underlying25 rfl (by rw [Bz_size, zhash_len]; kernel_rfl) (by kernel_rfl)) ?_
 exact ⟨rfl, K8⟩
theorem vhash_ok (v : Value) (ts : List Thg) (vs : List Value) (w : World) (h0 : Row w 219 1 v ts.length vs) (h1 : ThsAt w vs ts) (hpos : 0 < ts.length) (hok : ∀ (k : Nat) (t : Thg), ts[k]? = some t → t.Ok) (hl : (allb ts).length ≤ 4096) (hmax : ts.length ≤ 1000) :
  Calls Tryz.prog 130 #[.int .i64 0, v] w (fun e w' => e = .returned (.tuple #[.agg (B (Kec.sum (allb ts))).toArray, .int .i64 0]) ∧ Keeps Nob w w') := by
 have K0 : Keeps Nob w w := Keeps.refl _ _
 refine sy_enter (qc87_2 1) ⟨fr [.int .i64 0, v] 17, []⟩ Tryz.func130 (by kernel_rfl) (by kernel_rfl) <| qr_ [0, 1] <| pal 25 (zr_u8_32) (.agg (zr_u8_32)) fun V1 gr egr h2 kV1 => ?_
 have n3 := nk egr K0
 have h4 : Row V1 219 1 v ts.length vs := h0.keeps kV1 (fun _ _ x => x)
 have h5 : ThsAt V1 vs ts := h1.keepsN kV1
 have K6 := K0.nn kV1
 have z7 := kV1.size
 refine pkq (.int .i64 0) <| eqr_ [0, 1, 2, 3, 4, 5, 6, 7] <| pkq (.int .i64 0) <| pkq (v) ?_
 refine pcq 151 #[.int .i64 0, v] Tryz.func151 ((vwritten_ok v ts vs _ h4 h5 hpos hok hl hmax).mono ?_)
 rintro e V8 ⟨X, rfl, hX, hnX, kV8⟩
 refine ⟨_, rfl, ?_⟩
 have ⟨K10, z11, h9⟩ := kV8.z1 K6 h2
 refine pkq (.tuple #[X, .int .i64 0]) <| pkq (X) <| pkq (.int .i64 0) <| pkq (X) <| pkq (.int .i64 0) <| eq_ <| qr_ [0, 1] <| pkq (.int .i64 0) <| pkq (.bool false) <| en_ <| s_ <| tqr_ [0, 1, 2, 3] <| pkq (X) ?_
 refine pcq 152 #[X] Tryz.func152 ((ksum_any X (allb ts) _ (Row.bytes hX) (by omega)).mono ?_)
 rintro e V12 ⟨rfl, kV12⟩
 refine ⟨_, rfl, ?_⟩
 have ⟨K14, z15, h13⟩ := kV12.z1 K10 h9
 refine pst 25 gr ((B (Kec.sum (allb ts))).toArray) h13 (by rw [Bz_size, Kec.sum_len]; kernel_rfl) (by rw [Bz_size, Kec.sum_len]; rfl) (by rw [List.all_toArray]; exact List.all_eq_true.2 (B_one _)) fun V16 h17 kV16 => ?_
 have K18 := K14.nO kV16
 have z19 := kV16.size
 refine pkq (.int .i64 0) <| eu_ <| sy_out (.tuple #[.agg ((B (Kec.sum (allb ts))).toArray), .int .i64 0]) rfl (results_row_tmp (p := 4) (q := 5) (ty := 25) (by kernel_rfl) _ _ gr 25 ((B (Kec.sum (allb ts))).toArray) (0, 0) _ (.int .i64 0) (by kernel_rfl) h17 Tryz.underlying25 rfl (by rw [Bz_size, (Kec.sum_len _)]; kernel_rfl) (by kernel_rfl)) ?_
 exact ⟨rfl, K18⟩
noncomputable def qc87_1 (n : Nat) : Code := partOf Tryz.f102 n
theorem vDigest_bad (a : Att) (w : World) (ha : a.Ok) (hf : ¬ a.fine) :
  Calls Tryz.prog 102 #[.agg (Att.c a)] w (fun e w' => e = .returned (.tuple #[.agg (B zhash).toArray, .int .i64 3]) ∧ Keeps Nob w w') := by
 have hr := ha.r
 have hlen := att_len hr
 obtain ⟨i0, hi0, hz0, hz1, hz2⟩ := info_parts thing_info
 have K0 : Keeps Nob w w := Keeps.refl _ _
 refine sy_enter (qc87_1 1) ⟨fr [.agg (Att.c a)] 10, []⟩ Tryz.func102 (by kernel_rfl) (by kernel_rfl) <| qr_ [0, 1, 2] <| pbx 28 ((Att.c a)) (.agg (Att.c a)) fun V1 ga ega h2 kV1 => ?_
 have n3 := nk ega K0
 have K4 := K0.nn kV1
 have z5 := kV1.size
 refine pal 25 (zr_u8_32) (.agg (zr_u8_32)) fun V6 gr egr h7 kV6 => ?_
 have n8 := nl egr h2
 have n9 := nk egr K4
 have ⟨K11, z12, h10⟩ := kV6.z1 K4 h2
 refine pkq (.int .i64 0) <| eq_ <| sy_np <| sy_reg <| an_begin 1 9 (opsAt (qc87_1 6)) (fun W => (W.heap[ga]? = some (.cells (Att.c a) 28 (0, 0)))) zl10_ (by kernel_rfl) (by kernel_rfl) (by kernel_rfl) (by kernel_rfl) ?_
 obtain ⟨V13, eV13, kV13⟩ := drew_step V6
 rw [eV13]
 clear eV13
 have ⟨K16, z17, h14, h15⟩ := kV13.z2 K11 h10 h7
 refine avq 0 (.agg (Att.c a)) (fun W hS => ldr 28 ga (hS) (by rw [Att.c_size _ hr]; kernel_rfl)) h14 <| avq 2 (.agg (Att.c a)) (fun W hS => ldr 28 ga (hS) (by rw [Att.c_size _ hr]; kernel_rfl)) h14 <| an_o 1 ?_
 refine ncq 46 #[.agg (Att.c a)] Tryz.func46 ((vCheck_is a _ hr (Att.err_no hf)).mono ?_)
 rintro e V18 ⟨rfl, kV18⟩
 refine ⟨_, rfl, ?_⟩
 have ⟨K21, z22, h19, h20⟩ := kV18.z2 K16 h14 h15
 refine ⟨h19, ?_⟩
 refine an_o 3 ?_
 refine ncq 132 #[.agg (Att.c a)] Tryz.func132 ((vthings_ok a _ hr).mono ?_)
 rintro e V23 ⟨gl, vs, rfl, hrow, hths, hnl, kV23⟩
 have hnl2 : NewFrom w.heap.size (.slice (some ⟨gl, 0, none⟩) 5 5) := fun j hj => by have := hnl j hj; have := K21.size; omega
 refine ⟨_, rfl, ?_⟩
 have ⟨K26, z27, h24, h25⟩ := kV23.z2 K21 h19 h20
 refine ⟨h24, ?_⟩
 refine an_o 4 ?_
 refine ncq 130 #[.int .i64 3, .slice (some ⟨gl, 0, none⟩) 5 5] Tryz.func130 ((vhash_bad 3 _ _ (by decide)).mono ?_)
 rintro e V28 ⟨rfl, kV28⟩
 refine ⟨_, rfl, ?_⟩
 have ⟨K31, z32, h29, h30⟩ := kV28.z2 K26 h24 h25
 refine ⟨h29, ?_⟩
 refine akq 5 (.agg (B zhash).toArray) h29 <| akq 6 (.int .i64 3) h29 <| an_o 7 <| nst 25 gr ((B zhash).toArray) h30 (by rw [Bz_size, show (zhash).length = 32 from zhash_len]; kernel_rfl) (by rw [Bz_size, show (zhash).length = 32 from zhash_len]; rfl) (by rw [List.all_toArray]; exact List.all_eq_true.2 (B_one _)) fun V33 h34 kV33 => ?_
 have ⟨K36, z37, h35⟩ := kV33.zo1 K31 h29
 refine ⟨h35, ?_⟩
 refine an_o 8 <| nrq (.int .i64 3) (w' := V33) (by kernel_rfl) ?_
 refine ⟨h35, ?_⟩
 refine an_end (by kernel_rfl) <| then_n <| u_ <| sy_out (.tuple #[.agg ((B zhash).toArray), .int .i64 3]) rfl (results_row_tmp (p := 2) (q := 3) (ty := 25) (by kernel_rfl) _ _ gr 25 ((B zhash).toArray) (0, 0) _ (.int .i64 3) (by kernel_rfl) h34 Tryz.underlying25 rfl (by rw [Bz_size, zhash_len]; kernel_rfl) (by kernel_rfl)) ?_
 exact ⟨rfl, K36⟩
theorem vDigest_ok (a : Att) (w : World) (ha : a.Ok) (hf : a.fine) :
  Calls Tryz.prog 102 #[.agg (Att.c a)] w (fun e w' => e = .returned (.tuple #[.agg (B a.dig).toArray, .int .i64 0]) ∧ Keeps Nob w w') := by
 have hr := ha.r
 have hlen := att_len hr
 obtain ⟨i0, hi0, hz0, hz1, hz2⟩ := info_parts thing_info
 have K0 : Keeps Nob w w := Keeps.refl _ _
 refine sy_enter (qc87_1 1) ⟨fr [.agg (Att.c a)] 10, []⟩ Tryz.func102 (by kernel_rfl) (by kernel_rfl) <| qr_ [0, 1, 2] <| pbx 28 ((Att.c a)) (.agg (Att.c a)) fun V1 ga ega h2 kV1 => ?_
 have n3 := nk ega K0
 have K4 := K0.nn kV1
 have z5 := kV1.size
 refine pal 25 (zr_u8_32) (.agg (zr_u8_32)) fun V6 gr egr h7 kV6 => ?_
 have n8 := nl egr h2
 have n9 := nk egr K4
 have ⟨K11, z12, h10⟩ := kV6.z1 K4 h2
 refine pkq (.int .i64 0) <| eq_ <| sy_np <| sy_reg <| an_begin 1 9 (opsAt (qc87_1 6)) (fun W => (W.heap[ga]? = some (.cells (Att.c a) 28 (0, 0)))) zl10_ (by kernel_rfl) (by kernel_rfl) (by kernel_rfl) (by kernel_rfl) ?_
 obtain ⟨V13, eV13, kV13⟩ := drew_step V6
 rw [eV13]
 clear eV13
 have ⟨K16, z17, h14, h15⟩ := kV13.z2 K11 h10 h7
 refine avq 0 (.agg (Att.c a)) (fun W hS => ldr 28 ga (hS) (by rw [Att.c_size _ hr]; kernel_rfl)) h14 <| avq 2 (.agg (Att.c a)) (fun W hS => ldr 28 ga (hS) (by rw [Att.c_size _ hr]; kernel_rfl)) h14 <| an_o 1 ?_
 refine ncq 46 #[.agg (Att.c a)] Tryz.func46 ((vCheck_is a _ hr (Att.err_ok hf)).mono ?_)
 rintro e V18 ⟨rfl, kV18⟩
 refine ⟨_, rfl, ?_⟩
 have ⟨K21, z22, h19, h20⟩ := kV18.z2 K16 h14 h15
 refine ⟨h19, ?_⟩
 refine an_o 3 ?_
 refine ncq 132 #[.agg (Att.c a)] Tryz.func132 ((vthings_ok a _ hr).mono ?_)
 rintro e V23 ⟨gl, vs, rfl, hrow, hths, hnl, kV23⟩
 have hnl2 : NewFrom w.heap.size (.slice (some ⟨gl, 0, none⟩) 5 5) := fun j hj => by have := hnl j hj; have := K21.size; omega
 refine ⟨_, rfl, ?_⟩
 have ⟨K26, z27, h24, h25⟩ := kV23.z2 K21 h19 h20
 refine ⟨h24, ?_⟩
 refine an_o 4 ?_
 refine ncq 130 #[.int .i64 0, .slice (some ⟨gl, 0, none⟩) 5 5] Tryz.func130 ((vhash_ok _ (attT a) _ _ hrow hths (by simp [attT]) (okT_pre (att_okT ha hf)) (by have h := hlen.2; unfold Att.bare at h; omega) (by simp [attT])).mono ?_)
 rintro e V28 ⟨rfl, kV28⟩
 refine ⟨_, rfl, ?_⟩
 have ⟨K31, z32, h29, h30⟩ := kV28.z2 K26 h24 h25
 refine ⟨h29, ?_⟩
 refine akq 5 (.agg (B a.dig).toArray) h29 <| akq 6 (.int .i64 0) h29 <| an_o 7 <| nst 25 gr ((B a.dig).toArray) h30 (by rw [Bz_size, show (a.dig).length = 32 from (Att.dig_len a)]; kernel_rfl) (by rw [Bz_size, show (a.dig).length = 32 from (Att.dig_len a)]; rfl) (by rw [List.all_toArray]; exact List.all_eq_true.2 (B_one _)) fun V33 h34 kV33 => ?_
 have ⟨K36, z37, h35⟩ := kV33.zo1 K31 h29
 refine ⟨h35, ?_⟩
 refine an_o 8 <| nrq (.int .i64 0) (w' := V33) (by kernel_rfl) ?_
 refine ⟨h35, ?_⟩
 refine an_end (by kernel_rfl) <| then_n <| u_ <| sy_out (.tuple #[.agg ((B a.dig).toArray), .int .i64 0]) rfl (results_row_tmp (p := 2) (q := 3) (ty := 25) (by kernel_rfl) _ _ gr 25 ((B a.dig).toArray) (0, 0) _ (.int .i64 0) (by kernel_rfl) h34 Tryz.underlying25 rfl (by rw [Bz_size, (Att.dig_len a)]; kernel_rfl) (by kernel_rfl)) ?_
 exact ⟨rfl, K36⟩
noncomputable def qc87_0 (n : Nat) : Code := partOf Tryz.f100 n
theorem vDigestBlock_bad (a : Pro) (w : World) (ha : a.Ok) (hf : ¬ a.fine) :
  Calls Tryz.prog 100 #[.agg (Pro.c a)] w (fun e w' => e = .returned (.tuple #[.agg (B zhash).toArray, .int .i64 3]) ∧ Keeps Nob w w') := by
 have hr := ha.r
 have hlen := pro_len hr
 obtain ⟨i0, hi0, hz0, hz1, hz2⟩ := info_parts thing_info
 have K0 : Keeps Nob w w := Keeps.refl _ _
 refine sy_enter (qc87_0 1) ⟨fr [.agg (Pro.c a)] 10, []⟩ Tryz.func100 (by kernel_rfl) (by kernel_rfl) <| qr_ [0, 1, 2] <| pbx 37 ((Pro.c a)) (.agg (Pro.c a)) fun V1 ga ega h2 kV1 => ?_
 have n3 := nk ega K0
 have K4 := K0.nn kV1
 have z5 := kV1.size
 refine pal 25 (zr_u8_32) (.agg (zr_u8_32)) fun V6 gr egr h7 kV6 => ?_
 have n8 := nl egr h2
 have n9 := nk egr K4
 have ⟨K11, z12, h10⟩ := kV6.z1 K4 h2
 refine pkq (.int .i64 0) <| eq_ <| sy_np <| sy_reg <| an_begin 1 9 (opsAt (qc87_0 6)) (fun W => (W.heap[ga]? = some (.cells (Pro.c a) 37 (0, 0)))) zl10_ (by kernel_rfl) (by kernel_rfl) (by kernel_rfl) (by kernel_rfl) ?_
 obtain ⟨V13, eV13, kV13⟩ := drew_step V6
 rw [eV13]
 clear eV13
 have ⟨K16, z17, h14, h15⟩ := kV13.z2 K11 h10 h7
 refine avq 0 (.agg (Pro.c a)) (fun W hS => ldr 37 ga (hS) (by rw [Pro.c_size _ hr]; kernel_rfl)) h14 <| avq 2 (.agg (Pro.c a)) (fun W hS => ldr 37 ga (hS) (by rw [Pro.c_size _ hr]; kernel_rfl)) h14 <| an_o 1 ?_
 refine ncq 51 #[.agg (Pro.c a)] Tryz.func51 ((vCheckBlock_is a _ hr (Pro.err_no hf)).mono ?_)
 rintro e V18 ⟨rfl, kV18⟩
 refine ⟨_, rfl, ?_⟩
 have ⟨K21, z22, h19, h20⟩ := kV18.z2 K16 h14 h15
 refine ⟨h19, ?_⟩
 refine an_o 3 ?_
 refine ncq 131 #[.agg (Pro.c a)] Tryz.func131 ((vthingsBlock_ok a _ hr).mono ?_)
 rintro e V23 ⟨gl, vs, rfl, hrow, hths, hnl, kV23⟩
 have hnl2 : NewFrom w.heap.size (.slice (some ⟨gl, 0, none⟩) 4 4) := fun j hj => by have := hnl j hj; have := K21.size; omega
 refine ⟨_, rfl, ?_⟩
 have ⟨K26, z27, h24, h25⟩ := kV23.z2 K21 h19 h20
 refine ⟨h24, ?_⟩
 refine an_o 4 ?_
 refine ncq 130 #[.int .i64 3, .slice (some ⟨gl, 0, none⟩) 4 4] Tryz.func130 ((vhash_bad 3 _ _ (by decide)).mono ?_)
 rintro e V28 ⟨rfl, kV28⟩
 refine ⟨_, rfl, ?_⟩
 have ⟨K31, z32, h29, h30⟩ := kV28.z2 K26 h24 h25
 refine ⟨h29, ?_⟩
 refine akq 5 (.agg (B zhash).toArray) h29 <| akq 6 (.int .i64 3) h29 <| an_o 7 <| nst 25 gr ((B zhash).toArray) h30 (by rw [Bz_size, show (zhash).length = 32 from zhash_len]; kernel_rfl) (by rw [Bz_size, show (zhash).length = 32 from zhash_len]; rfl) (by rw [List.all_toArray]; exact List.all_eq_true.2 (B_one _)) fun V33 h34 kV33 => ?_
 have ⟨K36, z37, h35⟩ := kV33.zo1 K31 h29
 refine ⟨h35, ?_⟩
 refine an_o 8 <| nrq (.int .i64 3) (w' := V33) (by kernel_rfl) ?_
 refine ⟨h35, ?_⟩
 refine an_end (by kernel_rfl) <| then_n <| u_ <| sy_out (.tuple #[.agg ((B zhash).toArray), .int .i64 3]) rfl (results_row_tmp (p := 2) (q := 3) (ty := 25) (by kernel_rfl) _ _ gr 25 ((B zhash).toArray) (0, 0) _ (.int .i64 3) (by kernel_rfl) h34 Tryz.underlying25 rfl (by rw [Bz_size, zhash_len]; kernel_rfl) (by kernel_rfl)) ?_
 exact ⟨rfl, K36⟩
theorem vDigestBlock_ok (a : Pro) (w : World) (ha : a.Ok) (hf : a.fine) :
  Calls Tryz.prog 100 #[.agg (Pro.c a)] w (fun e w' => e = .returned (.tuple #[.agg (B a.dig).toArray, .int .i64 0]) ∧ Keeps Nob w w') := by
 have hr := ha.r
 have hlen := pro_len hr
 obtain ⟨i0, hi0, hz0, hz1, hz2⟩ := info_parts thing_info
 have K0 : Keeps Nob w w := Keeps.refl _ _
 refine sy_enter (qc87_0 1) ⟨fr [.agg (Pro.c a)] 10, []⟩ Tryz.func100 (by kernel_rfl) (by kernel_rfl) <| qr_ [0, 1, 2] <| pbx 37 ((Pro.c a)) (.agg (Pro.c a)) fun V1 ga ega h2 kV1 => ?_
 have n3 := nk ega K0
 have K4 := K0.nn kV1
 have z5 := kV1.size
 refine pal 25 (zr_u8_32) (.agg (zr_u8_32)) fun V6 gr egr h7 kV6 => ?_
 have n8 := nl egr h2
 have n9 := nk egr K4
 have ⟨K11, z12, h10⟩ := kV6.z1 K4 h2
 refine pkq (.int .i64 0) <| eq_ <| sy_np <| sy_reg <| an_begin 1 9 (opsAt (qc87_0 6)) (fun W => (W.heap[ga]? = some (.cells (Pro.c a) 37 (0, 0)))) zl10_ (by kernel_rfl) (by kernel_rfl) (by kernel_rfl) (by kernel_rfl) ?_
 obtain ⟨V13, eV13, kV13⟩ := drew_step V6
 rw [eV13]
 clear eV13
 have ⟨K16, z17, h14, h15⟩ := kV13.z2 K11 h10 h7
 refine avq 0 (.agg (Pro.c a)) (fun W hS => ldr 37 ga (hS) (by rw [Pro.c_size _ hr]; kernel_rfl)) h14 <| avq 2 (.agg (Pro.c a)) (fun W hS => ldr 37 ga (hS) (by rw [Pro.c_size _ hr]; kernel_rfl)) h14 <| an_o 1 ?_
 refine ncq 51 #[.agg (Pro.c a)] Tryz.func51 ((vCheckBlock_is a _ hr (Pro.err_ok hf)).mono ?_)
 rintro e V18 ⟨rfl, kV18⟩
 refine ⟨_, rfl, ?_⟩
 have ⟨K21, z22, h19, h20⟩ := kV18.z2 K16 h14 h15
 refine ⟨h19, ?_⟩
 refine an_o 3 ?_
 refine ncq 131 #[.agg (Pro.c a)] Tryz.func131 ((vthingsBlock_ok a _ hr).mono ?_)
 rintro e V23 ⟨gl, vs, rfl, hrow, hths, hnl, kV23⟩
 have hnl2 : NewFrom w.heap.size (.slice (some ⟨gl, 0, none⟩) 4 4) := fun j hj => by have := hnl j hj; have := K21.size; omega
 refine ⟨_, rfl, ?_⟩
 have ⟨K26, z27, h24, h25⟩ := kV23.z2 K21 h19 h20
 refine ⟨h24, ?_⟩
 refine an_o 4 ?_
 refine ncq 130 #[.int .i64 0, .slice (some ⟨gl, 0, none⟩) 4 4] Tryz.func130 ((vhash_ok _ (proT a) _ _ hrow hths (by simp [proT]) (okT_pre (pro_okT ha hf)) (by have h := hlen.2; unfold Pro.bare at h; omega) (by simp [proT])).mono ?_)
 rintro e V28 ⟨rfl, kV28⟩
 refine ⟨_, rfl, ?_⟩
 have ⟨K31, z32, h29, h30⟩ := kV28.z2 K26 h24 h25
 refine ⟨h29, ?_⟩
 refine akq 5 (.agg (B a.dig).toArray) h29 <| akq 6 (.int .i64 0) h29 <| an_o 7 <| nst 25 gr ((B a.dig).toArray) h30 (by rw [Bz_size, show (a.dig).length = 32 from (Pro.dig_len a)]; kernel_rfl) (by rw [Bz_size, show (a.dig).length = 32 from (Pro.dig_len a)]; rfl) (by rw [List.all_toArray]; exact List.all_eq_true.2 (B_one _)) fun V33 h34 kV33 => ?_
 have ⟨K36, z37, h35⟩ := kV33.zo1 K31 h29
 refine ⟨h35, ?_⟩
 refine an_o 8 <| nrq (.int .i64 0) (w' := V33) (by kernel_rfl) ?_
 refine ⟨h35, ?_⟩
 refine an_end (by kernel_rfl) <| then_n <| u_ <| sy_out (.tuple #[.agg ((B a.dig).toArray), .int .i64 0]) rfl (results_row_tmp (p := 2) (q := 3) (ty := 25) (by kernel_rfl) _ _ gr 25 ((B a.dig).toArray) (0, 0) _ (.int .i64 0) (by kernel_rfl) h34 Tryz.underlying25 rfl (by rw [Bz_size, (Pro.dig_len a)]; kernel_rfl) (by kernel_rfl)) ?_
 exact ⟨rfl, K36⟩
end Go.Proofs.YthmclmbeflbhhaaGreat
namespace Go.Proofs.YthmclmbeflbhhaaGreat
set_option maxRecDepth 100000
set_option maxHeartbeats 4000000
open Go Go.RowKit Go.Own Go.Shelf
def doubP (a b : Pro) : Bool := decide (a.fine ∧ b.fine ∧ a.v = b.v ∧ a.h = b.h ∧ ¬ a.dig = b.dig)
theorem ne_dec (l m : List UInt8) : (!(l == m)) = decide (¬ l = m) := by by_cases h : l = m <;> simp [h]
theorem hash_guard : Tryz.prog.eqGuardType Tryz.prog.depth 25 = false := by kernel_rfl
theorem hash_eq (l m : List UInt8) (hl : l.length = 32) (hm : m.length = 32) (w : World) : (binOp .eql 25 (.agg (B l).toArray) (.agg (B m).toArray)).run Tryz.prog w = .ok (.bool (l == m)) w := by
 obtain ⟨i0, hi, _, _, _⟩ := info_parts u8_info0
 have h := run_equalIn_bytes (P := Tryz.prog) (t := 25) (e := 5) (n := 32) Tryz.underlying25 hi (by kernel_rfl) Tryz.underlying5 (by kernel_rfl) 9998 l m w hl hm
 rw [run_eql_struct, h]; rfl
theorem hash_ne (l m : List UInt8) (hl : l.length = 32) (hm : m.length = 32) (w : World) : (binOp .neq 25 (.agg (B l).toArray) (.agg (B m).toArray)).run Tryz.prog w = .ok (.bool (!(l == m))) w := by
 obtain ⟨i0, hi, _, _, _⟩ := info_parts u8_info0
 have h := run_equalIn_bytes (P := Tryz.prog) (t := 25) (e := 5) (n := 32) Tryz.underlying25 hi (by kernel_rfl) Tryz.underlying5 (by kernel_rfl) 9998 l m w hl hm
 rw [run_neq_struct, h]; rfl
def Att.dg (a : Att) : List UInt8 := if a.fine then a.dig else zhash
def Pro.dg (a : Pro) : List UInt8 := if a.fine then a.dig else zhash
theorem Att.dg_len (a : Att) : a.dg.length = 32 := by unfold Att.dg; split; exact a.dig_len; exact zhash_len
theorem Pro.dg_len (a : Pro) : a.dg.length = 32 := by unfold Pro.dg; split; exact a.dig_len; exact zhash_len
theorem vDigest_any (a : Att) (w : World) (ha : a.Ok) : Calls Tryz.prog 102 #[.agg (Att.c a)] w fun e w' => e = .returned (.tuple #[.agg (B a.dg).toArray, .int .i64 a.err]) ∧ Keeps Nob w w' := by
 by_cases hf : a.fine
 ·rw [Att.err_ok hf, Att.dg, if_pos hf]; exact vDigest_ok a w ha hf
 ·rw [Att.err_no hf, Att.dg, if_neg hf]; exact vDigest_bad a w ha hf
theorem vDigestBlock_any (a : Pro) (w : World) (ha : a.Ok) : Calls Tryz.prog 100 #[.agg (Pro.c a)] w fun e w' => e = .returned (.tuple #[.agg (B a.dg).toArray, .int .i64 a.err]) ∧ Keeps Nob w w' := by
 by_cases hf : a.fine
 ·rw [Pro.err_ok hf, Pro.dg, if_pos hf]; exact vDigestBlock_ok a w ha hf
 ·rw [Pro.err_no hf, Pro.dg, if_neg hf]; exact vDigestBlock_bad a w ha hf
noncomputable def qc88_0 (n : Nat) : Code := partOf Tryz.f55 n
theorem vDoublesBlock_ok (a b : Pro) (w : World) (ha : a.Ok) (hb : b.Ok) :
  Calls Tryz.prog 55 #[.agg (Pro.c a), .agg (Pro.c b)] w (fun e w' => e = .returned (.bool (doubP a b)) ∧ Keeps Nob w w') := by
 have hr := ha.r
 have hs := hb.r
 have K0 : Keeps Nob w w := Keeps.refl _ _
 refine sy_enter (qc88_0 1) ⟨fr [.agg (Pro.c a), .agg (Pro.c b)] 42, []⟩ Tryz.func55 (by kernel_rfl) (by kernel_rfl) <| qr_ [0, 1, 2] <| pbx 37 ((Pro.c a)) (.agg (Pro.c a)) fun V1 ga ega h2 kV1 => ?_
 have n3 := nk ega K0
 have K4 := K0.nn kV1
 have z5 := kV1.size
 refine pbx 37 ((Pro.c b)) (.agg (Pro.c b)) fun V6 gb egb h7 kV6 => ?_
 have n8 := nl egb h2
 have n9 := nk egb K4
 have ⟨K11, z12, h10⟩ := kV6.z1 K4 h2
 refine pkq (.bool false) <| eqr_ [0, 1, 2, 3, 4, 5, 6, 7] <| ppq (.agg (Pro.c a)) (ldr 37 ga (h10) (by rw [Pro.c_size _ hr]; kernel_rfl)) ?_
 refine pcq 100 #[.agg (Pro.c a)] Tryz.func100 ((vDigestBlock_any a _ ha).mono ?_)
 rintro e V13 ⟨rfl, kV13⟩
 refine ⟨_, rfl, ?_⟩
 have ⟨K16, z17, h14, h15⟩ := kV13.z2 K11 h10 h7
 refine pkq (.tuple #[.agg (B a.dg).toArray, .int .i64 a.err]) <| pkq (.agg (B a.dg).toArray) <| pkq (.int .i64 a.err) <| pal 25 (zr_u8_32) (.agg (zr_u8_32)) fun V18 gx egx h19 kV18 => ?_
 have n20 := nl egx h14
 have n21 := nl egx h15
 have n22 := nk egx K16
 have ⟨K25, z26, h23, h24⟩ := kV18.z2 K16 h14 h15
 refine pst 25 gx ((B a.dg).toArray) h19 (by rw [Bz_size, Pro.dg_len]; kernel_rfl) (by rw [Bz_size, Pro.dg_len]; rfl) (by rw [List.all_toArray]; exact List.all_eq_true.2 (B_one _)) fun V27 h28 kV27 => ?_
 have ⟨K31, z32, h29, h30⟩ := kV27.zo2 K25 h23 h24
 refine pkq (.int .i64 a.err) <| eqr_ [0, 1, 2, 3, 4, 5, 6, 7] <| ppq (.agg (Pro.c b)) (ldr 37 gb (h30) (by rw [Pro.c_size _ hs]; kernel_rfl)) ?_
 refine pcq 100 #[.agg (Pro.c b)] Tryz.func100 ((vDigestBlock_any b _ hb).mono ?_)
 rintro e V33 ⟨rfl, kV33⟩
 refine ⟨_, rfl, ?_⟩
 have ⟨K37, z38, h34, h35, h36⟩ := kV33.z3 K31 h29 h30 h28
 refine pkq (.tuple #[.agg (B b.dg).toArray, .int .i64 b.err]) <| pkq (.agg (B b.dg).toArray) <| pkq (.int .i64 b.err) <| pal 25 (zr_u8_32) (.agg (zr_u8_32)) fun V39 gy egy h40 kV39 => ?_
 have n41 := nl egy h34
 have n42 := nl egy h35
 have n43 := nl egy h36
 have n44 := nk egy K37
 have ⟨K48, z49, h45, h46, h47⟩ := kV39.z3 K37 h34 h35 h36
 refine pst 25 gy ((B b.dg).toArray) h40 (by rw [Bz_size, Pro.dg_len]; kernel_rfl) (by rw [Bz_size, Pro.dg_len]; rfl) (by rw [List.all_toArray]; exact List.all_eq_true.2 (B_one _)) fun V50 h51 kV50 => ?_
 have ⟨K55, z56, h52, h53, h54⟩ := kV50.zo3 K48 h45 h46 h47
 refine pkq (.int .i64 b.err) <| eqr_ [0, 1, 2, 3, 4, 5, 6, 7, 8, 9, 10, 11, 12, 13, 14, 15, 16, 17, 18, 19, 20, 21, 22, 23, 24, 25] <| pkq (.int .i64 a.err) ?_
 by_cases c0 : a.fine
 ·have e0 := Pro.err_ok c0
  refine ppq (.bool true) (eqt ((a.err) : Int) ((0) : Int) (by omega)) <| pkq (.bool true) <| pkq (.int .i64 b.err) ?_
  by_cases c1 : b.fine
  ·have e1 := Pro.err_ok c1
   refine ppq (.bool true) (eqt ((b.err) : Int) ((0) : Int) (by omega)) <| pkq (.bool true) <| pkq (.bool true) <| pkq (pT ga 0) <| ppq (.int .i64 a.v) (ldc 3 ga 0 (rc (h52) (Pro.c_0 _))) <| pkq (pT gb 0) <| ppq (.int .i64 b.v) (ldc 3 gb 0 (rc (h53) (Pro.c_0 _))) ?_
   by_cases c2 : a.v = b.v
   ·have e2 := c2
    refine ppq (.bool true) (eqt ((a.v) : Int) ((b.v) : Int) (by omega)) <| pkq (.bool true) <| pkq (.bool true) <| pkq (pT ga 1) <| ppq (.int .i64 a.h) (ldc 3 ga 1 (rc (h52) (Pro.c_1 _))) <| pkq (pT gb 1) <| ppq (.int .i64 b.h) (ldc 3 gb 1 (rc (h53) (Pro.c_1 _))) ?_
    by_cases c3 : a.h = b.h
    ·have e3 := c3
     refine ppq (.bool true) (eqt ((a.h) : Int) ((b.h) : Int) (by omega)) <| pkq (.bool true) <| pkq (.bool true) <| ppq (.agg ((B a.dg).toArray)) (ldr 25 gx (h54) (by rw [Bz_size, (Pro.dg_len a)]; kernel_rfl)) <| ppq (.agg ((B b.dg).toArray)) (ldr 25 gy (h51) (by rw [Bz_size, (Pro.dg_len b)]; kernel_rfl)) <| ppq (.bool (!(a.dg == b.dg))) (exec_binop .neq 25 25 (.tmp 40) (.tmp 41) (by kernel_rfl) (.agg (B a.dg).toArray) (.agg (B b.dg).toArray) _ (by kernel_rfl) (by kernel_rfl) (run_eqGuard_agg _ _ _ _ _ _ _ hash_guard) (hash_ne _ _ (Pro.dg_len a) (Pro.dg_len b) _)) <| pkq (.bool (!(a.dg == b.dg))) <| pkq (.bool (!(a.dg == b.dg))) <| ps_end <| sy_a ⟨#[.agg (Pro.c a), .agg (Pro.c b), pT ga 0, pT gb 0, .bool (!(a.dg == b.dg)), pT gx 0, .int .i64 a.err, pT gy 0, .int .i64 b.err, .tuple #[.agg (B a.dg).toArray, .int .i64 a.err], .agg (Pro.c a), .tuple #[.agg (B a.dg).toArray, .int .i64 a.err], .agg (B a.dg).toArray, .int .i64 a.err, .tuple #[.agg (B b.dg).toArray, .int .i64 b.err], .agg (Pro.c b), .tuple #[.agg (B b.dg).toArray, .int .i64 b.err], .agg (B b.dg).toArray, .int .i64 b.err, .int .i64 a.err, .bool true, .bool true, .int .i64 b.err, .bool true, .bool true, .bool true, pT ga 0, .int .i64 a.v, pT gb 0, .int .i64 b.v, .bool true, .bool true, .bool true, pT ga 1, .int .i64 a.h, pT gb 1, .int .i64 b.h, .bool true, .bool true, .bool true, .agg ((B a.dg).toArray), .agg ((B b.dg).toArray), .bool (!(a.dg == b.dg)), .bool (!(a.dg == b.dg))], []⟩ <| then_n <| u_ <| so_ (.bool (!(a.dg == b.dg))) ?_
     exact ⟨by rw [ne_dec, Pro.dg, Pro.dg, if_pos c0, if_pos c1]; unfold doubP; simp [c0, c1, c2, c3], K55⟩
    ·have e3 := c3
     refine ppq (.bool false) (eqf ((a.h) : Int) ((b.h) : Int) (by omega)) <| pkq (.bool false) <| pkq (.bool false) <| pnq <| pnq <| pnq <| pkq (.bool false) <| pkq (.bool false) <| ps_end <| sy_a ⟨#[.agg (Pro.c a), .agg (Pro.c b), pT ga 0, pT gb 0, .bool false, pT gx 0, .int .i64 a.err, pT gy 0, .int .i64 b.err, .tuple #[.agg (B a.dg).toArray, .int .i64 a.err], .agg (Pro.c a), .tuple #[.agg (B a.dg).toArray, .int .i64 a.err], .agg (B a.dg).toArray, .int .i64 a.err, .tuple #[.agg (B b.dg).toArray, .int .i64 b.err], .agg (Pro.c b), .tuple #[.agg (B b.dg).toArray, .int .i64 b.err], .agg (B b.dg).toArray, .int .i64 b.err, .int .i64 a.err, .bool true, .bool true, .int .i64 b.err, .bool true, .bool true, .bool true, pT ga 0, .int .i64 a.v, pT gb 0, .int .i64 b.v, .bool true, .bool true, .bool true, pT ga 1, .int .i64 a.h, pT gb 1, .int .i64 b.h, .bool false, .bool false, .bool false, ud, ud, ud, .bool false], []⟩ <| then_n <| u_ <| so_ (.bool false) ?_
     exact ⟨by unfold doubP; simp [c0, c1, c2, c3], K55⟩
   ·have e2 := c2
    refine ppq (.bool false) (eqf ((a.v) : Int) ((b.v) : Int) (by omega)) <| pkq (.bool false) <| pkq (.bool false) <| pnq <| pnq <| pnq <| pnq <| pnq <| pkq (.bool false) <| pkq (.bool false) <| pnq <| pnq <| pnq <| pkq (.bool false) ?_
    refine pkq (.bool false) <| ps_end <| sy_a ⟨#[.agg (Pro.c a), .agg (Pro.c b), pT ga 0, pT gb 0, .bool false, pT gx 0, .int .i64 a.err, pT gy 0, .int .i64 b.err, .tuple #[.agg (B a.dg).toArray, .int .i64 a.err], .agg (Pro.c a), .tuple #[.agg (B a.dg).toArray, .int .i64 a.err], .agg (B a.dg).toArray, .int .i64 a.err, .tuple #[.agg (B b.dg).toArray, .int .i64 b.err], .agg (Pro.c b), .tuple #[.agg (B b.dg).toArray, .int .i64 b.err], .agg (B b.dg).toArray, .int .i64 b.err, .int .i64 a.err, .bool true, .bool true, .int .i64 b.err, .bool true, .bool true, .bool true, pT ga 0, .int .i64 a.v, pT gb 0, .int .i64 b.v, .bool false, .bool false, .bool false, ud, ud, ud, ud, ud, .bool false, .bool false, ud, ud, ud, .bool false], []⟩ <| then_n <| u_ <| so_ (.bool false) ?_
    exact ⟨by unfold doubP; simp [c0, c1, c2], K55⟩
  ·have e1 := Pro.err_no c1
   refine ppq (.bool false) (eqf ((b.err) : Int) ((0) : Int) (by omega)) <| pkq (.bool false) <| pkq (.bool false) <| pnq <| pnq <| pnq <| pnq <| pnq <| pkq (.bool false) <| pkq (.bool false) <| pnq <| pnq <| pnq <| pnq ?_
   refine pnq <| pkq (.bool false) <| pkq (.bool false) <| pnq <| pnq <| pnq <| pkq (.bool false) <| pkq (.bool false) <| ps_end <| sy_a ⟨#[.agg (Pro.c a), .agg (Pro.c b), pT ga 0, pT gb 0, .bool false, pT gx 0, .int .i64 a.err, pT gy 0, .int .i64 b.err, .tuple #[.agg (B a.dg).toArray, .int .i64 a.err], .agg (Pro.c a), .tuple #[.agg (B a.dg).toArray, .int .i64 a.err], .agg (B a.dg).toArray, .int .i64 a.err, .tuple #[.agg (B b.dg).toArray, .int .i64 b.err], .agg (Pro.c b), .tuple #[.agg (B b.dg).toArray, .int .i64 b.err], .agg (B b.dg).toArray, .int .i64 b.err, .int .i64 a.err, .bool true, .bool true, .int .i64 b.err, .bool false, .bool false, .bool false, ud, ud, ud, ud, ud, .bool false, .bool false, ud, ud, ud, ud, ud, .bool false, .bool false, ud, ud, ud, .bool false], []⟩ <| then_n <| u_ <| so_ (.bool false) ?_
   exact ⟨by unfold doubP; simp [c0, c1], K55⟩
 ·have e0 := Pro.err_no c0
  refine ppq (.bool false) (eqf ((a.err) : Int) ((0) : Int) (by omega)) <| pkq (.bool false) <| pnq <| pnq <| pkq (.bool false) <| pkq (.bool false) <| pnq <| pnq <| pnq <| pnq <| pnq <| pkq (.bool false) <| pkq (.bool false) <| pnq ?_
  refine pnq <| pnq <| pnq <| pnq <| pkq (.bool false) <| pkq (.bool false) <| pnq <| pnq <| pnq <| pkq (.bool false) <| pkq (.bool false) <| ps_end <| sy_a ⟨#[.agg (Pro.c a), .agg (Pro.c b), pT ga 0, pT gb 0, .bool false, pT gx 0, .int .i64 a.err, pT gy 0, .int .i64 b.err, .tuple #[.agg (B a.dg).toArray, .int .i64 a.err], .agg (Pro.c a), .tuple #[.agg (B a.dg).toArray, .int .i64 a.err], .agg (B a.dg).toArray, .int .i64 a.err, .tuple #[.agg (B b.dg).toArray, .int .i64 b.err], .agg (Pro.c b), .tuple #[.agg (B b.dg).toArray, .int .i64 b.err], .agg (B b.dg).toArray, .int .i64 b.err, .int .i64 a.err, .bool false, .bool false, ud, ud, .bool false, .bool false, ud, ud, ud, ud, ud, .bool false, .bool false, ud, ud, ud, ud, ud, .bool false, .bool false, ud, ud, ud, .bool false], []⟩ <| then_n ?_
  refine u_ <| so_ (.bool false) ?_
  exact ⟨by unfold doubP; simp [c0], K55⟩
end Go.Proofs.YthmclmbeflbhhaaGreat
namespace Go.Proofs.YthmclmbeflbhhaaGreat
set_option maxRecDepth 100000
set_option maxHeartbeats 4000000
open Go Go.RowKit Go.Own Go.Shelf
def In (ns : List Int) : List Value := ns.map fun x => .int .i64 x
theorem Att.split (a : Att) : a.bytes = a.bare ++ Cod.enc a.g := by simp [Att.bytes, Att.bare, allb, Thg.by]
theorem Pro.split (a : Pro) : a.bytes = a.bare ++ Cod.enc a.g := by simp [Pro.bytes, Pro.bare, allb, Thg.by]
end Go.Proofs.YthmclmbeflbhhaaGreat
namespace Go.Proofs.YthmclmbeflbhhaaGreat
set_option maxRecDepth 100000
set_option maxHeartbeats 4000000
open Go Go.RowKit Go.Own Go.Shelf
end Go.Proofs.YthmclmbeflbhhaaGreat
namespace Go.Proofs.YthmclmbeflbhhaaGreat
set_option maxRecDepth 100000
set_option maxHeartbeats 4000000
open Go Go.RowKit Go.Own Go.Shelf
end Go.Proofs.YthmclmbeflbhhaaGreat
namespace Go.Proofs.YthmclmbeflbhhaaGreat
set_option maxRecDepth 100000
set_option maxHeartbeats 4000000
open Go Go.RowKit Go.Own Go.Shelf
end Go.Proofs.YthmclmbeflbhhaaGreat
namespace Go.Proofs.YthmclmbeflbhhaaGreat
set_option maxRecDepth 100000
set_option maxHeartbeats 4000000
open Go Go.RowKit Go.Own Go.Shelf
/-- The state behind so many blocks. -/
def ab (Z : List UInt8) (q : Nat) : List Nat := Kec.absorb q Kec.zero Z
def mx (Z : List UInt8) (q : Nat) : List Nat := Kec.mixin (ab Z q) ((Z.drop (136 * q)).take 136)
end Go.Proofs.YthmclmbeflbhhaaGreat
namespace Go.Proofs.YthmclmbeflbhhaaGreat
set_option maxRecDepth 100000
set_option maxHeartbeats 4000000
open Go Go.RowKit Go.Own Go.Shelf
end Go.Proofs.YthmclmbeflbhhaaGreat
namespace Go.Proofs.YthmclmbeflbhhaaGreat
set_option maxRecDepth 100000
set_option maxHeartbeats 4000000
open Go Go.RowKit Go.Own Go.Shelf
end Go.Proofs.YthmclmbeflbhhaaGreat
namespace Go.Proofs.YthmclmbeflbhhaaGreat
set_option maxRecDepth 100000
set_option maxHeartbeats 4000000
open Go Go.RowKit Go.Own Go.Shelf
noncomputable def qc96_0 (n : Nat) : Code := partOf Tryz.f85 n
theorem dsame_ok (a b : Att) (w : World) (ha : a.Ok) (hb : b.Ok) :
  Calls Tryz.prog 85 #[.agg (Att.c a), .agg (Att.c b)] w (fun e w' => e = .returned (.bool (a.dg == b.dg)) ∧ Keeps Nob w w') := by
 have hr_a := ha.r
 have hr_b := hb.r
 have K0 : Keeps Nob w w := Keeps.refl _ _
 refine sy_enter (qc96_0 1) ⟨fr [.agg (Att.c a), .agg (Att.c b)] 20, []⟩ Tryz.func85 (by kernel_rfl) (by kernel_rfl) <| qr_ [0, 1, 2] <| pbx 28 ((Att.c a)) (.agg (Att.c a)) fun V1 ga ega h2 kV1 => ?_
 have n3 := nk ega K0
 have K4 := K0.nn kV1
 have z5 := kV1.size
 refine pbx 28 ((Att.c b)) (.agg (Att.c b)) fun V6 gb egb h7 kV6 => ?_
 have n8 := nl egb h2
 have n9 := nk egb K4
 have ⟨K11, z12, h10⟩ := kV6.z1 K4 h2
 refine pkq (.bool false) <| eqr_ [0, 1, 2, 3, 4, 5, 6, 7] <| ppq (.agg (Att.c a)) (ldr 28 ga (h10) (by rw [Att.c_size _ hr_a]; kernel_rfl)) ?_
 refine pcq 102 #[.agg (Att.c a)] Tryz.func102 ((vDigest_any a _ ha).mono ?_)
 rintro e V13 ⟨rfl, kV13⟩
 refine ⟨_, rfl, ?_⟩
 have ⟨K16, z17, h14, h15⟩ := kV13.z2 K11 h10 h7
 refine pkq (.tuple #[.agg (B a.dg).toArray, .int .i64 a.err]) <| pkq (.agg (B a.dg).toArray) <| pkq (.int .i64 a.err) <| pal 25 (zr_u8_32) (.agg (zr_u8_32)) fun V18 gx egx h19 kV18 => ?_
 have n20 := nl egx h14
 have n21 := nl egx h15
 have n22 := nk egx K16
 have ⟨K25, z26, h23, h24⟩ := kV18.z2 K16 h14 h15
 refine pst 25 gx ((B a.dg).toArray) h19 (by rw [Bz_size, Att.dg_len]; kernel_rfl) (by rw [Bz_size, Att.dg_len]; rfl) (by rw [List.all_toArray]; exact List.all_eq_true.2 (B_one _)) fun V27 h28 kV27 => ?_
 have ⟨K31, z32, h29, h30⟩ := kV27.zo2 K25 h23 h24
 refine pkq (.int .i64 a.err) <| eqr_ [0, 1, 2, 3, 4, 5, 6, 7] <| ppq (.agg (Att.c b)) (ldr 28 gb (h30) (by rw [Att.c_size _ hr_b]; kernel_rfl)) ?_
 refine pcq 102 #[.agg (Att.c b)] Tryz.func102 ((vDigest_any b _ hb).mono ?_)
 rintro e V33 ⟨rfl, kV33⟩
 refine ⟨_, rfl, ?_⟩
 have ⟨K37, z38, h34, h35, h36⟩ := kV33.z3 K31 h29 h30 h28
 refine pkq (.tuple #[.agg (B b.dg).toArray, .int .i64 b.err]) <| pkq (.agg (B b.dg).toArray) <| pkq (.int .i64 b.err) <| pal 25 (zr_u8_32) (.agg (zr_u8_32)) fun V39 gy egy h40 kV39 => ?_
 have n41 := nl egy h34
 have n42 := nl egy h35
 have n43 := nl egy h36
 have n44 := nk egy K37
 have ⟨K48, z49, h47⟩ := kV39.z1 K37 h36
 refine pst 25 gy ((B b.dg).toArray) h40 (by rw [Bz_size, Att.dg_len]; kernel_rfl) (by rw [Bz_size, Att.dg_len]; rfl) (by rw [List.all_toArray]; exact List.all_eq_true.2 (B_one _)) fun V50 h51 kV50 => ?_
 have ⟨K55, z56, h54⟩ := kV50.zo1 K48 h47
 refine pkq (.int .i64 b.err) <| eqr_ [0, 1, 2, 3] <| ppq (.agg ((B a.dg).toArray)) (ldr 25 gx (h54) (by rw [Bz_size, (Att.dg_len a)]; kernel_rfl)) <| ppq (.agg ((B b.dg).toArray)) (ldr 25 gy (h51) (by rw [Bz_size, (Att.dg_len b)]; kernel_rfl)) <| ppq (.bool (a.dg == b.dg)) (exec_binop .eql 25 25 (.tmp 19) (.tmp 20) (by kernel_rfl) (.agg (B a.dg).toArray) (.agg (B b.dg).toArray) _ (by kernel_rfl) (by kernel_rfl) (run_eqGuard_agg _ _ _ _ _ _ _ hash_guard) (hash_eq _ _ (Att.dg_len a) (Att.dg_len b) _)) <| pkq (.bool (a.dg == b.dg)) <| eu_ <| so_ (.bool (a.dg == b.dg)) ?_
 exact ⟨rfl, K55⟩
end Go.Proofs.YthmclmbeflbhhaaGreat
namespace Go.Proofs.YthmclmbeflbhhaaGreat
set_option maxRecDepth 100000
set_option maxHeartbeats 4000000
open Go Go.RowKit Go.Own Go.Shelf
theorem qAt_is {r : Nat} {v i : Int} {A : RD Att} {B : RD Pro} {w : World} (H : RecAt w r v A B) {o : Option Att} (ho : A.V i = o) : Calls Tryz.prog 84 #[pT r 0, .int .i64 i] w fun e w' => e = .returned (.tuple #[.agg (Att.c (o.getD zAtt)), .bool o.isSome]) ∧ Keeps Nob w w' := ho ▸ qAt_ok r v A B i w H
theorem zAtt_r : zAtt.r.length = 32 := by kernel_rfl
noncomputable def qc97_0 (n : Nat) : Code := partOf Tryz.f83 n
theorem djudge1_no (gp ga gd d q sp r : Nat) (a : Att) (hr_a : a.r.length = 32) (p : Par) (hp : p.Ok) (h : Int) (P : Nat → Option Nat) (v : Int) (A : RD Att) (B : RD Pro) (w : World) (hgp : w.heap[gp]? = some (.cells #[pT q 0] 76 (0, 0))) (hq : w.heap[q]? = some (.cells #[pT sp 0, pT r 0] 85 (0, 0))) (hga : w.heap[ga]? = some (.cells (Att.c a) 28 (0, 0))) (hgd : w.heap[gd]? = some (.cells #[pT d 0] 22 (0, 0))) (hd : w.heap[d]? = some (.cells (detC p h P) 79 (0, 0))) (hR : RecAt w r v A B) (hV : A.V a.t = none) :
  Calls Tryz.prog 83 #[pT gp 0, pT ga 0, pT gd 0] w (fun e w' => e = .returned (.tuple #[.agg (vdC 0 attZ proZ 0), .bool false]) ∧ Keeps Nob w w') := by
 have K0 : Keeps Nob w w := Keeps.refl _ _
 refine sy_enter (qc97_0 1) ⟨fr [pT gp 0, pT ga 0, pT gd 0] 35, []⟩ Tryz.func83 (by kernel_rfl) (by kernel_rfl) <| qr_ [0, 1] <| pal 57 (zl0_) (.agg (zl0_)) fun V1 res eres h2 kV1 => ?_
 have n3 := nl eres hgp
 have n4 := nl eres hq
 have n5 := nl eres hga
 have n6 := nl eres hgd
 have n7 := nl eres hd
 have n8 := nk eres K0
 have ⟨K14, z15, h9, h10, h11, h12, h13⟩ := kV1.z5 K0 hgp hq hga hgd hd
 refine pkq (.bool false) <| eq_ <| sy_np <| sy_reg <| an_begin 1 13 (opsAt (qc97_0 6)) (fun W => (W.heap[gp]? = some (.cells (#[pT q 0]) 76 (0, 0))) ∧ (W.heap[q]? = some (.cells (#[pT sp 0, pT r 0]) 85 (0, 0))) ∧ (W.heap[ga]? = some (.cells (Att.c a) 28 (0, 0)))) zl7_ (by kernel_rfl) (by kernel_rfl) (by kernel_rfl) (by kernel_rfl) ?_
 obtain ⟨V16, eV16, kV16⟩ := drew_step V1
 rw [eV16]
 clear eV16
 have ⟨K23, z24, h17, h18, h19, h20, h21, h22⟩ := kV16.z6 K14 h9 h10 h11 h12 h13 h2
 refine avq 0 (pT q 0) (fun W hS => ldc 76 gp 0 (rc (hS.1) (by kernel_rfl))) ⟨h17, h18, h19⟩ <| akq 1 (pT q 0) ⟨h17, h18, h19⟩ <| akq 2 (pT q 1) ⟨h17, h18, h19⟩ <| avq 3 (pT r 0) (fun W hS => ldc 83 q 1 (rc (hS.2.1) (by kernel_rfl))) ⟨h17, h18, h19⟩ <| akq 4 (pT ga 2) ⟨h17, h18, h19⟩ <| avq 5 (.int .i64 a.t) (fun W hS => ldc 3 ga 2 (rc (hS.2.2) (Att.c_2 _))) ⟨h17, h18, h19⟩ ?_
 refine an_two 6 10 (by kernel_rfl) ?_ ?_
 ·refine ncq 84 #[pT r 0, .int .i64 a.t] Tryz.func84 ((qAt_is (hR.keepsN K23) hV).mono ?_)
  rintro e V25 ⟨rfl, kV25⟩
  refine ⟨_, rfl, ?_⟩
  have ⟨K32, z33, h26, h27, h28, h29, h30, h31⟩ := kV25.z6 K23 h17 h18 h19 h20 h21 h22
  refine ⟨⟨h26, h27, h28⟩, ?_⟩
  refine akq 7 (.tuple #[.agg (Att.c zAtt), .bool false]) ⟨h26, h27, h28⟩ <| akq 8 (.agg (Att.c zAtt)) ⟨h26, h27, h28⟩ <| akq 9 (.bool false) ⟨h26, h27, h28⟩ <| an_o 10 <| nal 28 (zl1_) (.agg (zl1_)) fun V34 gb egb h35 kV34 => ?_
  have n36 := nl egb h26
  have n37 := nl egb h27
  have n38 := nl egb h28
  have n39 := nl egb h29
  have n40 := nl egb h30
  have n41 := nl egb h31
  have n42 := nk egb K32
  have ⟨K49, z50, h43, h44, h45, h48⟩ := kV34.z4 K32 h26 h27 h28 h31
  refine ⟨⟨h43, h44, h45⟩, ?_⟩
  refine an_o 11 ?_
  obtain ⟨V51, eV51, kV51⟩ := rowset_step V34 gb ((Att.c zAtt))
  refine nzq (w' := V51) (by rw [← eV51]; exact exec_store_row 28 (.tmp 5) (.tmp 15) (by kernel_rfl) gb ((Att.c zAtt)) (by kernel_rfl) (by kernel_rfl) 28 (zl1_) h35 (by rw [Att.c_size _ zAtt_r]; kernel_rfl) (by rw [Att.c_size _ zAtt_r]; rfl) (Att.c_one _)) ?_
  clear eV51
  have ⟨K59, z60, h53, h54, h55, h58⟩ := kV51.zo4 K49 h43 h44 h45 h48
  refine ⟨⟨h53, h54, h55⟩, ?_⟩
  refine an_o 12 <| nrq (.bool false) (w' := V51) (by kernel_rfl) ?_
  refine ⟨⟨h53, h54, h55⟩, ?_⟩
  refine an_end (by kernel_rfl) <| tq_ <| bl_ 0 <| qr_ [0, 1, 2] <| pkq (.bool false) <| pkq (.bool true) <| pkq (.bool true) <| ey_ <| qr_ [0, 1, 2] <| pkq (.agg zl0_) <| pst 57 res (zl0_) h58 (by kernel_rfl) rfl (by kernel_rfl) fun V61 h62 kV61 => ?_
  have K69 := K59.nO kV61
  have z70 := kV61.size
  refine pkq (.bool false) <| eu_ <| blk_r <| then_r <| sy_out (.tuple #[.agg (zl0_), .bool false]) rfl (results_row_tmp (p := 3) (q := 4) (ty := 57) (by kernel_rfl) _ _ res 57 (zl0_) (0, 0) _ (.bool false) (by kernel_rfl) h62 Tryz.underlying57 rfl (by kernel_rfl) (by kernel_rfl)) ?_
  exact ⟨by kernel_rfl, K69⟩
 ·refine nal 28 (zl1_) (.agg (zl1_)) fun V71 gb egb h72 kV71 => ?_
  have n73 := nl egb h17
  have n74 := nl egb h18
  have n75 := nl egb h19
  have n76 := nl egb h20
  have n77 := nl egb h21
  have n78 := nl egb h22
  have n79 := nk egb K23
  have ⟨K86, z87, h80, h81, h82, h85⟩ := kV71.z4 K23 h17 h18 h19 h22
  refine ⟨⟨h80, h81, h82⟩, ?_⟩
  refine an_o 6 ?_
  refine ncq 84 #[pT r 0, .int .i64 a.t] Tryz.func84 ((qAt_is (hR.keepsN K86) hV).mono ?_)
  rintro e V88 ⟨rfl, kV88⟩
  refine ⟨_, rfl, ?_⟩
  have ⟨K96, z97, h89, h90, h91, h94, h95⟩ := kV88.z5 K86 h80 h81 h82 h85 h72
  refine ⟨⟨h89, h90, h91⟩, ?_⟩
  refine akq 7 (.tuple #[.agg (Att.c zAtt), .bool false]) ⟨h89, h90, h91⟩ <| akq 8 (.agg (Att.c zAtt)) ⟨h89, h90, h91⟩ <| akq 9 (.bool false) ⟨h89, h90, h91⟩ <| an_o 11 ?_
  obtain ⟨V98, eV98, kV98⟩ := rowset_step V88 gb ((Att.c zAtt))
  refine nzq (w' := V98) (by rw [← eV98]; exact exec_store_row 28 (.tmp 5) (.tmp 15) (by kernel_rfl) gb ((Att.c zAtt)) (by kernel_rfl) (by kernel_rfl) 28 (zl1_) h95 (by rw [Att.c_size _ zAtt_r]; kernel_rfl) (by rw [Att.c_size _ zAtt_r]; rfl) (Att.c_one _)) ?_
  clear eV98
  have ⟨K106, z107, h100, h101, h102, h105⟩ := kV98.zo4 K96 h89 h90 h91 h94
  refine ⟨⟨h100, h101, h102⟩, ?_⟩
  refine an_o 12 <| nrq (.bool false) (w' := V98) (by kernel_rfl) ?_
  refine ⟨⟨h100, h101, h102⟩, ?_⟩
  refine an_end (by kernel_rfl) <| tq_ <| bl_ 0 <| qr_ [0, 1, 2] <| pkq (.bool false) <| pkq (.bool true) <| pkq (.bool true) <| ey_ <| qr_ [0, 1, 2] <| pkq (.agg zl0_) <| pst 57 res (zl0_) h105 (by kernel_rfl) rfl (by kernel_rfl) fun V108 h109 kV108 => ?_
  have K116 := K106.nO kV108
  have z117 := kV108.size
  refine pkq (.bool false) <| eu_ <| blk_r <| then_r <| sy_out (.tuple #[.agg (zl0_), .bool false]) rfl (results_row_tmp (p := 3) (q := 4) (ty := 57) (by kernel_rfl) _ _ res 57 (zl0_) (0, 0) _ (.bool false) (by kernel_rfl) h109 Tryz.underlying57 rfl (by kernel_rfl) (by kernel_rfl)) ?_
  exact ⟨by kernel_rfl, K116⟩
theorem dsame_is (a b : Att) {r : Bool} (w : World) (ha : a.Ok) (hb : b.Ok) (h : (a.dg == b.dg) = r) : Calls Tryz.prog 85 #[.agg (Att.c a), .agg (Att.c b)] w fun e w' => e = .returned (.bool r) ∧ Keeps Nob w w' := by
 subst h; exact dsame_ok a b w ha hb
theorem vdC_one {k f : Int} (b : Att) : (vdC k b.cl proZ f).all (·.oneCell') = true := by
 have h := Att.c_one b
 unfold vdC
 rw [List.all_toArray, List.all_cons, List.all_append, List.all_append]
 have h2 : b.cl.all (·.oneCell') = true := by rw [← Array.all_toList] at h; exact h
 rw [h2]; rfl
theorem djudge1_same (gp ga gd d q sp r : Nat) (a : Att) (hr_a : a.r.length = 32) (p : Par) (hp : p.Ok) (h : Int) (P : Nat → Option Nat) (v : Int) (A : RD Att) (B : RD Pro) (w : World) (hgp : w.heap[gp]? = some (.cells #[pT q 0] 76 (0, 0))) (hq : w.heap[q]? = some (.cells #[pT sp 0, pT r 0] 85 (0, 0))) (hga : w.heap[ga]? = some (.cells (Att.c a) 28 (0, 0))) (hgd : w.heap[gd]? = some (.cells #[pT d 0] 22 (0, 0))) (hd : w.heap[d]? = some (.cells (detC p h P) 79 (0, 0))) (hR : RecAt w r v A B) (b : Att) (hV : A.V a.t = some b) (ha : a.Ok) (hb : b.Ok) (hr_b : b.r.length = 32) (hs : (a.dg == b.dg) = true) :
  Calls Tryz.prog 83 #[pT gp 0, pT ga 0, pT gd 0] w (fun e w' => e = .returned (.tuple #[.agg (vdC 1 b.cl proZ 0), .bool true]) ∧ Keeps Nob w w') := by
 have K0 : Keeps Nob w w := Keeps.refl _ _
 refine sy_enter (qc97_0 1) ⟨fr [pT gp 0, pT ga 0, pT gd 0] 35, []⟩ Tryz.func83 (by kernel_rfl) (by kernel_rfl) <| qr_ [0, 1] <| pal 57 (zl0_) (.agg (zl0_)) fun V1 res eres h2 kV1 => ?_
 have n3 := nl eres hgp
 have n4 := nl eres hq
 have n5 := nl eres hga
 have n6 := nl eres hgd
 have n7 := nl eres hd
 have n8 := nk eres K0
 have ⟨K14, z15, h9, h10, h11, h12, h13⟩ := kV1.z5 K0 hgp hq hga hgd hd
 refine pkq (.bool false) <| eq_ <| sy_np <| sy_reg <| an_begin 1 13 (opsAt (qc97_0 6)) (fun W => (W.heap[gp]? = some (.cells (#[pT q 0]) 76 (0, 0))) ∧ (W.heap[q]? = some (.cells (#[pT sp 0, pT r 0]) 85 (0, 0))) ∧ (W.heap[ga]? = some (.cells (Att.c a) 28 (0, 0)))) zl7_ (by kernel_rfl) (by kernel_rfl) (by kernel_rfl) (by kernel_rfl) ?_
 obtain ⟨V16, eV16, kV16⟩ := drew_step V1
 rw [eV16]
 clear eV16
 have ⟨K23, z24, h17, h18, h19, h20, h21, h22⟩ := kV16.z6 K14 h9 h10 h11 h12 h13 h2
 refine avq 0 (pT q 0) (fun W hS => ldc 76 gp 0 (rc (hS.1) (by kernel_rfl))) ⟨h17, h18, h19⟩ <| akq 1 (pT q 0) ⟨h17, h18, h19⟩ <| akq 2 (pT q 1) ⟨h17, h18, h19⟩ <| avq 3 (pT r 0) (fun W hS => ldc 83 q 1 (rc (hS.2.1) (by kernel_rfl))) ⟨h17, h18, h19⟩ <| akq 4 (pT ga 2) ⟨h17, h18, h19⟩ <| avq 5 (.int .i64 a.t) (fun W hS => ldc 3 ga 2 (rc (hS.2.2) (Att.c_2 _))) ⟨h17, h18, h19⟩ ?_
 refine an_two 6 10 (by kernel_rfl) ?_ ?_
 ·refine ncq 84 #[pT r 0, .int .i64 a.t] Tryz.func84 ((qAt_is (hR.keepsN K23) hV).mono ?_)
  rintro e V25 ⟨rfl, kV25⟩
  refine ⟨_, rfl, ?_⟩
  have ⟨K32, z33, h26, h27, h28, h29, h30, h31⟩ := kV25.z6 K23 h17 h18 h19 h20 h21 h22
  refine ⟨⟨h26, h27, h28⟩, ?_⟩
  refine akq 7 (.tuple #[.agg (Att.c b), .bool true]) ⟨h26, h27, h28⟩ <| akq 8 (.agg (Att.c b)) ⟨h26, h27, h28⟩ <| akq 9 (.bool true) ⟨h26, h27, h28⟩ <| an_o 10 <| nal 28 (zl1_) (.agg (zl1_)) fun V34 gb egb h35 kV34 => ?_
  have n36 := nl egb h26
  have n37 := nl egb h27
  have n38 := nl egb h28
  have n39 := nl egb h29
  have n40 := nl egb h30
  have n41 := nl egb h31
  have n42 := nk egb K32
  have ⟨K49, z50, h43, h44, h45, h46, h47, h48⟩ := kV34.z6 K32 h26 h27 h28 h29 h30 h31
  refine ⟨⟨h43, h44, h45⟩, ?_⟩
  refine an_o 11 <| nst 28 gb ((Att.c b)) h35 (by rw [Att.c_size _ hr_b]; kernel_rfl) (by rw [Att.c_size _ hr_b]; rfl) (Att.c_one _) fun V51 h52 kV51 => ?_
  have ⟨K59, z60, h53, h54, h55, h56, h57, h58⟩ := kV51.zo6 K49 h43 h44 h45 h46 h47 h48
  refine ⟨⟨h53, h54, h55⟩, ?_⟩
  refine an_o 12 <| nrq (.bool true) (w' := V51) (by kernel_rfl) ?_
  refine ⟨⟨h53, h54, h55⟩, ?_⟩
  refine an_end (by kernel_rfl) <| tq_ <| bl_ 0 <| qr_ [0, 1, 2] <| pkq (.bool true) <| pkq (.bool false) <| pkq (.bool false) <| en_ <| qr_ [0, 1, 2, 3] <| ppq (.agg (Att.c a)) (ldr 28 ga (h55) (by rw [Att.c_size _ hr_a]; kernel_rfl)) <| ppq (.agg (Att.c b)) (ldr 28 gb (h52) (by rw [Att.c_size _ hr_b]; kernel_rfl)) ?_
  refine pcq 85 #[.agg (Att.c a), .agg (Att.c b)] Tryz.func85 ((dsame_is a b _ ha hb hs).mono ?_)
  rintro e V61 ⟨rfl, kV61⟩
  refine ⟨_, rfl, ?_⟩
  have ⟨K69, z70, h62, h63, h64, h65, h66, h67, h68⟩ := kV61.z7 K59 h53 h54 h55 h56 h57 h58 h52
  refine pkq (.bool true) <| ey_ <| qr_ [0, 1, 2, 3, 4, 5] <| ppq (.agg (Att.c b)) (ldr 28 gb (h68) (by rw [Att.c_size _ hr_b]; kernel_rfl)) ?_
  refine pcq 86 #[.agg (Att.c b)] Tryz.func86 ((dby_ok b _).mono ?_)
  rintro e V71 ⟨gy, rfl, hgyV71, nyV71, kV71⟩
  refine ⟨_, rfl, ?_⟩
  have ⟨K79, z80, h72, h73, h74, h75, h76, h77, h78⟩ := kV71.z7 K69 h62 h63 h64 h65 h66 h67 h68
  obtain ⟨V81, eV81, go1, ego1, h82, kV81⟩ := alloc_step V71 (#[.func (.func 120) #[] #[pT gy 0]]) 144
  have n83 := nl ego1 h72
  have n84 := nl ego1 h73
  have n85 := nl ego1 h74
  have n86 := nl ego1 h75
  have n87 := nl ego1 h76
  have n88 := nl ego1 h77
  have n89 := nl ego1 h78
  have n90 := nl ego1 hgyV71
  have n91 := nk ego1 K79
  refine prq (.slice (some ⟨go1, 0, none⟩) 1 1) (w' := V81) (by rw [← eV81, ← ego1]; kernel_rfl) ?_
  have ⟨K100, z101, h97, h99⟩ := kV81.z2 K79 h77 hgyV71
  refine pcq 56 #[.int .i64 1, .slice (some ⟨go1, 0, none⟩) 1 1] Tryz.func56 ((dverdict_one 1 120 (pT gy 0) b.cl proZ 0 (Att.tl hr_b) proZ_len (vdC_one b) go1 _ h82 (enters_of Tryz.func120 (by kernel_rfl) rfl) (fun bv W hbv k hb => dby1_ok bv gy 1 0 attZ proZ attZ_len proZ_len b hr_b (by have := lt_of_block h99; omega) W (k.bk h99) hb)).mono ?_)
  rintro e V102 ⟨rfl, kV102⟩
  refine ⟨_, rfl, ?_⟩
  have ⟨K112, z113, h108⟩ := kV102.z1 K100 h97
  refine pst 57 res ((vdC 1 b.cl proZ 0)) h108 (by rw [vdC_size (Att.tl hr_b) proZ_len]; kernel_rfl) (by rw [vdC_size (Att.tl hr_b) proZ_len]; rfl) (vdC_one b) fun V114 h115 kV114 => ?_
  have K124 := K112.nO kV114
  have z125 := kV114.size
  refine pkq (.bool true) <| ps_end <| sy_a ⟨fr [pT gp 0, pT ga 0, pT gd 0, pT res 0, .bool true, pT gb 0, .bool true, .tuple #[.agg (Att.c b), .bool true], pT q 0, pT q 0, pT q 1, pT r 0, pT ga 2, .int .i64 a.t, .tuple #[.agg (Att.c b), .bool true], .agg (Att.c b), .bool true, .bool false, .bool true, .bool false, ud, .bool true, .agg (Att.c a), .agg (Att.c b), .bool true, .agg (Att.c b), .func (.func 120) #[] #[pT gy 0], .slice (some ⟨go1, 0, none⟩) 1 1, .agg (vdC 1 b.cl proZ 0)] 9, []⟩ <| then_n <| u_ <| blk_r <| then_r <| sy_out (.tuple #[.agg (vdC 1 b.cl proZ 0), .bool true]) rfl (results_row_tmp (p := 3) (q := 4) (ty := 57) (by kernel_rfl) _ _ res 57 (vdC 1 b.cl proZ 0) (0, 0) _ (.bool true) (by kernel_rfl) h115 Tryz.underlying57 rfl (by rw [vdC_size (Att.tl hr_b) proZ_len]; kernel_rfl) (by kernel_rfl)) ?_
  exact ⟨rfl, K124⟩
 ·refine nal 28 (zl1_) (.agg (zl1_)) fun V126 gb egb h127 kV126 => ?_
  have n128 := nl egb h17
  have n129 := nl egb h18
  have n130 := nl egb h19
  have n131 := nl egb h20
  have n132 := nl egb h21
  have n133 := nl egb h22
  have n134 := nk egb K23
  have ⟨K141, z142, h135, h136, h137, h138, h139, h140⟩ := kV126.z6 K23 h17 h18 h19 h20 h21 h22
  refine ⟨⟨h135, h136, h137⟩, ?_⟩
  refine an_o 6 ?_
  refine ncq 84 #[pT r 0, .int .i64 a.t] Tryz.func84 ((qAt_is (hR.keepsN K141) hV).mono ?_)
  rintro e V143 ⟨rfl, kV143⟩
  refine ⟨_, rfl, ?_⟩
  have ⟨K151, z152, h144, h145, h146, h147, h148, h149, h150⟩ := kV143.z7 K141 h135 h136 h137 h138 h139 h140 h127
  refine ⟨⟨h144, h145, h146⟩, ?_⟩
  refine akq 7 (.tuple #[.agg (Att.c b), .bool true]) ⟨h144, h145, h146⟩ <| akq 8 (.agg (Att.c b)) ⟨h144, h145, h146⟩ <| akq 9 (.bool true) ⟨h144, h145, h146⟩ <| an_o 11 <| nst 28 gb ((Att.c b)) h150 (by rw [Att.c_size _ hr_b]; kernel_rfl) (by rw [Att.c_size _ hr_b]; rfl) (Att.c_one _) fun V153 h154 kV153 => ?_
  have ⟨K161, z162, h155, h156, h157, h158, h159, h160⟩ := kV153.zo6 K151 h144 h145 h146 h147 h148 h149
  refine ⟨⟨h155, h156, h157⟩, ?_⟩
  refine an_o 12 <| nrq (.bool true) (w' := V153) (by kernel_rfl) ?_
  refine ⟨⟨h155, h156, h157⟩, ?_⟩
  refine an_end (by kernel_rfl) <| tq_ <| bl_ 0 <| qr_ [0, 1, 2] <| pkq (.bool true) <| pkq (.bool false) <| pkq (.bool false) <| en_ <| qr_ [0, 1, 2, 3] <| ppq (.agg (Att.c a)) (ldr 28 ga (h157) (by rw [Att.c_size _ hr_a]; kernel_rfl)) <| ppq (.agg (Att.c b)) (ldr 28 gb (h154) (by rw [Att.c_size _ hr_b]; kernel_rfl)) ?_
  refine pcq 85 #[.agg (Att.c a), .agg (Att.c b)] Tryz.func85 ((dsame_is a b _ ha hb hs).mono ?_)
  rintro e V163 ⟨rfl, kV163⟩
  refine ⟨_, rfl, ?_⟩
  have ⟨K171, z172, h164, h165, h166, h167, h168, h169, h170⟩ := kV163.z7 K161 h155 h156 h157 h158 h159 h160 h154
  refine pkq (.bool true) <| ey_ <| qr_ [0, 1, 2, 3, 4, 5] <| ppq (.agg (Att.c b)) (ldr 28 gb (h170) (by rw [Att.c_size _ hr_b]; kernel_rfl)) ?_
  refine pcq 86 #[.agg (Att.c b)] Tryz.func86 ((dby_ok b _).mono ?_)
  rintro e V173 ⟨gy, rfl, hgyV173, nyV173, kV173⟩
  refine ⟨_, rfl, ?_⟩
  have ⟨K181, z182, h174, h175, h176, h177, h178, h179, h180⟩ := kV173.z7 K171 h164 h165 h166 h167 h168 h169 h170
  obtain ⟨V183, eV183, go1, ego1, h184, kV183⟩ := alloc_step V173 (#[.func (.func 120) #[] #[pT gy 0]]) 144
  have n185 := nl ego1 h174
  have n186 := nl ego1 h175
  have n187 := nl ego1 h176
  have n188 := nl ego1 h177
  have n189 := nl ego1 h178
  have n190 := nl ego1 h179
  have n191 := nl ego1 h180
  have n192 := nl ego1 hgyV173
  have n193 := nk ego1 K181
  refine prq (.slice (some ⟨go1, 0, none⟩) 1 1) (w' := V183) (by rw [← eV183, ← ego1]; kernel_rfl) ?_
  have ⟨K202, z203, h199, h201⟩ := kV183.z2 K181 h179 hgyV173
  refine pcq 56 #[.int .i64 1, .slice (some ⟨go1, 0, none⟩) 1 1] Tryz.func56 ((dverdict_one 1 120 (pT gy 0) b.cl proZ 0 (Att.tl hr_b) proZ_len (vdC_one b) go1 _ h184 (enters_of Tryz.func120 (by kernel_rfl) rfl) (fun bv W hbv k hb => dby1_ok bv gy 1 0 attZ proZ attZ_len proZ_len b hr_b (by have := lt_of_block h201; omega) W (k.bk h201) hb)).mono ?_)
  rintro e V204 ⟨rfl, kV204⟩
  refine ⟨_, rfl, ?_⟩
  have ⟨K214, z215, h210⟩ := kV204.z1 K202 h199
  refine pst 57 res ((vdC 1 b.cl proZ 0)) h210 (by rw [vdC_size (Att.tl hr_b) proZ_len]; kernel_rfl) (by rw [vdC_size (Att.tl hr_b) proZ_len]; rfl) (vdC_one b) fun V216 h217 kV216 => ?_
  have K226 := K214.nO kV216
  have z227 := kV216.size
  refine pkq (.bool true) <| ps_end <| sy_a ⟨fr [pT gp 0, pT ga 0, pT gd 0, pT res 0, .bool true, pT gb 0, .bool true, .tuple #[.agg (Att.c b), .bool true], pT q 0, pT q 0, pT q 1, pT r 0, pT ga 2, .int .i64 a.t, .tuple #[.agg (Att.c b), .bool true], .agg (Att.c b), .bool true, .bool false, .bool true, .bool false, ud, .bool true, .agg (Att.c a), .agg (Att.c b), .bool true, .agg (Att.c b), .func (.func 120) #[] #[pT gy 0], .slice (some ⟨go1, 0, none⟩) 1 1, .agg (vdC 1 b.cl proZ 0)] 9, []⟩ <| then_n <| u_ <| blk_r <| then_r <| sy_out (.tuple #[.agg (vdC 1 b.cl proZ 0), .bool true]) rfl (results_row_tmp (p := 3) (q := 4) (ty := 57) (by kernel_rfl) _ _ res 57 (vdC 1 b.cl proZ 0) (0, 0) _ (.bool true) (by kernel_rfl) h217 Tryz.underlying57 rfl (by rw [vdC_size (Att.tl hr_b) proZ_len]; kernel_rfl) (by kernel_rfl)) ?_
  exact ⟨rfl, K226⟩
theorem djudge1_other (gp ga gd d q sp r : Nat) (a : Att) (hr_a : a.r.length = 32) (p : Par) (hp : p.Ok) (h : Int) (P : Nat → Option Nat) (v : Int) (A : RD Att) (B : RD Pro) (w : World) (hgp : w.heap[gp]? = some (.cells #[pT q 0] 76 (0, 0))) (hq : w.heap[q]? = some (.cells #[pT sp 0, pT r 0] 85 (0, 0))) (hga : w.heap[ga]? = some (.cells (Att.c a) 28 (0, 0))) (hgd : w.heap[gd]? = some (.cells #[pT d 0] 22 (0, 0))) (hd : w.heap[d]? = some (.cells (detC p h P) 79 (0, 0))) (hR : RecAt w r v A B) (b : Att) (hV : A.V a.t = some b) (ha : a.Ok) (hb : b.Ok) (hr_b : b.r.length = 32) (hs : (a.dg == b.dg) = false) (hmx : i64ok (max 0 a.t)) :
  Calls Tryz.prog 83 #[pT gp 0, pT ga 0, pT gd 0] w (fun e w' => e = .returned (.tuple #[.agg (vdC 2 b.cl proZ (p.first (max 0 a.t)).1), .bool true]) ∧ Keeps Nob w w') := by
 have K0 : Keeps Nob w w := Keeps.refl _ _
 refine sy_enter (qc97_0 1) ⟨fr [pT gp 0, pT ga 0, pT gd 0] 35, []⟩ Tryz.func83 (by kernel_rfl) (by kernel_rfl) <| qr_ [0, 1] <| pal 57 (zl0_) (.agg (zl0_)) fun V1 res eres h2 kV1 => ?_
 have n3 := nl eres hgp
 have n4 := nl eres hq
 have n5 := nl eres hga
 have n6 := nl eres hgd
 have n7 := nl eres hd
 have n8 := nk eres K0
 have ⟨K14, z15, h9, h10, h11, h12, h13⟩ := kV1.z5 K0 hgp hq hga hgd hd
 refine pkq (.bool false) <| eq_ <| sy_np <| sy_reg <| an_begin 1 13 (opsAt (qc97_0 6)) (fun W => (W.heap[gp]? = some (.cells (#[pT q 0]) 76 (0, 0))) ∧ (W.heap[q]? = some (.cells (#[pT sp 0, pT r 0]) 85 (0, 0))) ∧ (W.heap[ga]? = some (.cells (Att.c a) 28 (0, 0)))) zl7_ (by kernel_rfl) (by kernel_rfl) (by kernel_rfl) (by kernel_rfl) ?_
 obtain ⟨V16, eV16, kV16⟩ := drew_step V1
 rw [eV16]
 clear eV16
 have ⟨K23, z24, h17, h18, h19, h20, h21, h22⟩ := kV16.z6 K14 h9 h10 h11 h12 h13 h2
 refine avq 0 (pT q 0) (fun W hS => ldc 76 gp 0 (rc (hS.1) (by kernel_rfl))) ⟨h17, h18, h19⟩ <| akq 1 (pT q 0) ⟨h17, h18, h19⟩ <| akq 2 (pT q 1) ⟨h17, h18, h19⟩ <| avq 3 (pT r 0) (fun W hS => ldc 83 q 1 (rc (hS.2.1) (by kernel_rfl))) ⟨h17, h18, h19⟩ <| akq 4 (pT ga 2) ⟨h17, h18, h19⟩ <| avq 5 (.int .i64 a.t) (fun W hS => ldc 3 ga 2 (rc (hS.2.2) (Att.c_2 _))) ⟨h17, h18, h19⟩ ?_
 refine an_two 6 10 (by kernel_rfl) ?_ ?_
 ·refine ncq 84 #[pT r 0, .int .i64 a.t] Tryz.func84 ((qAt_is (hR.keepsN K23) hV).mono ?_)
  rintro e V25 ⟨rfl, kV25⟩
  refine ⟨_, rfl, ?_⟩
  have ⟨K32, z33, h26, h27, h28, h29, h30, h31⟩ := kV25.z6 K23 h17 h18 h19 h20 h21 h22
  refine ⟨⟨h26, h27, h28⟩, ?_⟩
  refine akq 7 (.tuple #[.agg (Att.c b), .bool true]) ⟨h26, h27, h28⟩ <| akq 8 (.agg (Att.c b)) ⟨h26, h27, h28⟩ <| akq 9 (.bool true) ⟨h26, h27, h28⟩ <| an_o 10 <| nal 28 (zl1_) (.agg (zl1_)) fun V34 gb egb h35 kV34 => ?_
  have n36 := nl egb h26
  have n37 := nl egb h27
  have n38 := nl egb h28
  have n39 := nl egb h29
  have n40 := nl egb h30
  have n41 := nl egb h31
  have n42 := nk egb K32
  have ⟨K49, z50, h43, h44, h45, h46, h47, h48⟩ := kV34.z6 K32 h26 h27 h28 h29 h30 h31
  refine ⟨⟨h43, h44, h45⟩, ?_⟩
  refine an_o 11 <| nst 28 gb ((Att.c b)) h35 (by rw [Att.c_size _ hr_b]; kernel_rfl) (by rw [Att.c_size _ hr_b]; rfl) (Att.c_one _) fun V51 h52 kV51 => ?_
  have ⟨K59, z60, h53, h54, h55, h56, h57, h58⟩ := kV51.zo6 K49 h43 h44 h45 h46 h47 h48
  refine ⟨⟨h53, h54, h55⟩, ?_⟩
  refine an_o 12 <| nrq (.bool true) (w' := V51) (by kernel_rfl) ?_
  refine ⟨⟨h53, h54, h55⟩, ?_⟩
  refine an_end (by kernel_rfl) <| tq_ <| bl_ 0 <| qr_ [0, 1, 2] <| pkq (.bool true) <| pkq (.bool false) <| pkq (.bool false) <| en_ <| qr_ [0, 1, 2, 3] <| ppq (.agg (Att.c a)) (ldr 28 ga (h55) (by rw [Att.c_size _ hr_a]; kernel_rfl)) <| ppq (.agg (Att.c b)) (ldr 28 gb (h52) (by rw [Att.c_size _ hr_b]; kernel_rfl)) ?_
  refine pcq 85 #[.agg (Att.c a), .agg (Att.c b)] Tryz.func85 ((dsame_is a b _ ha hb hs).mono ?_)
  rintro e V61 ⟨rfl, kV61⟩
  refine ⟨_, rfl, ?_⟩
  have ⟨K69, z70, h62, h63, h64, h65, h66, h67, h68⟩ := kV61.z7 K59 h53 h54 h55 h56 h57 h58 h52
  refine pkq (.bool false) <| en_ <| s_ <| blk_n <| tq_ <| sy_np <| sy_reg <| an_begin 6 11 (opsAt (qc97_0 30)) (fun W => (W.heap[gb]? = some (.cells (Att.c b) 28 (0, 0))) ∧ (W.heap[gd]? = some (.cells (#[pT d 0]) 22 (0, 0))) ∧ (W.heap[ga]? = some (.cells (Att.c a) 28 (0, 0)))) zl14_ (by kernel_rfl) (by kernel_rfl) (by kernel_rfl) (by kernel_rfl) ?_
  obtain ⟨V71, eV71, kV71⟩ := drew_step V61
  rw [eV71]
  clear eV71
  have ⟨K79, z80, h72, h73, h74, h75, h76, h77, h78⟩ := kV71.z7 K69 h62 h63 h64 h65 h66 h67 h68
  refine avq 0 (.agg (Att.c b)) (fun W hS => ldr 28 gb (hS.1) (by rw [Att.c_size _ hr_b]; kernel_rfl)) ⟨h78, h75, h74⟩ <| avq 2 (pT d 0) (fun W hS => ldc 22 gd 0 (rc (hS.2.1) (by kernel_rfl))) ⟨h78, h75, h74⟩ <| akq 3 (pT ga 2) ⟨h78, h75, h74⟩ <| avq 4 (.int .i64 a.t) (fun W hS => ldc 3 ga 2 (rc (hS.2.2) (Att.c_2 _))) ⟨h78, h75, h74⟩ ?_
  refine an_two 1 5 (by kernel_rfl) ?_ ?_
  ·refine ncq 86 #[.agg (Att.c b)] Tryz.func86 ((dby_ok b _).mono ?_)
   rintro e V81 ⟨gy, rfl, hgyV81, nyV81, kV81⟩
   refine ⟨_, rfl, ?_⟩
   have ⟨K89, z90, h82, h83, h84, h85, h86, h87, h88⟩ := kV81.z7 K79 h72 h73 h74 h75 h76 h77 h78
   refine ⟨⟨h88, h85, h84⟩, ?_⟩
   refine an_o 5 ?_
   obtain ⟨V91, eV91, gl, egl, h92, kV91⟩ := alloc_step V81 (#[.int .i64 a.t]) 3
   have n93 := nl egl h82
   have n94 := nl egl h83
   have n95 := nl egl h84
   have n96 := nl egl h85
   have n97 := nl egl h86
   have n98 := nl egl h87
   have n99 := nl egl h88
   have n100 := nl egl hgyV81
   have n101 := nk egl K89
   refine nrq (.slice (some ⟨gl, 0, none⟩) 1 1) (w' := V91) (by rw [← eV91, ← egl]; kernel_rfl) ?_
   have ⟨K110, z111, h102, h103, h104, h105, h106, h107, h108, h109⟩ := kV91.z8 K89 h82 h83 h84 h85 h86 h87 h88 hgyV81
   refine ⟨⟨h108, h105, h104⟩, ?_⟩
   refine an_o 6 ?_
   refine ncq 87 #[pT d 0, .slice (some ⟨gl, 0, none⟩) 1 1] Tryz.func87 ((dat_ok d gl 1 _).mono ?_)
   rintro e V112 ⟨gs, ge, rfl, hgsV112, hgeV112, nsV112, neV112, kV112⟩
   refine ⟨_, rfl, ?_⟩
   have ⟨K122, z123, h113, h114, h115, h116, h117, h118, h119, h120⟩ := kV112.z8 K110 h102 h103 h104 h105 h106 h107 h108 h109
   have h121 := kV112.bk h92
   refine ⟨⟨h119, h116, h115⟩, ?_⟩
   refine an_o 7 ?_
   obtain ⟨V124, eV124, go1, ego1, h125, kV124⟩ := alloc_step V112 (#[.func (.func 120) #[] #[pT gy 0], .func (.func 121) #[] #[pT gs 0, pT ge 0]]) 144
   have n126 := nl ego1 h113
   have n127 := nl ego1 h114
   have n128 := nl ego1 h115
   have n129 := nl ego1 h116
   have n130 := nl ego1 h117
   have n131 := nl ego1 h118
   have n132 := nl ego1 h119
   have n133 := nl ego1 h120
   have n134 := nl ego1 h121
   have n135 := nl ego1 hgsV112
   have n136 := nl ego1 hgeV112
   have n137 := nk ego1 K122
   refine nrq (.slice (some ⟨go1, 0, none⟩) 2 2) (w' := V124) (by rw [← eV124, ← ego1]; kernel_rfl) ?_
   have ⟨K149, z150, h140, h141, h142, h143, h144, h145, h146, h147⟩ := kV124.z8 K122 h115 h116 h117 h118 h119 h120 h121 hgsV112
   have h148 := kV124.bk hgeV112
   refine ⟨⟨h144, h141, h140⟩, ?_⟩
   refine an_o 8 ?_
   refine ncq 56 #[.int .i64 2, .slice (some ⟨go1, 0, none⟩) 2 2] Tryz.func56 ((dverdict_two 2 120 (pT gy 0) b.cl proZ 0 (Att.tl hr_b) proZ_len 121 (pT gs 0) (pT ge 0) b.cl proZ (p.first (max 0 a.t)).1 (Att.tl hr_b) proZ_len (vdC_one b) go1 _ h125 (enters_of Tryz.func120 (by kernel_rfl) rfl) (fun bv W hbv k hb => dby1_ok bv gy 2 0 attZ proZ attZ_len proZ_len b hr_b (by have := lt_of_block h145; omega) W (k.bk h145) hb) (enters_of Tryz.func121 (by kernel_rfl) rfl) (fun bv W hbv k hb => dat1_1 bv gs ge gl d a.t 2 0 b.cl proZ (Att.tl hr_b) proZ_len p hp h P W hmx hb (k.bk h147) (k.bk h148) (k.bk h146) (k.bk h142))).mono ?_)
   rintro e V151 ⟨rfl, kV151⟩
   refine ⟨_, rfl, ?_⟩
   have ⟨K164, z165, h154, h155, h157, h158⟩ := kV151.z4 K149 h140 h141 h143 h144
   refine ⟨⟨h158, h155, h154⟩, ?_⟩
   refine an_o 9 <| nst 57 res ((vdC 2 b.cl proZ (p.first (max 0 a.t)).1)) h157 (by rw [vdC_size (Att.tl hr_b) proZ_len]; kernel_rfl) (by rw [vdC_size (Att.tl hr_b) proZ_len]; rfl) (vdC_one b) fun V166 h167 kV166 => ?_
   have ⟨K179, z180, h170, h171, h173⟩ := kV166.zo3 K164 h154 h155 h158
   refine ⟨⟨h173, h171, h170⟩, ?_⟩
   refine an_o 10 <| nrq (.bool true) (w' := V166) (by kernel_rfl) ?_
   refine ⟨⟨h173, h171, h170⟩, ?_⟩
   refine an_end (by kernel_rfl) <| sy_a ⟨#[pT gp 0, pT ga 0, pT gd 0, pT res 0, .bool true, pT gb 0, .bool true, .tuple #[.agg (Att.c b), .bool true], pT q 0, pT q 0, pT q 1, pT r 0, pT ga 2, .int .i64 a.t, .tuple #[.agg (Att.c b), .bool true], .agg (Att.c b), .bool true, .bool false, .bool true, .bool false, ud, .bool false, .agg (Att.c a), .agg (Att.c b), .bool false, ud, ud, ud, ud, .agg (Att.c b), .func (.func 120) #[] #[pT gy 0], pT d 0, pT ga 2, .int .i64 a.t, .slice (some ⟨gl, 0, none⟩) 1 1, .func (.func 121) #[] #[pT gs 0, pT ge 0], .slice (some ⟨go1, 0, none⟩) 2 2, .agg (vdC 2 b.cl proZ (p.first (max 0 a.t)).1)], []⟩ <| then_n <| u_ <| sy_out (.tuple #[.agg (vdC 2 b.cl proZ ((p.first (max 0 a.t)).1)), .bool true]) rfl (results_row_tmp (p := 3) (q := 4) (ty := 57) (by kernel_rfl) _ _ res 57 (vdC 2 b.cl proZ ((p.first (max 0 a.t)).1)) (0, 0) _ (.bool true) (by kernel_rfl) h167 Tryz.underlying57 rfl (by rw [vdC_size (Att.tl hr_b) proZ_len]; kernel_rfl) (by kernel_rfl)) ?_
   exact ⟨rfl, K179⟩
  ·obtain ⟨V181, eV181, gl, egl, h182, kV181⟩ := alloc_step V71 (#[.int .i64 a.t]) 3
   have n183 := nl egl h72
   have n184 := nl egl h73
   have n185 := nl egl h74
   have n186 := nl egl h75
   have n187 := nl egl h76
   have n188 := nl egl h77
   have n189 := nl egl h78
   have n190 := nk egl K79
   refine nrq (.slice (some ⟨gl, 0, none⟩) 1 1) (w' := V181) (by rw [← eV181, ← egl]; kernel_rfl) ?_
   have ⟨K198, z199, h191, h192, h193, h194, h195, h196, h197⟩ := kV181.z7 K79 h72 h73 h74 h75 h76 h77 h78
   refine ⟨⟨h197, h194, h193⟩, ?_⟩
   refine an_o 1 ?_
   refine ncq 86 #[.agg (Att.c b)] Tryz.func86 ((dby_ok b _).mono ?_)
   rintro e V200 ⟨gy, rfl, hgyV200, nyV200, kV200⟩
   refine ⟨_, rfl, ?_⟩
   have ⟨K209, z210, h201, h202, h203, h204, h205, h206, h207, h208⟩ := kV200.z8 K198 h191 h192 h193 h194 h195 h196 h197 h182
   refine ⟨⟨h207, h204, h203⟩, ?_⟩
   refine an_o 6 ?_
   refine ncq 87 #[pT d 0, .slice (some ⟨gl, 0, none⟩) 1 1] Tryz.func87 ((dat_ok d gl 1 _).mono ?_)
   rintro e V211 ⟨gs, ge, rfl, hgsV211, hgeV211, nsV211, neV211, kV211⟩
   refine ⟨_, rfl, ?_⟩
   have ⟨K221, z222, h212, h213, h214, h215, h216, h217, h218, h219⟩ := kV211.z8 K209 h201 h202 h203 h204 h205 h206 h207 h208
   have h220 := kV211.bk hgyV200
   refine ⟨⟨h218, h215, h214⟩, ?_⟩
   refine an_o 7 ?_
   obtain ⟨V223, eV223, go1, ego1, h224, kV223⟩ := alloc_step V211 (#[.func (.func 120) #[] #[pT gy 0], .func (.func 121) #[] #[pT gs 0, pT ge 0]]) 144
   have n225 := nl ego1 h212
   have n226 := nl ego1 h213
   have n227 := nl ego1 h214
   have n228 := nl ego1 h215
   have n229 := nl ego1 h216
   have n230 := nl ego1 h217
   have n231 := nl ego1 h218
   have n232 := nl ego1 h219
   have n233 := nl ego1 h220
   have n234 := nl ego1 hgsV211
   have n235 := nl ego1 hgeV211
   have n236 := nk ego1 K221
   refine nrq (.slice (some ⟨go1, 0, none⟩) 2 2) (w' := V223) (by rw [← eV223, ← ego1]; kernel_rfl) ?_
   have ⟨K248, z249, h239, h240, h241, h242, h243, h244, h245, h246⟩ := kV223.z8 K221 h214 h215 h216 h217 h218 h219 h220 hgsV211
   have h247 := kV223.bk hgeV211
   refine ⟨⟨h243, h240, h239⟩, ?_⟩
   refine an_o 8 ?_
   refine ncq 56 #[.int .i64 2, .slice (some ⟨go1, 0, none⟩) 2 2] Tryz.func56 ((dverdict_two 2 120 (pT gy 0) b.cl proZ 0 (Att.tl hr_b) proZ_len 121 (pT gs 0) (pT ge 0) b.cl proZ (p.first (max 0 a.t)).1 (Att.tl hr_b) proZ_len (vdC_one b) go1 _ h224 (enters_of Tryz.func120 (by kernel_rfl) rfl) (fun bv W hbv k hb => dby1_ok bv gy 2 0 attZ proZ attZ_len proZ_len b hr_b (by have := lt_of_block h245; omega) W (k.bk h245) hb) (enters_of Tryz.func121 (by kernel_rfl) rfl) (fun bv W hbv k hb => dat1_1 bv gs ge gl d a.t 2 0 b.cl proZ (Att.tl hr_b) proZ_len p hp h P W hmx hb (k.bk h246) (k.bk h247) (k.bk h244) (k.bk h241))).mono ?_)
   rintro e V250 ⟨rfl, kV250⟩
   refine ⟨_, rfl, ?_⟩
   have ⟨K263, z264, h253, h254, h256, h257⟩ := kV250.z4 K248 h239 h240 h242 h243
   refine ⟨⟨h257, h254, h253⟩, ?_⟩
   refine an_o 9 <| nst 57 res ((vdC 2 b.cl proZ (p.first (max 0 a.t)).1)) h256 (by rw [vdC_size (Att.tl hr_b) proZ_len]; kernel_rfl) (by rw [vdC_size (Att.tl hr_b) proZ_len]; rfl) (vdC_one b) fun V265 h266 kV265 => ?_
   have ⟨K278, z279, h269, h270, h272⟩ := kV265.zo3 K263 h253 h254 h257
   refine ⟨⟨h272, h270, h269⟩, ?_⟩
   refine an_o 10 <| nrq (.bool true) (w' := V265) (by kernel_rfl) ?_
   refine ⟨⟨h272, h270, h269⟩, ?_⟩
   refine an_end (by kernel_rfl) <| sy_a ⟨#[pT gp 0, pT ga 0, pT gd 0, pT res 0, .bool true, pT gb 0, .bool true, .tuple #[.agg (Att.c b), .bool true], pT q 0, pT q 0, pT q 1, pT r 0, pT ga 2, .int .i64 a.t, .tuple #[.agg (Att.c b), .bool true], .agg (Att.c b), .bool true, .bool false, .bool true, .bool false, ud, .bool false, .agg (Att.c a), .agg (Att.c b), .bool false, ud, ud, ud, ud, .agg (Att.c b), .func (.func 120) #[] #[pT gy 0], pT d 0, pT ga 2, .int .i64 a.t, .slice (some ⟨gl, 0, none⟩) 1 1, .func (.func 121) #[] #[pT gs 0, pT ge 0], .slice (some ⟨go1, 0, none⟩) 2 2, .agg (vdC 2 b.cl proZ (p.first (max 0 a.t)).1)], []⟩ <| then_n <| u_ <| sy_out (.tuple #[.agg (vdC 2 b.cl proZ ((p.first (max 0 a.t)).1)), .bool true]) rfl (results_row_tmp (p := 3) (q := 4) (ty := 57) (by kernel_rfl) _ _ res 57 (vdC 2 b.cl proZ ((p.first (max 0 a.t)).1)) (0, 0) _ (.bool true) (by kernel_rfl) h266 Tryz.underlying57 rfl (by rw [vdC_size (Att.tl hr_b) proZ_len]; kernel_rfl) (by kernel_rfl)) ?_
   exact ⟨rfl, K278⟩
 ·refine nal 28 (zl1_) (.agg (zl1_)) fun V280 gb egb h281 kV280 => ?_
  have n282 := nl egb h17
  have n283 := nl egb h18
  have n284 := nl egb h19
  have n285 := nl egb h20
  have n286 := nl egb h21
  have n287 := nl egb h22
  have n288 := nk egb K23
  have ⟨K295, z296, h289, h290, h291, h292, h293, h294⟩ := kV280.z6 K23 h17 h18 h19 h20 h21 h22
  refine ⟨⟨h289, h290, h291⟩, ?_⟩
  refine an_o 6 ?_
  refine ncq 84 #[pT r 0, .int .i64 a.t] Tryz.func84 ((qAt_is (hR.keepsN K295) hV).mono ?_)
  rintro e V297 ⟨rfl, kV297⟩
  refine ⟨_, rfl, ?_⟩
  have ⟨K305, z306, h298, h299, h300, h301, h302, h303, h304⟩ := kV297.z7 K295 h289 h290 h291 h292 h293 h294 h281
  refine ⟨⟨h298, h299, h300⟩, ?_⟩
  refine akq 7 (.tuple #[.agg (Att.c b), .bool true]) ⟨h298, h299, h300⟩ <| akq 8 (.agg (Att.c b)) ⟨h298, h299, h300⟩ <| akq 9 (.bool true) ⟨h298, h299, h300⟩ <| an_o 11 <| nst 28 gb ((Att.c b)) h304 (by rw [Att.c_size _ hr_b]; kernel_rfl) (by rw [Att.c_size _ hr_b]; rfl) (Att.c_one _) fun V307 h308 kV307 => ?_
  have ⟨K315, z316, h309, h310, h311, h312, h313, h314⟩ := kV307.zo6 K305 h298 h299 h300 h301 h302 h303
  refine ⟨⟨h309, h310, h311⟩, ?_⟩
  refine an_o 12 <| nrq (.bool true) (w' := V307) (by kernel_rfl) ?_
  refine ⟨⟨h309, h310, h311⟩, ?_⟩
  refine an_end (by kernel_rfl) <| tq_ <| bl_ 0 <| qr_ [0, 1, 2] <| pkq (.bool true) <| pkq (.bool false) <| pkq (.bool false) <| en_ <| qr_ [0, 1, 2, 3] <| ppq (.agg (Att.c a)) (ldr 28 ga (h311) (by rw [Att.c_size _ hr_a]; kernel_rfl)) <| ppq (.agg (Att.c b)) (ldr 28 gb (h308) (by rw [Att.c_size _ hr_b]; kernel_rfl)) ?_
  refine pcq 85 #[.agg (Att.c a), .agg (Att.c b)] Tryz.func85 ((dsame_is a b _ ha hb hs).mono ?_)
  rintro e V317 ⟨rfl, kV317⟩
  refine ⟨_, rfl, ?_⟩
  have ⟨K325, z326, h318, h319, h320, h321, h322, h323, h324⟩ := kV317.z7 K315 h309 h310 h311 h312 h313 h314 h308
  refine pkq (.bool false) <| en_ <| s_ <| blk_n <| tq_ <| sy_np <| sy_reg <| an_begin 6 11 (opsAt (qc97_0 30)) (fun W => (W.heap[gb]? = some (.cells (Att.c b) 28 (0, 0))) ∧ (W.heap[gd]? = some (.cells (#[pT d 0]) 22 (0, 0))) ∧ (W.heap[ga]? = some (.cells (Att.c a) 28 (0, 0)))) zl14_ (by kernel_rfl) (by kernel_rfl) (by kernel_rfl) (by kernel_rfl) ?_
  obtain ⟨V327, eV327, kV327⟩ := drew_step V317
  rw [eV327]
  clear eV327
  have ⟨K335, z336, h328, h329, h330, h331, h332, h333, h334⟩ := kV327.z7 K325 h318 h319 h320 h321 h322 h323 h324
  refine avq 0 (.agg (Att.c b)) (fun W hS => ldr 28 gb (hS.1) (by rw [Att.c_size _ hr_b]; kernel_rfl)) ⟨h334, h331, h330⟩ <| avq 2 (pT d 0) (fun W hS => ldc 22 gd 0 (rc (hS.2.1) (by kernel_rfl))) ⟨h334, h331, h330⟩ <| akq 3 (pT ga 2) ⟨h334, h331, h330⟩ <| avq 4 (.int .i64 a.t) (fun W hS => ldc 3 ga 2 (rc (hS.2.2) (Att.c_2 _))) ⟨h334, h331, h330⟩ ?_
  refine an_two 1 5 (by kernel_rfl) ?_ ?_
  ·refine ncq 86 #[.agg (Att.c b)] Tryz.func86 ((dby_ok b _).mono ?_)
   rintro e V337 ⟨gy, rfl, hgyV337, nyV337, kV337⟩
   refine ⟨_, rfl, ?_⟩
   have ⟨K345, z346, h338, h339, h340, h341, h342, h343, h344⟩ := kV337.z7 K335 h328 h329 h330 h331 h332 h333 h334
   refine ⟨⟨h344, h341, h340⟩, ?_⟩
   refine an_o 5 ?_
   obtain ⟨V347, eV347, gl, egl, h348, kV347⟩ := alloc_step V337 (#[.int .i64 a.t]) 3
   have n349 := nl egl h338
   have n350 := nl egl h339
   have n351 := nl egl h340
   have n352 := nl egl h341
   have n353 := nl egl h342
   have n354 := nl egl h343
   have n355 := nl egl h344
   have n356 := nl egl hgyV337
   have n357 := nk egl K345
   refine nrq (.slice (some ⟨gl, 0, none⟩) 1 1) (w' := V347) (by rw [← eV347, ← egl]; kernel_rfl) ?_
   have ⟨K366, z367, h358, h359, h360, h361, h362, h363, h364, h365⟩ := kV347.z8 K345 h338 h339 h340 h341 h342 h343 h344 hgyV337
   refine ⟨⟨h364, h361, h360⟩, ?_⟩
   refine an_o 6 ?_
   refine ncq 87 #[pT d 0, .slice (some ⟨gl, 0, none⟩) 1 1] Tryz.func87 ((dat_ok d gl 1 _).mono ?_)
   rintro e V368 ⟨gs, ge, rfl, hgsV368, hgeV368, nsV368, neV368, kV368⟩
   refine ⟨_, rfl, ?_⟩
   have ⟨K378, z379, h369, h370, h371, h372, h373, h374, h375, h376⟩ := kV368.z8 K366 h358 h359 h360 h361 h362 h363 h364 h365
   have h377 := kV368.bk h348
   refine ⟨⟨h375, h372, h371⟩, ?_⟩
   refine an_o 7 ?_
   obtain ⟨V380, eV380, go1, ego1, h381, kV380⟩ := alloc_step V368 (#[.func (.func 120) #[] #[pT gy 0], .func (.func 121) #[] #[pT gs 0, pT ge 0]]) 144
   have n382 := nl ego1 h369
   have n383 := nl ego1 h370
   have n384 := nl ego1 h371
   have n385 := nl ego1 h372
   have n386 := nl ego1 h373
   have n387 := nl ego1 h374
   have n388 := nl ego1 h375
   have n389 := nl ego1 h376
   have n390 := nl ego1 h377
   have n391 := nl ego1 hgsV368
   have n392 := nl ego1 hgeV368
   have n393 := nk ego1 K378
   refine nrq (.slice (some ⟨go1, 0, none⟩) 2 2) (w' := V380) (by rw [← eV380, ← ego1]; kernel_rfl) ?_
   have ⟨K405, z406, h396, h397, h398, h399, h400, h401, h402, h403⟩ := kV380.z8 K378 h371 h372 h373 h374 h375 h376 h377 hgsV368
   have h404 := kV380.bk hgeV368
   refine ⟨⟨h400, h397, h396⟩, ?_⟩
   refine an_o 8 ?_
   refine ncq 56 #[.int .i64 2, .slice (some ⟨go1, 0, none⟩) 2 2] Tryz.func56 ((dverdict_two 2 120 (pT gy 0) b.cl proZ 0 (Att.tl hr_b) proZ_len 121 (pT gs 0) (pT ge 0) b.cl proZ (p.first (max 0 a.t)).1 (Att.tl hr_b) proZ_len (vdC_one b) go1 _ h381 (enters_of Tryz.func120 (by kernel_rfl) rfl) (fun bv W hbv k hb => dby1_ok bv gy 2 0 attZ proZ attZ_len proZ_len b hr_b (by have := lt_of_block h401; omega) W (k.bk h401) hb) (enters_of Tryz.func121 (by kernel_rfl) rfl) (fun bv W hbv k hb => dat1_1 bv gs ge gl d a.t 2 0 b.cl proZ (Att.tl hr_b) proZ_len p hp h P W hmx hb (k.bk h403) (k.bk h404) (k.bk h402) (k.bk h398))).mono ?_)
   rintro e V407 ⟨rfl, kV407⟩
   refine ⟨_, rfl, ?_⟩
   have ⟨K420, z421, h410, h411, h413, h414⟩ := kV407.z4 K405 h396 h397 h399 h400
   refine ⟨⟨h414, h411, h410⟩, ?_⟩
   refine an_o 9 <| nst 57 res ((vdC 2 b.cl proZ (p.first (max 0 a.t)).1)) h413 (by rw [vdC_size (Att.tl hr_b) proZ_len]; kernel_rfl) (by rw [vdC_size (Att.tl hr_b) proZ_len]; rfl) (vdC_one b) fun V422 h423 kV422 => ?_
   have ⟨K435, z436, h426, h427, h429⟩ := kV422.zo3 K420 h410 h411 h414
   refine ⟨⟨h429, h427, h426⟩, ?_⟩
   refine an_o 10 <| nrq (.bool true) (w' := V422) (by kernel_rfl) ?_
   refine ⟨⟨h429, h427, h426⟩, ?_⟩
   refine an_end (by kernel_rfl) <| sy_a ⟨#[pT gp 0, pT ga 0, pT gd 0, pT res 0, .bool true, pT gb 0, .bool true, .tuple #[.agg (Att.c b), .bool true], pT q 0, pT q 0, pT q 1, pT r 0, pT ga 2, .int .i64 a.t, .tuple #[.agg (Att.c b), .bool true], .agg (Att.c b), .bool true, .bool false, .bool true, .bool false, ud, .bool false, .agg (Att.c a), .agg (Att.c b), .bool false, ud, ud, ud, ud, .agg (Att.c b), .func (.func 120) #[] #[pT gy 0], pT d 0, pT ga 2, .int .i64 a.t, .slice (some ⟨gl, 0, none⟩) 1 1, .func (.func 121) #[] #[pT gs 0, pT ge 0], .slice (some ⟨go1, 0, none⟩) 2 2, .agg (vdC 2 b.cl proZ (p.first (max 0 a.t)).1)], []⟩ <| then_n <| u_ <| sy_out (.tuple #[.agg (vdC 2 b.cl proZ ((p.first (max 0 a.t)).1)), .bool true]) rfl (results_row_tmp (p := 3) (q := 4) (ty := 57) (by kernel_rfl) _ _ res 57 (vdC 2 b.cl proZ ((p.first (max 0 a.t)).1)) (0, 0) _ (.bool true) (by kernel_rfl) h423 Tryz.underlying57 rfl (by rw [vdC_size (Att.tl hr_b) proZ_len]; kernel_rfl) (by kernel_rfl)) ?_
   exact ⟨rfl, K435⟩
  ·obtain ⟨V437, eV437, gl, egl, h438, kV437⟩ := alloc_step V327 (#[.int .i64 a.t]) 3
   have n439 := nl egl h328
   have n440 := nl egl h329
   have n441 := nl egl h330
   have n442 := nl egl h331
   have n443 := nl egl h332
   have n444 := nl egl h333
   have n445 := nl egl h334
   have n446 := nk egl K335
   refine nrq (.slice (some ⟨gl, 0, none⟩) 1 1) (w' := V437) (by rw [← eV437, ← egl]; kernel_rfl) ?_
   have ⟨K454, z455, h447, h448, h449, h450, h451, h452, h453⟩ := kV437.z7 K335 h328 h329 h330 h331 h332 h333 h334
   refine ⟨⟨h453, h450, h449⟩, ?_⟩
   refine an_o 1 ?_
   refine ncq 86 #[.agg (Att.c b)] Tryz.func86 ((dby_ok b _).mono ?_)
   rintro e V456 ⟨gy, rfl, hgyV456, nyV456, kV456⟩
   refine ⟨_, rfl, ?_⟩
   have ⟨K465, z466, h457, h458, h459, h460, h461, h462, h463, h464⟩ := kV456.z8 K454 h447 h448 h449 h450 h451 h452 h453 h438
   refine ⟨⟨h463, h460, h459⟩, ?_⟩
   refine an_o 6 ?_
   refine ncq 87 #[pT d 0, .slice (some ⟨gl, 0, none⟩) 1 1] Tryz.func87 ((dat_ok d gl 1 _).mono ?_)
   rintro e V467 ⟨gs, ge, rfl, hgsV467, hgeV467, nsV467, neV467, kV467⟩
   refine ⟨_, rfl, ?_⟩
   have ⟨K477, z478, h468, h469, h470, h471, h472, h473, h474, h475⟩ := kV467.z8 K465 h457 h458 h459 h460 h461 h462 h463 h464
   have h476 := kV467.bk hgyV456
   refine ⟨⟨h474, h471, h470⟩, ?_⟩
   refine an_o 7 ?_
   obtain ⟨V479, eV479, go1, ego1, h480, kV479⟩ := alloc_step V467 (#[.func (.func 120) #[] #[pT gy 0], .func (.func 121) #[] #[pT gs 0, pT ge 0]]) 144
   have n481 := nl ego1 h468
   have n482 := nl ego1 h469
   have n483 := nl ego1 h470
   have n484 := nl ego1 h471
   have n485 := nl ego1 h472
   have n486 := nl ego1 h473
   have n487 := nl ego1 h474
   have n488 := nl ego1 h475
   have n489 := nl ego1 h476
   have n490 := nl ego1 hgsV467
   have n491 := nl ego1 hgeV467
   have n492 := nk ego1 K477
   refine nrq (.slice (some ⟨go1, 0, none⟩) 2 2) (w' := V479) (by rw [← eV479, ← ego1]; kernel_rfl) ?_
   have ⟨K504, z505, h495, h496, h497, h498, h499, h500, h501, h502⟩ := kV479.z8 K477 h470 h471 h472 h473 h474 h475 h476 hgsV467
   have h503 := kV479.bk hgeV467
   refine ⟨⟨h499, h496, h495⟩, ?_⟩
   refine an_o 8 ?_
   refine ncq 56 #[.int .i64 2, .slice (some ⟨go1, 0, none⟩) 2 2] Tryz.func56 ((dverdict_two 2 120 (pT gy 0) b.cl proZ 0 (Att.tl hr_b) proZ_len 121 (pT gs 0) (pT ge 0) b.cl proZ (p.first (max 0 a.t)).1 (Att.tl hr_b) proZ_len (vdC_one b) go1 _ h480 (enters_of Tryz.func120 (by kernel_rfl) rfl) (fun bv W hbv k hb => dby1_ok bv gy 2 0 attZ proZ attZ_len proZ_len b hr_b (by have := lt_of_block h501; omega) W (k.bk h501) hb) (enters_of Tryz.func121 (by kernel_rfl) rfl) (fun bv W hbv k hb => dat1_1 bv gs ge gl d a.t 2 0 b.cl proZ (Att.tl hr_b) proZ_len p hp h P W hmx hb (k.bk h502) (k.bk h503) (k.bk h500) (k.bk h497))).mono ?_)
   rintro e V506 ⟨rfl, kV506⟩
   refine ⟨_, rfl, ?_⟩
   have ⟨K519, z520, h509, h510, h512, h513⟩ := kV506.z4 K504 h495 h496 h498 h499
   refine ⟨⟨h513, h510, h509⟩, ?_⟩
   refine an_o 9 <| nst 57 res ((vdC 2 b.cl proZ (p.first (max 0 a.t)).1)) h512 (by rw [vdC_size (Att.tl hr_b) proZ_len]; kernel_rfl) (by rw [vdC_size (Att.tl hr_b) proZ_len]; rfl) (vdC_one b) fun V521 h522 kV521 => ?_
   have ⟨K534, z535, h525, h526, h528⟩ := kV521.zo3 K519 h509 h510 h513
   refine ⟨⟨h528, h526, h525⟩, ?_⟩
   refine an_o 10 <| nrq (.bool true) (w' := V521) (by kernel_rfl) ?_
   refine ⟨⟨h528, h526, h525⟩, ?_⟩
   refine an_end (by kernel_rfl) <| sy_a ⟨#[pT gp 0, pT ga 0, pT gd 0, pT res 0, .bool true, pT gb 0, .bool true, .tuple #[.agg (Att.c b), .bool true], pT q 0, pT q 0, pT q 1, pT r 0, pT ga 2, .int .i64 a.t, .tuple #[.agg (Att.c b), .bool true], .agg (Att.c b), .bool true, .bool false, .bool true, .bool false, ud, .bool false, .agg (Att.c a), .agg (Att.c b), .bool false, ud, ud, ud, ud, .agg (Att.c b), .func (.func 120) #[] #[pT gy 0], pT d 0, pT ga 2, .int .i64 a.t, .slice (some ⟨gl, 0, none⟩) 1 1, .func (.func 121) #[] #[pT gs 0, pT ge 0], .slice (some ⟨go1, 0, none⟩) 2 2, .agg (vdC 2 b.cl proZ (p.first (max 0 a.t)).1)], []⟩ <| then_n <| u_ <| sy_out (.tuple #[.agg (vdC 2 b.cl proZ ((p.first (max 0 a.t)).1)), .bool true]) rfl (results_row_tmp (p := 3) (q := 4) (ty := 57) (by kernel_rfl) _ _ res 57 (vdC 2 b.cl proZ ((p.first (max 0 a.t)).1)) (0, 0) _ (.bool true) (by kernel_rfl) h522 Tryz.underlying57 rfl (by rw [vdC_size (Att.tl hr_b) proZ_len]; kernel_rfl) (by kernel_rfl)) ?_
   exact ⟨rfl, K534⟩
end Go.Proofs.YthmclmbeflbhhaaGreat
