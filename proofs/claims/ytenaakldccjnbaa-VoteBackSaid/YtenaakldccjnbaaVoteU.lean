/-
  Votes: the chapter's examples (printed by vote11.py). Conditions: none.
-/
import Derived.Test.YtenaakldccjnbaaVoteG
import Derived.Test.YtenaakldccjnbaaVoteJ
import Derived.Test.YtenaakldccjnbaaVoteR
import Derived.Test.YtenaakldccjnbaaVoteEq
import Derived.Test.YtenaakldccjnbaaVoteV
namespace Go.Proofs.Ytenaakldccjnbaa
open Go Go.RowKit Go.Own Go.Shelf
def attTag : Att := ⟨1, 2, 3, List.replicate 32 0, 9⟩
def attOther : Att := ⟨1, 1, 3, List.replicate 32 0, 5⟩
def attApart : Att := ⟨2, 1, 4, List.replicate 32 0, 0⟩
def attOdd : Att := ⟨32, 2, 3, List.replicate 32 0, 5⟩
def attEarly : Att := ⟨1, -1, 3, List.replicate 32 0, 5⟩
def attLate : Att := ⟨1, 2, 4294967297, List.replicate 32 0, 5⟩
def proLow : Pro := ⟨1, 0, List.replicate 32 0, 128⟩
def proNone : Pro := ⟨-1, 300, List.replicate 32 0, 128⟩
theorem attTag_ok : attTag.Ok := ⟨by decide, by decide, by decide, by decide, by decide⟩
theorem attOther_ok : attOther.Ok := ⟨by decide, by decide, by decide, by decide, by decide⟩
theorem attApart_ok : attApart.Ok := ⟨by decide, by decide, by decide, by decide, by decide⟩
theorem attTag_fine : attTag.fine := by decide
theorem attTag_dig : attTag.dig = attOne.dig := rfl
theorem attOne_dig : attOne.dig = Kec.sum [1, 1, 2, 3, 0, 0, 0, 0, 0, 0, 0, 0, 0, 0, 0, 0, 0, 0, 0, 0, 0, 0, 0, 0, 0, 0, 0, 0, 0, 0, 0, 0, 0, 0, 0, 0] := congrArg Kec.sum (show attOne.bare = _ by kernel_rfl)
theorem attOther_dig : attOther.dig = Kec.sum [1, 1, 1, 3, 0, 0, 0, 0, 0, 0, 0, 0, 0, 0, 0, 0, 0, 0, 0, 0, 0, 0, 0, 0, 0, 0, 0, 0, 0, 0, 0, 0, 0, 0, 0, 0] := congrArg Kec.sum (show attOther.bare = _ by kernel_rfl)
theorem digs_apart : ¬ attOne.dig = attOther.dig := by
  rw [attOne_dig, attOther_dig, Kec.vote_one, Kec.vote_other]; decide
theorem doub_other : doub attOne attOther = true := decide_eq_true ⟨attOne_fine, by decide, rfl, rfl, digs_apart⟩
theorem doub_tag : doub attOne attTag = false := decide_eq_false fun h => h.2.2.2.2 attTag_dig.symm
theorem surr_apart : surr attApart attOne = false := by decide
theorem doub_is (a b : Att) {r : Bool} (w : World) (ha : a.Ok) (hb : b.Ok) (h : doub a b = r) : Calls Try.prog 30 #[.agg (Att.c a), .agg (Att.c b)] w fun e w' => e = .returned (.bool r) ∧ Keeps Nob w w' := by
  subst h; exact vDoubles_ok a b w ha hb
theorem vCheckP_is (a : Pro) {x : Int} (w : World) (hr : a.r.length = 32) (hx : a.err = x) : Calls Try.prog 23 #[.agg (Pro.c a)] w fun e w' => e = .returned (.int .i64 x) ∧ Keeps Nob w w' := by
  subst hx; exact vCheckBlock_ok a w hr
theorem vDigest_tag (w : World) : Calls Try.prog 26 #[.agg (Att.c attTag)] w fun e w' => e = .returned (.tuple #[.agg (B attOne.dig).toArray, .int .i64 0]) ∧ Keeps Nob w w' :=
  attTag_dig ▸ vDigest_ok attTag w attTag_ok attTag_fine
def b37 : List UInt8 := [1, 1, 2, 3] ++ List.replicate 32 0 ++ [5]
theorem h37 : b37.length = 37 := by kernel_rfl
theorem row37 {w : World} {v : Value} {e : TypeId} (h : Row w e 1 v 37 (B b37)) : BytesAt w v b37 := Row.bytes (e := e) (by rw [h37]; exact h)
theorem vBytes_one (w : World) : Calls Try.prog 16 #[.agg (Att.c attOne)] w fun e w' => ∃ A cap, e = .returned (.tuple #[.slice A 37 cap, .int .i64 0]) ∧ Row w' 5 1 (.slice A 37 cap) 37 (B b37) ∧ NewFrom w.heap.size (.slice A 37 cap) ∧ 37 ≤ cap ∧ Keeps Nob w w' := by
  refine (vBytes_ok attOne w attOne_ok attOne_fine).mono ?_
  rintro e w' ⟨X, he, hr, hn, hk⟩
  have hb : attOne.bytes = b37 := attOne_bytes
  rw [hb] at hr
  obtain ⟨A, cap, hX, hc, _⟩ := hr.bytes.form
  rw [h37] at hX hr hc; subst hX
  exact ⟨A, cap, he, hr, hn, hc, hk⟩
theorem ksum_one {A : Option Addr} {cap : Nat} (w : World) (h : Row w 5 1 (.slice A 37 cap) 37 (B b37)) : Calls Try.prog 38 #[.slice A 36 cap] w fun e w' => e = .returned (.agg (B attOne.dig).toArray) ∧ Keeps Nob w w' := by
  have hb : b37.take 36 = attOne.bare := by kernel_rfl
  have := ksum_any (.slice A 36 cap) (b37.take 36) w ((row37 h).take 36 (by rw [h37]; decide) A 37 cap rfl) (by rw [List.length_take]; omega)
  rw [hb] at this; exact this
theorem vRead_as (v : Value) (l : List UInt8) (a : Att) (x y : Int) (w : World) (hx : BytesAt w v l) (hl : l.length ≤ 1000) (ha : aRes l = a) (hf : aF l = (x, y)) : Calls Try.prog 11 #[v] w fun e w' => e = .returned (.tuple #[.agg (Att.c a), .agg #[.int .i64 x, .int .i64 y]]) ∧ Keeps Nob w w' := by
  have := vRead_ok v l w hx (by omega)
  rw [ha, hf] at this; exact this
theorem vReadBlock_as (v : Value) (l : List UInt8) (a : Pro) (x y : Int) (w : World) (hx : BytesAt w v l) (hl : l.length ≤ 1000) (ha : pRes l = a) (hf : pF l = (x, y)) : Calls Try.prog 13 #[v] w fun e w' => e = .returned (.tuple #[.agg (Pro.c a), .agg #[.int .i64 x, .int .i64 y]]) ∧ Keeps Nob w w' := by
  have := vReadBlock_ok v l w hx (by omega)
  rw [ha, hf] at this; exact this
theorem aRes_bad {l : List UInt8} {x y : Int} (hf : aF l = (x, y)) (hx : ¬ x = 0) : aRes l = attZero := if_neg (by rw [hf]; exact hx)
theorem pRes_bad {l : List UInt8} {x y : Int} (hf : pF l = (x, y)) (hx : ¬ x = 0) : pRes l = proZero := if_neg (by rw [hf]; exact hx)
theorem f_1 : aF [2] = (3, 0) := by kernel_rfl
theorem f_2 : aF [1, 32] = (3, 1) := by kernel_rfl
theorem f_3 : aF [1, 1, 2, 3] = (6, 4) := by kernel_rfl
theorem f_4 : aF (b37 ++ [0]) = (4, 37) := by kernel_rfl
theorem f_5 : pF [2, 1, 0] = (3, 2) := by kernel_rfl

noncomputable def part_lfails (n : Nat) : Code := partOf Try.f39 n
noncomputable abbrev o_lfails (n k : Nat) : Oper := (opsAt (part_lfails n)).getD k default
set_option maxRecDepth 100000 in
set_option maxHeartbeats 4000000 in
theorem lfails_ok (v : Value) (l : List UInt8) (x y : Int) (w : World) (hx : BytesAt w v l) (hl : l.length ≤ 1000) (hf : aF l = (x, y)) (hn : ¬ x = 0) :
    Calls Try.prog 39 #[v, .int .i64 x, .int .i64 y] w (fun e w' => e = .returned (.bool true) ∧ Keeps Nob w w') := by
  have K0 : Keeps Nob w w := Keeps.refl _ _
  refine sy_enter (part_lfails 1) ⟨#[v, .int .i64 x, .int .i64 y, undef, undef, undef, undef, undef, undef, undef, undef, undef, undef, undef, undef, undef, undef, undef, undef, undef, undef, undef, undef, undef], []⟩ Try.func39 (by kernel_rfl) (by kernel_rfl) ?_
  refine sy_sq (part_lfails 2) (part_lfails 3) ?_
  refine sy_reg ?_
  refine rg_plain 0 (opsAt (part_lfails 2)) [0] (by kernel_rfl) (by kernel_rfl) ?_
  refine ps_k (o_lfails 2 0) (.bool false) ?_
  refine ps_end ?_
  refine then_n ?_
  refine sy_sq (part_lfails 6) (part_lfails 7) ?_
  refine sy_reg ?_
  refine rg_plain 1 (opsAt (part_lfails 6)) [0, 1, 2, 3, 4, 5, 6, 7, 8] (by kernel_rfl) (by kernel_rfl) ?_
  refine ps_k (o_lfails 6 0) (v) ?_
  refine ps_c (o_lfails 6 1) 11 #[v] Try.func11 ((vRead_as v l attZero x y _ hx hl (aRes_bad hf hn) hf).mono ?_)
  rintro e V1 ⟨rfl, kV1⟩
  refine ⟨_, rfl, ?_⟩
  have K2 := K0.nn kV1
  have z3 := kV1.size
  refine ps_k (o_lfails 6 2) (.tuple #[.agg (Att.c attZero), .agg #[.int .i64 x, .int .i64 y]]) ?_
  refine ps_k (o_lfails 6 3) (.agg (Att.c attZero)) ?_
  refine ps_k (o_lfails 6 4) (.agg #[.int .i64 x, .int .i64 y]) ?_
  obtain ⟨V4, eV4, ga, ega, h5, kV4⟩ := alloc_step V1 (#[.int .i64 0, .int .i64 0, .int .i64 0, .int .u8 0, .int .u8 0, .int .u8 0, .int .u8 0, .int .u8 0, .int .u8 0, .int .u8 0, .int .u8 0, .int .u8 0, .int .u8 0, .int .u8 0, .int .u8 0, .int .u8 0, .int .u8 0, .int .u8 0, .int .u8 0, .int .u8 0, .int .u8 0, .int .u8 0, .int .u8 0, .int .u8 0, .int .u8 0, .int .u8 0, .int .u8 0, .int .u8 0, .int .u8 0, .int .u8 0, .int .u8 0, .int .u8 0, .int .u8 0, .int .u8 0, .int .u8 0, .int .u64 0]) 29
  have n6 : w.heap.size ≤ ga := ega ▸ K2.size
  refine ps_r (o_lfails 6 5) (pT ga 0) (w' := V4) (by rw [← eV4, ← ega]; exact exec_alloc0 29 (by kernel_rfl) (.agg (#[.int .i64 0, .int .i64 0, .int .i64 0, .int .u8 0, .int .u8 0, .int .u8 0, .int .u8 0, .int .u8 0, .int .u8 0, .int .u8 0, .int .u8 0, .int .u8 0, .int .u8 0, .int .u8 0, .int .u8 0, .int .u8 0, .int .u8 0, .int .u8 0, .int .u8 0, .int .u8 0, .int .u8 0, .int .u8 0, .int .u8 0, .int .u8 0, .int .u8 0, .int .u8 0, .int .u8 0, .int .u8 0, .int .u8 0, .int .u8 0, .int .u8 0, .int .u8 0, .int .u8 0, .int .u8 0, .int .u8 0, .int .u64 0])) (by kernel_rfl)) ?_
  clear eV4
  have K7 := K2.nn kV4
  have z8 := kV4.size
  obtain ⟨V9, eV9, gf, egf, h10, kV9⟩ := alloc_step V4 (#[.int .i64 0, .int .i64 0]) 32
  have n11 : ga < gf := egf ▸ lt_of_block h5
  have n12 : w.heap.size ≤ gf := egf ▸ K7.size
  refine ps_r (o_lfails 6 6) (pT gf 0) (w' := V9) (by rw [← eV9, ← egf]; exact exec_alloc0 32 (by kernel_rfl) (.agg (#[.int .i64 0, .int .i64 0])) (by kernel_rfl)) ?_
  clear eV9
  have h13 := kV9.bk h5
  have K14 := K7.nn kV9
  have z15 := kV9.size
  obtain ⟨V16, eV16, kV16⟩ := rowset_step V9 ga ((Att.c attZero))
  have h17 : V16.heap[ga]? = some (.cells (Att.c attZero) 29 (0, 0)) := eV16 ▸ setRow_heap _ _ _ _ _ _ h13
  refine ps_s (o_lfails 6 7) (w' := V16) (by rw [← eV16]; exact exec_store_row 29 (.tmp 7) (.tmp 12) (by kernel_rfl) ga ((Att.c attZero)) (by kernel_rfl) (by kernel_rfl) 29 (#[.int .i64 0, .int .i64 0, .int .i64 0, .int .u8 0, .int .u8 0, .int .u8 0, .int .u8 0, .int .u8 0, .int .u8 0, .int .u8 0, .int .u8 0, .int .u8 0, .int .u8 0, .int .u8 0, .int .u8 0, .int .u8 0, .int .u8 0, .int .u8 0, .int .u8 0, .int .u8 0, .int .u8 0, .int .u8 0, .int .u8 0, .int .u8 0, .int .u8 0, .int .u8 0, .int .u8 0, .int .u8 0, .int .u8 0, .int .u8 0, .int .u8 0, .int .u8 0, .int .u8 0, .int .u8 0, .int .u8 0, .int .u64 0]) h13 (by rw [Att.c_size _ (show attZero.r.length = 32 from rfl)]; kernel_rfl) (by rw [Att.c_size _ (show attZero.r.length = 32 from rfl)]; rfl) (Att.c_one _)) ?_
  clear eV16
  have h18 := kV16.bo h10 (by omega)
  have K19 := K14.no kV16 (by omega)
  have z20 := kV16.size
  obtain ⟨V21, eV21, kV21⟩ := rowset_step V16 gf (#[.int .i64 x, .int .i64 y])
  have h22 : V21.heap[gf]? = some (.cells (#[.int .i64 x, .int .i64 y]) 32 (0, 0)) := eV21 ▸ setRow_heap _ _ _ _ _ _ h18
  refine ps_s (o_lfails 6 8) (w' := V21) (by rw [← eV21]; exact exec_store_row 32 (.tmp 8) (.tmp 13) (by kernel_rfl) gf (#[.int .i64 x, .int .i64 y]) (by kernel_rfl) (by kernel_rfl) 32 (#[.int .i64 0, .int .i64 0]) h18 (by kernel_rfl) rfl (by kernel_rfl)) ?_
  clear eV21
  have h23 := kV21.bo h17 (by omega)
  have K24 := K19.no kV21 (by omega)
  have z25 := kV21.size
  refine ps_end ?_
  refine then_n ?_
  refine sy_sq (part_lfails 14) (part_lfails 15) ?_
  refine sy_reg ?_
  refine rg_plain 2 (opsAt (part_lfails 14)) [0, 1, 2, 3, 4, 5, 6, 7, 8, 9, 10] (by kernel_rfl) (by kernel_rfl) ?_
  refine ps_p (o_lfails 14 0) (.agg (Att.c attZero)) (exec_load_row 29 (.tmp 7) (by kernel_rfl) ga (by kernel_rfl) _ _ (0, 0) _ (h23) Try.underlying29 rfl (by rw [Att.c_size _ (show attZero.r.length = 32 from rfl)]; kernel_rfl)) ?_
  refine ps_k (o_lfails 14 1) (.agg (Att.c attZero)) ?_
  refine ps_p (o_lfails 14 2) (.bool true) (exec_cast (congrArg Value.bool (by simp)) (exec_binop .eql 29 29 (.tmp 14) (.tmp 15) (by kernel_rfl) (.agg (Att.c attZero)) (.agg (Att.c attZero)) _ (by kernel_rfl) (by kernel_rfl) (run_eqGuard_agg _ _ _ _ _ _ _ att_guard) (att_eq attZero attZero rfl rfl _))) ?_
  refine ps_k (o_lfails 14 3) (.bool true) ?_
  refine ps_p (o_lfails 14 4) (.agg #[.int .i64 x, .int .i64 y]) (exec_load_row 32 (.tmp 8) (by kernel_rfl) gf (by kernel_rfl) _ _ (0, 0) _ (h22) Try.underlying32 rfl (by kernel_rfl)) ?_
  refine ps_k (o_lfails 14 5) (.int .i64 x) ?_
  refine ps_k (o_lfails 14 6) (.int .i64 y) ?_
  refine ps_k (o_lfails 14 7) (.agg #[.int .i64 x, .int .i64 y]) ?_
  refine ps_p (o_lfails 14 8) (.bool true) (exec_cast (congrArg Value.bool (by simp)) (exec_binop .eql 32 32 (.tmp 18) (.tmp 21) (by kernel_rfl) (.agg #[.int .i64 x, .int .i64 y]) (.agg #[.int .i64 x, .int .i64 y]) _ (by kernel_rfl) (by kernel_rfl) (run_eqGuard_agg _ _ _ _ _ _ _ fault_guard) (fault_eq _ _ _ _ _))) ?_
  refine ps_k (o_lfails 14 9) (.bool true) ?_
  refine ps_k (o_lfails 14 10) (.bool true) ?_
  refine ps_end ?_
  refine then_n ?_
  refine sy_ret (by kernel_rfl) ?_
  refine sy_out (.bool true) rfl (by kernel_rfl) ?_
  exact ⟨rfl, K24⟩
theorem h38 : (b37 ++ [0]).length = 38 := by kernel_rfl
theorem row38 {w : World} {v : Value} {e : TypeId} (h : Row w e 1 v 38 (B (b37 ++ [0]))) : BytesAt w v (b37 ++ [0]) := Row.bytes (e := e) (by rw [h38]; exact h)
noncomputable def part_VoteKnown (n : Nat) : Code := partOf Try.f6 n
noncomputable abbrev o_VoteKnown (n k : Nat) : Oper := (opsAt (part_VoteKnown n)).getD k default
set_option maxRecDepth 100000 in
set_option maxHeartbeats 4000000 in
theorem voteKnown_ok (w : World) :
    Calls Try.prog 6 #[] w (fun e w' => e = .returned (.bool true) ∧ Keeps Nob w w') := by
  obtain ⟨i0, hi0, hz0, hz1, hz2⟩ := info_parts u8_info0
  have K0 : Keeps Nob w w := Keeps.refl _ _
  refine sy_enter (part_VoteKnown 1) ⟨#[undef, undef, undef, undef, undef, undef, undef, undef, undef, undef, undef, undef, undef, undef, undef, undef, undef, undef, undef, undef, undef, undef, undef, undef, undef, undef, undef, undef, undef, undef, undef, undef, undef, undef, undef, undef, undef, undef, undef, undef, undef, undef, undef, undef, undef, undef, undef, undef, undef, undef, undef, undef, undef, undef, undef, undef, undef, undef, undef, undef, undef, undef, undef, undef, undef, undef, undef, undef, undef, undef, undef, undef, undef, undef, undef, undef, undef, undef, undef, undef, undef, undef, undef, undef, undef, undef, undef, undef, undef, undef, undef, undef, undef, undef, undef, undef, undef, undef, undef, undef, undef, undef, undef, undef, undef, undef, undef, undef, undef, undef, undef, undef, undef, undef, undef, undef, undef, undef, undef, undef, undef, undef, undef, undef, undef, undef, undef, undef, undef, undef, undef, undef, undef, undef, undef, undef, undef, undef, undef, undef, undef, undef, undef, undef, undef, undef, undef, undef, undef, undef, undef], []⟩ Try.func6 (by kernel_rfl) (by kernel_rfl) ?_
  refine sy_sq (part_VoteKnown 2) (part_VoteKnown 3) ?_
  refine sy_reg ?_
  refine rg_plain 0 (opsAt (part_VoteKnown 2)) [0] (by kernel_rfl) (by kernel_rfl) ?_
  refine ps_k (o_VoteKnown 2 0) (.bool false) ?_
  refine ps_end ?_
  refine then_n ?_
  refine sy_sq (part_VoteKnown 6) (part_VoteKnown 7) ?_
  refine sy_reg ?_
  refine rg_plain 1 (opsAt (part_VoteKnown 6)) [0, 1, 2, 3, 4, 5] (by kernel_rfl) (by kernel_rfl) ?_
  refine ps_c (o_VoteKnown 6 0) 36 #[] Try.func36 ((lone_ok _).mono ?_)
  rintro e V1 ⟨rfl, kV1⟩
  refine ⟨_, rfl, ?_⟩
  have K2 := K0.nn kV1
  have z3 := kV1.size
  refine ps_c (o_VoteKnown 6 1) 37 #[] Try.func37 ((lblock_ok _).mono ?_)
  rintro e V4 ⟨rfl, kV4⟩
  refine ⟨_, rfl, ?_⟩
  have K5 := K2.nn kV4
  have z6 := kV4.size
  obtain ⟨V7, eV7, g1, eg1, h8, kV7⟩ := alloc_step V4 (#[.int .i64 0, .int .i64 0, .int .i64 0, .int .u8 0, .int .u8 0, .int .u8 0, .int .u8 0, .int .u8 0, .int .u8 0, .int .u8 0, .int .u8 0, .int .u8 0, .int .u8 0, .int .u8 0, .int .u8 0, .int .u8 0, .int .u8 0, .int .u8 0, .int .u8 0, .int .u8 0, .int .u8 0, .int .u8 0, .int .u8 0, .int .u8 0, .int .u8 0, .int .u8 0, .int .u8 0, .int .u8 0, .int .u8 0, .int .u8 0, .int .u8 0, .int .u8 0, .int .u8 0, .int .u8 0, .int .u8 0, .int .u64 0]) 29
  have n9 : w.heap.size ≤ g1 := eg1 ▸ K5.size
  refine ps_r (o_VoteKnown 6 2) (pT g1 0) (w' := V7) (by rw [← eV7, ← eg1]; exact exec_alloc0 29 (by kernel_rfl) (.agg (#[.int .i64 0, .int .i64 0, .int .i64 0, .int .u8 0, .int .u8 0, .int .u8 0, .int .u8 0, .int .u8 0, .int .u8 0, .int .u8 0, .int .u8 0, .int .u8 0, .int .u8 0, .int .u8 0, .int .u8 0, .int .u8 0, .int .u8 0, .int .u8 0, .int .u8 0, .int .u8 0, .int .u8 0, .int .u8 0, .int .u8 0, .int .u8 0, .int .u8 0, .int .u8 0, .int .u8 0, .int .u8 0, .int .u8 0, .int .u8 0, .int .u8 0, .int .u8 0, .int .u8 0, .int .u8 0, .int .u8 0, .int .u64 0])) (by kernel_rfl)) ?_
  clear eV7
  have K10 := K5.nn kV7
  have z11 := kV7.size
  obtain ⟨V12, eV12, g2, eg2, h13, kV12⟩ := alloc_step V7 (#[.int .i64 0, .int .i64 0, .int .u8 0, .int .u8 0, .int .u8 0, .int .u8 0, .int .u8 0, .int .u8 0, .int .u8 0, .int .u8 0, .int .u8 0, .int .u8 0, .int .u8 0, .int .u8 0, .int .u8 0, .int .u8 0, .int .u8 0, .int .u8 0, .int .u8 0, .int .u8 0, .int .u8 0, .int .u8 0, .int .u8 0, .int .u8 0, .int .u8 0, .int .u8 0, .int .u8 0, .int .u8 0, .int .u8 0, .int .u8 0, .int .u8 0, .int .u8 0, .int .u8 0, .int .u8 0, .int .u64 0]) 36
  have n14 : g1 < g2 := eg2 ▸ lt_of_block h8
  have n15 : w.heap.size ≤ g2 := eg2 ▸ K10.size
  refine ps_r (o_VoteKnown 6 3) (pT g2 0) (w' := V12) (by rw [← eV12, ← eg2]; exact exec_alloc0 36 (by kernel_rfl) (.agg (#[.int .i64 0, .int .i64 0, .int .u8 0, .int .u8 0, .int .u8 0, .int .u8 0, .int .u8 0, .int .u8 0, .int .u8 0, .int .u8 0, .int .u8 0, .int .u8 0, .int .u8 0, .int .u8 0, .int .u8 0, .int .u8 0, .int .u8 0, .int .u8 0, .int .u8 0, .int .u8 0, .int .u8 0, .int .u8 0, .int .u8 0, .int .u8 0, .int .u8 0, .int .u8 0, .int .u8 0, .int .u8 0, .int .u8 0, .int .u8 0, .int .u8 0, .int .u8 0, .int .u8 0, .int .u8 0, .int .u64 0])) (by kernel_rfl)) ?_
  clear eV12
  have h16 := kV12.bk h8
  have K17 := K10.nn kV12
  have z18 := kV12.size
  obtain ⟨V19, eV19, kV19⟩ := rowset_step V12 g1 ((Att.c attOne))
  have h20 : V19.heap[g1]? = some (.cells (Att.c attOne) 29 (0, 0)) := eV19 ▸ setRow_heap _ _ _ _ _ _ h16
  refine ps_s (o_VoteKnown 6 4) (w' := V19) (by rw [← eV19]; exact exec_store_row 29 (.tmp 1) (.tmp 22) (by kernel_rfl) g1 ((Att.c attOne)) (by kernel_rfl) (by kernel_rfl) 29 (#[.int .i64 0, .int .i64 0, .int .i64 0, .int .u8 0, .int .u8 0, .int .u8 0, .int .u8 0, .int .u8 0, .int .u8 0, .int .u8 0, .int .u8 0, .int .u8 0, .int .u8 0, .int .u8 0, .int .u8 0, .int .u8 0, .int .u8 0, .int .u8 0, .int .u8 0, .int .u8 0, .int .u8 0, .int .u8 0, .int .u8 0, .int .u8 0, .int .u8 0, .int .u8 0, .int .u8 0, .int .u8 0, .int .u8 0, .int .u8 0, .int .u8 0, .int .u8 0, .int .u8 0, .int .u8 0, .int .u8 0, .int .u64 0]) h16 (by kernel_rfl) (by kernel_rfl) (Att.c_one _)) ?_
  clear eV19
  have h21 := kV19.bo h13 (by omega)
  have K22 := K17.no kV19 (by omega)
  have z23 := kV19.size
  obtain ⟨V24, eV24, kV24⟩ := rowset_step V19 g2 ((Pro.c proOne))
  have h25 : V24.heap[g2]? = some (.cells (Pro.c proOne) 36 (0, 0)) := eV24 ▸ setRow_heap _ _ _ _ _ _ h21
  refine ps_s (o_VoteKnown 6 5) (w' := V24) (by rw [← eV24]; exact exec_store_row 36 (.tmp 2) (.tmp 23) (by kernel_rfl) g2 ((Pro.c proOne)) (by kernel_rfl) (by kernel_rfl) 36 (#[.int .i64 0, .int .i64 0, .int .u8 0, .int .u8 0, .int .u8 0, .int .u8 0, .int .u8 0, .int .u8 0, .int .u8 0, .int .u8 0, .int .u8 0, .int .u8 0, .int .u8 0, .int .u8 0, .int .u8 0, .int .u8 0, .int .u8 0, .int .u8 0, .int .u8 0, .int .u8 0, .int .u8 0, .int .u8 0, .int .u8 0, .int .u8 0, .int .u8 0, .int .u8 0, .int .u8 0, .int .u8 0, .int .u8 0, .int .u8 0, .int .u8 0, .int .u8 0, .int .u8 0, .int .u8 0, .int .u64 0]) h21 (by kernel_rfl) (by kernel_rfl) (Pro.c_one _)) ?_
  clear eV24
  have h26 := kV24.bo h20 (by omega)
  have K27 := K22.no kV24 (by omega)
  have z28 := kV24.size
  refine ps_end ?_
  refine then_n ?_
  refine sy_sq (part_VoteKnown 14) (part_VoteKnown 15) ?_
  refine sy_reg ?_
  refine rg_plain 2 (opsAt (part_VoteKnown 14)) [0, 1, 2, 3, 4, 5, 6] (by kernel_rfl) (by kernel_rfl) ?_
  refine ps_p (o_VoteKnown 14 0) (.agg (Att.c attOne)) (exec_load_row 29 (.tmp 1) (by kernel_rfl) g1 (by kernel_rfl) _ _ (0, 0) _ (h26) Try.underlying29 rfl (by rw [Att.c_size _ (show attOne.r.length = 32 from rfl)]; kernel_rfl)) ?_
  refine ps_c (o_VoteKnown 14 1) 16 #[.agg (Att.c attOne)] Try.func16 ((vBytes_one _).mono ?_)
  rintro e V29 ⟨A3, cap3, rfl, hX, hnX, hcX, kV29⟩
  have hltX : ∀ j, (Value.slice A3 37 cap3).ownBlock = some j → j < V29.heap.size := fun j hj => hX.lt hj
  have hnw : NewFrom w.heap.size (.slice A3 37 cap3) := fun j hj => Nat.le_trans K27.size (hnX j hj)
  refine ⟨_, rfl, ?_⟩
  have h30 := kV29.bk h26
  have h31 := kV29.bk h25
  have K32 := K27.nn kV29
  have z33 := kV29.size
  refine ps_k (o_VoteKnown 14 2) (.tuple #[.slice A3 37 cap3, .int .i64 0]) ?_
  refine ps_k (o_VoteKnown 14 3) (.slice A3 37 cap3) ?_
  refine ps_k (o_VoteKnown 14 4) (.int .i64 0) ?_
  refine ps_k (o_VoteKnown 14 5) (.slice A3 37 cap3) ?_
  refine ps_k (o_VoteKnown 14 6) (.int .i64 0) ?_
  refine ps_end ?_
  refine then_n ?_
  refine sy_sq (part_VoteKnown 30) (part_VoteKnown 31) ?_
  refine sy_sq (part_VoteKnown 60) (part_VoteKnown 61) ?_
  refine sy_reg ?_
  refine rg_plain 3 (opsAt (part_VoteKnown 60)) [0, 1, 2] (by kernel_rfl) (by kernel_rfl) ?_
  refine ps_k (o_VoteKnown 60 0) (.slice A3 37 cap3) ?_
  refine ps_p (o_VoteKnown 60 1) (.int .i64 37) (exec_len (.tmp 29) 22 _ (by kernel_rfl) Try.underlying22 A3 37 cap3 (by kernel_rfl)) ?_
  refine ps_k (o_VoteKnown 60 2) (.bool false) ?_
  refine ps_end ?_
  refine then_n ?_
  refine sy_n (.tmp 31) (part_VoteKnown 122) (part_VoteKnown 123) ?_
  refine sy_sk ?_
  refine then_n ?_
  refine sy_sq (part_VoteKnown 62) (part_VoteKnown 63) ?_
  refine sy_reg ?_
  refine rg_plain 5 (opsAt (part_VoteKnown 62)) [0, 1, 2] (by kernel_rfl) (by kernel_rfl) ?_
  refine ps_p (o_VoteKnown 62 0) (.agg (Att.c attOne)) (exec_load_row 29 (.tmp 1) (by kernel_rfl) g1 (by kernel_rfl) _ _ (0, 0) _ (h30) Try.underlying29 rfl (by rw [Att.c_size _ (show attOne.r.length = 32 from rfl)]; kernel_rfl)) ?_
  obtain ⟨V34, eV34, g5, eg5, h35, kV34⟩ := alloc_step V29 (#[.int .i64 0, .int .i64 0, .int .i64 0, .int .u8 0, .int .u8 0, .int .u8 0, .int .u8 0, .int .u8 0, .int .u8 0, .int .u8 0, .int .u8 0, .int .u8 0, .int .u8 0, .int .u8 0, .int .u8 0, .int .u8 0, .int .u8 0, .int .u8 0, .int .u8 0, .int .u8 0, .int .u8 0, .int .u8 0, .int .u8 0, .int .u8 0, .int .u8 0, .int .u8 0, .int .u8 0, .int .u8 0, .int .u8 0, .int .u8 0, .int .u8 0, .int .u8 0, .int .u8 0, .int .u8 0, .int .u8 0, .int .u64 0]) 29
  have n36 : g1 < g5 := eg5 ▸ lt_of_block h30
  have n37 : g2 < g5 := eg5 ▸ lt_of_block h31
  have n38 : w.heap.size ≤ g5 := eg5 ▸ K32.size
  refine ps_r (o_VoteKnown 62 1) (pT g5 0) (w' := V34) (by rw [← eV34, ← eg5]; exact exec_alloc0 29 (by kernel_rfl) (.agg (#[.int .i64 0, .int .i64 0, .int .i64 0, .int .u8 0, .int .u8 0, .int .u8 0, .int .u8 0, .int .u8 0, .int .u8 0, .int .u8 0, .int .u8 0, .int .u8 0, .int .u8 0, .int .u8 0, .int .u8 0, .int .u8 0, .int .u8 0, .int .u8 0, .int .u8 0, .int .u8 0, .int .u8 0, .int .u8 0, .int .u8 0, .int .u8 0, .int .u8 0, .int .u8 0, .int .u8 0, .int .u8 0, .int .u8 0, .int .u8 0, .int .u8 0, .int .u8 0, .int .u8 0, .int .u8 0, .int .u8 0, .int .u64 0])) (by kernel_rfl)) ?_
  clear eV34
  have h39 := kV34.bk h30
  have h40 := kV34.bk h31
  have h41 : Row V34 5 1 (.slice A3 37 cap3) 37 (B b37) := hX.keeps kV34 (fun _ _ x => x)
  have K42 := K32.nn kV34
  have z43 := kV34.size
  obtain ⟨V44, eV44, kV44⟩ := rowset_step V34 g5 ((Att.c attOne))
  have h45 : V44.heap[g5]? = some (.cells (Att.c attOne) 29 (0, 0)) := eV44 ▸ setRow_heap _ _ _ _ _ _ h35
  refine ps_s (o_VoteKnown 62 2) (w' := V44) (by rw [← eV44]; exact exec_store_row 29 (.tmp 5) (.tmp 32) (by kernel_rfl) g5 ((Att.c attOne)) (by kernel_rfl) (by kernel_rfl) 29 (#[.int .i64 0, .int .i64 0, .int .i64 0, .int .u8 0, .int .u8 0, .int .u8 0, .int .u8 0, .int .u8 0, .int .u8 0, .int .u8 0, .int .u8 0, .int .u8 0, .int .u8 0, .int .u8 0, .int .u8 0, .int .u8 0, .int .u8 0, .int .u8 0, .int .u8 0, .int .u8 0, .int .u8 0, .int .u8 0, .int .u8 0, .int .u8 0, .int .u8 0, .int .u8 0, .int .u8 0, .int .u8 0, .int .u8 0, .int .u8 0, .int .u8 0, .int .u8 0, .int .u8 0, .int .u8 0, .int .u8 0, .int .u64 0]) h35 (by kernel_rfl) (by kernel_rfl) (Att.c_one _)) ?_
  clear eV44
  have h46 := kV44.bo h39 (by omega)
  have h47 := kV44.bo h40 (by omega)
  have h48 : Row V44 5 1 (.slice A3 37 cap3) 37 (B b37) := h41.keeps kV44 (fun j hj e => by have := hltX j hj; unfold Own.One at e; omega)
  have K49 := K42.no kV44 (by omega)
  have z50 := kV44.size
  refine ps_end ?_
  refine then_n ?_
  refine sy_sq (part_VoteKnown 126) (part_VoteKnown 127) ?_
  refine sy_reg ?_
  refine rg_plain 6 (opsAt (part_VoteKnown 126)) [0, 1] (by kernel_rfl) (by kernel_rfl) ?_
  refine ps_k (o_VoteKnown 126 0) (pT g5 35) ?_
  obtain ⟨V51, eV51, kV51⟩ := cell_step V44 g5 35 (.int .u64 9)
  have h52 : V51.heap[g5]? = some (.cells (Att.c ⟨attOne.v, attOne.s, attOne.t, attOne.r, 9⟩) 29 (0, 0)) := eV51 ▸ ((heap_setCell_same _ g5 35 _ _ (.int .u64 9) h45).trans (congrArg (fun c => some (Obj.cells c 29 (0, 0))) (show (Att.c attOne : Array Value).setIfInBounds 35 (.int .u64 9) = Att.c ⟨attOne.v, attOne.s, attOne.t, attOne.r, 9⟩ from Att.c_settag _ _ (show attOne.r.length = 32 from rfl))))
  refine ps_s (o_VoteKnown 126 1) (w' := V51) (by rw [← eV51]; exact exec_store_cell 27 (.tmp 33) (.const (.int .u64 9)) (by kernel_rfl) g5 35 (by kernel_rfl) (.int .u64 9) (by kernel_rfl) (by kernel_rfl) (by kernel_rfl) (uN attOne.g) (rc (h45) (Att.c_tag _ (show attOne.r.length = 32 from rfl))) (frozen_of_row _ _ _ _ _ h45) (by kernel_rfl)) ?_
  clear eV51
  have h53 := kV51.bo h46 (by omega)
  have h54 := kV51.bo h47 (by omega)
  have h55 : Row V51 5 1 (.slice A3 37 cap3) 37 (B b37) := h48.keeps kV51 (fun j hj e => by have := hltX j hj; unfold Own.One at e; omega)
  have K56 := K49.no kV51 (by omega)
  have z57 := kV51.size
  refine ps_end ?_
  refine then_n ?_
  refine sy_sq (part_VoteKnown 254) (part_VoteKnown 255) ?_
  refine sy_reg ?_
  refine rg_plain 7 (opsAt (part_VoteKnown 254)) [0, 1, 2, 3, 4, 5, 6, 7] (by kernel_rfl) (by kernel_rfl) ?_
  refine ps_p (o_VoteKnown 254 0) (.agg (Att.c attOne)) (exec_load_row 29 (.tmp 1) (by kernel_rfl) g1 (by kernel_rfl) _ _ (0, 0) _ (h53) Try.underlying29 rfl (by rw [Att.c_size _ (show attOne.r.length = 32 from rfl)]; kernel_rfl)) ?_
  refine ps_c (o_VoteKnown 254 1) 26 #[.agg (Att.c attOne)] Try.func26 ((vDigest_ok attOne _ attOne_ok attOne_fine).mono ?_)
  rintro e V58 ⟨rfl, kV58⟩
  refine ⟨_, rfl, ?_⟩
  have h59 := kV58.bk h53
  have h60 := kV58.bk h54
  have h61 : Row V58 5 1 (.slice A3 37 cap3) 37 (B b37) := h55.keeps kV58 (fun _ _ x => x)
  have h62 := kV58.bk h52
  have K63 := K56.nn kV58
  have z64 := kV58.size
  refine ps_k (o_VoteKnown 254 2) (.tuple #[.agg (B attOne.dig).toArray, .int .i64 0]) ?_
  refine ps_k (o_VoteKnown 254 3) (.agg (B attOne.dig).toArray) ?_
  refine ps_k (o_VoteKnown 254 4) (.int .i64 0) ?_
  obtain ⟨V65, eV65, d6, ed6, h66, kV65⟩ := alloc_step V58 (zr_u8_32) 26
  have n67 : g1 < d6 := ed6 ▸ lt_of_block h59
  have n68 : g2 < d6 := ed6 ▸ lt_of_block h60
  have n69 : g5 < d6 := ed6 ▸ lt_of_block h62
  have n70 : w.heap.size ≤ d6 := ed6 ▸ K63.size
  refine ps_r (o_VoteKnown 254 5) (pT d6 0) (w' := V65) (by rw [← eV65, ← ed6]; exact exec_alloc0 26 (by kernel_rfl) (.agg (zr_u8_32)) (by kernel_rfl)) ?_
  clear eV65
  have h71 := kV65.bk h59
  have h72 := kV65.bk h60
  have h73 : Row V65 5 1 (.slice A3 37 cap3) 37 (B b37) := h61.keeps kV65 (fun _ _ x => x)
  have h74 := kV65.bk h62
  have K75 := K63.nn kV65
  have z76 := kV65.size
  obtain ⟨V77, eV77, kV77⟩ := rowset_step V65 d6 ((B attOne.dig).toArray)
  have h78 : V77.heap[d6]? = some (.cells ((B attOne.dig).toArray) 26 (0, 0)) := eV77 ▸ setRow_heap _ _ _ _ _ _ h66
  refine ps_s (o_VoteKnown 254 6) (w' := V77) (by rw [← eV77]; exact exec_store_row 26 (.tmp 6) (.tmp 37) (by kernel_rfl) d6 ((B attOne.dig).toArray) (by kernel_rfl) (by kernel_rfl) 26 (zr_u8_32) h66 (by rw [Bz_size, attOne.dig_len]; kernel_rfl) (by rw [Bz_size, attOne.dig_len]; rfl) (by rw [List.all_toArray]; exact List.all_eq_true.2 (B_one _))) ?_
  clear eV77
  have h79 := kV77.bo h71 (by omega)
  have h80 := kV77.bo h72 (by omega)
  have h81 : Row V77 5 1 (.slice A3 37 cap3) 37 (B b37) := h73.keeps kV77 (fun j hj e => by have := hltX j hj; unfold Own.One at e; omega)
  have h82 := kV77.bo h74 (by omega)
  have K83 := K75.no kV77 (by omega)
  have z84 := kV77.size
  refine ps_k (o_VoteKnown 254 7) (.int .i64 0) ?_
  refine ps_end ?_
  refine sy_a ⟨#[.bool false, pT g1 0, pT g2 0, .slice A3 37 cap3, .int .i64 0, pT g5 0, pT d6 0, .int .i64 0, undef, undef, undef, undef, undef, undef, undef, undef, undef, undef, undef, undef, undef, undef, .agg (Att.c attOne), .agg (Pro.c proOne), .tuple #[.slice A3 37 cap3, .int .i64 0], .agg (Att.c attOne), .tuple #[.slice A3 37 cap3, .int .i64 0], .slice A3 37 cap3, .int .i64 0, .slice A3 37 cap3, .int .i64 37, .bool false, .agg (Att.c attOne), pT g5 35, .tuple #[.agg (B attOne.dig).toArray, .int .i64 0], .agg (Att.c attOne), .tuple #[.agg (B attOne.dig).toArray, .int .i64 0], .agg (B attOne.dig).toArray, .int .i64 0, undef, undef, undef, undef, undef, undef, undef, undef, undef, undef, undef, undef, undef, undef, undef, undef, undef, undef, undef, undef, undef, undef, undef, undef, undef, undef, undef, undef, undef, undef, undef, undef, undef, undef, undef, undef, undef, undef, undef, undef, undef, undef, undef, undef, undef, undef, undef, undef, undef, undef, undef, undef, undef, undef, undef, undef, undef, undef, undef, undef, undef, undef, undef, undef, undef, undef, undef, undef, undef, undef, undef, undef, undef, undef, undef, undef, undef, undef, undef, undef, undef, undef, undef, undef, undef, undef, undef, undef, undef, undef, undef, undef, undef, undef, undef, undef, undef, undef, undef, undef, undef, undef, undef, undef, undef, undef, undef, undef, undef, undef, undef, undef], []⟩ ?_
  refine then_n ?_
  refine sy_sq (part_VoteKnown 510) (part_VoteKnown 511) ?_
  refine sy_reg ?_
  refine rg_plain 8 (opsAt (part_VoteKnown 510)) [0, 1, 2, 3, 4, 5, 6, 7] (by kernel_rfl) (by kernel_rfl) ?_
  refine ps_p (o_VoteKnown 510 0) (.agg (Att.c ⟨attOne.v, attOne.s, attOne.t, attOne.r, 9⟩)) (exec_load_row 29 (.tmp 5) (by kernel_rfl) g5 (by kernel_rfl) _ _ (0, 0) _ (h82) Try.underlying29 rfl (by rw [Att.c_size (⟨attOne.v, attOne.s, attOne.t, attOne.r, 9⟩) (show attOne.r.length = 32 from rfl)]; kernel_rfl)) ?_
  refine ps_c (o_VoteKnown 510 1) 26 #[.agg (Att.c ⟨attOne.v, attOne.s, attOne.t, attOne.r, 9⟩)] Try.func26 ((vDigest_tag _).mono ?_)
  rintro e V85 ⟨rfl, kV85⟩
  refine ⟨_, rfl, ?_⟩
  have h86 := kV85.bk h79
  have h87 := kV85.bk h80
  have h88 : Row V85 5 1 (.slice A3 37 cap3) 37 (B b37) := h81.keeps kV85 (fun _ _ x => x)
  have h89 := kV85.bk h82
  have h90 := kV85.bk h78
  have K91 := K83.nn kV85
  have z92 := kV85.size
  refine ps_k (o_VoteKnown 510 2) (.tuple #[.agg (B attOne.dig).toArray, .int .i64 0]) ?_
  refine ps_k (o_VoteKnown 510 3) (.agg (B attOne.dig).toArray) ?_
  refine ps_k (o_VoteKnown 510 4) (.int .i64 0) ?_
  obtain ⟨V93, eV93, d8, ed8, h94, kV93⟩ := alloc_step V85 (zr_u8_32) 26
  have n95 : g1 < d8 := ed8 ▸ lt_of_block h86
  have n96 : g2 < d8 := ed8 ▸ lt_of_block h87
  have n97 : g5 < d8 := ed8 ▸ lt_of_block h89
  have n98 : d6 < d8 := ed8 ▸ lt_of_block h90
  have n99 : w.heap.size ≤ d8 := ed8 ▸ K91.size
  refine ps_r (o_VoteKnown 510 5) (pT d8 0) (w' := V93) (by rw [← eV93, ← ed8]; exact exec_alloc0 26 (by kernel_rfl) (.agg (zr_u8_32)) (by kernel_rfl)) ?_
  clear eV93
  have h100 := kV93.bk h86
  have h101 := kV93.bk h87
  have h102 : Row V93 5 1 (.slice A3 37 cap3) 37 (B b37) := h88.keeps kV93 (fun _ _ x => x)
  have h103 := kV93.bk h89
  have h104 := kV93.bk h90
  have K105 := K91.nn kV93
  have z106 := kV93.size
  obtain ⟨V107, eV107, kV107⟩ := rowset_step V93 d8 ((B attOne.dig).toArray)
  have h108 : V107.heap[d8]? = some (.cells ((B attOne.dig).toArray) 26 (0, 0)) := eV107 ▸ setRow_heap _ _ _ _ _ _ h94
  refine ps_s (o_VoteKnown 510 6) (w' := V107) (by rw [← eV107]; exact exec_store_row 26 (.tmp 8) (.tmp 42) (by kernel_rfl) d8 ((B attOne.dig).toArray) (by kernel_rfl) (by kernel_rfl) 26 (zr_u8_32) h94 (by rw [Bz_size, attOne.dig_len]; kernel_rfl) (by rw [Bz_size, attOne.dig_len]; rfl) (by rw [List.all_toArray]; exact List.all_eq_true.2 (B_one _))) ?_
  clear eV107
  have h109 := kV107.bo h100 (by omega)
  have h110 := kV107.bo h101 (by omega)
  have h111 : Row V107 5 1 (.slice A3 37 cap3) 37 (B b37) := h102.keeps kV107 (fun j hj e => by have := hltX j hj; unfold Own.One at e; omega)
  have h112 := kV107.bo h103 (by omega)
  have h113 := kV107.bo h104 (by omega)
  have K114 := K105.no kV107 (by omega)
  have z115 := kV107.size
  refine ps_k (o_VoteKnown 510 7) (.int .i64 0) ?_
  refine ps_end ?_
  refine then_n ?_
  refine sy_sq (part_VoteKnown 1022) (part_VoteKnown 1023) ?_
  refine sy_np ?_
  refine sy_reg ?_
  refine an_begin 9 19 (opsAt (part_VoteKnown 1022)) (fun W => (W.heap[d6]? = some (.cells ((B attOne.dig).toArray) 26 (0, 0))) ∧ (W.heap[d8]? = some (.cells ((B attOne.dig).toArray) 26 (0, 0))) ∧ (Row W 5 1 (.slice A3 37 cap3) 37 (B b37))) #[false, false, false, false, false, false, false, false, false, false, false, false, false, false, false, false, false, false, false] (by kernel_rfl) (by kernel_rfl) (by kernel_rfl) (by kernel_rfl) ?_
  obtain ⟨V116, eV116, kV116⟩ := drew_step V107
  rw [eV116]
  clear eV116
  have h117 := kV116.bk h109
  have h118 := kV116.bk h110
  have h119 : Row V116 5 1 (.slice A3 37 cap3) 37 (B b37) := h111.keeps kV116 (fun _ _ x => x)
  have h120 := kV116.bk h112
  have h121 := kV116.bk h113
  have h122 := kV116.bk h108
  have K123 := K114.nn kV116
  have z124 := kV116.size
  refine an_k 0 (o_VoteKnown 1022 0) (.int .i64 0) ⟨h121, h122, h119⟩ ?_
  refine an_k 1 (o_VoteKnown 1022 1) (.bool true) ⟨h121, h122, h119⟩ ?_
  refine an_k 2 (o_VoteKnown 1022 2) (.bool true) ⟨h121, h122, h119⟩ ?_
  refine an_k 3 (o_VoteKnown 1022 3) (.int .i64 0) ⟨h121, h122, h119⟩ ?_
  refine an_k 4 (o_VoteKnown 1022 4) (.bool true) ⟨h121, h122, h119⟩ ?_
  refine an_k 5 (o_VoteKnown 1022 5) (.bool true) ⟨h121, h122, h119⟩ ?_
  refine an_k 6 (o_VoteKnown 1022 6) (.bool true) ⟨h121, h122, h119⟩ ?_
  refine an_v 7 (o_VoteKnown 1022 7) (.agg ((B attOne.dig).toArray)) (fun W hS => exec_load_row 26 (.tmp 6) (by kernel_rfl) d6 (by kernel_rfl) _ _ (0, 0) _ (hS.1) Try.underlying26 rfl (by rw [Bz_size, attOne.dig_len]; kernel_rfl)) ⟨h121, h122, h119⟩ ?_
  refine an_k 8 (o_VoteKnown 1022 8) (.slice A3 37 cap3) ⟨h121, h122, h119⟩ ?_
  refine an_v 9 (o_VoteKnown 1022 9) (.slice A3 36 cap3) (fun W hS => exec_slice_to 22 (.tmp 52) (.const (.int .i64 36)) (by kernel_rfl) A3 37 cap3 (by kernel_rfl) .i64 36 (by kernel_rfl) 5 Try.underlying22 (by kernel_rfl) (by omega)) ⟨h121, h122, h119⟩ ?_
  refine an_o 10 ?_
  refine on_c (o_VoteKnown 1022 10) 38 #[.slice A3 36 cap3] Try.func38 ((ksum_one _ h119).mono ?_)
  rintro e V125 ⟨rfl, kV125⟩
  refine ⟨_, rfl, ?_⟩
  have h126 := kV125.bk h117
  have h127 := kV125.bk h118
  have h128 : Row V125 5 1 (.slice A3 37 cap3) 37 (B b37) := h119.keeps kV125 (fun _ _ x => x)
  have h129 := kV125.bk h120
  have h130 := kV125.bk h121
  have h131 := kV125.bk h122
  have K132 := K123.nn kV125
  have z133 := kV125.size
  refine ⟨⟨h130, h131, h128⟩, ?_⟩
  refine an_v 11 (o_VoteKnown 1022 11) (.bool true) (fun W hS => exec_cast (congrArg Value.bool (by simp)) (exec_binop .eql 26 26 (.tmp 51) (.tmp 54) (by kernel_rfl) (.agg (B attOne.dig).toArray) (.agg (B attOne.dig).toArray) _ (by kernel_rfl) (by kernel_rfl) (run_eqGuard_agg _ _ _ _ _ _ _ hash_guard) (hash_eq attOne.dig attOne.dig attOne.dig_len attOne.dig_len _))) ⟨h130, h131, h128⟩ ?_
  refine an_k 12 (o_VoteKnown 1022 12) (.bool true) ⟨h130, h131, h128⟩ ?_
  refine an_k 13 (o_VoteKnown 1022 13) (.bool true) ⟨h130, h131, h128⟩ ?_
  refine an_v 14 (o_VoteKnown 1022 14) (.agg ((B attOne.dig).toArray)) (fun W hS => exec_load_row 26 (.tmp 8) (by kernel_rfl) d8 (by kernel_rfl) _ _ (0, 0) _ (hS.2.1) Try.underlying26 rfl (by rw [Bz_size, attOne.dig_len]; kernel_rfl)) ⟨h130, h131, h128⟩ ?_
  refine an_v 15 (o_VoteKnown 1022 15) (.agg ((B attOne.dig).toArray)) (fun W hS => exec_load_row 26 (.tmp 6) (by kernel_rfl) d6 (by kernel_rfl) _ _ (0, 0) _ (hS.1) Try.underlying26 rfl (by rw [Bz_size, attOne.dig_len]; kernel_rfl)) ⟨h130, h131, h128⟩ ?_
  refine an_v 16 (o_VoteKnown 1022 16) (.bool true) (fun W hS => exec_cast (congrArg Value.bool (by simp)) (exec_binop .eql 26 26 (.tmp 58) (.tmp 59) (by kernel_rfl) (.agg (B attOne.dig).toArray) (.agg (B attOne.dig).toArray) _ (by kernel_rfl) (by kernel_rfl) (run_eqGuard_agg _ _ _ _ _ _ _ hash_guard) (hash_eq attOne.dig attOne.dig attOne.dig_len attOne.dig_len _))) ⟨h130, h131, h128⟩ ?_
  refine an_k 17 (o_VoteKnown 1022 17) (.bool true) ⟨h130, h131, h128⟩ ?_
  refine an_o 18 ?_
  refine on_r (o_VoteKnown 1022 18) (.bool true) (w' := V125) (by kernel_rfl) ?_
  refine ⟨⟨h130, h131, h128⟩, ?_⟩
  refine an_end (by kernel_rfl) ?_
  refine sy_a ⟨#[.bool false, pT g1 0, pT g2 0, .slice A3 37 cap3, .int .i64 0, pT g5 0, pT d6 0, .int .i64 0, pT d8 0, .int .i64 0, .bool true, undef, undef, undef, undef, undef, undef, undef, undef, undef, undef, undef, .agg (Att.c attOne), .agg (Pro.c proOne), .tuple #[.slice A3 37 cap3, .int .i64 0], .agg (Att.c attOne), .tuple #[.slice A3 37 cap3, .int .i64 0], .slice A3 37 cap3, .int .i64 0, .slice A3 37 cap3, .int .i64 37, .bool false, .agg (Att.c attOne), pT g5 35, .tuple #[.agg (B attOne.dig).toArray, .int .i64 0], .agg (Att.c attOne), .tuple #[.agg (B attOne.dig).toArray, .int .i64 0], .agg (B attOne.dig).toArray, .int .i64 0, .tuple #[.agg (B attOne.dig).toArray, .int .i64 0], .agg (Att.c ⟨attOne.v, attOne.s, attOne.t, attOne.r, 9⟩), .tuple #[.agg (B attOne.dig).toArray, .int .i64 0], .agg (B attOne.dig).toArray, .int .i64 0, .int .i64 0, .bool true, .bool true, .int .i64 0, .bool true, .bool true, .bool true, .agg ((B attOne.dig).toArray), .slice A3 37 cap3, .slice A3 36 cap3, .agg (B attOne.dig).toArray, .bool true, .bool true, .bool true, .agg ((B attOne.dig).toArray), .agg ((B attOne.dig).toArray), .bool true, .bool true, undef, undef, undef, undef, undef, undef, undef, undef, undef, undef, undef, undef, undef, undef, undef, undef, undef, undef, undef, undef, undef, undef, undef, undef, undef, undef, undef, undef, undef, undef, undef, undef, undef, undef, undef, undef, undef, undef, undef, undef, undef, undef, undef, undef, undef, undef, undef, undef, undef, undef, undef, undef, undef, undef, undef, undef, undef, undef, undef, undef, undef, undef, undef, undef, undef, undef, undef, undef, undef, undef, undef, undef, undef, undef, undef, undef, undef, undef, undef, undef, undef, undef, undef, undef, undef, undef, undef, undef, undef], []⟩ ?_
  refine then_n ?_
  refine sy_sq (part_VoteKnown 2046) (part_VoteKnown 2047) ?_
  refine sy_cut (fun a V => ∃ (g11 g12 g13 : Nat), (a = ⟨#[.bool false, .pointer (some ⟨g1, 0, none⟩), .pointer (some ⟨g2, 0, none⟩), .slice A3 37 cap3, .int .i64 0, .pointer (some ⟨g5, 0, none⟩), .pointer (some ⟨d6, 0, none⟩), .int .i64 0, .pointer (some ⟨d8, 0, none⟩), .int .i64 0, .bool true, .pointer (some ⟨g11, 0, none⟩), .pointer (some ⟨g12, 0, none⟩), .pointer (some ⟨g13, 0, none⟩), undef, undef, undef, undef, undef, undef, undef, undef, .agg (Att.c attOne), .agg (Pro.c proOne), .tuple #[.slice A3 37 cap3, .int .i64 0], .agg (Att.c attOne), .tuple #[.slice A3 37 cap3, .int .i64 0], .slice A3 37 cap3, .int .i64 0, .slice A3 37 cap3, .int .i64 37, .bool false, .agg (Att.c attOne), .pointer (some ⟨g5, 35, none⟩), .tuple #[.agg (B attOne.dig).toArray, .int .i64 0], .agg (Att.c attOne), .tuple #[.agg (B attOne.dig).toArray, .int .i64 0], .agg (B attOne.dig).toArray, .int .i64 0, .tuple #[.agg (B attOne.dig).toArray, .int .i64 0], .agg (Att.c ⟨attOne.v, attOne.s, attOne.t, attOne.r, 9⟩), .tuple #[.agg (B attOne.dig).toArray, .int .i64 0], .agg (B attOne.dig).toArray, .int .i64 0, .int .i64 0, .bool true, .bool true, .int .i64 0, .bool true, .bool true, .bool true, .agg ((B attOne.dig).toArray), .slice A3 37 cap3, .slice A3 36 cap3, .agg (B attOne.dig).toArray, .bool true, .bool true, .bool true, .agg ((B attOne.dig).toArray), .agg ((B attOne.dig).toArray), .bool true, .bool true, .agg (Att.c attOne), .agg (Att.c attOne), .agg (Att.c attOne), undef, undef, undef, undef, undef, undef, undef, undef, undef, undef, undef, undef, undef, undef, undef, undef, undef, undef, undef, undef, undef, undef, undef, undef, undef, undef, undef, undef, undef, undef, undef, undef, undef, undef, undef, undef, undef, undef, undef, undef, undef, undef, undef, undef, undef, undef, undef, undef, undef, undef, undef, undef, undef, undef, undef, undef, undef, undef, undef, undef, undef, undef, undef, undef, undef, undef, undef, undef, undef, undef, undef, undef, undef, undef, undef, undef, undef, undef, undef, undef, undef, undef, undef, undef, undef, undef], []⟩) ∧ (V.heap[g1]? = some (.cells (Att.c attOne) 29 (0, 0))) ∧ (V.heap[g2]? = some (.cells (Pro.c proOne) 36 (0, 0))) ∧ (Row V 5 1 (.slice A3 37 cap3) 37 (B b37)) ∧ (V.heap[g5]? = some (.cells (Att.c ⟨attOne.v, attOne.s, attOne.t, attOne.r, 9⟩) 29 (0, 0))) ∧ (V.heap[d6]? = some (.cells ((B attOne.dig).toArray) 26 (0, 0))) ∧ (V.heap[d8]? = some (.cells ((B attOne.dig).toArray) 26 (0, 0))) ∧ (V.heap[g11]? = some (.cells (Att.c attOne) 29 (0, 0))) ∧ (V.heap[g12]? = some (.cells (Att.c attOne) 29 (0, 0))) ∧ (V.heap[g13]? = some (.cells (Att.c attOne) 29 (0, 0))) ∧ (g11 ≠ g12 ∧ g11 ≠ g13 ∧ g12 ≠ g13 ∧ g11 ≠ g1 ∧ g11 ≠ g2 ∧ g11 ≠ g5 ∧ g11 ≠ d6 ∧ g11 ≠ d8 ∧ g12 ≠ g1 ∧ g12 ≠ g2 ∧ g12 ≠ g5 ∧ g12 ≠ d6 ∧ g12 ≠ d8 ∧ g13 ≠ g1 ∧ g13 ≠ g2 ∧ g13 ≠ g5 ∧ g13 ≠ d6 ∧ g13 ≠ d8 ∧ w.heap.size ≤ g11 ∧ w.heap.size ≤ g12 ∧ w.heap.size ≤ g13 ∧ V125.heap.size ≤ g11 ∧ V125.heap.size ≤ g12 ∧ V125.heap.size ≤ g13) ∧ (Keeps Nob w V)) ?_ ?_
  · refine sy_np ?_
    refine sy_reg ?_
    refine an_begin 10 9 (opsAt (part_VoteKnown 2046)) (fun W => (W.heap[g1]? = some (.cells (Att.c attOne) 29 (0, 0)))) #[false, false, false, false, false, false, false, false, false] (by kernel_rfl) (by kernel_rfl) (by kernel_rfl) (by kernel_rfl) ?_
    obtain ⟨V134, eV134, kV134⟩ := drew_step V125
    rw [eV134]
    clear eV134
    have h135 := kV134.bk h126
    have h136 := kV134.bk h127
    have h137 : Row V134 5 1 (.slice A3 37 cap3) 37 (B b37) := h128.keeps kV134 (fun _ _ x => x)
    have h138 := kV134.bk h129
    have h139 := kV134.bk h130
    have h140 := kV134.bk h131
    have K141 := K132.nn kV134
    have z142 := kV134.size
    refine an_v 0 (o_VoteKnown 2046 0) (.agg (Att.c attOne)) (fun W hS => exec_load_row 29 (.tmp 1) (by kernel_rfl) g1 (by kernel_rfl) _ _ (0, 0) _ (hS) Try.underlying29 rfl (by rw [Att.c_size _ (show attOne.r.length = 32 from rfl)]; kernel_rfl)) h135 ?_
    refine an_v 1 (o_VoteKnown 2046 1) (.agg (Att.c attOne)) (fun W hS => exec_load_row 29 (.tmp 1) (by kernel_rfl) g1 (by kernel_rfl) _ _ (0, 0) _ (hS) Try.underlying29 rfl (by rw [Att.c_size _ (show attOne.r.length = 32 from rfl)]; kernel_rfl)) h135 ?_
    refine an_v 2 (o_VoteKnown 2046 2) (.agg (Att.c attOne)) (fun W hS => exec_load_row 29 (.tmp 1) (by kernel_rfl) g1 (by kernel_rfl) _ _ (0, 0) _ (hS) Try.underlying29 rfl (by rw [Att.c_size _ (show attOne.r.length = 32 from rfl)]; kernel_rfl)) h135 ?_
    refine an_three 3 4 5 (by kernel_rfl) ?_ ?_ ?_
    · obtain ⟨V143, eV143, g11, eg11, h144, kV143⟩ := alloc_step V134 (#[.int .i64 0, .int .i64 0, .int .i64 0, .int .u8 0, .int .u8 0, .int .u8 0, .int .u8 0, .int .u8 0, .int .u8 0, .int .u8 0, .int .u8 0, .int .u8 0, .int .u8 0, .int .u8 0, .int .u8 0, .int .u8 0, .int .u8 0, .int .u8 0, .int .u8 0, .int .u8 0, .int .u8 0, .int .u8 0, .int .u8 0, .int .u8 0, .int .u8 0, .int .u8 0, .int .u8 0, .int .u8 0, .int .u8 0, .int .u8 0, .int .u8 0, .int .u8 0, .int .u8 0, .int .u8 0, .int .u8 0, .int .u64 0]) 29
      have n145 : g1 < g11 := eg11 ▸ lt_of_block h135
      have n146 : g2 < g11 := eg11 ▸ lt_of_block h136
      have n147 : g5 < g11 := eg11 ▸ lt_of_block h138
      have n148 : d6 < g11 := eg11 ▸ lt_of_block h139
      have n149 : d8 < g11 := eg11 ▸ lt_of_block h140
      have n150 : w.heap.size ≤ g11 := eg11 ▸ K141.size
      refine on_r (o_VoteKnown 2046 3) (pT g11 0) (w' := V143) (by rw [← eV143, ← eg11]; exact exec_alloc0 29 (by kernel_rfl) (.agg (#[.int .i64 0, .int .i64 0, .int .i64 0, .int .u8 0, .int .u8 0, .int .u8 0, .int .u8 0, .int .u8 0, .int .u8 0, .int .u8 0, .int .u8 0, .int .u8 0, .int .u8 0, .int .u8 0, .int .u8 0, .int .u8 0, .int .u8 0, .int .u8 0, .int .u8 0, .int .u8 0, .int .u8 0, .int .u8 0, .int .u8 0, .int .u8 0, .int .u8 0, .int .u8 0, .int .u8 0, .int .u8 0, .int .u8 0, .int .u8 0, .int .u8 0, .int .u8 0, .int .u8 0, .int .u8 0, .int .u8 0, .int .u64 0])) (by kernel_rfl)) ?_
      clear eV143
      have h151 := kV143.bk h135
      have h152 := kV143.bk h136
      have h153 : Row V143 5 1 (.slice A3 37 cap3) 37 (B b37) := h137.keeps kV143 (fun _ _ x => x)
      have h154 := kV143.bk h138
      have h155 := kV143.bk h139
      have h156 := kV143.bk h140
      have K157 := K141.nn kV143
      have z158 := kV143.size
      refine ⟨h151, ?_⟩
      refine an_two 4 5 (by kernel_rfl) ?_ ?_
      · obtain ⟨V159, eV159, g12, eg12, h160, kV159⟩ := alloc_step V143 (#[.int .i64 0, .int .i64 0, .int .i64 0, .int .u8 0, .int .u8 0, .int .u8 0, .int .u8 0, .int .u8 0, .int .u8 0, .int .u8 0, .int .u8 0, .int .u8 0, .int .u8 0, .int .u8 0, .int .u8 0, .int .u8 0, .int .u8 0, .int .u8 0, .int .u8 0, .int .u8 0, .int .u8 0, .int .u8 0, .int .u8 0, .int .u8 0, .int .u8 0, .int .u8 0, .int .u8 0, .int .u8 0, .int .u8 0, .int .u8 0, .int .u8 0, .int .u8 0, .int .u8 0, .int .u8 0, .int .u8 0, .int .u64 0]) 29
        have n161 : g1 < g12 := eg12 ▸ lt_of_block h151
        have n162 : g2 < g12 := eg12 ▸ lt_of_block h152
        have n163 : g5 < g12 := eg12 ▸ lt_of_block h154
        have n164 : d6 < g12 := eg12 ▸ lt_of_block h155
        have n165 : d8 < g12 := eg12 ▸ lt_of_block h156
        have n166 : g11 < g12 := eg12 ▸ lt_of_block h144
        have n167 : w.heap.size ≤ g12 := eg12 ▸ K157.size
        refine on_r (o_VoteKnown 2046 4) (pT g12 0) (w' := V159) (by rw [← eV159, ← eg12]; exact exec_alloc0 29 (by kernel_rfl) (.agg (#[.int .i64 0, .int .i64 0, .int .i64 0, .int .u8 0, .int .u8 0, .int .u8 0, .int .u8 0, .int .u8 0, .int .u8 0, .int .u8 0, .int .u8 0, .int .u8 0, .int .u8 0, .int .u8 0, .int .u8 0, .int .u8 0, .int .u8 0, .int .u8 0, .int .u8 0, .int .u8 0, .int .u8 0, .int .u8 0, .int .u8 0, .int .u8 0, .int .u8 0, .int .u8 0, .int .u8 0, .int .u8 0, .int .u8 0, .int .u8 0, .int .u8 0, .int .u8 0, .int .u8 0, .int .u8 0, .int .u8 0, .int .u64 0])) (by kernel_rfl)) ?_
        clear eV159
        have h168 := kV159.bk h151
        have h169 := kV159.bk h152
        have h170 : Row V159 5 1 (.slice A3 37 cap3) 37 (B b37) := h153.keeps kV159 (fun _ _ x => x)
        have h171 := kV159.bk h154
        have h172 := kV159.bk h155
        have h173 := kV159.bk h156
        have h174 := kV159.bk h144
        have K175 := K157.nn kV159
        have z176 := kV159.size
        refine ⟨h168, ?_⟩
        refine an_o 5 ?_
        obtain ⟨V177, eV177, g13, eg13, h178, kV177⟩ := alloc_step V159 (#[.int .i64 0, .int .i64 0, .int .i64 0, .int .u8 0, .int .u8 0, .int .u8 0, .int .u8 0, .int .u8 0, .int .u8 0, .int .u8 0, .int .u8 0, .int .u8 0, .int .u8 0, .int .u8 0, .int .u8 0, .int .u8 0, .int .u8 0, .int .u8 0, .int .u8 0, .int .u8 0, .int .u8 0, .int .u8 0, .int .u8 0, .int .u8 0, .int .u8 0, .int .u8 0, .int .u8 0, .int .u8 0, .int .u8 0, .int .u8 0, .int .u8 0, .int .u8 0, .int .u8 0, .int .u8 0, .int .u8 0, .int .u64 0]) 29
        have n179 : g1 < g13 := eg13 ▸ lt_of_block h168
        have n180 : g2 < g13 := eg13 ▸ lt_of_block h169
        have n181 : g5 < g13 := eg13 ▸ lt_of_block h171
        have n182 : d6 < g13 := eg13 ▸ lt_of_block h172
        have n183 : d8 < g13 := eg13 ▸ lt_of_block h173
        have n184 : g11 < g13 := eg13 ▸ lt_of_block h174
        have n185 : g12 < g13 := eg13 ▸ lt_of_block h160
        have n186 : w.heap.size ≤ g13 := eg13 ▸ K175.size
        refine on_r (o_VoteKnown 2046 5) (pT g13 0) (w' := V177) (by rw [← eV177, ← eg13]; exact exec_alloc0 29 (by kernel_rfl) (.agg (#[.int .i64 0, .int .i64 0, .int .i64 0, .int .u8 0, .int .u8 0, .int .u8 0, .int .u8 0, .int .u8 0, .int .u8 0, .int .u8 0, .int .u8 0, .int .u8 0, .int .u8 0, .int .u8 0, .int .u8 0, .int .u8 0, .int .u8 0, .int .u8 0, .int .u8 0, .int .u8 0, .int .u8 0, .int .u8 0, .int .u8 0, .int .u8 0, .int .u8 0, .int .u8 0, .int .u8 0, .int .u8 0, .int .u8 0, .int .u8 0, .int .u8 0, .int .u8 0, .int .u8 0, .int .u8 0, .int .u8 0, .int .u64 0])) (by kernel_rfl)) ?_
        clear eV177
        have h187 := kV177.bk h168
        have h188 := kV177.bk h169
        have h189 : Row V177 5 1 (.slice A3 37 cap3) 37 (B b37) := h170.keeps kV177 (fun _ _ x => x)
        have h190 := kV177.bk h171
        have h191 := kV177.bk h172
        have h192 := kV177.bk h173
        have h193 := kV177.bk h174
        have h194 := kV177.bk h160
        have K195 := K175.nn kV177
        have z196 := kV177.size
        refine ⟨h187, ?_⟩
        refine an_o 6 ?_
        obtain ⟨V197, eV197, kV197⟩ := rowset_step V177 g11 ((Att.c attOne))
        have h198 : V197.heap[g11]? = some (.cells (Att.c attOne) 29 (0, 0)) := eV197 ▸ setRow_heap _ _ _ _ _ _ h193
        refine on_s (o_VoteKnown 2046 6) (w' := V197) (by rw [← eV197]; exact exec_store_row 29 (.tmp 11) (.tmp 62) (by kernel_rfl) g11 ((Att.c attOne)) (by kernel_rfl) (by kernel_rfl) 29 (#[.int .i64 0, .int .i64 0, .int .i64 0, .int .u8 0, .int .u8 0, .int .u8 0, .int .u8 0, .int .u8 0, .int .u8 0, .int .u8 0, .int .u8 0, .int .u8 0, .int .u8 0, .int .u8 0, .int .u8 0, .int .u8 0, .int .u8 0, .int .u8 0, .int .u8 0, .int .u8 0, .int .u8 0, .int .u8 0, .int .u8 0, .int .u8 0, .int .u8 0, .int .u8 0, .int .u8 0, .int .u8 0, .int .u8 0, .int .u8 0, .int .u8 0, .int .u8 0, .int .u8 0, .int .u8 0, .int .u8 0, .int .u64 0]) h193 (by kernel_rfl) (by kernel_rfl) (Att.c_one _)) ?_
        clear eV197
        have h199 := kV197.bo h187 (by omega)
        have h200 := kV197.bo h188 (by omega)
        have h201 : Row V197 5 1 (.slice A3 37 cap3) 37 (B b37) := h189.keeps kV197 (fun j hj e => by have := hltX j hj; unfold Own.One at e; omega)
        have h202 := kV197.bo h190 (by omega)
        have h203 := kV197.bo h191 (by omega)
        have h204 := kV197.bo h192 (by omega)
        have h205 := kV197.bo h194 (by omega)
        have h206 := kV197.bo h178 (by omega)
        have K207 := K195.no kV197 (by omega)
        have z208 := kV197.size
        refine ⟨h199, ?_⟩
        refine an_o 7 ?_
        obtain ⟨V209, eV209, kV209⟩ := rowset_step V197 g12 ((Att.c attOne))
        have h210 : V209.heap[g12]? = some (.cells (Att.c attOne) 29 (0, 0)) := eV209 ▸ setRow_heap _ _ _ _ _ _ h205
        refine on_s (o_VoteKnown 2046 7) (w' := V209) (by rw [← eV209]; exact exec_store_row 29 (.tmp 12) (.tmp 63) (by kernel_rfl) g12 ((Att.c attOne)) (by kernel_rfl) (by kernel_rfl) 29 (#[.int .i64 0, .int .i64 0, .int .i64 0, .int .u8 0, .int .u8 0, .int .u8 0, .int .u8 0, .int .u8 0, .int .u8 0, .int .u8 0, .int .u8 0, .int .u8 0, .int .u8 0, .int .u8 0, .int .u8 0, .int .u8 0, .int .u8 0, .int .u8 0, .int .u8 0, .int .u8 0, .int .u8 0, .int .u8 0, .int .u8 0, .int .u8 0, .int .u8 0, .int .u8 0, .int .u8 0, .int .u8 0, .int .u8 0, .int .u8 0, .int .u8 0, .int .u8 0, .int .u8 0, .int .u8 0, .int .u8 0, .int .u64 0]) h205 (by kernel_rfl) (by kernel_rfl) (Att.c_one _)) ?_
        clear eV209
        have h211 := kV209.bo h199 (by omega)
        have h212 := kV209.bo h200 (by omega)
        have h213 : Row V209 5 1 (.slice A3 37 cap3) 37 (B b37) := h201.keeps kV209 (fun j hj e => by have := hltX j hj; unfold Own.One at e; omega)
        have h214 := kV209.bo h202 (by omega)
        have h215 := kV209.bo h203 (by omega)
        have h216 := kV209.bo h204 (by omega)
        have h217 := kV209.bo h206 (by omega)
        have h218 := kV209.bo h198 (by omega)
        have K219 := K207.no kV209 (by omega)
        have z220 := kV209.size
        refine ⟨h211, ?_⟩
        refine an_o 8 ?_
        obtain ⟨V221, eV221, kV221⟩ := rowset_step V209 g13 ((Att.c attOne))
        have h222 : V221.heap[g13]? = some (.cells (Att.c attOne) 29 (0, 0)) := eV221 ▸ setRow_heap _ _ _ _ _ _ h217
        refine on_s (o_VoteKnown 2046 8) (w' := V221) (by rw [← eV221]; exact exec_store_row 29 (.tmp 13) (.tmp 64) (by kernel_rfl) g13 ((Att.c attOne)) (by kernel_rfl) (by kernel_rfl) 29 (#[.int .i64 0, .int .i64 0, .int .i64 0, .int .u8 0, .int .u8 0, .int .u8 0, .int .u8 0, .int .u8 0, .int .u8 0, .int .u8 0, .int .u8 0, .int .u8 0, .int .u8 0, .int .u8 0, .int .u8 0, .int .u8 0, .int .u8 0, .int .u8 0, .int .u8 0, .int .u8 0, .int .u8 0, .int .u8 0, .int .u8 0, .int .u8 0, .int .u8 0, .int .u8 0, .int .u8 0, .int .u8 0, .int .u8 0, .int .u8 0, .int .u8 0, .int .u8 0, .int .u8 0, .int .u8 0, .int .u8 0, .int .u64 0]) h217 (by kernel_rfl) (by kernel_rfl) (Att.c_one _)) ?_
        clear eV221
        have h223 := kV221.bo h211 (by omega)
        have h224 := kV221.bo h212 (by omega)
        have h225 : Row V221 5 1 (.slice A3 37 cap3) 37 (B b37) := h213.keeps kV221 (fun j hj e => by have := hltX j hj; unfold Own.One at e; omega)
        have h226 := kV221.bo h214 (by omega)
        have h227 := kV221.bo h215 (by omega)
        have h228 := kV221.bo h216 (by omega)
        have h229 := kV221.bo h218 (by omega)
        have h230 := kV221.bo h210 (by omega)
        have K231 := K219.no kV221 (by omega)
        have z232 := kV221.size
        refine ⟨h223, ?_⟩
        refine an_end (by kernel_rfl) ?_
        exact ⟨rfl, g11, g12, g13, by kernel_rfl, h223, h224, h225, h226, h227, h228, h229, h230, h222, by omega, K231⟩
      · obtain ⟨V233, eV233, g13, eg13, h234, kV233⟩ := alloc_step V143 (#[.int .i64 0, .int .i64 0, .int .i64 0, .int .u8 0, .int .u8 0, .int .u8 0, .int .u8 0, .int .u8 0, .int .u8 0, .int .u8 0, .int .u8 0, .int .u8 0, .int .u8 0, .int .u8 0, .int .u8 0, .int .u8 0, .int .u8 0, .int .u8 0, .int .u8 0, .int .u8 0, .int .u8 0, .int .u8 0, .int .u8 0, .int .u8 0, .int .u8 0, .int .u8 0, .int .u8 0, .int .u8 0, .int .u8 0, .int .u8 0, .int .u8 0, .int .u8 0, .int .u8 0, .int .u8 0, .int .u8 0, .int .u64 0]) 29
        have n235 : g1 < g13 := eg13 ▸ lt_of_block h151
        have n236 : g2 < g13 := eg13 ▸ lt_of_block h152
        have n237 : g5 < g13 := eg13 ▸ lt_of_block h154
        have n238 : d6 < g13 := eg13 ▸ lt_of_block h155
        have n239 : d8 < g13 := eg13 ▸ lt_of_block h156
        have n240 : g11 < g13 := eg13 ▸ lt_of_block h144
        have n241 : w.heap.size ≤ g13 := eg13 ▸ K157.size
        refine on_r (o_VoteKnown 2046 5) (pT g13 0) (w' := V233) (by rw [← eV233, ← eg13]; exact exec_alloc0 29 (by kernel_rfl) (.agg (#[.int .i64 0, .int .i64 0, .int .i64 0, .int .u8 0, .int .u8 0, .int .u8 0, .int .u8 0, .int .u8 0, .int .u8 0, .int .u8 0, .int .u8 0, .int .u8 0, .int .u8 0, .int .u8 0, .int .u8 0, .int .u8 0, .int .u8 0, .int .u8 0, .int .u8 0, .int .u8 0, .int .u8 0, .int .u8 0, .int .u8 0, .int .u8 0, .int .u8 0, .int .u8 0, .int .u8 0, .int .u8 0, .int .u8 0, .int .u8 0, .int .u8 0, .int .u8 0, .int .u8 0, .int .u8 0, .int .u8 0, .int .u64 0])) (by kernel_rfl)) ?_
        clear eV233
        have h242 := kV233.bk h151
        have h243 := kV233.bk h152
        have h244 : Row V233 5 1 (.slice A3 37 cap3) 37 (B b37) := h153.keeps kV233 (fun _ _ x => x)
        have h245 := kV233.bk h154
        have h246 := kV233.bk h155
        have h247 := kV233.bk h156
        have h248 := kV233.bk h144
        have K249 := K157.nn kV233
        have z250 := kV233.size
        refine ⟨h242, ?_⟩
        refine an_o 4 ?_
        obtain ⟨V251, eV251, g12, eg12, h252, kV251⟩ := alloc_step V233 (#[.int .i64 0, .int .i64 0, .int .i64 0, .int .u8 0, .int .u8 0, .int .u8 0, .int .u8 0, .int .u8 0, .int .u8 0, .int .u8 0, .int .u8 0, .int .u8 0, .int .u8 0, .int .u8 0, .int .u8 0, .int .u8 0, .int .u8 0, .int .u8 0, .int .u8 0, .int .u8 0, .int .u8 0, .int .u8 0, .int .u8 0, .int .u8 0, .int .u8 0, .int .u8 0, .int .u8 0, .int .u8 0, .int .u8 0, .int .u8 0, .int .u8 0, .int .u8 0, .int .u8 0, .int .u8 0, .int .u8 0, .int .u64 0]) 29
        have n253 : g1 < g12 := eg12 ▸ lt_of_block h242
        have n254 : g2 < g12 := eg12 ▸ lt_of_block h243
        have n255 : g5 < g12 := eg12 ▸ lt_of_block h245
        have n256 : d6 < g12 := eg12 ▸ lt_of_block h246
        have n257 : d8 < g12 := eg12 ▸ lt_of_block h247
        have n258 : g11 < g12 := eg12 ▸ lt_of_block h248
        have n259 : g13 < g12 := eg12 ▸ lt_of_block h234
        have n260 : w.heap.size ≤ g12 := eg12 ▸ K249.size
        refine on_r (o_VoteKnown 2046 4) (pT g12 0) (w' := V251) (by rw [← eV251, ← eg12]; exact exec_alloc0 29 (by kernel_rfl) (.agg (#[.int .i64 0, .int .i64 0, .int .i64 0, .int .u8 0, .int .u8 0, .int .u8 0, .int .u8 0, .int .u8 0, .int .u8 0, .int .u8 0, .int .u8 0, .int .u8 0, .int .u8 0, .int .u8 0, .int .u8 0, .int .u8 0, .int .u8 0, .int .u8 0, .int .u8 0, .int .u8 0, .int .u8 0, .int .u8 0, .int .u8 0, .int .u8 0, .int .u8 0, .int .u8 0, .int .u8 0, .int .u8 0, .int .u8 0, .int .u8 0, .int .u8 0, .int .u8 0, .int .u8 0, .int .u8 0, .int .u8 0, .int .u64 0])) (by kernel_rfl)) ?_
        clear eV251
        have h261 := kV251.bk h242
        have h262 := kV251.bk h243
        have h263 : Row V251 5 1 (.slice A3 37 cap3) 37 (B b37) := h244.keeps kV251 (fun _ _ x => x)
        have h264 := kV251.bk h245
        have h265 := kV251.bk h246
        have h266 := kV251.bk h247
        have h267 := kV251.bk h248
        have h268 := kV251.bk h234
        have K269 := K249.nn kV251
        have z270 := kV251.size
        refine ⟨h261, ?_⟩
        refine an_o 6 ?_
        obtain ⟨V271, eV271, kV271⟩ := rowset_step V251 g11 ((Att.c attOne))
        have h272 : V271.heap[g11]? = some (.cells (Att.c attOne) 29 (0, 0)) := eV271 ▸ setRow_heap _ _ _ _ _ _ h267
        refine on_s (o_VoteKnown 2046 6) (w' := V271) (by rw [← eV271]; exact exec_store_row 29 (.tmp 11) (.tmp 62) (by kernel_rfl) g11 ((Att.c attOne)) (by kernel_rfl) (by kernel_rfl) 29 (#[.int .i64 0, .int .i64 0, .int .i64 0, .int .u8 0, .int .u8 0, .int .u8 0, .int .u8 0, .int .u8 0, .int .u8 0, .int .u8 0, .int .u8 0, .int .u8 0, .int .u8 0, .int .u8 0, .int .u8 0, .int .u8 0, .int .u8 0, .int .u8 0, .int .u8 0, .int .u8 0, .int .u8 0, .int .u8 0, .int .u8 0, .int .u8 0, .int .u8 0, .int .u8 0, .int .u8 0, .int .u8 0, .int .u8 0, .int .u8 0, .int .u8 0, .int .u8 0, .int .u8 0, .int .u8 0, .int .u8 0, .int .u64 0]) h267 (by kernel_rfl) (by kernel_rfl) (Att.c_one _)) ?_
        clear eV271
        have h273 := kV271.bo h261 (by omega)
        have h274 := kV271.bo h262 (by omega)
        have h275 : Row V271 5 1 (.slice A3 37 cap3) 37 (B b37) := h263.keeps kV271 (fun j hj e => by have := hltX j hj; unfold Own.One at e; omega)
        have h276 := kV271.bo h264 (by omega)
        have h277 := kV271.bo h265 (by omega)
        have h278 := kV271.bo h266 (by omega)
        have h279 := kV271.bo h268 (by omega)
        have h280 := kV271.bo h252 (by omega)
        have K281 := K269.no kV271 (by omega)
        have z282 := kV271.size
        refine ⟨h273, ?_⟩
        refine an_o 7 ?_
        obtain ⟨V283, eV283, kV283⟩ := rowset_step V271 g12 ((Att.c attOne))
        have h284 : V283.heap[g12]? = some (.cells (Att.c attOne) 29 (0, 0)) := eV283 ▸ setRow_heap _ _ _ _ _ _ h280
        refine on_s (o_VoteKnown 2046 7) (w' := V283) (by rw [← eV283]; exact exec_store_row 29 (.tmp 12) (.tmp 63) (by kernel_rfl) g12 ((Att.c attOne)) (by kernel_rfl) (by kernel_rfl) 29 (#[.int .i64 0, .int .i64 0, .int .i64 0, .int .u8 0, .int .u8 0, .int .u8 0, .int .u8 0, .int .u8 0, .int .u8 0, .int .u8 0, .int .u8 0, .int .u8 0, .int .u8 0, .int .u8 0, .int .u8 0, .int .u8 0, .int .u8 0, .int .u8 0, .int .u8 0, .int .u8 0, .int .u8 0, .int .u8 0, .int .u8 0, .int .u8 0, .int .u8 0, .int .u8 0, .int .u8 0, .int .u8 0, .int .u8 0, .int .u8 0, .int .u8 0, .int .u8 0, .int .u8 0, .int .u8 0, .int .u8 0, .int .u64 0]) h280 (by kernel_rfl) (by kernel_rfl) (Att.c_one _)) ?_
        clear eV283
        have h285 := kV283.bo h273 (by omega)
        have h286 := kV283.bo h274 (by omega)
        have h287 : Row V283 5 1 (.slice A3 37 cap3) 37 (B b37) := h275.keeps kV283 (fun j hj e => by have := hltX j hj; unfold Own.One at e; omega)
        have h288 := kV283.bo h276 (by omega)
        have h289 := kV283.bo h277 (by omega)
        have h290 := kV283.bo h278 (by omega)
        have h291 := kV283.bo h279 (by omega)
        have h292 := kV283.bo h272 (by omega)
        have K293 := K281.no kV283 (by omega)
        have z294 := kV283.size
        refine ⟨h285, ?_⟩
        refine an_o 8 ?_
        obtain ⟨V295, eV295, kV295⟩ := rowset_step V283 g13 ((Att.c attOne))
        have h296 : V295.heap[g13]? = some (.cells (Att.c attOne) 29 (0, 0)) := eV295 ▸ setRow_heap _ _ _ _ _ _ h291
        refine on_s (o_VoteKnown 2046 8) (w' := V295) (by rw [← eV295]; exact exec_store_row 29 (.tmp 13) (.tmp 64) (by kernel_rfl) g13 ((Att.c attOne)) (by kernel_rfl) (by kernel_rfl) 29 (#[.int .i64 0, .int .i64 0, .int .i64 0, .int .u8 0, .int .u8 0, .int .u8 0, .int .u8 0, .int .u8 0, .int .u8 0, .int .u8 0, .int .u8 0, .int .u8 0, .int .u8 0, .int .u8 0, .int .u8 0, .int .u8 0, .int .u8 0, .int .u8 0, .int .u8 0, .int .u8 0, .int .u8 0, .int .u8 0, .int .u8 0, .int .u8 0, .int .u8 0, .int .u8 0, .int .u8 0, .int .u8 0, .int .u8 0, .int .u8 0, .int .u8 0, .int .u8 0, .int .u8 0, .int .u8 0, .int .u8 0, .int .u64 0]) h291 (by kernel_rfl) (by kernel_rfl) (Att.c_one _)) ?_
        clear eV295
        have h297 := kV295.bo h285 (by omega)
        have h298 := kV295.bo h286 (by omega)
        have h299 : Row V295 5 1 (.slice A3 37 cap3) 37 (B b37) := h287.keeps kV295 (fun j hj e => by have := hltX j hj; unfold Own.One at e; omega)
        have h300 := kV295.bo h288 (by omega)
        have h301 := kV295.bo h289 (by omega)
        have h302 := kV295.bo h290 (by omega)
        have h303 := kV295.bo h292 (by omega)
        have h304 := kV295.bo h284 (by omega)
        have K305 := K293.no kV295 (by omega)
        have z306 := kV295.size
        refine ⟨h297, ?_⟩
        refine an_end (by kernel_rfl) ?_
        exact ⟨rfl, g11, g12, g13, by kernel_rfl, h297, h298, h299, h300, h301, h302, h303, h304, h296, by omega, K305⟩
    · obtain ⟨V307, eV307, g12, eg12, h308, kV307⟩ := alloc_step V134 (#[.int .i64 0, .int .i64 0, .int .i64 0, .int .u8 0, .int .u8 0, .int .u8 0, .int .u8 0, .int .u8 0, .int .u8 0, .int .u8 0, .int .u8 0, .int .u8 0, .int .u8 0, .int .u8 0, .int .u8 0, .int .u8 0, .int .u8 0, .int .u8 0, .int .u8 0, .int .u8 0, .int .u8 0, .int .u8 0, .int .u8 0, .int .u8 0, .int .u8 0, .int .u8 0, .int .u8 0, .int .u8 0, .int .u8 0, .int .u8 0, .int .u8 0, .int .u8 0, .int .u8 0, .int .u8 0, .int .u8 0, .int .u64 0]) 29
      have n309 : g1 < g12 := eg12 ▸ lt_of_block h135
      have n310 : g2 < g12 := eg12 ▸ lt_of_block h136
      have n311 : g5 < g12 := eg12 ▸ lt_of_block h138
      have n312 : d6 < g12 := eg12 ▸ lt_of_block h139
      have n313 : d8 < g12 := eg12 ▸ lt_of_block h140
      have n314 : w.heap.size ≤ g12 := eg12 ▸ K141.size
      refine on_r (o_VoteKnown 2046 4) (pT g12 0) (w' := V307) (by rw [← eV307, ← eg12]; exact exec_alloc0 29 (by kernel_rfl) (.agg (#[.int .i64 0, .int .i64 0, .int .i64 0, .int .u8 0, .int .u8 0, .int .u8 0, .int .u8 0, .int .u8 0, .int .u8 0, .int .u8 0, .int .u8 0, .int .u8 0, .int .u8 0, .int .u8 0, .int .u8 0, .int .u8 0, .int .u8 0, .int .u8 0, .int .u8 0, .int .u8 0, .int .u8 0, .int .u8 0, .int .u8 0, .int .u8 0, .int .u8 0, .int .u8 0, .int .u8 0, .int .u8 0, .int .u8 0, .int .u8 0, .int .u8 0, .int .u8 0, .int .u8 0, .int .u8 0, .int .u8 0, .int .u64 0])) (by kernel_rfl)) ?_
      clear eV307
      have h315 := kV307.bk h135
      have h316 := kV307.bk h136
      have h317 : Row V307 5 1 (.slice A3 37 cap3) 37 (B b37) := h137.keeps kV307 (fun _ _ x => x)
      have h318 := kV307.bk h138
      have h319 := kV307.bk h139
      have h320 := kV307.bk h140
      have K321 := K141.nn kV307
      have z322 := kV307.size
      refine ⟨h315, ?_⟩
      refine an_two 3 5 (by kernel_rfl) ?_ ?_
      · obtain ⟨V323, eV323, g11, eg11, h324, kV323⟩ := alloc_step V307 (#[.int .i64 0, .int .i64 0, .int .i64 0, .int .u8 0, .int .u8 0, .int .u8 0, .int .u8 0, .int .u8 0, .int .u8 0, .int .u8 0, .int .u8 0, .int .u8 0, .int .u8 0, .int .u8 0, .int .u8 0, .int .u8 0, .int .u8 0, .int .u8 0, .int .u8 0, .int .u8 0, .int .u8 0, .int .u8 0, .int .u8 0, .int .u8 0, .int .u8 0, .int .u8 0, .int .u8 0, .int .u8 0, .int .u8 0, .int .u8 0, .int .u8 0, .int .u8 0, .int .u8 0, .int .u8 0, .int .u8 0, .int .u64 0]) 29
        have n325 : g1 < g11 := eg11 ▸ lt_of_block h315
        have n326 : g2 < g11 := eg11 ▸ lt_of_block h316
        have n327 : g5 < g11 := eg11 ▸ lt_of_block h318
        have n328 : d6 < g11 := eg11 ▸ lt_of_block h319
        have n329 : d8 < g11 := eg11 ▸ lt_of_block h320
        have n330 : g12 < g11 := eg11 ▸ lt_of_block h308
        have n331 : w.heap.size ≤ g11 := eg11 ▸ K321.size
        refine on_r (o_VoteKnown 2046 3) (pT g11 0) (w' := V323) (by rw [← eV323, ← eg11]; exact exec_alloc0 29 (by kernel_rfl) (.agg (#[.int .i64 0, .int .i64 0, .int .i64 0, .int .u8 0, .int .u8 0, .int .u8 0, .int .u8 0, .int .u8 0, .int .u8 0, .int .u8 0, .int .u8 0, .int .u8 0, .int .u8 0, .int .u8 0, .int .u8 0, .int .u8 0, .int .u8 0, .int .u8 0, .int .u8 0, .int .u8 0, .int .u8 0, .int .u8 0, .int .u8 0, .int .u8 0, .int .u8 0, .int .u8 0, .int .u8 0, .int .u8 0, .int .u8 0, .int .u8 0, .int .u8 0, .int .u8 0, .int .u8 0, .int .u8 0, .int .u8 0, .int .u64 0])) (by kernel_rfl)) ?_
        clear eV323
        have h332 := kV323.bk h315
        have h333 := kV323.bk h316
        have h334 : Row V323 5 1 (.slice A3 37 cap3) 37 (B b37) := h317.keeps kV323 (fun _ _ x => x)
        have h335 := kV323.bk h318
        have h336 := kV323.bk h319
        have h337 := kV323.bk h320
        have h338 := kV323.bk h308
        have K339 := K321.nn kV323
        have z340 := kV323.size
        refine ⟨h332, ?_⟩
        refine an_o 5 ?_
        obtain ⟨V341, eV341, g13, eg13, h342, kV341⟩ := alloc_step V323 (#[.int .i64 0, .int .i64 0, .int .i64 0, .int .u8 0, .int .u8 0, .int .u8 0, .int .u8 0, .int .u8 0, .int .u8 0, .int .u8 0, .int .u8 0, .int .u8 0, .int .u8 0, .int .u8 0, .int .u8 0, .int .u8 0, .int .u8 0, .int .u8 0, .int .u8 0, .int .u8 0, .int .u8 0, .int .u8 0, .int .u8 0, .int .u8 0, .int .u8 0, .int .u8 0, .int .u8 0, .int .u8 0, .int .u8 0, .int .u8 0, .int .u8 0, .int .u8 0, .int .u8 0, .int .u8 0, .int .u8 0, .int .u64 0]) 29
        have n343 : g1 < g13 := eg13 ▸ lt_of_block h332
        have n344 : g2 < g13 := eg13 ▸ lt_of_block h333
        have n345 : g5 < g13 := eg13 ▸ lt_of_block h335
        have n346 : d6 < g13 := eg13 ▸ lt_of_block h336
        have n347 : d8 < g13 := eg13 ▸ lt_of_block h337
        have n348 : g12 < g13 := eg13 ▸ lt_of_block h338
        have n349 : g11 < g13 := eg13 ▸ lt_of_block h324
        have n350 : w.heap.size ≤ g13 := eg13 ▸ K339.size
        refine on_r (o_VoteKnown 2046 5) (pT g13 0) (w' := V341) (by rw [← eV341, ← eg13]; exact exec_alloc0 29 (by kernel_rfl) (.agg (#[.int .i64 0, .int .i64 0, .int .i64 0, .int .u8 0, .int .u8 0, .int .u8 0, .int .u8 0, .int .u8 0, .int .u8 0, .int .u8 0, .int .u8 0, .int .u8 0, .int .u8 0, .int .u8 0, .int .u8 0, .int .u8 0, .int .u8 0, .int .u8 0, .int .u8 0, .int .u8 0, .int .u8 0, .int .u8 0, .int .u8 0, .int .u8 0, .int .u8 0, .int .u8 0, .int .u8 0, .int .u8 0, .int .u8 0, .int .u8 0, .int .u8 0, .int .u8 0, .int .u8 0, .int .u8 0, .int .u8 0, .int .u64 0])) (by kernel_rfl)) ?_
        clear eV341
        have h351 := kV341.bk h332
        have h352 := kV341.bk h333
        have h353 : Row V341 5 1 (.slice A3 37 cap3) 37 (B b37) := h334.keeps kV341 (fun _ _ x => x)
        have h354 := kV341.bk h335
        have h355 := kV341.bk h336
        have h356 := kV341.bk h337
        have h357 := kV341.bk h338
        have h358 := kV341.bk h324
        have K359 := K339.nn kV341
        have z360 := kV341.size
        refine ⟨h351, ?_⟩
        refine an_o 6 ?_
        obtain ⟨V361, eV361, kV361⟩ := rowset_step V341 g11 ((Att.c attOne))
        have h362 : V361.heap[g11]? = some (.cells (Att.c attOne) 29 (0, 0)) := eV361 ▸ setRow_heap _ _ _ _ _ _ h358
        refine on_s (o_VoteKnown 2046 6) (w' := V361) (by rw [← eV361]; exact exec_store_row 29 (.tmp 11) (.tmp 62) (by kernel_rfl) g11 ((Att.c attOne)) (by kernel_rfl) (by kernel_rfl) 29 (#[.int .i64 0, .int .i64 0, .int .i64 0, .int .u8 0, .int .u8 0, .int .u8 0, .int .u8 0, .int .u8 0, .int .u8 0, .int .u8 0, .int .u8 0, .int .u8 0, .int .u8 0, .int .u8 0, .int .u8 0, .int .u8 0, .int .u8 0, .int .u8 0, .int .u8 0, .int .u8 0, .int .u8 0, .int .u8 0, .int .u8 0, .int .u8 0, .int .u8 0, .int .u8 0, .int .u8 0, .int .u8 0, .int .u8 0, .int .u8 0, .int .u8 0, .int .u8 0, .int .u8 0, .int .u8 0, .int .u8 0, .int .u64 0]) h358 (by kernel_rfl) (by kernel_rfl) (Att.c_one _)) ?_
        clear eV361
        have h363 := kV361.bo h351 (by omega)
        have h364 := kV361.bo h352 (by omega)
        have h365 : Row V361 5 1 (.slice A3 37 cap3) 37 (B b37) := h353.keeps kV361 (fun j hj e => by have := hltX j hj; unfold Own.One at e; omega)
        have h366 := kV361.bo h354 (by omega)
        have h367 := kV361.bo h355 (by omega)
        have h368 := kV361.bo h356 (by omega)
        have h369 := kV361.bo h357 (by omega)
        have h370 := kV361.bo h342 (by omega)
        have K371 := K359.no kV361 (by omega)
        have z372 := kV361.size
        refine ⟨h363, ?_⟩
        refine an_o 7 ?_
        obtain ⟨V373, eV373, kV373⟩ := rowset_step V361 g12 ((Att.c attOne))
        have h374 : V373.heap[g12]? = some (.cells (Att.c attOne) 29 (0, 0)) := eV373 ▸ setRow_heap _ _ _ _ _ _ h369
        refine on_s (o_VoteKnown 2046 7) (w' := V373) (by rw [← eV373]; exact exec_store_row 29 (.tmp 12) (.tmp 63) (by kernel_rfl) g12 ((Att.c attOne)) (by kernel_rfl) (by kernel_rfl) 29 (#[.int .i64 0, .int .i64 0, .int .i64 0, .int .u8 0, .int .u8 0, .int .u8 0, .int .u8 0, .int .u8 0, .int .u8 0, .int .u8 0, .int .u8 0, .int .u8 0, .int .u8 0, .int .u8 0, .int .u8 0, .int .u8 0, .int .u8 0, .int .u8 0, .int .u8 0, .int .u8 0, .int .u8 0, .int .u8 0, .int .u8 0, .int .u8 0, .int .u8 0, .int .u8 0, .int .u8 0, .int .u8 0, .int .u8 0, .int .u8 0, .int .u8 0, .int .u8 0, .int .u8 0, .int .u8 0, .int .u8 0, .int .u64 0]) h369 (by kernel_rfl) (by kernel_rfl) (Att.c_one _)) ?_
        clear eV373
        have h375 := kV373.bo h363 (by omega)
        have h376 := kV373.bo h364 (by omega)
        have h377 : Row V373 5 1 (.slice A3 37 cap3) 37 (B b37) := h365.keeps kV373 (fun j hj e => by have := hltX j hj; unfold Own.One at e; omega)
        have h378 := kV373.bo h366 (by omega)
        have h379 := kV373.bo h367 (by omega)
        have h380 := kV373.bo h368 (by omega)
        have h381 := kV373.bo h370 (by omega)
        have h382 := kV373.bo h362 (by omega)
        have K383 := K371.no kV373 (by omega)
        have z384 := kV373.size
        refine ⟨h375, ?_⟩
        refine an_o 8 ?_
        obtain ⟨V385, eV385, kV385⟩ := rowset_step V373 g13 ((Att.c attOne))
        have h386 : V385.heap[g13]? = some (.cells (Att.c attOne) 29 (0, 0)) := eV385 ▸ setRow_heap _ _ _ _ _ _ h381
        refine on_s (o_VoteKnown 2046 8) (w' := V385) (by rw [← eV385]; exact exec_store_row 29 (.tmp 13) (.tmp 64) (by kernel_rfl) g13 ((Att.c attOne)) (by kernel_rfl) (by kernel_rfl) 29 (#[.int .i64 0, .int .i64 0, .int .i64 0, .int .u8 0, .int .u8 0, .int .u8 0, .int .u8 0, .int .u8 0, .int .u8 0, .int .u8 0, .int .u8 0, .int .u8 0, .int .u8 0, .int .u8 0, .int .u8 0, .int .u8 0, .int .u8 0, .int .u8 0, .int .u8 0, .int .u8 0, .int .u8 0, .int .u8 0, .int .u8 0, .int .u8 0, .int .u8 0, .int .u8 0, .int .u8 0, .int .u8 0, .int .u8 0, .int .u8 0, .int .u8 0, .int .u8 0, .int .u8 0, .int .u8 0, .int .u8 0, .int .u64 0]) h381 (by kernel_rfl) (by kernel_rfl) (Att.c_one _)) ?_
        clear eV385
        have h387 := kV385.bo h375 (by omega)
        have h388 := kV385.bo h376 (by omega)
        have h389 : Row V385 5 1 (.slice A3 37 cap3) 37 (B b37) := h377.keeps kV385 (fun j hj e => by have := hltX j hj; unfold Own.One at e; omega)
        have h390 := kV385.bo h378 (by omega)
        have h391 := kV385.bo h379 (by omega)
        have h392 := kV385.bo h380 (by omega)
        have h393 := kV385.bo h382 (by omega)
        have h394 := kV385.bo h374 (by omega)
        have K395 := K383.no kV385 (by omega)
        have z396 := kV385.size
        refine ⟨h387, ?_⟩
        refine an_end (by kernel_rfl) ?_
        exact ⟨rfl, g11, g12, g13, by kernel_rfl, h387, h388, h389, h390, h391, h392, h393, h394, h386, by omega, K395⟩
      · obtain ⟨V397, eV397, g13, eg13, h398, kV397⟩ := alloc_step V307 (#[.int .i64 0, .int .i64 0, .int .i64 0, .int .u8 0, .int .u8 0, .int .u8 0, .int .u8 0, .int .u8 0, .int .u8 0, .int .u8 0, .int .u8 0, .int .u8 0, .int .u8 0, .int .u8 0, .int .u8 0, .int .u8 0, .int .u8 0, .int .u8 0, .int .u8 0, .int .u8 0, .int .u8 0, .int .u8 0, .int .u8 0, .int .u8 0, .int .u8 0, .int .u8 0, .int .u8 0, .int .u8 0, .int .u8 0, .int .u8 0, .int .u8 0, .int .u8 0, .int .u8 0, .int .u8 0, .int .u8 0, .int .u64 0]) 29
        have n399 : g1 < g13 := eg13 ▸ lt_of_block h315
        have n400 : g2 < g13 := eg13 ▸ lt_of_block h316
        have n401 : g5 < g13 := eg13 ▸ lt_of_block h318
        have n402 : d6 < g13 := eg13 ▸ lt_of_block h319
        have n403 : d8 < g13 := eg13 ▸ lt_of_block h320
        have n404 : g12 < g13 := eg13 ▸ lt_of_block h308
        have n405 : w.heap.size ≤ g13 := eg13 ▸ K321.size
        refine on_r (o_VoteKnown 2046 5) (pT g13 0) (w' := V397) (by rw [← eV397, ← eg13]; exact exec_alloc0 29 (by kernel_rfl) (.agg (#[.int .i64 0, .int .i64 0, .int .i64 0, .int .u8 0, .int .u8 0, .int .u8 0, .int .u8 0, .int .u8 0, .int .u8 0, .int .u8 0, .int .u8 0, .int .u8 0, .int .u8 0, .int .u8 0, .int .u8 0, .int .u8 0, .int .u8 0, .int .u8 0, .int .u8 0, .int .u8 0, .int .u8 0, .int .u8 0, .int .u8 0, .int .u8 0, .int .u8 0, .int .u8 0, .int .u8 0, .int .u8 0, .int .u8 0, .int .u8 0, .int .u8 0, .int .u8 0, .int .u8 0, .int .u8 0, .int .u8 0, .int .u64 0])) (by kernel_rfl)) ?_
        clear eV397
        have h406 := kV397.bk h315
        have h407 := kV397.bk h316
        have h408 : Row V397 5 1 (.slice A3 37 cap3) 37 (B b37) := h317.keeps kV397 (fun _ _ x => x)
        have h409 := kV397.bk h318
        have h410 := kV397.bk h319
        have h411 := kV397.bk h320
        have h412 := kV397.bk h308
        have K413 := K321.nn kV397
        have z414 := kV397.size
        refine ⟨h406, ?_⟩
        refine an_o 3 ?_
        obtain ⟨V415, eV415, g11, eg11, h416, kV415⟩ := alloc_step V397 (#[.int .i64 0, .int .i64 0, .int .i64 0, .int .u8 0, .int .u8 0, .int .u8 0, .int .u8 0, .int .u8 0, .int .u8 0, .int .u8 0, .int .u8 0, .int .u8 0, .int .u8 0, .int .u8 0, .int .u8 0, .int .u8 0, .int .u8 0, .int .u8 0, .int .u8 0, .int .u8 0, .int .u8 0, .int .u8 0, .int .u8 0, .int .u8 0, .int .u8 0, .int .u8 0, .int .u8 0, .int .u8 0, .int .u8 0, .int .u8 0, .int .u8 0, .int .u8 0, .int .u8 0, .int .u8 0, .int .u8 0, .int .u64 0]) 29
        have n417 : g1 < g11 := eg11 ▸ lt_of_block h406
        have n418 : g2 < g11 := eg11 ▸ lt_of_block h407
        have n419 : g5 < g11 := eg11 ▸ lt_of_block h409
        have n420 : d6 < g11 := eg11 ▸ lt_of_block h410
        have n421 : d8 < g11 := eg11 ▸ lt_of_block h411
        have n422 : g12 < g11 := eg11 ▸ lt_of_block h412
        have n423 : g13 < g11 := eg11 ▸ lt_of_block h398
        have n424 : w.heap.size ≤ g11 := eg11 ▸ K413.size
        refine on_r (o_VoteKnown 2046 3) (pT g11 0) (w' := V415) (by rw [← eV415, ← eg11]; exact exec_alloc0 29 (by kernel_rfl) (.agg (#[.int .i64 0, .int .i64 0, .int .i64 0, .int .u8 0, .int .u8 0, .int .u8 0, .int .u8 0, .int .u8 0, .int .u8 0, .int .u8 0, .int .u8 0, .int .u8 0, .int .u8 0, .int .u8 0, .int .u8 0, .int .u8 0, .int .u8 0, .int .u8 0, .int .u8 0, .int .u8 0, .int .u8 0, .int .u8 0, .int .u8 0, .int .u8 0, .int .u8 0, .int .u8 0, .int .u8 0, .int .u8 0, .int .u8 0, .int .u8 0, .int .u8 0, .int .u8 0, .int .u8 0, .int .u8 0, .int .u8 0, .int .u64 0])) (by kernel_rfl)) ?_
        clear eV415
        have h425 := kV415.bk h406
        have h426 := kV415.bk h407
        have h427 : Row V415 5 1 (.slice A3 37 cap3) 37 (B b37) := h408.keeps kV415 (fun _ _ x => x)
        have h428 := kV415.bk h409
        have h429 := kV415.bk h410
        have h430 := kV415.bk h411
        have h431 := kV415.bk h412
        have h432 := kV415.bk h398
        have K433 := K413.nn kV415
        have z434 := kV415.size
        refine ⟨h425, ?_⟩
        refine an_o 6 ?_
        obtain ⟨V435, eV435, kV435⟩ := rowset_step V415 g11 ((Att.c attOne))
        have h436 : V435.heap[g11]? = some (.cells (Att.c attOne) 29 (0, 0)) := eV435 ▸ setRow_heap _ _ _ _ _ _ h416
        refine on_s (o_VoteKnown 2046 6) (w' := V435) (by rw [← eV435]; exact exec_store_row 29 (.tmp 11) (.tmp 62) (by kernel_rfl) g11 ((Att.c attOne)) (by kernel_rfl) (by kernel_rfl) 29 (#[.int .i64 0, .int .i64 0, .int .i64 0, .int .u8 0, .int .u8 0, .int .u8 0, .int .u8 0, .int .u8 0, .int .u8 0, .int .u8 0, .int .u8 0, .int .u8 0, .int .u8 0, .int .u8 0, .int .u8 0, .int .u8 0, .int .u8 0, .int .u8 0, .int .u8 0, .int .u8 0, .int .u8 0, .int .u8 0, .int .u8 0, .int .u8 0, .int .u8 0, .int .u8 0, .int .u8 0, .int .u8 0, .int .u8 0, .int .u8 0, .int .u8 0, .int .u8 0, .int .u8 0, .int .u8 0, .int .u8 0, .int .u64 0]) h416 (by kernel_rfl) (by kernel_rfl) (Att.c_one _)) ?_
        clear eV435
        have h437 := kV435.bo h425 (by omega)
        have h438 := kV435.bo h426 (by omega)
        have h439 : Row V435 5 1 (.slice A3 37 cap3) 37 (B b37) := h427.keeps kV435 (fun j hj e => by have := hltX j hj; unfold Own.One at e; omega)
        have h440 := kV435.bo h428 (by omega)
        have h441 := kV435.bo h429 (by omega)
        have h442 := kV435.bo h430 (by omega)
        have h443 := kV435.bo h431 (by omega)
        have h444 := kV435.bo h432 (by omega)
        have K445 := K433.no kV435 (by omega)
        have z446 := kV435.size
        refine ⟨h437, ?_⟩
        refine an_o 7 ?_
        obtain ⟨V447, eV447, kV447⟩ := rowset_step V435 g12 ((Att.c attOne))
        have h448 : V447.heap[g12]? = some (.cells (Att.c attOne) 29 (0, 0)) := eV447 ▸ setRow_heap _ _ _ _ _ _ h443
        refine on_s (o_VoteKnown 2046 7) (w' := V447) (by rw [← eV447]; exact exec_store_row 29 (.tmp 12) (.tmp 63) (by kernel_rfl) g12 ((Att.c attOne)) (by kernel_rfl) (by kernel_rfl) 29 (#[.int .i64 0, .int .i64 0, .int .i64 0, .int .u8 0, .int .u8 0, .int .u8 0, .int .u8 0, .int .u8 0, .int .u8 0, .int .u8 0, .int .u8 0, .int .u8 0, .int .u8 0, .int .u8 0, .int .u8 0, .int .u8 0, .int .u8 0, .int .u8 0, .int .u8 0, .int .u8 0, .int .u8 0, .int .u8 0, .int .u8 0, .int .u8 0, .int .u8 0, .int .u8 0, .int .u8 0, .int .u8 0, .int .u8 0, .int .u8 0, .int .u8 0, .int .u8 0, .int .u8 0, .int .u8 0, .int .u8 0, .int .u64 0]) h443 (by kernel_rfl) (by kernel_rfl) (Att.c_one _)) ?_
        clear eV447
        have h449 := kV447.bo h437 (by omega)
        have h450 := kV447.bo h438 (by omega)
        have h451 : Row V447 5 1 (.slice A3 37 cap3) 37 (B b37) := h439.keeps kV447 (fun j hj e => by have := hltX j hj; unfold Own.One at e; omega)
        have h452 := kV447.bo h440 (by omega)
        have h453 := kV447.bo h441 (by omega)
        have h454 := kV447.bo h442 (by omega)
        have h455 := kV447.bo h444 (by omega)
        have h456 := kV447.bo h436 (by omega)
        have K457 := K445.no kV447 (by omega)
        have z458 := kV447.size
        refine ⟨h449, ?_⟩
        refine an_o 8 ?_
        obtain ⟨V459, eV459, kV459⟩ := rowset_step V447 g13 ((Att.c attOne))
        have h460 : V459.heap[g13]? = some (.cells (Att.c attOne) 29 (0, 0)) := eV459 ▸ setRow_heap _ _ _ _ _ _ h455
        refine on_s (o_VoteKnown 2046 8) (w' := V459) (by rw [← eV459]; exact exec_store_row 29 (.tmp 13) (.tmp 64) (by kernel_rfl) g13 ((Att.c attOne)) (by kernel_rfl) (by kernel_rfl) 29 (#[.int .i64 0, .int .i64 0, .int .i64 0, .int .u8 0, .int .u8 0, .int .u8 0, .int .u8 0, .int .u8 0, .int .u8 0, .int .u8 0, .int .u8 0, .int .u8 0, .int .u8 0, .int .u8 0, .int .u8 0, .int .u8 0, .int .u8 0, .int .u8 0, .int .u8 0, .int .u8 0, .int .u8 0, .int .u8 0, .int .u8 0, .int .u8 0, .int .u8 0, .int .u8 0, .int .u8 0, .int .u8 0, .int .u8 0, .int .u8 0, .int .u8 0, .int .u8 0, .int .u8 0, .int .u8 0, .int .u8 0, .int .u64 0]) h455 (by kernel_rfl) (by kernel_rfl) (Att.c_one _)) ?_
        clear eV459
        have h461 := kV459.bo h449 (by omega)
        have h462 := kV459.bo h450 (by omega)
        have h463 : Row V459 5 1 (.slice A3 37 cap3) 37 (B b37) := h451.keeps kV459 (fun j hj e => by have := hltX j hj; unfold Own.One at e; omega)
        have h464 := kV459.bo h452 (by omega)
        have h465 := kV459.bo h453 (by omega)
        have h466 := kV459.bo h454 (by omega)
        have h467 := kV459.bo h456 (by omega)
        have h468 := kV459.bo h448 (by omega)
        have K469 := K457.no kV459 (by omega)
        have z470 := kV459.size
        refine ⟨h461, ?_⟩
        refine an_end (by kernel_rfl) ?_
        exact ⟨rfl, g11, g12, g13, by kernel_rfl, h461, h462, h463, h464, h465, h466, h467, h468, h460, by omega, K469⟩
    · obtain ⟨V471, eV471, g13, eg13, h472, kV471⟩ := alloc_step V134 (#[.int .i64 0, .int .i64 0, .int .i64 0, .int .u8 0, .int .u8 0, .int .u8 0, .int .u8 0, .int .u8 0, .int .u8 0, .int .u8 0, .int .u8 0, .int .u8 0, .int .u8 0, .int .u8 0, .int .u8 0, .int .u8 0, .int .u8 0, .int .u8 0, .int .u8 0, .int .u8 0, .int .u8 0, .int .u8 0, .int .u8 0, .int .u8 0, .int .u8 0, .int .u8 0, .int .u8 0, .int .u8 0, .int .u8 0, .int .u8 0, .int .u8 0, .int .u8 0, .int .u8 0, .int .u8 0, .int .u8 0, .int .u64 0]) 29
      have n473 : g1 < g13 := eg13 ▸ lt_of_block h135
      have n474 : g2 < g13 := eg13 ▸ lt_of_block h136
      have n475 : g5 < g13 := eg13 ▸ lt_of_block h138
      have n476 : d6 < g13 := eg13 ▸ lt_of_block h139
      have n477 : d8 < g13 := eg13 ▸ lt_of_block h140
      have n478 : w.heap.size ≤ g13 := eg13 ▸ K141.size
      refine on_r (o_VoteKnown 2046 5) (pT g13 0) (w' := V471) (by rw [← eV471, ← eg13]; exact exec_alloc0 29 (by kernel_rfl) (.agg (#[.int .i64 0, .int .i64 0, .int .i64 0, .int .u8 0, .int .u8 0, .int .u8 0, .int .u8 0, .int .u8 0, .int .u8 0, .int .u8 0, .int .u8 0, .int .u8 0, .int .u8 0, .int .u8 0, .int .u8 0, .int .u8 0, .int .u8 0, .int .u8 0, .int .u8 0, .int .u8 0, .int .u8 0, .int .u8 0, .int .u8 0, .int .u8 0, .int .u8 0, .int .u8 0, .int .u8 0, .int .u8 0, .int .u8 0, .int .u8 0, .int .u8 0, .int .u8 0, .int .u8 0, .int .u8 0, .int .u8 0, .int .u64 0])) (by kernel_rfl)) ?_
      clear eV471
      have h479 := kV471.bk h135
      have h480 := kV471.bk h136
      have h481 : Row V471 5 1 (.slice A3 37 cap3) 37 (B b37) := h137.keeps kV471 (fun _ _ x => x)
      have h482 := kV471.bk h138
      have h483 := kV471.bk h139
      have h484 := kV471.bk h140
      have K485 := K141.nn kV471
      have z486 := kV471.size
      refine ⟨h479, ?_⟩
      refine an_two 3 4 (by kernel_rfl) ?_ ?_
      · obtain ⟨V487, eV487, g11, eg11, h488, kV487⟩ := alloc_step V471 (#[.int .i64 0, .int .i64 0, .int .i64 0, .int .u8 0, .int .u8 0, .int .u8 0, .int .u8 0, .int .u8 0, .int .u8 0, .int .u8 0, .int .u8 0, .int .u8 0, .int .u8 0, .int .u8 0, .int .u8 0, .int .u8 0, .int .u8 0, .int .u8 0, .int .u8 0, .int .u8 0, .int .u8 0, .int .u8 0, .int .u8 0, .int .u8 0, .int .u8 0, .int .u8 0, .int .u8 0, .int .u8 0, .int .u8 0, .int .u8 0, .int .u8 0, .int .u8 0, .int .u8 0, .int .u8 0, .int .u8 0, .int .u64 0]) 29
        have n489 : g1 < g11 := eg11 ▸ lt_of_block h479
        have n490 : g2 < g11 := eg11 ▸ lt_of_block h480
        have n491 : g5 < g11 := eg11 ▸ lt_of_block h482
        have n492 : d6 < g11 := eg11 ▸ lt_of_block h483
        have n493 : d8 < g11 := eg11 ▸ lt_of_block h484
        have n494 : g13 < g11 := eg11 ▸ lt_of_block h472
        have n495 : w.heap.size ≤ g11 := eg11 ▸ K485.size
        refine on_r (o_VoteKnown 2046 3) (pT g11 0) (w' := V487) (by rw [← eV487, ← eg11]; exact exec_alloc0 29 (by kernel_rfl) (.agg (#[.int .i64 0, .int .i64 0, .int .i64 0, .int .u8 0, .int .u8 0, .int .u8 0, .int .u8 0, .int .u8 0, .int .u8 0, .int .u8 0, .int .u8 0, .int .u8 0, .int .u8 0, .int .u8 0, .int .u8 0, .int .u8 0, .int .u8 0, .int .u8 0, .int .u8 0, .int .u8 0, .int .u8 0, .int .u8 0, .int .u8 0, .int .u8 0, .int .u8 0, .int .u8 0, .int .u8 0, .int .u8 0, .int .u8 0, .int .u8 0, .int .u8 0, .int .u8 0, .int .u8 0, .int .u8 0, .int .u8 0, .int .u64 0])) (by kernel_rfl)) ?_
        clear eV487
        have h496 := kV487.bk h479
        have h497 := kV487.bk h480
        have h498 : Row V487 5 1 (.slice A3 37 cap3) 37 (B b37) := h481.keeps kV487 (fun _ _ x => x)
        have h499 := kV487.bk h482
        have h500 := kV487.bk h483
        have h501 := kV487.bk h484
        have h502 := kV487.bk h472
        have K503 := K485.nn kV487
        have z504 := kV487.size
        refine ⟨h496, ?_⟩
        refine an_o 4 ?_
        obtain ⟨V505, eV505, g12, eg12, h506, kV505⟩ := alloc_step V487 (#[.int .i64 0, .int .i64 0, .int .i64 0, .int .u8 0, .int .u8 0, .int .u8 0, .int .u8 0, .int .u8 0, .int .u8 0, .int .u8 0, .int .u8 0, .int .u8 0, .int .u8 0, .int .u8 0, .int .u8 0, .int .u8 0, .int .u8 0, .int .u8 0, .int .u8 0, .int .u8 0, .int .u8 0, .int .u8 0, .int .u8 0, .int .u8 0, .int .u8 0, .int .u8 0, .int .u8 0, .int .u8 0, .int .u8 0, .int .u8 0, .int .u8 0, .int .u8 0, .int .u8 0, .int .u8 0, .int .u8 0, .int .u64 0]) 29
        have n507 : g1 < g12 := eg12 ▸ lt_of_block h496
        have n508 : g2 < g12 := eg12 ▸ lt_of_block h497
        have n509 : g5 < g12 := eg12 ▸ lt_of_block h499
        have n510 : d6 < g12 := eg12 ▸ lt_of_block h500
        have n511 : d8 < g12 := eg12 ▸ lt_of_block h501
        have n512 : g13 < g12 := eg12 ▸ lt_of_block h502
        have n513 : g11 < g12 := eg12 ▸ lt_of_block h488
        have n514 : w.heap.size ≤ g12 := eg12 ▸ K503.size
        refine on_r (o_VoteKnown 2046 4) (pT g12 0) (w' := V505) (by rw [← eV505, ← eg12]; exact exec_alloc0 29 (by kernel_rfl) (.agg (#[.int .i64 0, .int .i64 0, .int .i64 0, .int .u8 0, .int .u8 0, .int .u8 0, .int .u8 0, .int .u8 0, .int .u8 0, .int .u8 0, .int .u8 0, .int .u8 0, .int .u8 0, .int .u8 0, .int .u8 0, .int .u8 0, .int .u8 0, .int .u8 0, .int .u8 0, .int .u8 0, .int .u8 0, .int .u8 0, .int .u8 0, .int .u8 0, .int .u8 0, .int .u8 0, .int .u8 0, .int .u8 0, .int .u8 0, .int .u8 0, .int .u8 0, .int .u8 0, .int .u8 0, .int .u8 0, .int .u8 0, .int .u64 0])) (by kernel_rfl)) ?_
        clear eV505
        have h515 := kV505.bk h496
        have h516 := kV505.bk h497
        have h517 : Row V505 5 1 (.slice A3 37 cap3) 37 (B b37) := h498.keeps kV505 (fun _ _ x => x)
        have h518 := kV505.bk h499
        have h519 := kV505.bk h500
        have h520 := kV505.bk h501
        have h521 := kV505.bk h502
        have h522 := kV505.bk h488
        have K523 := K503.nn kV505
        have z524 := kV505.size
        refine ⟨h515, ?_⟩
        refine an_o 6 ?_
        obtain ⟨V525, eV525, kV525⟩ := rowset_step V505 g11 ((Att.c attOne))
        have h526 : V525.heap[g11]? = some (.cells (Att.c attOne) 29 (0, 0)) := eV525 ▸ setRow_heap _ _ _ _ _ _ h522
        refine on_s (o_VoteKnown 2046 6) (w' := V525) (by rw [← eV525]; exact exec_store_row 29 (.tmp 11) (.tmp 62) (by kernel_rfl) g11 ((Att.c attOne)) (by kernel_rfl) (by kernel_rfl) 29 (#[.int .i64 0, .int .i64 0, .int .i64 0, .int .u8 0, .int .u8 0, .int .u8 0, .int .u8 0, .int .u8 0, .int .u8 0, .int .u8 0, .int .u8 0, .int .u8 0, .int .u8 0, .int .u8 0, .int .u8 0, .int .u8 0, .int .u8 0, .int .u8 0, .int .u8 0, .int .u8 0, .int .u8 0, .int .u8 0, .int .u8 0, .int .u8 0, .int .u8 0, .int .u8 0, .int .u8 0, .int .u8 0, .int .u8 0, .int .u8 0, .int .u8 0, .int .u8 0, .int .u8 0, .int .u8 0, .int .u8 0, .int .u64 0]) h522 (by kernel_rfl) (by kernel_rfl) (Att.c_one _)) ?_
        clear eV525
        have h527 := kV525.bo h515 (by omega)
        have h528 := kV525.bo h516 (by omega)
        have h529 : Row V525 5 1 (.slice A3 37 cap3) 37 (B b37) := h517.keeps kV525 (fun j hj e => by have := hltX j hj; unfold Own.One at e; omega)
        have h530 := kV525.bo h518 (by omega)
        have h531 := kV525.bo h519 (by omega)
        have h532 := kV525.bo h520 (by omega)
        have h533 := kV525.bo h521 (by omega)
        have h534 := kV525.bo h506 (by omega)
        have K535 := K523.no kV525 (by omega)
        have z536 := kV525.size
        refine ⟨h527, ?_⟩
        refine an_o 7 ?_
        obtain ⟨V537, eV537, kV537⟩ := rowset_step V525 g12 ((Att.c attOne))
        have h538 : V537.heap[g12]? = some (.cells (Att.c attOne) 29 (0, 0)) := eV537 ▸ setRow_heap _ _ _ _ _ _ h534
        refine on_s (o_VoteKnown 2046 7) (w' := V537) (by rw [← eV537]; exact exec_store_row 29 (.tmp 12) (.tmp 63) (by kernel_rfl) g12 ((Att.c attOne)) (by kernel_rfl) (by kernel_rfl) 29 (#[.int .i64 0, .int .i64 0, .int .i64 0, .int .u8 0, .int .u8 0, .int .u8 0, .int .u8 0, .int .u8 0, .int .u8 0, .int .u8 0, .int .u8 0, .int .u8 0, .int .u8 0, .int .u8 0, .int .u8 0, .int .u8 0, .int .u8 0, .int .u8 0, .int .u8 0, .int .u8 0, .int .u8 0, .int .u8 0, .int .u8 0, .int .u8 0, .int .u8 0, .int .u8 0, .int .u8 0, .int .u8 0, .int .u8 0, .int .u8 0, .int .u8 0, .int .u8 0, .int .u8 0, .int .u8 0, .int .u8 0, .int .u64 0]) h534 (by kernel_rfl) (by kernel_rfl) (Att.c_one _)) ?_
        clear eV537
        have h539 := kV537.bo h527 (by omega)
        have h540 := kV537.bo h528 (by omega)
        have h541 : Row V537 5 1 (.slice A3 37 cap3) 37 (B b37) := h529.keeps kV537 (fun j hj e => by have := hltX j hj; unfold Own.One at e; omega)
        have h542 := kV537.bo h530 (by omega)
        have h543 := kV537.bo h531 (by omega)
        have h544 := kV537.bo h532 (by omega)
        have h545 := kV537.bo h533 (by omega)
        have h546 := kV537.bo h526 (by omega)
        have K547 := K535.no kV537 (by omega)
        have z548 := kV537.size
        refine ⟨h539, ?_⟩
        refine an_o 8 ?_
        obtain ⟨V549, eV549, kV549⟩ := rowset_step V537 g13 ((Att.c attOne))
        have h550 : V549.heap[g13]? = some (.cells (Att.c attOne) 29 (0, 0)) := eV549 ▸ setRow_heap _ _ _ _ _ _ h545
        refine on_s (o_VoteKnown 2046 8) (w' := V549) (by rw [← eV549]; exact exec_store_row 29 (.tmp 13) (.tmp 64) (by kernel_rfl) g13 ((Att.c attOne)) (by kernel_rfl) (by kernel_rfl) 29 (#[.int .i64 0, .int .i64 0, .int .i64 0, .int .u8 0, .int .u8 0, .int .u8 0, .int .u8 0, .int .u8 0, .int .u8 0, .int .u8 0, .int .u8 0, .int .u8 0, .int .u8 0, .int .u8 0, .int .u8 0, .int .u8 0, .int .u8 0, .int .u8 0, .int .u8 0, .int .u8 0, .int .u8 0, .int .u8 0, .int .u8 0, .int .u8 0, .int .u8 0, .int .u8 0, .int .u8 0, .int .u8 0, .int .u8 0, .int .u8 0, .int .u8 0, .int .u8 0, .int .u8 0, .int .u8 0, .int .u8 0, .int .u64 0]) h545 (by kernel_rfl) (by kernel_rfl) (Att.c_one _)) ?_
        clear eV549
        have h551 := kV549.bo h539 (by omega)
        have h552 := kV549.bo h540 (by omega)
        have h553 : Row V549 5 1 (.slice A3 37 cap3) 37 (B b37) := h541.keeps kV549 (fun j hj e => by have := hltX j hj; unfold Own.One at e; omega)
        have h554 := kV549.bo h542 (by omega)
        have h555 := kV549.bo h543 (by omega)
        have h556 := kV549.bo h544 (by omega)
        have h557 := kV549.bo h546 (by omega)
        have h558 := kV549.bo h538 (by omega)
        have K559 := K547.no kV549 (by omega)
        have z560 := kV549.size
        refine ⟨h551, ?_⟩
        refine an_end (by kernel_rfl) ?_
        exact ⟨rfl, g11, g12, g13, by kernel_rfl, h551, h552, h553, h554, h555, h556, h557, h558, h550, by omega, K559⟩
      · obtain ⟨V561, eV561, g12, eg12, h562, kV561⟩ := alloc_step V471 (#[.int .i64 0, .int .i64 0, .int .i64 0, .int .u8 0, .int .u8 0, .int .u8 0, .int .u8 0, .int .u8 0, .int .u8 0, .int .u8 0, .int .u8 0, .int .u8 0, .int .u8 0, .int .u8 0, .int .u8 0, .int .u8 0, .int .u8 0, .int .u8 0, .int .u8 0, .int .u8 0, .int .u8 0, .int .u8 0, .int .u8 0, .int .u8 0, .int .u8 0, .int .u8 0, .int .u8 0, .int .u8 0, .int .u8 0, .int .u8 0, .int .u8 0, .int .u8 0, .int .u8 0, .int .u8 0, .int .u8 0, .int .u64 0]) 29
        have n563 : g1 < g12 := eg12 ▸ lt_of_block h479
        have n564 : g2 < g12 := eg12 ▸ lt_of_block h480
        have n565 : g5 < g12 := eg12 ▸ lt_of_block h482
        have n566 : d6 < g12 := eg12 ▸ lt_of_block h483
        have n567 : d8 < g12 := eg12 ▸ lt_of_block h484
        have n568 : g13 < g12 := eg12 ▸ lt_of_block h472
        have n569 : w.heap.size ≤ g12 := eg12 ▸ K485.size
        refine on_r (o_VoteKnown 2046 4) (pT g12 0) (w' := V561) (by rw [← eV561, ← eg12]; exact exec_alloc0 29 (by kernel_rfl) (.agg (#[.int .i64 0, .int .i64 0, .int .i64 0, .int .u8 0, .int .u8 0, .int .u8 0, .int .u8 0, .int .u8 0, .int .u8 0, .int .u8 0, .int .u8 0, .int .u8 0, .int .u8 0, .int .u8 0, .int .u8 0, .int .u8 0, .int .u8 0, .int .u8 0, .int .u8 0, .int .u8 0, .int .u8 0, .int .u8 0, .int .u8 0, .int .u8 0, .int .u8 0, .int .u8 0, .int .u8 0, .int .u8 0, .int .u8 0, .int .u8 0, .int .u8 0, .int .u8 0, .int .u8 0, .int .u8 0, .int .u8 0, .int .u64 0])) (by kernel_rfl)) ?_
        clear eV561
        have h570 := kV561.bk h479
        have h571 := kV561.bk h480
        have h572 : Row V561 5 1 (.slice A3 37 cap3) 37 (B b37) := h481.keeps kV561 (fun _ _ x => x)
        have h573 := kV561.bk h482
        have h574 := kV561.bk h483
        have h575 := kV561.bk h484
        have h576 := kV561.bk h472
        have K577 := K485.nn kV561
        have z578 := kV561.size
        refine ⟨h570, ?_⟩
        refine an_o 3 ?_
        obtain ⟨V579, eV579, g11, eg11, h580, kV579⟩ := alloc_step V561 (#[.int .i64 0, .int .i64 0, .int .i64 0, .int .u8 0, .int .u8 0, .int .u8 0, .int .u8 0, .int .u8 0, .int .u8 0, .int .u8 0, .int .u8 0, .int .u8 0, .int .u8 0, .int .u8 0, .int .u8 0, .int .u8 0, .int .u8 0, .int .u8 0, .int .u8 0, .int .u8 0, .int .u8 0, .int .u8 0, .int .u8 0, .int .u8 0, .int .u8 0, .int .u8 0, .int .u8 0, .int .u8 0, .int .u8 0, .int .u8 0, .int .u8 0, .int .u8 0, .int .u8 0, .int .u8 0, .int .u8 0, .int .u64 0]) 29
        have n581 : g1 < g11 := eg11 ▸ lt_of_block h570
        have n582 : g2 < g11 := eg11 ▸ lt_of_block h571
        have n583 : g5 < g11 := eg11 ▸ lt_of_block h573
        have n584 : d6 < g11 := eg11 ▸ lt_of_block h574
        have n585 : d8 < g11 := eg11 ▸ lt_of_block h575
        have n586 : g13 < g11 := eg11 ▸ lt_of_block h576
        have n587 : g12 < g11 := eg11 ▸ lt_of_block h562
        have n588 : w.heap.size ≤ g11 := eg11 ▸ K577.size
        refine on_r (o_VoteKnown 2046 3) (pT g11 0) (w' := V579) (by rw [← eV579, ← eg11]; exact exec_alloc0 29 (by kernel_rfl) (.agg (#[.int .i64 0, .int .i64 0, .int .i64 0, .int .u8 0, .int .u8 0, .int .u8 0, .int .u8 0, .int .u8 0, .int .u8 0, .int .u8 0, .int .u8 0, .int .u8 0, .int .u8 0, .int .u8 0, .int .u8 0, .int .u8 0, .int .u8 0, .int .u8 0, .int .u8 0, .int .u8 0, .int .u8 0, .int .u8 0, .int .u8 0, .int .u8 0, .int .u8 0, .int .u8 0, .int .u8 0, .int .u8 0, .int .u8 0, .int .u8 0, .int .u8 0, .int .u8 0, .int .u8 0, .int .u8 0, .int .u8 0, .int .u64 0])) (by kernel_rfl)) ?_
        clear eV579
        have h589 := kV579.bk h570
        have h590 := kV579.bk h571
        have h591 : Row V579 5 1 (.slice A3 37 cap3) 37 (B b37) := h572.keeps kV579 (fun _ _ x => x)
        have h592 := kV579.bk h573
        have h593 := kV579.bk h574
        have h594 := kV579.bk h575
        have h595 := kV579.bk h576
        have h596 := kV579.bk h562
        have K597 := K577.nn kV579
        have z598 := kV579.size
        refine ⟨h589, ?_⟩
        refine an_o 6 ?_
        obtain ⟨V599, eV599, kV599⟩ := rowset_step V579 g11 ((Att.c attOne))
        have h600 : V599.heap[g11]? = some (.cells (Att.c attOne) 29 (0, 0)) := eV599 ▸ setRow_heap _ _ _ _ _ _ h580
        refine on_s (o_VoteKnown 2046 6) (w' := V599) (by rw [← eV599]; exact exec_store_row 29 (.tmp 11) (.tmp 62) (by kernel_rfl) g11 ((Att.c attOne)) (by kernel_rfl) (by kernel_rfl) 29 (#[.int .i64 0, .int .i64 0, .int .i64 0, .int .u8 0, .int .u8 0, .int .u8 0, .int .u8 0, .int .u8 0, .int .u8 0, .int .u8 0, .int .u8 0, .int .u8 0, .int .u8 0, .int .u8 0, .int .u8 0, .int .u8 0, .int .u8 0, .int .u8 0, .int .u8 0, .int .u8 0, .int .u8 0, .int .u8 0, .int .u8 0, .int .u8 0, .int .u8 0, .int .u8 0, .int .u8 0, .int .u8 0, .int .u8 0, .int .u8 0, .int .u8 0, .int .u8 0, .int .u8 0, .int .u8 0, .int .u8 0, .int .u64 0]) h580 (by kernel_rfl) (by kernel_rfl) (Att.c_one _)) ?_
        clear eV599
        have h601 := kV599.bo h589 (by omega)
        have h602 := kV599.bo h590 (by omega)
        have h603 : Row V599 5 1 (.slice A3 37 cap3) 37 (B b37) := h591.keeps kV599 (fun j hj e => by have := hltX j hj; unfold Own.One at e; omega)
        have h604 := kV599.bo h592 (by omega)
        have h605 := kV599.bo h593 (by omega)
        have h606 := kV599.bo h594 (by omega)
        have h607 := kV599.bo h595 (by omega)
        have h608 := kV599.bo h596 (by omega)
        have K609 := K597.no kV599 (by omega)
        have z610 := kV599.size
        refine ⟨h601, ?_⟩
        refine an_o 7 ?_
        obtain ⟨V611, eV611, kV611⟩ := rowset_step V599 g12 ((Att.c attOne))
        have h612 : V611.heap[g12]? = some (.cells (Att.c attOne) 29 (0, 0)) := eV611 ▸ setRow_heap _ _ _ _ _ _ h608
        refine on_s (o_VoteKnown 2046 7) (w' := V611) (by rw [← eV611]; exact exec_store_row 29 (.tmp 12) (.tmp 63) (by kernel_rfl) g12 ((Att.c attOne)) (by kernel_rfl) (by kernel_rfl) 29 (#[.int .i64 0, .int .i64 0, .int .i64 0, .int .u8 0, .int .u8 0, .int .u8 0, .int .u8 0, .int .u8 0, .int .u8 0, .int .u8 0, .int .u8 0, .int .u8 0, .int .u8 0, .int .u8 0, .int .u8 0, .int .u8 0, .int .u8 0, .int .u8 0, .int .u8 0, .int .u8 0, .int .u8 0, .int .u8 0, .int .u8 0, .int .u8 0, .int .u8 0, .int .u8 0, .int .u8 0, .int .u8 0, .int .u8 0, .int .u8 0, .int .u8 0, .int .u8 0, .int .u8 0, .int .u8 0, .int .u8 0, .int .u64 0]) h608 (by kernel_rfl) (by kernel_rfl) (Att.c_one _)) ?_
        clear eV611
        have h613 := kV611.bo h601 (by omega)
        have h614 := kV611.bo h602 (by omega)
        have h615 : Row V611 5 1 (.slice A3 37 cap3) 37 (B b37) := h603.keeps kV611 (fun j hj e => by have := hltX j hj; unfold Own.One at e; omega)
        have h616 := kV611.bo h604 (by omega)
        have h617 := kV611.bo h605 (by omega)
        have h618 := kV611.bo h606 (by omega)
        have h619 := kV611.bo h607 (by omega)
        have h620 := kV611.bo h600 (by omega)
        have K621 := K609.no kV611 (by omega)
        have z622 := kV611.size
        refine ⟨h613, ?_⟩
        refine an_o 8 ?_
        obtain ⟨V623, eV623, kV623⟩ := rowset_step V611 g13 ((Att.c attOne))
        have h624 : V623.heap[g13]? = some (.cells (Att.c attOne) 29 (0, 0)) := eV623 ▸ setRow_heap _ _ _ _ _ _ h619
        refine on_s (o_VoteKnown 2046 8) (w' := V623) (by rw [← eV623]; exact exec_store_row 29 (.tmp 13) (.tmp 64) (by kernel_rfl) g13 ((Att.c attOne)) (by kernel_rfl) (by kernel_rfl) 29 (#[.int .i64 0, .int .i64 0, .int .i64 0, .int .u8 0, .int .u8 0, .int .u8 0, .int .u8 0, .int .u8 0, .int .u8 0, .int .u8 0, .int .u8 0, .int .u8 0, .int .u8 0, .int .u8 0, .int .u8 0, .int .u8 0, .int .u8 0, .int .u8 0, .int .u8 0, .int .u8 0, .int .u8 0, .int .u8 0, .int .u8 0, .int .u8 0, .int .u8 0, .int .u8 0, .int .u8 0, .int .u8 0, .int .u8 0, .int .u8 0, .int .u8 0, .int .u8 0, .int .u8 0, .int .u8 0, .int .u8 0, .int .u64 0]) h619 (by kernel_rfl) (by kernel_rfl) (Att.c_one _)) ?_
        clear eV623
        have h625 := kV623.bo h613 (by omega)
        have h626 := kV623.bo h614 (by omega)
        have h627 : Row V623 5 1 (.slice A3 37 cap3) 37 (B b37) := h615.keeps kV623 (fun j hj e => by have := hltX j hj; unfold Own.One at e; omega)
        have h628 := kV623.bo h616 (by omega)
        have h629 := kV623.bo h617 (by omega)
        have h630 := kV623.bo h618 (by omega)
        have h631 := kV623.bo h620 (by omega)
        have h632 := kV623.bo h612 (by omega)
        have K633 := K621.no kV623 (by omega)
        have z634 := kV623.size
        refine ⟨h625, ?_⟩
        refine an_end (by kernel_rfl) ?_
        exact ⟨rfl, g11, g12, g13, by kernel_rfl, h625, h626, h627, h628, h629, h630, h631, h632, h624, by omega, K633⟩
  rintro a V635 ⟨g11, g12, g13, rfl, h636, h637, h638, h639, h640, h641, h642, h643, h644, hd645, K646⟩
  have z647 := lt_of_block h642
  refine then_n ?_
  refine sy_sq (part_VoteKnown 4094) (part_VoteKnown 4095) ?_
  refine sy_reg ?_
  refine rg_plain 11 (opsAt (part_VoteKnown 4094)) [0, 1] (by kernel_rfl) (by kernel_rfl) ?_
  refine ps_k (o_VoteKnown 4094 0) (pT g11 0) ?_
  obtain ⟨V648, eV648, kV648⟩ := cell_step V635 g11 0 (.int .i64 32)
  have h649 : V648.heap[g11]? = some (.cells (Att.c ⟨32, attOne.s, attOne.t, attOne.r, attOne.g⟩) 29 (0, 0)) := eV648 ▸ ((heap_setCell_same _ g11 0 _ _ (.int .i64 32) h642).trans (congrArg (fun c => some (Obj.cells c 29 (0, 0))) (show (Att.c attOne : Array Value).setIfInBounds 0 (.int .i64 32) = Att.c ⟨32, attOne.s, attOne.t, attOne.r, attOne.g⟩ from Att.c_set0 _ _)))
  refine ps_s (o_VoteKnown 4094 1) (w' := V648) (by rw [← eV648]; exact exec_store_cell 3 (.tmp 65) (.const (.int .i64 32)) (by kernel_rfl) g11 0 (by kernel_rfl) (.int .i64 32) (by kernel_rfl) (by kernel_rfl) (by kernel_rfl) (.int .i64 attOne.v) (rc (h642) (Att.c_0 _)) (frozen_of_row _ _ _ _ _ h642) (by kernel_rfl)) ?_
  clear eV648
  have h650 := kV648.bo h636 (by omega)
  have h651 := kV648.bo h637 (by omega)
  have h652 : Row V648 5 1 (.slice A3 37 cap3) 37 (B b37) := h638.keeps kV648 (fun j hj e => by have := hltX j hj; unfold Own.One at e; omega)
  have h653 := kV648.bo h639 (by omega)
  have h654 := kV648.bo h640 (by omega)
  have h655 := kV648.bo h641 (by omega)
  have h656 := kV648.bo h643 (by omega)
  have h657 := kV648.bo h644 (by omega)
  have K658 := K646.no kV648 (by omega)
  have z659 := kV648.size
  refine ps_end ?_
  refine then_n ?_
  refine sy_sq (part_VoteKnown 8190) (part_VoteKnown 8191) ?_
  refine sy_reg ?_
  refine rg_plain 12 (opsAt (part_VoteKnown 8190)) [0, 1] (by kernel_rfl) (by kernel_rfl) ?_
  refine ps_k (o_VoteKnown 8190 0) (pT g12 1) ?_
  obtain ⟨V660, eV660, kV660⟩ := cell_step V648 g12 1 (.int .i64 (-1))
  have h661 : V660.heap[g12]? = some (.cells (Att.c ⟨attOne.v, -1, attOne.t, attOne.r, attOne.g⟩) 29 (0, 0)) := eV660 ▸ ((heap_setCell_same _ g12 1 _ _ (.int .i64 (-1)) h656).trans (congrArg (fun c => some (Obj.cells c 29 (0, 0))) (show (Att.c attOne : Array Value).setIfInBounds 1 (.int .i64 (-1)) = Att.c ⟨attOne.v, -1, attOne.t, attOne.r, attOne.g⟩ from Att.c_set1 _ _)))
  refine ps_s (o_VoteKnown 8190 1) (w' := V660) (by rw [← eV660]; exact exec_store_cell 3 (.tmp 66) (.const (.int .i64 (-1))) (by kernel_rfl) g12 1 (by kernel_rfl) (.int .i64 (-1)) (by kernel_rfl) (by kernel_rfl) (by kernel_rfl) (.int .i64 attOne.s) (rc (h656) (Att.c_1 _)) (frozen_of_row _ _ _ _ _ h656) (by kernel_rfl)) ?_
  clear eV660
  have h662 := kV660.bo h650 (by omega)
  have h663 := kV660.bo h651 (by omega)
  have h664 : Row V660 5 1 (.slice A3 37 cap3) 37 (B b37) := h652.keeps kV660 (fun j hj e => by have := hltX j hj; unfold Own.One at e; omega)
  have h665 := kV660.bo h653 (by omega)
  have h666 := kV660.bo h654 (by omega)
  have h667 := kV660.bo h655 (by omega)
  have h668 := kV660.bo h657 (by omega)
  have h669 := kV660.bo h649 (by omega)
  have K670 := K658.no kV660 (by omega)
  have z671 := kV660.size
  refine ps_end ?_
  refine then_n ?_
  refine sy_sq (part_VoteKnown 16382) (part_VoteKnown 16383) ?_
  refine sy_reg ?_
  refine rg_plain 13 (opsAt (part_VoteKnown 16382)) [0, 1] (by kernel_rfl) (by kernel_rfl) ?_
  refine ps_k (o_VoteKnown 16382 0) (pT g13 2) ?_
  obtain ⟨V672, eV672, kV672⟩ := cell_step V660 g13 2 (.int .i64 4294967297)
  have h673 : V672.heap[g13]? = some (.cells (Att.c ⟨attOne.v, attOne.s, 4294967297, attOne.r, attOne.g⟩) 29 (0, 0)) := eV672 ▸ ((heap_setCell_same _ g13 2 _ _ (.int .i64 4294967297) h668).trans (congrArg (fun c => some (Obj.cells c 29 (0, 0))) (show (Att.c attOne : Array Value).setIfInBounds 2 (.int .i64 4294967297) = Att.c ⟨attOne.v, attOne.s, 4294967297, attOne.r, attOne.g⟩ from Att.c_set2 _ _)))
  refine ps_s (o_VoteKnown 16382 1) (w' := V672) (by rw [← eV672]; exact exec_store_cell 3 (.tmp 67) (.const (.int .i64 4294967297)) (by kernel_rfl) g13 2 (by kernel_rfl) (.int .i64 4294967297) (by kernel_rfl) (by kernel_rfl) (by kernel_rfl) (.int .i64 attOne.t) (rc (h668) (Att.c_2 _)) (frozen_of_row _ _ _ _ _ h668) (by kernel_rfl)) ?_
  clear eV672
  have h674 := kV672.bo h662 (by omega)
  have h675 := kV672.bo h663 (by omega)
  have h676 : Row V672 5 1 (.slice A3 37 cap3) 37 (B b37) := h664.keeps kV672 (fun j hj e => by have := hltX j hj; unfold Own.One at e; omega)
  have h677 := kV672.bo h665 (by omega)
  have h678 := kV672.bo h666 (by omega)
  have h679 := kV672.bo h667 (by omega)
  have h680 := kV672.bo h669 (by omega)
  have h681 := kV672.bo h661 (by omega)
  have K682 := K670.no kV672 (by omega)
  have z683 := kV672.size
  refine ps_end ?_
  refine then_n ?_
  refine sy_sq (part_VoteKnown 32766) (part_VoteKnown 32767) ?_
  refine sy_cut (fun a V => ∃ (g14 g15 : Nat), (a = ⟨#[.bool false, .pointer (some ⟨g1, 0, none⟩), .pointer (some ⟨g2, 0, none⟩), .slice A3 37 cap3, .int .i64 0, .pointer (some ⟨g5, 0, none⟩), .pointer (some ⟨d6, 0, none⟩), .int .i64 0, .pointer (some ⟨d8, 0, none⟩), .int .i64 0, .bool true, .pointer (some ⟨g11, 0, none⟩), .pointer (some ⟨g12, 0, none⟩), .pointer (some ⟨g13, 0, none⟩), .pointer (some ⟨g14, 0, none⟩), .pointer (some ⟨g15, 0, none⟩), undef, undef, undef, undef, undef, undef, .agg (Att.c attOne), .agg (Pro.c proOne), .tuple #[.slice A3 37 cap3, .int .i64 0], .agg (Att.c attOne), .tuple #[.slice A3 37 cap3, .int .i64 0], .slice A3 37 cap3, .int .i64 0, .slice A3 37 cap3, .int .i64 37, .bool false, .agg (Att.c attOne), .pointer (some ⟨g5, 35, none⟩), .tuple #[.agg (B attOne.dig).toArray, .int .i64 0], .agg (Att.c attOne), .tuple #[.agg (B attOne.dig).toArray, .int .i64 0], .agg (B attOne.dig).toArray, .int .i64 0, .tuple #[.agg (B attOne.dig).toArray, .int .i64 0], .agg (Att.c ⟨attOne.v, attOne.s, attOne.t, attOne.r, 9⟩), .tuple #[.agg (B attOne.dig).toArray, .int .i64 0], .agg (B attOne.dig).toArray, .int .i64 0, .int .i64 0, .bool true, .bool true, .int .i64 0, .bool true, .bool true, .bool true, .agg ((B attOne.dig).toArray), .slice A3 37 cap3, .slice A3 36 cap3, .agg (B attOne.dig).toArray, .bool true, .bool true, .bool true, .agg ((B attOne.dig).toArray), .agg ((B attOne.dig).toArray), .bool true, .bool true, .agg (Att.c attOne), .agg (Att.c attOne), .agg (Att.c attOne), .pointer (some ⟨g11, 0, none⟩), .pointer (some ⟨g12, 1, none⟩), .pointer (some ⟨g13, 2, none⟩), .agg (Pro.c proOne), .agg (Pro.c proOne), undef, undef, undef, undef, undef, undef, undef, undef, undef, undef, undef, undef, undef, undef, undef, undef, undef, undef, undef, undef, undef, undef, undef, undef, undef, undef, undef, undef, undef, undef, undef, undef, undef, undef, undef, undef, undef, undef, undef, undef, undef, undef, undef, undef, undef, undef, undef, undef, undef, undef, undef, undef, undef, undef, undef, undef, undef, undef, undef, undef, undef, undef, undef, undef, undef, undef, undef, undef, undef, undef, undef, undef, undef, undef, undef, undef, undef, undef, undef, undef, undef], []⟩) ∧ (V.heap[g1]? = some (.cells (Att.c attOne) 29 (0, 0))) ∧ (V.heap[g2]? = some (.cells (Pro.c proOne) 36 (0, 0))) ∧ (Row V 5 1 (.slice A3 37 cap3) 37 (B b37)) ∧ (V.heap[g5]? = some (.cells (Att.c ⟨attOne.v, attOne.s, attOne.t, attOne.r, 9⟩) 29 (0, 0))) ∧ (V.heap[d6]? = some (.cells ((B attOne.dig).toArray) 26 (0, 0))) ∧ (V.heap[d8]? = some (.cells ((B attOne.dig).toArray) 26 (0, 0))) ∧ (V.heap[g11]? = some (.cells (Att.c ⟨32, attOne.s, attOne.t, attOne.r, attOne.g⟩) 29 (0, 0))) ∧ (V.heap[g12]? = some (.cells (Att.c ⟨attOne.v, -1, attOne.t, attOne.r, attOne.g⟩) 29 (0, 0))) ∧ (V.heap[g13]? = some (.cells (Att.c ⟨attOne.v, attOne.s, 4294967297, attOne.r, attOne.g⟩) 29 (0, 0))) ∧ (V.heap[g14]? = some (.cells (Pro.c proOne) 36 (0, 0))) ∧ (V.heap[g15]? = some (.cells (Pro.c proOne) 36 (0, 0))) ∧ (g14 ≠ g15 ∧ g14 ≠ g1 ∧ g14 ≠ g2 ∧ g14 ≠ g5 ∧ g14 ≠ d6 ∧ g14 ≠ d8 ∧ g14 ≠ g11 ∧ g14 ≠ g12 ∧ g14 ≠ g13 ∧ g15 ≠ g1 ∧ g15 ≠ g2 ∧ g15 ≠ g5 ∧ g15 ≠ d6 ∧ g15 ≠ d8 ∧ g15 ≠ g11 ∧ g15 ≠ g12 ∧ g15 ≠ g13 ∧ w.heap.size ≤ g14 ∧ w.heap.size ≤ g15 ∧ V672.heap.size ≤ g14 ∧ V672.heap.size ≤ g15) ∧ (Keeps Nob w V)) ?_ ?_
  · refine sy_np ?_
    refine sy_reg ?_
    refine an_begin 14 6 (opsAt (part_VoteKnown 32766)) (fun W => (W.heap[g2]? = some (.cells (Pro.c proOne) 36 (0, 0)))) #[false, false, false, false, false, false] (by kernel_rfl) (by kernel_rfl) (by kernel_rfl) (by kernel_rfl) ?_
    obtain ⟨V684, eV684, kV684⟩ := drew_step V672
    rw [eV684]
    clear eV684
    have h685 := kV684.bk h674
    have h686 := kV684.bk h675
    have h687 : Row V684 5 1 (.slice A3 37 cap3) 37 (B b37) := h676.keeps kV684 (fun _ _ x => x)
    have h688 := kV684.bk h677
    have h689 := kV684.bk h678
    have h690 := kV684.bk h679
    have h691 := kV684.bk h680
    have h692 := kV684.bk h681
    have h693 := kV684.bk h673
    have K694 := K682.nn kV684
    have z695 := kV684.size
    refine an_v 0 (o_VoteKnown 32766 0) (.agg (Pro.c proOne)) (fun W hS => exec_load_row 36 (.tmp 2) (by kernel_rfl) g2 (by kernel_rfl) _ _ (0, 0) _ (hS) Try.underlying36 rfl (by rw [Pro.c_size _ (show proOne.r.length = 32 from rfl)]; kernel_rfl)) h686 ?_
    refine an_v 1 (o_VoteKnown 32766 1) (.agg (Pro.c proOne)) (fun W hS => exec_load_row 36 (.tmp 2) (by kernel_rfl) g2 (by kernel_rfl) _ _ (0, 0) _ (hS) Try.underlying36 rfl (by rw [Pro.c_size _ (show proOne.r.length = 32 from rfl)]; kernel_rfl)) h686 ?_
    refine an_two 2 3 (by kernel_rfl) ?_ ?_
    · obtain ⟨V696, eV696, g14, eg14, h697, kV696⟩ := alloc_step V684 (#[.int .i64 0, .int .i64 0, .int .u8 0, .int .u8 0, .int .u8 0, .int .u8 0, .int .u8 0, .int .u8 0, .int .u8 0, .int .u8 0, .int .u8 0, .int .u8 0, .int .u8 0, .int .u8 0, .int .u8 0, .int .u8 0, .int .u8 0, .int .u8 0, .int .u8 0, .int .u8 0, .int .u8 0, .int .u8 0, .int .u8 0, .int .u8 0, .int .u8 0, .int .u8 0, .int .u8 0, .int .u8 0, .int .u8 0, .int .u8 0, .int .u8 0, .int .u8 0, .int .u8 0, .int .u8 0, .int .u64 0]) 36
      have n698 : g1 < g14 := eg14 ▸ lt_of_block h685
      have n699 : g2 < g14 := eg14 ▸ lt_of_block h686
      have n700 : g5 < g14 := eg14 ▸ lt_of_block h688
      have n701 : d6 < g14 := eg14 ▸ lt_of_block h689
      have n702 : d8 < g14 := eg14 ▸ lt_of_block h690
      have n703 : g11 < g14 := eg14 ▸ lt_of_block h691
      have n704 : g12 < g14 := eg14 ▸ lt_of_block h692
      have n705 : g13 < g14 := eg14 ▸ lt_of_block h693
      have n706 : w.heap.size ≤ g14 := eg14 ▸ K694.size
      refine on_r (o_VoteKnown 32766 2) (pT g14 0) (w' := V696) (by rw [← eV696, ← eg14]; exact exec_alloc0 36 (by kernel_rfl) (.agg (#[.int .i64 0, .int .i64 0, .int .u8 0, .int .u8 0, .int .u8 0, .int .u8 0, .int .u8 0, .int .u8 0, .int .u8 0, .int .u8 0, .int .u8 0, .int .u8 0, .int .u8 0, .int .u8 0, .int .u8 0, .int .u8 0, .int .u8 0, .int .u8 0, .int .u8 0, .int .u8 0, .int .u8 0, .int .u8 0, .int .u8 0, .int .u8 0, .int .u8 0, .int .u8 0, .int .u8 0, .int .u8 0, .int .u8 0, .int .u8 0, .int .u8 0, .int .u8 0, .int .u8 0, .int .u8 0, .int .u64 0])) (by kernel_rfl)) ?_
      clear eV696
      have h707 := kV696.bk h685
      have h708 := kV696.bk h686
      have h709 : Row V696 5 1 (.slice A3 37 cap3) 37 (B b37) := h687.keeps kV696 (fun _ _ x => x)
      have h710 := kV696.bk h688
      have h711 := kV696.bk h689
      have h712 := kV696.bk h690
      have h713 := kV696.bk h691
      have h714 := kV696.bk h692
      have h715 := kV696.bk h693
      have K716 := K694.nn kV696
      have z717 := kV696.size
      refine ⟨h708, ?_⟩
      refine an_o 3 ?_
      obtain ⟨V718, eV718, g15, eg15, h719, kV718⟩ := alloc_step V696 (#[.int .i64 0, .int .i64 0, .int .u8 0, .int .u8 0, .int .u8 0, .int .u8 0, .int .u8 0, .int .u8 0, .int .u8 0, .int .u8 0, .int .u8 0, .int .u8 0, .int .u8 0, .int .u8 0, .int .u8 0, .int .u8 0, .int .u8 0, .int .u8 0, .int .u8 0, .int .u8 0, .int .u8 0, .int .u8 0, .int .u8 0, .int .u8 0, .int .u8 0, .int .u8 0, .int .u8 0, .int .u8 0, .int .u8 0, .int .u8 0, .int .u8 0, .int .u8 0, .int .u8 0, .int .u8 0, .int .u64 0]) 36
      have n720 : g1 < g15 := eg15 ▸ lt_of_block h707
      have n721 : g2 < g15 := eg15 ▸ lt_of_block h708
      have n722 : g5 < g15 := eg15 ▸ lt_of_block h710
      have n723 : d6 < g15 := eg15 ▸ lt_of_block h711
      have n724 : d8 < g15 := eg15 ▸ lt_of_block h712
      have n725 : g11 < g15 := eg15 ▸ lt_of_block h713
      have n726 : g12 < g15 := eg15 ▸ lt_of_block h714
      have n727 : g13 < g15 := eg15 ▸ lt_of_block h715
      have n728 : g14 < g15 := eg15 ▸ lt_of_block h697
      have n729 : w.heap.size ≤ g15 := eg15 ▸ K716.size
      refine on_r (o_VoteKnown 32766 3) (pT g15 0) (w' := V718) (by rw [← eV718, ← eg15]; exact exec_alloc0 36 (by kernel_rfl) (.agg (#[.int .i64 0, .int .i64 0, .int .u8 0, .int .u8 0, .int .u8 0, .int .u8 0, .int .u8 0, .int .u8 0, .int .u8 0, .int .u8 0, .int .u8 0, .int .u8 0, .int .u8 0, .int .u8 0, .int .u8 0, .int .u8 0, .int .u8 0, .int .u8 0, .int .u8 0, .int .u8 0, .int .u8 0, .int .u8 0, .int .u8 0, .int .u8 0, .int .u8 0, .int .u8 0, .int .u8 0, .int .u8 0, .int .u8 0, .int .u8 0, .int .u8 0, .int .u8 0, .int .u8 0, .int .u8 0, .int .u64 0])) (by kernel_rfl)) ?_
      clear eV718
      have h730 := kV718.bk h707
      have h731 := kV718.bk h708
      have h732 : Row V718 5 1 (.slice A3 37 cap3) 37 (B b37) := h709.keeps kV718 (fun _ _ x => x)
      have h733 := kV718.bk h710
      have h734 := kV718.bk h711
      have h735 := kV718.bk h712
      have h736 := kV718.bk h713
      have h737 := kV718.bk h714
      have h738 := kV718.bk h715
      have h739 := kV718.bk h697
      have K740 := K716.nn kV718
      have z741 := kV718.size
      refine ⟨h731, ?_⟩
      refine an_o 4 ?_
      obtain ⟨V742, eV742, kV742⟩ := rowset_step V718 g14 ((Pro.c proOne))
      have h743 : V742.heap[g14]? = some (.cells (Pro.c proOne) 36 (0, 0)) := eV742 ▸ setRow_heap _ _ _ _ _ _ h739
      refine on_s (o_VoteKnown 32766 4) (w' := V742) (by rw [← eV742]; exact exec_store_row 36 (.tmp 14) (.tmp 68) (by kernel_rfl) g14 ((Pro.c proOne)) (by kernel_rfl) (by kernel_rfl) 36 (#[.int .i64 0, .int .i64 0, .int .u8 0, .int .u8 0, .int .u8 0, .int .u8 0, .int .u8 0, .int .u8 0, .int .u8 0, .int .u8 0, .int .u8 0, .int .u8 0, .int .u8 0, .int .u8 0, .int .u8 0, .int .u8 0, .int .u8 0, .int .u8 0, .int .u8 0, .int .u8 0, .int .u8 0, .int .u8 0, .int .u8 0, .int .u8 0, .int .u8 0, .int .u8 0, .int .u8 0, .int .u8 0, .int .u8 0, .int .u8 0, .int .u8 0, .int .u8 0, .int .u8 0, .int .u8 0, .int .u64 0]) h739 (by kernel_rfl) (by kernel_rfl) (Pro.c_one _)) ?_
      clear eV742
      have h744 := kV742.bo h730 (by omega)
      have h745 := kV742.bo h731 (by omega)
      have h746 : Row V742 5 1 (.slice A3 37 cap3) 37 (B b37) := h732.keeps kV742 (fun j hj e => by have := hltX j hj; unfold Own.One at e; omega)
      have h747 := kV742.bo h733 (by omega)
      have h748 := kV742.bo h734 (by omega)
      have h749 := kV742.bo h735 (by omega)
      have h750 := kV742.bo h736 (by omega)
      have h751 := kV742.bo h737 (by omega)
      have h752 := kV742.bo h738 (by omega)
      have h753 := kV742.bo h719 (by omega)
      have K754 := K740.no kV742 (by omega)
      have z755 := kV742.size
      refine ⟨h745, ?_⟩
      refine an_o 5 ?_
      obtain ⟨V756, eV756, kV756⟩ := rowset_step V742 g15 ((Pro.c proOne))
      have h757 : V756.heap[g15]? = some (.cells (Pro.c proOne) 36 (0, 0)) := eV756 ▸ setRow_heap _ _ _ _ _ _ h753
      refine on_s (o_VoteKnown 32766 5) (w' := V756) (by rw [← eV756]; exact exec_store_row 36 (.tmp 15) (.tmp 69) (by kernel_rfl) g15 ((Pro.c proOne)) (by kernel_rfl) (by kernel_rfl) 36 (#[.int .i64 0, .int .i64 0, .int .u8 0, .int .u8 0, .int .u8 0, .int .u8 0, .int .u8 0, .int .u8 0, .int .u8 0, .int .u8 0, .int .u8 0, .int .u8 0, .int .u8 0, .int .u8 0, .int .u8 0, .int .u8 0, .int .u8 0, .int .u8 0, .int .u8 0, .int .u8 0, .int .u8 0, .int .u8 0, .int .u8 0, .int .u8 0, .int .u8 0, .int .u8 0, .int .u8 0, .int .u8 0, .int .u8 0, .int .u8 0, .int .u8 0, .int .u8 0, .int .u8 0, .int .u8 0, .int .u64 0]) h753 (by kernel_rfl) (by kernel_rfl) (Pro.c_one _)) ?_
      clear eV756
      have h758 := kV756.bo h744 (by omega)
      have h759 := kV756.bo h745 (by omega)
      have h760 : Row V756 5 1 (.slice A3 37 cap3) 37 (B b37) := h746.keeps kV756 (fun j hj e => by have := hltX j hj; unfold Own.One at e; omega)
      have h761 := kV756.bo h747 (by omega)
      have h762 := kV756.bo h748 (by omega)
      have h763 := kV756.bo h749 (by omega)
      have h764 := kV756.bo h750 (by omega)
      have h765 := kV756.bo h751 (by omega)
      have h766 := kV756.bo h752 (by omega)
      have h767 := kV756.bo h743 (by omega)
      have K768 := K754.no kV756 (by omega)
      have z769 := kV756.size
      refine ⟨h759, ?_⟩
      refine an_end (by kernel_rfl) ?_
      exact ⟨rfl, g14, g15, by kernel_rfl, h758, h759, h760, h761, h762, h763, h764, h765, h766, h767, h757, by omega, K768⟩
    · obtain ⟨V770, eV770, g15, eg15, h771, kV770⟩ := alloc_step V684 (#[.int .i64 0, .int .i64 0, .int .u8 0, .int .u8 0, .int .u8 0, .int .u8 0, .int .u8 0, .int .u8 0, .int .u8 0, .int .u8 0, .int .u8 0, .int .u8 0, .int .u8 0, .int .u8 0, .int .u8 0, .int .u8 0, .int .u8 0, .int .u8 0, .int .u8 0, .int .u8 0, .int .u8 0, .int .u8 0, .int .u8 0, .int .u8 0, .int .u8 0, .int .u8 0, .int .u8 0, .int .u8 0, .int .u8 0, .int .u8 0, .int .u8 0, .int .u8 0, .int .u8 0, .int .u8 0, .int .u64 0]) 36
      have n772 : g1 < g15 := eg15 ▸ lt_of_block h685
      have n773 : g2 < g15 := eg15 ▸ lt_of_block h686
      have n774 : g5 < g15 := eg15 ▸ lt_of_block h688
      have n775 : d6 < g15 := eg15 ▸ lt_of_block h689
      have n776 : d8 < g15 := eg15 ▸ lt_of_block h690
      have n777 : g11 < g15 := eg15 ▸ lt_of_block h691
      have n778 : g12 < g15 := eg15 ▸ lt_of_block h692
      have n779 : g13 < g15 := eg15 ▸ lt_of_block h693
      have n780 : w.heap.size ≤ g15 := eg15 ▸ K694.size
      refine on_r (o_VoteKnown 32766 3) (pT g15 0) (w' := V770) (by rw [← eV770, ← eg15]; exact exec_alloc0 36 (by kernel_rfl) (.agg (#[.int .i64 0, .int .i64 0, .int .u8 0, .int .u8 0, .int .u8 0, .int .u8 0, .int .u8 0, .int .u8 0, .int .u8 0, .int .u8 0, .int .u8 0, .int .u8 0, .int .u8 0, .int .u8 0, .int .u8 0, .int .u8 0, .int .u8 0, .int .u8 0, .int .u8 0, .int .u8 0, .int .u8 0, .int .u8 0, .int .u8 0, .int .u8 0, .int .u8 0, .int .u8 0, .int .u8 0, .int .u8 0, .int .u8 0, .int .u8 0, .int .u8 0, .int .u8 0, .int .u8 0, .int .u8 0, .int .u64 0])) (by kernel_rfl)) ?_
      clear eV770
      have h781 := kV770.bk h685
      have h782 := kV770.bk h686
      have h783 : Row V770 5 1 (.slice A3 37 cap3) 37 (B b37) := h687.keeps kV770 (fun _ _ x => x)
      have h784 := kV770.bk h688
      have h785 := kV770.bk h689
      have h786 := kV770.bk h690
      have h787 := kV770.bk h691
      have h788 := kV770.bk h692
      have h789 := kV770.bk h693
      have K790 := K694.nn kV770
      have z791 := kV770.size
      refine ⟨h782, ?_⟩
      refine an_o 2 ?_
      obtain ⟨V792, eV792, g14, eg14, h793, kV792⟩ := alloc_step V770 (#[.int .i64 0, .int .i64 0, .int .u8 0, .int .u8 0, .int .u8 0, .int .u8 0, .int .u8 0, .int .u8 0, .int .u8 0, .int .u8 0, .int .u8 0, .int .u8 0, .int .u8 0, .int .u8 0, .int .u8 0, .int .u8 0, .int .u8 0, .int .u8 0, .int .u8 0, .int .u8 0, .int .u8 0, .int .u8 0, .int .u8 0, .int .u8 0, .int .u8 0, .int .u8 0, .int .u8 0, .int .u8 0, .int .u8 0, .int .u8 0, .int .u8 0, .int .u8 0, .int .u8 0, .int .u8 0, .int .u64 0]) 36
      have n794 : g1 < g14 := eg14 ▸ lt_of_block h781
      have n795 : g2 < g14 := eg14 ▸ lt_of_block h782
      have n796 : g5 < g14 := eg14 ▸ lt_of_block h784
      have n797 : d6 < g14 := eg14 ▸ lt_of_block h785
      have n798 : d8 < g14 := eg14 ▸ lt_of_block h786
      have n799 : g11 < g14 := eg14 ▸ lt_of_block h787
      have n800 : g12 < g14 := eg14 ▸ lt_of_block h788
      have n801 : g13 < g14 := eg14 ▸ lt_of_block h789
      have n802 : g15 < g14 := eg14 ▸ lt_of_block h771
      have n803 : w.heap.size ≤ g14 := eg14 ▸ K790.size
      refine on_r (o_VoteKnown 32766 2) (pT g14 0) (w' := V792) (by rw [← eV792, ← eg14]; exact exec_alloc0 36 (by kernel_rfl) (.agg (#[.int .i64 0, .int .i64 0, .int .u8 0, .int .u8 0, .int .u8 0, .int .u8 0, .int .u8 0, .int .u8 0, .int .u8 0, .int .u8 0, .int .u8 0, .int .u8 0, .int .u8 0, .int .u8 0, .int .u8 0, .int .u8 0, .int .u8 0, .int .u8 0, .int .u8 0, .int .u8 0, .int .u8 0, .int .u8 0, .int .u8 0, .int .u8 0, .int .u8 0, .int .u8 0, .int .u8 0, .int .u8 0, .int .u8 0, .int .u8 0, .int .u8 0, .int .u8 0, .int .u8 0, .int .u8 0, .int .u64 0])) (by kernel_rfl)) ?_
      clear eV792
      have h804 := kV792.bk h781
      have h805 := kV792.bk h782
      have h806 : Row V792 5 1 (.slice A3 37 cap3) 37 (B b37) := h783.keeps kV792 (fun _ _ x => x)
      have h807 := kV792.bk h784
      have h808 := kV792.bk h785
      have h809 := kV792.bk h786
      have h810 := kV792.bk h787
      have h811 := kV792.bk h788
      have h812 := kV792.bk h789
      have h813 := kV792.bk h771
      have K814 := K790.nn kV792
      have z815 := kV792.size
      refine ⟨h805, ?_⟩
      refine an_o 4 ?_
      obtain ⟨V816, eV816, kV816⟩ := rowset_step V792 g14 ((Pro.c proOne))
      have h817 : V816.heap[g14]? = some (.cells (Pro.c proOne) 36 (0, 0)) := eV816 ▸ setRow_heap _ _ _ _ _ _ h793
      refine on_s (o_VoteKnown 32766 4) (w' := V816) (by rw [← eV816]; exact exec_store_row 36 (.tmp 14) (.tmp 68) (by kernel_rfl) g14 ((Pro.c proOne)) (by kernel_rfl) (by kernel_rfl) 36 (#[.int .i64 0, .int .i64 0, .int .u8 0, .int .u8 0, .int .u8 0, .int .u8 0, .int .u8 0, .int .u8 0, .int .u8 0, .int .u8 0, .int .u8 0, .int .u8 0, .int .u8 0, .int .u8 0, .int .u8 0, .int .u8 0, .int .u8 0, .int .u8 0, .int .u8 0, .int .u8 0, .int .u8 0, .int .u8 0, .int .u8 0, .int .u8 0, .int .u8 0, .int .u8 0, .int .u8 0, .int .u8 0, .int .u8 0, .int .u8 0, .int .u8 0, .int .u8 0, .int .u8 0, .int .u8 0, .int .u64 0]) h793 (by kernel_rfl) (by kernel_rfl) (Pro.c_one _)) ?_
      clear eV816
      have h818 := kV816.bo h804 (by omega)
      have h819 := kV816.bo h805 (by omega)
      have h820 : Row V816 5 1 (.slice A3 37 cap3) 37 (B b37) := h806.keeps kV816 (fun j hj e => by have := hltX j hj; unfold Own.One at e; omega)
      have h821 := kV816.bo h807 (by omega)
      have h822 := kV816.bo h808 (by omega)
      have h823 := kV816.bo h809 (by omega)
      have h824 := kV816.bo h810 (by omega)
      have h825 := kV816.bo h811 (by omega)
      have h826 := kV816.bo h812 (by omega)
      have h827 := kV816.bo h813 (by omega)
      have K828 := K814.no kV816 (by omega)
      have z829 := kV816.size
      refine ⟨h819, ?_⟩
      refine an_o 5 ?_
      obtain ⟨V830, eV830, kV830⟩ := rowset_step V816 g15 ((Pro.c proOne))
      have h831 : V830.heap[g15]? = some (.cells (Pro.c proOne) 36 (0, 0)) := eV830 ▸ setRow_heap _ _ _ _ _ _ h827
      refine on_s (o_VoteKnown 32766 5) (w' := V830) (by rw [← eV830]; exact exec_store_row 36 (.tmp 15) (.tmp 69) (by kernel_rfl) g15 ((Pro.c proOne)) (by kernel_rfl) (by kernel_rfl) 36 (#[.int .i64 0, .int .i64 0, .int .u8 0, .int .u8 0, .int .u8 0, .int .u8 0, .int .u8 0, .int .u8 0, .int .u8 0, .int .u8 0, .int .u8 0, .int .u8 0, .int .u8 0, .int .u8 0, .int .u8 0, .int .u8 0, .int .u8 0, .int .u8 0, .int .u8 0, .int .u8 0, .int .u8 0, .int .u8 0, .int .u8 0, .int .u8 0, .int .u8 0, .int .u8 0, .int .u8 0, .int .u8 0, .int .u8 0, .int .u8 0, .int .u8 0, .int .u8 0, .int .u8 0, .int .u8 0, .int .u64 0]) h827 (by kernel_rfl) (by kernel_rfl) (Pro.c_one _)) ?_
      clear eV830
      have h832 := kV830.bo h818 (by omega)
      have h833 := kV830.bo h819 (by omega)
      have h834 : Row V830 5 1 (.slice A3 37 cap3) 37 (B b37) := h820.keeps kV830 (fun j hj e => by have := hltX j hj; unfold Own.One at e; omega)
      have h835 := kV830.bo h821 (by omega)
      have h836 := kV830.bo h822 (by omega)
      have h837 := kV830.bo h823 (by omega)
      have h838 := kV830.bo h824 (by omega)
      have h839 := kV830.bo h825 (by omega)
      have h840 := kV830.bo h826 (by omega)
      have h841 := kV830.bo h817 (by omega)
      have K842 := K828.no kV830 (by omega)
      have z843 := kV830.size
      refine ⟨h833, ?_⟩
      refine an_end (by kernel_rfl) ?_
      exact ⟨rfl, g14, g15, by kernel_rfl, h832, h833, h834, h835, h836, h837, h838, h839, h840, h841, h831, by omega, K842⟩
  rintro a V844 ⟨g14, g15, rfl, h845, h846, h847, h848, h849, h850, h851, h852, h853, h854, h855, hd856, K857⟩
  have z858 := lt_of_block h854
  refine then_n ?_
  refine sy_sq (part_VoteKnown 65534) (part_VoteKnown 65535) ?_
  refine sy_reg ?_
  refine rg_plain 15 (opsAt (part_VoteKnown 65534)) [0, 1] (by kernel_rfl) (by kernel_rfl) ?_
  refine ps_k (o_VoteKnown 65534 0) (pT g14 1) ?_
  obtain ⟨V859, eV859, kV859⟩ := cell_step V844 g14 1 (.int .i64 0)
  have h860 : V859.heap[g14]? = some (.cells (Pro.c ⟨proOne.v, 0, proOne.r, proOne.g⟩) 36 (0, 0)) := eV859 ▸ ((heap_setCell_same _ g14 1 _ _ (.int .i64 0) h854).trans (congrArg (fun c => some (Obj.cells c 36 (0, 0))) (show (Pro.c proOne : Array Value).setIfInBounds 1 (.int .i64 0) = Pro.c ⟨proOne.v, 0, proOne.r, proOne.g⟩ from Pro.c_set1 _ _)))
  refine ps_s (o_VoteKnown 65534 1) (w' := V859) (by rw [← eV859]; exact exec_store_cell 3 (.tmp 70) (.const (.int .i64 0)) (by kernel_rfl) g14 1 (by kernel_rfl) (.int .i64 0) (by kernel_rfl) (by kernel_rfl) (by kernel_rfl) (.int .i64 proOne.h) (rc (h854) (Pro.c_1 _)) (frozen_of_row _ _ _ _ _ h854) (by kernel_rfl)) ?_
  clear eV859
  have h861 := kV859.bo h845 (by omega)
  have h862 := kV859.bo h846 (by omega)
  have h863 : Row V859 5 1 (.slice A3 37 cap3) 37 (B b37) := h847.keeps kV859 (fun j hj e => by have := hltX j hj; unfold Own.One at e; omega)
  have h864 := kV859.bo h848 (by omega)
  have h865 := kV859.bo h849 (by omega)
  have h866 := kV859.bo h850 (by omega)
  have h867 := kV859.bo h851 (by omega)
  have h868 := kV859.bo h852 (by omega)
  have h869 := kV859.bo h853 (by omega)
  have h870 := kV859.bo h855 (by omega)
  have K871 := K857.no kV859 (by omega)
  have z872 := kV859.size
  refine ps_end ?_
  refine then_n ?_
  refine sy_sq (part_VoteKnown 131070) (part_VoteKnown 131071) ?_
  refine sy_reg ?_
  refine rg_plain 16 (opsAt (part_VoteKnown 131070)) [0, 1] (by kernel_rfl) (by kernel_rfl) ?_
  refine ps_k (o_VoteKnown 131070 0) (pT g15 0) ?_
  obtain ⟨V873, eV873, kV873⟩ := cell_step V859 g15 0 (.int .i64 (-1))
  have h874 : V873.heap[g15]? = some (.cells (Pro.c ⟨-1, proOne.h, proOne.r, proOne.g⟩) 36 (0, 0)) := eV873 ▸ ((heap_setCell_same _ g15 0 _ _ (.int .i64 (-1)) h870).trans (congrArg (fun c => some (Obj.cells c 36 (0, 0))) (show (Pro.c proOne : Array Value).setIfInBounds 0 (.int .i64 (-1)) = Pro.c ⟨-1, proOne.h, proOne.r, proOne.g⟩ from Pro.c_set0 _ _)))
  refine ps_s (o_VoteKnown 131070 1) (w' := V873) (by rw [← eV873]; exact exec_store_cell 3 (.tmp 71) (.const (.int .i64 (-1))) (by kernel_rfl) g15 0 (by kernel_rfl) (.int .i64 (-1)) (by kernel_rfl) (by kernel_rfl) (by kernel_rfl) (.int .i64 proOne.v) (rc (h870) (Pro.c_0 _)) (frozen_of_row _ _ _ _ _ h870) (by kernel_rfl)) ?_
  clear eV873
  have h875 := kV873.bo h861 (by omega)
  have h876 := kV873.bo h862 (by omega)
  have h877 : Row V873 5 1 (.slice A3 37 cap3) 37 (B b37) := h863.keeps kV873 (fun j hj e => by have := hltX j hj; unfold Own.One at e; omega)
  have h878 := kV873.bo h864 (by omega)
  have h879 := kV873.bo h865 (by omega)
  have h880 := kV873.bo h866 (by omega)
  have h881 := kV873.bo h867 (by omega)
  have h882 := kV873.bo h868 (by omega)
  have h883 := kV873.bo h869 (by omega)
  have h884 := kV873.bo h860 (by omega)
  have K885 := K871.no kV873 (by omega)
  have z886 := kV873.size
  refine ps_end ?_
  refine then_n ?_
  refine sy_sq (part_VoteKnown 262142) (part_VoteKnown 262143) ?_
  refine sy_reg ?_
  refine rg_plain 17 (opsAt (part_VoteKnown 262142)) [0, 1, 2, 3, 4, 5, 6, 7, 8, 9, 10, 11, 12, 13, 14, 15, 16, 17, 18, 19, 20, 21, 22, 23] (by kernel_rfl) (by kernel_rfl) ?_
  refine ps_p (o_VoteKnown 262142 0) (.agg (Att.c ⟨32, attOne.s, attOne.t, attOne.r, attOne.g⟩)) (exec_load_row 29 (.tmp 11) (by kernel_rfl) g11 (by kernel_rfl) _ _ (0, 0) _ (h881) Try.underlying29 rfl (by rw [Att.c_size (⟨32, attOne.s, attOne.t, attOne.r, attOne.g⟩) (show attOne.r.length = 32 from rfl)]; kernel_rfl)) ?_
  refine ps_c (o_VoteKnown 262142 1) 21 #[.agg (Att.c ⟨32, attOne.s, attOne.t, attOne.r, attOne.g⟩)] Try.func21 ((vCheck_is attOdd (x := 3) _ rfl (by decide)).mono ?_)
  rintro e V887 ⟨rfl, kV887⟩
  refine ⟨_, rfl, ?_⟩
  have h888 := kV887.bk h875
  have h889 := kV887.bk h876
  have h890 : Row V887 5 1 (.slice A3 37 cap3) 37 (B b37) := h877.keeps kV887 (fun _ _ x => x)
  have h891 := kV887.bk h878
  have h892 := kV887.bk h879
  have h893 := kV887.bk h880
  have h894 := kV887.bk h881
  have h895 := kV887.bk h882
  have h896 := kV887.bk h883
  have h897 := kV887.bk h884
  have h898 := kV887.bk h874
  have K899 := K885.nn kV887
  have z900 := kV887.size
  refine ps_k (o_VoteKnown 262142 2) (.bool true) ?_
  refine ps_k (o_VoteKnown 262142 3) (.bool true) ?_
  refine ps_p (o_VoteKnown 262142 4) (.agg (Att.c ⟨attOne.v, -1, attOne.t, attOne.r, attOne.g⟩)) (exec_load_row 29 (.tmp 12) (by kernel_rfl) g12 (by kernel_rfl) _ _ (0, 0) _ (h895) Try.underlying29 rfl (by rw [Att.c_size (⟨attOne.v, -1, attOne.t, attOne.r, attOne.g⟩) (show attOne.r.length = 32 from rfl)]; kernel_rfl)) ?_
  refine ps_c (o_VoteKnown 262142 5) 21 #[.agg (Att.c ⟨attOne.v, -1, attOne.t, attOne.r, attOne.g⟩)] Try.func21 ((vCheck_is attEarly (x := 3) _ rfl (by decide)).mono ?_)
  rintro e V901 ⟨rfl, kV901⟩
  refine ⟨_, rfl, ?_⟩
  have h902 := kV901.bk h888
  have h903 := kV901.bk h889
  have h904 : Row V901 5 1 (.slice A3 37 cap3) 37 (B b37) := h890.keeps kV901 (fun _ _ x => x)
  have h905 := kV901.bk h891
  have h906 := kV901.bk h892
  have h907 := kV901.bk h893
  have h908 := kV901.bk h894
  have h909 := kV901.bk h895
  have h910 := kV901.bk h896
  have h911 := kV901.bk h897
  have h912 := kV901.bk h898
  have K913 := K899.nn kV901
  have z914 := kV901.size
  refine ps_k (o_VoteKnown 262142 6) (.bool true) ?_
  refine ps_k (o_VoteKnown 262142 7) (.bool true) ?_
  refine ps_k (o_VoteKnown 262142 8) (.bool true) ?_
  refine ps_p (o_VoteKnown 262142 9) (.agg (Att.c ⟨attOne.v, attOne.s, 4294967297, attOne.r, attOne.g⟩)) (exec_load_row 29 (.tmp 13) (by kernel_rfl) g13 (by kernel_rfl) _ _ (0, 0) _ (h910) Try.underlying29 rfl (by rw [Att.c_size (⟨attOne.v, attOne.s, 4294967297, attOne.r, attOne.g⟩) (show attOne.r.length = 32 from rfl)]; kernel_rfl)) ?_
  refine ps_c (o_VoteKnown 262142 10) 21 #[.agg (Att.c ⟨attOne.v, attOne.s, 4294967297, attOne.r, attOne.g⟩)] Try.func21 ((vCheck_is attLate (x := 3) _ rfl (by decide)).mono ?_)
  rintro e V915 ⟨rfl, kV915⟩
  refine ⟨_, rfl, ?_⟩
  have h916 := kV915.bk h902
  have h917 := kV915.bk h903
  have h918 : Row V915 5 1 (.slice A3 37 cap3) 37 (B b37) := h904.keeps kV915 (fun _ _ x => x)
  have h919 := kV915.bk h905
  have h920 := kV915.bk h906
  have h921 := kV915.bk h907
  have h922 := kV915.bk h908
  have h923 := kV915.bk h909
  have h924 := kV915.bk h910
  have h925 := kV915.bk h911
  have h926 := kV915.bk h912
  have K927 := K913.nn kV915
  have z928 := kV915.size
  refine ps_k (o_VoteKnown 262142 11) (.bool true) ?_
  refine ps_k (o_VoteKnown 262142 12) (.bool true) ?_
  refine ps_k (o_VoteKnown 262142 13) (.bool true) ?_
  refine ps_p (o_VoteKnown 262142 14) (.agg (Pro.c ⟨proOne.v, 0, proOne.r, proOne.g⟩)) (exec_load_row 36 (.tmp 14) (by kernel_rfl) g14 (by kernel_rfl) _ _ (0, 0) _ (h925) Try.underlying36 rfl (by rw [Pro.c_size (⟨proOne.v, 0, proOne.r, proOne.g⟩) (show proOne.r.length = 32 from rfl)]; kernel_rfl)) ?_
  refine ps_c (o_VoteKnown 262142 15) 23 #[.agg (Pro.c ⟨proOne.v, 0, proOne.r, proOne.g⟩)] Try.func23 ((vCheckP_is proLow (x := 3) _ rfl (by decide)).mono ?_)
  rintro e V929 ⟨rfl, kV929⟩
  refine ⟨_, rfl, ?_⟩
  have h930 := kV929.bk h916
  have h931 := kV929.bk h917
  have h932 : Row V929 5 1 (.slice A3 37 cap3) 37 (B b37) := h918.keeps kV929 (fun _ _ x => x)
  have h933 := kV929.bk h919
  have h934 := kV929.bk h920
  have h935 := kV929.bk h921
  have h936 := kV929.bk h922
  have h937 := kV929.bk h923
  have h938 := kV929.bk h924
  have h939 := kV929.bk h925
  have h940 := kV929.bk h926
  have K941 := K927.nn kV929
  have z942 := kV929.size
  refine ps_k (o_VoteKnown 262142 16) (.bool true) ?_
  refine ps_k (o_VoteKnown 262142 17) (.bool true) ?_
  refine ps_k (o_VoteKnown 262142 18) (.bool true) ?_
  refine ps_p (o_VoteKnown 262142 19) (.agg (Pro.c ⟨-1, proOne.h, proOne.r, proOne.g⟩)) (exec_load_row 36 (.tmp 15) (by kernel_rfl) g15 (by kernel_rfl) _ _ (0, 0) _ (h940) Try.underlying36 rfl (by rw [Pro.c_size (⟨-1, proOne.h, proOne.r, proOne.g⟩) (show proOne.r.length = 32 from rfl)]; kernel_rfl)) ?_
  refine ps_c (o_VoteKnown 262142 20) 23 #[.agg (Pro.c ⟨-1, proOne.h, proOne.r, proOne.g⟩)] Try.func23 ((vCheckP_is proNone (x := 3) _ rfl (by decide)).mono ?_)
  rintro e V943 ⟨rfl, kV943⟩
  refine ⟨_, rfl, ?_⟩
  have h944 := kV943.bk h930
  have h945 := kV943.bk h931
  have h946 : Row V943 5 1 (.slice A3 37 cap3) 37 (B b37) := h932.keeps kV943 (fun _ _ x => x)
  have h947 := kV943.bk h933
  have h948 := kV943.bk h934
  have h949 := kV943.bk h935
  have h950 := kV943.bk h936
  have h951 := kV943.bk h937
  have h952 := kV943.bk h938
  have h953 := kV943.bk h939
  have h954 := kV943.bk h940
  have K955 := K941.nn kV943
  have z956 := kV943.size
  refine ps_k (o_VoteKnown 262142 21) (.bool true) ?_
  refine ps_k (o_VoteKnown 262142 22) (.bool true) ?_
  refine ps_k (o_VoteKnown 262142 23) (.bool true) ?_
  refine ps_end ?_
  refine sy_a ⟨#[.bool false, pT g1 0, pT g2 0, .slice A3 37 cap3, .int .i64 0, pT g5 0, pT d6 0, .int .i64 0, pT d8 0, .int .i64 0, .bool true, pT g11 0, pT g12 0, pT g13 0, pT g14 0, pT g15 0, .bool true, undef, undef, undef, undef, undef, .agg (Att.c attOne), .agg (Pro.c proOne), .tuple #[.slice A3 37 cap3, .int .i64 0], .agg (Att.c attOne), .tuple #[.slice A3 37 cap3, .int .i64 0], .slice A3 37 cap3, .int .i64 0, .slice A3 37 cap3, .int .i64 37, .bool false, .agg (Att.c attOne), pT g5 35, .tuple #[.agg (B attOne.dig).toArray, .int .i64 0], .agg (Att.c attOne), .tuple #[.agg (B attOne.dig).toArray, .int .i64 0], .agg (B attOne.dig).toArray, .int .i64 0, .tuple #[.agg (B attOne.dig).toArray, .int .i64 0], .agg (Att.c ⟨attOne.v, attOne.s, attOne.t, attOne.r, 9⟩), .tuple #[.agg (B attOne.dig).toArray, .int .i64 0], .agg (B attOne.dig).toArray, .int .i64 0, .int .i64 0, .bool true, .bool true, .int .i64 0, .bool true, .bool true, .bool true, .agg ((B attOne.dig).toArray), .slice A3 37 cap3, .slice A3 36 cap3, .agg (B attOne.dig).toArray, .bool true, .bool true, .bool true, .agg ((B attOne.dig).toArray), .agg ((B attOne.dig).toArray), .bool true, .bool true, .agg (Att.c attOne), .agg (Att.c attOne), .agg (Att.c attOne), pT g11 0, pT g12 1, pT g13 2, .agg (Pro.c proOne), .agg (Pro.c proOne), pT g14 1, pT g15 0, .agg (Att.c ⟨32, attOne.s, attOne.t, attOne.r, attOne.g⟩), .int .i64 3, .bool true, .bool true, .agg (Att.c ⟨attOne.v, -1, attOne.t, attOne.r, attOne.g⟩), .int .i64 3, .bool true, .bool true, .bool true, .agg (Att.c ⟨attOne.v, attOne.s, 4294967297, attOne.r, attOne.g⟩), .int .i64 3, .bool true, .bool true, .bool true, .agg (Pro.c ⟨proOne.v, 0, proOne.r, proOne.g⟩), .int .i64 3, .bool true, .bool true, .bool true, .agg (Pro.c ⟨-1, proOne.h, proOne.r, proOne.g⟩), .int .i64 3, .bool true, .bool true, undef, undef, undef, undef, undef, undef, undef, undef, undef, undef, undef, undef, undef, undef, undef, undef, undef, undef, undef, undef, undef, undef, undef, undef, undef, undef, undef, undef, undef, undef, undef, undef, undef, undef, undef, undef, undef, undef, undef, undef, undef, undef, undef, undef, undef, undef, undef, undef, undef, undef, undef, undef, undef, undef, undef, undef], []⟩ ?_
  refine then_n ?_
  refine sy_sq (part_VoteKnown 524286) (part_VoteKnown 524287) ?_
  refine sy_reg ?_
  refine rg_plain 18 (opsAt (part_VoteKnown 524286)) [0, 1, 2, 3, 4, 5, 6, 7, 8] (by kernel_rfl) (by kernel_rfl) ?_
  obtain ⟨V957, eV957, q18, eq18, h958, kV957⟩ := alloc_step V943 (#[.int .u8 2, .int .u8 1, .int .u8 0]) 5
  have n959 : g1 < q18 := eq18 ▸ lt_of_block h944
  have n960 : g2 < q18 := eq18 ▸ lt_of_block h945
  have n961 : g5 < q18 := eq18 ▸ lt_of_block h947
  have n962 : d6 < q18 := eq18 ▸ lt_of_block h948
  have n963 : d8 < q18 := eq18 ▸ lt_of_block h949
  have n964 : g11 < q18 := eq18 ▸ lt_of_block h950
  have n965 : g12 < q18 := eq18 ▸ lt_of_block h951
  have n966 : g13 < q18 := eq18 ▸ lt_of_block h952
  have n967 : g14 < q18 := eq18 ▸ lt_of_block h953
  have n968 : g15 < q18 := eq18 ▸ lt_of_block h954
  have n969 : w.heap.size ≤ q18 := eq18 ▸ K955.size
  refine ps_r (o_VoteKnown 524286 0) (.slice (some ⟨q18, 0, none⟩) 3 3) (w' := V957) (by rw [← eV957, ← eq18]; kernel_rfl) ?_
  have h970 := kV957.bk h944
  have h971 := kV957.bk h945
  have h972 : Row V957 5 1 (.slice A3 37 cap3) 37 (B b37) := h946.keeps kV957 (fun _ _ x => x)
  have h973 := kV957.bk h947
  have h974 := kV957.bk h948
  have h975 := kV957.bk h949
  have h976 := kV957.bk h950
  have h977 := kV957.bk h951
  have h978 := kV957.bk h952
  have h979 := kV957.bk h953
  have h980 := kV957.bk h954
  have K981 := K955.nn kV957
  have z982 := kV957.size
  refine ps_c (o_VoteKnown 524286 1) 13 #[.slice (some ⟨q18, 0, none⟩) 3 3] Try.func13 ((vReadBlock_as _ [2, 1, 0] proZero 3 2 _ (Own.bytes_of_block (l := [2, 1, 0]) h958 (by kernel_rfl) rfl (by decide)) (by decide) (pRes_bad f_5 (by decide)) f_5).mono ?_)
  rintro e V983 ⟨rfl, kV983⟩
  refine ⟨_, rfl, ?_⟩
  have h984 := kV983.bk h970
  have h985 := kV983.bk h971
  have h986 : Row V983 5 1 (.slice A3 37 cap3) 37 (B b37) := h972.keeps kV983 (fun _ _ x => x)
  have h987 := kV983.bk h973
  have h988 := kV983.bk h974
  have h989 := kV983.bk h975
  have h990 := kV983.bk h976
  have h991 := kV983.bk h977
  have h992 := kV983.bk h978
  have h993 := kV983.bk h979
  have h994 := kV983.bk h980
  have h995 := kV983.bk h958
  have K996 := K981.nn kV983
  have z997 := kV983.size
  refine ps_k (o_VoteKnown 524286 2) (.tuple #[.agg (Pro.c proZero), .agg #[.int .i64 3, .int .i64 2]]) ?_
  refine ps_k (o_VoteKnown 524286 3) (.agg (Pro.c proZero)) ?_
  refine ps_k (o_VoteKnown 524286 4) (.agg #[.int .i64 3, .int .i64 2]) ?_
  obtain ⟨V998, eV998, g17, eg17, h999, kV998⟩ := alloc_step V983 (#[.int .i64 0, .int .i64 0, .int .u8 0, .int .u8 0, .int .u8 0, .int .u8 0, .int .u8 0, .int .u8 0, .int .u8 0, .int .u8 0, .int .u8 0, .int .u8 0, .int .u8 0, .int .u8 0, .int .u8 0, .int .u8 0, .int .u8 0, .int .u8 0, .int .u8 0, .int .u8 0, .int .u8 0, .int .u8 0, .int .u8 0, .int .u8 0, .int .u8 0, .int .u8 0, .int .u8 0, .int .u8 0, .int .u8 0, .int .u8 0, .int .u8 0, .int .u8 0, .int .u8 0, .int .u8 0, .int .u64 0]) 36
  have n1000 : g1 < g17 := eg17 ▸ lt_of_block h984
  have n1001 : g2 < g17 := eg17 ▸ lt_of_block h985
  have n1002 : g5 < g17 := eg17 ▸ lt_of_block h987
  have n1003 : d6 < g17 := eg17 ▸ lt_of_block h988
  have n1004 : d8 < g17 := eg17 ▸ lt_of_block h989
  have n1005 : g11 < g17 := eg17 ▸ lt_of_block h990
  have n1006 : g12 < g17 := eg17 ▸ lt_of_block h991
  have n1007 : g13 < g17 := eg17 ▸ lt_of_block h992
  have n1008 : g14 < g17 := eg17 ▸ lt_of_block h993
  have n1009 : g15 < g17 := eg17 ▸ lt_of_block h994
  have n1010 : q18 < g17 := eg17 ▸ lt_of_block h995
  have n1011 : w.heap.size ≤ g17 := eg17 ▸ K996.size
  refine ps_r (o_VoteKnown 524286 5) (pT g17 0) (w' := V998) (by rw [← eV998, ← eg17]; exact exec_alloc0 36 (by kernel_rfl) (.agg (#[.int .i64 0, .int .i64 0, .int .u8 0, .int .u8 0, .int .u8 0, .int .u8 0, .int .u8 0, .int .u8 0, .int .u8 0, .int .u8 0, .int .u8 0, .int .u8 0, .int .u8 0, .int .u8 0, .int .u8 0, .int .u8 0, .int .u8 0, .int .u8 0, .int .u8 0, .int .u8 0, .int .u8 0, .int .u8 0, .int .u8 0, .int .u8 0, .int .u8 0, .int .u8 0, .int .u8 0, .int .u8 0, .int .u8 0, .int .u8 0, .int .u8 0, .int .u8 0, .int .u8 0, .int .u8 0, .int .u64 0])) (by kernel_rfl)) ?_
  clear eV998
  have h1012 := kV998.bk h984
  have h1013 := kV998.bk h985
  have h1014 : Row V998 5 1 (.slice A3 37 cap3) 37 (B b37) := h986.keeps kV998 (fun _ _ x => x)
  have h1015 := kV998.bk h987
  have h1016 := kV998.bk h988
  have h1017 := kV998.bk h989
  have h1018 := kV998.bk h990
  have h1019 := kV998.bk h991
  have h1020 := kV998.bk h992
  have h1021 := kV998.bk h993
  have h1022 := kV998.bk h994
  have h1023 := kV998.bk h995
  have K1024 := K996.nn kV998
  have z1025 := kV998.size
  obtain ⟨V1026, eV1026, g18, eg18, h1027, kV1026⟩ := alloc_step V998 (#[.int .i64 0, .int .i64 0]) 32
  have n1028 : g1 < g18 := eg18 ▸ lt_of_block h1012
  have n1029 : g2 < g18 := eg18 ▸ lt_of_block h1013
  have n1030 : g5 < g18 := eg18 ▸ lt_of_block h1015
  have n1031 : d6 < g18 := eg18 ▸ lt_of_block h1016
  have n1032 : d8 < g18 := eg18 ▸ lt_of_block h1017
  have n1033 : g11 < g18 := eg18 ▸ lt_of_block h1018
  have n1034 : g12 < g18 := eg18 ▸ lt_of_block h1019
  have n1035 : g13 < g18 := eg18 ▸ lt_of_block h1020
  have n1036 : g14 < g18 := eg18 ▸ lt_of_block h1021
  have n1037 : g15 < g18 := eg18 ▸ lt_of_block h1022
  have n1038 : q18 < g18 := eg18 ▸ lt_of_block h1023
  have n1039 : g17 < g18 := eg18 ▸ lt_of_block h999
  have n1040 : w.heap.size ≤ g18 := eg18 ▸ K1024.size
  refine ps_r (o_VoteKnown 524286 6) (pT g18 0) (w' := V1026) (by rw [← eV1026, ← eg18]; exact exec_alloc0 32 (by kernel_rfl) (.agg (#[.int .i64 0, .int .i64 0])) (by kernel_rfl)) ?_
  clear eV1026
  have h1041 := kV1026.bk h1012
  have h1042 := kV1026.bk h1013
  have h1043 : Row V1026 5 1 (.slice A3 37 cap3) 37 (B b37) := h1014.keeps kV1026 (fun _ _ x => x)
  have h1044 := kV1026.bk h1015
  have h1045 := kV1026.bk h1016
  have h1046 := kV1026.bk h1017
  have h1047 := kV1026.bk h1018
  have h1048 := kV1026.bk h1019
  have h1049 := kV1026.bk h1020
  have h1050 := kV1026.bk h1021
  have h1051 := kV1026.bk h1022
  have h1052 := kV1026.bk h1023
  have h1053 := kV1026.bk h999
  have K1054 := K1024.nn kV1026
  have z1055 := kV1026.size
  obtain ⟨V1056, eV1056, kV1056⟩ := rowset_step V1026 g17 ((Pro.c proZero))
  have h1057 : V1056.heap[g17]? = some (.cells (Pro.c proZero) 36 (0, 0)) := eV1056 ▸ setRow_heap _ _ _ _ _ _ h1053
  refine ps_s (o_VoteKnown 524286 7) (w' := V1056) (by rw [← eV1056]; exact exec_store_row 36 (.tmp 17) (.tmp 98) (by kernel_rfl) g17 ((Pro.c proZero)) (by kernel_rfl) (by kernel_rfl) 36 (#[.int .i64 0, .int .i64 0, .int .u8 0, .int .u8 0, .int .u8 0, .int .u8 0, .int .u8 0, .int .u8 0, .int .u8 0, .int .u8 0, .int .u8 0, .int .u8 0, .int .u8 0, .int .u8 0, .int .u8 0, .int .u8 0, .int .u8 0, .int .u8 0, .int .u8 0, .int .u8 0, .int .u8 0, .int .u8 0, .int .u8 0, .int .u8 0, .int .u8 0, .int .u8 0, .int .u8 0, .int .u8 0, .int .u8 0, .int .u8 0, .int .u8 0, .int .u8 0, .int .u8 0, .int .u8 0, .int .u64 0]) h1053 (by kernel_rfl) (by kernel_rfl) (Pro.c_one _)) ?_
  clear eV1056
  have h1058 := kV1056.bo h1041 (by omega)
  have h1059 := kV1056.bo h1042 (by omega)
  have h1060 : Row V1056 5 1 (.slice A3 37 cap3) 37 (B b37) := h1043.keeps kV1056 (fun j hj e => by have := hltX j hj; unfold Own.One at e; omega)
  have h1061 := kV1056.bo h1044 (by omega)
  have h1062 := kV1056.bo h1045 (by omega)
  have h1063 := kV1056.bo h1046 (by omega)
  have h1064 := kV1056.bo h1047 (by omega)
  have h1065 := kV1056.bo h1048 (by omega)
  have h1066 := kV1056.bo h1049 (by omega)
  have h1067 := kV1056.bo h1050 (by omega)
  have h1068 := kV1056.bo h1051 (by omega)
  have h1069 := kV1056.bo h1052 (by omega)
  have h1070 := kV1056.bo h1027 (by omega)
  have K1071 := K1054.no kV1056 (by omega)
  have z1072 := kV1056.size
  obtain ⟨V1073, eV1073, kV1073⟩ := rowset_step V1056 g18 (#[.int .i64 3, .int .i64 2])
  have h1074 : V1073.heap[g18]? = some (.cells (#[.int .i64 3, .int .i64 2]) 32 (0, 0)) := eV1073 ▸ setRow_heap _ _ _ _ _ _ h1070
  refine ps_s (o_VoteKnown 524286 8) (w' := V1073) (by rw [← eV1073]; exact exec_store_row 32 (.tmp 18) (.tmp 99) (by kernel_rfl) g18 (#[.int .i64 3, .int .i64 2]) (by kernel_rfl) (by kernel_rfl) 32 (#[.int .i64 0, .int .i64 0]) h1070 (by kernel_rfl) rfl (by kernel_rfl)) ?_
  clear eV1073
  have h1075 := kV1073.bo h1058 (by omega)
  have h1076 := kV1073.bo h1059 (by omega)
  have h1077 : Row V1073 5 1 (.slice A3 37 cap3) 37 (B b37) := h1060.keeps kV1073 (fun j hj e => by have := hltX j hj; unfold Own.One at e; omega)
  have h1078 := kV1073.bo h1061 (by omega)
  have h1079 := kV1073.bo h1062 (by omega)
  have h1080 := kV1073.bo h1063 (by omega)
  have h1081 := kV1073.bo h1064 (by omega)
  have h1082 := kV1073.bo h1065 (by omega)
  have h1083 := kV1073.bo h1066 (by omega)
  have h1084 := kV1073.bo h1067 (by omega)
  have h1085 := kV1073.bo h1068 (by omega)
  have h1086 := kV1073.bo h1069 (by omega)
  have h1087 := kV1073.bo h1057 (by omega)
  have K1088 := K1071.no kV1073 (by omega)
  have z1089 := kV1073.size
  refine ps_end ?_
  refine then_n ?_
  refine sy_sq (part_VoteKnown 1048574) (part_VoteKnown 1048575) ?_
  refine sy_reg ?_
  refine rg_plain 19 (opsAt (part_VoteKnown 1048574)) [0, 1, 2, 3, 4, 5, 6, 7, 8, 9, 10, 11, 12, 13, 14, 15, 16, 17, 18, 19, 20, 21] (by kernel_rfl) (by kernel_rfl) ?_
  obtain ⟨V1090, eV1090, q1, eq1, h1091, kV1090⟩ := alloc_step V1073 (#[.int .u8 2]) 5
  have n1092 : g1 < q1 := eq1 ▸ lt_of_block h1075
  have n1093 : g2 < q1 := eq1 ▸ lt_of_block h1076
  have n1094 : g5 < q1 := eq1 ▸ lt_of_block h1078
  have n1095 : d6 < q1 := eq1 ▸ lt_of_block h1079
  have n1096 : d8 < q1 := eq1 ▸ lt_of_block h1080
  have n1097 : g11 < q1 := eq1 ▸ lt_of_block h1081
  have n1098 : g12 < q1 := eq1 ▸ lt_of_block h1082
  have n1099 : g13 < q1 := eq1 ▸ lt_of_block h1083
  have n1100 : g14 < q1 := eq1 ▸ lt_of_block h1084
  have n1101 : g15 < q1 := eq1 ▸ lt_of_block h1085
  have n1102 : q18 < q1 := eq1 ▸ lt_of_block h1086
  have n1103 : g17 < q1 := eq1 ▸ lt_of_block h1087
  have n1104 : g18 < q1 := eq1 ▸ lt_of_block h1074
  have n1105 : w.heap.size ≤ q1 := eq1 ▸ K1088.size
  refine ps_r (o_VoteKnown 1048574 0) (.slice (some ⟨q1, 0, none⟩) 1 1) (w' := V1090) (by rw [← eV1090, ← eq1]; kernel_rfl) ?_
  have h1106 := kV1090.bk h1075
  have h1107 := kV1090.bk h1076
  have h1108 : Row V1090 5 1 (.slice A3 37 cap3) 37 (B b37) := h1077.keeps kV1090 (fun _ _ x => x)
  have h1109 := kV1090.bk h1078
  have h1110 := kV1090.bk h1079
  have h1111 := kV1090.bk h1080
  have h1112 := kV1090.bk h1081
  have h1113 := kV1090.bk h1082
  have h1114 := kV1090.bk h1083
  have h1115 := kV1090.bk h1084
  have h1116 := kV1090.bk h1085
  have h1117 := kV1090.bk h1086
  have h1118 := kV1090.bk h1087
  have h1119 := kV1090.bk h1074
  have K1120 := K1088.nn kV1090
  have z1121 := kV1090.size
  refine ps_c (o_VoteKnown 1048574 1) 39 #[.slice (some ⟨q1, 0, none⟩) 1 1, .int .i64 3, .int .i64 0] Try.func39 ((lfails_ok _ [2] 3 0 _ (Own.bytes_of_block (l := [2]) h1091 (by kernel_rfl) rfl (by decide)) (by decide) f_1 (by decide)).mono ?_)
  rintro e V1122 ⟨rfl, kV1122⟩
  refine ⟨_, rfl, ?_⟩
  have h1123 := kV1122.bk h1106
  have h1124 := kV1122.bk h1107
  have h1125 : Row V1122 5 1 (.slice A3 37 cap3) 37 (B b37) := h1108.keeps kV1122 (fun _ _ x => x)
  have h1126 := kV1122.bk h1109
  have h1127 := kV1122.bk h1110
  have h1128 := kV1122.bk h1111
  have h1129 := kV1122.bk h1112
  have h1130 := kV1122.bk h1113
  have h1131 := kV1122.bk h1114
  have h1132 := kV1122.bk h1115
  have h1133 := kV1122.bk h1116
  have h1134 := kV1122.bk h1117
  have h1135 := kV1122.bk h1118
  have h1136 := kV1122.bk h1119
  have h1137 := kV1122.bk h1091
  have K1138 := K1120.nn kV1122
  have z1139 := kV1122.size
  refine ps_k (o_VoteKnown 1048574 2) (.bool true) ?_
  obtain ⟨V1140, eV1140, q2, eq2, h1141, kV1140⟩ := alloc_step V1122 (#[.int .u8 1, .int .u8 32]) 5
  have n1142 : g1 < q2 := eq2 ▸ lt_of_block h1123
  have n1143 : g2 < q2 := eq2 ▸ lt_of_block h1124
  have n1144 : g5 < q2 := eq2 ▸ lt_of_block h1126
  have n1145 : d6 < q2 := eq2 ▸ lt_of_block h1127
  have n1146 : d8 < q2 := eq2 ▸ lt_of_block h1128
  have n1147 : g11 < q2 := eq2 ▸ lt_of_block h1129
  have n1148 : g12 < q2 := eq2 ▸ lt_of_block h1130
  have n1149 : g13 < q2 := eq2 ▸ lt_of_block h1131
  have n1150 : g14 < q2 := eq2 ▸ lt_of_block h1132
  have n1151 : g15 < q2 := eq2 ▸ lt_of_block h1133
  have n1152 : q18 < q2 := eq2 ▸ lt_of_block h1134
  have n1153 : g17 < q2 := eq2 ▸ lt_of_block h1135
  have n1154 : g18 < q2 := eq2 ▸ lt_of_block h1136
  have n1155 : q1 < q2 := eq2 ▸ lt_of_block h1137
  have n1156 : w.heap.size ≤ q2 := eq2 ▸ K1138.size
  refine ps_r (o_VoteKnown 1048574 3) (.slice (some ⟨q2, 0, none⟩) 2 2) (w' := V1140) (by rw [← eV1140, ← eq2]; kernel_rfl) ?_
  have h1157 := kV1140.bk h1123
  have h1158 := kV1140.bk h1124
  have h1159 : Row V1140 5 1 (.slice A3 37 cap3) 37 (B b37) := h1125.keeps kV1140 (fun _ _ x => x)
  have h1160 := kV1140.bk h1126
  have h1161 := kV1140.bk h1127
  have h1162 := kV1140.bk h1128
  have h1163 := kV1140.bk h1129
  have h1164 := kV1140.bk h1130
  have h1165 := kV1140.bk h1131
  have h1166 := kV1140.bk h1132
  have h1167 := kV1140.bk h1133
  have h1168 := kV1140.bk h1134
  have h1169 := kV1140.bk h1135
  have h1170 := kV1140.bk h1136
  have h1171 := kV1140.bk h1137
  have K1172 := K1138.nn kV1140
  have z1173 := kV1140.size
  refine ps_c (o_VoteKnown 1048574 4) 39 #[.slice (some ⟨q2, 0, none⟩) 2 2, .int .i64 3, .int .i64 1] Try.func39 ((lfails_ok _ [1, 32] 3 1 _ (Own.bytes_of_block (l := [1, 32]) h1141 (by kernel_rfl) rfl (by decide)) (by decide) f_2 (by decide)).mono ?_)
  rintro e V1174 ⟨rfl, kV1174⟩
  refine ⟨_, rfl, ?_⟩
  have h1175 := kV1174.bk h1157
  have h1176 := kV1174.bk h1158
  have h1177 : Row V1174 5 1 (.slice A3 37 cap3) 37 (B b37) := h1159.keeps kV1174 (fun _ _ x => x)
  have h1178 := kV1174.bk h1160
  have h1179 := kV1174.bk h1161
  have h1180 := kV1174.bk h1162
  have h1181 := kV1174.bk h1163
  have h1182 := kV1174.bk h1164
  have h1183 := kV1174.bk h1165
  have h1184 := kV1174.bk h1166
  have h1185 := kV1174.bk h1167
  have h1186 := kV1174.bk h1168
  have h1187 := kV1174.bk h1169
  have h1188 := kV1174.bk h1170
  have h1189 := kV1174.bk h1171
  have h1190 := kV1174.bk h1141
  have K1191 := K1172.nn kV1174
  have z1192 := kV1174.size
  refine ps_k (o_VoteKnown 1048574 5) (.bool true) ?_
  refine ps_k (o_VoteKnown 1048574 6) (.bool true) ?_
  obtain ⟨V1193, eV1193, q3, eq3, h1194, kV1193⟩ := alloc_step V1174 (#[.int .u8 1, .int .u8 1, .int .u8 2, .int .u8 3]) 5
  have n1195 : g1 < q3 := eq3 ▸ lt_of_block h1175
  have n1196 : g2 < q3 := eq3 ▸ lt_of_block h1176
  have n1197 : g5 < q3 := eq3 ▸ lt_of_block h1178
  have n1198 : d6 < q3 := eq3 ▸ lt_of_block h1179
  have n1199 : d8 < q3 := eq3 ▸ lt_of_block h1180
  have n1200 : g11 < q3 := eq3 ▸ lt_of_block h1181
  have n1201 : g12 < q3 := eq3 ▸ lt_of_block h1182
  have n1202 : g13 < q3 := eq3 ▸ lt_of_block h1183
  have n1203 : g14 < q3 := eq3 ▸ lt_of_block h1184
  have n1204 : g15 < q3 := eq3 ▸ lt_of_block h1185
  have n1205 : q18 < q3 := eq3 ▸ lt_of_block h1186
  have n1206 : g17 < q3 := eq3 ▸ lt_of_block h1187
  have n1207 : g18 < q3 := eq3 ▸ lt_of_block h1188
  have n1208 : q1 < q3 := eq3 ▸ lt_of_block h1189
  have n1209 : q2 < q3 := eq3 ▸ lt_of_block h1190
  have n1210 : w.heap.size ≤ q3 := eq3 ▸ K1191.size
  refine ps_r (o_VoteKnown 1048574 7) (.slice (some ⟨q3, 0, none⟩) 4 4) (w' := V1193) (by rw [← eV1193, ← eq3]; kernel_rfl) ?_
  have h1211 := kV1193.bk h1175
  have h1212 := kV1193.bk h1176
  have h1213 : Row V1193 5 1 (.slice A3 37 cap3) 37 (B b37) := h1177.keeps kV1193 (fun _ _ x => x)
  have h1214 := kV1193.bk h1178
  have h1215 := kV1193.bk h1179
  have h1216 := kV1193.bk h1180
  have h1217 := kV1193.bk h1181
  have h1218 := kV1193.bk h1182
  have h1219 := kV1193.bk h1183
  have h1220 := kV1193.bk h1184
  have h1221 := kV1193.bk h1185
  have h1222 := kV1193.bk h1186
  have h1223 := kV1193.bk h1187
  have h1224 := kV1193.bk h1188
  have h1225 := kV1193.bk h1189
  have h1226 := kV1193.bk h1190
  have K1227 := K1191.nn kV1193
  have z1228 := kV1193.size
  refine ps_c (o_VoteKnown 1048574 8) 39 #[.slice (some ⟨q3, 0, none⟩) 4 4, .int .i64 6, .int .i64 4] Try.func39 ((lfails_ok _ [1, 1, 2, 3] 6 4 _ (Own.bytes_of_block (l := [1, 1, 2, 3]) h1194 (by kernel_rfl) rfl (by decide)) (by decide) f_3 (by decide)).mono ?_)
  rintro e V1229 ⟨rfl, kV1229⟩
  refine ⟨_, rfl, ?_⟩
  have h1230 := kV1229.bk h1211
  have h1231 := kV1229.bk h1212
  have h1232 : Row V1229 5 1 (.slice A3 37 cap3) 37 (B b37) := h1213.keeps kV1229 (fun _ _ x => x)
  have h1233 := kV1229.bk h1214
  have h1234 := kV1229.bk h1215
  have h1235 := kV1229.bk h1216
  have h1236 := kV1229.bk h1217
  have h1237 := kV1229.bk h1218
  have h1238 := kV1229.bk h1219
  have h1239 := kV1229.bk h1220
  have h1240 := kV1229.bk h1221
  have h1241 := kV1229.bk h1222
  have h1242 := kV1229.bk h1223
  have h1243 := kV1229.bk h1224
  have h1244 := kV1229.bk h1225
  have h1245 := kV1229.bk h1226
  have h1246 := kV1229.bk h1194
  have K1247 := K1227.nn kV1229
  have z1248 := kV1229.size
  refine ps_k (o_VoteKnown 1048574 9) (.bool true) ?_
  refine ps_k (o_VoteKnown 1048574 10) (.bool true) ?_
  refine ps_k (o_VoteKnown 1048574 11) (.slice A3 37 cap3) ?_
  obtain ⟨V1249, eV1249, q4, eq4, h1250, kV1249⟩ := alloc_step V1229 (#[.int .u8 0]) 5
  have n1251 : g1 < q4 := eq4 ▸ lt_of_block h1230
  have n1252 : g2 < q4 := eq4 ▸ lt_of_block h1231
  have n1253 : g5 < q4 := eq4 ▸ lt_of_block h1233
  have n1254 : d6 < q4 := eq4 ▸ lt_of_block h1234
  have n1255 : d8 < q4 := eq4 ▸ lt_of_block h1235
  have n1256 : g11 < q4 := eq4 ▸ lt_of_block h1236
  have n1257 : g12 < q4 := eq4 ▸ lt_of_block h1237
  have n1258 : g13 < q4 := eq4 ▸ lt_of_block h1238
  have n1259 : g14 < q4 := eq4 ▸ lt_of_block h1239
  have n1260 : g15 < q4 := eq4 ▸ lt_of_block h1240
  have n1261 : q18 < q4 := eq4 ▸ lt_of_block h1241
  have n1262 : g17 < q4 := eq4 ▸ lt_of_block h1242
  have n1263 : g18 < q4 := eq4 ▸ lt_of_block h1243
  have n1264 : q1 < q4 := eq4 ▸ lt_of_block h1244
  have n1265 : q2 < q4 := eq4 ▸ lt_of_block h1245
  have n1266 : q3 < q4 := eq4 ▸ lt_of_block h1246
  have n1267 : w.heap.size ≤ q4 := eq4 ▸ K1247.size
  refine ps_r (o_VoteKnown 1048574 12) (.slice (some ⟨q4, 0, none⟩) 1 1) (w' := V1249) (by rw [← eV1249, ← eq4]; kernel_rfl) ?_
  have h1268 := kV1249.bk h1230
  have h1269 := kV1249.bk h1231
  have h1270 : Row V1249 5 1 (.slice A3 37 cap3) 37 (B b37) := h1232.keeps kV1249 (fun _ _ x => x)
  have h1271 := kV1249.bk h1233
  have h1272 := kV1249.bk h1234
  have h1273 := kV1249.bk h1235
  have h1274 := kV1249.bk h1236
  have h1275 := kV1249.bk h1237
  have h1276 := kV1249.bk h1238
  have h1277 := kV1249.bk h1239
  have h1278 := kV1249.bk h1240
  have h1279 := kV1249.bk h1241
  have h1280 := kV1249.bk h1242
  have h1281 := kV1249.bk h1243
  have h1282 := kV1249.bk h1244
  have h1283 := kV1249.bk h1245
  have h1284 := kV1249.bk h1246
  have K1285 := K1247.nn kV1249
  have z1286 := kV1249.size
  obtain ⟨v1287, V1288, hr1289, h1290, hg1291, hn1292, ha1293⟩ := run_append_any (P := Try.prog) (w := V1249) 22 (Oper.type (o_VoteKnown 1048574 13)) 5 i0 (.int .u8 0) 1 1 Try.underlying22 hi0 hz0 hz1 hz2 rfl (by decide) (.slice A3 37 cap3) 37 (B b37) h1270 (.slice (some ⟨q4, 0, none⟩) 1 1) 1 (B [0]) ((Own.bytes_of_block (l := [0]) h1250 (by kernel_rfl) rfl (by decide)).src) (by unfold maxLen; omega) (by omega)
  have kV1288 : Keeps (fun j => (.slice A3 37 cap3 : Value).ownBlock = some j) V1249 V1288 := Keeps.rowAdd hg1291
  have hw1294 : NewFrom w.heap.size v1287 := hnw.next K1285.size ha1293
  refine ps_r (o_VoteKnown 1048574 13) v1287 (w' := V1288) (exec_append (.tmp 111) (.tmp 112) 22 (by kernel_rfl) (.slice A3 37 cap3) (.slice (some ⟨q4, 0, none⟩) 1 1) (by kernel_rfl) (by kernel_rfl) hr1289) ?_
  have h1295 : Row V1288 5 1 v1287 38 (B (b37 ++ [0])) := row_cast h1290 rfl rfl
  have h1296 : V1288.heap[g1]? = some (.cells (Att.c attOne) 29 (0, 0)) := (kV1288.block g1 (lt_of_block h1268) (fun e => Row.ne h1270 h1268 (by decide) e)).trans h1268
  have h1297 : V1288.heap[g2]? = some (.cells (Pro.c proOne) 36 (0, 0)) := (kV1288.block g2 (lt_of_block h1269) (fun e => Row.ne h1270 h1269 (by decide) e)).trans h1269
  have h1298 : V1288.heap[g5]? = some (.cells (Att.c ⟨attOne.v, attOne.s, attOne.t, attOne.r, 9⟩) 29 (0, 0)) := (kV1288.block g5 (lt_of_block h1271) (fun e => Row.ne h1270 h1271 (by decide) e)).trans h1271
  have h1299 : V1288.heap[d6]? = some (.cells ((B attOne.dig).toArray) 26 (0, 0)) := (kV1288.block d6 (lt_of_block h1272) (fun e => Row.ne h1270 h1272 (by decide) e)).trans h1272
  have h1300 : V1288.heap[d8]? = some (.cells ((B attOne.dig).toArray) 26 (0, 0)) := (kV1288.block d8 (lt_of_block h1273) (fun e => Row.ne h1270 h1273 (by decide) e)).trans h1273
  have h1301 : V1288.heap[g11]? = some (.cells (Att.c ⟨32, attOne.s, attOne.t, attOne.r, attOne.g⟩) 29 (0, 0)) := (kV1288.block g11 (lt_of_block h1274) (fun e => Row.ne h1270 h1274 (by decide) e)).trans h1274
  have h1302 : V1288.heap[g12]? = some (.cells (Att.c ⟨attOne.v, -1, attOne.t, attOne.r, attOne.g⟩) 29 (0, 0)) := (kV1288.block g12 (lt_of_block h1275) (fun e => Row.ne h1270 h1275 (by decide) e)).trans h1275
  have h1303 : V1288.heap[g13]? = some (.cells (Att.c ⟨attOne.v, attOne.s, 4294967297, attOne.r, attOne.g⟩) 29 (0, 0)) := (kV1288.block g13 (lt_of_block h1276) (fun e => Row.ne h1270 h1276 (by decide) e)).trans h1276
  have h1304 : V1288.heap[g14]? = some (.cells (Pro.c ⟨proOne.v, 0, proOne.r, proOne.g⟩) 36 (0, 0)) := (kV1288.block g14 (lt_of_block h1277) (fun e => Row.ne h1270 h1277 (by decide) e)).trans h1277
  have h1305 : V1288.heap[g15]? = some (.cells (Pro.c ⟨-1, proOne.h, proOne.r, proOne.g⟩) 36 (0, 0)) := (kV1288.block g15 (lt_of_block h1278) (fun e => Row.ne h1270 h1278 (by decide) e)).trans h1278
  have h1306 : V1288.heap[g17]? = some (.cells (Pro.c proZero) 36 (0, 0)) := (kV1288.block g17 (lt_of_block h1280) (fun e => Row.ne h1270 h1280 (by decide) e)).trans h1280
  have h1307 : V1288.heap[g18]? = some (.cells (#[.int .i64 3, .int .i64 2]) 32 (0, 0)) := (kV1288.block g18 (lt_of_block h1281) (fun e => Row.ne h1270 h1281 (by decide) e)).trans h1281
  have K1308 : Keeps Nob w V1288 := K1285.then kV1288 (fun i hi hm => absurd hi (by have := hnw i hm; omega))
  have z1309 := kV1288.size
  refine ps_c (o_VoteKnown 1048574 14) 39 #[v1287, .int .i64 4, .int .i64 37] Try.func39 ((lfails_ok _ (b37 ++ [0]) 4 37 _ (row38 h1295) (by rw [h38]; decide) f_4 (by decide)).mono ?_)
  rintro e V1310 ⟨rfl, kV1310⟩
  refine ⟨_, rfl, ?_⟩
  have h1311 := kV1310.bk h1296
  have h1312 := kV1310.bk h1297
  have h1313 := kV1310.bk h1298
  have h1314 := kV1310.bk h1299
  have h1315 := kV1310.bk h1300
  have h1316 := kV1310.bk h1301
  have h1317 := kV1310.bk h1302
  have h1318 := kV1310.bk h1303
  have h1319 := kV1310.bk h1304
  have h1320 := kV1310.bk h1305
  have h1321 := kV1310.bk h1306
  have h1322 := kV1310.bk h1307
  have K1323 := K1308.nn kV1310
  have z1324 := kV1310.size
  refine ps_k (o_VoteKnown 1048574 15) (.bool true) ?_
  refine ps_k (o_VoteKnown 1048574 16) (.bool true) ?_
  refine ps_p (o_VoteKnown 1048574 17) (.agg #[.int .i64 3, .int .i64 2]) (exec_load_row 32 (.tmp 18) (by kernel_rfl) g18 (by kernel_rfl) _ _ (0, 0) _ (h1322) Try.underlying32 rfl (by kernel_rfl)) ?_
  refine ps_k (o_VoteKnown 1048574 18) (.agg #[.int .i64 3, .int .i64 2]) ?_
  refine ps_p (o_VoteKnown 1048574 19) (.bool true) (exec_cast (congrArg Value.bool (by simp)) (exec_binop .eql 32 32 (.tmp 117) (.tmp 118) (by kernel_rfl) (.agg #[.int .i64 3, .int .i64 2]) (.agg #[.int .i64 3, .int .i64 2]) _ (by kernel_rfl) (by kernel_rfl) (run_eqGuard_agg _ _ _ _ _ _ _ fault_guard) (fault_eq _ _ _ _ _))) ?_
  refine ps_k (o_VoteKnown 1048574 20) (.bool true) ?_
  refine ps_k (o_VoteKnown 1048574 21) (.bool true) ?_
  refine ps_end ?_
  refine sy_a ⟨#[.bool false, pT g1 0, pT g2 0, .slice A3 37 cap3, .int .i64 0, pT g5 0, pT d6 0, .int .i64 0, pT d8 0, .int .i64 0, .bool true, pT g11 0, pT g12 0, pT g13 0, pT g14 0, pT g15 0, .bool true, pT g17 0, pT g18 0, .bool true, undef, undef, .agg (Att.c attOne), .agg (Pro.c proOne), .tuple #[.slice A3 37 cap3, .int .i64 0], .agg (Att.c attOne), .tuple #[.slice A3 37 cap3, .int .i64 0], .slice A3 37 cap3, .int .i64 0, .slice A3 37 cap3, .int .i64 37, .bool false, .agg (Att.c attOne), pT g5 35, .tuple #[.agg (B attOne.dig).toArray, .int .i64 0], .agg (Att.c attOne), .tuple #[.agg (B attOne.dig).toArray, .int .i64 0], .agg (B attOne.dig).toArray, .int .i64 0, .tuple #[.agg (B attOne.dig).toArray, .int .i64 0], .agg (Att.c ⟨attOne.v, attOne.s, attOne.t, attOne.r, 9⟩), .tuple #[.agg (B attOne.dig).toArray, .int .i64 0], .agg (B attOne.dig).toArray, .int .i64 0, .int .i64 0, .bool true, .bool true, .int .i64 0, .bool true, .bool true, .bool true, .agg ((B attOne.dig).toArray), .slice A3 37 cap3, .slice A3 36 cap3, .agg (B attOne.dig).toArray, .bool true, .bool true, .bool true, .agg ((B attOne.dig).toArray), .agg ((B attOne.dig).toArray), .bool true, .bool true, .agg (Att.c attOne), .agg (Att.c attOne), .agg (Att.c attOne), pT g11 0, pT g12 1, pT g13 2, .agg (Pro.c proOne), .agg (Pro.c proOne), pT g14 1, pT g15 0, .agg (Att.c ⟨32, attOne.s, attOne.t, attOne.r, attOne.g⟩), .int .i64 3, .bool true, .bool true, .agg (Att.c ⟨attOne.v, -1, attOne.t, attOne.r, attOne.g⟩), .int .i64 3, .bool true, .bool true, .bool true, .agg (Att.c ⟨attOne.v, attOne.s, 4294967297, attOne.r, attOne.g⟩), .int .i64 3, .bool true, .bool true, .bool true, .agg (Pro.c ⟨proOne.v, 0, proOne.r, proOne.g⟩), .int .i64 3, .bool true, .bool true, .bool true, .agg (Pro.c ⟨-1, proOne.h, proOne.r, proOne.g⟩), .int .i64 3, .bool true, .bool true, .tuple #[.agg (Pro.c proZero), .agg #[.int .i64 3, .int .i64 2]], .slice (some ⟨q18, 0, none⟩) 3 3, .tuple #[.agg (Pro.c proZero), .agg #[.int .i64 3, .int .i64 2]], .agg (Pro.c proZero), .agg #[.int .i64 3, .int .i64 2], .slice (some ⟨q1, 0, none⟩) 1 1, .bool true, .bool true, .slice (some ⟨q2, 0, none⟩) 2 2, .bool true, .bool true, .bool true, .slice (some ⟨q3, 0, none⟩) 4 4, .bool true, .bool true, .bool true, .slice A3 37 cap3, .slice (some ⟨q4, 0, none⟩) 1 1, v1287, .bool true, .bool true, .bool true, .agg #[.int .i64 3, .int .i64 2], .agg #[.int .i64 3, .int .i64 2], .bool true, .bool true, undef, undef, undef, undef, undef, undef, undef, undef, undef, undef, undef, undef, undef, undef, undef, undef, undef, undef, undef, undef, undef, undef, undef, undef, undef, undef, undef, undef, undef, undef], []⟩ ?_
  refine then_n ?_
  refine sy_sq (part_VoteKnown 2097150) (part_VoteKnown 2097151) ?_
  refine sy_reg ?_
  refine rg_plain 20 (opsAt (part_VoteKnown 2097150)) [0, 1, 2, 3, 4, 5] (by kernel_rfl) (by kernel_rfl) ?_
  refine ps_p (o_VoteKnown 2097150 0) (.agg (Att.c attOne)) (exec_load_row 29 (.tmp 1) (by kernel_rfl) g1 (by kernel_rfl) _ _ (0, 0) _ (h1311) Try.underlying29 rfl (by rw [Att.c_size _ (show attOne.r.length = 32 from rfl)]; kernel_rfl)) ?_
  refine ps_k (o_VoteKnown 2097150 1) (.agg (Att.c attApart)) ?_
  obtain ⟨V1325, eV1325, g20, eg20, h1326, kV1325⟩ := alloc_step V1310 (#[.int .i64 0, .int .i64 0, .int .i64 0, .int .u8 0, .int .u8 0, .int .u8 0, .int .u8 0, .int .u8 0, .int .u8 0, .int .u8 0, .int .u8 0, .int .u8 0, .int .u8 0, .int .u8 0, .int .u8 0, .int .u8 0, .int .u8 0, .int .u8 0, .int .u8 0, .int .u8 0, .int .u8 0, .int .u8 0, .int .u8 0, .int .u8 0, .int .u8 0, .int .u8 0, .int .u8 0, .int .u8 0, .int .u8 0, .int .u8 0, .int .u8 0, .int .u8 0, .int .u8 0, .int .u8 0, .int .u8 0, .int .u64 0]) 29
  have n1327 : g1 < g20 := eg20 ▸ lt_of_block h1311
  have n1328 : g2 < g20 := eg20 ▸ lt_of_block h1312
  have n1329 : g5 < g20 := eg20 ▸ lt_of_block h1313
  have n1330 : d6 < g20 := eg20 ▸ lt_of_block h1314
  have n1331 : d8 < g20 := eg20 ▸ lt_of_block h1315
  have n1332 : g11 < g20 := eg20 ▸ lt_of_block h1316
  have n1333 : g12 < g20 := eg20 ▸ lt_of_block h1317
  have n1334 : g13 < g20 := eg20 ▸ lt_of_block h1318
  have n1335 : g14 < g20 := eg20 ▸ lt_of_block h1319
  have n1336 : g15 < g20 := eg20 ▸ lt_of_block h1320
  have n1337 : g17 < g20 := eg20 ▸ lt_of_block h1321
  have n1338 : g18 < g20 := eg20 ▸ lt_of_block h1322
  have n1339 : w.heap.size ≤ g20 := eg20 ▸ K1323.size
  refine ps_r (o_VoteKnown 2097150 2) (pT g20 0) (w' := V1325) (by rw [← eV1325, ← eg20]; exact exec_alloc0 29 (by kernel_rfl) (.agg (#[.int .i64 0, .int .i64 0, .int .i64 0, .int .u8 0, .int .u8 0, .int .u8 0, .int .u8 0, .int .u8 0, .int .u8 0, .int .u8 0, .int .u8 0, .int .u8 0, .int .u8 0, .int .u8 0, .int .u8 0, .int .u8 0, .int .u8 0, .int .u8 0, .int .u8 0, .int .u8 0, .int .u8 0, .int .u8 0, .int .u8 0, .int .u8 0, .int .u8 0, .int .u8 0, .int .u8 0, .int .u8 0, .int .u8 0, .int .u8 0, .int .u8 0, .int .u8 0, .int .u8 0, .int .u8 0, .int .u8 0, .int .u64 0])) (by kernel_rfl)) ?_
  clear eV1325
  have h1340 := kV1325.bk h1311
  have h1341 := kV1325.bk h1312
  have h1342 := kV1325.bk h1313
  have h1343 := kV1325.bk h1314
  have h1344 := kV1325.bk h1315
  have h1345 := kV1325.bk h1316
  have h1346 := kV1325.bk h1317
  have h1347 := kV1325.bk h1318
  have h1348 := kV1325.bk h1319
  have h1349 := kV1325.bk h1320
  have h1350 := kV1325.bk h1321
  have h1351 := kV1325.bk h1322
  have K1352 := K1323.nn kV1325
  have z1353 := kV1325.size
  obtain ⟨V1354, eV1354, g21, eg21, h1355, kV1354⟩ := alloc_step V1325 (#[.int .i64 0, .int .i64 0, .int .i64 0, .int .u8 0, .int .u8 0, .int .u8 0, .int .u8 0, .int .u8 0, .int .u8 0, .int .u8 0, .int .u8 0, .int .u8 0, .int .u8 0, .int .u8 0, .int .u8 0, .int .u8 0, .int .u8 0, .int .u8 0, .int .u8 0, .int .u8 0, .int .u8 0, .int .u8 0, .int .u8 0, .int .u8 0, .int .u8 0, .int .u8 0, .int .u8 0, .int .u8 0, .int .u8 0, .int .u8 0, .int .u8 0, .int .u8 0, .int .u8 0, .int .u8 0, .int .u8 0, .int .u64 0]) 29
  have n1356 : g1 < g21 := eg21 ▸ lt_of_block h1340
  have n1357 : g2 < g21 := eg21 ▸ lt_of_block h1341
  have n1358 : g5 < g21 := eg21 ▸ lt_of_block h1342
  have n1359 : d6 < g21 := eg21 ▸ lt_of_block h1343
  have n1360 : d8 < g21 := eg21 ▸ lt_of_block h1344
  have n1361 : g11 < g21 := eg21 ▸ lt_of_block h1345
  have n1362 : g12 < g21 := eg21 ▸ lt_of_block h1346
  have n1363 : g13 < g21 := eg21 ▸ lt_of_block h1347
  have n1364 : g14 < g21 := eg21 ▸ lt_of_block h1348
  have n1365 : g15 < g21 := eg21 ▸ lt_of_block h1349
  have n1366 : g17 < g21 := eg21 ▸ lt_of_block h1350
  have n1367 : g18 < g21 := eg21 ▸ lt_of_block h1351
  have n1368 : g20 < g21 := eg21 ▸ lt_of_block h1326
  have n1369 : w.heap.size ≤ g21 := eg21 ▸ K1352.size
  refine ps_r (o_VoteKnown 2097150 3) (pT g21 0) (w' := V1354) (by rw [← eV1354, ← eg21]; exact exec_alloc0 29 (by kernel_rfl) (.agg (#[.int .i64 0, .int .i64 0, .int .i64 0, .int .u8 0, .int .u8 0, .int .u8 0, .int .u8 0, .int .u8 0, .int .u8 0, .int .u8 0, .int .u8 0, .int .u8 0, .int .u8 0, .int .u8 0, .int .u8 0, .int .u8 0, .int .u8 0, .int .u8 0, .int .u8 0, .int .u8 0, .int .u8 0, .int .u8 0, .int .u8 0, .int .u8 0, .int .u8 0, .int .u8 0, .int .u8 0, .int .u8 0, .int .u8 0, .int .u8 0, .int .u8 0, .int .u8 0, .int .u8 0, .int .u8 0, .int .u8 0, .int .u64 0])) (by kernel_rfl)) ?_
  clear eV1354
  have h1370 := kV1354.bk h1340
  have h1371 := kV1354.bk h1341
  have h1372 := kV1354.bk h1342
  have h1373 := kV1354.bk h1343
  have h1374 := kV1354.bk h1344
  have h1375 := kV1354.bk h1345
  have h1376 := kV1354.bk h1346
  have h1377 := kV1354.bk h1347
  have h1378 := kV1354.bk h1348
  have h1379 := kV1354.bk h1349
  have h1380 := kV1354.bk h1350
  have h1381 := kV1354.bk h1351
  have h1382 := kV1354.bk h1326
  have K1383 := K1352.nn kV1354
  have z1384 := kV1354.size
  obtain ⟨V1385, eV1385, kV1385⟩ := rowset_step V1354 g20 ((Att.c attOne))
  have h1386 : V1385.heap[g20]? = some (.cells (Att.c attOne) 29 (0, 0)) := eV1385 ▸ setRow_heap _ _ _ _ _ _ h1382
  refine ps_s (o_VoteKnown 2097150 4) (w' := V1385) (by rw [← eV1385]; exact exec_store_row 29 (.tmp 20) (.tmp 121) (by kernel_rfl) g20 ((Att.c attOne)) (by kernel_rfl) (by kernel_rfl) 29 (#[.int .i64 0, .int .i64 0, .int .i64 0, .int .u8 0, .int .u8 0, .int .u8 0, .int .u8 0, .int .u8 0, .int .u8 0, .int .u8 0, .int .u8 0, .int .u8 0, .int .u8 0, .int .u8 0, .int .u8 0, .int .u8 0, .int .u8 0, .int .u8 0, .int .u8 0, .int .u8 0, .int .u8 0, .int .u8 0, .int .u8 0, .int .u8 0, .int .u8 0, .int .u8 0, .int .u8 0, .int .u8 0, .int .u8 0, .int .u8 0, .int .u8 0, .int .u8 0, .int .u8 0, .int .u8 0, .int .u8 0, .int .u64 0]) h1382 (by kernel_rfl) (by kernel_rfl) (Att.c_one _)) ?_
  clear eV1385
  have h1387 := kV1385.bo h1370 (by omega)
  have h1388 := kV1385.bo h1371 (by omega)
  have h1389 := kV1385.bo h1372 (by omega)
  have h1390 := kV1385.bo h1373 (by omega)
  have h1391 := kV1385.bo h1374 (by omega)
  have h1392 := kV1385.bo h1375 (by omega)
  have h1393 := kV1385.bo h1376 (by omega)
  have h1394 := kV1385.bo h1377 (by omega)
  have h1395 := kV1385.bo h1378 (by omega)
  have h1396 := kV1385.bo h1379 (by omega)
  have h1397 := kV1385.bo h1380 (by omega)
  have h1398 := kV1385.bo h1381 (by omega)
  have h1399 := kV1385.bo h1355 (by omega)
  have K1400 := K1383.no kV1385 (by omega)
  have z1401 := kV1385.size
  obtain ⟨V1402, eV1402, kV1402⟩ := rowset_step V1385 g21 ((Att.c attApart))
  have h1403 : V1402.heap[g21]? = some (.cells (Att.c attApart) 29 (0, 0)) := eV1402 ▸ setRow_heap _ _ _ _ _ _ h1399
  refine ps_s (o_VoteKnown 2097150 5) (w' := V1402) (by rw [← eV1402]; exact exec_store_row 29 (.tmp 21) (.tmp 122) (by kernel_rfl) g21 ((Att.c attApart)) (by kernel_rfl) (by kernel_rfl) 29 (#[.int .i64 0, .int .i64 0, .int .i64 0, .int .u8 0, .int .u8 0, .int .u8 0, .int .u8 0, .int .u8 0, .int .u8 0, .int .u8 0, .int .u8 0, .int .u8 0, .int .u8 0, .int .u8 0, .int .u8 0, .int .u8 0, .int .u8 0, .int .u8 0, .int .u8 0, .int .u8 0, .int .u8 0, .int .u8 0, .int .u8 0, .int .u8 0, .int .u8 0, .int .u8 0, .int .u8 0, .int .u8 0, .int .u8 0, .int .u8 0, .int .u8 0, .int .u8 0, .int .u8 0, .int .u8 0, .int .u8 0, .int .u64 0]) h1399 (by kernel_rfl) (by kernel_rfl) (Att.c_one _)) ?_
  clear eV1402
  have h1404 := kV1402.bo h1387 (by omega)
  have h1405 := kV1402.bo h1388 (by omega)
  have h1406 := kV1402.bo h1389 (by omega)
  have h1407 := kV1402.bo h1390 (by omega)
  have h1408 := kV1402.bo h1391 (by omega)
  have h1409 := kV1402.bo h1392 (by omega)
  have h1410 := kV1402.bo h1393 (by omega)
  have h1411 := kV1402.bo h1394 (by omega)
  have h1412 := kV1402.bo h1395 (by omega)
  have h1413 := kV1402.bo h1396 (by omega)
  have h1414 := kV1402.bo h1397 (by omega)
  have h1415 := kV1402.bo h1398 (by omega)
  have h1416 := kV1402.bo h1386 (by omega)
  have K1417 := K1400.no kV1402 (by omega)
  have z1418 := kV1402.size
  refine ps_end ?_
  refine then_n ?_
  refine sy_sq (part_VoteKnown 4194302) (part_VoteKnown 4194303) ?_
  refine sy_reg ?_
  refine rg_plain 21 (opsAt (part_VoteKnown 4194302)) [0, 1] (by kernel_rfl) (by kernel_rfl) ?_
  refine ps_k (o_VoteKnown 4194302 0) (pT g20 1) ?_
  obtain ⟨V1419, eV1419, kV1419⟩ := cell_step V1402 g20 1 (.int .i64 1)
  have h1420 : V1419.heap[g20]? = some (.cells (Att.c ⟨attOne.v, 1, attOne.t, attOne.r, attOne.g⟩) 29 (0, 0)) := eV1419 ▸ ((heap_setCell_same _ g20 1 _ _ (.int .i64 1) h1416).trans (congrArg (fun c => some (Obj.cells c 29 (0, 0))) (show (Att.c attOne : Array Value).setIfInBounds 1 (.int .i64 1) = Att.c ⟨attOne.v, 1, attOne.t, attOne.r, attOne.g⟩ from Att.c_set1 _ _)))
  refine ps_s (o_VoteKnown 4194302 1) (w' := V1419) (by rw [← eV1419]; exact exec_store_cell 3 (.tmp 123) (.const (.int .i64 1)) (by kernel_rfl) g20 1 (by kernel_rfl) (.int .i64 1) (by kernel_rfl) (by kernel_rfl) (by kernel_rfl) (.int .i64 attOne.s) (rc (h1416) (Att.c_1 _)) (frozen_of_row _ _ _ _ _ h1416) (by kernel_rfl)) ?_
  clear eV1419
  have h1421 := kV1419.bo h1404 (by omega)
  have h1422 := kV1419.bo h1405 (by omega)
  have h1423 := kV1419.bo h1406 (by omega)
  have h1424 := kV1419.bo h1407 (by omega)
  have h1425 := kV1419.bo h1408 (by omega)
  have h1426 := kV1419.bo h1409 (by omega)
  have h1427 := kV1419.bo h1410 (by omega)
  have h1428 := kV1419.bo h1411 (by omega)
  have h1429 := kV1419.bo h1412 (by omega)
  have h1430 := kV1419.bo h1413 (by omega)
  have h1431 := kV1419.bo h1414 (by omega)
  have h1432 := kV1419.bo h1415 (by omega)
  have h1433 := kV1419.bo h1403 (by omega)
  have K1434 := K1417.no kV1419 (by omega)
  have z1435 := kV1419.size
  refine ps_end ?_
  refine then_n ?_
  refine sy_sq (part_VoteKnown 8388606) (part_VoteKnown 8388607) ?_
  refine sy_reg ?_
  refine rg_plain 22 (opsAt (part_VoteKnown 8388606)) [0, 1, 2, 3, 4, 5, 6, 7, 8, 9, 10, 11, 12, 13, 14, 15, 16, 17, 18, 19, 20, 21, 22, 23, 24, 25, 26, 27] (by kernel_rfl) (by kernel_rfl) ?_
  refine ps_c (o_VoteKnown 8388606 0) 9 #[] Try.func9 ((lvawake_ok _).mono ?_)
  rintro e V1436 ⟨rfl, kV1436⟩
  refine ⟨_, rfl, ?_⟩
  have h1437 := kV1436.bk h1421
  have h1438 := kV1436.bk h1422
  have h1439 := kV1436.bk h1423
  have h1440 := kV1436.bk h1424
  have h1441 := kV1436.bk h1425
  have h1442 := kV1436.bk h1426
  have h1443 := kV1436.bk h1427
  have h1444 := kV1436.bk h1428
  have h1445 := kV1436.bk h1429
  have h1446 := kV1436.bk h1430
  have h1447 := kV1436.bk h1431
  have h1448 := kV1436.bk h1432
  have h1449 := kV1436.bk h1433
  have h1450 := kV1436.bk h1420
  have K1451 := K1434.nn kV1436
  have z1452 := kV1436.size
  refine ps_k (o_VoteKnown 8388606 1) (.bool true) ?_
  refine ps_k (o_VoteKnown 8388606 2) (.bool true) ?_
  refine ps_k (o_VoteKnown 8388606 3) (.bool true) ?_
  refine ps_k (o_VoteKnown 8388606 4) (.bool true) ?_
  refine ps_k (o_VoteKnown 8388606 5) (.bool true) ?_
  refine ps_k (o_VoteKnown 8388606 6) (.bool true) ?_
  refine ps_k (o_VoteKnown 8388606 7) (.bool true) ?_
  refine ps_k (o_VoteKnown 8388606 8) (.bool true) ?_
  refine ps_k (o_VoteKnown 8388606 9) (.bool true) ?_
  refine ps_k (o_VoteKnown 8388606 10) (.bool true) ?_
  refine ps_p (o_VoteKnown 8388606 11) (.agg (Att.c attOne)) (exec_load_row 29 (.tmp 1) (by kernel_rfl) g1 (by kernel_rfl) _ _ (0, 0) _ (h1437) Try.underlying29 rfl (by rw [Att.c_size _ (show attOne.r.length = 32 from rfl)]; kernel_rfl)) ?_
  refine ps_p (o_VoteKnown 8388606 12) (.agg (Att.c ⟨attOne.v, 1, attOne.t, attOne.r, attOne.g⟩)) (exec_load_row 29 (.tmp 20) (by kernel_rfl) g20 (by kernel_rfl) _ _ (0, 0) _ (h1450) Try.underlying29 rfl (by rw [Att.c_size (⟨attOne.v, 1, attOne.t, attOne.r, attOne.g⟩) (show attOne.r.length = 32 from rfl)]; kernel_rfl)) ?_
  refine ps_c (o_VoteKnown 8388606 13) 30 #[.agg (Att.c attOne), .agg (Att.c ⟨attOne.v, 1, attOne.t, attOne.r, attOne.g⟩)] Try.func30 ((doub_is attOne attOther _ attOne_ok attOther_ok doub_other).mono ?_)
  rintro e V1453 ⟨rfl, kV1453⟩
  refine ⟨_, rfl, ?_⟩
  have h1454 := kV1453.bk h1437
  have h1455 := kV1453.bk h1438
  have h1456 := kV1453.bk h1439
  have h1457 := kV1453.bk h1440
  have h1458 := kV1453.bk h1441
  have h1459 := kV1453.bk h1442
  have h1460 := kV1453.bk h1443
  have h1461 := kV1453.bk h1444
  have h1462 := kV1453.bk h1445
  have h1463 := kV1453.bk h1446
  have h1464 := kV1453.bk h1447
  have h1465 := kV1453.bk h1448
  have h1466 := kV1453.bk h1449
  have h1467 := kV1453.bk h1450
  have K1468 := K1451.nn kV1453
  have z1469 := kV1453.size
  refine ps_k (o_VoteKnown 8388606 14) (.bool true) ?_
  refine ps_k (o_VoteKnown 8388606 15) (.bool true) ?_
  refine ps_p (o_VoteKnown 8388606 16) (.agg (Att.c attOne)) (exec_load_row 29 (.tmp 1) (by kernel_rfl) g1 (by kernel_rfl) _ _ (0, 0) _ (h1454) Try.underlying29 rfl (by rw [Att.c_size _ (show attOne.r.length = 32 from rfl)]; kernel_rfl)) ?_
  refine ps_p (o_VoteKnown 8388606 17) (.agg (Att.c ⟨attOne.v, attOne.s, attOne.t, attOne.r, 9⟩)) (exec_load_row 29 (.tmp 5) (by kernel_rfl) g5 (by kernel_rfl) _ _ (0, 0) _ (h1456) Try.underlying29 rfl (by rw [Att.c_size (⟨attOne.v, attOne.s, attOne.t, attOne.r, 9⟩) (show attOne.r.length = 32 from rfl)]; kernel_rfl)) ?_
  refine ps_c (o_VoteKnown 8388606 18) 30 #[.agg (Att.c attOne), .agg (Att.c ⟨attOne.v, attOne.s, attOne.t, attOne.r, 9⟩)] Try.func30 ((doub_is attOne attTag _ attOne_ok attTag_ok doub_tag).mono ?_)
  rintro e V1470 ⟨rfl, kV1470⟩
  refine ⟨_, rfl, ?_⟩
  have h1471 := kV1470.bk h1454
  have h1472 := kV1470.bk h1455
  have h1473 := kV1470.bk h1456
  have h1474 := kV1470.bk h1457
  have h1475 := kV1470.bk h1458
  have h1476 := kV1470.bk h1459
  have h1477 := kV1470.bk h1460
  have h1478 := kV1470.bk h1461
  have h1479 := kV1470.bk h1462
  have h1480 := kV1470.bk h1463
  have h1481 := kV1470.bk h1464
  have h1482 := kV1470.bk h1465
  have h1483 := kV1470.bk h1466
  have h1484 := kV1470.bk h1467
  have K1485 := K1468.nn kV1470
  have z1486 := kV1470.size
  refine ps_k (o_VoteKnown 8388606 19) (.bool true) ?_
  refine ps_k (o_VoteKnown 8388606 20) (.bool true) ?_
  refine ps_k (o_VoteKnown 8388606 21) (.bool true) ?_
  refine ps_p (o_VoteKnown 8388606 22) (.agg (Att.c attApart)) (exec_load_row 29 (.tmp 21) (by kernel_rfl) g21 (by kernel_rfl) _ _ (0, 0) _ (h1483) Try.underlying29 rfl (by rw [Att.c_size _ (show attApart.r.length = 32 from rfl)]; kernel_rfl)) ?_
  refine ps_p (o_VoteKnown 8388606 23) (.agg (Att.c attOne)) (exec_load_row 29 (.tmp 1) (by kernel_rfl) g1 (by kernel_rfl) _ _ (0, 0) _ (h1471) Try.underlying29 rfl (by rw [Att.c_size _ (show attOne.r.length = 32 from rfl)]; kernel_rfl)) ?_
  refine ps_c (o_VoteKnown 8388606 24) 32 #[.agg (Att.c attApart), .agg (Att.c attOne)] Try.func32 ((surr_is attApart attOne _ attApart_ok attOne_ok surr_apart).mono ?_)
  rintro e V1487 ⟨rfl, kV1487⟩
  refine ⟨_, rfl, ?_⟩
  have h1488 := kV1487.bk h1471
  have h1489 := kV1487.bk h1472
  have h1490 := kV1487.bk h1473
  have h1491 := kV1487.bk h1474
  have h1492 := kV1487.bk h1475
  have h1493 := kV1487.bk h1476
  have h1494 := kV1487.bk h1477
  have h1495 := kV1487.bk h1478
  have h1496 := kV1487.bk h1479
  have h1497 := kV1487.bk h1480
  have h1498 := kV1487.bk h1481
  have h1499 := kV1487.bk h1482
  have h1500 := kV1487.bk h1483
  have h1501 := kV1487.bk h1484
  have K1502 := K1485.nn kV1487
  have z1503 := kV1487.size
  refine ps_k (o_VoteKnown 8388606 25) (.bool true) ?_
  refine ps_k (o_VoteKnown 8388606 26) (.bool true) ?_
  refine ps_k (o_VoteKnown 8388606 27) (.bool true) ?_
  refine ps_end ?_
  refine sy_a ⟨#[.bool true, pT g1 0, pT g2 0, .slice A3 37 cap3, .int .i64 0, pT g5 0, pT d6 0, .int .i64 0, pT d8 0, .int .i64 0, .bool true, pT g11 0, pT g12 0, pT g13 0, pT g14 0, pT g15 0, .bool true, pT g17 0, pT g18 0, .bool true, pT g20 0, pT g21 0, .agg (Att.c attOne), .agg (Pro.c proOne), .tuple #[.slice A3 37 cap3, .int .i64 0], .agg (Att.c attOne), .tuple #[.slice A3 37 cap3, .int .i64 0], .slice A3 37 cap3, .int .i64 0, .slice A3 37 cap3, .int .i64 37, .bool false, .agg (Att.c attOne), pT g5 35, .tuple #[.agg (B attOne.dig).toArray, .int .i64 0], .agg (Att.c attOne), .tuple #[.agg (B attOne.dig).toArray, .int .i64 0], .agg (B attOne.dig).toArray, .int .i64 0, .tuple #[.agg (B attOne.dig).toArray, .int .i64 0], .agg (Att.c ⟨attOne.v, attOne.s, attOne.t, attOne.r, 9⟩), .tuple #[.agg (B attOne.dig).toArray, .int .i64 0], .agg (B attOne.dig).toArray, .int .i64 0, .int .i64 0, .bool true, .bool true, .int .i64 0, .bool true, .bool true, .bool true, .agg ((B attOne.dig).toArray), .slice A3 37 cap3, .slice A3 36 cap3, .agg (B attOne.dig).toArray, .bool true, .bool true, .bool true, .agg ((B attOne.dig).toArray), .agg ((B attOne.dig).toArray), .bool true, .bool true, .agg (Att.c attOne), .agg (Att.c attOne), .agg (Att.c attOne), pT g11 0, pT g12 1, pT g13 2, .agg (Pro.c proOne), .agg (Pro.c proOne), pT g14 1, pT g15 0, .agg (Att.c ⟨32, attOne.s, attOne.t, attOne.r, attOne.g⟩), .int .i64 3, .bool true, .bool true, .agg (Att.c ⟨attOne.v, -1, attOne.t, attOne.r, attOne.g⟩), .int .i64 3, .bool true, .bool true, .bool true, .agg (Att.c ⟨attOne.v, attOne.s, 4294967297, attOne.r, attOne.g⟩), .int .i64 3, .bool true, .bool true, .bool true, .agg (Pro.c ⟨proOne.v, 0, proOne.r, proOne.g⟩), .int .i64 3, .bool true, .bool true, .bool true, .agg (Pro.c ⟨-1, proOne.h, proOne.r, proOne.g⟩), .int .i64 3, .bool true, .bool true, .tuple #[.agg (Pro.c proZero), .agg #[.int .i64 3, .int .i64 2]], .slice (some ⟨q18, 0, none⟩) 3 3, .tuple #[.agg (Pro.c proZero), .agg #[.int .i64 3, .int .i64 2]], .agg (Pro.c proZero), .agg #[.int .i64 3, .int .i64 2], .slice (some ⟨q1, 0, none⟩) 1 1, .bool true, .bool true, .slice (some ⟨q2, 0, none⟩) 2 2, .bool true, .bool true, .bool true, .slice (some ⟨q3, 0, none⟩) 4 4, .bool true, .bool true, .bool true, .slice A3 37 cap3, .slice (some ⟨q4, 0, none⟩) 1 1, v1287, .bool true, .bool true, .bool true, .agg #[.int .i64 3, .int .i64 2], .agg #[.int .i64 3, .int .i64 2], .bool true, .bool true, .agg (Att.c attOne), .agg (Att.c attApart), pT g20 1, .bool true, .bool true, .bool true, .bool true, .bool true, .bool true, .bool true, .bool true, .bool true, .bool true, .bool true, .agg (Att.c attOne), .agg (Att.c ⟨attOne.v, 1, attOne.t, attOne.r, attOne.g⟩), .bool true, .bool true, .bool true, .agg (Att.c attOne), .agg (Att.c ⟨attOne.v, attOne.s, attOne.t, attOne.r, 9⟩), .bool false, .bool true, .bool true, .bool true, .agg (Att.c attApart), .agg (Att.c attOne), .bool false, .bool true, .bool true], []⟩ ?_
  refine then_n ?_
  refine sy_ret (by kernel_rfl) ?_
  refine sy_out (.bool true) rfl (by kernel_rfl) ?_
  exact ⟨rfl, K1502⟩
end Go.Proofs.Ytenaakldccjnbaa
