/-
  Codec: regions of the laws 'asked' and 'back' (printed by codask.py). Conditions: none.
-/
import Derived.Test.YtbdjphaiohinnaaCodSp
import Derived.Test.YtbdjphaiohinnaaRegion2
import Derived.Test.YtbdjphaiohinnaaMore
import Derived.Test.YtbdjphaiohinnaaArr
namespace Go.Proofs.Ytbdjphaiohinnaa
open Go Go.RowKit Go.Own Go.Shelf
theorem hash_eql (l m : List UInt8) (hl : l.length = 32) (hm : m.length = 32) (w : World) : (binOp .eql 44 (.agg (B l).toArray) (.agg (B m).toArray)).run Try.prog w = .ok (.bool (l == m)) w := by
  obtain ⟨i0, hi, _, _, _⟩ := info_parts u8_info0
  have h := run_equalIn_bytes (P := Try.prog) (t := 44) (e := 5) (n := 32) Try.underlying44 hi (by kernel_rfl) Try.underlying5 (by kernel_rfl) 9998 l m w hl hm
  rw [run_eql_struct, h]
  rfl
theorem hash_guard0 : Try.prog.eqGuardType Try.prog.depth 44 = false := by kernel_rfl

noncomputable def opsasked_3 : Array Oper := opsOf Try.f46 3
set_option maxRecDepth 100000 in
set_option maxHeartbeats 2000000 in
theorem ask0_region {ops' : Array Oper} (hops : ops' = opsasked_3) {u1 u2 u4 u5 u6 u7 u8 u9 u10 u11 u12 u13 u14 u15 u16 u17 u18 u19 u20 u21 u22 u23 u24 u25 u26 u27 u28 u29 u30 u31 u32 u33 u34 u35 u36 u37 u38 u39 u40 u41 u42 u43 u44 u45 u46 : Value} (b bx : Nat) (M : Nat → Prop) (P0 P1 : World → Prop) (W0 : World) (hP : P0 W0.drew) (a n : Int) (hm3 : ∀ W, Keeps M W0 W → W.cell? ⟨bx, 3, none⟩ = some (.int .u64 n))
    (HF : ∀ W, P0 W → Calls Try.prog 38 #[.pointer (some ⟨b, 0, none⟩)] W fun e w' => e = .returned (.int .u64 a) ∧ P1 w' ∧ Keeps M W w') (Q : Exit → Act → World → Prop)
    (hQ : ∀ (W : World), Keeps M W0 W → P1 W → Q .normal ⟨#[.pointer (some ⟨b, 0, none⟩), u1, u2, .pointer (some ⟨bx, 0, none⟩), .bool (a == n), u5, u6, u7, u8, .pointer (some ⟨b, 0, none⟩), .int .u64 a, .pointer (some ⟨bx, 3, none⟩), .int .u64 n, .bool (a == n), u14, u15, u16, u17, u18, u19, u20, u21, u22, u23, u24, u25, u26, u27, u28, u29, u30, u31, u32, u33, u34, u35, u36, u37, u38, u39, u40, u41, u42, u43, u44, u45, u46], []⟩ W) : (Code.region 3 ops' true).wp Try.prog Q ⟨#[.pointer (some ⟨b, 0, none⟩), u1, u2, .pointer (some ⟨bx, 0, none⟩), u4, u5, u6, u7, u8, u9, u10, u11, u12, u13, u14, u15, u16, u17, u18, u19, u20, u21, u22, u23, u24, u25, u26, u27, u28, u29, u30, u31, u32, u33, u34, u35, u36, u37, u38, u39, u40, u41, u42, u43, u44, u45, u46], []⟩ W0 := by
  subst hops
  refine wp_region_noPanic ?_
  refine wp_regionH_fuel (fun W => Keeps M W0 W) 6 #[false, false, false, false, false, false] (by kernel_rfl) (by kernel_rfl) rfl ?_
  have S0 : Keeps M W0 W0.drew := (Keeps.refl _ _).drew
  refine wpAnyH_val (i := 0) (opsasked_3.getD 0 default) (.pointer (some ⟨b, 0, none⟩)) (by kernel_rfl) (fun _ _ _ _ _ h => h) (by kernel_rfl) (by kernel_rfl) (by kernel_rfl) (by kernel_rfl) (fun W hW => by kernel_rfl) S0 ?_
  refine wpAnyH_val (i := 2) (opsasked_3.getD 2 default) (.pointer (some ⟨bx, 3, none⟩)) (by kernel_rfl) (fun _ _ _ _ _ h => h) (by kernel_rfl) (by kernel_rfl) (by kernel_rfl) (by kernel_rfl) (fun W hW => by kernel_rfl) S0 ?_
  refine wpAnyH_val (i := 3) (opsasked_3.getD 3 default) (.int .u64 n) (by kernel_rfl) (fun _ _ _ _ _ h => h) (by kernel_rfl) (by kernel_rfl) (by kernel_rfl) (by kernel_rfl) (fun W hW => exec_load_cell 22 (.tmp 11) (by kernel_rfl) ⟨bx, 3, none⟩ (by kernel_rfl) _ _ Try.underlying22 rfl (hm3 W hW)) S0 ?_
  refine wpAnyH_call (i := 1) (opsasked_3.getD 1 default) 38 #[.pointer (some ⟨b, 0, none⟩)] (by kernel_rfl) (by kernel_rfl) (by kernel_rfl) (by kernel_rfl) (by kernel_rfl) (enters_of Try.func38 (by kernel_rfl) rfl) ((HF W0.drew hP).mono ?_)
  rintro e V1 ⟨rfl, hp1, hk1⟩
  have SV1 := (S0).trans hk1
  refine ⟨_, rfl, SV1, ?_⟩
  refine wpAnyH_val (i := 4) (opsasked_3.getD 4 default) (.bool (a == n)) (by kernel_rfl) (fun _ _ _ _ _ h => h) (by kernel_rfl) (by kernel_rfl) (by kernel_rfl) (by kernel_rfl) (fun W hW => by kernel_rfl) SV1 ?_
  refine wpAnyH_run (i := 5) (opsasked_3.getD 5 default) (.bool (a == n)) (w' := V1) (by kernel_rfl) (by kernel_rfl) (by kernel_rfl) (.inl (by kernel_rfl)) SV1 ?_
  refine wpAnyH_done (by kernel_rfl) ?_ _
  refine NoPanic.normal ?_
  exact state_eq (b := ⟨#[.pointer (some ⟨b, 0, none⟩), u1, u2, .pointer (some ⟨bx, 0, none⟩), .bool (a == n), u5, u6, u7, u8, .pointer (some ⟨b, 0, none⟩), .int .u64 a, .pointer (some ⟨bx, 3, none⟩), .int .u64 n, .bool (a == n), u14, u15, u16, u17, u18, u19, u20, u21, u22, u23, u24, u25, u26, u27, u28, u29, u30, u31, u32, u33, u34, u35, u36, u37, u38, u39, u40, u41, u42, u43, u44, u45, u46], []⟩) (by kernel_rfl) (hQ V1 SV1 hp1)
noncomputable def opsasked_5a : Array Oper := opsOf Try.f46 5
set_option maxRecDepth 100000 in
set_option maxHeartbeats 2000000 in
theorem ask1a_region {ops' : Array Oper} (hops : ops' = opsasked_5a) {u1 u2 u4 u5 u6 u7 u8 u9 u10 u11 u12 u13 u14 u15 u16 u17 u18 u19 u20 u21 u22 u23 u24 u25 u26 u27 u28 u29 u30 u31 u32 u33 u34 u35 u36 u37 u38 u39 u40 u41 u42 u43 u44 u45 u46 : Value} (bx : Nat) (W0 : World) (b : Nat) (n : Int) (hd : decide (n < 0) = true) (hm1 : ∀ W, Keeps Nob W0 W → W.cell? ⟨bx, 1, none⟩ = some (.int .i64 n)) (Q : Exit → Act → World → Prop)
    (hQ : ∀ (W : World), Keeps Nob W0 W → Q .normal ⟨#[.pointer (some ⟨b, 0, none⟩), u1, u2, .pointer (some ⟨bx, 0, none⟩), .bool true, u5, u6, u7, u8, u9, u10, u11, u12, u13, u14, u15, .pointer (some ⟨bx, 1, none⟩), .int .i64 n, .bool true, .bool true, undef, undef, undef, undef, undef, undef, undef, undef, undef, .bool true, u30, u31, u32, u33, u34, u35, u36, u37, u38, u39, u40, u41, u42, u43, u44, u45, u46], []⟩ W) : (Code.region 5 ops' true).wp Try.prog Q ⟨#[.pointer (some ⟨b, 0, none⟩), u1, u2, .pointer (some ⟨bx, 0, none⟩), u4, u5, u6, u7, u8, u9, u10, u11, u12, u13, u14, u15, u16, u17, u18, u19, u20, u21, u22, u23, u24, u25, u26, u27, u28, u29, u30, u31, u32, u33, u34, u35, u36, u37, u38, u39, u40, u41, u42, u43, u44, u45, u46], []⟩ W0 := by
  subst hops
  refine wp_region_noPanic ?_
  refine wp_regionH_fuel (fun W => Keeps Nob W0 W) 15 #[false, false, false, false, false, false, false, false, false, false, false, false, false, false, false] (by kernel_rfl) (by kernel_rfl) rfl ?_
  have S0 : Keeps Nob W0 W0.drew := (Keeps.refl _ _).drew
  refine wpAnyH_val (i := 0) (opsasked_5a.getD 0 default) (.pointer (some ⟨bx, 1, none⟩)) (by kernel_rfl) (fun _ _ _ _ _ h => h) (by kernel_rfl) (by kernel_rfl) (by kernel_rfl) (by kernel_rfl) (fun W hW => by kernel_rfl) S0 ?_
  refine wpAnyH_val (i := 1) (opsasked_5a.getD 1 default) (.int .i64 n) (by kernel_rfl) (fun _ _ _ _ _ h => h) (by kernel_rfl) (by kernel_rfl) (by kernel_rfl) (by kernel_rfl) (fun W hW => exec_load_cell 3 (.tmp 16) (by kernel_rfl) ⟨bx, 1, none⟩ (by kernel_rfl) _ _ Try.underlying3 rfl (hm1 W hW)) S0 ?_
  refine wpAnyH_val (i := 2) (opsasked_5a.getD 2 default) (.bool true) (by kernel_rfl) (fun _ _ _ _ _ h => h) (by kernel_rfl) (by kernel_rfl) (by kernel_rfl) (by kernel_rfl) (fun W hW => exec_cast (v := .bool (decide (n < 0))) (by rw [hd]) (by kernel_rfl)) S0 ?_
  refine wpAnyH_val (i := 3) (opsasked_5a.getD 3 default) (.bool true) (by kernel_rfl) (fun _ _ _ _ _ h => h) (by kernel_rfl) (by kernel_rfl) (by kernel_rfl) (by kernel_rfl) (fun W hW => by kernel_rfl) S0 ?_
  refine wpAnyH_skip (i := 4) (opsasked_5a.getD 4 default) (by kernel_rfl) (fun _ _ _ _ _ h => h) (by kernel_rfl) (by kernel_rfl) (by kernel_rfl) (by kernel_rfl) S0 ?_
  refine wpAnyH_skip (i := 5) (opsasked_5a.getD 5 default) (by kernel_rfl) (fun _ _ _ _ _ h => h) (by kernel_rfl) (by kernel_rfl) (by kernel_rfl) (by kernel_rfl) S0 ?_
  refine wpAnyH_skip (i := 6) (opsasked_5a.getD 6 default) (by kernel_rfl) (fun _ _ _ _ _ h => h) (by kernel_rfl) (by kernel_rfl) (by kernel_rfl) (by kernel_rfl) S0 ?_
  refine wpAnyH_skip (i := 7) (opsasked_5a.getD 7 default) (by kernel_rfl) (fun _ _ _ _ _ h => h) (by kernel_rfl) (by kernel_rfl) (by kernel_rfl) (by kernel_rfl) S0 ?_
  refine wpAnyH_skip (i := 8) (opsasked_5a.getD 8 default) (by kernel_rfl) (fun _ _ _ _ _ h => h) (by kernel_rfl) (by kernel_rfl) (by kernel_rfl) (by kernel_rfl) S0 ?_
  refine wpAnyH_skip (i := 9) (opsasked_5a.getD 9 default) (by kernel_rfl) (fun _ _ _ _ _ h => h) (by kernel_rfl) (by kernel_rfl) (by kernel_rfl) (by kernel_rfl) S0 ?_
  refine wpAnyH_skip (i := 10) (opsasked_5a.getD 10 default) (by kernel_rfl) (fun _ _ _ _ _ h => h) (by kernel_rfl) (by kernel_rfl) (by kernel_rfl) (by kernel_rfl) S0 ?_
  refine wpAnyH_skip (i := 11) (opsasked_5a.getD 11 default) (by kernel_rfl) (fun _ _ _ _ _ h => h) (by kernel_rfl) (by kernel_rfl) (by kernel_rfl) (by kernel_rfl) S0 ?_
  refine wpAnyH_skip (i := 12) (opsasked_5a.getD 12 default) (by kernel_rfl) (fun _ _ _ _ _ h => h) (by kernel_rfl) (by kernel_rfl) (by kernel_rfl) (by kernel_rfl) S0 ?_
  refine wpAnyH_val (i := 13) (opsasked_5a.getD 13 default) (.bool true) (by kernel_rfl) (fun _ _ _ _ _ h => h) (by kernel_rfl) (by kernel_rfl) (by kernel_rfl) (by kernel_rfl) (fun W hW => by kernel_rfl) S0 ?_
  refine wpAnyH_run (i := 14) (opsasked_5a.getD 14 default) (.bool true) (w' := W0.drew) (by kernel_rfl) (by kernel_rfl) (by kernel_rfl) (.inl (by kernel_rfl)) S0 ?_
  refine wpAnyH_done (by kernel_rfl) ?_ _
  refine NoPanic.normal ?_
  exact state_eq (b := ⟨#[.pointer (some ⟨b, 0, none⟩), u1, u2, .pointer (some ⟨bx, 0, none⟩), .bool true, u5, u6, u7, u8, u9, u10, u11, u12, u13, u14, u15, .pointer (some ⟨bx, 1, none⟩), .int .i64 n, .bool true, .bool true, undef, undef, undef, undef, undef, undef, undef, undef, undef, .bool true, u30, u31, u32, u33, u34, u35, u36, u37, u38, u39, u40, u41, u42, u43, u44, u45, u46], []⟩) (by kernel_rfl) (hQ W0.drew S0)
noncomputable def opsasked_5 : Array Oper := opsOf Try.f46 5
set_option maxRecDepth 100000 in
set_option maxHeartbeats 2000000 in
theorem ask1b_region {ops' : Array Oper} (hops : ops' = opsasked_5) {u1 u2 u4 u5 u6 u7 u8 u9 u10 u11 u12 u13 u14 u15 u16 u17 u18 u19 u20 u21 u22 u23 u24 u25 u26 u27 u28 u29 u30 u31 u32 u33 u34 u35 u36 u37 u38 u39 u40 u41 u42 u43 u44 u45 u46 : Value} (b bx : Nat) (M : Nat → Prop) (P0 P1 : World → Prop) (W0 : World) (hP : P0 W0.drew) (a n : Int) (hd : decide (n < 0) = false) (hm1 : ∀ W, Keeps M W0 W → W.cell? ⟨bx, 1, none⟩ = some (.int .i64 n))
    (HF : ∀ W, P0 W → Calls Try.prog 36 #[.pointer (some ⟨b, 0, none⟩), .int .i64 n, .int .i64 n] W fun e w' => e = .returned (.int .i64 a) ∧ P1 w' ∧ Keeps M W w') (Q : Exit → Act → World → Prop)
    (hQ : ∀ (W : World), Keeps M W0 W → P1 W → Q .normal ⟨#[.pointer (some ⟨b, 0, none⟩), u1, u2, .pointer (some ⟨bx, 0, none⟩), .bool (a == n), u5, u6, u7, u8, u9, u10, u11, u12, u13, u14, u15, .pointer (some ⟨bx, 1, none⟩), .int .i64 n, .bool false, .bool false, .pointer (some ⟨b, 0, none⟩), .pointer (some ⟨bx, 1, none⟩), .int .i64 n, .pointer (some ⟨bx, 1, none⟩), .int .i64 n, .int .i64 a, .pointer (some ⟨bx, 1, none⟩), .int .i64 n, .bool (a == n), .bool (a == n), u30, u31, u32, u33, u34, u35, u36, u37, u38, u39, u40, u41, u42, u43, u44, u45, u46], []⟩ W) : (Code.region 5 ops' true).wp Try.prog Q ⟨#[.pointer (some ⟨b, 0, none⟩), u1, u2, .pointer (some ⟨bx, 0, none⟩), u4, u5, u6, u7, u8, u9, u10, u11, u12, u13, u14, u15, u16, u17, u18, u19, u20, u21, u22, u23, u24, u25, u26, u27, u28, u29, u30, u31, u32, u33, u34, u35, u36, u37, u38, u39, u40, u41, u42, u43, u44, u45, u46], []⟩ W0 := by
  subst hops
  refine wp_region_noPanic ?_
  refine wp_regionH_fuel (fun W => Keeps M W0 W) 15 #[false, false, false, false, false, false, false, false, false, false, false, false, false, false, false] (by kernel_rfl) (by kernel_rfl) rfl ?_
  have S0 : Keeps M W0 W0.drew := (Keeps.refl _ _).drew
  refine wpAnyH_val (i := 0) (opsasked_5.getD 0 default) (.pointer (some ⟨bx, 1, none⟩)) (by kernel_rfl) (fun _ _ _ _ _ h => h) (by kernel_rfl) (by kernel_rfl) (by kernel_rfl) (by kernel_rfl) (fun W hW => by kernel_rfl) S0 ?_
  refine wpAnyH_val (i := 1) (opsasked_5.getD 1 default) (.int .i64 n) (by kernel_rfl) (fun _ _ _ _ _ h => h) (by kernel_rfl) (by kernel_rfl) (by kernel_rfl) (by kernel_rfl) (fun W hW => exec_load_cell 3 (.tmp 16) (by kernel_rfl) ⟨bx, 1, none⟩ (by kernel_rfl) _ _ Try.underlying3 rfl (hm1 W hW)) S0 ?_
  refine wpAnyH_val (i := 2) (opsasked_5.getD 2 default) (.bool false) (by kernel_rfl) (fun _ _ _ _ _ h => h) (by kernel_rfl) (by kernel_rfl) (by kernel_rfl) (by kernel_rfl) (fun W hW => exec_cast (v := .bool (decide (n < 0))) (by rw [hd]) (by kernel_rfl)) S0 ?_
  refine wpAnyH_val (i := 3) (opsasked_5.getD 3 default) (.bool false) (by kernel_rfl) (fun _ _ _ _ _ h => h) (by kernel_rfl) (by kernel_rfl) (by kernel_rfl) (by kernel_rfl) (fun W hW => by kernel_rfl) S0 ?_
  refine wpAnyH_val (i := 4) (opsasked_5.getD 4 default) (.pointer (some ⟨b, 0, none⟩)) (by kernel_rfl) (fun _ _ _ _ _ h => h) (by kernel_rfl) (by kernel_rfl) (by kernel_rfl) (by kernel_rfl) (fun W hW => by kernel_rfl) S0 ?_
  refine wpAnyH_val (i := 5) (opsasked_5.getD 5 default) (.pointer (some ⟨bx, 1, none⟩)) (by kernel_rfl) (fun _ _ _ _ _ h => h) (by kernel_rfl) (by kernel_rfl) (by kernel_rfl) (by kernel_rfl) (fun W hW => by kernel_rfl) S0 ?_
  refine wpAnyH_val (i := 6) (opsasked_5.getD 6 default) (.int .i64 n) (by kernel_rfl) (fun _ _ _ _ _ h => h) (by kernel_rfl) (by kernel_rfl) (by kernel_rfl) (by kernel_rfl) (fun W hW => exec_load_cell 3 (.tmp 21) (by kernel_rfl) ⟨bx, 1, none⟩ (by kernel_rfl) _ _ Try.underlying3 rfl (hm1 W hW)) S0 ?_
  refine wpAnyH_val (i := 7) (opsasked_5.getD 7 default) (.pointer (some ⟨bx, 1, none⟩)) (by kernel_rfl) (fun _ _ _ _ _ h => h) (by kernel_rfl) (by kernel_rfl) (by kernel_rfl) (by kernel_rfl) (fun W hW => by kernel_rfl) S0 ?_
  refine wpAnyH_val (i := 8) (opsasked_5.getD 8 default) (.int .i64 n) (by kernel_rfl) (fun _ _ _ _ _ h => h) (by kernel_rfl) (by kernel_rfl) (by kernel_rfl) (by kernel_rfl) (fun W hW => exec_load_cell 3 (.tmp 23) (by kernel_rfl) ⟨bx, 1, none⟩ (by kernel_rfl) _ _ Try.underlying3 rfl (hm1 W hW)) S0 ?_
  refine wpAnyH_val (i := 10) (opsasked_5.getD 10 default) (.pointer (some ⟨bx, 1, none⟩)) (by kernel_rfl) (fun _ _ _ _ _ h => h) (by kernel_rfl) (by kernel_rfl) (by kernel_rfl) (by kernel_rfl) (fun W hW => by kernel_rfl) S0 ?_
  refine wpAnyH_val (i := 11) (opsasked_5.getD 11 default) (.int .i64 n) (by kernel_rfl) (fun _ _ _ _ _ h => h) (by kernel_rfl) (by kernel_rfl) (by kernel_rfl) (by kernel_rfl) (fun W hW => exec_load_cell 3 (.tmp 26) (by kernel_rfl) ⟨bx, 1, none⟩ (by kernel_rfl) _ _ Try.underlying3 rfl (hm1 W hW)) S0 ?_
  refine wpAnyH_call (i := 9) (opsasked_5.getD 9 default) 36 #[.pointer (some ⟨b, 0, none⟩), .int .i64 n, .int .i64 n] (by kernel_rfl) (by kernel_rfl) (by kernel_rfl) (by kernel_rfl) (by kernel_rfl) (enters_of Try.func36 (by kernel_rfl) rfl) ((HF W0.drew hP).mono ?_)
  rintro e V1 ⟨rfl, hp1, hk1⟩
  have SV1 := (S0).trans hk1
  refine ⟨_, rfl, SV1, ?_⟩
  refine wpAnyH_val (i := 12) (opsasked_5.getD 12 default) (.bool (a == n)) (by kernel_rfl) (fun _ _ _ _ _ h => h) (by kernel_rfl) (by kernel_rfl) (by kernel_rfl) (by kernel_rfl) (fun W hW => by kernel_rfl) SV1 ?_
  refine wpAnyH_val (i := 13) (opsasked_5.getD 13 default) (.bool (a == n)) (by kernel_rfl) (fun _ _ _ _ _ h => h) (by kernel_rfl) (by kernel_rfl) (by kernel_rfl) (by kernel_rfl) (fun W hW => by kernel_rfl) SV1 ?_
  refine wpAnyH_run (i := 14) (opsasked_5.getD 14 default) (.bool (a == n)) (w' := V1) (by kernel_rfl) (by kernel_rfl) (by kernel_rfl) (.inl (by kernel_rfl)) SV1 ?_
  refine wpAnyH_done (by kernel_rfl) ?_ _
  refine NoPanic.normal ?_
  exact state_eq (b := ⟨#[.pointer (some ⟨b, 0, none⟩), u1, u2, .pointer (some ⟨bx, 0, none⟩), .bool (a == n), u5, u6, u7, u8, u9, u10, u11, u12, u13, u14, u15, .pointer (some ⟨bx, 1, none⟩), .int .i64 n, .bool false, .bool false, .pointer (some ⟨b, 0, none⟩), .pointer (some ⟨bx, 1, none⟩), .int .i64 n, .pointer (some ⟨bx, 1, none⟩), .int .i64 n, .int .i64 a, .pointer (some ⟨bx, 1, none⟩), .int .i64 n, .bool (a == n), .bool (a == n), u30, u31, u32, u33, u34, u35, u36, u37, u38, u39, u40, u41, u42, u43, u44, u45, u46], []⟩) (by kernel_rfl) (hQ V1 SV1 hp1)
noncomputable def opsasked_7 : Array Oper := opsOf Try.f46 7
set_option maxRecDepth 100000 in
set_option maxHeartbeats 2000000 in
theorem ask2_region {ops' : Array Oper} (hops : ops' = opsasked_7) {u1 u2 u4 u5 u6 u7 u8 u9 u10 u11 u12 u13 u14 u15 u16 u17 u18 u19 u20 u21 u22 u23 u24 u25 u26 u27 u28 u29 u30 u31 u32 u33 u34 u35 u36 u37 u38 u39 u40 u41 u42 u43 u44 u45 u46 : Value} (b bx : Nat) (M : Nat → Prop) (P0 P1 : World → Prop) (W0 : World) (hP : P0 W0.drew) (hs hx : List UInt8) (hl1 : hs.length = 32) (hl2 : hx.length = 32) (hm4 : ∀ W, Keeps M W0 W → W.rangeAt bx 4 (B hx))
    (HF : ∀ W, P0 W → Calls Try.prog 41 #[.pointer (some ⟨b, 0, none⟩)] W fun e w' => e = .returned (.agg (B hs).toArray) ∧ P1 w' ∧ Keeps M W w') (Q : Exit → Act → World → Prop)
    (hQ : ∀ (W : World), Keeps M W0 W → P1 W → Q .normal ⟨#[.pointer (some ⟨b, 0, none⟩), u1, u2, .pointer (some ⟨bx, 0, none⟩), .bool (hs == hx), u5, u6, u7, u8, u9, u10, u11, u12, u13, u14, u15, u16, u17, u18, u19, u20, u21, u22, u23, u24, u25, u26, u27, u28, u29, u30, u31, .pointer (some ⟨b, 0, none⟩), .agg (B hs).toArray, .pointer (some ⟨bx, 4, none⟩), .agg (B hx).toArray, .bool (hs == hx), u37, u38, u39, u40, u41, u42, u43, u44, u45, u46], []⟩ W) : (Code.region 7 ops' true).wp Try.prog Q ⟨#[.pointer (some ⟨b, 0, none⟩), u1, u2, .pointer (some ⟨bx, 0, none⟩), u4, u5, u6, u7, u8, u9, u10, u11, u12, u13, u14, u15, u16, u17, u18, u19, u20, u21, u22, u23, u24, u25, u26, u27, u28, u29, u30, u31, u32, u33, u34, u35, u36, u37, u38, u39, u40, u41, u42, u43, u44, u45, u46], []⟩ W0 := by
  subst hops
  refine wp_region_noPanic ?_
  refine wp_regionH_fuel (fun W => Keeps M W0 W) 6 #[false, false, false, false, false, false] (by kernel_rfl) (by kernel_rfl) rfl ?_
  have S0 : Keeps M W0 W0.drew := (Keeps.refl _ _).drew
  refine wpAnyH_val (i := 0) (opsasked_7.getD 0 default) (.pointer (some ⟨b, 0, none⟩)) (by kernel_rfl) (fun _ _ _ _ _ h => h) (by kernel_rfl) (by kernel_rfl) (by kernel_rfl) (by kernel_rfl) (fun W hW => by kernel_rfl) S0 ?_
  refine wpAnyH_val (i := 2) (opsasked_7.getD 2 default) (.pointer (some ⟨bx, 4, none⟩)) (by kernel_rfl) (fun _ _ _ _ _ h => h) (by kernel_rfl) (by kernel_rfl) (by kernel_rfl) (by kernel_rfl) (fun W hW => by kernel_rfl) S0 ?_
  refine wpAnyH_val (i := 3) (opsasked_7.getD 3 default) (.agg (B hx).toArray) (by kernel_rfl) (fun _ _ _ _ _ h => h) (by kernel_rfl) (by kernel_rfl) (by kernel_rfl) (by kernel_rfl) (fun W hW => exec_load_mid 44 (.tmp 34) (by kernel_rfl) bx 4 (by kernel_rfl) (B hx) _ (hm4 W hW) Try.underlying44 rfl (by rw [B_length, hl2]; kernel_rfl)) S0 ?_
  refine wpAnyH_call (i := 1) (opsasked_7.getD 1 default) 41 #[.pointer (some ⟨b, 0, none⟩)] (by kernel_rfl) (by kernel_rfl) (by kernel_rfl) (by kernel_rfl) (by kernel_rfl) (enters_of Try.func41 (by kernel_rfl) rfl) ((HF W0.drew hP).mono ?_)
  rintro e V1 ⟨rfl, hp1, hk1⟩
  have SV1 := (S0).trans hk1
  refine ⟨_, rfl, SV1, ?_⟩
  refine wpAnyH_val (i := 4) (opsasked_7.getD 4 default) (.bool (hs == hx)) (by kernel_rfl) (fun _ _ _ _ _ h => h) (by kernel_rfl) (by kernel_rfl) (by kernel_rfl) (by kernel_rfl) (fun W hW => exec_binop .eql 44 44 (.tmp 33) (.tmp 35) (by kernel_rfl) (.agg (B hs).toArray) (.agg (B hx).toArray) _ (by kernel_rfl) (by kernel_rfl) (run_eqGuard_agg _ _ _ _ _ _ _ hash_guard0) (hash_eql hs hx hl1 hl2 W)) SV1 ?_
  refine wpAnyH_run (i := 5) (opsasked_7.getD 5 default) (.bool (hs == hx)) (w' := V1) (by kernel_rfl) (by kernel_rfl) (by kernel_rfl) (.inl (by kernel_rfl)) SV1 ?_
  refine wpAnyH_done (by kernel_rfl) ?_ _
  refine NoPanic.normal ?_
  exact state_eq (b := ⟨#[.pointer (some ⟨b, 0, none⟩), u1, u2, .pointer (some ⟨bx, 0, none⟩), .bool (hs == hx), u5, u6, u7, u8, u9, u10, u11, u12, u13, u14, u15, u16, u17, u18, u19, u20, u21, u22, u23, u24, u25, u26, u27, u28, u29, u30, u31, .pointer (some ⟨b, 0, none⟩), .agg (B hs).toArray, .pointer (some ⟨bx, 4, none⟩), .agg (B hx).toArray, .bool (hs == hx), u37, u38, u39, u40, u41, u42, u43, u44, u45, u46], []⟩) (by kernel_rfl) (hQ V1 SV1 hp1)
noncomputable def opsasked_9 : Array Oper := opsOf Try.f46 9
set_option maxRecDepth 100000 in
set_option maxHeartbeats 2000000 in
theorem ask3_region {ops' : Array Oper} (hops : ops' = opsasked_9) {u1 u2 u4 u5 u6 u7 u8 u9 u10 u11 u12 u13 u14 u15 u16 u17 u18 u19 u20 u21 u22 u23 u24 u25 u26 u27 u28 u29 u30 u31 u32 u33 u34 u35 u36 u37 u38 u39 u40 u41 u42 u43 u44 u45 u46 : Value} (b bx : Nat) (M : Nat → Prop) (P0 : World → Prop) (P1 : World → Value → Prop) (P2 : World → Prop) (W0 : World) (hP : P0 W0.drew) (A : Option Addr) (n cap : Nat) (a : Bool) (hm5 : ∀ W, Keeps M W0 W → W.cell? ⟨bx, 36, none⟩ = some (.slice A n cap))
    (HF : ∀ W, P0 W → Calls Try.prog 37 #[.pointer (some ⟨b, 0, none⟩), .int .i64 (n : Int)] W fun e w' => ∃ X, e = .returned X ∧ P1 w' X ∧ Keeps M W w')
    (HG : ∀ W X, P1 W X → Calls Try.prog 15 #[X, .slice A n cap] W fun e w' => e = .returned (.bool a) ∧ P2 w' ∧ Keeps M W w') (Q : Exit → Act → World → Prop)
    (hQ : ∀ (W : World) (X : Value), Keeps M W0 W → P2 W → Q .normal ⟨#[.pointer (some ⟨b, 0, none⟩), u1, u2, .pointer (some ⟨bx, 0, none⟩), .bool a, u5, u6, u7, u8, u9, u10, u11, u12, u13, u14, u15, u16, u17, u18, u19, u20, u21, u22, u23, u24, u25, u26, u27, u28, u29, u30, u31, u32, u33, u34, u35, u36, u37, u38, .pointer (some ⟨b, 0, none⟩), .pointer (some ⟨bx, 36, none⟩), .slice A n cap, .int .i64 (n : Int), X, .pointer (some ⟨bx, 36, none⟩), .slice A n cap, .bool a], []⟩ W) : (Code.region 9 ops' true).wp Try.prog Q ⟨#[.pointer (some ⟨b, 0, none⟩), u1, u2, .pointer (some ⟨bx, 0, none⟩), u4, u5, u6, u7, u8, u9, u10, u11, u12, u13, u14, u15, u16, u17, u18, u19, u20, u21, u22, u23, u24, u25, u26, u27, u28, u29, u30, u31, u32, u33, u34, u35, u36, u37, u38, u39, u40, u41, u42, u43, u44, u45, u46], []⟩ W0 := by
  subst hops
  refine wp_region_noPanic ?_
  refine wp_regionH_fuel (fun W => Keeps M W0 W) 9 #[false, false, false, false, false, false, false, false, false] (by kernel_rfl) (by kernel_rfl) rfl ?_
  have S0 : Keeps M W0 W0.drew := (Keeps.refl _ _).drew
  refine wpAnyH_val (i := 0) (opsasked_9.getD 0 default) (.pointer (some ⟨b, 0, none⟩)) (by kernel_rfl) (fun _ _ _ _ _ h => h) (by kernel_rfl) (by kernel_rfl) (by kernel_rfl) (by kernel_rfl) (fun W hW => by kernel_rfl) S0 ?_
  refine wpAnyH_val (i := 1) (opsasked_9.getD 1 default) (.pointer (some ⟨bx, 36, none⟩)) (by kernel_rfl) (fun _ _ _ _ _ h => h) (by kernel_rfl) (by kernel_rfl) (by kernel_rfl) (by kernel_rfl) (fun W hW => by kernel_rfl) S0 ?_
  refine wpAnyH_val (i := 2) (opsasked_9.getD 2 default) (.slice A n cap) (by kernel_rfl) (fun _ _ _ _ _ h => h) (by kernel_rfl) (by kernel_rfl) (by kernel_rfl) (by kernel_rfl) (fun W hW => exec_load_cell 23 (.tmp 40) (by kernel_rfl) ⟨bx, 36, none⟩ (by kernel_rfl) _ _ Try.underlying23 rfl (hm5 W hW)) S0 ?_
  refine wpAnyH_val (i := 3) (opsasked_9.getD 3 default) (.int .i64 (n : Int)) (by kernel_rfl) (fun _ _ _ _ _ h => h) (by kernel_rfl) (by kernel_rfl) (by kernel_rfl) (by kernel_rfl) (fun W hW => by kernel_rfl) S0 ?_
  refine wpAnyH_val (i := 5) (opsasked_9.getD 5 default) (.pointer (some ⟨bx, 36, none⟩)) (by kernel_rfl) (fun _ _ _ _ _ h => h) (by kernel_rfl) (by kernel_rfl) (by kernel_rfl) (by kernel_rfl) (fun W hW => by kernel_rfl) S0 ?_
  refine wpAnyH_val (i := 6) (opsasked_9.getD 6 default) (.slice A n cap) (by kernel_rfl) (fun _ _ _ _ _ h => h) (by kernel_rfl) (by kernel_rfl) (by kernel_rfl) (by kernel_rfl) (fun W hW => exec_load_cell 23 (.tmp 44) (by kernel_rfl) ⟨bx, 36, none⟩ (by kernel_rfl) _ _ Try.underlying23 rfl (hm5 W hW)) S0 ?_
  refine wpAnyH_call (i := 4) (opsasked_9.getD 4 default) 37 #[.pointer (some ⟨b, 0, none⟩), .int .i64 (n : Int)] (by kernel_rfl) (by kernel_rfl) (by kernel_rfl) (by kernel_rfl) (by kernel_rfl) (enters_of Try.func37 (by kernel_rfl) rfl) ((HF W0.drew hP).mono ?_)
  rintro e V1 ⟨X, rfl, hp1, hk1⟩
  have SV1 := (S0).trans hk1
  refine ⟨_, rfl, SV1, ?_⟩
  refine wpAnyH_call (i := 7) (opsasked_9.getD 7 default) 15 #[X, .slice A n cap] (by kernel_rfl) (by kernel_rfl) (by kernel_rfl) (by kernel_rfl) (by kernel_rfl) (enters_of Try.func15 (by kernel_rfl) rfl) ((HG V1 X hp1).mono ?_)
  rintro e V2 ⟨rfl, hp2, hk2⟩
  have SV2 := (SV1).trans hk2
  refine ⟨_, rfl, SV2, ?_⟩
  refine wpAnyH_run (i := 8) (opsasked_9.getD 8 default) (.bool a) (w' := V2) (by kernel_rfl) (by kernel_rfl) (by kernel_rfl) (.inl (by kernel_rfl)) SV2 ?_
  refine wpAnyH_done (by kernel_rfl) ?_ _
  refine NoPanic.normal ?_
  exact state_eq (b := ⟨#[.pointer (some ⟨b, 0, none⟩), u1, u2, .pointer (some ⟨bx, 0, none⟩), .bool a, u5, u6, u7, u8, u9, u10, u11, u12, u13, u14, u15, u16, u17, u18, u19, u20, u21, u22, u23, u24, u25, u26, u27, u28, u29, u30, u31, u32, u33, u34, u35, u36, u37, u38, .pointer (some ⟨b, 0, none⟩), .pointer (some ⟨bx, 36, none⟩), .slice A n cap, .int .i64 (n : Int), X, .pointer (some ⟨bx, 36, none⟩), .slice A n cap, .bool a], []⟩) (by kernel_rfl) (hQ V2 X SV2 hp2)
theorem fault_eql (e1 e2 : Int) (w : World) : (binOp .eql 29 (.agg #[.int .i64 e1, .int .i64 e2]) (.agg #[.int .i64 e1, .int .i64 e2])).run Try.prog w = .ok (.bool true) w := by
  have h1 := Try.underlying29
  have h2 := Try.underlying3
  have h3 := Try.underlying27
  have hs : Try.prog.stoodInHeld 29 = false := by kernel_rfl
  have hu : Try.prog.underlying 29 = some (.struct (Try.prog.fieldsOf 29)) := by kernel_rfl
  have hl : (Try.prog.fieldsOf 29).toList = [{ name := "Err", type := 27, offset := 0, embedded := false, tag := "", pkgPath := "", byteOffset := 0 }, { name := "At", type := 3, offset := 1, embedded := false, tag := "", pkgPath := "", byteOffset := 8 }] := by kernel_rfl
  rw [run_eql_struct, run_equalIn_agg _ _ _ _ _ hu hs, hl]
  simp [go_sem, Op.eqFields, h2, h3]
noncomputable def opsback_9 : Array Oper := opsOf Try.f44 9
set_option maxRecDepth 100000 in
set_option maxHeartbeats 2000000 in
theorem back_region {ops' : Array Oper} (hops : ops' = opsback_9) {u0 u1 u3 u4 u5 u6 u8 u10 u11 u12 u13 u14 u15 u16 u17 u18 u19 u20 u21 u22 u23 u24 u25 u26 u27 u28 u29 u30 u31 u32 u33 u34 u35 u36 u37 : Value} (b bx : Nat) (P0 P1 : World → Prop) (W0 : World) (hP : P0 W0.drew) (p e1 e2 : Int) (hm : ∀ W, Keeps Nob W0 W → W.heap[bx]? = some (.cells #[.int .i64 e1, .int .i64 e2] 29 (0, 0)))
    (HF : ∀ W, P0 W → Calls Try.prog 23 #[.pointer (some ⟨b, 0, none⟩)] W fun e w' => e = .returned (.int .i64 p) ∧ P1 w' ∧ Keeps Nob W w')
    (HG : ∀ W, P1 W → Calls Try.prog 27 #[.pointer (some ⟨b, 0, none⟩)] W fun e w' => e = .returned (.agg #[.int .i64 e1, .int .i64 e2]) ∧ Keeps Nob W w') (Q : Exit → Act → World → Prop)
    (hQ : ∀ (W : World), Keeps Nob W0 W → Q .normal ⟨#[u0, u1, .int .i64 p, u3, u4, u5, u6, .pointer (some ⟨bx, 0, none⟩), .bool true, .pointer (some ⟨b, 0, none⟩), u10, u11, u12, u13, u14, u15, u16, u17, u18, u19, u20, u21, u22, u23, u24, u25, u26, u27, .pointer (some ⟨b, 0, none⟩), .int .i64 p, .int .i64 p, .bool true, .bool true, .pointer (some ⟨b, 0, none⟩), .agg #[.int .i64 e1, .int .i64 e2], .agg #[.int .i64 e1, .int .i64 e2], .bool true, .bool true], []⟩ W) : (Code.region 9 ops' true).wp Try.prog Q ⟨#[u0, u1, .int .i64 p, u3, u4, u5, u6, .pointer (some ⟨bx, 0, none⟩), u8, .pointer (some ⟨b, 0, none⟩), u10, u11, u12, u13, u14, u15, u16, u17, u18, u19, u20, u21, u22, u23, u24, u25, u26, u27, u28, u29, u30, u31, u32, u33, u34, u35, u36, u37], []⟩ W0 := by
  subst hops
  refine wp_region_noPanic ?_
  refine wp_regionH_fuel (fun W => Keeps Nob W0 W) 11 #[false, false, false, false, false, false, false, false, false, false, false] (by kernel_rfl) (by kernel_rfl) rfl ?_
  have S0 : Keeps Nob W0 W0.drew := (Keeps.refl _ _).drew
  refine wpAnyH_val (i := 0) (opsback_9.getD 0 default) (.pointer (some ⟨b, 0, none⟩)) (by kernel_rfl) (fun _ _ _ _ _ h => h) (by kernel_rfl) (by kernel_rfl) (by kernel_rfl) (by kernel_rfl) (fun W hW => by kernel_rfl) S0 ?_
  refine wpAnyH_val (i := 2) (opsback_9.getD 2 default) (.int .i64 p) (by kernel_rfl) (fun _ _ _ _ _ h => h) (by kernel_rfl) (by kernel_rfl) (by kernel_rfl) (by kernel_rfl) (fun W hW => by kernel_rfl) S0 ?_
  refine wpAnyH_call (i := 1) (opsback_9.getD 1 default) 23 #[.pointer (some ⟨b, 0, none⟩)] (by kernel_rfl) (by kernel_rfl) (by kernel_rfl) (by kernel_rfl) (by kernel_rfl) (enters_of Try.func23 (by kernel_rfl) rfl) ((HF W0.drew hP).mono ?_)
  rintro e V1 ⟨rfl, hp1, hk1⟩
  have SV1 := (S0).trans hk1
  refine ⟨_, rfl, SV1, ?_⟩
  refine wpAnyH_val (i := 3) (opsback_9.getD 3 default) (.bool true) (by kernel_rfl) (fun _ _ _ _ _ h => h) (by kernel_rfl) (by kernel_rfl) (by kernel_rfl) (by kernel_rfl) (fun W hW => exec_cast (v := .bool (p == p)) (by simp) (by kernel_rfl)) SV1 ?_
  refine wpAnyH_val (i := 4) (opsback_9.getD 4 default) (.bool true) (by kernel_rfl) (fun _ _ _ _ _ h => h) (by kernel_rfl) (by kernel_rfl) (by kernel_rfl) (by kernel_rfl) (fun W hW => by kernel_rfl) SV1 ?_
  refine wpAnyH_val (i := 5) (opsback_9.getD 5 default) (.pointer (some ⟨b, 0, none⟩)) (by kernel_rfl) (fun _ _ _ _ _ h => h) (by kernel_rfl) (by kernel_rfl) (by kernel_rfl) (by kernel_rfl) (fun W hW => by kernel_rfl) SV1 ?_
  refine wpAnyH_val (i := 7) (opsback_9.getD 7 default) (.agg #[.int .i64 e1, .int .i64 e2]) (by kernel_rfl) (fun _ _ _ _ _ h => h) (by kernel_rfl) (by kernel_rfl) (by kernel_rfl) (by kernel_rfl) (fun W hW => exec_load_row 29 (.tmp 7) (by kernel_rfl) bx (by kernel_rfl) 29 _ (0, 0) _ (hm W hW) Try.underlying29 rfl (by kernel_rfl)) SV1 ?_
  refine wpAnyH_call (i := 6) (opsback_9.getD 6 default) 27 #[.pointer (some ⟨b, 0, none⟩)] (by kernel_rfl) (by kernel_rfl) (by kernel_rfl) (by kernel_rfl) (by kernel_rfl) (enters_of Try.func27 (by kernel_rfl) rfl) ((HG V1 hp1).mono ?_)
  rintro e V2 ⟨rfl, hk2⟩
  have SV2 := (SV1).trans hk2
  refine ⟨_, rfl, SV2, ?_⟩
  refine wpAnyH_val (i := 8) (opsback_9.getD 8 default) (.bool true) (by kernel_rfl) (fun _ _ _ _ _ h => h) (by kernel_rfl) (by kernel_rfl) (by kernel_rfl) (by kernel_rfl) (fun W hW => exec_binop .eql 29 29 (.tmp 34) (.tmp 35) (by kernel_rfl) _ _ _ (by kernel_rfl) (by kernel_rfl) (run_eqGuard_agg _ _ _ _ _ _ _ (by kernel_rfl)) (fault_eql e1 e2 W)) SV2 ?_
  refine wpAnyH_val (i := 9) (opsback_9.getD 9 default) (.bool true) (by kernel_rfl) (fun _ _ _ _ _ h => h) (by kernel_rfl) (by kernel_rfl) (by kernel_rfl) (by kernel_rfl) (fun W hW => by kernel_rfl) SV2 ?_
  refine wpAnyH_run (i := 10) (opsback_9.getD 10 default) (.bool true) (w' := V2) (by kernel_rfl) (by kernel_rfl) (by kernel_rfl) (.inl (by kernel_rfl)) SV2 ?_
  refine wpAnyH_done (by kernel_rfl) ?_ _
  refine NoPanic.normal ?_
  exact state_eq (b := ⟨#[u0, u1, .int .i64 p, u3, u4, u5, u6, .pointer (some ⟨bx, 0, none⟩), .bool true, .pointer (some ⟨b, 0, none⟩), u10, u11, u12, u13, u14, u15, u16, u17, u18, u19, u20, u21, u22, u23, u24, u25, u26, u27, .pointer (some ⟨b, 0, none⟩), .int .i64 p, .int .i64 p, .bool true, .bool true, .pointer (some ⟨b, 0, none⟩), .agg #[.int .i64 e1, .int .i64 e2], .agg #[.int .i64 e1, .int .i64 e2], .bool true, .bool true], []⟩) (by kernel_rfl) (hQ V2 SV2)
end Go.Proofs.Ytbdjphaiohinnaa
