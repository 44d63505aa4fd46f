/-
  Codec: a region of the law (printed by codpair.py). Conditions: none.
-/
import Derived.Test.YtbdjphaiohinnaaCodV
import Derived.Test.YtbdjphaiohinnaaRegion2
namespace Go.Proofs.Ytbdjphaiohinnaa
open Go Go.RowKit Go.Own Go.Shelf

noncomputable def opsreads_5 : Array Oper := opsOf Try.f22 5
set_option maxRecDepth 100000 in
set_option maxHeartbeats 2000000 in
theorem reads_region {ops' : Array Oper} (hops : ops' = opsreads_5) {u2 u3 u4 u6 u7 u8 u9 u10 u11 u12 u13 u14 u15 u16 u17 u18 u19 u20 u21 u22 u23 u24 u25 u26 u27 u28 u29 u30 u31 u32 u33 u34 u35 u36 u37 u38 u39 u40 u41 u42 u43 u44 u45 u46 u47 u48 u49 u50 u51 u52 u53 u54 u55 u56 u57 u58 u59 u60 u61 u62 u63 u64 u65 u66 u67 u68 : Value} (b b2 bx : Nat) (i1 i2 a : Int) (M : Nat → Prop) (P0 P1 P2 : World → Prop) (W0 : World) (hm1 : ∀ W, Keeps M W0 W → W.cell? ⟨bx, 1, none⟩ = some (.int .i64 i1)) (hm2 : ∀ W, Keeps M W0 W → W.cell? ⟨bx, 2, none⟩ = some (.int .i64 i2)) (hP : P0 W0.drew)
    (HF : ∀ W, P0 W → Calls Try.prog 36 #[.pointer (some ⟨b, 0, none⟩), .int .i64 i2, .int .i64 i1] W fun e w' => e = .returned (.int .i64 a) ∧ P1 w' ∧ Keeps M W w')
    (HG : ∀ W, P1 W → Calls Try.prog 53 #[.pointer (some ⟨b2, 0, none⟩), .int .i64 i2, .int .i64 i1] W fun e w' => e = .returned (.int .i64 a) ∧ P2 w' ∧ Keeps M W w') (Q : Exit → Act → World → Prop)
    (hQ : ∀ (W : World), Keeps M W0 W → P2 W → Q .normal ⟨#[.pointer (some ⟨b, 0, none⟩), .pointer (some ⟨b2, 0, none⟩), u2, u3, u4, .pointer (some ⟨bx, 0, none⟩), .bool true, u7, u8, u9, u10, u11, u12, u13, u14, u15, u16, u17, u18, u19, .pointer (some ⟨b, 0, none⟩), .pointer (some ⟨bx, 2, none⟩), .int .i64 i2, .pointer (some ⟨bx, 1, none⟩), .int .i64 i1, .int .i64 a, .pointer (some ⟨b2, 0, none⟩), .pointer (some ⟨bx, 2, none⟩), .int .i64 i2, .pointer (some ⟨bx, 1, none⟩), .int .i64 i1, .int .i64 a, .bool true, u33, u34, u35, u36, u37, u38, u39, u40, u41, u42, u43, u44, u45, u46, u47, u48, u49, u50, u51, u52, u53, u54, u55, u56, u57, u58, u59, u60, u61, u62, u63, u64, u65, u66, u67, u68], []⟩ W) : (Code.region 5 ops' true).wp Try.prog Q ⟨#[.pointer (some ⟨b, 0, none⟩), .pointer (some ⟨b2, 0, none⟩), u2, u3, u4, .pointer (some ⟨bx, 0, none⟩), u6, u7, u8, u9, u10, u11, u12, u13, u14, u15, u16, u17, u18, u19, u20, u21, u22, u23, u24, u25, u26, u27, u28, u29, u30, u31, u32, u33, u34, u35, u36, u37, u38, u39, u40, u41, u42, u43, u44, u45, u46, u47, u48, u49, u50, u51, u52, u53, u54, u55, u56, u57, u58, u59, u60, u61, u62, u63, u64, u65, u66, u67, u68], []⟩ W0 := by
  subst hops
  refine wp_region_noPanic ?_
  refine wp_regionH_fuel (fun W => Keeps M W0 W) 14 #[false, false, false, false, false, false, false, false, false, false, false, false, false, false] (by kernel_rfl) (by kernel_rfl) rfl ?_
  have S0 : Keeps M W0 W0.drew := (Keeps.refl _ _).drew
  refine wpAnyH_val (i := 0) (opsreads_5.getD 0 default) (.pointer (some ⟨b, 0, none⟩)) (by kernel_rfl) (fun _ _ _ _ _ h => h) (by kernel_rfl) (by kernel_rfl) (by kernel_rfl) (by kernel_rfl) (fun W hW => by kernel_rfl) S0 ?_
  refine wpAnyH_val (i := 1) (opsreads_5.getD 1 default) (.pointer (some ⟨bx, 2, none⟩)) (by kernel_rfl) (fun _ _ _ _ _ h => h) (by kernel_rfl) (by kernel_rfl) (by kernel_rfl) (by kernel_rfl) (fun W hW => by kernel_rfl) S0 ?_
  refine wpAnyH_val (i := 2) (opsreads_5.getD 2 default) (.int .i64 i2) (by kernel_rfl) (fun _ _ _ _ _ h => h) (by kernel_rfl) (by kernel_rfl) (by kernel_rfl) (by kernel_rfl) (fun W hW => exec_load_cell 3 (.tmp 21) (by kernel_rfl) ⟨bx, 2, none⟩ (by kernel_rfl) _ _ Try.underlying3 rfl (hm2 W hW)) S0 ?_
  refine wpAnyH_val (i := 3) (opsreads_5.getD 3 default) (.pointer (some ⟨bx, 1, none⟩)) (by kernel_rfl) (fun _ _ _ _ _ h => h) (by kernel_rfl) (by kernel_rfl) (by kernel_rfl) (by kernel_rfl) (fun W hW => by kernel_rfl) S0 ?_
  refine wpAnyH_val (i := 4) (opsreads_5.getD 4 default) (.int .i64 i1) (by kernel_rfl) (fun _ _ _ _ _ h => h) (by kernel_rfl) (by kernel_rfl) (by kernel_rfl) (by kernel_rfl) (fun W hW => exec_load_cell 3 (.tmp 23) (by kernel_rfl) ⟨bx, 1, none⟩ (by kernel_rfl) _ _ Try.underlying3 rfl (hm1 W hW)) S0 ?_
  refine wpAnyH_val (i := 6) (opsreads_5.getD 6 default) (.pointer (some ⟨b2, 0, none⟩)) (by kernel_rfl) (fun _ _ _ _ _ h => h) (by kernel_rfl) (by kernel_rfl) (by kernel_rfl) (by kernel_rfl) (fun W hW => by kernel_rfl) S0 ?_
  refine wpAnyH_val (i := 7) (opsreads_5.getD 7 default) (.pointer (some ⟨bx, 2, none⟩)) (by kernel_rfl) (fun _ _ _ _ _ h => h) (by kernel_rfl) (by kernel_rfl) (by kernel_rfl) (by kernel_rfl) (fun W hW => by kernel_rfl) S0 ?_
  refine wpAnyH_val (i := 8) (opsreads_5.getD 8 default) (.int .i64 i2) (by kernel_rfl) (fun _ _ _ _ _ h => h) (by kernel_rfl) (by kernel_rfl) (by kernel_rfl) (by kernel_rfl) (fun W hW => exec_load_cell 3 (.tmp 27) (by kernel_rfl) ⟨bx, 2, none⟩ (by kernel_rfl) _ _ Try.underlying3 rfl (hm2 W hW)) S0 ?_
  refine wpAnyH_val (i := 9) (opsreads_5.getD 9 default) (.pointer (some ⟨bx, 1, none⟩)) (by kernel_rfl) (fun _ _ _ _ _ h => h) (by kernel_rfl) (by kernel_rfl) (by kernel_rfl) (by kernel_rfl) (fun W hW => by kernel_rfl) S0 ?_
  refine wpAnyH_val (i := 10) (opsreads_5.getD 10 default) (.int .i64 i1) (by kernel_rfl) (fun _ _ _ _ _ h => h) (by kernel_rfl) (by kernel_rfl) (by kernel_rfl) (by kernel_rfl) (fun W hW => exec_load_cell 3 (.tmp 29) (by kernel_rfl) ⟨bx, 1, none⟩ (by kernel_rfl) _ _ Try.underlying3 rfl (hm1 W hW)) S0 ?_
  refine wpAnyH_call (i := 5) (opsreads_5.getD 5 default) 36 #[.pointer (some ⟨b, 0, none⟩), .int .i64 i2, .int .i64 i1] (by kernel_rfl) (by kernel_rfl) (by kernel_rfl) (by kernel_rfl) (by kernel_rfl) (enters_of Try.func36 (by kernel_rfl) rfl) ((HF W0.drew hP).mono ?_)
  rintro e V1 ⟨rfl, hp1, hk1⟩
  have SV1 := (S0).trans hk1
  refine ⟨_, rfl, SV1, ?_⟩
  refine wpAnyH_call (i := 11) (opsreads_5.getD 11 default) 53 #[.pointer (some ⟨b2, 0, none⟩), .int .i64 i2, .int .i64 i1] (by kernel_rfl) (by kernel_rfl) (by kernel_rfl) (by kernel_rfl) (by kernel_rfl) (enters_of Try.func53 (by kernel_rfl) rfl) ((HG V1 hp1).mono ?_)
  rintro e V2 ⟨rfl, hp2, hk2⟩
  have SV2 := (SV1).trans hk2
  refine ⟨_, rfl, SV2, ?_⟩
  refine wpAnyH_val (i := 12) (opsreads_5.getD 12 default) (.bool true) (by kernel_rfl) (fun _ _ _ _ _ h => h) (by kernel_rfl) (by kernel_rfl) (by kernel_rfl) (by kernel_rfl) (fun W hW => exec_cast (v := .bool (a == a)) (by simp) (by kernel_rfl)) SV2 ?_
  refine wpAnyH_run (i := 13) (opsreads_5.getD 13 default) (.bool true) (w' := V2) (by kernel_rfl) (by kernel_rfl) (by kernel_rfl) (.inl (by kernel_rfl)) SV2 ?_
  refine wpAnyH_done (by kernel_rfl) ?_ _
  refine NoPanic.normal ?_
  exact state_eq (b := ⟨#[.pointer (some ⟨b, 0, none⟩), .pointer (some ⟨b2, 0, none⟩), u2, u3, u4, .pointer (some ⟨bx, 0, none⟩), .bool true, u7, u8, u9, u10, u11, u12, u13, u14, u15, u16, u17, u18, u19, .pointer (some ⟨b, 0, none⟩), .pointer (some ⟨bx, 2, none⟩), .int .i64 i2, .pointer (some ⟨bx, 1, none⟩), .int .i64 i1, .int .i64 a, .pointer (some ⟨b2, 0, none⟩), .pointer (some ⟨bx, 2, none⟩), .int .i64 i2, .pointer (some ⟨bx, 1, none⟩), .int .i64 i1, .int .i64 a, .bool true, u33, u34, u35, u36, u37, u38, u39, u40, u41, u42, u43, u44, u45, u46, u47, u48, u49, u50, u51, u52, u53, u54, u55, u56, u57, u58, u59, u60, u61, u62, u63, u64, u65, u66, u67, u68], []⟩) (by kernel_rfl) (hQ V2 SV2 hp2)
end Go.Proofs.Ytbdjphaiohinnaa
