/-
  Votes: their bytes and digests, told (printed by vote3.py). Conditions: none.
-/
import Derived.Test.YtenaakldccjnbaaVoteC
namespace Go.Proofs.Ytenaakldccjnbaa
open Go Go.RowKit Go.Own Go.Shelf
def attT (a : Att) : List Thg := [.n 1, .n a.v, .n a.s, .n a.t, .h a.r]
def proT (a : Pro) : List Thg := [.n 2, .n a.v, .n a.h, .h a.r]
def Att.bare (a : Att) : List UInt8 := allb (attT a)
def Pro.bare (a : Pro) : List UInt8 := allb (proT a)
def Att.bytes (a : Att) : List UInt8 := allb (attT a ++ [.u a.g])
def Pro.bytes (a : Pro) : List UInt8 := allb (proT a ++ [.u a.g])
def zhash : List UInt8 := List.replicate 32 0
theorem zhash_len : zhash.length = 32 := by simp [zhash]
theorem att_okT {a : Att} (h : a.Ok) (hf : a.fine) : ∀ (k : Nat) (t : Thg), (attT a ++ [.u a.g])[k]? = some t → t.Ok := fun k t ht => by
  obtain ⟨f1, f2, f3, f4, f5, f6⟩ := hf
  match k, ht with
  | 0, ht => cases ht; exact ⟨by omega, by omega⟩
  | 1, ht => cases ht; exact ⟨by omega, by omega⟩
  | 2, ht => cases ht; exact ⟨by omega, by omega⟩
  | 3, ht => cases ht; exact ⟨by omega, by omega⟩
  | 4, ht => cases ht; exact h.r
  | 5, ht => cases ht; exact h.g
  | k + 6, ht => cases ht
theorem pro_okT {a : Pro} (h : a.Ok) (hf : a.fine) : ∀ (k : Nat) (t : Thg), (proT a ++ [.u a.g])[k]? = some t → t.Ok := fun k t ht => by
  obtain ⟨f1, f2, f3, f4⟩ := hf
  match k, ht with
  | 0, ht => cases ht; exact ⟨by omega, by omega⟩
  | 1, ht => cases ht; exact ⟨by omega, by omega⟩
  | 2, ht => cases ht; exact ⟨by omega, by omega⟩
  | 3, ht => cases ht; exact h.r
  | 4, ht => cases ht; exact h.g
  | k + 5, ht => cases ht
theorem okT_pre {ts : List Thg} {u : Thg} (h : ∀ (k : Nat) (t : Thg), (ts ++ [u])[k]? = some t → t.Ok) : ∀ (k : Nat) (t : Thg), ts[k]? = some t → t.Ok := fun k t ht => h k t (by rw [List.getElem?_append_left (List.getElem?_eq_some_iff.1 ht).1]; exact ht)
theorem enc10 (n : Nat) : (Cod.enc n).length ≤ 10 := Cod.enc_length n
theorem att_len {a : Att} (h : a.r.length = 32) : a.bytes.length ≤ 82 ∧ a.bare.length ≤ 72 := by
  have := enc10 (1 : Int).toNat; have := enc10 a.v.toNat; have := enc10 a.s.toNat; have := enc10 a.t.toNat; have := enc10 a.g
  simp only [Att.bytes, Att.bare, allb, attT, List.flatMap_cons, List.flatMap_nil, List.cons_append, List.nil_append, Thg.by, List.length_append, List.length_nil, h]
  omega
theorem pro_len {a : Pro} (h : a.r.length = 32) : a.bytes.length ≤ 72 ∧ a.bare.length ≤ 62 := by
  have := enc10 (2 : Int).toNat; have := enc10 a.v.toNat; have := enc10 a.h.toNat; have := enc10 a.g
  simp only [Pro.bytes, Pro.bare, allb, proT, List.flatMap_cons, List.flatMap_nil, List.cons_append, List.nil_append, Thg.by, List.length_append, List.length_nil, h]
  omega
theorem thing_info : (Try.prog.info? 74).map (fun i => (i.zero, i.size, i.bytes)) = some (some .nilFunc, 1, 8) := by kernel_rfl

noncomputable def part_vthings (n : Nat) : Code := partOf Try.f55 n
noncomputable abbrev o_vthings (n k : Nat) : Oper := (opsAt (part_vthings n)).getD k default
set_option maxRecDepth 100000 in
set_option maxHeartbeats 4000000 in
theorem vthings_ok (a : Att) (w : World) (hr : a.r.length = 32) :
    Calls Try.prog 55 #[.agg (Att.c a)] w (fun e w' => ∃ gl vs, e = .returned (.slice (some ⟨gl, 0, none⟩) 5 5) ∧ Row w' 74 1 (.slice (some ⟨gl, 0, none⟩) 5 5) 5 vs ∧ ThsAt w' vs (attT a) ∧ NewFrom w.heap.size (.slice (some ⟨gl, 0, none⟩) 5 5) ∧ Keeps Nob w w') := by
  have K0 : Keeps Nob w w := Keeps.refl _ _
  refine sy_enter (part_vthings 1) ⟨#[.agg (Att.c a), undef, undef, undef, undef, undef, undef, undef, undef, undef, undef, undef, undef, undef, undef, undef, undef], []⟩ Try.func55 (by kernel_rfl) (by kernel_rfl) ?_
  refine sy_sq (part_vthings 2) (part_vthings 3) ?_
  refine sy_reg ?_
  refine rg_plain 0 (opsAt (part_vthings 2)) [0, 1] (by kernel_rfl) (by kernel_rfl) ?_
  obtain ⟨V1, eV1, ga, ega, h2, kV1⟩ := alloc_step w ((Att.c a)) 29
  have n3 : w.heap.size ≤ ga := ega ▸ K0.size
  refine ps_r (o_vthings 2 0) (pT ga 0) (w' := V1) (by rw [← eV1, ← ega]; exact exec_box 29 (.tmp 0) (by kernel_rfl) (.agg (Att.c a)) (by kernel_rfl)) ?_
  clear eV1
  have K4 := K0.nn kV1
  have z5 := kV1.size
  refine ps_k (o_vthings 2 1) (.slice none 0 0) ?_
  refine ps_end ?_
  refine then_n ?_
  refine sy_sq (part_vthings 6) (part_vthings 7) ?_
  refine sy_np ?_
  refine sy_reg ?_
  refine an_begin 1 15 (opsAt (part_vthings 6)) (fun W => (W.heap[ga]? = some (.cells (Att.c a) 29 (0, 0)))) #[false, false, false, false, false, false, false, false, false, false, false, false, false, false, false] (by kernel_rfl) (by kernel_rfl) (by kernel_rfl) (by kernel_rfl) ?_
  obtain ⟨V6, eV6, kV6⟩ := drew_step V1
  rw [eV6]
  clear eV6
  have h7 := kV6.bk h2
  have K8 := K4.nn kV6
  have z9 := kV6.size
  refine an_k 1 (o_vthings 6 1) (pT ga 0) h7 ?_
  refine an_v 2 (o_vthings 6 2) (.int .i64 a.v) (fun W hS => exec_ld 3 (.tmp 4) ga 0 Try.underlying3 (rc (hS) (Att.c_0 _))) h7 ?_
  refine an_k 4 (o_vthings 6 4) (pT ga 1) h7 ?_
  refine an_v 5 (o_vthings 6 5) (.int .i64 a.s) (fun W hS => exec_ld 3 (.tmp 7) ga 1 Try.underlying3 (rc (hS) (Att.c_1 _))) h7 ?_
  refine an_k 7 (o_vthings 6 7) (pT ga 2) h7 ?_
  refine an_v 8 (o_vthings 6 8) (.int .i64 a.t) (fun W hS => exec_ld 3 (.tmp 10) ga 2 Try.underlying3 (rc (hS) (Att.c_2 _))) h7 ?_
  refine an_k 10 (o_vthings 6 10) (pT ga 3) h7 ?_
  refine an_v 11 (o_vthings 6 11) (.agg (B a.r).toArray) (fun W hS => exec_load_seg 26 (.tmp 13) (by kernel_rfl) ga 3 (by kernel_rfl) (B a.r) _ _ _ hS (Att.c_seg _) Try.underlying26 rfl (by rw [B_length, hr]; kernel_rfl)) h7 ?_
  refine an_o 0 ?_
  refine on_c (o_vthings 6 0) 83 #[.int .i64 1] Try.func83 ((vnum_ok 1 _).mono ?_)
  rintro e V10 ⟨g1, rfl, hg1, ng1, kV10⟩
  refine ⟨_, rfl, ?_⟩
  have h11 := kV10.bk h7
  have K12 := K8.nn kV10
  have z13 := kV10.size
  refine ⟨h11, ?_⟩
  refine an_o 3 ?_
  refine on_c (o_vthings 6 3) 83 #[.int .i64 a.v] Try.func83 ((vnum_ok a.v _).mono ?_)
  rintro e V14 ⟨g2, rfl, hg2, ng2, kV14⟩
  refine ⟨_, rfl, ?_⟩
  have h15 := kV14.bk h11
  have h16 := kV14.bk hg1
  have K17 := K12.nn kV14
  have z18 := kV14.size
  refine ⟨h15, ?_⟩
  refine an_o 6 ?_
  refine on_c (o_vthings 6 6) 83 #[.int .i64 a.s] Try.func83 ((vnum_ok a.s _).mono ?_)
  rintro e V19 ⟨g3, rfl, hg3, ng3, kV19⟩
  refine ⟨_, rfl, ?_⟩
  have h20 := kV19.bk h15
  have h21 := kV19.bk h16
  have h22 := kV19.bk hg2
  have K23 := K17.nn kV19
  have z24 := kV19.size
  refine ⟨h20, ?_⟩
  refine an_o 9 ?_
  refine on_c (o_vthings 6 9) 83 #[.int .i64 a.t] Try.func83 ((vnum_ok a.t _).mono ?_)
  rintro e V25 ⟨g4, rfl, hg4, ng4, kV25⟩
  refine ⟨_, rfl, ?_⟩
  have h26 := kV25.bk h20
  have h27 := kV25.bk h21
  have h28 := kV25.bk h22
  have h29 := kV25.bk hg3
  have K30 := K23.nn kV25
  have z31 := kV25.size
  refine ⟨h26, ?_⟩
  refine an_o 12 ?_
  refine on_c (o_vthings 6 12) 84 #[.agg (B a.r).toArray] Try.func84 ((vroot_ok a.r _).mono ?_)
  rintro e V32 ⟨g5, rfl, hg5, ng5, kV32⟩
  refine ⟨_, rfl, ?_⟩
  have h33 := kV32.bk h26
  have h34 := kV32.bk h27
  have h35 := kV32.bk h28
  have h36 := kV32.bk h29
  have h37 := kV32.bk hg4
  have K38 := K30.nn kV32
  have z39 := kV32.size
  refine ⟨h33, ?_⟩
  refine an_o 13 ?_
  obtain ⟨V40, eV40, gl, egl, h41, kV40⟩ := alloc_step V32 (#[.func (.func 96) #[] #[.pointer (some ⟨g1, 0, none⟩)], .func (.func 96) #[] #[.pointer (some ⟨g2, 0, none⟩)], .func (.func 96) #[] #[.pointer (some ⟨g3, 0, none⟩)], .func (.func 96) #[] #[.pointer (some ⟨g4, 0, none⟩)], .func (.func 98) #[] #[.pointer (some ⟨g5, 0, none⟩)]]) 74
  have n42 : ga < gl := egl ▸ lt_of_block h33
  have n43 : g1 < gl := egl ▸ lt_of_block h34
  have n44 : g2 < gl := egl ▸ lt_of_block h35
  have n45 : g3 < gl := egl ▸ lt_of_block h36
  have n46 : g4 < gl := egl ▸ lt_of_block h37
  have n47 : g5 < gl := egl ▸ lt_of_block hg5
  have n48 : w.heap.size ≤ gl := egl ▸ K38.size
  refine on_r (o_vthings 6 13) (.slice (some ⟨gl, 0, none⟩) 5 5) (w' := V40) (by rw [← eV40, ← egl]; kernel_rfl) ?_
  have h49 := kV40.bk h33
  have h50 := kV40.bk h34
  have h51 := kV40.bk h35
  have h52 := kV40.bk h36
  have h53 := kV40.bk h37
  have h54 := kV40.bk hg5
  have K55 := K38.nn kV40
  have z56 := kV40.size
  refine ⟨h49, ?_⟩
  refine an_o 14 ?_
  refine on_r (o_vthings 6 14) (.slice (some ⟨gl, 0, none⟩) 5 5) (w' := V40) (by kernel_rfl) ?_
  refine ⟨h49, ?_⟩
  refine an_end (by kernel_rfl) ?_
  refine then_n ?_
  refine sy_ret (by kernel_rfl) ?_
  refine sy_out (.slice (some ⟨gl, 0, none⟩) 5 5) rfl (by kernel_rfl) ?_
  exact ⟨gl, _, rfl, row_of_block h41 rfl (by decide), (ThsAt.cons ⟨g1, rfl, h50⟩ (ThsAt.cons ⟨g2, rfl, h51⟩ (ThsAt.cons ⟨g3, rfl, h52⟩ (ThsAt.cons ⟨g4, rfl, h53⟩ (ThsAt.cons ⟨g5, rfl, h54⟩ (ThsAt.nil _)))))), NewFrom.ptr (by omega) _ _, K55⟩
noncomputable def part_vthingsBlock (n : Nat) : Code := partOf Try.f59 n
noncomputable abbrev o_vthingsBlock (n k : Nat) : Oper := (opsAt (part_vthingsBlock n)).getD k default
set_option maxRecDepth 100000 in
set_option maxHeartbeats 4000000 in
theorem vthingsBlock_ok (a : Pro) (w : World) (hr : a.r.length = 32) :
    Calls Try.prog 59 #[.agg (Pro.c a)] w (fun e w' => ∃ gl vs, e = .returned (.slice (some ⟨gl, 0, none⟩) 4 4) ∧ Row w' 74 1 (.slice (some ⟨gl, 0, none⟩) 4 4) 4 vs ∧ ThsAt w' vs (proT a) ∧ NewFrom w.heap.size (.slice (some ⟨gl, 0, none⟩) 4 4) ∧ Keeps Nob w w') := by
  have K0 : Keeps Nob w w := Keeps.refl _ _
  refine sy_enter (part_vthingsBlock 1) ⟨#[.agg (Pro.c a), undef, undef, undef, undef, undef, undef, undef, undef, undef, undef, undef, undef, undef], []⟩ Try.func59 (by kernel_rfl) (by kernel_rfl) ?_
  refine sy_sq (part_vthingsBlock 2) (part_vthingsBlock 3) ?_
  refine sy_reg ?_
  refine rg_plain 0 (opsAt (part_vthingsBlock 2)) [0, 1] (by kernel_rfl) (by kernel_rfl) ?_
  obtain ⟨V1, eV1, ga, ega, h2, kV1⟩ := alloc_step w ((Pro.c a)) 36
  have n3 : w.heap.size ≤ ga := ega ▸ K0.size
  refine ps_r (o_vthingsBlock 2 0) (pT ga 0) (w' := V1) (by rw [← eV1, ← ega]; exact exec_box 36 (.tmp 0) (by kernel_rfl) (.agg (Pro.c a)) (by kernel_rfl)) ?_
  clear eV1
  have K4 := K0.nn kV1
  have z5 := kV1.size
  refine ps_k (o_vthingsBlock 2 1) (.slice none 0 0) ?_
  refine ps_end ?_
  refine then_n ?_
  refine sy_sq (part_vthingsBlock 6) (part_vthingsBlock 7) ?_
  refine sy_np ?_
  refine sy_reg ?_
  refine an_begin 1 12 (opsAt (part_vthingsBlock 6)) (fun W => (W.heap[ga]? = some (.cells (Pro.c a) 36 (0, 0)))) #[false, false, false, false, false, false, false, false, false, false, false, false] (by kernel_rfl) (by kernel_rfl) (by kernel_rfl) (by kernel_rfl) ?_
  obtain ⟨V6, eV6, kV6⟩ := drew_step V1
  rw [eV6]
  clear eV6
  have h7 := kV6.bk h2
  have K8 := K4.nn kV6
  have z9 := kV6.size
  refine an_k 1 (o_vthingsBlock 6 1) (pT ga 0) h7 ?_
  refine an_v 2 (o_vthingsBlock 6 2) (.int .i64 a.v) (fun W hS => exec_ld 3 (.tmp 4) ga 0 Try.underlying3 (rc (hS) (Pro.c_0 _))) h7 ?_
  refine an_k 4 (o_vthingsBlock 6 4) (pT ga 1) h7 ?_
  refine an_v 5 (o_vthingsBlock 6 5) (.int .i64 a.h) (fun W hS => exec_ld 3 (.tmp 7) ga 1 Try.underlying3 (rc (hS) (Pro.c_1 _))) h7 ?_
  refine an_k 7 (o_vthingsBlock 6 7) (pT ga 2) h7 ?_
  refine an_v 8 (o_vthingsBlock 6 8) (.agg (B a.r).toArray) (fun W hS => exec_load_seg 26 (.tmp 10) (by kernel_rfl) ga 2 (by kernel_rfl) (B a.r) _ _ _ hS (Pro.c_seg _) Try.underlying26 rfl (by rw [B_length, hr]; kernel_rfl)) h7 ?_
  refine an_o 0 ?_
  refine on_c (o_vthingsBlock 6 0) 83 #[.int .i64 2] Try.func83 ((vnum_ok 2 _).mono ?_)
  rintro e V10 ⟨g1, rfl, hg1, ng1, kV10⟩
  refine ⟨_, rfl, ?_⟩
  have h11 := kV10.bk h7
  have K12 := K8.nn kV10
  have z13 := kV10.size
  refine ⟨h11, ?_⟩
  refine an_o 3 ?_
  refine on_c (o_vthingsBlock 6 3) 83 #[.int .i64 a.v] Try.func83 ((vnum_ok a.v _).mono ?_)
  rintro e V14 ⟨g2, rfl, hg2, ng2, kV14⟩
  refine ⟨_, rfl, ?_⟩
  have h15 := kV14.bk h11
  have h16 := kV14.bk hg1
  have K17 := K12.nn kV14
  have z18 := kV14.size
  refine ⟨h15, ?_⟩
  refine an_o 6 ?_
  refine on_c (o_vthingsBlock 6 6) 83 #[.int .i64 a.h] Try.func83 ((vnum_ok a.h _).mono ?_)
  rintro e V19 ⟨g3, rfl, hg3, ng3, kV19⟩
  refine ⟨_, rfl, ?_⟩
  have h20 := kV19.bk h15
  have h21 := kV19.bk h16
  have h22 := kV19.bk hg2
  have K23 := K17.nn kV19
  have z24 := kV19.size
  refine ⟨h20, ?_⟩
  refine an_o 9 ?_
  refine on_c (o_vthingsBlock 6 9) 84 #[.agg (B a.r).toArray] Try.func84 ((vroot_ok a.r _).mono ?_)
  rintro e V25 ⟨g4, rfl, hg4, ng4, kV25⟩
  refine ⟨_, rfl, ?_⟩
  have h26 := kV25.bk h20
  have h27 := kV25.bk h21
  have h28 := kV25.bk h22
  have h29 := kV25.bk hg3
  have K30 := K23.nn kV25
  have z31 := kV25.size
  refine ⟨h26, ?_⟩
  refine an_o 10 ?_
  obtain ⟨V32, eV32, gl, egl, h33, kV32⟩ := alloc_step V25 (#[.func (.func 96) #[] #[.pointer (some ⟨g1, 0, none⟩)], .func (.func 96) #[] #[.pointer (some ⟨g2, 0, none⟩)], .func (.func 96) #[] #[.pointer (some ⟨g3, 0, none⟩)], .func (.func 98) #[] #[.pointer (some ⟨g4, 0, none⟩)]]) 74
  have n34 : ga < gl := egl ▸ lt_of_block h26
  have n35 : g1 < gl := egl ▸ lt_of_block h27
  have n36 : g2 < gl := egl ▸ lt_of_block h28
  have n37 : g3 < gl := egl ▸ lt_of_block h29
  have n38 : g4 < gl := egl ▸ lt_of_block hg4
  have n39 : w.heap.size ≤ gl := egl ▸ K30.size
  refine on_r (o_vthingsBlock 6 10) (.slice (some ⟨gl, 0, none⟩) 4 4) (w' := V32) (by rw [← eV32, ← egl]; kernel_rfl) ?_
  have h40 := kV32.bk h26
  have h41 := kV32.bk h27
  have h42 := kV32.bk h28
  have h43 := kV32.bk h29
  have h44 := kV32.bk hg4
  have K45 := K30.nn kV32
  have z46 := kV32.size
  refine ⟨h40, ?_⟩
  refine an_o 11 ?_
  refine on_r (o_vthingsBlock 6 11) (.slice (some ⟨gl, 0, none⟩) 4 4) (w' := V32) (by kernel_rfl) ?_
  refine ⟨h40, ?_⟩
  refine an_end (by kernel_rfl) ?_
  refine then_n ?_
  refine sy_ret (by kernel_rfl) ?_
  refine sy_out (.slice (some ⟨gl, 0, none⟩) 4 4) rfl (by kernel_rfl) ?_
  exact ⟨gl, _, rfl, row_of_block h33 rfl (by decide), (ThsAt.cons ⟨g1, rfl, h41⟩ (ThsAt.cons ⟨g2, rfl, h42⟩ (ThsAt.cons ⟨g3, rfl, h43⟩ (ThsAt.cons ⟨g4, rfl, h44⟩ (ThsAt.nil _))))), NewFrom.ptr (by omega) _ _, K45⟩
theorem vCheck_is (a : Att) {x : Int} (w : World) (hr : a.r.length = 32) (hx : a.err = x) : Calls Try.prog 21 #[.agg (Att.c a)] w fun e w' => e = .returned (.int .i64 x) ∧ Keeps Nob w w' := by
  subst hx; exact vCheck_ok a w hr
noncomputable def part_vBytes (n : Nat) : Code := partOf Try.f16 n
noncomputable abbrev o_vBytes (n k : Nat) : Oper := (opsAt (part_vBytes n)).getD k default
set_option maxRecDepth 100000 in
set_option maxHeartbeats 4000000 in
theorem vBytes_bad (a : Att) (w : World) (ha : a.Ok) (hf : ¬ a.fine) :
    Calls Try.prog 16 #[.agg (Att.c a)] w (fun e w' => e = .returned (.tuple #[.slice none 0 0, .int .i64 3]) ∧ Keeps Nob w w') := by
  have hr := ha.r
  have hlen := att_len hr
  obtain ⟨i0, hi0, hz0, hz1, hz2⟩ := info_parts thing_info
  have K0 : Keeps Nob w w := Keeps.refl _ _
  refine sy_enter (part_vBytes 1) ⟨#[.agg (Att.c a), undef, undef, undef, undef, undef, undef, undef, undef, undef, undef, undef, undef, undef, undef, undef], []⟩ Try.func16 (by kernel_rfl) (by kernel_rfl) ?_
  refine sy_sq (part_vBytes 2) (part_vBytes 3) ?_
  refine sy_reg ?_
  refine rg_plain 0 (opsAt (part_vBytes 2)) [0, 1, 2] (by kernel_rfl) (by kernel_rfl) ?_
  obtain ⟨V1, eV1, ga, ega, h2, kV1⟩ := alloc_step w ((Att.c a)) 29
  have n3 : w.heap.size ≤ ga := ega ▸ K0.size
  refine ps_r (o_vBytes 2 0) (pT ga 0) (w' := V1) (by rw [← eV1, ← ega]; exact exec_box 29 (.tmp 0) (by kernel_rfl) (.agg (Att.c a)) (by kernel_rfl)) ?_
  clear eV1
  have K4 := K0.nn kV1
  have z5 := kV1.size
  refine ps_k (o_vBytes 2 1) (.slice none 0 0) ?_
  refine ps_k (o_vBytes 2 2) (.int .i64 0) ?_
  refine ps_end ?_
  refine then_n ?_
  refine sy_sq (part_vBytes 6) (part_vBytes 7) ?_
  refine sy_np ?_
  refine sy_reg ?_
  refine an_begin 1 14 (opsAt (part_vBytes 6)) (fun W => (W.heap[ga]? = some (.cells (Att.c a) 29 (0, 0)))) #[false, false, false, false, false, false, false, false, false, false, false, false, false, false] (by kernel_rfl) (by kernel_rfl) (by kernel_rfl) (by kernel_rfl) ?_
  obtain ⟨V6, eV6, kV6⟩ := drew_step V1
  rw [eV6]
  clear eV6
  have h7 := kV6.bk h2
  have K8 := K4.nn kV6
  have z9 := kV6.size
  refine an_v 0 (o_vBytes 6 0) (.agg (Att.c a)) (fun W hS => exec_load_row 29 (.tmp 1) (by kernel_rfl) ga (by kernel_rfl) _ _ (0, 0) _ (hS) Try.underlying29 rfl (by rw [Att.c_size _ hr]; kernel_rfl)) h7 ?_
  refine an_v 2 (o_vBytes 6 2) (.agg (Att.c a)) (fun W hS => exec_load_row 29 (.tmp 1) (by kernel_rfl) ga (by kernel_rfl) _ _ (0, 0) _ (hS) Try.underlying29 rfl (by rw [Att.c_size _ hr]; kernel_rfl)) h7 ?_
  refine an_k 4 (o_vBytes 6 4) (pT ga 35) h7 ?_
  refine an_v 5 (o_vBytes 6 5) (uN a.g) (fun W hS => exec_ld 27 (.tmp 8) ga 35 Try.underlying27 (rc (hS) (Att.c_tag _ hr))) h7 ?_
  refine an_o 1 ?_
  refine on_c (o_vBytes 6 1) 21 #[.agg (Att.c a)] Try.func21 ((vCheck_is a _ hr (Att.err_no hf)).mono ?_)
  rintro e V10 ⟨rfl, kV10⟩
  refine ⟨_, rfl, ?_⟩
  have h11 := kV10.bk h7
  have K12 := K8.nn kV10
  have z13 := kV10.size
  refine ⟨h11, ?_⟩
  refine an_o 3 ?_
  refine on_c (o_vBytes 6 3) 55 #[.agg (Att.c a)] Try.func55 ((vthings_ok a _ hr).mono ?_)
  rintro e V14 ⟨gl, vs, rfl, hrow, hths, hnl, kV14⟩
  have hnl2 : NewFrom (ga + 1) (.slice (some ⟨gl, 0, none⟩) 5 5) := fun j hj => by have := hnl j hj; have := lt_of_block h11; omega
  refine ⟨_, rfl, ?_⟩
  have h15 := kV14.bk h11
  have K16 := K12.nn kV14
  have z17 := kV14.size
  refine ⟨h15, ?_⟩
  refine an_o 6 ?_
  refine on_c (o_vBytes 6 6) 56 #[uN a.g] Try.func56 ((vtag_ok a.g _).mono ?_)
  rintro e V18 ⟨gt, rfl, hgt, ngt, kV18⟩
  refine ⟨_, rfl, ?_⟩
  have h19 := kV18.bk h15
  have h20 : Row V18 74 1 (.slice (some ⟨gl, 0, none⟩) 5 5) 5 vs := hrow.keeps kV18 (fun _ _ x => x)
  have h21 : ThsAt V18 vs (attT a) := hths.keepsN kV18
  have K22 := K16.nn kV18
  have z23 := kV18.size
  refine ⟨h19, ?_⟩
  refine an_o 7 ?_
  obtain ⟨V24, eV24, gs, egs, h25, kV24⟩ := alloc_step V18 (#[.func (.func 85) #[] #[.pointer (some ⟨gt, 0, none⟩)]]) 74
  have n26 : ga < gs := egs ▸ lt_of_block h19
  have n27 : gt < gs := egs ▸ lt_of_block hgt
  have n28 : w.heap.size ≤ gs := egs ▸ K22.size
  refine on_r (o_vBytes 6 7) (.slice (some ⟨gs, 0, none⟩) 1 1) (w' := V24) (by rw [← eV24, ← egs]; kernel_rfl) ?_
  have h29 := kV24.bk h19
  have h30 : Row V24 74 1 (.slice (some ⟨gl, 0, none⟩) 5 5) 5 vs := h20.keeps kV24 (fun _ _ x => x)
  have h31 : ThsAt V24 vs (attT a) := h21.keepsN kV24
  have h32 : V24.heap[gt]? = some (.cells (#[.int .u64 ((a.g : Nat) : Int)]) 27 (0, 0)) := (kV24.block gt (lt_of_block hgt) (fun x => x)).trans hgt
  have K33 := K22.nn kV24
  have z34 := kV24.size
  refine ⟨h29, ?_⟩
  refine an_o 8 ?_
  obtain ⟨v35, V36, hr37, h38, hg39, hn40, ha41⟩ := run_append_any (P := Try.prog) (w := V24) 71 (Oper.type (o_vBytes 6 8)) 74 i0 .nilFunc 1 8 Try.underlying71 hi0 hz0 hz1 hz2 rfl (by decide) (.slice (some ⟨gl, 0, none⟩) 5 5) 5 vs h30 (.slice (some ⟨gs, 0, none⟩) 1 1) 1 ([.func (.func 85) #[] #[.pointer (some ⟨gt, 0, none⟩)]]) (src_block h25 1 1 rfl (by kernel_rfl)) (by unfold maxLen; omega) (by omega)
  have kV36 : Keeps (fun j => (.slice (some ⟨gl, 0, none⟩) 5 5 : Value).ownBlock = some j) V24 V36 := Keeps.rowAdd hg39
  have hw42 : NewFrom (ga + 1) v35 := hnl2.next (lt_of_block h29) ha41
  refine on_r (o_vBytes 6 8) v35 (w' := V36) (exec_append (.tmp 7) (.tmp 11) 71 (by kernel_rfl) (.slice (some ⟨gl, 0, none⟩) 5 5) (.slice (some ⟨gs, 0, none⟩) 1 1) (by kernel_rfl) (by kernel_rfl) hr37) ?_
  have h43 : Row V36 74 1 v35 6 (vs ++ [.func (.func 85) #[] #[.pointer (some ⟨gt, 0, none⟩)]]) := h38
  have h44 : V36.heap[ga]? = some (.cells (Att.c a) 29 (0, 0)) := (kV36.block ga (lt_of_block h29) (fun e => by have := hnl2 _ e; omega)).trans h29
  have h45 : ThsAt V36 vs (attT a) := h31.keepsRow kV36 h30
  have h46 : V36.heap[gt]? = some (.cells (#[.int .u64 ((a.g : Nat) : Int)]) 27 (0, 0)) := (kV36.block gt (lt_of_block h32) (fun e => Row.ne h30 h32 (by decide) e)).trans h32
  have K47 : Keeps Nob w V36 := K33.then kV36 (fun i hi hm => absurd hi (by have := hnl2 i hm; omega))
  have z48 := kV36.size
  refine ⟨h44, ?_⟩
  refine an_o 9 ?_
  refine on_c (o_vBytes 6 9) 54 #[.int .i64 3, v35] Try.func54 ((vwritten_bad 3 _ _ (by decide)).mono ?_)
  rintro e w1 ⟨rfl, rfl⟩
  refine ⟨_, rfl, ?_⟩
  refine ⟨h44, ?_⟩
  refine an_k 10 (o_vBytes 6 10) (.slice none 0 0) h44 ?_
  refine an_k 11 (o_vBytes 6 11) (.int .i64 3) h44 ?_
  refine an_o 12 ?_
  refine on_r (o_vBytes 6 12) (.slice none 0 0) (w' := V36) (by kernel_rfl) ?_
  refine ⟨h44, ?_⟩
  refine an_o 13 ?_
  refine on_r (o_vBytes 6 13) (.int .i64 3) (w' := V36) (by kernel_rfl) ?_
  refine ⟨h44, ?_⟩
  refine an_end (by kernel_rfl) ?_
  refine then_n ?_
  refine sy_ret (by kernel_rfl) ?_
  refine sy_out (.tuple #[.slice none 0 0, .int .i64 3]) rfl (by kernel_rfl) ?_
  exact ⟨rfl, K47⟩
set_option maxRecDepth 100000 in
set_option maxHeartbeats 4000000 in
theorem vBytes_ok (a : Att) (w : World) (ha : a.Ok) (hf : a.fine) :
    Calls Try.prog 16 #[.agg (Att.c a)] w (fun e w' => ∃ X, e = .returned (.tuple #[X, .int .i64 0]) ∧ Row w' 5 1 X a.bytes.length (B a.bytes) ∧ NewFrom w.heap.size X ∧ Keeps Nob w w') := by
  have hr := ha.r
  have hlen := att_len hr
  obtain ⟨i0, hi0, hz0, hz1, hz2⟩ := info_parts thing_info
  have K0 : Keeps Nob w w := Keeps.refl _ _
  refine sy_enter (part_vBytes 1) ⟨#[.agg (Att.c a), undef, undef, undef, undef, undef, undef, undef, undef, undef, undef, undef, undef, undef, undef, undef], []⟩ Try.func16 (by kernel_rfl) (by kernel_rfl) ?_
  refine sy_sq (part_vBytes 2) (part_vBytes 3) ?_
  refine sy_reg ?_
  refine rg_plain 0 (opsAt (part_vBytes 2)) [0, 1, 2] (by kernel_rfl) (by kernel_rfl) ?_
  obtain ⟨V1, eV1, ga, ega, h2, kV1⟩ := alloc_step w ((Att.c a)) 29
  have n3 : w.heap.size ≤ ga := ega ▸ K0.size
  refine ps_r (o_vBytes 2 0) (pT ga 0) (w' := V1) (by rw [← eV1, ← ega]; exact exec_box 29 (.tmp 0) (by kernel_rfl) (.agg (Att.c a)) (by kernel_rfl)) ?_
  clear eV1
  have K4 := K0.nn kV1
  have z5 := kV1.size
  refine ps_k (o_vBytes 2 1) (.slice none 0 0) ?_
  refine ps_k (o_vBytes 2 2) (.int .i64 0) ?_
  refine ps_end ?_
  refine then_n ?_
  refine sy_sq (part_vBytes 6) (part_vBytes 7) ?_
  refine sy_np ?_
  refine sy_reg ?_
  refine an_begin 1 14 (opsAt (part_vBytes 6)) (fun W => (W.heap[ga]? = some (.cells (Att.c a) 29 (0, 0)))) #[false, false, false, false, false, false, false, false, false, false, false, false, false, false] (by kernel_rfl) (by kernel_rfl) (by kernel_rfl) (by kernel_rfl) ?_
  obtain ⟨V6, eV6, kV6⟩ := drew_step V1
  rw [eV6]
  clear eV6
  have h7 := kV6.bk h2
  have K8 := K4.nn kV6
  have z9 := kV6.size
  refine an_v 0 (o_vBytes 6 0) (.agg (Att.c a)) (fun W hS => exec_load_row 29 (.tmp 1) (by kernel_rfl) ga (by kernel_rfl) _ _ (0, 0) _ (hS) Try.underlying29 rfl (by rw [Att.c_size _ hr]; kernel_rfl)) h7 ?_
  refine an_v 2 (o_vBytes 6 2) (.agg (Att.c a)) (fun W hS => exec_load_row 29 (.tmp 1) (by kernel_rfl) ga (by kernel_rfl) _ _ (0, 0) _ (hS) Try.underlying29 rfl (by rw [Att.c_size _ hr]; kernel_rfl)) h7 ?_
  refine an_k 4 (o_vBytes 6 4) (pT ga 35) h7 ?_
  refine an_v 5 (o_vBytes 6 5) (uN a.g) (fun W hS => exec_ld 27 (.tmp 8) ga 35 Try.underlying27 (rc (hS) (Att.c_tag _ hr))) h7 ?_
  refine an_o 1 ?_
  refine on_c (o_vBytes 6 1) 21 #[.agg (Att.c a)] Try.func21 ((vCheck_is a _ hr (Att.err_ok hf)).mono ?_)
  rintro e V10 ⟨rfl, kV10⟩
  refine ⟨_, rfl, ?_⟩
  have h11 := kV10.bk h7
  have K12 := K8.nn kV10
  have z13 := kV10.size
  refine ⟨h11, ?_⟩
  refine an_o 3 ?_
  refine on_c (o_vBytes 6 3) 55 #[.agg (Att.c a)] Try.func55 ((vthings_ok a _ hr).mono ?_)
  rintro e V14 ⟨gl, vs, rfl, hrow, hths, hnl, kV14⟩
  have hnl2 : NewFrom (ga + 1) (.slice (some ⟨gl, 0, none⟩) 5 5) := fun j hj => by have := hnl j hj; have := lt_of_block h11; omega
  refine ⟨_, rfl, ?_⟩
  have h15 := kV14.bk h11
  have K16 := K12.nn kV14
  have z17 := kV14.size
  refine ⟨h15, ?_⟩
  refine an_o 6 ?_
  refine on_c (o_vBytes 6 6) 56 #[uN a.g] Try.func56 ((vtag_ok a.g _).mono ?_)
  rintro e V18 ⟨gt, rfl, hgt, ngt, kV18⟩
  refine ⟨_, rfl, ?_⟩
  have h19 := kV18.bk h15
  have h20 : Row V18 74 1 (.slice (some ⟨gl, 0, none⟩) 5 5) 5 vs := hrow.keeps kV18 (fun _ _ x => x)
  have h21 : ThsAt V18 vs (attT a) := hths.keepsN kV18
  have K22 := K16.nn kV18
  have z23 := kV18.size
  refine ⟨h19, ?_⟩
  refine an_o 7 ?_
  obtain ⟨V24, eV24, gs, egs, h25, kV24⟩ := alloc_step V18 (#[.func (.func 85) #[] #[.pointer (some ⟨gt, 0, none⟩)]]) 74
  have n26 : ga < gs := egs ▸ lt_of_block h19
  have n27 : gt < gs := egs ▸ lt_of_block hgt
  have n28 : w.heap.size ≤ gs := egs ▸ K22.size
  refine on_r (o_vBytes 6 7) (.slice (some ⟨gs, 0, none⟩) 1 1) (w' := V24) (by rw [← eV24, ← egs]; kernel_rfl) ?_
  have h29 := kV24.bk h19
  have h30 : Row V24 74 1 (.slice (some ⟨gl, 0, none⟩) 5 5) 5 vs := h20.keeps kV24 (fun _ _ x => x)
  have h31 : ThsAt V24 vs (attT a) := h21.keepsN kV24
  have h32 : V24.heap[gt]? = some (.cells (#[.int .u64 ((a.g : Nat) : Int)]) 27 (0, 0)) := (kV24.block gt (lt_of_block hgt) (fun x => x)).trans hgt
  have K33 := K22.nn kV24
  have z34 := kV24.size
  refine ⟨h29, ?_⟩
  refine an_o 8 ?_
  obtain ⟨v35, V36, hr37, h38, hg39, hn40, ha41⟩ := run_append_any (P := Try.prog) (w := V24) 71 (Oper.type (o_vBytes 6 8)) 74 i0 .nilFunc 1 8 Try.underlying71 hi0 hz0 hz1 hz2 rfl (by decide) (.slice (some ⟨gl, 0, none⟩) 5 5) 5 vs h30 (.slice (some ⟨gs, 0, none⟩) 1 1) 1 ([.func (.func 85) #[] #[.pointer (some ⟨gt, 0, none⟩)]]) (src_block h25 1 1 rfl (by kernel_rfl)) (by unfold maxLen; omega) (by omega)
  have kV36 : Keeps (fun j => (.slice (some ⟨gl, 0, none⟩) 5 5 : Value).ownBlock = some j) V24 V36 := Keeps.rowAdd hg39
  have hw42 : NewFrom (ga + 1) v35 := hnl2.next (lt_of_block h29) ha41
  refine on_r (o_vBytes 6 8) v35 (w' := V36) (exec_append (.tmp 7) (.tmp 11) 71 (by kernel_rfl) (.slice (some ⟨gl, 0, none⟩) 5 5) (.slice (some ⟨gs, 0, none⟩) 1 1) (by kernel_rfl) (by kernel_rfl) hr37) ?_
  have h43 : Row V36 74 1 v35 6 (vs ++ [.func (.func 85) #[] #[.pointer (some ⟨gt, 0, none⟩)]]) := h38
  have h44 : V36.heap[ga]? = some (.cells (Att.c a) 29 (0, 0)) := (kV36.block ga (lt_of_block h29) (fun e => by have := hnl2 _ e; omega)).trans h29
  have h45 : ThsAt V36 vs (attT a) := h31.keepsRow kV36 h30
  have h46 : V36.heap[gt]? = some (.cells (#[.int .u64 ((a.g : Nat) : Int)]) 27 (0, 0)) := (kV36.block gt (lt_of_block h32) (fun e => Row.ne h30 h32 (by decide) e)).trans h32
  have K47 : Keeps Nob w V36 := K33.then kV36 (fun i hi hm => absurd hi (by have := hnl2 i hm; omega))
  have z48 := kV36.size
  refine ⟨h44, ?_⟩
  refine an_o 9 ?_
  refine on_c (o_vBytes 6 9) 54 #[.int .i64 0, v35] Try.func54 ((vwritten_ok _ (attT a ++ [.u a.g]) _ _ h43 (ThsAt.snoc h45 (show ThgAt _ _ (.u a.g) from ⟨gt, rfl, h46⟩)) (by simp) (att_okT ha hf) (by have h := hlen.1; unfold Att.bytes at h; omega) (by simp [attT])).mono ?_)
  rintro e V49 ⟨X, rfl, hX, hnX, kV49⟩
  refine ⟨_, rfl, ?_⟩
  have h50 := kV49.bk h44
  have h51 : V49.heap[gt]? = some (.cells (#[.int .u64 ((a.g : Nat) : Int)]) 27 (0, 0)) := (kV49.block gt (lt_of_block h46) (fun x => x)).trans h46
  have K52 := K47.nn kV49
  have z53 := kV49.size
  refine ⟨h50, ?_⟩
  refine an_k 10 (o_vBytes 6 10) (X) h50 ?_
  refine an_k 11 (o_vBytes 6 11) (.int .i64 0) h50 ?_
  refine an_o 12 ?_
  refine on_r (o_vBytes 6 12) (X) (w' := V49) (by kernel_rfl) ?_
  refine ⟨h50, ?_⟩
  refine an_o 13 ?_
  refine on_r (o_vBytes 6 13) (.int .i64 0) (w' := V49) (by kernel_rfl) ?_
  refine ⟨h50, ?_⟩
  refine an_end (by kernel_rfl) ?_
  refine then_n ?_
  refine sy_ret (by kernel_rfl) ?_
  refine sy_out (.tuple #[X, .int .i64 0]) rfl (by kernel_rfl) ?_
  exact ⟨X, rfl, hX, fun j hj => by have := hnX j hj; omega, K52⟩
theorem vCheckBlock_is (a : Pro) {x : Int} (w : World) (hr : a.r.length = 32) (hx : a.err = x) : Calls Try.prog 23 #[.agg (Pro.c a)] w fun e w' => e = .returned (.int .i64 x) ∧ Keeps Nob w w' := by
  subst hx; exact vCheckBlock_ok a w hr
noncomputable def part_vBytesBlock (n : Nat) : Code := partOf Try.f18 n
noncomputable abbrev o_vBytesBlock (n k : Nat) : Oper := (opsAt (part_vBytesBlock n)).getD k default
set_option maxRecDepth 100000 in
set_option maxHeartbeats 4000000 in
theorem vBytesBlock_bad (a : Pro) (w : World) (ha : a.Ok) (hf : ¬ a.fine) :
    Calls Try.prog 18 #[.agg (Pro.c a)] w (fun e w' => e = .returned (.tuple #[.slice none 0 0, .int .i64 3]) ∧ Keeps Nob w w') := by
  have hr := ha.r
  have hlen := pro_len hr
  obtain ⟨i0, hi0, hz0, hz1, hz2⟩ := info_parts thing_info
  have K0 : Keeps Nob w w := Keeps.refl _ _
  refine sy_enter (part_vBytesBlock 1) ⟨#[.agg (Pro.c a), undef, undef, undef, undef, undef, undef, undef, undef, undef, undef, undef, undef, undef, undef, undef], []⟩ Try.func18 (by kernel_rfl) (by kernel_rfl) ?_
  refine sy_sq (part_vBytesBlock 2) (part_vBytesBlock 3) ?_
  refine sy_reg ?_
  refine rg_plain 0 (opsAt (part_vBytesBlock 2)) [0, 1, 2] (by kernel_rfl) (by kernel_rfl) ?_
  obtain ⟨V1, eV1, ga, ega, h2, kV1⟩ := alloc_step w ((Pro.c a)) 36
  have n3 : w.heap.size ≤ ga := ega ▸ K0.size
  refine ps_r (o_vBytesBlock 2 0) (pT ga 0) (w' := V1) (by rw [← eV1, ← ega]; exact exec_box 36 (.tmp 0) (by kernel_rfl) (.agg (Pro.c a)) (by kernel_rfl)) ?_
  clear eV1
  have K4 := K0.nn kV1
  have z5 := kV1.size
  refine ps_k (o_vBytesBlock 2 1) (.slice none 0 0) ?_
  refine ps_k (o_vBytesBlock 2 2) (.int .i64 0) ?_
  refine ps_end ?_
  refine then_n ?_
  refine sy_sq (part_vBytesBlock 6) (part_vBytesBlock 7) ?_
  refine sy_np ?_
  refine sy_reg ?_
  refine an_begin 1 14 (opsAt (part_vBytesBlock 6)) (fun W => (W.heap[ga]? = some (.cells (Pro.c a) 36 (0, 0)))) #[false, false, false, false, false, false, false, false, false, false, false, false, false, false] (by kernel_rfl) (by kernel_rfl) (by kernel_rfl) (by kernel_rfl) ?_
  obtain ⟨V6, eV6, kV6⟩ := drew_step V1
  rw [eV6]
  clear eV6
  have h7 := kV6.bk h2
  have K8 := K4.nn kV6
  have z9 := kV6.size
  refine an_v 0 (o_vBytesBlock 6 0) (.agg (Pro.c a)) (fun W hS => exec_load_row 36 (.tmp 1) (by kernel_rfl) ga (by kernel_rfl) _ _ (0, 0) _ (hS) Try.underlying36 rfl (by rw [Pro.c_size _ hr]; kernel_rfl)) h7 ?_
  refine an_v 2 (o_vBytesBlock 6 2) (.agg (Pro.c a)) (fun W hS => exec_load_row 36 (.tmp 1) (by kernel_rfl) ga (by kernel_rfl) _ _ (0, 0) _ (hS) Try.underlying36 rfl (by rw [Pro.c_size _ hr]; kernel_rfl)) h7 ?_
  refine an_k 4 (o_vBytesBlock 6 4) (pT ga 34) h7 ?_
  refine an_v 5 (o_vBytesBlock 6 5) (uN a.g) (fun W hS => exec_ld 27 (.tmp 8) ga 34 Try.underlying27 (rc (hS) (Pro.c_tag _ hr))) h7 ?_
  refine an_o 1 ?_
  refine on_c (o_vBytesBlock 6 1) 23 #[.agg (Pro.c a)] Try.func23 ((vCheckBlock_is a _ hr (Pro.err_no hf)).mono ?_)
  rintro e V10 ⟨rfl, kV10⟩
  refine ⟨_, rfl, ?_⟩
  have h11 := kV10.bk h7
  have K12 := K8.nn kV10
  have z13 := kV10.size
  refine ⟨h11, ?_⟩
  refine an_o 3 ?_
  refine on_c (o_vBytesBlock 6 3) 59 #[.agg (Pro.c a)] Try.func59 ((vthingsBlock_ok a _ hr).mono ?_)
  rintro e V14 ⟨gl, vs, rfl, hrow, hths, hnl, kV14⟩
  have hnl2 : NewFrom (ga + 1) (.slice (some ⟨gl, 0, none⟩) 4 4) := fun j hj => by have := hnl j hj; have := lt_of_block h11; omega
  refine ⟨_, rfl, ?_⟩
  have h15 := kV14.bk h11
  have K16 := K12.nn kV14
  have z17 := kV14.size
  refine ⟨h15, ?_⟩
  refine an_o 6 ?_
  refine on_c (o_vBytesBlock 6 6) 56 #[uN a.g] Try.func56 ((vtag_ok a.g _).mono ?_)
  rintro e V18 ⟨gt, rfl, hgt, ngt, kV18⟩
  refine ⟨_, rfl, ?_⟩
  have h19 := kV18.bk h15
  have h20 : Row V18 74 1 (.slice (some ⟨gl, 0, none⟩) 4 4) 4 vs := hrow.keeps kV18 (fun _ _ x => x)
  have h21 : ThsAt V18 vs (proT a) := hths.keepsN kV18
  have K22 := K16.nn kV18
  have z23 := kV18.size
  refine ⟨h19, ?_⟩
  refine an_o 7 ?_
  obtain ⟨V24, eV24, gs, egs, h25, kV24⟩ := alloc_step V18 (#[.func (.func 85) #[] #[.pointer (some ⟨gt, 0, none⟩)]]) 74
  have n26 : ga < gs := egs ▸ lt_of_block h19
  have n27 : gt < gs := egs ▸ lt_of_block hgt
  have n28 : w.heap.size ≤ gs := egs ▸ K22.size
  refine on_r (o_vBytesBlock 6 7) (.slice (some ⟨gs, 0, none⟩) 1 1) (w' := V24) (by rw [← eV24, ← egs]; kernel_rfl) ?_
  have h29 := kV24.bk h19
  have h30 : Row V24 74 1 (.slice (some ⟨gl, 0, none⟩) 4 4) 4 vs := h20.keeps kV24 (fun _ _ x => x)
  have h31 : ThsAt V24 vs (proT a) := h21.keepsN kV24
  have h32 : V24.heap[gt]? = some (.cells (#[.int .u64 ((a.g : Nat) : Int)]) 27 (0, 0)) := (kV24.block gt (lt_of_block hgt) (fun x => x)).trans hgt
  have K33 := K22.nn kV24
  have z34 := kV24.size
  refine ⟨h29, ?_⟩
  refine an_o 8 ?_
  obtain ⟨v35, V36, hr37, h38, hg39, hn40, ha41⟩ := run_append_any (P := Try.prog) (w := V24) 71 (Oper.type (o_vBytesBlock 6 8)) 74 i0 .nilFunc 1 8 Try.underlying71 hi0 hz0 hz1 hz2 rfl (by decide) (.slice (some ⟨gl, 0, none⟩) 4 4) 4 vs h30 (.slice (some ⟨gs, 0, none⟩) 1 1) 1 ([.func (.func 85) #[] #[.pointer (some ⟨gt, 0, none⟩)]]) (src_block h25 1 1 rfl (by kernel_rfl)) (by unfold maxLen; omega) (by omega)
  have kV36 : Keeps (fun j => (.slice (some ⟨gl, 0, none⟩) 4 4 : Value).ownBlock = some j) V24 V36 := Keeps.rowAdd hg39
  have hw42 : NewFrom (ga + 1) v35 := hnl2.next (lt_of_block h29) ha41
  refine on_r (o_vBytesBlock 6 8) v35 (w' := V36) (exec_append (.tmp 7) (.tmp 11) 71 (by kernel_rfl) (.slice (some ⟨gl, 0, none⟩) 4 4) (.slice (some ⟨gs, 0, none⟩) 1 1) (by kernel_rfl) (by kernel_rfl) hr37) ?_
  have h43 : Row V36 74 1 v35 5 (vs ++ [.func (.func 85) #[] #[.pointer (some ⟨gt, 0, none⟩)]]) := h38
  have h44 : V36.heap[ga]? = some (.cells (Pro.c a) 36 (0, 0)) := (kV36.block ga (lt_of_block h29) (fun e => by have := hnl2 _ e; omega)).trans h29
  have h45 : ThsAt V36 vs (proT a) := h31.keepsRow kV36 h30
  have h46 : V36.heap[gt]? = some (.cells (#[.int .u64 ((a.g : Nat) : Int)]) 27 (0, 0)) := (kV36.block gt (lt_of_block h32) (fun e => Row.ne h30 h32 (by decide) e)).trans h32
  have K47 : Keeps Nob w V36 := K33.then kV36 (fun i hi hm => absurd hi (by have := hnl2 i hm; omega))
  have z48 := kV36.size
  refine ⟨h44, ?_⟩
  refine an_o 9 ?_
  refine on_c (o_vBytesBlock 6 9) 54 #[.int .i64 3, v35] Try.func54 ((vwritten_bad 3 _ _ (by decide)).mono ?_)
  rintro e w1 ⟨rfl, rfl⟩
  refine ⟨_, rfl, ?_⟩
  refine ⟨h44, ?_⟩
  refine an_k 10 (o_vBytesBlock 6 10) (.slice none 0 0) h44 ?_
  refine an_k 11 (o_vBytesBlock 6 11) (.int .i64 3) h44 ?_
  refine an_o 12 ?_
  refine on_r (o_vBytesBlock 6 12) (.slice none 0 0) (w' := V36) (by kernel_rfl) ?_
  refine ⟨h44, ?_⟩
  refine an_o 13 ?_
  refine on_r (o_vBytesBlock 6 13) (.int .i64 3) (w' := V36) (by kernel_rfl) ?_
  refine ⟨h44, ?_⟩
  refine an_end (by kernel_rfl) ?_
  refine then_n ?_
  refine sy_ret (by kernel_rfl) ?_
  refine sy_out (.tuple #[.slice none 0 0, .int .i64 3]) rfl (by kernel_rfl) ?_
  exact ⟨rfl, K47⟩
set_option maxRecDepth 100000 in
set_option maxHeartbeats 4000000 in
theorem vBytesBlock_ok (a : Pro) (w : World) (ha : a.Ok) (hf : a.fine) :
    Calls Try.prog 18 #[.agg (Pro.c a)] w (fun e w' => ∃ X, e = .returned (.tuple #[X, .int .i64 0]) ∧ Row w' 5 1 X a.bytes.length (B a.bytes) ∧ NewFrom w.heap.size X ∧ Keeps Nob w w') := by
  have hr := ha.r
  have hlen := pro_len hr
  obtain ⟨i0, hi0, hz0, hz1, hz2⟩ := info_parts thing_info
  have K0 : Keeps Nob w w := Keeps.refl _ _
  refine sy_enter (part_vBytesBlock 1) ⟨#[.agg (Pro.c a), undef, undef, undef, undef, undef, undef, undef, undef, undef, undef, undef, undef, undef, undef, undef], []⟩ Try.func18 (by kernel_rfl) (by kernel_rfl) ?_
  refine sy_sq (part_vBytesBlock 2) (part_vBytesBlock 3) ?_
  refine sy_reg ?_
  refine rg_plain 0 (opsAt (part_vBytesBlock 2)) [0, 1, 2] (by kernel_rfl) (by kernel_rfl) ?_
  obtain ⟨V1, eV1, ga, ega, h2, kV1⟩ := alloc_step w ((Pro.c a)) 36
  have n3 : w.heap.size ≤ ga := ega ▸ K0.size
  refine ps_r (o_vBytesBlock 2 0) (pT ga 0) (w' := V1) (by rw [← eV1, ← ega]; exact exec_box 36 (.tmp 0) (by kernel_rfl) (.agg (Pro.c a)) (by kernel_rfl)) ?_
  clear eV1
  have K4 := K0.nn kV1
  have z5 := kV1.size
  refine ps_k (o_vBytesBlock 2 1) (.slice none 0 0) ?_
  refine ps_k (o_vBytesBlock 2 2) (.int .i64 0) ?_
  refine ps_end ?_
  refine then_n ?_
  refine sy_sq (part_vBytesBlock 6) (part_vBytesBlock 7) ?_
  refine sy_np ?_
  refine sy_reg ?_
  refine an_begin 1 14 (opsAt (part_vBytesBlock 6)) (fun W => (W.heap[ga]? = some (.cells (Pro.c a) 36 (0, 0)))) #[false, false, false, false, false, false, false, false, false, false, false, false, false, false] (by kernel_rfl) (by kernel_rfl) (by kernel_rfl) (by kernel_rfl) ?_
  obtain ⟨V6, eV6, kV6⟩ := drew_step V1
  rw [eV6]
  clear eV6
  have h7 := kV6.bk h2
  have K8 := K4.nn kV6
  have z9 := kV6.size
  refine an_v 0 (o_vBytesBlock 6 0) (.agg (Pro.c a)) (fun W hS => exec_load_row 36 (.tmp 1) (by kernel_rfl) ga (by kernel_rfl) _ _ (0, 0) _ (hS) Try.underlying36 rfl (by rw [Pro.c_size _ hr]; kernel_rfl)) h7 ?_
  refine an_v 2 (o_vBytesBlock 6 2) (.agg (Pro.c a)) (fun W hS => exec_load_row 36 (.tmp 1) (by kernel_rfl) ga (by kernel_rfl) _ _ (0, 0) _ (hS) Try.underlying36 rfl (by rw [Pro.c_size _ hr]; kernel_rfl)) h7 ?_
  refine an_k 4 (o_vBytesBlock 6 4) (pT ga 34) h7 ?_
  refine an_v 5 (o_vBytesBlock 6 5) (uN a.g) (fun W hS => exec_ld 27 (.tmp 8) ga 34 Try.underlying27 (rc (hS) (Pro.c_tag _ hr))) h7 ?_
  refine an_o 1 ?_
  refine on_c (o_vBytesBlock 6 1) 23 #[.agg (Pro.c a)] Try.func23 ((vCheckBlock_is a _ hr (Pro.err_ok hf)).mono ?_)
  rintro e V10 ⟨rfl, kV10⟩
  refine ⟨_, rfl, ?_⟩
  have h11 := kV10.bk h7
  have K12 := K8.nn kV10
  have z13 := kV10.size
  refine ⟨h11, ?_⟩
  refine an_o 3 ?_
  refine on_c (o_vBytesBlock 6 3) 59 #[.agg (Pro.c a)] Try.func59 ((vthingsBlock_ok a _ hr).mono ?_)
  rintro e V14 ⟨gl, vs, rfl, hrow, hths, hnl, kV14⟩
  have hnl2 : NewFrom (ga + 1) (.slice (some ⟨gl, 0, none⟩) 4 4) := fun j hj => by have := hnl j hj; have := lt_of_block h11; omega
  refine ⟨_, rfl, ?_⟩
  have h15 := kV14.bk h11
  have K16 := K12.nn kV14
  have z17 := kV14.size
  refine ⟨h15, ?_⟩
  refine an_o 6 ?_
  refine on_c (o_vBytesBlock 6 6) 56 #[uN a.g] Try.func56 ((vtag_ok a.g _).mono ?_)
  rintro e V18 ⟨gt, rfl, hgt, ngt, kV18⟩
  refine ⟨_, rfl, ?_⟩
  have h19 := kV18.bk h15
  have h20 : Row V18 74 1 (.slice (some ⟨gl, 0, none⟩) 4 4) 4 vs := hrow.keeps kV18 (fun _ _ x => x)
  have h21 : ThsAt V18 vs (proT a) := hths.keepsN kV18
  have K22 := K16.nn kV18
  have z23 := kV18.size
  refine ⟨h19, ?_⟩
  refine an_o 7 ?_
  obtain ⟨V24, eV24, gs, egs, h25, kV24⟩ := alloc_step V18 (#[.func (.func 85) #[] #[.pointer (some ⟨gt, 0, none⟩)]]) 74
  have n26 : ga < gs := egs ▸ lt_of_block h19
  have n27 : gt < gs := egs ▸ lt_of_block hgt
  have n28 : w.heap.size ≤ gs := egs ▸ K22.size
  refine on_r (o_vBytesBlock 6 7) (.slice (some ⟨gs, 0, none⟩) 1 1) (w' := V24) (by rw [← eV24, ← egs]; kernel_rfl) ?_
  have h29 := kV24.bk h19
  have h30 : Row V24 74 1 (.slice (some ⟨gl, 0, none⟩) 4 4) 4 vs := h20.keeps kV24 (fun _ _ x => x)
  have h31 : ThsAt V24 vs (proT a) := h21.keepsN kV24
  have h32 : V24.heap[gt]? = some (.cells (#[.int .u64 ((a.g : Nat) : Int)]) 27 (0, 0)) := (kV24.block gt (lt_of_block hgt) (fun x => x)).trans hgt
  have K33 := K22.nn kV24
  have z34 := kV24.size
  refine ⟨h29, ?_⟩
  refine an_o 8 ?_
  obtain ⟨v35, V36, hr37, h38, hg39, hn40, ha41⟩ := run_append_any (P := Try.prog) (w := V24) 71 (Oper.type (o_vBytesBlock 6 8)) 74 i0 .nilFunc 1 8 Try.underlying71 hi0 hz0 hz1 hz2 rfl (by decide) (.slice (some ⟨gl, 0, none⟩) 4 4) 4 vs h30 (.slice (some ⟨gs, 0, none⟩) 1 1) 1 ([.func (.func 85) #[] #[.pointer (some ⟨gt, 0, none⟩)]]) (src_block h25 1 1 rfl (by kernel_rfl)) (by unfold maxLen; omega) (by omega)
  have kV36 : Keeps (fun j => (.slice (some ⟨gl, 0, none⟩) 4 4 : Value).ownBlock = some j) V24 V36 := Keeps.rowAdd hg39
  have hw42 : NewFrom (ga + 1) v35 := hnl2.next (lt_of_block h29) ha41
  refine on_r (o_vBytesBlock 6 8) v35 (w' := V36) (exec_append (.tmp 7) (.tmp 11) 71 (by kernel_rfl) (.slice (some ⟨gl, 0, none⟩) 4 4) (.slice (some ⟨gs, 0, none⟩) 1 1) (by kernel_rfl) (by kernel_rfl) hr37) ?_
  have h43 : Row V36 74 1 v35 5 (vs ++ [.func (.func 85) #[] #[.pointer (some ⟨gt, 0, none⟩)]]) := h38
  have h44 : V36.heap[ga]? = some (.cells (Pro.c a) 36 (0, 0)) := (kV36.block ga (lt_of_block h29) (fun e => by have := hnl2 _ e; omega)).trans h29
  have h45 : ThsAt V36 vs (proT a) := h31.keepsRow kV36 h30
  have h46 : V36.heap[gt]? = some (.cells (#[.int .u64 ((a.g : Nat) : Int)]) 27 (0, 0)) := (kV36.block gt (lt_of_block h32) (fun e => Row.ne h30 h32 (by decide) e)).trans h32
  have K47 : Keeps Nob w V36 := K33.then kV36 (fun i hi hm => absurd hi (by have := hnl2 i hm; omega))
  have z48 := kV36.size
  refine ⟨h44, ?_⟩
  refine an_o 9 ?_
  refine on_c (o_vBytesBlock 6 9) 54 #[.int .i64 0, v35] Try.func54 ((vwritten_ok _ (proT a ++ [.u a.g]) _ _ h43 (ThsAt.snoc h45 (show ThgAt _ _ (.u a.g) from ⟨gt, rfl, h46⟩)) (by simp) (pro_okT ha hf) (by have h := hlen.1; unfold Pro.bytes at h; omega) (by simp [proT])).mono ?_)
  rintro e V49 ⟨X, rfl, hX, hnX, kV49⟩
  refine ⟨_, rfl, ?_⟩
  have h50 := kV49.bk h44
  have h51 : V49.heap[gt]? = some (.cells (#[.int .u64 ((a.g : Nat) : Int)]) 27 (0, 0)) := (kV49.block gt (lt_of_block h46) (fun x => x)).trans h46
  have K52 := K47.nn kV49
  have z53 := kV49.size
  refine ⟨h50, ?_⟩
  refine an_k 10 (o_vBytesBlock 6 10) (X) h50 ?_
  refine an_k 11 (o_vBytesBlock 6 11) (.int .i64 0) h50 ?_
  refine an_o 12 ?_
  refine on_r (o_vBytesBlock 6 12) (X) (w' := V49) (by kernel_rfl) ?_
  refine ⟨h50, ?_⟩
  refine an_o 13 ?_
  refine on_r (o_vBytesBlock 6 13) (.int .i64 0) (w' := V49) (by kernel_rfl) ?_
  refine ⟨h50, ?_⟩
  refine an_end (by kernel_rfl) ?_
  refine then_n ?_
  refine sy_ret (by kernel_rfl) ?_
  refine sy_out (.tuple #[X, .int .i64 0]) rfl (by kernel_rfl) ?_
  exact ⟨X, rfl, hX, fun j hj => by have := hnX j hj; omega, K52⟩
end Go.Proofs.Ytenaakldccjnbaa
