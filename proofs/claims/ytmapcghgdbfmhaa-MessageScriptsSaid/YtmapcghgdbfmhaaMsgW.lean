/-
  Messages: the chapter's examples (printed by msg15.py). Conditions: none.
-/
import Derived.Test.YtmapcghgdbfmhaaMsgO
import Derived.Test.YtmapcghgdbfmhaaMsgU
namespace Go.Proofs.Ytmapcghgdbfmhaa
open Go Go.RowKit Go.Own Go.Shelf
theorem lists_of_block {w : World} {g n : Nat} {us : List Value} {ls : List (List UInt8)} (h : w.heap[g]? = some (.cells us.toArray 22 (0, 0))) (hu : us.length = n) (hn : ls.length = n) (hm : n ≤ maxLen) (hb : ∀ (k : Nat) (u : Value) (l : List UInt8), us[k]? = some u → ls[k]? = some l → BytesAt w u l) : ListsAt w (.slice (some ⟨g, 0, none⟩) n n) us ls :=
  row_lists (row_of_block h (by simpa using hu) hm) hn hb
theorem lists2_of_block {w : World} {g : Nat} {u v : Value} {l m : List UInt8} (h : w.heap[g]? = some (.cells #[u, v] 22 (0, 0))) (hl : BytesAt w u l) (hm : BytesAt w v m) : ListsAt w (.slice (some ⟨g, 0, none⟩) 2 2) [u, v] [l, m] :=
  lists_of_block h rfl rfl (by decide) fun k x y hx hy => by
    match k with
    | 0 => simp at hx hy; subst hx; subst hy; exact hl
    | 1 => simp at hx hy; subst hx; subst hy; exact hm
    | k + 2 => simp at hx
theorem row_form {w : World} {t : TypeId} {v : Value} {n : Nat} {xs : List Value} (h : Row w t 1 v n xs) : ∃ A c, v = .slice A n c := by
  rcases h.2 with ⟨rfl, h0⟩ | ⟨g, cap, cur, rfl, _, _, hn, hc, _⟩
  · exact ⟨none, 0, by rw [h0]⟩
  · exact ⟨_, _, rfl⟩
theorem mPack_is (v : Value) (us : List Value) (ls : List (List UInt8)) (l : List UInt8) (er : Int) (w : World) (h0 : ListsAt w v us ls) (hB : ∀ (k : Nat) (l : List UInt8), ls[k]? = some l → l.length ≤ 9223372036854775807) (hp : packR ls = (l, er)) :
    Calls Try.prog 29 #[v] w (fun e w' => ∃ X, e = .returned (.tuple #[X, .int .i64 er]) ∧ Row w' 5 1 X l.length (B l) ∧ NewFrom w.heap.size X ∧ Keeps Nob w w') := by
  obtain ⟨A, cap, rfl, _⟩ := h0.form
  have := mPack_any A cap us ls w h0 hB
  rw [hp] at this; exact this
theorem mUnpack_is (v0 : Value) (l : List UInt8) (ls : List (List UInt8)) (er at_ : Int) (w : World) (hx : BytesAt w v0 l) (hlm : l.length ≤ 9223372036854775807) (hu : unR l = (ls, (er, at_))) :
    Calls Try.prog 32 #[v0] w (fun e w' => ∃ A cap xs, e = .returned (.tuple #[.slice A ls.length cap, .agg #[.int .i64 er, .int .i64 at_]]) ∧ ListsAt w' (.slice A ls.length cap) xs ls ∧ Keeps Nob w w') := by
  have := mUnpack_any v0 l w hx hlm
  rw [hu] at this
  refine this.mono fun e w' ⟨X, xs, he, hr, hn, hc, ha, k⟩ => ?_
  obtain ⟨A, cap, rfl⟩ := row_form hr
  exact ⟨A, cap, xs, he, hc.lists hr, k⟩
theorem mBytes_len (m : Msg) (n : Nat) (w : World) (hok : m.Ok) (hc : m.chk = 0) (hb : m.by.length = n) : Calls Try.prog 14 #[.agg (Msg.c m)] w (fun e w' => ∃ A c, e = .returned (.tuple #[.slice A n c, .int .i64 0]) ∧ Keeps Nob w w') :=
  (mBytes_is m _ w hok hc rfl).mono fun e w' ⟨X, h1, h2, h3, h4⟩ => by
    obtain ⟨A, c, rfl⟩ := row_form h2
    subst hb; exact ⟨A, c, h1, h4⟩
theorem mCheck_is (m : Msg) (e : Int) (w : World) (hr : m.R) (he : m.chk = e) : Calls Try.prog 17 #[.agg (Msg.c m)] w (fun e' w' => e' = .returned (.int .i64 e) ∧ Keeps Nob w w') := he ▸ mCheck_any m w hr
theorem mActor_is (m : Msg) (a : Int) (b : Bool) (w : World) (hr : m.R) (he : m.who = (a, b)) : Calls Try.prog 20 #[.agg (Msg.c m)] w (fun e' w' => e' = .returned (.tuple #[.int .i64 a, .bool b]) ∧ Keeps Nob w w') := by
  have := mActor_any m w hr
  rwa [he] at this

theorem pk_1 : packR [[10, 2], []] = ([2, 2, 10, 2, 0], 0) := by kernel_rfl
theorem un_1 : unR [2, 2, 10, 2, 0] = ([[10, 2], []], (0, 0)) := by kernel_rfl
theorem un_2 : unR [1, 3, 10, 2] = ([], (6, 1)) := by kernel_rfl
theorem un_3 : unR [] = ([], (6, 0)) := by kernel_rfl
noncomputable def part_lmpacks (n : Nat) : Code := partOf Try.f37 n
noncomputable abbrev o_lmpacks (n k : Nat) : Oper := (opsAt (part_lmpacks n)).getD k default
set_option maxRecDepth 100000 in
set_option maxHeartbeats 4000000 in
theorem lmpacks_ok (w : World) :
    Calls Try.prog 37 #[] w (fun e w' => e = .returned (.bool true) ∧ Keeps Nob w w') := by
  obtain ⟨i0, hi0, hz0, hz1, hz2⟩ := info_parts bytes_info0
  have K0 : Keeps Nob w w := Keeps.refl _ _
  refine sy_enter (part_lmpacks 1) ⟨#[undef, undef, undef, undef, undef, undef, undef, undef, undef, undef, undef, undef, undef, undef, undef, undef, undef, undef, undef, undef, undef, undef, undef, undef, undef, undef, undef, undef, undef, undef, undef, undef, undef, undef, undef, undef, undef, undef, undef, undef, undef, undef, undef, undef, undef, undef, undef, undef, undef, undef, undef, undef, undef, undef, undef, undef, undef, undef, undef, undef, undef, undef, undef, undef, undef, undef, undef, undef, undef, undef, undef], []⟩ Try.func37 (by kernel_rfl) (by kernel_rfl) ?_
  refine sy_sq (part_lmpacks 2) (part_lmpacks 3) ?_
  refine sy_reg ?_
  refine rg_plain 0 (opsAt (part_lmpacks 2)) [0] (by kernel_rfl) (by kernel_rfl) ?_
  refine ps_k (o_lmpacks 2 0) (.bool false) ?_
  refine ps_end ?_
  refine then_n ?_
  refine sy_sq (part_lmpacks 6) (part_lmpacks 7) ?_
  refine sy_reg ?_
  refine rg_plain 1 (opsAt (part_lmpacks 6)) [0, 1, 2, 3, 4, 5, 6, 7, 8] (by kernel_rfl) (by kernel_rfl) ?_
  obtain ⟨V1, eV1, g1, eg1, h2, kV1⟩ := alloc_step w (#[.int .u8 10, .int .u8 2]) 5
  have n3 : w.heap.size ≤ g1 := eg1 ▸ K0.size
  refine ps_r (o_lmpacks 6 0) (.slice (some ⟨g1, 0, none⟩) 2 2) (w' := V1) (by rw [← eV1, ← eg1]; kernel_rfl) ?_
  have K4 := K0.nn kV1
  have z5 := kV1.size
  obtain ⟨V6, eV6, g2, eg2, h7, kV6⟩ := alloc_step V1 #[] 5
  have n8 : g1 < g2 := eg2 ▸ lt_of_block h2
  have n9 : w.heap.size ≤ g2 := eg2 ▸ K4.size
  refine ps_r (o_lmpacks 6 1) (.slice (some ⟨g2, 0, none⟩) 0 0) (w' := V6) (by rw [← eV6, ← eg2]; kernel_rfl) ?_
  have h10 := kV6.bk h2
  have K11 := K4.nn kV6
  have z12 := kV6.size
  obtain ⟨V13, eV13, g3, eg3, h14, kV13⟩ := alloc_step V6 (#[.slice (some ⟨g1, 0, none⟩) 2 2, .slice (some ⟨g2, 0, none⟩) 0 0]) 22
  have n15 : g1 < g3 := eg3 ▸ lt_of_block h10
  have n16 : g2 < g3 := eg3 ▸ lt_of_block h7
  have n17 : w.heap.size ≤ g3 := eg3 ▸ K11.size
  refine ps_r (o_lmpacks 6 2) (.slice (some ⟨g3, 0, none⟩) 2 2) (w' := V13) (by rw [← eV13, ← eg3]; kernel_rfl) ?_
  have h18 := kV13.bk h10
  have h19 := kV13.bk h7
  have K20 := K11.nn kV13
  have z21 := kV13.size
  refine ps_c (o_lmpacks 6 3) 29 #[.slice (some ⟨g3, 0, none⟩) 2 2] Try.func29 ((mPack_is _ _ [[10, 2], []] [2, 2, 10, 2, 0] 0 _ (lists2_of_block h14 (Own.bytes_of_block h18 (by kernel_rfl) rfl (by decide)) (Own.bytes_of_block h19 (by kernel_rfl) rfl (by decide))) (fun k l h => by match k, h with | 0, h => (simp at h; subst h; decide) | 1, h => (simp at h; subst h; decide)) pk_1).mono ?_)
  rintro e V22 ⟨X, rfl, hX, hnX, kV22⟩
  have hlX : ∀ j, X.ownBlock = some j → j < V22.heap.size := fun j hj => hX.lt hj
  refine ⟨_, rfl, ?_⟩
  have h23 := kV22.bk h18
  have h24 := kV22.bk h19
  have h25 := kV22.bk h14
  have K26 := K20.nn kV22
  have z27 := kV22.size
  refine ps_k (o_lmpacks 6 4) (.tuple #[X, .int .i64 0]) ?_
  refine ps_k (o_lmpacks 6 5) (X) ?_
  refine ps_k (o_lmpacks 6 6) (.int .i64 0) ?_
  refine ps_k (o_lmpacks 6 7) (X) ?_
  refine ps_k (o_lmpacks 6 8) (.int .i64 0) ?_
  refine ps_end ?_
  refine then_n ?_
  refine sy_sq (part_lmpacks 14) (part_lmpacks 15) ?_
  refine sy_reg ?_
  refine rg_plain 2 (opsAt (part_lmpacks 14)) [0, 1, 2, 3, 4, 5, 6, 7] (by kernel_rfl) (by kernel_rfl) ?_
  refine ps_k (o_lmpacks 14 0) (X) ?_
  refine ps_c (o_lmpacks 14 1) 32 #[X] Try.func32 ((mUnpack_is _ _ _ 0 0 _ (Row.bytes hX) (by decide) un_1).mono ?_)
  rintro e V28 ⟨A1, c1, xs1, rfl, hL1, kV28⟩
  obtain ⟨up, lp, b_p, o_p, c_p, hup, hlp, hvp⟩ := hL1.open_ 0 (by decide)
  obtain ⟨uq, lq, b_q, o_q, c_q, huq, hlq, hvq⟩ := hL1.open_ 1 (by decide)
  have elp : lp = [10, 2] := (Option.some.inj hlp).symm
  have elq : lq.length = 0 := by rw [(Option.some.inj hlq).symm]; rfl
  refine ⟨_, rfl, ?_⟩
  have h29 := kV28.bk h23
  have h30 := kV28.bk h24
  have h31 := kV28.bk h25
  have h32 : Row V28 5 1 X 5 (B [2, 2, 10, 2, 0]) := hX.keeps kV28 (fun _ _ x => x)
  have K33 := K26.nn kV28
  have z34 := kV28.size
  refine ps_k (o_lmpacks 14 2) (.tuple #[.slice A1 2 c1, .agg #[.int .i64 0, .int .i64 0]]) ?_
  refine ps_k (o_lmpacks 14 3) (.slice A1 2 c1) ?_
  refine ps_k (o_lmpacks 14 4) (.agg #[.int .i64 0, .int .i64 0]) ?_
  obtain ⟨V35, eV35, f1, ef1, h36, kV35⟩ := alloc_step V28 (#[.int .i64 0, .int .i64 0]) 38
  have n37 : g1 < f1 := ef1 ▸ lt_of_block h29
  have n38 : g2 < f1 := ef1 ▸ lt_of_block h30
  have n39 : g3 < f1 := ef1 ▸ lt_of_block h31
  have n40 : w.heap.size ≤ f1 := ef1 ▸ K33.size
  refine ps_r (o_lmpacks 14 5) (pT f1 0) (w' := V35) (by rw [← eV35, ← ef1]; exact exec_alloc0 38 (by kernel_rfl) (.agg (#[.int .i64 0, .int .i64 0])) (by kernel_rfl)) ?_
  clear eV35
  have h41 := kV35.bk h29
  have h42 := kV35.bk h30
  have h43 := kV35.bk h31
  have h44 : Row V35 5 1 X 5 (B [2, 2, 10, 2, 0]) := h32.keeps kV35 (fun _ _ x => x)
  have h45 : ListsAt V35 (.slice A1 2 c1) xs1 ([[10, 2], []]) := hL1.keepsN kV35
  have K46 := K33.nn kV35
  have z47 := kV35.size
  refine ps_k (o_lmpacks 14 6) (.slice A1 2 c1) ?_
  obtain ⟨V48, eV48, kV48⟩ := rowset_step V35 f1 (#[.int .i64 0, .int .i64 0])
  have h49 : V48.heap[f1]? = some (.cells (#[.int .i64 0, .int .i64 0]) 38 (0, 0)) := eV48 ▸ setRow_heap _ _ _ _ _ _ h36
  refine ps_s (o_lmpacks 14 7) (w' := V48) (by rw [← eV48]; exact exec_store_row 38 (.tmp 4) (.tmp 20) (by kernel_rfl) f1 (#[.int .i64 0, .int .i64 0]) (by kernel_rfl) (by kernel_rfl) 38 (#[.int .i64 0, .int .i64 0]) h36 (by kernel_rfl) rfl (by kernel_rfl)) ?_
  clear eV48
  have h50 := kV48.bo h41 (by omega)
  have h51 := kV48.bo h42 (by omega)
  have h52 := kV48.bo h43 (by omega)
  have h53 : Row V48 5 1 X 5 (B [2, 2, 10, 2, 0]) := h44.keeps kV48 (fun j hj e => by have := hlX j hj; unfold Own.One at e; omega)
  have h54 : ListsAt V48 (.slice A1 2 c1) xs1 ([[10, 2], []]) := ListsAt.keepsB hL1 h45 kV48 (fun j hj e => by first | exact e.elim | (unfold Own.One at e; omega) | omega)
  have K55 := K46.no kV48 (by omega)
  have z56 := kV48.size
  refine ps_end ?_
  refine then_n ?_
  refine sy_sq (part_lmpacks 30) (part_lmpacks 31) ?_
  refine sy_reg ?_
  refine rg_plain 3 (opsAt (part_lmpacks 30)) [0, 1, 2, 3, 4, 5, 6, 7] (by kernel_rfl) (by kernel_rfl) ?_
  obtain ⟨V57, eV57, g4, eg4, h58, kV57⟩ := alloc_step V48 (#[.int .u8 1, .int .u8 3, .int .u8 10, .int .u8 2]) 5
  have n59 : g1 < g4 := eg4 ▸ lt_of_block h50
  have n60 : g2 < g4 := eg4 ▸ lt_of_block h51
  have n61 : g3 < g4 := eg4 ▸ lt_of_block h52
  have n62 : f1 < g4 := eg4 ▸ lt_of_block h49
  have n63 : w.heap.size ≤ g4 := eg4 ▸ K55.size
  refine ps_r (o_lmpacks 30 0) (.slice (some ⟨g4, 0, none⟩) 4 4) (w' := V57) (by rw [← eV57, ← eg4]; kernel_rfl) ?_
  have h64 := kV57.bk h50
  have h65 := kV57.bk h51
  have h66 := kV57.bk h52
  have h67 : Row V57 5 1 X 5 (B [2, 2, 10, 2, 0]) := h53.keeps kV57 (fun _ _ x => x)
  have h68 : ListsAt V57 (.slice A1 2 c1) xs1 ([[10, 2], []]) := h54.keepsN kV57
  have h69 := kV57.bk h49
  have K70 := K55.nn kV57
  have z71 := kV57.size
  refine ps_c (o_lmpacks 30 1) 32 #[.slice (some ⟨g4, 0, none⟩) 4 4] Try.func32 ((mUnpack_is _ _ _ 6 1 _ (Own.bytes_of_block h58 (by kernel_rfl) rfl (by decide)) (by decide) un_2).mono ?_)
  rintro e V72 ⟨A2, c2, xs2, rfl, -, kV72⟩
  refine ⟨_, rfl, ?_⟩
  have h73 := kV72.bk h64
  have h74 := kV72.bk h65
  have h75 := kV72.bk h66
  have h76 : Row V72 5 1 X 5 (B [2, 2, 10, 2, 0]) := h67.keeps kV72 (fun _ _ x => x)
  have h77 : ListsAt V72 (.slice A1 2 c1) xs1 ([[10, 2], []]) := h68.keepsN kV72
  have h78 := kV72.bk h69
  have h79 := kV72.bk h58
  have K80 := K70.nn kV72
  have z81 := kV72.size
  refine ps_k (o_lmpacks 30 2) (.tuple #[.slice A2 0 c2, .agg #[.int .i64 6, .int .i64 1]]) ?_
  refine ps_k (o_lmpacks 30 3) (.slice A2 0 c2) ?_
  refine ps_k (o_lmpacks 30 4) (.agg #[.int .i64 6, .int .i64 1]) ?_
  obtain ⟨V82, eV82, f2, ef2, h83, kV82⟩ := alloc_step V72 (#[.int .i64 0, .int .i64 0]) 38
  have n84 : g1 < f2 := ef2 ▸ lt_of_block h73
  have n85 : g2 < f2 := ef2 ▸ lt_of_block h74
  have n86 : g3 < f2 := ef2 ▸ lt_of_block h75
  have n87 : f1 < f2 := ef2 ▸ lt_of_block h78
  have n88 : g4 < f2 := ef2 ▸ lt_of_block h79
  have n89 : w.heap.size ≤ f2 := ef2 ▸ K80.size
  refine ps_r (o_lmpacks 30 5) (pT f2 0) (w' := V82) (by rw [← eV82, ← ef2]; exact exec_alloc0 38 (by kernel_rfl) (.agg (#[.int .i64 0, .int .i64 0])) (by kernel_rfl)) ?_
  clear eV82
  have h90 := kV82.bk h73
  have h91 := kV82.bk h74
  have h92 := kV82.bk h75
  have h93 : Row V82 5 1 X 5 (B [2, 2, 10, 2, 0]) := h76.keeps kV82 (fun _ _ x => x)
  have h94 : ListsAt V82 (.slice A1 2 c1) xs1 ([[10, 2], []]) := h77.keepsN kV82
  have h95 := kV82.bk h78
  have h96 := kV82.bk h79
  have K97 := K80.nn kV82
  have z98 := kV82.size
  refine ps_k (o_lmpacks 30 6) (.slice A2 0 c2) ?_
  obtain ⟨V99, eV99, kV99⟩ := rowset_step V82 f2 (#[.int .i64 6, .int .i64 1])
  have h100 : V99.heap[f2]? = some (.cells (#[.int .i64 6, .int .i64 1]) 38 (0, 0)) := eV99 ▸ setRow_heap _ _ _ _ _ _ h83
  refine ps_s (o_lmpacks 30 7) (w' := V99) (by rw [← eV99]; exact exec_store_row 38 (.tmp 6) (.tmp 25) (by kernel_rfl) f2 (#[.int .i64 6, .int .i64 1]) (by kernel_rfl) (by kernel_rfl) 38 (#[.int .i64 0, .int .i64 0]) h83 (by kernel_rfl) rfl (by kernel_rfl)) ?_
  clear eV99
  have h101 := kV99.bo h90 (by omega)
  have h102 := kV99.bo h91 (by omega)
  have h103 := kV99.bo h92 (by omega)
  have h104 : Row V99 5 1 X 5 (B [2, 2, 10, 2, 0]) := h93.keeps kV99 (fun j hj e => by have := hlX j hj; unfold Own.One at e; omega)
  have h105 : ListsAt V99 (.slice A1 2 c1) xs1 ([[10, 2], []]) := ListsAt.keepsB hL1 h94 kV99 (fun j hj e => by first | exact e.elim | (unfold Own.One at e; omega) | omega)
  have h106 := kV99.bo h95 (by omega)
  have h107 := kV99.bo h96 (by omega)
  have K108 := K97.no kV99 (by omega)
  have z109 := kV99.size
  refine ps_end ?_
  refine sy_a ⟨#[.bool false, X, .int .i64 0, .slice A1 2 c1, pT f1 0, .slice A2 0 c2, pT f2 0, undef, undef, .tuple #[X, .int .i64 0], .slice (some ⟨g1, 0, none⟩) 2 2, .slice (some ⟨g2, 0, none⟩) 0 0, .slice (some ⟨g3, 0, none⟩) 2 2, .tuple #[X, .int .i64 0], X, .int .i64 0, .tuple #[.slice A1 2 c1, .agg #[.int .i64 0, .int .i64 0]], X, .tuple #[.slice A1 2 c1, .agg #[.int .i64 0, .int .i64 0]], .slice A1 2 c1, .agg #[.int .i64 0, .int .i64 0], .tuple #[.slice A2 0 c2, .agg #[.int .i64 6, .int .i64 1]], .slice (some ⟨g4, 0, none⟩) 4 4, .tuple #[.slice A2 0 c2, .agg #[.int .i64 6, .int .i64 1]], .slice A2 0 c2, .agg #[.int .i64 6, .int .i64 1], undef, undef, undef, undef, undef, undef, undef, undef, undef, undef, undef, undef, undef, undef, undef, undef, undef, undef, undef, undef, undef, undef, undef, undef, undef, undef, undef, undef, undef, undef, undef, undef, undef, undef, undef, undef, undef, undef, undef, undef, undef, undef, undef, undef, undef], []⟩ ?_
  refine then_n ?_
  refine sy_sq (part_lmpacks 62) (part_lmpacks 63) ?_
  refine sy_reg ?_
  refine rg_plain 4 (opsAt (part_lmpacks 62)) [0, 1, 2, 3, 4, 5, 6] (by kernel_rfl) (by kernel_rfl) ?_
  refine ps_c (o_lmpacks 62 0) 32 #[.slice none 0 0] Try.func32 ((mUnpack_is _ _ _ 6 0 _ (BytesAt.nil _) (by decide) un_3).mono ?_)
  rintro e V110 ⟨A3, c3, xs3, rfl, -, kV110⟩
  refine ⟨_, rfl, ?_⟩
  have h111 := kV110.bk h101
  have h112 := kV110.bk h102
  have h113 := kV110.bk h103
  have h114 : Row V110 5 1 X 5 (B [2, 2, 10, 2, 0]) := h104.keeps kV110 (fun _ _ x => x)
  have h115 : ListsAt V110 (.slice A1 2 c1) xs1 ([[10, 2], []]) := h105.keepsN kV110
  have h116 := kV110.bk h106
  have h117 := kV110.bk h107
  have h118 := kV110.bk h100
  have K119 := K108.nn kV110
  have z120 := kV110.size
  refine ps_k (o_lmpacks 62 1) (.tuple #[.slice A3 0 c3, .agg #[.int .i64 6, .int .i64 0]]) ?_
  refine ps_k (o_lmpacks 62 2) (.slice A3 0 c3) ?_
  refine ps_k (o_lmpacks 62 3) (.agg #[.int .i64 6, .int .i64 0]) ?_
  obtain ⟨V121, eV121, f3, ef3, h122, kV121⟩ := alloc_step V110 (#[.int .i64 0, .int .i64 0]) 38
  have n123 : g1 < f3 := ef3 ▸ lt_of_block h111
  have n124 : g2 < f3 := ef3 ▸ lt_of_block h112
  have n125 : g3 < f3 := ef3 ▸ lt_of_block h113
  have n126 : f1 < f3 := ef3 ▸ lt_of_block h116
  have n127 : g4 < f3 := ef3 ▸ lt_of_block h117
  have n128 : f2 < f3 := ef3 ▸ lt_of_block h118
  have n129 : w.heap.size ≤ f3 := ef3 ▸ K119.size
  refine ps_r (o_lmpacks 62 4) (pT f3 0) (w' := V121) (by rw [← eV121, ← ef3]; exact exec_alloc0 38 (by kernel_rfl) (.agg (#[.int .i64 0, .int .i64 0])) (by kernel_rfl)) ?_
  clear eV121
  have h130 := kV121.bk h111
  have h131 := kV121.bk h112
  have h132 := kV121.bk h113
  have h133 : Row V121 5 1 X 5 (B [2, 2, 10, 2, 0]) := h114.keeps kV121 (fun _ _ x => x)
  have h134 : ListsAt V121 (.slice A1 2 c1) xs1 ([[10, 2], []]) := h115.keepsN kV121
  have h135 := kV121.bk h116
  have h136 := kV121.bk h117
  have h137 := kV121.bk h118
  have K138 := K119.nn kV121
  have z139 := kV121.size
  refine ps_k (o_lmpacks 62 5) (.slice A3 0 c3) ?_
  obtain ⟨V140, eV140, kV140⟩ := rowset_step V121 f3 (#[.int .i64 6, .int .i64 0])
  have h141 : V140.heap[f3]? = some (.cells (#[.int .i64 6, .int .i64 0]) 38 (0, 0)) := eV140 ▸ setRow_heap _ _ _ _ _ _ h122
  refine ps_s (o_lmpacks 62 6) (w' := V140) (by rw [← eV140]; exact exec_store_row 38 (.tmp 8) (.tmp 29) (by kernel_rfl) f3 (#[.int .i64 6, .int .i64 0]) (by kernel_rfl) (by kernel_rfl) 38 (#[.int .i64 0, .int .i64 0]) h122 (by kernel_rfl) rfl (by kernel_rfl)) ?_
  clear eV140
  have h142 := kV140.bo h130 (by omega)
  have h143 := kV140.bo h131 (by omega)
  have h144 := kV140.bo h132 (by omega)
  have h145 : Row V140 5 1 X 5 (B [2, 2, 10, 2, 0]) := h133.keeps kV140 (fun j hj e => by have := hlX j hj; unfold Own.One at e; omega)
  have h146 : ListsAt V140 (.slice A1 2 c1) xs1 ([[10, 2], []]) := ListsAt.keepsB hL1 h134 kV140 (fun j hj e => by first | exact e.elim | (unfold Own.One at e; omega) | omega)
  have h147 := kV140.bo h135 (by omega)
  have h148 := kV140.bo h136 (by omega)
  have h149 := kV140.bo h137 (by omega)
  have K150 := K138.no kV140 (by omega)
  have z151 := kV140.size
  refine ps_end ?_
  refine then_n ?_
  refine sy_sq (part_lmpacks 126) (part_lmpacks 127) ?_
  refine sy_reg ?_
  refine rg_plain 5 (opsAt (part_lmpacks 126)) [0, 1, 2, 3, 4, 5, 6, 7, 8, 9, 10, 11, 12, 13, 14, 15, 16, 17, 18, 19, 20, 21, 22, 23, 24, 25, 26, 27, 28, 29, 30, 31, 32, 33, 34, 35, 36, 37, 38, 39, 40, 41] (by kernel_rfl) (by kernel_rfl) ?_
  refine ps_k (o_lmpacks 126 0) (.int .i64 0) ?_
  refine ps_k (o_lmpacks 126 1) (.bool true) ?_
  refine ps_k (o_lmpacks 126 2) (.bool true) ?_
  refine ps_k (o_lmpacks 126 3) (X) ?_
  obtain ⟨V152, eV152, g5, eg5, h153, kV152⟩ := alloc_step V140 (#[.int .u8 2, .int .u8 2, .int .u8 10, .int .u8 2, .int .u8 0]) 5
  have n154 : g1 < g5 := eg5 ▸ lt_of_block h142
  have n155 : g2 < g5 := eg5 ▸ lt_of_block h143
  have n156 : g3 < g5 := eg5 ▸ lt_of_block h144
  have n157 : f1 < g5 := eg5 ▸ lt_of_block h147
  have n158 : g4 < g5 := eg5 ▸ lt_of_block h148
  have n159 : f2 < g5 := eg5 ▸ lt_of_block h149
  have n160 : f3 < g5 := eg5 ▸ lt_of_block h141
  have n161 : w.heap.size ≤ g5 := eg5 ▸ K150.size
  refine ps_r (o_lmpacks 126 4) (.slice (some ⟨g5, 0, none⟩) 5 5) (w' := V152) (by rw [← eV152, ← eg5]; kernel_rfl) ?_
  have h162 := kV152.bk h142
  have h163 := kV152.bk h143
  have h164 := kV152.bk h144
  have h165 : Row V152 5 1 X 5 (B [2, 2, 10, 2, 0]) := h145.keeps kV152 (fun _ _ x => x)
  have h166 : ListsAt V152 (.slice A1 2 c1) xs1 ([[10, 2], []]) := h146.keepsN kV152
  have h167 := kV152.bk h147
  have h168 := kV152.bk h148
  have h169 := kV152.bk h149
  have h170 := kV152.bk h141
  have K171 := K150.nn kV152
  have z172 := kV152.size
  refine ps_c (o_lmpacks 126 5) 16 #[X, .slice (some ⟨g5, 0, none⟩) 5 5] Try.func16 ((mSameBytes (Row.bytes h165) (Own.bytes_of_block h153 (by kernel_rfl) rfl (by decide)) rfl).mono ?_)
  rintro e w1 ⟨rfl, rfl⟩
  refine ⟨_, rfl, ?_⟩
  refine ps_k (o_lmpacks 126 6) (.bool true) ?_
  refine ps_k (o_lmpacks 126 7) (.bool true) ?_
  refine ps_p (o_lmpacks 126 8) (.agg #[.int .i64 0, .int .i64 0]) (exec_load_row 38 (.tmp 4) (by kernel_rfl) f1 (by kernel_rfl) _ _ (0, 0) _ (h167) Try.underlying38 rfl (by kernel_rfl)) ?_
  refine ps_k (o_lmpacks 126 9) (.agg #[.int .i64 0, .int .i64 0]) ?_
  refine ps_p (o_lmpacks 126 10) (.bool true) (exec_cast (congrArg Value.bool (by simp)) (exec_binop .eql 38 38 (.tmp 38) (.tmp 39) (by kernel_rfl) (.agg #[.int .i64 0, .int .i64 0]) (.agg #[.int .i64 0, .int .i64 0]) _ (by kernel_rfl) (by kernel_rfl) (run_eqGuard_agg _ _ _ _ _ _ _ fault_guard) (fault_eq _ _ _ _ _))) ?_
  refine ps_k (o_lmpacks 126 11) (.bool true) ?_
  refine ps_k (o_lmpacks 126 12) (.bool true) ?_
  refine ps_k (o_lmpacks 126 13) (.slice A1 2 c1) ?_
  refine ps_p (o_lmpacks 126 14) (.int .i64 2) (exec_len (.tmp 43) 54 _ (by kernel_rfl) Try.underlying54 A1 2 c1 (by kernel_rfl)) ?_
  refine ps_k (o_lmpacks 126 15) (.bool true) ?_
  refine ps_k (o_lmpacks 126 16) (.bool true) ?_
  refine ps_k (o_lmpacks 126 17) (.bool true) ?_
  refine ps_k (o_lmpacks 126 18) (.slice A1 2 c1) ?_
  refine ps_p (o_lmpacks 126 19) (pT b_p (o_p + 0)) (exec_cast (v := pT b_p (o_p + 0 * 1)) (by simp) (exec_indexAt_slice 54 (.tmp 48) (.const (.int .i64 0)) (by kernel_rfl) b_p o_p 2 c_p (Eq.trans (b := .slice A1 2 c1) (by kernel_rfl) hvp) .i64 0 (by kernel_rfl) _ 1 Try.underlying54 (by kernel_rfl) (by omega))) ?_
  refine ps_p (o_lmpacks 126 20) (up) (exec_ld 22 (.tmp 49) b_p (o_p + 0) Try.underlying22 (ListsAt.cell h166 hup hvp)) ?_
  obtain ⟨V173, eV173, g6, eg6, h174, kV173⟩ := alloc_step V152 (#[.int .u8 10, .int .u8 2]) 5
  have n175 : g1 < g6 := eg6 ▸ lt_of_block h162
  have n176 : g2 < g6 := eg6 ▸ lt_of_block h163
  have n177 : g3 < g6 := eg6 ▸ lt_of_block h164
  have n178 : f1 < g6 := eg6 ▸ lt_of_block h167
  have n179 : g4 < g6 := eg6 ▸ lt_of_block h168
  have n180 : f2 < g6 := eg6 ▸ lt_of_block h169
  have n181 : f3 < g6 := eg6 ▸ lt_of_block h170
  have n182 : g5 < g6 := eg6 ▸ lt_of_block h153
  have n183 : w.heap.size ≤ g6 := eg6 ▸ K171.size
  refine ps_r (o_lmpacks 126 21) (.slice (some ⟨g6, 0, none⟩) 2 2) (w' := V173) (by rw [← eV173, ← eg6]; kernel_rfl) ?_
  have h184 := kV173.bk h162
  have h185 := kV173.bk h163
  have h186 := kV173.bk h164
  have h187 : Row V173 5 1 X 5 (B [2, 2, 10, 2, 0]) := h165.keeps kV173 (fun _ _ x => x)
  have h188 : ListsAt V173 (.slice A1 2 c1) xs1 ([[10, 2], []]) := h166.keepsN kV173
  have h189 := kV173.bk h167
  have h190 := kV173.bk h168
  have h191 := kV173.bk h169
  have h192 := kV173.bk h170
  have h193 := kV173.bk h153
  have K194 := K171.nn kV173
  have z195 := kV173.size
  refine ps_c (o_lmpacks 126 22) 16 #[up, .slice (some ⟨g6, 0, none⟩) 2 2] Try.func16 ((mSameBytes (ListsAt.bytes h188 _ _ _ hup hlp) (Own.bytes_of_block h174 (by kernel_rfl) rfl (by decide)) elp).mono ?_)
  rintro e w1 ⟨rfl, rfl⟩
  refine ⟨_, rfl, ?_⟩
  refine ps_k (o_lmpacks 126 23) (.bool true) ?_
  refine ps_k (o_lmpacks 126 24) (.bool true) ?_
  refine ps_k (o_lmpacks 126 25) (.slice A1 2 c1) ?_
  refine ps_p (o_lmpacks 126 26) (pT b_q (o_q + 1)) (exec_cast (v := pT b_q (o_q + 1 * 1)) (by simp) (exec_indexAt_slice 54 (.tmp 55) (.const (.int .i64 1)) (by kernel_rfl) b_q o_q 2 c_q (Eq.trans (b := .slice A1 2 c1) (by kernel_rfl) hvq) .i64 1 (by kernel_rfl) _ 1 Try.underlying54 (by kernel_rfl) (by omega))) ?_
  refine ps_p (o_lmpacks 126 27) (uq) (exec_ld 22 (.tmp 56) b_q (o_q + 1) Try.underlying22 (ListsAt.cell h188 huq hvq)) ?_
  refine ps_p (o_lmpacks 126 28) (iN lq.length) (exec_len_bytes (.tmp 57) 22 5 (by kernel_rfl) Try.underlying22 (by kernel_rfl) (ListsAt.bytes h188 _ _ _ huq hlq)) ?_
  refine ps_p (o_lmpacks 126 29) (.bool true) (eqt (((lq.length : Nat) : Int)) ((0) : Int) (by omega)) ?_
  refine ps_k (o_lmpacks 126 30) (.bool true) ?_
  refine ps_k (o_lmpacks 126 31) (.bool true) ?_
  refine ps_p (o_lmpacks 126 32) (.agg #[.int .i64 6, .int .i64 1]) (exec_load_row 38 (.tmp 6) (by kernel_rfl) f2 (by kernel_rfl) _ _ (0, 0) _ (h191) Try.underlying38 rfl (by kernel_rfl)) ?_
  refine ps_k (o_lmpacks 126 33) (.agg #[.int .i64 6, .int .i64 1]) ?_
  refine ps_p (o_lmpacks 126 34) (.bool true) (exec_cast (congrArg Value.bool (by simp)) (exec_binop .eql 38 38 (.tmp 62) (.tmp 63) (by kernel_rfl) (.agg #[.int .i64 6, .int .i64 1]) (.agg #[.int .i64 6, .int .i64 1]) _ (by kernel_rfl) (by kernel_rfl) (run_eqGuard_agg _ _ _ _ _ _ _ fault_guard) (fault_eq _ _ _ _ _))) ?_
  refine ps_k (o_lmpacks 126 35) (.bool true) ?_
  refine ps_k (o_lmpacks 126 36) (.bool true) ?_
  refine ps_p (o_lmpacks 126 37) (.agg #[.int .i64 6, .int .i64 0]) (exec_load_row 38 (.tmp 8) (by kernel_rfl) f3 (by kernel_rfl) _ _ (0, 0) _ (h192) Try.underlying38 rfl (by kernel_rfl)) ?_
  refine ps_k (o_lmpacks 126 38) (.agg #[.int .i64 6, .int .i64 0]) ?_
  refine ps_p (o_lmpacks 126 39) (.bool true) (exec_cast (congrArg Value.bool (by simp)) (exec_binop .eql 38 38 (.tmp 67) (.tmp 68) (by kernel_rfl) (.agg #[.int .i64 6, .int .i64 0]) (.agg #[.int .i64 6, .int .i64 0]) _ (by kernel_rfl) (by kernel_rfl) (run_eqGuard_agg _ _ _ _ _ _ _ fault_guard) (fault_eq _ _ _ _ _))) ?_
  refine ps_k (o_lmpacks 126 40) (.bool true) ?_
  refine ps_k (o_lmpacks 126 41) (.bool true) ?_
  refine ps_end ?_
  refine sy_a ⟨#[.bool true, X, .int .i64 0, .slice A1 2 c1, pT f1 0, .slice A2 0 c2, pT f2 0, .slice A3 0 c3, pT f3 0, .tuple #[X, .int .i64 0], .slice (some ⟨g1, 0, none⟩) 2 2, .slice (some ⟨g2, 0, none⟩) 0 0, .slice (some ⟨g3, 0, none⟩) 2 2, .tuple #[X, .int .i64 0], X, .int .i64 0, .tuple #[.slice A1 2 c1, .agg #[.int .i64 0, .int .i64 0]], X, .tuple #[.slice A1 2 c1, .agg #[.int .i64 0, .int .i64 0]], .slice A1 2 c1, .agg #[.int .i64 0, .int .i64 0], .tuple #[.slice A2 0 c2, .agg #[.int .i64 6, .int .i64 1]], .slice (some ⟨g4, 0, none⟩) 4 4, .tuple #[.slice A2 0 c2, .agg #[.int .i64 6, .int .i64 1]], .slice A2 0 c2, .agg #[.int .i64 6, .int .i64 1], .tuple #[.slice A3 0 c3, .agg #[.int .i64 6, .int .i64 0]], .tuple #[.slice A3 0 c3, .agg #[.int .i64 6, .int .i64 0]], .slice A3 0 c3, .agg #[.int .i64 6, .int .i64 0], .int .i64 0, .bool true, .bool true, X, .slice (some ⟨g5, 0, none⟩) 5 5, .bool true, .bool true, .bool true, .agg #[.int .i64 0, .int .i64 0], .agg #[.int .i64 0, .int .i64 0], .bool true, .bool true, .bool true, .slice A1 2 c1, .int .i64 2, .bool true, .bool true, .bool true, .slice A1 2 c1, pT b_p (o_p + 0), up, .slice (some ⟨g6, 0, none⟩) 2 2, .bool true, .bool true, .bool true, .slice A1 2 c1, pT b_q (o_q + 1), uq, iN lq.length, .bool true, .bool true, .bool true, .agg #[.int .i64 6, .int .i64 1], .agg #[.int .i64 6, .int .i64 1], .bool true, .bool true, .bool true, .agg #[.int .i64 6, .int .i64 0], .agg #[.int .i64 6, .int .i64 0], .bool true, .bool true], []⟩ ?_
  refine then_n ?_
  refine sy_ret (by kernel_rfl) ?_
  refine sy_out (.bool true) rfl (by kernel_rfl) ?_
  exact ⟨rfl, K194⟩
def kxc : Msg := ⟨2, 5, 0, 0, 200, 1, 0, 0, 0, 0, 0, 0, ⟨0, 0, 0, zeroH, 0⟩, ⟨0, 0, 0, zeroH, 0⟩, ⟨0, 0, zeroH, 0⟩, ⟨0, 0, zeroH, 0⟩⟩
theorem kxc_ok : kxc.Ok := ⟨by decide, by decide, by decide, by decide, by decide, by decide, by decide, by decide, by decide, by decide, by decide, by decide, ⟨by decide, by decide, by decide, rfl, by decide⟩, vzA, ⟨by decide, by decide, rfl, by decide⟩, ⟨by decide, by decide, rfl, by decide⟩⟩
theorem kxc_c : kxc.chk = 0 := by kernel_rfl
theorem kxc_b : kxc.by = [2, 5, 1, 200, 1] := by kernel_rfl
theorem kxc_z : mFin [2, 5, 1, 200, 1] = (0, 0) := by kernel_rfl
theorem kxc_m : mRes [2, 5, 1, 200, 1] = kxc := by kernel_rfl
def kxd : Msg := ⟨3, 2, 1, 0, 5, 0, 0, 0, 0, 0, 0, 0, ⟨0, 0, 0, zeroH, 0⟩, ⟨0, 0, 0, zeroH, 0⟩, ⟨0, 0, zeroH, 0⟩, ⟨0, 0, zeroH, 0⟩⟩
theorem kxd_ok : kxd.Ok := ⟨by decide, by decide, by decide, by decide, by decide, by decide, by decide, by decide, by decide, by decide, by decide, by decide, ⟨by decide, by decide, by decide, rfl, by decide⟩, vzA, ⟨by decide, by decide, rfl, by decide⟩, ⟨by decide, by decide, rfl, by decide⟩⟩
theorem kxd_c : kxd.chk = 0 := by kernel_rfl
theorem kxd_b : kxd.by = [3, 2, 1, 5] := by kernel_rfl
theorem kxd_z : mFin [3, 2, 1, 5] = (0, 0) := by kernel_rfl
theorem kxd_m : mRes [3, 2, 1, 5] = kxd := by kernel_rfl
def kxe : Msg := ⟨5, 2, 0, 0, 9, 0, 1, 7, 3, 4, 0, 0, ⟨0, 0, 0, zeroH, 0⟩, ⟨0, 0, 0, zeroH, 0⟩, ⟨0, 0, zeroH, 0⟩, ⟨0, 0, zeroH, 0⟩⟩
theorem kxe_ok : kxe.Ok := ⟨by decide, by decide, by decide, by decide, by decide, by decide, by decide, by decide, by decide, by decide, by decide, by decide, ⟨by decide, by decide, by decide, rfl, by decide⟩, vzA, ⟨by decide, by decide, rfl, by decide⟩, ⟨by decide, by decide, rfl, by decide⟩⟩
theorem kxe_c : kxe.chk = 0 := by kernel_rfl
theorem kxe_b : kxe.by = [5, 2, 1, 7, 4, 4, 9, 0] := by kernel_rfl
theorem kxe_z : mFin [5, 2, 1, 7, 4, 4, 9, 0] = (0, 0) := by kernel_rfl
theorem kxe_m : mRes [5, 2, 1, 7, 4, 4, 9, 0] = kxe := by kernel_rfl
def kxf : Msg := ⟨9, 2, 1, 0, 0, 0, 0, 0, 0, 0, 0, 0, ⟨0, 0, 0, zeroH, 0⟩, ⟨0, 0, 0, zeroH, 0⟩, ⟨0, 0, zeroH, 0⟩, ⟨0, 0, zeroH, 0⟩⟩
theorem kxf_ok : kxf.Ok := ⟨by decide, by decide, by decide, by decide, by decide, by decide, by decide, by decide, by decide, by decide, by decide, by decide, ⟨by decide, by decide, by decide, rfl, by decide⟩, vzA, ⟨by decide, by decide, rfl, by decide⟩, ⟨by decide, by decide, rfl, by decide⟩⟩
theorem kxf_c : kxf.chk = 0 := by kernel_rfl
theorem kxf_b : kxf.by = [9, 2, 1] := by kernel_rfl
theorem kxf_z : mFin [9, 2, 1] = (0, 0) := by kernel_rfl
theorem kxf_m : mRes [9, 2, 1] = kxf := by kernel_rfl
def kxg : Msg := ⟨10, 2, 0, 0, 0, 0, 0, 0, 0, 0, 0, 0, ⟨0, 0, 0, zeroH, 0⟩, ⟨0, 0, 0, zeroH, 0⟩, ⟨0, 0, zeroH, 0⟩, ⟨0, 0, zeroH, 0⟩⟩
theorem kxg_ok : kxg.Ok := ⟨by decide, by decide, by decide, by decide, by decide, by decide, by decide, by decide, by decide, by decide, by decide, by decide, ⟨by decide, by decide, by decide, rfl, by decide⟩, vzA, ⟨by decide, by decide, rfl, by decide⟩, ⟨by decide, by decide, rfl, by decide⟩⟩
theorem kxg_c : kxg.chk = 0 := by kernel_rfl
theorem kxg_b : kxg.by = [10, 2] := by kernel_rfl
theorem kxg_z : mFin [10, 2] = (0, 0) := by kernel_rfl
theorem kxg_m : mRes [10, 2] = kxg := by kernel_rfl
def kxh : Msg := ⟨11, 0, 0, 0, 0, 0, 0, 0, 0, 0, 5, 0, ⟨0, 0, 0, zeroH, 0⟩, ⟨0, 0, 0, zeroH, 0⟩, ⟨0, 0, zeroH, 0⟩, ⟨0, 0, zeroH, 0⟩⟩
theorem kxh_ok : kxh.Ok := ⟨by decide, by decide, by decide, by decide, by decide, by decide, by decide, by decide, by decide, by decide, by decide, by decide, ⟨by decide, by decide, by decide, rfl, by decide⟩, vzA, ⟨by decide, by decide, rfl, by decide⟩, ⟨by decide, by decide, rfl, by decide⟩⟩
theorem kxh_c : kxh.chk = 0 := by kernel_rfl
theorem kxh_b : kxh.by = [11, 5] := by kernel_rfl
theorem kxh_z : mFin [11, 5] = (0, 0) := by kernel_rfl
theorem kxh_m : mRes [11, 5] = kxh := by kernel_rfl
def kxi : Msg := ⟨6, 2, 0, 0, 0, 0, 0, 0, 0, 0, 0, 0, ⟨1, 0, 3, zeroH, 0⟩, ⟨0, 0, 0, zeroH, 0⟩, ⟨0, 0, zeroH, 0⟩, ⟨0, 0, zeroH, 0⟩⟩
theorem kxi_ok : kxi.Ok := ⟨by decide, by decide, by decide, by decide, by decide, by decide, by decide, by decide, by decide, by decide, by decide, by decide, ⟨by decide, by decide, by decide, rfl, by decide⟩, vzA, ⟨by decide, by decide, rfl, by decide⟩, ⟨by decide, by decide, rfl, by decide⟩⟩
theorem kxi_c : kxi.chk = 0 := by kernel_rfl
theorem kxi_b : kxi.by.length = 39 := by kernel_rfl
def kxj : Msg := ⟨8, 2, 0, 0, 0, 0, 0, 0, 0, 0, 0, 3, ⟨0, 0, 0, zeroH, 0⟩, ⟨0, 0, 0, zeroH, 0⟩, ⟨1, 4, zeroH, 0⟩, ⟨1, 4, zeroH, 0⟩⟩
theorem kxj_ok : kxj.Ok := ⟨by decide, by decide, by decide, by decide, by decide, by decide, by decide, by decide, by decide, by decide, by decide, by decide, ⟨by decide, by decide, by decide, rfl, by decide⟩, vzA, ⟨by decide, by decide, rfl, by decide⟩, ⟨by decide, by decide, rfl, by decide⟩⟩
theorem kxj_c : kxj.chk = 0 := by kernel_rfl
theorem kxj_b : kxj.by.length = 75 := by kernel_rfl
def kx1 : Msg := ⟨12, 0, 0, 0, 0, 0, 0, 0, 0, 0, 0, 0, ⟨0, 0, 0, zeroH, 0⟩, ⟨0, 0, 0, zeroH, 0⟩, ⟨0, 0, zeroH, 0⟩, ⟨0, 0, zeroH, 0⟩⟩
theorem kx1_ok : kx1.Ok := ⟨by decide, by decide, by decide, by decide, by decide, by decide, by decide, by decide, by decide, by decide, by decide, by decide, ⟨by decide, by decide, by decide, rfl, by decide⟩, vzA, ⟨by decide, by decide, rfl, by decide⟩, ⟨by decide, by decide, rfl, by decide⟩⟩
theorem kx1_c : kx1.chk = 5 := by kernel_rfl
def kx2 : Msg := ⟨10, 64, 0, 0, 0, 0, 0, 0, 0, 0, 0, 0, ⟨0, 0, 0, zeroH, 0⟩, ⟨0, 0, 0, zeroH, 0⟩, ⟨0, 0, zeroH, 0⟩, ⟨0, 0, zeroH, 0⟩⟩
theorem kx2_ok : kx2.Ok := ⟨by decide, by decide, by decide, by decide, by decide, by decide, by decide, by decide, by decide, by decide, by decide, by decide, ⟨by decide, by decide, by decide, rfl, by decide⟩, vzA, ⟨by decide, by decide, rfl, by decide⟩, ⟨by decide, by decide, rfl, by decide⟩⟩
theorem kx2_c : kx2.chk = 3 := by kernel_rfl
def kx3 : Msg := ⟨10, 2, 0, 1, 0, 0, 0, 0, 0, 0, 0, 0, ⟨0, 0, 0, zeroH, 0⟩, ⟨0, 0, 0, zeroH, 0⟩, ⟨0, 0, zeroH, 0⟩, ⟨0, 0, zeroH, 0⟩⟩
theorem kx3_ok : kx3.Ok := ⟨by decide, by decide, by decide, by decide, by decide, by decide, by decide, by decide, by decide, by decide, by decide, by decide, ⟨by decide, by decide, by decide, rfl, by decide⟩, vzA, ⟨by decide, by decide, rfl, by decide⟩, ⟨by decide, by decide, rfl, by decide⟩⟩
theorem kx3_c : kx3.chk = 2 := by kernel_rfl
def kx4 : Msg := ⟨8, 0, 0, 0, 0, 0, 0, 0, 0, 0, 0, 4, ⟨0, 0, 0, zeroH, 0⟩, ⟨0, 0, 0, zeroH, 0⟩, ⟨0, 0, zeroH, 0⟩, ⟨0, 0, zeroH, 0⟩⟩
theorem kx4_ok : kx4.Ok := ⟨by decide, by decide, by decide, by decide, by decide, by decide, by decide, by decide, by decide, by decide, by decide, by decide, ⟨by decide, by decide, by decide, rfl, by decide⟩, vzA, ⟨by decide, by decide, rfl, by decide⟩, ⟨by decide, by decide, rfl, by decide⟩⟩
theorem kx4_c : kx4.chk = 5 := by kernel_rfl
theorem fl0_z : mFin [10] = (6, 1) := by kernel_rfl
theorem fl0_m : mRes [10] = msgZ := by kernel_rfl
theorem fl1_z : mFin [10, 2, 0] = (4, 2) := by kernel_rfl
theorem fl1_m : mRes [10, 2, 0] = msgZ := by kernel_rfl
theorem fl2_z : mFin [4, 2, 32] = (3, 2) := by kernel_rfl
theorem fl2_m : mRes [4, 2, 32] = msgZ := by kernel_rfl
theorem fl3_z : mFin [11, 0] = (3, 1) := by kernel_rfl
theorem fl3_m : mRes [11, 0] = msgZ := by kernel_rfl
theorem kxh_w : kxh.who = (0, false) := by kernel_rfl
noncomputable def part_MessageKnown (n : Nat) : Code := partOf Try.f6 n
noncomputable abbrev o_MessageKnown (n k : Nat) : Oper := (opsAt (part_MessageKnown n)).getD k default
set_option maxRecDepth 100000 in
set_option maxHeartbeats 4000000 in
theorem MessageKnown_ok (w : World) :
    Calls Try.prog 6 #[] w (fun e w' => e = .returned (.bool true) ∧ Keeps Nob w w') := by
  have K0 : Keeps Nob w w := Keeps.refl _ _
  refine sy_enter (part_MessageKnown 1) ⟨#[undef, undef, undef, undef, undef, undef, undef, undef, undef, undef, undef, undef, undef, undef, undef, undef, undef, undef, undef, undef, undef, undef, undef, undef, undef, undef, undef, undef, undef, undef, undef, undef, undef, undef, undef, undef, undef, undef, undef, undef, undef, undef, undef, undef, undef, undef, undef, undef, undef, undef, undef, undef, undef, undef, undef, undef, undef, undef, undef, undef, undef, undef, undef, undef, undef, undef, undef, undef, undef, undef, undef, undef, undef, undef, undef, undef, undef, undef, undef, undef, undef, undef, undef, undef, undef, undef, undef, undef, undef, undef, undef, undef, undef, undef, undef, undef, undef, undef, undef, undef, undef, undef, undef, undef, undef, undef, undef, undef, undef, undef, undef, undef, undef, undef, undef, undef, undef, undef, undef, undef, undef, undef, undef, undef], []⟩ Try.func6 (by kernel_rfl) (by kernel_rfl) ?_
  refine sy_sq (part_MessageKnown 2) (part_MessageKnown 3) ?_
  refine sy_reg ?_
  refine rg_plain 0 (opsAt (part_MessageKnown 2)) [0] (by kernel_rfl) (by kernel_rfl) ?_
  refine ps_k (o_MessageKnown 2 0) (.bool false) ?_
  refine ps_end ?_
  refine then_n ?_
  refine sy_sq (part_MessageKnown 6) (part_MessageKnown 7) ?_
  refine sy_reg ?_
  refine rg_plain 1 (opsAt (part_MessageKnown 6)) [0, 1, 2, 3, 4, 5, 6, 7, 8] (by kernel_rfl) (by kernel_rfl) ?_
  refine ps_k (o_MessageKnown 6 0) (.agg (Msg.c kxc)) ?_
  obtain ⟨V1, eV1, bc, ebc, h2, kV1⟩ := alloc_step w (#[.int .u8 2, .int .u8 5, .int .u8 1, .int .u8 200, .int .u8 1]) 5
  have n3 : w.heap.size ≤ bc := ebc ▸ K0.size
  refine ps_r (o_MessageKnown 6 1) (.slice (some ⟨bc, 0, none⟩) 5 5) (w' := V1) (by rw [← eV1, ← ebc]; kernel_rfl) ?_
  have K4 := K0.nn kV1
  have z5 := kV1.size
  refine ps_c (o_MessageKnown 6 2) 35 #[.agg (Msg.c kxc), .slice (some ⟨bc, 0, none⟩) 5 5] Try.func35 ((lmbytes_ok kxc _ [2, 5, 1, 200, 1] _ kxc_ok kxc_c kxc_b kxc_z kxc_m (Own.bytes_of_block h2 (by kernel_rfl) rfl (by decide)) (by decide)).mono ?_)
  rintro e V6 ⟨rfl, kV6⟩
  refine ⟨_, rfl, ?_⟩
  have h7 := kV6.bk h2
  have K8 := K4.nn kV6
  have z9 := kV6.size
  refine ps_k (o_MessageKnown 6 3) (.bool true) ?_
  refine ps_k (o_MessageKnown 6 4) (.agg (Msg.c kxd)) ?_
  obtain ⟨V10, eV10, bd, ebd, h11, kV10⟩ := alloc_step V6 (#[.int .u8 3, .int .u8 2, .int .u8 1, .int .u8 5]) 5
  have n12 : bc < bd := ebd ▸ lt_of_block h7
  have n13 : w.heap.size ≤ bd := ebd ▸ K8.size
  refine ps_r (o_MessageKnown 6 5) (.slice (some ⟨bd, 0, none⟩) 4 4) (w' := V10) (by rw [← eV10, ← ebd]; kernel_rfl) ?_
  have h14 := kV10.bk h7
  have K15 := K8.nn kV10
  have z16 := kV10.size
  refine ps_c (o_MessageKnown 6 6) 35 #[.agg (Msg.c kxd), .slice (some ⟨bd, 0, none⟩) 4 4] Try.func35 ((lmbytes_ok kxd _ [3, 2, 1, 5] _ kxd_ok kxd_c kxd_b kxd_z kxd_m (Own.bytes_of_block h11 (by kernel_rfl) rfl (by decide)) (by decide)).mono ?_)
  rintro e V17 ⟨rfl, kV17⟩
  refine ⟨_, rfl, ?_⟩
  have h18 := kV17.bk h14
  have h19 := kV17.bk h11
  have K20 := K15.nn kV17
  have z21 := kV17.size
  refine ps_k (o_MessageKnown 6 7) (.bool true) ?_
  refine ps_k (o_MessageKnown 6 8) (.bool true) ?_
  refine ps_end ?_
  refine then_n ?_
  refine sy_sq (part_MessageKnown 14) (part_MessageKnown 15) ?_
  refine sy_reg ?_
  refine rg_plain 2 (opsAt (part_MessageKnown 14)) [0, 1, 2, 3, 4, 5, 6, 7, 8, 9, 10, 11, 12, 13, 14, 15, 16, 17, 18, 19] (by kernel_rfl) (by kernel_rfl) ?_
  refine ps_k (o_MessageKnown 14 0) (.agg #[.int .i64 1, .int .i64 7, .int .i64 3, .int .i64 4]) ?_
  refine ps_k (o_MessageKnown 14 1) (.agg (Msg.c kxe)) ?_
  obtain ⟨V22, eV22, be, ebe, h23, kV22⟩ := alloc_step V17 (#[.int .u8 5, .int .u8 2, .int .u8 1, .int .u8 7, .int .u8 4, .int .u8 4, .int .u8 9, .int .u8 0]) 5
  have n24 : bc < be := ebe ▸ lt_of_block h18
  have n25 : bd < be := ebe ▸ lt_of_block h19
  have n26 : w.heap.size ≤ be := ebe ▸ K20.size
  refine ps_r (o_MessageKnown 14 2) (.slice (some ⟨be, 0, none⟩) 8 8) (w' := V22) (by rw [← eV22, ← ebe]; kernel_rfl) ?_
  have h27 := kV22.bk h18
  have h28 := kV22.bk h19
  have K29 := K20.nn kV22
  have z30 := kV22.size
  refine ps_c (o_MessageKnown 14 3) 35 #[.agg (Msg.c kxe), .slice (some ⟨be, 0, none⟩) 8 8] Try.func35 ((lmbytes_ok kxe _ [5, 2, 1, 7, 4, 4, 9, 0] _ kxe_ok kxe_c kxe_b kxe_z kxe_m (Own.bytes_of_block h23 (by kernel_rfl) rfl (by decide)) (by decide)).mono ?_)
  rintro e V31 ⟨rfl, kV31⟩
  refine ⟨_, rfl, ?_⟩
  have h32 := kV31.bk h27
  have h33 := kV31.bk h28
  have h34 := kV31.bk h23
  have K35 := K29.nn kV31
  have z36 := kV31.size
  refine ps_k (o_MessageKnown 14 4) (.bool true) ?_
  refine ps_k (o_MessageKnown 14 5) (.agg (Msg.c kxf)) ?_
  obtain ⟨V37, eV37, bf, ebf, h38, kV37⟩ := alloc_step V31 (#[.int .u8 9, .int .u8 2, .int .u8 1]) 5
  have n39 : bc < bf := ebf ▸ lt_of_block h32
  have n40 : bd < bf := ebf ▸ lt_of_block h33
  have n41 : be < bf := ebf ▸ lt_of_block h34
  have n42 : w.heap.size ≤ bf := ebf ▸ K35.size
  refine ps_r (o_MessageKnown 14 6) (.slice (some ⟨bf, 0, none⟩) 3 3) (w' := V37) (by rw [← eV37, ← ebf]; kernel_rfl) ?_
  have h43 := kV37.bk h32
  have h44 := kV37.bk h33
  have h45 := kV37.bk h34
  have K46 := K35.nn kV37
  have z47 := kV37.size
  refine ps_c (o_MessageKnown 14 7) 35 #[.agg (Msg.c kxf), .slice (some ⟨bf, 0, none⟩) 3 3] Try.func35 ((lmbytes_ok kxf _ [9, 2, 1] _ kxf_ok kxf_c kxf_b kxf_z kxf_m (Own.bytes_of_block h38 (by kernel_rfl) rfl (by decide)) (by decide)).mono ?_)
  rintro e V48 ⟨rfl, kV48⟩
  refine ⟨_, rfl, ?_⟩
  have h49 := kV48.bk h43
  have h50 := kV48.bk h44
  have h51 := kV48.bk h45
  have h52 := kV48.bk h38
  have K53 := K46.nn kV48
  have z54 := kV48.size
  refine ps_k (o_MessageKnown 14 8) (.bool true) ?_
  refine ps_k (o_MessageKnown 14 9) (.bool true) ?_
  refine ps_k (o_MessageKnown 14 10) (.agg (Msg.c kxg)) ?_
  obtain ⟨V55, eV55, bg, ebg, h56, kV55⟩ := alloc_step V48 (#[.int .u8 10, .int .u8 2]) 5
  have n57 : bc < bg := ebg ▸ lt_of_block h49
  have n58 : bd < bg := ebg ▸ lt_of_block h50
  have n59 : be < bg := ebg ▸ lt_of_block h51
  have n60 : bf < bg := ebg ▸ lt_of_block h52
  have n61 : w.heap.size ≤ bg := ebg ▸ K53.size
  refine ps_r (o_MessageKnown 14 11) (.slice (some ⟨bg, 0, none⟩) 2 2) (w' := V55) (by rw [← eV55, ← ebg]; kernel_rfl) ?_
  have h62 := kV55.bk h49
  have h63 := kV55.bk h50
  have h64 := kV55.bk h51
  have h65 := kV55.bk h52
  have K66 := K53.nn kV55
  have z67 := kV55.size
  refine ps_c (o_MessageKnown 14 12) 35 #[.agg (Msg.c kxg), .slice (some ⟨bg, 0, none⟩) 2 2] Try.func35 ((lmbytes_ok kxg _ [10, 2] _ kxg_ok kxg_c kxg_b kxg_z kxg_m (Own.bytes_of_block h56 (by kernel_rfl) rfl (by decide)) (by decide)).mono ?_)
  rintro e V68 ⟨rfl, kV68⟩
  refine ⟨_, rfl, ?_⟩
  have h69 := kV68.bk h62
  have h70 := kV68.bk h63
  have h71 := kV68.bk h64
  have h72 := kV68.bk h65
  have h73 := kV68.bk h56
  have K74 := K66.nn kV68
  have z75 := kV68.size
  refine ps_k (o_MessageKnown 14 13) (.bool true) ?_
  refine ps_k (o_MessageKnown 14 14) (.bool true) ?_
  refine ps_k (o_MessageKnown 14 15) (.agg (Msg.c kxh)) ?_
  obtain ⟨V76, eV76, bh, ebh, h77, kV76⟩ := alloc_step V68 (#[.int .u8 11, .int .u8 5]) 5
  have n78 : bc < bh := ebh ▸ lt_of_block h69
  have n79 : bd < bh := ebh ▸ lt_of_block h70
  have n80 : be < bh := ebh ▸ lt_of_block h71
  have n81 : bf < bh := ebh ▸ lt_of_block h72
  have n82 : bg < bh := ebh ▸ lt_of_block h73
  have n83 : w.heap.size ≤ bh := ebh ▸ K74.size
  refine ps_r (o_MessageKnown 14 16) (.slice (some ⟨bh, 0, none⟩) 2 2) (w' := V76) (by rw [← eV76, ← ebh]; kernel_rfl) ?_
  have h84 := kV76.bk h69
  have h85 := kV76.bk h70
  have h86 := kV76.bk h71
  have h87 := kV76.bk h72
  have h88 := kV76.bk h73
  have K89 := K74.nn kV76
  have z90 := kV76.size
  refine ps_c (o_MessageKnown 14 17) 35 #[.agg (Msg.c kxh), .slice (some ⟨bh, 0, none⟩) 2 2] Try.func35 ((lmbytes_ok kxh _ [11, 5] _ kxh_ok kxh_c kxh_b kxh_z kxh_m (Own.bytes_of_block h77 (by kernel_rfl) rfl (by decide)) (by decide)).mono ?_)
  rintro e V91 ⟨rfl, kV91⟩
  refine ⟨_, rfl, ?_⟩
  have h92 := kV91.bk h84
  have h93 := kV91.bk h85
  have h94 := kV91.bk h86
  have h95 := kV91.bk h87
  have h96 := kV91.bk h88
  have h97 := kV91.bk h77
  have K98 := K89.nn kV91
  have z99 := kV91.size
  refine ps_k (o_MessageKnown 14 18) (.bool true) ?_
  refine ps_k (o_MessageKnown 14 19) (.bool true) ?_
  refine ps_end ?_
  refine sy_a ⟨#[.bool false, .bool true, .bool true, undef, undef, undef, undef, undef, undef, undef, undef, undef, .agg (Msg.c kxc), .slice (some ⟨bc, 0, none⟩) 5 5, .bool true, .bool true, .agg (Msg.c kxd), .slice (some ⟨bd, 0, none⟩) 4 4, .bool true, .bool true, .agg #[.int .i64 1, .int .i64 7, .int .i64 3, .int .i64 4], .agg (Msg.c kxe), .slice (some ⟨be, 0, none⟩) 8 8, .bool true, .bool true, .agg (Msg.c kxf), .slice (some ⟨bf, 0, none⟩) 3 3, .bool true, .bool true, .bool true, .agg (Msg.c kxg), .slice (some ⟨bg, 0, none⟩) 2 2, .bool true, .bool true, .bool true, .agg (Msg.c kxh), .slice (some ⟨bh, 0, none⟩) 2 2, .bool true, .bool true, undef, undef, undef, undef, undef, undef, undef, undef, undef, undef, undef, undef, undef, undef, undef, undef, undef, undef, undef, undef, undef, undef, undef, undef, undef, undef, undef, undef, undef, undef, undef, undef, undef, undef, undef, undef, undef, undef, undef, undef, undef, undef, undef, undef, undef, undef, undef, undef, undef, undef, undef, undef, undef, undef, undef, undef, undef, undef, undef, undef, undef, undef, undef, undef, undef, undef, undef, undef, undef, undef, undef, undef, undef, undef, undef, undef, undef, undef, undef, undef, undef, undef, undef, undef, undef], []⟩ ?_
  refine then_n ?_
  refine sy_sq (part_MessageKnown 30) (part_MessageKnown 31) ?_
  refine sy_reg ?_
  refine rg_plain 3 (opsAt (part_MessageKnown 30)) [0, 1, 2, 3, 4, 5, 6, 7] (by kernel_rfl) (by kernel_rfl) ?_
  refine ps_k (o_MessageKnown 30 0) (.agg (Att.c ⟨1, 0, 3, zeroH, 0⟩)) ?_
  refine ps_k (o_MessageKnown 30 1) (.agg (Msg.c kxi)) ?_
  refine ps_c (o_MessageKnown 30 2) 14 #[.agg (Msg.c kxi)] Try.func14 ((mBytes_len kxi 39 _ kxi_ok kxi_c kxi_b).mono ?_)
  rintro e V100 ⟨Ai, ci, rfl, kV100⟩
  refine ⟨_, rfl, ?_⟩
  have h101 := kV100.bk h92
  have h102 := kV100.bk h93
  have h103 := kV100.bk h94
  have h104 := kV100.bk h95
  have h105 := kV100.bk h96
  have h106 := kV100.bk h97
  have K107 := K98.nn kV100
  have z108 := kV100.size
  refine ps_k (o_MessageKnown 30 3) (.tuple #[.slice Ai 39 ci, .int .i64 0]) ?_
  refine ps_k (o_MessageKnown 30 4) (.slice Ai 39 ci) ?_
  refine ps_k (o_MessageKnown 30 5) (.int .i64 0) ?_
  refine ps_k (o_MessageKnown 30 6) (.slice Ai 39 ci) ?_
  refine ps_k (o_MessageKnown 30 7) (.int .i64 0) ?_
  refine ps_end ?_
  refine then_n ?_
  refine sy_sq (part_MessageKnown 62) (part_MessageKnown 63) ?_
  refine sy_reg ?_
  refine rg_plain 4 (opsAt (part_MessageKnown 62)) [0, 1, 2] (by kernel_rfl) (by kernel_rfl) ?_
  refine ps_k (o_MessageKnown 62 0) (.agg (Pro.c ⟨1, 4, zeroH, 0⟩)) ?_
  obtain ⟨V109, eV109, gp, egp, h110, kV109⟩ := alloc_step V100 (#[.int .i64 0, .int .i64 0, .int .u8 0, .int .u8 0, .int .u8 0, .int .u8 0, .int .u8 0, .int .u8 0, .int .u8 0, .int .u8 0, .int .u8 0, .int .u8 0, .int .u8 0, .int .u8 0, .int .u8 0, .int .u8 0, .int .u8 0, .int .u8 0, .int .u8 0, .int .u8 0, .int .u8 0, .int .u8 0, .int .u8 0, .int .u8 0, .int .u8 0, .int .u8 0, .int .u8 0, .int .u8 0, .int .u8 0, .int .u8 0, .int .u8 0, .int .u8 0, .int .u8 0, .int .u8 0, .int .u64 0]) 33
  have n111 : bc < gp := egp ▸ lt_of_block h101
  have n112 : bd < gp := egp ▸ lt_of_block h102
  have n113 : be < gp := egp ▸ lt_of_block h103
  have n114 : bf < gp := egp ▸ lt_of_block h104
  have n115 : bg < gp := egp ▸ lt_of_block h105
  have n116 : bh < gp := egp ▸ lt_of_block h106
  have n117 : w.heap.size ≤ gp := egp ▸ K107.size
  refine ps_r (o_MessageKnown 62 1) (pT gp 0) (w' := V109) (by rw [← eV109, ← egp]; exact exec_alloc0 33 (by kernel_rfl) (.agg (#[.int .i64 0, .int .i64 0, .int .u8 0, .int .u8 0, .int .u8 0, .int .u8 0, .int .u8 0, .int .u8 0, .int .u8 0, .int .u8 0, .int .u8 0, .int .u8 0, .int .u8 0, .int .u8 0, .int .u8 0, .int .u8 0, .int .u8 0, .int .u8 0, .int .u8 0, .int .u8 0, .int .u8 0, .int .u8 0, .int .u8 0, .int .u8 0, .int .u8 0, .int .u8 0, .int .u8 0, .int .u8 0, .int .u8 0, .int .u8 0, .int .u8 0, .int .u8 0, .int .u8 0, .int .u8 0, .int .u64 0])) (by kernel_rfl)) ?_
  clear eV109
  have h118 := kV109.bk h101
  have h119 := kV109.bk h102
  have h120 := kV109.bk h103
  have h121 := kV109.bk h104
  have h122 := kV109.bk h105
  have h123 := kV109.bk h106
  have K124 := K107.nn kV109
  have z125 := kV109.size
  obtain ⟨V126, eV126, kV126⟩ := rowset_step V109 gp ((Pro.c ⟨1, 4, zeroH, 0⟩))
  have h127 : V126.heap[gp]? = some (.cells (Pro.c ⟨1, 4, zeroH, 0⟩) 33 (0, 0)) := eV126 ▸ setRow_heap _ _ _ _ _ _ h110
  refine ps_s (o_MessageKnown 62 2) (w' := V126) (by rw [← eV126]; exact exec_store_row 33 (.tmp 5) (.tmp 45) (by kernel_rfl) gp ((Pro.c ⟨1, 4, zeroH, 0⟩)) (by kernel_rfl) (by kernel_rfl) 33 (#[.int .i64 0, .int .i64 0, .int .u8 0, .int .u8 0, .int .u8 0, .int .u8 0, .int .u8 0, .int .u8 0, .int .u8 0, .int .u8 0, .int .u8 0, .int .u8 0, .int .u8 0, .int .u8 0, .int .u8 0, .int .u8 0, .int .u8 0, .int .u8 0, .int .u8 0, .int .u8 0, .int .u8 0, .int .u8 0, .int .u8 0, .int .u8 0, .int .u8 0, .int .u8 0, .int .u8 0, .int .u8 0, .int .u8 0, .int .u8 0, .int .u8 0, .int .u8 0, .int .u8 0, .int .u8 0, .int .u64 0]) h110 (by kernel_rfl) (by kernel_rfl) (by kernel_rfl)) ?_
  clear eV126
  have h128 := kV126.bo h118 (by omega)
  have h129 := kV126.bo h119 (by omega)
  have h130 := kV126.bo h120 (by omega)
  have h131 := kV126.bo h121 (by omega)
  have h132 := kV126.bo h122 (by omega)
  have h133 := kV126.bo h123 (by omega)
  have K134 := K124.no kV126 (by omega)
  have z135 := kV126.size
  refine ps_end ?_
  refine then_n ?_
  refine sy_sq (part_MessageKnown 126) (part_MessageKnown 127) ?_
  refine sy_reg ?_
  refine rg_plain 5 (opsAt (part_MessageKnown 126)) [0, 1, 2, 3, 4, 5, 6, 7, 8] (by kernel_rfl) (by kernel_rfl) ?_
  refine ps_p (o_MessageKnown 126 0) (.agg (Pro.c ⟨1, 4, zeroH, 0⟩)) (exec_load_row 33 (.tmp 5) (by kernel_rfl) gp (by kernel_rfl) _ _ (0, 0) _ (h127) Try.underlying33 rfl (by kernel_rfl)) ?_
  refine ps_p (o_MessageKnown 126 1) (.agg (Pro.c ⟨1, 4, zeroH, 0⟩)) (exec_load_row 33 (.tmp 5) (by kernel_rfl) gp (by kernel_rfl) _ _ (0, 0) _ (h127) Try.underlying33 rfl (by kernel_rfl)) ?_
  refine ps_k (o_MessageKnown 126 2) (.agg (Msg.c kxj)) ?_
  refine ps_c (o_MessageKnown 126 3) 14 #[.agg (Msg.c kxj)] Try.func14 ((mBytes_len kxj 75 _ kxj_ok kxj_c kxj_b).mono ?_)
  rintro e V136 ⟨Aj, cj, rfl, kV136⟩
  refine ⟨_, rfl, ?_⟩
  have h137 := kV136.bk h128
  have h138 := kV136.bk h129
  have h139 := kV136.bk h130
  have h140 := kV136.bk h131
  have h141 := kV136.bk h132
  have h142 := kV136.bk h133
  have h143 := kV136.bk h127
  have K144 := K134.nn kV136
  have z145 := kV136.size
  refine ps_k (o_MessageKnown 126 4) (.tuple #[.slice Aj 75 cj, .int .i64 0]) ?_
  refine ps_k (o_MessageKnown 126 5) (.slice Aj 75 cj) ?_
  refine ps_k (o_MessageKnown 126 6) (.int .i64 0) ?_
  refine ps_k (o_MessageKnown 126 7) (.slice Aj 75 cj) ?_
  refine ps_k (o_MessageKnown 126 8) (.int .i64 0) ?_
  refine ps_end ?_
  refine then_n ?_
  refine sy_sq (part_MessageKnown 254) (part_MessageKnown 255) ?_
  refine sy_reg ?_
  refine rg_plain 6 (opsAt (part_MessageKnown 254)) [0, 1, 2, 3, 4, 5, 6, 7, 8, 9, 10, 11, 12, 13, 14, 15, 16, 17, 18] (by kernel_rfl) (by kernel_rfl) ?_
  refine ps_k (o_MessageKnown 254 0) (.agg (Msg.c kx1)) ?_
  refine ps_c (o_MessageKnown 254 1) 17 #[.agg (Msg.c kx1)] Try.func17 ((mCheck_is kx1 _ _ kx1_ok.R kx1_c).mono ?_)
  rintro e V146 ⟨rfl, kV146⟩
  refine ⟨_, rfl, ?_⟩
  have h147 := kV146.bk h137
  have h148 := kV146.bk h138
  have h149 := kV146.bk h139
  have h150 := kV146.bk h140
  have h151 := kV146.bk h141
  have h152 := kV146.bk h142
  have h153 := kV146.bk h143
  have K154 := K144.nn kV146
  have z155 := kV146.size
  refine ps_k (o_MessageKnown 254 2) (.bool true) ?_
  refine ps_k (o_MessageKnown 254 3) (.bool true) ?_
  refine ps_k (o_MessageKnown 254 4) (.agg (Msg.c kx2)) ?_
  refine ps_c (o_MessageKnown 254 5) 17 #[.agg (Msg.c kx2)] Try.func17 ((mCheck_is kx2 _ _ kx2_ok.R kx2_c).mono ?_)
  rintro e V156 ⟨rfl, kV156⟩
  refine ⟨_, rfl, ?_⟩
  have h157 := kV156.bk h147
  have h158 := kV156.bk h148
  have h159 := kV156.bk h149
  have h160 := kV156.bk h150
  have h161 := kV156.bk h151
  have h162 := kV156.bk h152
  have h163 := kV156.bk h153
  have K164 := K154.nn kV156
  have z165 := kV156.size
  refine ps_k (o_MessageKnown 254 6) (.bool true) ?_
  refine ps_k (o_MessageKnown 254 7) (.bool true) ?_
  refine ps_k (o_MessageKnown 254 8) (.bool true) ?_
  refine ps_k (o_MessageKnown 254 9) (.agg (Msg.c kx3)) ?_
  refine ps_c (o_MessageKnown 254 10) 17 #[.agg (Msg.c kx3)] Try.func17 ((mCheck_is kx3 _ _ kx3_ok.R kx3_c).mono ?_)
  rintro e V166 ⟨rfl, kV166⟩
  refine ⟨_, rfl, ?_⟩
  have h167 := kV166.bk h157
  have h168 := kV166.bk h158
  have h169 := kV166.bk h159
  have h170 := kV166.bk h160
  have h171 := kV166.bk h161
  have h172 := kV166.bk h162
  have h173 := kV166.bk h163
  have K174 := K164.nn kV166
  have z175 := kV166.size
  refine ps_k (o_MessageKnown 254 11) (.bool true) ?_
  refine ps_k (o_MessageKnown 254 12) (.bool true) ?_
  refine ps_k (o_MessageKnown 254 13) (.bool true) ?_
  refine ps_k (o_MessageKnown 254 14) (.agg (Msg.c kx4)) ?_
  refine ps_c (o_MessageKnown 254 15) 17 #[.agg (Msg.c kx4)] Try.func17 ((mCheck_is kx4 _ _ kx4_ok.R kx4_c).mono ?_)
  rintro e V176 ⟨rfl, kV176⟩
  refine ⟨_, rfl, ?_⟩
  have h177 := kV176.bk h167
  have h178 := kV176.bk h168
  have h179 := kV176.bk h169
  have h180 := kV176.bk h170
  have h181 := kV176.bk h171
  have h182 := kV176.bk h172
  have h183 := kV176.bk h173
  have K184 := K174.nn kV176
  have z185 := kV176.size
  refine ps_k (o_MessageKnown 254 16) (.bool true) ?_
  refine ps_k (o_MessageKnown 254 17) (.bool true) ?_
  refine ps_k (o_MessageKnown 254 18) (.bool true) ?_
  refine ps_end ?_
  refine sy_a ⟨#[.bool false, .bool true, .bool true, .slice Ai 39 ci, .int .i64 0, pT gp 0, .slice Aj 75 cj, .int .i64 0, .bool true, undef, undef, undef, .agg (Msg.c kxc), .slice (some ⟨bc, 0, none⟩) 5 5, .bool true, .bool true, .agg (Msg.c kxd), .slice (some ⟨bd, 0, none⟩) 4 4, .bool true, .bool true, .agg #[.int .i64 1, .int .i64 7, .int .i64 3, .int .i64 4], .agg (Msg.c kxe), .slice (some ⟨be, 0, none⟩) 8 8, .bool true, .bool true, .agg (Msg.c kxf), .slice (some ⟨bf, 0, none⟩) 3 3, .bool true, .bool true, .bool true, .agg (Msg.c kxg), .slice (some ⟨bg, 0, none⟩) 2 2, .bool true, .bool true, .bool true, .agg (Msg.c kxh), .slice (some ⟨bh, 0, none⟩) 2 2, .bool true, .bool true, .tuple #[.slice Ai 39 ci, .int .i64 0], .agg (Att.c ⟨1, 0, 3, zeroH, 0⟩), .agg (Msg.c kxi), .tuple #[.slice Ai 39 ci, .int .i64 0], .slice Ai 39 ci, .int .i64 0, .agg (Pro.c ⟨1, 4, zeroH, 0⟩), .tuple #[.slice Aj 75 cj, .int .i64 0], .agg (Pro.c ⟨1, 4, zeroH, 0⟩), .agg (Pro.c ⟨1, 4, zeroH, 0⟩), .agg (Msg.c kxj), .tuple #[.slice Aj 75 cj, .int .i64 0], .slice Aj 75 cj, .int .i64 0, .agg (Msg.c kx1), .int .i64 5, .bool true, .bool true, .agg (Msg.c kx2), .int .i64 3, .bool true, .bool true, .bool true, .agg (Msg.c kx3), .int .i64 2, .bool true, .bool true, .bool true, .agg (Msg.c kx4), .int .i64 5, .bool true, .bool true, undef, undef, undef, undef, undef, undef, undef, undef, undef, undef, undef, undef, undef, undef, undef, undef, undef, undef, undef, undef, undef, undef, undef, undef, undef, undef, undef, undef, undef, undef, undef, undef, undef, undef, undef, undef, undef, undef, undef, undef, undef, undef, undef, undef, undef, undef, undef, undef, undef, undef, undef, undef, undef], []⟩ ?_
  refine then_n ?_
  refine sy_sq (part_MessageKnown 510) (part_MessageKnown 511) ?_
  refine sy_reg ?_
  refine rg_plain 7 (opsAt (part_MessageKnown 510)) [0, 1, 2, 3, 4, 5, 6] (by kernel_rfl) (by kernel_rfl) ?_
  refine ps_k (o_MessageKnown 510 0) (.agg (Msg.c kxh)) ?_
  refine ps_c (o_MessageKnown 510 1) 20 #[.agg (Msg.c kxh)] Try.func20 ((mActor_is kxh 0 false _ kxh_ok.R kxh_w).mono ?_)
  rintro e V186 ⟨rfl, kV186⟩
  refine ⟨_, rfl, ?_⟩
  have h187 := kV186.bk h177
  have h188 := kV186.bk h178
  have h189 := kV186.bk h179
  have h190 := kV186.bk h180
  have h191 := kV186.bk h181
  have h192 := kV186.bk h182
  have h193 := kV186.bk h183
  have K194 := K184.nn kV186
  have z195 := kV186.size
  refine ps_k (o_MessageKnown 510 2) (.tuple #[.int .i64 0, .bool false]) ?_
  refine ps_k (o_MessageKnown 510 3) (.int .i64 0) ?_
  refine ps_k (o_MessageKnown 510 4) (.bool false) ?_
  refine ps_k (o_MessageKnown 510 5) (.int .i64 0) ?_
  refine ps_k (o_MessageKnown 510 6) (.bool false) ?_
  refine ps_end ?_
  refine then_n ?_
  refine sy_sq (part_MessageKnown 1022) (part_MessageKnown 1023) ?_
  refine sy_reg ?_
  refine rg_plain 8 (opsAt (part_MessageKnown 1022)) [0, 1, 2, 3, 4, 5, 6, 7, 8, 9, 10, 11, 12, 13, 14] (by kernel_rfl) (by kernel_rfl) ?_
  obtain ⟨V196, eV196, e0_, ee0_, h197, kV196⟩ := alloc_step V186 (#[.int .u8 10]) 5
  have n198 : bc < e0_ := ee0_ ▸ lt_of_block h187
  have n199 : bd < e0_ := ee0_ ▸ lt_of_block h188
  have n200 : be < e0_ := ee0_ ▸ lt_of_block h189
  have n201 : bf < e0_ := ee0_ ▸ lt_of_block h190
  have n202 : bg < e0_ := ee0_ ▸ lt_of_block h191
  have n203 : bh < e0_ := ee0_ ▸ lt_of_block h192
  have n204 : gp < e0_ := ee0_ ▸ lt_of_block h193
  have n205 : w.heap.size ≤ e0_ := ee0_ ▸ K194.size
  refine ps_r (o_MessageKnown 1022 0) (.slice (some ⟨e0_, 0, none⟩) 1 1) (w' := V196) (by rw [← eV196, ← ee0_]; kernel_rfl) ?_
  have h206 := kV196.bk h187
  have h207 := kV196.bk h188
  have h208 := kV196.bk h189
  have h209 := kV196.bk h190
  have h210 := kV196.bk h191
  have h211 := kV196.bk h192
  have h212 := kV196.bk h193
  have K213 := K194.nn kV196
  have z214 := kV196.size
  refine ps_c (o_MessageKnown 1022 1) 36 #[.int .i64 6, .int .i64 1, .slice (some ⟨e0_, 0, none⟩) 1 1] Try.func36 ((lmfails_ok 6 1 _ [10] _ fl0_z fl0_m (Own.bytes_of_block h197 (by kernel_rfl) rfl (by decide)) (by decide)).mono ?_)
  rintro e V215 ⟨rfl, kV215⟩
  refine ⟨_, rfl, ?_⟩
  have h216 := kV215.bk h206
  have h217 := kV215.bk h207
  have h218 := kV215.bk h208
  have h219 := kV215.bk h209
  have h220 := kV215.bk h210
  have h221 := kV215.bk h211
  have h222 := kV215.bk h212
  have h223 := kV215.bk h197
  have K224 := K213.nn kV215
  have z225 := kV215.size
  refine ps_k (o_MessageKnown 1022 2) (.bool true) ?_
  obtain ⟨V226, eV226, e1_, ee1_, h227, kV226⟩ := alloc_step V215 (#[.int .u8 10, .int .u8 2, .int .u8 0]) 5
  have n228 : bc < e1_ := ee1_ ▸ lt_of_block h216
  have n229 : bd < e1_ := ee1_ ▸ lt_of_block h217
  have n230 : be < e1_ := ee1_ ▸ lt_of_block h218
  have n231 : bf < e1_ := ee1_ ▸ lt_of_block h219
  have n232 : bg < e1_ := ee1_ ▸ lt_of_block h220
  have n233 : bh < e1_ := ee1_ ▸ lt_of_block h221
  have n234 : gp < e1_ := ee1_ ▸ lt_of_block h222
  have n235 : e0_ < e1_ := ee1_ ▸ lt_of_block h223
  have n236 : w.heap.size ≤ e1_ := ee1_ ▸ K224.size
  refine ps_r (o_MessageKnown 1022 3) (.slice (some ⟨e1_, 0, none⟩) 3 3) (w' := V226) (by rw [← eV226, ← ee1_]; kernel_rfl) ?_
  have h237 := kV226.bk h216
  have h238 := kV226.bk h217
  have h239 := kV226.bk h218
  have h240 := kV226.bk h219
  have h241 := kV226.bk h220
  have h242 := kV226.bk h221
  have h243 := kV226.bk h222
  have h244 := kV226.bk h223
  have K245 := K224.nn kV226
  have z246 := kV226.size
  refine ps_c (o_MessageKnown 1022 4) 36 #[.int .i64 4, .int .i64 2, .slice (some ⟨e1_, 0, none⟩) 3 3] Try.func36 ((lmfails_ok 4 2 _ [10, 2, 0] _ fl1_z fl1_m (Own.bytes_of_block h227 (by kernel_rfl) rfl (by decide)) (by decide)).mono ?_)
  rintro e V247 ⟨rfl, kV247⟩
  refine ⟨_, rfl, ?_⟩
  have h248 := kV247.bk h237
  have h249 := kV247.bk h238
  have h250 := kV247.bk h239
  have h251 := kV247.bk h240
  have h252 := kV247.bk h241
  have h253 := kV247.bk h242
  have h254 := kV247.bk h243
  have h255 := kV247.bk h244
  have h256 := kV247.bk h227
  have K257 := K245.nn kV247
  have z258 := kV247.size
  refine ps_k (o_MessageKnown 1022 5) (.bool true) ?_
  refine ps_k (o_MessageKnown 1022 6) (.bool true) ?_
  obtain ⟨V259, eV259, e2_, ee2_, h260, kV259⟩ := alloc_step V247 (#[.int .u8 4, .int .u8 2, .int .u8 32]) 5
  have n261 : bc < e2_ := ee2_ ▸ lt_of_block h248
  have n262 : bd < e2_ := ee2_ ▸ lt_of_block h249
  have n263 : be < e2_ := ee2_ ▸ lt_of_block h250
  have n264 : bf < e2_ := ee2_ ▸ lt_of_block h251
  have n265 : bg < e2_ := ee2_ ▸ lt_of_block h252
  have n266 : bh < e2_ := ee2_ ▸ lt_of_block h253
  have n267 : gp < e2_ := ee2_ ▸ lt_of_block h254
  have n268 : e0_ < e2_ := ee2_ ▸ lt_of_block h255
  have n269 : e1_ < e2_ := ee2_ ▸ lt_of_block h256
  have n270 : w.heap.size ≤ e2_ := ee2_ ▸ K257.size
  refine ps_r (o_MessageKnown 1022 7) (.slice (some ⟨e2_, 0, none⟩) 3 3) (w' := V259) (by rw [← eV259, ← ee2_]; kernel_rfl) ?_
  have h271 := kV259.bk h248
  have h272 := kV259.bk h249
  have h273 := kV259.bk h250
  have h274 := kV259.bk h251
  have h275 := kV259.bk h252
  have h276 := kV259.bk h253
  have h277 := kV259.bk h254
  have h278 := kV259.bk h255
  have h279 := kV259.bk h256
  have K280 := K257.nn kV259
  have z281 := kV259.size
  refine ps_c (o_MessageKnown 1022 8) 36 #[.int .i64 3, .int .i64 2, .slice (some ⟨e2_, 0, none⟩) 3 3] Try.func36 ((lmfails_ok 3 2 _ [4, 2, 32] _ fl2_z fl2_m (Own.bytes_of_block h260 (by kernel_rfl) rfl (by decide)) (by decide)).mono ?_)
  rintro e V282 ⟨rfl, kV282⟩
  refine ⟨_, rfl, ?_⟩
  have h283 := kV282.bk h271
  have h284 := kV282.bk h272
  have h285 := kV282.bk h273
  have h286 := kV282.bk h274
  have h287 := kV282.bk h275
  have h288 := kV282.bk h276
  have h289 := kV282.bk h277
  have h290 := kV282.bk h278
  have h291 := kV282.bk h279
  have h292 := kV282.bk h260
  have K293 := K280.nn kV282
  have z294 := kV282.size
  refine ps_k (o_MessageKnown 1022 9) (.bool true) ?_
  refine ps_k (o_MessageKnown 1022 10) (.bool true) ?_
  obtain ⟨V295, eV295, e3_, ee3_, h296, kV295⟩ := alloc_step V282 (#[.int .u8 11, .int .u8 0]) 5
  have n297 : bc < e3_ := ee3_ ▸ lt_of_block h283
  have n298 : bd < e3_ := ee3_ ▸ lt_of_block h284
  have n299 : be < e3_ := ee3_ ▸ lt_of_block h285
  have n300 : bf < e3_ := ee3_ ▸ lt_of_block h286
  have n301 : bg < e3_ := ee3_ ▸ lt_of_block h287
  have n302 : bh < e3_ := ee3_ ▸ lt_of_block h288
  have n303 : gp < e3_ := ee3_ ▸ lt_of_block h289
  have n304 : e0_ < e3_ := ee3_ ▸ lt_of_block h290
  have n305 : e1_ < e3_ := ee3_ ▸ lt_of_block h291
  have n306 : e2_ < e3_ := ee3_ ▸ lt_of_block h292
  have n307 : w.heap.size ≤ e3_ := ee3_ ▸ K293.size
  refine ps_r (o_MessageKnown 1022 11) (.slice (some ⟨e3_, 0, none⟩) 2 2) (w' := V295) (by rw [← eV295, ← ee3_]; kernel_rfl) ?_
  have h308 := kV295.bk h283
  have h309 := kV295.bk h284
  have h310 := kV295.bk h285
  have h311 := kV295.bk h286
  have h312 := kV295.bk h287
  have h313 := kV295.bk h288
  have h314 := kV295.bk h289
  have h315 := kV295.bk h290
  have h316 := kV295.bk h291
  have h317 := kV295.bk h292
  have K318 := K293.nn kV295
  have z319 := kV295.size
  refine ps_c (o_MessageKnown 1022 12) 36 #[.int .i64 3, .int .i64 1, .slice (some ⟨e3_, 0, none⟩) 2 2] Try.func36 ((lmfails_ok 3 1 _ [11, 0] _ fl3_z fl3_m (Own.bytes_of_block h296 (by kernel_rfl) rfl (by decide)) (by decide)).mono ?_)
  rintro e V320 ⟨rfl, kV320⟩
  refine ⟨_, rfl, ?_⟩
  have h321 := kV320.bk h308
  have h322 := kV320.bk h309
  have h323 := kV320.bk h310
  have h324 := kV320.bk h311
  have h325 := kV320.bk h312
  have h326 := kV320.bk h313
  have h327 := kV320.bk h314
  have h328 := kV320.bk h315
  have h329 := kV320.bk h316
  have h330 := kV320.bk h317
  have h331 := kV320.bk h296
  have K332 := K318.nn kV320
  have z333 := kV320.size
  refine ps_k (o_MessageKnown 1022 13) (.bool true) ?_
  refine ps_k (o_MessageKnown 1022 14) (.bool true) ?_
  refine ps_end ?_
  refine then_n ?_
  refine sy_sq (part_MessageKnown 2046) (part_MessageKnown 2047) ?_
  refine sy_reg ?_
  refine rg_plain 9 (opsAt (part_MessageKnown 2046)) [0, 1, 2, 3, 4, 5, 6, 7, 8, 9, 10, 11, 12, 13, 14, 15, 16, 17, 18, 19, 20, 21, 22, 23, 24, 25, 26, 27, 28, 29, 30, 31, 32, 33, 34] (by kernel_rfl) (by kernel_rfl) ?_
  refine ps_c (o_MessageKnown 2046 0) 9 #[] Try.func9 ((lmawake_ok _).mono ?_)
  rintro e V334 ⟨rfl, kV334⟩
  refine ⟨_, rfl, ?_⟩
  have h335 := kV334.bk h321
  have h336 := kV334.bk h322
  have h337 := kV334.bk h323
  have h338 := kV334.bk h324
  have h339 := kV334.bk h325
  have h340 := kV334.bk h326
  have h341 := kV334.bk h327
  have h342 := kV334.bk h328
  have h343 := kV334.bk h329
  have h344 := kV334.bk h330
  have h345 := kV334.bk h331
  have K346 := K332.nn kV334
  have z347 := kV334.size
  refine ps_k (o_MessageKnown 2046 1) (.bool true) ?_
  refine ps_k (o_MessageKnown 2046 2) (.bool true) ?_
  refine ps_k (o_MessageKnown 2046 3) (.bool true) ?_
  refine ps_k (o_MessageKnown 2046 4) (.bool true) ?_
  refine ps_k (o_MessageKnown 2046 5) (.bool true) ?_
  refine ps_k (o_MessageKnown 2046 6) (.bool true) ?_
  refine ps_k (o_MessageKnown 2046 7) (.bool true) ?_
  refine ps_k (o_MessageKnown 2046 8) (.slice Ai 39 ci) ?_
  refine ps_p (o_MessageKnown 2046 9) (.int .i64 39) (exec_len (.tmp 98) 22 _ (by kernel_rfl) Try.underlying22 Ai 39 ci (by kernel_rfl)) ?_
  refine ps_k (o_MessageKnown 2046 10) (.bool true) ?_
  refine ps_k (o_MessageKnown 2046 11) (.bool true) ?_
  refine ps_k (o_MessageKnown 2046 12) (.bool true) ?_
  refine ps_k (o_MessageKnown 2046 13) (.slice Aj 75 cj) ?_
  refine ps_p (o_MessageKnown 2046 14) (.int .i64 75) (exec_len (.tmp 103) 22 _ (by kernel_rfl) Try.underlying22 Aj 75 cj (by kernel_rfl)) ?_
  refine ps_k (o_MessageKnown 2046 15) (.bool true) ?_
  refine ps_k (o_MessageKnown 2046 16) (.bool true) ?_
  refine ps_k (o_MessageKnown 2046 17) (.bool true) ?_
  refine ps_k (o_MessageKnown 2046 18) (.bool true) ?_
  refine ps_k (o_MessageKnown 2046 19) (.bool true) ?_
  refine ps_k (o_MessageKnown 2046 20) (.bool true) ?_
  refine ps_k (o_MessageKnown 2046 21) (.int .i64 0) ?_
  refine ps_k (o_MessageKnown 2046 22) (.bool true) ?_
  refine ps_k (o_MessageKnown 2046 23) (.bool true) ?_
  refine ps_k (o_MessageKnown 2046 24) (.bool true) ?_
  refine ps_k (o_MessageKnown 2046 25) (.bool false) ?_
  refine ps_k (o_MessageKnown 2046 26) (.bool true) ?_
  refine ps_k (o_MessageKnown 2046 27) (.bool true) ?_
  refine ps_k (o_MessageKnown 2046 28) (.bool true) ?_
  refine ps_k (o_MessageKnown 2046 29) (.bool true) ?_
  refine ps_k (o_MessageKnown 2046 30) (.bool true) ?_
  refine ps_k (o_MessageKnown 2046 31) (.bool true) ?_
  refine ps_c (o_MessageKnown 2046 32) 37 #[] Try.func37 ((lmpacks_ok _).mono ?_)
  rintro e V348 ⟨rfl, kV348⟩
  refine ⟨_, rfl, ?_⟩
  have h349 := kV348.bk h335
  have h350 := kV348.bk h336
  have h351 := kV348.bk h337
  have h352 := kV348.bk h338
  have h353 := kV348.bk h339
  have h354 := kV348.bk h340
  have h355 := kV348.bk h341
  have h356 := kV348.bk h342
  have h357 := kV348.bk h343
  have h358 := kV348.bk h344
  have h359 := kV348.bk h345
  have K360 := K346.nn kV348
  have z361 := kV348.size
  refine ps_k (o_MessageKnown 2046 33) (.bool true) ?_
  refine ps_k (o_MessageKnown 2046 34) (.bool true) ?_
  refine ps_end ?_
  refine sy_a ⟨#[.bool true, .bool true, .bool true, .slice Ai 39 ci, .int .i64 0, pT gp 0, .slice Aj 75 cj, .int .i64 0, .bool true, .int .i64 0, .bool false, .bool true, .agg (Msg.c kxc), .slice (some ⟨bc, 0, none⟩) 5 5, .bool true, .bool true, .agg (Msg.c kxd), .slice (some ⟨bd, 0, none⟩) 4 4, .bool true, .bool true, .agg #[.int .i64 1, .int .i64 7, .int .i64 3, .int .i64 4], .agg (Msg.c kxe), .slice (some ⟨be, 0, none⟩) 8 8, .bool true, .bool true, .agg (Msg.c kxf), .slice (some ⟨bf, 0, none⟩) 3 3, .bool true, .bool true, .bool true, .agg (Msg.c kxg), .slice (some ⟨bg, 0, none⟩) 2 2, .bool true, .bool true, .bool true, .agg (Msg.c kxh), .slice (some ⟨bh, 0, none⟩) 2 2, .bool true, .bool true, .tuple #[.slice Ai 39 ci, .int .i64 0], .agg (Att.c ⟨1, 0, 3, zeroH, 0⟩), .agg (Msg.c kxi), .tuple #[.slice Ai 39 ci, .int .i64 0], .slice Ai 39 ci, .int .i64 0, .agg (Pro.c ⟨1, 4, zeroH, 0⟩), .tuple #[.slice Aj 75 cj, .int .i64 0], .agg (Pro.c ⟨1, 4, zeroH, 0⟩), .agg (Pro.c ⟨1, 4, zeroH, 0⟩), .agg (Msg.c kxj), .tuple #[.slice Aj 75 cj, .int .i64 0], .slice Aj 75 cj, .int .i64 0, .agg (Msg.c kx1), .int .i64 5, .bool true, .bool true, .agg (Msg.c kx2), .int .i64 3, .bool true, .bool true, .bool true, .agg (Msg.c kx3), .int .i64 2, .bool true, .bool true, .bool true, .agg (Msg.c kx4), .int .i64 5, .bool true, .bool true, .tuple #[.int .i64 0, .bool false], .agg (Msg.c kxh), .tuple #[.int .i64 0, .bool false], .int .i64 0, .bool false, .slice (some ⟨e0_, 0, none⟩) 1 1, .bool true, .bool true, .slice (some ⟨e1_, 0, none⟩) 3 3, .bool true, .bool true, .bool true, .slice (some ⟨e2_, 0, none⟩) 3 3, .bool true, .bool true, .bool true, .slice (some ⟨e3_, 0, none⟩) 2 2, .bool true, .bool true, .bool true, .bool true, .bool true, .bool true, .bool true, .bool true, .bool true, .bool true, .slice Ai 39 ci, .int .i64 39, .bool true, .bool true, .bool true, .slice Aj 75 cj, .int .i64 75, .bool true, .bool true, .bool true, .bool true, .bool true, .bool true, .int .i64 0, .bool true, .bool true, .bool true, .bool false, .bool true, .bool true, .bool true, .bool true, .bool true, .bool true, .bool true, .bool true], []⟩ ?_
  refine then_n ?_
  refine sy_ret (by kernel_rfl) ?_
  refine sy_out (.bool true) rfl (by kernel_rfl) ?_
  exact ⟨rfl, K360⟩
end Go.Proofs.Ytmapcghgdbfmhaa
