/-
  Messages: their bytes (printed by msg5.py). Conditions: none.
-/
import Derived.Test.YtmapcghgdbfmhaaMsgG
namespace Go.Proofs.Ytmapcghgdbfmhaa
open Go Go.RowKit Go.Own Go.Shelf
/-- The bytes of a thing. -/
def itB (m : Msg) : MIt → List UInt8
  | .n x lo _ => Cod.enc (x.get m - min lo 0).toNat | .a x => Cod.enc (x.get m) | .h x => x.get m | .k x => Cod.enc x.toNat
def Msg.by (m : Msg) : List UInt8 := Cod.enc m.k.toNat ++ m.items.flatMap (itB m)
def Msg.told (m : Msg) : List UInt8 := if m.chk = 0 then m.by else []
theorem itB_len {m : Msg} (hr : m.R) (i : MIt) : (itB m i).length ≤ 32 := by
  cases i with
  | n x lo hi => exact Nat.le_trans (Cod.enc_length _) (by decide)
  | a x => exact Nat.le_trans (Cod.enc_length _) (by decide)
  | h x => rw [show itB m (.h x) = x.get m from rfl, HF.len hr]; exact Nat.le_refl _
  | k x => exact Nat.le_trans (Cod.enc_length _) (by decide)
theorem flat_le {m : Msg} (hr : m.R) (l : List MIt) : (l.flatMap (itB m)).length ≤ 32 * l.length := by
  induction l with
  | nil => simp
  | cons i r ih => have := itB_len hr i; simp only [List.flatMap_cons, List.length_append, List.length_cons]; omega
theorem kM_len (k : Nat) : (kM k).length ≤ 14 := by unfold kM; split <;> simp [lotM, voteM, blockM]
theorem evM_len (p : Int) : (evM p).length ≤ 12 := by unfold evM; split <;> simp [voteM, blockM]
theorem items_len (m : Msg) : m.items.length ≤ 14 := by
  unfold Msg.items
  split
  · have := evM_len m.pf; simp only [List.length_append, List.length_cons, List.length_nil]; omega
  · exact kM_len _
theorem by_len {m : Msg} (hr : m.R) : m.by.length ≤ 458 := by
  have := flat_le hr m.items; have := items_len m; have := Cod.enc_length m.k.toNat
  unfold Msg.by; rw [List.length_append]; omega
theorem add_it (m : Msg) (out : List UInt8) (i : MIt) (h : out.length + (itB m i).length ≤ 4096) : wrIt m ⟨4096, out, 0⟩ i = ⟨4096, out ++ itB m i, 0⟩ := by
  have e : wrIt m ⟨4096, out, 0⟩ i = (⟨4096, out, 0⟩ : WS).add (itB m i) := by cases i <;> rfl
  rw [e]; unfold WS.add; rw [if_pos rfl, if_neg (by show ¬ (4096 : Int) - (out.length : Int) < _; omega)]
theorem wr_list {m : Msg} (hr : m.R) (l : List MIt) : ∀ out : List UInt8, out.length + 32 * l.length ≤ 4096 → l.foldl (wrIt m) ⟨4096, out, 0⟩ = ⟨4096, out ++ l.flatMap (itB m), 0⟩ := by
  induction l with
  | nil => intro out _; simp
  | cons i r ih =>
    intro out h
    have h1 := itB_len hr i
    simp only [List.length_cons] at h
    rw [List.foldl_cons, add_it m out i (by omega), ih _ (by rw [List.length_append]; omega), List.flatMap_cons, List.append_assoc]
theorem wr_all {m : Msg} (hr : m.R) : wrAll m ((⟨4096, [], 0⟩ : WS).add (Cod.enc m.k.toNat)) = ⟨4096, m.by, 0⟩ := by
  have h1 := Cod.enc_length m.k.toNat; have h2 := items_len m
  have e : (⟨4096, [], 0⟩ : WS).add (Cod.enc m.k.toNat) = ⟨4096, Cod.enc m.k.toNat, 0⟩ := by
    unfold WS.add; rw [if_pos rfl, if_neg (by show ¬ (4096 : Int) - 0 < _; omega)]; rfl
  rw [e]; unfold wrAll; rw [wr_list hr _ _ (by omega)]; rfl
theorem Msg.Ok.am' {m : Msg} (h : m.Ok) : Am m := by
  intro x; cases x
  · exact h.am
  · exact h.mn
  · exact h.a.g
  · exact h.b.g
  · exact h.p.g
  · exact h.q.g
theorem chk_0 {m : Msg} (h : m.chk = 0) : m.form ∧ m.items.all (chkIt m) = true ∧ clrAll m = onlyK m.k := by
  unfold Msg.chk at h
  split at h
  · split at h
    · split at h
      · exact ⟨‹_›, ‹_›, ‹_›⟩
      · cases h
    · cases h
  · cases h

noncomputable def part_mBytes (n : Nat) : Code := partOf Try.f14 n
noncomputable abbrev o_mBytes (n k : Nat) : Oper := (opsAt (part_mBytes n)).getD k default
set_option maxRecDepth 100000 in
set_option maxHeartbeats 4000000 in
theorem mBytes_bad (m : Msg) (w : World) (hok : m.Ok) (hc : ¬ m.chk = 0) :
    Calls Try.prog 14 #[.agg (Msg.c m)] w (fun e w' => ∃ X, e = .returned (.tuple #[X, .int .i64 m.chk]) ∧ Row w' 5 1 X m.told.length (B m.told) ∧ NewFrom w.heap.size X ∧ Keeps Nob w w') := by
  have hr := hok.R
  have ha := hok.am'
  have K0 : Keeps Nob w w := Keeps.refl _ _
  refine sy_enter (part_mBytes 1) ⟨#[.agg (Msg.c m), undef, undef, undef, undef, undef, undef, undef, undef, undef, undef, undef, undef, undef, undef, undef, undef, undef, undef, undef, undef, undef, undef, undef, undef, undef, undef, undef, undef, undef], []⟩ Try.func14 (by kernel_rfl) (by kernel_rfl) ?_
  refine sy_sq (part_mBytes 2) (part_mBytes 3) ?_
  refine sy_reg ?_
  refine rg_plain 0 (opsAt (part_mBytes 2)) [0, 1, 2] (by kernel_rfl) (by kernel_rfl) ?_
  obtain ⟨V1, eV1, gm, egm, h2, kV1⟩ := alloc_step w ((Msg.c m)) 35
  have n3 : w.heap.size ≤ gm := egm ▸ K0.size
  refine ps_r (o_mBytes 2 0) (pT gm 0) (w' := V1) (by rw [← eV1, ← egm]; exact exec_box 35 (.tmp 0) (by kernel_rfl) (.agg (Msg.c m)) (by kernel_rfl)) ?_
  clear eV1
  have K4 := K0.nn kV1
  refine ps_k (o_mBytes 2 1) (.slice none 0 0) ?_
  refine ps_k (o_mBytes 2 2) (.int .i64 0) ?_
  refine ps_end ?_
  refine then_n ?_
  refine sy_sq (part_mBytes 6) (part_mBytes 7) ?_
  refine sy_sq (part_mBytes 12) (part_mBytes 13) ?_
  refine sy_reg ?_
  refine rg_plain 1 (opsAt (part_mBytes 12)) [0, 1, 2] (by kernel_rfl) (by kernel_rfl) ?_
  refine ps_p (o_mBytes 12 0) (.agg (Msg.c m)) (exec_load_row 35 (.tmp 1) (by kernel_rfl) gm (by kernel_rfl) _ _ (0, 0) _ (h2) Try.underlying35 rfl (by rw [Msg.c_size hr]; kernel_rfl)) ?_
  refine ps_c (o_mBytes 12 1) 17 #[.agg (Msg.c m)] Try.func17 ((mCheck_any m _ hr).mono ?_)
  rintro e V5 ⟨rfl, kV5⟩
  refine ⟨_, rfl, ?_⟩
  have h6 := kV5.bk h2
  have K7 := K4.nn kV5
  refine ps_k (o_mBytes 12 2) (.int .i64 m.chk) ?_
  refine ps_end ?_
  refine then_n ?_
  refine sy_sq (part_mBytes 26) (part_mBytes 27) ?_
  refine sy_reg ?_
  refine rg_plain 2 (opsAt (part_mBytes 26)) [0, 1] (by kernel_rfl) (by kernel_rfl) ?_
  refine ps_k (o_mBytes 26 0) (.int .i64 m.chk) ?_
  refine ps_p (o_mBytes 26 1) (.bool true) (nqt ((m.chk) : Int) ((0) : Int) (by omega)) ?_
  refine ps_end ?_
  refine then_n ?_
  refine sy_ys (.tmp 11) (part_mBytes 54) (part_mBytes 55) ?_
  refine sy_sq (part_mBytes 108) (part_mBytes 109) ?_
  refine sy_reg ?_
  refine rg_plain 3 (opsAt (part_mBytes 108)) [0, 1, 2] (by kernel_rfl) (by kernel_rfl) ?_
  refine ps_k (o_mBytes 108 0) (.int .i64 m.chk) ?_
  refine ps_k (o_mBytes 108 1) (.slice none 0 0) ?_
  refine ps_k (o_mBytes 108 2) (.int .i64 m.chk) ?_
  refine ps_end ?_
  refine then_n ?_
  refine sy_ret (by kernel_rfl) ?_
  refine then_r ?_
  refine sy_out (.tuple #[.slice none 0 0, .int .i64 m.chk]) rfl (by kernel_rfl) ?_
  exact ⟨_, rfl, by rw [Msg.told, if_neg hc]; exact World.ownsRow_nil _ _ _ _, NewFrom.nil _, K7⟩
set_option maxRecDepth 100000 in
set_option maxHeartbeats 4000000 in
theorem mBytes_ok (m : Msg) (w : World) (hok : m.Ok) (hc : m.chk = 0) :
    Calls Try.prog 14 #[.agg (Msg.c m)] w (fun e w' => ∃ X, e = .returned (.tuple #[X, .int .i64 m.chk]) ∧ Row w' 5 1 X m.told.length (B m.told) ∧ NewFrom w.heap.size X ∧ Keeps Nob w w') := by
  have hr := hok.R
  have ha := hok.am'
  obtain ⟨hf, hall, _⟩ := chk_0 hc
  have K0 : Keeps Nob w w := Keeps.refl _ _
  refine sy_enter (part_mBytes 1) ⟨#[.agg (Msg.c m), undef, undef, undef, undef, undef, undef, undef, undef, undef, undef, undef, undef, undef, undef, undef, undef, undef, undef, undef, undef, undef, undef, undef, undef, undef, undef, undef, undef, undef], []⟩ Try.func14 (by kernel_rfl) (by kernel_rfl) ?_
  refine sy_sq (part_mBytes 2) (part_mBytes 3) ?_
  refine sy_reg ?_
  refine rg_plain 0 (opsAt (part_mBytes 2)) [0, 1, 2] (by kernel_rfl) (by kernel_rfl) ?_
  obtain ⟨V1, eV1, gm, egm, h2, kV1⟩ := alloc_step w ((Msg.c m)) 35
  have n3 : w.heap.size ≤ gm := egm ▸ K0.size
  refine ps_r (o_mBytes 2 0) (pT gm 0) (w' := V1) (by rw [← eV1, ← egm]; exact exec_box 35 (.tmp 0) (by kernel_rfl) (.agg (Msg.c m)) (by kernel_rfl)) ?_
  clear eV1
  have K4 := K0.nn kV1
  refine ps_k (o_mBytes 2 1) (.slice none 0 0) ?_
  refine ps_k (o_mBytes 2 2) (.int .i64 0) ?_
  refine ps_end ?_
  refine then_n ?_
  refine sy_sq (part_mBytes 6) (part_mBytes 7) ?_
  refine sy_sq (part_mBytes 12) (part_mBytes 13) ?_
  refine sy_reg ?_
  refine rg_plain 1 (opsAt (part_mBytes 12)) [0, 1, 2] (by kernel_rfl) (by kernel_rfl) ?_
  refine ps_p (o_mBytes 12 0) (.agg (Msg.c m)) (exec_load_row 35 (.tmp 1) (by kernel_rfl) gm (by kernel_rfl) _ _ (0, 0) _ (h2) Try.underlying35 rfl (by rw [Msg.c_size hr]; kernel_rfl)) ?_
  refine ps_c (o_mBytes 12 1) 17 #[.agg (Msg.c m)] Try.func17 ((mCheck_any m _ hr).mono ?_)
  rintro e V5 ⟨rfl, kV5⟩
  refine ⟨_, rfl, ?_⟩
  have h6 := kV5.bk h2
  have K7 := K4.nn kV5
  refine ps_k (o_mBytes 12 2) (.int .i64 m.chk) ?_
  refine ps_end ?_
  refine then_n ?_
  refine sy_sq (part_mBytes 26) (part_mBytes 27) ?_
  refine sy_reg ?_
  refine rg_plain 2 (opsAt (part_mBytes 26)) [0, 1] (by kernel_rfl) (by kernel_rfl) ?_
  refine ps_k (o_mBytes 26 0) (.int .i64 m.chk) ?_
  refine ps_p (o_mBytes 26 1) (.bool false) (exec_cast (congrArg Value.bool (show ((((m.chk) : Int) != ((0) : Int))) = false from by rw [hc]; rfl)) (by kernel_rfl)) ?_
  refine ps_end ?_
  refine then_n ?_
  refine sy_n (.tmp 11) (part_mBytes 54) (part_mBytes 55) ?_
  refine sy_sk ?_
  refine then_n ?_
  refine sy_sq (part_mBytes 14) (part_mBytes 15) ?_
  refine sy_reg ?_
  refine rg_plain 4 (opsAt (part_mBytes 14)) [0, 1, 2, 3, 4, 5] (by kernel_rfl) (by kernel_rfl) ?_
  have hgl := lt_of_block h6
  have hK1 := K7.size
  refine ps_c (o_mBytes 14 0) 47 #[.int .i64 4096] Try.func47 ((wr_new 4096 _ (by decide) (by decide)).mono ?_)
  rintro e V8 ⟨b, F0, rfl, hV8, hge0, kV8⟩
  have hge : ∀ j, F0 j → w.heap.size ≤ j := fun j h => Nat.le_trans hK1 (hge0 j h)
  have hk8 := kV8.size
  refine ⟨_, rfl, ?_⟩
  have h9 := kV8.bk h6
  have K10 := K7.nn kV8
  refine ps_k (o_mBytes 14 1) (.tuple #[pT b 0, .int .i64 0]) ?_
  refine ps_k (o_mBytes 14 2) (pT b 0) ?_
  refine ps_k (o_mBytes 14 3) (.int .i64 0) ?_
  refine ps_k (o_mBytes 14 4) (pT b 0) ?_
  refine ps_k (o_mBytes 14 5) (.int .i64 0) ?_
  refine ps_end ?_
  refine then_n ?_
  refine sy_sq (part_mBytes 30) (part_mBytes 31) ?_
  refine sy_reg ?_
  refine rg_plain 5 (opsAt (part_mBytes 30)) [0, 1, 2, 3] (by kernel_rfl) (by kernel_rfl) ?_
  refine ps_k (o_mBytes 30 0) (pT b 0) ?_
  refine ps_k (o_mBytes 30 1) (pT gm 0) ?_
  refine ps_p (o_mBytes 30 2) (.int .i64 m.k) (exec_ld 3 (.tmp 18) gm 0 Try.underlying3 (rc (h9) (Msg.get_n hr NF.k))) ?_
  refine ps_c (o_mBytes 30 3) 48 #[pT b 0, .int .i64 m.k] Try.func48 ((Wr.n hV8 m.k (by have := hf.1; omega) (by have := hf.1; omega)).mono ?_)
  rintro e V11 ⟨rfl, F1, hV11, hS1⟩
  have hlt1 := hV11.lt
  have hge1 : ∀ j, F1 j → w.heap.size ≤ j := hS1.ge hge (by omega)
  refine ⟨_, rfl, ?_⟩
  have h12 : V11.heap[gm]? = some (.cells (Msg.c m) 35 (0, 0)) := (hS1.1.block gm (lt_of_block h9) (fun e => by have := hge0 _ e; omega)).trans h9
  have K13 : Keeps Nob w V11 := K10.then hS1.1 (fun i hi hm => absurd hi (by have := hge i hm; omega))
  refine ps_end ?_
  refine then_n ?_
  refine sy_sq (part_mBytes 62) (part_mBytes 63) ?_
  refine sy_reg ?_
  refine rg_plain 6 (opsAt (part_mBytes 62)) [0, 1, 2] (by kernel_rfl) (by kernel_rfl) ?_
  refine ps_p (o_mBytes 62 0) (.agg (Msg.c m)) (exec_load_row 35 (.tmp 1) (by kernel_rfl) gm (by kernel_rfl) _ _ (0, 0) _ (h12) Try.underlying35 rfl (by rw [Msg.c_size hr]; kernel_rfl)) ?_
  obtain ⟨V14, eV14, gc, egc, h15, kV14⟩ := alloc_step V11 ((Msg.c msgZ)) 70
  have n16 : gm < gc := egc ▸ lt_of_block h12
  have n17 : w.heap.size ≤ gc := egc ▸ K13.size
  refine ps_r (o_mBytes 62 1) (pT gc 0) (w' := V14) (by rw [← eV14, ← egc]; exact exec_alloc0 70 (by kernel_rfl) (.agg ((Msg.c msgZ))) (by kernel_rfl)) ?_
  clear eV14
  have h18 := kV14.bk h12
  have h19 : Wr V14 F1 b ((⟨4096, [], 0⟩ : WS).add (Cod.enc m.k.toNat)) := hV11.keepsN kV14
  have K20 := K13.nn kV14
  obtain ⟨V21, eV21, kV21⟩ := rowset_step V14 gc ((Msg.c m))
  have h22 : V21.heap[gc]? = some (.cells (Msg.c m) 70 (0, 0)) := eV21 ▸ setRow_heap _ _ _ _ _ _ h15
  refine ps_s (o_mBytes 62 2) (w' := V21) (by rw [← eV21]; exact exec_store_row 70 (.tmp 7) (.tmp 21) (by kernel_rfl) gc ((Msg.c m)) (by kernel_rfl) (by kernel_rfl) 70 ((Msg.c msgZ)) h15 (by rw [Msg.c_size hr]; kernel_rfl) (by rw [Msg.c_size hr]; exact (Msg.c_size msgZ_R).symm) (Msg.c_one _)) ?_
  clear eV21
  have h23 := kV21.bo h18 (by omega)
  have h24 : Wr V21 F1 b ((⟨4096, [], 0⟩ : WS).add (Cod.enc m.k.toNat)) := h19.keeps kV21 (fun j hj e => by have := hlt1 j hj; unfold Own.One at e; omega)
  have K25 := K20.no kV21 (by omega)
  refine ps_end ?_
  refine then_n ?_
  refine sy_sq (part_mBytes 126) (part_mBytes 127) ?_
  refine sy_reg ?_
  refine rg_plain 7 (opsAt (part_mBytes 126)) [0, 1, 2, 3] (by kernel_rfl) (by kernel_rfl) ?_
  refine ps_k (o_mBytes 126 0) (pT b 0) ?_
  refine ps_k (o_mBytes 126 1) (.agg #[pT b 0]) ?_
  refine ps_k (o_mBytes 126 2) (.iface 84 (.agg #[pT b 0])) ?_
  have hgF : ¬ F1 gc := fun h => by have := hlt1 gc h; omega
  refine ps_P (o_mBytes 126 3) 41 #[.pointer (some ⟨gc, 0, none⟩), .iface 84 (.agg #[.pointer (some ⟨b, 0, none⟩)])] _ _ (run_callF (o_mBytes 126 3) 41 #[.pointer (some ⟨gc, 0, none⟩), .iface 84 (.agg #[.pointer (some ⟨b, 0, none⟩)])] (by kernel_rfl) rfl (by kernel_rfl) (enters_of Try.func41 (by kernel_rfl) rfl)) (mall_ok (wrV b) (wrV_ok b) gc m.k.toNat (fun w' => ∃ F', Wr w' F' b ⟨4096, m.by, 0⟩ ∧ Step V21 w' F1 F') (fun _ _ => False) _ _ _ (by have := hf.1; omega) (by have := hf.1; omega) h22 ((Msg.get_n hr NF.k).trans (congrArg (fun x => some (Value.int .i64 x)) (show m.k = ((m.k.toNat : Nat) : Int) by have := hf.1; omega))) (all_wr b m hr ha m.k.toNat (by have := hf.1; omega) _ F1 _ h22 h24 hgF hall (fun w' F' h1 h2 => ⟨F', wr_all hr ▸ h1, h2⟩))) (fun c w' h => h.elim) ?_
  rintro V26 ⟨F2, hV26, hS2⟩
  have K27 : Keeps Nob w V26 := K25.then hS2.1 (fun i hi hm => absurd hi (by have := hge1 i hm; omega))
  refine ps_end ?_
  refine sy_a ⟨#[.agg (Msg.c m), pT gm 0, .slice none 0 0, .int .i64 0, .int .i64 m.chk, pT b 0, .int .i64 0, pT gc 0, .agg (Msg.c m), .int .i64 m.chk, .int .i64 m.chk, .bool false, undef, .tuple #[pT b 0, .int .i64 0], .tuple #[pT b 0, .int .i64 0], pT b 0, .int .i64 0, pT b 0, pT gm 0, .int .i64 m.k, .int .i64 ((⟨4096, [], 0⟩ : WS).add (Cod.enc m.k.toNat)).err, .agg (Msg.c m), pT b 0, .agg #[pT b 0], .iface 84 (.agg #[pT b 0]), .tuple #[], undef, undef, undef, undef], []⟩ ?_
  refine then_n ?_
  refine sy_sq (part_mBytes 254) (part_mBytes 255) ?_
  refine sy_reg ?_
  refine rg_plain 8 (opsAt (part_mBytes 254)) [0, 1, 2, 3, 4, 5] (by kernel_rfl) (by kernel_rfl) ?_
  refine ps_k (o_mBytes 254 0) (pT b 0) ?_
  have hK9 := K27.size
  refine ps_c (o_mBytes 254 1) 49 #[pT b 0] Try.func49 ((Wr.done hV26).mono ?_)
  rintro e V28 ⟨X, rfl, ⟨hX, hXn⟩, kV28⟩
  refine ⟨_, rfl, ?_⟩
  have K29 := K27.nn kV28
  refine ps_k (o_mBytes 254 2) (X) ?_
  refine ps_k (o_mBytes 254 3) (.int .i64 0) ?_
  refine ps_k (o_mBytes 254 4) (X) ?_
  refine ps_k (o_mBytes 254 5) (.int .i64 0) ?_
  refine ps_end ?_
  refine then_n ?_
  refine sy_ret (by kernel_rfl) ?_
  refine sy_out (.tuple #[X, .int .i64 0]) rfl (by kernel_rfl) ?_
  exact ⟨X, by rw [hc], by rw [Msg.told, if_pos hc]; exact hX, fun j hj => Nat.le_trans hK9 (hXn j hj), K29⟩
theorem mBytes_any (m : Msg) (w : World) (hok : m.Ok) : Calls Try.prog 14 #[.agg (Msg.c m)] w (fun e w' => ∃ X, e = .returned (.tuple #[X, .int .i64 m.chk]) ∧ Row w' 5 1 X m.told.length (B m.told) ∧ NewFrom w.heap.size X ∧ Keeps Nob w w') := by
  by_cases hc : m.chk = 0
  · exact mBytes_ok m w hok hc
  · exact mBytes_bad m w hok hc
noncomputable def part_mActor (n : Nat) : Code := partOf Try.f20 n
noncomputable abbrev o_mActor (n k : Nat) : Oper := (opsAt (part_mActor n)).getD k default
set_option maxRecDepth 100000 in
set_option maxHeartbeats 4000000 in
theorem mActor_no (m : Msg) (w : World) (hr : m.R) (hk : ¬ (1 ≤ m.k ∧ m.k ≤ 11)) :
    Calls Try.prog 20 #[.agg (Msg.c m)] w (fun e w' => e = .returned (.tuple #[.int .i64 0, .bool false]) ∧ Keeps Nob w w') := by
  have K0 : Keeps Nob w w := Keeps.refl _ _
  refine sy_enter (part_mActor 1) ⟨#[.agg (Msg.c m), undef, undef, undef, undef, undef, undef, undef, undef, undef, undef, undef, undef, undef, undef], []⟩ Try.func20 (by kernel_rfl) (by kernel_rfl) ?_
  refine sy_sq (part_mActor 2) (part_mActor 3) ?_
  refine sy_reg ?_
  refine rg_plain 0 (opsAt (part_mActor 2)) [0, 1, 2] (by kernel_rfl) (by kernel_rfl) ?_
  obtain ⟨V1, eV1, gm, egm, h2, kV1⟩ := alloc_step w ((Msg.c m)) 35
  have n3 : w.heap.size ≤ gm := egm ▸ K0.size
  refine ps_r (o_mActor 2 0) (pT gm 0) (w' := V1) (by rw [← eV1, ← egm]; exact exec_box 35 (.tmp 0) (by kernel_rfl) (.agg (Msg.c m)) (by kernel_rfl)) ?_
  clear eV1
  have K4 := K0.nn kV1
  refine ps_k (o_mActor 2 1) (.int .i64 0) ?_
  refine ps_k (o_mActor 2 2) (.bool false) ?_
  refine ps_end ?_
  refine then_n ?_
  refine sy_sq (part_mActor 6) (part_mActor 7) ?_
  refine sy_sq (part_mActor 12) (part_mActor 13) ?_
  refine sy_reg ?_
  refine rg_plain 1 (opsAt (part_mActor 12)) [0, 1, 2, 3, 4, 5, 6, 7, 8] (by kernel_rfl) (by kernel_rfl) ?_
  refine ps_k (o_mActor 12 0) (pT gm 0) ?_
  refine ps_p (o_mActor 12 1) (.int .i64 m.k) (exec_ld 3 (.tmp 4) gm 0 Try.underlying3 (rc (h2) (Msg.get_n hr NF.k))) ?_
  refine ps_c (o_mActor 12 2) 40 #[.int .i64 m.k] Try.func40 ((mknown_no _ _ hk).mono ?_)
  rintro e w1 ⟨rfl, rfl⟩
  refine ⟨_, rfl, ?_⟩
  refine ps_k (o_mActor 12 3) (.bool true) ?_
  refine ps_k (o_mActor 12 4) (.bool true) ?_
  refine ps_n (o_mActor 12 5) ?_
  refine ps_n (o_mActor 12 6) ?_
  refine ps_n (o_mActor 12 7) ?_
  refine ps_k (o_mActor 12 8) (.bool true) ?_
  refine ps_end ?_
  refine then_n ?_
  refine sy_ys (.tmp 12) (part_mActor 26) (part_mActor 27) ?_
  refine sy_sq (part_mActor 52) (part_mActor 53) ?_
  refine sy_reg ?_
  refine rg_plain 2 (opsAt (part_mActor 52)) [0, 1] (by kernel_rfl) (by kernel_rfl) ?_
  refine ps_k (o_mActor 52 0) (.int .i64 0) ?_
  refine ps_k (o_mActor 52 1) (.bool false) ?_
  refine ps_end ?_
  refine then_n ?_
  refine sy_ret (by kernel_rfl) ?_
  refine then_r ?_
  refine sy_out (.tuple #[.int .i64 0, .bool false]) rfl (by kernel_rfl) ?_
  exact ⟨rfl, K4⟩
set_option maxRecDepth 100000 in
set_option maxHeartbeats 4000000 in
theorem mActor_tick (m : Msg) (w : World) (hr : m.R) (hk : 1 ≤ m.k ∧ m.k ≤ 11) (ht : m.k = 11) :
    Calls Try.prog 20 #[.agg (Msg.c m)] w (fun e w' => e = .returned (.tuple #[.int .i64 0, .bool false]) ∧ Keeps Nob w w') := by
  have K0 : Keeps Nob w w := Keeps.refl _ _
  refine sy_enter (part_mActor 1) ⟨#[.agg (Msg.c m), undef, undef, undef, undef, undef, undef, undef, undef, undef, undef, undef, undef, undef, undef], []⟩ Try.func20 (by kernel_rfl) (by kernel_rfl) ?_
  refine sy_sq (part_mActor 2) (part_mActor 3) ?_
  refine sy_reg ?_
  refine rg_plain 0 (opsAt (part_mActor 2)) [0, 1, 2] (by kernel_rfl) (by kernel_rfl) ?_
  obtain ⟨V1, eV1, gm, egm, h2, kV1⟩ := alloc_step w ((Msg.c m)) 35
  have n3 : w.heap.size ≤ gm := egm ▸ K0.size
  refine ps_r (o_mActor 2 0) (pT gm 0) (w' := V1) (by rw [← eV1, ← egm]; exact exec_box 35 (.tmp 0) (by kernel_rfl) (.agg (Msg.c m)) (by kernel_rfl)) ?_
  clear eV1
  have K4 := K0.nn kV1
  refine ps_k (o_mActor 2 1) (.int .i64 0) ?_
  refine ps_k (o_mActor 2 2) (.bool false) ?_
  refine ps_end ?_
  refine then_n ?_
  refine sy_sq (part_mActor 6) (part_mActor 7) ?_
  refine sy_sq (part_mActor 12) (part_mActor 13) ?_
  refine sy_reg ?_
  refine rg_plain 1 (opsAt (part_mActor 12)) [0, 1, 2, 3, 4, 5, 6, 7, 8] (by kernel_rfl) (by kernel_rfl) ?_
  refine ps_k (o_mActor 12 0) (pT gm 0) ?_
  refine ps_p (o_mActor 12 1) (.int .i64 m.k) (exec_ld 3 (.tmp 4) gm 0 Try.underlying3 (rc (h2) (Msg.get_n hr NF.k))) ?_
  refine ps_c (o_mActor 12 2) 40 #[.int .i64 m.k] Try.func40 ((mknown_yes _ _ hk.1 hk.2).mono ?_)
  rintro e w1 ⟨rfl, rfl⟩
  refine ⟨_, rfl, ?_⟩
  refine ps_k (o_mActor 12 3) (.bool false) ?_
  refine ps_k (o_mActor 12 4) (.bool false) ?_
  refine ps_k (o_mActor 12 5) (pT gm 0) ?_
  refine ps_p (o_mActor 12 6) (.int .i64 m.k) (exec_ld 3 (.tmp 9) gm 0 Try.underlying3 (rc (h2) (Msg.get_n hr NF.k))) ?_
  refine ps_p (o_mActor 12 7) (.bool true) (eqt ((m.k) : Int) ((11) : Int) (by omega)) ?_
  refine ps_k (o_mActor 12 8) (.bool true) ?_
  refine ps_end ?_
  refine then_n ?_
  refine sy_ys (.tmp 12) (part_mActor 26) (part_mActor 27) ?_
  refine sy_sq (part_mActor 52) (part_mActor 53) ?_
  refine sy_reg ?_
  refine rg_plain 2 (opsAt (part_mActor 52)) [0, 1] (by kernel_rfl) (by kernel_rfl) ?_
  refine ps_k (o_mActor 52 0) (.int .i64 0) ?_
  refine ps_k (o_mActor 52 1) (.bool false) ?_
  refine ps_end ?_
  refine then_n ?_
  refine sy_ret (by kernel_rfl) ?_
  refine then_r ?_
  refine sy_out (.tuple #[.int .i64 0, .bool false]) rfl (by kernel_rfl) ?_
  exact ⟨rfl, K4⟩
set_option maxRecDepth 100000 in
set_option maxHeartbeats 4000000 in
theorem mActor_yes (m : Msg) (w : World) (hr : m.R) (hk : 1 ≤ m.k ∧ m.k ≤ 11) (ht : ¬ m.k = 11) :
    Calls Try.prog 20 #[.agg (Msg.c m)] w (fun e w' => e = .returned (.tuple #[.int .i64 m.f, .bool true]) ∧ Keeps Nob w w') := by
  have K0 : Keeps Nob w w := Keeps.refl _ _
  refine sy_enter (part_mActor 1) ⟨#[.agg (Msg.c m), undef, undef, undef, undef, undef, undef, undef, undef, undef, undef, undef, undef, undef, undef], []⟩ Try.func20 (by kernel_rfl) (by kernel_rfl) ?_
  refine sy_sq (part_mActor 2) (part_mActor 3) ?_
  refine sy_reg ?_
  refine rg_plain 0 (opsAt (part_mActor 2)) [0, 1, 2] (by kernel_rfl) (by kernel_rfl) ?_
  obtain ⟨V1, eV1, gm, egm, h2, kV1⟩ := alloc_step w ((Msg.c m)) 35
  have n3 : w.heap.size ≤ gm := egm ▸ K0.size
  refine ps_r (o_mActor 2 0) (pT gm 0) (w' := V1) (by rw [← eV1, ← egm]; exact exec_box 35 (.tmp 0) (by kernel_rfl) (.agg (Msg.c m)) (by kernel_rfl)) ?_
  clear eV1
  have K4 := K0.nn kV1
  refine ps_k (o_mActor 2 1) (.int .i64 0) ?_
  refine ps_k (o_mActor 2 2) (.bool false) ?_
  refine ps_end ?_
  refine then_n ?_
  refine sy_sq (part_mActor 6) (part_mActor 7) ?_
  refine sy_sq (part_mActor 12) (part_mActor 13) ?_
  refine sy_reg ?_
  refine rg_plain 1 (opsAt (part_mActor 12)) [0, 1, 2, 3, 4, 5, 6, 7, 8] (by kernel_rfl) (by kernel_rfl) ?_
  refine ps_k (o_mActor 12 0) (pT gm 0) ?_
  refine ps_p (o_mActor 12 1) (.int .i64 m.k) (exec_ld 3 (.tmp 4) gm 0 Try.underlying3 (rc (h2) (Msg.get_n hr NF.k))) ?_
  refine ps_c (o_mActor 12 2) 40 #[.int .i64 m.k] Try.func40 ((mknown_yes _ _ hk.1 hk.2).mono ?_)
  rintro e w1 ⟨rfl, rfl⟩
  refine ⟨_, rfl, ?_⟩
  refine ps_k (o_mActor 12 3) (.bool false) ?_
  refine ps_k (o_mActor 12 4) (.bool false) ?_
  refine ps_k (o_mActor 12 5) (pT gm 0) ?_
  refine ps_p (o_mActor 12 6) (.int .i64 m.k) (exec_ld 3 (.tmp 9) gm 0 Try.underlying3 (rc (h2) (Msg.get_n hr NF.k))) ?_
  refine ps_p (o_mActor 12 7) (.bool false) (eqf ((m.k) : Int) ((11) : Int) (by omega)) ?_
  refine ps_k (o_mActor 12 8) (.bool false) ?_
  refine ps_end ?_
  refine then_n ?_
  refine sy_n (.tmp 12) (part_mActor 26) (part_mActor 27) ?_
  refine sy_sk ?_
  refine then_n ?_
  refine sy_sq (part_mActor 14) (part_mActor 15) ?_
  refine sy_reg ?_
  refine rg_plain 3 (opsAt (part_mActor 14)) [0, 1, 2, 3] (by kernel_rfl) (by kernel_rfl) ?_
  refine ps_k (o_mActor 14 0) (pT gm 1) ?_
  refine ps_p (o_mActor 14 1) (.int .i64 m.f) (exec_ld 3 (.tmp 13) gm 1 Try.underlying3 (rc (h2) (Msg.get_n hr NF.f))) ?_
  refine ps_k (o_mActor 14 2) (.int .i64 m.f) ?_
  refine ps_k (o_mActor 14 3) (.bool true) ?_
  refine ps_end ?_
  refine then_n ?_
  refine sy_ret (by kernel_rfl) ?_
  refine sy_out (.tuple #[.int .i64 m.f, .bool true]) rfl (by kernel_rfl) ?_
  exact ⟨rfl, K4⟩
def Msg.who (m : Msg) : Int × Bool := if 1 ≤ m.k ∧ m.k ≤ 10 then (m.f, true) else (0, false)
theorem mActor_any (m : Msg) (w : World) (hr : m.R) : Calls Try.prog 20 #[.agg (Msg.c m)] w (fun e w' => e = .returned (.tuple #[.int .i64 m.who.1, .bool m.who.2]) ∧ Keeps Nob w w') := by
  unfold Msg.who
  by_cases hk : 1 ≤ m.k ∧ m.k ≤ 11
  · by_cases ht : m.k = 11
    · rw [if_neg (by omega)]; exact mActor_tick m w hr hk ht
    · rw [if_pos (by omega)]; exact mActor_yes m w hr hk ht
  · rw [if_neg (by omega)]; exact mActor_no m w hr hk
end Go.Proofs.Ytmapcghgdbfmhaa
