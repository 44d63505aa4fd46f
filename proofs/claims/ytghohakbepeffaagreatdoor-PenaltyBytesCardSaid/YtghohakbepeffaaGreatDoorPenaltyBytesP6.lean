/-
  PenaltyBytes proved: for every input the law returns true, and each argument reads as it did. Conditions: none.
-/
import Derived.Test.YtghohakbepeffaaGreatDoorPenaltyBytesP5
namespace Go.Proofs.YtghohakbepeffaaGreatDoor
set_option maxRecDepth 100000
set_option maxHeartbeats 4000000
open Go Go.RowKit Go.Own Go.Shelf
theorem rrn_is {w : World} {b : Nat} {v : Value} {l : List UInt8} {s s1 : RS} {x y : Int} {args : Array Value} (h1 : x = y) (h2 : s = s1) (h : Calls Tryz.prog 48 args w fun e w' => e = .returned (.int .i64 x) ∧ RrAt w' b v l s ∧ Keeps (One b) w w') : Calls Tryz.prog 48 args w fun e w' => e = .returned (.int .i64 y) ∧ RrAt w' b v l s1 ∧ Keeps (One b) w w' := h1 ▸ h2 ▸ h
theorem rru_is {w : World} {b : Nat} {v : Value} {l : List UInt8} {s s1 : RS} {n : Nat} {args : Array Value} (h1 : nrK l s = n) (h2 : (rdU l s).2 = s1) (h : Calls Tryz.prog 50 args w fun e w' => e = .returned (.int .u64 (rdU l s).1) ∧ RrAt w' b v l (rdU l s).2 ∧ Keeps (One b) w w') : Calls Tryz.prog 50 args w fun e w' => e = .returned (.int .u64 ((n : Nat) : Int)) ∧ RrAt w' b v l s1 ∧ Keeps (One b) w w' := by
  subst h1; subst h2; unfold nrK; rw [nrdU_nn]; exact h
theorem nrr_end {w : World} {b : Nat} {v : Value} {l : List UInt8} {s : RS} {fe fp : Int} (h : RrAt w b v l s) (h1 : (s.fin l).1 = fe) (h2 : (s.fin l).2 = fp) : Calls Tryz.prog 51 #[.pointer (some ⟨b, 0, none⟩)] w fun e w' => e = .returned (.agg #[.int .i64 fe, .int .i64 fp]) ∧ Keeps Nob w w' := h1 ▸ h2 ▸ rrEnd_ok b v l s w h
theorem nfin_snd {s : RS} {l : List UInt8} (h : (s.fin l).1 = 0) : (s.fin l).2 = 0 := by
  unfold RS.fin at h ⊢
  by_cases h0 : s.err = 0
  · rw [if_pos h0] at h ⊢
    by_cases h1 : s.pos < l.length
    · rw [if_pos h1] at h; cases h
    · rw [if_neg h1]
  · rw [if_neg h0] at h; exact absurd h h0
theorem nfail_at {l : List UInt8} {s : RS} {p : Int} (h0 : s.err = 0 → s.pos = p) : (rdU l s).2.fail 3 p = (rdU l s).2.fail 3 s.pos := by
  by_cases h : s.err = 0
  · rw [h0 h]
  · have : (rdU l s).2.err ≠ 0 := fun e => h (rdU_err e).1
    unfold RS.fail
    rw [if_neg (fun x => this x.1), if_neg (fun x => this x.1)]
theorem read_stay {s : RS} (h : ¬ s.err = 0) (k : Nat) (e : Int) : s.read k e = s := by unfold RS.read; rw [if_neg h]
theorem fail_stay {s : RS} (h : ¬ s.err = 0) (e p : Int) : s.fail e p = s := by unfold RS.fail; rw [if_neg (fun x => h x.1)]
theorem nrS_stay {l : List UInt8} {out : List Nt} {s : RS} (h : ¬ s.err = 0) : nrS l out s = s := by
  have e : (rdN l s 1 4294967296).2 = s := read_stay h _ _
  unfold nrS; rw [e, fail_stay h]
  split
  · split <;> rfl
  · rfl
theorem nrT_stay {l : List UInt8} {s : RS} (h : ¬ s.err = 0) : nrT l s = s := by
  have e : (rdU l s).2 = s := read_stay h _ _
  unfold nrT; rw [e, fail_stay h]; split <;> rfl
theorem nrgo_stay : ∀ (m : Nat) (out : List Nt) (l : List UInt8) (s : RS), ¬ s.err = 0 → (nrgo m out l s).2 = s
  | 0, _, _, _, _ => rfl
  | m + 1, out, l, s, h => by
    rw [nrgo, nrS_stay h, nrT_stay h]
    exact nrgo_stay m _ l s h
theorem nread_stop {k : Nat} {out : List Nt} {l : List UInt8} {s : RS} (h : nrgo k out l s = nres l) (h0 : ¬ s.err = 0) : nread l = ([], (s.fin l).1, (s.fin l).2) ∧ ¬ (s.fin l).1 = 0 := by
  have e : (nres l).2 = s := by rw [← h]; exact nrgo_stay _ _ _ _ h0
  have hf : ¬ (s.fin l).1 = 0 := by unfold RS.fin; rw [if_neg h0]; exact h0
  refine ⟨?_, hf⟩
  unfold nread; rw [e, if_neg hf]
/-- Which round this is, for the document's look. -/
theorem r23_cases (n i : Nat) (out : List Nt) (l : List UInt8) (s : RS) (hi : i ≤ n) (hlen : out.length = i) : (i < n ∧ ¬ s.err = 0) ∨ (i < n ∧ s.err = 0 ∧ i = 0 ∧ ¬ 4611686018427387904 < nrK l (nrS l out s)) ∨ (i < n ∧ s.err = 0 ∧ i = 0 ∧ 4611686018427387904 < nrK l (nrS l out s)) ∨
    (i < n ∧ s.err = 0 ∧ 0 < i ∧ (∃ y, out[i - 1]? = some y ∧ out.getLast? = some y ∧ ¬ nrH l s < y.h) ∧ ¬ 4611686018427387904 < nrK l (nrS l out s)) ∨ (i < n ∧ s.err = 0 ∧ 0 < i ∧ (∃ y, out[i - 1]? = some y ∧ out.getLast? = some y ∧ ¬ nrH l s < y.h) ∧ 4611686018427387904 < nrK l (nrS l out s)) ∨
    (i < n ∧ s.err = 0 ∧ 0 < i ∧ (∃ y, out[i - 1]? = some y ∧ out.getLast? = some y ∧ nrH l s < y.h) ∧ ¬ 4611686018427387904 < nrK l (nrS l out s)) ∨ (i < n ∧ s.err = 0 ∧ 0 < i ∧ (∃ y, out[i - 1]? = some y ∧ out.getLast? = some y ∧ nrH l s < y.h) ∧ 4611686018427387904 < nrK l (nrS l out s)) ∨
    (i = n ∧ (s.fin l).1 = 0) ∨ (i = n ∧ ¬ (s.fin l).1 = 0) := by
  by_cases he : i < n ∧ ¬ s.err = 0
  · exact .inl he
  · rcases nread_cases n i out l s hi hlen with ⟨a, b, c⟩ | ⟨a, b, c⟩ | ⟨a, b, c, d⟩ | ⟨a, b, c, d⟩ | ⟨a, b, c, d⟩ | ⟨a, b, c, d⟩ | h | h
    · exact .inr (.inl ⟨a, by omega, b, c⟩)
    · exact .inr (.inr (.inl ⟨a, by omega, b, c⟩))
    · exact .inr (.inr (.inr (.inl ⟨a, by omega, b, c, d⟩)))
    · exact .inr (.inr (.inr (.inr (.inl ⟨a, by omega, b, c, d⟩))))
    · exact .inr (.inr (.inr (.inr (.inr (.inl ⟨a, by omega, b, c, d⟩)))))
    · exact .inr (.inr (.inr (.inr (.inr (.inr (.inl ⟨a, by omega, b, c, d⟩))))))
    · exact .inr (.inr (.inr (.inr (.inr (.inr (.inr (.inl h)))))))
    · exact .inr (.inr (.inr (.inr (.inr (.inr (.inr (.inr h)))))))
noncomputable def qc79_0 (n : Nat) : Code := partOf Tryz.f14 n
noncomputable abbrev qo79_0 (n k : Nat) : Oper := (opsAt (qc79_0 n)).getD k default
theorem r23Read_ok (v0 : Value) (l : List UInt8) (w : World) (hx : BytesAt w v0 l) (hl : l.length ≤ 100000000) :
    Calls Tryz.prog 14 #[v0] w (fun e w' => ∃ X, e = .returned (.tuple #[X, .agg #[.int .i64 (nread l).2.1, .int .i64 (nread l).2.2]]) ∧ Row w' 46 2 X (nread l).1.length ((nread l).1.flatMap Nt.cl) ∧ NewFrom w.heap.size X ∧ Keeps Nob w w') := by
  obtain ⟨i2, hi2, hs0, hs1, hs2⟩ := info_parts note_info0
  obtain ⟨hm1, hm64⟩ := nrN_le l
  obtain ⟨m, hme⟩ : ∃ m, nrN l = m := ⟨_, rfl⟩
  obtain ⟨s0, qs0⟩ : ∃ x, (rdN l ⟨0, 0⟩ 0 64).2 = x := ⟨_, rfl⟩
  rw [hme] at hm1 hm64
  have hp0 : nrgo (m - 0) [] l s0 = nres l := by unfold nres; rw [hme, qs0]; rfl
  have K0 : Keeps Nob w w := Keeps.refl _ _
  refine sy_enter (qc79_0 1) ⟨#[v0, ud, ud, ud, ud, ud, ud, ud, ud, ud, ud, ud, ud, ud, ud, ud, ud, ud, ud, ud, ud, ud, ud, ud, ud, ud, ud, ud, ud, ud, ud, ud, ud, ud, ud, ud, ud, ud, ud, ud, ud, ud, ud, ud, ud, ud, ud, ud, ud, ud, ud, ud, ud, ud, ud, ud, ud, ud, ud, ud, ud, ud, ud, ud, ud, ud, ud, ud, ud, ud, ud, ud, ud, ud, ud, ud], []⟩ Tryz.func14 (by kernel_rfl) (by kernel_rfl) <| qr_ [0, 1] <| pkq (.slice none 0 0) <| pal 31 (#[.int .i64 0, .int .i64 0]) (.agg (#[.int .i64 0, .int .i64 0])) fun V1 r2 er2 h2 kV1 => ?_
  have n3 : w.heap.size ≤ r2 := er2 ▸ K0.size
  have K4 := K0.nn kV1
  have z5 := kV1.size
  refine eqr_ [0, 1, 2] <| pkq (v0) ?_
  have lt_r2 := lt_of_block h2
  have hKs := K4.size
  refine pcq 47 #[v0] Tryz.func47 ((rrNew_ok v0 l _ (hx.keepsN K4) hl).mono ?_)
  rintro e V6 ⟨b, rv, rfl, hR0, hb0, hov, kV6⟩
  have hbl := hR0.lt
  obtain ⟨NB, hNB⟩ : ∃ n, V6.heap.size = n := ⟨_, rfl⟩
  have hrow0 : Row V6 46 2 (.slice none 0 0) ([] : List Nt).length (([] : List Nt).flatMap Nt.cl) := World.ownsRow_nil _ _ _ _
  have hNw : w.heap.size ≤ NB := by omega
  refine ⟨_, rfl, ?_⟩
  have h7 := kV6.bk h2
  have K8 := K4.nn kV6
  have z9 := kV6.size
  refine pkq (pT b 0) <| eqr_ [0] <| pkq (.slice none 0 0) <| eqr_ [0, 1, 2] <| pkq (pT b 0) ?_
  refine pcq 48 #[pT b 0, .int .i64 0, .int .i64 64] Tryz.func48 ((rrn_is hm1 qs0 (rrN_ok b rv l ⟨0, 0⟩ 0 64 _ hR0 (by decide) (by decide))).mono ?_)
  rintro e V10 ⟨rfl, hRV10, kV10⟩
  refine ⟨_, rfl, ?_⟩
  have h11 := kV10.bO h7
  have h12 : NB ≤ V10.heap.size := Nat.le_trans (Nat.le_of_eq hNB.symm) kV10.size
  have h13 : Row V10 46 2 (.slice none 0 0) (([] : List Nt).length) (([] : List Nt).flatMap Nt.cl) := hrow0.keeps kV10 (fun j hj _ => by cases hj)
  have K14 := K8.nO kV10
  have z15 := kV10.size
  refine pkq (iN m) <| eq_ <| qr_ [0] <| pkq (.int .i64 0) <| et_ <| bl_ 0 ?_
  refine sy_loop (qc79_0 500) (fun a V => ∃ (i : Nat) (out : List Nt) (s : RS) (v : Value) (u8 u9 u15 u16 u17 u18 u19 u20 u21 u22 u23 u24 u25 u26 u27 u28 u29 u30 u31 u32 u33 u34 u35 u36 u37 u38 u39 u40 u41 u42 u43 u44 u45 u46 u47 u48 u49 u50 u51 u52 u53 u54 u55 u56 u57 u58 u59 u60 u61 u62 u63 u64 u65 u66 u67 : Value), (a = ⟨#[v0, ud, .slice none 0 0, pT r2 0, pT b 0, v, iN m, iN i, u8, u9, ud, v0, pT b 0, pT b 0, iN m, u15, u16, u17, u18, u19, u20, u21, u22, u23, u24, u25, u26, u27, u28, u29, u30, u31, u32, u33, u34, u35, u36, u37, u38, u39, u40, u41, u42, u43, u44, u45, u46, u47, u48, u49, u50, u51, u52, u53, u54, u55, u56, u57, u58, u59, u60, u61, u62, u63, u64, u65, u66, u67, ud, ud, ud, ud, ud, ud, ud, ud], []⟩) ∧ (i ≤ m) ∧ (out.length = i) ∧ (nrgo (m - i) out l s = nres l) ∧ (NewFrom NB v) ∧ (V.heap[r2]? = some (.cells (#[.int .i64 0, .int .i64 0]) 31 (0, 0))) ∧ (NB ≤ V.heap.size) ∧ (Row V 46 2 v out.length (out.flatMap Nt.cl)) ∧ (RrAt V b rv l s) ∧ (Keeps Nob w V)) (fun a _ => m - (intOf (a.tmps.getD 7 undef)).toNat) (by kernel_rfl) ?_ ?_
  · exact ⟨0, [], s0, .slice none 0 0, undef, undef, undef, undef, undef, undef, undef, undef, undef, undef, undef, undef, undef, undef, undef, undef, undef, undef, undef, undef, undef, undef, undef, undef, undef, undef, undef, undef, undef, undef, undef, undef, undef, undef, undef, undef, undef, undef, undef, undef, undef, undef, undef, undef, undef, undef, undef, undef, undef, undef, undef, undef, undef, undef, undef, by kernel_rfl, by omega, rfl, hp0, NewFrom.nil _, h11, h12, h13, hRV10, K14⟩
  · rintro a V16 ⟨i, out, s, v, u8, u9, u15, u16, u17, u18, u19, u20, u21, u22, u23, u24, u25, u26, u27, u28, u29, u30, u31, u32, u33, u34, u35, u36, u37, u38, u39, u40, u41, u42, u43, u44, u45, u46, u47, u48, u49, u50, u51, u52, u53, u54, u55, u56, u57, u58, u59, u60, u61, u62, u63, u64, u65, u66, u67, rfl, hi, hout, hp, hnw, h17, h18, h19, h20, K21⟩
    rcases r23_cases m i out l s hi hout with ⟨lt_i, herr⟩ | ⟨lt_i, herr, h0, hbig⟩ | ⟨lt_i, herr, h0, hbig⟩ | ⟨lt_i, herr, h0, hyy, hbig⟩ | ⟨lt_i, herr, h0, hyy, hbig⟩ | ⟨lt_i, herr, h0, hyy, hbig⟩ | ⟨lt_i, herr, h0, hyy, hbig⟩ | ⟨eq_i, hfin⟩ | ⟨eq_i, hfin⟩
    · obtain ⟨at_, ea, hcat_, halat_, hatat_, -⟩ := RrAt.ex h20
      obtain ⟨hres, hfin⟩ := nread_stop hp herr
      obtain ⟨fe, hfe⟩ : ∃ x, (s.fin l).1 = x := ⟨_, rfl⟩
      obtain ⟨fp, hfp⟩ : ∃ x, (s.fin l).2 = x := ⟨_, rfl⟩
      rw [hfe, hfp] at hres
      rw [hfe] at hfin
      refine q_ <| qr_ [0, 1, 2, 3, 4, 5, 6, 7, 8, 9, 10] <| pkq (iN i) <| pkq (iN m) <| ppq (.bool true) (dct ((((i : Nat) : Int)) < (((m : Nat) : Int))) (by omega)) <| pkq (.bool true) <| pkq (pT b 0) <| pkq (pT b 0) <| pkq (pT b 2) <| pkq (pT b 2) <| ppq (.int .i64 s.err) (ldk 27 b 2 hcat_) <| ppq (.bool false) (exec_cast (congrArg Value.bool (show ((((s.err) : Int) == ((0) : Int))) = false from by simpa using herr)) (by kernel_rfl)) <| pkq (.bool false) <| en_ ?_
      refine sy_exit 0 (by kernel_rfl) <| then_e <| then_e <| blk_e <| tqr_ [0, 1, 2, 3] <| pkq (pT b 0) ?_
      refine pcq 51 #[pT b 0] Tryz.func51 ((nrr_end h20 hfe hfp).mono ?_)
      rintro e V22 ⟨rfl, kV22⟩
      refine ⟨_, rfl, ?_⟩
      have h23 := kV22.bk h17
      have h24 : NB ≤ V22.heap.size := Nat.le_trans h18 kV22.size
      have h26 := kV22.bk hcat_
      have K27 := K21.nn kV22
      have z28 := kV22.size
      refine pal 31 (#[.int .i64 0, .int .i64 0]) (.agg (#[.int .i64 0, .int .i64 0])) fun V29 gE egE h30 kV29 => ?_
      have n31 : r2 < gE := egE ▸ lt_of_block h23
      have n32 : b < gE := egE ▸ lt_of_block h26
      have n33 : w.heap.size ≤ gE := egE ▸ K27.size
      have h34 := kV29.bk h23
      have h35 : NB ≤ V29.heap.size := Nat.le_trans h24 kV29.size
      have K38 := K27.nn kV29
      have z39 := kV29.size
      refine pst 31 gE (#[.int .i64 fe, .int .i64 fp]) h30 (by kernel_rfl) rfl (by kernel_rfl) fun V40 h41 kV40 => ?_
      have h42 := kV40.bO h34
      have h43 : NB ≤ V40.heap.size := Nat.le_trans h35 kV40.size
      have K46 := K38.nO kV40
      have z47 := kV40.size
      refine eq_ <| qr_ [0, 1, 2] <| pkq (pT gE 0) <| ppq (.int .i64 fe) (ldk 27 gE 0 h41) <| ppq (.bool true) (nqt ((fe) : Int) ((0) : Int) (by omega)) <| ey_ <| q_ <| sy_np <| sy_reg <| an_begin 18 3 (opsAt (qc79_0 2036)) (fun W => (W.heap[gE]? = some (.cells (#[.int .i64 fe, .int .i64 fp]) 31 (0, 0)))) #[false, false, false] (by kernel_rfl) (by kernel_rfl) (by kernel_rfl) (by kernel_rfl) ?_
      obtain ⟨V48, eV48, kV48⟩ := drew_step V40
      rw [eV48]
      clear eV48
      have h49 := kV48.bk h42
      have h50 : NB ≤ V48.heap.size := Nat.le_trans h43 kV48.size
      have h53 := kV48.bk h41
      have K54 := K46.nn kV48
      have z55 := kV48.size
      refine avq 0 (.agg #[.int .i64 fe, .int .i64 fp]) (fun W hS => ldr 31 gE (hS) (by kernel_rfl)) h53 <| an_o 1 <| nrq (.slice none 0 0) (w' := V48) (by kernel_rfl) ?_
      refine ⟨h53, ?_⟩
      refine an_o 2 <| nst 31 r2 (#[.int .i64 fe, .int .i64 fp]) h49 (by kernel_rfl) rfl (by kernel_rfl) fun V56 h57 kV56 => ?_
      have h58 : NB ≤ V56.heap.size := Nat.le_trans h50 kV56.size
      have h61 := kV56.bO h53
      have K62 := K54.nO kV56
      have z63 := kV56.size
      refine ⟨h61, ?_⟩
      refine an_end (by kernel_rfl) <| then_n <| u_ <| then_r <| sy_out (.tuple #[.slice none 0 0, .agg #[.int .i64 fe, .int .i64 fp]]) rfl (results_tmp_row (p := 2) (q := 3) (ty := 31) (by kernel_rfl) _ _ r2 31 (#[.int .i64 fe, .int .i64 fp]) (0, 0) _ (.slice none 0 0) (by kernel_rfl) h57 Tryz.underlying31 rfl (by kernel_rfl) (by kernel_rfl)) ?_
      exact ⟨_, by rw [hres], by rw [hres]; exact World.ownsRow_nil _ _ _ _, NewFrom.nil _, K62⟩
    · obtain ⟨at_, ea, hcat_, halat_, hatat_, -⟩ := RrAt.ex h20
      have hpos := (hatat_ herr).1
      obtain ⟨hh, hhe⟩ : ∃ x, nrH l s = x := ⟨_, rfl⟩
      obtain ⟨s1, qs1⟩ : ∃ x, (rdN l s 1 4294967296).2 = x := ⟨_, rfl⟩
      obtain ⟨s2, qs2e⟩ : ∃ x, nrS l out s = x := ⟨_, rfl⟩
      obtain ⟨kk, hke⟩ : ∃ x, nrK l s2 = x := ⟨_, rfl⟩
      obtain ⟨s3, qs3⟩ : ∃ x, (rdU l s2).2 = x := ⟨_, rfl⟩
      obtain ⟨s4, qs4e⟩ : ∃ x, nrT l s2 = x := ⟨_, rfl⟩
      have hhb := nrH_le l s
      have hkb := nrK_lt l s2
      have hpn := nrgo_step lt_i hp
      rw [qs2e] at hbig hpn
      rw [hke] at hbig hkb hpn
      rw [hhe] at hhb hpn
      rw [qs4e] at hpn
      have qs2 : s1 = s2 := by rw [← qs1, ← qs2e, nrS_none (hout.trans h0)]
      have qs4 : s3 = s4 := by rw [← qs4e, ← qs3]; unfold nrT; rw [hke, if_neg hbig]
      refine q_ <| qr_ [0, 1, 2, 3, 4, 5, 6, 7, 8, 9, 10] <| pkq (iN i) <| pkq (iN m) <| ppq (.bool true) (dct ((((i : Nat) : Int)) < (((m : Nat) : Int))) (by omega)) <| pkq (.bool true) <| pkq (pT b 0) <| pkq (pT b 0) <| pkq (pT b 2) <| pkq (pT b 2) <| ppq (.int .i64 s.err) (ldk 27 b 2 hcat_) <| ppq (.bool true) (exec_cast (congrArg Value.bool (show ((((s.err) : Int) == ((0) : Int))) = true from by rw [herr]; rfl)) (by kernel_rfl)) <| pkq (.bool true) <| ey_ ?_
      refine s_ <| tq_ <| bl_ 1 <| qr_ [0, 1, 2, 3, 4] <| pkq (pT b 0) <| pkq (pT b 0) <| pkq (pT b 1) <| ppq (iN at_) (ldk 3 b 1 hcat_) <| pkq (iN at_) <| eqr_ [0, 1, 2, 3, 4] <| pkq (pT b 0) ?_
      refine pcq 48 #[pT b 0, .int .i64 1, .int .i64 4294967296] Tryz.func48 ((rrn_is hhe qs1 (rrN_ok b rv l s 1 4294967296 _ h20 (by decide) (by decide))).mono ?_)
      rintro e V64 ⟨rfl, hRV64, kV64⟩
      have hR2 : RrAt V64 b rv l s2 := qs2 ▸ hRV64
      obtain ⟨at2, ea2, hcat2, halat2, hatat2, -⟩ := RrAt.ex hR2
      refine ⟨_, rfl, ?_⟩
      have h65 := kV64.bO h17
      have h66 : NB ≤ V64.heap.size := Nat.le_trans h18 kV64.size
      have h67 : Row V64 46 2 v out.length (out.flatMap Nt.cl) := h19.keeps kV64 (fun j hj e => by have := hnw j hj; unfold Own.One at e; omega)
      have K68 := K21.nO kV64
      have z69 := kV64.size
      refine pkq (.agg #[.int .i64 hh, .int .u64 0]) ?_
      have hvy : ∀ j, v.ownBlock = some j → j < V64.heap.size := fun j hj => h67.lt hj
      refine pal 46 (#[.int .i64 0, .int .u64 0]) (.agg (#[.int .i64 0, .int .u64 0])) fun V70 gx egx h71 kV70 => ?_
      have n72 : r2 < gx := egx ▸ lt_of_block h65
      have n73 : b < gx := egx ▸ lt_of_block hcat2
      have n74 : w.heap.size ≤ gx := egx ▸ K68.size
      have h75 := kV70.bk h65
      have h76 : NB ≤ V70.heap.size := Nat.le_trans h66 kV70.size
      have h77 : Row V70 46 2 v out.length (out.flatMap Nt.cl) := h67.keeps kV70 (fun _ _ x => x)
      have h78 : RrAt V70 b rv l s2 := hR2.keeps kV70 (fun x => x) (fun _ _ x => x)
      have h79 := kV70.bk hcat2
      have K80 := K68.nn kV70
      have z81 := kV70.size
      have hvx : ∀ j, v.ownBlock = some j → j ≠ gx := fun j hj => by have := hvy j hj; omega
      refine pst 46 gx (#[.int .i64 hh, .int .u64 0]) h71 (by kernel_rfl) rfl (by kernel_rfl) fun V82 h83 kV82 => ?_
      have h84 := kV82.bO h75
      have h85 : NB ≤ V82.heap.size := Nat.le_trans h76 kV82.size
      have h86 : Row V82 46 2 v out.length (out.flatMap Nt.cl) := h77.keeps kV82 (fun j hj e => by have := hvx j hj; unfold Own.One at e; omega)
      have h87 : RrAt V82 b rv l s2 := h78.keeps kV82 (by unfold Own.One; omega) (fun j hj e => by have := hov j hj; unfold Own.One at e; omega)
      have h88 := kV82.bO h79
      have K89 := K80.nO kV82
      have z90 := kV82.size
      refine eq_ <| q_ <| sy_reg <| rg_still 9 12 (opsAt (qc79_0 64076)) [qo79_0 64076 0, qo79_0 64076 1, qo79_0 64076 2, qo79_0 64076 3, qo79_0 64076 4, qo79_0 64076 5, qo79_0 64076 6, qo79_0 64076 7, qo79_0 64076 8, qo79_0 64076 9, qo79_0 64076 10, qo79_0 64076 11] [qo79_0 64076 12] (by kernel_rfl) (by kernel_rfl) (by kernel_rfl) (by kernel_rfl) (by kernel_rfl) ?_
      obtain ⟨V92, eV92, kV92⟩ := drew_step V82
      rw [eV92]
      clear eV92
      have h93 := kV92.bk h84
      have h94 : NB ≤ V92.heap.size := Nat.le_trans h85 kV92.size
      have h95 : Row V92 46 2 v out.length (out.flatMap Nt.cl) := h86.keeps kV92 (fun _ _ x => x)
      have h96 : RrAt V92 b rv l s2 := h87.keeps kV92 (fun x => x) (fun _ _ x => x)
      have h97 := kV92.bk h88
      have h98 := kV92.bk h83
      have K99 := K89.nn kV92
      have z100 := kV92.size
      refine skq (iN i) <| spq (.bool false) (dcf ((((i : Nat) : Int)) > ((0) : Int)) (by omega)) <| skq (.bool false) <| snq <| snq <| snq <| snq <| snq <| snq <| snq <| snq <| snq <| st_end <| ls_run (qo79_0 64076 12) (.bool false) (w' := V92) (by kernel_rfl) (by kernel_rfl) ?_
      refine ls_end <| sy_a ⟨#[v0, ud, .slice none 0 0, pT r2 0, pT b 0, v, iN m, iN i, iN at_, pT gx 0, ud, v0, pT b 0, pT b 0, iN m, iN i, iN m, .bool true, .bool true, pT b 0, pT b 0, pT b 2, pT b 2, .int .i64 s.err, .bool true, .bool true, u26, u27, pT b 0, pT b 0, pT b 1, iN at_, pT b 0, .int .i64 hh, .agg #[.int .i64 hh, .int .u64 0], iN i, .bool false, .bool false, ud, ud, ud, ud, ud, ud, ud, ud, ud, .bool false, u48, u49, u50, u51, u52, u53, u54, u55, u56, u57, u58, u59, u60, u61, u62, u63, u64, u65, u66, u67, ud, ud, ud, ud, ud, ud, ud, ud], []⟩ <| then_n <| n_ <| s_ <| tqr_ [0, 1, 2, 3, 4] <| pkq (pT b 0) <| pkq (pT b 0) <| pkq (pT b 1) <| ppq (iN at2) (ldk 3 b 1 h97) <| pkq (iN at2) <| eqr_ [0, 1, 2, 3] <| pkq (pT b 0) ?_
      refine pcq 50 #[pT b 0] Tryz.func50 ((rru_is hke qs3 (rrU_ok b rv l s2 _ h96)).mono ?_)
      rintro e V101 ⟨rfl, hRV101, kV101⟩
      refine ⟨_, rfl, ?_⟩
      have h102 := kV101.bO h93
      have h103 : NB ≤ V101.heap.size := Nat.le_trans h94 kV101.size
      have h104 : Row V101 46 2 v out.length (out.flatMap Nt.cl) := h95.keeps kV101 (fun j hj e => by have := hnw j hj; unfold Own.One at e; omega)
      have h105 := kV101.bO h98
      have K106 := K99.nO kV101
      have z107 := kV101.size
      refine pkq (pT gx 1) <| pce 40 gx 1 (uN kk) (#[.int .i64 hh, .int .u64 ((kk : Nat) : Int)]) h105 (rc (h105) (by kernel_rfl)) (by kernel_rfl) (u := .int .u64 0) fun V108 h109 kV108 => ?_
      have h110 := kV108.bO h102
      have h111 : NB ≤ V108.heap.size := Nat.le_trans h103 kV108.size
      have h112 : Row V108 46 2 v out.length (out.flatMap Nt.cl) := h104.keeps kV108 (fun j hj e => by have := hvx j hj; unfold Own.One at e; omega)
      have h113 : RrAt V108 b rv l s3 := hRV101.keeps kV108 (by unfold Own.One; omega) (fun j hj e => by have := hov j hj; unfold Own.One at e; omega)
      have K114 := K106.nO kV108
      have z115 := kV108.size
      refine eq_ <| qr_ [0, 1, 2] <| pkq (pT gx 1) <| ppq (uN kk) (ldk 40 gx 1 h109) <| ppq (.bool false) (dcf ((((kk : Nat) : Int)) > ((4611686018427387904) : Int)) (by omega)) <| en_ <| s_ <| tr_ [0, 1, 2, 3, 4] <| pkq (v) <| ppq (.agg #[.int .i64 hh, uN kk]) (ldr 46 gx (h109) (by kernel_rfl)) ?_
      obtain ⟨V116, eV116, lit, elit, h117, kV116⟩ := alloc_step V108 (#[.int .i64 hh, .int .u64 ((kk : Nat) : Int)]) 46
      have n118 : r2 < lit := elit ▸ lt_of_block h110
      have n119 : gx < lit := elit ▸ lt_of_block h109
      have n120 : w.heap.size ≤ lit := elit ▸ K114.size
      refine prq (.slice (some ⟨lit, 0, none⟩) 1 1) (w' := V116) (by rw [← eV116, ← elit]; kernel_rfl) ?_
      have h121 := kV116.bk h110
      have h122 : NB ≤ V116.heap.size := Nat.le_trans h111 kV116.size
      have h123 : Row V116 46 2 v out.length (out.flatMap Nt.cl) := h112.keeps kV116 (fun _ _ x => x)
      have h124 : RrAt V116 b rv l s3 := h113.keeps kV116 (fun x => x) (fun _ _ x => x)
      have K126 := K114.nn kV116
      have z127 := kV116.size
      obtain ⟨vn, V128, hr129, h130, hg131, hn132, ha133⟩ := run_append_any (P := Tryz.prog) (w := V116) 22 (Oper.type (qo79_0 256319 3)) 46 i2 (.agg #[.int .i64 0, .int .u64 0]) 2 16 Tryz.underlying22 hi2 hs0 hs1 hs2 rfl (by decide) v out.length (out.flatMap Nt.cl) h123 (.slice (some ⟨lit, 0, none⟩) 1 1) 1 (Nt.cl (⟨hh, kk⟩ : Nt)) (src_nt (x := ⟨hh, kk⟩) h117) (by unfold maxLen; omega) (by omega)
      have kV128 : Keeps (fun j => v.ownBlock = some j) V116 V128 := Keeps.rowAdd hg131
      have hw134 : NewFrom NB vn := hnw.next h122 ha133
      refine prq vn (w' := V128) (exec_append (.tmp 64) (.tmp 66) 22 (by kernel_rfl) v (.slice (some ⟨lit, 0, none⟩) 1 1) (by kernel_rfl) (by kernel_rfl) hr129) ?_
      have h135 : Row V128 46 2 vn ((out ++ [(⟨hh, kk⟩ : Nt)]).length) ((out ++ [(⟨hh, kk⟩ : Nt)]).flatMap Nt.cl) := (row_nt rfl h130)
      have hnwn := hw134
      have h136 : V128.heap[r2]? = some (.cells (#[.int .i64 0, .int .i64 0]) 31 (0, 0)) := (kV128.block r2 (lt_of_block h121) (fun e => by have := hnw _ e; omega)).trans h121
      have h137 : NB ≤ V128.heap.size := Nat.le_trans h122 kV128.size
      have h138 : RrAt V128 b rv l s3 := h124.keeps kV128 (fun e => by have := hnw _ e; omega) (fun j hj e => by have := hnw j e; have := hov j hj; omega)
      have K139 : Keeps Nob w V128 := K126.then kV128 (fun i hi hm => absurd hi (by have := hnw i hm; omega))
      have z140 := kV128.size
      refine pkq (vn) <| ps_end <| blk_n <| tr_ [0, 1, 2] <| pkq (iN i) <| ppq (iN (i + 1)) (exec_cast (congrArg (Value.int .i64) (wrapN (i + 1) (by omega))) (by kernel_rfl)) <| pkq (iN (i + 1)) <| et_ ?_
      refine ⟨⟨(i + 1), (out ++ [(⟨hh, kk⟩ : Nt)]), s4, vn, (iN at2), (pT gx 0), (iN i), (iN m), (.bool true), (.bool true), (pT b 0), (pT b 0), (pT b 2), (pT b 2), (.int .i64 s.err), (.bool true), (.bool true), (iN i), (iN (i + 1)), (pT b 0), (pT b 0), (pT b 1), (iN at_), (pT b 0), (.int .i64 hh), (.agg #[.int .i64 hh, .int .u64 0]), (iN i), (.bool false), (.bool false), undef, undef, undef, undef, undef, undef, undef, undef, undef, (.bool false), u48, u49, u50, (pT b 0), (pT b 0), (pT b 1), (iN at2), (pT b 0), (uN kk), (pT gx 1), (pT gx 1), (uN kk), (.bool false), u61, u62, u63, v, (.agg #[.int .i64 hh, uN kk]), (.slice (some ⟨lit, 0, none⟩) 1 1), vn, by kernel_rfl, by omega, by simp [hout], hpn, hnwn, h136, h137, h135, (qs4 ▸ h138), K139⟩, ?_⟩
      exact lt_meas (x := m - (i + 1)) (y := m - i) (by kernel_rfl) (by kernel_rfl) (by omega)
    · obtain ⟨at_, ea, hcat_, halat_, hatat_, -⟩ := RrAt.ex h20
      have hpos := (hatat_ herr).1
      obtain ⟨hh, hhe⟩ : ∃ x, nrH l s = x := ⟨_, rfl⟩
      obtain ⟨s1, qs1⟩ : ∃ x, (rdN l s 1 4294967296).2 = x := ⟨_, rfl⟩
      obtain ⟨s2, qs2e⟩ : ∃ x, nrS l out s = x := ⟨_, rfl⟩
      obtain ⟨kk, hke⟩ : ∃ x, nrK l s2 = x := ⟨_, rfl⟩
      obtain ⟨s3, qs3⟩ : ∃ x, (rdU l s2).2 = x := ⟨_, rfl⟩
      obtain ⟨s4, qs4e⟩ : ∃ x, nrT l s2 = x := ⟨_, rfl⟩
      have hhb := nrH_le l s
      have hkb := nrK_lt l s2
      have hpn := nrgo_step lt_i hp
      rw [qs2e] at hbig hpn
      rw [hke] at hbig hkb hpn
      rw [hhe] at hhb hpn
      rw [qs4e] at hpn
      have qs2 : s1 = s2 := by rw [← qs1, ← qs2e, nrS_none (hout.trans h0)]
      have qs4 : s3.fail 3 s2.pos = s4 := by rw [← qs4e, ← qs3]; unfold nrT; rw [hke, if_pos hbig]
      refine q_ <| qr_ [0, 1, 2, 3, 4, 5, 6, 7, 8, 9, 10] <| pkq (iN i) <| pkq (iN m) <| ppq (.bool true) (dct ((((i : Nat) : Int)) < (((m : Nat) : Int))) (by omega)) <| pkq (.bool true) <| pkq (pT b 0) <| pkq (pT b 0) <| pkq (pT b 2) <| pkq (pT b 2) <| ppq (.int .i64 s.err) (ldk 27 b 2 hcat_) <| ppq (.bool true) (exec_cast (congrArg Value.bool (show ((((s.err) : Int) == ((0) : Int))) = true from by rw [herr]; rfl)) (by kernel_rfl)) <| pkq (.bool true) <| ey_ ?_
      refine s_ <| tq_ <| bl_ 1 <| qr_ [0, 1, 2, 3, 4] <| pkq (pT b 0) <| pkq (pT b 0) <| pkq (pT b 1) <| ppq (iN at_) (ldk 3 b 1 hcat_) <| pkq (iN at_) <| eqr_ [0, 1, 2, 3, 4] <| pkq (pT b 0) ?_
      refine pcq 48 #[pT b 0, .int .i64 1, .int .i64 4294967296] Tryz.func48 ((rrn_is hhe qs1 (rrN_ok b rv l s 1 4294967296 _ h20 (by decide) (by decide))).mono ?_)
      rintro e V141 ⟨rfl, hRV141, kV141⟩
      have hR2 : RrAt V141 b rv l s2 := qs2 ▸ hRV141
      obtain ⟨at2, ea2, hcat2, halat2, hatat2, -⟩ := RrAt.ex hR2
      refine ⟨_, rfl, ?_⟩
      have h142 := kV141.bO h17
      have h143 : NB ≤ V141.heap.size := Nat.le_trans h18 kV141.size
      have h144 : Row V141 46 2 v out.length (out.flatMap Nt.cl) := h19.keeps kV141 (fun j hj e => by have := hnw j hj; unfold Own.One at e; omega)
      have K145 := K21.nO kV141
      have z146 := kV141.size
      refine pkq (.agg #[.int .i64 hh, .int .u64 0]) ?_
      have hvy : ∀ j, v.ownBlock = some j → j < V141.heap.size := fun j hj => h144.lt hj
      refine pal 46 (#[.int .i64 0, .int .u64 0]) (.agg (#[.int .i64 0, .int .u64 0])) fun V147 gx egx h148 kV147 => ?_
      have n149 : r2 < gx := egx ▸ lt_of_block h142
      have n150 : b < gx := egx ▸ lt_of_block hcat2
      have n151 : w.heap.size ≤ gx := egx ▸ K145.size
      have h152 := kV147.bk h142
      have h153 : NB ≤ V147.heap.size := Nat.le_trans h143 kV147.size
      have h154 : Row V147 46 2 v out.length (out.flatMap Nt.cl) := h144.keeps kV147 (fun _ _ x => x)
      have h155 : RrAt V147 b rv l s2 := hR2.keeps kV147 (fun x => x) (fun _ _ x => x)
      have h156 := kV147.bk hcat2
      have K157 := K145.nn kV147
      have z158 := kV147.size
      have hvx : ∀ j, v.ownBlock = some j → j ≠ gx := fun j hj => by have := hvy j hj; omega
      refine pst 46 gx (#[.int .i64 hh, .int .u64 0]) h148 (by kernel_rfl) rfl (by kernel_rfl) fun V159 h160 kV159 => ?_
      have h161 := kV159.bO h152
      have h162 : NB ≤ V159.heap.size := Nat.le_trans h153 kV159.size
      have h163 : Row V159 46 2 v out.length (out.flatMap Nt.cl) := h154.keeps kV159 (fun j hj e => by have := hvx j hj; unfold Own.One at e; omega)
      have h164 : RrAt V159 b rv l s2 := h155.keeps kV159 (by unfold Own.One; omega) (fun j hj e => by have := hov j hj; unfold Own.One at e; omega)
      have h165 := kV159.bO h156
      have K166 := K157.nO kV159
      have z167 := kV159.size
      refine eq_ <| q_ <| sy_reg <| rg_still 9 12 (opsAt (qc79_0 64076)) [qo79_0 64076 0, qo79_0 64076 1, qo79_0 64076 2, qo79_0 64076 3, qo79_0 64076 4, qo79_0 64076 5, qo79_0 64076 6, qo79_0 64076 7, qo79_0 64076 8, qo79_0 64076 9, qo79_0 64076 10, qo79_0 64076 11] [qo79_0 64076 12] (by kernel_rfl) (by kernel_rfl) (by kernel_rfl) (by kernel_rfl) (by kernel_rfl) ?_
      obtain ⟨V169, eV169, kV169⟩ := drew_step V159
      rw [eV169]
      clear eV169
      have h170 := kV169.bk h161
      have h171 : NB ≤ V169.heap.size := Nat.le_trans h162 kV169.size
      have h172 : Row V169 46 2 v out.length (out.flatMap Nt.cl) := h163.keeps kV169 (fun _ _ x => x)
      have h173 : RrAt V169 b rv l s2 := h164.keeps kV169 (fun x => x) (fun _ _ x => x)
      have h174 := kV169.bk h165
      have h175 := kV169.bk h160
      have K176 := K166.nn kV169
      have z177 := kV169.size
      refine skq (iN i) <| spq (.bool false) (dcf ((((i : Nat) : Int)) > ((0) : Int)) (by omega)) <| skq (.bool false) <| snq <| snq <| snq <| snq <| snq <| snq <| snq <| snq <| snq <| st_end <| ls_run (qo79_0 64076 12) (.bool false) (w' := V169) (by kernel_rfl) (by kernel_rfl) ?_
      refine ls_end <| sy_a ⟨#[v0, ud, .slice none 0 0, pT r2 0, pT b 0, v, iN m, iN i, iN at_, pT gx 0, ud, v0, pT b 0, pT b 0, iN m, iN i, iN m, .bool true, .bool true, pT b 0, pT b 0, pT b 2, pT b 2, .int .i64 s.err, .bool true, .bool true, u26, u27, pT b 0, pT b 0, pT b 1, iN at_, pT b 0, .int .i64 hh, .agg #[.int .i64 hh, .int .u64 0], iN i, .bool false, .bool false, ud, ud, ud, ud, ud, ud, ud, ud, ud, .bool false, u48, u49, u50, u51, u52, u53, u54, u55, u56, u57, u58, u59, u60, u61, u62, u63, u64, u65, u66, u67, ud, ud, ud, ud, ud, ud, ud, ud], []⟩ <| then_n <| n_ <| s_ <| tqr_ [0, 1, 2, 3, 4] <| pkq (pT b 0) <| pkq (pT b 0) <| pkq (pT b 1) <| ppq (iN at2) (ldk 3 b 1 h174) <| pkq (iN at2) <| eqr_ [0, 1, 2, 3] <| pkq (pT b 0) ?_
      refine pcq 50 #[pT b 0] Tryz.func50 ((rru_is hke qs3 (rrU_ok b rv l s2 _ h173)).mono ?_)
      rintro e V178 ⟨rfl, hRV178, kV178⟩
      refine ⟨_, rfl, ?_⟩
      have h179 := kV178.bO h170
      have h180 : NB ≤ V178.heap.size := Nat.le_trans h171 kV178.size
      have h181 : Row V178 46 2 v out.length (out.flatMap Nt.cl) := h172.keeps kV178 (fun j hj e => by have := hnw j hj; unfold Own.One at e; omega)
      have h182 := kV178.bO h175
      have K183 := K176.nO kV178
      have z184 := kV178.size
      refine pkq (pT gx 1) <| pce 40 gx 1 (uN kk) (#[.int .i64 hh, .int .u64 ((kk : Nat) : Int)]) h182 (rc (h182) (by kernel_rfl)) (by kernel_rfl) (u := .int .u64 0) fun V185 h186 kV185 => ?_
      have h187 := kV185.bO h179
      have h188 : NB ≤ V185.heap.size := Nat.le_trans h180 kV185.size
      have h189 : Row V185 46 2 v out.length (out.flatMap Nt.cl) := h181.keeps kV185 (fun j hj e => by have := hvx j hj; unfold Own.One at e; omega)
      have h190 : RrAt V185 b rv l s3 := hRV178.keeps kV185 (by unfold Own.One; omega) (fun j hj e => by have := hov j hj; unfold Own.One at e; omega)
      have K191 := K183.nO kV185
      have z192 := kV185.size
      refine eq_ <| qr_ [0, 1, 2] <| pkq (pT gx 1) <| ppq (uN kk) (ldk 40 gx 1 h186) <| ppq (.bool true) (dct ((((kk : Nat) : Int)) > ((4611686018427387904) : Int)) (by omega)) <| ey_ <| r_ [0, 1, 2] <| pkq (pT b 0) <| pkq (iN at2) ?_
      refine pcq 49 #[pT b 0, .int .i64 3, iN at2] Tryz.func49 ((rrFail_ok b rv l s3 3 ((at2 : Nat) : Int) _ h190).mono ?_)
      rintro e V193 ⟨⟨rv14, rfl⟩, hRV193, kV193⟩
      have qs4b : s3.fail 3 ((at2 : Nat) : Int) = s4 := by rw [← qs4, ← qs3]; exact nfail_at (fun h => (hatat2 h).1)
      refine ⟨_, rfl, ?_⟩
      have h194 := kV193.bO h187
      have h195 : NB ≤ V193.heap.size := Nat.le_trans h188 kV193.size
      have h196 : Row V193 46 2 v out.length (out.flatMap Nt.cl) := h189.keeps kV193 (fun j hj e => by have := hnw j hj; unfold Own.One at e; omega)
      have h197 := kV193.bO h186
      have K198 := K191.nO kV193
      have z199 := kV193.size
      refine er_ [0, 1, 2, 3, 4] <| pkq (v) <| ppq (.agg #[.int .i64 hh, uN kk]) (ldr 46 gx (h197) (by kernel_rfl)) ?_
      obtain ⟨V200, eV200, lit, elit, h201, kV200⟩ := alloc_step V193 (#[.int .i64 hh, .int .u64 ((kk : Nat) : Int)]) 46
      have n202 : r2 < lit := elit ▸ lt_of_block h194
      have n203 : gx < lit := elit ▸ lt_of_block h197
      have n204 : w.heap.size ≤ lit := elit ▸ K198.size
      refine prq (.slice (some ⟨lit, 0, none⟩) 1 1) (w' := V200) (by rw [← eV200, ← elit]; kernel_rfl) ?_
      have h205 := kV200.bk h194
      have h206 : NB ≤ V200.heap.size := Nat.le_trans h195 kV200.size
      have h207 : Row V200 46 2 v out.length (out.flatMap Nt.cl) := h196.keeps kV200 (fun _ _ x => x)
      have h209 : RrAt V200 b rv l s4 := (qs4b ▸ hRV193).keeps kV200 (fun x => x) (fun _ _ x => x)
      have K210 := K198.nn kV200
      have z211 := kV200.size
      obtain ⟨vn, V212, hr213, h214, hg215, hn216, ha217⟩ := run_append_any (P := Tryz.prog) (w := V200) 22 (Oper.type (qo79_0 256319 3)) 46 i2 (.agg #[.int .i64 0, .int .u64 0]) 2 16 Tryz.underlying22 hi2 hs0 hs1 hs2 rfl (by decide) v out.length (out.flatMap Nt.cl) h207 (.slice (some ⟨lit, 0, none⟩) 1 1) 1 (Nt.cl (⟨hh, kk⟩ : Nt)) (src_nt (x := ⟨hh, kk⟩) h201) (by unfold maxLen; omega) (by omega)
      have kV212 : Keeps (fun j => v.ownBlock = some j) V200 V212 := Keeps.rowAdd hg215
      have hw218 : NewFrom NB vn := hnw.next h206 ha217
      refine prq vn (w' := V212) (exec_append (.tmp 64) (.tmp 66) 22 (by kernel_rfl) v (.slice (some ⟨lit, 0, none⟩) 1 1) (by kernel_rfl) (by kernel_rfl) hr213) ?_
      have h219 : Row V212 46 2 vn ((out ++ [(⟨hh, kk⟩ : Nt)]).length) ((out ++ [(⟨hh, kk⟩ : Nt)]).flatMap Nt.cl) := (row_nt rfl h214)
      have hnwn := hw218
      have h220 : V212.heap[r2]? = some (.cells (#[.int .i64 0, .int .i64 0]) 31 (0, 0)) := (kV212.block r2 (lt_of_block h205) (fun e => by have := hnw _ e; omega)).trans h205
      have h221 : NB ≤ V212.heap.size := Nat.le_trans h206 kV212.size
      have h222 : RrAt V212 b rv l s4 := h209.keeps kV212 (fun e => by have := hnw _ e; omega) (fun j hj e => by have := hnw j e; have := hov j hj; omega)
      have K223 : Keeps Nob w V212 := K210.then kV212 (fun i hi hm => absurd hi (by have := hnw i hm; omega))
      have z224 := kV212.size
      refine pkq (vn) <| ps_end <| blk_n <| tr_ [0, 1, 2] <| pkq (iN i) <| ppq (iN (i + 1)) (exec_cast (congrArg (Value.int .i64) (wrapN (i + 1) (by omega))) (by kernel_rfl)) <| pkq (iN (i + 1)) <| et_ ?_
      refine ⟨⟨(i + 1), (out ++ [(⟨hh, kk⟩ : Nt)]), s4, vn, (iN at2), (pT gx 0), (iN i), (iN m), (.bool true), (.bool true), (pT b 0), (pT b 0), (pT b 2), (pT b 2), (.int .i64 s.err), (.bool true), (.bool true), (iN i), (iN (i + 1)), (pT b 0), (pT b 0), (pT b 1), (iN at_), (pT b 0), (.int .i64 hh), (.agg #[.int .i64 hh, .int .u64 0]), (iN i), (.bool false), (.bool false), undef, undef, undef, undef, undef, undef, undef, undef, undef, (.bool false), u48, u49, u50, (pT b 0), (pT b 0), (pT b 1), (iN at2), (pT b 0), (uN kk), (pT gx 1), (pT gx 1), (uN kk), (.bool true), (pT b 0), (iN at2), rv14, v, (.agg #[.int .i64 hh, uN kk]), (.slice (some ⟨lit, 0, none⟩) 1 1), vn, by kernel_rfl, by omega, by simp [hout], hpn, hnwn, h220, h221, h219, h222, K223⟩, ?_⟩
      exact lt_meas (x := m - (i + 1)) (y := m - i) (by kernel_rfl) (by kernel_rfl) (by omega)
    · obtain ⟨at_, ea, hcat_, halat_, hatat_, -⟩ := RrAt.ex h20
      have hpos := (hatat_ herr).1
      obtain ⟨hh, hhe⟩ : ∃ x, nrH l s = x := ⟨_, rfl⟩
      obtain ⟨s1, qs1⟩ : ∃ x, (rdN l s 1 4294967296).2 = x := ⟨_, rfl⟩
      obtain ⟨s2, qs2e⟩ : ∃ x, nrS l out s = x := ⟨_, rfl⟩
      obtain ⟨kk, hke⟩ : ∃ x, nrK l s2 = x := ⟨_, rfl⟩
      obtain ⟨s3, qs3⟩ : ∃ x, (rdU l s2).2 = x := ⟨_, rfl⟩
      obtain ⟨s4, qs4e⟩ : ∃ x, nrT l s2 = x := ⟨_, rfl⟩
      have hhb := nrH_le l s
      have hkb := nrK_lt l s2
      have hpn := nrgo_step lt_i hp
      rw [qs2e] at hbig hpn
      rw [hke] at hbig hkb hpn
      rw [hhe] at hhb hpn
      rw [qs4e] at hpn
      obtain ⟨y, hy, hy2, hyc⟩ := hyy
      obtain ⟨b_, o_, c_, hv_, hb_, _⟩ := (row_nts h19).at_ (i - 1) _ hy
      have qs2 : s1 = s2 := by rw [← qs1, ← qs2e, nrS_not hy2 hyc]
      rw [hhe] at hyc
      have qs4 : s3 = s4 := by rw [← qs4e, ← qs3]; unfold nrT; rw [hke, if_neg hbig]
      refine q_ <| qr_ [0, 1, 2, 3, 4, 5, 6, 7, 8, 9, 10] <| pkq (iN i) <| pkq (iN m) <| ppq (.bool true) (dct ((((i : Nat) : Int)) < (((m : Nat) : Int))) (by omega)) <| pkq (.bool true) <| pkq (pT b 0) <| pkq (pT b 0) <| pkq (pT b 2) <| pkq (pT b 2) <| ppq (.int .i64 s.err) (ldk 27 b 2 hcat_) <| ppq (.bool true) (exec_cast (congrArg Value.bool (show ((((s.err) : Int) == ((0) : Int))) = true from by rw [herr]; rfl)) (by kernel_rfl)) <| pkq (.bool true) <| ey_ ?_
      refine s_ <| tq_ <| bl_ 1 <| qr_ [0, 1, 2, 3, 4] <| pkq (pT b 0) <| pkq (pT b 0) <| pkq (pT b 1) <| ppq (iN at_) (ldk 3 b 1 hcat_) <| pkq (iN at_) <| eqr_ [0, 1, 2, 3, 4] <| pkq (pT b 0) ?_
      refine pcq 48 #[pT b 0, .int .i64 1, .int .i64 4294967296] Tryz.func48 ((rrn_is hhe qs1 (rrN_ok b rv l s 1 4294967296 _ h20 (by decide) (by decide))).mono ?_)
      rintro e V225 ⟨rfl, hRV225, kV225⟩
      have hR2 : RrAt V225 b rv l s2 := qs2 ▸ hRV225
      obtain ⟨at2, ea2, hcat2, halat2, hatat2, -⟩ := RrAt.ex hR2
      refine ⟨_, rfl, ?_⟩
      have h226 := kV225.bO h17
      have h227 : NB ≤ V225.heap.size := Nat.le_trans h18 kV225.size
      have h228 : Row V225 46 2 v out.length (out.flatMap Nt.cl) := h19.keeps kV225 (fun j hj e => by have := hnw j hj; unfold Own.One at e; omega)
      have K229 := K21.nO kV225
      have z230 := kV225.size
      refine pkq (.agg #[.int .i64 hh, .int .u64 0]) ?_
      have hvy : ∀ j, v.ownBlock = some j → j < V225.heap.size := fun j hj => h228.lt hj
      refine pal 46 (#[.int .i64 0, .int .u64 0]) (.agg (#[.int .i64 0, .int .u64 0])) fun V231 gx egx h232 kV231 => ?_
      have n233 : r2 < gx := egx ▸ lt_of_block h226
      have n234 : b < gx := egx ▸ lt_of_block hcat2
      have n235 : w.heap.size ≤ gx := egx ▸ K229.size
      have h236 := kV231.bk h226
      have h237 : NB ≤ V231.heap.size := Nat.le_trans h227 kV231.size
      have h238 : Row V231 46 2 v out.length (out.flatMap Nt.cl) := h228.keeps kV231 (fun _ _ x => x)
      have h239 : RrAt V231 b rv l s2 := hR2.keeps kV231 (fun x => x) (fun _ _ x => x)
      have h240 := kV231.bk hcat2
      have K241 := K229.nn kV231
      have z242 := kV231.size
      have hvx : ∀ j, v.ownBlock = some j → j ≠ gx := fun j hj => by have := hvy j hj; omega
      refine pst 46 gx (#[.int .i64 hh, .int .u64 0]) h232 (by kernel_rfl) rfl (by kernel_rfl) fun V243 h244 kV243 => ?_
      have h245 := kV243.bO h236
      have h246 : NB ≤ V243.heap.size := Nat.le_trans h237 kV243.size
      have h247 : Row V243 46 2 v out.length (out.flatMap Nt.cl) := h238.keeps kV243 (fun j hj e => by have := hvx j hj; unfold Own.One at e; omega)
      have h248 : RrAt V243 b rv l s2 := h239.keeps kV243 (by unfold Own.One; omega) (fun j hj e => by have := hov j hj; unfold Own.One at e; omega)
      have h249 := kV243.bO h240
      have K250 := K241.nO kV243
      have z251 := kV243.size
      refine eq_ <| q_ <| sy_reg <| rg_still 9 12 (opsAt (qc79_0 64076)) [qo79_0 64076 0, qo79_0 64076 1, qo79_0 64076 2, qo79_0 64076 3, qo79_0 64076 4, qo79_0 64076 5, qo79_0 64076 6, qo79_0 64076 7, qo79_0 64076 8, qo79_0 64076 9, qo79_0 64076 10, qo79_0 64076 11] [qo79_0 64076 12] (by kernel_rfl) (by kernel_rfl) (by kernel_rfl) (by kernel_rfl) (by kernel_rfl) ?_
      obtain ⟨V253, eV253, kV253⟩ := drew_step V243
      rw [eV253]
      clear eV253
      have h254 := kV253.bk h245
      have h255 : NB ≤ V253.heap.size := Nat.le_trans h246 kV253.size
      have h256 : Row V253 46 2 v out.length (out.flatMap Nt.cl) := h247.keeps kV253 (fun _ _ x => x)
      have h257 : RrAt V253 b rv l s2 := h248.keeps kV253 (fun x => x) (fun _ _ x => x)
      have h258 := kV253.bk h249
      have h259 := kV253.bk h244
      have K260 := K250.nn kV253
      have z261 := kV253.size
      refine skq (iN i) <| spq (.bool true) (dct ((((i : Nat) : Int)) > ((0) : Int)) (by omega)) <| skq (.bool true) <| skq (pT gx 0) <| spq (.int .i64 hh) (ldk 3 gx 0 h259) <| skq (v) <| skq (iN i) <| spq (iN ((i - 1))) (exec_cast (congrArg (Value.int .i64) (wrapI (((i : Nat) : Int) - 1) ((i - 1 : Nat) : Int) (by omega) (by omega) (by omega))) (by kernel_rfl)) <| spq (.pointer (some ⟨b_, o_ + (i - 1) * 2, none⟩)) (exec_indexAt_slice 22 (.tmp 40) (.tmp 42) (by kernel_rfl) b_ o_ out.length c_ (Eq.trans (b := v) (by kernel_rfl) hv_) .i64 (i - 1) (by kernel_rfl) _ 2 Tryz.underlying22 (by kernel_rfl) (by omega)) <| skq (.pointer (some ⟨b_, o_ + (i - 1) * 2, none⟩)) <| spq (.int .i64 y.h) (exec_ld 3 (.tmp 44) b_ (o_ + (i - 1) * 2 + 0) Tryz.underlying3 (Sl.cell (row_nts h256) hy hv_ rfl)) <| spq (.bool false) (dcf (((hh) : Int) < ((y.h) : Int)) (by omega)) <| st_end <| ls_run (qo79_0 64076 12) (.bool false) (w' := V253) (by kernel_rfl) (by kernel_rfl) ?_
      refine ls_end <| sy_a ⟨#[v0, ud, .slice none 0 0, pT r2 0, pT b 0, v, iN m, iN i, iN at_, pT gx 0, ud, v0, pT b 0, pT b 0, iN m, iN i, iN m, .bool true, .bool true, pT b 0, pT b 0, pT b 2, pT b 2, .int .i64 s.err, .bool true, .bool true, u26, u27, pT b 0, pT b 0, pT b 1, iN at_, pT b 0, .int .i64 hh, .agg #[.int .i64 hh, .int .u64 0], iN i, .bool true, .bool true, pT gx 0, .int .i64 hh, v, iN i, iN ((i - 1)), .pointer (some ⟨b_, o_ + (i - 1) * 2, none⟩), .pointer (some ⟨b_, o_ + (i - 1) * 2, none⟩), .int .i64 y.h, .bool false, .bool false, u48, u49, u50, u51, u52, u53, u54, u55, u56, u57, u58, u59, u60, u61, u62, u63, u64, u65, u66, u67, ud, ud, ud, ud, ud, ud, ud, ud], []⟩ <| then_n <| n_ <| s_ <| tqr_ [0, 1, 2, 3, 4] <| pkq (pT b 0) <| pkq (pT b 0) <| pkq (pT b 1) <| ppq (iN at2) (ldk 3 b 1 h258) <| pkq (iN at2) <| eqr_ [0, 1, 2, 3] <| pkq (pT b 0) ?_
      refine pcq 50 #[pT b 0] Tryz.func50 ((rru_is hke qs3 (rrU_ok b rv l s2 _ h257)).mono ?_)
      rintro e V262 ⟨rfl, hRV262, kV262⟩
      refine ⟨_, rfl, ?_⟩
      have h263 := kV262.bO h254
      have h264 : NB ≤ V262.heap.size := Nat.le_trans h255 kV262.size
      have h265 : Row V262 46 2 v out.length (out.flatMap Nt.cl) := h256.keeps kV262 (fun j hj e => by have := hnw j hj; unfold Own.One at e; omega)
      have h266 := kV262.bO h259
      have K267 := K260.nO kV262
      have z268 := kV262.size
      refine pkq (pT gx 1) <| pce 40 gx 1 (uN kk) (#[.int .i64 hh, .int .u64 ((kk : Nat) : Int)]) h266 (rc (h266) (by kernel_rfl)) (by kernel_rfl) (u := .int .u64 0) fun V269 h270 kV269 => ?_
      have h271 := kV269.bO h263
      have h272 : NB ≤ V269.heap.size := Nat.le_trans h264 kV269.size
      have h273 : Row V269 46 2 v out.length (out.flatMap Nt.cl) := h265.keeps kV269 (fun j hj e => by have := hvx j hj; unfold Own.One at e; omega)
      have h274 : RrAt V269 b rv l s3 := hRV262.keeps kV269 (by unfold Own.One; omega) (fun j hj e => by have := hov j hj; unfold Own.One at e; omega)
      have K275 := K267.nO kV269
      have z276 := kV269.size
      refine eq_ <| qr_ [0, 1, 2] <| pkq (pT gx 1) <| ppq (uN kk) (ldk 40 gx 1 h270) <| ppq (.bool false) (dcf ((((kk : Nat) : Int)) > ((4611686018427387904) : Int)) (by omega)) <| en_ <| s_ <| tr_ [0, 1, 2, 3, 4] <| pkq (v) <| ppq (.agg #[.int .i64 hh, uN kk]) (ldr 46 gx (h270) (by kernel_rfl)) ?_
      obtain ⟨V277, eV277, lit, elit, h278, kV277⟩ := alloc_step V269 (#[.int .i64 hh, .int .u64 ((kk : Nat) : Int)]) 46
      have n279 : r2 < lit := elit ▸ lt_of_block h271
      have n280 : gx < lit := elit ▸ lt_of_block h270
      have n281 : w.heap.size ≤ lit := elit ▸ K275.size
      refine prq (.slice (some ⟨lit, 0, none⟩) 1 1) (w' := V277) (by rw [← eV277, ← elit]; kernel_rfl) ?_
      have h282 := kV277.bk h271
      have h283 : NB ≤ V277.heap.size := Nat.le_trans h272 kV277.size
      have h284 : Row V277 46 2 v out.length (out.flatMap Nt.cl) := h273.keeps kV277 (fun _ _ x => x)
      have h285 : RrAt V277 b rv l s3 := h274.keeps kV277 (fun x => x) (fun _ _ x => x)
      have K287 := K275.nn kV277
      have z288 := kV277.size
      obtain ⟨vn, V289, hr290, h291, hg292, hn293, ha294⟩ := run_append_any (P := Tryz.prog) (w := V277) 22 (Oper.type (qo79_0 256319 3)) 46 i2 (.agg #[.int .i64 0, .int .u64 0]) 2 16 Tryz.underlying22 hi2 hs0 hs1 hs2 rfl (by decide) v out.length (out.flatMap Nt.cl) h284 (.slice (some ⟨lit, 0, none⟩) 1 1) 1 (Nt.cl (⟨hh, kk⟩ : Nt)) (src_nt (x := ⟨hh, kk⟩) h278) (by unfold maxLen; omega) (by omega)
      have kV289 : Keeps (fun j => v.ownBlock = some j) V277 V289 := Keeps.rowAdd hg292
      have hw295 : NewFrom NB vn := hnw.next h283 ha294
      refine prq vn (w' := V289) (exec_append (.tmp 64) (.tmp 66) 22 (by kernel_rfl) v (.slice (some ⟨lit, 0, none⟩) 1 1) (by kernel_rfl) (by kernel_rfl) hr290) ?_
      have h296 : Row V289 46 2 vn ((out ++ [(⟨hh, kk⟩ : Nt)]).length) ((out ++ [(⟨hh, kk⟩ : Nt)]).flatMap Nt.cl) := (row_nt rfl h291)
      have hnwn := hw295
      have h297 : V289.heap[r2]? = some (.cells (#[.int .i64 0, .int .i64 0]) 31 (0, 0)) := (kV289.block r2 (lt_of_block h282) (fun e => by have := hnw _ e; omega)).trans h282
      have h298 : NB ≤ V289.heap.size := Nat.le_trans h283 kV289.size
      have h299 : RrAt V289 b rv l s3 := h285.keeps kV289 (fun e => by have := hnw _ e; omega) (fun j hj e => by have := hnw j e; have := hov j hj; omega)
      have K300 : Keeps Nob w V289 := K287.then kV289 (fun i hi hm => absurd hi (by have := hnw i hm; omega))
      have z301 := kV289.size
      refine pkq (vn) <| ps_end <| blk_n <| tr_ [0, 1, 2] <| pkq (iN i) <| ppq (iN (i + 1)) (exec_cast (congrArg (Value.int .i64) (wrapN (i + 1) (by omega))) (by kernel_rfl)) <| pkq (iN (i + 1)) <| et_ ?_
      refine ⟨⟨(i + 1), (out ++ [(⟨hh, kk⟩ : Nt)]), s4, vn, (iN at2), (pT gx 0), (iN i), (iN m), (.bool true), (.bool true), (pT b 0), (pT b 0), (pT b 2), (pT b 2), (.int .i64 s.err), (.bool true), (.bool true), (iN i), (iN (i + 1)), (pT b 0), (pT b 0), (pT b 1), (iN at_), (pT b 0), (.int .i64 hh), (.agg #[.int .i64 hh, .int .u64 0]), (iN i), (.bool true), (.bool true), (pT gx 0), (.int .i64 hh), v, (iN i), (iN ((i - 1))), (.pointer (some ⟨b_, o_ + (i - 1) * 2, none⟩)), (.pointer (some ⟨b_, o_ + (i - 1) * 2, none⟩)), (.int .i64 y.h), (.bool false), (.bool false), u48, u49, u50, (pT b 0), (pT b 0), (pT b 1), (iN at2), (pT b 0), (uN kk), (pT gx 1), (pT gx 1), (uN kk), (.bool false), u61, u62, u63, v, (.agg #[.int .i64 hh, uN kk]), (.slice (some ⟨lit, 0, none⟩) 1 1), vn, by kernel_rfl, by omega, by simp [hout], hpn, hnwn, h297, h298, h296, (qs4 ▸ h299), K300⟩, ?_⟩
      exact lt_meas (x := m - (i + 1)) (y := m - i) (by kernel_rfl) (by kernel_rfl) (by omega)
    · obtain ⟨at_, ea, hcat_, halat_, hatat_, -⟩ := RrAt.ex h20
      have hpos := (hatat_ herr).1
      obtain ⟨hh, hhe⟩ : ∃ x, nrH l s = x := ⟨_, rfl⟩
      obtain ⟨s1, qs1⟩ : ∃ x, (rdN l s 1 4294967296).2 = x := ⟨_, rfl⟩
      obtain ⟨s2, qs2e⟩ : ∃ x, nrS l out s = x := ⟨_, rfl⟩
      obtain ⟨kk, hke⟩ : ∃ x, nrK l s2 = x := ⟨_, rfl⟩
      obtain ⟨s3, qs3⟩ : ∃ x, (rdU l s2).2 = x := ⟨_, rfl⟩
      obtain ⟨s4, qs4e⟩ : ∃ x, nrT l s2 = x := ⟨_, rfl⟩
      have hhb := nrH_le l s
      have hkb := nrK_lt l s2
      have hpn := nrgo_step lt_i hp
      rw [qs2e] at hbig hpn
      rw [hke] at hbig hkb hpn
      rw [hhe] at hhb hpn
      rw [qs4e] at hpn
      obtain ⟨y, hy, hy2, hyc⟩ := hyy
      obtain ⟨b_, o_, c_, hv_, hb_, _⟩ := (row_nts h19).at_ (i - 1) _ hy
      have qs2 : s1 = s2 := by rw [← qs1, ← qs2e, nrS_not hy2 hyc]
      rw [hhe] at hyc
      have qs4 : s3.fail 3 s2.pos = s4 := by rw [← qs4e, ← qs3]; unfold nrT; rw [hke, if_pos hbig]
      refine q_ <| qr_ [0, 1, 2, 3, 4, 5, 6, 7, 8, 9, 10] <| pkq (iN i) <| pkq (iN m) <| ppq (.bool true) (dct ((((i : Nat) : Int)) < (((m : Nat) : Int))) (by omega)) <| pkq (.bool true) <| pkq (pT b 0) <| pkq (pT b 0) <| pkq (pT b 2) <| pkq (pT b 2) <| ppq (.int .i64 s.err) (ldk 27 b 2 hcat_) <| ppq (.bool true) (exec_cast (congrArg Value.bool (show ((((s.err) : Int) == ((0) : Int))) = true from by rw [herr]; rfl)) (by kernel_rfl)) <| pkq (.bool true) <| ey_ ?_
      refine s_ <| tq_ <| bl_ 1 <| qr_ [0, 1, 2, 3, 4] <| pkq (pT b 0) <| pkq (pT b 0) <| pkq (pT b 1) <| ppq (iN at_) (ldk 3 b 1 hcat_) <| pkq (iN at_) <| eqr_ [0, 1, 2, 3, 4] <| pkq (pT b 0) ?_
      refine pcq 48 #[pT b 0, .int .i64 1, .int .i64 4294967296] Tryz.func48 ((rrn_is hhe qs1 (rrN_ok b rv l s 1 4294967296 _ h20 (by decide) (by decide))).mono ?_)
      rintro e V302 ⟨rfl, hRV302, kV302⟩
      have hR2 : RrAt V302 b rv l s2 := qs2 ▸ hRV302
      obtain ⟨at2, ea2, hcat2, halat2, hatat2, -⟩ := RrAt.ex hR2
      refine ⟨_, rfl, ?_⟩
      have h303 := kV302.bO h17
      have h304 : NB ≤ V302.heap.size := Nat.le_trans h18 kV302.size
      have h305 : Row V302 46 2 v out.length (out.flatMap Nt.cl) := h19.keeps kV302 (fun j hj e => by have := hnw j hj; unfold Own.One at e; omega)
      have K306 := K21.nO kV302
      have z307 := kV302.size
      refine pkq (.agg #[.int .i64 hh, .int .u64 0]) ?_
      have hvy : ∀ j, v.ownBlock = some j → j < V302.heap.size := fun j hj => h305.lt hj
      refine pal 46 (#[.int .i64 0, .int .u64 0]) (.agg (#[.int .i64 0, .int .u64 0])) fun V308 gx egx h309 kV308 => ?_
      have n310 : r2 < gx := egx ▸ lt_of_block h303
      have n311 : b < gx := egx ▸ lt_of_block hcat2
      have n312 : w.heap.size ≤ gx := egx ▸ K306.size
      have h313 := kV308.bk h303
      have h314 : NB ≤ V308.heap.size := Nat.le_trans h304 kV308.size
      have h315 : Row V308 46 2 v out.length (out.flatMap Nt.cl) := h305.keeps kV308 (fun _ _ x => x)
      have h316 : RrAt V308 b rv l s2 := hR2.keeps kV308 (fun x => x) (fun _ _ x => x)
      have h317 := kV308.bk hcat2
      have K318 := K306.nn kV308
      have z319 := kV308.size
      have hvx : ∀ j, v.ownBlock = some j → j ≠ gx := fun j hj => by have := hvy j hj; omega
      refine pst 46 gx (#[.int .i64 hh, .int .u64 0]) h309 (by kernel_rfl) rfl (by kernel_rfl) fun V320 h321 kV320 => ?_
      have h322 := kV320.bO h313
      have h323 : NB ≤ V320.heap.size := Nat.le_trans h314 kV320.size
      have h324 : Row V320 46 2 v out.length (out.flatMap Nt.cl) := h315.keeps kV320 (fun j hj e => by have := hvx j hj; unfold Own.One at e; omega)
      have h325 : RrAt V320 b rv l s2 := h316.keeps kV320 (by unfold Own.One; omega) (fun j hj e => by have := hov j hj; unfold Own.One at e; omega)
      have h326 := kV320.bO h317
      have K327 := K318.nO kV320
      have z328 := kV320.size
      refine eq_ <| q_ <| sy_reg <| rg_still 9 12 (opsAt (qc79_0 64076)) [qo79_0 64076 0, qo79_0 64076 1, qo79_0 64076 2, qo79_0 64076 3, qo79_0 64076 4, qo79_0 64076 5, qo79_0 64076 6, qo79_0 64076 7, qo79_0 64076 8, qo79_0 64076 9, qo79_0 64076 10, qo79_0 64076 11] [qo79_0 64076 12] (by kernel_rfl) (by kernel_rfl) (by kernel_rfl) (by kernel_rfl) (by kernel_rfl) ?_
      obtain ⟨V330, eV330, kV330⟩ := drew_step V320
      rw [eV330]
      clear eV330
      have h331 := kV330.bk h322
      have h332 : NB ≤ V330.heap.size := Nat.le_trans h323 kV330.size
      have h333 : Row V330 46 2 v out.length (out.flatMap Nt.cl) := h324.keeps kV330 (fun _ _ x => x)
      have h334 : RrAt V330 b rv l s2 := h325.keeps kV330 (fun x => x) (fun _ _ x => x)
      have h335 := kV330.bk h326
      have h336 := kV330.bk h321
      have K337 := K327.nn kV330
      have z338 := kV330.size
      refine skq (iN i) <| spq (.bool true) (dct ((((i : Nat) : Int)) > ((0) : Int)) (by omega)) <| skq (.bool true) <| skq (pT gx 0) <| spq (.int .i64 hh) (ldk 3 gx 0 h336) <| skq (v) <| skq (iN i) <| spq (iN ((i - 1))) (exec_cast (congrArg (Value.int .i64) (wrapI (((i : Nat) : Int) - 1) ((i - 1 : Nat) : Int) (by omega) (by omega) (by omega))) (by kernel_rfl)) <| spq (.pointer (some ⟨b_, o_ + (i - 1) * 2, none⟩)) (exec_indexAt_slice 22 (.tmp 40) (.tmp 42) (by kernel_rfl) b_ o_ out.length c_ (Eq.trans (b := v) (by kernel_rfl) hv_) .i64 (i - 1) (by kernel_rfl) _ 2 Tryz.underlying22 (by kernel_rfl) (by omega)) <| skq (.pointer (some ⟨b_, o_ + (i - 1) * 2, none⟩)) <| spq (.int .i64 y.h) (exec_ld 3 (.tmp 44) b_ (o_ + (i - 1) * 2 + 0) Tryz.underlying3 (Sl.cell (row_nts h333) hy hv_ rfl)) <| spq (.bool false) (dcf (((hh) : Int) < ((y.h) : Int)) (by omega)) <| st_end <| ls_run (qo79_0 64076 12) (.bool false) (w' := V330) (by kernel_rfl) (by kernel_rfl) ?_
      refine ls_end <| sy_a ⟨#[v0, ud, .slice none 0 0, pT r2 0, pT b 0, v, iN m, iN i, iN at_, pT gx 0, ud, v0, pT b 0, pT b 0, iN m, iN i, iN m, .bool true, .bool true, pT b 0, pT b 0, pT b 2, pT b 2, .int .i64 s.err, .bool true, .bool true, u26, u27, pT b 0, pT b 0, pT b 1, iN at_, pT b 0, .int .i64 hh, .agg #[.int .i64 hh, .int .u64 0], iN i, .bool true, .bool true, pT gx 0, .int .i64 hh, v, iN i, iN ((i - 1)), .pointer (some ⟨b_, o_ + (i - 1) * 2, none⟩), .pointer (some ⟨b_, o_ + (i - 1) * 2, none⟩), .int .i64 y.h, .bool false, .bool false, u48, u49, u50, u51, u52, u53, u54, u55, u56, u57, u58, u59, u60, u61, u62, u63, u64, u65, u66, u67, ud, ud, ud, ud, ud, ud, ud, ud], []⟩ <| then_n <| n_ <| s_ <| tqr_ [0, 1, 2, 3, 4] <| pkq (pT b 0) <| pkq (pT b 0) <| pkq (pT b 1) <| ppq (iN at2) (ldk 3 b 1 h335) <| pkq (iN at2) <| eqr_ [0, 1, 2, 3] <| pkq (pT b 0) ?_
      refine pcq 50 #[pT b 0] Tryz.func50 ((rru_is hke qs3 (rrU_ok b rv l s2 _ h334)).mono ?_)
      rintro e V339 ⟨rfl, hRV339, kV339⟩
      refine ⟨_, rfl, ?_⟩
      have h340 := kV339.bO h331
      have h341 : NB ≤ V339.heap.size := Nat.le_trans h332 kV339.size
      have h342 : Row V339 46 2 v out.length (out.flatMap Nt.cl) := h333.keeps kV339 (fun j hj e => by have := hnw j hj; unfold Own.One at e; omega)
      have h343 := kV339.bO h336
      have K344 := K337.nO kV339
      have z345 := kV339.size
      refine pkq (pT gx 1) <| pce 40 gx 1 (uN kk) (#[.int .i64 hh, .int .u64 ((kk : Nat) : Int)]) h343 (rc (h343) (by kernel_rfl)) (by kernel_rfl) (u := .int .u64 0) fun V346 h347 kV346 => ?_
      have h348 := kV346.bO h340
      have h349 : NB ≤ V346.heap.size := Nat.le_trans h341 kV346.size
      have h350 : Row V346 46 2 v out.length (out.flatMap Nt.cl) := h342.keeps kV346 (fun j hj e => by have := hvx j hj; unfold Own.One at e; omega)
      have h351 : RrAt V346 b rv l s3 := hRV339.keeps kV346 (by unfold Own.One; omega) (fun j hj e => by have := hov j hj; unfold Own.One at e; omega)
      have K352 := K344.nO kV346
      have z353 := kV346.size
      refine eq_ <| qr_ [0, 1, 2] <| pkq (pT gx 1) <| ppq (uN kk) (ldk 40 gx 1 h347) <| ppq (.bool true) (dct ((((kk : Nat) : Int)) > ((4611686018427387904) : Int)) (by omega)) <| ey_ <| r_ [0, 1, 2] <| pkq (pT b 0) <| pkq (iN at2) ?_
      refine pcq 49 #[pT b 0, .int .i64 3, iN at2] Tryz.func49 ((rrFail_ok b rv l s3 3 ((at2 : Nat) : Int) _ h351).mono ?_)
      rintro e V354 ⟨⟨rv14, rfl⟩, hRV354, kV354⟩
      have qs4b : s3.fail 3 ((at2 : Nat) : Int) = s4 := by rw [← qs4, ← qs3]; exact nfail_at (fun h => (hatat2 h).1)
      refine ⟨_, rfl, ?_⟩
      have h355 := kV354.bO h348
      have h356 : NB ≤ V354.heap.size := Nat.le_trans h349 kV354.size
      have h357 : Row V354 46 2 v out.length (out.flatMap Nt.cl) := h350.keeps kV354 (fun j hj e => by have := hnw j hj; unfold Own.One at e; omega)
      have h358 := kV354.bO h347
      have K359 := K352.nO kV354
      have z360 := kV354.size
      refine er_ [0, 1, 2, 3, 4] <| pkq (v) <| ppq (.agg #[.int .i64 hh, uN kk]) (ldr 46 gx (h358) (by kernel_rfl)) ?_
      obtain ⟨V361, eV361, lit, elit, h362, kV361⟩ := alloc_step V354 (#[.int .i64 hh, .int .u64 ((kk : Nat) : Int)]) 46
      have n363 : r2 < lit := elit ▸ lt_of_block h355
      have n364 : gx < lit := elit ▸ lt_of_block h358
      have n365 : w.heap.size ≤ lit := elit ▸ K359.size
      refine prq (.slice (some ⟨lit, 0, none⟩) 1 1) (w' := V361) (by rw [← eV361, ← elit]; kernel_rfl) ?_
      have h366 := kV361.bk h355
      have h367 : NB ≤ V361.heap.size := Nat.le_trans h356 kV361.size
      have h368 : Row V361 46 2 v out.length (out.flatMap Nt.cl) := h357.keeps kV361 (fun _ _ x => x)
      have h370 : RrAt V361 b rv l s4 := (qs4b ▸ hRV354).keeps kV361 (fun x => x) (fun _ _ x => x)
      have K371 := K359.nn kV361
      have z372 := kV361.size
      obtain ⟨vn, V373, hr374, h375, hg376, hn377, ha378⟩ := run_append_any (P := Tryz.prog) (w := V361) 22 (Oper.type (qo79_0 256319 3)) 46 i2 (.agg #[.int .i64 0, .int .u64 0]) 2 16 Tryz.underlying22 hi2 hs0 hs1 hs2 rfl (by decide) v out.length (out.flatMap Nt.cl) h368 (.slice (some ⟨lit, 0, none⟩) 1 1) 1 (Nt.cl (⟨hh, kk⟩ : Nt)) (src_nt (x := ⟨hh, kk⟩) h362) (by unfold maxLen; omega) (by omega)
      have kV373 : Keeps (fun j => v.ownBlock = some j) V361 V373 := Keeps.rowAdd hg376
      have hw379 : NewFrom NB vn := hnw.next h367 ha378
      refine prq vn (w' := V373) (exec_append (.tmp 64) (.tmp 66) 22 (by kernel_rfl) v (.slice (some ⟨lit, 0, none⟩) 1 1) (by kernel_rfl) (by kernel_rfl) hr374) ?_
      have h380 : Row V373 46 2 vn ((out ++ [(⟨hh, kk⟩ : Nt)]).length) ((out ++ [(⟨hh, kk⟩ : Nt)]).flatMap Nt.cl) := (row_nt rfl h375)
      have hnwn := hw379
      have h381 : V373.heap[r2]? = some (.cells (#[.int .i64 0, .int .i64 0]) 31 (0, 0)) := (kV373.block r2 (lt_of_block h366) (fun e => by have := hnw _ e; omega)).trans h366
      have h382 : NB ≤ V373.heap.size := Nat.le_trans h367 kV373.size
      have h383 : RrAt V373 b rv l s4 := h370.keeps kV373 (fun e => by have := hnw _ e; omega) (fun j hj e => by have := hnw j e; have := hov j hj; omega)
      have K384 : Keeps Nob w V373 := K371.then kV373 (fun i hi hm => absurd hi (by have := hnw i hm; omega))
      have z385 := kV373.size
      refine pkq (vn) <| ps_end <| blk_n <| tr_ [0, 1, 2] <| pkq (iN i) <| ppq (iN (i + 1)) (exec_cast (congrArg (Value.int .i64) (wrapN (i + 1) (by omega))) (by kernel_rfl)) <| pkq (iN (i + 1)) <| et_ ?_
      refine ⟨⟨(i + 1), (out ++ [(⟨hh, kk⟩ : Nt)]), s4, vn, (iN at2), (pT gx 0), (iN i), (iN m), (.bool true), (.bool true), (pT b 0), (pT b 0), (pT b 2), (pT b 2), (.int .i64 s.err), (.bool true), (.bool true), (iN i), (iN (i + 1)), (pT b 0), (pT b 0), (pT b 1), (iN at_), (pT b 0), (.int .i64 hh), (.agg #[.int .i64 hh, .int .u64 0]), (iN i), (.bool true), (.bool true), (pT gx 0), (.int .i64 hh), v, (iN i), (iN ((i - 1))), (.pointer (some ⟨b_, o_ + (i - 1) * 2, none⟩)), (.pointer (some ⟨b_, o_ + (i - 1) * 2, none⟩)), (.int .i64 y.h), (.bool false), (.bool false), u48, u49, u50, (pT b 0), (pT b 0), (pT b 1), (iN at2), (pT b 0), (uN kk), (pT gx 1), (pT gx 1), (uN kk), (.bool true), (pT b 0), (iN at2), rv14, v, (.agg #[.int .i64 hh, uN kk]), (.slice (some ⟨lit, 0, none⟩) 1 1), vn, by kernel_rfl, by omega, by simp [hout], hpn, hnwn, h381, h382, h380, h383, K384⟩, ?_⟩
      exact lt_meas (x := m - (i + 1)) (y := m - i) (by kernel_rfl) (by kernel_rfl) (by omega)
    · obtain ⟨at_, ea, hcat_, halat_, hatat_, -⟩ := RrAt.ex h20
      have hpos := (hatat_ herr).1
      obtain ⟨hh, hhe⟩ : ∃ x, nrH l s = x := ⟨_, rfl⟩
      obtain ⟨s1, qs1⟩ : ∃ x, (rdN l s 1 4294967296).2 = x := ⟨_, rfl⟩
      obtain ⟨s2, qs2e⟩ : ∃ x, nrS l out s = x := ⟨_, rfl⟩
      obtain ⟨kk, hke⟩ : ∃ x, nrK l s2 = x := ⟨_, rfl⟩
      obtain ⟨s3, qs3⟩ : ∃ x, (rdU l s2).2 = x := ⟨_, rfl⟩
      obtain ⟨s4, qs4e⟩ : ∃ x, nrT l s2 = x := ⟨_, rfl⟩
      have hhb := nrH_le l s
      have hkb := nrK_lt l s2
      have hpn := nrgo_step lt_i hp
      rw [qs2e] at hbig hpn
      rw [hke] at hbig hkb hpn
      rw [hhe] at hhb hpn
      rw [qs4e] at hpn
      obtain ⟨y, hy, hy2, hyc⟩ := hyy
      obtain ⟨b_, o_, c_, hv_, hb_, _⟩ := (row_nts h19).at_ (i - 1) _ hy
      have qs2 : s1.fail 9 ((at_ : Nat) : Int) = s2 := by rw [← qs1, ← qs2e, nrS_yes hy2 hyc, hpos]
      rw [hhe] at hyc
      have qs4 : s3 = s4 := by rw [← qs4e, ← qs3]; unfold nrT; rw [hke, if_neg hbig]
      refine q_ <| qr_ [0, 1, 2, 3, 4, 5, 6, 7, 8, 9, 10] <| pkq (iN i) <| pkq (iN m) <| ppq (.bool true) (dct ((((i : Nat) : Int)) < (((m : Nat) : Int))) (by omega)) <| pkq (.bool true) <| pkq (pT b 0) <| pkq (pT b 0) <| pkq (pT b 2) <| pkq (pT b 2) <| ppq (.int .i64 s.err) (ldk 27 b 2 hcat_) <| ppq (.bool true) (exec_cast (congrArg Value.bool (show ((((s.err) : Int) == ((0) : Int))) = true from by rw [herr]; rfl)) (by kernel_rfl)) <| pkq (.bool true) <| ey_ ?_
      refine s_ <| tq_ <| bl_ 1 <| qr_ [0, 1, 2, 3, 4] <| pkq (pT b 0) <| pkq (pT b 0) <| pkq (pT b 1) <| ppq (iN at_) (ldk 3 b 1 hcat_) <| pkq (iN at_) <| eqr_ [0, 1, 2, 3, 4] <| pkq (pT b 0) ?_
      refine pcq 48 #[pT b 0, .int .i64 1, .int .i64 4294967296] Tryz.func48 ((rrn_is hhe qs1 (rrN_ok b rv l s 1 4294967296 _ h20 (by decide) (by decide))).mono ?_)
      rintro e V386 ⟨rfl, hRV386, kV386⟩
      refine ⟨_, rfl, ?_⟩
      have h387 := kV386.bO h17
      have h388 : NB ≤ V386.heap.size := Nat.le_trans h18 kV386.size
      have h389 : Row V386 46 2 v out.length (out.flatMap Nt.cl) := h19.keeps kV386 (fun j hj e => by have := hnw j hj; unfold Own.One at e; omega)
      have K390 := K21.nO kV386
      have z391 := kV386.size
      refine pkq (.agg #[.int .i64 hh, .int .u64 0]) ?_
      have hvy : ∀ j, v.ownBlock = some j → j < V386.heap.size := fun j hj => h389.lt hj
      refine pal 46 (#[.int .i64 0, .int .u64 0]) (.agg (#[.int .i64 0, .int .u64 0])) fun V392 gx egx h393 kV392 => ?_
      have n394 : r2 < gx := egx ▸ lt_of_block h387
      have n395 : w.heap.size ≤ gx := egx ▸ K390.size
      have h396 := kV392.bk h387
      have h397 : NB ≤ V392.heap.size := Nat.le_trans h388 kV392.size
      have h398 : Row V392 46 2 v out.length (out.flatMap Nt.cl) := h389.keeps kV392 (fun _ _ x => x)
      have h399 : RrAt V392 b rv l s1 := hRV386.keeps kV392 (fun x => x) (fun _ _ x => x)
      have K400 := K390.nn kV392
      have z401 := kV392.size
      have hvx : ∀ j, v.ownBlock = some j → j ≠ gx := fun j hj => by have := hvy j hj; omega
      refine pst 46 gx (#[.int .i64 hh, .int .u64 0]) h393 (by kernel_rfl) rfl (by kernel_rfl) fun V402 h403 kV402 => ?_
      have h404 := kV402.bO h396
      have h405 : NB ≤ V402.heap.size := Nat.le_trans h397 kV402.size
      have h406 : Row V402 46 2 v out.length (out.flatMap Nt.cl) := h398.keeps kV402 (fun j hj e => by have := hvx j hj; unfold Own.One at e; omega)
      have h407 : RrAt V402 b rv l s1 := h399.keeps kV402 (by unfold Own.One; omega) (fun j hj e => by have := hov j hj; unfold Own.One at e; omega)
      have K408 := K400.nO kV402
      have z409 := kV402.size
      refine eq_ <| q_ <| sy_reg <| rg_still 9 12 (opsAt (qc79_0 64076)) [qo79_0 64076 0, qo79_0 64076 1, qo79_0 64076 2, qo79_0 64076 3, qo79_0 64076 4, qo79_0 64076 5, qo79_0 64076 6, qo79_0 64076 7, qo79_0 64076 8, qo79_0 64076 9, qo79_0 64076 10, qo79_0 64076 11] [qo79_0 64076 12] (by kernel_rfl) (by kernel_rfl) (by kernel_rfl) (by kernel_rfl) (by kernel_rfl) ?_
      obtain ⟨V411, eV411, kV411⟩ := drew_step V402
      rw [eV411]
      clear eV411
      have h412 := kV411.bk h404
      have h413 : NB ≤ V411.heap.size := Nat.le_trans h405 kV411.size
      have h414 : Row V411 46 2 v out.length (out.flatMap Nt.cl) := h406.keeps kV411 (fun _ _ x => x)
      have h415 : RrAt V411 b rv l s1 := h407.keeps kV411 (fun x => x) (fun _ _ x => x)
      have h416 := kV411.bk h403
      have K417 := K408.nn kV411
      have z418 := kV411.size
      refine skq (iN i) <| spq (.bool true) (dct ((((i : Nat) : Int)) > ((0) : Int)) (by omega)) <| skq (.bool true) <| skq (pT gx 0) <| spq (.int .i64 hh) (ldk 3 gx 0 h416) <| skq (v) <| skq (iN i) <| spq (iN ((i - 1))) (exec_cast (congrArg (Value.int .i64) (wrapI (((i : Nat) : Int) - 1) ((i - 1 : Nat) : Int) (by omega) (by omega) (by omega))) (by kernel_rfl)) <| spq (.pointer (some ⟨b_, o_ + (i - 1) * 2, none⟩)) (exec_indexAt_slice 22 (.tmp 40) (.tmp 42) (by kernel_rfl) b_ o_ out.length c_ (Eq.trans (b := v) (by kernel_rfl) hv_) .i64 (i - 1) (by kernel_rfl) _ 2 Tryz.underlying22 (by kernel_rfl) (by omega)) <| skq (.pointer (some ⟨b_, o_ + (i - 1) * 2, none⟩)) <| spq (.int .i64 y.h) (exec_ld 3 (.tmp 44) b_ (o_ + (i - 1) * 2 + 0) Tryz.underlying3 (Sl.cell (row_nts h414) hy hv_ rfl)) <| spq (.bool true) (dct (((hh) : Int) < ((y.h) : Int)) (by omega)) <| st_end <| ls_run (qo79_0 64076 12) (.bool true) (w' := V411) (by kernel_rfl) (by kernel_rfl) ?_
      refine ls_end <| sy_a ⟨#[v0, ud, .slice none 0 0, pT r2 0, pT b 0, v, iN m, iN i, iN at_, pT gx 0, ud, v0, pT b 0, pT b 0, iN m, iN i, iN m, .bool true, .bool true, pT b 0, pT b 0, pT b 2, pT b 2, .int .i64 s.err, .bool true, .bool true, u26, u27, pT b 0, pT b 0, pT b 1, iN at_, pT b 0, .int .i64 hh, .agg #[.int .i64 hh, .int .u64 0], iN i, .bool true, .bool true, pT gx 0, .int .i64 hh, v, iN i, iN ((i - 1)), .pointer (some ⟨b_, o_ + (i - 1) * 2, none⟩), .pointer (some ⟨b_, o_ + (i - 1) * 2, none⟩), .int .i64 y.h, .bool true, .bool true, u48, u49, u50, u51, u52, u53, u54, u55, u56, u57, u58, u59, u60, u61, u62, u63, u64, u65, u66, u67, ud, ud, ud, ud, ud, ud, ud, ud], []⟩ <| then_n <| y_ <| r_ [0, 1, 2] <| pkq (pT b 0) <| pkq (iN at_) ?_
      refine pcq 49 #[pT b 0, .int .i64 9, iN at_] Tryz.func49 ((rrFail_ok b rv l s1 9 ((at_ : Nat) : Int) _ h415).mono ?_)
      rintro e V419 ⟨⟨rv10, rfl⟩, hRV419, kV419⟩
      have hR2 : RrAt V419 b rv l s2 := qs2 ▸ hRV419
      obtain ⟨at2, ea2, hcat2, halat2, hatat2, -⟩ := RrAt.ex hR2
      refine ⟨_, rfl, ?_⟩
      have h420 := kV419.bO h412
      have h421 : NB ≤ V419.heap.size := Nat.le_trans h413 kV419.size
      have h422 : Row V419 46 2 v out.length (out.flatMap Nt.cl) := h414.keeps kV419 (fun j hj e => by have := hnw j hj; unfold Own.One at e; omega)
      have h423 := kV419.bO h416
      have K424 := K417.nO kV419
      have z425 := kV419.size
      refine eqr_ [0, 1, 2, 3, 4] <| pkq (pT b 0) <| pkq (pT b 0) <| pkq (pT b 1) <| ppq (iN at2) (ldk 3 b 1 hcat2) <| pkq (iN at2) <| eqr_ [0, 1, 2, 3] <| pkq (pT b 0) ?_
      refine pcq 50 #[pT b 0] Tryz.func50 ((rru_is hke qs3 (rrU_ok b rv l s2 _ hR2)).mono ?_)
      rintro e V426 ⟨rfl, hRV426, kV426⟩
      refine ⟨_, rfl, ?_⟩
      have h427 := kV426.bO h420
      have h428 : NB ≤ V426.heap.size := Nat.le_trans h421 kV426.size
      have h429 : Row V426 46 2 v out.length (out.flatMap Nt.cl) := h422.keeps kV426 (fun j hj e => by have := hnw j hj; unfold Own.One at e; omega)
      have h430 := kV426.bO h423
      have K431 := K424.nO kV426
      have z432 := kV426.size
      refine pkq (pT gx 1) <| pce 40 gx 1 (uN kk) (#[.int .i64 hh, .int .u64 ((kk : Nat) : Int)]) h430 (rc (h430) (by kernel_rfl)) (by kernel_rfl) (u := .int .u64 0) fun V433 h434 kV433 => ?_
      have h435 := kV433.bO h427
      have h436 : NB ≤ V433.heap.size := Nat.le_trans h428 kV433.size
      have h437 : Row V433 46 2 v out.length (out.flatMap Nt.cl) := h429.keeps kV433 (fun j hj e => by have := hvx j hj; unfold Own.One at e; omega)
      have h438 : RrAt V433 b rv l s3 := hRV426.keeps kV433 (by unfold Own.One; omega) (fun j hj e => by have := hov j hj; unfold Own.One at e; omega)
      have K439 := K431.nO kV433
      have z440 := kV433.size
      refine eq_ <| qr_ [0, 1, 2] <| pkq (pT gx 1) <| ppq (uN kk) (ldk 40 gx 1 h434) <| ppq (.bool false) (dcf ((((kk : Nat) : Int)) > ((4611686018427387904) : Int)) (by omega)) <| en_ <| s_ <| tr_ [0, 1, 2, 3, 4] <| pkq (v) <| ppq (.agg #[.int .i64 hh, uN kk]) (ldr 46 gx (h434) (by kernel_rfl)) ?_
      obtain ⟨V441, eV441, lit, elit, h442, kV441⟩ := alloc_step V433 (#[.int .i64 hh, .int .u64 ((kk : Nat) : Int)]) 46
      have n443 : r2 < lit := elit ▸ lt_of_block h435
      have n444 : gx < lit := elit ▸ lt_of_block h434
      have n445 : w.heap.size ≤ lit := elit ▸ K439.size
      refine prq (.slice (some ⟨lit, 0, none⟩) 1 1) (w' := V441) (by rw [← eV441, ← elit]; kernel_rfl) ?_
      have h446 := kV441.bk h435
      have h447 : NB ≤ V441.heap.size := Nat.le_trans h436 kV441.size
      have h448 : Row V441 46 2 v out.length (out.flatMap Nt.cl) := h437.keeps kV441 (fun _ _ x => x)
      have h449 : RrAt V441 b rv l s3 := h438.keeps kV441 (fun x => x) (fun _ _ x => x)
      have K451 := K439.nn kV441
      have z452 := kV441.size
      obtain ⟨vn, V453, hr454, h455, hg456, hn457, ha458⟩ := run_append_any (P := Tryz.prog) (w := V441) 22 (Oper.type (qo79_0 256319 3)) 46 i2 (.agg #[.int .i64 0, .int .u64 0]) 2 16 Tryz.underlying22 hi2 hs0 hs1 hs2 rfl (by decide) v out.length (out.flatMap Nt.cl) h448 (.slice (some ⟨lit, 0, none⟩) 1 1) 1 (Nt.cl (⟨hh, kk⟩ : Nt)) (src_nt (x := ⟨hh, kk⟩) h442) (by unfold maxLen; omega) (by omega)
      have kV453 : Keeps (fun j => v.ownBlock = some j) V441 V453 := Keeps.rowAdd hg456
      have hw459 : NewFrom NB vn := hnw.next h447 ha458
      refine prq vn (w' := V453) (exec_append (.tmp 64) (.tmp 66) 22 (by kernel_rfl) v (.slice (some ⟨lit, 0, none⟩) 1 1) (by kernel_rfl) (by kernel_rfl) hr454) ?_
      have h460 : Row V453 46 2 vn ((out ++ [(⟨hh, kk⟩ : Nt)]).length) ((out ++ [(⟨hh, kk⟩ : Nt)]).flatMap Nt.cl) := (row_nt rfl h455)
      have hnwn := hw459
      have h461 : V453.heap[r2]? = some (.cells (#[.int .i64 0, .int .i64 0]) 31 (0, 0)) := (kV453.block r2 (lt_of_block h446) (fun e => by have := hnw _ e; omega)).trans h446
      have h462 : NB ≤ V453.heap.size := Nat.le_trans h447 kV453.size
      have h463 : RrAt V453 b rv l s3 := h449.keeps kV453 (fun e => by have := hnw _ e; omega) (fun j hj e => by have := hnw j e; have := hov j hj; omega)
      have K464 : Keeps Nob w V453 := K451.then kV453 (fun i hi hm => absurd hi (by have := hnw i hm; omega))
      have z465 := kV453.size
      refine pkq (vn) <| ps_end <| blk_n <| tr_ [0, 1, 2] <| pkq (iN i) <| ppq (iN (i + 1)) (exec_cast (congrArg (Value.int .i64) (wrapN (i + 1) (by omega))) (by kernel_rfl)) <| pkq (iN (i + 1)) <| et_ ?_
      refine ⟨⟨(i + 1), (out ++ [(⟨hh, kk⟩ : Nt)]), s4, vn, (iN at2), (pT gx 0), (iN i), (iN m), (.bool true), (.bool true), (pT b 0), (pT b 0), (pT b 2), (pT b 2), (.int .i64 s.err), (.bool true), (.bool true), (iN i), (iN (i + 1)), (pT b 0), (pT b 0), (pT b 1), (iN at_), (pT b 0), (.int .i64 hh), (.agg #[.int .i64 hh, .int .u64 0]), (iN i), (.bool true), (.bool true), (pT gx 0), (.int .i64 hh), v, (iN i), (iN ((i - 1))), (.pointer (some ⟨b_, o_ + (i - 1) * 2, none⟩)), (.pointer (some ⟨b_, o_ + (i - 1) * 2, none⟩)), (.int .i64 y.h), (.bool true), (.bool true), (pT b 0), (iN at_), rv10, (pT b 0), (pT b 0), (pT b 1), (iN at2), (pT b 0), (uN kk), (pT gx 1), (pT gx 1), (uN kk), (.bool false), u61, u62, u63, v, (.agg #[.int .i64 hh, uN kk]), (.slice (some ⟨lit, 0, none⟩) 1 1), vn, by kernel_rfl, by omega, by simp [hout], hpn, hnwn, h461, h462, h460, (qs4 ▸ h463), K464⟩, ?_⟩
      exact lt_meas (x := m - (i + 1)) (y := m - i) (by kernel_rfl) (by kernel_rfl) (by omega)
    · obtain ⟨at_, ea, hcat_, halat_, hatat_, -⟩ := RrAt.ex h20
      have hpos := (hatat_ herr).1
      obtain ⟨hh, hhe⟩ : ∃ x, nrH l s = x := ⟨_, rfl⟩
      obtain ⟨s1, qs1⟩ : ∃ x, (rdN l s 1 4294967296).2 = x := ⟨_, rfl⟩
      obtain ⟨s2, qs2e⟩ : ∃ x, nrS l out s = x := ⟨_, rfl⟩
      obtain ⟨kk, hke⟩ : ∃ x, nrK l s2 = x := ⟨_, rfl⟩
      obtain ⟨s3, qs3⟩ : ∃ x, (rdU l s2).2 = x := ⟨_, rfl⟩
      obtain ⟨s4, qs4e⟩ : ∃ x, nrT l s2 = x := ⟨_, rfl⟩
      have hhb := nrH_le l s
      have hkb := nrK_lt l s2
      have hpn := nrgo_step lt_i hp
      rw [qs2e] at hbig hpn
      rw [hke] at hbig hkb hpn
      rw [hhe] at hhb hpn
      rw [qs4e] at hpn
      obtain ⟨y, hy, hy2, hyc⟩ := hyy
      obtain ⟨b_, o_, c_, hv_, hb_, _⟩ := (row_nts h19).at_ (i - 1) _ hy
      have qs2 : s1.fail 9 ((at_ : Nat) : Int) = s2 := by rw [← qs1, ← qs2e, nrS_yes hy2 hyc, hpos]
      rw [hhe] at hyc
      have qs4 : s3.fail 3 s2.pos = s4 := by rw [← qs4e, ← qs3]; unfold nrT; rw [hke, if_pos hbig]
      refine q_ <| qr_ [0, 1, 2, 3, 4, 5, 6, 7, 8, 9, 10] <| pkq (iN i) <| pkq (iN m) <| ppq (.bool true) (dct ((((i : Nat) : Int)) < (((m : Nat) : Int))) (by omega)) <| pkq (.bool true) <| pkq (pT b 0) <| pkq (pT b 0) <| pkq (pT b 2) <| pkq (pT b 2) <| ppq (.int .i64 s.err) (ldk 27 b 2 hcat_) <| ppq (.bool true) (exec_cast (congrArg Value.bool (show ((((s.err) : Int) == ((0) : Int))) = true from by rw [herr]; rfl)) (by kernel_rfl)) <| pkq (.bool true) <| ey_ ?_
      refine s_ <| tq_ <| bl_ 1 <| qr_ [0, 1, 2, 3, 4] <| pkq (pT b 0) <| pkq (pT b 0) <| pkq (pT b 1) <| ppq (iN at_) (ldk 3 b 1 hcat_) <| pkq (iN at_) <| eqr_ [0, 1, 2, 3, 4] <| pkq (pT b 0) ?_
      refine pcq 48 #[pT b 0, .int .i64 1, .int .i64 4294967296] Tryz.func48 ((rrn_is hhe qs1 (rrN_ok b rv l s 1 4294967296 _ h20 (by decide) (by decide))).mono ?_)
      rintro e V466 ⟨rfl, hRV466, kV466⟩
      refine ⟨_, rfl, ?_⟩
      have h467 := kV466.bO h17
      have h468 : NB ≤ V466.heap.size := Nat.le_trans h18 kV466.size
      have h469 : Row V466 46 2 v out.length (out.flatMap Nt.cl) := h19.keeps kV466 (fun j hj e => by have := hnw j hj; unfold Own.One at e; omega)
      have K470 := K21.nO kV466
      have z471 := kV466.size
      refine pkq (.agg #[.int .i64 hh, .int .u64 0]) ?_
      have hvy : ∀ j, v.ownBlock = some j → j < V466.heap.size := fun j hj => h469.lt hj
      refine pal 46 (#[.int .i64 0, .int .u64 0]) (.agg (#[.int .i64 0, .int .u64 0])) fun V472 gx egx h473 kV472 => ?_
      have n474 : r2 < gx := egx ▸ lt_of_block h467
      have n475 : w.heap.size ≤ gx := egx ▸ K470.size
      have h476 := kV472.bk h467
      have h477 : NB ≤ V472.heap.size := Nat.le_trans h468 kV472.size
      have h478 : Row V472 46 2 v out.length (out.flatMap Nt.cl) := h469.keeps kV472 (fun _ _ x => x)
      have h479 : RrAt V472 b rv l s1 := hRV466.keeps kV472 (fun x => x) (fun _ _ x => x)
      have K480 := K470.nn kV472
      have z481 := kV472.size
      have hvx : ∀ j, v.ownBlock = some j → j ≠ gx := fun j hj => by have := hvy j hj; omega
      refine pst 46 gx (#[.int .i64 hh, .int .u64 0]) h473 (by kernel_rfl) rfl (by kernel_rfl) fun V482 h483 kV482 => ?_
      have h484 := kV482.bO h476
      have h485 : NB ≤ V482.heap.size := Nat.le_trans h477 kV482.size
      have h486 : Row V482 46 2 v out.length (out.flatMap Nt.cl) := h478.keeps kV482 (fun j hj e => by have := hvx j hj; unfold Own.One at e; omega)
      have h487 : RrAt V482 b rv l s1 := h479.keeps kV482 (by unfold Own.One; omega) (fun j hj e => by have := hov j hj; unfold Own.One at e; omega)
      have K488 := K480.nO kV482
      have z489 := kV482.size
      refine eq_ <| q_ <| sy_reg <| rg_still 9 12 (opsAt (qc79_0 64076)) [qo79_0 64076 0, qo79_0 64076 1, qo79_0 64076 2, qo79_0 64076 3, qo79_0 64076 4, qo79_0 64076 5, qo79_0 64076 6, qo79_0 64076 7, qo79_0 64076 8, qo79_0 64076 9, qo79_0 64076 10, qo79_0 64076 11] [qo79_0 64076 12] (by kernel_rfl) (by kernel_rfl) (by kernel_rfl) (by kernel_rfl) (by kernel_rfl) ?_
      obtain ⟨V491, eV491, kV491⟩ := drew_step V482
      rw [eV491]
      clear eV491
      have h492 := kV491.bk h484
      have h493 : NB ≤ V491.heap.size := Nat.le_trans h485 kV491.size
      have h494 : Row V491 46 2 v out.length (out.flatMap Nt.cl) := h486.keeps kV491 (fun _ _ x => x)
      have h495 : RrAt V491 b rv l s1 := h487.keeps kV491 (fun x => x) (fun _ _ x => x)
      have h496 := kV491.bk h483
      have K497 := K488.nn kV491
      have z498 := kV491.size
      refine skq (iN i) <| spq (.bool true) (dct ((((i : Nat) : Int)) > ((0) : Int)) (by omega)) <| skq (.bool true) <| skq (pT gx 0) <| spq (.int .i64 hh) (ldk 3 gx 0 h496) <| skq (v) <| skq (iN i) <| spq (iN ((i - 1))) (exec_cast (congrArg (Value.int .i64) (wrapI (((i : Nat) : Int) - 1) ((i - 1 : Nat) : Int) (by omega) (by omega) (by omega))) (by kernel_rfl)) <| spq (.pointer (some ⟨b_, o_ + (i - 1) * 2, none⟩)) (exec_indexAt_slice 22 (.tmp 40) (.tmp 42) (by kernel_rfl) b_ o_ out.length c_ (Eq.trans (b := v) (by kernel_rfl) hv_) .i64 (i - 1) (by kernel_rfl) _ 2 Tryz.underlying22 (by kernel_rfl) (by omega)) <| skq (.pointer (some ⟨b_, o_ + (i - 1) * 2, none⟩)) <| spq (.int .i64 y.h) (exec_ld 3 (.tmp 44) b_ (o_ + (i - 1) * 2 + 0) Tryz.underlying3 (Sl.cell (row_nts h494) hy hv_ rfl)) <| spq (.bool true) (dct (((hh) : Int) < ((y.h) : Int)) (by omega)) <| st_end <| ls_run (qo79_0 64076 12) (.bool true) (w' := V491) (by kernel_rfl) (by kernel_rfl) ?_
      refine ls_end <| sy_a ⟨#[v0, ud, .slice none 0 0, pT r2 0, pT b 0, v, iN m, iN i, iN at_, pT gx 0, ud, v0, pT b 0, pT b 0, iN m, iN i, iN m, .bool true, .bool true, pT b 0, pT b 0, pT b 2, pT b 2, .int .i64 s.err, .bool true, .bool true, u26, u27, pT b 0, pT b 0, pT b 1, iN at_, pT b 0, .int .i64 hh, .agg #[.int .i64 hh, .int .u64 0], iN i, .bool true, .bool true, pT gx 0, .int .i64 hh, v, iN i, iN ((i - 1)), .pointer (some ⟨b_, o_ + (i - 1) * 2, none⟩), .pointer (some ⟨b_, o_ + (i - 1) * 2, none⟩), .int .i64 y.h, .bool true, .bool true, u48, u49, u50, u51, u52, u53, u54, u55, u56, u57, u58, u59, u60, u61, u62, u63, u64, u65, u66, u67, ud, ud, ud, ud, ud, ud, ud, ud], []⟩ <| then_n <| y_ <| r_ [0, 1, 2] <| pkq (pT b 0) <| pkq (iN at_) ?_
      refine pcq 49 #[pT b 0, .int .i64 9, iN at_] Tryz.func49 ((rrFail_ok b rv l s1 9 ((at_ : Nat) : Int) _ h495).mono ?_)
      rintro e V499 ⟨⟨rv10, rfl⟩, hRV499, kV499⟩
      have hR2 : RrAt V499 b rv l s2 := qs2 ▸ hRV499
      obtain ⟨at2, ea2, hcat2, halat2, hatat2, -⟩ := RrAt.ex hR2
      refine ⟨_, rfl, ?_⟩
      have h500 := kV499.bO h492
      have h501 : NB ≤ V499.heap.size := Nat.le_trans h493 kV499.size
      have h502 : Row V499 46 2 v out.length (out.flatMap Nt.cl) := h494.keeps kV499 (fun j hj e => by have := hnw j hj; unfold Own.One at e; omega)
      have h503 := kV499.bO h496
      have K504 := K497.nO kV499
      have z505 := kV499.size
      refine eqr_ [0, 1, 2, 3, 4] <| pkq (pT b 0) <| pkq (pT b 0) <| pkq (pT b 1) <| ppq (iN at2) (ldk 3 b 1 hcat2) <| pkq (iN at2) <| eqr_ [0, 1, 2, 3] <| pkq (pT b 0) ?_
      refine pcq 50 #[pT b 0] Tryz.func50 ((rru_is hke qs3 (rrU_ok b rv l s2 _ hR2)).mono ?_)
      rintro e V506 ⟨rfl, hRV506, kV506⟩
      refine ⟨_, rfl, ?_⟩
      have h507 := kV506.bO h500
      have h508 : NB ≤ V506.heap.size := Nat.le_trans h501 kV506.size
      have h509 : Row V506 46 2 v out.length (out.flatMap Nt.cl) := h502.keeps kV506 (fun j hj e => by have := hnw j hj; unfold Own.One at e; omega)
      have h510 := kV506.bO h503
      have K511 := K504.nO kV506
      have z512 := kV506.size
      refine pkq (pT gx 1) <| pce 40 gx 1 (uN kk) (#[.int .i64 hh, .int .u64 ((kk : Nat) : Int)]) h510 (rc (h510) (by kernel_rfl)) (by kernel_rfl) (u := .int .u64 0) fun V513 h514 kV513 => ?_
      have h515 := kV513.bO h507
      have h516 : NB ≤ V513.heap.size := Nat.le_trans h508 kV513.size
      have h517 : Row V513 46 2 v out.length (out.flatMap Nt.cl) := h509.keeps kV513 (fun j hj e => by have := hvx j hj; unfold Own.One at e; omega)
      have h518 : RrAt V513 b rv l s3 := hRV506.keeps kV513 (by unfold Own.One; omega) (fun j hj e => by have := hov j hj; unfold Own.One at e; omega)
      have K519 := K511.nO kV513
      have z520 := kV513.size
      refine eq_ <| qr_ [0, 1, 2] <| pkq (pT gx 1) <| ppq (uN kk) (ldk 40 gx 1 h514) <| ppq (.bool true) (dct ((((kk : Nat) : Int)) > ((4611686018427387904) : Int)) (by omega)) <| ey_ <| r_ [0, 1, 2] <| pkq (pT b 0) <| pkq (iN at2) ?_
      refine pcq 49 #[pT b 0, .int .i64 3, iN at2] Tryz.func49 ((rrFail_ok b rv l s3 3 ((at2 : Nat) : Int) _ h518).mono ?_)
      rintro e V521 ⟨⟨rv14, rfl⟩, hRV521, kV521⟩
      have qs4b : s3.fail 3 ((at2 : Nat) : Int) = s4 := by rw [← qs4, ← qs3]; exact nfail_at (fun h => (hatat2 h).1)
      refine ⟨_, rfl, ?_⟩
      have h522 := kV521.bO h515
      have h523 : NB ≤ V521.heap.size := Nat.le_trans h516 kV521.size
      have h524 : Row V521 46 2 v out.length (out.flatMap Nt.cl) := h517.keeps kV521 (fun j hj e => by have := hnw j hj; unfold Own.One at e; omega)
      have h525 := kV521.bO h514
      have K526 := K519.nO kV521
      have z527 := kV521.size
      refine er_ [0, 1, 2, 3, 4] <| pkq (v) <| ppq (.agg #[.int .i64 hh, uN kk]) (ldr 46 gx (h525) (by kernel_rfl)) ?_
      obtain ⟨V528, eV528, lit, elit, h529, kV528⟩ := alloc_step V521 (#[.int .i64 hh, .int .u64 ((kk : Nat) : Int)]) 46
      have n530 : r2 < lit := elit ▸ lt_of_block h522
      have n531 : gx < lit := elit ▸ lt_of_block h525
      have n532 : w.heap.size ≤ lit := elit ▸ K526.size
      refine prq (.slice (some ⟨lit, 0, none⟩) 1 1) (w' := V528) (by rw [← eV528, ← elit]; kernel_rfl) ?_
      have h533 := kV528.bk h522
      have h534 : NB ≤ V528.heap.size := Nat.le_trans h523 kV528.size
      have h535 : Row V528 46 2 v out.length (out.flatMap Nt.cl) := h524.keeps kV528 (fun _ _ x => x)
      have h537 : RrAt V528 b rv l s4 := (qs4b ▸ hRV521).keeps kV528 (fun x => x) (fun _ _ x => x)
      have K538 := K526.nn kV528
      have z539 := kV528.size
      obtain ⟨vn, V540, hr541, h542, hg543, hn544, ha545⟩ := run_append_any (P := Tryz.prog) (w := V528) 22 (Oper.type (qo79_0 256319 3)) 46 i2 (.agg #[.int .i64 0, .int .u64 0]) 2 16 Tryz.underlying22 hi2 hs0 hs1 hs2 rfl (by decide) v out.length (out.flatMap Nt.cl) h535 (.slice (some ⟨lit, 0, none⟩) 1 1) 1 (Nt.cl (⟨hh, kk⟩ : Nt)) (src_nt (x := ⟨hh, kk⟩) h529) (by unfold maxLen; omega) (by omega)
      have kV540 : Keeps (fun j => v.ownBlock = some j) V528 V540 := Keeps.rowAdd hg543
      have hw546 : NewFrom NB vn := hnw.next h534 ha545
      refine prq vn (w' := V540) (exec_append (.tmp 64) (.tmp 66) 22 (by kernel_rfl) v (.slice (some ⟨lit, 0, none⟩) 1 1) (by kernel_rfl) (by kernel_rfl) hr541) ?_
      have h547 : Row V540 46 2 vn ((out ++ [(⟨hh, kk⟩ : Nt)]).length) ((out ++ [(⟨hh, kk⟩ : Nt)]).flatMap Nt.cl) := (row_nt rfl h542)
      have hnwn := hw546
      have h548 : V540.heap[r2]? = some (.cells (#[.int .i64 0, .int .i64 0]) 31 (0, 0)) := (kV540.block r2 (lt_of_block h533) (fun e => by have := hnw _ e; omega)).trans h533
      have h549 : NB ≤ V540.heap.size := Nat.le_trans h534 kV540.size
      have h550 : RrAt V540 b rv l s4 := h537.keeps kV540 (fun e => by have := hnw _ e; omega) (fun j hj e => by have := hnw j e; have := hov j hj; omega)
      have K551 : Keeps Nob w V540 := K538.then kV540 (fun i hi hm => absurd hi (by have := hnw i hm; omega))
      have z552 := kV540.size
      refine pkq (vn) <| ps_end <| blk_n <| tr_ [0, 1, 2] <| pkq (iN i) <| ppq (iN (i + 1)) (exec_cast (congrArg (Value.int .i64) (wrapN (i + 1) (by omega))) (by kernel_rfl)) <| pkq (iN (i + 1)) <| ps_end <| sy_a ⟨#[v0, ud, .slice none 0 0, pT r2 0, pT b 0, vn, iN m, iN (i + 1), iN at2, pT gx 0, ud, v0, pT b 0, pT b 0, iN m, iN i, iN m, .bool true, .bool true, pT b 0, pT b 0, pT b 2, pT b 2, .int .i64 s.err, .bool true, .bool true, iN i, iN (i + 1), pT b 0, pT b 0, pT b 1, iN at_, pT b 0, .int .i64 hh, .agg #[.int .i64 hh, .int .u64 0], iN i, .bool true, .bool true, pT gx 0, .int .i64 hh, v, iN i, iN ((i - 1)), .pointer (some ⟨b_, o_ + (i - 1) * 2, none⟩), .pointer (some ⟨b_, o_ + (i - 1) * 2, none⟩), .int .i64 y.h, .bool true, .bool true, pT b 0, iN at_, rv10, pT b 0, pT b 0, pT b 1, iN at2, pT b 0, uN kk, pT gx 1, pT gx 1, uN kk, .bool true, pT b 0, iN at2, rv14, v, .agg #[.int .i64 hh, uN kk], .slice (some ⟨lit, 0, none⟩) 1 1, vn, ud, ud, ud, ud, ud, ud, ud, ud], []⟩ <| then_n ?_
      refine ⟨⟨(i + 1), (out ++ [(⟨hh, kk⟩ : Nt)]), s4, vn, (iN at2), (pT gx 0), (iN i), (iN m), (.bool true), (.bool true), (pT b 0), (pT b 0), (pT b 2), (pT b 2), (.int .i64 s.err), (.bool true), (.bool true), (iN i), (iN (i + 1)), (pT b 0), (pT b 0), (pT b 1), (iN at_), (pT b 0), (.int .i64 hh), (.agg #[.int .i64 hh, .int .u64 0]), (iN i), (.bool true), (.bool true), (pT gx 0), (.int .i64 hh), v, (iN i), (iN ((i - 1))), (.pointer (some ⟨b_, o_ + (i - 1) * 2, none⟩)), (.pointer (some ⟨b_, o_ + (i - 1) * 2, none⟩)), (.int .i64 y.h), (.bool true), (.bool true), (pT b 0), (iN at_), rv10, (pT b 0), (pT b 0), (pT b 1), (iN at2), (pT b 0), (uN kk), (pT gx 1), (pT gx 1), (uN kk), (.bool true), (pT b 0), (iN at2), rv14, v, (.agg #[.int .i64 hh, uN kk]), (.slice (some ⟨lit, 0, none⟩) 1 1), vn, by kernel_rfl, by omega, by simp [hout], hpn, hnwn, h548, h549, h547, h550, K551⟩, ?_⟩
      exact lt_meas (x := m - (i + 1)) (y := m - i) (by kernel_rfl) (by kernel_rfl) (by omega)
    · have hres := nread_ok eq_i hp hfin
      have hfp0 := nfin_snd hfin
      obtain ⟨fe, hfe⟩ : ∃ x, (s.fin l).1 = x := ⟨_, rfl⟩
      obtain ⟨fp, hfp⟩ : ∃ x, (s.fin l).2 = x := ⟨_, rfl⟩
      rw [hfe] at hfin
      rw [hfp] at hfp0
      refine q_ <| qr_ [0, 1, 2, 3, 4, 5, 6, 7, 8, 9, 10] <| pkq (iN i) <| pkq (iN m) <| ppq (.bool false) (dcf ((((i : Nat) : Int)) < (((m : Nat) : Int))) (by omega)) <| pkq (.bool false) <| pnq <| pnq <| pnq <| pnq <| pnq <| pnq <| pkq (.bool false) <| en_ ?_
      refine sy_exit 0 (by kernel_rfl) <| then_e <| then_e <| blk_e <| tqr_ [0, 1, 2, 3] <| pkq (pT b 0) ?_
      refine pcq 51 #[pT b 0] Tryz.func51 ((nrr_end h20 hfe hfp).mono ?_)
      rintro e V553 ⟨rfl, kV553⟩
      refine ⟨_, rfl, ?_⟩
      have h554 := kV553.bk h17
      have h555 : NB ≤ V553.heap.size := Nat.le_trans h18 kV553.size
      have h556 : Row V553 46 2 v out.length (out.flatMap Nt.cl) := h19.keeps kV553 (fun _ _ x => x)
      have K557 := K21.nn kV553
      have z558 := kV553.size
      refine pal 31 (#[.int .i64 0, .int .i64 0]) (.agg (#[.int .i64 0, .int .i64 0])) fun V559 gE egE h560 kV559 => ?_
      have n561 : r2 < gE := egE ▸ lt_of_block h554
      have n562 : w.heap.size ≤ gE := egE ▸ K557.size
      have h563 := kV559.bk h554
      have h564 : NB ≤ V559.heap.size := Nat.le_trans h555 kV559.size
      have h565 : Row V559 46 2 v out.length (out.flatMap Nt.cl) := h556.keeps kV559 (fun _ _ x => x)
      have K566 := K557.nn kV559
      have z567 := kV559.size
      refine pst 31 gE (#[.int .i64 fe, .int .i64 fp]) h560 (by kernel_rfl) rfl (by kernel_rfl) fun V568 h569 kV568 => ?_
      have h570 := kV568.bO h563
      have h571 : NB ≤ V568.heap.size := Nat.le_trans h564 kV568.size
      have h572 : Row V568 46 2 v out.length (out.flatMap Nt.cl) := h565.keeps kV568 (fun j hj e => Row.ne h565 h560 (by decide) ((show j = gE from e) ▸ hj))
      have K573 := K566.nO kV568
      have z574 := kV568.size
      refine eq_ <| qr_ [0, 1, 2] <| pkq (pT gE 0) <| ppq (.int .i64 fe) (ldk 27 gE 0 h569) <| ppq (.bool false) (nqf ((fe) : Int) ((0) : Int) (by omega)) <| en_ <| s_ <| tq_ <| sy_np <| sy_reg <| an_begin 19 4 (opsAt (qc79_0 510)) (fun W => (W.heap[gE]? = some (.cells (#[.int .i64 fe, .int .i64 fp]) 31 (0, 0)))) #[false, false, false, false] (by kernel_rfl) (by kernel_rfl) (by kernel_rfl) (by kernel_rfl) ?_
      obtain ⟨V575, eV575, kV575⟩ := drew_step V568
      rw [eV575]
      clear eV575
      have h576 := kV575.bk h570
      have h577 : NB ≤ V575.heap.size := Nat.le_trans h571 kV575.size
      have h578 : Row V575 46 2 v out.length (out.flatMap Nt.cl) := h572.keeps kV575 (fun _ _ x => x)
      have h579 := kV575.bk h569
      have K580 := K573.nn kV575
      have z581 := kV575.size
      refine akq 0 (v) h579 <| avq 1 (.agg #[.int .i64 fe, .int .i64 fp]) (fun W hS => ldr 31 gE (hS) (by kernel_rfl)) h579 <| an_o 2 <| nrq (v) (w' := V575) (by kernel_rfl) ?_
      refine ⟨h579, ?_⟩
      refine an_o 3 <| nst 31 r2 (#[.int .i64 fe, .int .i64 fp]) h576 (by kernel_rfl) rfl (by kernel_rfl) fun V582 h583 kV582 => ?_
      have h584 : NB ≤ V582.heap.size := Nat.le_trans h577 kV582.size
      have h585 : Row V582 46 2 v out.length (out.flatMap Nt.cl) := h578.keeps kV582 (fun j hj e => Row.ne h578 h576 (by decide) ((show j = r2 from e) ▸ hj))
      have h586 := kV582.bO h579
      have K587 := K580.nO kV582
      have z588 := kV582.size
      refine ⟨h586, ?_⟩
      refine an_end (by kernel_rfl) <| then_n <| u_ <| sy_out (.tuple #[v, .agg #[.int .i64 fe, .int .i64 fp]]) rfl (results_tmp_row (p := 2) (q := 3) (ty := 31) (by kernel_rfl) _ _ r2 31 (#[.int .i64 fe, .int .i64 fp]) (0, 0) _ (v) (by kernel_rfl) h583 Tryz.underlying31 rfl (by kernel_rfl) (by kernel_rfl)) ?_
      exact ⟨v, by rw [hres, hfin, hfp0], by rw [hres]; exact h585, (fun j hj => Nat.le_trans hNw (hnw j hj)), K587⟩
    · have hres := nread_no eq_i hp hfin
      obtain ⟨fe, hfe⟩ : ∃ x, (s.fin l).1 = x := ⟨_, rfl⟩
      obtain ⟨fp, hfp⟩ : ∃ x, (s.fin l).2 = x := ⟨_, rfl⟩
      rw [hfe, hfp] at hres
      rw [hfe] at hfin
      refine q_ <| qr_ [0, 1, 2, 3, 4, 5, 6, 7, 8, 9, 10] <| pkq (iN i) <| pkq (iN m) <| ppq (.bool false) (dcf ((((i : Nat) : Int)) < (((m : Nat) : Int))) (by omega)) <| pkq (.bool false) <| pnq <| pnq <| pnq <| pnq <| pnq <| pnq <| pkq (.bool false) <| en_ ?_
      refine sy_exit 0 (by kernel_rfl) <| then_e <| then_e <| blk_e <| tqr_ [0, 1, 2, 3] <| pkq (pT b 0) ?_
      refine pcq 51 #[pT b 0] Tryz.func51 ((nrr_end h20 hfe hfp).mono ?_)
      rintro e V589 ⟨rfl, kV589⟩
      refine ⟨_, rfl, ?_⟩
      have h590 := kV589.bk h17
      have h591 : NB ≤ V589.heap.size := Nat.le_trans h18 kV589.size
      have K593 := K21.nn kV589
      have z594 := kV589.size
      refine pal 31 (#[.int .i64 0, .int .i64 0]) (.agg (#[.int .i64 0, .int .i64 0])) fun V595 gE egE h596 kV595 => ?_
      have n597 : r2 < gE := egE ▸ lt_of_block h590
      have n598 : w.heap.size ≤ gE := egE ▸ K593.size
      have h599 := kV595.bk h590
      have h600 : NB ≤ V595.heap.size := Nat.le_trans h591 kV595.size
      have K602 := K593.nn kV595
      have z603 := kV595.size
      refine pst 31 gE (#[.int .i64 fe, .int .i64 fp]) h596 (by kernel_rfl) rfl (by kernel_rfl) fun V604 h605 kV604 => ?_
      have h606 := kV604.bO h599
      have h607 : NB ≤ V604.heap.size := Nat.le_trans h600 kV604.size
      have K609 := K602.nO kV604
      have z610 := kV604.size
      refine eq_ <| qr_ [0, 1, 2] <| pkq (pT gE 0) <| ppq (.int .i64 fe) (ldk 27 gE 0 h605) <| ppq (.bool true) (nqt ((fe) : Int) ((0) : Int) (by omega)) <| ey_ <| q_ <| sy_np <| sy_reg <| an_begin 18 3 (opsAt (qc79_0 2036)) (fun W => (W.heap[gE]? = some (.cells (#[.int .i64 fe, .int .i64 fp]) 31 (0, 0)))) #[false, false, false] (by kernel_rfl) (by kernel_rfl) (by kernel_rfl) (by kernel_rfl) ?_
      obtain ⟨V611, eV611, kV611⟩ := drew_step V604
      rw [eV611]
      clear eV611
      have h612 := kV611.bk h606
      have h613 : NB ≤ V611.heap.size := Nat.le_trans h607 kV611.size
      have h615 := kV611.bk h605
      have K616 := K609.nn kV611
      have z617 := kV611.size
      refine avq 0 (.agg #[.int .i64 fe, .int .i64 fp]) (fun W hS => ldr 31 gE (hS) (by kernel_rfl)) h615 <| an_o 1 <| nrq (.slice none 0 0) (w' := V611) (by kernel_rfl) ?_
      refine ⟨h615, ?_⟩
      refine an_o 2 <| nst 31 r2 (#[.int .i64 fe, .int .i64 fp]) h612 (by kernel_rfl) rfl (by kernel_rfl) fun V618 h619 kV618 => ?_
      have h620 : NB ≤ V618.heap.size := Nat.le_trans h613 kV618.size
      have h622 := kV618.bO h615
      have K623 := K616.nO kV618
      have z624 := kV618.size
      refine ⟨h622, ?_⟩
      refine an_end (by kernel_rfl) <| then_n <| u_ <| then_r <| sy_out (.tuple #[.slice none 0 0, .agg #[.int .i64 fe, .int .i64 fp]]) rfl (results_tmp_row (p := 2) (q := 3) (ty := 31) (by kernel_rfl) _ _ r2 31 (#[.int .i64 fe, .int .i64 fp]) (0, 0) _ (.slice none 0 0) (by kernel_rfl) h619 Tryz.underlying31 rfl (by kernel_rfl) (by kernel_rfl)) ?_
      exact ⟨_, by rw [hres], by rw [hres]; exact World.ownsRow_nil _ _ _ _, NewFrom.nil _, K623⟩
end Go.Proofs.YtghohakbepeffaaGreatDoor
namespace Go.Proofs.YtghohakbepeffaaGreatDoor
set_option maxRecDepth 100000
set_option maxHeartbeats 4000000
open Go Go.RowKit Go.Own Go.Shelf
theorem par_more {p : Par} (h : p.check.1 = 0) : (0 ≤ p.base ∧ p.base ≤ 1000000000) ∧ (0 ≤ p.mult ∧ p.mult ≤ 1000) := by
  have hg : ∀ j, j < 11 → p.good j := by
    intro j hj
    refine Classical.byContradiction fun hn => ?_
    unfold Par.check at h
    cases hf : (List.range 11).find? (fun i => decide (¬ p.good i)) with
    | some i => rw [hf] at h; cases h
    | none =>
      rw [List.find?_eq_none] at hf
      exact hf j (by simpa using hj) (by simpa using hn)
  have g1 := hg 7 (by decide)
  have g2 := hg 8 (by decide)
  exact ⟨g1, g2⟩
theorem noted_par {p : Par} {l : List Nt} {h : Int} (a : (nnoted p l h).2 = 0) : p.check.1 = 0 := by
  unfold nnoted at a
  by_cases c : nref p l h ≠ 0
  · rw [if_pos c] at a; exact absurd a c
  · exact (nref_zero (Classical.byContradiction c)).1
theorem noted_le (p : Par) (l : List Nt) (h : Int) : (nnoted p l h).1 ≤ 4611686018427387904 := by
  unfold nnoted; split
  · exact Nat.zero_le _
  · exact nsum_le _
theorem nnoted_is {x n : Nat} {y r : Int} {args : Array Value} {w : World} (h1 : x = n) (h2 : y = r) (h : Calls Tryz.prog 29 args w (fun e w' => e = .returned (.tuple #[.int .u64 ((x : Nat) : Int), .int .i64 y]) ∧ Keeps Nob w w')) : Calls Tryz.prog 29 args w (fun e w' => e = .returned (.tuple #[.int .u64 ((n : Nat) : Int), .int .i64 r]) ∧ Keeps Nob w w') := h1 ▸ h2 ▸ h
theorem capped_is {x n : Nat} {args : Array Value} {w : World} (h1 : x = n) (h : Calls Tryz.prog 57 args w (fun e w' => e = .returned (.tuple #[.int .u64 ((x : Nat) : Int), .int .i64 0]) ∧ Keeps Nob w w')) : Calls Tryz.prog 57 args w (fun e w' => e = .returned (.tuple #[.int .u64 ((n : Nat) : Int), .int .i64 0]) ∧ Keeps Nob w w') := h1 ▸ h
noncomputable def qc80_0 (n : Nat) : Code := partOf Tryz.f28 n
theorem nFrac_err (p : Par) (hp : p.Ok) (l : List Nt) (v : Value) (h : Int) (hh1 : i64ok h) (s t : Nat) (hs : s < 18446744073709551616) (ht : t < 18446744073709551616) (w : World) (hl : Sl w 2 Nt.cl v l) (rf : Int) (n : Nat) (hn : (nnoted p l h).1 = n) (hrf : (nnoted p l h).2 = rf) (h0 : ¬ rf = 0) (het : ErrTab w) :
    Calls Tryz.prog 28 #[.agg p.cells, v, .int .i64 h, .int .u64 ((s : Nat) : Int), .int .u64 ((t : Nat) : Int)] w (fun e w' => e = .returned (.tuple #[.int .u64 (((nfrac p l h s t).1 : Nat) : Int), .int .i64 (nfrac p l h s t).2]) ∧ Keeps Nob w w') := by
  have K0 : Keeps Nob w w := Keeps.refl _ _
  refine sy_enter (qc80_0 1) ⟨#[.agg p.cells, v, .int .i64 h, uN s, uN t, ud, ud, ud, ud, ud, ud, ud, ud, ud, ud, ud, ud, ud, ud, ud, ud, ud, ud, ud, ud, ud, ud, ud, ud, ud, ud, ud, ud, ud, ud, ud, ud, ud, ud, ud, ud, ud, ud, ud, ud, ud, ud, ud, ud, ud, ud, ud, ud, ud, ud, ud], []⟩ Tryz.func28 (by kernel_rfl) (by kernel_rfl) <| qr_ [0, 1, 2] <| pbx 51 p.cells (.agg p.cells) fun V1 gp egp h2 kV1 => ?_
  have n3 : w.heap.size ≤ gp := egp ▸ K0.size
  have h4 : Sl V1 2 Nt.cl v l := hl.keepsN kV1
  have K5 := K0.nn kV1
  have z6 := kV1.size
  refine pkq (.int .u64 0) <| pkq (.int .i64 0) <| eqr_ [0, 1, 2, 3, 4, 5, 6, 7, 8] <| ppq (.agg (p.cells)) (ldr 51 gp (h2) (by kernel_rfl)) <| pkq (v) <| pkq (.int .i64 h) ?_
  refine pcq 29 #[.agg (p.cells), v, .int .i64 h] Tryz.func29 ((nnoted_is hn hrf (nNoted_all p hp l v h hh1 _ h4 (ErrTab.keeps het K5))).mono ?_)
  rintro e V7 ⟨rfl, kV7⟩
  refine ⟨_, rfl, ?_⟩
  have K10 := K5.nn kV7
  have z11 := kV7.size
  refine pkq (.tuple #[uN n, .int .i64 rf]) <| pkq (uN n) <| pkq (.int .i64 rf) <| pkq (uN n) <| pkq (.int .i64 rf) <| eq_ <| bl_ 0 <| qr_ [0, 1, 2] <| pkq (.int .i64 rf) <| ppq (.bool true) (nqt ((rf) : Int) ((0) : Int) (by omega)) <| pkq (.bool true) <| ey_ <| qr_ [0, 1, 2] <| pkq (.int .i64 rf) ?_
  refine pkq (.int .u64 0) <| pkq (.int .i64 rf) <| eu_ <| blk_r <| then_r <| so_ (.tuple #[.int .u64 0, .int .i64 rf]) ?_
  exact ⟨by unfold nfrac; rw [hrf, if_pos h0]; rfl, K10⟩
theorem nFrac_over1 (p : Par) (hp : p.Ok) (l : List Nt) (v : Value) (h : Int) (hh1 : i64ok h) (s t : Nat) (hs : s < 18446744073709551616) (ht : t < 18446744073709551616) (w : World) (hl : Sl w 2 Nt.cl v l) (n bs m f : Nat) (hn : (nnoted p l h).1 = n) (hrf : (nnoted p l h).2 = 0) (hn2 : n ≤ 4611686018427387904) (hbs : p.base = ((bs : Nat) : Int)) (hm : p.mult = ((m : Nat) : Int)) (hbl : bs ≤ 1000000000) (hml : m ≤ 1000) (hf : min 1000000000 (m * 1000000000 * (min (n + s) 4611686018427387904) / t) = f) (hq : 4611686018427387904 < s) (het : ErrTab w) :
    Calls Tryz.prog 28 #[.agg p.cells, v, .int .i64 h, .int .u64 ((s : Nat) : Int), .int .u64 ((t : Nat) : Int)] w (fun e w' => e = .returned (.tuple #[.int .u64 (((nfrac p l h s t).1 : Nat) : Int), .int .i64 (nfrac p l h s t).2]) ∧ Keeps Nob w w') := by
  have K0 : Keeps Nob w w := Keeps.refl _ _
  refine sy_enter (qc80_0 1) ⟨#[.agg p.cells, v, .int .i64 h, uN s, uN t, ud, ud, ud, ud, ud, ud, ud, ud, ud, ud, ud, ud, ud, ud, ud, ud, ud, ud, ud, ud, ud, ud, ud, ud, ud, ud, ud, ud, ud, ud, ud, ud, ud, ud, ud, ud, ud, ud, ud, ud, ud, ud, ud, ud, ud, ud, ud, ud, ud, ud, ud], []⟩ Tryz.func28 (by kernel_rfl) (by kernel_rfl) <| qr_ [0, 1, 2] <| pbx 51 p.cells (.agg p.cells) fun V1 gp egp h2 kV1 => ?_
  have n3 : w.heap.size ≤ gp := egp ▸ K0.size
  have h4 : Sl V1 2 Nt.cl v l := hl.keepsN kV1
  have K5 := K0.nn kV1
  have z6 := kV1.size
  refine pkq (.int .u64 0) <| pkq (.int .i64 0) <| eqr_ [0, 1, 2, 3, 4, 5, 6, 7, 8] <| ppq (.agg (p.cells)) (ldr 51 gp (h2) (by kernel_rfl)) <| pkq (v) <| pkq (.int .i64 h) ?_
  refine pcq 29 #[.agg (p.cells), v, .int .i64 h] Tryz.func29 ((nnoted_is hn hrf (nNoted_all p hp l v h hh1 _ h4 (ErrTab.keeps het K5))).mono ?_)
  rintro e V7 ⟨rfl, kV7⟩
  refine ⟨_, rfl, ?_⟩
  have K10 := K5.nn kV7
  have z11 := kV7.size
  refine pkq (.tuple #[uN n, .int .i64 0]) <| pkq (uN n) <| pkq (.int .i64 0) <| pkq (uN n) <| pkq (.int .i64 0) <| eq_ <| bl_ 0 <| qr_ [0, 1, 2] <| pkq (.int .i64 0) <| pkq (.bool false) <| pkq (.bool false) <| en_ <| qr_ [0, 1, 2, 3, 4, 5, 6] <| pkq (uN s) ?_
  refine ppq (.bool true) (dct ((((s : Nat) : Int)) > ((4611686018427387904) : Int)) (by omega)) <| pkq (.bool true) <| pnq <| pnq <| pkq (.bool true) <| pkq (.bool true) <| ey_ <| qr_ [0, 1] <| pkq (.int .u64 0) <| pkq (.int .i64 12) <| ps_end <| sy_a ⟨#[.agg p.cells, v, .int .i64 h, uN s, uN t, pT gp 0, ud, ud, ud, ud, .int .u64 0, .int .i64 12, uN n, .int .i64 0, ud, .tuple #[uN n, .int .i64 0], .agg (p.cells), v, .int .i64 h, .tuple #[uN n, .int .i64 0], uN n, .int .i64 0, .bool false, .int .i64 0, .bool false, ud, .bool true, uN s, .bool true, .bool true, ud, ud, .bool true, ud, ud, ud, ud, ud, ud, ud, ud, ud, ud, ud, ud, ud, ud, ud, ud, ud, ud, ud, ud, ud, ud, ud], []⟩ <| then_n <| u_ ?_
  refine blk_r <| then_r <| so_ (.tuple #[.int .u64 0, .int .i64 12]) ?_
  exact ⟨by unfold nfrac; rw [hrf, if_neg (by decide), if_pos (.inl hq)]; rfl, K10⟩
theorem nFrac_over2 (p : Par) (hp : p.Ok) (l : List Nt) (v : Value) (h : Int) (hh1 : i64ok h) (s t : Nat) (hs : s < 18446744073709551616) (ht : t < 18446744073709551616) (w : World) (hl : Sl w 2 Nt.cl v l) (n bs m f : Nat) (hn : (nnoted p l h).1 = n) (hrf : (nnoted p l h).2 = 0) (hn2 : n ≤ 4611686018427387904) (hbs : p.base = ((bs : Nat) : Int)) (hm : p.mult = ((m : Nat) : Int)) (hbl : bs ≤ 1000000000) (hml : m ≤ 1000) (hf : min 1000000000 (m * 1000000000 * (min (n + s) 4611686018427387904) / t) = f) (hq : ¬ 4611686018427387904 < s) (hq2 : 4611686018427387904 < t) (het : ErrTab w) :
    Calls Tryz.prog 28 #[.agg p.cells, v, .int .i64 h, .int .u64 ((s : Nat) : Int), .int .u64 ((t : Nat) : Int)] w (fun e w' => e = .returned (.tuple #[.int .u64 (((nfrac p l h s t).1 : Nat) : Int), .int .i64 (nfrac p l h s t).2]) ∧ Keeps Nob w w') := by
  have K0 : Keeps Nob w w := Keeps.refl _ _
  refine sy_enter (qc80_0 1) ⟨#[.agg p.cells, v, .int .i64 h, uN s, uN t, ud, ud, ud, ud, ud, ud, ud, ud, ud, ud, ud, ud, ud, ud, ud, ud, ud, ud, ud, ud, ud, ud, ud, ud, ud, ud, ud, ud, ud, ud, ud, ud, ud, ud, ud, ud, ud, ud, ud, ud, ud, ud, ud, ud, ud, ud, ud, ud, ud, ud, ud], []⟩ Tryz.func28 (by kernel_rfl) (by kernel_rfl) <| qr_ [0, 1, 2] <| pbx 51 p.cells (.agg p.cells) fun V1 gp egp h2 kV1 => ?_
  have n3 : w.heap.size ≤ gp := egp ▸ K0.size
  have h4 : Sl V1 2 Nt.cl v l := hl.keepsN kV1
  have K5 := K0.nn kV1
  have z6 := kV1.size
  refine pkq (.int .u64 0) <| pkq (.int .i64 0) <| eqr_ [0, 1, 2, 3, 4, 5, 6, 7, 8] <| ppq (.agg (p.cells)) (ldr 51 gp (h2) (by kernel_rfl)) <| pkq (v) <| pkq (.int .i64 h) ?_
  refine pcq 29 #[.agg (p.cells), v, .int .i64 h] Tryz.func29 ((nnoted_is hn hrf (nNoted_all p hp l v h hh1 _ h4 (ErrTab.keeps het K5))).mono ?_)
  rintro e V7 ⟨rfl, kV7⟩
  refine ⟨_, rfl, ?_⟩
  have K10 := K5.nn kV7
  have z11 := kV7.size
  refine pkq (.tuple #[uN n, .int .i64 0]) <| pkq (uN n) <| pkq (.int .i64 0) <| pkq (uN n) <| pkq (.int .i64 0) <| eq_ <| bl_ 0 <| qr_ [0, 1, 2] <| pkq (.int .i64 0) <| pkq (.bool false) <| pkq (.bool false) <| en_ <| qr_ [0, 1, 2, 3, 4, 5, 6] <| pkq (uN s) ?_
  refine ppq (.bool false) (dcf ((((s : Nat) : Int)) > ((4611686018427387904) : Int)) (by omega)) <| pkq (.bool false) <| pkq (uN t) <| ppq (.bool true) (dct ((((t : Nat) : Int)) > ((4611686018427387904) : Int)) (by omega)) <| pkq (.bool true) <| pkq (.bool true) <| ey_ <| qr_ [0, 1] <| pkq (.int .u64 0) <| pkq (.int .i64 12) <| ps_end <| sy_a ⟨#[.agg p.cells, v, .int .i64 h, uN s, uN t, pT gp 0, ud, ud, ud, ud, .int .u64 0, .int .i64 12, uN n, .int .i64 0, ud, .tuple #[uN n, .int .i64 0], .agg (p.cells), v, .int .i64 h, .tuple #[uN n, .int .i64 0], uN n, .int .i64 0, .bool false, .int .i64 0, .bool false, ud, .bool true, uN s, .bool false, .bool false, uN t, .bool true, .bool true, ud, ud, ud, ud, ud, ud, ud, ud, ud, ud, ud, ud, ud, ud, ud, ud, ud, ud, ud, ud, ud, ud, ud], []⟩ <| then_n <| u_ ?_
  refine blk_r <| then_r <| so_ (.tuple #[.int .u64 0, .int .i64 12]) ?_
  exact ⟨by unfold nfrac; rw [hrf, if_neg (by decide), if_pos (.inr hq2)]; rfl, K10⟩
theorem nFrac_zero (p : Par) (hp : p.Ok) (l : List Nt) (v : Value) (h : Int) (hh1 : i64ok h) (s t : Nat) (hs : s < 18446744073709551616) (ht : t < 18446744073709551616) (w : World) (hl : Sl w 2 Nt.cl v l) (n bs m f : Nat) (hn : (nnoted p l h).1 = n) (hrf : (nnoted p l h).2 = 0) (hn2 : n ≤ 4611686018427387904) (hbs : p.base = ((bs : Nat) : Int)) (hm : p.mult = ((m : Nat) : Int)) (hbl : bs ≤ 1000000000) (hml : m ≤ 1000) (hf : min 1000000000 (m * 1000000000 * (min (n + s) 4611686018427387904) / t) = f) (hq : ¬ 4611686018427387904 < s) (hq2 : t = 0) (het : ErrTab w) :
    Calls Tryz.prog 28 #[.agg p.cells, v, .int .i64 h, .int .u64 ((s : Nat) : Int), .int .u64 ((t : Nat) : Int)] w (fun e w' => e = .returned (.tuple #[.int .u64 (((nfrac p l h s t).1 : Nat) : Int), .int .i64 (nfrac p l h s t).2]) ∧ Keeps Nob w w') := by
  have K0 : Keeps Nob w w := Keeps.refl _ _
  refine sy_enter (qc80_0 1) ⟨#[.agg p.cells, v, .int .i64 h, uN s, uN t, ud, ud, ud, ud, ud, ud, ud, ud, ud, ud, ud, ud, ud, ud, ud, ud, ud, ud, ud, ud, ud, ud, ud, ud, ud, ud, ud, ud, ud, ud, ud, ud, ud, ud, ud, ud, ud, ud, ud, ud, ud, ud, ud, ud, ud, ud, ud, ud, ud, ud, ud], []⟩ Tryz.func28 (by kernel_rfl) (by kernel_rfl) <| qr_ [0, 1, 2] <| pbx 51 p.cells (.agg p.cells) fun V1 gp egp h2 kV1 => ?_
  have n3 : w.heap.size ≤ gp := egp ▸ K0.size
  have h4 : Sl V1 2 Nt.cl v l := hl.keepsN kV1
  have K5 := K0.nn kV1
  have z6 := kV1.size
  refine pkq (.int .u64 0) <| pkq (.int .i64 0) <| eqr_ [0, 1, 2, 3, 4, 5, 6, 7, 8] <| ppq (.agg (p.cells)) (ldr 51 gp (h2) (by kernel_rfl)) <| pkq (v) <| pkq (.int .i64 h) ?_
  refine pcq 29 #[.agg (p.cells), v, .int .i64 h] Tryz.func29 ((nnoted_is hn hrf (nNoted_all p hp l v h hh1 _ h4 (ErrTab.keeps het K5))).mono ?_)
  rintro e V7 ⟨rfl, kV7⟩
  refine ⟨_, rfl, ?_⟩
  have h9 := kV7.bk h2
  have K10 := K5.nn kV7
  have z11 := kV7.size
  refine pkq (.tuple #[uN n, .int .i64 0]) <| pkq (uN n) <| pkq (.int .i64 0) <| pkq (uN n) <| pkq (.int .i64 0) <| eq_ <| bl_ 0 <| qr_ [0, 1, 2] <| pkq (.int .i64 0) <| pkq (.bool false) <| pkq (.bool false) <| en_ <| qr_ [0, 1, 2, 3, 4, 5, 6] <| pkq (uN s) ?_
  refine ppq (.bool false) (dcf ((((s : Nat) : Int)) > ((4611686018427387904) : Int)) (by omega)) <| pkq (.bool false) <| pkq (uN t) <| ppq (.bool false) (dcf ((((t : Nat) : Int)) > ((4611686018427387904) : Int)) (by omega)) <| pkq (.bool false) <| pkq (.bool false) <| en_ <| qr_ [0, 1, 2] <| pkq (uN t) <| ppq (.bool true) (eqt (((t : Nat) : Int)) ((0) : Int) (by omega)) <| pkq (.bool true) <| ps_end <| sy_a ⟨#[.agg p.cells, v, .int .i64 h, uN s, uN t, pT gp 0, ud, ud, ud, ud, .int .u64 0, .int .i64 0, uN n, .int .i64 0, ud, .tuple #[uN n, .int .i64 0], .agg (p.cells), v, .int .i64 h, .tuple #[uN n, .int .i64 0], uN n, .int .i64 0, .bool false, .int .i64 0, .bool false, ud, .bool false, uN s, .bool false, .bool false, uN t, .bool false, .bool false, .bool true, uN t, .bool true, ud, ud, ud, ud, ud, ud, ud, ud, ud, ud, ud, ud, ud, ud, ud, ud, ud, ud, ud, ud], []⟩ <| then_n ?_
  refine y_ <| qr_ [0, 1, 2, 3] <| pkq (pT gp 7) <| ppq (uN bs) (exec_cast (congrArg (Value.int .u64) hbs) (ldc 40 gp 7 (rc (h9) (rfl)))) <| pkq (uN bs) <| pkq (.int .i64 0) <| eu_ <| blk_r <| then_r <| so_ (.tuple #[.int .u64 ((bs : Nat) : Int), .int .i64 0]) ?_
  exact ⟨by unfold nfrac; rw [hrf, if_neg (by decide), if_neg (by omega), if_pos hq2, hbs]; rfl, K10⟩
theorem nFrac_ok (p : Par) (hp : p.Ok) (l : List Nt) (v : Value) (h : Int) (hh1 : i64ok h) (s t : Nat) (hs : s < 18446744073709551616) (ht : t < 18446744073709551616) (w : World) (hl : Sl w 2 Nt.cl v l) (n bs m f : Nat) (hn : (nnoted p l h).1 = n) (hrf : (nnoted p l h).2 = 0) (hn2 : n ≤ 4611686018427387904) (hbs : p.base = ((bs : Nat) : Int)) (hm : p.mult = ((m : Nat) : Int)) (hbl : bs ≤ 1000000000) (hml : m ≤ 1000) (hf : min 1000000000 (m * 1000000000 * (min (n + s) 4611686018427387904) / t) = f) (hq : ¬ 4611686018427387904 < s) (hq2 : ¬ 4611686018427387904 < t) (hq3 : ¬ t = 0) (het : ErrTab w) :
    Calls Tryz.prog 28 #[.agg p.cells, v, .int .i64 h, .int .u64 ((s : Nat) : Int), .int .u64 ((t : Nat) : Int)] w (fun e w' => e = .returned (.tuple #[.int .u64 (((nfrac p l h s t).1 : Nat) : Int), .int .i64 (nfrac p l h s t).2]) ∧ Keeps Nob w w') := by
  have hf2 : f ≤ 1000000000 := by rw [← hf]; exact Nat.min_le_left _ _
  have K0 : Keeps Nob w w := Keeps.refl _ _
  refine sy_enter (qc80_0 1) ⟨#[.agg p.cells, v, .int .i64 h, uN s, uN t, ud, ud, ud, ud, ud, ud, ud, ud, ud, ud, ud, ud, ud, ud, ud, ud, ud, ud, ud, ud, ud, ud, ud, ud, ud, ud, ud, ud, ud, ud, ud, ud, ud, ud, ud, ud, ud, ud, ud, ud, ud, ud, ud, ud, ud, ud, ud, ud, ud, ud, ud], []⟩ Tryz.func28 (by kernel_rfl) (by kernel_rfl) <| qr_ [0, 1, 2] <| pbx 51 p.cells (.agg p.cells) fun V1 gp egp h2 kV1 => ?_
  have n3 : w.heap.size ≤ gp := egp ▸ K0.size
  have h4 : Sl V1 2 Nt.cl v l := hl.keepsN kV1
  have K5 := K0.nn kV1
  have z6 := kV1.size
  refine pkq (.int .u64 0) <| pkq (.int .i64 0) <| eqr_ [0, 1, 2, 3, 4, 5, 6, 7, 8] <| ppq (.agg (p.cells)) (ldr 51 gp (h2) (by kernel_rfl)) <| pkq (v) <| pkq (.int .i64 h) ?_
  refine pcq 29 #[.agg (p.cells), v, .int .i64 h] Tryz.func29 ((nnoted_is hn hrf (nNoted_all p hp l v h hh1 _ h4 (ErrTab.keeps het K5))).mono ?_)
  rintro e V7 ⟨rfl, kV7⟩
  refine ⟨_, rfl, ?_⟩
  have h9 := kV7.bk h2
  have K10 := K5.nn kV7
  have z11 := kV7.size
  refine pkq (.tuple #[uN n, .int .i64 0]) <| pkq (uN n) <| pkq (.int .i64 0) <| pkq (uN n) <| pkq (.int .i64 0) <| eq_ <| bl_ 0 <| qr_ [0, 1, 2] <| pkq (.int .i64 0) <| pkq (.bool false) <| pkq (.bool false) <| en_ <| qr_ [0, 1, 2, 3, 4, 5, 6] <| pkq (uN s) ?_
  refine ppq (.bool false) (dcf ((((s : Nat) : Int)) > ((4611686018427387904) : Int)) (by omega)) <| pkq (.bool false) <| pkq (uN t) <| ppq (.bool false) (dcf ((((t : Nat) : Int)) > ((4611686018427387904) : Int)) (by omega)) <| pkq (.bool false) <| pkq (.bool false) <| en_ <| qr_ [0, 1, 2] <| pkq (uN t) <| ppq (.bool false) (eqf (((t : Nat) : Int)) ((0) : Int) (by omega)) <| pkq (.bool false) <| ps_end <| sy_a ⟨#[.agg p.cells, v, .int .i64 h, uN s, uN t, pT gp 0, ud, ud, ud, ud, .int .u64 0, .int .i64 0, uN n, .int .i64 0, ud, .tuple #[uN n, .int .i64 0], .agg (p.cells), v, .int .i64 h, .tuple #[uN n, .int .i64 0], uN n, .int .i64 0, .bool false, .int .i64 0, .bool false, ud, .bool false, uN s, .bool false, .bool false, uN t, .bool false, .bool false, .bool false, uN t, .bool false, ud, ud, ud, ud, ud, ud, ud, ud, ud, ud, ud, ud, ud, ud, ud, ud, ud, ud, ud, ud], []⟩ <| then_n ?_
  refine n_ <| s_ <| blk_n <| tqr_ [0, 1, 2, 3, 4, 5, 6, 7, 8, 9, 10, 11, 12, 13] <| pkq (pT gp 8) <| ppq (uN m) (exec_cast (congrArg (Value.int .u64) hm) (ldc 40 gp 8 (rc (h9) (rfl)))) <| ppq (uN (m * 1000000000)) (exec_cast (congrArg (Value.int .u64) (wrapU (m * 1000000000) (by omega))) (by kernel_rfl)) <| pkq (uN n) <| pkq (uN s) <| ppq (uN (n + s)) (exec_cast (congrArg (Value.int .u64) (wrapU (n + s) (by omega))) (by kernel_rfl)) <| ppq (uN (min (n + s) 4611686018427387904)) (exec_cast (congrArg (Value.int .u64) (nat_min (n + s) 4611686018427387904)) (nexec_min (.tmp 44) (.const (.int .u64 4611686018427387904)) #[40, 40] (by kernel_rfl) .u64 ((n + s : Nat) : Int) 4611686018427387904 (by kernel_rfl) (by kernel_rfl))) <| pkq (uN t) ?_
  refine pcq 57 #[.int .u64 1000000000, uN (m * 1000000000), uN (min (n + s) 4611686018427387904), uN t] Tryz.func57 ((capped_is hf (fxCapped_ok 1000000000 (m * 1000000000) (min (n + s) 4611686018427387904) t (by decide) (by omega) (by omega) (by omega) (by omega) _)).mono ?_)
  rintro e V12 ⟨rfl, kV12⟩
  refine ⟨_, rfl, ?_⟩
  have h14 := kV12.bk h9
  have K15 := K10.nn kV12
  have z16 := kV12.size
  refine pkq (.tuple #[uN f, .int .i64 0]) <| pkq (uN f) <| pkq (.int .i64 0) <| pkq (uN f) <| pkq (.int .i64 0) <| eqr_ [0, 1, 2, 3, 4, 5, 6, 7] <| pkq (uN f) <| pkq (pT gp 7) <| ppq (uN bs) (exec_cast (congrArg (Value.int .u64) hbs) (ldc 40 gp 7 (rc (h14) (rfl)))) <| ppq (uN (f + bs)) (exec_cast (congrArg (Value.int .u64) (wrapU (f + bs) (by omega))) (by kernel_rfl)) <| ppq (uN (min (f + bs) 1000000000)) (exec_cast (congrArg (Value.int .u64) (nat_min (f + bs) 1000000000)) (nexec_min (.tmp 53) (.const (.int .u64 1000000000)) #[40, 40] (by kernel_rfl) .u64 ((f + bs : Nat) : Int) 1000000000 (by kernel_rfl) (by kernel_rfl))) <| pkq (.int .i64 0) <| pkq (uN (min (f + bs) 1000000000)) <| pkq (.int .i64 0) ?_
  refine eu_ <| so_ (.tuple #[.int .u64 ((min (f + bs) 1000000000 : Nat) : Int), .int .i64 0]) ?_
  exact ⟨by unfold nfrac ncap; rw [hrf, if_neg (by decide), if_neg (by omega), if_neg hq3, hbs, hm, hn, Int.toNat_natCast, Int.toNat_natCast, hf], K15⟩
theorem nFrac_all (p : Par) (hp : p.Ok) (l : List Nt) (v : Value) (h : Int) (hh1 : i64ok h) (s t : Nat) (hs : s < 18446744073709551616) (ht : t < 18446744073709551616) (w : World) (hl : Sl w 2 Nt.cl v l) (het : ErrTab w) : Calls Tryz.prog 28 #[.agg p.cells, v, .int .i64 h, .int .u64 ((s : Nat) : Int), .int .u64 ((t : Nat) : Int)] w (fun e w' => e = .returned (.tuple #[.int .u64 (((nfrac p l h s t).1 : Nat) : Int), .int .i64 (nfrac p l h s t).2]) ∧ Keeps Nob w w') := by
  by_cases hrf : (nnoted p l h).2 = 0
  · obtain ⟨⟨b1, b2⟩, m1, m2⟩ := par_more (noted_par hrf)
    have hb : p.base = ((p.base.toNat : Nat) : Int) := by omega
    have hm : p.mult = ((p.mult.toNat : Nat) : Int) := by omega
    by_cases hq : 4611686018427387904 < s
    · exact nFrac_over1 p hp l v h hh1 s t hs ht w hl _ _ _ _ rfl hrf (noted_le p l h) hb hm (by omega) (by omega) rfl hq het
    · by_cases hq2 : 4611686018427387904 < t
      · exact nFrac_over2 p hp l v h hh1 s t hs ht w hl _ _ _ _ rfl hrf (noted_le p l h) hb hm (by omega) (by omega) rfl hq hq2 het
      · by_cases hq3 : t = 0
        · exact nFrac_zero p hp l v h hh1 s t hs ht w hl _ _ _ _ rfl hrf (noted_le p l h) hb hm (by omega) (by omega) rfl hq hq3 het
        · exact nFrac_ok p hp l v h hh1 s t hs ht w hl _ _ _ _ rfl hrf (noted_le p l h) hb hm (by omega) (by omega) rfl hq hq2 hq3 het
  · exact nFrac_err p hp l v h hh1 s t hs ht w hl _ _ rfl rfl hrf het
end Go.Proofs.YtghohakbepeffaaGreatDoor
namespace Go.Proofs.YtghohakbepeffaaGreatDoor
set_option maxRecDepth 100000
set_option maxHeartbeats 4000000
open Go Go.RowKit Go.Own Go.Shelf
theorem nq_int {d : Nat} {f : Field} {fs : List Field} {xs ys : Array Value} {k : IntKind} {a b : Int} (w : World) (hf : f.name ≠ "_") (ht : Tryz.prog.underlying f.type = some (.int k)) (hp : Tryz.prog.plainKey f.type = true) (hx : xs[f.offset]? = some (.int k a)) (hy : ys[f.offset]? = some (.int k b)) :
    (Op.eqFields (d + 1) xs ys (f :: fs)).run Tryz.prog w = if a = b then (Op.eqFields (d + 1) xs ys fs).run Tryz.prog w else .ok false w := by
  conv => lhs; unfold Op.eqFields
  rw [if_pos hf]
  simp only [Sem.run_bind, run_part_plain w hp hx, run_part_plain w hp hy, Result.andThen_ok, run_equalIn_int w d f.type k k a b ht]
  by_cases h : a = b
  · simp [h]
  · simp [h]
theorem note_guard : Tryz.prog.eqGuardType Tryz.prog.depth 46 = false := by kernel_rfl
theorem note_equal (x y : Nt) (w : World) : (Op.equalIn 10000 46 (.agg x.c) (.agg y.c)).run Tryz.prog w = .ok (decide (x = y)) w := by
  rw [run_equalIn_struct w 9999 46 _ _ (by kernel_rfl) (by kernel_rfl)]
  simp only [Program.fieldsOf, Tryz.underlying46]
  rw [nq_int (d := 9998) (k := .i64) (a := x.h) (b := y.h) w (by decide) Tryz.underlying3 (by kernel_rfl) rfl rfl, nq_int (d := 9998) (k := .u64) (a := ((x.s : Nat) : Int)) (b := ((y.s : Nat) : Int)) w (by decide) Tryz.underlying40 (by kernel_rfl) rfl rfl]
  simp only [Op.eqFields, Sem.run_pure]
  obtain ⟨a0, a1⟩ := x
  obtain ⟨b0, b1⟩ := y
  simp only [Nt.mk.injEq]
  by_cases h0 : a0 = b0
  · by_cases h1 : a1 = b1 <;> simp [h0, h1, Int.natCast_inj]
  · simp [h0]
theorem note_eq (x y : Nt) (w : World) : (binOp .eql 46 (.agg x.c) (.agg y.c)).run Tryz.prog w = .ok (.bool (decide (x = y))) w := by rw [run_eql_struct, note_equal]; rfl
theorem nsame_step {l m : List Nt} (hl : l.length = m.length) {k : Nat} {x y : Nt} (hx : l[k]? = some x) (hy : m[k]? = some y) (h : l.take k = m.take k) : (l.take (k + 1) = m.take (k + 1)) ↔ x = y := by
  rw [List.take_add_one, List.take_add_one, hx, hy, h]
  constructor
  · intro h2; have := List.append_cancel_left h2; simpa using this
  · intro h2; rw [h2]
theorem nsame_cases (l m : List Nt) (k : Nat) (bb : Bool) (hlen : l.length = m.length) (hk : k ≤ l.length) (hb : bb = decide (l.take k = m.take k)) :
    (bb = true ∧ k < l.length ∧ ∀ x y, l[k]? = some x → m[k]? = some y → x = y) ∨ (bb = true ∧ k < l.length ∧ ∀ x y, l[k]? = some x → m[k]? = some y → x ≠ y) ∨ (bb = true ∧ k = l.length ∧ l = m) ∨ (bb = false ∧ l ≠ m) := by
  cases bb with
  | false => exact .inr (.inr (.inr ⟨rfl, fun e => by subst e; simp at hb⟩))
  | true =>
    have ht : l.take k = m.take k := of_decide_eq_true hb.symm
    by_cases hlt : k < l.length
    · by_cases h : l[k]? = m[k]?
      · exact .inl ⟨rfl, hlt, fun x y hx hy => by rw [hx, hy] at h; exact Option.some.inj h⟩
      · exact .inr (.inl ⟨rfl, hlt, fun x y hx hy e => h (by rw [hx, hy, e])⟩)
    · have hk2 : k = l.length := by omega
      refine .inr (.inr (.inl ⟨rfl, hk2, ?_⟩))
      rwa [List.take_of_length_le (by omega), List.take_of_length_le (by omega)] at ht
theorem notes_block {w : World} {g n cap : Nat} {xs : List Nt} {T : TypeId} (h : w.heap[g]? = some (.cells (xs.flatMap Nt.cl).toArray T (0, 0))) (hn : xs.length = n) (hc : n ≤ cap) (hm : cap ≤ 1000) : Sl w 2 Nt.cl (.slice (some ⟨g, 0, none⟩) n cap) xs := by
  subst hn
  exact ⟨⟨_, _, rfl, hc, by unfold maxLen; omega, fun h => by cases h⟩, fun k x hx => ⟨g, 0, _, rfl, lt_of_block h, fun j u hj => by
    rw [Nat.zero_add]
    exact rc h (by rw [List.getElem?_toArray]; exact flat_get (s := 2) (fun _ _ => rfl) k x hx j u hj)⟩⟩
def nOver : Nt := ⟨-77, 0⟩
theorem nover_cells {cs : Array Value} {k n : Nat} (hn : n * 2 ≤ cs.size) (hk : k < n) : k * 2 + (Nt.c nOver).size ≤ cs.size := by
  show k * 2 + 2 ≤ cs.size; omega
theorem nseg_size {cs : Array Value} {o : Nat} {vs : List Value} (h : o + vs.length ≤ cs.size) : (seg cs o vs).size = cs.size := by
  simp only [seg, List.size_toArray, List.length_append, List.length_take, List.length_drop, Array.length_toList]; omega
noncomputable def qc81_2 (n : Nat) : Code := partOf Tryz.f17 n
noncomputable abbrev qo81_2 (n k : Nat) : Oper := (opsAt (qc81_2 n)).getD k default
theorem kSameNotes_len (va vb : Value) (l m : List Nt) (w : World) (Ha : Sl w 2 Nt.cl va l) (Hb : Sl w 2 Nt.cl vb m) (hne : l.length ≠ m.length) :
    Calls Tryz.prog 17 #[va, vb] w (fun e w' => e = .returned (.bool (false)) ∧ Keeps Nob w w') := by
  have hll := Ha.len_le
  have hml := Hb.len_le
  have K0 : Keeps Nob w w := Keeps.refl _ _
  refine sy_enter (qc81_2 1) ⟨#[va, vb, ud, ud, ud, ud, ud, ud, ud, ud, ud, ud, ud, ud, ud, ud, ud, ud, ud, ud, ud, ud, ud, ud, ud, ud, ud, ud, ud, ud, ud], []⟩ Tryz.func17 (by kernel_rfl) (by kernel_rfl) <| qr_ [0] <| pkq (.bool false) <| eqr_ [0, 1, 2, 3, 4, 5] <| pkq (va) <| ppq (iN l.length) (exec_len_sl (.tmp 7) 22 46 (by kernel_rfl) Tryz.underlying22 (by kernel_rfl) Ha) <| pkq (vb) <| ppq (iN m.length) (exec_len_sl (.tmp 9) 22 46 (by kernel_rfl) Tryz.underlying22 (by kernel_rfl) Hb) <| ppq (.bool false) (eqf (((l.length : Nat) : Int)) (((m.length : Nat) : Int)) (by omega)) <| pkq (.bool false) <| eq_ <| qr_ [0] <| pkq (.int .i64 0) <| et_ ?_
  refine bl_ 0 <| sy_rounds 1 (qc81_2 116) (by kernel_rfl) <| rd_step <| q_ <| qr_ [0, 1, 2, 3, 4, 5, 6] <| pkq (.bool false) <| pkq (.bool false) <| pnq <| pnq <| pnq <| pnq <| pkq (.bool false) <| en_ <| sy_exit 0 (by kernel_rfl) ?_
  refine then_e <| then_e <| blk_e <| tqr_ [0, 1] <| pkq (.bool false) <| pkq (.bool false) <| eu_ <| so_ (.bool false) ?_
  exact ⟨rfl, K0⟩
theorem kSameNotes_eq (va vb : Value) (l m : List Nt) (w : World) (Ha : Sl w 2 Nt.cl va l) (Hb : Sl w 2 Nt.cl vb m) (hlen : l.length = m.length) :
    Calls Tryz.prog 17 #[va, vb] w (fun e w' => e = .returned (.bool (decide (l = m))) ∧ Keeps Nob w w') := by
  have hll := Ha.len_le
  have hml := Hb.len_le
  have K0 : Keeps Nob w w := Keeps.refl _ _
  refine sy_enter (qc81_2 1) ⟨#[va, vb, ud, ud, ud, ud, ud, ud, ud, ud, ud, ud, ud, ud, ud, ud, ud, ud, ud, ud, ud, ud, ud, ud, ud, ud, ud, ud, ud, ud, ud], []⟩ Tryz.func17 (by kernel_rfl) (by kernel_rfl) <| qr_ [0] <| pkq (.bool false) <| eqr_ [0, 1, 2, 3, 4, 5] <| pkq (va) <| ppq (iN l.length) (exec_len_sl (.tmp 7) 22 46 (by kernel_rfl) Tryz.underlying22 (by kernel_rfl) Ha) <| pkq (vb) <| ppq (iN m.length) (exec_len_sl (.tmp 9) 22 46 (by kernel_rfl) Tryz.underlying22 (by kernel_rfl) Hb) <| ppq (.bool true) (eqt (((l.length : Nat) : Int)) (((m.length : Nat) : Int)) (by omega)) <| pkq (.bool true) <| eq_ <| qr_ [0] <| pkq (.int .i64 0) <| et_ ?_
  refine bl_ 0 ?_
  refine sy_loop (qc81_2 116) (fun a V => ∃ (k : Nat) (bb : Bool) (u12 u13 u14 u15 u16 u17 u18 u19 u20 u21 u22 u23 u24 u25 u26 u27 u28 u29 : Value), (a = ⟨#[va, vb, ud, ud, .bool false, .bool bb, iN k, va, iN l.length, vb, iN m.length, .bool true, u12, u13, u14, u15, u16, u17, u18, u19, u20, u21, u22, u23, u24, u25, u26, u27, u28, u29, ud], []⟩) ∧ (k ≤ l.length) ∧ (bb = decide (l.take k = m.take k)) ∧ (Sl V 2 Nt.cl va l) ∧ (Sl V 2 Nt.cl vb m) ∧ (Keeps Nob w V)) (fun a _ => l.length - (intOf (a.tmps.getD 6 undef)).toNat) (by kernel_rfl) ?_ ?_
  · exact ⟨0, true, undef, undef, undef, undef, undef, undef, undef, undef, undef, undef, undef, undef, undef, undef, undef, undef, undef, undef, by kernel_rfl, Nat.zero_le _, rfl, Ha, Hb, K0⟩
  · rintro a V1 ⟨k, bb, u12, u13, u14, u15, u16, u17, u18, u19, u20, u21, u22, u23, u24, u25, u26, u27, u28, u29, rfl, hk, hb, h2, h3, K4⟩
    rcases nsame_cases l m k bb hlen hk hb with ⟨rfl, hlt, hx0⟩ | ⟨rfl, hlt, hx0⟩ | ⟨rfl, heq, ht⟩ | ⟨rfl, hf⟩
    · obtain ⟨x, hx⟩ : ∃ x, l[k]? = some x := ⟨_, List.getElem?_eq_getElem hlt⟩
      obtain ⟨y, hy⟩ : ∃ y, m[k]? = some y := ⟨_, List.getElem?_eq_getElem (by omega)⟩
      obtain ⟨b_a, o_a, c_a, hv_a, hb_a, _⟩ := (h2).at_ k _ hx
      obtain ⟨b_b, o_b, c_b, hv_b, hb_b, _⟩ := (h3).at_ k _ hy
      skip
      have hxy := hx0 x y hx hy
      refine q_ <| qr_ [0, 1, 2, 3, 4, 5, 6] <| pkq (.bool true) <| pkq (.bool true) <| pkq (iN k) <| pkq (va) <| ppq (iN l.length) (exec_len_sl (.tmp 15) 22 46 (by kernel_rfl) Tryz.underlying22 (by kernel_rfl) h2) <| ppq (.bool true) (dct ((((k : Nat) : Int)) < (((l.length : Nat) : Int))) (by omega)) <| pkq (.bool true) <| ey_ <| s_ <| tq_ <| bl_ 1 <| sy_reg ?_
      refine rg_still 5 9 (opsAt (qc81_2 932)) [qo81_2 932 0, qo81_2 932 1, qo81_2 932 2, qo81_2 932 3, qo81_2 932 4, qo81_2 932 5, qo81_2 932 6, qo81_2 932 7, qo81_2 932 8] [qo81_2 932 9] (by kernel_rfl) (by kernel_rfl) (by kernel_rfl) (by kernel_rfl) (by kernel_rfl) ?_
      obtain ⟨V6, eV6, kV6⟩ := drew_step V1
      rw [eV6]
      clear eV6
      have h7 : Sl V6 2 Nt.cl va l := h2.keepsN kV6
      have h8 : Sl V6 2 Nt.cl vb m := h3.keepsN kV6
      have K9 := K4.nn kV6
      refine skq (va) <| skq (iN k) <| spq (pT b_a (o_a + k * 2)) (exec_indexAt_slice 22 (.tmp 21) (.tmp 22) (by kernel_rfl) b_a o_a l.length c_a (Eq.trans (b := va) (by kernel_rfl) hv_a) .i64 k (by kernel_rfl) _ 2 Tryz.underlying22 (by kernel_rfl) (by omega)) <| spq (.agg x.c) (exec_load_mid 46 (.tmp 23) (by kernel_rfl) b_a (o_a + k * 2) (by kernel_rfl) (Nt.cl x) _ (Sl.range h7 hx hv_a) Tryz.underlying46 rfl (by kernel_rfl)) <| skq (vb) <| skq (iN k) <| spq (pT b_b (o_b + k * 2)) (exec_indexAt_slice 22 (.tmp 25) (.tmp 26) (by kernel_rfl) b_b o_b m.length c_b (Eq.trans (b := vb) (by kernel_rfl) hv_b) .i64 k (by kernel_rfl) _ 2 Tryz.underlying22 (by kernel_rfl) (by omega)) <| spq (.agg y.c) (exec_load_mid 46 (.tmp 27) (by kernel_rfl) b_b (o_b + k * 2) (by kernel_rfl) (Nt.cl y) _ (Sl.range h8 hy hv_b) Tryz.underlying46 rfl (by kernel_rfl)) <| spq (.bool true) (exec_cast (congrArg Value.bool (decide_eq_true hxy)) (exec_binop .eql 46 46 (.tmp 24) (.tmp 28) (by kernel_rfl) (.agg x.c) (.agg y.c) _ (by kernel_rfl) (by kernel_rfl) (run_eqGuard_agg _ _ _ _ _ _ _ note_guard) (note_eq _ _ _))) <| st_end <| ls_run (qo81_2 932 9) (.bool true) (w' := V6) (by kernel_rfl) (by kernel_rfl) <| ls_end <| blk_n <| tr_ [0, 1, 2] ?_
      refine pkq (iN k) <| ppq (iN (k + 1)) (exec_cast (congrArg (Value.int .i64) (wrapN (k + 1) (by omega))) (by kernel_rfl)) <| pkq (iN (k + 1)) <| et_ ?_
      refine ⟨⟨k + 1, true, (.bool true), (.bool true), (iN k), va, (iN l.length), (.bool true), (.bool true), (iN k), (iN (k + 1)), va, (iN k), (pT b_a (o_a + k * 2)), (.agg x.c), vb, (iN k), (pT b_b (o_b + k * 2)), (.agg y.c), (.bool true), by kernel_rfl, by omega, (by first | exact (decide_eq_true ((nsame_step hlen hx hy (of_decide_eq_true hb.symm)).2 hxy)).symm | exact (decide_eq_false (fun h => hxy ((nsame_step hlen hx hy (of_decide_eq_true hb.symm)).1 h))).symm), h7, h8, K9⟩, ?_⟩
      exact lt_meas (x := l.length - (k + 1)) (y := l.length - k) (by kernel_rfl) (by kernel_rfl) (by omega)
    · obtain ⟨x, hx⟩ : ∃ x, l[k]? = some x := ⟨_, List.getElem?_eq_getElem hlt⟩
      obtain ⟨y, hy⟩ : ∃ y, m[k]? = some y := ⟨_, List.getElem?_eq_getElem (by omega)⟩
      obtain ⟨b_a, o_a, c_a, hv_a, hb_a, _⟩ := (h2).at_ k _ hx
      obtain ⟨b_b, o_b, c_b, hv_b, hb_b, _⟩ := (h3).at_ k _ hy
      skip
      have hxy := hx0 x y hx hy
      refine q_ <| qr_ [0, 1, 2, 3, 4, 5, 6] <| pkq (.bool true) <| pkq (.bool true) <| pkq (iN k) <| pkq (va) <| ppq (iN l.length) (exec_len_sl (.tmp 15) 22 46 (by kernel_rfl) Tryz.underlying22 (by kernel_rfl) h2) <| ppq (.bool true) (dct ((((k : Nat) : Int)) < (((l.length : Nat) : Int))) (by omega)) <| pkq (.bool true) <| ey_ <| s_ <| tq_ <| bl_ 1 <| sy_reg ?_
      refine rg_still 5 9 (opsAt (qc81_2 932)) [qo81_2 932 0, qo81_2 932 1, qo81_2 932 2, qo81_2 932 3, qo81_2 932 4, qo81_2 932 5, qo81_2 932 6, qo81_2 932 7, qo81_2 932 8] [qo81_2 932 9] (by kernel_rfl) (by kernel_rfl) (by kernel_rfl) (by kernel_rfl) (by kernel_rfl) ?_
      obtain ⟨V11, eV11, kV11⟩ := drew_step V1
      rw [eV11]
      clear eV11
      have h12 : Sl V11 2 Nt.cl va l := h2.keepsN kV11
      have h13 : Sl V11 2 Nt.cl vb m := h3.keepsN kV11
      have K14 := K4.nn kV11
      refine skq (va) <| skq (iN k) <| spq (pT b_a (o_a + k * 2)) (exec_indexAt_slice 22 (.tmp 21) (.tmp 22) (by kernel_rfl) b_a o_a l.length c_a (Eq.trans (b := va) (by kernel_rfl) hv_a) .i64 k (by kernel_rfl) _ 2 Tryz.underlying22 (by kernel_rfl) (by omega)) <| spq (.agg x.c) (exec_load_mid 46 (.tmp 23) (by kernel_rfl) b_a (o_a + k * 2) (by kernel_rfl) (Nt.cl x) _ (Sl.range h12 hx hv_a) Tryz.underlying46 rfl (by kernel_rfl)) <| skq (vb) <| skq (iN k) <| spq (pT b_b (o_b + k * 2)) (exec_indexAt_slice 22 (.tmp 25) (.tmp 26) (by kernel_rfl) b_b o_b m.length c_b (Eq.trans (b := vb) (by kernel_rfl) hv_b) .i64 k (by kernel_rfl) _ 2 Tryz.underlying22 (by kernel_rfl) (by omega)) <| spq (.agg y.c) (exec_load_mid 46 (.tmp 27) (by kernel_rfl) b_b (o_b + k * 2) (by kernel_rfl) (Nt.cl y) _ (Sl.range h13 hy hv_b) Tryz.underlying46 rfl (by kernel_rfl)) <| spq (.bool false) (exec_cast (congrArg Value.bool (decide_eq_false hxy)) (exec_binop .eql 46 46 (.tmp 24) (.tmp 28) (by kernel_rfl) (.agg x.c) (.agg y.c) _ (by kernel_rfl) (by kernel_rfl) (run_eqGuard_agg _ _ _ _ _ _ _ note_guard) (note_eq _ _ _))) <| st_end <| ls_run (qo81_2 932 9) (.bool false) (w' := V11) (by kernel_rfl) (by kernel_rfl) <| ls_end <| blk_n <| tr_ [0, 1, 2] ?_
      refine pkq (iN k) <| ppq (iN (k + 1)) (exec_cast (congrArg (Value.int .i64) (wrapN (k + 1) (by omega))) (by kernel_rfl)) <| pkq (iN (k + 1)) <| et_ ?_
      refine ⟨⟨k + 1, false, (.bool true), (.bool true), (iN k), va, (iN l.length), (.bool true), (.bool true), (iN k), (iN (k + 1)), va, (iN k), (pT b_a (o_a + k * 2)), (.agg x.c), vb, (iN k), (pT b_b (o_b + k * 2)), (.agg y.c), (.bool false), by kernel_rfl, by omega, (by first | exact (decide_eq_true ((nsame_step hlen hx hy (of_decide_eq_true hb.symm)).2 hxy)).symm | exact (decide_eq_false (fun h => hxy ((nsame_step hlen hx hy (of_decide_eq_true hb.symm)).1 h))).symm), h12, h13, K14⟩, ?_⟩
      exact lt_meas (x := l.length - (k + 1)) (y := l.length - k) (by kernel_rfl) (by kernel_rfl) (by omega)
    · skip
      refine q_ <| qr_ [0, 1, 2, 3, 4, 5, 6] <| pkq (.bool true) <| pkq (.bool true) <| pkq (iN k) <| pkq (va) <| ppq (iN l.length) (exec_len_sl (.tmp 15) 22 46 (by kernel_rfl) Tryz.underlying22 (by kernel_rfl) h2) <| ppq (.bool false) (dcf ((((k : Nat) : Int)) < (((l.length : Nat) : Int))) (by omega)) <| pkq (.bool false) <| en_ <| sy_exit 0 (by kernel_rfl) <| then_e <| then_e <| blk_e ?_
      refine tqr_ [0, 1] <| pkq (.bool true) <| pkq (.bool true) <| eu_ <| so_ (.bool true) ?_
      exact ⟨by first | (rw [decide_eq_true (by first | exact ht | exact hf)]) | (rw [decide_eq_false (by first | exact ht | exact hf)]), K4⟩
    · skip
      refine q_ <| qr_ [0, 1, 2, 3, 4, 5, 6] <| pkq (.bool false) <| pkq (.bool false) <| pnq <| pnq <| pnq <| pnq <| pkq (.bool false) <| en_ <| sy_exit 0 (by kernel_rfl) <| then_e <| then_e <| blk_e ?_
      refine tqr_ [0, 1] <| pkq (.bool false) <| pkq (.bool false) <| eu_ <| so_ (.bool false) ?_
      exact ⟨by first | (rw [decide_eq_true (by first | exact ht | exact hf)]) | (rw [decide_eq_false (by first | exact ht | exact hf)]), K4⟩
theorem kSameNotes_ok (va vb : Value) (l m : List Nt) (w : World) (Ha : Sl w 2 Nt.cl va l) (Hb : Sl w 2 Nt.cl vb m) : Calls Tryz.prog 17 #[va, vb] w fun e w' => e = .returned (.bool (decide (l = m))) ∧ Keeps Nob w w' := by
  by_cases h : l.length = m.length
  · exact kSameNotes_eq va vb l m w Ha Hb h
  · rw [decide_eq_false (fun e => h (by rw [e]))]; exact kSameNotes_len va vb l m w Ha Hb h
theorem kSameNotes_is {va vb : Value} {l m : List Nt} (r : Bool) (w : World) (Ha : Sl w 2 Nt.cl va l) (Hb : Sl w 2 Nt.cl vb m) (h : decide (l = m) = r) : Calls Tryz.prog 17 #[va, vb] w fun e w' => e = .returned (.bool r) ∧ Keeps Nob w w' := h ▸ kSameNotes_ok va vb l m w Ha Hb
noncomputable def qc81_1 (n : Nat) : Code := partOf Tryz.f52 n
theorem kOverNotes_nil (w : World) :
    Calls Tryz.prog 52 #[.slice none 0 0] w (fun e w' => e = .returned (.tuple #[]) ∧ Keeps Nob w w') := by
  have K0 : Keeps Nob w w := Keeps.refl _ _
  refine sy_enter (qc81_1 1) ⟨#[.slice none 0 0, ud, ud, ud, ud, ud, ud, ud, ud, ud, ud, ud, ud], []⟩ Tryz.func52 (by kernel_rfl) (by kernel_rfl) <| qr_ [0] <| pkq (.int .i64 0) <| et_ <| bl_ 0 <| sy_rounds 1 (qc81_1 12) (by kernel_rfl) <| rd_step <| q_ <| qr_ [0, 1, 2, 3] <| pkq (.int .i64 0) <| pkq (.slice none 0 0) <| ppq (.int .i64 0) (exec_len (.tmp 4) 22 _ (by kernel_rfl) Tryz.underlying22 none 0 0 (by kernel_rfl)) <| pkq (.bool false) <| en_ ?_
  refine sy_exit 0 (by kernel_rfl) <| then_e <| then_e <| blk_e <| sy_fall (.tuple #[]) rfl (by kernel_rfl) ?_
  exact ⟨rfl, K0⟩
theorem kOverNotes_row (g n cap : Nat) (cs0 : Array Value) (w : World) (hg : w.heap[g]? = some (.cells cs0 46 (0, 0))) (hn : n * 2 ≤ cs0.size) (hmax : n ≤ 1000000) :
    Calls Tryz.prog 52 #[.slice (some ⟨g, 0, none⟩) n cap] w (fun e w' => e = .returned (.tuple #[]) ∧ Keeps (One g) w w') := by
  have K0 : Keeps (One g) w w := Keeps.refl _ _
  refine sy_enter (qc81_1 1) ⟨#[.slice (some ⟨g, 0, none⟩) n cap, ud, ud, ud, ud, ud, ud, ud, ud, ud, ud, ud, ud], []⟩ Tryz.func52 (by kernel_rfl) (by kernel_rfl) <| qr_ [0] <| pkq (.int .i64 0) <| et_ <| bl_ 0 ?_
  refine sy_loop (qc81_1 12) (fun a V => ∃ (k : Nat) (cs : Array Value) (u3 u4 u5 u6 u7 u8 u9 u10 u11 u12 : Value), (a = ⟨#[.slice (some ⟨g, 0, none⟩) n cap, ud, iN k, u3, u4, u5, u6, u7, u8, u9, u10, u11, u12], []⟩) ∧ (k ≤ n) ∧ (cs.size = cs0.size) ∧ (V.heap[g]? = some (.cells cs 46 (0, 0))) ∧ (Keeps (One g) w V)) (fun a _ => n - (intOf (a.tmps.getD 2 undef)).toNat) (by kernel_rfl) ?_ ?_
  · exact ⟨0, cs0, undef, undef, undef, undef, undef, undef, undef, undef, undef, undef, by kernel_rfl, Nat.zero_le _, rfl, hg, K0⟩
  · rintro a V1 ⟨k, cs, u3, u4, u5, u6, u7, u8, u9, u10, u11, u12, rfl, hk, hcs, h2, K3⟩
    by_cases lt_k : k < n
    · skip
      refine q_ <| qr_ [0, 1, 2, 3] <| pkq (iN k) <| pkq (.slice (some ⟨g, 0, none⟩) n cap) <| ppq (iN n) (exec_len (.tmp 4) 22 _ (by kernel_rfl) Tryz.underlying22 (some ⟨g, 0, none⟩) n cap (by kernel_rfl)) <| ppq (.bool true) (dct ((((k : Nat) : Int)) < (((n : Nat) : Int))) (by omega)) <| ey_ <| s_ <| tq_ <| bl_ 1 <| r_ [0, 1, 2, 3, 4] <| pkq (.slice (some ⟨g, 0, none⟩) n cap) <| pkq (iN k) <| pkq (.agg (Nt.c nOver)) ?_
      refine ppq (pT g (k * 2)) (exec_cast (v := pT g (0 + k * 2)) (by simp) (exec_indexAt_slice 22 (.tmp 9) (.tmp 10) (by kernel_rfl) g 0 n cap (by kernel_rfl) .i64 k (by kernel_rfl) _ 2 Tryz.underlying22 (by kernel_rfl) (by omega))) ?_
      have hfit : k * 2 + (Nt.c nOver).size ≤ cs.size := nover_cells (by omega) lt_k
      obtain ⟨V4, eV4⟩ : ∃ V, V1.setCells g (k * 2) (Nt.c nOver).toList = V := ⟨_, rfl⟩
      have kV4 : Keeps (One g) V1 V4 := eV4 ▸ Keeps.setCells _ _ _ _
      have h5 : V4.heap[g]? = some (.cells (seg cs (k * 2) (Nt.c nOver).toList) 46 (0, 0)) := eV4 ▸ heap_setCells g _ _ (k * 2) _ _ h2 (by simpa using hfit)
      refine pzq (w' := V4) (by rw [← eV4]; exact exec_store_mid 46 (.tmp 12) (.tmp 11) (by kernel_rfl) g (k * 2) (by kernel_rfl) (Nt.c nOver) (by kernel_rfl) _ _ h2 hfit (by kernel_rfl) (by kernel_rfl)) ?_
      clear eV4
      have K6 : Keeps (One g) w V4 := K3.then kV4 (fun i hi hm => by unfold Own.One at hm; subst hm; exact rfl)
      refine ps_end <| blk_n <| tr_ [0, 1, 2] <| pkq (iN k) <| ppq (iN (k + 1)) (exec_cast (congrArg (Value.int .i64) (wrapN (k + 1) (by omega))) (by kernel_rfl)) <| pkq (iN (k + 1)) <| et_ ?_
      refine ⟨⟨k + 1, seg cs (k * 2) (Nt.c nOver).toList, (iN k), (.slice (some ⟨g, 0, none⟩) n cap), (iN n), (.bool true), (iN k), (iN (k + 1)), (.slice (some ⟨g, 0, none⟩) n cap), (iN k), (.agg (Nt.c nOver)), (pT g (k * 2)), by kernel_rfl, by omega, ((nseg_size (by simpa using hfit)).trans hcs), h5, K6⟩, ?_⟩
      exact lt_meas (x := n - (k + 1)) (y := n - k) (by kernel_rfl) (by kernel_rfl) (by omega)
    · skip
      refine q_ <| qr_ [0, 1, 2, 3] <| pkq (iN k) <| pkq (.slice (some ⟨g, 0, none⟩) n cap) <| ppq (iN n) (exec_len (.tmp 4) 22 _ (by kernel_rfl) Tryz.underlying22 (some ⟨g, 0, none⟩) n cap (by kernel_rfl)) <| ppq (.bool false) (dcf ((((k : Nat) : Int)) < (((n : Nat) : Int))) (by omega)) <| en_ <| sy_exit 0 (by kernel_rfl) <| then_e <| then_e <| blk_e <| sy_fall (.tuple #[]) rfl (by kernel_rfl) ?_
      exact ⟨rfl, K3⟩
theorem kOverNotes_ok (v : Value) (n : Nat) (xs : List Value) (w : World) (h : Row w 46 2 v n xs) (hmax : n ≤ 1000000) : Calls Tryz.prog 52 #[v] w fun e w' => e = .returned (.tuple #[]) ∧ Keeps (fun j => v.ownBlock = some j) w w' := by
  rcases h.2 with ⟨rfl, h0⟩ | ⟨g, cap, cur, rfl, _, hg, q1, q2, q3, q4⟩
  · exact (kOverNotes_nil w).mono fun e w' ⟨he, k⟩ => ⟨he, k.mono (fun _ _ x => x.elim)⟩
  · exact (kOverNotes_row g n cap cur w hg (by rw [q3]; exact Nat.mul_le_mul_right _ q1) hmax).mono fun e w' ⟨he, k⟩ => ⟨he, k.mono (fun j _ (e : j = g) => by subst e; rfl)⟩
def ntwo : List Nt := [⟨10, 100⟩, ⟨40, 200⟩]
def parDef : Par := ⟨100, 100, 10, 8, 7, 8, 20, 50000000, 3, 50, 100000000⟩
theorem parDef_Ok : parDef.Ok := by constructor <;> (simp only [parDef, i64ok, u64ok]; omega)
noncomputable def qc81_7 (n : Nat) : Code := partOf Tryz.f21 n
theorem lntwo_ok (w : World) :
    Calls Tryz.prog 21 #[] w (fun e w' => ∃ g, e = .returned (.slice (some ⟨g, 0, none⟩) 2 2) ∧ w'.heap[g]? = some (.cells (ntwo.flatMap Nt.cl).toArray 46 (0, 0)) ∧ w.heap.size ≤ g ∧ Keeps Nob w w') := by
  have K0 : Keeps Nob w w := Keeps.refl _ _
  refine sy_enter (qc81_7 1) ⟨#[ud, ud, ud, ud], []⟩ Tryz.func21 (by kernel_rfl) (by kernel_rfl) <| qr_ [0] <| pkq (.slice none 0 0) <| eqr_ [0, 1, 2, 3] <| pkq (.agg #[.int .i64 10, .int .u64 100]) <| pkq (.agg #[.int .i64 40, .int .u64 200]) ?_
  obtain ⟨V1, eV1, gq, egq, h2, kV1⟩ := alloc_step w #[.int .i64 10, .int .u64 100, .int .i64 40, .int .u64 200] 46
  have n3 : w.heap.size ≤ gq := egq ▸ K0.size
  refine prq (.slice (some ⟨gq, 0, none⟩) 2 2) (w' := V1) (by rw [← eV1, ← egq]; kernel_rfl) ?_
  clear eV1
  have h4 : V1.heap[gq]? = some (.cells ((ntwo.flatMap Nt.cl).toArray) 46 (0, 0)) := h2
  have K5 := K0.nn kV1
  have z6 := kV1.size
  refine pkq (.slice (some ⟨gq, 0, none⟩) 2 2) <| eu_ <| so_ (.slice (some ⟨gq, 0, none⟩) 2 2) ?_
  exact ⟨gq, rfl, h4, by omega, K5⟩
noncomputable def qc81_3 (n : Nat) : Code := partOf Tryz.f53 n
theorem pDefault_ok (w : World) :
    Calls Tryz.prog 53 #[] w (fun e w' => e = .returned (.agg parDef.cells) ∧ Keeps Nob w w') := by
  have K0 : Keeps Nob w w := Keeps.refl _ _
  refine sy_enter (qc81_3 1) ⟨#[ud, ud], []⟩ Tryz.func53 (by kernel_rfl) (by kernel_rfl) <| qr_ [0] <| pal 51 (#[.int .i64 0, .int .i64 0, .int .i64 0, .int .i64 0, .int .i64 0, .int .i64 0, .int .i64 0, .int .u64 0, .int .u64 0, .int .i64 0, .int .u64 0]) (.agg (#[.int .i64 0, .int .i64 0, .int .i64 0, .int .i64 0, .int .i64 0, .int .i64 0, .int .i64 0, .int .u64 0, .int .u64 0, .int .i64 0, .int .u64 0])) fun V1 g eg h2 kV1 => ?_
  have n3 : w.heap.size ≤ g := eg ▸ K0.size
  have K4 := K0.nn kV1
  have z5 := kV1.size
  refine eqr_ [0, 1] <| pkq (.agg parDef.cells) <| pst 51 g parDef.cells h2 (by kernel_rfl) rfl (by kernel_rfl) fun V6 h7 kV6 => ?_
  have K8 := K4.nO kV6
  have z9 := kV6.size
  refine eu_ <| sy_out (.agg parDef.cells) rfl (results_cell_row (p := 0) (ty := 51) (by kernel_rfl) _ _ g 51 parDef.cells (0, 0) _ (by kernel_rfl) h7 Tryz.underlying51 rfl (by kernel_rfl)) ?_
  exact ⟨rfl, K8⟩
noncomputable def qc81_0 (n : Nat) : Code := partOf Tryz.f9 n
noncomputable abbrev qo81_0 (n k : Nat) : Oper := (opsAt (qc81_0 n)).getD k default
theorem kCopyNotes_ok (v : Value) (l : List Nt) (w : World) (hl : Sl w 2 Nt.cl v l) (hlen : l.length ≤ 1000) :
    Calls Tryz.prog 9 #[v] w (fun e w' => ∃ X, e = .returned X ∧ Row w' 46 2 X (l).length ((l).flatMap Nt.cl) ∧ NewFrom w.heap.size X ∧ Keeps Nob w w') := by
  obtain ⟨i2, hi2, hs0, hs1, hs2⟩ := info_parts note_info0
  have K0 : Keeps Nob w w := Keeps.refl _ _
  refine sy_enter (qc81_0 1) ⟨#[v, ud, ud, ud, ud, ud], []⟩ Tryz.func9 (by kernel_rfl) (by kernel_rfl) <| qr_ [0] <| pkq (.slice none 0 0) <| eqr_ [0, 1, 2, 3] ?_
  obtain ⟨V1, eV1, g0, eg0, h2, kV1⟩ := alloc_step w #[] 46
  have n3 : w.heap.size ≤ g0 := eg0 ▸ K0.size
  refine prq (.slice (some ⟨g0, 0, none⟩) 0 0) (w' := V1) (by rw [← eV1, ← eg0]; kernel_rfl) ?_
  have h4 : Sl V1 2 Nt.cl v l := hl.keepsN kV1
  have K5 := K0.nn kV1
  have z6 := kV1.size
  refine pkq (v) ?_
  have h7 : Row V1 46 2 (.slice (some ⟨g0, 0, none⟩) 0 0) 0 [] := nrow_empty h2 rfl (by decide)
  have hw8 : NewFrom w.heap.size (.slice (some ⟨g0, 0, none⟩) 0 0) := NewFrom.ptr (by omega) _ _
  obtain ⟨lv, V9, hr10, h11, hg12, hn13, ha14⟩ := run_append_any (P := Tryz.prog) (w := V1) 22 (Oper.type (qo81_0 6 2)) 46 i2 (.agg #[.int .i64 0, .int .u64 0]) 2 16 Tryz.underlying22 hi2 hs0 hs1 hs2 rfl (by decide) (.slice (some ⟨g0, 0, none⟩) 0 0) 0 [] h7 v l.length (l.flatMap Nt.cl) (Sl.src h4 (fun _ _ => rfl) (by decide) (fun z _ => Nt.cl_one z)) (by unfold maxLen; omega) (by omega)
  have kV9 : Keeps (fun j => (.slice (some ⟨g0, 0, none⟩) 0 0 : Value).ownBlock = some j) V1 V9 := Keeps.rowAdd hg12
  have hw15 : NewFrom w.heap.size lv := hw8.next K5.size ha14
  refine prq lv (w' := V9) (exec_append (.tmp 3) (.tmp 4) 22 (by kernel_rfl) (.slice (some ⟨g0, 0, none⟩) 0 0) v (by kernel_rfl) (by kernel_rfl) hr10) ?_
  have h16 : Row V9 46 2 lv l.length (l.flatMap Nt.cl) := (by rw [Nat.zero_add, List.nil_append] at h11; exact h11)
  have K18 : Keeps Nob w V9 := K5.then kV9 (fun i hi hm => absurd hi (by have := hw8 i hm; omega))
  have z19 := kV9.size
  refine pkq (lv) <| eu_ <| so_ (lv) ?_
  exact ⟨_, rfl, h16, hw15, K18⟩
theorem two_all {w : World} {g : Nat} (h : w.heap[g]? = some (.cells (ntwo.flatMap Nt.cl).toArray 46 (0, 0))) : Sl w 2 Nt.cl (.slice (some ⟨g, 0, none⟩) 2 2) ntwo := notes_block h rfl (Nat.le_refl _) (by decide)
theorem two_last {w : World} {g : Nat} (h : w.heap[g]? = some (.cells (ntwo.flatMap Nt.cl).toArray 46 (0, 0))) : Sl w 2 Nt.cl (.slice (some ⟨g, 2, none⟩) 1 1) (ntwo.drop 1) := (two_all h).drop 1 (by decide) _ _ _ rfl
theorem Sl.to {w w' : World} {v : Value} {l : List Nt} (h : Sl w 2 Nt.cl v l) (k : Keeps Nob w w') : Sl w' 2 Nt.cl v l := h.keepsN k
noncomputable def qc81_6 (n : Nat) : Code := partOf Tryz.f18 n
theorem lnlive_a (w : World) (het : ErrTab w) :
    Calls Tryz.prog 18 #[.int .i64 59, .int .i64 0, .int .i64 2] w (fun e w' => e = .returned (.bool true) ∧ Keeps Nob w w') := by
  have K0 : Keeps Nob w w := Keeps.refl _ _
  refine sy_enter (qc81_6 1) ⟨#[.int .i64 59, .int .i64 0, .int .i64 2, ud, ud, ud, ud, ud, ud, ud, ud, ud, ud, ud, ud, ud, ud, ud, ud, ud, ud, ud, ud, ud, ud, ud], []⟩ Tryz.func18 (by kernel_rfl) (by kernel_rfl) <| qr_ [0] <| pkq (.bool false) <| eqr_ [0, 1, 2, 3, 4, 5, 6, 7, 8] ?_
  refine pcq 53 #[] Tryz.func53 ((pDefault_ok _).mono ?_)
  rintro e V1 ⟨rfl, kV1⟩
  refine ⟨_, rfl, ?_⟩
  have K2 := K0.nn kV1
  have z3 := kV1.size
  refine pcq 21 #[] Tryz.func21 ((lntwo_ok _).mono ?_)
  rintro e V4 ⟨ga, rfl, h5, nga, kV4⟩
  refine ⟨_, rfl, ?_⟩
  have K6 := K2.nn kV4
  have z7 := kV4.size
  refine pkq (.int .i64 59) ?_
  refine pcq 34 #[.agg parDef.cells, .slice (some ⟨ga, 0, none⟩) 2 2, .int .i64 59] Tryz.func34 ((live_is parDef parDef_Ok ntwo _ 59 (by unfold i64ok; omega) 0 ntwo _ (two_all h5) (ErrTab.keeps het K6) (by decide) (by decide)).mono ?_)
  rintro e V8 ⟨X, rfl, hX, hXn, kV8⟩
  have hXs := row_nts hX
  refine ⟨_, rfl, ?_⟩
  have K10 := K6.nn kV8
  have z11 := kV8.size
  refine pkq (.tuple #[X, .int .i64 0]) <| pkq (X) <| pkq (.int .i64 0) <| pkq (X) <| pkq (.int .i64 0) <| eqr_ [0, 1, 2, 3, 4, 5, 6, 7, 8, 9, 10] <| pkq (.int .i64 0) <| pkq (.bool true) <| pkq (.bool true) <| pkq (X) ?_
  refine pcq 21 #[] Tryz.func21 ((lntwo_ok _).mono ?_)
  rintro e V12 ⟨gb, rfl, h13, ngb, kV12⟩
  refine ⟨_, rfl, ?_⟩
  have h15 : Sl V12 2 Nt.cl X ntwo := hXs.keepsN kV12
  have K16 := K10.nn kV12
  have z17 := kV12.size
  refine pkq (.int .i64 0) <| pkq (.int .i64 2) <| pkq (.slice (some ⟨gb, 0, none⟩) 2 2) ?_
  refine pcq 17 #[X, .slice (some ⟨gb, 0, none⟩) 2 2] Tryz.func17 ((kSameNotes_is true _ h15 (two_all h13) (by decide)).mono ?_)
  rintro e V18 ⟨rfl, kV18⟩
  refine ⟨_, rfl, ?_⟩
  have K22 := K16.nn kV18
  have z23 := kV18.size
  refine pkq (.bool true) <| pkq (.bool true) <| eu_ <| so_ (.bool true) ?_
  exact ⟨rfl, K22⟩
theorem lnlive_b (w : World) (het : ErrTab w) :
    Calls Tryz.prog 18 #[.int .i64 60, .int .i64 1, .int .i64 2] w (fun e w' => e = .returned (.bool true) ∧ Keeps Nob w w') := by
  have K0 : Keeps Nob w w := Keeps.refl _ _
  refine sy_enter (qc81_6 1) ⟨#[.int .i64 60, .int .i64 1, .int .i64 2, ud, ud, ud, ud, ud, ud, ud, ud, ud, ud, ud, ud, ud, ud, ud, ud, ud, ud, ud, ud, ud, ud, ud], []⟩ Tryz.func18 (by kernel_rfl) (by kernel_rfl) <| qr_ [0] <| pkq (.bool false) <| eqr_ [0, 1, 2, 3, 4, 5, 6, 7, 8] ?_
  refine pcq 53 #[] Tryz.func53 ((pDefault_ok _).mono ?_)
  rintro e V1 ⟨rfl, kV1⟩
  refine ⟨_, rfl, ?_⟩
  have K2 := K0.nn kV1
  have z3 := kV1.size
  refine pcq 21 #[] Tryz.func21 ((lntwo_ok _).mono ?_)
  rintro e V4 ⟨ga, rfl, h5, nga, kV4⟩
  refine ⟨_, rfl, ?_⟩
  have K6 := K2.nn kV4
  have z7 := kV4.size
  refine pkq (.int .i64 60) ?_
  refine pcq 34 #[.agg parDef.cells, .slice (some ⟨ga, 0, none⟩) 2 2, .int .i64 60] Tryz.func34 ((live_is parDef parDef_Ok ntwo _ 60 (by unfold i64ok; omega) 0 (ntwo.drop 1) _ (two_all h5) (ErrTab.keeps het K6) (by decide) (by decide)).mono ?_)
  rintro e V8 ⟨X, rfl, hX, hXn, kV8⟩
  have hXs := row_nts hX
  refine ⟨_, rfl, ?_⟩
  have K10 := K6.nn kV8
  have z11 := kV8.size
  refine pkq (.tuple #[X, .int .i64 0]) <| pkq (X) <| pkq (.int .i64 0) <| pkq (X) <| pkq (.int .i64 0) <| eqr_ [0, 1, 2, 3, 4, 5, 6, 7, 8, 9, 10] <| pkq (.int .i64 0) <| pkq (.bool true) <| pkq (.bool true) <| pkq (X) ?_
  refine pcq 21 #[] Tryz.func21 ((lntwo_ok _).mono ?_)
  rintro e V12 ⟨gb, rfl, h13, ngb, kV12⟩
  refine ⟨_, rfl, ?_⟩
  have h15 : Sl V12 2 Nt.cl X ((ntwo.drop 1)) := hXs.keepsN kV12
  have K16 := K10.nn kV12
  have z17 := kV12.size
  refine pkq (.int .i64 1) <| pkq (.int .i64 2) <| pkq (.slice (some ⟨gb, 2, none⟩) 1 1) ?_
  refine pcq 17 #[X, .slice (some ⟨gb, 2, none⟩) 1 1] Tryz.func17 ((kSameNotes_is true _ h15 (two_last h13) (by decide)).mono ?_)
  rintro e V18 ⟨rfl, kV18⟩
  refine ⟨_, rfl, ?_⟩
  have K22 := K16.nn kV18
  have z23 := kV18.size
  refine pkq (.bool true) <| pkq (.bool true) <| eu_ <| so_ (.bool true) ?_
  exact ⟨rfl, K22⟩
noncomputable def qc81_5 (n : Nat) : Code := partOf Tryz.f19 n
theorem lnnoted_ok (h : Int) (n : Nat) (hh : i64ok h) (hn : (nnoted parDef ntwo h).1 = n) (hrf : (nnoted parDef ntwo h).2 = 0) (w : World) (het : ErrTab w) :
    Calls Tryz.prog 19 #[.int .i64 h, .int .u64 ((n : Nat) : Int)] w (fun e w' => e = .returned (.bool true) ∧ Keeps Nob w w') := by
  have K0 : Keeps Nob w w := Keeps.refl _ _
  refine sy_enter (qc81_5 1) ⟨#[.int .i64 h, uN n, ud, ud, ud, ud, ud, ud, ud, ud, ud, ud, ud, ud, ud, ud, ud, ud, ud, ud, ud], []⟩ Tryz.func19 (by kernel_rfl) (by kernel_rfl) <| qr_ [0] <| pkq (.bool false) <| eqr_ [0, 1, 2, 3, 4, 5, 6, 7, 8] ?_
  refine pcq 53 #[] Tryz.func53 ((pDefault_ok _).mono ?_)
  rintro e V1 ⟨rfl, kV1⟩
  refine ⟨_, rfl, ?_⟩
  have K2 := K0.nn kV1
  have z3 := kV1.size
  refine pcq 21 #[] Tryz.func21 ((lntwo_ok _).mono ?_)
  rintro e V4 ⟨ga, rfl, h5, nga, kV4⟩
  refine ⟨_, rfl, ?_⟩
  have K6 := K2.nn kV4
  have z7 := kV4.size
  refine pkq (.int .i64 h) ?_
  refine pcq 29 #[.agg parDef.cells, .slice (some ⟨ga, 0, none⟩) 2 2, .int .i64 h] Tryz.func29 ((nnoted_is hn hrf (nNoted_all parDef parDef_Ok ntwo _ h hh _ (two_all h5) (ErrTab.keeps het K6))).mono ?_)
  rintro e V8 ⟨rfl, kV8⟩
  refine ⟨_, rfl, ?_⟩
  have K10 := K6.nn kV8
  have z11 := kV8.size
  refine pkq (.tuple #[uN n, .int .i64 0]) <| pkq (uN n) <| pkq (.int .i64 0) <| pkq (uN n) <| pkq (.int .i64 0) <| eqr_ [0, 1, 2, 3, 4, 5, 6, 7] <| pkq (uN n) <| pkq (uN n) <| ppq (.bool true) (eqt (((n : Nat) : Int)) (((n : Nat) : Int)) (by omega)) <| pkq (.bool true) <| pkq (.int .i64 0) <| pkq (.bool true) <| pkq (.bool true) <| pkq (.bool true) ?_
  refine eu_ <| so_ (.bool true) ?_
  exact ⟨rfl, K10⟩
theorem frac_is {x : Nat × Int} {n : Nat} {y : Int} {args : Array Value} {w : World} (h1 : x = (n, y)) (h : Calls Tryz.prog 28 args w (fun e w' => e = .returned (.tuple #[.int .u64 ((x.1 : Nat) : Int), .int .i64 x.2]) ∧ Keeps Nob w w')) : Calls Tryz.prog 28 args w (fun e w' => e = .returned (.tuple #[.int .u64 ((n : Nat) : Int), .int .i64 y]) ∧ Keeps Nob w w') := by subst h1; exact h
noncomputable def qc81_8 (n : Nat) : Code := partOf Tryz.f20 n
theorem lncut_ok (l : List Nt) (v : Value) (h : Int) (s t n : Nat) (er : Int) (hh : i64ok h) (hs : s < 18446744073709551616) (ht : t < 18446744073709551616) (hn : nfrac parDef l h s t = (n, er)) (w : World) (hl : Sl w 2 Nt.cl v l) (het : ErrTab w) :
    Calls Tryz.prog 20 #[v, .int .i64 h, .int .u64 ((s : Nat) : Int), .int .u64 ((t : Nat) : Int), .int .u64 ((n : Nat) : Int), .int .i64 er] w (fun e w' => e = .returned (.bool true) ∧ Keeps Nob w w') := by
  have K0 : Keeps Nob w w := Keeps.refl _ _
  refine sy_enter (qc81_8 1) ⟨#[v, .int .i64 h, uN s, uN t, uN n, .int .i64 er, ud, ud, ud, ud, ud, ud, ud, ud, ud, ud, ud, ud, ud, ud, ud, ud, ud, ud, ud, ud, ud, ud, ud, ud, ud, ud], []⟩ Tryz.func20 (by kernel_rfl) (by kernel_rfl) <| qr_ [0] <| pkq (.bool false) <| eqr_ [0, 1, 2, 3, 4, 5, 6, 7, 8, 9, 10] ?_
  refine pcq 53 #[] Tryz.func53 ((pDefault_ok _).mono ?_)
  rintro e V1 ⟨rfl, kV1⟩
  refine ⟨_, rfl, ?_⟩
  have h2 : Sl V1 2 Nt.cl v l := hl.keepsN kV1
  have K3 := K0.nn kV1
  have z4 := kV1.size
  refine pkq (v) <| pkq (.int .i64 h) <| pkq (uN s) <| pkq (uN t) ?_
  refine pcq 28 #[.agg parDef.cells, v, .int .i64 h, uN s, uN t] Tryz.func28 ((frac_is hn (nFrac_all parDef parDef_Ok l v h hh s t hs ht _ h2 (ErrTab.keeps het K3))).mono ?_)
  rintro e V5 ⟨rfl, kV5⟩
  refine ⟨_, rfl, ?_⟩
  have K7 := K3.nn kV5
  have z8 := kV5.size
  refine pkq (.tuple #[uN n, .int .i64 er]) <| pkq (uN n) <| pkq (.int .i64 er) <| pkq (uN n) <| pkq (.int .i64 er) <| eqr_ [0, 1, 2, 3, 4, 5, 6, 7, 8] <| pkq (uN n) <| pkq (uN n) <| ppq (.bool true) (eqt (((n : Nat) : Int)) (((n : Nat) : Int)) (by omega)) <| pkq (.bool true) <| pkq (.int .i64 er) <| pkq (.int .i64 er) <| ppq (.bool true) (eqt ((er) : Int) ((er) : Int) (by omega)) <| pkq (.bool true) ?_
  refine pkq (.bool true) <| eu_ <| so_ (.bool true) ?_
  exact ⟨rfl, K7⟩
noncomputable def qc81_4 (n : Nat) : Code := partOf Tryz.f8 n
theorem lnawake_ok (w : World) (het : ErrTab w) :
    Calls Tryz.prog 8 #[] w (fun e w' => e = .returned (.bool true) ∧ Keeps Nob w w') := by
  have K0 : Keeps Nob w w := Keeps.refl _ _
  refine sy_enter (qc81_4 1) ⟨#[ud, ud, ud, ud, ud, ud, ud, ud, ud, ud, ud, ud, ud, ud, ud, ud, ud, ud, ud], []⟩ Tryz.func8 (by kernel_rfl) (by kernel_rfl) <| qr_ [0] <| pkq (.bool false) <| eqr_ [0, 1, 2, 3, 4, 5, 6, 7, 8, 9, 10, 11, 12, 13, 14, 15, 16, 17, 18] ?_
  refine pcq 18 #[.int .i64 59, .int .i64 0, .int .i64 2] Tryz.func18 ((lnlive_a _ (ErrTab.keeps het K0)).mono ?_)
  rintro e V1 ⟨rfl, kV1⟩
  refine ⟨_, rfl, ?_⟩
  have K2 := K0.nn kV1
  have z3 := kV1.size
  refine pkq (.bool true) ?_
  refine pcq 18 #[.int .i64 60, .int .i64 1, .int .i64 2] Tryz.func18 ((lnlive_b _ (ErrTab.keeps het K2)).mono ?_)
  rintro e V4 ⟨rfl, kV4⟩
  refine ⟨_, rfl, ?_⟩
  have K5 := K2.nn kV4
  have z6 := kV4.size
  refine pkq (.bool true) <| pkq (.bool true) ?_
  refine pcq 19 #[.int .i64 59, .int .u64 300] Tryz.func19 ((lnnoted_ok 59 300 (by unfold i64ok; omega) (by decide) (by decide) _ (ErrTab.keeps het K5)).mono ?_)
  rintro e V7 ⟨rfl, kV7⟩
  refine ⟨_, rfl, ?_⟩
  have K8 := K5.nn kV7
  have z9 := kV7.size
  refine pkq (.bool true) <| pkq (.bool true) ?_
  refine pcq 20 #[.slice none 0 0, .int .i64 1, .int .u64 100, .int .u64 1000, .int .u64 350000000, .int .i64 0] Tryz.func20 ((lncut_ok [] _ 1 100 1000 350000000 0 (by unfold i64ok; omega) (by decide) (by decide) (by decide) _ (Sl.nil _ _ _) (ErrTab.keeps het K8)).mono ?_)
  rintro e V10 ⟨rfl, kV10⟩
  refine ⟨_, rfl, ?_⟩
  have K11 := K8.nn kV10
  have z12 := kV10.size
  refine pkq (.bool true) <| pkq (.bool true) ?_
  refine pcq 21 #[] Tryz.func21 ((lntwo_ok _).mono ?_)
  rintro e V13 ⟨ga, rfl, h14, nga, kV13⟩
  refine ⟨_, rfl, ?_⟩
  have K15 := K11.nn kV13
  have z16 := kV13.size
  refine pcq 20 #[.slice (some ⟨ga, 0, none⟩) 2 2, .int .i64 59, .int .u64 100, .int .u64 2000, .int .u64 650000000, .int .i64 0] Tryz.func20 ((lncut_ok ntwo _ 59 100 2000 650000000 0 (by unfold i64ok; omega) (by decide) (by decide) (by decide) _ (two_all h14) (ErrTab.keeps het K15)).mono ?_)
  rintro e V17 ⟨rfl, kV17⟩
  refine ⟨_, rfl, ?_⟩
  have K19 := K15.nn kV17
  have z20 := kV17.size
  refine pkq (.bool true) <| pkq (.bool true) ?_
  refine pcq 21 #[] Tryz.func21 ((lntwo_ok _).mono ?_)
  rintro e V21 ⟨gb, rfl, h22, ngb, kV21⟩
  refine ⟨_, rfl, ?_⟩
  have K24 := K19.nn kV21
  have z25 := kV21.size
  refine pcq 20 #[.slice (some ⟨gb, 0, none⟩) 2 2, .int .i64 59, .int .u64 100, .int .u64 1000, .int .u64 1000000000, .int .i64 0] Tryz.func20 ((lncut_ok ntwo _ 59 100 1000 1000000000 0 (by unfold i64ok; omega) (by decide) (by decide) (by decide) _ (two_all h22) (ErrTab.keeps het K24)).mono ?_)
  rintro e V26 ⟨rfl, kV26⟩
  refine ⟨_, rfl, ?_⟩
  have K29 := K24.nn kV26
  have z30 := kV26.size
  refine pkq (.bool true) <| pkq (.bool true) <| eu_ <| so_ (.bool true) ?_
  exact ⟨rfl, K29⟩
end Go.Proofs.YtghohakbepeffaaGreatDoor
namespace Go.Proofs.YtghohakbepeffaaGreatDoor
set_option maxRecDepth 100000
set_option maxHeartbeats 4000000
open Go Go.RowKit Go.Own Go.Shelf
noncomputable def qc82_0 (n : Nat) : Code := partOf Tryz.f16 n
theorem lntold_ok (va vb : Value) (l : List Nt) (er : Int) (w : World) (hmax : l.length ≤ 1000000) (hr : Row w 46 2 va l.length (l.flatMap Nt.cl)) (hb : Sl w 2 Nt.cl vb l) :
    Calls Tryz.prog 16 #[va, vb, .int .i64 er, .int .i64 er] w (fun e w' => e = .returned (.bool true) ∧ Keeps (fun j => va.ownBlock = some j) w w') := by
  have K0 : Keeps ((fun j => va.ownBlock = some j)) w w := Keeps.refl _ _
  refine sy_enter (qc82_0 1) ⟨#[va, vb, .int .i64 er, .int .i64 er, ud, ud, ud, ud, ud, ud, ud, ud, ud, ud, ud, ud, ud, ud, ud, ud, ud], []⟩ Tryz.func16 (by kernel_rfl) (by kernel_rfl) <| qr_ [0] <| pkq (.bool false) <| eqr_ [0, 1, 2, 3, 4, 5, 6, 7, 8] <| pkq (va) <| pkq (vb) ?_
  refine pcq 17 #[va, vb] Tryz.func17 ((kSameNotes_is true _ (row_nts hr) hb (decide_eq_true rfl)).mono ?_)
  rintro e V1 ⟨rfl, kV1⟩
  refine ⟨_, rfl, ?_⟩
  have h2 : Row V1 46 2 va l.length (l.flatMap Nt.cl) := hr.keeps kV1 (fun _ _ x => x)
  have K4 := K0.nn kV1
  have z5 := kV1.size
  refine pkq (.bool true) <| pkq (.int .i64 er) <| pkq (.int .i64 er) <| ppq (.bool true) (eqt ((er) : Int) ((er) : Int) (by omega)) <| pkq (.bool true) <| pkq (.bool true) <| eqr_ [0, 1] <| pkq (va) ?_
  refine pcq 52 #[va] Tryz.func52 ((kOverNotes_ok va _ _ _ h2 hmax).mono ?_)
  rintro e V6 ⟨rfl, kV6⟩
  refine ⟨_, rfl, ?_⟩
  have K7 : Keeps ((fun j => va.ownBlock = some j)) w V6 := K4.then kV6 (fun i hi hm => hm)
  have z8 := kV6.size
  refine eqr_ [0, 1] <| pkq (.bool true) <| pkq (.bool true) <| eu_ <| so_ (.bool true) ?_
  exact ⟨rfl, K7⟩
end Go.Proofs.YtghohakbepeffaaGreatDoor
namespace Go.Proofs.YtghohakbepeffaaGreatDoor
set_option maxRecDepth 100000
set_option maxHeartbeats 4000000
open Go Go.RowKit Go.Own Go.Shelf
end Go.Proofs.YtghohakbepeffaaGreatDoor
namespace Go.Proofs.YtghohakbepeffaaGreatDoor
set_option maxRecDepth 100000
set_option maxHeartbeats 4000000
open Go Go.RowKit Go.Own Go.Shelf
end Go.Proofs.YtghohakbepeffaaGreatDoor
namespace Go.Proofs.YtghohakbepeffaaGreatDoor
set_option maxRecDepth 100000
set_option maxHeartbeats 4000000
open Go Go.RowKit Go.Own
end Go.Proofs.YtghohakbepeffaaGreatDoor
namespace Go.Proofs.YtghohakbepeffaaGreatDoor
set_option maxRecDepth 100000
set_option maxHeartbeats 4000000
open Go Go.RowKit Go.Own Go.Shelf
theorem nfault_guard : Tryz.prog.eqGuardType Tryz.prog.depth 31 = false := by kernel_rfl
theorem nfault_equal (x y a b : Int) (w : World) : (Op.equalIn 10000 31 (.agg #[.int .i64 x, .int .i64 y]) (.agg #[.int .i64 a, .int .i64 b])).run Tryz.prog w = .ok (decide (x = a ∧ y = b)) w := by
  rw [run_equalIn_struct w 9999 31 _ _ (by kernel_rfl) (by kernel_rfl)]
  simp only [Program.fieldsOf, Tryz.underlying31]
  rw [nq_int (d := 9998) (k := .i64) (a := x) (b := a) w (by decide) Tryz.underlying27 (by kernel_rfl) rfl rfl, nq_int (d := 9998) (k := .i64) (a := y) (b := b) w (by decide) Tryz.underlying3 (by kernel_rfl) rfl rfl]
  simp only [Op.eqFields, Sem.run_pure]
  by_cases h0 : x = a
  · by_cases h1 : y = b <;> simp [h0, h1]
  · simp [h0]
theorem nfault_eq (x y a b : Int) (w : World) : (binOp .eql 31 (.agg #[.int .i64 x, .int .i64 y]) (.agg #[.int .i64 a, .int .i64 b])).run Tryz.prog w = .ok (.bool (decide (x = a ∧ y = b))) w := by rw [run_eql_struct, nfault_equal]; rfl
theorem nsame_bytes {w : World} {a b : Value} {l m : List UInt8} (r : Bool) (ha : BytesAt w a l) (hb : BytesAt w b m) (he : (l == m) = r) : Calls Tryz.prog 15 #[a, b] w fun e w' => e = .returned (.bool r) ∧ w = w' := he ▸ sameBytes_ok a b l m w ha hb
theorem nbytes_is2 {l : List Nt} {bs : List UInt8} {er : Int} {args : Array Value} {w : World} (h1 : nbytes l = (bs, er)) (h : Calls Tryz.prog 11 args w (fun e w' => ∃ X, e = .returned (.tuple #[X, .int .i64 (nbytes l).2]) ∧ Row w' 5 1 X (nbytes l).1.length (B (nbytes l).1) ∧ NewFrom w.heap.size X ∧ Keeps Nob w w')) : Calls Tryz.prog 11 args w (fun e w' => ∃ X, e = .returned (.tuple #[X, .int .i64 er]) ∧ Row w' 5 1 X bs.length (B bs) ∧ NewFrom w.heap.size X ∧ Keeps Nob w w') := by rw [h1] at h; exact h
end Go.Proofs.YtghohakbepeffaaGreatDoor
namespace Go.Proofs.YtghohakbepeffaaGreatDoor
set_option maxRecDepth 100000
set_option maxHeartbeats 4000000
open Go Go.RowKit Go.Own Go.Shelf
end Go.Proofs.YtghohakbepeffaaGreatDoor
namespace Go.Proofs.YtghohakbepeffaaGreatDoor
set_option maxRecDepth 100000
set_option maxHeartbeats 4000000
open Go Go.RowKit Go.Own Go.Shelf
end Go.Proofs.YtghohakbepeffaaGreatDoor
namespace Go.Proofs.YtghohakbepeffaaGreatDoor
set_option maxRecDepth 100000
set_option maxHeartbeats 4000000
open Go Go.RowKit Go.Own Go.Shelf
theorem nread_to {l : List UInt8} {q : List Nt} {fe fp : Int} {args : Array Value} {w : World} (h1 : nread l = (q, fe, fp)) (h : Calls Tryz.prog 13 args w (fun e w' => ∃ X, e = .returned (.tuple #[X, .agg #[.int .i64 (nread l).2.1, .int .i64 (nread l).2.2]]) ∧ Row w' 46 2 X (nread l).1.length ((nread l).1.flatMap Nt.cl) ∧ NewFrom w.heap.size X ∧ Keeps Nob w w')) : Calls Tryz.prog 13 args w (fun e w' => ∃ X, e = .returned (.tuple #[X, .agg #[.int .i64 fe, .int .i64 fp]]) ∧ Row w' 46 2 X q.length (q.flatMap Nt.cl) ∧ NewFrom w.heap.size X ∧ Keeps Nob w w') := by rw [h1] at h; exact h
theorem bytes_same (b : List UInt8) : (b == b) = true := beq_self_eq_true b
theorem bytes_len {w : World} {v : Value} {l : List UInt8} (h : BytesAt w v l) : l.length ≤ 9223372036854775807 := by
  obtain ⟨A, c, e, a1, a2, a3⟩ := h.form
  unfold maxLen at a2; omega
theorem nexec_len_bytes {P : Program} {o : Oper} {ρ : Operand → Value} {w w0 : World} (x : Operand) (t e : TypeId) (ho : o.op = .call { callee := .builtin .len, args := #[x], argTypes := #[t] }) (ht : P.underlying t = some (.slice e)) {v : Value} (hx : ρ x = v) {l : List UInt8} (hv : BytesAt w0 v l) :
    (execOp ρ o).run P w = .ok (.value (.int .i64 (l.length : Int))) w := by
  obtain ⟨A, cap, rfl, _⟩ := hv.form
  exact exec_len x t e ho ht A l.length cap hx
end Go.Proofs.YtghohakbepeffaaGreatDoor
namespace Go.Proofs.YtghohakbepeffaaGreatDoor
set_option maxRecDepth 100000
set_option maxHeartbeats 4000000
open Go Go.RowKit Go.Own Go.Shelf
theorem r23bytes_is {l : List Nt} {bs : List UInt8} {er : Int} {args : Array Value} {w : World} (h1 : nbytes l = (bs, er)) (h : Calls Tryz.prog 12 args w (fun e w' => ∃ X, e = .returned (.tuple #[X, .int .i64 (nbytes l).2]) ∧ Row w' 5 1 X (nbytes l).1.length (B (nbytes l).1) ∧ NewFrom w.heap.size X ∧ Keeps Nob w w')) : Calls Tryz.prog 12 args w (fun e w' => ∃ X, e = .returned (.tuple #[X, .int .i64 er]) ∧ Row w' 5 1 X bs.length (B bs) ∧ NewFrom w.heap.size X ∧ Keeps Nob w w') := by rw [h1] at h; exact h
theorem r23read_to {l : List UInt8} {q : List Nt} {fe fp : Int} {args : Array Value} {w : World} (h1 : nread l = (q, fe, fp)) (h : Calls Tryz.prog 14 args w (fun e w' => ∃ X, e = .returned (.tuple #[X, .agg #[.int .i64 (nread l).2.1, .int .i64 (nread l).2.2]]) ∧ Row w' 46 2 X (nread l).1.length ((nread l).1.flatMap Nt.cl) ∧ NewFrom w.heap.size X ∧ Keeps Nob w w')) : Calls Tryz.prog 14 args w (fun e w' => ∃ X, e = .returned (.tuple #[X, .agg #[.int .i64 fe, .int .i64 fp]]) ∧ Row w' 46 2 X q.length (q.flatMap Nt.cl) ∧ NewFrom w.heap.size X ∧ Keeps Nob w w') := by rw [h1] at h; exact h
theorem nrgo_len : ∀ (m : Nat) (out : List Nt) (l : List UInt8) (s : RS), (nrgo m out l s).1.length = out.length + m
  | 0, _, _, _ => rfl
  | m + 1, out, l, s => by rw [nrgo, nrgo_len m, List.length_append, List.length_singleton]; omega
theorem nread_len {l : List UInt8} {q : List Nt} {fe fp : Int} (h : nread l = (q, fe, fp)) : q.length ≤ 64 := by
  have h1 : (nres l).1.length ≤ 64 := by
    unfold nres; rw [nrgo_len]; have := nrN_le l; simp; omega
  unfold nread at h
  split at h
  · have e := congrArg Prod.fst h; simp only at e; rw [← e]; exact h1
  · have e := congrArg Prod.fst h; simp only at e; rw [← e]; exact Nat.zero_le _
noncomputable def qc90_0 (n : Nat) : Code := partOf Tryz.f3 n
theorem bytes_long1 (v0 v1 : Value) (l : List Nt) (b : List UInt8) (w : World) (hl : Sl w 2 Nt.cl v0 l) (hx : BytesAt w v1 b) (het : ErrTab w) (g1 : 70 < l.length) :
    Calls Tryz.prog 3 #[v0, v1] w (fun e w' => e = .returned (.bool true) ∧ Keeps Nob w w') := by
  have hln := Sl.len_le hl
  have hlb := bytes_len hx
  have K0 : Keeps Nob w w := Keeps.refl _ _
  refine sy_enter (qc90_0 1) ⟨#[v0, v1, ud, ud, ud, ud, ud, ud, ud, ud, ud, ud, ud, ud, ud, ud, ud, ud, ud, ud, ud, ud, ud, ud, ud, ud, ud, ud, ud, ud, ud, ud, ud, ud, ud, ud, ud, ud, ud, ud, ud, ud, ud, ud, ud, ud, ud, ud, ud, ud, ud, ud, ud, ud, ud, ud, ud, ud, ud, ud, ud, ud, ud, ud, ud, ud, ud, ud, ud, ud, ud, ud, ud, ud, ud, ud, ud, ud, ud], []⟩ Tryz.func3 (by kernel_rfl) (by kernel_rfl) <| qr_ [0] <| pkq (.bool false) <| eq_ <| qr_ [0, 1, 2, 3, 4, 5, 6, 7] <| pkq (v0) <| ppq (iN l.length) (exec_len_sl (.tmp 15) 22 46 (by kernel_rfl) Tryz.underlying22 (by kernel_rfl) hl) <| ppq (.bool true) (dct ((((l.length : Nat) : Int)) > ((70) : Int)) (by omega)) <| pkq (.bool true) <| pnq <| pnq <| pnq <| pkq (.bool true) <| ey_ ?_
  refine qr_ [0, 1] ?_
  refine pcq 8 #[] Tryz.func8 ((lnawake_ok _ het).mono ?_)
  rintro e V1 ⟨rfl, kV1⟩
  refine ⟨_, rfl, ?_⟩
  have K2 := K0.nn kV1
  have z3 := kV1.size
  refine pkq (.bool true) <| eu_ <| then_r <| so_ (.bool true) ?_
  exact ⟨rfl, K2⟩
theorem bytes_long2 (v0 v1 : Value) (l : List Nt) (b : List UInt8) (w : World) (hl : Sl w 2 Nt.cl v0 l) (hx : BytesAt w v1 b) (het : ErrTab w) (g1 : ¬ 70 < l.length) (g2 : 600 < b.length) :
    Calls Tryz.prog 3 #[v0, v1] w (fun e w' => e = .returned (.bool true) ∧ Keeps Nob w w') := by
  have hln := Sl.len_le hl
  have hlb := bytes_len hx
  have K0 : Keeps Nob w w := Keeps.refl _ _
  refine sy_enter (qc90_0 1) ⟨#[v0, v1, ud, ud, ud, ud, ud, ud, ud, ud, ud, ud, ud, ud, ud, ud, ud, ud, ud, ud, ud, ud, ud, ud, ud, ud, ud, ud, ud, ud, ud, ud, ud, ud, ud, ud, ud, ud, ud, ud, ud, ud, ud, ud, ud, ud, ud, ud, ud, ud, ud, ud, ud, ud, ud, ud, ud, ud, ud, ud, ud, ud, ud, ud, ud, ud, ud, ud, ud, ud, ud, ud, ud, ud, ud, ud, ud, ud, ud], []⟩ Tryz.func3 (by kernel_rfl) (by kernel_rfl) <| qr_ [0] <| pkq (.bool false) <| eq_ <| qr_ [0, 1, 2, 3, 4, 5, 6, 7] <| pkq (v0) <| ppq (iN l.length) (exec_len_sl (.tmp 15) 22 46 (by kernel_rfl) Tryz.underlying22 (by kernel_rfl) hl) <| ppq (.bool false) (dcf ((((l.length : Nat) : Int)) > ((70) : Int)) (by omega)) <| pkq (.bool false) <| pkq (v1) <| ppq (iN b.length) (nexec_len_bytes (.tmp 19) 23 5 (by kernel_rfl) Tryz.underlying23 (by kernel_rfl) hx) <| ppq (.bool true) (dct ((((b.length : Nat) : Int)) > ((600) : Int)) (by omega)) <| pkq (.bool true) <| ey_ ?_
  refine qr_ [0, 1] ?_
  refine pcq 8 #[] Tryz.func8 ((lnawake_ok _ het).mono ?_)
  rintro e V1 ⟨rfl, kV1⟩
  refine ⟨_, rfl, ?_⟩
  have K2 := K0.nn kV1
  have z3 := kV1.size
  refine pkq (.bool true) <| eu_ <| then_r <| so_ (.bool true) ?_
  exact ⟨rfl, K2⟩
theorem bytes_short (v0 v1 : Value) (l : List Nt) (b : List UInt8) (w : World) (hl : Sl w 2 Nt.cl v0 l) (hx : BytesAt w v1 b) (het : ErrTab w) (g1 : ¬ 70 < l.length) (g2 : ¬ 600 < b.length) :
    Calls Tryz.prog 3 #[v0, v1] w (fun e w' => e = .returned (.bool true) ∧ Keeps Nob w w') := by
  have hln := Sl.len_le hl
  have hlb := bytes_len hx
  obtain ⟨bs, er, hby⟩ : ∃ bs er, nbytes l = (bs, er) := ⟨_, _, rfl⟩
  obtain ⟨q, fe, fp, hrd⟩ : ∃ q fe fp, nread b = (q, fe, fp) := ⟨_, _, _, rfl⟩
  have hq64 := nread_len hrd
  have K0 : Keeps Nob w w := Keeps.refl _ _
  refine sy_enter (qc90_0 1) ⟨#[v0, v1, ud, ud, ud, ud, ud, ud, ud, ud, ud, ud, ud, ud, ud, ud, ud, ud, ud, ud, ud, ud, ud, ud, ud, ud, ud, ud, ud, ud, ud, ud, ud, ud, ud, ud, ud, ud, ud, ud, ud, ud, ud, ud, ud, ud, ud, ud, ud, ud, ud, ud, ud, ud, ud, ud, ud, ud, ud, ud, ud, ud, ud, ud, ud, ud, ud, ud, ud, ud, ud, ud, ud, ud, ud, ud, ud, ud, ud], []⟩ Tryz.func3 (by kernel_rfl) (by kernel_rfl) <| qr_ [0] <| pkq (.bool false) <| eq_ <| qr_ [0, 1, 2, 3, 4, 5, 6, 7] <| pkq (v0) <| ppq (iN l.length) (exec_len_sl (.tmp 15) 22 46 (by kernel_rfl) Tryz.underlying22 (by kernel_rfl) hl) <| ppq (.bool false) (dcf ((((l.length : Nat) : Int)) > ((70) : Int)) (by omega)) <| pkq (.bool false) <| pkq (v1) <| ppq (iN b.length) (nexec_len_bytes (.tmp 19) 23 5 (by kernel_rfl) Tryz.underlying23 (by kernel_rfl) hx) <| ppq (.bool false) (dcf ((((b.length : Nat) : Int)) > ((600) : Int)) (by omega)) <| pkq (.bool false) <| en_ ?_
  refine s_ <| tqr_ [0, 1, 2, 3, 4, 5] <| pkq (v0) ?_
  refine pcq 9 #[v0] Tryz.func9 ((kCopyNotes_ok v0 l _ hl (by omega)).mono ?_)
  rintro e V1 ⟨I, rfl, hI, hIn, kV1⟩
  refine ⟨_, rfl, ?_⟩
  have K2 := K0.nn kV1
  have z3 := kV1.size
  refine pkq (v1) ?_
  refine pcq 10 #[v1] Tryz.func10 ((copyBytes_ok v1 b _ (hx.keepsN K2) (by omega)).mono ?_)
  rintro e V4 ⟨R, rfl, hR, hRn, -, kV4⟩
  refine ⟨_, rfl, ?_⟩
  have h5 : Sl V4 2 Nt.cl I l := (row_nts hI).keepsN kV4
  have K6 := K2.nn kV4
  have z7 := kV4.size
  refine pkq (I) <| pkq (R) <| eqr_ [0, 1, 2, 3, 4, 5, 6] <| pkq (I) ?_
  refine pcq 11 #[I] Tryz.func11 ((nbytes_is2 hby (nBytes_all l I _ h5 (ErrTab.keeps het K6))).mono ?_)
  rintro e V8 ⟨X, rfl, hX, hXn, kV8⟩
  refine ⟨_, rfl, ?_⟩
  have h9 : Sl V8 2 Nt.cl I l := h5.keepsN kV8
  have h10 : Row V8 5 1 R (b).length (B (b)) := hR.keeps kV8 (fun _ _ x => x)
  have K11 := K6.nn kV8
  have z12 := kV8.size
  refine pkq (.tuple #[X, .int .i64 er]) <| pkq (X) <| pkq (.int .i64 er) <| pkq (X) <| pkq (.int .i64 er) <| eqr_ [0, 1, 2, 3, 4, 5, 6] <| pkq (v0) ?_
  refine pcq 12 #[v0] Tryz.func12 ((r23bytes_is hby (r23Bytes_all l v0 _ (hl.keepsN K11))).mono ?_)
  rintro e V13 ⟨Y, rfl, hY, hYn, kV13⟩
  refine ⟨_, rfl, ?_⟩
  have h14 : Sl V13 2 Nt.cl I l := h9.keepsN kV13
  have h15 : Row V13 5 1 R (b).length (B (b)) := h10.keeps kV13 (fun _ _ x => x)
  have h16 : Row V13 5 1 X (bs).length (B (bs)) := hX.keeps kV13 (fun _ _ x => x)
  have K17 := K11.nn kV13
  have z18 := kV13.size
  refine pkq (.tuple #[Y, .int .i64 er]) <| pkq (Y) <| pkq (.int .i64 er) <| pkq (Y) <| pkq (.int .i64 er) <| ps_end <| sy_a ⟨#[v0, v1, ud, ud, .bool false, I, R, X, .int .i64 er, Y, .int .i64 er, ud, ud, ud, ud, v0, iN l.length, .bool false, .bool false, v1, iN b.length, .bool false, .bool false, ud, v0, I, v1, R, .tuple #[X, .int .i64 er], I, .tuple #[X, .int .i64 er], X, .int .i64 er, .tuple #[Y, .int .i64 er], v0, .tuple #[Y, .int .i64 er], Y, .int .i64 er, ud, ud, ud, ud, ud, ud, ud, ud, ud, ud, ud, ud, ud, ud, ud, ud, ud, ud, ud, ud, ud, ud, ud, ud, ud, ud, ud, ud, ud, ud, ud, ud, ud, ud, ud, ud, ud, ud, ud, ud, ud], []⟩ <| tqr_ [0, 1, 2, 3, 4, 5, 6, 7] <| pkq (R) ?_
  refine pcq 13 #[R] Tryz.func13 ((nread_to hrd (nRead_ok R b _ (Row.bytes h15) (by omega))).mono ?_)
  rintro e V19 ⟨P, rfl, hP, hPn, kV19⟩
  refine ⟨_, rfl, ?_⟩
  have h20 : Sl V19 2 Nt.cl I l := h14.keepsN kV19
  have h21 : Row V19 5 1 R (b).length (B (b)) := h15.keeps kV19 (fun _ _ x => x)
  have h22 : Row V19 5 1 X (bs).length (B (bs)) := h16.keeps kV19 (fun _ _ x => x)
  have h23 : Row V19 5 1 Y (bs).length (B (bs)) := hY.keeps kV19 (fun _ _ x => x)
  have K24 := K17.nn kV19
  have z25 := kV19.size
  refine pkq (.tuple #[P, .agg #[.int .i64 fe, .int .i64 fp]]) <| pkq (P) <| pkq (.agg #[.int .i64 fe, .int .i64 fp]) <| pal 31 (#[.int .i64 0, .int .i64 0]) (.agg (#[.int .i64 0, .int .i64 0])) fun V26 gf egf h27 kV26 => ?_
  have n28 : w.heap.size ≤ gf := egf ▸ K24.size
  have h29 : Sl V26 2 Nt.cl I l := h20.keepsN kV26
  have h30 : Row V26 5 1 R (b).length (B (b)) := h21.keeps kV26 (fun _ _ x => x)
  have h31 : Row V26 5 1 X (bs).length (B (bs)) := h22.keeps kV26 (fun _ _ x => x)
  have h32 : Row V26 5 1 Y (bs).length (B (bs)) := h23.keeps kV26 (fun _ _ x => x)
  have h33 : Row V26 46 2 P q.length (q.flatMap Nt.cl) := hP.keeps kV26 (fun _ _ x => x)
  have K34 := K24.nn kV26
  have z35 := kV26.size
  refine pkq (P) <| pst 31 gf (#[.int .i64 fe, .int .i64 fp]) h27 (by kernel_rfl) rfl (by kernel_rfl) fun V36 h37 kV36 => ?_
  have h38 : Sl V36 2 Nt.cl I l := Sl.keepsB (row_nts hI) h29 kV36 (fun j e => by unfold Own.One at e; omega)
  have h39 : Row V36 5 1 R (b).length (B (b)) := h30.keeps kV36 (fun j hj e => by have := hR.lt hj; unfold Own.One at e; omega)
  have h40 : Row V36 5 1 X (bs).length (B (bs)) := h31.keeps kV36 (fun j hj e => by have := hX.lt hj; unfold Own.One at e; omega)
  have h41 : Row V36 5 1 Y (bs).length (B (bs)) := h32.keeps kV36 (fun j hj e => by have := hY.lt hj; unfold Own.One at e; omega)
  have h42 : Row V36 46 2 P q.length (q.flatMap Nt.cl) := h33.keeps kV36 (fun j hj e => by have := hP.lt hj; unfold Own.One at e; omega)
  have K43 := K34.nO kV36
  have z44 := kV36.size
  refine eqr_ [0, 1, 2, 3, 4, 5, 6, 7] <| pkq (v1) ?_
  refine pcq 14 #[v1] Tryz.func14 ((r23read_to hrd (r23Read_ok v1 b _ (hx.keepsN K43) (by omega))).mono ?_)
  rintro e V45 ⟨Q, rfl, hQ, hQn, kV45⟩
  refine ⟨_, rfl, ?_⟩
  have h46 : Sl V45 2 Nt.cl I l := h38.keepsN kV45
  have h47 : Row V45 5 1 R (b).length (B (b)) := h39.keeps kV45 (fun _ _ x => x)
  have h48 : Row V45 5 1 X (bs).length (B (bs)) := h40.keeps kV45 (fun _ _ x => x)
  have h49 : Row V45 5 1 Y (bs).length (B (bs)) := h41.keeps kV45 (fun _ _ x => x)
  have h50 : Row V45 46 2 P q.length (q.flatMap Nt.cl) := h42.keeps kV45 (fun _ _ x => x)
  have h51 := kV45.bk h37
  have K52 := K43.nn kV45
  have z53 := kV45.size
  refine pkq (.tuple #[Q, .agg #[.int .i64 fe, .int .i64 fp]]) <| pkq (Q) <| pkq (.agg #[.int .i64 fe, .int .i64 fp]) <| pal 31 (#[.int .i64 0, .int .i64 0]) (.agg (#[.int .i64 0, .int .i64 0])) fun V54 gf2 egf2 h55 kV54 => ?_
  have n56 : gf < gf2 := egf2 ▸ lt_of_block h51
  have n57 : w.heap.size ≤ gf2 := egf2 ▸ K52.size
  have h58 : Sl V54 2 Nt.cl I l := h46.keepsN kV54
  have h59 : Row V54 5 1 R (b).length (B (b)) := h47.keeps kV54 (fun _ _ x => x)
  have h60 : Row V54 5 1 X (bs).length (B (bs)) := h48.keeps kV54 (fun _ _ x => x)
  have h61 : Row V54 5 1 Y (bs).length (B (bs)) := h49.keeps kV54 (fun _ _ x => x)
  have h62 : Row V54 46 2 P q.length (q.flatMap Nt.cl) := h50.keeps kV54 (fun _ _ x => x)
  have h63 := kV54.bk h51
  have h64 : Row V54 46 2 Q q.length (q.flatMap Nt.cl) := hQ.keeps kV54 (fun _ _ x => x)
  have K65 := K52.nn kV54
  have z66 := kV54.size
  refine pkq (Q) <| pst 31 gf2 (#[.int .i64 fe, .int .i64 fp]) h55 (by kernel_rfl) rfl (by kernel_rfl) fun V67 h68 kV67 => ?_
  have h69 : Sl V67 2 Nt.cl I l := Sl.keepsB (row_nts hI) h58 kV67 (fun j e => by unfold Own.One at e; omega)
  have h70 : Row V67 5 1 R (b).length (B (b)) := h59.keeps kV67 (fun j hj e => by have := hR.lt hj; unfold Own.One at e; omega)
  have h71 : Row V67 5 1 X (bs).length (B (bs)) := h60.keeps kV67 (fun j hj e => by have := hX.lt hj; unfold Own.One at e; omega)
  have h72 : Row V67 5 1 Y (bs).length (B (bs)) := h61.keeps kV67 (fun j hj e => by have := hY.lt hj; unfold Own.One at e; omega)
  have h73 : Row V67 46 2 P q.length (q.flatMap Nt.cl) := h62.keeps kV67 (fun j hj e => by have := hP.lt hj; unfold Own.One at e; omega)
  have h74 := kV67.bO h63
  have h75 : Row V67 46 2 Q q.length (q.flatMap Nt.cl) := h64.keeps kV67 (fun j hj e => by have := hQ.lt hj; unfold Own.One at e; omega)
  have K76 := K65.nO kV67
  have z77 := kV67.size
  refine eqr_ [0, 1, 2, 3, 4, 5, 6, 7, 8, 9, 10, 11, 12, 13, 14, 15, 16, 17, 18, 19, 20, 21, 22, 23, 24, 25, 26, 27, 28, 29, 30, 31] <| pkq (X) <| pkq (Y) ?_
  refine pcq 15 #[X, Y] Tryz.func15 ((nsame_bytes true (Row.bytes h71) (Row.bytes h72) (bytes_same bs)).mono ?_)
  rintro e w1 ⟨rfl, rfl⟩
  refine ⟨_, rfl, ?_⟩
  refine pkq (.bool true) <| pkq (.int .i64 er) <| pkq (.int .i64 er) <| ppq (.bool true) (eqt ((er) : Int) ((er) : Int) (by omega)) <| pkq (.bool true) <| pkq (.bool true) <| ppq (.agg #[.int .i64 fe, .int .i64 fp]) (ldr 31 gf (h74) (by kernel_rfl)) <| ppq (.agg #[.int .i64 fe, .int .i64 fp]) (ldr 31 gf2 (h68) (by kernel_rfl)) <| ppq (.bool true) (exec_cast (congrArg Value.bool (decide_eq_true ⟨rfl, rfl⟩)) (exec_binop .eql 31 31 (.tmp 57) (.tmp 58) (by kernel_rfl) (.agg #[.int .i64 fe, .int .i64 fp]) (.agg #[.int .i64 fe, .int .i64 fp]) _ (by kernel_rfl) (by kernel_rfl) (run_eqGuard_agg _ _ _ _ _ _ _ nfault_guard) (nfault_eq _ _ _ _ _))) <| pkq (.bool true) <| pkq (.bool true) <| pkq (P) <| pkq (Q) ?_
  refine pcq 16 #[P, Q, .int .i64 0, .int .i64 0] Tryz.func16 ((lntold_ok P Q q 0 _ (by omega) h73 (row_nts h75)).mono ?_)
  rintro e V78 ⟨rfl, kV78⟩
  refine ⟨_, rfl, ?_⟩
  have h79 : Sl V78 2 Nt.cl I l := Sl.keepsB (row_nts hI) h69 kV78 (fun j e => by have := hPn j e; omega)
  have h80 : Row V78 5 1 R (b).length (B (b)) := h70.keeps kV78 (fun j hj e => by have := hR.lt hj; have := hPn j e; omega)
  have K81 : Keeps Nob w V78 := K76.then kV78 (fun i hi hm => absurd hi (by have := hPn i hm; omega))
  have z82 := kV78.size
  refine pkq (.bool true) <| pkq (.bool true) <| pkq (I) <| pkq (v0) ?_
  refine pcq 17 #[I, v0] Tryz.func17 ((kSameNotes_is true _ h79 (hl.keepsN K81) (decide_eq_true rfl)).mono ?_)
  rintro e V83 ⟨rfl, kV83⟩
  refine ⟨_, rfl, ?_⟩
  have h85 : Row V83 5 1 R (b).length (B (b)) := h80.keeps kV83 (fun _ _ x => x)
  have K86 := K81.nn kV83
  have z87 := kV83.size
  refine pkq (.bool true) <| pkq (.bool true) <| pkq (R) <| pkq (v1) ?_
  refine pcq 15 #[R, v1] Tryz.func15 ((nsame_bytes true (Row.bytes h85) (hx.keepsN K86) (bytes_same b)).mono ?_)
  rintro e w1 ⟨rfl, rfl⟩
  refine ⟨_, rfl, ?_⟩
  refine pkq (.bool true) <| pkq (.bool true) ?_
  refine pcq 8 #[] Tryz.func8 ((lnawake_ok _ (ErrTab.keeps het K86)).mono ?_)
  rintro e V88 ⟨rfl, kV88⟩
  refine ⟨_, rfl, ?_⟩
  have K91 := K86.nn kV88
  have z92 := kV88.size
  refine pkq (.bool true) <| pkq (.bool true) <| ps_end <| sy_a ⟨#[v0, v1, ud, ud, .bool true, I, R, X, .int .i64 er, Y, .int .i64 er, P, pT gf 0, Q, pT gf2 0, v0, iN l.length, .bool false, .bool false, v1, iN b.length, .bool false, .bool false, ud, v0, I, v1, R, .tuple #[X, .int .i64 er], I, .tuple #[X, .int .i64 er], X, .int .i64 er, .tuple #[Y, .int .i64 er], v0, .tuple #[Y, .int .i64 er], Y, .int .i64 er, .tuple #[P, .agg #[.int .i64 fe, .int .i64 fp]], R, .tuple #[P, .agg #[.int .i64 fe, .int .i64 fp]], P, .agg #[.int .i64 fe, .int .i64 fp], .tuple #[Q, .agg #[.int .i64 fe, .int .i64 fp]], v1, .tuple #[Q, .agg #[.int .i64 fe, .int .i64 fp]], Q, .agg #[.int .i64 fe, .int .i64 fp], X, Y, .bool true, .bool true, .int .i64 er, .int .i64 er, .bool true, .bool true, .bool true, .agg #[.int .i64 fe, .int .i64 fp], .agg #[.int .i64 fe, .int .i64 fp], .bool true, .bool true, .bool true, P, Q, .bool true, .bool true, .bool true, I, v0, .bool true, .bool true, .bool true, R, v1, .bool true, .bool true, .bool true, .bool true, .bool true], []⟩ <| then_n <| u_ <| so_ (.bool true) ?_
  exact ⟨rfl, K91⟩
theorem bytes_all (v0 : Value) (l : List Nt) (v1 : Value) (b : List UInt8) (w : World) (hl : Sl w 2 Nt.cl v0 l ∧ ∀ x ∈ l, x.Ok) (hx : BytesAt w v1 b) (het : ErrTab w) : Calls Tryz.prog 3 #[v0, v1] w (fun e w' => e = .returned (.bool true) ∧ Keeps Nob w w') := by
  by_cases g1 : 70 < l.length
  · exact bytes_long1 v0 v1 l b w hl.1 hx het g1
  · by_cases g2 : 600 < b.length
    · exact bytes_long2 v0 v1 l b w hl.1 hx het g1 g2
    · exact bytes_short v0 v1 l b w hl.1 hx het g1 g2
end Go.Proofs.YtghohakbepeffaaGreatDoor
namespace Go.Proofs.YtghohakbepeffaaGreatDoor.penaltyBytes
open Go.ChangeShapes Go.WideShapes Go.ChangeAt Go.RowKit Go.Own
open Go.ChangeMaps (open_string shut_string)
theorem own : ownKnob Tryz.prog.godebug = none := by kernel_rfl
theorem laid : laidOutB Tryz.prog = true := by kernel_rfl
set_option maxRecDepth 100000 in
theorem lifted (os : Os) (started : os.Started) (H : Type) (enc : TypeId × Value → H) :
    ReturnsInHanded {} Tryz.checked os 3 .any (fun w args => (Rows.penaltyBytesSpec.pre enc Tryz.prog Tryz.f3 Rows.penaltyBytesRow.domain false w args ∧ laidMetH Tryz.prog Rows.penaltyBytesRow.laid w) ∧ sizedMet enc Tryz.prog Tryz.f3 (OpenSpec.ofChange Rows.penaltyBytesSpec) false w args)
      (Rows.penaltyBytesSpec.post enc Tryz.prog Tryz.f3 false true false false) := by
  refine returnsInHanded_of_change_and (C := Tryz.checked) (X := fun w _ => laidMetH Tryz.prog Rows.penaltyBytesRow.laid w) (fun _ _ _ hh h => h.of_heap hh) own started (by kernel_rfl) Tryz.func3
    (ChangeSpec.witness_at (enc := enc) (C := Tryz.checked) (os := os) (X := fun w _ => laidMetH Tryz.prog Rows.penaltyBytesRow.laid w) false (laidWorld os) #[.slice none 0 0, .slice none 0 0] 8 rfl (by kernel_rfl) (by kernel_rfl) (by kernel_rfl) (by kernel_rfl) (by kernel_rfl) (laidWorld_met os _)) ?_
  intro W base args ds gs before hval0 hW hcnd _ hL hsz0
  have hval : ∀ (j : Nat) t v, Tryz.f3.params[j]? = some t → args[j]? = some v → Value.okWide Tryz.prog W .any base t v := hval0
  have hW' := hW
  obtain ⟨p, q, hA0, hV, rfl, hfz, hnd⟩ := hW
  have hA : DataW.TrodAll enc Tryz.prog W 0 (fun _ => true) true Tryz.f3.params.toList args.toList ds p := hA0
  rw [Tryz.params3] at hA hval
  obtain ⟨v0, vs0, d0, ds0, p0, q0, hargs, rfl, rfl, h0, r0⟩ := trodAll_cons hA
  obtain ⟨v1, vs1, d1, ds1, p1, q1, rfl, rfl, rfl, h1, r1⟩ := trodAll_cons r0
  obtain ⟨rfl, rfl, rfl⟩ := trodAll_nil r1
  obtain rfl : args = #[v0, v1] := by cases args; simp_all
  obtain ⟨rfl, rfl⟩ := trodVars_none hV
  obtain ⟨l0, hl0⟩ := open_notes h0 (okWide_slice Tryz.underlying22 (hval 0 22 v0 rfl rfl))
  obtain ⟨l1, hl1⟩ := open_bytesAt Tryz.underlying23 Tryz.underlying5 (by kernel_rfl) h1 (okWide_slice Tryz.underlying23 (hval 1 23 v1 rfl rfl))
  clear hA0 hval0
  refine (bytes_all v0 l0 v1 l1 W hl0 hl1 (err_tab hL)).mono fun e W' ⟨he, hg⟩ => ?_
  subst he
  exact ⟨_, rfl, law_post laid (by kernel_rfl) rfl Tryz.underlying4 rfl rfl hW' (hg.below (Nat.le_refl _) (fun _ _ x => x))⟩
theorem row : Rows.PenaltyBytesSaid :=
  OpenClaim.holds_of_wide 3 Tryz.f3 rfl rfl rfl rfl rfl rfl rfl ⟨rfl, rfl, rfl, rfl, rfl⟩ rfl rfl rfl rfl rfl (by kernel_rfl) Tryz.func3 (by kernel_rfl)
    (of_decide_eq_true (by kernel_rfl)) (by unfold Func.isWrapper; first | (rw [if_pos (by decide +kernel)]; kernel_rfl) | (rw [if_neg (by decide +kernel)]; exact ⟨rfl, rfl⟩))
    (fun os started H enc _ => lifted os started H enc)
theorem proved : Rows.PenaltyBytesCardSaid :=
  Claim7.holds_tied_plain_at .later [] Rows.penaltyBytesCard.laidKinds true Rows.penaltyBytesCard.stood.harness Rows.penaltyBytesCard.stood.looks row (fun _ h => by cases h) (by kernel_rfl) (fun _ h => by cases h) penaltyBytes_row_tie rfl ⟨rfl, rfl⟩ (by kernel_rfl) rfl
    (fun f fn hf hfn => by
      obtain rfl : f = 3 := Option.some.inj ((show Tryz.prog.funcNamed Rows.penaltyBytesRow.func = some 3 by kernel_rfl).symm.trans hf) |>.symm
      obtain rfl : fn = Tryz.f3 := (Option.some.inj (Tryz.func3.symm.trans hfn)).symm
      exact ⟨by kernel_rfl, fun j t ht => by
        have hall : (Tryz.f3.params.toList.all fun u => !Tryz.prog.wantsStandIn u) = true := by kernel_rfl
        exact (show Tryz.prog.wantsStandIn t = false by simpa using List.all_eq_true.1 hall t (by simpa using Array.mem_of_getElem? ht))⟩)
    (by kernel_rfl)
end Go.Proofs.YtghohakbepeffaaGreatDoor.penaltyBytes
