import Derived.Test.YtghohakbepeffaaGreatDoorPenaltyBytesP4
namespace Go.Proofs.YtghohakbepeffaaGreatDoor
set_option maxRecDepth 100000
set_option maxHeartbeats 4000000
open Go Go.RowKit Go.Own Go.Shelf
def nb1 (x : Nt) : List UInt8 := Cod.enc x.h.toNat ++ Cod.enc x.s
/-- The bytes of notes. -/
def nby (l : List Nt) : List UInt8 := Cod.enc l.length ++ l.flatMap nb1
def nbi (l : List Nt) (i : Nat) : List UInt8 := Cod.enc l.length ++ (l.take i).flatMap nb1
def nbytes (l : List Nt) : List UInt8 × Int := if (ncheck l).1 ≠ 0 then ([], (ncheck l).1) else (nby l, 0)
theorem nbi_0 (l : List Nt) : nbi l 0 = Cod.enc l.length := by simp [nbi]
theorem nbi_all (l : List Nt) : nbi l l.length = nby l := by unfold nbi nby; rw [List.take_length]
theorem nbi_succ {l : List Nt} {i : Nat} {x : Nt} (h : l[i]? = some x) : nbi l (i + 1) = (nbi l i ++ Cod.enc x.h.toNat) ++ Cod.enc x.s := by
  unfold nbi; rw [List.take_add_one, h]; simp [nb1]
theorem nbi_le (l : List Nt) (i : Nat) : (nbi l i).length ≤ 10 + 20 * i := by
  have h0 := Cod.enc_length l.length
  induction i with
  | zero => rw [nbi_0]; omega
  | succ i ih =>
    cases h : l[i]? with
    | none =>
      have : nbi l (i + 1) = nbi l i := by unfold nbi; rw [List.take_add_one, h]; simp
      rw [this]; omega
    | some x =>
      have h1 := Cod.enc_length x.h.toNat
      have h2 := Cod.enc_length x.s
      rw [nbi_succ h, List.length_append, List.length_append]; omega
theorem ws_add {o bs : List UInt8} (h : o.length + bs.length ≤ 4096) : (⟨4096, o, 0⟩ : WS).add bs = ⟨4096, o ++ bs, 0⟩ := by
  unfold WS.add; rw [if_pos rfl, if_neg (by show ¬ (4096 : Int) - (o.length : Int) < _; omega)]
theorem ws_h {l : List Nt} {i : Nat} (h : i < 64) (x : Nt) : (⟨4096, nbi l i, 0⟩ : WS).add (Cod.enc x.h.toNat) = ⟨4096, nbi l i ++ Cod.enc x.h.toNat, 0⟩ := ws_add (by have := nbi_le l i; have := Cod.enc_length x.h.toNat; omega)
theorem ws_s {l : List Nt} {i : Nat} {x : Nt} (hx : l[i]? = some x) (h : i < 64) : (⟨4096, nbi l i ++ Cod.enc x.h.toNat, 0⟩ : WS).add (Cod.enc x.s) = ⟨4096, nbi l (i + 1), 0⟩ := by
  rw [nbi_succ hx]; exact ws_add (by have := nbi_le l i; have := Cod.enc_length x.h.toNat; have := Cod.enc_length x.s; rw [List.length_append]; omega)
theorem ws_n (l : List Nt) : (⟨4096, [], 0⟩ : WS).add (Cod.enc ((l.length : Nat) : Int).toNat) = ⟨4096, nbi l 0, 0⟩ := by
  rw [nbi_0, Int.toNat_natCast]; exact ws_add (by have := Cod.enc_length l.length; simp; omega)
theorem nbytes_bad {l : List Nt} {rf : Int} (h : (ncheck l).1 = rf) (h0 : ¬ rf = 0) : nbytes l = ([], rf) := by unfold nbytes; rw [h, if_pos h0]
theorem nbytes_ok {l : List Nt} (h : (ncheck l).1 = 0) : nbytes l = (nby l, 0) := by unfold nbytes; rw [if_neg (fun e => e h)]
noncomputable def qc67_0 (n : Nat) : Code := partOf Tryz.f11 n
theorem nBytes_bad (l : List Nt) (v : Value) (w : World) (hl : Sl w 2 Nt.cl v l) (rf : Int) (hc : (ncheck l).1 = rf) (h0 : ¬ rf = 0) (het : ErrTab w) :
    Calls Tryz.prog 11 #[v] w (fun e w' => ∃ X, e = .returned (.tuple #[X, .int .i64 (nbytes l).2]) ∧ Row w' 5 1 X (nbytes l).1.length (B (nbytes l).1) ∧ NewFrom w.heap.size X ∧ Keeps Nob w w') := by
  have K0 : Keeps Nob w w := Keeps.refl _ _
  refine sy_enter (qc67_0 1) ⟨#[v, ud, ud, ud, ud, ud, ud, ud, ud, ud, ud, ud, ud, ud, ud, ud, ud, ud, ud, ud, ud, ud, ud, ud, ud, ud, ud, ud, ud, ud, ud, ud, ud, ud, ud, ud, ud, ud, ud, ud, ud, ud, ud, ud, ud], []⟩ Tryz.func11 (by kernel_rfl) (by kernel_rfl) <| qr_ [0, 1] <| pkq (.slice none 0 0) <| pkq (.int .i64 0) <| eq_ <| qr_ [0, 1, 2, 3, 4, 5, 6] <| pkq (v) ?_
  refine pcq 22 #[v] Tryz.func22 ((nCheck_is l v rf _ hl (ErrTab.keeps het K0) hc).mono ?_)
  rintro e V1 ⟨rfl, kck⟩
  refine ⟨_, rfl, ?_⟩
  have K2 := K0.nn kck
  have z3 := kck.size
  refine pkq (.tuple #[.int .i64 rf, .int .i64 (ncheck l).2]) <| pkq (.int .i64 rf) <| pkq (.int .i64 (ncheck l).2) <| pkq (.int .i64 rf) <| pkq (.int .i64 (ncheck l).2) <| eqr_ [0, 1] <| pkq (.int .i64 rf) <| ppq (.bool true) (nqt ((rf) : Int) ((0) : Int) (by omega)) <| ey_ <| qr_ [0, 1, 2] <| pkq (.int .i64 rf) <| pkq (.slice none 0 0) <| pkq (.int .i64 rf) <| eu_ ?_
  refine then_r <| so_ (.tuple #[.slice none 0 0, .int .i64 rf]) ?_
  exact ⟨_, by rw [nbytes_bad hc h0], by rw [nbytes_bad hc h0]; exact World.ownsRow_nil _ _ _ _, NewFrom.nil _, K2⟩
theorem nBytes_ok (l : List Nt) (v : Value) (w : World) (hl : Sl w 2 Nt.cl v l) (hc : (ncheck l).1 = 0) (het : ErrTab w) :
    Calls Tryz.prog 11 #[v] w (fun e w' => ∃ X, e = .returned (.tuple #[X, .int .i64 (nbytes l).2]) ∧ Row w' 5 1 X (nbytes l).1.length (B (nbytes l).1) ∧ NewFrom w.heap.size X ∧ Keeps Nob w w') := by
  obtain ⟨hl64, hbad⟩ := ncheck_fine hc
  have K0 : Keeps Nob w w := Keeps.refl _ _
  refine sy_enter (qc67_0 1) ⟨#[v, ud, ud, ud, ud, ud, ud, ud, ud, ud, ud, ud, ud, ud, ud, ud, ud, ud, ud, ud, ud, ud, ud, ud, ud, ud, ud, ud, ud, ud, ud, ud, ud, ud, ud, ud, ud, ud, ud, ud, ud, ud, ud, ud, ud], []⟩ Tryz.func11 (by kernel_rfl) (by kernel_rfl) <| qr_ [0, 1] <| pkq (.slice none 0 0) <| pkq (.int .i64 0) <| eq_ <| qr_ [0, 1, 2, 3, 4, 5, 6] <| pkq (v) ?_
  refine pcq 22 #[v] Tryz.func22 ((nCheck_is l v 0 _ hl (ErrTab.keeps het K0) hc).mono ?_)
  rintro e V1 ⟨rfl, kck⟩
  refine ⟨_, rfl, ?_⟩
  have K2 := K0.nn kck
  have z3 := kck.size
  refine pkq (.tuple #[.int .i64 0, .int .i64 (ncheck l).2]) <| pkq (.int .i64 0) <| pkq (.int .i64 (ncheck l).2) <| pkq (.int .i64 0) <| pkq (.int .i64 (ncheck l).2) <| eqr_ [0, 1] <| pkq (.int .i64 0) <| pkq (.bool false) <| en_ <| s_ <| tqr_ [0, 1, 2, 3, 4, 5] ?_
  have hK1 := K2.size
  refine pcq 35 #[.int .i64 4096] Tryz.func35 ((wr_new 4096 _ (by decide) (by decide)).mono ?_)
  rintro e V4 ⟨b, F0, rfl, hV4, hge0, kV4⟩
  have hgeA : ∀ j, F0 j → w.heap.size ≤ j := fun j h => by have := hge0 j h; omega
  refine ⟨_, rfl, ?_⟩
  have K5 := K2.nn kV4
  have z6 := kV4.size
  refine pkq (.tuple #[pT b 0, .int .i64 0]) <| pkq (pT b 0) <| pkq (.int .i64 0) <| pkq (pT b 0) <| pkq (.int .i64 0) <| eqr_ [0, 1, 2, 3] <| pkq (pT b 0) <| pkq (v) <| ppq (iN l.length) (exec_len_sl (.tmp 23) 22 46 (by kernel_rfl) Tryz.underlying22 (by kernel_rfl) (hl.keepsN K5)) ?_
  have hKs5 := K5.size
  refine pcq 36 #[pT b 0, iN l.length] Tryz.func36 (((ws_n l ▸ Wr.n hV4 ((l.length : Nat) : Int) (by omega) (by omega))).mono ?_)
  rintro e V7 ⟨rfl, F1, hV7, hS1⟩
  have hge1 : ∀ j, F1 j → w.heap.size ≤ j := fun j h => (hS1.2 j h).elim (hgeA j) (fun h => by omega)
  refine ⟨_, rfl, ?_⟩
  have K8 : Keeps Nob w V7 := K5.then hS1.1 (fun i hi hm => absurd hi (by have := hgeA i hm; omega))
  have z9 := hS1.1.size
  refine eq_ <| qr_ [0, 1, 2] <| pkq (v) <| ppq (iN l.length) (exec_len_sl (.tmp 26) 22 46 (by kernel_rfl) Tryz.underlying22 (by kernel_rfl) (hl.keepsN K8)) <| pkq (.int .i64 0) <| ps_end <| sy_a ⟨#[v, ud, .slice none 0 0, .int .i64 0, .int .i64 0, .int .i64 (ncheck l).2, pT b 0, .int .i64 0, ud, ud, .tuple #[.int .i64 0, .int .i64 (ncheck l).2], v, .tuple #[.int .i64 0, .int .i64 (ncheck l).2], .int .i64 0, .int .i64 (ncheck l).2, .int .i64 0, .bool false, ud, .tuple #[pT b 0, .int .i64 0], .tuple #[pT b 0, .int .i64 0], pT b 0, .int .i64 0, pT b 0, v, iN l.length, .int .i64 0, v, iN l.length, .int .i64 0, ud, ud, ud, ud, ud, ud, ud, ud, ud, ud, ud, ud, ud, ud, ud, ud], []⟩ <| then_n <| bl_ 0 ?_
  refine sy_loop (qc67_0 500) (fun a V => ∃ (i : Nat) (Fi : Nat → Prop) (u9 u29 u30 u31 u32 u33 u34 u35 u36 u37 u38 u39 u40 : Value), (a = ⟨#[v, ud, .slice none 0 0, .int .i64 0, .int .i64 0, .int .i64 (ncheck l).2, pT b 0, .int .i64 0, ud, u9, .tuple #[.int .i64 0, .int .i64 (ncheck l).2], v, .tuple #[.int .i64 0, .int .i64 (ncheck l).2], .int .i64 0, .int .i64 (ncheck l).2, .int .i64 0, .bool false, ud, .tuple #[pT b 0, .int .i64 0], .tuple #[pT b 0, .int .i64 0], pT b 0, .int .i64 0, pT b 0, v, iN l.length, .int .i64 0, v, iN l.length, iN i, u29, u30, u31, u32, u33, u34, u35, u36, u37, u38, u39, u40, ud, ud, ud, ud], []⟩) ∧ (i ≤ l.length) ∧ (∀ j, Fi j → w.heap.size ≤ j) ∧ (Wr V Fi b ⟨4096, nbi l i, 0⟩) ∧ (Keeps Nob w V)) (fun a _ => l.length - (intOf (a.tmps.getD 28 undef)).toNat) (by kernel_rfl) ?_ ?_
  · exact ⟨0, F1, undef, undef, undef, undef, undef, undef, undef, undef, undef, undef, undef, undef, undef, by kernel_rfl, Nat.zero_le _, hge1, hV7, K8⟩
  · rintro a V10 ⟨i, Fi, u9, u29, u30, u31, u32, u33, u34, u35, u36, u37, u38, u39, u40, rfl, hi, hgei, h11, K12⟩
    by_cases lt_i : i < l.length
    · obtain ⟨x, hx⟩ : ∃ x, l[i]? = some x := ⟨_, List.getElem?_eq_getElem lt_i⟩
      have h64 : i < 64 := by omega
      have hbx := hbad x (List.mem_of_getElem? hx)
      have hxh : 1 ≤ x.h ∧ x.h ≤ 4294967296 ∧ x.s ≤ 4611686018427387904 := by unfold Nt.bad at hbx; omega
      obtain ⟨b_, o_, c_, hv_, hb_, _⟩ := ((hl.keepsN K12)).at_ i _ hx
      have hltR := Wr.lt h11
      refine qr_ [0] <| ppq (.bool true) (dct ((((i : Nat) : Int)) < (((l.length : Nat) : Int))) (by omega)) <| eq_ <| y_ <| s_ <| tq_ <| bl_ 1 <| qr_ [0, 1, 2, 3] <| ppq (pT b_ (o_ + i * 2)) (exec_indexAt_slice 22 (.tmp 26) (.tmp 28) (by kernel_rfl) b_ o_ l.length c_ (Eq.trans (b := v) (by kernel_rfl) hv_) .i64 i (by kernel_rfl) _ 2 Tryz.underlying22 (by kernel_rfl) (by omega)) <| ppq (.agg x.c) (exec_load_mid 46 (.tmp 30) (by kernel_rfl) b_ (o_ + i * 2) (by kernel_rfl) (Nt.cl x) _ (Sl.range (hl.keepsN K12) hx hv_) Tryz.underlying46 rfl (by kernel_rfl)) <| pal 46 (#[.int .i64 0, .int .u64 0]) (.agg (#[.int .i64 0, .int .u64 0])) fun V13 gx egx h14 kV13 => ?_
      have n15 : w.heap.size ≤ gx := egx ▸ K12.size
      have h16 : Wr V13 Fi b ⟨4096, nbi l i, 0⟩ := h11.keepsN kV13
      have K17 := K12.nn kV13
      have z18 := kV13.size
      refine pst 46 gx x.c h14 (by kernel_rfl) rfl (by kernel_rfl) fun V19 h20 kV19 => ?_
      have h21 : Wr V19 Fi b ⟨4096, nbi l i, 0⟩ := h16.keeps kV19 (fun j hj e => by have := hltR j hj; unfold Own.One at e; omega)
      have K22 := K17.nO kV19
      have z23 := kV19.size
      refine eqr_ [0, 1, 2, 3] <| pkq (pT b 0) <| pkq (pT gx 0) <| ppq (.int .i64 x.h) (ldc 3 gx 0 (rc (h20) (rfl))) ?_
      have hKs9 := K22.size
      have ltx9 := lt_of_block h20
      refine pcq 36 #[pT b 0, .int .i64 x.h] Tryz.func36 (((ws_h h64 x ▸ Wr.n h21 x.h (by omega) (by omega))).mono ?_)
      rintro e V24 ⟨rfl, F2, hV24, hS2⟩
      have hge2 : ∀ j, F2 j → w.heap.size ≤ j ∧ j ≠ gx := fun j h => (hS2.2 j h).elim (fun h => by have := hgei j h; have := hltR j h; omega) (fun h => by omega)
      refine ⟨_, rfl, ?_⟩
      have h25 : V24.heap[gx]? = some (.cells x.c 46 (0, 0)) := (hS2.1.block gx (lt_of_block h20) (fun e => by have := hltR _ e; omega)).trans h20
      have K26 : Keeps Nob w V24 := K22.then hS2.1 (fun k hi hm => absurd hi (by have := hgei k hm; omega))
      have z27 := hS2.1.size
      refine er_ [0, 1, 2, 3] <| pkq (pT b 0) <| pkq (pT gx 1) <| ppq (uN x.s) (ldc 40 gx 1 (rc (h25) (rfl))) ?_
      have hKs10 := K26.size
      refine pcq 37 #[pT b 0, uN x.s] Tryz.func37 (((ws_s hx h64 ▸ Wr.u hV24 x.s (by omega))).mono ?_)
      rintro e V28 ⟨rfl, F3, hV28, hS3⟩
      have hge3 : ∀ j, F3 j → w.heap.size ≤ j := fun j h => (hS3.2 j h).elim (fun h => (hge2 j h).1) (fun h => by omega)
      refine ⟨_, rfl, ?_⟩
      have K29 : Keeps Nob w V28 := K26.then hS3.1 (fun k hi hm => absurd hi (by have := (hge2 k hm).1; omega))
      have z30 := hS3.1.size
      refine ps_end <| blk_n <| tr_ [0, 1] <| ppq (iN (i + 1)) (exec_cast (congrArg (Value.int .i64) (wrapN (i + 1) (by omega))) (by kernel_rfl)) <| pkq (iN (i + 1)) <| et_ ?_
      refine ⟨⟨i + 1, F3, (pT gx 0), (.bool true), (pT b_ (o_ + i * 2)), (.agg x.c), (pT b 0), (pT gx 0), (.int .i64 x.h), (.int .i64 0), (pT b 0), (pT gx 1), (uN x.s), (.int .i64 0), (iN (i + 1)), by kernel_rfl, by omega, hge3, hV28, K29⟩, ?_⟩
      exact lt_meas (x := l.length - (i + 1)) (y := l.length - i) (by kernel_rfl) (by kernel_rfl) (by omega)
    · have eq_i : i = l.length := by omega
      refine qr_ [0] <| ppq (.bool false) (dcf ((((i : Nat) : Int)) < (((l.length : Nat) : Int))) (by omega)) <| eq_ <| n_ <| sy_exit 0 (by kernel_rfl) <| then_e <| then_e <| blk_e <| tqr_ [0, 1, 2, 3, 4, 5] <| pkq (pT b 0) ?_
      have hK9 := K12.size
      refine pcq 38 #[pT b 0] Tryz.func38 ((Wr.done h11).mono ?_)
      rintro e V31 ⟨X, rfl, ⟨hX, hXn⟩, kV31⟩
      refine ⟨_, rfl, ?_⟩
      have K32 := K12.nn kV31
      have z33 := kV31.size
      refine pkq (X) <| pkq (.int .i64 0) <| pkq (X) <| pkq (.int .i64 0) <| eu_ <| so_ (.tuple #[X, .int .i64 0]) ?_
      exact ⟨X, by rw [nbytes_ok hc], by rw [nbytes_ok hc, ← nbi_all, ← eq_i]; exact hX, fun j hj => Nat.le_trans hK9 (hXn j hj), K32⟩
theorem nBytes_all (l : List Nt) (v : Value) (w : World) (hl : Sl w 2 Nt.cl v l) (het : ErrTab w) : Calls Tryz.prog 11 #[v] w (fun e w' => ∃ X, e = .returned (.tuple #[X, .int .i64 (nbytes l).2]) ∧ Row w' 5 1 X (nbytes l).1.length (B (nbytes l).1) ∧ NewFrom w.heap.size X ∧ Keeps Nob w w') := by
  by_cases hc : (ncheck l).1 = 0
  · exact nBytes_ok l v w hl hc het
  · exact nBytes_bad l v w hl _ rfl hc het
end Go.Proofs.YtghohakbepeffaaGreatDoor
namespace Go.Proofs.YtghohakbepeffaaGreatDoor
set_option maxRecDepth 100000
set_option maxHeartbeats 4000000
open Go Go.RowKit Go.Own Go.Shelf
theorem bad_cases (x : Nt) : (x.bad ∧ x.h < 1) ∨ (x.bad ∧ ¬ x.h < 1 ∧ 4294967296 < x.h) ∨ (x.bad ∧ ¬ x.h < 1 ∧ ¬ 4294967296 < x.h ∧ 4611686018427387904 < x.s) ∨ (¬ x.bad ∧ ¬ x.h < 1 ∧ ¬ 4294967296 < x.h ∧ ¬ 4611686018427387904 < x.s) := by
  unfold Nt.bad; omega
noncomputable def qc68_2 (n : Nat) : Code := partOf Tryz.f70 n
theorem r23may_low (x : Nt) (w : World) (q1 : x.h < 1) :
    Calls Tryz.prog 70 #[.agg x.c] w (fun e w' => e = .returned (.bool false) ∧ Keeps Nob w w') := by
  have K0 : Keeps Nob w w := Keeps.refl _ _
  refine sy_enter (qc68_2 1) ⟨#[.agg x.c, ud, ud, ud, ud, ud, ud, ud, ud, ud, ud, ud, ud, ud, ud, ud], []⟩ Tryz.func70 (by kernel_rfl) (by kernel_rfl) <| qr_ [0, 1] <| pbx 46 x.c (.agg x.c) fun V1 gx egx h2 kV1 => ?_
  have n3 : w.heap.size ≤ gx := egx ▸ K0.size
  have K4 := K0.nn kV1
  have z5 := kV1.size
  refine pkq (.bool false) <| eqr_ [0, 1, 2, 3, 4, 5, 6, 7, 8, 9, 10, 11, 12, 13] <| pkq (pT gx 0) <| ppq (.int .i64 x.h) (ldc 3 gx 0 (rc (h2) (rfl))) <| ppq (.bool false) (dcf (((x.h) : Int) ≥ ((1) : Int)) (by omega)) <| pkq (.bool false) <| pnq <| pnq <| pnq <| pkq (.bool false) <| pkq (.bool false) <| pnq <| pnq <| pnq ?_
  refine pkq (.bool false) <| pkq (.bool false) <| eu_ <| so_ (.bool false) ?_
  exact ⟨rfl, K4⟩
theorem r23may_high (x : Nt) (w : World) (q1 : ¬ x.h < 1) (q2 : 4294967296 < x.h) :
    Calls Tryz.prog 70 #[.agg x.c] w (fun e w' => e = .returned (.bool false) ∧ Keeps Nob w w') := by
  have K0 : Keeps Nob w w := Keeps.refl _ _
  refine sy_enter (qc68_2 1) ⟨#[.agg x.c, ud, ud, ud, ud, ud, ud, ud, ud, ud, ud, ud, ud, ud, ud, ud], []⟩ Tryz.func70 (by kernel_rfl) (by kernel_rfl) <| qr_ [0, 1] <| pbx 46 x.c (.agg x.c) fun V1 gx egx h2 kV1 => ?_
  have n3 : w.heap.size ≤ gx := egx ▸ K0.size
  have K4 := K0.nn kV1
  have z5 := kV1.size
  refine pkq (.bool false) <| eqr_ [0, 1, 2, 3, 4, 5, 6, 7, 8, 9, 10, 11, 12, 13] <| pkq (pT gx 0) <| ppq (.int .i64 x.h) (ldc 3 gx 0 (rc (h2) (rfl))) <| ppq (.bool true) (dct (((x.h) : Int) ≥ ((1) : Int)) (by omega)) <| pkq (.bool true) <| pkq (pT gx 0) <| ppq (.int .i64 x.h) (ldc 3 gx 0 (rc (h2) (rfl))) <| ppq (.bool false) (dcf (((x.h) : Int) ≤ ((4294967296) : Int)) (by omega)) <| pkq (.bool false) <| pkq (.bool false) <| pnq <| pnq <| pnq ?_
  refine pkq (.bool false) <| pkq (.bool false) <| eu_ <| so_ (.bool false) ?_
  exact ⟨rfl, K4⟩
theorem r23may_much (x : Nt) (w : World) (q1 : ¬ x.h < 1) (q2 : ¬ 4294967296 < x.h) (q3 : 4611686018427387904 < x.s) :
    Calls Tryz.prog 70 #[.agg x.c] w (fun e w' => e = .returned (.bool false) ∧ Keeps Nob w w') := by
  have K0 : Keeps Nob w w := Keeps.refl _ _
  refine sy_enter (qc68_2 1) ⟨#[.agg x.c, ud, ud, ud, ud, ud, ud, ud, ud, ud, ud, ud, ud, ud, ud, ud], []⟩ Tryz.func70 (by kernel_rfl) (by kernel_rfl) <| qr_ [0, 1] <| pbx 46 x.c (.agg x.c) fun V1 gx egx h2 kV1 => ?_
  have n3 : w.heap.size ≤ gx := egx ▸ K0.size
  have K4 := K0.nn kV1
  have z5 := kV1.size
  refine pkq (.bool false) <| eqr_ [0, 1, 2, 3, 4, 5, 6, 7, 8, 9, 10, 11, 12, 13] <| pkq (pT gx 0) <| ppq (.int .i64 x.h) (ldc 3 gx 0 (rc (h2) (rfl))) <| ppq (.bool true) (dct (((x.h) : Int) ≥ ((1) : Int)) (by omega)) <| pkq (.bool true) <| pkq (pT gx 0) <| ppq (.int .i64 x.h) (ldc 3 gx 0 (rc (h2) (rfl))) <| ppq (.bool true) (dct (((x.h) : Int) ≤ ((4294967296) : Int)) (by omega)) <| pkq (.bool true) <| pkq (.bool true) <| pkq (pT gx 1) <| ppq (uN x.s) (ldc 40 gx 1 (rc (h2) (rfl))) <| ppq (.bool false) (dcf ((((x.s : Nat) : Int)) ≤ ((4611686018427387904) : Int)) (by omega)) ?_
  refine pkq (.bool false) <| pkq (.bool false) <| eu_ <| so_ (.bool false) ?_
  exact ⟨rfl, K4⟩
theorem r23may_fine (x : Nt) (w : World) (q1 : ¬ x.h < 1) (q2 : ¬ 4294967296 < x.h) (q3 : ¬ 4611686018427387904 < x.s) :
    Calls Tryz.prog 70 #[.agg x.c] w (fun e w' => e = .returned (.bool true) ∧ Keeps Nob w w') := by
  have K0 : Keeps Nob w w := Keeps.refl _ _
  refine sy_enter (qc68_2 1) ⟨#[.agg x.c, ud, ud, ud, ud, ud, ud, ud, ud, ud, ud, ud, ud, ud, ud, ud], []⟩ Tryz.func70 (by kernel_rfl) (by kernel_rfl) <| qr_ [0, 1] <| pbx 46 x.c (.agg x.c) fun V1 gx egx h2 kV1 => ?_
  have n3 : w.heap.size ≤ gx := egx ▸ K0.size
  have K4 := K0.nn kV1
  have z5 := kV1.size
  refine pkq (.bool false) <| eqr_ [0, 1, 2, 3, 4, 5, 6, 7, 8, 9, 10, 11, 12, 13] <| pkq (pT gx 0) <| ppq (.int .i64 x.h) (ldc 3 gx 0 (rc (h2) (rfl))) <| ppq (.bool true) (dct (((x.h) : Int) ≥ ((1) : Int)) (by omega)) <| pkq (.bool true) <| pkq (pT gx 0) <| ppq (.int .i64 x.h) (ldc 3 gx 0 (rc (h2) (rfl))) <| ppq (.bool true) (dct (((x.h) : Int) ≤ ((4294967296) : Int)) (by omega)) <| pkq (.bool true) <| pkq (.bool true) <| pkq (pT gx 1) <| ppq (uN x.s) (ldc 40 gx 1 (rc (h2) (rfl))) <| ppq (.bool true) (dct ((((x.s : Nat) : Int)) ≤ ((4611686018427387904) : Int)) (by omega)) ?_
  refine pkq (.bool true) <| pkq (.bool true) <| eu_ <| so_ (.bool true) ?_
  exact ⟨rfl, K4⟩
theorem r23may_bad (x : Nt) (w : World) (h : x.bad) : Calls Tryz.prog 70 #[.agg x.c] w (fun e w' => e = .returned (.bool false) ∧ Keeps Nob w w') := by
  rcases bad_cases x with ⟨_, q1⟩ | ⟨_, q1, q2⟩ | ⟨_, q1, q2, q3⟩ | ⟨q0, _⟩
  · exact r23may_low x w q1
  · exact r23may_high x w q1 q2
  · exact r23may_much x w q1 q2 q3
  · exact absurd h q0
theorem r23may_good (x : Nt) (w : World) (h : ¬ x.bad) : Calls Tryz.prog 70 #[.agg x.c] w (fun e w' => e = .returned (.bool true) ∧ Keeps Nob w w') := by
  rcases bad_cases x with ⟨q0, _⟩ | ⟨q0, _⟩ | ⟨q0, _⟩ | ⟨_, q1, q2, q3⟩
  · exact absurd q0 h
  · exact absurd q0 h
  · exact absurd q0 h
  · exact r23may_fine x w q1 q2 q3
theorem last_take {l : List Nt} {i : Nat} {y : Nt} (h0 : 0 < i) (hy : l[i - 1]? = some y) : (l.take i).getLast? = some y := by
  have hlt := (List.getElem?_eq_some_iff.1 hy).1
  rw [List.getLast?_eq_getElem?, List.length_take, Nat.min_eq_left (by omega), List.getElem?_take, if_pos (by omega)]; exact hy
/-- Which note this is, for the document's look. -/
theorem rcheck_cases (l : List Nt) (i : Nat) (hi : i ≤ l.length) : (∃ x, i < l.length ∧ l[i]? = some x ∧ x.bad ∧ nmay x (l.take i) = 3) ∨ (∃ x, i < l.length ∧ l[i]? = some x ∧ ¬ x.bad ∧ i = 0 ∧ nmay x (l.take i) = 0) ∨ (∃ x y, i < l.length ∧ l[i]? = some x ∧ ¬ x.bad ∧ 0 < i ∧ l[i - 1]? = some y ∧ ¬ x.h < y.h ∧ nmay x (l.take i) = 0) ∨ (∃ x y, i < l.length ∧ l[i]? = some x ∧ ¬ x.bad ∧ 0 < i ∧ l[i - 1]? = some y ∧ x.h < y.h ∧ nmay x (l.take i) = 9) ∨ i = l.length := by
  by_cases hlt : i < l.length
  · obtain ⟨x, hx⟩ : ∃ x, l[i]? = some x := ⟨_, List.getElem?_eq_getElem hlt⟩
    by_cases hb : x.bad
    · exact .inl ⟨x, hlt, hx, hb, nmay_bad hb⟩
    · by_cases h0 : i = 0
      · exact .inr (.inl ⟨x, hlt, hx, hb, h0, by rw [h0]; exact nmay_nil hb⟩)
      · obtain ⟨y, hy⟩ : ∃ y, l[i - 1]? = some y := ⟨_, List.getElem?_eq_getElem (by omega)⟩
        have hl := last_take (by omega) hy
        have e : nmay x (l.take i) = if x.h < y.h then 9 else 0 := by unfold nmay; rw [if_neg hb, hl]
        by_cases hc : x.h < y.h
        · exact .inr (.inr (.inr (.inl ⟨x, y, hlt, hx, hb, by omega, hy, hc, by rw [e, if_pos hc]⟩)))
        · exact .inr (.inr (.inl ⟨x, y, hlt, hx, hb, by omega, hy, hc, by rw [e, if_neg hc]⟩))
  · exact .inr (.inr (.inr (.inr (by omega))))
noncomputable def qc68_0 (n : Nat) : Code := partOf Tryz.f39 n
noncomputable abbrev qo68_0 (n k : Nat) : Oper := (opsAt (qc68_0 n)).getD k default
theorem r23Check_long (l : List Nt) (v : Value) (w : World) (hl : Sl w 2 Nt.cl v l) (hs : 64 < l.length) :
    Calls Tryz.prog 39 #[v] w (fun e w' => e = .returned (.tuple #[.int .i64 (ncheck l).1, .int .i64 (ncheck l).2]) ∧ Keeps Nob w w') := by
  have hln := Sl.len_le hl
  have K0 : Keeps Nob w w := Keeps.refl _ _
  refine sy_enter (qc68_0 1) ⟨#[v, ud, ud, ud, ud, ud, ud, ud, ud, ud, ud, ud, ud, ud, ud, ud, ud, ud, ud, ud, ud, ud, ud, ud, ud, ud, ud, ud, ud, ud, ud, ud, ud, ud, ud, ud, ud, ud], []⟩ Tryz.func39 (by kernel_rfl) (by kernel_rfl) <| qr_ [0, 1] <| pkq (.int .i64 0) <| pkq (.int .i64 0) <| eq_ <| qr_ [0, 1, 2] <| pkq (v) <| ppq (iN l.length) (exec_len_sl (.tmp 5) 22 46 (by kernel_rfl) Tryz.underlying22 (by kernel_rfl) hl) <| ppq (.bool true) (dct ((((l.length : Nat) : Int)) > ((64) : Int)) (by omega)) <| ey_ <| qr_ [0, 1] <| pkq (.int .i64 4) <| pkq (.int .i64 64) <| eu_ ?_
  refine then_r <| so_ (.tuple #[.int .i64 4, .int .i64 64]) ?_
  exact ⟨by rw [ncheck_long hs], K0⟩
theorem r23Check_go (l : List Nt) (v : Value) (w : World) (hl : Sl w 2 Nt.cl v l) (hs : ¬ 64 < l.length) :
    Calls Tryz.prog 39 #[v] w (fun e w' => e = .returned (.tuple #[.int .i64 (ncheck l).1, .int .i64 (ncheck l).2]) ∧ Keeps Nob w w') := by
  have hln := Sl.len_le hl
  have K0 : Keeps Nob w w := Keeps.refl _ _
  refine sy_enter (qc68_0 1) ⟨#[v, ud, ud, ud, ud, ud, ud, ud, ud, ud, ud, ud, ud, ud, ud, ud, ud, ud, ud, ud, ud, ud, ud, ud, ud, ud, ud, ud, ud, ud, ud, ud, ud, ud, ud, ud, ud, ud], []⟩ Tryz.func39 (by kernel_rfl) (by kernel_rfl) <| qr_ [0, 1] <| pkq (.int .i64 0) <| pkq (.int .i64 0) <| eq_ <| qr_ [0, 1, 2] <| pkq (v) <| ppq (iN l.length) (exec_len_sl (.tmp 5) 22 46 (by kernel_rfl) Tryz.underlying22 (by kernel_rfl) hl) <| ppq (.bool false) (dcf ((((l.length : Nat) : Int)) > ((64) : Int)) (by omega)) <| en_ <| s_ <| tq_ <| qr_ [0] <| pkq (.int .i64 0) ?_
  refine et_ <| bl_ 0 ?_
  refine sy_loop (qc68_0 116) (fun a V => ∃ (i : Nat) (u2 u3 u8 u9 u10 u11 u12 u13 u14 u15 u16 u17 u18 u19 u20 u21 u22 u23 u24 u25 u26 u27 u28 u29 u30 u31 u32 u33 u34 u35 u36 u37 : Value), (a = ⟨#[v, ud, u2, u3, iN i, v, iN l.length, .bool false, u8, u9, u10, u11, u12, u13, u14, u15, u16, u17, u18, u19, u20, u21, u22, u23, u24, u25, u26, u27, u28, u29, u30, u31, u32, u33, u34, u35, u36, u37], []⟩) ∧ (i ≤ l.length) ∧ (nchk (l.take i) (l.drop i) = ncheck l) ∧ (Keeps Nob w V)) (fun a _ => l.length - (intOf (a.tmps.getD 4 undef)).toNat) (by kernel_rfl) ?_ ?_
  · exact ⟨0, (.int .i64 0), (.int .i64 0), undef, undef, undef, undef, undef, undef, undef, undef, undef, undef, undef, undef, undef, undef, undef, undef, undef, undef, undef, undef, undef, undef, undef, undef, undef, undef, undef, undef, undef, undef, by kernel_rfl, by omega, (ncheck_go hs).symm, K0⟩
  · rintro a V1 ⟨i, u2, u3, u8, u9, u10, u11, u12, u13, u14, u15, u16, u17, u18, u19, u20, u21, u22, u23, u24, u25, u26, u27, u28, u29, u30, u31, u32, u33, u34, u35, u36, u37, rfl, hi, hp, K2⟩
    rcases rcheck_cases l i hi with ⟨x, lt_i, hx, hb, he⟩ | ⟨x, lt_i, hx, hb, h0, he⟩ | ⟨x, y, lt_i, hx, hb, h0, hy, ho, he⟩ | ⟨x, y, lt_i, hx, hb, h0, hy, ho, he⟩ | eq_i
    · obtain ⟨b_, o_, c_, hv_, hb_, _⟩ := ((hl.keepsN K2)).at_ i _ hx
      have hres := (nchk_stop hx he (by decide)).symm.trans hp
      refine q_ <| qr_ [0, 1, 2, 3] <| pkq (iN i) <| pkq (v) <| ppq (iN l.length) (exec_len_sl (.tmp 9) 22 46 (by kernel_rfl) Tryz.underlying22 (by kernel_rfl) (hl.keepsN K2)) <| ppq (.bool true) (dct ((((i : Nat) : Int)) < (((l.length : Nat) : Int))) (by omega)) <| ey_ <| s_ <| tq_ <| bl_ 1 <| q_ <| qr_ [0, 1, 2, 3, 4, 5] <| pkq (v) <| pkq (iN i) ?_
      refine ppq (pT b_ (o_ + i * 2)) (exec_indexAt_slice 22 (.tmp 14) (.tmp 15) (by kernel_rfl) b_ o_ l.length c_ (Eq.trans (b := v) (by kernel_rfl) hv_) .i64 i (by kernel_rfl) _ 2 Tryz.underlying22 (by kernel_rfl) (by omega)) <| ppq (.agg x.c) (exec_load_mid 46 (.tmp 16) (by kernel_rfl) b_ (o_ + i * 2) (by kernel_rfl) (Nt.cl x) _ (Sl.range (hl.keepsN K2) hx hv_) Tryz.underlying46 rfl (by kernel_rfl)) ?_
      refine pcq 70 #[.agg x.c] Tryz.func70 ((r23may_bad x _ hb).mono ?_)
      rintro e V3 ⟨rfl, kV3⟩
      refine ⟨_, rfl, ?_⟩
      have K4 := K2.nn kV3
      have z5 := kV3.size
      refine pkq (.bool true) <| ey_ <| qr_ [0, 1, 2] <| pkq (iN i) <| pkq (.int .i64 3) <| pkq (iN i) <| eu_ <| then_r <| blk_r <| then_r <| then_r <| blk_r <| then_r <| so_ (.tuple #[.int .i64 3, .int .i64 ((i : Nat) : Int)]) ?_
      exact ⟨by rw [← hres], K4⟩
    · obtain ⟨b_, o_, c_, hv_, hb_, _⟩ := ((hl.keepsN K2)).at_ i _ hx
      have hpn := (nchk_step hx he).symm.trans hp
      refine q_ <| qr_ [0, 1, 2, 3] <| pkq (iN i) <| pkq (v) <| ppq (iN l.length) (exec_len_sl (.tmp 9) 22 46 (by kernel_rfl) Tryz.underlying22 (by kernel_rfl) (hl.keepsN K2)) <| ppq (.bool true) (dct ((((i : Nat) : Int)) < (((l.length : Nat) : Int))) (by omega)) <| ey_ <| s_ <| tq_ <| bl_ 1 <| q_ <| qr_ [0, 1, 2, 3, 4, 5] <| pkq (v) <| pkq (iN i) ?_
      refine ppq (pT b_ (o_ + i * 2)) (exec_indexAt_slice 22 (.tmp 14) (.tmp 15) (by kernel_rfl) b_ o_ l.length c_ (Eq.trans (b := v) (by kernel_rfl) hv_) .i64 i (by kernel_rfl) _ 2 Tryz.underlying22 (by kernel_rfl) (by omega)) <| ppq (.agg x.c) (exec_load_mid 46 (.tmp 16) (by kernel_rfl) b_ (o_ + i * 2) (by kernel_rfl) (Nt.cl x) _ (Sl.range (hl.keepsN K2) hx hv_) Tryz.underlying46 rfl (by kernel_rfl)) ?_
      refine pcq 70 #[.agg x.c] Tryz.func70 ((r23may_good x _ hb).mono ?_)
      rintro e V6 ⟨rfl, kV6⟩
      refine ⟨_, rfl, ?_⟩
      have K7 := K2.nn kV6
      have z8 := kV6.size
      refine pkq (.bool false) <| en_ <| s_ <| tq_ <| sy_reg <| rg_still 8 15 (opsAt (qc68_0 3730)) [qo68_0 3730 0, qo68_0 3730 1, qo68_0 3730 2, qo68_0 3730 3, qo68_0 3730 4, qo68_0 3730 5, qo68_0 3730 6, qo68_0 3730 7, qo68_0 3730 8, qo68_0 3730 9, qo68_0 3730 10, qo68_0 3730 11, qo68_0 3730 12, qo68_0 3730 13, qo68_0 3730 14] [qo68_0 3730 15] (by kernel_rfl) (by kernel_rfl) (by kernel_rfl) (by kernel_rfl) (by kernel_rfl) ?_
      obtain ⟨V10, eV10, kV10⟩ := drew_step V6
      rw [eV10]
      clear eV10
      have K11 := K7.nn kV10
      have z12 := kV10.size
      refine skq (iN i) <| spq (.bool false) (dcf ((((i : Nat) : Int)) > ((0) : Int)) (by omega)) <| skq (.bool false) <| snq <| snq <| snq <| snq <| snq <| snq <| snq <| snq <| snq <| snq <| snq ?_
      refine snq <| st_end <| ls_run (qo68_0 3730 15) (.bool false) (w' := V10) (by kernel_rfl) (by kernel_rfl) <| ls_end <| sy_a ⟨#[v, ud, u2, u3, iN i, v, iN l.length, .bool false, iN i, v, iN l.length, .bool true, u12, u13, v, iN i, pT b_ (o_ + i * 2), .agg x.c, .bool true, .bool false, u20, iN i, .bool false, .bool false, ud, ud, ud, ud, ud, ud, ud, ud, ud, ud, ud, ud, .bool false, u37], []⟩ <| then_n <| n_ <| s_ <| blk_n <| tr_ [0, 1, 2] <| pkq (iN i) <| ppq (iN (i + 1)) (exec_cast (congrArg (Value.int .i64) (wrapN (i + 1) (by omega))) (by kernel_rfl)) <| pkq (iN (i + 1)) <| et_ ?_
      refine ⟨⟨i + 1, u2, u3, (iN i), v, (iN l.length), (.bool true), (iN i), (iN (i + 1)), v, (iN i), (pT b_ (o_ + i * 2)), (.agg x.c), (.bool true), (.bool false), u20, (iN i), (.bool false), (.bool false), undef, undef, undef, undef, undef, undef, undef, undef, undef, undef, undef, undef, (.bool false), u37, by kernel_rfl, by omega, hpn, K11⟩, ?_⟩
      exact lt_meas (x := l.length - (i + 1)) (y := l.length - i) (by kernel_rfl) (by kernel_rfl) (by omega)
    · obtain ⟨b_, o_, c_, hv_, hb_, _⟩ := ((hl.keepsN K2)).at_ i _ hx
      obtain ⟨b_p, o_p, c_p, hv_p, hb_p, _⟩ := ((hl.keepsN K2)).at_ (i - 1) _ hy
      have hpn := (nchk_step hx he).symm.trans hp
      refine q_ <| qr_ [0, 1, 2, 3] <| pkq (iN i) <| pkq (v) <| ppq (iN l.length) (exec_len_sl (.tmp 9) 22 46 (by kernel_rfl) Tryz.underlying22 (by kernel_rfl) (hl.keepsN K2)) <| ppq (.bool true) (dct ((((i : Nat) : Int)) < (((l.length : Nat) : Int))) (by omega)) <| ey_ <| s_ <| tq_ <| bl_ 1 <| q_ <| qr_ [0, 1, 2, 3, 4, 5] <| pkq (v) <| pkq (iN i) ?_
      refine ppq (pT b_ (o_ + i * 2)) (exec_indexAt_slice 22 (.tmp 14) (.tmp 15) (by kernel_rfl) b_ o_ l.length c_ (Eq.trans (b := v) (by kernel_rfl) hv_) .i64 i (by kernel_rfl) _ 2 Tryz.underlying22 (by kernel_rfl) (by omega)) <| ppq (.agg x.c) (exec_load_mid 46 (.tmp 16) (by kernel_rfl) b_ (o_ + i * 2) (by kernel_rfl) (Nt.cl x) _ (Sl.range (hl.keepsN K2) hx hv_) Tryz.underlying46 rfl (by kernel_rfl)) ?_
      refine pcq 70 #[.agg x.c] Tryz.func70 ((r23may_good x _ hb).mono ?_)
      rintro e V13 ⟨rfl, kV13⟩
      refine ⟨_, rfl, ?_⟩
      have K14 := K2.nn kV13
      have z15 := kV13.size
      refine pkq (.bool false) <| en_ <| s_ <| tq_ <| sy_reg <| rg_still 8 15 (opsAt (qc68_0 3730)) [qo68_0 3730 0, qo68_0 3730 1, qo68_0 3730 2, qo68_0 3730 3, qo68_0 3730 4, qo68_0 3730 5, qo68_0 3730 6, qo68_0 3730 7, qo68_0 3730 8, qo68_0 3730 9, qo68_0 3730 10, qo68_0 3730 11, qo68_0 3730 12, qo68_0 3730 13, qo68_0 3730 14] [qo68_0 3730 15] (by kernel_rfl) (by kernel_rfl) (by kernel_rfl) (by kernel_rfl) (by kernel_rfl) ?_
      obtain ⟨V17, eV17, kV17⟩ := drew_step V13
      rw [eV17]
      clear eV17
      have K18 := K14.nn kV17
      have z19 := kV17.size
      refine skq (iN i) <| spq (.bool true) (dct ((((i : Nat) : Int)) > ((0) : Int)) (by omega)) <| skq (.bool true) <| skq (v) <| skq (iN i) <| spq (pT b_ (o_ + i * 2)) (exec_indexAt_slice 22 (.tmp 24) (.tmp 25) (by kernel_rfl) b_ o_ l.length c_ (Eq.trans (b := v) (by kernel_rfl) hv_) .i64 i (by kernel_rfl) _ 2 Tryz.underlying22 (by kernel_rfl) (by omega)) <| skq (pT b_ (o_ + i * 2 + 0)) <| spq (.int .i64 x.h) (ldc 3 b_ (o_ + i * 2 + 0) (Sl.cell (hl.keepsN K18) hx hv_ rfl)) <| skq (v) <| skq (iN i) <| spq (iN ((i - 1))) (exec_cast (congrArg (Value.int .i64) (wrapI (((i : Nat) : Int) - 1) ((i - 1 : Nat) : Int) (by omega) (by omega) (by omega))) (by kernel_rfl)) <| spq (.pointer (some ⟨b_p, o_p + ((i - 1)) * 2, none⟩)) (exec_indexAt_slice 22 (.tmp 29) (.tmp 31) (by kernel_rfl) b_p o_p l.length c_p (Eq.trans (b := v) (by kernel_rfl) hv_p) .i64 ((i - 1)) (by kernel_rfl) _ 2 Tryz.underlying22 (by kernel_rfl) (by omega)) <| skq (.pointer (some ⟨b_p, o_p + ((i - 1)) * 2 + 0, none⟩)) <| spq (.int .i64 y.h) (exec_ld 3 (.tmp 33) b_p (o_p + ((i - 1)) * 2 + 0) Tryz.underlying3 (Sl.cell (hl.keepsN K18) hy hv_p rfl)) ?_
      refine spq (.bool false) (dcf (((x.h) : Int) < ((y.h) : Int)) (by omega)) <| st_end <| ls_run (qo68_0 3730 15) (.bool false) (w' := V17) (by kernel_rfl) (by kernel_rfl) <| ls_end <| sy_a ⟨#[v, ud, u2, u3, iN i, v, iN l.length, .bool false, iN i, v, iN l.length, .bool true, u12, u13, v, iN i, pT b_ (o_ + i * 2), .agg x.c, .bool true, .bool false, u20, iN i, .bool true, .bool true, v, iN i, pT b_ (o_ + i * 2), pT b_ (o_ + i * 2 + 0), .int .i64 x.h, v, iN i, iN ((i - 1)), .pointer (some ⟨b_p, o_p + ((i - 1)) * 2, none⟩), .pointer (some ⟨b_p, o_p + ((i - 1)) * 2 + 0, none⟩), .int .i64 y.h, .bool false, .bool false, u37], []⟩ <| then_n <| n_ <| s_ <| blk_n <| tr_ [0, 1, 2] <| pkq (iN i) <| ppq (iN (i + 1)) (exec_cast (congrArg (Value.int .i64) (wrapN (i + 1) (by omega))) (by kernel_rfl)) <| pkq (iN (i + 1)) <| et_ ?_
      refine ⟨⟨i + 1, u2, u3, (iN i), v, (iN l.length), (.bool true), (iN i), (iN (i + 1)), v, (iN i), (pT b_ (o_ + i * 2)), (.agg x.c), (.bool true), (.bool false), u20, (iN i), (.bool true), (.bool true), v, (iN i), (pT b_ (o_ + i * 2)), (pT b_ (o_ + i * 2 + 0)), (.int .i64 x.h), v, (iN i), (iN ((i - 1))), (.pointer (some ⟨b_p, o_p + ((i - 1)) * 2, none⟩)), (.pointer (some ⟨b_p, o_p + ((i - 1)) * 2 + 0, none⟩)), (.int .i64 y.h), (.bool false), (.bool false), u37, by kernel_rfl, by omega, hpn, K18⟩, ?_⟩
      exact lt_meas (x := l.length - (i + 1)) (y := l.length - i) (by kernel_rfl) (by kernel_rfl) (by omega)
    · obtain ⟨b_, o_, c_, hv_, hb_, _⟩ := ((hl.keepsN K2)).at_ i _ hx
      obtain ⟨b_p, o_p, c_p, hv_p, hb_p, _⟩ := ((hl.keepsN K2)).at_ (i - 1) _ hy
      have hres := (nchk_stop hx he (by decide)).symm.trans hp
      refine q_ <| qr_ [0, 1, 2, 3] <| pkq (iN i) <| pkq (v) <| ppq (iN l.length) (exec_len_sl (.tmp 9) 22 46 (by kernel_rfl) Tryz.underlying22 (by kernel_rfl) (hl.keepsN K2)) <| ppq (.bool true) (dct ((((i : Nat) : Int)) < (((l.length : Nat) : Int))) (by omega)) <| ey_ <| s_ <| tq_ <| bl_ 1 <| q_ <| qr_ [0, 1, 2, 3, 4, 5] <| pkq (v) <| pkq (iN i) ?_
      refine ppq (pT b_ (o_ + i * 2)) (exec_indexAt_slice 22 (.tmp 14) (.tmp 15) (by kernel_rfl) b_ o_ l.length c_ (Eq.trans (b := v) (by kernel_rfl) hv_) .i64 i (by kernel_rfl) _ 2 Tryz.underlying22 (by kernel_rfl) (by omega)) <| ppq (.agg x.c) (exec_load_mid 46 (.tmp 16) (by kernel_rfl) b_ (o_ + i * 2) (by kernel_rfl) (Nt.cl x) _ (Sl.range (hl.keepsN K2) hx hv_) Tryz.underlying46 rfl (by kernel_rfl)) ?_
      refine pcq 70 #[.agg x.c] Tryz.func70 ((r23may_good x _ hb).mono ?_)
      rintro e V20 ⟨rfl, kV20⟩
      refine ⟨_, rfl, ?_⟩
      have K21 := K2.nn kV20
      have z22 := kV20.size
      refine pkq (.bool false) <| en_ <| s_ <| tq_ <| sy_reg <| rg_still 8 15 (opsAt (qc68_0 3730)) [qo68_0 3730 0, qo68_0 3730 1, qo68_0 3730 2, qo68_0 3730 3, qo68_0 3730 4, qo68_0 3730 5, qo68_0 3730 6, qo68_0 3730 7, qo68_0 3730 8, qo68_0 3730 9, qo68_0 3730 10, qo68_0 3730 11, qo68_0 3730 12, qo68_0 3730 13, qo68_0 3730 14] [qo68_0 3730 15] (by kernel_rfl) (by kernel_rfl) (by kernel_rfl) (by kernel_rfl) (by kernel_rfl) ?_
      obtain ⟨V24, eV24, kV24⟩ := drew_step V20
      rw [eV24]
      clear eV24
      have K25 := K21.nn kV24
      have z26 := kV24.size
      refine skq (iN i) <| spq (.bool true) (dct ((((i : Nat) : Int)) > ((0) : Int)) (by omega)) <| skq (.bool true) <| skq (v) <| skq (iN i) <| spq (pT b_ (o_ + i * 2)) (exec_indexAt_slice 22 (.tmp 24) (.tmp 25) (by kernel_rfl) b_ o_ l.length c_ (Eq.trans (b := v) (by kernel_rfl) hv_) .i64 i (by kernel_rfl) _ 2 Tryz.underlying22 (by kernel_rfl) (by omega)) <| skq (pT b_ (o_ + i * 2 + 0)) <| spq (.int .i64 x.h) (ldc 3 b_ (o_ + i * 2 + 0) (Sl.cell (hl.keepsN K25) hx hv_ rfl)) <| skq (v) <| skq (iN i) <| spq (iN ((i - 1))) (exec_cast (congrArg (Value.int .i64) (wrapI (((i : Nat) : Int) - 1) ((i - 1 : Nat) : Int) (by omega) (by omega) (by omega))) (by kernel_rfl)) <| spq (.pointer (some ⟨b_p, o_p + ((i - 1)) * 2, none⟩)) (exec_indexAt_slice 22 (.tmp 29) (.tmp 31) (by kernel_rfl) b_p o_p l.length c_p (Eq.trans (b := v) (by kernel_rfl) hv_p) .i64 ((i - 1)) (by kernel_rfl) _ 2 Tryz.underlying22 (by kernel_rfl) (by omega)) <| skq (.pointer (some ⟨b_p, o_p + ((i - 1)) * 2 + 0, none⟩)) <| spq (.int .i64 y.h) (exec_ld 3 (.tmp 33) b_p (o_p + ((i - 1)) * 2 + 0) Tryz.underlying3 (Sl.cell (hl.keepsN K25) hy hv_p rfl)) ?_
      refine spq (.bool true) (dct (((x.h) : Int) < ((y.h) : Int)) (by omega)) <| st_end <| ls_run (qo68_0 3730 15) (.bool true) (w' := V24) (by kernel_rfl) (by kernel_rfl) <| ls_end <| sy_a ⟨#[v, ud, u2, u3, iN i, v, iN l.length, .bool false, iN i, v, iN l.length, .bool true, u12, u13, v, iN i, pT b_ (o_ + i * 2), .agg x.c, .bool true, .bool false, u20, iN i, .bool true, .bool true, v, iN i, pT b_ (o_ + i * 2), pT b_ (o_ + i * 2 + 0), .int .i64 x.h, v, iN i, iN ((i - 1)), .pointer (some ⟨b_p, o_p + ((i - 1)) * 2, none⟩), .pointer (some ⟨b_p, o_p + ((i - 1)) * 2 + 0, none⟩), .int .i64 y.h, .bool true, .bool true, u37], []⟩ <| then_n <| y_ <| qr_ [0, 1, 2] <| pkq (iN i) <| pkq (.int .i64 9) <| pkq (iN i) <| eu_ <| blk_r <| then_r ?_
      refine then_r <| blk_r <| then_r <| so_ (.tuple #[.int .i64 9, .int .i64 ((i : Nat) : Int)]) ?_
      exact ⟨by rw [← hres], K25⟩
    · have hres := (nchk_end eq_i).symm.trans hp
      refine q_ <| qr_ [0, 1, 2, 3] <| pkq (iN i) <| pkq (v) <| ppq (iN l.length) (exec_len_sl (.tmp 9) 22 46 (by kernel_rfl) Tryz.underlying22 (by kernel_rfl) (hl.keepsN K2)) <| ppq (.bool false) (dcf ((((i : Nat) : Int)) < (((l.length : Nat) : Int))) (by omega)) <| en_ <| sy_exit 0 (by kernel_rfl) <| then_e <| then_e <| blk_e <| tqr_ [0, 1] <| pkq (.int .i64 0) <| pkq (.int .i64 0) ?_
      refine eu_ <| so_ (.tuple #[.int .i64 0, .int .i64 0]) ?_
      exact ⟨by rw [← hres], K2⟩
theorem r23Check_ok (l : List Nt) (v : Value) (w : World) (hl : Sl w 2 Nt.cl v l) : Calls Tryz.prog 39 #[v] w (fun e w' => e = .returned (.tuple #[.int .i64 (ncheck l).1, .int .i64 (ncheck l).2]) ∧ Keeps Nob w w') := by
  by_cases h : 64 < l.length
  · exact r23Check_long l v w hl h
  · exact r23Check_go l v w hl h
theorem r23Check_is (l : List Nt) (v : Value) (x : Int) (w : World) (hl : Sl w 2 Nt.cl v l) (hx : (ncheck l).1 = x) : Calls Tryz.prog 39 #[v] w (fun e w' => e = .returned (.tuple #[.int .i64 x, .int .i64 (ncheck l).2]) ∧ Keeps Nob w w') := hx ▸ r23Check_ok l v w hl
theorem nconv {x : Int} (h0 : 0 ≤ x) (h1 : x ≤ 9223372036854775807) (w : World) : (convert 3 40 (.int .i64 x)).run Tryz.prog w = .ok (.int .u64 ((x.toNat : Nat) : Int)) w := by
  simp only [convert, Tryz.underlying40, Tryz.underlying3]
  have : IntKind.u64.wrap x = ((x.toNat : Nat) : Int) := by
    have e := wrapU x.toNat (by omega)
    rwa [Int.toNat_of_nonneg h0] at e ⊢
  simp [Conv.intToInt, this]
theorem row_bb {w : World} {T : TypeId} {v : Value} {a b c : List UInt8} (e : c = a ++ b) (h : Row w T 1 v (a.length + b.length) (B a ++ B b)) : Row w T 1 v c.length (B c) := by
  subst e; rw [List.length_append]; unfold B at h ⊢; rw [List.map_append]; exact h
theorem nu8_info0 : (Tryz.prog.info? 5).map (fun i => (i.zero, i.size, i.bytes)) = some (some (.int .u8 0), 1, 1) := by kernel_rfl
theorem nbi_end {l : List Nt} {i : Nat} (h : i = l.length) : nbi l i = nby l := by rw [h, nbi_all]
noncomputable def qc68_1 (n : Nat) : Code := partOf Tryz.f12 n
noncomputable abbrev qo68_1 (n k : Nat) : Oper := (opsAt (qc68_1 n)).getD k default
theorem r23Bytes_bad (l : List Nt) (v : Value) (w : World) (hl : Sl w 2 Nt.cl v l) (rf : Int) (hc : (ncheck l).1 = rf) (h0 : ¬ rf = 0) :
    Calls Tryz.prog 12 #[v] w (fun e w' => ∃ X, e = .returned (.tuple #[X, .int .i64 (nbytes l).2]) ∧ Row w' 5 1 X (nbytes l).1.length (B (nbytes l).1) ∧ NewFrom w.heap.size X ∧ Keeps Nob w w') := by
  have hln := Sl.len_le hl
  have K0 : Keeps Nob w w := Keeps.refl _ _
  refine sy_enter (qc68_1 1) ⟨#[v, ud, ud, ud, ud, ud, ud, ud, ud, ud, ud, ud, ud, ud, ud, ud, ud, ud, ud, ud, ud, ud, ud, ud, ud, ud, ud, ud, ud, ud, ud, ud, ud, ud, ud, ud, ud, ud, ud, ud, ud, ud, ud], []⟩ Tryz.func12 (by kernel_rfl) (by kernel_rfl) <| qr_ [0, 1] <| pkq (.slice none 0 0) <| pkq (.int .i64 0) <| eq_ <| qr_ [0, 1, 2, 3, 4, 5, 6] <| pkq (v) ?_
  refine pcq 39 #[v] Tryz.func39 ((r23Check_is l v _ _ hl hc).mono ?_)
  rintro e V1 ⟨rfl, kV1⟩
  refine ⟨_, rfl, ?_⟩
  have K2 := K0.nn kV1
  have z3 := kV1.size
  refine pkq (.tuple #[.int .i64 rf, .int .i64 (ncheck l).2]) <| pkq (.int .i64 rf) <| pkq (.int .i64 (ncheck l).2) <| pkq (.int .i64 rf) <| pkq (.int .i64 (ncheck l).2) <| eqr_ [0, 1] <| pkq (.int .i64 rf) <| ppq (.bool true) (nqt ((rf) : Int) ((0) : Int) (by omega)) <| ey_ <| qr_ [0, 1, 2] <| pkq (.int .i64 rf) <| pkq (.slice none 0 0) <| pkq (.int .i64 rf) <| eu_ ?_
  refine then_r <| so_ (.tuple #[.slice none 0 0, .int .i64 rf]) ?_
  exact ⟨_, by rw [nbytes_bad hc h0], by rw [nbytes_bad hc h0]; exact World.ownsRow_nil _ _ _ _, NewFrom.nil _, K2⟩
theorem r23Bytes_ok (l : List Nt) (v : Value) (w : World) (hl : Sl w 2 Nt.cl v l) (hc : (ncheck l).1 = 0) :
    Calls Tryz.prog 12 #[v] w (fun e w' => ∃ X, e = .returned (.tuple #[X, .int .i64 (nbytes l).2]) ∧ Row w' 5 1 X (nbytes l).1.length (B (nbytes l).1) ∧ NewFrom w.heap.size X ∧ Keeps Nob w w') := by
  have hln := Sl.len_le hl
  obtain ⟨i0, hi0, hz0, hz1, hz2⟩ := info_parts nu8_info0
  obtain ⟨hl64, hfine⟩ := ncheck_fine hc
  have hbnd : ∀ x ∈ l, 1 ≤ x.h ∧ x.h ≤ 4294967296 ∧ x.s ≤ 4611686018427387904 := fun x hx => by have := hfine x hx; unfold Nt.bad at this; omega
  have K0 : Keeps Nob w w := Keeps.refl _ _
  refine sy_enter (qc68_1 1) ⟨#[v, ud, ud, ud, ud, ud, ud, ud, ud, ud, ud, ud, ud, ud, ud, ud, ud, ud, ud, ud, ud, ud, ud, ud, ud, ud, ud, ud, ud, ud, ud, ud, ud, ud, ud, ud, ud, ud, ud, ud, ud, ud, ud], []⟩ Tryz.func12 (by kernel_rfl) (by kernel_rfl) <| qr_ [0, 1] <| pkq (.slice none 0 0) <| pkq (.int .i64 0) <| eq_ <| qr_ [0, 1, 2, 3, 4, 5, 6] <| pkq (v) ?_
  refine pcq 39 #[v] Tryz.func39 ((r23Check_is l v _ _ hl hc).mono ?_)
  rintro e V1 ⟨rfl, kV1⟩
  refine ⟨_, rfl, ?_⟩
  have K2 := K0.nn kV1
  have z3 := kV1.size
  refine pkq (.tuple #[.int .i64 0, .int .i64 (ncheck l).2]) <| pkq (.int .i64 0) <| pkq (.int .i64 (ncheck l).2) <| pkq (.int .i64 0) <| pkq (.int .i64 (ncheck l).2) <| eqr_ [0, 1] <| pkq (.int .i64 0) <| pkq (.bool false) <| en_ <| s_ <| tqr_ [0, 1, 2, 3, 4] <| pkq (v) <| ppq (iN l.length) (exec_len_sl (.tmp 16) 22 46 (by kernel_rfl) Tryz.underlying22 (by kernel_rfl) (hl.keepsN K2)) <| prq (uN l.length) (w' := V1) (exec_convert 3 40 (.tmp 17) (by kernel_rfl) _ (by kernel_rfl) (nconv (x := ((l.length : Nat) : Int)) (by omega) (by omega) _)) ?_
  refine pcq 40 #[uN l.length] Tryz.func40 ((rPut_ok l.length (by omega) _).mono ?_)
  rintro e V4 ⟨X, rfl, hX, hXn, -, kV4⟩
  have hX2 : NewFrom w.heap.size X := fun j hj => Nat.le_trans K2.size (hXn j hj)
  have hX3 : Row V4 5 1 X (nbi l 0).length (B (nbi l 0)) := by rw [nbi_0]; exact hX
  refine ⟨_, rfl, ?_⟩
  have K5 := K2.nn kV4
  have z6 := kV4.size
  refine pkq (X) <| eq_ <| qr_ [0] <| pkq (.int .i64 0) <| et_ <| bl_ 0 ?_
  refine sy_loop (qc68_1 244) (fun a V => ∃ (i : Nat) (u : Value) (u20 u21 u22 u23 u24 u25 u26 u27 u28 u29 u30 u31 u32 u33 u34 u35 u36 u37 u38 u39 u40 u41 : Value), (a = ⟨#[v, ud, .slice none 0 0, .int .i64 0, .int .i64 0, .int .i64 (ncheck l).2, u, iN i, .tuple #[.int .i64 0, .int .i64 (ncheck l).2], v, .tuple #[.int .i64 0, .int .i64 (ncheck l).2], .int .i64 0, .int .i64 (ncheck l).2, .int .i64 0, .bool false, ud, v, iN l.length, uN l.length, X, u20, u21, u22, u23, u24, u25, u26, u27, u28, u29, u30, u31, u32, u33, u34, u35, u36, u37, u38, u39, u40, u41, ud], []⟩) ∧ (i ≤ l.length) ∧ (Row V 5 1 u ((nbi l i).length) (B (nbi l i))) ∧ (Keeps Nob w V) ∧ (NewFrom w.heap.size u)) (fun a _ => l.length - (intOf (a.tmps.getD 7 undef)).toNat) (by kernel_rfl) ?_ ?_
  · exact ⟨0, X, undef, undef, undef, undef, undef, undef, undef, undef, undef, undef, undef, undef, undef, undef, undef, undef, undef, undef, undef, undef, undef, undef, by kernel_rfl, by omega, hX3, K5, hX2⟩
  · rintro a V7 ⟨i, u, u20, u21, u22, u23, u24, u25, u26, u27, u28, u29, u30, u31, u32, u33, u34, u35, u36, u37, u38, u39, u40, u41, rfl, hi, h8, K9, hnw⟩
    by_cases lt_i : i < l.length
    · obtain ⟨x, hx⟩ : ∃ x, l[i]? = some x := ⟨_, List.getElem?_eq_getElem lt_i⟩
      obtain ⟨b_, o_, c_, hv_, hb_, _⟩ := ((hl.keepsN K9)).at_ i _ hx
      have hxb := hbnd x (List.mem_of_getElem? hx)
      have hpl := nbi_le l i
      have he1 := Cod.enc_length x.h.toNat
      have he2 := Cod.enc_length x.s
      have hapl : (nbi l i ++ Cod.enc x.h.toNat).length = (nbi l i).length + (Cod.enc x.h.toNat).length := List.length_append
      refine q_ <| qr_ [0, 1, 2, 3] <| pkq (iN i) <| pkq (v) <| ppq (iN l.length) (exec_len_sl (.tmp 21) 22 46 (by kernel_rfl) Tryz.underlying22 (by kernel_rfl) (hl.keepsN K9)) <| ppq (.bool true) (dct ((((i : Nat) : Int)) < (((l.length : Nat) : Int))) (by omega)) <| ey_ <| s_ <| tq_ <| bl_ 1 <| sy_np <| sy_reg <| an_begin 8 17 (opsAt (qc68_1 1956)) (fun W => (Sl W 2 Nt.cl v l)) #[false, false, false, false, false, false, false, false, false, false, false, false, false, false, false, false, false] (by kernel_rfl) (by kernel_rfl) (by kernel_rfl) (by kernel_rfl) ?_
      obtain ⟨V10, eV10, kV10⟩ := drew_step V7
      rw [eV10]
      clear eV10
      have h11 : Row V10 5 1 u ((nbi l i).length) (B (nbi l i)) := h8.keeps kV10 (fun _ _ x => x)
      have K12 := K9.nn kV10
      have z13 := kV10.size
      refine akq 0 (u) (hl.keepsN K12) <| akq 1 (v) (hl.keepsN K12) <| akq 2 (iN i) (hl.keepsN K12) <| avq 3 (pT b_ (o_ + i * 2)) (fun W hS => exec_indexAt_slice 22 (.tmp 27) (.tmp 28) (by kernel_rfl) b_ o_ l.length c_ (Eq.trans (b := v) (by kernel_rfl) hv_) .i64 i (by kernel_rfl) _ 2 Tryz.underlying22 (by kernel_rfl) (by omega)) (hl.keepsN K12) <| akq 4 (pT b_ (o_ + i * 2 + 0)) (hl.keepsN K12) <| avq 5 (.int .i64 x.h) (fun W hS => ldc 3 b_ (o_ + i * 2 + 0) (Sl.cell hS hx hv_ rfl)) (hl.keepsN K12) <| avq 6 (uN x.h.toNat) (fun W hS => exec_convert 3 40 (.tmp 31) (by kernel_rfl) _ (by kernel_rfl) (nconv (by omega) (by omega) _)) (hl.keepsN K12) <| akq 9 (v) (hl.keepsN K12) <| akq 10 (iN i) (hl.keepsN K12) <| avq 11 (pT b_ (o_ + i * 2)) (fun W hS => exec_indexAt_slice 22 (.tmp 35) (.tmp 36) (by kernel_rfl) b_ o_ l.length c_ (Eq.trans (b := v) (by kernel_rfl) hv_) .i64 i (by kernel_rfl) _ 2 Tryz.underlying22 (by kernel_rfl) (by omega)) (hl.keepsN K12) <| akq 12 (pT b_ (o_ + i * 2 + 1)) (hl.keepsN K12) <| avq 13 (uN x.s) (fun W hS => ldc 40 b_ (o_ + i * 2 + 1) (Sl.cell hS hx hv_ rfl)) (hl.keepsN K12) <| an_o 7 ?_
      refine ncq 40 #[uN x.h.toNat] Tryz.func40 ((rPut_ok x.h.toNat (by omega) _).mono ?_)
      rintro e V14 ⟨Y, rfl, hY, hYn, -, kV14⟩
      refine ⟨_, rfl, ?_⟩
      have h15 : Row V14 5 1 u ((nbi l i).length) (B (nbi l i)) := h11.keeps kV14 (fun _ _ x => x)
      have K16 := K12.nn kV14
      have z17 := kV14.size
      refine ⟨(hl.keepsN K16), ?_⟩
      refine an_o 8 ?_
      obtain ⟨v18, V19, hr20, h21, hg22, hn23, ha24⟩ := run_append_any (P := Tryz.prog) (w := V14) 23 (Oper.type (qo68_1 1956 8)) 5 i0 (.int .u8 0) 1 1 Tryz.underlying23 hi0 hz0 hz1 hz2 rfl (by decide) u ((nbi l i).length) (B (nbi l i)) h15 Y ((Cod.enc x.h.toNat).length) (B (Cod.enc x.h.toNat)) (BytesAt.src (Row.bytes hY)) (by unfold maxLen; omega) (by omega)
      have kV19 : Keeps (fun j => (u : Value).ownBlock = some j) V14 V19 := Keeps.rowAdd hg22
      have hw25 : NewFrom w.heap.size v18 := hnw.next K16.size ha24
      refine nrq v18 (w' := V19) (exec_append (.tmp 26) (.tmp 33) 23 (by kernel_rfl) u Y (by kernel_rfl) (by kernel_rfl) hr20) ?_
      have h26 : Row V19 5 1 v18 ((nbi l i ++ Cod.enc x.h.toNat).length) (B (nbi l i ++ Cod.enc x.h.toNat)) := (row_bb rfl h21)
      have K27 : Keeps Nob w V19 := K16.then kV19 (fun i hi hm => absurd hi (by have := hnw i hm; omega))
      have z28 := kV19.size
      refine ⟨(hl.keepsN K27), ?_⟩
      refine an_o 14 ?_
      refine ncq 40 #[uN x.s] Tryz.func40 ((rPut_ok x.s (by omega) _).mono ?_)
      rintro e V29 ⟨Z, rfl, hZ, hZn, -, kV29⟩
      refine ⟨_, rfl, ?_⟩
      have h30 : Row V29 5 1 v18 ((nbi l i ++ Cod.enc x.h.toNat).length) (B (nbi l i ++ Cod.enc x.h.toNat)) := h26.keeps kV29 (fun _ _ x => x)
      have K31 := K27.nn kV29
      have z32 := kV29.size
      refine ⟨(hl.keepsN K31), ?_⟩
      refine an_o 15 ?_
      obtain ⟨v33, V34, hr35, h36, hg37, hn38, ha39⟩ := run_append_any (P := Tryz.prog) (w := V29) 23 (Oper.type (qo68_1 1956 15)) 5 i0 (.int .u8 0) 1 1 Tryz.underlying23 hi0 hz0 hz1 hz2 rfl (by decide) v18 ((nbi l i ++ Cod.enc x.h.toNat).length) (B (nbi l i ++ Cod.enc x.h.toNat)) h30 Z ((Cod.enc x.s).length) (B (Cod.enc x.s)) (BytesAt.src (Row.bytes hZ)) (by unfold maxLen; omega) (by omega)
      have kV34 : Keeps (fun j => v18.ownBlock = some j) V29 V34 := Keeps.rowAdd hg37
      have hw40 : NewFrom w.heap.size v33 := hw25.next K31.size ha39
      refine nrq v33 (w' := V34) (exec_append (.tmp 34) (.tmp 40) 23 (by kernel_rfl) v18 Z (by kernel_rfl) (by kernel_rfl) hr35) ?_
      have h41 : Row V34 5 1 v33 ((nbi l (i + 1)).length) (B (nbi l (i + 1))) := (row_bb (nbi_succ hx) h36)
      have K42 : Keeps Nob w V34 := K31.then kV34 (fun i hi hm => absurd hi (by have := hw25 i hm; omega))
      have z43 := kV34.size
      refine ⟨(hl.keepsN K42), ?_⟩
      refine an_o 16 <| nrq (v33) (w' := V34) (by kernel_rfl) ?_
      refine ⟨(hl.keepsN K42), ?_⟩
      refine an_end (by kernel_rfl) <| blk_n <| tr_ [0, 1, 2] <| pkq (iN i) <| ppq (iN (i + 1)) (exec_cast (congrArg (Value.int .i64) (wrapN (i + 1) (by omega))) (by kernel_rfl)) <| pkq (iN (i + 1)) <| ps_end <| sy_a ⟨#[v, ud, .slice none 0 0, .int .i64 0, .int .i64 0, .int .i64 (ncheck l).2, v33, iN (i + 1), .tuple #[.int .i64 0, .int .i64 (ncheck l).2], v, .tuple #[.int .i64 0, .int .i64 (ncheck l).2], .int .i64 0, .int .i64 (ncheck l).2, .int .i64 0, .bool false, ud, v, iN l.length, uN l.length, X, iN i, v, iN l.length, .bool true, iN i, iN (i + 1), u, v, iN i, pT b_ (o_ + i * 2), pT b_ (o_ + i * 2 + 0), .int .i64 x.h, uN x.h.toNat, Y, v18, v, iN i, pT b_ (o_ + i * 2), pT b_ (o_ + i * 2 + 1), uN x.s, Z, v33, ud], []⟩ <| then_n ?_
      refine ⟨⟨i + 1, v33, (iN i), v, (iN l.length), (.bool true), (iN i), (iN (i + 1)), u, v, (iN i), (pT b_ (o_ + i * 2)), (pT b_ (o_ + i * 2 + 0)), (.int .i64 x.h), (uN x.h.toNat), Y, v18, v, (iN i), (pT b_ (o_ + i * 2)), (pT b_ (o_ + i * 2 + 1)), (uN x.s), Z, v33, by kernel_rfl, by omega, h41, K42, hw40⟩, ?_⟩
      exact lt_meas (x := l.length - (i + 1)) (y := l.length - i) (by kernel_rfl) (by kernel_rfl) (by omega)
    · have eq_i : i = l.length := by omega
      refine q_ <| qr_ [0, 1, 2, 3] <| pkq (iN i) <| pkq (v) <| ppq (iN l.length) (exec_len_sl (.tmp 21) 22 46 (by kernel_rfl) Tryz.underlying22 (by kernel_rfl) (hl.keepsN K9)) <| ppq (.bool false) (dcf ((((i : Nat) : Int)) < (((l.length : Nat) : Int))) (by omega)) <| en_ <| sy_exit 0 (by kernel_rfl) <| then_e <| then_e <| blk_e <| tqr_ [0, 1, 2] <| pkq (u) <| pkq (u) ?_
      refine pkq (.int .i64 0) <| eu_ <| so_ (.tuple #[u, .int .i64 0]) ?_
      exact ⟨_, by rw [nbytes_ok hc], by rw [nbytes_ok hc, ← nbi_end eq_i]; exact h8, hnw, K9⟩
theorem r23Bytes_all (l : List Nt) (v : Value) (w : World) (hl : Sl w 2 Nt.cl v l) : Calls Tryz.prog 12 #[v] w (fun e w' => ∃ X, e = .returned (.tuple #[X, .int .i64 (nbytes l).2]) ∧ Row w' 5 1 X (nbytes l).1.length (B (nbytes l).1) ∧ NewFrom w.heap.size X ∧ Keeps Nob w w') := by
  by_cases hc : (ncheck l).1 = 0
  · exact r23Bytes_ok l v w hl hc
  · exact r23Bytes_bad l v w hl _ rfl hc
end Go.Proofs.YtghohakbepeffaaGreatDoor
namespace Go.Proofs.YtghohakbepeffaaGreatDoor
set_option maxRecDepth 100000
set_option maxHeartbeats 4000000
open Go Go.RowKit Go.Own Go.Shelf
theorem exec_cut {o : Oper} {ρ : Operand → Value} {w : World} (x y : Operand) (ho : o.op = .slice 23 x (some y) none none) (A : Option Addr) (n cap k : Nat) (hx : ρ x = .slice A n cap) (hy : ρ y = .int .i64 (k : Int)) (hk : k ≤ n) :
    (execOp ρ o).run Tryz.prog w = .ok (.value (cutV A n cap k)) w := by
  have hc := run_cut (P := Tryz.prog) (t := 23) rfl bytes_size A n cap k hk w
  unfold execOp
  simp only [ho, hx, hy, Option.map_some, Option.map_none, Sem.run_bind, hc, Result.andThen_ok, Sem.run_pure]
/-- What is read: as the func told it, or nothing. -/
def RdVal (s : RS) (er : Int) (PX : World → Value → Prop) (z : Value) (w : World) (V : Value) : Prop := (s.err = 0 ∧ er = 0 ∧ PX w V) ∨ (¬ (s.err = 0 ∧ er = 0) ∧ V = z)
/-- The state behind a read. -/
def RS.read (s : RS) (k : Nat) (er : Int) : RS := if s.err = 0 then (if er = 0 then ⟨0, s.pos + k⟩ else ⟨er, s.pos⟩) else s
noncomputable def opsreadU : Array Oper := opsOf Tryz.f75 4
theorem readU_core (f : FuncId) (caps : Array Value) (hent : ∀ args w, (callFunc f args).run Tryz.prog w = .ok (.enter f args) w) (b : Nat) (v fp : Value) (l : List UInt8) (s : RS) (w : World) (h : RdAt w b v fp l s) (k : Nat) (er : Int) (PX : World → Value → Prop)
    (HF0 : s.err = 0 → ∀ W A cap, v = .slice A l.length cap → Keeps Nob w W → Calls Tryz.prog f (#[cutV A l.length cap s.pos.toNat] ++ caps) W fun e W' => ∃ X, e = .returned (.tuple #[X, .int .i64 (k : Int), .int .i64 er]) ∧ PX W' X ∧ Keeps Nob W W')
    (hPX : ∀ W W' X, PX W X → Keeps (One b) W W' → PX W' X) (hk0 : s.err = 0 → er = 0 → s.pos + k ≤ l.length) :
    Calls Tryz.prog 75 #[.pointer (some ⟨b, 0, none⟩), .func (.func f) #[] caps] w fun e w' => ∃ V, e = .returned V ∧ RdVal s er PX (.int .u64 0) w' V ∧ (∃ fp', RdAt w' b v fp' l (s.read k er) ∧ NewPtr w fp fp') ∧ Keeps (One b) w w' := by
  have H := Lib.hid h
  have HN := Lib.hid (rnone_ok b v fp l s w h)
  have hll := h.bytes.length_le
  obtain ⟨A, cap, rfl⟩ := h.bytes.len
  obtain ⟨at_, hb, hl, hf⟩ := h.ex
  have hlt := h.lt
  have c3 : w.cell? ⟨b, 3, none⟩ = some fp := (cell_of_row w b 3 _ _ _ hb).trans rfl
  have HBK := Lib.hid hb
  have HPX := Lib.hid hPX
  clear h hb hPX
  rcases hf with ⟨h0, hp, rfl⟩ | ⟨h0, g, rfl, hg, hc⟩
  · have hpn : s.pos.toNat = at_ := by omega
    have HF := HF0 h0
    have hk := hk0 h0
    rw [hpn] at HF
    have e1 : s.read k er = if er = 0 then ⟨0, s.pos + k⟩ else ⟨er, s.pos⟩ := by unfold RS.read; rw [if_pos h0]
    rw [e1]
    have HFH := Lib.hid (fun W => HF W A cap rfl)
    have HP := Lib.hid hp
    have H0 := Lib.hid h0
    have HK := Lib.hid hk
    clear e1 HF hpn hp h0 hk HF0 hk0
    go_enter Tryz.func75, Tryz.ntmps75
    go_wp2_with (go_at_call 74; refine HN.out.mono ?_; rintro e w' ⟨rfl, rfl⟩)
    refine wp_region_noPanic <| region_named (R := opsreadU) (by kernel_rfl) <| wp_regionH_fuel (fun W => Keeps Nob w W) 18 #[false, false, false, false, false, false, false, false, false, false, false, false, false, false, false, false, false, false] (by kernel_rfl) (by kernel_rfl) rfl ?_
    have S0 : Keeps Nob w w.drew := (Keeps.refl _ _).drew
    have cb : ∀ W, Keeps Nob w W → W.heap[b]? = some (.cells #[.slice A l.length cap, .int .i64 (at_ : Int), .bool true, .pointer none] 109 (0, 0)) := fun W hW => (hW.block b hlt (fun x => x)).trans HBK.out
    refine wpAnyH_val (i := 0) (opsreadU.getD 0 default) (.func (.func f) #[] caps) (by kernel_rfl) (fun _ _ _ _ _ h => h) (by kernel_rfl) (by kernel_rfl) (by kernel_rfl) (by kernel_rfl) (fun W hW => by kernel_rfl) S0 <| wpAnyH_val (i := 1) (opsreadU.getD 1 default) (.pointer (some ⟨b, 0, none⟩)) (by kernel_rfl) (fun _ _ _ _ _ h => h) (by kernel_rfl) (by kernel_rfl) (by kernel_rfl) (by kernel_rfl) (fun W hW => by kernel_rfl) S0 <| wpAnyH_val (i := 2) (opsreadU.getD 2 default) (.pointer (some ⟨b, 0, none⟩)) (by kernel_rfl) (fun _ _ _ _ _ h => h) (by kernel_rfl) (by kernel_rfl) (by kernel_rfl) (by kernel_rfl) (fun W hW => by kernel_rfl) S0 <| wpAnyH_val (i := 3) (opsreadU.getD 3 default) (.pointer (some ⟨b, 0, none⟩)) (by kernel_rfl) (fun _ _ _ _ _ h => h) (by kernel_rfl) (by kernel_rfl) (by kernel_rfl) (by kernel_rfl) (fun W hW => by kernel_rfl) S0 <| wpAnyH_val (i := 4) (opsreadU.getD 4 default) (.slice A l.length cap) (by kernel_rfl) (fun _ _ _ _ _ h => h) (by kernel_rfl) (by kernel_rfl) (by kernel_rfl) (by kernel_rfl) (fun W hW => exec_load_cell 23 (.tmp 23) (by kernel_rfl) ⟨b, 0, none⟩ (by kernel_rfl) _ _ Tryz.underlying23 rfl ((cell_of_row W b 0 _ _ _ (cb W hW)).trans rfl)) S0 <| wpAnyH_val (i := 5) (opsreadU.getD 5 default) (.pointer (some ⟨b, 0, none⟩)) (by kernel_rfl) (fun _ _ _ _ _ h => h) (by kernel_rfl) (by kernel_rfl) (by kernel_rfl) (by kernel_rfl) (fun W hW => by kernel_rfl) S0 <| wpAnyH_val (i := 6) (opsreadU.getD 6 default) (.pointer (some ⟨b, 0, none⟩)) (by kernel_rfl) (fun _ _ _ _ _ h => h) (by kernel_rfl) (by kernel_rfl) (by kernel_rfl) (by kernel_rfl) (fun W hW => by kernel_rfl) S0 <| wpAnyH_val (i := 7) (opsreadU.getD 7 default) (.pointer (some ⟨b, 1, none⟩)) (by kernel_rfl) (fun _ _ _ _ _ h => h) (by kernel_rfl) (by kernel_rfl) (by kernel_rfl) (by kernel_rfl) (fun W hW => by kernel_rfl) S0 <| wpAnyH_val (i := 8) (opsreadU.getD 8 default) (.int .i64 (at_ : Int)) (by kernel_rfl) (fun _ _ _ _ _ h => h) (by kernel_rfl) (by kernel_rfl) (by kernel_rfl) (by kernel_rfl) (fun W hW => exec_load_cell 3 (.tmp 27) (by kernel_rfl) ⟨b, 1, none⟩ (by kernel_rfl) _ _ Tryz.underlying3 rfl ((cell_of_row W b 1 _ _ _ (cb W hW)).trans rfl)) S0 <| wpAnyH_val (i := 9) (opsreadU.getD 9 default) (cutV A l.length cap at_) (by kernel_rfl) (fun _ _ _ _ _ h => h) (by kernel_rfl) (by kernel_rfl) (by kernel_rfl) (by kernel_rfl) (fun W hW => exec_cut (.tmp 24) (.tmp 28) (by kernel_rfl) A l.length cap at_ (by kernel_rfl) (by kernel_rfl) hl) S0 ?_
    refine wpAnyH_callV (i := 10) (opsreadU.getD 10 default) (.tmp 20) f caps (#[cutV A l.length cap at_] ++ caps) (by kernel_rfl) (by kernel_rfl) (by kernel_rfl) (by kernel_rfl) (by kernel_rfl) (by kernel_rfl) hent ((HFH.out _ S0).mono ?_)
    rintro e W1 ⟨X, rfl, hX, k1⟩
    have S1 : Keeps Nob w W1 := S0.trans k1
    refine ⟨_, rfl, S1, ?_⟩
    refine wpAnyH_run (i := 11) (opsreadU.getD 11 default) (.tuple #[X, .int .i64 (k : Int), .int .i64 er]) (w' := W1) (by kernel_rfl) (by kernel_rfl) (by kernel_rfl) (.inl (by kernel_rfl)) S1 <| wpAnyH_val (i := 12) (opsreadU.getD 12 default) (X) (by kernel_rfl) (fun _ _ _ _ _ h => h) (by kernel_rfl) (by kernel_rfl) (by kernel_rfl) (by kernel_rfl) (fun W hW => by kernel_rfl) S1 <| wpAnyH_val (i := 13) (opsreadU.getD 13 default) (.int .i64 (k : Int)) (by kernel_rfl) (fun _ _ _ _ _ h => h) (by kernel_rfl) (by kernel_rfl) (by kernel_rfl) (by kernel_rfl) (fun W hW => by kernel_rfl) S1 <| wpAnyH_val (i := 14) (opsreadU.getD 14 default) (.int .i64 er) (by kernel_rfl) (fun _ _ _ _ _ h => h) (by kernel_rfl) (by kernel_rfl) (by kernel_rfl) (by kernel_rfl) (fun W hW => by kernel_rfl) S1 <| wpAnyH_run (i := 15) (opsreadU.getD 15 default) (X) (w' := W1) (by kernel_rfl) (by kernel_rfl) (by kernel_rfl) (.inl (by kernel_rfl)) S1 <| wpAnyH_run (i := 16) (opsreadU.getD 16 default) (.int .i64 (k : Int)) (w' := W1) (by kernel_rfl) (by kernel_rfl) (by kernel_rfl) (.inl (by kernel_rfl)) S1 <| wpAnyH_run (i := 17) (opsreadU.getD 17 default) (.int .i64 er) (w' := W1) (by kernel_rfl) (by kernel_rfl) (by kernel_rfl) (.inl (by kernel_rfl)) S1 ?_
    refine wpAnyH_done (by kernel_rfl) ?_ _
    refine NoPanic.normal <| state_eq (b := ⟨#[.pointer (some ⟨b, 0, none⟩), .func (.func f) #[] caps, ud, ud, .int .u64 0, .int .u64 0, X, .int .i64 (k : Int), .int .i64 er, .pointer (some ⟨b, 0, none⟩), .bool false, .bool false, .pointer (some ⟨b, 0, none⟩), .pointer (some ⟨b, 0, none⟩), .pointer (some ⟨b, 3, none⟩), .pointer none, .bool false, .bool false, ud, .tuple #[X, .int .i64 (k : Int), .int .i64 er], .func (.func f) #[] caps, .pointer (some ⟨b, 0, none⟩), .pointer (some ⟨b, 0, none⟩), .pointer (some ⟨b, 0, none⟩), .slice A l.length cap, .pointer (some ⟨b, 0, none⟩), .pointer (some ⟨b, 0, none⟩), .pointer (some ⟨b, 1, none⟩), .int .i64 (at_ : Int), cutV A l.length cap at_, .tuple #[X, .int .i64 (k : Int), .int .i64 er], X, .int .i64 (k : Int), .int .i64 er, ud, ud, ud, ud, ud, ud, ud, ud, ud, ud, ud, ud, ud, ud, ud, ud, ud, ud, ud], []⟩) (by kernel_rfl) ?_
    have HX := Lib.hid hX
    have hbW := cb W1 S1
    have a1 : W1.cell? ⟨b, 1, none⟩ = some (.int .i64 (at_ : Int)) := (cell_of_row W1 b 1 _ _ _ hbW).trans rfl
    have a2 : W1.frozen? ⟨b, 1, none⟩ = false := frozen_of_row W1 b 1 _ _ hbW
    have HBW := Lib.hid hbW
    clear cb hX hbW
    generalize cutV A l.length cap at_ = cv at *
    by_cases he : er = 0
    · subst he
      have hkk := HK.out rfl
      rw [HP.out] at hkk
      go_wp2_with fail
      go_ret
      try simp only [if_true]
      have hkS : Keeps (One b) W1 (W1.setCell ⟨b, 1, none⟩ (.int .i64 ((at_ : Int) + k))) := (Keeps.refl _ _).setOne _
      have hkw : Keeps (One b) w (W1.setCell ⟨b, 1, none⟩ (.int .i64 ((at_ : Int) + k))) := (S1.mono (fun _ _ x => x.elim)).trans hkS
      refine ⟨_, rfl, .inl ⟨H0.out, rfl, HPX.out _ _ _ HX.out hkS⟩, ⟨.pointer none, ⟨⟨at_ + k, ?_, by omega, .inl ⟨rfl, by rw [HP.out]; simp, rfl⟩⟩, H.out.bytes.keeps hkw (fun j hj (e : j = b) => H.out.own (by rw [hj, e])), H.out.own⟩, .inl rfl⟩, hkw⟩
      rw [show (((at_ + k : Nat)) : Int) = (at_ : Int) + k by omega]
      exact heap_setCell_same W1 b 1 _ _ _ HBW.out
    · have hb : (er != 0) = true := by simpa using he
      have HFa := Lib.hid (rFail_ok b (.slice A l.length cap) (.pointer none) l s er (at_ : Int) W1 (H.out.keeps S1 (fun _ _ x => x)))
      have hs : s.fail er (at_ : Int) = ⟨er, s.pos⟩ := by unfold RS.fail; rw [if_pos ⟨H0.out, he⟩, HP.out]
      rw [hs] at HFa
      have HE := Lib.hid he
      clear hs he
      go_wp2_with (go_at_call 44; refine HFa.out.mono ?_; rintro e w' ⟨⟨r, rfl⟩, ⟨fp', h1, h2⟩, h3⟩; have H1 := Lib.hid h1; have H2 := Lib.hid h2; clear h1 h2)
      go_ret
      try simp only [if_neg HE.out]
      refine ⟨_, rfl, .inr ⟨fun h => HE.out h.2, rfl⟩, ⟨fp', H1.out, ?_⟩, (S1.mono (fun _ _ x => x.elim)).trans h3⟩
      rcases H2.out with h | ⟨g, h, hg⟩
      · exact .inl h
      · exact .inr ⟨g, h, Nat.le_trans S1.size hg⟩
  · have e1 : s.read k er = s := by unfold RS.read; rw [if_neg h0]
    rw [e1]
    have HE := Lib.hid h0
    clear e1 h0 hc HF0 hk0
    go_enter Tryz.func75, Tryz.ntmps75
    go_wp2_with (go_at_call 74; refine HN.out.mono ?_; rintro e w' ⟨rfl, rfl⟩)
    go_ret
    exact ⟨_, rfl, .inr ⟨fun h => HE.out h.1, rfl⟩, ⟨_, H.out, .inl rfl⟩, Keeps.refl _ _⟩
noncomputable def opsreadI : Array Oper := opsOf Tryz.f71 4
theorem readI_core (f : FuncId) (caps : Array Value) (hent : ∀ args w, (callFunc f args).run Tryz.prog w = .ok (.enter f args) w) (b : Nat) (v fp : Value) (l : List UInt8) (s : RS) (w : World) (h : RdAt w b v fp l s) (k : Nat) (er : Int) (PX : World → Value → Prop)
    (HF0 : s.err = 0 → ∀ W A cap, v = .slice A l.length cap → Keeps Nob w W → Calls Tryz.prog f (#[cutV A l.length cap s.pos.toNat] ++ caps) W fun e W' => ∃ X, e = .returned (.tuple #[X, .int .i64 (k : Int), .int .i64 er]) ∧ PX W' X ∧ Keeps Nob W W')
    (hPX : ∀ W W' X, PX W X → Keeps (One b) W W' → PX W' X) (hk0 : s.err = 0 → er = 0 → s.pos + k ≤ l.length) :
    Calls Tryz.prog 71 #[.pointer (some ⟨b, 0, none⟩), .func (.func f) #[] caps] w fun e w' => ∃ V, e = .returned V ∧ RdVal s er PX (.int .i64 0) w' V ∧ (∃ fp', RdAt w' b v fp' l (s.read k er) ∧ NewPtr w fp fp') ∧ Keeps (One b) w w' := by
  have H := Lib.hid h
  have HN := Lib.hid (rnone_ok b v fp l s w h)
  have hll := h.bytes.length_le
  obtain ⟨A, cap, rfl⟩ := h.bytes.len
  obtain ⟨at_, hb, hl, hf⟩ := h.ex
  have hlt := h.lt
  have c3 : w.cell? ⟨b, 3, none⟩ = some fp := (cell_of_row w b 3 _ _ _ hb).trans rfl
  have HBK := Lib.hid hb
  have HPX := Lib.hid hPX
  clear h hb hPX
  rcases hf with ⟨h0, hp, rfl⟩ | ⟨h0, g, rfl, hg, hc⟩
  · have hpn : s.pos.toNat = at_ := by omega
    have HF := HF0 h0
    have hk := hk0 h0
    rw [hpn] at HF
    have e1 : s.read k er = if er = 0 then ⟨0, s.pos + k⟩ else ⟨er, s.pos⟩ := by unfold RS.read; rw [if_pos h0]
    rw [e1]
    have HFH := Lib.hid (fun W => HF W A cap rfl)
    have HP := Lib.hid hp
    have H0 := Lib.hid h0
    have HK := Lib.hid hk
    clear e1 HF hpn hp h0 hk HF0 hk0
    go_enter Tryz.func71, Tryz.ntmps71
    go_wp2_with (go_at_call 74; refine HN.out.mono ?_; rintro e w' ⟨rfl, rfl⟩)
    refine wp_region_noPanic <| region_named (R := opsreadI) (by kernel_rfl) <| wp_regionH_fuel (fun W => Keeps Nob w W) 18 #[false, false, false, false, false, false, false, false, false, false, false, false, false, false, false, false, false, false] (by kernel_rfl) (by kernel_rfl) rfl ?_
    have S0 : Keeps Nob w w.drew := (Keeps.refl _ _).drew
    have cb : ∀ W, Keeps Nob w W → W.heap[b]? = some (.cells #[.slice A l.length cap, .int .i64 (at_ : Int), .bool true, .pointer none] 109 (0, 0)) := fun W hW => (hW.block b hlt (fun x => x)).trans HBK.out
    refine wpAnyH_val (i := 0) (opsreadI.getD 0 default) (.func (.func f) #[] caps) (by kernel_rfl) (fun _ _ _ _ _ h => h) (by kernel_rfl) (by kernel_rfl) (by kernel_rfl) (by kernel_rfl) (fun W hW => by kernel_rfl) S0 <| wpAnyH_val (i := 1) (opsreadI.getD 1 default) (.pointer (some ⟨b, 0, none⟩)) (by kernel_rfl) (fun _ _ _ _ _ h => h) (by kernel_rfl) (by kernel_rfl) (by kernel_rfl) (by kernel_rfl) (fun W hW => by kernel_rfl) S0 <| wpAnyH_val (i := 2) (opsreadI.getD 2 default) (.pointer (some ⟨b, 0, none⟩)) (by kernel_rfl) (fun _ _ _ _ _ h => h) (by kernel_rfl) (by kernel_rfl) (by kernel_rfl) (by kernel_rfl) (fun W hW => by kernel_rfl) S0 <| wpAnyH_val (i := 3) (opsreadI.getD 3 default) (.pointer (some ⟨b, 0, none⟩)) (by kernel_rfl) (fun _ _ _ _ _ h => h) (by kernel_rfl) (by kernel_rfl) (by kernel_rfl) (by kernel_rfl) (fun W hW => by kernel_rfl) S0 <| wpAnyH_val (i := 4) (opsreadI.getD 4 default) (.slice A l.length cap) (by kernel_rfl) (fun _ _ _ _ _ h => h) (by kernel_rfl) (by kernel_rfl) (by kernel_rfl) (by kernel_rfl) (fun W hW => exec_load_cell 23 (.tmp 23) (by kernel_rfl) ⟨b, 0, none⟩ (by kernel_rfl) _ _ Tryz.underlying23 rfl ((cell_of_row W b 0 _ _ _ (cb W hW)).trans rfl)) S0 <| wpAnyH_val (i := 5) (opsreadI.getD 5 default) (.pointer (some ⟨b, 0, none⟩)) (by kernel_rfl) (fun _ _ _ _ _ h => h) (by kernel_rfl) (by kernel_rfl) (by kernel_rfl) (by kernel_rfl) (fun W hW => by kernel_rfl) S0 <| wpAnyH_val (i := 6) (opsreadI.getD 6 default) (.pointer (some ⟨b, 0, none⟩)) (by kernel_rfl) (fun _ _ _ _ _ h => h) (by kernel_rfl) (by kernel_rfl) (by kernel_rfl) (by kernel_rfl) (fun W hW => by kernel_rfl) S0 <| wpAnyH_val (i := 7) (opsreadI.getD 7 default) (.pointer (some ⟨b, 1, none⟩)) (by kernel_rfl) (fun _ _ _ _ _ h => h) (by kernel_rfl) (by kernel_rfl) (by kernel_rfl) (by kernel_rfl) (fun W hW => by kernel_rfl) S0 <| wpAnyH_val (i := 8) (opsreadI.getD 8 default) (.int .i64 (at_ : Int)) (by kernel_rfl) (fun _ _ _ _ _ h => h) (by kernel_rfl) (by kernel_rfl) (by kernel_rfl) (by kernel_rfl) (fun W hW => exec_load_cell 3 (.tmp 27) (by kernel_rfl) ⟨b, 1, none⟩ (by kernel_rfl) _ _ Tryz.underlying3 rfl ((cell_of_row W b 1 _ _ _ (cb W hW)).trans rfl)) S0 <| wpAnyH_val (i := 9) (opsreadI.getD 9 default) (cutV A l.length cap at_) (by kernel_rfl) (fun _ _ _ _ _ h => h) (by kernel_rfl) (by kernel_rfl) (by kernel_rfl) (by kernel_rfl) (fun W hW => exec_cut (.tmp 24) (.tmp 28) (by kernel_rfl) A l.length cap at_ (by kernel_rfl) (by kernel_rfl) hl) S0 ?_
    refine wpAnyH_callV (i := 10) (opsreadI.getD 10 default) (.tmp 20) f caps (#[cutV A l.length cap at_] ++ caps) (by kernel_rfl) (by kernel_rfl) (by kernel_rfl) (by kernel_rfl) (by kernel_rfl) (by kernel_rfl) hent ((HFH.out _ S0).mono ?_)
    rintro e W1 ⟨X, rfl, hX, k1⟩
    have S1 : Keeps Nob w W1 := S0.trans k1
    refine ⟨_, rfl, S1, ?_⟩
    refine wpAnyH_run (i := 11) (opsreadI.getD 11 default) (.tuple #[X, .int .i64 (k : Int), .int .i64 er]) (w' := W1) (by kernel_rfl) (by kernel_rfl) (by kernel_rfl) (.inl (by kernel_rfl)) S1 <| wpAnyH_val (i := 12) (opsreadI.getD 12 default) (X) (by kernel_rfl) (fun _ _ _ _ _ h => h) (by kernel_rfl) (by kernel_rfl) (by kernel_rfl) (by kernel_rfl) (fun W hW => by kernel_rfl) S1 <| wpAnyH_val (i := 13) (opsreadI.getD 13 default) (.int .i64 (k : Int)) (by kernel_rfl) (fun _ _ _ _ _ h => h) (by kernel_rfl) (by kernel_rfl) (by kernel_rfl) (by kernel_rfl) (fun W hW => by kernel_rfl) S1 <| wpAnyH_val (i := 14) (opsreadI.getD 14 default) (.int .i64 er) (by kernel_rfl) (fun _ _ _ _ _ h => h) (by kernel_rfl) (by kernel_rfl) (by kernel_rfl) (by kernel_rfl) (fun W hW => by kernel_rfl) S1 <| wpAnyH_run (i := 15) (opsreadI.getD 15 default) (X) (w' := W1) (by kernel_rfl) (by kernel_rfl) (by kernel_rfl) (.inl (by kernel_rfl)) S1 <| wpAnyH_run (i := 16) (opsreadI.getD 16 default) (.int .i64 (k : Int)) (w' := W1) (by kernel_rfl) (by kernel_rfl) (by kernel_rfl) (.inl (by kernel_rfl)) S1 <| wpAnyH_run (i := 17) (opsreadI.getD 17 default) (.int .i64 er) (w' := W1) (by kernel_rfl) (by kernel_rfl) (by kernel_rfl) (.inl (by kernel_rfl)) S1 ?_
    refine wpAnyH_done (by kernel_rfl) ?_ _
    refine NoPanic.normal <| state_eq (b := ⟨#[.pointer (some ⟨b, 0, none⟩), .func (.func f) #[] caps, ud, ud, .int .i64 0, .int .i64 0, X, .int .i64 (k : Int), .int .i64 er, .pointer (some ⟨b, 0, none⟩), .bool false, .bool false, .pointer (some ⟨b, 0, none⟩), .pointer (some ⟨b, 0, none⟩), .pointer (some ⟨b, 3, none⟩), .pointer none, .bool false, .bool false, ud, .tuple #[X, .int .i64 (k : Int), .int .i64 er], .func (.func f) #[] caps, .pointer (some ⟨b, 0, none⟩), .pointer (some ⟨b, 0, none⟩), .pointer (some ⟨b, 0, none⟩), .slice A l.length cap, .pointer (some ⟨b, 0, none⟩), .pointer (some ⟨b, 0, none⟩), .pointer (some ⟨b, 1, none⟩), .int .i64 (at_ : Int), cutV A l.length cap at_, .tuple #[X, .int .i64 (k : Int), .int .i64 er], X, .int .i64 (k : Int), .int .i64 er, ud, ud, ud, ud, ud, ud, ud, ud, ud, ud, ud, ud, ud, ud, ud, ud, ud, ud, ud], []⟩) (by kernel_rfl) ?_
    have HX := Lib.hid hX
    have hbW := cb W1 S1
    have a1 : W1.cell? ⟨b, 1, none⟩ = some (.int .i64 (at_ : Int)) := (cell_of_row W1 b 1 _ _ _ hbW).trans rfl
    have a2 : W1.frozen? ⟨b, 1, none⟩ = false := frozen_of_row W1 b 1 _ _ hbW
    have HBW := Lib.hid hbW
    clear cb hX hbW
    generalize cutV A l.length cap at_ = cv at *
    by_cases he : er = 0
    · subst he
      have hkk := HK.out rfl
      rw [HP.out] at hkk
      go_wp2_with fail
      go_ret
      try simp only [if_true]
      have hkS : Keeps (One b) W1 (W1.setCell ⟨b, 1, none⟩ (.int .i64 ((at_ : Int) + k))) := (Keeps.refl _ _).setOne _
      have hkw : Keeps (One b) w (W1.setCell ⟨b, 1, none⟩ (.int .i64 ((at_ : Int) + k))) := (S1.mono (fun _ _ x => x.elim)).trans hkS
      refine ⟨_, rfl, .inl ⟨H0.out, rfl, HPX.out _ _ _ HX.out hkS⟩, ⟨.pointer none, ⟨⟨at_ + k, ?_, by omega, .inl ⟨rfl, by rw [HP.out]; simp, rfl⟩⟩, H.out.bytes.keeps hkw (fun j hj (e : j = b) => H.out.own (by rw [hj, e])), H.out.own⟩, .inl rfl⟩, hkw⟩
      rw [show (((at_ + k : Nat)) : Int) = (at_ : Int) + k by omega]
      exact heap_setCell_same W1 b 1 _ _ _ HBW.out
    · have hb : (er != 0) = true := by simpa using he
      have HFa := Lib.hid (rFail_ok b (.slice A l.length cap) (.pointer none) l s er (at_ : Int) W1 (H.out.keeps S1 (fun _ _ x => x)))
      have hs : s.fail er (at_ : Int) = ⟨er, s.pos⟩ := by unfold RS.fail; rw [if_pos ⟨H0.out, he⟩, HP.out]
      rw [hs] at HFa
      have HE := Lib.hid he
      clear hs he
      go_wp2_with (go_at_call 44; refine HFa.out.mono ?_; rintro e w' ⟨⟨r, rfl⟩, ⟨fp', h1, h2⟩, h3⟩; have H1 := Lib.hid h1; have H2 := Lib.hid h2; clear h1 h2)
      go_ret
      try simp only [if_neg HE.out]
      refine ⟨_, rfl, .inr ⟨fun h => HE.out h.2, rfl⟩, ⟨fp', H1.out, ?_⟩, (S1.mono (fun _ _ x => x.elim)).trans h3⟩
      rcases H2.out with h | ⟨g, h, hg⟩
      · exact .inl h
      · exact .inr ⟨g, h, Nat.le_trans S1.size hg⟩
  · have e1 : s.read k er = s := by unfold RS.read; rw [if_neg h0]
    rw [e1]
    have HE := Lib.hid h0
    clear e1 h0 hc HF0 hk0
    go_enter Tryz.func71, Tryz.ntmps71
    go_wp2_with (go_at_call 74; refine HN.out.mono ?_; rintro e w' ⟨rfl, rfl⟩)
    go_ret
    exact ⟨_, rfl, .inr ⟨fun h => HE.out h.1, rfl⟩, ⟨_, H.out, .inl rfl⟩, Keeps.refl _ _⟩
end Go.Proofs.YtghohakbepeffaaGreatDoor
namespace Go.Proofs.YtghohakbepeffaaGreatDoor
set_option maxRecDepth 100000
set_option maxHeartbeats 4000000
open Go Go.RowKit Go.Own Go.Shelf
/-- The number that stands at a reader's place. -/
def RS.num (s : RS) (l : List UInt8) : Nat × Nat × Int := Cod.num (l.drop s.pos.toNat)
theorem RS.num_le (s : RS) (l : List UInt8) (h0 : 0 ≤ s.pos) (hl : s.pos ≤ l.length) (he : (s.num l).2.2 = 0) : s.pos + (s.num l).2.1 ≤ l.length := by
  have := (Cod.num_ok _ he).2.2.1
  rw [List.length_drop] at this
  unfold RS.num
  omega
theorem RdAt.pos {w : World} {b : Nat} {v fp : Value} {l : List UInt8} {s : RS} (h : RdAt w b v fp l s) (h0 : s.err = 0) : 0 ≤ s.pos ∧ s.pos ≤ l.length := by
  obtain ⟨at_, hb, hl, hf⟩ := h.ex
  rcases hf with ⟨_, hp, _⟩ | ⟨h1, _⟩
  · omega
  · exact absurd h0 h1
/-- U: what is told, and the state behind. -/
def rdU (l : List UInt8) (s : RS) : Int × RS := (if s.err = 0 ∧ (s.num l).2.2 = 0 then ((s.num l).1 : Int) else 0, s.read (s.num l).2.1 (s.num l).2.2)
theorem rU_ok (b : Nat) (v fp : Value) (l : List UInt8) (s : RS) (w : World) (h : RdAt w b v fp l s) :
    Calls Tryz.prog 45 #[.pointer (some ⟨b, 0, none⟩)] w fun e w' => e = .returned (.int .u64 (rdU l s).1) ∧ (∃ fp', RdAt w' b v fp' l (rdU l s).2 ∧ NewPtr w fp fp') ∧ Keeps (One b) w w' := by
  have HC := Lib.hid (readU_core 73 #[] (enters_of Tryz.func73 (by kernel_rfl) rfl) b v fp l s w h (s.num l).2.1 (s.num l).2.2 (fun _ X => X = .int .u64 ((s.num l).1 : Int))
    (fun h0 W A cap hv hW => by
      subst hv
      refine (number_ok _ _ W ((h.bytes.drop s.pos.toNat (by have := h.pos h0; omega) _ _ _ rfl).keepsN hW)).mono ?_
      rintro e W' ⟨rfl, rfl⟩
      exact ⟨_, rfl, rfl, Keeps.refl _ _⟩)
    (fun _ _ _ h _ => h) (fun h0 he => s.num_le l (h.pos h0).1 (h.pos h0).2 he))
  clear h
  go_enter Tryz.func45, Tryz.ntmps45
  go_wp2_with (go_at_call 75; refine HC.out.mono ?_; rintro e w' ⟨V, rfl, h1, h2, h3⟩; have H1 := Lib.hid h1; have H2 := Lib.hid h2; clear h1 h2)
  go_ret
  unfold rdU
  refine ⟨?_, H2.out, h3⟩
  rcases H1.out with ⟨a, b, rfl⟩ | ⟨a, rfl⟩
  · rw [if_pos ⟨a, b⟩]; rfl
  · rw [if_neg a]; rfl
/-- Is a number out of bounds? -/
def outN (n : Nat) (least most : Int) : Prop := most < 0 ∨ most < (n : Int) ∨ (0 < least ∧ (n : Int) < least)
instance (n : Nat) (least most : Int) : Decidable (outN n least most) := by unfold outN; infer_instance
def errN (r : Nat × Nat × Int) (least most : Int) : Int := if r.2.2 = 0 ∧ outN r.1 least most then 3 else r.2.2
theorem rN1_ok (v : Value) (l : List UInt8) (least most : Int) (b1 b2 : Nat) (w : World) (hv : BytesAt w v l) (h1 : w.cell? ⟨b1, 0, none⟩ = some (.int .i64 most)) (h2 : w.cell? ⟨b2, 0, none⟩ = some (.int .i64 least))
   (m1 : -9223372036854775808 ≤ most ∧ most ≤ 9223372036854775807) (m2 : -9223372036854775808 ≤ least ∧ least ≤ 9223372036854775807) :
    Calls Tryz.prog 72 #[v, .pointer (some ⟨b1, 0, none⟩), .pointer (some ⟨b2, 0, none⟩)] w fun e w' => e = .returned (.tuple #[.int .i64 (wrap64 ((Cod.num l).1 : Int)), .int .i64 ((Cod.num l).2.1 : Int), .int .i64 (errN (Cod.num l) least most)]) ∧ w = w' := by
  have HN := Lib.hid (number_ok v l w hv)
  have hn64 : (Cod.num l).2.2 = 0 → (Cod.num l).1 < 18446744073709551616 := fun h => by have := (Cod.num_ok l h).1; simpa using this
  clear hv
  obtain ⟨er, her⟩ : ∃ er, errN (Cod.num l) least most = er := ⟨_, rfl⟩
  rw [her]
  unfold errN outN at her
  generalize Cod.num l = r at *
  obtain ⟨n, k, e⟩ := r
  simp only at her hn64 HN ⊢
  obtain ⟨m1a, m1b⟩ := m1
  obtain ⟨m2a, m2b⟩ := m2
  by_cases he : e = 0
  · subst he
    have hn := hn64 rfl
    clear hn64
    by_cases a1 : most < 0
    · obtain rfl : er = 3 := by rw [← her, if_pos ⟨rfl, .inl a1⟩]
      clear her
      go_enter Tryz.func72, Tryz.ntmps72
      go_wp2_with (go_at_call 73; refine HN.out.mono ?_; rintro e w' ⟨rfl, rfl⟩)
      go_ret3
      exact ⟨rfl, rfl⟩
    · have d1 : decide (most < 0) = false := by simpa using a1
      have w1 : IntKind.u64.wrap most = most := by simp [IntKind.wrap, IntKind.bits, IntKind.signed]; omega
      by_cases a2 : most < (n : Int)
      · obtain rfl : er = 3 := by rw [← her, if_pos ⟨rfl, .inr (.inl a2)⟩]
        clear her
        have d2 : decide (most < (n : Int)) = true := by simpa using a2
        go_enter Tryz.func72, Tryz.ntmps72
        go_wp2_with (go_at_call 73; refine HN.out.mono ?_; rintro e w' ⟨rfl, rfl⟩)
        go_ret3
        exact ⟨rfl, rfl⟩
      · have d2 : decide (most < (n : Int)) = false := by simpa using a2
        rw [IntWalk.wrap64_in (n : Int) ⟨by omega, by omega⟩]
        by_cases a3 : 0 < least
        · have d3 : decide (0 < least) = true := by simpa using a3
          have w2 : IntKind.u64.wrap least = least := by simp [IntKind.wrap, IntKind.bits, IntKind.signed]; omega
          by_cases a4 : (n : Int) < least
          · obtain rfl : er = 3 := by rw [← her, if_pos ⟨rfl, .inr (.inr ⟨a3, a4⟩)⟩]
            clear her
            have d4 : decide ((n : Int) < least) = true := by simpa using a4
            go_enter Tryz.func72, Tryz.ntmps72
            go_wp2_with (go_at_call 73; refine HN.out.mono ?_; rintro e w' ⟨rfl, rfl⟩)
            go_ret3
            exact ⟨rfl, rfl⟩
          · obtain rfl : er = 0 := by rw [← her, if_neg (by omega)]
            clear her
            have d4 : decide ((n : Int) < least) = false := by simpa using a4
            go_enter Tryz.func72, Tryz.ntmps72
            go_wp2_with (go_at_call 73; refine HN.out.mono ?_; rintro e w' ⟨rfl, rfl⟩)
            go_ret3
            exact ⟨rfl, rfl⟩
        · obtain rfl : er = 0 := by rw [← her, if_neg (by omega)]
          clear her
          have d3 : decide (0 < least) = false := by simpa using a3
          go_enter Tryz.func72, Tryz.ntmps72
          go_wp2_with (go_at_call 73; refine HN.out.mono ?_; rintro e w' ⟨rfl, rfl⟩)
          go_ret3
          exact ⟨rfl, rfl⟩
  · obtain rfl : er = e := by rw [← her, if_neg (fun h => he h.1)]
    have hb : (er == 0) = false := by simpa using he
    clear her hn64
    go_enter Tryz.func72, Tryz.ntmps72
    go_wp2_with (go_at_call 73; refine HN.out.mono ?_; rintro e w' ⟨rfl, rfl⟩)
    go_ret3
    exact ⟨rfl, rfl⟩
/-- N: what is told, and the state behind. -/
def rdN (l : List UInt8) (s : RS) (least most : Int) : Int × RS := (if s.err = 0 ∧ errN (s.num l) least most = 0 then ((s.num l).1 : Int) else 0, s.read (s.num l).2.1 (errN (s.num l) least most))
theorem errN_zero {r : Nat × Nat × Int} {least most : Int} (h : errN r least most = 0) : r.2.2 = 0 ∧ 0 ≤ most ∧ (r.1 : Int) ≤ most ∧ (0 < least → least ≤ r.1) := by
  unfold errN outN at h
  split at h
  · omega
  · rename_i h1
    refine ⟨h, ?_⟩
    have h2 := fun x => h1 ⟨h, x⟩
    omega
theorem rN_ok (b : Nat) (v fp : Value) (l : List UInt8) (s : RS) (least most : Int) (w : World) (h : RdAt w b v fp l s)
   (m2 : -9223372036854775808 ≤ least ∧ least ≤ 9223372036854775807) (m1 : -9223372036854775808 ≤ most ∧ most ≤ 9223372036854775807) :
    Calls Tryz.prog 42 #[.pointer (some ⟨b, 0, none⟩), .int .i64 least, .int .i64 most] w fun e w' => e = .returned (.int .i64 (rdN l s least most).1) ∧ (∃ fp', RdAt w' b v fp' l (rdN l s least most).2 ∧ NewPtr w fp fp') ∧ Keeps (One b) w w' := by
  have hkA : Keeps Nob w ((w.alloc (.cells #[.int .i64 least] 3)).alloc (.cells #[.int .i64 most] 3)) := ((Keeps.refl _ _).alloc _).alloc _
  have c1 : ((w.alloc (.cells #[.int .i64 least] 3)).alloc (.cells #[.int .i64 most] 3)).cell? ⟨w.heap.size + 1, 0, none⟩ = some (.int .i64 most) := (World.cell?_alloc_at _ _ _ _ (by simp)).trans rfl
  have c2 : ((w.alloc (.cells #[.int .i64 least] 3)).alloc (.cells #[.int .i64 most] 3)).cell? ⟨w.heap.size, 0, none⟩ = some (.int .i64 least) := (World.cell?_alloc_lt _ _ _ (by simp)).trans ((World.cell?_alloc_at _ _ _ _ rfl).trans rfl)
  have hb1 : w.heap.size + 1 < ((w.alloc (.cells #[.int .i64 least] 3)).alloc (.cells #[.int .i64 most] 3)).heap.size := by simp
  have hA := h.keeps hkA (fun _ _ x => x)
  have HC := Lib.hid (readI_core 72 #[.pointer (some ⟨w.heap.size + 1, 0, none⟩), .pointer (some ⟨w.heap.size, 0, none⟩)] (enters_of Tryz.func72 (by kernel_rfl) rfl) b v fp l s _ hA (s.num l).2.1 (errN (s.num l) least most) (fun _ X => X = .int .i64 (wrap64 ((s.num l).1 : Int)))
    (fun h0 W A cap hv hW => by
      subst hv
      refine (rN1_ok _ _ least most _ _ W ((hA.bytes.drop s.pos.toNat (by have := hA.pos h0; omega) _ _ _ rfl).keepsN hW) ((hW.cell hb1 (fun x => x)).trans c1) ((hW.cell (by omega) (fun x => x)).trans c2) m1 m2).mono ?_
      rintro e W' ⟨rfl, rfl⟩
      exact ⟨_, rfl, rfl, Keeps.refl _ _⟩)
    (fun _ _ _ h _ => h) (fun h0 he => s.num_le l (h.pos h0).1 (h.pos h0).2 (errN_zero he).1))
  have HKA := Lib.hid hkA
  clear h hA c1 c2 hb1 hkA
  have hmf : ∀ (fn : Fn) (first cap : Array Value) (w : World), (Instr.makeFunc fn first cap).run Tryz.prog w = .ok (.func fn first cap) w := fun _ _ _ _ => rfl
  obtain ⟨m1a, m1b⟩ := m1
  go_enter Tryz.func42, Tryz.ntmps42
  go_wp2_with (go_at_call 71; refine HC.out.mono ?_; rintro e w' ⟨V, rfl, h1, h2, h3⟩; have H1 := Lib.hid h1; have H2 := Lib.hid h2; clear h1 h2)
  go_ret
  obtain ⟨fp', h2, h3'⟩ := H2.out
  refine ⟨?_, ⟨fp', h2, ?_⟩, (HKA.out.mono (fun _ _ x => x.elim)).trans h3⟩
  · unfold rdN
    rcases H1.out with ⟨a, b, rfl⟩ | ⟨a, rfl⟩
    · have hz := errN_zero b
      rw [if_pos ⟨a, b⟩, IntWalk.wrap64_in ((s.num l).1 : Int) ⟨by omega, by omega⟩]; rfl
    · rw [if_neg a]; rfl
  · rcases h3' with h | ⟨g, h, hg⟩
    · exact .inl h
    · exact .inr ⟨g, h, Nat.le_trans HKA.out.size hg⟩
end Go.Proofs.YtghohakbepeffaaGreatDoor
namespace Go.Proofs.YtghohakbepeffaaGreatDoor
set_option maxRecDepth 100000
set_option maxHeartbeats 4000000
open Go Go.RowKit Go.Own Go.Shelf
def RS.rest (s : RS) (l : List UInt8) : List UInt8 := l.drop s.pos.toNat
end Go.Proofs.YtghohakbepeffaaGreatDoor
namespace Go.Proofs.YtghohakbepeffaaGreatDoor
set_option maxRecDepth 100000
set_option maxHeartbeats 4000000
open Go Go.RowKit Go.Own Go.Shelf
end Go.Proofs.YtghohakbepeffaaGreatDoor
namespace Go.Proofs.YtghohakbepeffaaGreatDoor
set_option maxRecDepth 100000
set_option maxHeartbeats 4000000
open Go Go.RowKit Go.Own Go.Shelf
end Go.Proofs.YtghohakbepeffaaGreatDoor
namespace Go.Proofs.YtghohakbepeffaaGreatDoor
set_option maxRecDepth 100000
set_option maxHeartbeats 4000000
open Go Go.RowKit Go.Own Go.Shelf
def Rd (w : World) (F : Nat → Prop) (b : Nat) (l : List UInt8) (s : RS) : Prop := ∃ v fp, RdAt w b v fp l s ∧ (∀ j, v.ownBlock = some j → j < w.heap.size) ∧ F = rdBlk b v fp
section
variable {w w' : World} {F M : Nat → Prop} {b : Nat} {l : List UInt8} {s s' : RS}
theorem Rd.lt (h : Rd w F b l s) : Lt F w := by
  obtain ⟨v, fp, h1, h2, rfl⟩ := h
  intro j hj
  rcases hj with rfl | hj | hj
  · exact h1.lt
  · exact h2 j hj
  · obtain ⟨at_, hb, hl, hf⟩ := h1.ex
    rcases hf with ⟨_, _, rfl⟩ | ⟨_, g, rfl, _, hc⟩
    · cases hj
    · cases hj; exact lt_of_block hc
theorem Rd.keeps (h : Rd w F b l s) (k : Keeps M w w') (d : Dis F M) : Rd w' F b l s := by
  obtain ⟨v, fp, h1, h2, rfl⟩ := h
  exact ⟨v, fp, h1.keeps k d, fun j hj => Nat.lt_of_lt_of_le (h2 j hj) k.size, rfl⟩
theorem Rd.keepsN (h : Rd w F b l s) (k : Keeps Nob w w') : Rd w' F b l s := h.keeps k (fun _ _ x => x)
theorem rdr_step {v fp fp' : Value} (h : RdAt w b v fp l s) (hv : ∀ j, v.ownBlock = some j → j < w.heap.size) (hr : RdAt w' b v fp' l s') (hn : NewPtr w fp fp') (k : Keeps (One b) w w') :
    ∃ F', Rd w' F' b l s' ∧ Step w w' (rdBlk b v fp) F' := by
  have hv' := fun j hj => Nat.lt_of_lt_of_le (hv j hj) k.size
  have hR : Rd w' (rdBlk b v fp') b l s' := ⟨v, fp', hr, hv', rfl⟩
  refine ⟨_, hR, k.mono (fun _ _ e => .inl e), fun j hj => ?_⟩
  rcases hj with hj | hj | hj
  · exact .inl (.inl hj)
  · exact .inl (.inr (.inl hj))
  · rcases hn with rfl | ⟨g, rfl, hg⟩
    · exact .inl (.inr (.inr hj))
    · refine .inr ⟨?_, hR.lt j (.inr (.inr hj))⟩
      cases hj; exact hg
def RPost (w : World) (F : Nat → Prop) (b : Nat) (l : List UInt8) (x : Value) (s' : RS) (e : Ending) (w' : World) : Prop := e = .returned x ∧ ∃ F', Rd w' F' b l s' ∧ Step w w' F F'
theorem Rd.u (h : Rd w F b l s) : Calls Tryz.prog 45 #[.pointer (some ⟨b, 0, none⟩)] w (RPost w F b l (.int .u64 (rdU l s).1) (rdU l s).2) := by
  obtain ⟨v, fp, h1, h2, rfl⟩ := h
  exact (rU_ok b v fp l s w h1).mono fun e w' ⟨he, ⟨fp', h3, h4⟩, h5⟩ => ⟨he, rdr_step h1 h2 h3 h4 h5⟩
theorem Rd.n (h : Rd w F b l s) (least most : Int) (m2 : -9223372036854775808 ≤ least ∧ least ≤ 9223372036854775807) (m1 : -9223372036854775808 ≤ most ∧ most ≤ 9223372036854775807) :
    Calls Tryz.prog 42 #[.pointer (some ⟨b, 0, none⟩), .int .i64 least, .int .i64 most] w (RPost w F b l (.int .i64 (rdN l s least most).1) (rdN l s least most).2) := by
  obtain ⟨v, fp, h1, h2, rfl⟩ := h
  exact (rN_ok b v fp l s least most w h1 m2 m1).mono fun e w' ⟨he, ⟨fp', h3, h4⟩, h5⟩ => ⟨he, rdr_step h1 h2 h3 h4 h5⟩
theorem Rd.at_ (h : Rd w F b l s) : Calls Tryz.prog 43 #[.pointer (some ⟨b, 0, none⟩)] w fun e w' => e = .returned (.int .i64 s.pos) ∧ w = w' := by
  obtain ⟨v, fp, h1, _, _⟩ := h
  exact rAt_ok b v fp l s w h1
theorem Rd.fin (h : Rd w F b l s) : Calls Tryz.prog 46 #[.pointer (some ⟨b, 0, none⟩)] w fun e w' => e = .returned (.agg #[.int .i64 (s.fin l).1, .int .i64 (s.fin l).2]) ∧ Keeps Nob w w' := by
  obtain ⟨v, fp, h1, _, _⟩ := h
  exact rEnd_ok b v fp l s w h1
theorem rd_new (a : Value) (l : List UInt8) (w : World) (ha : BytesAt w a l) (hl : l.length ≤ 100000000) :
    Calls Tryz.prog 41 #[a] w fun e w' => ∃ b F, e = .returned (.pointer (some ⟨b, 0, none⟩)) ∧ Rd w' F b l ⟨0, 0⟩ ∧ Ge F w ∧ Keeps Nob w w' :=
  (newReader_ok a l w ha hl).mono fun e w' ⟨b, v, he, hr, hb, hf, hk⟩ => by
    refine ⟨b, _, he, ⟨v, _, hr, fun j hj => (hf j hj).2, rfl⟩, ?_, hk⟩
    intro j hj
    rcases hj with rfl | hj | hj
    · exact hb
    · exact (hf j hj).1
    · cases hj
end
end Go.Proofs.YtghohakbepeffaaGreatDoor
namespace Go.Proofs.YtghohakbepeffaaGreatDoor
set_option maxRecDepth 100000
set_option maxHeartbeats 4000000
open Go Go.RowKit Go.Own Go.Shelf
theorem nrdU_nn (l : List UInt8) (s : RS) : (((rdU l s).1.toNat : Nat) : Int) = (rdU l s).1 := by
  unfold rdU; simp only; split <;> omega
theorem nrdN_le (l : List UInt8) (s : RS) (lo hi : Int) : 0 ≤ (rdN l s lo hi).1 ∧ ((rdN l s lo hi).1 ≤ hi ∨ (rdN l s lo hi).1 = 0) := by
  unfold rdN
  simp only
  split
  · rename_i h
    have h2 := h.2
    unfold errN at h2
    split at h2
    · cases h2
    · rename_i hn
      unfold outN at hn
      omega
  · omega
theorem Rd.fail {w : World} {F : Nat → Prop} {b : Nat} {l : List UInt8} {s : RS} (h : Rd w F b l s) (e p : Int) : Calls Tryz.prog 44 #[.pointer (some ⟨b, 0, none⟩), .int .i64 e, .int .i64 p] w fun x w' => (∃ r, x = .returned r) ∧ ∃ F', Rd w' F' b l (s.fail e p) ∧ Step w w' F F' := by
  obtain ⟨v, fp, h1, h2, rfl⟩ := h
  exact (rFail_ok b v fp l s e p w h1).mono fun x w' ⟨h0, ⟨fp', h3, h4⟩, h5⟩ => ⟨h0, rdr_step h1 h2 h3 h4 h5⟩
theorem rd_fin {w : World} {F : Nat → Prop} {b : Nat} {l : List UInt8} {s : RS} {fe fp : Int} (h : Rd w F b l s) (h1 : (s.fin l).1 = fe) (h2 : (s.fin l).2 = fp) : Calls Tryz.prog 46 #[.pointer (some ⟨b, 0, none⟩)] w fun e w' => e = .returned (.agg #[.int .i64 fe, .int .i64 fp]) ∧ Keeps Nob w w' := h1 ▸ h2 ▸ h.fin
theorem results_tmp_row {P : Program} {fn : Func} {p q : Tmp} {ty : TypeId} (h : fn.results = #[.tmp p, .cell q ty]) (tmps : Array Value) (w : World) (g : Nat) (t : TypeId) (cs : Array Value) (fr : Nat × Nat) (d : TypeDesc) (v : Value)
    (hp : tmps.getD q undef = .pointer (some ⟨g, 0, none⟩)) (hg : w.heap[g]? = some (.cells cs t fr))
    (hu : P.underlying ty = some d) (hd : (match d with | .struct _ | .array _ _ => true | _ => false) = true) (hi : (P.info? ty).map (·.size) = some cs.size) (hq : tmps.getD p undef = v) :
    (results fn tmps).run P w = .ok (.tuple #[v, .agg cs]) w := by
  have hp' : tmps[q]?.getD undef = .pointer (some ⟨g, 0, none⟩) := by simpa using hp
  have hq' : tmps[p]?.getD undef = v := by simpa using hq
  simp [results, h, hp', hq', asAddr, run_loadVar_row w g t ty cs fr d hg hu hd hi]
def nrH (l : List UInt8) (s : RS) : Int := (rdN l s 1 4294967296).1
/-- The reader behind a height, 'out' being the notes ahead. -/
def nrS (l : List UInt8) (out : List Nt) (s : RS) : RS := match out.getLast? with | some y => if nrH l s < y.h then (rdN l s 1 4294967296).2.fail 9 s.pos else (rdN l s 1 4294967296).2 | none => (rdN l s 1 4294967296).2
def nrK (l : List UInt8) (s : RS) : Nat := (rdU l s).1.toNat
def nrT (l : List UInt8) (s : RS) : RS := if 4611686018427387904 < nrK l s then (rdU l s).2.fail 3 s.pos else (rdU l s).2
def nrgo : Nat → List Nt → List UInt8 → RS → List Nt × RS
  | 0, out, _, s => (out, s)
  | m + 1, out, l, s => nrgo m (out ++ [⟨nrH l s, nrK l (nrS l out s)⟩]) l (nrT l (nrS l out s))
def nrN (l : List UInt8) : Nat := (rdN l ⟨0, 0⟩ 0 64).1.toNat
def nres (l : List UInt8) : List Nt × RS := nrgo (nrN l) [] l (rdN l ⟨0, 0⟩ 0 64).2
/-- What Read tells. -/
def nread (l : List UInt8) : List Nt × Int × Int := if ((nres l).2.fin l).1 = 0 then ((nres l).1, 0, 0) else ([], ((nres l).2.fin l).1, ((nres l).2.fin l).2)
theorem nrN_le (l : List UInt8) : (rdN l ⟨0, 0⟩ 0 64).1 = ((nrN l : Nat) : Int) ∧ nrN l ≤ 64 := by
  have := nrdN_le l ⟨0, 0⟩ 0 64
  unfold nrN; omega
theorem nrH_le (l : List UInt8) (s : RS) : 0 ≤ nrH l s ∧ nrH l s ≤ 4294967296 := by
  have := nrdN_le l s 1 4294967296
  unfold nrH; omega
theorem nrS_none {l : List UInt8} {out : List Nt} {s : RS} (h : out.length = 0) : nrS l out s = (rdN l s 1 4294967296).2 := by
  obtain rfl := List.eq_nil_of_length_eq_zero h; rfl
theorem nlast {out : List Nt} {i : Nat} (h : out.length = i) (hi : 0 < i) : ∃ y, out[i - 1]? = some y ∧ out.getLast? = some y := by
  obtain ⟨y, hy⟩ : ∃ y, out.getLast? = some y := by
    cases e : out.getLast? with
    | none => rw [List.getLast?_eq_none_iff] at e; subst e; simp at h; omega
    | some y => exact ⟨y, rfl⟩
  exact ⟨y, by rw [← h, ← List.getLast?_eq_getElem?]; exact hy, hy⟩
theorem nrS_yes {l : List UInt8} {out : List Nt} {s : RS} {y : Nt} (h : out.getLast? = some y) (hc : nrH l s < y.h) : nrS l out s = (rdN l s 1 4294967296).2.fail 9 s.pos := by unfold nrS; rw [h]; exact if_pos hc
theorem nrS_not {l : List UInt8} {out : List Nt} {s : RS} {y : Nt} (h : out.getLast? = some y) (hc : ¬ nrH l s < y.h) : nrS l out s = (rdN l s 1 4294967296).2 := by unfold nrS; rw [h]; exact if_neg hc
theorem nrgo_step {m i : Nat} {out : List Nt} {l : List UInt8} {s : RS} (hi : i < m) (h : nrgo (m - i) out l s = nres l) : nrgo (m - (i + 1)) (out ++ [⟨nrH l s, nrK l (nrS l out s)⟩]) l (nrT l (nrS l out s)) = nres l := by
  rw [show m - i = (m - (i + 1)) + 1 by omega, nrgo] at h; exact h
theorem nread_ok {m i : Nat} {out : List Nt} {l : List UInt8} {s : RS} (hi : i = m) (h : nrgo (m - i) out l s = nres l) (h0 : (s.fin l).1 = 0) : nread l = (out, 0, 0) := by
  rw [hi, Nat.sub_self, nrgo] at h
  unfold nread; rw [← h, if_pos h0]
theorem nread_no {m i : Nat} {out : List Nt} {l : List UInt8} {s : RS} (hi : i = m) (h : nrgo (m - i) out l s = nres l) (h0 : ¬ (s.fin l).1 = 0) : nread l = ([], (s.fin l).1, (s.fin l).2) := by
  rw [hi, Nat.sub_self, nrgo] at h
  unfold nread; rw [← h, if_neg h0]
/-- Which round this is. -/
theorem nread_cases (n i : Nat) (out : List Nt) (l : List UInt8) (s : RS) (hi : i ≤ n) (hlen : out.length = i) : (i < n ∧ i = 0 ∧ ¬ 4611686018427387904 < nrK l (nrS l out s)) ∨ (i < n ∧ i = 0 ∧ 4611686018427387904 < nrK l (nrS l out s)) ∨
    (i < n ∧ 0 < i ∧ (∃ y, out[i - 1]? = some y ∧ out.getLast? = some y ∧ ¬ nrH l s < y.h) ∧ ¬ 4611686018427387904 < nrK l (nrS l out s)) ∨ (i < n ∧ 0 < i ∧ (∃ y, out[i - 1]? = some y ∧ out.getLast? = some y ∧ ¬ nrH l s < y.h) ∧ 4611686018427387904 < nrK l (nrS l out s)) ∨
    (i < n ∧ 0 < i ∧ (∃ y, out[i - 1]? = some y ∧ out.getLast? = some y ∧ nrH l s < y.h) ∧ ¬ 4611686018427387904 < nrK l (nrS l out s)) ∨ (i < n ∧ 0 < i ∧ (∃ y, out[i - 1]? = some y ∧ out.getLast? = some y ∧ nrH l s < y.h) ∧ 4611686018427387904 < nrK l (nrS l out s)) ∨
    (i = n ∧ (s.fin l).1 = 0) ∨ (i = n ∧ ¬ (s.fin l).1 = 0) := by
  by_cases h : i < n
  · by_cases h1 : i = 0
    · by_cases h2 : 4611686018427387904 < nrK l (nrS l out s)
      · exact .inr (.inl ⟨h, h1, h2⟩)
      · exact .inl ⟨h, h1, h2⟩
    · obtain ⟨y, hy, hy2⟩ := nlast hlen (by omega)
      by_cases h2 : 4611686018427387904 < nrK l (nrS l out s) <;> by_cases h3 : nrH l s < y.h
      · exact .inr (.inr (.inr (.inr (.inr (.inl ⟨h, by omega, ⟨y, hy, hy2, h3⟩, h2⟩)))))
      · exact .inr (.inr (.inr (.inl ⟨h, by omega, ⟨y, hy, hy2, h3⟩, h2⟩)))
      · exact .inr (.inr (.inr (.inr (.inl ⟨h, by omega, ⟨y, hy, hy2, h3⟩, h2⟩))))
      · exact .inr (.inr (.inl ⟨h, by omega, ⟨y, hy, hy2, h3⟩, h2⟩))
  · by_cases h2 : (s.fin l).1 = 0
    · exact .inr (.inr (.inr (.inr (.inr (.inr (.inl ⟨by omega, h2⟩))))))
    · exact .inr (.inr (.inr (.inr (.inr (.inr (.inr ⟨by omega, h2⟩))))))
theorem nrK_lt (l : List UInt8) (s : RS) : nrK l s < 18446744073709551616 := by
  unfold nrK rdU; simp only; split
  · rename_i h; have := (Cod.num_ok _ h.2).1; rw [Int.toNat_natCast]; exact this
  · simp
theorem rdn_is {w : World} {F : Nat → Prop} {b : Nat} {l : List UInt8} {s s1 : RS} {x y : Int} {args : Array Value} (h1 : x = y) (h2 : s = s1) (h : Calls Tryz.prog 42 args w (RPost w F b l (.int .i64 x) s)) : Calls Tryz.prog 42 args w (RPost w F b l (.int .i64 y) s1) := h1 ▸ h2 ▸ h
theorem rdu_is {w : World} {F : Nat → Prop} {b : Nat} {l : List UInt8} {s s1 : RS} {n : Nat} {args : Array Value} (h1 : nrK l s = n) (h2 : (rdU l s).2 = s1) (h : Calls Tryz.prog 45 args w (RPost w F b l (.int .u64 (rdU l s).1) (rdU l s).2)) : Calls Tryz.prog 45 args w (RPost w F b l (.int .u64 ((n : Nat) : Int)) s1) := by
  subst h1; subst h2; unfold nrK; rw [nrdU_nn]; exact h
noncomputable def qc73_0 (n : Nat) : Code := partOf Tryz.f13 n
noncomputable abbrev qo73_0 (n k : Nat) : Oper := (opsAt (qc73_0 n)).getD k default
theorem nRead_ok (v0 : Value) (l : List UInt8) (w : World) (hx : BytesAt w v0 l) (hl : l.length ≤ 100000000) :
    Calls Tryz.prog 13 #[v0] w (fun e w' => ∃ X, e = .returned (.tuple #[X, .agg #[.int .i64 (nread l).2.1, .int .i64 (nread l).2.2]]) ∧ Row w' 46 2 X (nread l).1.length ((nread l).1.flatMap Nt.cl) ∧ NewFrom w.heap.size X ∧ Keeps Nob w w') := by
  obtain ⟨i2, hi2, hs0, hs1, hs2⟩ := info_parts note_info0
  obtain ⟨hm1, hm64⟩ := nrN_le l
  obtain ⟨m, hme⟩ : ∃ m, nrN l = m := ⟨_, rfl⟩
  obtain ⟨s0, qs0⟩ : ∃ x, (rdN l ⟨0, 0⟩ 0 64).2 = x := ⟨_, rfl⟩
  rw [hme] at hm1 hm64
  have hp0 : nrgo (m - 0) [] l s0 = nres l := by unfold nres; rw [hme, qs0]; rfl
  have K0 : Keeps Nob w w := Keeps.refl _ _
  refine sy_enter (qc73_0 1) ⟨#[v0, ud, ud, ud, ud, ud, ud, ud, ud, ud, ud, ud, ud, ud, ud, ud, ud, ud, ud, ud, ud, ud, ud, ud, ud, ud, ud, ud, ud, ud, ud, ud, ud, ud, ud, ud, ud, ud, ud, ud, ud, ud, ud, ud, ud, ud, ud, ud, ud, ud, ud, ud, ud, ud, ud, ud, ud, ud, ud, ud, ud, ud], []⟩ Tryz.func13 (by kernel_rfl) (by kernel_rfl) <| qr_ [0, 1] <| pkq (.slice none 0 0) <| pal 31 (#[.int .i64 0, .int .i64 0]) (.agg (#[.int .i64 0, .int .i64 0])) fun V1 r2 er2 h2 kV1 => ?_
  have n3 : w.heap.size ≤ r2 := er2 ▸ K0.size
  have K4 := K0.nn kV1
  have z5 := kV1.size
  refine eqr_ [0, 1, 2] <| pkq (v0) ?_
  have hr2_0 := lt_of_block h2
  have hKs0 := K4.size
  refine pcq 41 #[v0] Tryz.func41 ((rd_new v0 l _ (hx.keepsN K4) hl).mono ?_)
  rintro e V6 ⟨b, F0, rfl, hR0, hge0, kV6⟩
  have hd0 : ∀ j, F0 j → w.heap.size ≤ j ∧ j ≠ r2 := fun j h => by have := hge0 j h; omega
  refine ⟨_, rfl, ?_⟩
  have h7 := kV6.bk h2
  have K8 := K4.nn kV6
  have z9 := kV6.size
  refine pkq (pT b 0) <| eqr_ [0] <| pkq (.slice none 0 0) <| eq_ <| qr_ [0, 1, 2] <| pkq (pT b 0) ?_
  have hKs3 := K8.size
  have hr2_3 := lt_of_block h7
  refine pcq 42 #[pT b 0, .int .i64 0, .int .i64 64] Tryz.func42 ((rdn_is hm1 qs0 (Rd.n hR0 0 64 (by decide) (by decide))).mono ?_)
  rintro e V10 ⟨rfl, F1, hR1, hS1⟩
  have hd1 : ∀ j, F1 j → w.heap.size ≤ j ∧ j ≠ r2 ∧ ¬ (.slice none 0 0 : Value).ownBlock = some j := fun j h => (hS1.2 j h).elim (fun h => by have := hd0 j h; exact ⟨by omega, by omega, fun e => by cases e⟩) (fun h => ⟨by omega, by omega, fun e => by cases e⟩)
  refine ⟨_, rfl, ?_⟩
  have h11 : V10.heap[r2]? = some (.cells (#[.int .i64 0, .int .i64 0]) 31 (0, 0)) := (hS1.1.block r2 (lt_of_block h7) (fun e => by have := hd0 _ e; omega)).trans h7
  have K12 : Keeps Nob w V10 := K8.then hS1.1 (fun i hi hm => absurd hi (by have := hd0 i hm; omega))
  have z13 := hS1.1.size
  refine pkq (.int .i64 0) <| et_ <| bl_ 0 ?_
  refine sy_loop (qc73_0 244) (fun a V => ∃ (i : Nat) (out : List Nt) (s : RS) (v : Value) (Fi : Nat → Prop) (u6 u7 u8 u15 u16 u17 u18 u19 u20 u21 u22 u23 u24 u25 u26 u27 u28 u29 u30 u31 u32 u33 u34 u35 u36 u37 u38 u39 u40 u41 u42 u43 u44 u45 u46 u47 u48 u49 u50 u51 u52 u53 : Value), (a = ⟨#[v0, ud, .slice none 0 0, pT r2 0, pT b 0, v, u6, u7, u8, ud, v0, pT b 0, pT b 0, iN m, iN i, u15, u16, u17, u18, u19, u20, u21, u22, u23, u24, u25, u26, u27, u28, u29, u30, u31, u32, u33, u34, u35, u36, u37, u38, u39, u40, u41, u42, u43, u44, u45, u46, u47, u48, u49, u50, u51, u52, u53, ud, ud, ud, ud, ud, ud, ud, ud], []⟩) ∧ (i ≤ m) ∧ (out.length = i) ∧ (nrgo (m - i) out l s = nres l) ∧ (∀ j, Fi j → w.heap.size ≤ j ∧ j ≠ r2 ∧ ¬ v.ownBlock = some j) ∧ (NewFrom w.heap.size v) ∧ (V.heap[r2]? = some (.cells (#[.int .i64 0, .int .i64 0]) 31 (0, 0))) ∧ (Rd V Fi b l s) ∧ (Row V 46 2 v out.length (out.flatMap Nt.cl)) ∧ (Keeps Nob w V)) (fun a _ => m - (intOf (a.tmps.getD 14 undef)).toNat) (by kernel_rfl) ?_ ?_
  · exact ⟨0, [], s0, .slice none 0 0, F1, undef, undef, undef, undef, undef, undef, undef, undef, undef, undef, undef, undef, undef, undef, undef, undef, undef, undef, undef, undef, undef, undef, undef, undef, undef, undef, undef, undef, undef, undef, undef, undef, undef, undef, undef, undef, undef, undef, undef, undef, undef, undef, by kernel_rfl, by omega, rfl, hp0, hd1, NewFrom.nil _, h11, hR1, (World.ownsRow_nil _ _ _ _), K12⟩
  · rintro a V14 ⟨i, out, s, v, Fi, u6, u7, u8, u15, u16, u17, u18, u19, u20, u21, u22, u23, u24, u25, u26, u27, u28, u29, u30, u31, u32, u33, u34, u35, u36, u37, u38, u39, u40, u41, u42, u43, u44, u45, u46, u47, u48, u49, u50, u51, u52, u53, rfl, hi, hout, hp, hd_i, hnw, h15, h16, h17, K18⟩
    rcases nread_cases m i out l s hi hout with ⟨lt_i, h0, hbig⟩ | ⟨lt_i, h0, hbig⟩ | ⟨lt_i, h0, hyy, hbig⟩ | ⟨lt_i, h0, hyy, hbig⟩ | ⟨lt_i, h0, hyy, hbig⟩ | ⟨lt_i, h0, hyy, hbig⟩ | ⟨eq_i, hfin⟩ | ⟨eq_i, hfin⟩
    · skip
      obtain ⟨hh, hhe⟩ : ∃ x, nrH l s = x := ⟨_, rfl⟩
      obtain ⟨s1, qs1⟩ : ∃ x, (rdN l s 1 4294967296).2 = x := ⟨_, rfl⟩
      obtain ⟨s2, qs2e⟩ : ∃ x, nrS l out s = x := ⟨_, rfl⟩
      obtain ⟨kk, hke⟩ : ∃ x, nrK l s2 = x := ⟨_, rfl⟩
      obtain ⟨s3, qs3⟩ : ∃ x, (rdU l s2).2 = x := ⟨_, rfl⟩
      obtain ⟨s4, qs4e⟩ : ∃ x, nrT l s2 = x := ⟨_, rfl⟩
      have hhb := nrH_le l s
      have hkb := nrK_lt l s2
      have hpn := nrgo_step lt_i hp
      rw [qs2e] at hbig hpn
      rw [hke] at hbig hkb hpn
      rw [hhe] at hhb hpn
      rw [qs4e] at hpn
      have qs2 : s1 = s2 := by rw [← qs1, ← qs2e, nrS_none (hout.trans h0)]
      have qs4 : s3 = s4 := by rw [← qs4e, ← qs3]; unfold nrT; rw [hke, if_neg hbig]
      refine qr_ [0] <| ppq (.bool true) (dct ((((i : Nat) : Int)) < (((m : Nat) : Int))) (by omega)) <| eq_ <| y_ <| s_ <| tq_ <| bl_ 1 <| qr_ [0, 1] <| pkq (iN i) <| pkq (iN i) <| eqr_ [0, 1, 2] <| pkq (pT b 0) ?_
      refine pcq 43 #[pT b 0] Tryz.func43 ((Rd.at_ h16).mono ?_)
      rintro e w1 ⟨rfl, rfl⟩
      refine ⟨_, rfl, ?_⟩
      refine pkq (.int .i64 s.pos) <| eqr_ [0, 1, 2, 3, 4] <| pkq (pT b 0) ?_
      have hKs7 := K18.size
      have hr2_7 := lt_of_block h15
      have hvl_7 : ∀ j, v.ownBlock = some j → j < V14.heap.size := fun j hj => h17.lt hj
      refine pcq 42 #[pT b 0, .int .i64 1, .int .i64 4294967296] Tryz.func42 ((rdn_is hhe qs1 (Rd.n h16 1 4294967296 (by decide) (by decide))).mono ?_)
      rintro e V19 ⟨rfl, Fa, hRa, hSa⟩
      have hrowa : Row V19 46 2 v out.length (out.flatMap Nt.cl) := h17.keeps hSa.1 (fun j hj e => (hd_i j e).2.2 hj)
      have hda : ∀ j, Fa j → w.heap.size ≤ j ∧ j ≠ r2 ∧ ¬ v.ownBlock = some j := fun j h => (hSa.2 j h).elim (hd_i j) (fun h => ⟨by omega, by omega, fun e => by have := hvl_7 j e; omega⟩)
      have hlta := Rd.lt hRa
      have hvla : ∀ j, v.ownBlock = some j → j < V19.heap.size := fun j hj => hrowa.lt hj
      refine ⟨_, rfl, ?_⟩
      have h20 : V19.heap[r2]? = some (.cells (#[.int .i64 0, .int .i64 0]) 31 (0, 0)) := (hSa.1.block r2 (lt_of_block h15) (fun e => (hd_i _ e).2.1 rfl)).trans h15
      have K21 : Keeps Nob w V19 := K18.then hSa.1 (fun k hi hm => absurd hi (by have := (hd_i k hm).1; omega))
      have z22 := hSa.1.size
      refine pkq (.agg #[.int .i64 hh, .int .u64 0]) <| pal 46 (#[.int .i64 0, .int .u64 0]) (.agg (#[.int .i64 0, .int .u64 0])) fun V23 gx egx h24 kV23 => ?_
      have n25 : r2 < gx := egx ▸ lt_of_block h20
      have n26 : w.heap.size ≤ gx := egx ▸ K21.size
      have h27 := kV23.bk h20
      have h28 : Rd V23 Fa b l s1 := hRa.keepsN kV23
      have h29 : Row V23 46 2 v out.length (out.flatMap Nt.cl) := hrowa.keeps kV23 (fun _ _ x => x)
      have K30 := K21.nn kV23
      have z31 := kV23.size
      obtain ⟨V32, eV32, kV32⟩ := rowset_step V23 gx (#[.int .i64 hh, .int .u64 0])
      have hvx : ∀ j, v.ownBlock = some j → j ≠ gx := fun j hj => by have := hvla j hj; omega
      have hd_Fa : ∀ j, Fa j → w.heap.size ≤ j ∧ j ≠ r2 ∧ j ≠ gx ∧ ¬ v.ownBlock = some j := fun j hj => ⟨(hda j hj).1, (hda j hj).2.1, by have := hlta j hj; omega, (hda j hj).2.2⟩
      have h33 : V32.heap[gx]? = some (.cells (#[.int .i64 hh, .int .u64 0]) 46 (0, 0)) := eV32 ▸ setRow_heap _ _ _ _ _ _ h24
      refine pzq (w' := V32) (by rw [← eV32]; exact exec_store_row 46 (.tmp 8) (.tmp 21) (by kernel_rfl) gx (#[.int .i64 hh, .int .u64 0]) (by kernel_rfl) (by kernel_rfl) 46 (#[.int .i64 0, .int .u64 0]) h24 (by kernel_rfl) rfl (by kernel_rfl)) ?_
      clear eV32
      have h34 := kV32.bO h27
      have h35 : Rd V32 Fa b l s1 := h28.keeps kV32 (fun j hj e => by have := hlta j hj; unfold Own.One at e; omega)
      have h36 : Row V32 46 2 v out.length (out.flatMap Nt.cl) := h29.keeps kV32 (fun j hj e => by have := hvla j hj; unfold Own.One at e; omega)
      have K37 := K30.nO kV32
      have z38 := kV32.size
      refine eq_ <| q_ <| sy_reg <| rg_still 8 12 (opsAt (qc73_0 125340)) [qo73_0 125340 0, qo73_0 125340 1, qo73_0 125340 2, qo73_0 125340 3, qo73_0 125340 4, qo73_0 125340 5, qo73_0 125340 6, qo73_0 125340 7, qo73_0 125340 8, qo73_0 125340 9, qo73_0 125340 10, qo73_0 125340 11] [qo73_0 125340 12] (by kernel_rfl) (by kernel_rfl) (by kernel_rfl) (by kernel_rfl) (by kernel_rfl) ?_
      obtain ⟨V40, eV40, kV40⟩ := drew_step V32
      rw [eV40]
      clear eV40
      have h41 := kV40.bk h34
      have h42 : Rd V40 Fa b l s1 := h35.keepsN kV40
      have h43 : Row V40 46 2 v out.length (out.flatMap Nt.cl) := h36.keeps kV40 (fun _ _ x => x)
      have h44 := kV40.bk h33
      have K45 := K37.nn kV40
      have z46 := kV40.size
      refine skq (iN i) <| spq (.bool false) (dcf ((((i : Nat) : Int)) > ((0) : Int)) (by omega)) <| skq (.bool false) <| snq <| snq <| snq <| snq <| snq <| snq <| snq <| snq <| snq <| st_end <| ls_run (qo73_0 125340 12) (.bool false) (w' := V40) (by kernel_rfl) (by kernel_rfl) ?_
      refine ls_end <| sy_a ⟨#[v0, ud, .slice none 0 0, pT r2 0, pT b 0, v, iN i, .int .i64 s.pos, pT gx 0, ud, v0, pT b 0, pT b 0, iN m, iN i, .bool true, iN i, pT b 0, .int .i64 s.pos, pT b 0, .int .i64 hh, .agg #[.int .i64 hh, .int .u64 0], iN i, .bool false, .bool false, ud, ud, ud, ud, ud, ud, ud, ud, ud, .bool false, u35, u36, u37, u38, u39, u40, u41, u42, u43, u44, u45, u46, u47, u48, u49, u50, u51, u52, u53, ud, ud, ud, ud, ud, ud, ud, ud], []⟩ <| then_n <| n_ <| s_ <| tqr_ [0, 1, 2] <| pkq (pT b 0) ?_
      refine pcq 43 #[pT b 0] Tryz.func43 ((Rd.at_ (qs2 ▸ h42)).mono ?_)
      rintro e w1 ⟨rfl, rfl⟩
      refine ⟨_, rfl, ?_⟩
      refine pkq (.int .i64 s2.pos) <| eqr_ [0, 1, 2, 3] <| pkq (pT b 0) ?_
      have hKs11 := K45.size
      have hr2_11 := lt_of_block h41
      have hgx_11 := lt_of_block h44
      have hvl_11 : ∀ j, v.ownBlock = some j → j < V40.heap.size := fun j hj => h43.lt hj
      refine pcq 45 #[pT b 0] Tryz.func45 ((rdu_is hke qs3 (Rd.u (qs2 ▸ h42))).mono ?_)
      rintro e V47 ⟨rfl, Fc, hRV47, hSV47⟩
      have hd_Fc : ∀ j, Fc j → w.heap.size ≤ j ∧ j ≠ r2 ∧ j ≠ gx ∧ ¬ v.ownBlock = some j := fun j h => (hSV47.2 j h).elim (hd_Fa j) (fun h => ⟨by omega, by omega, by omega, fun e => by have := hvl_11 j e; omega⟩)
      refine ⟨_, rfl, ?_⟩
      have h48 : V47.heap[r2]? = some (.cells (#[.int .i64 0, .int .i64 0]) 31 (0, 0)) := (hSV47.1.block r2 (lt_of_block h41) (fun e => by have := hd_Fa _ e; omega)).trans h41
      have h49 : Row V47 46 2 v out.length (out.flatMap Nt.cl) := h43.keeps hSV47.1 (fun j hj e => (hd_Fa j e).2.2.2 hj)
      have h50 : V47.heap[gx]? = some (.cells (#[.int .i64 hh, .int .u64 0]) 46 (0, 0)) := (hSV47.1.block gx (lt_of_block h44) (fun e => by have := hd_Fa _ e; omega)).trans h44
      have K51 : Keeps Nob w V47 := K45.then hSV47.1 (fun k hi hm => absurd hi (by have := (hd_Fa k hm).1; omega))
      have z52 := hSV47.1.size
      refine pkq (pT gx 1) <| pce 40 gx 1 (uN kk) (#[.int .i64 hh, .int .u64 ((kk : Nat) : Int)]) h50 (rc (h50) (by kernel_rfl)) (by kernel_rfl) (u := .int .u64 0) fun V53 h54 kV53 => ?_
      have h55 := kV53.bO h48
      have h56 : Row V53 46 2 v out.length (out.flatMap Nt.cl) := h49.keeps kV53 (fun j hj e => by have := hvx j hj; unfold Own.One at e; omega)
      have h57 : Rd V53 Fc b l s3 := hRV47.keeps kV53 (fun j hj e => by have := hd_Fc j hj; unfold Own.One at e; omega)
      have K58 := K51.nO kV53
      have z59 := kV53.size
      refine eq_ <| qr_ [0, 1, 2] <| pkq (pT gx 1) <| ppq (uN kk) (ldk 40 gx 1 h54) <| ppq (.bool false) (dcf ((((kk : Nat) : Int)) > ((4611686018427387904) : Int)) (by omega)) <| en_ <| s_ <| tr_ [0, 1, 2, 3, 4] <| pkq (v) <| ppq (.agg #[.int .i64 hh, uN kk]) (ldr 46 gx (h54) (by kernel_rfl)) ?_
      obtain ⟨V60, eV60, lit, elit, h61, kV60⟩ := alloc_step V53 (#[.int .i64 hh, .int .u64 ((kk : Nat) : Int)]) 46
      have n62 : r2 < lit := elit ▸ lt_of_block h55
      have n63 : gx < lit := elit ▸ lt_of_block h54
      have n64 : w.heap.size ≤ lit := elit ▸ K58.size
      refine prq (.slice (some ⟨lit, 0, none⟩) 1 1) (w' := V60) (by rw [← eV60, ← elit]; kernel_rfl) ?_
      have h65 := kV60.bk h55
      have h66 : Row V60 46 2 v out.length (out.flatMap Nt.cl) := h56.keeps kV60 (fun _ _ x => x)
      have h67 : Rd V60 Fc b l s3 := h57.keepsN kV60
      have K69 := K58.nn kV60
      have z70 := kV60.size
      obtain ⟨vn, V71, hr72, h73, hg74, hn75, ha76⟩ := run_append_any (P := Tryz.prog) (w := V60) 22 (Oper.type (qo73_0 501375 3)) 46 i2 (.agg #[.int .i64 0, .int .u64 0]) 2 16 Tryz.underlying22 hi2 hs0 hs1 hs2 rfl (by decide) v out.length (out.flatMap Nt.cl) h66 (.slice (some ⟨lit, 0, none⟩) 1 1) 1 (Nt.cl (⟨hh, kk⟩ : Nt)) (src_nt (x := ⟨hh, kk⟩) h61) (by unfold maxLen; omega) (by omega)
      have kV71 : Keeps (fun j => v.ownBlock = some j) V60 V71 := Keeps.rowAdd hg74
      have hw77 : NewFrom w.heap.size vn := hnw.next K69.size ha76
      refine prq vn (w' := V71) (exec_append (.tmp 49) (.tmp 51) 22 (by kernel_rfl) v (.slice (some ⟨lit, 0, none⟩) 1 1) (by kernel_rfl) (by kernel_rfl) hr72) ?_
      have h78 : Row V71 46 2 vn ((out ++ [(⟨hh, kk⟩ : Nt)]).length) ((out ++ [(⟨hh, kk⟩ : Nt)]).flatMap Nt.cl) := (row_nt rfl h73)
      have hnwn := hw77
      have hdn : ∀ j, Fc j → w.heap.size ≤ j ∧ j ≠ r2 ∧ ¬ vn.ownBlock = some j := fun j h => ⟨(hd_Fc j h).1, (hd_Fc j h).2.1, fun e => (ha76 j e).elim (fun q => (hd_Fc j h).2.2.2 q) (fun q => by have := Rd.lt h67 j h; omega)⟩
      have h79 : V71.heap[r2]? = some (.cells (#[.int .i64 0, .int .i64 0]) 31 (0, 0)) := (kV71.block r2 (lt_of_block h65) (fun e => Row.ne h66 h65 (by decide) e)).trans h65
      have h80 : Rd V71 Fc b l s3 := h67.keeps kV71 (fun j hj e => (hd_Fc j hj).2.2.2 e)
      have K81 : Keeps Nob w V71 := K69.then kV71 (fun i hi hm => absurd hi (by have := hnw i hm; omega))
      have z82 := kV71.size
      refine pkq (vn) <| ps_end <| blk_n <| tr_ [0, 1] <| ppq (iN (i + 1)) (exec_cast (congrArg (Value.int .i64) (wrapN (i + 1) (by omega))) (by kernel_rfl)) <| pkq (iN (i + 1)) <| et_ ?_
      refine ⟨⟨(i + 1), (out ++ [(⟨hh, kk⟩ : Nt)]), s4, vn, Fc, (iN i), (.int .i64 s2.pos), (pT gx 0), (.bool true), (iN i), (pT b 0), (.int .i64 s.pos), (pT b 0), (.int .i64 hh), (.agg #[.int .i64 hh, .int .u64 0]), (iN i), (.bool false), (.bool false), undef, undef, undef, undef, undef, undef, undef, undef, undef, (.bool false), u35, u36, u37, (pT b 0), (.int .i64 s2.pos), (pT b 0), (uN kk), (pT gx 1), (pT gx 1), (uN kk), (.bool false), u46, u47, u48, v, (.agg #[.int .i64 hh, uN kk]), (.slice (some ⟨lit, 0, none⟩) 1 1), vn, (iN (i + 1)), by kernel_rfl, by omega, by simp [hout], hpn, hdn, hnwn, h79, (qs4 ▸ h80), h78, K81⟩, ?_⟩
      exact lt_meas (x := m - (i + 1)) (y := m - i) (by kernel_rfl) (by kernel_rfl) (by omega)
    · skip
      obtain ⟨hh, hhe⟩ : ∃ x, nrH l s = x := ⟨_, rfl⟩
      obtain ⟨s1, qs1⟩ : ∃ x, (rdN l s 1 4294967296).2 = x := ⟨_, rfl⟩
      obtain ⟨s2, qs2e⟩ : ∃ x, nrS l out s = x := ⟨_, rfl⟩
      obtain ⟨kk, hke⟩ : ∃ x, nrK l s2 = x := ⟨_, rfl⟩
      obtain ⟨s3, qs3⟩ : ∃ x, (rdU l s2).2 = x := ⟨_, rfl⟩
      obtain ⟨s4, qs4e⟩ : ∃ x, nrT l s2 = x := ⟨_, rfl⟩
      have hhb := nrH_le l s
      have hkb := nrK_lt l s2
      have hpn := nrgo_step lt_i hp
      rw [qs2e] at hbig hpn
      rw [hke] at hbig hkb hpn
      rw [hhe] at hhb hpn
      rw [qs4e] at hpn
      have qs2 : s1 = s2 := by rw [← qs1, ← qs2e, nrS_none (hout.trans h0)]
      have qs4 : s3.fail 3 s2.pos = s4 := by rw [← qs4e, ← qs3]; unfold nrT; rw [hke, if_pos hbig]
      refine qr_ [0] <| ppq (.bool true) (dct ((((i : Nat) : Int)) < (((m : Nat) : Int))) (by omega)) <| eq_ <| y_ <| s_ <| tq_ <| bl_ 1 <| qr_ [0, 1] <| pkq (iN i) <| pkq (iN i) <| eqr_ [0, 1, 2] <| pkq (pT b 0) ?_
      refine pcq 43 #[pT b 0] Tryz.func43 ((Rd.at_ h16).mono ?_)
      rintro e w1 ⟨rfl, rfl⟩
      refine ⟨_, rfl, ?_⟩
      refine pkq (.int .i64 s.pos) <| eqr_ [0, 1, 2, 3, 4] <| pkq (pT b 0) ?_
      have hKs7 := K18.size
      have hr2_7 := lt_of_block h15
      have hvl_7 : ∀ j, v.ownBlock = some j → j < V14.heap.size := fun j hj => h17.lt hj
      refine pcq 42 #[pT b 0, .int .i64 1, .int .i64 4294967296] Tryz.func42 ((rdn_is hhe qs1 (Rd.n h16 1 4294967296 (by decide) (by decide))).mono ?_)
      rintro e V83 ⟨rfl, Fa, hRa, hSa⟩
      have hrowa : Row V83 46 2 v out.length (out.flatMap Nt.cl) := h17.keeps hSa.1 (fun j hj e => (hd_i j e).2.2 hj)
      have hda : ∀ j, Fa j → w.heap.size ≤ j ∧ j ≠ r2 ∧ ¬ v.ownBlock = some j := fun j h => (hSa.2 j h).elim (hd_i j) (fun h => ⟨by omega, by omega, fun e => by have := hvl_7 j e; omega⟩)
      have hlta := Rd.lt hRa
      have hvla : ∀ j, v.ownBlock = some j → j < V83.heap.size := fun j hj => hrowa.lt hj
      refine ⟨_, rfl, ?_⟩
      have h84 : V83.heap[r2]? = some (.cells (#[.int .i64 0, .int .i64 0]) 31 (0, 0)) := (hSa.1.block r2 (lt_of_block h15) (fun e => (hd_i _ e).2.1 rfl)).trans h15
      have K85 : Keeps Nob w V83 := K18.then hSa.1 (fun k hi hm => absurd hi (by have := (hd_i k hm).1; omega))
      have z86 := hSa.1.size
      refine pkq (.agg #[.int .i64 hh, .int .u64 0]) <| pal 46 (#[.int .i64 0, .int .u64 0]) (.agg (#[.int .i64 0, .int .u64 0])) fun V87 gx egx h88 kV87 => ?_
      have n89 : r2 < gx := egx ▸ lt_of_block h84
      have n90 : w.heap.size ≤ gx := egx ▸ K85.size
      have h91 := kV87.bk h84
      have h92 : Rd V87 Fa b l s1 := hRa.keepsN kV87
      have h93 : Row V87 46 2 v out.length (out.flatMap Nt.cl) := hrowa.keeps kV87 (fun _ _ x => x)
      have K94 := K85.nn kV87
      have z95 := kV87.size
      obtain ⟨V96, eV96, kV96⟩ := rowset_step V87 gx (#[.int .i64 hh, .int .u64 0])
      have hvx : ∀ j, v.ownBlock = some j → j ≠ gx := fun j hj => by have := hvla j hj; omega
      have hd_Fa : ∀ j, Fa j → w.heap.size ≤ j ∧ j ≠ r2 ∧ j ≠ gx ∧ ¬ v.ownBlock = some j := fun j hj => ⟨(hda j hj).1, (hda j hj).2.1, by have := hlta j hj; omega, (hda j hj).2.2⟩
      have h97 : V96.heap[gx]? = some (.cells (#[.int .i64 hh, .int .u64 0]) 46 (0, 0)) := eV96 ▸ setRow_heap _ _ _ _ _ _ h88
      refine pzq (w' := V96) (by rw [← eV96]; exact exec_store_row 46 (.tmp 8) (.tmp 21) (by kernel_rfl) gx (#[.int .i64 hh, .int .u64 0]) (by kernel_rfl) (by kernel_rfl) 46 (#[.int .i64 0, .int .u64 0]) h88 (by kernel_rfl) rfl (by kernel_rfl)) ?_
      clear eV96
      have h98 := kV96.bO h91
      have h99 : Rd V96 Fa b l s1 := h92.keeps kV96 (fun j hj e => by have := hlta j hj; unfold Own.One at e; omega)
      have h100 : Row V96 46 2 v out.length (out.flatMap Nt.cl) := h93.keeps kV96 (fun j hj e => by have := hvla j hj; unfold Own.One at e; omega)
      have K101 := K94.nO kV96
      have z102 := kV96.size
      refine eq_ <| q_ <| sy_reg <| rg_still 8 12 (opsAt (qc73_0 125340)) [qo73_0 125340 0, qo73_0 125340 1, qo73_0 125340 2, qo73_0 125340 3, qo73_0 125340 4, qo73_0 125340 5, qo73_0 125340 6, qo73_0 125340 7, qo73_0 125340 8, qo73_0 125340 9, qo73_0 125340 10, qo73_0 125340 11] [qo73_0 125340 12] (by kernel_rfl) (by kernel_rfl) (by kernel_rfl) (by kernel_rfl) (by kernel_rfl) ?_
      obtain ⟨V104, eV104, kV104⟩ := drew_step V96
      rw [eV104]
      clear eV104
      have h105 := kV104.bk h98
      have h106 : Rd V104 Fa b l s1 := h99.keepsN kV104
      have h107 : Row V104 46 2 v out.length (out.flatMap Nt.cl) := h100.keeps kV104 (fun _ _ x => x)
      have h108 := kV104.bk h97
      have K109 := K101.nn kV104
      have z110 := kV104.size
      refine skq (iN i) <| spq (.bool false) (dcf ((((i : Nat) : Int)) > ((0) : Int)) (by omega)) <| skq (.bool false) <| snq <| snq <| snq <| snq <| snq <| snq <| snq <| snq <| snq <| st_end <| ls_run (qo73_0 125340 12) (.bool false) (w' := V104) (by kernel_rfl) (by kernel_rfl) ?_
      refine ls_end <| sy_a ⟨#[v0, ud, .slice none 0 0, pT r2 0, pT b 0, v, iN i, .int .i64 s.pos, pT gx 0, ud, v0, pT b 0, pT b 0, iN m, iN i, .bool true, iN i, pT b 0, .int .i64 s.pos, pT b 0, .int .i64 hh, .agg #[.int .i64 hh, .int .u64 0], iN i, .bool false, .bool false, ud, ud, ud, ud, ud, ud, ud, ud, ud, .bool false, u35, u36, u37, u38, u39, u40, u41, u42, u43, u44, u45, u46, u47, u48, u49, u50, u51, u52, u53, ud, ud, ud, ud, ud, ud, ud, ud], []⟩ <| then_n <| n_ <| s_ <| tqr_ [0, 1, 2] <| pkq (pT b 0) ?_
      refine pcq 43 #[pT b 0] Tryz.func43 ((Rd.at_ (qs2 ▸ h106)).mono ?_)
      rintro e w1 ⟨rfl, rfl⟩
      refine ⟨_, rfl, ?_⟩
      refine pkq (.int .i64 s2.pos) <| eqr_ [0, 1, 2, 3] <| pkq (pT b 0) ?_
      have hKs11 := K109.size
      have hr2_11 := lt_of_block h105
      have hgx_11 := lt_of_block h108
      have hvl_11 : ∀ j, v.ownBlock = some j → j < V104.heap.size := fun j hj => h107.lt hj
      refine pcq 45 #[pT b 0] Tryz.func45 ((rdu_is hke qs3 (Rd.u (qs2 ▸ h106))).mono ?_)
      rintro e V111 ⟨rfl, Fc, hRV111, hSV111⟩
      have hd_Fc : ∀ j, Fc j → w.heap.size ≤ j ∧ j ≠ r2 ∧ j ≠ gx ∧ ¬ v.ownBlock = some j := fun j h => (hSV111.2 j h).elim (hd_Fa j) (fun h => ⟨by omega, by omega, by omega, fun e => by have := hvl_11 j e; omega⟩)
      refine ⟨_, rfl, ?_⟩
      have h112 : V111.heap[r2]? = some (.cells (#[.int .i64 0, .int .i64 0]) 31 (0, 0)) := (hSV111.1.block r2 (lt_of_block h105) (fun e => by have := hd_Fa _ e; omega)).trans h105
      have h113 : Row V111 46 2 v out.length (out.flatMap Nt.cl) := h107.keeps hSV111.1 (fun j hj e => (hd_Fa j e).2.2.2 hj)
      have h114 : V111.heap[gx]? = some (.cells (#[.int .i64 hh, .int .u64 0]) 46 (0, 0)) := (hSV111.1.block gx (lt_of_block h108) (fun e => by have := hd_Fa _ e; omega)).trans h108
      have K115 : Keeps Nob w V111 := K109.then hSV111.1 (fun k hi hm => absurd hi (by have := (hd_Fa k hm).1; omega))
      have z116 := hSV111.1.size
      refine pkq (pT gx 1) <| pce 40 gx 1 (uN kk) (#[.int .i64 hh, .int .u64 ((kk : Nat) : Int)]) h114 (rc (h114) (by kernel_rfl)) (by kernel_rfl) (u := .int .u64 0) fun V117 h118 kV117 => ?_
      have h119 := kV117.bO h112
      have h120 : Row V117 46 2 v out.length (out.flatMap Nt.cl) := h113.keeps kV117 (fun j hj e => by have := hvx j hj; unfold Own.One at e; omega)
      have h121 : Rd V117 Fc b l s3 := hRV111.keeps kV117 (fun j hj e => by have := hd_Fc j hj; unfold Own.One at e; omega)
      have K122 := K115.nO kV117
      have z123 := kV117.size
      refine eq_ <| qr_ [0, 1, 2] <| pkq (pT gx 1) <| ppq (uN kk) (ldk 40 gx 1 h118) <| ppq (.bool true) (dct ((((kk : Nat) : Int)) > ((4611686018427387904) : Int)) (by omega)) <| ey_ <| r_ [0, 1, 2] <| pkq (pT b 0) <| pkq (.int .i64 s2.pos) ?_
      have hKs13 := K122.size
      have hr2_13 := lt_of_block h119
      have hgx_13 := lt_of_block h118
      have hvl_13 : ∀ j, v.ownBlock = some j → j < V117.heap.size := fun j hj => h120.lt hj
      refine pcq 44 #[pT b 0, .int .i64 3, .int .i64 s2.pos] Tryz.func44 ((Rd.fail h121 3 s2.pos).mono ?_)
      rintro e V124 ⟨⟨rv13, rfl⟩, Fd, hRV124, hSV124⟩
      have hd_Fd : ∀ j, Fd j → w.heap.size ≤ j ∧ j ≠ r2 ∧ j ≠ gx ∧ ¬ v.ownBlock = some j := fun j h => (hSV124.2 j h).elim (hd_Fc j) (fun h => ⟨by omega, by omega, by omega, fun e => by have := hvl_13 j e; omega⟩)
      refine ⟨_, rfl, ?_⟩
      have h125 : V124.heap[r2]? = some (.cells (#[.int .i64 0, .int .i64 0]) 31 (0, 0)) := (hSV124.1.block r2 (lt_of_block h119) (fun e => by have := hd_Fc _ e; omega)).trans h119
      have h126 : Row V124 46 2 v out.length (out.flatMap Nt.cl) := h120.keeps hSV124.1 (fun j hj e => (hd_Fc j e).2.2.2 hj)
      have h127 : V124.heap[gx]? = some (.cells (#[.int .i64 hh, .int .u64 ((kk : Nat) : Int)]) 46 (0, 0)) := (hSV124.1.block gx (lt_of_block h118) (fun e => by have := hd_Fc _ e; omega)).trans h118
      have K128 : Keeps Nob w V124 := K122.then hSV124.1 (fun k hi hm => absurd hi (by have := (hd_Fc k hm).1; omega))
      have z129 := hSV124.1.size
      refine er_ [0, 1, 2, 3, 4] <| pkq (v) <| ppq (.agg #[.int .i64 hh, uN kk]) (ldr 46 gx (h127) (by kernel_rfl)) ?_
      obtain ⟨V130, eV130, lit, elit, h131, kV130⟩ := alloc_step V124 (#[.int .i64 hh, .int .u64 ((kk : Nat) : Int)]) 46
      have n132 : r2 < lit := elit ▸ lt_of_block h125
      have n133 : gx < lit := elit ▸ lt_of_block h127
      have n134 : w.heap.size ≤ lit := elit ▸ K128.size
      refine prq (.slice (some ⟨lit, 0, none⟩) 1 1) (w' := V130) (by rw [← eV130, ← elit]; kernel_rfl) ?_
      have h135 := kV130.bk h125
      have h136 : Row V130 46 2 v out.length (out.flatMap Nt.cl) := h126.keeps kV130 (fun _ _ x => x)
      have h138 : Rd V130 Fd b l s4 := (qs4 ▸ hRV124).keepsN kV130
      have K139 := K128.nn kV130
      have z140 := kV130.size
      obtain ⟨vn, V141, hr142, h143, hg144, hn145, ha146⟩ := run_append_any (P := Tryz.prog) (w := V130) 22 (Oper.type (qo73_0 501375 3)) 46 i2 (.agg #[.int .i64 0, .int .u64 0]) 2 16 Tryz.underlying22 hi2 hs0 hs1 hs2 rfl (by decide) v out.length (out.flatMap Nt.cl) h136 (.slice (some ⟨lit, 0, none⟩) 1 1) 1 (Nt.cl (⟨hh, kk⟩ : Nt)) (src_nt (x := ⟨hh, kk⟩) h131) (by unfold maxLen; omega) (by omega)
      have kV141 : Keeps (fun j => v.ownBlock = some j) V130 V141 := Keeps.rowAdd hg144
      have hw147 : NewFrom w.heap.size vn := hnw.next K139.size ha146
      refine prq vn (w' := V141) (exec_append (.tmp 49) (.tmp 51) 22 (by kernel_rfl) v (.slice (some ⟨lit, 0, none⟩) 1 1) (by kernel_rfl) (by kernel_rfl) hr142) ?_
      have h148 : Row V141 46 2 vn ((out ++ [(⟨hh, kk⟩ : Nt)]).length) ((out ++ [(⟨hh, kk⟩ : Nt)]).flatMap Nt.cl) := (row_nt rfl h143)
      have hnwn := hw147
      have hdn : ∀ j, Fd j → w.heap.size ≤ j ∧ j ≠ r2 ∧ ¬ vn.ownBlock = some j := fun j h => ⟨(hd_Fd j h).1, (hd_Fd j h).2.1, fun e => (ha146 j e).elim (fun q => (hd_Fd j h).2.2.2 q) (fun q => by have := Rd.lt h138 j h; omega)⟩
      have h149 : V141.heap[r2]? = some (.cells (#[.int .i64 0, .int .i64 0]) 31 (0, 0)) := (kV141.block r2 (lt_of_block h135) (fun e => Row.ne h136 h135 (by decide) e)).trans h135
      have h150 : Rd V141 Fd b l s4 := h138.keeps kV141 (fun j hj e => (hd_Fd j hj).2.2.2 e)
      have K151 : Keeps Nob w V141 := K139.then kV141 (fun i hi hm => absurd hi (by have := hnw i hm; omega))
      have z152 := kV141.size
      refine pkq (vn) <| ps_end <| blk_n <| tr_ [0, 1] <| ppq (iN (i + 1)) (exec_cast (congrArg (Value.int .i64) (wrapN (i + 1) (by omega))) (by kernel_rfl)) <| pkq (iN (i + 1)) <| et_ ?_
      refine ⟨⟨(i + 1), (out ++ [(⟨hh, kk⟩ : Nt)]), s4, vn, Fd, (iN i), (.int .i64 s2.pos), (pT gx 0), (.bool true), (iN i), (pT b 0), (.int .i64 s.pos), (pT b 0), (.int .i64 hh), (.agg #[.int .i64 hh, .int .u64 0]), (iN i), (.bool false), (.bool false), undef, undef, undef, undef, undef, undef, undef, undef, undef, (.bool false), u35, u36, u37, (pT b 0), (.int .i64 s2.pos), (pT b 0), (uN kk), (pT gx 1), (pT gx 1), (uN kk), (.bool true), (pT b 0), (.int .i64 s2.pos), rv13, v, (.agg #[.int .i64 hh, uN kk]), (.slice (some ⟨lit, 0, none⟩) 1 1), vn, (iN (i + 1)), by kernel_rfl, by omega, by simp [hout], hpn, hdn, hnwn, h149, h150, h148, K151⟩, ?_⟩
      exact lt_meas (x := m - (i + 1)) (y := m - i) (by kernel_rfl) (by kernel_rfl) (by omega)
    · skip
      obtain ⟨hh, hhe⟩ : ∃ x, nrH l s = x := ⟨_, rfl⟩
      obtain ⟨s1, qs1⟩ : ∃ x, (rdN l s 1 4294967296).2 = x := ⟨_, rfl⟩
      obtain ⟨s2, qs2e⟩ : ∃ x, nrS l out s = x := ⟨_, rfl⟩
      obtain ⟨kk, hke⟩ : ∃ x, nrK l s2 = x := ⟨_, rfl⟩
      obtain ⟨s3, qs3⟩ : ∃ x, (rdU l s2).2 = x := ⟨_, rfl⟩
      obtain ⟨s4, qs4e⟩ : ∃ x, nrT l s2 = x := ⟨_, rfl⟩
      have hhb := nrH_le l s
      have hkb := nrK_lt l s2
      have hpn := nrgo_step lt_i hp
      rw [qs2e] at hbig hpn
      rw [hke] at hbig hkb hpn
      rw [hhe] at hhb hpn
      rw [qs4e] at hpn
      obtain ⟨y, hy, hy2, hyc⟩ := hyy
      obtain ⟨b_, o_, c_, hv_, hb_, _⟩ := (row_nts h17).at_ (i - 1) _ hy
      have qs2 : s1 = s2 := by rw [← qs1, ← qs2e, nrS_not hy2 hyc]
      rw [hhe] at hyc
      have qs4 : s3 = s4 := by rw [← qs4e, ← qs3]; unfold nrT; rw [hke, if_neg hbig]
      refine qr_ [0] <| ppq (.bool true) (dct ((((i : Nat) : Int)) < (((m : Nat) : Int))) (by omega)) <| eq_ <| y_ <| s_ <| tq_ <| bl_ 1 <| qr_ [0, 1] <| pkq (iN i) <| pkq (iN i) <| eqr_ [0, 1, 2] <| pkq (pT b 0) ?_
      refine pcq 43 #[pT b 0] Tryz.func43 ((Rd.at_ h16).mono ?_)
      rintro e w1 ⟨rfl, rfl⟩
      refine ⟨_, rfl, ?_⟩
      refine pkq (.int .i64 s.pos) <| eqr_ [0, 1, 2, 3, 4] <| pkq (pT b 0) ?_
      have hKs7 := K18.size
      have hr2_7 := lt_of_block h15
      have hvl_7 : ∀ j, v.ownBlock = some j → j < V14.heap.size := fun j hj => h17.lt hj
      refine pcq 42 #[pT b 0, .int .i64 1, .int .i64 4294967296] Tryz.func42 ((rdn_is hhe qs1 (Rd.n h16 1 4294967296 (by decide) (by decide))).mono ?_)
      rintro e V153 ⟨rfl, Fa, hRa, hSa⟩
      have hrowa : Row V153 46 2 v out.length (out.flatMap Nt.cl) := h17.keeps hSa.1 (fun j hj e => (hd_i j e).2.2 hj)
      have hda : ∀ j, Fa j → w.heap.size ≤ j ∧ j ≠ r2 ∧ ¬ v.ownBlock = some j := fun j h => (hSa.2 j h).elim (hd_i j) (fun h => ⟨by omega, by omega, fun e => by have := hvl_7 j e; omega⟩)
      have hlta := Rd.lt hRa
      have hvla : ∀ j, v.ownBlock = some j → j < V153.heap.size := fun j hj => hrowa.lt hj
      refine ⟨_, rfl, ?_⟩
      have h154 : V153.heap[r2]? = some (.cells (#[.int .i64 0, .int .i64 0]) 31 (0, 0)) := (hSa.1.block r2 (lt_of_block h15) (fun e => (hd_i _ e).2.1 rfl)).trans h15
      have K155 : Keeps Nob w V153 := K18.then hSa.1 (fun k hi hm => absurd hi (by have := (hd_i k hm).1; omega))
      have z156 := hSa.1.size
      refine pkq (.agg #[.int .i64 hh, .int .u64 0]) <| pal 46 (#[.int .i64 0, .int .u64 0]) (.agg (#[.int .i64 0, .int .u64 0])) fun V157 gx egx h158 kV157 => ?_
      have n159 : r2 < gx := egx ▸ lt_of_block h154
      have n160 : w.heap.size ≤ gx := egx ▸ K155.size
      have h161 := kV157.bk h154
      have h162 : Rd V157 Fa b l s1 := hRa.keepsN kV157
      have h163 : Row V157 46 2 v out.length (out.flatMap Nt.cl) := hrowa.keeps kV157 (fun _ _ x => x)
      have K164 := K155.nn kV157
      have z165 := kV157.size
      obtain ⟨V166, eV166, kV166⟩ := rowset_step V157 gx (#[.int .i64 hh, .int .u64 0])
      have hvx : ∀ j, v.ownBlock = some j → j ≠ gx := fun j hj => by have := hvla j hj; omega
      have hd_Fa : ∀ j, Fa j → w.heap.size ≤ j ∧ j ≠ r2 ∧ j ≠ gx ∧ ¬ v.ownBlock = some j := fun j hj => ⟨(hda j hj).1, (hda j hj).2.1, by have := hlta j hj; omega, (hda j hj).2.2⟩
      have h167 : V166.heap[gx]? = some (.cells (#[.int .i64 hh, .int .u64 0]) 46 (0, 0)) := eV166 ▸ setRow_heap _ _ _ _ _ _ h158
      refine pzq (w' := V166) (by rw [← eV166]; exact exec_store_row 46 (.tmp 8) (.tmp 21) (by kernel_rfl) gx (#[.int .i64 hh, .int .u64 0]) (by kernel_rfl) (by kernel_rfl) 46 (#[.int .i64 0, .int .u64 0]) h158 (by kernel_rfl) rfl (by kernel_rfl)) ?_
      clear eV166
      have h168 := kV166.bO h161
      have h169 : Rd V166 Fa b l s1 := h162.keeps kV166 (fun j hj e => by have := hlta j hj; unfold Own.One at e; omega)
      have h170 : Row V166 46 2 v out.length (out.flatMap Nt.cl) := h163.keeps kV166 (fun j hj e => by have := hvla j hj; unfold Own.One at e; omega)
      have K171 := K164.nO kV166
      have z172 := kV166.size
      refine eq_ <| q_ <| sy_reg <| rg_still 8 12 (opsAt (qc73_0 125340)) [qo73_0 125340 0, qo73_0 125340 1, qo73_0 125340 2, qo73_0 125340 3, qo73_0 125340 4, qo73_0 125340 5, qo73_0 125340 6, qo73_0 125340 7, qo73_0 125340 8, qo73_0 125340 9, qo73_0 125340 10, qo73_0 125340 11] [qo73_0 125340 12] (by kernel_rfl) (by kernel_rfl) (by kernel_rfl) (by kernel_rfl) (by kernel_rfl) ?_
      obtain ⟨V174, eV174, kV174⟩ := drew_step V166
      rw [eV174]
      clear eV174
      have h175 := kV174.bk h168
      have h176 : Rd V174 Fa b l s1 := h169.keepsN kV174
      have h177 : Row V174 46 2 v out.length (out.flatMap Nt.cl) := h170.keeps kV174 (fun _ _ x => x)
      have h178 := kV174.bk h167
      have K179 := K171.nn kV174
      have z180 := kV174.size
      refine skq (iN i) <| spq (.bool true) (dct ((((i : Nat) : Int)) > ((0) : Int)) (by omega)) <| skq (.bool true) <| skq (pT gx 0) <| spq (.int .i64 hh) (ldk 3 gx 0 h178) <| skq (v) <| skq (iN i) <| spq (iN ((i - 1))) (exec_cast (congrArg (Value.int .i64) (wrapI (((i : Nat) : Int) - 1) ((i - 1 : Nat) : Int) (by omega) (by omega) (by omega))) (by kernel_rfl)) <| spq (.pointer (some ⟨b_, o_ + (i - 1) * 2, none⟩)) (exec_indexAt_slice 22 (.tmp 27) (.tmp 29) (by kernel_rfl) b_ o_ out.length c_ (Eq.trans (b := v) (by kernel_rfl) hv_) .i64 (i - 1) (by kernel_rfl) _ 2 Tryz.underlying22 (by kernel_rfl) (by omega)) <| skq (.pointer (some ⟨b_, o_ + (i - 1) * 2, none⟩)) <| spq (.int .i64 y.h) (exec_ld 3 (.tmp 31) b_ (o_ + (i - 1) * 2 + 0) Tryz.underlying3 (Sl.cell (row_nts h177) hy hv_ rfl)) <| spq (.bool false) (dcf (((hh) : Int) < ((y.h) : Int)) (by omega)) <| st_end <| ls_run (qo73_0 125340 12) (.bool false) (w' := V174) (by kernel_rfl) (by kernel_rfl) ?_
      refine ls_end <| sy_a ⟨#[v0, ud, .slice none 0 0, pT r2 0, pT b 0, v, iN i, .int .i64 s.pos, pT gx 0, ud, v0, pT b 0, pT b 0, iN m, iN i, .bool true, iN i, pT b 0, .int .i64 s.pos, pT b 0, .int .i64 hh, .agg #[.int .i64 hh, .int .u64 0], iN i, .bool true, .bool true, pT gx 0, .int .i64 hh, v, iN i, iN ((i - 1)), .pointer (some ⟨b_, o_ + (i - 1) * 2, none⟩), .pointer (some ⟨b_, o_ + (i - 1) * 2, none⟩), .int .i64 y.h, .bool false, .bool false, u35, u36, u37, u38, u39, u40, u41, u42, u43, u44, u45, u46, u47, u48, u49, u50, u51, u52, u53, ud, ud, ud, ud, ud, ud, ud, ud], []⟩ <| then_n <| n_ <| s_ <| tqr_ [0, 1, 2] <| pkq (pT b 0) ?_
      refine pcq 43 #[pT b 0] Tryz.func43 ((Rd.at_ (qs2 ▸ h176)).mono ?_)
      rintro e w1 ⟨rfl, rfl⟩
      refine ⟨_, rfl, ?_⟩
      refine pkq (.int .i64 s2.pos) <| eqr_ [0, 1, 2, 3] <| pkq (pT b 0) ?_
      have hKs11 := K179.size
      have hr2_11 := lt_of_block h175
      have hgx_11 := lt_of_block h178
      have hvl_11 : ∀ j, v.ownBlock = some j → j < V174.heap.size := fun j hj => h177.lt hj
      refine pcq 45 #[pT b 0] Tryz.func45 ((rdu_is hke qs3 (Rd.u (qs2 ▸ h176))).mono ?_)
      rintro e V181 ⟨rfl, Fc, hRV181, hSV181⟩
      have hd_Fc : ∀ j, Fc j → w.heap.size ≤ j ∧ j ≠ r2 ∧ j ≠ gx ∧ ¬ v.ownBlock = some j := fun j h => (hSV181.2 j h).elim (hd_Fa j) (fun h => ⟨by omega, by omega, by omega, fun e => by have := hvl_11 j e; omega⟩)
      refine ⟨_, rfl, ?_⟩
      have h182 : V181.heap[r2]? = some (.cells (#[.int .i64 0, .int .i64 0]) 31 (0, 0)) := (hSV181.1.block r2 (lt_of_block h175) (fun e => by have := hd_Fa _ e; omega)).trans h175
      have h183 : Row V181 46 2 v out.length (out.flatMap Nt.cl) := h177.keeps hSV181.1 (fun j hj e => (hd_Fa j e).2.2.2 hj)
      have h184 : V181.heap[gx]? = some (.cells (#[.int .i64 hh, .int .u64 0]) 46 (0, 0)) := (hSV181.1.block gx (lt_of_block h178) (fun e => by have := hd_Fa _ e; omega)).trans h178
      have K185 : Keeps Nob w V181 := K179.then hSV181.1 (fun k hi hm => absurd hi (by have := (hd_Fa k hm).1; omega))
      have z186 := hSV181.1.size
      refine pkq (pT gx 1) <| pce 40 gx 1 (uN kk) (#[.int .i64 hh, .int .u64 ((kk : Nat) : Int)]) h184 (rc (h184) (by kernel_rfl)) (by kernel_rfl) (u := .int .u64 0) fun V187 h188 kV187 => ?_
      have h189 := kV187.bO h182
      have h190 : Row V187 46 2 v out.length (out.flatMap Nt.cl) := h183.keeps kV187 (fun j hj e => by have := hvx j hj; unfold Own.One at e; omega)
      have h191 : Rd V187 Fc b l s3 := hRV181.keeps kV187 (fun j hj e => by have := hd_Fc j hj; unfold Own.One at e; omega)
      have K192 := K185.nO kV187
      have z193 := kV187.size
      refine eq_ <| qr_ [0, 1, 2] <| pkq (pT gx 1) <| ppq (uN kk) (ldk 40 gx 1 h188) <| ppq (.bool false) (dcf ((((kk : Nat) : Int)) > ((4611686018427387904) : Int)) (by omega)) <| en_ <| s_ <| tr_ [0, 1, 2, 3, 4] <| pkq (v) <| ppq (.agg #[.int .i64 hh, uN kk]) (ldr 46 gx (h188) (by kernel_rfl)) ?_
      obtain ⟨V194, eV194, lit, elit, h195, kV194⟩ := alloc_step V187 (#[.int .i64 hh, .int .u64 ((kk : Nat) : Int)]) 46
      have n196 : r2 < lit := elit ▸ lt_of_block h189
      have n197 : gx < lit := elit ▸ lt_of_block h188
      have n198 : w.heap.size ≤ lit := elit ▸ K192.size
      refine prq (.slice (some ⟨lit, 0, none⟩) 1 1) (w' := V194) (by rw [← eV194, ← elit]; kernel_rfl) ?_
      have h199 := kV194.bk h189
      have h200 : Row V194 46 2 v out.length (out.flatMap Nt.cl) := h190.keeps kV194 (fun _ _ x => x)
      have h201 : Rd V194 Fc b l s3 := h191.keepsN kV194
      have K203 := K192.nn kV194
      have z204 := kV194.size
      obtain ⟨vn, V205, hr206, h207, hg208, hn209, ha210⟩ := run_append_any (P := Tryz.prog) (w := V194) 22 (Oper.type (qo73_0 501375 3)) 46 i2 (.agg #[.int .i64 0, .int .u64 0]) 2 16 Tryz.underlying22 hi2 hs0 hs1 hs2 rfl (by decide) v out.length (out.flatMap Nt.cl) h200 (.slice (some ⟨lit, 0, none⟩) 1 1) 1 (Nt.cl (⟨hh, kk⟩ : Nt)) (src_nt (x := ⟨hh, kk⟩) h195) (by unfold maxLen; omega) (by omega)
      have kV205 : Keeps (fun j => v.ownBlock = some j) V194 V205 := Keeps.rowAdd hg208
      have hw211 : NewFrom w.heap.size vn := hnw.next K203.size ha210
      refine prq vn (w' := V205) (exec_append (.tmp 49) (.tmp 51) 22 (by kernel_rfl) v (.slice (some ⟨lit, 0, none⟩) 1 1) (by kernel_rfl) (by kernel_rfl) hr206) ?_
      have h212 : Row V205 46 2 vn ((out ++ [(⟨hh, kk⟩ : Nt)]).length) ((out ++ [(⟨hh, kk⟩ : Nt)]).flatMap Nt.cl) := (row_nt rfl h207)
      have hnwn := hw211
      have hdn : ∀ j, Fc j → w.heap.size ≤ j ∧ j ≠ r2 ∧ ¬ vn.ownBlock = some j := fun j h => ⟨(hd_Fc j h).1, (hd_Fc j h).2.1, fun e => (ha210 j e).elim (fun q => (hd_Fc j h).2.2.2 q) (fun q => by have := Rd.lt h201 j h; omega)⟩
      have h213 : V205.heap[r2]? = some (.cells (#[.int .i64 0, .int .i64 0]) 31 (0, 0)) := (kV205.block r2 (lt_of_block h199) (fun e => Row.ne h200 h199 (by decide) e)).trans h199
      have h214 : Rd V205 Fc b l s3 := h201.keeps kV205 (fun j hj e => (hd_Fc j hj).2.2.2 e)
      have K215 : Keeps Nob w V205 := K203.then kV205 (fun i hi hm => absurd hi (by have := hnw i hm; omega))
      have z216 := kV205.size
      refine pkq (vn) <| ps_end <| blk_n <| tr_ [0, 1] <| ppq (iN (i + 1)) (exec_cast (congrArg (Value.int .i64) (wrapN (i + 1) (by omega))) (by kernel_rfl)) <| pkq (iN (i + 1)) <| et_ ?_
      refine ⟨⟨(i + 1), (out ++ [(⟨hh, kk⟩ : Nt)]), s4, vn, Fc, (iN i), (.int .i64 s2.pos), (pT gx 0), (.bool true), (iN i), (pT b 0), (.int .i64 s.pos), (pT b 0), (.int .i64 hh), (.agg #[.int .i64 hh, .int .u64 0]), (iN i), (.bool true), (.bool true), (pT gx 0), (.int .i64 hh), v, (iN i), (iN ((i - 1))), (.pointer (some ⟨b_, o_ + (i - 1) * 2, none⟩)), (.pointer (some ⟨b_, o_ + (i - 1) * 2, none⟩)), (.int .i64 y.h), (.bool false), (.bool false), u35, u36, u37, (pT b 0), (.int .i64 s2.pos), (pT b 0), (uN kk), (pT gx 1), (pT gx 1), (uN kk), (.bool false), u46, u47, u48, v, (.agg #[.int .i64 hh, uN kk]), (.slice (some ⟨lit, 0, none⟩) 1 1), vn, (iN (i + 1)), by kernel_rfl, by omega, by simp [hout], hpn, hdn, hnwn, h213, (qs4 ▸ h214), h212, K215⟩, ?_⟩
      exact lt_meas (x := m - (i + 1)) (y := m - i) (by kernel_rfl) (by kernel_rfl) (by omega)
    · skip
      obtain ⟨hh, hhe⟩ : ∃ x, nrH l s = x := ⟨_, rfl⟩
      obtain ⟨s1, qs1⟩ : ∃ x, (rdN l s 1 4294967296).2 = x := ⟨_, rfl⟩
      obtain ⟨s2, qs2e⟩ : ∃ x, nrS l out s = x := ⟨_, rfl⟩
      obtain ⟨kk, hke⟩ : ∃ x, nrK l s2 = x := ⟨_, rfl⟩
      obtain ⟨s3, qs3⟩ : ∃ x, (rdU l s2).2 = x := ⟨_, rfl⟩
      obtain ⟨s4, qs4e⟩ : ∃ x, nrT l s2 = x := ⟨_, rfl⟩
      have hhb := nrH_le l s
      have hkb := nrK_lt l s2
      have hpn := nrgo_step lt_i hp
      rw [qs2e] at hbig hpn
      rw [hke] at hbig hkb hpn
      rw [hhe] at hhb hpn
      rw [qs4e] at hpn
      obtain ⟨y, hy, hy2, hyc⟩ := hyy
      obtain ⟨b_, o_, c_, hv_, hb_, _⟩ := (row_nts h17).at_ (i - 1) _ hy
      have qs2 : s1 = s2 := by rw [← qs1, ← qs2e, nrS_not hy2 hyc]
      rw [hhe] at hyc
      have qs4 : s3.fail 3 s2.pos = s4 := by rw [← qs4e, ← qs3]; unfold nrT; rw [hke, if_pos hbig]
      refine qr_ [0] <| ppq (.bool true) (dct ((((i : Nat) : Int)) < (((m : Nat) : Int))) (by omega)) <| eq_ <| y_ <| s_ <| tq_ <| bl_ 1 <| qr_ [0, 1] <| pkq (iN i) <| pkq (iN i) <| eqr_ [0, 1, 2] <| pkq (pT b 0) ?_
      refine pcq 43 #[pT b 0] Tryz.func43 ((Rd.at_ h16).mono ?_)
      rintro e w1 ⟨rfl, rfl⟩
      refine ⟨_, rfl, ?_⟩
      refine pkq (.int .i64 s.pos) <| eqr_ [0, 1, 2, 3, 4] <| pkq (pT b 0) ?_
      have hKs7 := K18.size
      have hr2_7 := lt_of_block h15
      have hvl_7 : ∀ j, v.ownBlock = some j → j < V14.heap.size := fun j hj => h17.lt hj
      refine pcq 42 #[pT b 0, .int .i64 1, .int .i64 4294967296] Tryz.func42 ((rdn_is hhe qs1 (Rd.n h16 1 4294967296 (by decide) (by decide))).mono ?_)
      rintro e V217 ⟨rfl, Fa, hRa, hSa⟩
      have hrowa : Row V217 46 2 v out.length (out.flatMap Nt.cl) := h17.keeps hSa.1 (fun j hj e => (hd_i j e).2.2 hj)
      have hda : ∀ j, Fa j → w.heap.size ≤ j ∧ j ≠ r2 ∧ ¬ v.ownBlock = some j := fun j h => (hSa.2 j h).elim (hd_i j) (fun h => ⟨by omega, by omega, fun e => by have := hvl_7 j e; omega⟩)
      have hlta := Rd.lt hRa
      have hvla : ∀ j, v.ownBlock = some j → j < V217.heap.size := fun j hj => hrowa.lt hj
      refine ⟨_, rfl, ?_⟩
      have h218 : V217.heap[r2]? = some (.cells (#[.int .i64 0, .int .i64 0]) 31 (0, 0)) := (hSa.1.block r2 (lt_of_block h15) (fun e => (hd_i _ e).2.1 rfl)).trans h15
      have K219 : Keeps Nob w V217 := K18.then hSa.1 (fun k hi hm => absurd hi (by have := (hd_i k hm).1; omega))
      have z220 := hSa.1.size
      refine pkq (.agg #[.int .i64 hh, .int .u64 0]) <| pal 46 (#[.int .i64 0, .int .u64 0]) (.agg (#[.int .i64 0, .int .u64 0])) fun V221 gx egx h222 kV221 => ?_
      have n223 : r2 < gx := egx ▸ lt_of_block h218
      have n224 : w.heap.size ≤ gx := egx ▸ K219.size
      have h225 := kV221.bk h218
      have h226 : Rd V221 Fa b l s1 := hRa.keepsN kV221
      have h227 : Row V221 46 2 v out.length (out.flatMap Nt.cl) := hrowa.keeps kV221 (fun _ _ x => x)
      have K228 := K219.nn kV221
      have z229 := kV221.size
      obtain ⟨V230, eV230, kV230⟩ := rowset_step V221 gx (#[.int .i64 hh, .int .u64 0])
      have hvx : ∀ j, v.ownBlock = some j → j ≠ gx := fun j hj => by have := hvla j hj; omega
      have hd_Fa : ∀ j, Fa j → w.heap.size ≤ j ∧ j ≠ r2 ∧ j ≠ gx ∧ ¬ v.ownBlock = some j := fun j hj => ⟨(hda j hj).1, (hda j hj).2.1, by have := hlta j hj; omega, (hda j hj).2.2⟩
      have h231 : V230.heap[gx]? = some (.cells (#[.int .i64 hh, .int .u64 0]) 46 (0, 0)) := eV230 ▸ setRow_heap _ _ _ _ _ _ h222
      refine pzq (w' := V230) (by rw [← eV230]; exact exec_store_row 46 (.tmp 8) (.tmp 21) (by kernel_rfl) gx (#[.int .i64 hh, .int .u64 0]) (by kernel_rfl) (by kernel_rfl) 46 (#[.int .i64 0, .int .u64 0]) h222 (by kernel_rfl) rfl (by kernel_rfl)) ?_
      clear eV230
      have h232 := kV230.bO h225
      have h233 : Rd V230 Fa b l s1 := h226.keeps kV230 (fun j hj e => by have := hlta j hj; unfold Own.One at e; omega)
      have h234 : Row V230 46 2 v out.length (out.flatMap Nt.cl) := h227.keeps kV230 (fun j hj e => by have := hvla j hj; unfold Own.One at e; omega)
      have K235 := K228.nO kV230
      have z236 := kV230.size
      refine eq_ <| q_ <| sy_reg <| rg_still 8 12 (opsAt (qc73_0 125340)) [qo73_0 125340 0, qo73_0 125340 1, qo73_0 125340 2, qo73_0 125340 3, qo73_0 125340 4, qo73_0 125340 5, qo73_0 125340 6, qo73_0 125340 7, qo73_0 125340 8, qo73_0 125340 9, qo73_0 125340 10, qo73_0 125340 11] [qo73_0 125340 12] (by kernel_rfl) (by kernel_rfl) (by kernel_rfl) (by kernel_rfl) (by kernel_rfl) ?_
      obtain ⟨V238, eV238, kV238⟩ := drew_step V230
      rw [eV238]
      clear eV238
      have h239 := kV238.bk h232
      have h240 : Rd V238 Fa b l s1 := h233.keepsN kV238
      have h241 : Row V238 46 2 v out.length (out.flatMap Nt.cl) := h234.keeps kV238 (fun _ _ x => x)
      have h242 := kV238.bk h231
      have K243 := K235.nn kV238
      have z244 := kV238.size
      refine skq (iN i) <| spq (.bool true) (dct ((((i : Nat) : Int)) > ((0) : Int)) (by omega)) <| skq (.bool true) <| skq (pT gx 0) <| spq (.int .i64 hh) (ldk 3 gx 0 h242) <| skq (v) <| skq (iN i) <| spq (iN ((i - 1))) (exec_cast (congrArg (Value.int .i64) (wrapI (((i : Nat) : Int) - 1) ((i - 1 : Nat) : Int) (by omega) (by omega) (by omega))) (by kernel_rfl)) <| spq (.pointer (some ⟨b_, o_ + (i - 1) * 2, none⟩)) (exec_indexAt_slice 22 (.tmp 27) (.tmp 29) (by kernel_rfl) b_ o_ out.length c_ (Eq.trans (b := v) (by kernel_rfl) hv_) .i64 (i - 1) (by kernel_rfl) _ 2 Tryz.underlying22 (by kernel_rfl) (by omega)) <| skq (.pointer (some ⟨b_, o_ + (i - 1) * 2, none⟩)) <| spq (.int .i64 y.h) (exec_ld 3 (.tmp 31) b_ (o_ + (i - 1) * 2 + 0) Tryz.underlying3 (Sl.cell (row_nts h241) hy hv_ rfl)) <| spq (.bool false) (dcf (((hh) : Int) < ((y.h) : Int)) (by omega)) <| st_end <| ls_run (qo73_0 125340 12) (.bool false) (w' := V238) (by kernel_rfl) (by kernel_rfl) ?_
      refine ls_end <| sy_a ⟨#[v0, ud, .slice none 0 0, pT r2 0, pT b 0, v, iN i, .int .i64 s.pos, pT gx 0, ud, v0, pT b 0, pT b 0, iN m, iN i, .bool true, iN i, pT b 0, .int .i64 s.pos, pT b 0, .int .i64 hh, .agg #[.int .i64 hh, .int .u64 0], iN i, .bool true, .bool true, pT gx 0, .int .i64 hh, v, iN i, iN ((i - 1)), .pointer (some ⟨b_, o_ + (i - 1) * 2, none⟩), .pointer (some ⟨b_, o_ + (i - 1) * 2, none⟩), .int .i64 y.h, .bool false, .bool false, u35, u36, u37, u38, u39, u40, u41, u42, u43, u44, u45, u46, u47, u48, u49, u50, u51, u52, u53, ud, ud, ud, ud, ud, ud, ud, ud], []⟩ <| then_n <| n_ <| s_ <| tqr_ [0, 1, 2] <| pkq (pT b 0) ?_
      refine pcq 43 #[pT b 0] Tryz.func43 ((Rd.at_ (qs2 ▸ h240)).mono ?_)
      rintro e w1 ⟨rfl, rfl⟩
      refine ⟨_, rfl, ?_⟩
      refine pkq (.int .i64 s2.pos) <| eqr_ [0, 1, 2, 3] <| pkq (pT b 0) ?_
      have hKs11 := K243.size
      have hr2_11 := lt_of_block h239
      have hgx_11 := lt_of_block h242
      have hvl_11 : ∀ j, v.ownBlock = some j → j < V238.heap.size := fun j hj => h241.lt hj
      refine pcq 45 #[pT b 0] Tryz.func45 ((rdu_is hke qs3 (Rd.u (qs2 ▸ h240))).mono ?_)
      rintro e V245 ⟨rfl, Fc, hRV245, hSV245⟩
      have hd_Fc : ∀ j, Fc j → w.heap.size ≤ j ∧ j ≠ r2 ∧ j ≠ gx ∧ ¬ v.ownBlock = some j := fun j h => (hSV245.2 j h).elim (hd_Fa j) (fun h => ⟨by omega, by omega, by omega, fun e => by have := hvl_11 j e; omega⟩)
      refine ⟨_, rfl, ?_⟩
      have h246 : V245.heap[r2]? = some (.cells (#[.int .i64 0, .int .i64 0]) 31 (0, 0)) := (hSV245.1.block r2 (lt_of_block h239) (fun e => by have := hd_Fa _ e; omega)).trans h239
      have h247 : Row V245 46 2 v out.length (out.flatMap Nt.cl) := h241.keeps hSV245.1 (fun j hj e => (hd_Fa j e).2.2.2 hj)
      have h248 : V245.heap[gx]? = some (.cells (#[.int .i64 hh, .int .u64 0]) 46 (0, 0)) := (hSV245.1.block gx (lt_of_block h242) (fun e => by have := hd_Fa _ e; omega)).trans h242
      have K249 : Keeps Nob w V245 := K243.then hSV245.1 (fun k hi hm => absurd hi (by have := (hd_Fa k hm).1; omega))
      have z250 := hSV245.1.size
      refine pkq (pT gx 1) <| pce 40 gx 1 (uN kk) (#[.int .i64 hh, .int .u64 ((kk : Nat) : Int)]) h248 (rc (h248) (by kernel_rfl)) (by kernel_rfl) (u := .int .u64 0) fun V251 h252 kV251 => ?_
      have h253 := kV251.bO h246
      have h254 : Row V251 46 2 v out.length (out.flatMap Nt.cl) := h247.keeps kV251 (fun j hj e => by have := hvx j hj; unfold Own.One at e; omega)
      have h255 : Rd V251 Fc b l s3 := hRV245.keeps kV251 (fun j hj e => by have := hd_Fc j hj; unfold Own.One at e; omega)
      have K256 := K249.nO kV251
      have z257 := kV251.size
      refine eq_ <| qr_ [0, 1, 2] <| pkq (pT gx 1) <| ppq (uN kk) (ldk 40 gx 1 h252) <| ppq (.bool true) (dct ((((kk : Nat) : Int)) > ((4611686018427387904) : Int)) (by omega)) <| ey_ <| r_ [0, 1, 2] <| pkq (pT b 0) <| pkq (.int .i64 s2.pos) ?_
      have hKs13 := K256.size
      have hr2_13 := lt_of_block h253
      have hgx_13 := lt_of_block h252
      have hvl_13 : ∀ j, v.ownBlock = some j → j < V251.heap.size := fun j hj => h254.lt hj
      refine pcq 44 #[pT b 0, .int .i64 3, .int .i64 s2.pos] Tryz.func44 ((Rd.fail h255 3 s2.pos).mono ?_)
      rintro e V258 ⟨⟨rv13, rfl⟩, Fd, hRV258, hSV258⟩
      have hd_Fd : ∀ j, Fd j → w.heap.size ≤ j ∧ j ≠ r2 ∧ j ≠ gx ∧ ¬ v.ownBlock = some j := fun j h => (hSV258.2 j h).elim (hd_Fc j) (fun h => ⟨by omega, by omega, by omega, fun e => by have := hvl_13 j e; omega⟩)
      refine ⟨_, rfl, ?_⟩
      have h259 : V258.heap[r2]? = some (.cells (#[.int .i64 0, .int .i64 0]) 31 (0, 0)) := (hSV258.1.block r2 (lt_of_block h253) (fun e => by have := hd_Fc _ e; omega)).trans h253
      have h260 : Row V258 46 2 v out.length (out.flatMap Nt.cl) := h254.keeps hSV258.1 (fun j hj e => (hd_Fc j e).2.2.2 hj)
      have h261 : V258.heap[gx]? = some (.cells (#[.int .i64 hh, .int .u64 ((kk : Nat) : Int)]) 46 (0, 0)) := (hSV258.1.block gx (lt_of_block h252) (fun e => by have := hd_Fc _ e; omega)).trans h252
      have K262 : Keeps Nob w V258 := K256.then hSV258.1 (fun k hi hm => absurd hi (by have := (hd_Fc k hm).1; omega))
      have z263 := hSV258.1.size
      refine er_ [0, 1, 2, 3, 4] <| pkq (v) <| ppq (.agg #[.int .i64 hh, uN kk]) (ldr 46 gx (h261) (by kernel_rfl)) ?_
      obtain ⟨V264, eV264, lit, elit, h265, kV264⟩ := alloc_step V258 (#[.int .i64 hh, .int .u64 ((kk : Nat) : Int)]) 46
      have n266 : r2 < lit := elit ▸ lt_of_block h259
      have n267 : gx < lit := elit ▸ lt_of_block h261
      have n268 : w.heap.size ≤ lit := elit ▸ K262.size
      refine prq (.slice (some ⟨lit, 0, none⟩) 1 1) (w' := V264) (by rw [← eV264, ← elit]; kernel_rfl) ?_
      have h269 := kV264.bk h259
      have h270 : Row V264 46 2 v out.length (out.flatMap Nt.cl) := h260.keeps kV264 (fun _ _ x => x)
      have h272 : Rd V264 Fd b l s4 := (qs4 ▸ hRV258).keepsN kV264
      have K273 := K262.nn kV264
      have z274 := kV264.size
      obtain ⟨vn, V275, hr276, h277, hg278, hn279, ha280⟩ := run_append_any (P := Tryz.prog) (w := V264) 22 (Oper.type (qo73_0 501375 3)) 46 i2 (.agg #[.int .i64 0, .int .u64 0]) 2 16 Tryz.underlying22 hi2 hs0 hs1 hs2 rfl (by decide) v out.length (out.flatMap Nt.cl) h270 (.slice (some ⟨lit, 0, none⟩) 1 1) 1 (Nt.cl (⟨hh, kk⟩ : Nt)) (src_nt (x := ⟨hh, kk⟩) h265) (by unfold maxLen; omega) (by omega)
      have kV275 : Keeps (fun j => v.ownBlock = some j) V264 V275 := Keeps.rowAdd hg278
      have hw281 : NewFrom w.heap.size vn := hnw.next K273.size ha280
      refine prq vn (w' := V275) (exec_append (.tmp 49) (.tmp 51) 22 (by kernel_rfl) v (.slice (some ⟨lit, 0, none⟩) 1 1) (by kernel_rfl) (by kernel_rfl) hr276) ?_
      have h282 : Row V275 46 2 vn ((out ++ [(⟨hh, kk⟩ : Nt)]).length) ((out ++ [(⟨hh, kk⟩ : Nt)]).flatMap Nt.cl) := (row_nt rfl h277)
      have hnwn := hw281
      have hdn : ∀ j, Fd j → w.heap.size ≤ j ∧ j ≠ r2 ∧ ¬ vn.ownBlock = some j := fun j h => ⟨(hd_Fd j h).1, (hd_Fd j h).2.1, fun e => (ha280 j e).elim (fun q => (hd_Fd j h).2.2.2 q) (fun q => by have := Rd.lt h272 j h; omega)⟩
      have h283 : V275.heap[r2]? = some (.cells (#[.int .i64 0, .int .i64 0]) 31 (0, 0)) := (kV275.block r2 (lt_of_block h269) (fun e => Row.ne h270 h269 (by decide) e)).trans h269
      have h284 : Rd V275 Fd b l s4 := h272.keeps kV275 (fun j hj e => (hd_Fd j hj).2.2.2 e)
      have K285 : Keeps Nob w V275 := K273.then kV275 (fun i hi hm => absurd hi (by have := hnw i hm; omega))
      have z286 := kV275.size
      refine pkq (vn) <| ps_end <| blk_n <| tr_ [0, 1] <| ppq (iN (i + 1)) (exec_cast (congrArg (Value.int .i64) (wrapN (i + 1) (by omega))) (by kernel_rfl)) <| pkq (iN (i + 1)) <| et_ ?_
      refine ⟨⟨(i + 1), (out ++ [(⟨hh, kk⟩ : Nt)]), s4, vn, Fd, (iN i), (.int .i64 s2.pos), (pT gx 0), (.bool true), (iN i), (pT b 0), (.int .i64 s.pos), (pT b 0), (.int .i64 hh), (.agg #[.int .i64 hh, .int .u64 0]), (iN i), (.bool true), (.bool true), (pT gx 0), (.int .i64 hh), v, (iN i), (iN ((i - 1))), (.pointer (some ⟨b_, o_ + (i - 1) * 2, none⟩)), (.pointer (some ⟨b_, o_ + (i - 1) * 2, none⟩)), (.int .i64 y.h), (.bool false), (.bool false), u35, u36, u37, (pT b 0), (.int .i64 s2.pos), (pT b 0), (uN kk), (pT gx 1), (pT gx 1), (uN kk), (.bool true), (pT b 0), (.int .i64 s2.pos), rv13, v, (.agg #[.int .i64 hh, uN kk]), (.slice (some ⟨lit, 0, none⟩) 1 1), vn, (iN (i + 1)), by kernel_rfl, by omega, by simp [hout], hpn, hdn, hnwn, h283, h284, h282, K285⟩, ?_⟩
      exact lt_meas (x := m - (i + 1)) (y := m - i) (by kernel_rfl) (by kernel_rfl) (by omega)
    · skip
      obtain ⟨hh, hhe⟩ : ∃ x, nrH l s = x := ⟨_, rfl⟩
      obtain ⟨s1, qs1⟩ : ∃ x, (rdN l s 1 4294967296).2 = x := ⟨_, rfl⟩
      obtain ⟨s2, qs2e⟩ : ∃ x, nrS l out s = x := ⟨_, rfl⟩
      obtain ⟨kk, hke⟩ : ∃ x, nrK l s2 = x := ⟨_, rfl⟩
      obtain ⟨s3, qs3⟩ : ∃ x, (rdU l s2).2 = x := ⟨_, rfl⟩
      obtain ⟨s4, qs4e⟩ : ∃ x, nrT l s2 = x := ⟨_, rfl⟩
      have hhb := nrH_le l s
      have hkb := nrK_lt l s2
      have hpn := nrgo_step lt_i hp
      rw [qs2e] at hbig hpn
      rw [hke] at hbig hkb hpn
      rw [hhe] at hhb hpn
      rw [qs4e] at hpn
      obtain ⟨y, hy, hy2, hyc⟩ := hyy
      obtain ⟨b_, o_, c_, hv_, hb_, _⟩ := (row_nts h17).at_ (i - 1) _ hy
      have qs2 : s1.fail 9 s.pos = s2 := by rw [← qs1, ← qs2e, nrS_yes hy2 hyc]
      rw [hhe] at hyc
      have qs4 : s3 = s4 := by rw [← qs4e, ← qs3]; unfold nrT; rw [hke, if_neg hbig]
      refine qr_ [0] <| ppq (.bool true) (dct ((((i : Nat) : Int)) < (((m : Nat) : Int))) (by omega)) <| eq_ <| y_ <| s_ <| tq_ <| bl_ 1 <| qr_ [0, 1] <| pkq (iN i) <| pkq (iN i) <| eqr_ [0, 1, 2] <| pkq (pT b 0) ?_
      refine pcq 43 #[pT b 0] Tryz.func43 ((Rd.at_ h16).mono ?_)
      rintro e w1 ⟨rfl, rfl⟩
      refine ⟨_, rfl, ?_⟩
      refine pkq (.int .i64 s.pos) <| eqr_ [0, 1, 2, 3, 4] <| pkq (pT b 0) ?_
      have hKs7 := K18.size
      have hr2_7 := lt_of_block h15
      have hvl_7 : ∀ j, v.ownBlock = some j → j < V14.heap.size := fun j hj => h17.lt hj
      refine pcq 42 #[pT b 0, .int .i64 1, .int .i64 4294967296] Tryz.func42 ((rdn_is hhe qs1 (Rd.n h16 1 4294967296 (by decide) (by decide))).mono ?_)
      rintro e V287 ⟨rfl, Fa, hRa, hSa⟩
      have hrowa : Row V287 46 2 v out.length (out.flatMap Nt.cl) := h17.keeps hSa.1 (fun j hj e => (hd_i j e).2.2 hj)
      have hda : ∀ j, Fa j → w.heap.size ≤ j ∧ j ≠ r2 ∧ ¬ v.ownBlock = some j := fun j h => (hSa.2 j h).elim (hd_i j) (fun h => ⟨by omega, by omega, fun e => by have := hvl_7 j e; omega⟩)
      have hlta := Rd.lt hRa
      have hvla : ∀ j, v.ownBlock = some j → j < V287.heap.size := fun j hj => hrowa.lt hj
      refine ⟨_, rfl, ?_⟩
      have h288 : V287.heap[r2]? = some (.cells (#[.int .i64 0, .int .i64 0]) 31 (0, 0)) := (hSa.1.block r2 (lt_of_block h15) (fun e => (hd_i _ e).2.1 rfl)).trans h15
      have K289 : Keeps Nob w V287 := K18.then hSa.1 (fun k hi hm => absurd hi (by have := (hd_i k hm).1; omega))
      have z290 := hSa.1.size
      refine pkq (.agg #[.int .i64 hh, .int .u64 0]) <| pal 46 (#[.int .i64 0, .int .u64 0]) (.agg (#[.int .i64 0, .int .u64 0])) fun V291 gx egx h292 kV291 => ?_
      have n293 : r2 < gx := egx ▸ lt_of_block h288
      have n294 : w.heap.size ≤ gx := egx ▸ K289.size
      have h295 := kV291.bk h288
      have h296 : Rd V291 Fa b l s1 := hRa.keepsN kV291
      have h297 : Row V291 46 2 v out.length (out.flatMap Nt.cl) := hrowa.keeps kV291 (fun _ _ x => x)
      have K298 := K289.nn kV291
      have z299 := kV291.size
      obtain ⟨V300, eV300, kV300⟩ := rowset_step V291 gx (#[.int .i64 hh, .int .u64 0])
      have hvx : ∀ j, v.ownBlock = some j → j ≠ gx := fun j hj => by have := hvla j hj; omega
      have hd_Fa : ∀ j, Fa j → w.heap.size ≤ j ∧ j ≠ r2 ∧ j ≠ gx ∧ ¬ v.ownBlock = some j := fun j hj => ⟨(hda j hj).1, (hda j hj).2.1, by have := hlta j hj; omega, (hda j hj).2.2⟩
      have h301 : V300.heap[gx]? = some (.cells (#[.int .i64 hh, .int .u64 0]) 46 (0, 0)) := eV300 ▸ setRow_heap _ _ _ _ _ _ h292
      refine pzq (w' := V300) (by rw [← eV300]; exact exec_store_row 46 (.tmp 8) (.tmp 21) (by kernel_rfl) gx (#[.int .i64 hh, .int .u64 0]) (by kernel_rfl) (by kernel_rfl) 46 (#[.int .i64 0, .int .u64 0]) h292 (by kernel_rfl) rfl (by kernel_rfl)) ?_
      clear eV300
      have h302 := kV300.bO h295
      have h303 : Rd V300 Fa b l s1 := h296.keeps kV300 (fun j hj e => by have := hlta j hj; unfold Own.One at e; omega)
      have h304 : Row V300 46 2 v out.length (out.flatMap Nt.cl) := h297.keeps kV300 (fun j hj e => by have := hvla j hj; unfold Own.One at e; omega)
      have K305 := K298.nO kV300
      have z306 := kV300.size
      refine eq_ <| q_ <| sy_reg <| rg_still 8 12 (opsAt (qc73_0 125340)) [qo73_0 125340 0, qo73_0 125340 1, qo73_0 125340 2, qo73_0 125340 3, qo73_0 125340 4, qo73_0 125340 5, qo73_0 125340 6, qo73_0 125340 7, qo73_0 125340 8, qo73_0 125340 9, qo73_0 125340 10, qo73_0 125340 11] [qo73_0 125340 12] (by kernel_rfl) (by kernel_rfl) (by kernel_rfl) (by kernel_rfl) (by kernel_rfl) ?_
      obtain ⟨V308, eV308, kV308⟩ := drew_step V300
      rw [eV308]
      clear eV308
      have h309 := kV308.bk h302
      have h310 : Rd V308 Fa b l s1 := h303.keepsN kV308
      have h311 : Row V308 46 2 v out.length (out.flatMap Nt.cl) := h304.keeps kV308 (fun _ _ x => x)
      have h312 := kV308.bk h301
      have K313 := K305.nn kV308
      have z314 := kV308.size
      refine skq (iN i) <| spq (.bool true) (dct ((((i : Nat) : Int)) > ((0) : Int)) (by omega)) <| skq (.bool true) <| skq (pT gx 0) <| spq (.int .i64 hh) (ldk 3 gx 0 h312) <| skq (v) <| skq (iN i) <| spq (iN ((i - 1))) (exec_cast (congrArg (Value.int .i64) (wrapI (((i : Nat) : Int) - 1) ((i - 1 : Nat) : Int) (by omega) (by omega) (by omega))) (by kernel_rfl)) <| spq (.pointer (some ⟨b_, o_ + (i - 1) * 2, none⟩)) (exec_indexAt_slice 22 (.tmp 27) (.tmp 29) (by kernel_rfl) b_ o_ out.length c_ (Eq.trans (b := v) (by kernel_rfl) hv_) .i64 (i - 1) (by kernel_rfl) _ 2 Tryz.underlying22 (by kernel_rfl) (by omega)) <| skq (.pointer (some ⟨b_, o_ + (i - 1) * 2, none⟩)) <| spq (.int .i64 y.h) (exec_ld 3 (.tmp 31) b_ (o_ + (i - 1) * 2 + 0) Tryz.underlying3 (Sl.cell (row_nts h311) hy hv_ rfl)) <| spq (.bool true) (dct (((hh) : Int) < ((y.h) : Int)) (by omega)) <| st_end <| ls_run (qo73_0 125340 12) (.bool true) (w' := V308) (by kernel_rfl) (by kernel_rfl) ?_
      refine ls_end <| sy_a ⟨#[v0, ud, .slice none 0 0, pT r2 0, pT b 0, v, iN i, .int .i64 s.pos, pT gx 0, ud, v0, pT b 0, pT b 0, iN m, iN i, .bool true, iN i, pT b 0, .int .i64 s.pos, pT b 0, .int .i64 hh, .agg #[.int .i64 hh, .int .u64 0], iN i, .bool true, .bool true, pT gx 0, .int .i64 hh, v, iN i, iN ((i - 1)), .pointer (some ⟨b_, o_ + (i - 1) * 2, none⟩), .pointer (some ⟨b_, o_ + (i - 1) * 2, none⟩), .int .i64 y.h, .bool true, .bool true, u35, u36, u37, u38, u39, u40, u41, u42, u43, u44, u45, u46, u47, u48, u49, u50, u51, u52, u53, ud, ud, ud, ud, ud, ud, ud, ud], []⟩ <| then_n <| y_ <| r_ [0, 1, 2] <| pkq (pT b 0) <| pkq (.int .i64 s.pos) ?_
      have hKs9 := K313.size
      have hr2_9 := lt_of_block h309
      have hgx_9 := lt_of_block h312
      have hvl_9 : ∀ j, v.ownBlock = some j → j < V308.heap.size := fun j hj => h311.lt hj
      refine pcq 44 #[pT b 0, .int .i64 9, .int .i64 s.pos] Tryz.func44 ((Rd.fail h310 9 s.pos).mono ?_)
      rintro e V315 ⟨⟨rv9, rfl⟩, Fb, hRV315, hSV315⟩
      have hd_Fb : ∀ j, Fb j → w.heap.size ≤ j ∧ j ≠ r2 ∧ j ≠ gx ∧ ¬ v.ownBlock = some j := fun j h => (hSV315.2 j h).elim (hd_Fa j) (fun h => ⟨by omega, by omega, by omega, fun e => by have := hvl_9 j e; omega⟩)
      refine ⟨_, rfl, ?_⟩
      have h316 : V315.heap[r2]? = some (.cells (#[.int .i64 0, .int .i64 0]) 31 (0, 0)) := (hSV315.1.block r2 (lt_of_block h309) (fun e => by have := hd_Fa _ e; omega)).trans h309
      have h317 : Row V315 46 2 v out.length (out.flatMap Nt.cl) := h311.keeps hSV315.1 (fun j hj e => (hd_Fa j e).2.2.2 hj)
      have h318 : V315.heap[gx]? = some (.cells (#[.int .i64 hh, .int .u64 0]) 46 (0, 0)) := (hSV315.1.block gx (lt_of_block h312) (fun e => by have := hd_Fa _ e; omega)).trans h312
      have K319 : Keeps Nob w V315 := K313.then hSV315.1 (fun k hi hm => absurd hi (by have := (hd_Fa k hm).1; omega))
      have z320 := hSV315.1.size
      refine eqr_ [0, 1, 2] <| pkq (pT b 0) ?_
      refine pcq 43 #[pT b 0] Tryz.func43 ((Rd.at_ (qs2 ▸ hRV315)).mono ?_)
      rintro e w1 ⟨rfl, rfl⟩
      refine ⟨_, rfl, ?_⟩
      refine pkq (.int .i64 s2.pos) <| eqr_ [0, 1, 2, 3] <| pkq (pT b 0) ?_
      have hKs11 := K319.size
      have hr2_11 := lt_of_block h316
      have hgx_11 := lt_of_block h318
      have hvl_11 : ∀ j, v.ownBlock = some j → j < V315.heap.size := fun j hj => h317.lt hj
      refine pcq 45 #[pT b 0] Tryz.func45 ((rdu_is hke qs3 (Rd.u (qs2 ▸ hRV315))).mono ?_)
      rintro e V321 ⟨rfl, Fc, hRV321, hSV321⟩
      have hd_Fc : ∀ j, Fc j → w.heap.size ≤ j ∧ j ≠ r2 ∧ j ≠ gx ∧ ¬ v.ownBlock = some j := fun j h => (hSV321.2 j h).elim (hd_Fb j) (fun h => ⟨by omega, by omega, by omega, fun e => by have := hvl_11 j e; omega⟩)
      refine ⟨_, rfl, ?_⟩
      have h322 : V321.heap[r2]? = some (.cells (#[.int .i64 0, .int .i64 0]) 31 (0, 0)) := (hSV321.1.block r2 (lt_of_block h316) (fun e => by have := hd_Fb _ e; omega)).trans h316
      have h323 : Row V321 46 2 v out.length (out.flatMap Nt.cl) := h317.keeps hSV321.1 (fun j hj e => (hd_Fb j e).2.2.2 hj)
      have h324 : V321.heap[gx]? = some (.cells (#[.int .i64 hh, .int .u64 0]) 46 (0, 0)) := (hSV321.1.block gx (lt_of_block h318) (fun e => by have := hd_Fb _ e; omega)).trans h318
      have K325 : Keeps Nob w V321 := K319.then hSV321.1 (fun k hi hm => absurd hi (by have := (hd_Fb k hm).1; omega))
      have z326 := hSV321.1.size
      refine pkq (pT gx 1) <| pce 40 gx 1 (uN kk) (#[.int .i64 hh, .int .u64 ((kk : Nat) : Int)]) h324 (rc (h324) (by kernel_rfl)) (by kernel_rfl) (u := .int .u64 0) fun V327 h328 kV327 => ?_
      have h329 := kV327.bO h322
      have h330 : Row V327 46 2 v out.length (out.flatMap Nt.cl) := h323.keeps kV327 (fun j hj e => by have := hvx j hj; unfold Own.One at e; omega)
      have h331 : Rd V327 Fc b l s3 := hRV321.keeps kV327 (fun j hj e => by have := hd_Fc j hj; unfold Own.One at e; omega)
      have K332 := K325.nO kV327
      have z333 := kV327.size
      refine eq_ <| qr_ [0, 1, 2] <| pkq (pT gx 1) <| ppq (uN kk) (ldk 40 gx 1 h328) <| ppq (.bool false) (dcf ((((kk : Nat) : Int)) > ((4611686018427387904) : Int)) (by omega)) <| en_ <| s_ <| tr_ [0, 1, 2, 3, 4] <| pkq (v) <| ppq (.agg #[.int .i64 hh, uN kk]) (ldr 46 gx (h328) (by kernel_rfl)) ?_
      obtain ⟨V334, eV334, lit, elit, h335, kV334⟩ := alloc_step V327 (#[.int .i64 hh, .int .u64 ((kk : Nat) : Int)]) 46
      have n336 : r2 < lit := elit ▸ lt_of_block h329
      have n337 : gx < lit := elit ▸ lt_of_block h328
      have n338 : w.heap.size ≤ lit := elit ▸ K332.size
      refine prq (.slice (some ⟨lit, 0, none⟩) 1 1) (w' := V334) (by rw [← eV334, ← elit]; kernel_rfl) ?_
      have h339 := kV334.bk h329
      have h340 : Row V334 46 2 v out.length (out.flatMap Nt.cl) := h330.keeps kV334 (fun _ _ x => x)
      have h341 : Rd V334 Fc b l s3 := h331.keepsN kV334
      have K343 := K332.nn kV334
      have z344 := kV334.size
      obtain ⟨vn, V345, hr346, h347, hg348, hn349, ha350⟩ := run_append_any (P := Tryz.prog) (w := V334) 22 (Oper.type (qo73_0 501375 3)) 46 i2 (.agg #[.int .i64 0, .int .u64 0]) 2 16 Tryz.underlying22 hi2 hs0 hs1 hs2 rfl (by decide) v out.length (out.flatMap Nt.cl) h340 (.slice (some ⟨lit, 0, none⟩) 1 1) 1 (Nt.cl (⟨hh, kk⟩ : Nt)) (src_nt (x := ⟨hh, kk⟩) h335) (by unfold maxLen; omega) (by omega)
      have kV345 : Keeps (fun j => v.ownBlock = some j) V334 V345 := Keeps.rowAdd hg348
      have hw351 : NewFrom w.heap.size vn := hnw.next K343.size ha350
      refine prq vn (w' := V345) (exec_append (.tmp 49) (.tmp 51) 22 (by kernel_rfl) v (.slice (some ⟨lit, 0, none⟩) 1 1) (by kernel_rfl) (by kernel_rfl) hr346) ?_
      have h352 : Row V345 46 2 vn ((out ++ [(⟨hh, kk⟩ : Nt)]).length) ((out ++ [(⟨hh, kk⟩ : Nt)]).flatMap Nt.cl) := (row_nt rfl h347)
      have hnwn := hw351
      have hdn : ∀ j, Fc j → w.heap.size ≤ j ∧ j ≠ r2 ∧ ¬ vn.ownBlock = some j := fun j h => ⟨(hd_Fc j h).1, (hd_Fc j h).2.1, fun e => (ha350 j e).elim (fun q => (hd_Fc j h).2.2.2 q) (fun q => by have := Rd.lt h341 j h; omega)⟩
      have h353 : V345.heap[r2]? = some (.cells (#[.int .i64 0, .int .i64 0]) 31 (0, 0)) := (kV345.block r2 (lt_of_block h339) (fun e => Row.ne h340 h339 (by decide) e)).trans h339
      have h354 : Rd V345 Fc b l s3 := h341.keeps kV345 (fun j hj e => (hd_Fc j hj).2.2.2 e)
      have K355 : Keeps Nob w V345 := K343.then kV345 (fun i hi hm => absurd hi (by have := hnw i hm; omega))
      have z356 := kV345.size
      refine pkq (vn) <| ps_end <| blk_n <| tr_ [0, 1] <| ppq (iN (i + 1)) (exec_cast (congrArg (Value.int .i64) (wrapN (i + 1) (by omega))) (by kernel_rfl)) <| pkq (iN (i + 1)) <| et_ ?_
      refine ⟨⟨(i + 1), (out ++ [(⟨hh, kk⟩ : Nt)]), s4, vn, Fc, (iN i), (.int .i64 s2.pos), (pT gx 0), (.bool true), (iN i), (pT b 0), (.int .i64 s.pos), (pT b 0), (.int .i64 hh), (.agg #[.int .i64 hh, .int .u64 0]), (iN i), (.bool true), (.bool true), (pT gx 0), (.int .i64 hh), v, (iN i), (iN ((i - 1))), (.pointer (some ⟨b_, o_ + (i - 1) * 2, none⟩)), (.pointer (some ⟨b_, o_ + (i - 1) * 2, none⟩)), (.int .i64 y.h), (.bool true), (.bool true), (pT b 0), (.int .i64 s.pos), rv9, (pT b 0), (.int .i64 s2.pos), (pT b 0), (uN kk), (pT gx 1), (pT gx 1), (uN kk), (.bool false), u46, u47, u48, v, (.agg #[.int .i64 hh, uN kk]), (.slice (some ⟨lit, 0, none⟩) 1 1), vn, (iN (i + 1)), by kernel_rfl, by omega, by simp [hout], hpn, hdn, hnwn, h353, (qs4 ▸ h354), h352, K355⟩, ?_⟩
      exact lt_meas (x := m - (i + 1)) (y := m - i) (by kernel_rfl) (by kernel_rfl) (by omega)
    · skip
      obtain ⟨hh, hhe⟩ : ∃ x, nrH l s = x := ⟨_, rfl⟩
      obtain ⟨s1, qs1⟩ : ∃ x, (rdN l s 1 4294967296).2 = x := ⟨_, rfl⟩
      obtain ⟨s2, qs2e⟩ : ∃ x, nrS l out s = x := ⟨_, rfl⟩
      obtain ⟨kk, hke⟩ : ∃ x, nrK l s2 = x := ⟨_, rfl⟩
      obtain ⟨s3, qs3⟩ : ∃ x, (rdU l s2).2 = x := ⟨_, rfl⟩
      obtain ⟨s4, qs4e⟩ : ∃ x, nrT l s2 = x := ⟨_, rfl⟩
      have hhb := nrH_le l s
      have hkb := nrK_lt l s2
      have hpn := nrgo_step lt_i hp
      rw [qs2e] at hbig hpn
      rw [hke] at hbig hkb hpn
      rw [hhe] at hhb hpn
      rw [qs4e] at hpn
      obtain ⟨y, hy, hy2, hyc⟩ := hyy
      obtain ⟨b_, o_, c_, hv_, hb_, _⟩ := (row_nts h17).at_ (i - 1) _ hy
      have qs2 : s1.fail 9 s.pos = s2 := by rw [← qs1, ← qs2e, nrS_yes hy2 hyc]
      rw [hhe] at hyc
      have qs4 : s3.fail 3 s2.pos = s4 := by rw [← qs4e, ← qs3]; unfold nrT; rw [hke, if_pos hbig]
      refine qr_ [0] <| ppq (.bool true) (dct ((((i : Nat) : Int)) < (((m : Nat) : Int))) (by omega)) <| eq_ <| y_ <| s_ <| tq_ <| bl_ 1 <| qr_ [0, 1] <| pkq (iN i) <| pkq (iN i) <| eqr_ [0, 1, 2] <| pkq (pT b 0) ?_
      refine pcq 43 #[pT b 0] Tryz.func43 ((Rd.at_ h16).mono ?_)
      rintro e w1 ⟨rfl, rfl⟩
      refine ⟨_, rfl, ?_⟩
      refine pkq (.int .i64 s.pos) <| eqr_ [0, 1, 2, 3, 4] <| pkq (pT b 0) ?_
      have hKs7 := K18.size
      have hr2_7 := lt_of_block h15
      have hvl_7 : ∀ j, v.ownBlock = some j → j < V14.heap.size := fun j hj => h17.lt hj
      refine pcq 42 #[pT b 0, .int .i64 1, .int .i64 4294967296] Tryz.func42 ((rdn_is hhe qs1 (Rd.n h16 1 4294967296 (by decide) (by decide))).mono ?_)
      rintro e V357 ⟨rfl, Fa, hRa, hSa⟩
      have hrowa : Row V357 46 2 v out.length (out.flatMap Nt.cl) := h17.keeps hSa.1 (fun j hj e => (hd_i j e).2.2 hj)
      have hda : ∀ j, Fa j → w.heap.size ≤ j ∧ j ≠ r2 ∧ ¬ v.ownBlock = some j := fun j h => (hSa.2 j h).elim (hd_i j) (fun h => ⟨by omega, by omega, fun e => by have := hvl_7 j e; omega⟩)
      have hlta := Rd.lt hRa
      have hvla : ∀ j, v.ownBlock = some j → j < V357.heap.size := fun j hj => hrowa.lt hj
      refine ⟨_, rfl, ?_⟩
      have h358 : V357.heap[r2]? = some (.cells (#[.int .i64 0, .int .i64 0]) 31 (0, 0)) := (hSa.1.block r2 (lt_of_block h15) (fun e => (hd_i _ e).2.1 rfl)).trans h15
      have K359 : Keeps Nob w V357 := K18.then hSa.1 (fun k hi hm => absurd hi (by have := (hd_i k hm).1; omega))
      have z360 := hSa.1.size
      refine pkq (.agg #[.int .i64 hh, .int .u64 0]) <| pal 46 (#[.int .i64 0, .int .u64 0]) (.agg (#[.int .i64 0, .int .u64 0])) fun V361 gx egx h362 kV361 => ?_
      have n363 : r2 < gx := egx ▸ lt_of_block h358
      have n364 : w.heap.size ≤ gx := egx ▸ K359.size
      have h365 := kV361.bk h358
      have h366 : Rd V361 Fa b l s1 := hRa.keepsN kV361
      have h367 : Row V361 46 2 v out.length (out.flatMap Nt.cl) := hrowa.keeps kV361 (fun _ _ x => x)
      have K368 := K359.nn kV361
      have z369 := kV361.size
      obtain ⟨V370, eV370, kV370⟩ := rowset_step V361 gx (#[.int .i64 hh, .int .u64 0])
      have hvx : ∀ j, v.ownBlock = some j → j ≠ gx := fun j hj => by have := hvla j hj; omega
      have hd_Fa : ∀ j, Fa j → w.heap.size ≤ j ∧ j ≠ r2 ∧ j ≠ gx ∧ ¬ v.ownBlock = some j := fun j hj => ⟨(hda j hj).1, (hda j hj).2.1, by have := hlta j hj; omega, (hda j hj).2.2⟩
      have h371 : V370.heap[gx]? = some (.cells (#[.int .i64 hh, .int .u64 0]) 46 (0, 0)) := eV370 ▸ setRow_heap _ _ _ _ _ _ h362
      refine pzq (w' := V370) (by rw [← eV370]; exact exec_store_row 46 (.tmp 8) (.tmp 21) (by kernel_rfl) gx (#[.int .i64 hh, .int .u64 0]) (by kernel_rfl) (by kernel_rfl) 46 (#[.int .i64 0, .int .u64 0]) h362 (by kernel_rfl) rfl (by kernel_rfl)) ?_
      clear eV370
      have h372 := kV370.bO h365
      have h373 : Rd V370 Fa b l s1 := h366.keeps kV370 (fun j hj e => by have := hlta j hj; unfold Own.One at e; omega)
      have h374 : Row V370 46 2 v out.length (out.flatMap Nt.cl) := h367.keeps kV370 (fun j hj e => by have := hvla j hj; unfold Own.One at e; omega)
      have K375 := K368.nO kV370
      have z376 := kV370.size
      refine eq_ <| q_ <| sy_reg <| rg_still 8 12 (opsAt (qc73_0 125340)) [qo73_0 125340 0, qo73_0 125340 1, qo73_0 125340 2, qo73_0 125340 3, qo73_0 125340 4, qo73_0 125340 5, qo73_0 125340 6, qo73_0 125340 7, qo73_0 125340 8, qo73_0 125340 9, qo73_0 125340 10, qo73_0 125340 11] [qo73_0 125340 12] (by kernel_rfl) (by kernel_rfl) (by kernel_rfl) (by kernel_rfl) (by kernel_rfl) ?_
      obtain ⟨V378, eV378, kV378⟩ := drew_step V370
      rw [eV378]
      clear eV378
      have h379 := kV378.bk h372
      have h380 : Rd V378 Fa b l s1 := h373.keepsN kV378
      have h381 : Row V378 46 2 v out.length (out.flatMap Nt.cl) := h374.keeps kV378 (fun _ _ x => x)
      have h382 := kV378.bk h371
      have K383 := K375.nn kV378
      have z384 := kV378.size
      refine skq (iN i) <| spq (.bool true) (dct ((((i : Nat) : Int)) > ((0) : Int)) (by omega)) <| skq (.bool true) <| skq (pT gx 0) <| spq (.int .i64 hh) (ldk 3 gx 0 h382) <| skq (v) <| skq (iN i) <| spq (iN ((i - 1))) (exec_cast (congrArg (Value.int .i64) (wrapI (((i : Nat) : Int) - 1) ((i - 1 : Nat) : Int) (by omega) (by omega) (by omega))) (by kernel_rfl)) <| spq (.pointer (some ⟨b_, o_ + (i - 1) * 2, none⟩)) (exec_indexAt_slice 22 (.tmp 27) (.tmp 29) (by kernel_rfl) b_ o_ out.length c_ (Eq.trans (b := v) (by kernel_rfl) hv_) .i64 (i - 1) (by kernel_rfl) _ 2 Tryz.underlying22 (by kernel_rfl) (by omega)) <| skq (.pointer (some ⟨b_, o_ + (i - 1) * 2, none⟩)) <| spq (.int .i64 y.h) (exec_ld 3 (.tmp 31) b_ (o_ + (i - 1) * 2 + 0) Tryz.underlying3 (Sl.cell (row_nts h381) hy hv_ rfl)) <| spq (.bool true) (dct (((hh) : Int) < ((y.h) : Int)) (by omega)) <| st_end <| ls_run (qo73_0 125340 12) (.bool true) (w' := V378) (by kernel_rfl) (by kernel_rfl) ?_
      refine ls_end <| sy_a ⟨#[v0, ud, .slice none 0 0, pT r2 0, pT b 0, v, iN i, .int .i64 s.pos, pT gx 0, ud, v0, pT b 0, pT b 0, iN m, iN i, .bool true, iN i, pT b 0, .int .i64 s.pos, pT b 0, .int .i64 hh, .agg #[.int .i64 hh, .int .u64 0], iN i, .bool true, .bool true, pT gx 0, .int .i64 hh, v, iN i, iN ((i - 1)), .pointer (some ⟨b_, o_ + (i - 1) * 2, none⟩), .pointer (some ⟨b_, o_ + (i - 1) * 2, none⟩), .int .i64 y.h, .bool true, .bool true, u35, u36, u37, u38, u39, u40, u41, u42, u43, u44, u45, u46, u47, u48, u49, u50, u51, u52, u53, ud, ud, ud, ud, ud, ud, ud, ud], []⟩ <| then_n <| y_ <| r_ [0, 1, 2] <| pkq (pT b 0) <| pkq (.int .i64 s.pos) ?_
      have hKs9 := K383.size
      have hr2_9 := lt_of_block h379
      have hgx_9 := lt_of_block h382
      have hvl_9 : ∀ j, v.ownBlock = some j → j < V378.heap.size := fun j hj => h381.lt hj
      refine pcq 44 #[pT b 0, .int .i64 9, .int .i64 s.pos] Tryz.func44 ((Rd.fail h380 9 s.pos).mono ?_)
      rintro e V385 ⟨⟨rv9, rfl⟩, Fb, hRV385, hSV385⟩
      have hd_Fb : ∀ j, Fb j → w.heap.size ≤ j ∧ j ≠ r2 ∧ j ≠ gx ∧ ¬ v.ownBlock = some j := fun j h => (hSV385.2 j h).elim (hd_Fa j) (fun h => ⟨by omega, by omega, by omega, fun e => by have := hvl_9 j e; omega⟩)
      refine ⟨_, rfl, ?_⟩
      have h386 : V385.heap[r2]? = some (.cells (#[.int .i64 0, .int .i64 0]) 31 (0, 0)) := (hSV385.1.block r2 (lt_of_block h379) (fun e => by have := hd_Fa _ e; omega)).trans h379
      have h387 : Row V385 46 2 v out.length (out.flatMap Nt.cl) := h381.keeps hSV385.1 (fun j hj e => (hd_Fa j e).2.2.2 hj)
      have h388 : V385.heap[gx]? = some (.cells (#[.int .i64 hh, .int .u64 0]) 46 (0, 0)) := (hSV385.1.block gx (lt_of_block h382) (fun e => by have := hd_Fa _ e; omega)).trans h382
      have K389 : Keeps Nob w V385 := K383.then hSV385.1 (fun k hi hm => absurd hi (by have := (hd_Fa k hm).1; omega))
      have z390 := hSV385.1.size
      refine eqr_ [0, 1, 2] <| pkq (pT b 0) ?_
      refine pcq 43 #[pT b 0] Tryz.func43 ((Rd.at_ (qs2 ▸ hRV385)).mono ?_)
      rintro e w1 ⟨rfl, rfl⟩
      refine ⟨_, rfl, ?_⟩
      refine pkq (.int .i64 s2.pos) <| eqr_ [0, 1, 2, 3] <| pkq (pT b 0) ?_
      have hKs11 := K389.size
      have hr2_11 := lt_of_block h386
      have hgx_11 := lt_of_block h388
      have hvl_11 : ∀ j, v.ownBlock = some j → j < V385.heap.size := fun j hj => h387.lt hj
      refine pcq 45 #[pT b 0] Tryz.func45 ((rdu_is hke qs3 (Rd.u (qs2 ▸ hRV385))).mono ?_)
      rintro e V391 ⟨rfl, Fc, hRV391, hSV391⟩
      have hd_Fc : ∀ j, Fc j → w.heap.size ≤ j ∧ j ≠ r2 ∧ j ≠ gx ∧ ¬ v.ownBlock = some j := fun j h => (hSV391.2 j h).elim (hd_Fb j) (fun h => ⟨by omega, by omega, by omega, fun e => by have := hvl_11 j e; omega⟩)
      refine ⟨_, rfl, ?_⟩
      have h392 : V391.heap[r2]? = some (.cells (#[.int .i64 0, .int .i64 0]) 31 (0, 0)) := (hSV391.1.block r2 (lt_of_block h386) (fun e => by have := hd_Fb _ e; omega)).trans h386
      have h393 : Row V391 46 2 v out.length (out.flatMap Nt.cl) := h387.keeps hSV391.1 (fun j hj e => (hd_Fb j e).2.2.2 hj)
      have h394 : V391.heap[gx]? = some (.cells (#[.int .i64 hh, .int .u64 0]) 46 (0, 0)) := (hSV391.1.block gx (lt_of_block h388) (fun e => by have := hd_Fb _ e; omega)).trans h388
      have K395 : Keeps Nob w V391 := K389.then hSV391.1 (fun k hi hm => absurd hi (by have := (hd_Fb k hm).1; omega))
      have z396 := hSV391.1.size
      refine pkq (pT gx 1) <| pce 40 gx 1 (uN kk) (#[.int .i64 hh, .int .u64 ((kk : Nat) : Int)]) h394 (rc (h394) (by kernel_rfl)) (by kernel_rfl) (u := .int .u64 0) fun V397 h398 kV397 => ?_
      have h399 := kV397.bO h392
      have h400 : Row V397 46 2 v out.length (out.flatMap Nt.cl) := h393.keeps kV397 (fun j hj e => by have := hvx j hj; unfold Own.One at e; omega)
      have h401 : Rd V397 Fc b l s3 := hRV391.keeps kV397 (fun j hj e => by have := hd_Fc j hj; unfold Own.One at e; omega)
      have K402 := K395.nO kV397
      have z403 := kV397.size
      refine eq_ <| qr_ [0, 1, 2] <| pkq (pT gx 1) <| ppq (uN kk) (ldk 40 gx 1 h398) <| ppq (.bool true) (dct ((((kk : Nat) : Int)) > ((4611686018427387904) : Int)) (by omega)) <| ey_ <| r_ [0, 1, 2] <| pkq (pT b 0) <| pkq (.int .i64 s2.pos) ?_
      have hKs13 := K402.size
      have hr2_13 := lt_of_block h399
      have hgx_13 := lt_of_block h398
      have hvl_13 : ∀ j, v.ownBlock = some j → j < V397.heap.size := fun j hj => h400.lt hj
      refine pcq 44 #[pT b 0, .int .i64 3, .int .i64 s2.pos] Tryz.func44 ((Rd.fail h401 3 s2.pos).mono ?_)
      rintro e V404 ⟨⟨rv13, rfl⟩, Fd, hRV404, hSV404⟩
      have hd_Fd : ∀ j, Fd j → w.heap.size ≤ j ∧ j ≠ r2 ∧ j ≠ gx ∧ ¬ v.ownBlock = some j := fun j h => (hSV404.2 j h).elim (hd_Fc j) (fun h => ⟨by omega, by omega, by omega, fun e => by have := hvl_13 j e; omega⟩)
      refine ⟨_, rfl, ?_⟩
      have h405 : V404.heap[r2]? = some (.cells (#[.int .i64 0, .int .i64 0]) 31 (0, 0)) := (hSV404.1.block r2 (lt_of_block h399) (fun e => by have := hd_Fc _ e; omega)).trans h399
      have h406 : Row V404 46 2 v out.length (out.flatMap Nt.cl) := h400.keeps hSV404.1 (fun j hj e => (hd_Fc j e).2.2.2 hj)
      have h407 : V404.heap[gx]? = some (.cells (#[.int .i64 hh, .int .u64 ((kk : Nat) : Int)]) 46 (0, 0)) := (hSV404.1.block gx (lt_of_block h398) (fun e => by have := hd_Fc _ e; omega)).trans h398
      have K408 : Keeps Nob w V404 := K402.then hSV404.1 (fun k hi hm => absurd hi (by have := (hd_Fc k hm).1; omega))
      have z409 := hSV404.1.size
      refine er_ [0, 1, 2, 3, 4] <| pkq (v) <| ppq (.agg #[.int .i64 hh, uN kk]) (ldr 46 gx (h407) (by kernel_rfl)) ?_
      obtain ⟨V410, eV410, lit, elit, h411, kV410⟩ := alloc_step V404 (#[.int .i64 hh, .int .u64 ((kk : Nat) : Int)]) 46
      have n412 : r2 < lit := elit ▸ lt_of_block h405
      have n413 : gx < lit := elit ▸ lt_of_block h407
      have n414 : w.heap.size ≤ lit := elit ▸ K408.size
      refine prq (.slice (some ⟨lit, 0, none⟩) 1 1) (w' := V410) (by rw [← eV410, ← elit]; kernel_rfl) ?_
      have h415 := kV410.bk h405
      have h416 : Row V410 46 2 v out.length (out.flatMap Nt.cl) := h406.keeps kV410 (fun _ _ x => x)
      have h418 : Rd V410 Fd b l s4 := (qs4 ▸ hRV404).keepsN kV410
      have K419 := K408.nn kV410
      have z420 := kV410.size
      obtain ⟨vn, V421, hr422, h423, hg424, hn425, ha426⟩ := run_append_any (P := Tryz.prog) (w := V410) 22 (Oper.type (qo73_0 501375 3)) 46 i2 (.agg #[.int .i64 0, .int .u64 0]) 2 16 Tryz.underlying22 hi2 hs0 hs1 hs2 rfl (by decide) v out.length (out.flatMap Nt.cl) h416 (.slice (some ⟨lit, 0, none⟩) 1 1) 1 (Nt.cl (⟨hh, kk⟩ : Nt)) (src_nt (x := ⟨hh, kk⟩) h411) (by unfold maxLen; omega) (by omega)
      have kV421 : Keeps (fun j => v.ownBlock = some j) V410 V421 := Keeps.rowAdd hg424
      have hw427 : NewFrom w.heap.size vn := hnw.next K419.size ha426
      refine prq vn (w' := V421) (exec_append (.tmp 49) (.tmp 51) 22 (by kernel_rfl) v (.slice (some ⟨lit, 0, none⟩) 1 1) (by kernel_rfl) (by kernel_rfl) hr422) ?_
      have h428 : Row V421 46 2 vn ((out ++ [(⟨hh, kk⟩ : Nt)]).length) ((out ++ [(⟨hh, kk⟩ : Nt)]).flatMap Nt.cl) := (row_nt rfl h423)
      have hnwn := hw427
      have hdn : ∀ j, Fd j → w.heap.size ≤ j ∧ j ≠ r2 ∧ ¬ vn.ownBlock = some j := fun j h => ⟨(hd_Fd j h).1, (hd_Fd j h).2.1, fun e => (ha426 j e).elim (fun q => (hd_Fd j h).2.2.2 q) (fun q => by have := Rd.lt h418 j h; omega)⟩
      have h429 : V421.heap[r2]? = some (.cells (#[.int .i64 0, .int .i64 0]) 31 (0, 0)) := (kV421.block r2 (lt_of_block h415) (fun e => Row.ne h416 h415 (by decide) e)).trans h415
      have h430 : Rd V421 Fd b l s4 := h418.keeps kV421 (fun j hj e => (hd_Fd j hj).2.2.2 e)
      have K431 : Keeps Nob w V421 := K419.then kV421 (fun i hi hm => absurd hi (by have := hnw i hm; omega))
      have z432 := kV421.size
      refine pkq (vn) <| ps_end <| blk_n <| tr_ [0, 1] <| ppq (iN (i + 1)) (exec_cast (congrArg (Value.int .i64) (wrapN (i + 1) (by omega))) (by kernel_rfl)) <| pkq (iN (i + 1)) <| et_ ?_
      refine ⟨⟨(i + 1), (out ++ [(⟨hh, kk⟩ : Nt)]), s4, vn, Fd, (iN i), (.int .i64 s2.pos), (pT gx 0), (.bool true), (iN i), (pT b 0), (.int .i64 s.pos), (pT b 0), (.int .i64 hh), (.agg #[.int .i64 hh, .int .u64 0]), (iN i), (.bool true), (.bool true), (pT gx 0), (.int .i64 hh), v, (iN i), (iN ((i - 1))), (.pointer (some ⟨b_, o_ + (i - 1) * 2, none⟩)), (.pointer (some ⟨b_, o_ + (i - 1) * 2, none⟩)), (.int .i64 y.h), (.bool true), (.bool true), (pT b 0), (.int .i64 s.pos), rv9, (pT b 0), (.int .i64 s2.pos), (pT b 0), (uN kk), (pT gx 1), (pT gx 1), (uN kk), (.bool true), (pT b 0), (.int .i64 s2.pos), rv13, v, (.agg #[.int .i64 hh, uN kk]), (.slice (some ⟨lit, 0, none⟩) 1 1), vn, (iN (i + 1)), by kernel_rfl, by omega, by simp [hout], hpn, hdn, hnwn, h429, h430, h428, K431⟩, ?_⟩
      exact lt_meas (x := m - (i + 1)) (y := m - i) (by kernel_rfl) (by kernel_rfl) (by omega)
    · skip
      have hres := nread_ok eq_i hp hfin
      obtain ⟨fe, hfe⟩ : ∃ x, (s.fin l).1 = x := ⟨_, rfl⟩
      obtain ⟨fp, hfp⟩ : ∃ x, (s.fin l).2 = x := ⟨_, rfl⟩
      rw [hfe] at hfin
      refine qr_ [0] <| ppq (.bool false) (dcf ((((i : Nat) : Int)) < (((m : Nat) : Int))) (by omega)) <| eq_ <| n_ <| sy_exit 0 (by kernel_rfl) <| then_e <| then_e <| blk_e <| tq_ <| qr_ [0, 1, 2, 3] <| pkq (pT b 0) ?_
      refine pcq 46 #[pT b 0] Tryz.func46 ((rd_fin h16 hfe hfp).mono ?_)
      rintro e V433 ⟨rfl, kV433⟩
      refine ⟨_, rfl, ?_⟩
      have h434 := kV433.bk h15
      have h435 : Row V433 46 2 v out.length (out.flatMap Nt.cl) := h17.keeps kV433 (fun _ _ x => x)
      have K436 := K18.nn kV433
      have z437 := kV433.size
      refine pal 31 (#[.int .i64 0, .int .i64 0]) (.agg (#[.int .i64 0, .int .i64 0])) fun V438 gE egE h439 kV438 => ?_
      have n440 : r2 < gE := egE ▸ lt_of_block h434
      have n441 : w.heap.size ≤ gE := egE ▸ K436.size
      have h442 := kV438.bk h434
      have h443 : Row V438 46 2 v out.length (out.flatMap Nt.cl) := h435.keeps kV438 (fun _ _ x => x)
      have K444 := K436.nn kV438
      have z445 := kV438.size
      refine pst 31 gE (#[.int .i64 fe, .int .i64 fp]) h439 (by kernel_rfl) rfl (by kernel_rfl) fun V446 h447 kV446 => ?_
      have h448 := kV446.bO h442
      have h449 : Row V446 46 2 v out.length (out.flatMap Nt.cl) := h443.keeps kV446 (fun j hj e => Row.ne h443 h439 (by decide) ((show j = gE from e) ▸ hj))
      have K450 := K444.nO kV446
      have z451 := kV446.size
      refine eqr_ [0, 1, 2] <| pkq (pT gE 0) <| ppq (.int .i64 fe) (ldk 27 gE 0 h447) <| ppq (.bool false) (nqf ((fe) : Int) ((0) : Int) (by omega)) <| en_ <| s_ <| tqr_ [0, 1, 2, 3] <| pkq (v) <| pkq (.agg #[.int .i64 0, .int .i64 0]) <| pkq (v) <| pst 31 r2 (#[.int .i64 0, .int .i64 0]) h448 (by kernel_rfl) rfl (by kernel_rfl) fun V452 h453 kV452 => ?_
      have h454 : Row V452 46 2 v out.length (out.flatMap Nt.cl) := h449.keeps kV452 (fun j hj e => Row.ne h449 h448 (by decide) ((show j = r2 from e) ▸ hj))
      have K456 := K450.nO kV452
      have z457 := kV452.size
      refine eu_ <| sy_out (.tuple #[v, .agg #[.int .i64 0, .int .i64 0]]) rfl (results_tmp_row (p := 2) (q := 3) (ty := 31) (by kernel_rfl) _ _ r2 31 (#[.int .i64 0, .int .i64 0]) (0, 0) _ (v) (by kernel_rfl) h453 Tryz.underlying31 rfl (by kernel_rfl) (by kernel_rfl)) ?_
      exact ⟨v, by rw [hres], by rw [hres]; exact h454, hnw, K456⟩
    · skip
      have hres := nread_no eq_i hp hfin
      obtain ⟨fe, hfe⟩ : ∃ x, (s.fin l).1 = x := ⟨_, rfl⟩
      obtain ⟨fp, hfp⟩ : ∃ x, (s.fin l).2 = x := ⟨_, rfl⟩
      rw [hfe, hfp] at hres
      rw [hfe] at hfin
      refine qr_ [0] <| ppq (.bool false) (dcf ((((i : Nat) : Int)) < (((m : Nat) : Int))) (by omega)) <| eq_ <| n_ <| sy_exit 0 (by kernel_rfl) <| then_e <| then_e <| blk_e <| tq_ <| qr_ [0, 1, 2, 3] <| pkq (pT b 0) ?_
      refine pcq 46 #[pT b 0] Tryz.func46 ((rd_fin h16 hfe hfp).mono ?_)
      rintro e V458 ⟨rfl, kV458⟩
      refine ⟨_, rfl, ?_⟩
      have h459 := kV458.bk h15
      have K461 := K18.nn kV458
      have z462 := kV458.size
      refine pal 31 (#[.int .i64 0, .int .i64 0]) (.agg (#[.int .i64 0, .int .i64 0])) fun V463 gE egE h464 kV463 => ?_
      have n465 : r2 < gE := egE ▸ lt_of_block h459
      have n466 : w.heap.size ≤ gE := egE ▸ K461.size
      have h467 := kV463.bk h459
      have K469 := K461.nn kV463
      have z470 := kV463.size
      refine pst 31 gE (#[.int .i64 fe, .int .i64 fp]) h464 (by kernel_rfl) rfl (by kernel_rfl) fun V471 h472 kV471 => ?_
      have h473 := kV471.bO h467
      have K475 := K469.nO kV471
      have z476 := kV471.size
      refine eqr_ [0, 1, 2] <| pkq (pT gE 0) <| ppq (.int .i64 fe) (ldk 27 gE 0 h472) <| ppq (.bool true) (nqt ((fe) : Int) ((0) : Int) (by omega)) <| ey_ <| q_ <| sy_np <| sy_reg <| an_begin 18 3 (opsAt (qc73_0 1004)) (fun W => (W.heap[gE]? = some (.cells (#[.int .i64 fe, .int .i64 fp]) 31 (0, 0)))) #[false, false, false] (by kernel_rfl) (by kernel_rfl) (by kernel_rfl) (by kernel_rfl) ?_
      obtain ⟨V477, eV477, kV477⟩ := drew_step V471
      rw [eV477]
      clear eV477
      have h478 := kV477.bk h473
      have h480 := kV477.bk h472
      have K481 := K475.nn kV477
      have z482 := kV477.size
      refine avq 0 (.agg #[.int .i64 fe, .int .i64 fp]) (fun W hS => ldr 31 gE (hS) (by kernel_rfl)) h480 <| an_o 1 <| nrq (.slice none 0 0) (w' := V477) (by kernel_rfl) ?_
      refine ⟨h480, ?_⟩
      refine an_o 2 <| nst 31 r2 (#[.int .i64 fe, .int .i64 fp]) h478 (by kernel_rfl) rfl (by kernel_rfl) fun V483 h484 kV483 => ?_
      have h486 := kV483.bO h480
      have K487 := K481.nO kV483
      have z488 := kV483.size
      refine ⟨h486, ?_⟩
      refine an_end (by kernel_rfl) <| then_n <| u_ <| then_r <| sy_out (.tuple #[.slice none 0 0, .agg #[.int .i64 fe, .int .i64 fp]]) rfl (results_tmp_row (p := 2) (q := 3) (ty := 31) (by kernel_rfl) _ _ r2 31 (#[.int .i64 fe, .int .i64 fp]) (0, 0) _ (.slice none 0 0) (by kernel_rfl) h484 Tryz.underlying31 rfl (by kernel_rfl) (by kernel_rfl)) ?_
      exact ⟨_, by rw [hres], by rw [hres]; exact World.ownsRow_nil _ _ _ _, NewFrom.nil _, K487⟩
end Go.Proofs.YtghohakbepeffaaGreatDoor
namespace Go.Proofs.YtghohakbepeffaaGreatDoor
set_option maxRecDepth 100000
set_option maxHeartbeats 4000000
open Go Go.RowKit Go.Own Go.Shelf
theorem rGet_ok (v : Value) (l : List UInt8) (at_ : Int) (w : World) (hv : BytesAt w v l) :
    Calls Tryz.prog 76 #[v, .int .i64 at_] w fun e w' => e = .returned (getV (getAt l at_)) ∧ Keeps Nob w w' := by
  have hlen := hv.length_le
  obtain ⟨A, cap, rfl, hlc, hcm, _⟩ := hv.form
  by_cases h1 : at_ < 0
  · rw [getAt_out _ _ (.inl h1)]
    go_enter Tryz.func76, Tryz.ntmps76
    go_wp2
    exact bodyPost_ret (v := getV (0, 0, 3, 0)) (by simp [results, Tryz.results76, go_sem, getV]) rfl ⟨rfl, (Keeps.refl _ _).alloc _⟩
  · have h1d : decide (at_ < 0) = false := by simpa using h1
    by_cases h2 : (l.length : Int) < at_
    · rw [getAt_out _ _ (.inr h2)]
      go_enter Tryz.func76, Tryz.ntmps76
      go_wp2
      exact bodyPost_ret (v := getV (0, 0, 3, 0)) (by simp [results, Tryz.results76, go_sem, getV]) rfl ⟨rfl, (Keeps.refl _ _).alloc _⟩
    · obtain ⟨a, rfl⟩ : ∃ k : Nat, at_ = k := ⟨at_.toNat, by omega⟩
      have hal : a ≤ l.length := by omega
      have HV := Lib.hid hv
      clear hv
      obtain ⟨gg, hgg⟩ : ∃ g, getAt l a = g := ⟨_, rfl⟩
      rw [hgg]
      have HG := Lib.hid hgg
      clear hgg
      unfold maxLen at hcm
      go_enter Tryz.func76, Tryz.ntmps76
      go_wp2_with fail
      go_loop [7, 8] (fun n i => ∃ k m : Nat, a + k ≤ l.length ∧ i = .int .i64 k ∧ n = .int .u64 (m : Int) ∧ Hid (NumAt (l.drop a) k m) ∧ k ≤ 9) (fun _ i => l.length - (intOf i).toNat)
      case atStart => exact ⟨0, 0, by omega, rfl, rfl, Lib.hid (NumAt.zero _), by omega⟩
      case round =>
        obtain ⟨k, m, hk, rfl, rfl, HK, hk9⟩ := hrel
        have hk10 : decide ((k : Int) < 10) = true := by simp; omega
        by_cases hlt : a + k < l.length
        · obtain ⟨c, hc⟩ : ∃ c, l[a + k]? = some c := ⟨_, List.getElem?_eq_getElem hlt⟩
          obtain ⟨b, o, cap', hv, hb, c00⟩ := HV.out.at_ (a + k) c hc
          simp only [Value.slice.injEq, true_and] at hv
          obtain ⟨rfl, rfl⟩ := hv
          have c0 : (w.alloc (.cells #[.int .i64 0, .int .i64 0] 31)).cell? ⟨b, o + (a + k), none⟩ = some (.int .u8 (c.toNat : Int)) := (World.cell?_alloc_lt _ _ _ hb).trans c00
          clear c00
          have HC : Hid ((l.drop a)[k]? = some c) := Lib.hid (by rw [List.getElem?_drop]; exact hc)
          clear hc
          have hc256 : c.toNat < 256 := c.toNat_lt
          obtain ⟨z, hz⟩ : ∃ z, c.toNat = z := ⟨_, rfl⟩
          rw [hz] at c0 hc256
          have HZ := Lib.hid hz; clear hz
          have key : ((k = 9 ∧ 1 < z) ∨ (0 < k ∧ z = 0)) ∨ ¬ ((k = 9 ∧ 1 < z) ∨ (0 < k ∧ z = 0)) := Decidable.em _
          rcases key with hf | hf
          · have hn := HK.out.form HC.out HZ.out hf
            obtain rfl : gg = (0, 0, 5, (a : Int)) := HG.out.symm.trans (by rw [getAt_bad _ _ hal (by rw [hn]; decide), hn])
            have kinds : (((k : Int) == 9) = true ∧ (k == 9) = true ∧ decide (1 < (z : Int)) = true ∧ decide (1 < z) = true) ∨ (((k : Int) == 9) = false ∧ (k == 9) = false ∧ decide (0 < (k : Int)) = true ∧ decide (0 < k) = true ∧ ((z : Int) == 0) = true ∧ (z == 0) = true) ∨ (((k : Int) == 9) = true ∧ (k == 9) = true ∧ decide (1 < (z : Int)) = false ∧ decide (1 < z) = false ∧ decide (0 < (k : Int)) = true ∧ decide (0 < k) = true ∧ ((z : Int) == 0) = true ∧ (z == 0) = true) := by
              simp; omega
            clear hf hn
            rcases kinds with ⟨b0, b1, b2, b3⟩ | ⟨b0, b1, b2, b3, b4, b5⟩ | ⟨b0, b1, b2, b3, b4, b5, b6, b7⟩
            all_goals
              go_wp2_with fail
              exact bodyPost_ret (v := getV (0, 0, 5, (a : Int))) (by simp [results, Tryz.results76, go_sem, getV]) rfl ⟨rfl, (Keeps.refl _ _).alloc _⟩
          · have h9 : k = 9 → z ≤ 1 := fun h => by omega
            have hacc := acc_mod z m k hk9 h9 HK.out.2.1 (Nat.lt_of_lt_of_le HK.out.2.1 (Nat.le_trans (pow128_le k hk9) (by omega)))
            rw [wrap_u64_nat (z % 128) (by omega)] at hacc
            rw [show (((z % 128 : Nat)) : Int) = (z : Int) % 128 by omega] at hacc
            clear h9
            have kinds : (((k : Int) == 9) = false ∧ (k == 9) = false ∧ decide (0 < (k : Int)) = false ∧ decide (0 < k) = false) ∨ (((k : Int) == 9) = false ∧ (k == 9) = false ∧ decide (0 < (k : Int)) = true ∧ decide (0 < k) = true ∧ ((z : Int) == 0) = false ∧ (z == 0) = false) ∨ (((k : Int) == 9) = true ∧ (k == 9) = true ∧ decide (1 < (z : Int)) = false ∧ decide (1 < z) = false ∧ decide (0 < (k : Int)) = true ∧ decide (0 < k) = true ∧ ((z : Int) == 0) = false ∧ (z == 0) = false) := by
              simp; omega
            by_cases hlt2 : z < 128
            · have hn := HK.out.done HC.out HZ.out hf hlt2
              clear hf
              generalize m + z % 128 * 128 ^ k = m' at hacc hn
              obtain rfl : gg = (m', (a : Int) + ((k + 1 : Nat) : Int), 0, 0) := HG.out.symm.trans (by rw [getAt_ok _ _ hal (by rw [hn]), hn])
              clear hn
              rcases kinds with ⟨b0, b1, b2, b3⟩ | ⟨b0, b1, b2, b3, b4, b5⟩ | ⟨b0, b1, b2, b3, b4, b5, b6, b7⟩
              all_goals
                go_wp2_with fail
                exact bodyPost_ret (v := getV (m', (a : Int) + ((k + 1 : Nat) : Int), 0, 0)) (by simp [results, Tryz.results76, go_sem, getV]) rfl ⟨rfl, (Keeps.refl _ _).alloc _⟩
            · have HN := Lib.hid (HK.out.more HC.out HZ.out hf hlt2)
              have h91 := HN.out.2.2
              clear hf
              generalize m + z % 128 * 128 ^ k = m' at hacc HN
              rcases kinds with ⟨b0, b1, b2, b3⟩ | ⟨b0, b1, b2, b3, b4, b5⟩ | ⟨b0, b1, b2, b3, b4, b5, b6, b7⟩
              all_goals
                go_wp2_with fail
                go_round
                case rel => exact ⟨k + 1, m', by omega, by go_num, rfl, HN, h91⟩
                case measure => simp [intOf]; omega
        · have hn := HK.out.end_ (by rw [List.length_drop]; omega)
          obtain rfl : gg = (0, 0, 6, (a : Int)) := HG.out.symm.trans (by rw [getAt_bad _ _ hal (by rw [hn]; decide), hn])
          clear hn
          go_wp2_with fail
          exact bodyPost_ret (v := getV (0, 0, 6, (a : Int))) (by simp [results, Tryz.results76, go_sem, getV]) rfl ⟨rfl, (Keeps.refl _ _).alloc _⟩
end Go.Proofs.YtghohakbepeffaaGreatDoor
namespace Go.Proofs.YtghohakbepeffaaGreatDoor
set_option maxRecDepth 100000
set_option maxHeartbeats 4000000
open Go Go.RowKit Go.Own Go.Shelf
theorem fault_zero (w : World) : (zeroValue 31).run Tryz.prog w = .ok (.agg #[.int .i64 0, .int .i64 0]) w := by kernel_rfl
noncomputable def opsrRU_3 : Array Oper := opsOf Tryz.f50 3
theorem refU_region {ops' : Array Oper} (hops : ops' = opsrRU_3) {u1 u2 u3 u4 u5 u6 u7 u8 u9 u10 u11 u12 u13 u14 u15 u16 u17 u18 u19 u20 u21 u22 u23 u24 u25 u26 u27 u28 u29 u30 u31 u32 u33 u34 u35 u36 : Value} (b : Nat) (A : Option Addr) (l : List UInt8) (cap at_ : Nat) (e0 e1 : Int) (W0 : World) (HBK : W0.heap[b]? = some (.cells #[.slice A l.length cap, .int .i64 (at_ : Int), .int .i64 e0, .int .i64 e1] 84 (0, 0))) (n to er bad : Int) (HF : ∀ W, Keeps Nob W0 W → Calls Tryz.prog 76 #[.slice A l.length cap, .int .i64 (at_ : Int)] W fun e w' => e = .returned (.tuple #[.int .u64 n, .int .i64 to, .agg #[.int .i64 er, .int .i64 bad]]) ∧ Keeps Nob W w') (Q : Exit → Act → World → Prop)
    (hQ : ∀ (gf : Nat) (W : World), Keeps Nob W0 W → W0.heap.size ≤ gf → W.heap[gf]? = some (.cells #[.int .i64 er, .int .i64 bad] 31 (0, 0)) → Q .normal ⟨#[.pointer (some ⟨b, 0, none⟩), u1, u2, .int .u64 n, .int .i64 to, .pointer (some ⟨gf, 0, none⟩), u6, u7, u8, u9, u10, u11, .tuple #[.int .u64 n, .int .i64 to, .agg #[.int .i64 er, .int .i64 bad]], .pointer (some ⟨b, 0, none⟩), .pointer (some ⟨b, 0, none⟩), .pointer (some ⟨b, 0, none⟩), .slice A l.length cap, .pointer (some ⟨b, 0, none⟩), .pointer (some ⟨b, 0, none⟩), .pointer (some ⟨b, 1, none⟩), .int .i64 (at_ : Int), .tuple #[.int .u64 n, .int .i64 to, .agg #[.int .i64 er, .int .i64 bad]], .int .u64 n, .int .i64 to, .agg #[.int .i64 er, .int .i64 bad], u25, u26, u27, u28, u29, u30, u31, u32, u33, u34, u35, u36], []⟩ W) : (Code.region 3 ops' true).wp Tryz.prog Q ⟨#[.pointer (some ⟨b, 0, none⟩), u1, u2, u3, u4, u5, u6, u7, u8, u9, u10, u11, u12, u13, u14, u15, u16, u17, u18, u19, u20, u21, u22, u23, u24, u25, u26, u27, u28, u29, u30, u31, u32, u33, u34, u35, u36], []⟩ W0 := by
  subst hops
  refine wp_region_noPanic ?_
  have hb0 : b < W0.heap.size := lt_of_block HBK
  have cb : ∀ W, Keeps Nob W0 W → W.heap[b]? = some (.cells #[.slice A l.length cap, .int .i64 (at_ : Int), .int .i64 e0, .int .i64 e1] 84 (0, 0)) := fun W hW => (hW.block b hb0 (fun x => x)).trans HBK
  refine wp_regionH_fuel (fun W => Keeps Nob W0 W) 17 #[false, false, false, false, false, false, false, false, false, false, false, false, false, false, false, false, false] (by kernel_rfl) (by kernel_rfl) rfl ?_
  have S0 : Keeps Nob W0 W0.drew := (Keeps.refl _ _).drew
  refine wpAnyH_val (i := 0) (opsrRU_3.getD 0 default) (.pointer (some ⟨b, 0, none⟩)) (by kernel_rfl) (fun _ _ _ _ _ h => h) (by kernel_rfl) (by kernel_rfl) (by kernel_rfl) (by kernel_rfl) (fun W hW => by kernel_rfl) S0 <| wpAnyH_val (i := 1) (opsrRU_3.getD 1 default) (.pointer (some ⟨b, 0, none⟩)) (by kernel_rfl) (fun _ _ _ _ _ h => h) (by kernel_rfl) (by kernel_rfl) (by kernel_rfl) (by kernel_rfl) (fun W hW => by kernel_rfl) S0 <| wpAnyH_val (i := 2) (opsrRU_3.getD 2 default) (.pointer (some ⟨b, 0, none⟩)) (by kernel_rfl) (fun _ _ _ _ _ h => h) (by kernel_rfl) (by kernel_rfl) (by kernel_rfl) (by kernel_rfl) (fun W hW => by kernel_rfl) S0 <| wpAnyH_val (i := 3) (opsrRU_3.getD 3 default) (.slice A l.length cap) (by kernel_rfl) (fun _ _ _ _ _ h => h) (by kernel_rfl) (by kernel_rfl) (by kernel_rfl) (by kernel_rfl) (fun W hW => exec_load_cell 23 (.tmp 15) (by kernel_rfl) ⟨b, 0, none⟩ (by kernel_rfl) _ _ Tryz.underlying23 rfl ((cell_of_row W b 0 _ _ _ (cb W hW)).trans rfl)) S0 <| wpAnyH_val (i := 4) (opsrRU_3.getD 4 default) (.pointer (some ⟨b, 0, none⟩)) (by kernel_rfl) (fun _ _ _ _ _ h => h) (by kernel_rfl) (by kernel_rfl) (by kernel_rfl) (by kernel_rfl) (fun W hW => by kernel_rfl) S0 <| wpAnyH_val (i := 5) (opsrRU_3.getD 5 default) (.pointer (some ⟨b, 0, none⟩)) (by kernel_rfl) (fun _ _ _ _ _ h => h) (by kernel_rfl) (by kernel_rfl) (by kernel_rfl) (by kernel_rfl) (fun W hW => by kernel_rfl) S0 <| wpAnyH_val (i := 6) (opsrRU_3.getD 6 default) (.pointer (some ⟨b, 1, none⟩)) (by kernel_rfl) (fun _ _ _ _ _ h => h) (by kernel_rfl) (by kernel_rfl) (by kernel_rfl) (by kernel_rfl) (fun W hW => by kernel_rfl) S0 <| wpAnyH_val (i := 7) (opsrRU_3.getD 7 default) (.int .i64 (at_ : Int)) (by kernel_rfl) (fun _ _ _ _ _ h => h) (by kernel_rfl) (by kernel_rfl) (by kernel_rfl) (by kernel_rfl) (fun W hW => exec_load_cell 3 (.tmp 19) (by kernel_rfl) ⟨b, 1, none⟩ (by kernel_rfl) _ _ Tryz.underlying3 rfl ((cell_of_row W b 1 _ _ _ (cb W hW)).trans rfl)) S0 ?_
  refine anyH_two 8 13 (by kernel_rfl) ?_ ?_
  · refine opH_callF (opsrRU_3.getD 8 default) 76 #[.slice A l.length cap, .int .i64 (at_ : Int)] (by kernel_rfl) (by kernel_rfl) (by kernel_rfl) (by kernel_rfl) (enters_of Tryz.func76 (by kernel_rfl) rfl) ((HF W0.drew S0).mono ?_)
    rintro e V1 ⟨rfl, hk1⟩
    have SV1 := (S0).trans hk1
    refine ⟨_, rfl, SV1, ?_⟩
    refine wpAnyH_val (i := 9) (opsrRU_3.getD 9 default) (.tuple #[.int .u64 n, .int .i64 to, .agg #[.int .i64 er, .int .i64 bad]]) (by kernel_rfl) (fun _ _ _ _ _ h => h) (by kernel_rfl) (by kernel_rfl) (by kernel_rfl) (by kernel_rfl) (fun W hW => by kernel_rfl) SV1 <| wpAnyH_val (i := 10) (opsrRU_3.getD 10 default) (.int .u64 n) (by kernel_rfl) (fun _ _ _ _ _ h => h) (by kernel_rfl) (by kernel_rfl) (by kernel_rfl) (by kernel_rfl) (fun W hW => by kernel_rfl) SV1 <| wpAnyH_val (i := 11) (opsrRU_3.getD 11 default) (.int .i64 to) (by kernel_rfl) (fun _ _ _ _ _ h => h) (by kernel_rfl) (by kernel_rfl) (by kernel_rfl) (by kernel_rfl) (fun W hW => by kernel_rfl) SV1 <| wpAnyH_val (i := 12) (opsrRU_3.getD 12 default) (.agg #[.int .i64 er, .int .i64 bad]) (by kernel_rfl) (fun _ _ _ _ _ h => h) (by kernel_rfl) (by kernel_rfl) (by kernel_rfl) (by kernel_rfl) (fun W hW => by kernel_rfl) SV1 ?_
    obtain ⟨V2, eV2⟩ : ∃ V, (V1).alloc (.cells #[.int .i64 0, .int .i64 0] 31) = V := ⟨_, rfl⟩
    obtain ⟨gf, egf⟩ : ∃ g, (V1).heap.size = g := ⟨_, rfl⟩
    have SV2 : Keeps Nob W0 V2 := eV2 ▸ (SV1).alloc _
    have row_f_2 : V2.heap[gf]? = some (.cells #[.int .i64 0, .int .i64 0] 31 (0, 0)) := by rw [← eV2, ← egf]; exact heap_alloc_new _ _
    have le_f : W0.heap.size ≤ gf := egf ▸ (SV1).size
    refine wpAnyH_run (i := 13) (opsrRU_3.getD 13 default) (.pointer (some ⟨gf, 0, none⟩)) (w' := V2) (by kernel_rfl) (by kernel_rfl) (by kernel_rfl) (.inl (by rw [← eV2, ← egf]; exact exec_alloc 31 (by kernel_rfl) (fault_zero _))) SV2 ?_
    clear eV2
    refine wpAnyH_run (i := 14) (opsrRU_3.getD 14 default) (.int .u64 n) (w' := V2) (by kernel_rfl) (by kernel_rfl) (by kernel_rfl) (.inl (by kernel_rfl)) SV2 <| wpAnyH_run (i := 15) (opsrRU_3.getD 15 default) (.int .i64 to) (w' := V2) (by kernel_rfl) (by kernel_rfl) (by kernel_rfl) (.inl (by kernel_rfl)) SV2 ?_
    obtain ⟨V3, eV3⟩ : ∃ V, (V2).setRow gf #[.int .i64 er, .int .i64 bad] = V := ⟨_, rfl⟩
    have SV3 : Keeps Nob W0 V3 := eV3 ▸ (SV2).setRow (fun x => absurd x (by omega)) _
    have row_f_3 : V3.heap[gf]? = some (.cells #[.int .i64 er, .int .i64 bad] 31 (0, 0)) := by rw [← eV3]; exact setRow_heap _ _ _ _ _ _ row_f_2
    refine wpAnyH_run (i := 16) (opsrRU_3.getD 16 default) undef (w' := V3) (by kernel_rfl) (by kernel_rfl) (by kernel_rfl) (.inr ⟨(by rw [← eV3]; exact exec_store_row 31 (.tmp 5) (.tmp 24) (by kernel_rfl) gf #[.int .i64 er, .int .i64 bad] (by kernel_rfl) (by kernel_rfl) 31 #[.int .i64 0, .int .i64 0] row_f_2 (by kernel_rfl) rfl (by simp [Value.oneCell'])), rfl⟩) SV3 ?_
    clear eV3
    refine wpAnyH_done (by kernel_rfl) ?_ _
    refine NoPanic.normal ?_
    exact state_eq (b := ⟨#[.pointer (some ⟨b, 0, none⟩), u1, u2, .int .u64 n, .int .i64 to, .pointer (some ⟨gf, 0, none⟩), u6, u7, u8, u9, u10, u11, .tuple #[.int .u64 n, .int .i64 to, .agg #[.int .i64 er, .int .i64 bad]], .pointer (some ⟨b, 0, none⟩), .pointer (some ⟨b, 0, none⟩), .pointer (some ⟨b, 0, none⟩), .slice A l.length cap, .pointer (some ⟨b, 0, none⟩), .pointer (some ⟨b, 0, none⟩), .pointer (some ⟨b, 1, none⟩), .int .i64 (at_ : Int), .tuple #[.int .u64 n, .int .i64 to, .agg #[.int .i64 er, .int .i64 bad]], .int .u64 n, .int .i64 to, .agg #[.int .i64 er, .int .i64 bad], u25, u26, u27, u28, u29, u30, u31, u32, u33, u34, u35, u36], []⟩) (by kernel_rfl) (hQ gf V3 SV3 le_f row_f_3)
  · obtain ⟨V1, eV1⟩ : ∃ V, (W0.drew).alloc (.cells #[.int .i64 0, .int .i64 0] 31) = V := ⟨_, rfl⟩
    obtain ⟨gf, egf⟩ : ∃ g, (W0.drew).heap.size = g := ⟨_, rfl⟩
    have SV1 : Keeps Nob W0 V1 := eV1 ▸ (S0).alloc _
    have row_f_1 : V1.heap[gf]? = some (.cells #[.int .i64 0, .int .i64 0] 31 (0, 0)) := by rw [← eV1, ← egf]; exact heap_alloc_new _ _
    have le_f : W0.heap.size ≤ gf := egf ▸ (S0).size
    refine opH_run (opsrRU_3.getD 13 default) (.pointer (some ⟨gf, 0, none⟩)) (w' := V1) (by kernel_rfl) (by kernel_rfl) (by rw [← eV1, ← egf]; exact exec_alloc 31 (by kernel_rfl) (fault_zero _)) ⟨SV1, ?_⟩
    clear eV1
    refine wpAnyH_call (i := 8) (opsrRU_3.getD 8 default) 76 #[.slice A l.length cap, .int .i64 (at_ : Int)] (by kernel_rfl) (by kernel_rfl) (by kernel_rfl) (by kernel_rfl) (by kernel_rfl) (enters_of Tryz.func76 (by kernel_rfl) rfl) ((HF V1 SV1).mono ?_)
    rintro e V2 ⟨rfl, hk2⟩
    have SV2 := (SV1).trans hk2
    refine ⟨_, rfl, SV2, ?_⟩
    have row_f_2 := (hk2.block gf (lt_of_block row_f_1) (fun x => x)).trans row_f_1
    refine wpAnyH_val (i := 9) (opsrRU_3.getD 9 default) (.tuple #[.int .u64 n, .int .i64 to, .agg #[.int .i64 er, .int .i64 bad]]) (by kernel_rfl) (fun _ _ _ _ _ h => h) (by kernel_rfl) (by kernel_rfl) (by kernel_rfl) (by kernel_rfl) (fun W hW => by kernel_rfl) SV2 <| wpAnyH_val (i := 10) (opsrRU_3.getD 10 default) (.int .u64 n) (by kernel_rfl) (fun _ _ _ _ _ h => h) (by kernel_rfl) (by kernel_rfl) (by kernel_rfl) (by kernel_rfl) (fun W hW => by kernel_rfl) SV2 <| wpAnyH_val (i := 11) (opsrRU_3.getD 11 default) (.int .i64 to) (by kernel_rfl) (fun _ _ _ _ _ h => h) (by kernel_rfl) (by kernel_rfl) (by kernel_rfl) (by kernel_rfl) (fun W hW => by kernel_rfl) SV2 <| wpAnyH_val (i := 12) (opsrRU_3.getD 12 default) (.agg #[.int .i64 er, .int .i64 bad]) (by kernel_rfl) (fun _ _ _ _ _ h => h) (by kernel_rfl) (by kernel_rfl) (by kernel_rfl) (by kernel_rfl) (fun W hW => by kernel_rfl) SV2 <| wpAnyH_run (i := 14) (opsrRU_3.getD 14 default) (.int .u64 n) (w' := V2) (by kernel_rfl) (by kernel_rfl) (by kernel_rfl) (.inl (by kernel_rfl)) SV2 <| wpAnyH_run (i := 15) (opsrRU_3.getD 15 default) (.int .i64 to) (w' := V2) (by kernel_rfl) (by kernel_rfl) (by kernel_rfl) (.inl (by kernel_rfl)) SV2 ?_
    obtain ⟨V3, eV3⟩ : ∃ V, (V2).setRow gf #[.int .i64 er, .int .i64 bad] = V := ⟨_, rfl⟩
    have SV3 : Keeps Nob W0 V3 := eV3 ▸ (SV2).setRow (fun x => absurd x (by omega)) _
    have row_f_3 : V3.heap[gf]? = some (.cells #[.int .i64 er, .int .i64 bad] 31 (0, 0)) := by rw [← eV3]; exact setRow_heap _ _ _ _ _ _ row_f_2
    refine wpAnyH_run (i := 16) (opsrRU_3.getD 16 default) undef (w' := V3) (by kernel_rfl) (by kernel_rfl) (by kernel_rfl) (.inr ⟨(by rw [← eV3]; exact exec_store_row 31 (.tmp 5) (.tmp 24) (by kernel_rfl) gf #[.int .i64 er, .int .i64 bad] (by kernel_rfl) (by kernel_rfl) 31 #[.int .i64 0, .int .i64 0] row_f_2 (by kernel_rfl) rfl (by simp [Value.oneCell'])), rfl⟩) SV3 ?_
    clear eV3
    refine wpAnyH_done (by kernel_rfl) ?_ _
    refine NoPanic.normal ?_
    exact state_eq (b := ⟨#[.pointer (some ⟨b, 0, none⟩), u1, u2, .int .u64 n, .int .i64 to, .pointer (some ⟨gf, 0, none⟩), u6, u7, u8, u9, u10, u11, .tuple #[.int .u64 n, .int .i64 to, .agg #[.int .i64 er, .int .i64 bad]], .pointer (some ⟨b, 0, none⟩), .pointer (some ⟨b, 0, none⟩), .pointer (some ⟨b, 0, none⟩), .slice A l.length cap, .pointer (some ⟨b, 0, none⟩), .pointer (some ⟨b, 0, none⟩), .pointer (some ⟨b, 1, none⟩), .int .i64 (at_ : Int), .tuple #[.int .u64 n, .int .i64 to, .agg #[.int .i64 er, .int .i64 bad]], .int .u64 n, .int .i64 to, .agg #[.int .i64 er, .int .i64 bad], u25, u26, u27, u28, u29, u30, u31, u32, u33, u34, u35, u36], []⟩) (by kernel_rfl) (hQ gf V3 SV3 le_f row_f_3)
end Go.Proofs.YtghohakbepeffaaGreatDoor
namespace Go.Proofs.YtghohakbepeffaaGreatDoor
set_option maxRecDepth 100000
set_option maxHeartbeats 4000000
open Go Go.RowKit Go.Own Go.Shelf
/-- The document's reader at block b: its bytes' slice v; the same state. -/
structure RrAt (w : World) (b : Nat) (v : Value) (l : List UInt8) (s : RS) : Prop where
  ex : ∃ (at_ : Nat) (ea : Int), w.heap[b]? = some (.cells #[v, .int .i64 (at_ : Int), .int .i64 s.err, .int .i64 ea] 84 (0, 0)) ∧ at_ ≤ l.length ∧ (s.err = 0 → s.pos = at_ ∧ ea = 0) ∧ (s.err ≠ 0 → s.pos = ea)
  bytes : BytesAt w v l
  own : v.ownBlock ≠ some b
theorem RrAt.keeps {w w' : World} {M : Nat → Prop} {b : Nat} {v : Value} {l : List UInt8} {s : RS} (h : RrAt w b v l s) (k : Keeps M w w') (hb : ¬ M b) (hm : ∀ j, v.ownBlock = some j → ¬ M j) : RrAt w' b v l s := by
  obtain ⟨at_, ea, hbk, r⟩ := h.ex
  exact ⟨⟨at_, ea, (k.block b (lt_of_block hbk) hb).trans hbk, r⟩, h.bytes.keeps k hm, h.own⟩
theorem RrAt.lt {w : World} {b : Nat} {v : Value} {l : List UInt8} {s : RS} (h : RrAt w b v l s) : b < w.heap.size := by
  obtain ⟨at_, ea, hb, _⟩ := h.ex
  exact lt_of_block hb
theorem RrAt.pos {w : World} {b : Nat} {v : Value} {l : List UInt8} {s : RS} (h : RrAt w b v l s) (h0 : s.err = 0) : 0 ≤ s.pos ∧ s.pos ≤ l.length := by
  obtain ⟨at_, ea, hb, hl, h1, _⟩ := h.ex
  have := (h1 h0).1
  omega
theorem rrEnd_ok (b : Nat) (v : Value) (l : List UInt8) (s : RS) (w : World) (h : RrAt w b v l s) :
    Calls Tryz.prog 51 #[.pointer (some ⟨b, 0, none⟩)] w fun e w' => e = .returned (.agg #[.int .i64 (s.fin l).1, .int .i64 (s.fin l).2]) ∧ Keeps Nob w w' := by
  have hk0 : Keeps Nob w (w.alloc (.cells #[.int .i64 0, .int .i64 0] 31)) := (Keeps.refl _ _).alloc _
  have hA := h.keeps hk0 (fun x => x) (fun _ _ x => x)
  have hll := h.bytes.length_le
  obtain ⟨A, cap, rfl⟩ := h.bytes.len
  obtain ⟨at_, ea, hb, hl, h1, h2⟩ := hA.ex
  have hlt := h.lt
  have c0 := (cell_of_row _ b 0 _ _ _ hb).trans (show _ = some (.slice A l.length cap) from rfl)
  have c1 := (cell_of_row _ b 1 _ _ _ hb).trans (show _ = some (.int .i64 (at_ : Int)) from rfl)
  have c2 := (cell_of_row _ b 2 _ _ _ hb).trans (show _ = some (.int .i64 s.err) from rfl)
  have c3 := (cell_of_row _ b 3 _ _ _ hb).trans (show _ = some (.int .i64 ea) from rfl)
  clear h hA hb
  by_cases h0 : s.err = 0
  · obtain ⟨hp, rfl⟩ := h1 h0
    have d0 : (s.err == 0) = true := by simpa using h0
    by_cases h1' : at_ < l.length
    · have hs : s.fin l = (4, (at_ : Int)) := by unfold RS.fin; rw [if_pos h0, hp, if_pos (by omega)]
      rw [hs]
      clear hs h0 hp h1 h2
      go_enter Tryz.func51, Tryz.ntmps51
      go_wp2
      go_quiet (fail)
      go_wp2
      exact bodyPost_ret (v := .agg #[.int .i64 4, .int .i64 (at_ : Int)]) (by simp [results, Tryz.results51, go_sem]) rfl ⟨rfl, ((hk0.drewN _).setCell_new (p := ⟨w.heap.size, 0, none⟩) (Nat.le_refl _) _).setCell_new (p := ⟨w.heap.size, 1, none⟩) (Nat.le_refl _) _⟩
    · have hs : s.fin l = (0, 0) := by unfold RS.fin; rw [if_pos h0, hp, if_neg (by omega)]
      rw [hs]
      rw [h0] at c2
      clear hs h0 hp h1 h2 d0
      go_enter Tryz.func51, Tryz.ntmps51
      go_wp2
      go_quiet (fail)
      go_wp2
      exact bodyPost_ret (v := .agg #[.int .i64 0, .int .i64 0]) (by simp [results, Tryz.results51, go_sem]) rfl ⟨rfl, ((hk0.drewN _).setCell_new (p := ⟨w.heap.size, 0, none⟩) (Nat.le_refl _) _).setCell_new (p := ⟨w.heap.size, 1, none⟩) (Nat.le_refl _) _⟩
  · have hs : s.fin l = (s.err, ea) := by unfold RS.fin; rw [if_neg h0, h2 h0]
    rw [hs]
    have d0 : (s.err == 0) = false := by simpa using h0
    clear hs h0 h1 h2
    go_enter Tryz.func51, Tryz.ntmps51
    go_wp2
    go_quiet (fail)
    go_wp2
    exact bodyPost_ret (v := .agg #[.int .i64 s.err, .int .i64 ea]) (by simp [results, Tryz.results51, go_sem]) rfl ⟨rfl, ((hk0.drewN _).setCell_new (p := ⟨w.heap.size, 0, none⟩) (Nat.le_refl _) _).setCell_new (p := ⟨w.heap.size, 1, none⟩) (Nat.le_refl _) _⟩
theorem rrFail_ok (b : Nat) (v : Value) (l : List UInt8) (s : RS) (e p : Int) (w : World) (h : RrAt w b v l s) :
    Calls Tryz.prog 49 #[.pointer (some ⟨b, 0, none⟩), .int .i64 e, .int .i64 p] w fun x w' => (∃ r, x = .returned r) ∧ RrAt w' b v l (s.fail e p) ∧ Keeps (One b) w w' := by
  have H := Lib.hid h
  obtain ⟨at_, ea, hb, hl, h1, h2⟩ := h.ex
  have c2 : w.cell? ⟨b, 2, none⟩ = some (.int .i64 s.err) := (cell_of_row w b 2 _ _ _ hb).trans rfl
  have c3 : w.cell? ⟨b, 3, none⟩ = some (.int .i64 ea) := (cell_of_row w b 3 _ _ _ hb).trans rfl
  have f2 : w.frozen? ⟨b, 2, none⟩ = false := frozen_of_row w b 2 _ _ hb
  have f3 : w.frozen? ⟨b, 3, none⟩ = false := frozen_of_row w b 3 _ _ hb
  have HBK := Lib.hid hb
  have K1 := Lib.hid h1
  have K2 := Lib.hid h2
  clear h hb h1 h2
  by_cases hc : s.err = 0 ∧ e ≠ 0
  · have hs : s.fail e p = ⟨e, p⟩ := by unfold RS.fail; rw [if_pos hc]
    rw [hs]
    obtain ⟨h0, he⟩ := hc
    have d0 : (s.err == 0) = true := by simpa using h0
    have d1 : (e != 0) = true := by simpa using he
    have HE := Lib.hid he
    clear hs h0 he
    go_enter Tryz.func49, Tryz.ntmps49
    go_wp2
    go_end0
    have hb2 := heap_setCell_same _ b 3 _ _ (.int .i64 p) (heap_setCell_same w b 2 _ _ (.int .i64 e) HBK.out)
    have hkF : Keeps (One b) w ((w.setCell ⟨b, 2, none⟩ (.int .i64 e)).setCell ⟨b, 3, none⟩ (.int .i64 p)) := ((Keeps.refl _ _).setOne _).setOne _
    exact ⟨⟨_, rfl⟩, ⟨⟨at_, p, hb2, hl, fun h => absurd h HE.out, fun _ => rfl⟩, H.out.bytes.keeps hkF (fun j hj (e : j = b) => H.out.own (by rw [hj, e])), H.out.own⟩, hkF⟩
  · have hs : s.fail e p = s := by unfold RS.fail; rw [if_neg hc]
    rw [hs]
    by_cases h0 : s.err = 0
    · have d0 : (s.err == 0) = true := by simpa using h0
      have d1 : (e != 0) = false := by simp; exact Classical.byContradiction fun he => hc ⟨h0, he⟩
      clear hs h0 hc
      go_enter Tryz.func49, Tryz.ntmps49
      go_wp2
      go_end0
      exact ⟨⟨_, rfl⟩, H.out, Keeps.refl _ _⟩
    · have d0 : (s.err == 0) = false := by simpa using h0
      clear hs h0 hc
      go_enter Tryz.func49, Tryz.ntmps49
      go_wp2
      go_end0
      exact ⟨⟨_, rfl⟩, H.out, Keeps.refl _ _⟩
theorem rrNew_ok (a : Value) (l : List UInt8) (w : World) (ha : BytesAt w a l) (hl : l.length ≤ 100000000) :
    Calls Tryz.prog 47 #[a] w fun e w' => ∃ b v, e = .returned (.pointer (some ⟨b, 0, none⟩)) ∧ RrAt w' b v l ⟨0, 0⟩ ∧ w.heap.size ≤ b ∧ (∀ j, v.ownBlock = some j → w.heap.size ≤ j ∧ j < w'.heap.size) ∧ Keeps Nob w w' := by
  have HC := Lib.hid (copyBytes_ok a l w ha hl)
  clear ha
  go_enter Tryz.func47, Tryz.ntmps47
  go_wp2_with (go_at_call 10; refine HC.out.mono ?_; rintro e w' ⟨v, rfl, h1, h2, h3, h4⟩; obtain ⟨A, cap, rfl⟩ := (Row.bytes h1).len; have H1 := Lib.hid h1; have H2 := Lib.hid h2; clear h1 h2 h3)
  go_ret
  have hkA : Keeps Nob w' (w'.alloc (.cells #[.slice A l.length cap, .int .i64 0, .int .i64 0, .int .i64 0] 84)) := (Keeps.refl _ _).alloc _
  refine ⟨w'.heap.size, .slice A l.length cap, rfl, ⟨⟨0, 0, heap_alloc_new _ _, Nat.zero_le _, fun _ => ⟨rfl, rfl⟩, fun h => absurd rfl h⟩, (Row.bytes H1.out).keepsN hkA, fun h => ?_⟩, h4.size, fun j hj => ⟨H2.out j hj, Nat.lt_of_lt_of_le (H1.out.lt hj) hkA.size⟩, h4.trans hkA⟩
  exact absurd (H1.out.lt h) (by omega)
end Go.Proofs.YtghohakbepeffaaGreatDoor
namespace Go.Proofs.YtghohakbepeffaaGreatDoor
set_option maxRecDepth 100000
set_option maxHeartbeats 4000000
open Go Go.RowKit Go.Own Go.Shelf
theorem rrU_ok (b : Nat) (v : Value) (l : List UInt8) (s : RS) (w : World) (h : RrAt w b v l s) :
    Calls Tryz.prog 50 #[.pointer (some ⟨b, 0, none⟩)] w fun e w' => e = .returned (.int .u64 (rdU l s).1) ∧ RrAt w' b v l (rdU l s).2 ∧ Keeps (One b) w w' := by
  have H := Lib.hid h
  have hll := h.bytes.length_le
  obtain ⟨A, cap, rfl⟩ := h.bytes.len
  obtain ⟨at_, ea, hb, hl, h1, h2⟩ := h.ex
  have c2 : w.cell? ⟨b, 2, none⟩ = some (.int .i64 s.err) := (cell_of_row w b 2 _ _ _ hb).trans rfl
  have HBK := Lib.hid hb
  have K1 := Lib.hid h1
  have K2 := Lib.hid h2
  clear h hb h1 h2
  by_cases h0 : s.err = 0
  · have hp := (K1.out h0).1
    have d0 : (s.err != 0) = false := by simpa using h0
    have e0 : s.num l = Cod.num (l.drop at_) := by unfold RS.num; rw [show s.pos.toNat = at_ by omega]
    have hok := Cod.num_ok (l.drop at_)
    have g1 := getAt_ok l at_ hl
    have g2 := getAt_bad l at_ hl
    have e1 : (rdU l s).1 = if (Cod.num (l.drop at_)).2.2 = 0 then ((Cod.num (l.drop at_)).1 : Int) else 0 := by unfold rdU; rw [e0]; simp [h0]
    have e2 : (rdU l s).2 = if (Cod.num (l.drop at_)).2.2 = 0 then ⟨0, s.pos + (Cod.num (l.drop at_)).2.1⟩ else ⟨(Cod.num (l.drop at_)).2.2, s.pos⟩ := by unfold rdU; rw [e0]; simp only [RS.read, h0]; rfl
    have HF := Lib.hid (fun W (hk : Keeps Nob w W) => rGet_ok (.slice A l.length cap) l (at_ : Int) W (H.out.bytes.keepsN hk))
    generalize Cod.num (l.drop at_) = r at *
    obtain ⟨n, k, er⟩ := r
    simp only at hok g1 g2 e1 e2
    have HP := Lib.hid hp
    have E1 := Lib.hid e1
    have E2 := Lib.hid e2
    have H0 := Lib.hid h0
    rw [h0] at c2
    clear hp e0 e1 e2 h0 d0
    by_cases he : er = 0
    · subst he
      obtain ⟨hn, hk0, hkl, hk10, _⟩ := hok rfl
      rw [List.length_drop] at hkl
      rw [g1 rfl] at HF
      have HFF : Hid (∀ W, Keeps Nob w W → Calls Tryz.prog 76 #[.slice A l.length cap, .int .i64 (at_ : Int)] W fun e w' => e = .returned (.tuple #[.int .u64 (n : Int), .int .i64 ((at_ : Int) + (k : Int)), .agg #[.int .i64 0, .int .i64 0]]) ∧ Keeps Nob W w') := HF
      clear HF g1 g2 hok hn
      go_enter Tryz.func50, Tryz.ntmps50
      go_wp2
      refine refU_region (by kernel_rfl) b A l cap at_ s.err ea w HBK.out (n : Int) ((at_ : Int) + (k : Int)) 0 0 HFF.out _ ?_
      intro gf W hW hg hgf
      have hbW := (hW.block b (lt_of_block HBK.out) (fun x => x)).trans HBK.out
      have q0 : W.cell? ⟨gf, 0, none⟩ = some (.int .i64 0) := (cell_of_row W gf 0 _ _ _ hgf).trans rfl
      have q1 : W.frozen? ⟨b, 1, none⟩ = false := frozen_of_row W b 1 _ _ hbW
      have q2 : W.cell? ⟨b, 1, none⟩ = some (.int .i64 (at_ : Int)) := (cell_of_row W b 1 _ _ _ hbW).trans rfl
      have HBW := Lib.hid hbW
      clear hbW hgf
      go_wp2
      go_ret
      have hb2 := heap_setCell_same W b 1 _ _ (.int .i64 ((at_ : Int) + k)) HBW.out
      have hkF : Keeps (One b) w (W.setCell ⟨b, 1, none⟩ (.int .i64 ((at_ : Int) + k))) := (hW.mono (fun _ _ x => x.elim)).setOne _
      rw [E1.out, E2.out, if_pos True.intro, if_pos True.intro]
      refine ⟨rfl, ⟨⟨at_ + k, 0, ?_, by omega, fun _ => ⟨by rw [HP.out]; simp, rfl⟩, fun h => absurd rfl h⟩, H.out.bytes.keeps hkF (fun j hj (e : j = b) => H.out.own (by rw [hj, e])), H.out.own⟩, hkF⟩
      rw [show (((at_ + k : Nat)) : Int) = (at_ : Int) + k by omega]
      rw [H0.out, (K1.out H0.out).2] at hb2
      exact hb2
    · rw [g2 he] at HF
      have HFF : Hid (∀ W, Keeps Nob w W → Calls Tryz.prog 76 #[.slice A l.length cap, .int .i64 (at_ : Int)] W fun e w' => e = .returned (.tuple #[.int .u64 0, .int .i64 0, .agg #[.int .i64 er, .int .i64 (at_ : Int)]]) ∧ Keeps Nob W w') := HF
      have d1 : (er != 0) = true := by simpa using he
      have HE := Lib.hid he
      clear HF g1 g2 hok he
      go_enter Tryz.func50, Tryz.ntmps50
      go_wp2
      refine refU_region (by kernel_rfl) b A l cap at_ s.err ea w HBK.out 0 0 er (at_ : Int) HFF.out _ ?_
      intro gf W hW hg hgf
      have hbW := (hW.block b (lt_of_block HBK.out) (fun x => x)).trans HBK.out
      have q0 : W.cell? ⟨gf, 0, none⟩ = some (.int .i64 er) := (cell_of_row W gf 0 _ _ _ hgf).trans rfl
      have q1 : W.cell? ⟨gf, 1, none⟩ = some (.int .i64 (at_ : Int)) := (cell_of_row W gf 1 _ _ _ hgf).trans rfl
      have q2 : W.frozen? ⟨b, 2, none⟩ = false := frozen_of_row W b 2 _ _ hbW
      have q3 : W.frozen? ⟨b, 3, none⟩ = false := frozen_of_row W b 3 _ _ hbW
      have q4 : W.cell? ⟨b, 2, none⟩ = some (.int .i64 s.err) := (cell_of_row W b 2 _ _ _ hbW).trans rfl
      have q5 : W.cell? ⟨b, 3, none⟩ = some (.int .i64 ea) := (cell_of_row W b 3 _ _ _ hbW).trans rfl
      have HBW := Lib.hid hbW
      clear hbW hgf
      go_wp2
      go_ret
      have hb2 := heap_setCell_same _ b 3 _ _ (.int .i64 (at_ : Int)) (heap_setCell_same W b 2 _ _ (.int .i64 er) HBW.out)
      have hkF : Keeps (One b) w ((W.setCell ⟨b, 2, none⟩ (.int .i64 er)).setCell ⟨b, 3, none⟩ (.int .i64 (at_ : Int))) := ((hW.mono (fun _ _ x => x.elim)).setOne _).setOne _
      rw [E1.out, E2.out, if_neg HE.out, if_neg HE.out]
      exact ⟨rfl, ⟨⟨at_, (at_ : Int), hb2, hl, fun h => absurd h HE.out, fun _ => HP.out⟩, H.out.bytes.keeps hkF (fun j hj (e : j = b) => H.out.own (by rw [hj, e])), H.out.own⟩, hkF⟩
  · have e1 : rdU l s = (0, s) := by unfold rdU RS.read; simp [h0]
    rw [e1]
    have d0 : (s.err != 0) = true := by simpa using h0
    clear h0 e1
    go_enter Tryz.func50, Tryz.ntmps50
    go_wp2
    go_ret
    exact ⟨rfl, H.out, Keeps.refl _ _⟩
theorem RrAt.c1 {w : World} {b : Nat} {v : Value} {l : List UInt8} {s : RS} (h : RrAt w b v l s) : ∃ at_ : Nat, at_ ≤ l.length ∧ w.cell? ⟨b, 1, none⟩ = some (.int .i64 (at_ : Int)) ∧ (s.err = 0 → s.pos = at_) := by
  obtain ⟨at_, ea, hb, hl, h1, _⟩ := h.ex
  exact ⟨at_, hl, (cell_of_row w b 1 _ _ _ hb).trans rfl, fun h => (h1 h).1⟩
theorem RrAt.c2 {w : World} {b : Nat} {v : Value} {l : List UInt8} {s : RS} (h : RrAt w b v l s) : w.cell? ⟨b, 2, none⟩ = some (.int .i64 s.err) := by
  obtain ⟨at_, ea, hb, hl, h1, _⟩ := h.ex
  exact (cell_of_row w b 2 _ _ _ hb).trans rfl
theorem rdU_cases (l : List UInt8) (s : RS) (hp : s.err = 0 → 0 ≤ s.pos ∧ s.pos ≤ l.length) :
    (s.err ≠ 0 ∧ rdU l s = (0, s)) ∨ (s.err = 0 ∧ (s.num l).2.2 ≠ 0 ∧ rdU l s = (0, ⟨(s.num l).2.2, s.pos⟩)) ∨
    (s.err = 0 ∧ (s.num l).2.2 = 0 ∧ (s.num l).1 < 18446744073709551616 ∧ s.pos + (s.num l).2.1 ≤ l.length ∧ rdU l s = (((s.num l).1 : Int), ⟨0, s.pos + (s.num l).2.1⟩)) := by
  by_cases h0 : s.err = 0
  · by_cases h1 : (s.num l).2.2 = 0
    · have h2 := s.num_le l (hp h0).1 (hp h0).2 h1
      refine .inr (.inr ⟨h0, h1, ?_, h2, ?_⟩)
      · have := (Cod.num_ok _ h1).1; unfold RS.num; simpa using this
      · unfold rdU RS.read; rw [if_pos ⟨h0, h1⟩, if_pos h0, if_pos h1]
    · refine .inr (.inl ⟨h0, h1, ?_⟩)
      unfold rdU RS.read; rw [if_neg (fun h => h1 h.2), if_pos h0, if_neg h1]
  · refine .inl ⟨h0, ?_⟩
    unfold rdU RS.read; rw [if_neg (fun h => h0 h.1), if_neg h0]
theorem rdN_spec (l : List UInt8) (s : RS) (least most : Int) (hp : s.err = 0 → 0 ≤ s.pos ∧ s.pos ≤ l.length) :
    ((rdU l s).2.err ≠ 0 ∧ rdN l s least most = (0, (rdU l s).2)) ∨
    ∃ (n : Nat) (p : Int), n < 18446744073709551616 ∧ s.err = 0 ∧ rdU l s = ((n : Int), ⟨0, p⟩) ∧ rdN l s least most = if outN n least most then (0, ⟨3, s.pos⟩) else ((n : Int), ⟨0, p⟩) := by
  rcases rdU_cases l s hp with ⟨h0, h1⟩ | ⟨h0, h1, h2⟩ | ⟨h0, h1, h2, h3, h4⟩
  · refine .inl ⟨by rw [h1]; exact h0, ?_⟩
    rw [h1]; unfold rdN RS.read; rw [if_neg (fun h => h0 h.1), if_neg h0]
  · refine .inl ⟨by rw [h2]; exact h1, ?_⟩
    have : errN (s.num l) least most = (s.num l).2.2 := by unfold errN; rw [if_neg (fun h => h1 h.1)]
    rw [h2]; unfold rdN RS.read; rw [this, if_neg (fun h => h1 h.2), if_pos h0, if_neg h1]
  · refine .inr ⟨_, _, h2, h0, h4, ?_⟩
    unfold rdN RS.read errN
    by_cases ho : outN (s.num l).1 least most
    · simp [h0, h1, ho]
    · simp [h0, h1, ho]
theorem rrN_ok (b : Nat) (v : Value) (l : List UInt8) (s : RS) (least most : Int) (w : World) (h : RrAt w b v l s)
   (m2 : -9223372036854775808 ≤ least ∧ least ≤ 9223372036854775807) (m1 : -9223372036854775808 ≤ most ∧ most ≤ 9223372036854775807) :
    Calls Tryz.prog 48 #[.pointer (some ⟨b, 0, none⟩), .int .i64 least, .int .i64 most] w fun e w' => e = .returned (.int .i64 (rdN l s least most).1) ∧ RrAt w' b v l (rdN l s least most).2 ∧ Keeps (One b) w w' := by
  have HU := Lib.hid (rrU_ok b v l s w h)
  obtain ⟨at_, hl, c1, hp⟩ := h.c1
  have hpos := h.pos
  have key := rdN_spec l s least most hpos
  obtain ⟨m1a, m1b⟩ := m1
  obtain ⟨m2a, m2b⟩ := m2
  rcases key with ⟨h1, h2⟩ | ⟨n, p, hn, h0, h1, h2⟩
  · rw [h2]
    clear h h2 hp
    obtain ⟨⟨nv, s1⟩, hr⟩ : ∃ r, rdU l s = r := ⟨_, rfl⟩
    rw [hr] at HU h1 ⊢
    simp only at HU h1 ⊢
    have d0 : (s1.err == 0) = false := by simpa using h1
    have d1 : (s1.err != 0) = true := by simpa using h1
    clear hr h1 hpos
    go_enter Tryz.func48, Tryz.ntmps48
    go_wp2_with (go_at_call 50; refine HU.out.mono ?_; rintro e w1 ⟨rfl, hR, hK⟩; have q2 := hR.c2; have HR1 := Lib.hid hR; have HK1 := Lib.hid hK; clear hR hK)
    go_ret
    exact ⟨rfl, HR1.out, HK1.out⟩
  · have hp := hp h0
    rw [h2]
    rw [h1] at HU
    simp only at HU
    have H0 := Lib.hid h0
    have HP := Lib.hid hp
    clear h h1 h2 h0 hp hpos
    by_cases ho : outN n least most
    · rw [if_pos ho]
      have e1 : (⟨0, p⟩ : RS).fail 3 (at_ : Int) = ⟨3, (at_ : Int)⟩ := by unfold RS.fail; simp
      have HF := Lib.hid (fun W h => rrFail_ok b v l ⟨0, p⟩ 3 (at_ : Int) W h)
      rw [e1] at HF
      unfold outN at ho
      have key : (most < 0 ∧ 0 < n) ∨ (most < 0 ∧ n = 0) ∨ (0 ≤ most ∧ most < (n : Int)) ∨ (0 ≤ most ∧ (n : Int) ≤ most ∧ 0 < least ∧ (n : Int) < least) := by omega
      clear ho e1
      have HS : Hid (s.pos = at_) := HP
      rcases key with ⟨a1, a2⟩ | ⟨a1, a2⟩ | ⟨a1, a2⟩ | ⟨a1, a2, a3, a4⟩
      · have d1 : decide (0 ≤ most) = false := by simpa using a1
        have d2 : decide (0 < n) = true := by simpa using a2
        have d3 : decide ((0 : Int) < (n : Int)) = true := by simpa using a2
        go_enter Tryz.func48, Tryz.ntmps48
        go_wp2_with (first
          | (go_at_call 50; refine HU.out.mono ?_; rintro e w1 ⟨rfl, hR, hK⟩; have q2 := hR.c2; have HR1 := Lib.hid hR; have HK1 := Lib.hid hK; clear hR hK; simp only at q2)
          | (go_at_call 49; refine (HF.out w1 HR1.out).mono ?_; rintro e w2 ⟨⟨r, rfl⟩, hR, hK⟩; have q3 := hR.c2; have HR2 := Lib.hid hR; have HK2 := Lib.hid hK; clear hR hK; simp only at q3))
        go_ret
        exact ⟨rfl, by rw [HS.out]; exact HR2.out, HK1.out.trans HK2.out⟩
      · subst a2
        have d1 : decide (0 ≤ most) = false := by simpa using a1
        have d2 : decide (most < 0) = true := by simpa using a1
        go_enter Tryz.func48, Tryz.ntmps48
        go_wp2_with (first
          | (go_at_call 50; refine HU.out.mono ?_; rintro e w1 ⟨rfl, hR, hK⟩; have q2 := hR.c2; have HR1 := Lib.hid hR; have HK1 := Lib.hid hK; clear hR hK; simp only at q2)
          | (go_at_call 49; refine (HF.out w1 HR1.out).mono ?_; rintro e w2 ⟨⟨r, rfl⟩, hR, hK⟩; have q3 := hR.c2; have HR2 := Lib.hid hR; have HK2 := Lib.hid hK; clear hR hK; simp only at q3))
        go_ret
        exact ⟨rfl, by rw [HS.out]; exact HR2.out, HK1.out.trans HK2.out⟩
      · have d1 : decide (0 ≤ most) = true := by simpa using a1
        have d2 : decide (most < (n : Int)) = true := by simpa using a2
        have w1' : IntKind.u64.wrap most = most := by simp [IntKind.wrap, IntKind.bits, IntKind.signed]; omega
        go_enter Tryz.func48, Tryz.ntmps48
        go_wp2_with (first
          | (go_at_call 50; refine HU.out.mono ?_; rintro e w1 ⟨rfl, hR, hK⟩; have q2 := hR.c2; have HR1 := Lib.hid hR; have HK1 := Lib.hid hK; clear hR hK; simp only at q2)
          | (go_at_call 49; refine (HF.out w1 HR1.out).mono ?_; rintro e w2 ⟨⟨r, rfl⟩, hR, hK⟩; have q3 := hR.c2; have HR2 := Lib.hid hR; have HK2 := Lib.hid hK; clear hR hK; simp only at q3))
        go_ret
        exact ⟨rfl, by rw [HS.out]; exact HR2.out, HK1.out.trans HK2.out⟩
      · have d1 : decide (0 ≤ most) = true := by simpa using a1
        have d2 : decide (most < (n : Int)) = false := by simpa using a2
        have d3 : decide (most < 0) = false := by simpa using a1
        have d4 : decide (0 < least) = true := by simpa using a3
        have d5 : decide ((n : Int) < least) = true := by simpa using a4
        have w1' : IntKind.u64.wrap most = most := by simp [IntKind.wrap, IntKind.bits, IntKind.signed]; omega
        have w2' : IntKind.u64.wrap least = least := by simp [IntKind.wrap, IntKind.bits, IntKind.signed]; omega
        go_enter Tryz.func48, Tryz.ntmps48
        go_wp2_with (first
          | (go_at_call 50; refine HU.out.mono ?_; rintro e w1 ⟨rfl, hR, hK⟩; have q2 := hR.c2; have HR1 := Lib.hid hR; have HK1 := Lib.hid hK; clear hR hK; simp only at q2)
          | (go_at_call 49; refine (HF.out w1 HR1.out).mono ?_; rintro e w2 ⟨⟨r, rfl⟩, hR, hK⟩; have q3 := hR.c2; have HR2 := Lib.hid hR; have HK2 := Lib.hid hK; clear hR hK; simp only at q3))
        go_ret
        exact ⟨rfl, by rw [HS.out]; exact HR2.out, HK1.out.trans HK2.out⟩
    · rw [if_neg ho]
      unfold outN at ho
      have a1 : 0 ≤ most := by omega
      have a2 : (n : Int) ≤ most := by omega
      have w3' : wrap64 (n : Int) = (n : Int) := IntWalk.wrap64_in (n : Int) ⟨by omega, by omega⟩
      have d1 : decide (0 ≤ most) = true := by simpa using a1
      have d2 : decide (most < (n : Int)) = false := by simpa using a2
      have d3 : decide (most < 0) = false := by simpa using a1
      have w1' : IntKind.u64.wrap most = most := by simp [IntKind.wrap, IntKind.bits, IntKind.signed]; omega
      by_cases a3 : 0 < least
      · have a4 : least ≤ (n : Int) := by omega
        have d4 : decide (0 < least) = true := by simpa using a3
        have d5 : decide ((n : Int) < least) = false := by simpa using a4
        have w2' : IntKind.u64.wrap least = least := by simp [IntKind.wrap, IntKind.bits, IntKind.signed]; omega
        clear ho
        go_enter Tryz.func48, Tryz.ntmps48
        go_wp2_with (first
          | (go_at_call 50; refine HU.out.mono ?_; rintro e w1 ⟨rfl, hR, hK⟩; have q2 := hR.c2; have HR1 := Lib.hid hR; have HK1 := Lib.hid hK; clear hR hK; simp only at q2)
          | (go_at_call 49; refine (HF.out w1 HR1.out).mono ?_; rintro e w2 ⟨⟨r, rfl⟩, hR, hK⟩; have q3 := hR.c2; have HR2 := Lib.hid hR; have HK2 := Lib.hid hK; clear hR hK; simp only at q3))
        go_ret
        exact ⟨rfl, HR1.out, HK1.out⟩
      · have d4 : decide (0 < least) = false := by simpa using a3
        clear ho
        go_enter Tryz.func48, Tryz.ntmps48
        go_wp2_with (first
          | (go_at_call 50; refine HU.out.mono ?_; rintro e w1 ⟨rfl, hR, hK⟩; have q2 := hR.c2; have HR1 := Lib.hid hR; have HK1 := Lib.hid hK; clear hR hK; simp only at q2)
          | (go_at_call 49; refine (HF.out w1 HR1.out).mono ?_; rintro e w2 ⟨⟨r, rfl⟩, hR, hK⟩; have q3 := hR.c2; have HR2 := Lib.hid hR; have HK2 := Lib.hid hK; clear hR hK; simp only at q3))
        go_ret
        exact ⟨rfl, HR1.out, HK1.out⟩
end Go.Proofs.YtghohakbepeffaaGreatDoor
namespace Go.Own
set_option maxRecDepth 100000
set_option maxHeartbeats 4000000
open Go Go.RowKit
variable {P : Program}
end Go.Own
namespace Go.Proofs.YtghohakbepeffaaGreatDoor
set_option maxRecDepth 100000
set_option maxHeartbeats 4000000
open Go Go.RowKit Go.Own Go.Shelf
end Go.Proofs.YtghohakbepeffaaGreatDoor
namespace Go.Proofs.YtghohakbepeffaaGreatDoor
set_option maxRecDepth 100000
set_option maxHeartbeats 4000000
open Go Go.RowKit Go.Own Go.Shelf
/-- An error stays. -/
theorem read_err {s : RS} {k : Nat} {e : Int} (h : (s.read k e).err = 0) : s.err = 0 ∧ e = 0 := by
  unfold RS.read at h
  by_cases h0 : s.err = 0
  · rw [if_pos h0] at h
    by_cases h1 : e = 0
    · exact ⟨h0, h1⟩
    · rw [if_neg h1] at h; exact absurd h h1
  · rw [if_neg h0] at h; exact absurd h h0
theorem rdU_err {l : List UInt8} {s : RS} (h : (rdU l s).2.err = 0) : s.err = 0 ∧ (s.num l).2.2 = 0 := read_err h
end Go.Proofs.YtghohakbepeffaaGreatDoor
