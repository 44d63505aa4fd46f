import Derived.Test.YtghohakbepeffaaGreatDoorPenaltyGrowsP3
namespace Go.Proofs.YtghohakbepeffaaGreatDoor
set_option maxRecDepth 100000
set_option maxHeartbeats 4000000
open Go Go.RowKit Go.Own Go.Shelf
theorem nexec_min {P : Program} {o : Oper} {ρ : Operand → Value} {w : World} (x y : Operand) (ts : Array TypeId) (ho : o.op = .call { callee := .builtin .min, args := #[x, y], argTypes := ts }) (k : IntKind) (a b : Int) (hx : ρ x = .int k a) (hy : ρ y = .int k b) :
    (execOp ρ o).run P w = .ok (.value (.int k (min a b))) w := by
  unfold execOp
  simp [ho, hx, hy, resolve, invoke, builtin, Builtin.min_, Builtin.min2]
  rw [Int.min_def]
  split <;> split <;> omega
theorem nref_noted {p : Par} {l : List Nt} {h : Int} {rf : Int} (a : (nlive p l h).2 = rf) (b : ¬ rf = 0) : nnoted p l h = (0, rf) := by
  unfold nlive at a; unfold nnoted
  by_cases c : nref p l h ≠ 0
  · rw [if_pos c] at a ⊢; rw [show nref p l h = rf from a]
  · rw [if_neg c] at a; exact absurd a.symm b
theorem noted_go {p : Par} {l : List Nt} {h : Int} (a : (nlive p l h).2 = 0) : nnoted p l h = (nsum (nlive p l h).1, 0) ∧ (∀ y ∈ (nlive p l h).1, y.s ≤ 4611686018427387904) ∧ (nlive p l h).1.length ≤ 64 := by
  unfold nlive at a ⊢; unfold nnoted
  by_cases c : nref p l h ≠ 0
  · rw [if_pos c] at a; exact absurd a c
  · rw [if_neg c, if_neg c]
    have c2 : nref p l h = 0 := by omega
    obtain ⟨_, q1, _, _⟩ := nref_zero c2
    obtain ⟨q4, q5⟩ := ncheck_fine q1
    refine ⟨rfl, fun y hy => ?_, Nat.le_trans (List.length_filter_le _ _) q4⟩
    have hb := q5 y (List.mem_filter.1 hy).1
    unfold Nt.bad at hb; omega
theorem sum_step {ys : List Nt} {k : Nat} {y : Nt} (hy : ys[k]? = some y) : nsum (ys.drop k) = min (nsum (ys.drop (k + 1)) + y.s) 4611686018427387904 := by
  have hi : k < ys.length := (List.getElem?_eq_some_iff.1 hy).1
  rw [List.drop_eq_getElem_cons hi, (List.getElem?_eq_some_iff.1 hy).2, nsum_cons]
theorem rev_cases (ys : List Nt) (i : Nat) (hi : i ≤ ys.length) : (∃ m k y, i < ys.length ∧ m + 1 = ys.length ∧ k + i = m ∧ ys[k]? = some y) ∨ i = ys.length := by
  by_cases h : i < ys.length
  · exact .inl ⟨ys.length - 1, ys.length - 1 - i, ys[ys.length - 1 - i], h, by omega, by omega, List.getElem?_eq_getElem _⟩
  · exact .inr (by omega)
theorem nat_min (a b : Nat) : min ((a : Nat) : Int) ((b : Nat) : Int) = ((min a b : Nat) : Int) := by omega
theorem live_is (p : Par) (hp : p.Ok) (l : List Nt) (v : Value) (h : Int) (hh1 : i64ok h) (rf : Int) (ys : List Nt) (w : World) (hl : Sl w 2 Nt.cl v l) (het : ErrTab w) (hrf : (nlive p l h).2 = rf) (hys : (nlive p l h).1 = ys) : Calls Tryz.prog 34 #[.agg p.cells, v, .int .i64 h] w (fun e w' => ∃ X, e = .returned (.tuple #[X, .int .i64 rf]) ∧ Row w' 46 2 X (ys).length ((ys).flatMap Nt.cl) ∧ NewFrom w.heap.size X ∧ Keeps Nob w w') := hrf ▸ hys ▸ nLive_all p hp l v h hh1 w hl het
noncomputable def qc50_0 (n : Nat) : Code := partOf Tryz.f29 n
theorem nNoted_err (p : Par) (hp : p.Ok) (l : List Nt) (v : Value) (h : Int) (hh1 : i64ok h) (w : World) (hl : Sl w 2 Nt.cl v l) (rf : Int) (hrf : (nlive p l h).2 = rf) (h0 : ¬ rf = 0) (het : ErrTab w) :
    Calls Tryz.prog 29 #[.agg p.cells, v, .int .i64 h] w (fun e w' => e = .returned (.tuple #[.int .u64 (((nnoted p l h).1 : Nat) : Int), .int .i64 (nnoted p l h).2]) ∧ Keeps Nob w w') := by
  obtain ⟨ys, hys⟩ : ∃ ys, (nlive p l h).1 = ys := ⟨_, rfl⟩
  have K0 : Keeps Nob w w := Keeps.refl _ _
  refine sy_enter (qc50_0 1) ⟨#[.agg p.cells, v, .int .i64 h, ud, ud, ud, ud, ud, ud, ud, ud, ud, ud, ud, ud, ud, ud, ud, ud, ud, ud, ud, ud, ud, ud, ud, ud, ud, ud, ud, ud, ud, ud, ud, ud, ud, ud, ud, ud, ud, ud], []⟩ Tryz.func29 (by kernel_rfl) (by kernel_rfl) <| qr_ [0, 1, 2] <| pbx 51 p.cells (.agg p.cells) fun V1 gp egp h2 kV1 => ?_
  have n3 : w.heap.size ≤ gp := egp ▸ K0.size
  have h4 : Sl V1 2 Nt.cl v l := hl.keepsN kV1
  have K5 := K0.nn kV1
  have z6 := kV1.size
  refine pkq (.int .u64 0) <| pkq (.int .i64 0) <| eqr_ [0, 1, 2, 3, 4, 5, 6, 7, 8] <| ppq (.agg (p.cells)) (ldr 51 gp (h2) (by kernel_rfl)) <| pkq (v) <| pkq (.int .i64 h) ?_
  refine pcq 34 #[.agg (p.cells), v, .int .i64 h] Tryz.func34 ((live_is p hp l v h hh1 rf ys _ h4 (ErrTab.keeps het K5) hrf hys).mono ?_)
  rintro e V7 ⟨X, rfl, hX, hXn, kV7⟩
  have hXs := row_nts hX
  refine ⟨_, rfl, ?_⟩
  have K10 := K5.nn kV7
  have z11 := kV7.size
  refine pkq (.tuple #[X, .int .i64 rf]) <| pkq (X) <| pkq (.int .i64 rf) <| pkq (X) <| pkq (.int .i64 rf) <| eq_ <| qr_ [0, 1] <| pkq (.int .i64 rf) <| ppq (.bool true) (nqt ((rf) : Int) ((0) : Int) (by omega)) <| ey_ <| qr_ [0, 1, 2] <| pkq (.int .i64 rf) <| pkq (.int .u64 0) <| pkq (.int .i64 rf) ?_
  refine eu_ <| then_r <| so_ (.tuple #[.int .u64 0, .int .i64 rf]) ?_
  exact ⟨by rw [nref_noted hrf h0]; rfl, K10⟩
theorem nNoted_ok (p : Par) (hp : p.Ok) (l : List Nt) (v : Value) (h : Int) (hh1 : i64ok h) (w : World) (hl : Sl w 2 Nt.cl v l) (hrf : (nlive p l h).2 = 0) (het : ErrTab w) :
    Calls Tryz.prog 29 #[.agg p.cells, v, .int .i64 h] w (fun e w' => e = .returned (.tuple #[.int .u64 (((nnoted p l h).1 : Nat) : Int), .int .i64 (nnoted p l h).2]) ∧ Keeps Nob w w') := by
  obtain ⟨ys, hys⟩ : ∃ ys, (nlive p l h).1 = ys := ⟨_, rfl⟩
  obtain ⟨hres, hbnd, hlen⟩ := noted_go hrf
  rw [hys] at hres hbnd hlen
  have hres0 : nsum (ys.drop ys.length) = 0 := by rw [List.drop_length]; rfl
  have K0 : Keeps Nob w w := Keeps.refl _ _
  refine sy_enter (qc50_0 1) ⟨#[.agg p.cells, v, .int .i64 h, ud, ud, ud, ud, ud, ud, ud, ud, ud, ud, ud, ud, ud, ud, ud, ud, ud, ud, ud, ud, ud, ud, ud, ud, ud, ud, ud, ud, ud, ud, ud, ud, ud, ud, ud, ud, ud, ud], []⟩ Tryz.func29 (by kernel_rfl) (by kernel_rfl) <| qr_ [0, 1, 2] <| pbx 51 p.cells (.agg p.cells) fun V1 gp egp h2 kV1 => ?_
  have n3 : w.heap.size ≤ gp := egp ▸ K0.size
  have h4 : Sl V1 2 Nt.cl v l := hl.keepsN kV1
  have K5 := K0.nn kV1
  have z6 := kV1.size
  refine pkq (.int .u64 0) <| pkq (.int .i64 0) <| eqr_ [0, 1, 2, 3, 4, 5, 6, 7, 8] <| ppq (.agg (p.cells)) (ldr 51 gp (h2) (by kernel_rfl)) <| pkq (v) <| pkq (.int .i64 h) ?_
  refine pcq 34 #[.agg (p.cells), v, .int .i64 h] Tryz.func34 ((live_is p hp l v h hh1 0 ys _ h4 (ErrTab.keeps het K5) hrf hys).mono ?_)
  rintro e V7 ⟨X, rfl, hX, hXn, kV7⟩
  have hXs := row_nts hX
  refine ⟨_, rfl, ?_⟩
  have h8 : Sl V7 2 Nt.cl v l := h4.keepsN kV7
  have h9 := kV7.bk h2
  have K10 := K5.nn kV7
  have z11 := kV7.size
  refine pkq (.tuple #[X, .int .i64 0]) <| pkq (X) <| pkq (.int .i64 0) <| pkq (X) <| pkq (.int .i64 0) <| eq_ <| qr_ [0, 1] <| pkq (.int .i64 0) <| pkq (.bool false) <| en_ <| s_ <| tqr_ [0] <| pkq (.int .u64 0) <| eq_ ?_
  refine qr_ [0, 1, 2] <| pkq (X) <| ppq (iN ys.length) (exec_len_sl (.tmp 22) 22 46 (by kernel_rfl) Tryz.underlying22 (by kernel_rfl) hXs) <| pkq (.int .i64 0) <| et_ <| bl_ 0 ?_
  refine sy_loop (qc50_0 500) (fun a V => ∃ (i : Nat) (kd : Nat) (sm : Nat) (u11 u25 u26 u27 u28 u29 u30 u31 u32 u33 u34 u35 u36 u37 u38 u39 : Value), (a = ⟨#[.agg p.cells, v, .int .i64 h, pT gp 0, ud, ud, .int .u64 0, .int .i64 0, X, .int .i64 0, uN sm, u11, .tuple #[X, .int .i64 0], .agg (p.cells), v, .int .i64 h, .tuple #[X, .int .i64 0], X, .int .i64 0, .int .i64 0, .bool false, ud, X, iN ys.length, iN i, u25, u26, u27, u28, u29, u30, u31, u32, u33, u34, u35, u36, u37, u38, u39, ud], []⟩) ∧ (i ≤ ys.length) ∧ (kd + i = ys.length) ∧ (nsum (ys.drop kd) = sm) ∧ (Sl V 2 Nt.cl v l) ∧ (V.heap[gp]? = some (.cells p.cells 51 (0, 0))) ∧ (Sl V 2 Nt.cl X ys) ∧ (Keeps Nob w V)) (fun a _ => ys.length - (intOf (a.tmps.getD 24 undef)).toNat) (by kernel_rfl) ?_ ?_
  · exact ⟨0, ys.length, 0, undef, undef, undef, undef, undef, undef, undef, undef, undef, undef, undef, undef, undef, undef, undef, undef, by kernel_rfl, by omega, by omega, hres0, h8, h9, hXs, K10⟩
  · rintro a V12 ⟨i, kd, sm, u11, u25, u26, u27, u28, u29, u30, u31, u32, u33, u34, u35, u36, u37, u38, u39, rfl, hi, hkd, hsm, h13, h14, h15, K16⟩
    rcases rev_cases ys i hi with ⟨m, k, y, hi2, hm, hki, hy⟩ | eq_i
    · have hk2 : kd = k + 1 := by omega
      have hsm2 : nsum (ys.drop (k + 1)) = sm := hk2 ▸ hsm
      obtain ⟨b_, o_, c_, hv_, hb_, _⟩ := hXs.at_ k _ hy
      have hsl := nsum_le (ys.drop (k + 1))
      have hyb := hbnd y (List.mem_of_getElem? hy)
      rw [hsm2] at hsl
      obtain ⟨sy, hsy⟩ : ∃ s, sm + y.s = s := ⟨_, rfl⟩
      obtain ⟨sn, hsn⟩ : ∃ s, nsum (ys.drop k) = s := ⟨_, rfl⟩
      have hmn : min sy 4611686018427387904 = sn := by rw [← hsn, sum_step hy, hsm2, hsy]
      refine qr_ [0] <| ppq (.bool true) (dct ((((i : Nat) : Int)) < (((ys.length : Nat) : Int))) (by omega)) <| eq_ <| y_ <| s_ <| tq_ <| bl_ 1 <| qr_ [0, 1] <| pkq (iN i) <| pkq (iN i) <| er_ [0, 1, 2, 3, 4, 5, 6, 7, 8, 9, 10, 11, 12] <| pkq (uN sm) <| pkq (X) <| pkq (X) ?_
      refine ppq (iN ys.length) (exec_len_sl (.tmp 29) 22 46 (by kernel_rfl) Tryz.underlying22 (by kernel_rfl) h15) <| ppq (iN m) (exec_cast (congrArg (Value.int .i64) (wrapI (((ys.length : Nat) : Int) - 1) ((m : Nat) : Int) (by omega) (by omega) (by omega))) (by kernel_rfl)) <| pkq (iN i) <| ppq (iN k) (exec_cast (congrArg (Value.int .i64) (wrapI (((m : Nat) : Int) - ((i : Nat) : Int)) ((k : Nat) : Int) (by omega) (by omega) (by omega))) (by kernel_rfl)) <| ppq (pT b_ (o_ + k * 2)) (exec_indexAt_slice 22 (.tmp 28) (.tmp 33) (by kernel_rfl) b_ o_ ys.length c_ (Eq.trans (b := X) (by kernel_rfl) hv_) .i64 k (by kernel_rfl) _ 2 Tryz.underlying22 (by kernel_rfl) (by omega)) <| pkq (pT b_ (o_ + k * 2 + 1)) <| ppq (uN y.s) (ldc 40 b_ (o_ + k * 2 + 1) (Sl.cell h15 hy hv_ rfl)) <| ppq (uN sy) (exec_cast (congrArg (Value.int .u64) ((wrapU (sm + y.s) (by omega)).trans (congrArg (fun n : Nat => (n : Int)) hsy))) (by kernel_rfl)) <| ppq (uN sn) (exec_cast (congrArg (Value.int .u64) ((nat_min sy 4611686018427387904).trans (congrArg (fun n : Nat => (n : Int)) hmn))) (nexec_min (.tmp 37) (.const (.int .u64 4611686018427387904)) #[40, 40] (by kernel_rfl) .u64 ((sy : Nat) : Int) 4611686018427387904 (by kernel_rfl) (by kernel_rfl))) <| pkq (uN sn) <| ps_end <| blk_n <| tr_ [0, 1] <| ppq (iN (i + 1)) (exec_cast (congrArg (Value.int .i64) (wrapN (i + 1) (by omega))) (by kernel_rfl)) ?_
      refine pkq (iN (i + 1)) <| et_ ?_
      refine ⟨⟨i + 1, k, sn, (iN i), (.bool true), (iN i), (uN sm), X, X, (iN ys.length), (iN m), (iN i), (iN k), (pT b_ (o_ + k * 2)), (pT b_ (o_ + k * 2 + 1)), (uN y.s), (uN sy), (uN sn), (iN (i + 1)), by kernel_rfl, by omega, by omega, hsn, h13, h14, h15, K16⟩, ?_⟩
      exact lt_meas (x := ys.length - (i + 1)) (y := ys.length - i) (by kernel_rfl) (by kernel_rfl) (by omega)
    · have hk0 : kd = 0 := by omega
      have hsm3 : nsum ys = sm := by rw [hk0] at hsm; exact hsm
      rw [hsm3] at hres
      refine qr_ [0] <| ppq (.bool false) (dcf ((((i : Nat) : Int)) < (((ys.length : Nat) : Int))) (by omega)) <| eq_ <| n_ <| sy_exit 0 (by kernel_rfl) <| then_e <| then_e <| blk_e <| tqr_ [0, 1, 2] <| pkq (uN sm) <| pkq (uN sm) <| pkq (.int .i64 0) <| eu_ <| so_ (.tuple #[.int .u64 ((sm : Nat) : Int), .int .i64 0]) ?_
      exact ⟨by rw [hres], K16⟩
theorem nNoted_all (p : Par) (hp : p.Ok) (l : List Nt) (v : Value) (h : Int) (hh1 : i64ok h) (w : World) (hl : Sl w 2 Nt.cl v l) (het : ErrTab w) : Calls Tryz.prog 29 #[.agg p.cells, v, .int .i64 h] w (fun e w' => e = .returned (.tuple #[.int .u64 (((nnoted p l h).1 : Nat) : Int), .int .i64 (nnoted p l h).2]) ∧ Keeps Nob w w') := by
  by_cases hrf : (nlive p l h).2 = 0
  · exact nNoted_ok p hp l v h hh1 w hl hrf het
  · exact nNoted_err p hp l v h hh1 w hl _ rfl hrf het
end Go.Proofs.YtghohakbepeffaaGreatDoor
namespace Go.Kec
set_option maxRecDepth 100000
set_option maxHeartbeats 4000000
def W : Nat := 18446744073709551616
def rot (w n : Nat) : Nat := ((w <<< n) % W) ||| (w >>> (64 - n))
def R : List Nat := [0, 1, 62, 28, 27, 36, 44, 6, 55, 20, 3, 10, 43, 25, 39, 41, 45, 15, 21, 8, 18, 2, 61, 56, 14]
def g (s : List Nat) (i : Nat) : Nat := s.getD i 0
def col (s : List Nat) (x : Nat) : Nat := g s x ^^^ g s (x + 5) ^^^ g s (x + 10) ^^^ g s (x + 15) ^^^ g s (x + 20)
def dd (s : List Nat) (x : Nat) : Nat := col s ((x + 4) % 5) ^^^ rot (col s ((x + 1) % 5)) 1
def columns (s : List Nat) : List Nat := (List.range 25).map fun i => g s i ^^^ dd s (i % 5)
def src (j : Nat) : Nat := (j % 5 + 3 * (j / 5)) % 5 + 5 * (j % 5)
def moves (s : List Nat) : List Nat := (List.range 25).map fun j => rot (g s (src j)) (g R (src j))
def at_ (x y : Nat) : Nat := x % 5 + 5 * (y % 5)
def mixes (s : List Nat) : List Nat := (List.range 25).map fun i => g s i ^^^ ((W - 1 - g s (at_ (i % 5 + 1) (i / 5))) &&& g s (at_ (i % 5 + 2) (i / 5)))
def iota (k : Nat) (s : List Nat) : List Nat := s.set 0 (g s 0 ^^^ k)
def round (s : List Nat) (k : Nat) : List Nat := iota k (mixes (moves (columns s)))
def K : List Nat := [1, 32898, 9223372036854808714, 9223372039002292224, 32907, 2147483649, 9223372039002292353, 9223372036854808585, 138, 136, 2147516425, 2147483658, 2147516555, 9223372036854775947, 9223372036854808713, 9223372036854808579, 9223372036854808578, 9223372036854775936, 32778, 9223372039002259466, 9223372039002292353, 9223372036854808704, 2147483649, 9223372039002292232]
def perm (s : List Nat) : List Nat := K.foldl round s
/-- A list of words: each is one. -/
def Ws (s : List Nat) : Prop := ∀ i, g s i < W
theorem W_pos : 0 < W := by decide
theorem shr_lt {a : Nat} (ha : a < W) (n : Nat) : a >>> n < W := by rw [Nat.shiftRight_eq_div_pow]; exact Nat.lt_of_le_of_lt (Nat.div_le_self _ _) ha
/-! Bytes. -/
/-- Eight bytes (or fewer) as a word, the lowest first. -/
def word : List UInt8 → Nat
  | [] => 0
  | b :: r => b.toNat + 256 * word r
def wordAt (blk : List UInt8) (i : Nat) : Nat := word ((blk.drop (8 * i)).take 8)
def mixin (s : List Nat) (blk : List UInt8) : List Nat := (List.range 25).map fun i => if i < 17 then g s i ^^^ wordAt blk i else g s i
def takes (s : List Nat) (blk : List UInt8) : List Nat := perm (mixin s blk)
def zero : List Nat := List.replicate 25 0
/-- So many whole blocks of bytes. -/
def absorb : Nat → List Nat → List UInt8 → List Nat
  | 0, s, _ => s
  | n + 1, s, l => absorb n (takes s (l.take 136)) (l.drop 136)
/-- A sponge that took bytes: its state, and what is not a block yet. -/
def stateOf (l : List UInt8) : List Nat := absorb (l.length / 136) zero l
def restOf (l : List UInt8) : List UInt8 := l.drop (l.length / 136 * 136)
/-- The eight bytes of a word. -/
def eight (w : Nat) : List UInt8 := (List.range 8).map fun i => UInt8.ofNat (w / 256 ^ i)
def squeeze (s : List Nat) : List UInt8 := eight (g s 0) ++ eight (g s 1) ++ eight (g s 2) ++ eight (g s 3)
/-- The last block: what is left, a 6 behind it, and 128 into the last byte. -/
def lastBlock (r : List UInt8) : List UInt8 :=
  let b := (r ++ 6 :: List.replicate (135 - r.length) 0)
  b.set 135 (b.getD 135 0 ^^^ 128)
def sum (l : List UInt8) : List UInt8 := squeeze (takes (stateOf l) (lastBlock (restOf l)))
end Go.Kec
namespace Go.Proofs.YtghohakbepeffaaGreatDoor
set_option maxRecDepth 100000
set_option maxHeartbeats 4000000
open Go Go.RowKit Go.Own Go.Shelf
/-- Words as cells. -/
def Wz (s : List Nat) : Array Value := (s.map fun (x : Nat) => Value.int .u64 (x : Int)).toArray
theorem Wz_get (s : List Nat) (i : Nat) (h : i < s.length) : (Wz s)[i]? = some (.int .u64 ((Kec.g s i : Nat) : Int)) := by
  simp [Wz, Kec.g, List.getElem?_eq_getElem h]
theorem Wz_get' (s : List Nat) (i v : Nat) (h : i < s.length) (hv : Kec.g s i = v) : (Wz s)[i]? = some (.int .u64 ((v : Nat) : Int)) := hv ▸ Wz_get s i h
theorem Wz_set (s : List Nat) (i v : Nat) : (Wz s).setIfInBounds i (.int .u64 ((v : Nat) : Int)) = Wz (s.set i v) := by
  simp [Wz, List.map_set]
theorem andU (a b : Nat) (ha : a < Kec.W) (hb : b < Kec.W) : Value.int .u64 (bits .and .u64 (a : Int) (b : Int)) = .int .u64 ((a &&& b : Nat) : Int) := congrArg _ (u64_and_nat a b ha hb)
theorem orU (a b : Nat) (ha : a < Kec.W) (hb : b < Kec.W) : Value.int .u64 (bits .or .u64 (a : Int) (b : Int)) = .int .u64 ((a ||| b : Nat) : Int) := congrArg _ (u64_or_nat a b ha hb)
theorem run_shlU {P : Program} {w : World} (t : TypeId) (yk : IntKind) (x n : Nat) (hn : n ≤ 64) : (binOp .shl t (.int .u64 (x : Int)) (.int yk (n : Int))).run P w = .ok (.int .u64 (((x <<< n) % Kec.W : Nat) : Int)) w := by
  rw [binOp_shl, shift_shl .u64 yk (x : Int) (n : Int) (by omega) (by show (n : Int) ≤ 64; omega)]
  have e : IntKind.u64.wrap ((x : Int) * 2 ^ (n : Int).toNat) = (((x <<< n) % Kec.W : Nat) : Int) := by
    show ((x : Int) * 2 ^ n % (2 ^ 64 : Int)) = _
    rw [Nat.shiftLeft_eq, Int.natCast_emod, Int.natCast_mul, Int.natCast_pow]
    rfl
  rw [e]; rfl
theorem run_shrU {P : Program} {w : World} (t : TypeId) (yk : IntKind) (x n : Nat) (hn : n ≤ 64) : (binOp .shr t (.int .u64 (x : Int)) (.int yk (n : Int))).run P w = .ok (.int .u64 ((x >>> n : Nat) : Int)) w := by
  rw [binOp_shr, shift_shr .u64 yk (x : Int) (n : Int) (by omega) (by show (n : Int) ≤ 64; omega)]
  have e : (x : Int) / 2 ^ (n : Int).toNat = ((x >>> n : Nat) : Int) := by
    rw [Nat.shiftRight_eq_div_pow, Int.natCast_ediv, Int.natCast_pow]; rfl
  rw [e]; rfl
end Go.Proofs.YtghohakbepeffaaGreatDoor
namespace Go.Proofs.YtghohakbepeffaaGreatDoor
set_option maxRecDepth 100000
set_option maxHeartbeats 4000000
open Go Go.RowKit Go.Own Go.Shelf
theorem exec_quoU {P : Program} {o : Oper} {ρ : Operand → Value} {w : World} (t t' : TypeId) (x y : Operand) (ho : o.op = .binOp .quo t x y t') (a b : Nat) (hx : ρ x = .int .u64 (a : Int)) (hy : ρ y = .int .u64 (b : Int)) (hb : 0 < b) (ha : a < 18446744073709551616) :
    (execOp ρ o).run P w = .ok (.value (.int .u64 ((a / b : Nat) : Int))) w := by
  refine exec_binop .quo t t' x y ho _ _ _ hx hy rfl ?_
  have h : ¬ ((b : Int) = 0) := by omega
  rw [binOp_quo]
  simp only [Op.intDiv, if_neg h]
  have e : IntKind.u64.wrap (Int.tdiv (a : Int) (b : Int)) = ((a / b : Nat) : Int) := by
    rw [show Int.tdiv (a : Int) (b : Int) = ((a / b : Nat) : Int) from rfl]
    exact wrapU _ (by have := Nat.div_le_self a b; omega)
  rw [e]; rfl
theorem exec_remU {P : Program} {o : Oper} {ρ : Operand → Value} {w : World} (t t' : TypeId) (x y : Operand) (ho : o.op = .binOp .rem t x y t') (a b : Nat) (hx : ρ x = .int .u64 (a : Int)) (hy : ρ y = .int .u64 (b : Int)) (hb : 0 < b) (ha : a < 18446744073709551616) :
    (execOp ρ o).run P w = .ok (.value (.int .u64 ((a % b : Nat) : Int))) w := by
  refine exec_binop .rem t t' x y ho _ _ _ hx hy rfl ?_
  have h : ¬ ((b : Int) = 0) := by omega
  rw [binOp_rem]
  simp only [Op.intDiv, if_neg h]
  have e : IntKind.u64.wrap (Int.tmod (a : Int) (b : Int)) = ((a % b : Nat) : Int) := by
    rw [show Int.tmod (a : Int) (b : Int) = ((a % b : Nat) : Int) from rfl]
    exact wrapU _ (by have := Nat.mod_le a b; omega)
  first | rfl | (rw [e]; rfl)
theorem wrapM (n : Nat) : IntKind.u64.wrap (n : Int) = ((n % 18446744073709551616 : Nat) : Int) := by rw [IntKind.wrap_u64]; omega
theorem conv_u64_u8 {x : Nat} (h : x < 256) (w : World) : (convert 40 5 (.int .u64 ((x : Nat) : Int))).run Tryz.prog w = .ok (.int .u8 ((x : Nat) : Int)) w := by
  simp only [convert, Tryz.underlying40, Tryz.underlying5]
  have : IntKind.u8.wrap ((x : Nat) : Int) = ((x : Nat) : Int) := by
    unfold IntKind.wrap; simp [IntKind.signed, IntKind.bits]; omega
  simp [Conv.intToInt, this]
theorem conv_u8_int {x : Nat} (h : x < 256) (w : World) : (convert 5 3 (.int .u8 ((x : Nat) : Int))).run Tryz.prog w = .ok (.int .i64 ((x : Nat) : Int)) w := by
  simp only [convert, Tryz.underlying5, Tryz.underlying3]
  have : IntKind.i64.wrap ((x : Nat) : Int) = ((x : Nat) : Int) := by
    unfold IntKind.wrap; simp [IntKind.signed, IntKind.bits]; omega
  simp [Conv.intToInt, this]
theorem conv_int_uint {x : Nat} (h : x ≤ 64) (w : World) : (convert 3 169 (.int .i64 ((x : Nat) : Int))).run Tryz.prog w = .ok (.int .u64 ((x : Nat) : Int)) w := by
  simp only [convert, Tryz.underlying3, Tryz.underlying169]
  simp [Conv.intToInt, wrapU x (by omega)]
/-! The length of a number. -/
def ltab : List UInt8 := Lib.len8tab.toList
theorem ltab_all : ∀ k : Fin 256, ∃ c, ltab[k.val]? = some c ∧ c.toNat ≤ 8 ∧ k.val < 2 ^ c.toNat ∧ (k.val ≠ 0 → 1 ≤ c.toNat ∧ 2 ^ (c.toNat - 1) ≤ k.val) := by
  have h : ∀ k : Fin 256, (match ltab[k.val]? with | some c => decide (c.toNat ≤ 8) && decide (k.val < 2 ^ c.toNat) && (decide (k.val = 0) || (decide (1 ≤ c.toNat) && decide (2 ^ (c.toNat - 1) ≤ k.val))) | none => false) = true := by decide +kernel
  intro k
  have := h k
  cases e : ltab[k.val]? with
  | none => rw [e] at this; cases this
  | some c =>
    rw [e] at this
    simp only [Bool.and_eq_true, Bool.or_eq_true, decide_eq_true_eq] at this
    obtain ⟨⟨q1, q2⟩, q3⟩ := this
    exact ⟨c, rfl, q1, q2, fun h0 => q3.resolve_left h0⟩
def IsLen (y n : Nat) : Prop := n ≤ 64 ∧ 1 ≤ n ∧ y < 2 ^ n ∧ 2 ^ (n - 1) ≤ y
theorem len_fin {y x a K t : Nat} (hK : K = 2 ^ a) (ha : a ≤ 56) (ht0 : t ≤ 8) (h1 : x * K ≤ y) (h2 : y < (x + 1) * K) (ht : x < 2 ^ t) (hn : x ≠ 0) (hl : x ≠ 0 → 1 ≤ t ∧ 2 ^ (t - 1) ≤ x) : IsLen y (a + t) := by
  obtain ⟨l1, l2⟩ := hl hn
  refine ⟨by omega, by omega, ?_, ?_⟩
  · rw [Nat.pow_add, ← hK, Nat.mul_comm]
    exact Nat.lt_of_lt_of_le h2 (Nat.mul_le_mul_right _ ht)
  · rw [show a + t - 1 = a + (t - 1) by omega, Nat.pow_add, ← hK, Nat.mul_comm]
    exact Nat.le_trans (Nat.mul_le_mul_right _ l2) h1
theorem two_pos (s : Nat) : 0 < 2 ^ s := Nat.pow_pos (by decide)
theorem lead_len {y n s : Nat} (h : IsLen y n) (hs : s + n = 64) : s ≤ 63 ∧ 9223372036854775808 ≤ y * 2 ^ s ∧ y * 2 ^ s < 18446744073709551616 := by
  obtain ⟨h0, h1, h2, h3⟩ := h
  refine ⟨by omega, ?_, ?_⟩
  · have := Nat.mul_le_mul_right (2 ^ s) h3
    rw [← Nat.pow_add, show n - 1 + s = 63 by omega] at this
    exact this
  · have := Nat.mul_lt_mul_of_pos_right h2 (two_pos s)
    rw [← Nat.pow_add, show n + s = 64 by omega] at this
    exact this
/-! One digit of a long division, and both. -/
def Dig (U Y y1 u q r : Nat) : Prop := q * y1 + r = U ∧ (U * 4294967296 + u) / Y ≤ q
theorem dig_init {U Y y1 y0 u : Nat} (hY : Y = y1 * 4294967296 + y0) (h0 : y0 < 4294967296) (h1 : 1 ≤ y1) (hu : u < 4294967296) (hU : U < Y) : Dig U Y y1 u (U / y1) (U - U / y1 * y1) := by
  refine ⟨by have := Nat.div_mul_le_self U y1; omega, ?_⟩
  refine Nat.le_trans (Nat.div_le_div_left (c := y1 * 4294967296) (by omega) (by omega)) ?_
  rw [Nat.mul_comm y1, ← Nat.div_div_eq_div_mul]
  exact Nat.div_le_div_right (by omega)
theorem dig_lt {U Y y1 y0 u : Nat} (hY : Y = y1 * 4294967296 + y0) (h0 : y0 < 4294967296) (h1 : 1 ≤ y1) (hu : u < 4294967296) (hU : U < Y) : (U * 4294967296 + u) / Y < 4294967296 := by
  rw [Nat.div_lt_iff_lt_mul (by omega)]; omega
theorem dig_step {U Y y1 y0 u q r : Nat} (hY : Y = y1 * 4294967296 + y0) (h0 : y0 < 4294967296) (h1 : 1 ≤ y1) (hu : u < 4294967296) (hU : U < Y) (h : Dig U Y y1 u q r) (hc : 4294967296 ≤ q ∨ 4294967296 * r + u < q * y0) : 1 ≤ q ∧ Dig U Y y1 u (q - 1) (r + y1) := by
  obtain ⟨a1, a2⟩ := h
  have hl := dig_lt hY h0 h1 hu hU
  have hq : (U * 4294967296 + u) / Y < q := by
    rcases hc with hc | hc
    · omega
    · rw [Nat.div_lt_iff_lt_mul (by omega), hY, Nat.mul_add, ← Nat.mul_assoc]; omega
  have q1 : 1 ≤ q := Nat.lt_of_le_of_lt (Nat.zero_le _) hq
  refine ⟨q1, ?_, Nat.le_sub_one_of_lt hq⟩
  obtain ⟨k, rfl⟩ : ∃ k, q = k + 1 := ⟨q - 1, by omega⟩
  rw [Nat.add_mul, Nat.one_mul] at a1
  rw [Nat.add_sub_cancel]; omega
theorem dig_done {U Y y1 y0 u q r : Nat} (hY : Y = y1 * 4294967296 + y0) (h0 : y0 < 4294967296) (h1 : 1 ≤ y1) (hu : u < 4294967296) (hU : U < Y) (h : Dig U Y y1 u q r) (hc : (q < 4294967296 ∧ q * y0 ≤ 4294967296 * r + u) ∨ 4294967296 ≤ r) : q = (U * 4294967296 + u) / Y := by
  obtain ⟨a1, a2⟩ := h
  refine Nat.le_antisymm ?_ a2
  rw [Nat.le_div_iff_mul_le (by omega), hY, Nat.mul_add, ← Nat.mul_assoc]
  rcases hc with ⟨_, hc⟩ | hc
  · omega
  · have q2 : q < 4294967296 := by
      rcases Nat.lt_or_ge q 4294967296 with g | g
      · exact g
      · have g2 := Nat.mul_le_mul_right y1 g
        clear a2
        exact absurd hU (by rw [← a1, hY]; have : y1 * 4294967296 = 4294967296 * y1 := Nat.mul_comm _ _; generalize q * y1 = z at *; generalize 4294967296 * y1 = z2 at *; omega)
    have g1 := Nat.mul_le_mul (Nat.le_of_lt q2) (Nat.le_of_lt h0)
    have g2 := Nat.mul_le_mul (Nat.le_refl 4294967296) hc
    clear a2 hY h0 h1 hu hU
    generalize q * y0 = z at *
    generalize q * y1 = z2 at *
    omega
theorem dig_rest {U Y y1 y0 u q : Nat} (hY : Y = y1 * 4294967296 + y0) (h0 : y0 < 4294967296) (h1 : 1 ≤ y1) (hu : u < 4294967296) (hU : U < Y) (h : q = (U * 4294967296 + u) / Y) : IntKind.u64.wrap (IntKind.u64.wrap (IntKind.u64.wrap (((U : Nat) : Int) * 4294967296) + ((u : Nat) : Int)) - IntKind.u64.wrap (((q : Nat) : Int) * ((Y : Nat) : Int))) = (((U * 4294967296 + u) % Y : Nat) : Int) ∨ 18446744073709551616 ≤ Y := by
  by_cases hb : Y < 18446744073709551616
  · refine .inl ?_
    have e := Nat.div_add_mod (U * 4294967296 + u) Y
    have l := Nat.mod_lt (U * 4294967296 + u) (show 0 < Y by omega)
    rw [← h, Nat.mul_comm] at e
    obtain ⟨z, hz⟩ : ∃ z : Nat, q * Y = z := ⟨_, rfl⟩
    obtain ⟨m, hm⟩ : ∃ z : Nat, (U * 4294967296 + u) % Y = z := ⟨_, rfl⟩
    rw [hm, hz] at e; rw [hm] at l ⊢
    rw [← Int.natCast_mul, hz]
    simp only [IntKind.wrap_u64]
    omega
  · exact .inr (by omega)
theorem dig_cases (q r y0 y1 u : Nat) : (4294967296 ≤ q ∧ r + y1 < 4294967296) ∨ (4294967296 ≤ q ∧ 4294967296 ≤ r + y1) ∨ (q < 4294967296 ∧ 4294967296 * r + u < q * y0 ∧ r + y1 < 4294967296) ∨ (q < 4294967296 ∧ 4294967296 * r + u < q * y0 ∧ 4294967296 ≤ r + y1) ∨ (q < 4294967296 ∧ q * y0 ≤ 4294967296 * r + u) := by
  generalize q * y0 = z
  omega
theorem mul_small {q y : Nat} (h : q < 4294967296) (h2 : y < 4294967296) : q * y < 18446744073709551616 := by
  have := Nat.mul_le_mul (Nat.le_sub_one_of_lt h) (Nat.le_sub_one_of_lt h2)
  omega
theorem rem_small {U y : Nat} (h : 1 ≤ y) (h2 : y < 4294967296) : U - U / y * y < 4294967296 := by
  have e := Nat.div_add_mod U y
  have l := Nat.mod_lt U h
  rw [Nat.mul_comm] at e
  omega
theorem wrap_sub (x z : Nat) (h : z ≤ x) (hx : x < 18446744073709551616) : IntKind.u64.wrap (((x : Nat) : Int) - ((z : Nat) : Int)) = ((x - z : Nat) : Int) := by
  rw [IntKind.wrap_u64]; omega
theorem wide_shift {hi lo y s : Nat} (hs : s ≤ 63) (hl : lo < 18446744073709551616) (hh : hi < y) (hb : y * 2 ^ s < 18446744073709551616) : ((hi <<< s) % Kec.W ||| lo >>> (64 - s)) * 18446744073709551616 + (lo <<< s) % Kec.W = (hi * 18446744073709551616 + lo) * 2 ^ s ∧ ((hi <<< s) % Kec.W ||| lo >>> (64 - s)) < y * 2 ^ s := by
  have p := two_pos s
  have e64 : 2 ^ (64 - s) * 2 ^ s = 18446744073709551616 := by rw [← Nat.pow_add, show 64 - s + s = 64 by omega]
  have m1 : hi * 2 ^ s + 2 ^ s ≤ y * 2 ^ s := by rw [← Nat.succ_mul]; exact Nat.mul_le_mul_right _ hh
  have hW : Kec.W = 18446744073709551616 := rfl
  have h1 : (hi <<< s) % Kec.W = hi <<< s := Nat.mod_eq_of_lt (by rw [Nat.shiftLeft_eq, hW]; omega)
  have hq : lo / 2 ^ (64 - s) < 2 ^ s := by
    rw [Nat.div_lt_iff_lt_mul (two_pos _), Nat.mul_comm, e64]; exact hl
  have h2 : lo >>> (64 - s) = lo / 2 ^ (64 - s) := Nat.shiftRight_eq_div_pow ..
  have h3 : (hi <<< s) ||| lo / 2 ^ (64 - s) = hi * 2 ^ s + lo / 2 ^ (64 - s) := by
    rw [← Nat.shiftLeft_add_eq_or_of_lt hq, Nat.shiftLeft_eq]
  rw [h1, h2, h3, Nat.shiftLeft_eq, hW, Nat.add_mul]
  have h4 : lo / 2 ^ (64 - s) * 18446744073709551616 + lo * 2 ^ s % 18446744073709551616 = lo * 2 ^ s := by
    have : lo * 2 ^ s / 18446744073709551616 = lo / 2 ^ (64 - s) := by
      rw [← e64]; exact Nat.mul_div_mul_right _ _ p
    rw [← this, Nat.mul_comm]; exact Nat.div_add_mod ..
  refine ⟨?_, by omega⟩
  rw [Nat.add_mul, Nat.mul_right_comm hi]
  omega
theorem long_div {U Y u1 u0 q1 V q0 : Nat} (hY : 0 < Y) (h1 : q1 = (U * 4294967296 + u1) / Y) (hV : V = (U * 4294967296 + u1) % Y) (h0 : q0 = (V * 4294967296 + u0) / Y) : (U * 18446744073709551616 + (u1 * 4294967296 + u0)) / Y = q1 * 4294967296 + q0 := by
  have e := Nat.div_add_mod (U * 4294967296 + u1) Y
  rw [← h1, ← hV] at e
  have : U * 18446744073709551616 + (u1 * 4294967296 + u0) = (V * 4294967296 + u0) + Y * (q1 * 4294967296) := by
    rw [← Nat.mul_assoc]; omega
  rw [this, Nat.add_mul_div_left _ _ hY, ← h0]; omega
theorem div_end {hi lo y s U Y L u1 u0 q1 V q0 : Nat} (hy1 : 1 ≤ y) (hYe : y * 2 ^ s = Y) (hsum : U * 18446744073709551616 + L = (hi * 18446744073709551616 + lo) * 2 ^ s) (hLs : L = u1 * 4294967296 + u0) (h1 : q1 = (U * 4294967296 + u1) / Y) (hV : (U * 4294967296 + u1) % Y = V) (h0 : q0 = (V * 4294967296 + u0) / Y) : q1 * 4294967296 + q0 = (hi * 18446744073709551616 + lo) / y := by
  have p := two_pos s
  have hY : 0 < Y := hYe ▸ Nat.mul_pos hy1 p
  rw [← long_div hY h1 hV.symm h0, ← hLs, hsum, ← hYe, Nat.mul_div_mul_right _ _ p]
noncomputable def qc53_2 (n : Nat) : Code := partOf Tryz.f108 n
theorem bLen64_yyy (y : Nat) (hy1 : 1 ≤ y) (hy2 : y < 18446744073709551616) (g0 : 4294967296 ≤ y) (g1 : 65536 ≤ y / 4294967296) (g2 : 256 ≤ y / 4294967296 / 65536) (w : World) :
    Calls Tryz.prog 108 #[.int .u64 ((y : Nat) : Int)] w (fun e w' => ∃ n : Nat, e = .returned (.int .i64 ((n : Nat) : Int)) ∧ IsLen y n ∧ w = w') := by
  obtain ⟨c, hc, hc8, hct, hcl⟩ := ltab_all ⟨y / 4294967296 / 65536 / 256, by omega⟩
  have K0 : Keeps Nob w w := Keeps.refl _ _
  refine sy_enter (qc53_2 1) ⟨#[uN y, ud, ud, ud, ud, ud, ud, ud, ud, ud, ud, ud, ud, ud, ud, ud, ud, ud, ud, ud, ud, ud, ud, ud, ud], []⟩ Tryz.func108 (by kernel_rfl) (by kernel_rfl) <| qr_ [0] <| pkq (.int .i64 0) <| eq_ <| qr_ [0, 1] <| pkq (uN y) <| ppq (.bool true) (dct ((((y : Nat) : Int)) ≥ ((4294967296) : Int)) (by omega)) <| ey_ <| qr_ [0, 1, 2] <| pkq (uN y) <| ppq (uN (y / 4294967296)) (exec_cast (congrArg (fun n : Nat => Value.int .u64 (n : Int)) (Nat.shiftRight_eq_div_pow y 32)) (exec_binop .shr 40 169 (.tmp 5) (.const (.int .u64 32)) (by kernel_rfl) (uN y) (uN 32) _ (by kernel_rfl) (by kernel_rfl) (by kernel_rfl) (run_shrU _ _ _ 32 (by omega)))) <| pkq (uN (y / 4294967296)) <| er_ [0] <| pkq (.int .i64 32) ?_
  refine eq_ <| qr_ [0, 1] <| pkq (uN (y / 4294967296)) <| ppq (.bool true) (dct ((((y / 4294967296 : Nat) : Int)) ≥ ((65536) : Int)) (by omega)) <| ey_ <| qr_ [0, 1, 2] <| pkq (uN (y / 4294967296)) <| ppq (uN (y / 4294967296 / 65536)) (exec_cast (congrArg (fun n : Nat => Value.int .u64 (n : Int)) (Nat.shiftRight_eq_div_pow (y / 4294967296) 16)) (exec_binop .shr 40 169 (.tmp 9) (.const (.int .u64 16)) (by kernel_rfl) (uN (y / 4294967296)) (uN 16) _ (by kernel_rfl) (by kernel_rfl) (by kernel_rfl) (run_shrU _ _ _ 16 (by omega)))) <| pkq (uN (y / 4294967296 / 65536)) <| er_ [0, 1, 2] <| pkq (.int .i64 32) <| pkq (.int .i64 48) <| pkq (.int .i64 48) <| eq_ ?_
  refine qr_ [0, 1] <| pkq (uN (y / 4294967296 / 65536)) <| ppq (.bool true) (dct ((((y / 4294967296 / 65536 : Nat) : Int)) ≥ ((256) : Int)) (by omega)) <| ey_ <| qr_ [0, 1, 2] <| pkq (uN (y / 4294967296 / 65536)) <| ppq (uN (y / 4294967296 / 65536 / 256)) (exec_cast (congrArg (fun n : Nat => Value.int .u64 (n : Int)) (Nat.shiftRight_eq_div_pow (y / 4294967296 / 65536) 8)) (exec_binop .shr 40 169 (.tmp 15) (.const (.int .u64 8)) (by kernel_rfl) (uN (y / 4294967296 / 65536)) (uN 8) _ (by kernel_rfl) (by kernel_rfl) (by kernel_rfl) (run_shrU _ _ _ 8 (by omega)))) <| pkq (uN (y / 4294967296 / 65536 / 256)) <| er_ [0, 1, 2] <| pkq (.int .i64 48) <| pkq (.int .i64 56) <| pkq (.int .i64 56) <| eqr_ [0, 1, 2, 3, 4, 5, 6] <| pkq (.int .i64 56) ?_
  refine pkq (uN (y / 4294967296 / 65536 / 256)) <| prq (cN (y / 4294967296 / 65536 / 256)) (w' := w) (exec_convert 40 5 (.tmp 20) (by kernel_rfl) _ (by kernel_rfl) (conv_u64_u8 (by omega) _)) <| ppq (cN c.toNat) (exec_index_str 9 (.const (.string ⟨ltab.toArray⟩)) (.tmp 21) (by kernel_rfl) ltab (by kernel_rfl) .u8 (y / 4294967296 / 65536 / 256) (by kernel_rfl) Tryz.underlying9 c hc) <| prq (iN c.toNat) (w' := w) (exec_convert 5 3 (.tmp 22) (by kernel_rfl) _ (by kernel_rfl) (conv_u8_int (by omega) _)) <| ppq (iN (56 + c.toNat)) (exec_cast (congrArg (Value.int .i64) (wrapN (56 + c.toNat) (by omega))) (by kernel_rfl)) <| pkq (iN (56 + c.toNat)) <| ps_end <| sy_a ⟨#[uN (y / 4294967296 / 65536 / 256), ud, iN (56 + c.toNat), uN y, .bool true, uN y, uN (y / 4294967296), uN (y / 4294967296), .bool true, uN (y / 4294967296), uN (y / 4294967296 / 65536), .int .i64 32, .int .i64 48, uN (y / 4294967296 / 65536), .bool true, uN (y / 4294967296 / 65536), uN (y / 4294967296 / 65536 / 256), .int .i64 48, .int .i64 56, .int .i64 56, uN (y / 4294967296 / 65536 / 256), cN (y / 4294967296 / 65536 / 256), cN c.toNat, iN c.toNat, iN (56 + c.toNat)], []⟩ <| then_n <| u_ <| so_ (.int .i64 ((56 + c.toNat : Nat) : Int)) ?_
  exact ⟨56 + c.toNat, rfl, len_fin (x := y / 4294967296 / 65536 / 256) (K := 72057594037927936) (by decide) (by decide) hc8 (by omega) (by omega) hct (by omega) hcl, rfl⟩
theorem bLen64_yyn (y : Nat) (hy1 : 1 ≤ y) (hy2 : y < 18446744073709551616) (g0 : 4294967296 ≤ y) (g1 : 65536 ≤ y / 4294967296) (g2 : y / 4294967296 / 65536 < 256) (w : World) :
    Calls Tryz.prog 108 #[.int .u64 ((y : Nat) : Int)] w (fun e w' => ∃ n : Nat, e = .returned (.int .i64 ((n : Nat) : Int)) ∧ IsLen y n ∧ w = w') := by
  obtain ⟨c, hc, hc8, hct, hcl⟩ := ltab_all ⟨y / 4294967296 / 65536, by omega⟩
  have K0 : Keeps Nob w w := Keeps.refl _ _
  refine sy_enter (qc53_2 1) ⟨#[uN y, ud, ud, ud, ud, ud, ud, ud, ud, ud, ud, ud, ud, ud, ud, ud, ud, ud, ud, ud, ud, ud, ud, ud, ud], []⟩ Tryz.func108 (by kernel_rfl) (by kernel_rfl) <| qr_ [0] <| pkq (.int .i64 0) <| eq_ <| qr_ [0, 1] <| pkq (uN y) <| ppq (.bool true) (dct ((((y : Nat) : Int)) ≥ ((4294967296) : Int)) (by omega)) <| ey_ <| qr_ [0, 1, 2] <| pkq (uN y) <| ppq (uN (y / 4294967296)) (exec_cast (congrArg (fun n : Nat => Value.int .u64 (n : Int)) (Nat.shiftRight_eq_div_pow y 32)) (exec_binop .shr 40 169 (.tmp 5) (.const (.int .u64 32)) (by kernel_rfl) (uN y) (uN 32) _ (by kernel_rfl) (by kernel_rfl) (by kernel_rfl) (run_shrU _ _ _ 32 (by omega)))) <| pkq (uN (y / 4294967296)) <| er_ [0] <| pkq (.int .i64 32) ?_
  refine eq_ <| qr_ [0, 1] <| pkq (uN (y / 4294967296)) <| ppq (.bool true) (dct ((((y / 4294967296 : Nat) : Int)) ≥ ((65536) : Int)) (by omega)) <| ey_ <| qr_ [0, 1, 2] <| pkq (uN (y / 4294967296)) <| ppq (uN (y / 4294967296 / 65536)) (exec_cast (congrArg (fun n : Nat => Value.int .u64 (n : Int)) (Nat.shiftRight_eq_div_pow (y / 4294967296) 16)) (exec_binop .shr 40 169 (.tmp 9) (.const (.int .u64 16)) (by kernel_rfl) (uN (y / 4294967296)) (uN 16) _ (by kernel_rfl) (by kernel_rfl) (by kernel_rfl) (run_shrU _ _ _ 16 (by omega)))) <| pkq (uN (y / 4294967296 / 65536)) <| er_ [0, 1, 2] <| pkq (.int .i64 32) <| pkq (.int .i64 48) <| pkq (.int .i64 48) <| eq_ ?_
  refine qr_ [0, 1] <| pkq (uN (y / 4294967296 / 65536)) <| ppq (.bool false) (dcf ((((y / 4294967296 / 65536 : Nat) : Int)) ≥ ((256) : Int)) (by omega)) <| en_ <| s_ <| tqr_ [0, 1, 2, 3, 4, 5, 6] <| pkq (.int .i64 48) <| pkq (uN (y / 4294967296 / 65536)) <| prq (cN (y / 4294967296 / 65536)) (w' := w) (exec_convert 40 5 (.tmp 20) (by kernel_rfl) _ (by kernel_rfl) (conv_u64_u8 (by omega) _)) <| ppq (cN c.toNat) (exec_index_str 9 (.const (.string ⟨ltab.toArray⟩)) (.tmp 21) (by kernel_rfl) ltab (by kernel_rfl) .u8 (y / 4294967296 / 65536) (by kernel_rfl) Tryz.underlying9 c hc) <| prq (iN c.toNat) (w' := w) (exec_convert 5 3 (.tmp 22) (by kernel_rfl) _ (by kernel_rfl) (conv_u8_int (by omega) _)) <| ppq (iN (48 + c.toNat)) (exec_cast (congrArg (Value.int .i64) (wrapN (48 + c.toNat) (by omega))) (by kernel_rfl)) <| pkq (iN (48 + c.toNat)) <| ps_end ?_
  refine sy_a ⟨#[uN (y / 4294967296 / 65536), ud, iN (48 + c.toNat), uN y, .bool true, uN y, uN (y / 4294967296), uN (y / 4294967296), .bool true, uN (y / 4294967296), uN (y / 4294967296 / 65536), .int .i64 32, .int .i64 48, uN (y / 4294967296 / 65536), .bool false, ud, ud, ud, ud, .int .i64 48, uN (y / 4294967296 / 65536), cN (y / 4294967296 / 65536), cN c.toNat, iN c.toNat, iN (48 + c.toNat)], []⟩ <| then_n <| u_ <| so_ (.int .i64 ((48 + c.toNat : Nat) : Int)) ?_
  exact ⟨48 + c.toNat, rfl, len_fin (x := y / 4294967296 / 65536) (K := 281474976710656) (by decide) (by decide) hc8 (by omega) (by omega) hct (by omega) hcl, rfl⟩
theorem bLen64_yny (y : Nat) (hy1 : 1 ≤ y) (hy2 : y < 18446744073709551616) (g0 : 4294967296 ≤ y) (g1 : y / 4294967296 < 65536) (g2 : 256 ≤ y / 4294967296) (w : World) :
    Calls Tryz.prog 108 #[.int .u64 ((y : Nat) : Int)] w (fun e w' => ∃ n : Nat, e = .returned (.int .i64 ((n : Nat) : Int)) ∧ IsLen y n ∧ w = w') := by
  obtain ⟨c, hc, hc8, hct, hcl⟩ := ltab_all ⟨y / 4294967296 / 256, by omega⟩
  have K0 : Keeps Nob w w := Keeps.refl _ _
  refine sy_enter (qc53_2 1) ⟨#[uN y, ud, ud, ud, ud, ud, ud, ud, ud, ud, ud, ud, ud, ud, ud, ud, ud, ud, ud, ud, ud, ud, ud, ud, ud], []⟩ Tryz.func108 (by kernel_rfl) (by kernel_rfl) <| qr_ [0] <| pkq (.int .i64 0) <| eq_ <| qr_ [0, 1] <| pkq (uN y) <| ppq (.bool true) (dct ((((y : Nat) : Int)) ≥ ((4294967296) : Int)) (by omega)) <| ey_ <| qr_ [0, 1, 2] <| pkq (uN y) <| ppq (uN (y / 4294967296)) (exec_cast (congrArg (fun n : Nat => Value.int .u64 (n : Int)) (Nat.shiftRight_eq_div_pow y 32)) (exec_binop .shr 40 169 (.tmp 5) (.const (.int .u64 32)) (by kernel_rfl) (uN y) (uN 32) _ (by kernel_rfl) (by kernel_rfl) (by kernel_rfl) (run_shrU _ _ _ 32 (by omega)))) <| pkq (uN (y / 4294967296)) <| er_ [0] <| pkq (.int .i64 32) ?_
  refine eq_ <| qr_ [0, 1] <| pkq (uN (y / 4294967296)) <| ppq (.bool false) (dcf ((((y / 4294967296 : Nat) : Int)) ≥ ((65536) : Int)) (by omega)) <| en_ <| s_ <| tq_ <| qr_ [0, 1] <| pkq (uN (y / 4294967296)) <| ppq (.bool true) (dct ((((y / 4294967296 : Nat) : Int)) ≥ ((256) : Int)) (by omega)) <| ey_ <| qr_ [0, 1, 2] <| pkq (uN (y / 4294967296)) <| ppq (uN (y / 4294967296 / 256)) (exec_cast (congrArg (fun n : Nat => Value.int .u64 (n : Int)) (Nat.shiftRight_eq_div_pow (y / 4294967296) 8)) (exec_binop .shr 40 169 (.tmp 15) (.const (.int .u64 8)) (by kernel_rfl) (uN (y / 4294967296)) (uN 8) _ (by kernel_rfl) (by kernel_rfl) (by kernel_rfl) (run_shrU _ _ _ 8 (by omega)))) ?_
  refine pkq (uN (y / 4294967296 / 256)) <| er_ [0, 1, 2] <| pkq (.int .i64 32) <| pkq (.int .i64 40) <| pkq (.int .i64 40) <| eqr_ [0, 1, 2, 3, 4, 5, 6] <| pkq (.int .i64 40) <| pkq (uN (y / 4294967296 / 256)) <| prq (cN (y / 4294967296 / 256)) (w' := w) (exec_convert 40 5 (.tmp 20) (by kernel_rfl) _ (by kernel_rfl) (conv_u64_u8 (by omega) _)) <| ppq (cN c.toNat) (exec_index_str 9 (.const (.string ⟨ltab.toArray⟩)) (.tmp 21) (by kernel_rfl) ltab (by kernel_rfl) .u8 (y / 4294967296 / 256) (by kernel_rfl) Tryz.underlying9 c hc) <| prq (iN c.toNat) (w' := w) (exec_convert 5 3 (.tmp 22) (by kernel_rfl) _ (by kernel_rfl) (conv_u8_int (by omega) _)) <| ppq (iN (40 + c.toNat)) (exec_cast (congrArg (Value.int .i64) (wrapN (40 + c.toNat) (by omega))) (by kernel_rfl)) <| pkq (iN (40 + c.toNat)) <| ps_end ?_
  refine sy_a ⟨#[uN (y / 4294967296 / 256), ud, iN (40 + c.toNat), uN y, .bool true, uN y, uN (y / 4294967296), uN (y / 4294967296), .bool false, ud, ud, ud, ud, uN (y / 4294967296), .bool true, uN (y / 4294967296), uN (y / 4294967296 / 256), .int .i64 32, .int .i64 40, .int .i64 40, uN (y / 4294967296 / 256), cN (y / 4294967296 / 256), cN c.toNat, iN c.toNat, iN (40 + c.toNat)], []⟩ <| then_n <| u_ <| so_ (.int .i64 ((40 + c.toNat : Nat) : Int)) ?_
  exact ⟨40 + c.toNat, rfl, len_fin (x := y / 4294967296 / 256) (K := 1099511627776) (by decide) (by decide) hc8 (by omega) (by omega) hct (by omega) hcl, rfl⟩
theorem bLen64_ynn (y : Nat) (hy1 : 1 ≤ y) (hy2 : y < 18446744073709551616) (g0 : 4294967296 ≤ y) (g1 : y / 4294967296 < 65536) (g2 : y / 4294967296 < 256) (w : World) :
    Calls Tryz.prog 108 #[.int .u64 ((y : Nat) : Int)] w (fun e w' => ∃ n : Nat, e = .returned (.int .i64 ((n : Nat) : Int)) ∧ IsLen y n ∧ w = w') := by
  obtain ⟨c, hc, hc8, hct, hcl⟩ := ltab_all ⟨y / 4294967296, by omega⟩
  have K0 : Keeps Nob w w := Keeps.refl _ _
  refine sy_enter (qc53_2 1) ⟨#[uN y, ud, ud, ud, ud, ud, ud, ud, ud, ud, ud, ud, ud, ud, ud, ud, ud, ud, ud, ud, ud, ud, ud, ud, ud], []⟩ Tryz.func108 (by kernel_rfl) (by kernel_rfl) <| qr_ [0] <| pkq (.int .i64 0) <| eq_ <| qr_ [0, 1] <| pkq (uN y) <| ppq (.bool true) (dct ((((y : Nat) : Int)) ≥ ((4294967296) : Int)) (by omega)) <| ey_ <| qr_ [0, 1, 2] <| pkq (uN y) <| ppq (uN (y / 4294967296)) (exec_cast (congrArg (fun n : Nat => Value.int .u64 (n : Int)) (Nat.shiftRight_eq_div_pow y 32)) (exec_binop .shr 40 169 (.tmp 5) (.const (.int .u64 32)) (by kernel_rfl) (uN y) (uN 32) _ (by kernel_rfl) (by kernel_rfl) (by kernel_rfl) (run_shrU _ _ _ 32 (by omega)))) <| pkq (uN (y / 4294967296)) <| er_ [0] <| pkq (.int .i64 32) ?_
  refine eq_ <| qr_ [0, 1] <| pkq (uN (y / 4294967296)) <| ppq (.bool false) (dcf ((((y / 4294967296 : Nat) : Int)) ≥ ((65536) : Int)) (by omega)) <| en_ <| s_ <| tq_ <| qr_ [0, 1] <| pkq (uN (y / 4294967296)) <| ppq (.bool false) (dcf ((((y / 4294967296 : Nat) : Int)) ≥ ((256) : Int)) (by omega)) <| en_ <| s_ <| tqr_ [0, 1, 2, 3, 4, 5, 6] <| pkq (.int .i64 32) ?_
  refine pkq (uN (y / 4294967296)) <| prq (cN (y / 4294967296)) (w' := w) (exec_convert 40 5 (.tmp 20) (by kernel_rfl) _ (by kernel_rfl) (conv_u64_u8 (by omega) _)) <| ppq (cN c.toNat) (exec_index_str 9 (.const (.string ⟨ltab.toArray⟩)) (.tmp 21) (by kernel_rfl) ltab (by kernel_rfl) .u8 (y / 4294967296) (by kernel_rfl) Tryz.underlying9 c hc) <| prq (iN c.toNat) (w' := w) (exec_convert 5 3 (.tmp 22) (by kernel_rfl) _ (by kernel_rfl) (conv_u8_int (by omega) _)) <| ppq (iN (32 + c.toNat)) (exec_cast (congrArg (Value.int .i64) (wrapN (32 + c.toNat) (by omega))) (by kernel_rfl)) <| pkq (iN (32 + c.toNat)) <| eu_ <| so_ (.int .i64 ((32 + c.toNat : Nat) : Int)) ?_
  exact ⟨32 + c.toNat, rfl, len_fin (x := y / 4294967296) (K := 4294967296) (by decide) (by decide) hc8 (by omega) (by omega) hct (by omega) hcl, rfl⟩
theorem bLen64_nyy (y : Nat) (hy1 : 1 ≤ y) (hy2 : y < 18446744073709551616) (g0 : y < 4294967296) (g1 : 65536 ≤ y) (g2 : 256 ≤ y / 65536) (w : World) :
    Calls Tryz.prog 108 #[.int .u64 ((y : Nat) : Int)] w (fun e w' => ∃ n : Nat, e = .returned (.int .i64 ((n : Nat) : Int)) ∧ IsLen y n ∧ w = w') := by
  obtain ⟨c, hc, hc8, hct, hcl⟩ := ltab_all ⟨y / 65536 / 256, by omega⟩
  have K0 : Keeps Nob w w := Keeps.refl _ _
  refine sy_enter (qc53_2 1) ⟨#[uN y, ud, ud, ud, ud, ud, ud, ud, ud, ud, ud, ud, ud, ud, ud, ud, ud, ud, ud, ud, ud, ud, ud, ud, ud], []⟩ Tryz.func108 (by kernel_rfl) (by kernel_rfl) <| qr_ [0] <| pkq (.int .i64 0) <| eq_ <| qr_ [0, 1] <| pkq (uN y) <| ppq (.bool false) (dcf ((((y : Nat) : Int)) ≥ ((4294967296) : Int)) (by omega)) <| en_ <| s_ <| tq_ <| qr_ [0, 1] <| pkq (uN y) <| ppq (.bool true) (dct ((((y : Nat) : Int)) ≥ ((65536) : Int)) (by omega)) <| ey_ ?_
  refine qr_ [0, 1, 2] <| pkq (uN y) <| ppq (uN (y / 65536)) (exec_cast (congrArg (fun n : Nat => Value.int .u64 (n : Int)) (Nat.shiftRight_eq_div_pow y 16)) (exec_binop .shr 40 169 (.tmp 9) (.const (.int .u64 16)) (by kernel_rfl) (uN y) (uN 16) _ (by kernel_rfl) (by kernel_rfl) (by kernel_rfl) (run_shrU _ _ _ 16 (by omega)))) <| pkq (uN (y / 65536)) <| er_ [0, 1, 2] <| pkq (.int .i64 0) <| pkq (.int .i64 16) <| pkq (.int .i64 16) <| eq_ <| qr_ [0, 1] <| pkq (uN (y / 65536)) <| ppq (.bool true) (dct ((((y / 65536 : Nat) : Int)) ≥ ((256) : Int)) (by omega)) <| ey_ <| qr_ [0, 1, 2] ?_
  refine pkq (uN (y / 65536)) <| ppq (uN (y / 65536 / 256)) (exec_cast (congrArg (fun n : Nat => Value.int .u64 (n : Int)) (Nat.shiftRight_eq_div_pow (y / 65536) 8)) (exec_binop .shr 40 169 (.tmp 15) (.const (.int .u64 8)) (by kernel_rfl) (uN (y / 65536)) (uN 8) _ (by kernel_rfl) (by kernel_rfl) (by kernel_rfl) (run_shrU _ _ _ 8 (by omega)))) <| pkq (uN (y / 65536 / 256)) <| er_ [0, 1, 2] <| pkq (.int .i64 16) <| pkq (.int .i64 24) <| pkq (.int .i64 24) <| eqr_ [0, 1, 2, 3, 4, 5, 6] <| pkq (.int .i64 24) <| pkq (uN (y / 65536 / 256)) <| prq (cN (y / 65536 / 256)) (w' := w) (exec_convert 40 5 (.tmp 20) (by kernel_rfl) _ (by kernel_rfl) (conv_u64_u8 (by omega) _)) <| ppq (cN c.toNat) (exec_index_str 9 (.const (.string ⟨ltab.toArray⟩)) (.tmp 21) (by kernel_rfl) ltab (by kernel_rfl) .u8 (y / 65536 / 256) (by kernel_rfl) Tryz.underlying9 c hc) <| prq (iN c.toNat) (w' := w) (exec_convert 5 3 (.tmp 22) (by kernel_rfl) _ (by kernel_rfl) (conv_u8_int (by omega) _)) <| ppq (iN (24 + c.toNat)) (exec_cast (congrArg (Value.int .i64) (wrapN (24 + c.toNat) (by omega))) (by kernel_rfl)) ?_
  refine pkq (iN (24 + c.toNat)) <| ps_end <| sy_a ⟨#[uN (y / 65536 / 256), ud, iN (24 + c.toNat), uN y, .bool false, ud, ud, uN y, .bool true, uN y, uN (y / 65536), .int .i64 0, .int .i64 16, uN (y / 65536), .bool true, uN (y / 65536), uN (y / 65536 / 256), .int .i64 16, .int .i64 24, .int .i64 24, uN (y / 65536 / 256), cN (y / 65536 / 256), cN c.toNat, iN c.toNat, iN (24 + c.toNat)], []⟩ <| then_n <| u_ <| so_ (.int .i64 ((24 + c.toNat : Nat) : Int)) ?_
  exact ⟨24 + c.toNat, rfl, len_fin (x := y / 65536 / 256) (K := 16777216) (by decide) (by decide) hc8 (by omega) (by omega) hct (by omega) hcl, rfl⟩
theorem bLen64_nyn (y : Nat) (hy1 : 1 ≤ y) (hy2 : y < 18446744073709551616) (g0 : y < 4294967296) (g1 : 65536 ≤ y) (g2 : y / 65536 < 256) (w : World) :
    Calls Tryz.prog 108 #[.int .u64 ((y : Nat) : Int)] w (fun e w' => ∃ n : Nat, e = .returned (.int .i64 ((n : Nat) : Int)) ∧ IsLen y n ∧ w = w') := by
  obtain ⟨c, hc, hc8, hct, hcl⟩ := ltab_all ⟨y / 65536, by omega⟩
  have K0 : Keeps Nob w w := Keeps.refl _ _
  refine sy_enter (qc53_2 1) ⟨#[uN y, ud, ud, ud, ud, ud, ud, ud, ud, ud, ud, ud, ud, ud, ud, ud, ud, ud, ud, ud, ud, ud, ud, ud, ud], []⟩ Tryz.func108 (by kernel_rfl) (by kernel_rfl) <| qr_ [0] <| pkq (.int .i64 0) <| eq_ <| qr_ [0, 1] <| pkq (uN y) <| ppq (.bool false) (dcf ((((y : Nat) : Int)) ≥ ((4294967296) : Int)) (by omega)) <| en_ <| s_ <| tq_ <| qr_ [0, 1] <| pkq (uN y) <| ppq (.bool true) (dct ((((y : Nat) : Int)) ≥ ((65536) : Int)) (by omega)) <| ey_ ?_
  refine qr_ [0, 1, 2] <| pkq (uN y) <| ppq (uN (y / 65536)) (exec_cast (congrArg (fun n : Nat => Value.int .u64 (n : Int)) (Nat.shiftRight_eq_div_pow y 16)) (exec_binop .shr 40 169 (.tmp 9) (.const (.int .u64 16)) (by kernel_rfl) (uN y) (uN 16) _ (by kernel_rfl) (by kernel_rfl) (by kernel_rfl) (run_shrU _ _ _ 16 (by omega)))) <| pkq (uN (y / 65536)) <| er_ [0, 1, 2] <| pkq (.int .i64 0) <| pkq (.int .i64 16) <| pkq (.int .i64 16) <| eq_ <| qr_ [0, 1] <| pkq (uN (y / 65536)) <| ppq (.bool false) (dcf ((((y / 65536 : Nat) : Int)) ≥ ((256) : Int)) (by omega)) <| en_ <| s_ ?_
  refine tqr_ [0, 1, 2, 3, 4, 5, 6] <| pkq (.int .i64 16) <| pkq (uN (y / 65536)) <| prq (cN (y / 65536)) (w' := w) (exec_convert 40 5 (.tmp 20) (by kernel_rfl) _ (by kernel_rfl) (conv_u64_u8 (by omega) _)) <| ppq (cN c.toNat) (exec_index_str 9 (.const (.string ⟨ltab.toArray⟩)) (.tmp 21) (by kernel_rfl) ltab (by kernel_rfl) .u8 (y / 65536) (by kernel_rfl) Tryz.underlying9 c hc) <| prq (iN c.toNat) (w' := w) (exec_convert 5 3 (.tmp 22) (by kernel_rfl) _ (by kernel_rfl) (conv_u8_int (by omega) _)) <| ppq (iN (16 + c.toNat)) (exec_cast (congrArg (Value.int .i64) (wrapN (16 + c.toNat) (by omega))) (by kernel_rfl)) <| pkq (iN (16 + c.toNat)) <| eu_ <| so_ (.int .i64 ((16 + c.toNat : Nat) : Int)) ?_
  exact ⟨16 + c.toNat, rfl, len_fin (x := y / 65536) (K := 65536) (by decide) (by decide) hc8 (by omega) (by omega) hct (by omega) hcl, rfl⟩
theorem bLen64_nny (y : Nat) (hy1 : 1 ≤ y) (hy2 : y < 18446744073709551616) (g0 : y < 4294967296) (g1 : y < 65536) (g2 : 256 ≤ y) (w : World) :
    Calls Tryz.prog 108 #[.int .u64 ((y : Nat) : Int)] w (fun e w' => ∃ n : Nat, e = .returned (.int .i64 ((n : Nat) : Int)) ∧ IsLen y n ∧ w = w') := by
  obtain ⟨c, hc, hc8, hct, hcl⟩ := ltab_all ⟨y / 256, by omega⟩
  have K0 : Keeps Nob w w := Keeps.refl _ _
  refine sy_enter (qc53_2 1) ⟨#[uN y, ud, ud, ud, ud, ud, ud, ud, ud, ud, ud, ud, ud, ud, ud, ud, ud, ud, ud, ud, ud, ud, ud, ud, ud], []⟩ Tryz.func108 (by kernel_rfl) (by kernel_rfl) <| qr_ [0] <| pkq (.int .i64 0) <| eq_ <| qr_ [0, 1] <| pkq (uN y) <| ppq (.bool false) (dcf ((((y : Nat) : Int)) ≥ ((4294967296) : Int)) (by omega)) <| en_ <| s_ <| tq_ <| qr_ [0, 1] <| pkq (uN y) <| ppq (.bool false) (dcf ((((y : Nat) : Int)) ≥ ((65536) : Int)) (by omega)) <| en_ ?_
  refine s_ <| tq_ <| qr_ [0, 1] <| pkq (uN y) <| ppq (.bool true) (dct ((((y : Nat) : Int)) ≥ ((256) : Int)) (by omega)) <| ey_ <| qr_ [0, 1, 2] <| pkq (uN y) <| ppq (uN (y / 256)) (exec_cast (congrArg (fun n : Nat => Value.int .u64 (n : Int)) (Nat.shiftRight_eq_div_pow y 8)) (exec_binop .shr 40 169 (.tmp 15) (.const (.int .u64 8)) (by kernel_rfl) (uN y) (uN 8) _ (by kernel_rfl) (by kernel_rfl) (by kernel_rfl) (run_shrU _ _ _ 8 (by omega)))) <| pkq (uN (y / 256)) <| er_ [0, 1, 2] <| pkq (.int .i64 0) <| pkq (.int .i64 8) <| pkq (.int .i64 8) ?_
  refine eqr_ [0, 1, 2, 3, 4, 5, 6] <| pkq (.int .i64 8) <| pkq (uN (y / 256)) <| prq (cN (y / 256)) (w' := w) (exec_convert 40 5 (.tmp 20) (by kernel_rfl) _ (by kernel_rfl) (conv_u64_u8 (by omega) _)) <| ppq (cN c.toNat) (exec_index_str 9 (.const (.string ⟨ltab.toArray⟩)) (.tmp 21) (by kernel_rfl) ltab (by kernel_rfl) .u8 (y / 256) (by kernel_rfl) Tryz.underlying9 c hc) <| prq (iN c.toNat) (w' := w) (exec_convert 5 3 (.tmp 22) (by kernel_rfl) _ (by kernel_rfl) (conv_u8_int (by omega) _)) <| ppq (iN (8 + c.toNat)) (exec_cast (congrArg (Value.int .i64) (wrapN (8 + c.toNat) (by omega))) (by kernel_rfl)) <| pkq (iN (8 + c.toNat)) <| eu_ <| so_ (.int .i64 ((8 + c.toNat : Nat) : Int)) ?_
  exact ⟨8 + c.toNat, rfl, len_fin (x := y / 256) (K := 256) (by decide) (by decide) hc8 (by omega) (by omega) hct (by omega) hcl, rfl⟩
theorem bLen64_nnn (y : Nat) (hy1 : 1 ≤ y) (hy2 : y < 18446744073709551616) (g0 : y < 4294967296) (g1 : y < 65536) (g2 : y < 256) (w : World) :
    Calls Tryz.prog 108 #[.int .u64 ((y : Nat) : Int)] w (fun e w' => ∃ n : Nat, e = .returned (.int .i64 ((n : Nat) : Int)) ∧ IsLen y n ∧ w = w') := by
  obtain ⟨c, hc, hc8, hct, hcl⟩ := ltab_all ⟨y, by omega⟩
  have K0 : Keeps Nob w w := Keeps.refl _ _
  refine sy_enter (qc53_2 1) ⟨#[uN y, ud, ud, ud, ud, ud, ud, ud, ud, ud, ud, ud, ud, ud, ud, ud, ud, ud, ud, ud, ud, ud, ud, ud, ud], []⟩ Tryz.func108 (by kernel_rfl) (by kernel_rfl) <| qr_ [0] <| pkq (.int .i64 0) <| eq_ <| qr_ [0, 1] <| pkq (uN y) <| ppq (.bool false) (dcf ((((y : Nat) : Int)) ≥ ((4294967296) : Int)) (by omega)) <| en_ <| s_ <| tq_ <| qr_ [0, 1] <| pkq (uN y) <| ppq (.bool false) (dcf ((((y : Nat) : Int)) ≥ ((65536) : Int)) (by omega)) <| en_ ?_
  refine s_ <| tq_ <| qr_ [0, 1] <| pkq (uN y) <| ppq (.bool false) (dcf ((((y : Nat) : Int)) ≥ ((256) : Int)) (by omega)) <| en_ <| s_ <| tqr_ [0, 1, 2, 3, 4, 5, 6] <| pkq (.int .i64 0) <| pkq (uN y) <| prq (cN y) (w' := w) (exec_convert 40 5 (.tmp 20) (by kernel_rfl) _ (by kernel_rfl) (conv_u64_u8 (by omega) _)) <| ppq (cN c.toNat) (exec_index_str 9 (.const (.string ⟨ltab.toArray⟩)) (.tmp 21) (by kernel_rfl) ltab (by kernel_rfl) .u8 (y) (by kernel_rfl) Tryz.underlying9 c hc) <| prq (iN c.toNat) (w' := w) (exec_convert 5 3 (.tmp 22) (by kernel_rfl) _ (by kernel_rfl) (conv_u8_int (by omega) _)) <| ppq (iN (0 + c.toNat)) (exec_cast (congrArg (Value.int .i64) (wrapN (0 + c.toNat) (by omega))) (by kernel_rfl)) ?_
  refine pkq (iN (0 + c.toNat)) <| eu_ <| so_ (.int .i64 ((0 + c.toNat : Nat) : Int)) ?_
  exact ⟨0 + c.toNat, rfl, len_fin (x := y) (K := 1) (by decide) (by decide) hc8 (by omega) (by omega) hct (by omega) hcl, rfl⟩
theorem bLen64_ok (y : Nat) (hy1 : 1 ≤ y) (hy2 : y < 18446744073709551616) (w : World) : Calls Tryz.prog 108 #[.int .u64 ((y : Nat) : Int)] w (fun e w' => ∃ n : Nat, e = .returned (.int .i64 ((n : Nat) : Int)) ∧ IsLen y n ∧ w = w') := by
  by_cases c1 : 4294967296 ≤ y
  · by_cases c2 : 65536 ≤ y / 4294967296
    · by_cases c3 : 256 ≤ y / 4294967296 / 65536
      · exact bLen64_yyy y hy1 hy2 c1 c2 c3 w
      · exact bLen64_yyn y hy1 hy2 c1 c2 (by omega) w
    · by_cases c3 : 256 ≤ y / 4294967296
      · exact bLen64_yny y hy1 hy2 c1 (by omega) c3 w
      · exact bLen64_ynn y hy1 hy2 c1 (by omega) (by omega) w
  · by_cases c2 : 65536 ≤ y
    · by_cases c3 : 256 ≤ y / 65536
      · exact bLen64_nyy y hy1 hy2 (by omega) c2 c3 w
      · exact bLen64_nyn y hy1 hy2 (by omega) c2 (by omega) w
    · by_cases c3 : 256 ≤ y
      · exact bLen64_nny y hy1 hy2 (by omega) (by omega) c3 w
      · exact bLen64_nnn y hy1 hy2 (by omega) (by omega) (by omega) w
noncomputable def qc53_0 (n : Nat) : Code := partOf Tryz.f105 n
theorem bLead64_ok (y : Nat) (hy1 : 1 ≤ y) (hy2 : y < 18446744073709551616) (w : World) :
    Calls Tryz.prog 105 #[.int .u64 ((y : Nat) : Int)] w (fun e w' => ∃ s : Nat, e = .returned (.int .i64 ((s : Nat) : Int)) ∧ s ≤ 63 ∧ 9223372036854775808 ≤ y * 2 ^ s ∧ y * 2 ^ s < 18446744073709551616 ∧ w = w') := by
  have K0 : Keeps Nob w w := Keeps.refl _ _
  refine sy_enter (qc53_0 1) ⟨#[uN y, ud, ud, ud, ud, ud], []⟩ Tryz.func105 (by kernel_rfl) (by kernel_rfl) <| qr_ [0] <| pkq (.int .i64 0) <| eqr_ [0, 1, 2, 3] <| pkq (uN y) ?_
  refine pcq 108 #[uN y] Tryz.func108 ((bLen64_ok y hy1 hy2 _).mono ?_)
  rintro e w1 ⟨n, rfl, hn, rfl⟩
  obtain ⟨s, hs⟩ : ∃ s, s + n = 64 := ⟨64 - n, by have := hn.1; omega⟩
  refine ⟨_, rfl, ?_⟩
  refine ppq (iN s) (exec_cast (congrArg (Value.int .i64) (wrapI (64 - ((n : Nat) : Int)) ((s : Nat) : Int) (by omega) (by omega) (by omega))) (by kernel_rfl)) <| pkq (iN s) <| eu_ <| so_ (.int .i64 ((s : Nat) : Int)) ?_
  exact ⟨s, rfl, (lead_len hn hs).1, (lead_len hn hs).2.1, (lead_len hn hs).2.2, rfl⟩
noncomputable def qc53_1 (n : Nat) : Code := partOf Tryz.f94 n
theorem bDiv64_zero (hi lo y : Nat) (hz : hi = 0) (hy1 : 1 ≤ y) (hlo : lo < 18446744073709551616) (w : World) :
    Calls Tryz.prog 94 #[.int .u64 ((hi : Nat) : Int), .int .u64 ((lo : Nat) : Int), .int .u64 ((y : Nat) : Int)] w (fun e w' => ∃ r : Nat, e = .returned (.tuple #[.int .u64 (((hi * 18446744073709551616 + lo) / y : Nat) : Int), .int .u64 ((r : Nat) : Int)]) ∧ Keeps Nob w w') := by
  have K0 : Keeps Nob w w := Keeps.refl _ _
  refine sy_enter (qc53_1 1) ⟨#[uN hi, uN lo, uN y, ud, ud, ud, ud, ud, ud, ud, ud, ud, ud, ud, ud, ud, ud, ud, ud, ud, ud, ud, ud, ud, ud, ud, ud, ud, ud, ud, ud, ud, ud, ud, ud, ud, ud, ud, ud, ud, ud, ud, ud, ud, ud, ud, ud, ud, ud, ud, ud, ud, ud, ud, ud, ud, ud, ud, ud, ud, ud, ud, ud, ud, ud, ud, ud, ud, ud, ud, ud, ud, ud, ud, ud, ud, ud, ud, ud, ud, ud, ud, ud, ud, ud, ud, ud, ud, ud, ud, ud, ud, ud, ud, ud, ud, ud, ud, ud, ud, ud, ud, ud, ud, ud, ud, ud, ud, ud, ud, ud, ud, ud, ud, ud, ud, ud, ud, ud, ud, ud, ud, ud, ud, ud, ud, ud, ud, ud, ud, ud, ud, ud, ud, ud], []⟩ Tryz.func94 (by kernel_rfl) (by kernel_rfl) <| qr_ [0, 1] <| pkq (.int .u64 0) <| pkq (.int .u64 0) <| eq_ <| qr_ [0, 1] <| pkq (uN y) <| ppq (.bool false) (eqf (((y : Nat) : Int)) ((0) : Int) (by omega)) <| en_ <| s_ <| tq_ <| qr_ [0, 1, 2] <| pkq (uN y) <| pkq (uN hi) ?_
  refine ppq (.bool false) (dcf ((((y : Nat) : Int)) ≤ (((hi : Nat) : Int))) (by omega)) <| en_ <| s_ <| tq_ <| qr_ [0, 1] <| pkq (uN hi) <| ppq (.bool true) (eqt (((hi : Nat) : Int)) ((0) : Int) (by omega)) <| ey_ <| q_ <| sy_np <| sy_reg <| an_begin 6 8 (opsAt (qc53_1 244)) (fun W => True) #[false, false, false, false, false, false, false, false] (by kernel_rfl) (by kernel_rfl) (by kernel_rfl) (by kernel_rfl) ?_
  obtain ⟨V1, eV1, kV1⟩ := drew_step w
  rw [eV1]
  clear eV1
  have K2 := K0.nn kV1
  have z3 := kV1.size
  refine akq 0 (uN lo) trivial <| akq 1 (uN y) trivial <| avq 2 (uN (lo / y)) (fun W hS => exec_quoU 40 40 (.tmp 28) (.tmp 29) (by kernel_rfl) lo y (by kernel_rfl) (by kernel_rfl) hy1 hlo) trivial <| akq 3 (uN lo) trivial <| akq 4 (uN y) trivial <| avq 5 (uN (lo % y)) (fun W hS => exec_remU 40 40 (.tmp 31) (.tmp 32) (by kernel_rfl) lo y (by kernel_rfl) (by kernel_rfl) hy1 hlo) trivial <| an_o 6 <| nrq (uN (lo / y)) (w' := V1) (by kernel_rfl) ?_
  refine ⟨trivial, ?_⟩
  refine an_o 7 <| nrq (uN (lo % y)) (w' := V1) (by kernel_rfl) ?_
  refine ⟨trivial, ?_⟩
  refine an_end (by kernel_rfl) <| then_n <| u_ <| then_r <| so_ (.tuple #[.int .u64 ((lo / y : Nat) : Int), .int .u64 ((lo % y : Nat) : Int)]) ?_
  exact ⟨_, by subst hz; rw [Nat.zero_mul, Nat.zero_add], K2⟩
theorem bDiv64_pos (hi lo y : Nat) (hz : 1 ≤ hi) (hh : hi < y) (hy2 : y < 18446744073709551616) (hlo : lo < 18446744073709551616) (w : World) :
    Calls Tryz.prog 94 #[.int .u64 ((hi : Nat) : Int), .int .u64 ((lo : Nat) : Int), .int .u64 ((y : Nat) : Int)] w (fun e w' => ∃ r : Nat, e = .returned (.tuple #[.int .u64 (((hi * 18446744073709551616 + lo) / y : Nat) : Int), .int .u64 ((r : Nat) : Int)]) ∧ Keeps Nob w w') := by
  have hy1 : 1 ≤ y := by omega
  have K0 : Keeps Nob w w := Keeps.refl _ _
  refine sy_enter (qc53_1 1) ⟨#[uN hi, uN lo, uN y, ud, ud, ud, ud, ud, ud, ud, ud, ud, ud, ud, ud, ud, ud, ud, ud, ud, ud, ud, ud, ud, ud, ud, ud, ud, ud, ud, ud, ud, ud, ud, ud, ud, ud, ud, ud, ud, ud, ud, ud, ud, ud, ud, ud, ud, ud, ud, ud, ud, ud, ud, ud, ud, ud, ud, ud, ud, ud, ud, ud, ud, ud, ud, ud, ud, ud, ud, ud, ud, ud, ud, ud, ud, ud, ud, ud, ud, ud, ud, ud, ud, ud, ud, ud, ud, ud, ud, ud, ud, ud, ud, ud, ud, ud, ud, ud, ud, ud, ud, ud, ud, ud, ud, ud, ud, ud, ud, ud, ud, ud, ud, ud, ud, ud, ud, ud, ud, ud, ud, ud, ud, ud, ud, ud, ud, ud, ud, ud, ud, ud, ud, ud], []⟩ Tryz.func94 (by kernel_rfl) (by kernel_rfl) <| qr_ [0, 1] <| pkq (.int .u64 0) <| pkq (.int .u64 0) <| eq_ <| qr_ [0, 1] <| pkq (uN y) <| ppq (.bool false) (eqf (((y : Nat) : Int)) ((0) : Int) (by omega)) <| en_ <| s_ <| tq_ <| qr_ [0, 1, 2] <| pkq (uN y) <| pkq (uN hi) ?_
  refine ppq (.bool false) (dcf ((((y : Nat) : Int)) ≤ (((hi : Nat) : Int))) (by omega)) <| en_ <| s_ <| tq_ <| qr_ [0, 1] <| pkq (uN hi) <| ppq (.bool false) (eqf (((hi : Nat) : Int)) ((0) : Int) (by omega)) <| en_ <| s_ <| tqr_ [0, 1, 2, 3] <| pkq (uN y) ?_
  refine pcq 105 #[uN y] Tryz.func105 ((bLead64_ok y hy1 hy2 _).mono ?_)
  rintro e w1 ⟨s, rfl, hs63, hYl, hYh, rfl⟩
  obtain ⟨Y, hYe⟩ : ∃ Y, y * 2 ^ s = Y := ⟨_, rfl⟩
  obtain ⟨y1, hy1e⟩ : ∃ z, Y / 4294967296 = z := ⟨_, rfl⟩
  obtain ⟨y0, hy0e⟩ : ∃ z, Y % 4294967296 = z := ⟨_, rfl⟩
  obtain ⟨hsum, hUY⟩ := wide_shift hs63 hlo hh hYh
  rw [hYe] at hYl hYh hUY
  obtain ⟨U, hUe⟩ : ∃ z, ((hi <<< s) % Kec.W ||| lo >>> (64 - s)) = z := ⟨_, rfl⟩
  obtain ⟨L, hLe⟩ : ∃ z, (lo <<< s) % Kec.W = z := ⟨_, rfl⟩
  have hL : L < 18446744073709551616 := hLe ▸ Nat.mod_lt _ Kec.W_pos
  rw [hUe, hLe] at hsum
  rw [hUe] at hUY
  obtain ⟨u1, hu1e⟩ : ∃ z, L / 4294967296 = z := ⟨_, rfl⟩
  obtain ⟨u0, hu0e⟩ : ∃ z, L % 4294967296 = z := ⟨_, rfl⟩
  have hYs : Y = y1 * 4294967296 + y0 := by omega
  have hy0 : y0 < 4294967296 := by omega
  have hy1p : 1 ≤ y1 := by omega
  have hy1l : y1 < 4294967296 := by omega
  have hu1 : u1 < 4294967296 := by omega
  have hu0 : u0 < 4294967296 := by omega
  have hLs : L = u1 * 4294967296 + u0 := by omega
  obtain ⟨Vr, hVr⟩ : ∃ z, (U * 4294967296 + u1) % Y = z := ⟨_, rfl⟩
  have hVY : Vr < Y := hVr ▸ Nat.mod_lt _ (by omega)
  refine ⟨_, rfl, ?_⟩
  refine prq (uN s) (w' := w) (exec_convert 3 169 (.tmp 35) (by kernel_rfl) _ (by kernel_rfl) (conv_int_uint (by omega) _)) <| pkq (uN s) <| eqr_ [0, 1, 2, 3] <| pkq (uN y) <| pkq (uN s) <| ppq (uN Y) (exec_cast (congrArg (fun n : Nat => Value.int .u64 (n : Int)) (show (y <<< s) % Kec.W = Y by rw [Nat.shiftLeft_eq, hYe]; exact Nat.mod_eq_of_lt hYh)) (exec_binop .shl 40 169 (.tmp 37) (.tmp 38) (by kernel_rfl) (uN y) (uN s) _ (by kernel_rfl) (by kernel_rfl) (by kernel_rfl) (run_shlU _ _ y s (by omega)))) <| pkq (uN Y) <| eqr_ [0, 1, 2] <| pkq (uN Y) <| ppq (uN y1) (exec_cast (congrArg (fun n : Nat => Value.int .u64 (n : Int)) (show Y >>> 32 = y1 by rw [Nat.shiftRight_eq_div_pow]; exact hy1e)) (exec_binop .shr 40 169 (.tmp 40) (.const (.int .u64 32)) (by kernel_rfl) (uN Y) (uN 32) _ (by kernel_rfl) (by kernel_rfl) (by kernel_rfl) (run_shrU _ _ Y 32 (by omega)))) <| pkq (uN y1) <| eqr_ [0, 1, 2] <| pkq (uN Y) <| ppq (uN y0) (exec_cast ((andU Y 4294967295 (show Y < Kec.W from hYh) (by decide)).trans (congrArg (fun n : Nat => Value.int .u64 (n : Int)) (show Y &&& 4294967295 = y0 from (Nat.and_two_pow_sub_one_eq_mod Y 32).trans hy0e))) (by kernel_rfl)) ?_
  refine pkq (uN y0) <| eqr_ [0, 1, 2, 3, 4, 5, 6, 7, 8] <| pkq (uN hi) <| pkq (uN s) <| ppq (uN ((hi <<< s) % Kec.W)) (exec_binop .shl 40 169 (.tmp 44) (.tmp 45) (by kernel_rfl) (uN hi) (uN s) _ (by kernel_rfl) (by kernel_rfl) (by kernel_rfl) (run_shlU _ _ hi s (by omega))) <| pkq (uN lo) <| pkq (uN s) <| ppq (uN (64 - s)) (exec_cast (congrArg (Value.int .u64) (show IntKind.u64.wrap (64 - ((s : Nat) : Int)) = ((64 - s : Nat) : Int) by rw [IntKind.wrap_u64]; omega)) (by kernel_rfl)) <| ppq (uN (lo >>> (64 - s))) (exec_binop .shr 40 169 (.tmp 47) (.tmp 49) (by kernel_rfl) (uN lo) (uN ((64 - s))) _ (by kernel_rfl) (by kernel_rfl) (by kernel_rfl) (run_shrU _ _ lo ((64 - s)) (by omega))) <| ppq (uN U) (exec_cast ((orU ((hi <<< s) % Kec.W) (lo >>> (64 - s)) (Nat.mod_lt _ Kec.W_pos) (Kec.shr_lt hlo _)).trans (congrArg (fun n : Nat => Value.int .u64 (n : Int)) hUe)) (by kernel_rfl)) <| pkq (uN U) <| ps_end <| sy_a ⟨#[uN hi, uN lo, uN Y, ud, ud, ud, .int .u64 0, .int .u64 0, uN s, uN y1, uN y0, uN U, ud, ud, ud, ud, ud, ud, ud, uN y, .bool false, ud, uN y, uN hi, .bool false, ud, uN hi, .bool false, ud, ud, ud, ud, ud, ud, uN y, iN s, uN s, uN y, uN s, uN Y, uN Y, uN y1, uN Y, uN y0, uN hi, uN s, uN ((hi <<< s) % Kec.W), uN lo, uN s, uN (64 - s), uN (lo >>> (64 - s)), uN U, ud, ud, ud, ud, ud, ud, ud, ud, ud, ud, ud, ud, ud, ud, ud, ud, ud, ud, ud, ud, ud, ud, ud, ud, ud, ud, ud, ud, ud, ud, ud, ud, ud, ud, ud, ud, ud, ud, ud, ud, ud, ud, ud, ud, ud, ud, ud, ud, ud, ud, ud, ud, ud, ud, ud, ud, ud, ud, ud, ud, ud, ud, ud, ud, ud, ud, ud, ud, ud, ud, ud, ud, ud, ud, ud, ud, ud, ud, ud, ud, ud, ud, ud], []⟩ <| tqr_ [0, 1, 2, 3] ?_
  refine pkq (uN lo) <| pkq (uN s) <| ppq (uN L) (exec_cast (congrArg (fun n : Nat => Value.int .u64 (n : Int)) hLe) (exec_binop .shl 40 169 (.tmp 52) (.tmp 53) (by kernel_rfl) (uN lo) (uN s) _ (by kernel_rfl) (by kernel_rfl) (by kernel_rfl) (run_shlU _ _ lo s (by omega)))) <| pkq (uN L) <| eqr_ [0, 1, 2] <| pkq (uN L) <| ppq (uN u1) (exec_cast (congrArg (fun n : Nat => Value.int .u64 (n : Int)) (show L >>> 32 = u1 by rw [Nat.shiftRight_eq_div_pow]; exact hu1e)) (exec_binop .shr 40 169 (.tmp 55) (.const (.int .u64 32)) (by kernel_rfl) (uN L) (uN 32) _ (by kernel_rfl) (by kernel_rfl) (by kernel_rfl) (run_shrU _ _ L 32 (by omega)))) <| pkq (uN u1) <| eqr_ [0, 1, 2] <| pkq (uN L) <| ppq (uN u0) (exec_cast ((andU L 4294967295 (show L < Kec.W from hL) (by decide)).trans (congrArg (fun n : Nat => Value.int .u64 (n : Int)) (show L &&& 4294967295 = u0 from (Nat.and_two_pow_sub_one_eq_mod L 32).trans hu0e))) (by kernel_rfl)) <| pkq (uN u0) <| eqr_ [0, 1, 2, 3] <| pkq (uN U) ?_
  refine pkq (uN y1) <| ppq (uN (U / y1)) (exec_quoU 40 40 (.tmp 59) (.tmp 60) (by kernel_rfl) U y1 (by kernel_rfl) (by kernel_rfl) hy1p (by omega)) <| pkq (uN (U / y1)) <| eqr_ [0, 1, 2, 3, 4, 5] <| pkq (uN U) <| pkq (uN (U / y1)) <| pkq (uN y1) <| ppq (uN (U / y1 * y1)) (exec_cast (congrArg (Value.int .u64) (wrapU (U / y1 * y1) (by have := Nat.div_mul_le_self U y1; omega))) (by kernel_rfl)) <| ppq (uN (U - U / y1 * y1)) (exec_cast (congrArg (Value.int .u64) (wrap_sub U (U / y1 * y1) (Nat.div_mul_le_self U y1) (by omega))) (by kernel_rfl)) <| pkq (uN (U - U / y1 * y1)) <| eq_ <| bl_ 0 ?_
  refine sy_loop (qc53_1 262136) (fun a V => ∃ (qA : Nat) (rA : Nat) (u67 u68 u69 u70 u71 u72 u73 u74 u75 u76 u77 u78 u79 u80 u81 u82 u83 u84 u85 : Value), (a = ⟨#[uN hi, uN lo, uN Y, ud, ud, ud, .int .u64 0, .int .u64 0, uN s, uN y1, uN y0, uN U, uN L, uN u1, uN u0, uN qA, uN rA, ud, ud, uN y, .bool false, ud, uN y, uN hi, .bool false, ud, uN hi, .bool false, ud, ud, ud, ud, ud, ud, uN y, iN s, uN s, uN y, uN s, uN Y, uN Y, uN y1, uN Y, uN y0, uN hi, uN s, uN ((hi <<< s) % Kec.W), uN lo, uN s, uN (64 - s), uN (lo >>> (64 - s)), uN U, uN lo, uN s, uN L, uN L, uN u1, uN L, uN u0, uN U, uN y1, uN (U / y1), uN U, uN (U / y1), uN y1, uN (U / y1 * y1), uN (U - U / y1 * y1), u67, u68, u69, u70, u71, u72, u73, u74, u75, u76, u77, u78, u79, u80, u81, u82, u83, u84, u85, ud, ud, ud, ud, ud, ud, ud, ud, ud, ud, ud, ud, ud, ud, ud, ud, ud, ud, ud, ud, ud, ud, ud, ud, ud, ud, ud, ud, ud, ud, ud, ud, ud, ud, ud, ud, ud, ud, ud, ud, ud, ud, ud, ud, ud, ud, ud, ud, ud], []⟩) ∧ (Dig U Y y1 u1 qA rA) ∧ (qA < 18446744073709551616) ∧ (rA < 4294967296) ∧ (Keeps Nob w V)) (fun a _ => (intOf (a.tmps.getD 15 undef)).toNat) (by kernel_rfl) ?_ ?_
  · exact ⟨U / y1, U - U / y1 * y1, undef, undef, undef, undef, undef, undef, undef, undef, undef, undef, undef, undef, undef, undef, undef, undef, undef, undef, undef, by kernel_rfl, dig_init hYs hy0 hy1p hu1 hUY, by have := Nat.div_le_self U y1; omega, rem_small hy1p hy1l, K0⟩
  · rintro a V1 ⟨qA, rA, u67, u68, u69, u70, u71, u72, u73, u74, u75, u76, u77, u78, u79, u80, u81, u82, u83, u84, u85, rfl, hd, hql, hr, K2⟩
    rcases dig_cases qA rA y0 y1 u1 with ⟨hq, hr2⟩ | ⟨hq, hr2⟩ | ⟨hq, hc, hr2⟩ | ⟨hq, hc, hr2⟩ | ⟨hq, hc⟩
    · obtain ⟨qp, hdn⟩ := dig_step hYs hy0 hy1p hu1 hUY hd (.inl hq)
      refine q_ <| qr_ [0, 1, 2, 3, 4, 5, 6, 7, 8, 9, 10, 11] <| pkq (uN qA) <| ppq (.bool true) (dct ((((qA : Nat) : Int)) ≥ ((4294967296) : Int)) (by omega)) <| pkq (.bool true) <| pnq <| pnq <| pnq <| pnq <| pnq <| pnq <| pnq <| pnq <| pkq (.bool true) ?_
      refine ey_ <| s_ <| then_n <| bl_ 1 <| qr_ [0, 1, 2] <| pkq (uN qA) <| ppq (uN (qA - 1)) (exec_cast (congrArg (Value.int .u64) (wrap_sub qA 1 qp (by omega))) (by kernel_rfl)) <| pkq (uN (qA - 1)) <| eqr_ [0, 1, 2, 3] <| pkq (uN rA) <| pkq (uN y1) <| ppq (uN (rA + y1)) (exec_cast (congrArg (Value.int .u64) (wrapU (rA + y1) (by omega))) (by kernel_rfl)) <| pkq (uN (rA + y1)) <| eqr_ [0, 1] ?_
      refine pkq (uN (rA + y1)) <| ppq (.bool false) (dcf ((((rA + y1 : Nat) : Int)) ≥ ((4294967296) : Int)) (by omega)) <| en_ <| s_ <| blk_n <| then_n ?_
      refine ⟨⟨qA - 1, rA + y1, (uN qA), (.bool true), (.bool true), undef, undef, undef, undef, undef, undef, undef, undef, (.bool true), (uN qA), (uN (qA - 1)), (uN rA), (uN y1), (uN (rA + y1)), (uN (rA + y1)), (.bool false), by kernel_rfl, hdn, by omega, by omega, K2⟩, ?_⟩
      exact lt_meas (x := qA - 1) (y := qA) (by kernel_rfl) (by kernel_rfl) (by omega)
    · obtain ⟨qp, hdn⟩ := dig_step hYs hy0 hy1p hu1 hUY hd (.inl hq)
      have hxA : qA - 1 = (U * 4294967296 + u1) / Y := dig_done hYs hy0 hy1p hu1 hUY hdn (.inr hr2)
      refine q_ <| qr_ [0, 1, 2, 3, 4, 5, 6, 7, 8, 9, 10, 11] <| pkq (uN qA) <| ppq (.bool true) (dct ((((qA : Nat) : Int)) ≥ ((4294967296) : Int)) (by omega)) <| pkq (.bool true) <| pnq <| pnq <| pnq <| pnq <| pnq <| pnq <| pnq <| pnq <| pkq (.bool true) ?_
      refine ey_ <| s_ <| then_n <| bl_ 1 <| qr_ [0, 1, 2] <| pkq (uN qA) <| ppq (uN (qA - 1)) (exec_cast (congrArg (Value.int .u64) (wrap_sub qA 1 qp (by omega))) (by kernel_rfl)) <| pkq (uN (qA - 1)) <| eqr_ [0, 1, 2, 3] <| pkq (uN rA) <| pkq (uN y1) <| ppq (uN (rA + y1)) (exec_cast (congrArg (Value.int .u64) (wrapU (rA + y1) (by omega))) (by kernel_rfl)) <| pkq (uN (rA + y1)) <| eqr_ [0, 1] ?_
      refine pkq (uN (rA + y1)) <| ppq (.bool true) (dct ((((rA + y1 : Nat) : Int)) ≥ ((4294967296) : Int)) (by omega)) <| ey_ <| sy_exit 0 (by kernel_rfl) <| blk_p (by decide) <| then_e <| blk_e <| tqr_ [0, 1, 2, 3, 4, 5, 6, 7, 8] <| pkq (uN U) <| pkq (.int .u64 (IntKind.u64.wrap (((U : Nat) : Int) * 4294967296))) <| pkq (uN u1) <| pkq (.int .u64 (IntKind.u64.wrap (IntKind.u64.wrap (((U : Nat) : Int) * 4294967296) + ((u1 : Nat) : Int)))) <| pkq (uN (qA - 1)) <| pkq (uN Y) ?_
      refine pkq (.int .u64 (IntKind.u64.wrap (((qA - 1 : Nat) : Int) * ((Y : Nat) : Int)))) <| ppq (uN Vr) (exec_cast (congrArg (Value.int .u64) (((dig_rest hYs hy0 hy1p hu1 hUY hxA).resolve_right (by omega)).trans (congrArg (fun n : Nat => (n : Int)) hVr))) (by kernel_rfl)) <| pkq (uN Vr) <| ps_end <| sy_a ⟨#[uN hi, uN lo, uN Y, ud, ud, ud, .int .u64 0, .int .u64 0, uN s, uN y1, uN y0, uN U, uN L, uN u1, uN u0, uN (qA - 1), uN (rA + y1), uN Vr, ud, uN y, .bool false, ud, uN y, uN hi, .bool false, ud, uN hi, .bool false, ud, ud, ud, ud, ud, ud, uN y, iN s, uN s, uN y, uN s, uN Y, uN Y, uN y1, uN Y, uN y0, uN hi, uN s, uN ((hi <<< s) % Kec.W), uN lo, uN s, uN (64 - s), uN (lo >>> (64 - s)), uN U, uN lo, uN s, uN L, uN L, uN u1, uN L, uN u0, uN U, uN y1, uN (U / y1), uN U, uN (U / y1), uN y1, uN (U / y1 * y1), uN (U - U / y1 * y1), uN qA, .bool true, .bool true, ud, ud, ud, ud, ud, ud, ud, ud, .bool true, uN qA, uN (qA - 1), uN rA, uN y1, uN (rA + y1), uN (rA + y1), .bool true, uN U, .int .u64 (IntKind.u64.wrap (((U : Nat) : Int) * 4294967296)), uN u1, .int .u64 (IntKind.u64.wrap (IntKind.u64.wrap (((U : Nat) : Int) * 4294967296) + ((u1 : Nat) : Int))), uN (qA - 1), uN Y, .int .u64 (IntKind.u64.wrap (((qA - 1 : Nat) : Int) * ((Y : Nat) : Int))), uN Vr, ud, ud, ud, ud, ud, ud, ud, ud, ud, ud, ud, ud, ud, ud, ud, ud, ud, ud, ud, ud, ud, ud, ud, ud, ud, ud, ud, ud, ud, ud, ud, ud, ud, ud, ud, ud, ud, ud, ud, ud, ud], []⟩ <| tqr_ [0, 1, 2, 3] <| pkq (uN Vr) <| pkq (uN y1) <| ppq (uN (Vr / y1)) (exec_quoU 40 40 (.tmp 94) (.tmp 95) (by kernel_rfl) Vr y1 (by kernel_rfl) (by kernel_rfl) hy1p (by omega)) <| pkq (uN (Vr / y1)) <| eqr_ [0, 1, 2, 3, 4, 5] <| pkq (uN Vr) <| pkq (uN (Vr / y1)) <| pkq (uN y1) ?_
      refine ppq (uN (Vr / y1 * y1)) (exec_cast (congrArg (Value.int .u64) (wrapU (Vr / y1 * y1) (by have := Nat.div_mul_le_self Vr y1; omega))) (by kernel_rfl)) <| ppq (uN (Vr - Vr / y1 * y1)) (exec_cast (congrArg (Value.int .u64) (wrap_sub Vr (Vr / y1 * y1) (Nat.div_mul_le_self Vr y1) (by omega))) (by kernel_rfl)) <| pkq (uN (Vr - Vr / y1 * y1)) <| eq_ <| bl_ 2 ?_
      refine sy_loop (qc53_1 4194296) (fun a V => ∃ (qB : Nat) (rB : Nat) (u102 u103 u104 u105 u106 u107 u108 u109 u110 u111 u112 u113 u114 u115 u116 u117 u118 u119 u120 : Value), (a = ⟨#[uN hi, uN lo, uN Y, ud, ud, ud, .int .u64 0, .int .u64 0, uN s, uN y1, uN y0, uN U, uN L, uN u1, uN u0, uN (qA - 1), uN rB, uN Vr, uN qB, uN y, .bool false, ud, uN y, uN hi, .bool false, ud, uN hi, .bool false, ud, ud, ud, ud, ud, ud, uN y, iN s, uN s, uN y, uN s, uN Y, uN Y, uN y1, uN Y, uN y0, uN hi, uN s, uN ((hi <<< s) % Kec.W), uN lo, uN s, uN (64 - s), uN (lo >>> (64 - s)), uN U, uN lo, uN s, uN L, uN L, uN u1, uN L, uN u0, uN U, uN y1, uN (U / y1), uN U, uN (U / y1), uN y1, uN (U / y1 * y1), uN (U - U / y1 * y1), uN qA, .bool true, .bool true, ud, ud, ud, ud, ud, ud, ud, ud, .bool true, uN qA, uN (qA - 1), uN rA, uN y1, uN (rA + y1), uN (rA + y1), .bool true, uN U, .int .u64 (IntKind.u64.wrap (((U : Nat) : Int) * 4294967296)), uN u1, .int .u64 (IntKind.u64.wrap (IntKind.u64.wrap (((U : Nat) : Int) * 4294967296) + ((u1 : Nat) : Int))), uN (qA - 1), uN Y, .int .u64 (IntKind.u64.wrap (((qA - 1 : Nat) : Int) * ((Y : Nat) : Int))), uN Vr, uN Vr, uN y1, uN (Vr / y1), uN Vr, uN (Vr / y1), uN y1, uN (Vr / y1 * y1), uN (Vr - Vr / y1 * y1), u102, u103, u104, u105, u106, u107, u108, u109, u110, u111, u112, u113, u114, u115, u116, u117, u118, u119, u120, ud, ud, ud, ud, ud, ud, ud, ud, ud, ud, ud, ud, ud, ud], []⟩) ∧ (Dig Vr Y y1 u0 qB rB) ∧ (qB < 18446744073709551616) ∧ (rB < 4294967296) ∧ (Keeps Nob w V)) (fun a _ => (intOf (a.tmps.getD 18 undef)).toNat) (by kernel_rfl) ?_ ?_
      · exact ⟨Vr / y1, Vr - Vr / y1 * y1, undef, undef, undef, undef, undef, undef, undef, undef, undef, undef, undef, undef, undef, undef, undef, undef, undef, undef, undef, by kernel_rfl, dig_init hYs hy0 hy1p hu0 hVY, by have := Nat.div_le_self Vr y1; omega, rem_small hy1p hy1l, K2⟩
      · rintro a V3 ⟨qB, rB, u102, u103, u104, u105, u106, u107, u108, u109, u110, u111, u112, u113, u114, u115, u116, u117, u118, u119, u120, rfl, hd, hql, hr, K4⟩
        rcases dig_cases qB rB y0 y1 u0 with ⟨hq, hr2⟩ | ⟨hq, hr2⟩ | ⟨hq, hc, hr2⟩ | ⟨hq, hc, hr2⟩ | ⟨hq, hc⟩
        · obtain ⟨qp, hdn⟩ := dig_step hYs hy0 hy1p hu0 hVY hd (.inl hq)
          refine q_ <| qr_ [0, 1, 2, 3, 4, 5, 6, 7, 8, 9, 10, 11] <| pkq (uN qB) <| ppq (.bool true) (dct ((((qB : Nat) : Int)) ≥ ((4294967296) : Int)) (by omega)) <| pkq (.bool true) <| pnq <| pnq <| pnq <| pnq <| pnq <| pnq <| pnq <| pnq <| pkq (.bool true) ?_
          refine ey_ <| s_ <| then_n <| bl_ 3 <| qr_ [0, 1, 2] <| pkq (uN qB) <| ppq (uN (qB - 1)) (exec_cast (congrArg (Value.int .u64) (wrap_sub qB 1 qp (by omega))) (by kernel_rfl)) <| pkq (uN (qB - 1)) <| eqr_ [0, 1, 2, 3] <| pkq (uN rB) <| pkq (uN y1) <| ppq (uN (rB + y1)) (exec_cast (congrArg (Value.int .u64) (wrapU (rB + y1) (by omega))) (by kernel_rfl)) <| pkq (uN (rB + y1)) <| eqr_ [0, 1] ?_
          refine pkq (uN (rB + y1)) <| ppq (.bool false) (dcf ((((rB + y1 : Nat) : Int)) ≥ ((4294967296) : Int)) (by omega)) <| en_ <| s_ <| blk_n <| then_n ?_
          refine ⟨⟨qB - 1, rB + y1, (uN qB), (.bool true), (.bool true), undef, undef, undef, undef, undef, undef, undef, undef, (.bool true), (uN qB), (uN (qB - 1)), (uN rB), (uN y1), (uN (rB + y1)), (uN (rB + y1)), (.bool false), by kernel_rfl, hdn, by omega, by omega, K4⟩, ?_⟩
          exact lt_meas (x := qB - 1) (y := qB) (by kernel_rfl) (by kernel_rfl) (by omega)
        · obtain ⟨qp, hdn⟩ := dig_step hYs hy0 hy1p hu0 hVY hd (.inl hq)
          have hxB : qB - 1 = (Vr * 4294967296 + u0) / Y := dig_done hYs hy0 hy1p hu0 hVY hdn (.inr hr2)
          refine q_ <| qr_ [0, 1, 2, 3, 4, 5, 6, 7, 8, 9, 10, 11] <| pkq (uN qB) <| ppq (.bool true) (dct ((((qB : Nat) : Int)) ≥ ((4294967296) : Int)) (by omega)) <| pkq (.bool true) <| pnq <| pnq <| pnq <| pnq <| pnq <| pnq <| pnq <| pnq <| pkq (.bool true) ?_
          refine ey_ <| s_ <| then_n <| bl_ 3 <| qr_ [0, 1, 2] <| pkq (uN qB) <| ppq (uN (qB - 1)) (exec_cast (congrArg (Value.int .u64) (wrap_sub qB 1 qp (by omega))) (by kernel_rfl)) <| pkq (uN (qB - 1)) <| eqr_ [0, 1, 2, 3] <| pkq (uN rB) <| pkq (uN y1) <| ppq (uN (rB + y1)) (exec_cast (congrArg (Value.int .u64) (wrapU (rB + y1) (by omega))) (by kernel_rfl)) <| pkq (uN (rB + y1)) <| eqr_ [0, 1] ?_
          refine pkq (uN (rB + y1)) <| ppq (.bool true) (dct ((((rB + y1 : Nat) : Int)) ≥ ((4294967296) : Int)) (by omega)) <| ey_ <| sy_exit 2 (by kernel_rfl) <| blk_p (by decide) <| then_e <| blk_e <| tqr_ [0, 1, 2, 3, 4, 5, 6, 7, 8, 9, 10, 11, 12, 13, 14, 15] <| pkq (uN (qA - 1)) <| ppq (uN ((qA - 1) * 4294967296)) (exec_cast (congrArg (Value.int .u64) (wrapU ((qA - 1) * 4294967296) (by have := dig_lt hYs hy0 hy1p hu1 hUY; rw [← hxA] at this; omega))) (by kernel_rfl)) <| pkq (uN (qB - 1)) <| ppq (uN ((hi * 18446744073709551616 + lo) / y)) (exec_cast (congrArg (Value.int .u64) ((wrapU ((qA - 1) * 4294967296 + (qB - 1)) (by have g1 := dig_lt hYs hy0 hy1p hu1 hUY; have g2 := dig_lt hYs hy0 hy1p hu0 hVY; rw [← hxA] at g1; rw [← hxB] at g2; omega)).trans (congrArg (fun n : Nat => (n : Int)) (div_end hy1 hYe hsum hLs hxA hVr hxB)))) (by kernel_rfl)) <| pkq (uN Vr) <| pkq (.int .u64 (IntKind.u64.wrap (((Vr : Nat) : Int) * 4294967296))) ?_
          refine pkq (uN u0) <| pkq (.int .u64 (IntKind.u64.wrap (IntKind.u64.wrap (((Vr : Nat) : Int) * 4294967296) + ((u0 : Nat) : Int)))) <| pkq (uN (qB - 1)) <| pkq (uN Y) <| pkq (.int .u64 (IntKind.u64.wrap (((qB - 1 : Nat) : Int) * ((Y : Nat) : Int)))) <| ppq (uN ((Vr * 4294967296 + u0) % Y)) (exec_cast (congrArg (Value.int .u64) ((dig_rest hYs hy0 hy1p hu0 hVY hxB).resolve_right (by omega))) (by kernel_rfl)) <| pkq (uN s) <| ppq (uN (((Vr * 4294967296 + u0) % Y) >>> s)) (exec_binop .shr 40 169 (.tmp 132) (.tmp 133) (by kernel_rfl) (uN (((Vr * 4294967296 + u0) % Y))) (uN s) _ (by kernel_rfl) (by kernel_rfl) (by kernel_rfl) (run_shrU _ _ ((Vr * 4294967296 + u0) % Y) s (by omega))) <| pkq (uN ((hi * 18446744073709551616 + lo) / y)) <| pkq (uN (((Vr * 4294967296 + u0) % Y) >>> s)) <| ps_end <| sy_a ⟨#[uN hi, uN lo, uN Y, ud, ud, ud, uN ((hi * 18446744073709551616 + lo) / y), uN (((Vr * 4294967296 + u0) % Y) >>> s), uN s, uN y1, uN y0, uN U, uN L, uN u1, uN u0, uN (qA - 1), uN (rB + y1), uN Vr, uN (qB - 1), uN y, .bool false, ud, uN y, uN hi, .bool false, ud, uN hi, .bool false, ud, ud, ud, ud, ud, ud, uN y, iN s, uN s, uN y, uN s, uN Y, uN Y, uN y1, uN Y, uN y0, uN hi, uN s, uN ((hi <<< s) % Kec.W), uN lo, uN s, uN (64 - s), uN (lo >>> (64 - s)), uN U, uN lo, uN s, uN L, uN L, uN u1, uN L, uN u0, uN U, uN y1, uN (U / y1), uN U, uN (U / y1), uN y1, uN (U / y1 * y1), uN (U - U / y1 * y1), uN qA, .bool true, .bool true, ud, ud, ud, ud, ud, ud, ud, ud, .bool true, uN qA, uN (qA - 1), uN rA, uN y1, uN (rA + y1), uN (rA + y1), .bool true, uN U, .int .u64 (IntKind.u64.wrap (((U : Nat) : Int) * 4294967296)), uN u1, .int .u64 (IntKind.u64.wrap (IntKind.u64.wrap (((U : Nat) : Int) * 4294967296) + ((u1 : Nat) : Int))), uN (qA - 1), uN Y, .int .u64 (IntKind.u64.wrap (((qA - 1 : Nat) : Int) * ((Y : Nat) : Int))), uN Vr, uN Vr, uN y1, uN (Vr / y1), uN Vr, uN (Vr / y1), uN y1, uN (Vr / y1 * y1), uN (Vr - Vr / y1 * y1), uN qB, .bool true, .bool true, ud, ud, ud, ud, ud, ud, ud, ud, .bool true, uN qB, uN (qB - 1), uN rB, uN y1, uN (rB + y1), uN (rB + y1), .bool true, uN (qA - 1), uN ((qA - 1) * 4294967296), uN (qB - 1), uN ((hi * 18446744073709551616 + lo) / y), uN Vr, .int .u64 (IntKind.u64.wrap (((Vr : Nat) : Int) * 4294967296)), uN u0, .int .u64 (IntKind.u64.wrap (IntKind.u64.wrap (((Vr : Nat) : Int) * 4294967296) + ((u0 : Nat) : Int))), uN (qB - 1), uN Y, .int .u64 (IntKind.u64.wrap (((qB - 1 : Nat) : Int) * ((Y : Nat) : Int))), uN ((Vr * 4294967296 + u0) % Y), uN s, uN (((Vr * 4294967296 + u0) % Y) >>> s)], []⟩ <| then_n <| u_ ?_
          refine so_ (.tuple #[.int .u64 (((hi * 18446744073709551616 + lo) / y : Nat) : Int), .int .u64 ((((Vr * 4294967296 + u0) % Y) >>> s : Nat) : Int)]) ?_
          exact ⟨_, rfl, K4⟩
        · obtain ⟨qp, hdn⟩ := dig_step hYs hy0 hy1p hu0 hVY hd (.inr hc)
          refine q_ <| qr_ [0, 1, 2, 3, 4, 5, 6, 7, 8, 9, 10, 11] <| pkq (uN qB) <| ppq (.bool false) (dcf ((((qB : Nat) : Int)) ≥ ((4294967296) : Int)) (by omega)) <| pkq (.bool false) <| pkq (uN qB) <| pkq (uN y0) <| ppq (uN (qB * y0)) (exec_cast (congrArg (Value.int .u64) (wrapU (qB * y0) (mul_small hq hy0))) (by kernel_rfl)) <| pkq (uN rB) <| ppq (uN (4294967296 * rB)) (exec_cast (congrArg (Value.int .u64) (wrapU (4294967296 * rB) (by omega))) (by kernel_rfl)) <| pkq (uN u0) <| ppq (uN (4294967296 * rB + u0)) (exec_cast (congrArg (Value.int .u64) (wrapU (4294967296 * rB + u0) (by omega))) (by kernel_rfl)) <| ppq (.bool true) (dct ((((qB * y0 : Nat) : Int)) > (((4294967296 * rB + u0 : Nat) : Int))) (by omega)) <| pkq (.bool true) ?_
          refine ey_ <| s_ <| then_n <| bl_ 3 <| qr_ [0, 1, 2] <| pkq (uN qB) <| ppq (uN (qB - 1)) (exec_cast (congrArg (Value.int .u64) (wrap_sub qB 1 qp (by omega))) (by kernel_rfl)) <| pkq (uN (qB - 1)) <| eqr_ [0, 1, 2, 3] <| pkq (uN rB) <| pkq (uN y1) <| ppq (uN (rB + y1)) (exec_cast (congrArg (Value.int .u64) (wrapU (rB + y1) (by omega))) (by kernel_rfl)) <| pkq (uN (rB + y1)) <| eqr_ [0, 1] ?_
          refine pkq (uN (rB + y1)) <| ppq (.bool false) (dcf ((((rB + y1 : Nat) : Int)) ≥ ((4294967296) : Int)) (by omega)) <| en_ <| s_ <| blk_n <| then_n ?_
          refine ⟨⟨qB - 1, rB + y1, (uN qB), (.bool false), (.bool false), (uN qB), (uN y0), (uN (qB * y0)), (uN rB), (uN (4294967296 * rB)), (uN u0), (uN (4294967296 * rB + u0)), (.bool true), (.bool true), (uN qB), (uN (qB - 1)), (uN rB), (uN y1), (uN (rB + y1)), (uN (rB + y1)), (.bool false), by kernel_rfl, hdn, by omega, by omega, K4⟩, ?_⟩
          exact lt_meas (x := qB - 1) (y := qB) (by kernel_rfl) (by kernel_rfl) (by omega)
        · obtain ⟨qp, hdn⟩ := dig_step hYs hy0 hy1p hu0 hVY hd (.inr hc)
          have hxB : qB - 1 = (Vr * 4294967296 + u0) / Y := dig_done hYs hy0 hy1p hu0 hVY hdn (.inr hr2)
          refine q_ <| qr_ [0, 1, 2, 3, 4, 5, 6, 7, 8, 9, 10, 11] <| pkq (uN qB) <| ppq (.bool false) (dcf ((((qB : Nat) : Int)) ≥ ((4294967296) : Int)) (by omega)) <| pkq (.bool false) <| pkq (uN qB) <| pkq (uN y0) <| ppq (uN (qB * y0)) (exec_cast (congrArg (Value.int .u64) (wrapU (qB * y0) (mul_small hq hy0))) (by kernel_rfl)) <| pkq (uN rB) <| ppq (uN (4294967296 * rB)) (exec_cast (congrArg (Value.int .u64) (wrapU (4294967296 * rB) (by omega))) (by kernel_rfl)) <| pkq (uN u0) <| ppq (uN (4294967296 * rB + u0)) (exec_cast (congrArg (Value.int .u64) (wrapU (4294967296 * rB + u0) (by omega))) (by kernel_rfl)) <| ppq (.bool true) (dct ((((qB * y0 : Nat) : Int)) > (((4294967296 * rB + u0 : Nat) : Int))) (by omega)) <| pkq (.bool true) ?_
          refine ey_ <| s_ <| then_n <| bl_ 3 <| qr_ [0, 1, 2] <| pkq (uN qB) <| ppq (uN (qB - 1)) (exec_cast (congrArg (Value.int .u64) (wrap_sub qB 1 qp (by omega))) (by kernel_rfl)) <| pkq (uN (qB - 1)) <| eqr_ [0, 1, 2, 3] <| pkq (uN rB) <| pkq (uN y1) <| ppq (uN (rB + y1)) (exec_cast (congrArg (Value.int .u64) (wrapU (rB + y1) (by omega))) (by kernel_rfl)) <| pkq (uN (rB + y1)) <| eqr_ [0, 1] ?_
          refine pkq (uN (rB + y1)) <| ppq (.bool true) (dct ((((rB + y1 : Nat) : Int)) ≥ ((4294967296) : Int)) (by omega)) <| ey_ <| sy_exit 2 (by kernel_rfl) <| blk_p (by decide) <| then_e <| blk_e <| tqr_ [0, 1, 2, 3, 4, 5, 6, 7, 8, 9, 10, 11, 12, 13, 14, 15] <| pkq (uN (qA - 1)) <| ppq (uN ((qA - 1) * 4294967296)) (exec_cast (congrArg (Value.int .u64) (wrapU ((qA - 1) * 4294967296) (by have := dig_lt hYs hy0 hy1p hu1 hUY; rw [← hxA] at this; omega))) (by kernel_rfl)) <| pkq (uN (qB - 1)) <| ppq (uN ((hi * 18446744073709551616 + lo) / y)) (exec_cast (congrArg (Value.int .u64) ((wrapU ((qA - 1) * 4294967296 + (qB - 1)) (by have g1 := dig_lt hYs hy0 hy1p hu1 hUY; have g2 := dig_lt hYs hy0 hy1p hu0 hVY; rw [← hxA] at g1; rw [← hxB] at g2; omega)).trans (congrArg (fun n : Nat => (n : Int)) (div_end hy1 hYe hsum hLs hxA hVr hxB)))) (by kernel_rfl)) <| pkq (uN Vr) <| pkq (.int .u64 (IntKind.u64.wrap (((Vr : Nat) : Int) * 4294967296))) ?_
          refine pkq (uN u0) <| pkq (.int .u64 (IntKind.u64.wrap (IntKind.u64.wrap (((Vr : Nat) : Int) * 4294967296) + ((u0 : Nat) : Int)))) <| pkq (uN (qB - 1)) <| pkq (uN Y) <| pkq (.int .u64 (IntKind.u64.wrap (((qB - 1 : Nat) : Int) * ((Y : Nat) : Int)))) <| ppq (uN ((Vr * 4294967296 + u0) % Y)) (exec_cast (congrArg (Value.int .u64) ((dig_rest hYs hy0 hy1p hu0 hVY hxB).resolve_right (by omega))) (by kernel_rfl)) <| pkq (uN s) <| ppq (uN (((Vr * 4294967296 + u0) % Y) >>> s)) (exec_binop .shr 40 169 (.tmp 132) (.tmp 133) (by kernel_rfl) (uN (((Vr * 4294967296 + u0) % Y))) (uN s) _ (by kernel_rfl) (by kernel_rfl) (by kernel_rfl) (run_shrU _ _ ((Vr * 4294967296 + u0) % Y) s (by omega))) <| pkq (uN ((hi * 18446744073709551616 + lo) / y)) <| pkq (uN (((Vr * 4294967296 + u0) % Y) >>> s)) <| ps_end <| sy_a ⟨#[uN hi, uN lo, uN Y, ud, ud, ud, uN ((hi * 18446744073709551616 + lo) / y), uN (((Vr * 4294967296 + u0) % Y) >>> s), uN s, uN y1, uN y0, uN U, uN L, uN u1, uN u0, uN (qA - 1), uN (rB + y1), uN Vr, uN (qB - 1), uN y, .bool false, ud, uN y, uN hi, .bool false, ud, uN hi, .bool false, ud, ud, ud, ud, ud, ud, uN y, iN s, uN s, uN y, uN s, uN Y, uN Y, uN y1, uN Y, uN y0, uN hi, uN s, uN ((hi <<< s) % Kec.W), uN lo, uN s, uN (64 - s), uN (lo >>> (64 - s)), uN U, uN lo, uN s, uN L, uN L, uN u1, uN L, uN u0, uN U, uN y1, uN (U / y1), uN U, uN (U / y1), uN y1, uN (U / y1 * y1), uN (U - U / y1 * y1), uN qA, .bool true, .bool true, ud, ud, ud, ud, ud, ud, ud, ud, .bool true, uN qA, uN (qA - 1), uN rA, uN y1, uN (rA + y1), uN (rA + y1), .bool true, uN U, .int .u64 (IntKind.u64.wrap (((U : Nat) : Int) * 4294967296)), uN u1, .int .u64 (IntKind.u64.wrap (IntKind.u64.wrap (((U : Nat) : Int) * 4294967296) + ((u1 : Nat) : Int))), uN (qA - 1), uN Y, .int .u64 (IntKind.u64.wrap (((qA - 1 : Nat) : Int) * ((Y : Nat) : Int))), uN Vr, uN Vr, uN y1, uN (Vr / y1), uN Vr, uN (Vr / y1), uN y1, uN (Vr / y1 * y1), uN (Vr - Vr / y1 * y1), uN qB, .bool false, .bool false, uN qB, uN y0, uN (qB * y0), uN rB, uN (4294967296 * rB), uN u0, uN (4294967296 * rB + u0), .bool true, .bool true, uN qB, uN (qB - 1), uN rB, uN y1, uN (rB + y1), uN (rB + y1), .bool true, uN (qA - 1), uN ((qA - 1) * 4294967296), uN (qB - 1), uN ((hi * 18446744073709551616 + lo) / y), uN Vr, .int .u64 (IntKind.u64.wrap (((Vr : Nat) : Int) * 4294967296)), uN u0, .int .u64 (IntKind.u64.wrap (IntKind.u64.wrap (((Vr : Nat) : Int) * 4294967296) + ((u0 : Nat) : Int))), uN (qB - 1), uN Y, .int .u64 (IntKind.u64.wrap (((qB - 1 : Nat) : Int) * ((Y : Nat) : Int))), uN ((Vr * 4294967296 + u0) % Y), uN s, uN (((Vr * 4294967296 + u0) % Y) >>> s)], []⟩ <| then_n <| u_ ?_
          refine so_ (.tuple #[.int .u64 (((hi * 18446744073709551616 + lo) / y : Nat) : Int), .int .u64 ((((Vr * 4294967296 + u0) % Y) >>> s : Nat) : Int)]) ?_
          exact ⟨_, rfl, K4⟩
        · have hxB : qB = (Vr * 4294967296 + u0) / Y := dig_done hYs hy0 hy1p hu0 hVY hd (.inl ⟨hq, hc⟩)
          refine q_ <| qr_ [0, 1, 2, 3, 4, 5, 6, 7, 8, 9, 10, 11] <| pkq (uN qB) <| ppq (.bool false) (dcf ((((qB : Nat) : Int)) ≥ ((4294967296) : Int)) (by omega)) <| pkq (.bool false) <| pkq (uN qB) <| pkq (uN y0) <| ppq (uN (qB * y0)) (exec_cast (congrArg (Value.int .u64) (wrapU (qB * y0) (mul_small hq hy0))) (by kernel_rfl)) <| pkq (uN rB) <| ppq (uN (4294967296 * rB)) (exec_cast (congrArg (Value.int .u64) (wrapU (4294967296 * rB) (by omega))) (by kernel_rfl)) <| pkq (uN u0) <| ppq (uN (4294967296 * rB + u0)) (exec_cast (congrArg (Value.int .u64) (wrapU (4294967296 * rB + u0) (by omega))) (by kernel_rfl)) <| ppq (.bool false) (dcf ((((qB * y0 : Nat) : Int)) > (((4294967296 * rB + u0 : Nat) : Int))) (by omega)) <| pkq (.bool false) ?_
          refine en_ <| sy_exit 2 (by kernel_rfl) <| then_e <| then_e <| blk_e <| tqr_ [0, 1, 2, 3, 4, 5, 6, 7, 8, 9, 10, 11, 12, 13, 14, 15] <| pkq (uN (qA - 1)) <| ppq (uN ((qA - 1) * 4294967296)) (exec_cast (congrArg (Value.int .u64) (wrapU ((qA - 1) * 4294967296) (by have := dig_lt hYs hy0 hy1p hu1 hUY; rw [← hxA] at this; omega))) (by kernel_rfl)) <| pkq (uN qB) <| ppq (uN ((hi * 18446744073709551616 + lo) / y)) (exec_cast (congrArg (Value.int .u64) ((wrapU ((qA - 1) * 4294967296 + qB) (by have g1 := dig_lt hYs hy0 hy1p hu1 hUY; have g2 := dig_lt hYs hy0 hy1p hu0 hVY; rw [← hxA] at g1; rw [← hxB] at g2; omega)).trans (congrArg (fun n : Nat => (n : Int)) (div_end hy1 hYe hsum hLs hxA hVr hxB)))) (by kernel_rfl)) <| pkq (uN Vr) <| pkq (.int .u64 (IntKind.u64.wrap (((Vr : Nat) : Int) * 4294967296))) <| pkq (uN u0) <| pkq (.int .u64 (IntKind.u64.wrap (IntKind.u64.wrap (((Vr : Nat) : Int) * 4294967296) + ((u0 : Nat) : Int)))) ?_
          refine pkq (uN qB) <| pkq (uN Y) <| pkq (.int .u64 (IntKind.u64.wrap (((qB : Nat) : Int) * ((Y : Nat) : Int)))) <| ppq (uN ((Vr * 4294967296 + u0) % Y)) (exec_cast (congrArg (Value.int .u64) ((dig_rest hYs hy0 hy1p hu0 hVY hxB).resolve_right (by omega))) (by kernel_rfl)) <| pkq (uN s) <| ppq (uN (((Vr * 4294967296 + u0) % Y) >>> s)) (exec_binop .shr 40 169 (.tmp 132) (.tmp 133) (by kernel_rfl) (uN (((Vr * 4294967296 + u0) % Y))) (uN s) _ (by kernel_rfl) (by kernel_rfl) (by kernel_rfl) (run_shrU _ _ ((Vr * 4294967296 + u0) % Y) s (by omega))) <| pkq (uN ((hi * 18446744073709551616 + lo) / y)) <| pkq (uN (((Vr * 4294967296 + u0) % Y) >>> s)) <| ps_end <| sy_a ⟨#[uN hi, uN lo, uN Y, ud, ud, ud, uN ((hi * 18446744073709551616 + lo) / y), uN (((Vr * 4294967296 + u0) % Y) >>> s), uN s, uN y1, uN y0, uN U, uN L, uN u1, uN u0, uN (qA - 1), uN rB, uN Vr, uN qB, uN y, .bool false, ud, uN y, uN hi, .bool false, ud, uN hi, .bool false, ud, ud, ud, ud, ud, ud, uN y, iN s, uN s, uN y, uN s, uN Y, uN Y, uN y1, uN Y, uN y0, uN hi, uN s, uN ((hi <<< s) % Kec.W), uN lo, uN s, uN (64 - s), uN (lo >>> (64 - s)), uN U, uN lo, uN s, uN L, uN L, uN u1, uN L, uN u0, uN U, uN y1, uN (U / y1), uN U, uN (U / y1), uN y1, uN (U / y1 * y1), uN (U - U / y1 * y1), uN qA, .bool true, .bool true, ud, ud, ud, ud, ud, ud, ud, ud, .bool true, uN qA, uN (qA - 1), uN rA, uN y1, uN (rA + y1), uN (rA + y1), .bool true, uN U, .int .u64 (IntKind.u64.wrap (((U : Nat) : Int) * 4294967296)), uN u1, .int .u64 (IntKind.u64.wrap (IntKind.u64.wrap (((U : Nat) : Int) * 4294967296) + ((u1 : Nat) : Int))), uN (qA - 1), uN Y, .int .u64 (IntKind.u64.wrap (((qA - 1 : Nat) : Int) * ((Y : Nat) : Int))), uN Vr, uN Vr, uN y1, uN (Vr / y1), uN Vr, uN (Vr / y1), uN y1, uN (Vr / y1 * y1), uN (Vr - Vr / y1 * y1), uN qB, .bool false, .bool false, uN qB, uN y0, uN (qB * y0), uN rB, uN (4294967296 * rB), uN u0, uN (4294967296 * rB + u0), .bool false, .bool false, u114, u115, u116, u117, u118, u119, u120, uN (qA - 1), uN ((qA - 1) * 4294967296), uN qB, uN ((hi * 18446744073709551616 + lo) / y), uN Vr, .int .u64 (IntKind.u64.wrap (((Vr : Nat) : Int) * 4294967296)), uN u0, .int .u64 (IntKind.u64.wrap (IntKind.u64.wrap (((Vr : Nat) : Int) * 4294967296) + ((u0 : Nat) : Int))), uN qB, uN Y, .int .u64 (IntKind.u64.wrap (((qB : Nat) : Int) * ((Y : Nat) : Int))), uN ((Vr * 4294967296 + u0) % Y), uN s, uN (((Vr * 4294967296 + u0) % Y) >>> s)], []⟩ <| then_n <| u_ <| so_ (.tuple #[.int .u64 (((hi * 18446744073709551616 + lo) / y : Nat) : Int), .int .u64 ((((Vr * 4294967296 + u0) % Y) >>> s : Nat) : Int)]) ?_
          exact ⟨_, rfl, K4⟩
    · obtain ⟨qp, hdn⟩ := dig_step hYs hy0 hy1p hu1 hUY hd (.inr hc)
      refine q_ <| qr_ [0, 1, 2, 3, 4, 5, 6, 7, 8, 9, 10, 11] <| pkq (uN qA) <| ppq (.bool false) (dcf ((((qA : Nat) : Int)) ≥ ((4294967296) : Int)) (by omega)) <| pkq (.bool false) <| pkq (uN qA) <| pkq (uN y0) <| ppq (uN (qA * y0)) (exec_cast (congrArg (Value.int .u64) (wrapU (qA * y0) (mul_small hq hy0))) (by kernel_rfl)) <| pkq (uN rA) <| ppq (uN (4294967296 * rA)) (exec_cast (congrArg (Value.int .u64) (wrapU (4294967296 * rA) (by omega))) (by kernel_rfl)) <| pkq (uN u1) <| ppq (uN (4294967296 * rA + u1)) (exec_cast (congrArg (Value.int .u64) (wrapU (4294967296 * rA + u1) (by omega))) (by kernel_rfl)) <| ppq (.bool true) (dct ((((qA * y0 : Nat) : Int)) > (((4294967296 * rA + u1 : Nat) : Int))) (by omega)) <| pkq (.bool true) ?_
      refine ey_ <| s_ <| then_n <| bl_ 1 <| qr_ [0, 1, 2] <| pkq (uN qA) <| ppq (uN (qA - 1)) (exec_cast (congrArg (Value.int .u64) (wrap_sub qA 1 qp (by omega))) (by kernel_rfl)) <| pkq (uN (qA - 1)) <| eqr_ [0, 1, 2, 3] <| pkq (uN rA) <| pkq (uN y1) <| ppq (uN (rA + y1)) (exec_cast (congrArg (Value.int .u64) (wrapU (rA + y1) (by omega))) (by kernel_rfl)) <| pkq (uN (rA + y1)) <| eqr_ [0, 1] ?_
      refine pkq (uN (rA + y1)) <| ppq (.bool false) (dcf ((((rA + y1 : Nat) : Int)) ≥ ((4294967296) : Int)) (by omega)) <| en_ <| s_ <| blk_n <| then_n ?_
      refine ⟨⟨qA - 1, rA + y1, (uN qA), (.bool false), (.bool false), (uN qA), (uN y0), (uN (qA * y0)), (uN rA), (uN (4294967296 * rA)), (uN u1), (uN (4294967296 * rA + u1)), (.bool true), (.bool true), (uN qA), (uN (qA - 1)), (uN rA), (uN y1), (uN (rA + y1)), (uN (rA + y1)), (.bool false), by kernel_rfl, hdn, by omega, by omega, K2⟩, ?_⟩
      exact lt_meas (x := qA - 1) (y := qA) (by kernel_rfl) (by kernel_rfl) (by omega)
    · obtain ⟨qp, hdn⟩ := dig_step hYs hy0 hy1p hu1 hUY hd (.inr hc)
      have hxA : qA - 1 = (U * 4294967296 + u1) / Y := dig_done hYs hy0 hy1p hu1 hUY hdn (.inr hr2)
      refine q_ <| qr_ [0, 1, 2, 3, 4, 5, 6, 7, 8, 9, 10, 11] <| pkq (uN qA) <| ppq (.bool false) (dcf ((((qA : Nat) : Int)) ≥ ((4294967296) : Int)) (by omega)) <| pkq (.bool false) <| pkq (uN qA) <| pkq (uN y0) <| ppq (uN (qA * y0)) (exec_cast (congrArg (Value.int .u64) (wrapU (qA * y0) (mul_small hq hy0))) (by kernel_rfl)) <| pkq (uN rA) <| ppq (uN (4294967296 * rA)) (exec_cast (congrArg (Value.int .u64) (wrapU (4294967296 * rA) (by omega))) (by kernel_rfl)) <| pkq (uN u1) <| ppq (uN (4294967296 * rA + u1)) (exec_cast (congrArg (Value.int .u64) (wrapU (4294967296 * rA + u1) (by omega))) (by kernel_rfl)) <| ppq (.bool true) (dct ((((qA * y0 : Nat) : Int)) > (((4294967296 * rA + u1 : Nat) : Int))) (by omega)) <| pkq (.bool true) ?_
      refine ey_ <| s_ <| then_n <| bl_ 1 <| qr_ [0, 1, 2] <| pkq (uN qA) <| ppq (uN (qA - 1)) (exec_cast (congrArg (Value.int .u64) (wrap_sub qA 1 qp (by omega))) (by kernel_rfl)) <| pkq (uN (qA - 1)) <| eqr_ [0, 1, 2, 3] <| pkq (uN rA) <| pkq (uN y1) <| ppq (uN (rA + y1)) (exec_cast (congrArg (Value.int .u64) (wrapU (rA + y1) (by omega))) (by kernel_rfl)) <| pkq (uN (rA + y1)) <| eqr_ [0, 1] ?_
      refine pkq (uN (rA + y1)) <| ppq (.bool true) (dct ((((rA + y1 : Nat) : Int)) ≥ ((4294967296) : Int)) (by omega)) <| ey_ <| sy_exit 0 (by kernel_rfl) <| blk_p (by decide) <| then_e <| blk_e <| tqr_ [0, 1, 2, 3, 4, 5, 6, 7, 8] <| pkq (uN U) <| pkq (.int .u64 (IntKind.u64.wrap (((U : Nat) : Int) * 4294967296))) <| pkq (uN u1) <| pkq (.int .u64 (IntKind.u64.wrap (IntKind.u64.wrap (((U : Nat) : Int) * 4294967296) + ((u1 : Nat) : Int)))) <| pkq (uN (qA - 1)) <| pkq (uN Y) ?_
      refine pkq (.int .u64 (IntKind.u64.wrap (((qA - 1 : Nat) : Int) * ((Y : Nat) : Int)))) <| ppq (uN Vr) (exec_cast (congrArg (Value.int .u64) (((dig_rest hYs hy0 hy1p hu1 hUY hxA).resolve_right (by omega)).trans (congrArg (fun n : Nat => (n : Int)) hVr))) (by kernel_rfl)) <| pkq (uN Vr) <| ps_end <| sy_a ⟨#[uN hi, uN lo, uN Y, ud, ud, ud, .int .u64 0, .int .u64 0, uN s, uN y1, uN y0, uN U, uN L, uN u1, uN u0, uN (qA - 1), uN (rA + y1), uN Vr, ud, uN y, .bool false, ud, uN y, uN hi, .bool false, ud, uN hi, .bool false, ud, ud, ud, ud, ud, ud, uN y, iN s, uN s, uN y, uN s, uN Y, uN Y, uN y1, uN Y, uN y0, uN hi, uN s, uN ((hi <<< s) % Kec.W), uN lo, uN s, uN (64 - s), uN (lo >>> (64 - s)), uN U, uN lo, uN s, uN L, uN L, uN u1, uN L, uN u0, uN U, uN y1, uN (U / y1), uN U, uN (U / y1), uN y1, uN (U / y1 * y1), uN (U - U / y1 * y1), uN qA, .bool false, .bool false, uN qA, uN y0, uN (qA * y0), uN rA, uN (4294967296 * rA), uN u1, uN (4294967296 * rA + u1), .bool true, .bool true, uN qA, uN (qA - 1), uN rA, uN y1, uN (rA + y1), uN (rA + y1), .bool true, uN U, .int .u64 (IntKind.u64.wrap (((U : Nat) : Int) * 4294967296)), uN u1, .int .u64 (IntKind.u64.wrap (IntKind.u64.wrap (((U : Nat) : Int) * 4294967296) + ((u1 : Nat) : Int))), uN (qA - 1), uN Y, .int .u64 (IntKind.u64.wrap (((qA - 1 : Nat) : Int) * ((Y : Nat) : Int))), uN Vr, ud, ud, ud, ud, ud, ud, ud, ud, ud, ud, ud, ud, ud, ud, ud, ud, ud, ud, ud, ud, ud, ud, ud, ud, ud, ud, ud, ud, ud, ud, ud, ud, ud, ud, ud, ud, ud, ud, ud, ud, ud], []⟩ <| tqr_ [0, 1, 2, 3] <| pkq (uN Vr) <| pkq (uN y1) <| ppq (uN (Vr / y1)) (exec_quoU 40 40 (.tmp 94) (.tmp 95) (by kernel_rfl) Vr y1 (by kernel_rfl) (by kernel_rfl) hy1p (by omega)) <| pkq (uN (Vr / y1)) <| eqr_ [0, 1, 2, 3, 4, 5] <| pkq (uN Vr) <| pkq (uN (Vr / y1)) <| pkq (uN y1) ?_
      refine ppq (uN (Vr / y1 * y1)) (exec_cast (congrArg (Value.int .u64) (wrapU (Vr / y1 * y1) (by have := Nat.div_mul_le_self Vr y1; omega))) (by kernel_rfl)) <| ppq (uN (Vr - Vr / y1 * y1)) (exec_cast (congrArg (Value.int .u64) (wrap_sub Vr (Vr / y1 * y1) (Nat.div_mul_le_self Vr y1) (by omega))) (by kernel_rfl)) <| pkq (uN (Vr - Vr / y1 * y1)) <| eq_ <| bl_ 2 ?_
      refine sy_loop (qc53_1 4194296) (fun a V => ∃ (qB : Nat) (rB : Nat) (u102 u103 u104 u105 u106 u107 u108 u109 u110 u111 u112 u113 u114 u115 u116 u117 u118 u119 u120 : Value), (a = ⟨#[uN hi, uN lo, uN Y, ud, ud, ud, .int .u64 0, .int .u64 0, uN s, uN y1, uN y0, uN U, uN L, uN u1, uN u0, uN (qA - 1), uN rB, uN Vr, uN qB, uN y, .bool false, ud, uN y, uN hi, .bool false, ud, uN hi, .bool false, ud, ud, ud, ud, ud, ud, uN y, iN s, uN s, uN y, uN s, uN Y, uN Y, uN y1, uN Y, uN y0, uN hi, uN s, uN ((hi <<< s) % Kec.W), uN lo, uN s, uN (64 - s), uN (lo >>> (64 - s)), uN U, uN lo, uN s, uN L, uN L, uN u1, uN L, uN u0, uN U, uN y1, uN (U / y1), uN U, uN (U / y1), uN y1, uN (U / y1 * y1), uN (U - U / y1 * y1), uN qA, .bool false, .bool false, uN qA, uN y0, uN (qA * y0), uN rA, uN (4294967296 * rA), uN u1, uN (4294967296 * rA + u1), .bool true, .bool true, uN qA, uN (qA - 1), uN rA, uN y1, uN (rA + y1), uN (rA + y1), .bool true, uN U, .int .u64 (IntKind.u64.wrap (((U : Nat) : Int) * 4294967296)), uN u1, .int .u64 (IntKind.u64.wrap (IntKind.u64.wrap (((U : Nat) : Int) * 4294967296) + ((u1 : Nat) : Int))), uN (qA - 1), uN Y, .int .u64 (IntKind.u64.wrap (((qA - 1 : Nat) : Int) * ((Y : Nat) : Int))), uN Vr, uN Vr, uN y1, uN (Vr / y1), uN Vr, uN (Vr / y1), uN y1, uN (Vr / y1 * y1), uN (Vr - Vr / y1 * y1), u102, u103, u104, u105, u106, u107, u108, u109, u110, u111, u112, u113, u114, u115, u116, u117, u118, u119, u120, ud, ud, ud, ud, ud, ud, ud, ud, ud, ud, ud, ud, ud, ud], []⟩) ∧ (Dig Vr Y y1 u0 qB rB) ∧ (qB < 18446744073709551616) ∧ (rB < 4294967296) ∧ (Keeps Nob w V)) (fun a _ => (intOf (a.tmps.getD 18 undef)).toNat) (by kernel_rfl) ?_ ?_
      · exact ⟨Vr / y1, Vr - Vr / y1 * y1, undef, undef, undef, undef, undef, undef, undef, undef, undef, undef, undef, undef, undef, undef, undef, undef, undef, undef, undef, by kernel_rfl, dig_init hYs hy0 hy1p hu0 hVY, by have := Nat.div_le_self Vr y1; omega, rem_small hy1p hy1l, K2⟩
      · rintro a V5 ⟨qB, rB, u102, u103, u104, u105, u106, u107, u108, u109, u110, u111, u112, u113, u114, u115, u116, u117, u118, u119, u120, rfl, hd, hql, hr, K6⟩
        rcases dig_cases qB rB y0 y1 u0 with ⟨hq, hr2⟩ | ⟨hq, hr2⟩ | ⟨hq, hc, hr2⟩ | ⟨hq, hc, hr2⟩ | ⟨hq, hc⟩
        · obtain ⟨qp, hdn⟩ := dig_step hYs hy0 hy1p hu0 hVY hd (.inl hq)
          refine q_ <| qr_ [0, 1, 2, 3, 4, 5, 6, 7, 8, 9, 10, 11] <| pkq (uN qB) <| ppq (.bool true) (dct ((((qB : Nat) : Int)) ≥ ((4294967296) : Int)) (by omega)) <| pkq (.bool true) <| pnq <| pnq <| pnq <| pnq <| pnq <| pnq <| pnq <| pnq <| pkq (.bool true) ?_
          refine ey_ <| s_ <| then_n <| bl_ 3 <| qr_ [0, 1, 2] <| pkq (uN qB) <| ppq (uN (qB - 1)) (exec_cast (congrArg (Value.int .u64) (wrap_sub qB 1 qp (by omega))) (by kernel_rfl)) <| pkq (uN (qB - 1)) <| eqr_ [0, 1, 2, 3] <| pkq (uN rB) <| pkq (uN y1) <| ppq (uN (rB + y1)) (exec_cast (congrArg (Value.int .u64) (wrapU (rB + y1) (by omega))) (by kernel_rfl)) <| pkq (uN (rB + y1)) <| eqr_ [0, 1] ?_
          refine pkq (uN (rB + y1)) <| ppq (.bool false) (dcf ((((rB + y1 : Nat) : Int)) ≥ ((4294967296) : Int)) (by omega)) <| en_ <| s_ <| blk_n <| then_n ?_
          refine ⟨⟨qB - 1, rB + y1, (uN qB), (.bool true), (.bool true), undef, undef, undef, undef, undef, undef, undef, undef, (.bool true), (uN qB), (uN (qB - 1)), (uN rB), (uN y1), (uN (rB + y1)), (uN (rB + y1)), (.bool false), by kernel_rfl, hdn, by omega, by omega, K6⟩, ?_⟩
          exact lt_meas (x := qB - 1) (y := qB) (by kernel_rfl) (by kernel_rfl) (by omega)
        · obtain ⟨qp, hdn⟩ := dig_step hYs hy0 hy1p hu0 hVY hd (.inl hq)
          have hxB : qB - 1 = (Vr * 4294967296 + u0) / Y := dig_done hYs hy0 hy1p hu0 hVY hdn (.inr hr2)
          refine q_ <| qr_ [0, 1, 2, 3, 4, 5, 6, 7, 8, 9, 10, 11] <| pkq (uN qB) <| ppq (.bool true) (dct ((((qB : Nat) : Int)) ≥ ((4294967296) : Int)) (by omega)) <| pkq (.bool true) <| pnq <| pnq <| pnq <| pnq <| pnq <| pnq <| pnq <| pnq <| pkq (.bool true) ?_
          refine ey_ <| s_ <| then_n <| bl_ 3 <| qr_ [0, 1, 2] <| pkq (uN qB) <| ppq (uN (qB - 1)) (exec_cast (congrArg (Value.int .u64) (wrap_sub qB 1 qp (by omega))) (by kernel_rfl)) <| pkq (uN (qB - 1)) <| eqr_ [0, 1, 2, 3] <| pkq (uN rB) <| pkq (uN y1) <| ppq (uN (rB + y1)) (exec_cast (congrArg (Value.int .u64) (wrapU (rB + y1) (by omega))) (by kernel_rfl)) <| pkq (uN (rB + y1)) <| eqr_ [0, 1] ?_
          refine pkq (uN (rB + y1)) <| ppq (.bool true) (dct ((((rB + y1 : Nat) : Int)) ≥ ((4294967296) : Int)) (by omega)) <| ey_ <| sy_exit 2 (by kernel_rfl) <| blk_p (by decide) <| then_e <| blk_e <| tqr_ [0, 1, 2, 3, 4, 5, 6, 7, 8, 9, 10, 11, 12, 13, 14, 15] <| pkq (uN (qA - 1)) <| ppq (uN ((qA - 1) * 4294967296)) (exec_cast (congrArg (Value.int .u64) (wrapU ((qA - 1) * 4294967296) (by have := dig_lt hYs hy0 hy1p hu1 hUY; rw [← hxA] at this; omega))) (by kernel_rfl)) <| pkq (uN (qB - 1)) <| ppq (uN ((hi * 18446744073709551616 + lo) / y)) (exec_cast (congrArg (Value.int .u64) ((wrapU ((qA - 1) * 4294967296 + (qB - 1)) (by have g1 := dig_lt hYs hy0 hy1p hu1 hUY; have g2 := dig_lt hYs hy0 hy1p hu0 hVY; rw [← hxA] at g1; rw [← hxB] at g2; omega)).trans (congrArg (fun n : Nat => (n : Int)) (div_end hy1 hYe hsum hLs hxA hVr hxB)))) (by kernel_rfl)) <| pkq (uN Vr) <| pkq (.int .u64 (IntKind.u64.wrap (((Vr : Nat) : Int) * 4294967296))) ?_
          refine pkq (uN u0) <| pkq (.int .u64 (IntKind.u64.wrap (IntKind.u64.wrap (((Vr : Nat) : Int) * 4294967296) + ((u0 : Nat) : Int)))) <| pkq (uN (qB - 1)) <| pkq (uN Y) <| pkq (.int .u64 (IntKind.u64.wrap (((qB - 1 : Nat) : Int) * ((Y : Nat) : Int)))) <| ppq (uN ((Vr * 4294967296 + u0) % Y)) (exec_cast (congrArg (Value.int .u64) ((dig_rest hYs hy0 hy1p hu0 hVY hxB).resolve_right (by omega))) (by kernel_rfl)) <| pkq (uN s) <| ppq (uN (((Vr * 4294967296 + u0) % Y) >>> s)) (exec_binop .shr 40 169 (.tmp 132) (.tmp 133) (by kernel_rfl) (uN (((Vr * 4294967296 + u0) % Y))) (uN s) _ (by kernel_rfl) (by kernel_rfl) (by kernel_rfl) (run_shrU _ _ ((Vr * 4294967296 + u0) % Y) s (by omega))) <| pkq (uN ((hi * 18446744073709551616 + lo) / y)) <| pkq (uN (((Vr * 4294967296 + u0) % Y) >>> s)) <| ps_end <| sy_a ⟨#[uN hi, uN lo, uN Y, ud, ud, ud, uN ((hi * 18446744073709551616 + lo) / y), uN (((Vr * 4294967296 + u0) % Y) >>> s), uN s, uN y1, uN y0, uN U, uN L, uN u1, uN u0, uN (qA - 1), uN (rB + y1), uN Vr, uN (qB - 1), uN y, .bool false, ud, uN y, uN hi, .bool false, ud, uN hi, .bool false, ud, ud, ud, ud, ud, ud, uN y, iN s, uN s, uN y, uN s, uN Y, uN Y, uN y1, uN Y, uN y0, uN hi, uN s, uN ((hi <<< s) % Kec.W), uN lo, uN s, uN (64 - s), uN (lo >>> (64 - s)), uN U, uN lo, uN s, uN L, uN L, uN u1, uN L, uN u0, uN U, uN y1, uN (U / y1), uN U, uN (U / y1), uN y1, uN (U / y1 * y1), uN (U - U / y1 * y1), uN qA, .bool false, .bool false, uN qA, uN y0, uN (qA * y0), uN rA, uN (4294967296 * rA), uN u1, uN (4294967296 * rA + u1), .bool true, .bool true, uN qA, uN (qA - 1), uN rA, uN y1, uN (rA + y1), uN (rA + y1), .bool true, uN U, .int .u64 (IntKind.u64.wrap (((U : Nat) : Int) * 4294967296)), uN u1, .int .u64 (IntKind.u64.wrap (IntKind.u64.wrap (((U : Nat) : Int) * 4294967296) + ((u1 : Nat) : Int))), uN (qA - 1), uN Y, .int .u64 (IntKind.u64.wrap (((qA - 1 : Nat) : Int) * ((Y : Nat) : Int))), uN Vr, uN Vr, uN y1, uN (Vr / y1), uN Vr, uN (Vr / y1), uN y1, uN (Vr / y1 * y1), uN (Vr - Vr / y1 * y1), uN qB, .bool true, .bool true, ud, ud, ud, ud, ud, ud, ud, ud, .bool true, uN qB, uN (qB - 1), uN rB, uN y1, uN (rB + y1), uN (rB + y1), .bool true, uN (qA - 1), uN ((qA - 1) * 4294967296), uN (qB - 1), uN ((hi * 18446744073709551616 + lo) / y), uN Vr, .int .u64 (IntKind.u64.wrap (((Vr : Nat) : Int) * 4294967296)), uN u0, .int .u64 (IntKind.u64.wrap (IntKind.u64.wrap (((Vr : Nat) : Int) * 4294967296) + ((u0 : Nat) : Int))), uN (qB - 1), uN Y, .int .u64 (IntKind.u64.wrap (((qB - 1 : Nat) : Int) * ((Y : Nat) : Int))), uN ((Vr * 4294967296 + u0) % Y), uN s, uN (((Vr * 4294967296 + u0) % Y) >>> s)], []⟩ <| then_n <| u_ ?_
          refine so_ (.tuple #[.int .u64 (((hi * 18446744073709551616 + lo) / y : Nat) : Int), .int .u64 ((((Vr * 4294967296 + u0) % Y) >>> s : Nat) : Int)]) ?_
          exact ⟨_, rfl, K6⟩
        · obtain ⟨qp, hdn⟩ := dig_step hYs hy0 hy1p hu0 hVY hd (.inr hc)
          refine q_ <| qr_ [0, 1, 2, 3, 4, 5, 6, 7, 8, 9, 10, 11] <| pkq (uN qB) <| ppq (.bool false) (dcf ((((qB : Nat) : Int)) ≥ ((4294967296) : Int)) (by omega)) <| pkq (.bool false) <| pkq (uN qB) <| pkq (uN y0) <| ppq (uN (qB * y0)) (exec_cast (congrArg (Value.int .u64) (wrapU (qB * y0) (mul_small hq hy0))) (by kernel_rfl)) <| pkq (uN rB) <| ppq (uN (4294967296 * rB)) (exec_cast (congrArg (Value.int .u64) (wrapU (4294967296 * rB) (by omega))) (by kernel_rfl)) <| pkq (uN u0) <| ppq (uN (4294967296 * rB + u0)) (exec_cast (congrArg (Value.int .u64) (wrapU (4294967296 * rB + u0) (by omega))) (by kernel_rfl)) <| ppq (.bool true) (dct ((((qB * y0 : Nat) : Int)) > (((4294967296 * rB + u0 : Nat) : Int))) (by omega)) <| pkq (.bool true) ?_
          refine ey_ <| s_ <| then_n <| bl_ 3 <| qr_ [0, 1, 2] <| pkq (uN qB) <| ppq (uN (qB - 1)) (exec_cast (congrArg (Value.int .u64) (wrap_sub qB 1 qp (by omega))) (by kernel_rfl)) <| pkq (uN (qB - 1)) <| eqr_ [0, 1, 2, 3] <| pkq (uN rB) <| pkq (uN y1) <| ppq (uN (rB + y1)) (exec_cast (congrArg (Value.int .u64) (wrapU (rB + y1) (by omega))) (by kernel_rfl)) <| pkq (uN (rB + y1)) <| eqr_ [0, 1] ?_
          refine pkq (uN (rB + y1)) <| ppq (.bool false) (dcf ((((rB + y1 : Nat) : Int)) ≥ ((4294967296) : Int)) (by omega)) <| en_ <| s_ <| blk_n <| then_n ?_
          refine ⟨⟨qB - 1, rB + y1, (uN qB), (.bool false), (.bool false), (uN qB), (uN y0), (uN (qB * y0)), (uN rB), (uN (4294967296 * rB)), (uN u0), (uN (4294967296 * rB + u0)), (.bool true), (.bool true), (uN qB), (uN (qB - 1)), (uN rB), (uN y1), (uN (rB + y1)), (uN (rB + y1)), (.bool false), by kernel_rfl, hdn, by omega, by omega, K6⟩, ?_⟩
          exact lt_meas (x := qB - 1) (y := qB) (by kernel_rfl) (by kernel_rfl) (by omega)
        · obtain ⟨qp, hdn⟩ := dig_step hYs hy0 hy1p hu0 hVY hd (.inr hc)
          have hxB : qB - 1 = (Vr * 4294967296 + u0) / Y := dig_done hYs hy0 hy1p hu0 hVY hdn (.inr hr2)
          refine q_ <| qr_ [0, 1, 2, 3, 4, 5, 6, 7, 8, 9, 10, 11] <| pkq (uN qB) <| ppq (.bool false) (dcf ((((qB : Nat) : Int)) ≥ ((4294967296) : Int)) (by omega)) <| pkq (.bool false) <| pkq (uN qB) <| pkq (uN y0) <| ppq (uN (qB * y0)) (exec_cast (congrArg (Value.int .u64) (wrapU (qB * y0) (mul_small hq hy0))) (by kernel_rfl)) <| pkq (uN rB) <| ppq (uN (4294967296 * rB)) (exec_cast (congrArg (Value.int .u64) (wrapU (4294967296 * rB) (by omega))) (by kernel_rfl)) <| pkq (uN u0) <| ppq (uN (4294967296 * rB + u0)) (exec_cast (congrArg (Value.int .u64) (wrapU (4294967296 * rB + u0) (by omega))) (by kernel_rfl)) <| ppq (.bool true) (dct ((((qB * y0 : Nat) : Int)) > (((4294967296 * rB + u0 : Nat) : Int))) (by omega)) <| pkq (.bool true) ?_
          refine ey_ <| s_ <| then_n <| bl_ 3 <| qr_ [0, 1, 2] <| pkq (uN qB) <| ppq (uN (qB - 1)) (exec_cast (congrArg (Value.int .u64) (wrap_sub qB 1 qp (by omega))) (by kernel_rfl)) <| pkq (uN (qB - 1)) <| eqr_ [0, 1, 2, 3] <| pkq (uN rB) <| pkq (uN y1) <| ppq (uN (rB + y1)) (exec_cast (congrArg (Value.int .u64) (wrapU (rB + y1) (by omega))) (by kernel_rfl)) <| pkq (uN (rB + y1)) <| eqr_ [0, 1] ?_
          refine pkq (uN (rB + y1)) <| ppq (.bool true) (dct ((((rB + y1 : Nat) : Int)) ≥ ((4294967296) : Int)) (by omega)) <| ey_ <| sy_exit 2 (by kernel_rfl) <| blk_p (by decide) <| then_e <| blk_e <| tqr_ [0, 1, 2, 3, 4, 5, 6, 7, 8, 9, 10, 11, 12, 13, 14, 15] <| pkq (uN (qA - 1)) <| ppq (uN ((qA - 1) * 4294967296)) (exec_cast (congrArg (Value.int .u64) (wrapU ((qA - 1) * 4294967296) (by have := dig_lt hYs hy0 hy1p hu1 hUY; rw [← hxA] at this; omega))) (by kernel_rfl)) <| pkq (uN (qB - 1)) <| ppq (uN ((hi * 18446744073709551616 + lo) / y)) (exec_cast (congrArg (Value.int .u64) ((wrapU ((qA - 1) * 4294967296 + (qB - 1)) (by have g1 := dig_lt hYs hy0 hy1p hu1 hUY; have g2 := dig_lt hYs hy0 hy1p hu0 hVY; rw [← hxA] at g1; rw [← hxB] at g2; omega)).trans (congrArg (fun n : Nat => (n : Int)) (div_end hy1 hYe hsum hLs hxA hVr hxB)))) (by kernel_rfl)) <| pkq (uN Vr) <| pkq (.int .u64 (IntKind.u64.wrap (((Vr : Nat) : Int) * 4294967296))) ?_
          refine pkq (uN u0) <| pkq (.int .u64 (IntKind.u64.wrap (IntKind.u64.wrap (((Vr : Nat) : Int) * 4294967296) + ((u0 : Nat) : Int)))) <| pkq (uN (qB - 1)) <| pkq (uN Y) <| pkq (.int .u64 (IntKind.u64.wrap (((qB - 1 : Nat) : Int) * ((Y : Nat) : Int)))) <| ppq (uN ((Vr * 4294967296 + u0) % Y)) (exec_cast (congrArg (Value.int .u64) ((dig_rest hYs hy0 hy1p hu0 hVY hxB).resolve_right (by omega))) (by kernel_rfl)) <| pkq (uN s) <| ppq (uN (((Vr * 4294967296 + u0) % Y) >>> s)) (exec_binop .shr 40 169 (.tmp 132) (.tmp 133) (by kernel_rfl) (uN (((Vr * 4294967296 + u0) % Y))) (uN s) _ (by kernel_rfl) (by kernel_rfl) (by kernel_rfl) (run_shrU _ _ ((Vr * 4294967296 + u0) % Y) s (by omega))) <| pkq (uN ((hi * 18446744073709551616 + lo) / y)) <| pkq (uN (((Vr * 4294967296 + u0) % Y) >>> s)) <| ps_end <| sy_a ⟨#[uN hi, uN lo, uN Y, ud, ud, ud, uN ((hi * 18446744073709551616 + lo) / y), uN (((Vr * 4294967296 + u0) % Y) >>> s), uN s, uN y1, uN y0, uN U, uN L, uN u1, uN u0, uN (qA - 1), uN (rB + y1), uN Vr, uN (qB - 1), uN y, .bool false, ud, uN y, uN hi, .bool false, ud, uN hi, .bool false, ud, ud, ud, ud, ud, ud, uN y, iN s, uN s, uN y, uN s, uN Y, uN Y, uN y1, uN Y, uN y0, uN hi, uN s, uN ((hi <<< s) % Kec.W), uN lo, uN s, uN (64 - s), uN (lo >>> (64 - s)), uN U, uN lo, uN s, uN L, uN L, uN u1, uN L, uN u0, uN U, uN y1, uN (U / y1), uN U, uN (U / y1), uN y1, uN (U / y1 * y1), uN (U - U / y1 * y1), uN qA, .bool false, .bool false, uN qA, uN y0, uN (qA * y0), uN rA, uN (4294967296 * rA), uN u1, uN (4294967296 * rA + u1), .bool true, .bool true, uN qA, uN (qA - 1), uN rA, uN y1, uN (rA + y1), uN (rA + y1), .bool true, uN U, .int .u64 (IntKind.u64.wrap (((U : Nat) : Int) * 4294967296)), uN u1, .int .u64 (IntKind.u64.wrap (IntKind.u64.wrap (((U : Nat) : Int) * 4294967296) + ((u1 : Nat) : Int))), uN (qA - 1), uN Y, .int .u64 (IntKind.u64.wrap (((qA - 1 : Nat) : Int) * ((Y : Nat) : Int))), uN Vr, uN Vr, uN y1, uN (Vr / y1), uN Vr, uN (Vr / y1), uN y1, uN (Vr / y1 * y1), uN (Vr - Vr / y1 * y1), uN qB, .bool false, .bool false, uN qB, uN y0, uN (qB * y0), uN rB, uN (4294967296 * rB), uN u0, uN (4294967296 * rB + u0), .bool true, .bool true, uN qB, uN (qB - 1), uN rB, uN y1, uN (rB + y1), uN (rB + y1), .bool true, uN (qA - 1), uN ((qA - 1) * 4294967296), uN (qB - 1), uN ((hi * 18446744073709551616 + lo) / y), uN Vr, .int .u64 (IntKind.u64.wrap (((Vr : Nat) : Int) * 4294967296)), uN u0, .int .u64 (IntKind.u64.wrap (IntKind.u64.wrap (((Vr : Nat) : Int) * 4294967296) + ((u0 : Nat) : Int))), uN (qB - 1), uN Y, .int .u64 (IntKind.u64.wrap (((qB - 1 : Nat) : Int) * ((Y : Nat) : Int))), uN ((Vr * 4294967296 + u0) % Y), uN s, uN (((Vr * 4294967296 + u0) % Y) >>> s)], []⟩ <| then_n <| u_ ?_
          refine so_ (.tuple #[.int .u64 (((hi * 18446744073709551616 + lo) / y : Nat) : Int), .int .u64 ((((Vr * 4294967296 + u0) % Y) >>> s : Nat) : Int)]) ?_
          exact ⟨_, rfl, K6⟩
        · have hxB : qB = (Vr * 4294967296 + u0) / Y := dig_done hYs hy0 hy1p hu0 hVY hd (.inl ⟨hq, hc⟩)
          refine q_ <| qr_ [0, 1, 2, 3, 4, 5, 6, 7, 8, 9, 10, 11] <| pkq (uN qB) <| ppq (.bool false) (dcf ((((qB : Nat) : Int)) ≥ ((4294967296) : Int)) (by omega)) <| pkq (.bool false) <| pkq (uN qB) <| pkq (uN y0) <| ppq (uN (qB * y0)) (exec_cast (congrArg (Value.int .u64) (wrapU (qB * y0) (mul_small hq hy0))) (by kernel_rfl)) <| pkq (uN rB) <| ppq (uN (4294967296 * rB)) (exec_cast (congrArg (Value.int .u64) (wrapU (4294967296 * rB) (by omega))) (by kernel_rfl)) <| pkq (uN u0) <| ppq (uN (4294967296 * rB + u0)) (exec_cast (congrArg (Value.int .u64) (wrapU (4294967296 * rB + u0) (by omega))) (by kernel_rfl)) <| ppq (.bool false) (dcf ((((qB * y0 : Nat) : Int)) > (((4294967296 * rB + u0 : Nat) : Int))) (by omega)) <| pkq (.bool false) ?_
          refine en_ <| sy_exit 2 (by kernel_rfl) <| then_e <| then_e <| blk_e <| tqr_ [0, 1, 2, 3, 4, 5, 6, 7, 8, 9, 10, 11, 12, 13, 14, 15] <| pkq (uN (qA - 1)) <| ppq (uN ((qA - 1) * 4294967296)) (exec_cast (congrArg (Value.int .u64) (wrapU ((qA - 1) * 4294967296) (by have := dig_lt hYs hy0 hy1p hu1 hUY; rw [← hxA] at this; omega))) (by kernel_rfl)) <| pkq (uN qB) <| ppq (uN ((hi * 18446744073709551616 + lo) / y)) (exec_cast (congrArg (Value.int .u64) ((wrapU ((qA - 1) * 4294967296 + qB) (by have g1 := dig_lt hYs hy0 hy1p hu1 hUY; have g2 := dig_lt hYs hy0 hy1p hu0 hVY; rw [← hxA] at g1; rw [← hxB] at g2; omega)).trans (congrArg (fun n : Nat => (n : Int)) (div_end hy1 hYe hsum hLs hxA hVr hxB)))) (by kernel_rfl)) <| pkq (uN Vr) <| pkq (.int .u64 (IntKind.u64.wrap (((Vr : Nat) : Int) * 4294967296))) <| pkq (uN u0) <| pkq (.int .u64 (IntKind.u64.wrap (IntKind.u64.wrap (((Vr : Nat) : Int) * 4294967296) + ((u0 : Nat) : Int)))) ?_
          refine pkq (uN qB) <| pkq (uN Y) <| pkq (.int .u64 (IntKind.u64.wrap (((qB : Nat) : Int) * ((Y : Nat) : Int)))) <| ppq (uN ((Vr * 4294967296 + u0) % Y)) (exec_cast (congrArg (Value.int .u64) ((dig_rest hYs hy0 hy1p hu0 hVY hxB).resolve_right (by omega))) (by kernel_rfl)) <| pkq (uN s) <| ppq (uN (((Vr * 4294967296 + u0) % Y) >>> s)) (exec_binop .shr 40 169 (.tmp 132) (.tmp 133) (by kernel_rfl) (uN (((Vr * 4294967296 + u0) % Y))) (uN s) _ (by kernel_rfl) (by kernel_rfl) (by kernel_rfl) (run_shrU _ _ ((Vr * 4294967296 + u0) % Y) s (by omega))) <| pkq (uN ((hi * 18446744073709551616 + lo) / y)) <| pkq (uN (((Vr * 4294967296 + u0) % Y) >>> s)) <| ps_end <| sy_a ⟨#[uN hi, uN lo, uN Y, ud, ud, ud, uN ((hi * 18446744073709551616 + lo) / y), uN (((Vr * 4294967296 + u0) % Y) >>> s), uN s, uN y1, uN y0, uN U, uN L, uN u1, uN u0, uN (qA - 1), uN rB, uN Vr, uN qB, uN y, .bool false, ud, uN y, uN hi, .bool false, ud, uN hi, .bool false, ud, ud, ud, ud, ud, ud, uN y, iN s, uN s, uN y, uN s, uN Y, uN Y, uN y1, uN Y, uN y0, uN hi, uN s, uN ((hi <<< s) % Kec.W), uN lo, uN s, uN (64 - s), uN (lo >>> (64 - s)), uN U, uN lo, uN s, uN L, uN L, uN u1, uN L, uN u0, uN U, uN y1, uN (U / y1), uN U, uN (U / y1), uN y1, uN (U / y1 * y1), uN (U - U / y1 * y1), uN qA, .bool false, .bool false, uN qA, uN y0, uN (qA * y0), uN rA, uN (4294967296 * rA), uN u1, uN (4294967296 * rA + u1), .bool true, .bool true, uN qA, uN (qA - 1), uN rA, uN y1, uN (rA + y1), uN (rA + y1), .bool true, uN U, .int .u64 (IntKind.u64.wrap (((U : Nat) : Int) * 4294967296)), uN u1, .int .u64 (IntKind.u64.wrap (IntKind.u64.wrap (((U : Nat) : Int) * 4294967296) + ((u1 : Nat) : Int))), uN (qA - 1), uN Y, .int .u64 (IntKind.u64.wrap (((qA - 1 : Nat) : Int) * ((Y : Nat) : Int))), uN Vr, uN Vr, uN y1, uN (Vr / y1), uN Vr, uN (Vr / y1), uN y1, uN (Vr / y1 * y1), uN (Vr - Vr / y1 * y1), uN qB, .bool false, .bool false, uN qB, uN y0, uN (qB * y0), uN rB, uN (4294967296 * rB), uN u0, uN (4294967296 * rB + u0), .bool false, .bool false, u114, u115, u116, u117, u118, u119, u120, uN (qA - 1), uN ((qA - 1) * 4294967296), uN qB, uN ((hi * 18446744073709551616 + lo) / y), uN Vr, .int .u64 (IntKind.u64.wrap (((Vr : Nat) : Int) * 4294967296)), uN u0, .int .u64 (IntKind.u64.wrap (IntKind.u64.wrap (((Vr : Nat) : Int) * 4294967296) + ((u0 : Nat) : Int))), uN qB, uN Y, .int .u64 (IntKind.u64.wrap (((qB : Nat) : Int) * ((Y : Nat) : Int))), uN ((Vr * 4294967296 + u0) % Y), uN s, uN (((Vr * 4294967296 + u0) % Y) >>> s)], []⟩ <| then_n <| u_ <| so_ (.tuple #[.int .u64 (((hi * 18446744073709551616 + lo) / y : Nat) : Int), .int .u64 ((((Vr * 4294967296 + u0) % Y) >>> s : Nat) : Int)]) ?_
          exact ⟨_, rfl, K6⟩
    · have hxA : qA = (U * 4294967296 + u1) / Y := dig_done hYs hy0 hy1p hu1 hUY hd (.inl ⟨hq, hc⟩)
      refine q_ <| qr_ [0, 1, 2, 3, 4, 5, 6, 7, 8, 9, 10, 11] <| pkq (uN qA) <| ppq (.bool false) (dcf ((((qA : Nat) : Int)) ≥ ((4294967296) : Int)) (by omega)) <| pkq (.bool false) <| pkq (uN qA) <| pkq (uN y0) <| ppq (uN (qA * y0)) (exec_cast (congrArg (Value.int .u64) (wrapU (qA * y0) (mul_small hq hy0))) (by kernel_rfl)) <| pkq (uN rA) <| ppq (uN (4294967296 * rA)) (exec_cast (congrArg (Value.int .u64) (wrapU (4294967296 * rA) (by omega))) (by kernel_rfl)) <| pkq (uN u1) <| ppq (uN (4294967296 * rA + u1)) (exec_cast (congrArg (Value.int .u64) (wrapU (4294967296 * rA + u1) (by omega))) (by kernel_rfl)) <| ppq (.bool false) (dcf ((((qA * y0 : Nat) : Int)) > (((4294967296 * rA + u1 : Nat) : Int))) (by omega)) <| pkq (.bool false) ?_
      refine en_ <| sy_exit 0 (by kernel_rfl) <| then_e <| then_e <| blk_e <| tqr_ [0, 1, 2, 3, 4, 5, 6, 7, 8] <| pkq (uN U) <| pkq (.int .u64 (IntKind.u64.wrap (((U : Nat) : Int) * 4294967296))) <| pkq (uN u1) <| pkq (.int .u64 (IntKind.u64.wrap (IntKind.u64.wrap (((U : Nat) : Int) * 4294967296) + ((u1 : Nat) : Int)))) <| pkq (uN qA) <| pkq (uN Y) <| pkq (.int .u64 (IntKind.u64.wrap (((qA : Nat) : Int) * ((Y : Nat) : Int)))) <| ppq (uN Vr) (exec_cast (congrArg (Value.int .u64) (((dig_rest hYs hy0 hy1p hu1 hUY hxA).resolve_right (by omega)).trans (congrArg (fun n : Nat => (n : Int)) hVr))) (by kernel_rfl)) ?_
      refine pkq (uN Vr) <| eqr_ [0, 1, 2, 3] <| pkq (uN Vr) <| pkq (uN y1) <| ppq (uN (Vr / y1)) (exec_quoU 40 40 (.tmp 94) (.tmp 95) (by kernel_rfl) Vr y1 (by kernel_rfl) (by kernel_rfl) hy1p (by omega)) <| pkq (uN (Vr / y1)) <| ps_end <| sy_a ⟨#[uN hi, uN lo, uN Y, ud, ud, ud, .int .u64 0, .int .u64 0, uN s, uN y1, uN y0, uN U, uN L, uN u1, uN u0, uN qA, uN rA, uN Vr, uN (Vr / y1), uN y, .bool false, ud, uN y, uN hi, .bool false, ud, uN hi, .bool false, ud, ud, ud, ud, ud, ud, uN y, iN s, uN s, uN y, uN s, uN Y, uN Y, uN y1, uN Y, uN y0, uN hi, uN s, uN ((hi <<< s) % Kec.W), uN lo, uN s, uN (64 - s), uN (lo >>> (64 - s)), uN U, uN lo, uN s, uN L, uN L, uN u1, uN L, uN u0, uN U, uN y1, uN (U / y1), uN U, uN (U / y1), uN y1, uN (U / y1 * y1), uN (U - U / y1 * y1), uN qA, .bool false, .bool false, uN qA, uN y0, uN (qA * y0), uN rA, uN (4294967296 * rA), uN u1, uN (4294967296 * rA + u1), .bool false, .bool false, u79, u80, u81, u82, u83, u84, u85, uN U, .int .u64 (IntKind.u64.wrap (((U : Nat) : Int) * 4294967296)), uN u1, .int .u64 (IntKind.u64.wrap (IntKind.u64.wrap (((U : Nat) : Int) * 4294967296) + ((u1 : Nat) : Int))), uN qA, uN Y, .int .u64 (IntKind.u64.wrap (((qA : Nat) : Int) * ((Y : Nat) : Int))), uN Vr, uN Vr, uN y1, uN (Vr / y1), ud, ud, ud, ud, ud, ud, ud, ud, ud, ud, ud, ud, ud, ud, ud, ud, ud, ud, ud, ud, ud, ud, ud, ud, ud, ud, ud, ud, ud, ud, ud, ud, ud, ud, ud, ud, ud, ud], []⟩ <| tqr_ [0, 1, 2, 3, 4, 5] <| pkq (uN Vr) <| pkq (uN (Vr / y1)) <| pkq (uN y1) <| ppq (uN (Vr / y1 * y1)) (exec_cast (congrArg (Value.int .u64) (wrapU (Vr / y1 * y1) (by have := Nat.div_mul_le_self Vr y1; omega))) (by kernel_rfl)) <| ppq (uN (Vr - Vr / y1 * y1)) (exec_cast (congrArg (Value.int .u64) (wrap_sub Vr (Vr / y1 * y1) (Nat.div_mul_le_self Vr y1) (by omega))) (by kernel_rfl)) ?_
      refine pkq (uN (Vr - Vr / y1 * y1)) <| eq_ <| bl_ 2 ?_
      refine sy_loop (qc53_1 4194296) (fun a V => ∃ (qB : Nat) (rB : Nat) (u102 u103 u104 u105 u106 u107 u108 u109 u110 u111 u112 u113 u114 u115 u116 u117 u118 u119 u120 : Value), (a = ⟨#[uN hi, uN lo, uN Y, ud, ud, ud, .int .u64 0, .int .u64 0, uN s, uN y1, uN y0, uN U, uN L, uN u1, uN u0, uN qA, uN rB, uN Vr, uN qB, uN y, .bool false, ud, uN y, uN hi, .bool false, ud, uN hi, .bool false, ud, ud, ud, ud, ud, ud, uN y, iN s, uN s, uN y, uN s, uN Y, uN Y, uN y1, uN Y, uN y0, uN hi, uN s, uN ((hi <<< s) % Kec.W), uN lo, uN s, uN (64 - s), uN (lo >>> (64 - s)), uN U, uN lo, uN s, uN L, uN L, uN u1, uN L, uN u0, uN U, uN y1, uN (U / y1), uN U, uN (U / y1), uN y1, uN (U / y1 * y1), uN (U - U / y1 * y1), uN qA, .bool false, .bool false, uN qA, uN y0, uN (qA * y0), uN rA, uN (4294967296 * rA), uN u1, uN (4294967296 * rA + u1), .bool false, .bool false, u79, u80, u81, u82, u83, u84, u85, uN U, .int .u64 (IntKind.u64.wrap (((U : Nat) : Int) * 4294967296)), uN u1, .int .u64 (IntKind.u64.wrap (IntKind.u64.wrap (((U : Nat) : Int) * 4294967296) + ((u1 : Nat) : Int))), uN qA, uN Y, .int .u64 (IntKind.u64.wrap (((qA : Nat) : Int) * ((Y : Nat) : Int))), uN Vr, uN Vr, uN y1, uN (Vr / y1), uN Vr, uN (Vr / y1), uN y1, uN (Vr / y1 * y1), uN (Vr - Vr / y1 * y1), u102, u103, u104, u105, u106, u107, u108, u109, u110, u111, u112, u113, u114, u115, u116, u117, u118, u119, u120, ud, ud, ud, ud, ud, ud, ud, ud, ud, ud, ud, ud, ud, ud], []⟩) ∧ (Dig Vr Y y1 u0 qB rB) ∧ (qB < 18446744073709551616) ∧ (rB < 4294967296) ∧ (Keeps Nob w V)) (fun a _ => (intOf (a.tmps.getD 18 undef)).toNat) (by kernel_rfl) ?_ ?_
      · exact ⟨Vr / y1, Vr - Vr / y1 * y1, undef, undef, undef, undef, undef, undef, undef, undef, undef, undef, undef, undef, undef, undef, undef, undef, undef, undef, undef, by kernel_rfl, dig_init hYs hy0 hy1p hu0 hVY, by have := Nat.div_le_self Vr y1; omega, rem_small hy1p hy1l, K2⟩
      · rintro a V7 ⟨qB, rB, u102, u103, u104, u105, u106, u107, u108, u109, u110, u111, u112, u113, u114, u115, u116, u117, u118, u119, u120, rfl, hd, hql, hr, K8⟩
        rcases dig_cases qB rB y0 y1 u0 with ⟨hq, hr2⟩ | ⟨hq, hr2⟩ | ⟨hq, hc, hr2⟩ | ⟨hq, hc, hr2⟩ | ⟨hq, hc⟩
        · obtain ⟨qp, hdn⟩ := dig_step hYs hy0 hy1p hu0 hVY hd (.inl hq)
          refine q_ <| qr_ [0, 1, 2, 3, 4, 5, 6, 7, 8, 9, 10, 11] <| pkq (uN qB) <| ppq (.bool true) (dct ((((qB : Nat) : Int)) ≥ ((4294967296) : Int)) (by omega)) <| pkq (.bool true) <| pnq <| pnq <| pnq <| pnq <| pnq <| pnq <| pnq <| pnq <| pkq (.bool true) ?_
          refine ey_ <| s_ <| then_n <| bl_ 3 <| qr_ [0, 1, 2] <| pkq (uN qB) <| ppq (uN (qB - 1)) (exec_cast (congrArg (Value.int .u64) (wrap_sub qB 1 qp (by omega))) (by kernel_rfl)) <| pkq (uN (qB - 1)) <| eqr_ [0, 1, 2, 3] <| pkq (uN rB) <| pkq (uN y1) <| ppq (uN (rB + y1)) (exec_cast (congrArg (Value.int .u64) (wrapU (rB + y1) (by omega))) (by kernel_rfl)) <| pkq (uN (rB + y1)) <| eqr_ [0, 1] ?_
          refine pkq (uN (rB + y1)) <| ppq (.bool false) (dcf ((((rB + y1 : Nat) : Int)) ≥ ((4294967296) : Int)) (by omega)) <| en_ <| s_ <| blk_n <| then_n ?_
          refine ⟨⟨qB - 1, rB + y1, (uN qB), (.bool true), (.bool true), undef, undef, undef, undef, undef, undef, undef, undef, (.bool true), (uN qB), (uN (qB - 1)), (uN rB), (uN y1), (uN (rB + y1)), (uN (rB + y1)), (.bool false), by kernel_rfl, hdn, by omega, by omega, K8⟩, ?_⟩
          exact lt_meas (x := qB - 1) (y := qB) (by kernel_rfl) (by kernel_rfl) (by omega)
        · obtain ⟨qp, hdn⟩ := dig_step hYs hy0 hy1p hu0 hVY hd (.inl hq)
          have hxB : qB - 1 = (Vr * 4294967296 + u0) / Y := dig_done hYs hy0 hy1p hu0 hVY hdn (.inr hr2)
          refine q_ <| qr_ [0, 1, 2, 3, 4, 5, 6, 7, 8, 9, 10, 11] <| pkq (uN qB) <| ppq (.bool true) (dct ((((qB : Nat) : Int)) ≥ ((4294967296) : Int)) (by omega)) <| pkq (.bool true) <| pnq <| pnq <| pnq <| pnq <| pnq <| pnq <| pnq <| pnq <| pkq (.bool true) ?_
          refine ey_ <| s_ <| then_n <| bl_ 3 <| qr_ [0, 1, 2] <| pkq (uN qB) <| ppq (uN (qB - 1)) (exec_cast (congrArg (Value.int .u64) (wrap_sub qB 1 qp (by omega))) (by kernel_rfl)) <| pkq (uN (qB - 1)) <| eqr_ [0, 1, 2, 3] <| pkq (uN rB) <| pkq (uN y1) <| ppq (uN (rB + y1)) (exec_cast (congrArg (Value.int .u64) (wrapU (rB + y1) (by omega))) (by kernel_rfl)) <| pkq (uN (rB + y1)) <| eqr_ [0, 1] ?_
          refine pkq (uN (rB + y1)) <| ppq (.bool true) (dct ((((rB + y1 : Nat) : Int)) ≥ ((4294967296) : Int)) (by omega)) <| ey_ <| sy_exit 2 (by kernel_rfl) <| blk_p (by decide) <| then_e <| blk_e <| tqr_ [0, 1, 2, 3, 4, 5, 6, 7, 8, 9, 10, 11, 12, 13, 14, 15] <| pkq (uN qA) <| ppq (uN (qA * 4294967296)) (exec_cast (congrArg (Value.int .u64) (wrapU (qA * 4294967296) (by have := dig_lt hYs hy0 hy1p hu1 hUY; rw [← hxA] at this; omega))) (by kernel_rfl)) <| pkq (uN (qB - 1)) <| ppq (uN ((hi * 18446744073709551616 + lo) / y)) (exec_cast (congrArg (Value.int .u64) ((wrapU (qA * 4294967296 + (qB - 1)) (by have g1 := dig_lt hYs hy0 hy1p hu1 hUY; have g2 := dig_lt hYs hy0 hy1p hu0 hVY; rw [← hxA] at g1; rw [← hxB] at g2; omega)).trans (congrArg (fun n : Nat => (n : Int)) (div_end hy1 hYe hsum hLs hxA hVr hxB)))) (by kernel_rfl)) <| pkq (uN Vr) <| pkq (.int .u64 (IntKind.u64.wrap (((Vr : Nat) : Int) * 4294967296))) ?_
          refine pkq (uN u0) <| pkq (.int .u64 (IntKind.u64.wrap (IntKind.u64.wrap (((Vr : Nat) : Int) * 4294967296) + ((u0 : Nat) : Int)))) <| pkq (uN (qB - 1)) <| pkq (uN Y) <| pkq (.int .u64 (IntKind.u64.wrap (((qB - 1 : Nat) : Int) * ((Y : Nat) : Int)))) <| ppq (uN ((Vr * 4294967296 + u0) % Y)) (exec_cast (congrArg (Value.int .u64) ((dig_rest hYs hy0 hy1p hu0 hVY hxB).resolve_right (by omega))) (by kernel_rfl)) <| pkq (uN s) <| ppq (uN (((Vr * 4294967296 + u0) % Y) >>> s)) (exec_binop .shr 40 169 (.tmp 132) (.tmp 133) (by kernel_rfl) (uN (((Vr * 4294967296 + u0) % Y))) (uN s) _ (by kernel_rfl) (by kernel_rfl) (by kernel_rfl) (run_shrU _ _ ((Vr * 4294967296 + u0) % Y) s (by omega))) <| pkq (uN ((hi * 18446744073709551616 + lo) / y)) <| pkq (uN (((Vr * 4294967296 + u0) % Y) >>> s)) <| ps_end <| sy_a ⟨#[uN hi, uN lo, uN Y, ud, ud, ud, uN ((hi * 18446744073709551616 + lo) / y), uN (((Vr * 4294967296 + u0) % Y) >>> s), uN s, uN y1, uN y0, uN U, uN L, uN u1, uN u0, uN qA, uN (rB + y1), uN Vr, uN (qB - 1), uN y, .bool false, ud, uN y, uN hi, .bool false, ud, uN hi, .bool false, ud, ud, ud, ud, ud, ud, uN y, iN s, uN s, uN y, uN s, uN Y, uN Y, uN y1, uN Y, uN y0, uN hi, uN s, uN ((hi <<< s) % Kec.W), uN lo, uN s, uN (64 - s), uN (lo >>> (64 - s)), uN U, uN lo, uN s, uN L, uN L, uN u1, uN L, uN u0, uN U, uN y1, uN (U / y1), uN U, uN (U / y1), uN y1, uN (U / y1 * y1), uN (U - U / y1 * y1), uN qA, .bool false, .bool false, uN qA, uN y0, uN (qA * y0), uN rA, uN (4294967296 * rA), uN u1, uN (4294967296 * rA + u1), .bool false, .bool false, u79, u80, u81, u82, u83, u84, u85, uN U, .int .u64 (IntKind.u64.wrap (((U : Nat) : Int) * 4294967296)), uN u1, .int .u64 (IntKind.u64.wrap (IntKind.u64.wrap (((U : Nat) : Int) * 4294967296) + ((u1 : Nat) : Int))), uN qA, uN Y, .int .u64 (IntKind.u64.wrap (((qA : Nat) : Int) * ((Y : Nat) : Int))), uN Vr, uN Vr, uN y1, uN (Vr / y1), uN Vr, uN (Vr / y1), uN y1, uN (Vr / y1 * y1), uN (Vr - Vr / y1 * y1), uN qB, .bool true, .bool true, ud, ud, ud, ud, ud, ud, ud, ud, .bool true, uN qB, uN (qB - 1), uN rB, uN y1, uN (rB + y1), uN (rB + y1), .bool true, uN qA, uN (qA * 4294967296), uN (qB - 1), uN ((hi * 18446744073709551616 + lo) / y), uN Vr, .int .u64 (IntKind.u64.wrap (((Vr : Nat) : Int) * 4294967296)), uN u0, .int .u64 (IntKind.u64.wrap (IntKind.u64.wrap (((Vr : Nat) : Int) * 4294967296) + ((u0 : Nat) : Int))), uN (qB - 1), uN Y, .int .u64 (IntKind.u64.wrap (((qB - 1 : Nat) : Int) * ((Y : Nat) : Int))), uN ((Vr * 4294967296 + u0) % Y), uN s, uN (((Vr * 4294967296 + u0) % Y) >>> s)], []⟩ <| then_n <| u_ ?_
          refine so_ (.tuple #[.int .u64 (((hi * 18446744073709551616 + lo) / y : Nat) : Int), .int .u64 ((((Vr * 4294967296 + u0) % Y) >>> s : Nat) : Int)]) ?_
          exact ⟨_, rfl, K8⟩
        · obtain ⟨qp, hdn⟩ := dig_step hYs hy0 hy1p hu0 hVY hd (.inr hc)
          refine q_ <| qr_ [0, 1, 2, 3, 4, 5, 6, 7, 8, 9, 10, 11] <| pkq (uN qB) <| ppq (.bool false) (dcf ((((qB : Nat) : Int)) ≥ ((4294967296) : Int)) (by omega)) <| pkq (.bool false) <| pkq (uN qB) <| pkq (uN y0) <| ppq (uN (qB * y0)) (exec_cast (congrArg (Value.int .u64) (wrapU (qB * y0) (mul_small hq hy0))) (by kernel_rfl)) <| pkq (uN rB) <| ppq (uN (4294967296 * rB)) (exec_cast (congrArg (Value.int .u64) (wrapU (4294967296 * rB) (by omega))) (by kernel_rfl)) <| pkq (uN u0) <| ppq (uN (4294967296 * rB + u0)) (exec_cast (congrArg (Value.int .u64) (wrapU (4294967296 * rB + u0) (by omega))) (by kernel_rfl)) <| ppq (.bool true) (dct ((((qB * y0 : Nat) : Int)) > (((4294967296 * rB + u0 : Nat) : Int))) (by omega)) <| pkq (.bool true) ?_
          refine ey_ <| s_ <| then_n <| bl_ 3 <| qr_ [0, 1, 2] <| pkq (uN qB) <| ppq (uN (qB - 1)) (exec_cast (congrArg (Value.int .u64) (wrap_sub qB 1 qp (by omega))) (by kernel_rfl)) <| pkq (uN (qB - 1)) <| eqr_ [0, 1, 2, 3] <| pkq (uN rB) <| pkq (uN y1) <| ppq (uN (rB + y1)) (exec_cast (congrArg (Value.int .u64) (wrapU (rB + y1) (by omega))) (by kernel_rfl)) <| pkq (uN (rB + y1)) <| eqr_ [0, 1] ?_
          refine pkq (uN (rB + y1)) <| ppq (.bool false) (dcf ((((rB + y1 : Nat) : Int)) ≥ ((4294967296) : Int)) (by omega)) <| en_ <| s_ <| blk_n <| then_n ?_
          refine ⟨⟨qB - 1, rB + y1, (uN qB), (.bool false), (.bool false), (uN qB), (uN y0), (uN (qB * y0)), (uN rB), (uN (4294967296 * rB)), (uN u0), (uN (4294967296 * rB + u0)), (.bool true), (.bool true), (uN qB), (uN (qB - 1)), (uN rB), (uN y1), (uN (rB + y1)), (uN (rB + y1)), (.bool false), by kernel_rfl, hdn, by omega, by omega, K8⟩, ?_⟩
          exact lt_meas (x := qB - 1) (y := qB) (by kernel_rfl) (by kernel_rfl) (by omega)
        · obtain ⟨qp, hdn⟩ := dig_step hYs hy0 hy1p hu0 hVY hd (.inr hc)
          have hxB : qB - 1 = (Vr * 4294967296 + u0) / Y := dig_done hYs hy0 hy1p hu0 hVY hdn (.inr hr2)
          refine q_ <| qr_ [0, 1, 2, 3, 4, 5, 6, 7, 8, 9, 10, 11] <| pkq (uN qB) <| ppq (.bool false) (dcf ((((qB : Nat) : Int)) ≥ ((4294967296) : Int)) (by omega)) <| pkq (.bool false) <| pkq (uN qB) <| pkq (uN y0) <| ppq (uN (qB * y0)) (exec_cast (congrArg (Value.int .u64) (wrapU (qB * y0) (mul_small hq hy0))) (by kernel_rfl)) <| pkq (uN rB) <| ppq (uN (4294967296 * rB)) (exec_cast (congrArg (Value.int .u64) (wrapU (4294967296 * rB) (by omega))) (by kernel_rfl)) <| pkq (uN u0) <| ppq (uN (4294967296 * rB + u0)) (exec_cast (congrArg (Value.int .u64) (wrapU (4294967296 * rB + u0) (by omega))) (by kernel_rfl)) <| ppq (.bool true) (dct ((((qB * y0 : Nat) : Int)) > (((4294967296 * rB + u0 : Nat) : Int))) (by omega)) <| pkq (.bool true) ?_
          refine ey_ <| s_ <| then_n <| bl_ 3 <| qr_ [0, 1, 2] <| pkq (uN qB) <| ppq (uN (qB - 1)) (exec_cast (congrArg (Value.int .u64) (wrap_sub qB 1 qp (by omega))) (by kernel_rfl)) <| pkq (uN (qB - 1)) <| eqr_ [0, 1, 2, 3] <| pkq (uN rB) <| pkq (uN y1) <| ppq (uN (rB + y1)) (exec_cast (congrArg (Value.int .u64) (wrapU (rB + y1) (by omega))) (by kernel_rfl)) <| pkq (uN (rB + y1)) <| eqr_ [0, 1] ?_
          refine pkq (uN (rB + y1)) <| ppq (.bool true) (dct ((((rB + y1 : Nat) : Int)) ≥ ((4294967296) : Int)) (by omega)) <| ey_ <| sy_exit 2 (by kernel_rfl) <| blk_p (by decide) <| then_e <| blk_e <| tqr_ [0, 1, 2, 3, 4, 5, 6, 7, 8, 9, 10, 11, 12, 13, 14, 15] <| pkq (uN qA) <| ppq (uN (qA * 4294967296)) (exec_cast (congrArg (Value.int .u64) (wrapU (qA * 4294967296) (by have := dig_lt hYs hy0 hy1p hu1 hUY; rw [← hxA] at this; omega))) (by kernel_rfl)) <| pkq (uN (qB - 1)) <| ppq (uN ((hi * 18446744073709551616 + lo) / y)) (exec_cast (congrArg (Value.int .u64) ((wrapU (qA * 4294967296 + (qB - 1)) (by have g1 := dig_lt hYs hy0 hy1p hu1 hUY; have g2 := dig_lt hYs hy0 hy1p hu0 hVY; rw [← hxA] at g1; rw [← hxB] at g2; omega)).trans (congrArg (fun n : Nat => (n : Int)) (div_end hy1 hYe hsum hLs hxA hVr hxB)))) (by kernel_rfl)) <| pkq (uN Vr) <| pkq (.int .u64 (IntKind.u64.wrap (((Vr : Nat) : Int) * 4294967296))) ?_
          refine pkq (uN u0) <| pkq (.int .u64 (IntKind.u64.wrap (IntKind.u64.wrap (((Vr : Nat) : Int) * 4294967296) + ((u0 : Nat) : Int)))) <| pkq (uN (qB - 1)) <| pkq (uN Y) <| pkq (.int .u64 (IntKind.u64.wrap (((qB - 1 : Nat) : Int) * ((Y : Nat) : Int)))) <| ppq (uN ((Vr * 4294967296 + u0) % Y)) (exec_cast (congrArg (Value.int .u64) ((dig_rest hYs hy0 hy1p hu0 hVY hxB).resolve_right (by omega))) (by kernel_rfl)) <| pkq (uN s) <| ppq (uN (((Vr * 4294967296 + u0) % Y) >>> s)) (exec_binop .shr 40 169 (.tmp 132) (.tmp 133) (by kernel_rfl) (uN (((Vr * 4294967296 + u0) % Y))) (uN s) _ (by kernel_rfl) (by kernel_rfl) (by kernel_rfl) (run_shrU _ _ ((Vr * 4294967296 + u0) % Y) s (by omega))) <| pkq (uN ((hi * 18446744073709551616 + lo) / y)) <| pkq (uN (((Vr * 4294967296 + u0) % Y) >>> s)) <| ps_end <| sy_a ⟨#[uN hi, uN lo, uN Y, ud, ud, ud, uN ((hi * 18446744073709551616 + lo) / y), uN (((Vr * 4294967296 + u0) % Y) >>> s), uN s, uN y1, uN y0, uN U, uN L, uN u1, uN u0, uN qA, uN (rB + y1), uN Vr, uN (qB - 1), uN y, .bool false, ud, uN y, uN hi, .bool false, ud, uN hi, .bool false, ud, ud, ud, ud, ud, ud, uN y, iN s, uN s, uN y, uN s, uN Y, uN Y, uN y1, uN Y, uN y0, uN hi, uN s, uN ((hi <<< s) % Kec.W), uN lo, uN s, uN (64 - s), uN (lo >>> (64 - s)), uN U, uN lo, uN s, uN L, uN L, uN u1, uN L, uN u0, uN U, uN y1, uN (U / y1), uN U, uN (U / y1), uN y1, uN (U / y1 * y1), uN (U - U / y1 * y1), uN qA, .bool false, .bool false, uN qA, uN y0, uN (qA * y0), uN rA, uN (4294967296 * rA), uN u1, uN (4294967296 * rA + u1), .bool false, .bool false, u79, u80, u81, u82, u83, u84, u85, uN U, .int .u64 (IntKind.u64.wrap (((U : Nat) : Int) * 4294967296)), uN u1, .int .u64 (IntKind.u64.wrap (IntKind.u64.wrap (((U : Nat) : Int) * 4294967296) + ((u1 : Nat) : Int))), uN qA, uN Y, .int .u64 (IntKind.u64.wrap (((qA : Nat) : Int) * ((Y : Nat) : Int))), uN Vr, uN Vr, uN y1, uN (Vr / y1), uN Vr, uN (Vr / y1), uN y1, uN (Vr / y1 * y1), uN (Vr - Vr / y1 * y1), uN qB, .bool false, .bool false, uN qB, uN y0, uN (qB * y0), uN rB, uN (4294967296 * rB), uN u0, uN (4294967296 * rB + u0), .bool true, .bool true, uN qB, uN (qB - 1), uN rB, uN y1, uN (rB + y1), uN (rB + y1), .bool true, uN qA, uN (qA * 4294967296), uN (qB - 1), uN ((hi * 18446744073709551616 + lo) / y), uN Vr, .int .u64 (IntKind.u64.wrap (((Vr : Nat) : Int) * 4294967296)), uN u0, .int .u64 (IntKind.u64.wrap (IntKind.u64.wrap (((Vr : Nat) : Int) * 4294967296) + ((u0 : Nat) : Int))), uN (qB - 1), uN Y, .int .u64 (IntKind.u64.wrap (((qB - 1 : Nat) : Int) * ((Y : Nat) : Int))), uN ((Vr * 4294967296 + u0) % Y), uN s, uN (((Vr * 4294967296 + u0) % Y) >>> s)], []⟩ <| then_n <| u_ ?_
          refine so_ (.tuple #[.int .u64 (((hi * 18446744073709551616 + lo) / y : Nat) : Int), .int .u64 ((((Vr * 4294967296 + u0) % Y) >>> s : Nat) : Int)]) ?_
          exact ⟨_, rfl, K8⟩
        · have hxB : qB = (Vr * 4294967296 + u0) / Y := dig_done hYs hy0 hy1p hu0 hVY hd (.inl ⟨hq, hc⟩)
          refine q_ <| qr_ [0, 1, 2, 3, 4, 5, 6, 7, 8, 9, 10, 11] <| pkq (uN qB) <| ppq (.bool false) (dcf ((((qB : Nat) : Int)) ≥ ((4294967296) : Int)) (by omega)) <| pkq (.bool false) <| pkq (uN qB) <| pkq (uN y0) <| ppq (uN (qB * y0)) (exec_cast (congrArg (Value.int .u64) (wrapU (qB * y0) (mul_small hq hy0))) (by kernel_rfl)) <| pkq (uN rB) <| ppq (uN (4294967296 * rB)) (exec_cast (congrArg (Value.int .u64) (wrapU (4294967296 * rB) (by omega))) (by kernel_rfl)) <| pkq (uN u0) <| ppq (uN (4294967296 * rB + u0)) (exec_cast (congrArg (Value.int .u64) (wrapU (4294967296 * rB + u0) (by omega))) (by kernel_rfl)) <| ppq (.bool false) (dcf ((((qB * y0 : Nat) : Int)) > (((4294967296 * rB + u0 : Nat) : Int))) (by omega)) <| pkq (.bool false) ?_
          refine en_ <| sy_exit 2 (by kernel_rfl) <| then_e <| then_e <| blk_e <| tqr_ [0, 1, 2, 3, 4, 5, 6, 7, 8, 9, 10, 11, 12, 13, 14, 15] <| pkq (uN qA) <| ppq (uN (qA * 4294967296)) (exec_cast (congrArg (Value.int .u64) (wrapU (qA * 4294967296) (by have := dig_lt hYs hy0 hy1p hu1 hUY; rw [← hxA] at this; omega))) (by kernel_rfl)) <| pkq (uN qB) <| ppq (uN ((hi * 18446744073709551616 + lo) / y)) (exec_cast (congrArg (Value.int .u64) ((wrapU (qA * 4294967296 + qB) (by have g1 := dig_lt hYs hy0 hy1p hu1 hUY; have g2 := dig_lt hYs hy0 hy1p hu0 hVY; rw [← hxA] at g1; rw [← hxB] at g2; omega)).trans (congrArg (fun n : Nat => (n : Int)) (div_end hy1 hYe hsum hLs hxA hVr hxB)))) (by kernel_rfl)) <| pkq (uN Vr) <| pkq (.int .u64 (IntKind.u64.wrap (((Vr : Nat) : Int) * 4294967296))) <| pkq (uN u0) <| pkq (.int .u64 (IntKind.u64.wrap (IntKind.u64.wrap (((Vr : Nat) : Int) * 4294967296) + ((u0 : Nat) : Int)))) ?_
          refine pkq (uN qB) <| pkq (uN Y) <| pkq (.int .u64 (IntKind.u64.wrap (((qB : Nat) : Int) * ((Y : Nat) : Int)))) <| ppq (uN ((Vr * 4294967296 + u0) % Y)) (exec_cast (congrArg (Value.int .u64) ((dig_rest hYs hy0 hy1p hu0 hVY hxB).resolve_right (by omega))) (by kernel_rfl)) <| pkq (uN s) <| ppq (uN (((Vr * 4294967296 + u0) % Y) >>> s)) (exec_binop .shr 40 169 (.tmp 132) (.tmp 133) (by kernel_rfl) (uN (((Vr * 4294967296 + u0) % Y))) (uN s) _ (by kernel_rfl) (by kernel_rfl) (by kernel_rfl) (run_shrU _ _ ((Vr * 4294967296 + u0) % Y) s (by omega))) <| pkq (uN ((hi * 18446744073709551616 + lo) / y)) <| pkq (uN (((Vr * 4294967296 + u0) % Y) >>> s)) <| ps_end <| sy_a ⟨#[uN hi, uN lo, uN Y, ud, ud, ud, uN ((hi * 18446744073709551616 + lo) / y), uN (((Vr * 4294967296 + u0) % Y) >>> s), uN s, uN y1, uN y0, uN U, uN L, uN u1, uN u0, uN qA, uN rB, uN Vr, uN qB, uN y, .bool false, ud, uN y, uN hi, .bool false, ud, uN hi, .bool false, ud, ud, ud, ud, ud, ud, uN y, iN s, uN s, uN y, uN s, uN Y, uN Y, uN y1, uN Y, uN y0, uN hi, uN s, uN ((hi <<< s) % Kec.W), uN lo, uN s, uN (64 - s), uN (lo >>> (64 - s)), uN U, uN lo, uN s, uN L, uN L, uN u1, uN L, uN u0, uN U, uN y1, uN (U / y1), uN U, uN (U / y1), uN y1, uN (U / y1 * y1), uN (U - U / y1 * y1), uN qA, .bool false, .bool false, uN qA, uN y0, uN (qA * y0), uN rA, uN (4294967296 * rA), uN u1, uN (4294967296 * rA + u1), .bool false, .bool false, u79, u80, u81, u82, u83, u84, u85, uN U, .int .u64 (IntKind.u64.wrap (((U : Nat) : Int) * 4294967296)), uN u1, .int .u64 (IntKind.u64.wrap (IntKind.u64.wrap (((U : Nat) : Int) * 4294967296) + ((u1 : Nat) : Int))), uN qA, uN Y, .int .u64 (IntKind.u64.wrap (((qA : Nat) : Int) * ((Y : Nat) : Int))), uN Vr, uN Vr, uN y1, uN (Vr / y1), uN Vr, uN (Vr / y1), uN y1, uN (Vr / y1 * y1), uN (Vr - Vr / y1 * y1), uN qB, .bool false, .bool false, uN qB, uN y0, uN (qB * y0), uN rB, uN (4294967296 * rB), uN u0, uN (4294967296 * rB + u0), .bool false, .bool false, u114, u115, u116, u117, u118, u119, u120, uN qA, uN (qA * 4294967296), uN qB, uN ((hi * 18446744073709551616 + lo) / y), uN Vr, .int .u64 (IntKind.u64.wrap (((Vr : Nat) : Int) * 4294967296)), uN u0, .int .u64 (IntKind.u64.wrap (IntKind.u64.wrap (((Vr : Nat) : Int) * 4294967296) + ((u0 : Nat) : Int))), uN qB, uN Y, .int .u64 (IntKind.u64.wrap (((qB : Nat) : Int) * ((Y : Nat) : Int))), uN ((Vr * 4294967296 + u0) % Y), uN s, uN (((Vr * 4294967296 + u0) % Y) >>> s)], []⟩ <| then_n <| u_ <| so_ (.tuple #[.int .u64 (((hi * 18446744073709551616 + lo) / y : Nat) : Int), .int .u64 ((((Vr * 4294967296 + u0) % Y) >>> s : Nat) : Int)]) ?_
          exact ⟨_, rfl, K8⟩
/-- Div64: the quotient of two words by one that is above the higher one. -/
theorem bDiv64_ok (hi lo y : Nat) (hh : hi < y) (hy2 : y < 18446744073709551616) (hlo : lo < 18446744073709551616) (w : World) : Calls Tryz.prog 94 #[.int .u64 ((hi : Nat) : Int), .int .u64 ((lo : Nat) : Int), .int .u64 ((y : Nat) : Int)] w (fun e w' => ∃ r : Nat, e = .returned (.tuple #[.int .u64 (((hi * 18446744073709551616 + lo) / y : Nat) : Int), .int .u64 ((r : Nat) : Int)]) ∧ Keeps Nob w w') := by
  by_cases hz : hi = 0
  · exact bDiv64_zero hi lo y hz (by omega) hlo w
  · exact bDiv64_pos hi lo y (by omega) hh hy2 hlo w
end Go.Proofs.YtghohakbepeffaaGreatDoor
namespace Go.Proofs.YtghohakbepeffaaGreatDoor
set_option maxRecDepth 100000
set_option maxHeartbeats 4000000
open Go Go.RowKit Go.Own Go.Shelf
theorem run_sub0 (x y : Nat) (w : World) : (callFunc 95 #[.int .u64 ((x : Nat) : Int), .int .u64 ((y : Nat) : Int), .int .u64 ((0 : Nat) : Int)]).run Tryz.prog w = .ok (.value (.tuple #[.int .u64 (((x + 18446744073709551616 - y - 0) % 18446744073709551616 : Nat) : Int), .int .u64 ((if x < y + 0 then 1 else 0 : Nat) : Int)])) w := by kernel_rfl
theorem run_sub1 (x y : Nat) (w : World) : (callFunc 95 #[.int .u64 ((x : Nat) : Int), .int .u64 ((y : Nat) : Int), .int .u64 ((1 : Nat) : Int)]).run Tryz.prog w = .ok (.value (.tuple #[.int .u64 (((x + 18446744073709551616 - y - 1) % 18446744073709551616 : Nat) : Int), .int .u64 ((if x < y + 1 then 1 else 0 : Nat) : Int)])) w := by kernel_rfl
theorem run_bSub64 (x y b : Nat) (hb : b ≤ 1) (w : World) : (callFunc 95 #[.int .u64 ((x : Nat) : Int), .int .u64 ((y : Nat) : Int), .int .u64 ((b : Nat) : Int)]).run Tryz.prog w = .ok (.value (.tuple #[.int .u64 (((x + 18446744073709551616 - y - b) % 18446744073709551616 : Nat) : Int), .int .u64 ((if x < y + b then 1 else 0 : Nat) : Int)])) w := by
  match b, hb with
  | 0, _ => exact run_sub0 x y w
  | 1, _ => exact run_sub1 x y w
theorem shr32 (x : Nat) : x >>> 32 = x / 4294967296 := Nat.shiftRight_eq_div_pow x 32
theorem and32 (x : Nat) : x &&& 4294967295 = x % 4294967296 := Nat.and_two_pow_sub_one_eq_mod x 32
theorem over_law {hi lo c : Nat} (_ : 0 < c) : (hi * 18446744073709551616 + lo) / c = hi / c * 18446744073709551616 + (hi % c * 18446744073709551616 + lo) / c := by
  have e := Nat.div_add_mod hi c
  have : hi * 18446744073709551616 + lo = (hi % c * 18446744073709551616 + lo) + c * (hi / c * 18446744073709551616) := by
    rw [← Nat.mul_assoc]
    conv => lhs; rw [← e]
    rw [Nat.add_mul]; omega
  rw [this, Nat.add_mul_div_left _ _ (by omega)]
  omega
theorem over_lt {hi lo c : Nat} (hc : 0 < c) (hl : lo < 18446744073709551616) : (hi % c * 18446744073709551616 + lo) / c < 18446744073709551616 := by
  rw [Nat.div_lt_iff_lt_mul hc]
  have := Nat.mod_lt hi hc
  have g := Nat.mul_le_mul_right 18446744073709551616 (Nat.succ_le_of_lt this)
  rw [Nat.mul_comm 18446744073709551616 c]
  rw [Nat.succ_mul] at g
  omega
noncomputable def qc54_3 (n : Nat) : Code := partOf Tryz.f93 n
theorem bMul64_ok (x y : Nat) (hx : x < 18446744073709551616) (hy : y < 18446744073709551616) (w : World) :
    Calls Tryz.prog 93 #[.int .u64 ((x : Nat) : Int), .int .u64 ((y : Nat) : Int)] w (fun e w' => e = .returned (.tuple #[.int .u64 ((x * y / 18446744073709551616 : Nat) : Int), .int .u64 ((x * y % 18446744073709551616 : Nat) : Int)]) ∧ w = w') := by
  obtain ⟨bd, bt, bw, hhi⟩ := Lib.mul64_hi x y hx hy
  have ba : (x / 4294967296) * (y / 4294967296) < 18446744073709551616 := by have := Lib.half_mul_le (a := x / 4294967296) (b := y / 4294967296) (by omega) (by omega); omega
  have bb : (x / 4294967296) * (y % 4294967296) < 18446744073709551616 := by have := Lib.half_mul_le (a := x / 4294967296) (b := y % 4294967296) (by omega) (by omega); omega
  have bc : (x % 4294967296) * (y / 4294967296) < 18446744073709551616 := by have := Lib.half_mul_le (a := x % 4294967296) (b := y / 4294967296) (by omega) (by omega); omega
  have bz : x * y / 18446744073709551616 < 18446744073709551616 := by rw [Nat.div_lt_iff_lt_mul (by decide)]; exact Nat.mul_lt_mul'' hx hy
  have K0 : Keeps Nob w w := Keeps.refl _ _
  refine sy_enter (qc54_3 1) ⟨#[uN x, uN y, ud, ud, ud, ud, ud, ud, ud, ud, ud, ud, ud, ud, ud, ud, ud, ud, ud, ud, ud, ud, ud, ud, ud, ud, ud, ud, ud, ud, ud, ud, ud, ud, ud, ud, ud, ud, ud, ud, ud, ud, ud, ud, ud, ud, ud, ud, ud, ud, ud], []⟩ Tryz.func93 (by kernel_rfl) (by kernel_rfl) <| qr_ [0, 1] <| pkq (.int .u64 0) <| pkq (.int .u64 0) <| eqr_ [0, 1, 2] <| pkq (uN x) <| ppq (uN (x % 4294967296)) (exec_cast ((andU x 4294967295 (show x < Kec.W from hx) (by decide)).trans (congrArg (fun n : Nat => Value.int .u64 (n : Int)) (and32 x))) (by kernel_rfl)) <| pkq (uN (x % 4294967296)) <| eqr_ [0, 1, 2] <| pkq (uN x) <| ppq (uN (x / 4294967296)) (exec_cast (congrArg (fun n : Nat => Value.int .u64 (n : Int)) (shr32 x)) (exec_binop .shr 40 169 (.tmp 16) (.const (.int .u64 32)) (by kernel_rfl) (uN x) (uN 32) _ (by kernel_rfl) (by kernel_rfl) (by kernel_rfl) (run_shrU _ _ x 32 (by omega)))) <| pkq (uN (x / 4294967296)) <| eqr_ [0, 1, 2] <| pkq (uN y) ?_
  refine ppq (uN (y % 4294967296)) (exec_cast ((andU y 4294967295 (show y < Kec.W from hy) (by decide)).trans (congrArg (fun n : Nat => Value.int .u64 (n : Int)) (and32 y))) (by kernel_rfl)) <| pkq (uN (y % 4294967296)) <| eqr_ [0, 1, 2] <| pkq (uN y) <| ppq (uN (y / 4294967296)) (exec_cast (congrArg (fun n : Nat => Value.int .u64 (n : Int)) (shr32 y)) (exec_binop .shr 40 169 (.tmp 20) (.const (.int .u64 32)) (by kernel_rfl) (uN y) (uN 32) _ (by kernel_rfl) (by kernel_rfl) (by kernel_rfl) (run_shrU _ _ y 32 (by omega)))) <| pkq (uN (y / 4294967296)) <| eqr_ [0, 1, 2, 3] <| pkq (uN (x % 4294967296)) <| pkq (uN (y % 4294967296)) <| ppq (uN ((x % 4294967296) * (y % 4294967296))) (exec_cast (congrArg (Value.int .u64) (wrapU ((x % 4294967296) * (y % 4294967296)) (bd))) (by kernel_rfl)) <| pkq (uN ((x % 4294967296) * (y % 4294967296))) <| eqr_ [0, 1, 2, 3, 4, 5, 6] <| pkq (uN (x / 4294967296)) <| pkq (uN (y % 4294967296)) ?_
  refine ppq (uN ((x / 4294967296) * (y % 4294967296))) (exec_cast (congrArg (Value.int .u64) (wrapU ((x / 4294967296) * (y % 4294967296)) (bb))) (by kernel_rfl)) <| pkq (uN ((x % 4294967296) * (y % 4294967296))) <| ppq (uN (((x % 4294967296) * (y % 4294967296)) / 4294967296)) (exec_cast (congrArg (fun n : Nat => Value.int .u64 (n : Int)) (shr32 ((x % 4294967296) * (y % 4294967296)))) (exec_binop .shr 40 169 (.tmp 28) (.const (.int .u64 32)) (by kernel_rfl) (uN ((x % 4294967296) * (y % 4294967296))) (uN 32) _ (by kernel_rfl) (by kernel_rfl) (by kernel_rfl) (run_shrU _ _ ((x % 4294967296) * (y % 4294967296)) 32 (by omega)))) <| ppq (uN ((x / 4294967296) * (y % 4294967296) + ((x % 4294967296) * (y % 4294967296)) / 4294967296)) (exec_cast (congrArg (Value.int .u64) (wrapU ((x / 4294967296) * (y % 4294967296) + ((x % 4294967296) * (y % 4294967296)) / 4294967296) (bt))) (by kernel_rfl)) <| pkq (uN ((x / 4294967296) * (y % 4294967296) + ((x % 4294967296) * (y % 4294967296)) / 4294967296)) <| ps_end <| sy_a ⟨#[uN x, uN y, ud, ud, .int .u64 0, .int .u64 0, uN (x % 4294967296), uN (x / 4294967296), uN (y % 4294967296), uN (y / 4294967296), uN ((x % 4294967296) * (y % 4294967296)), uN ((x / 4294967296) * (y % 4294967296) + ((x % 4294967296) * (y % 4294967296)) / 4294967296), ud, ud, uN x, uN (x % 4294967296), uN x, uN (x / 4294967296), uN y, uN (y % 4294967296), uN y, uN (y / 4294967296), uN (x % 4294967296), uN (y % 4294967296), uN ((x % 4294967296) * (y % 4294967296)), uN (x / 4294967296), uN (y % 4294967296), uN ((x / 4294967296) * (y % 4294967296)), uN ((x % 4294967296) * (y % 4294967296)), uN (((x % 4294967296) * (y % 4294967296)) / 4294967296), uN ((x / 4294967296) * (y % 4294967296) + ((x % 4294967296) * (y % 4294967296)) / 4294967296), ud, ud, ud, ud, ud, ud, ud, ud, ud, ud, ud, ud, ud, ud, ud, ud, ud, ud, ud, ud], []⟩ <| tqr_ [0, 1, 2] <| pkq (uN ((x / 4294967296) * (y % 4294967296) + ((x % 4294967296) * (y % 4294967296)) / 4294967296)) <| ppq (uN (((x / 4294967296) * (y % 4294967296) + ((x % 4294967296) * (y % 4294967296)) / 4294967296) % 4294967296)) (exec_cast ((andU ((x / 4294967296) * (y % 4294967296) + ((x % 4294967296) * (y % 4294967296)) / 4294967296) 4294967295 (show _ < Kec.W from bt) (by decide)).trans (congrArg (fun n : Nat => Value.int .u64 (n : Int)) (and32 ((x / 4294967296) * (y % 4294967296) + ((x % 4294967296) * (y % 4294967296)) / 4294967296)))) (by kernel_rfl)) <| pkq (uN (((x / 4294967296) * (y % 4294967296) + ((x % 4294967296) * (y % 4294967296)) / 4294967296) % 4294967296)) <| eqr_ [0, 1, 2] <| pkq (uN ((x / 4294967296) * (y % 4294967296) + ((x % 4294967296) * (y % 4294967296)) / 4294967296)) <| ppq (uN (((x / 4294967296) * (y % 4294967296) + ((x % 4294967296) * (y % 4294967296)) / 4294967296) / 4294967296)) (exec_cast (congrArg (fun n : Nat => Value.int .u64 (n : Int)) (shr32 ((x / 4294967296) * (y % 4294967296) + ((x % 4294967296) * (y % 4294967296)) / 4294967296))) (exec_binop .shr 40 169 (.tmp 33) (.const (.int .u64 32)) (by kernel_rfl) (uN ((x / 4294967296) * (y % 4294967296) + ((x % 4294967296) * (y % 4294967296)) / 4294967296)) (uN 32) _ (by kernel_rfl) (by kernel_rfl) (by kernel_rfl) (run_shrU _ _ ((x / 4294967296) * (y % 4294967296) + ((x % 4294967296) * (y % 4294967296)) / 4294967296) 32 (by omega)))) ?_
  refine pkq (uN (((x / 4294967296) * (y % 4294967296) + ((x % 4294967296) * (y % 4294967296)) / 4294967296) / 4294967296)) <| eqr_ [0, 1, 2, 3, 4, 5] <| pkq (uN (((x / 4294967296) * (y % 4294967296) + ((x % 4294967296) * (y % 4294967296)) / 4294967296) % 4294967296)) <| pkq (uN (x % 4294967296)) <| pkq (uN (y / 4294967296)) <| ppq (uN ((x % 4294967296) * (y / 4294967296))) (exec_cast (congrArg (Value.int .u64) (wrapU ((x % 4294967296) * (y / 4294967296)) (bc))) (by kernel_rfl)) <| ppq (uN (((x / 4294967296) * (y % 4294967296) + ((x % 4294967296) * (y % 4294967296)) / 4294967296) % 4294967296 + (x % 4294967296) * (y / 4294967296))) (exec_cast (congrArg (Value.int .u64) (wrapU (((x / 4294967296) * (y % 4294967296) + ((x % 4294967296) * (y % 4294967296)) / 4294967296) % 4294967296 + (x % 4294967296) * (y / 4294967296)) (bw))) (by kernel_rfl)) <| pkq (uN (((x / 4294967296) * (y % 4294967296) + ((x % 4294967296) * (y % 4294967296)) / 4294967296) % 4294967296 + (x % 4294967296) * (y / 4294967296))) <| eqr_ [0, 1, 2, 3, 4, 5, 6, 7, 8] <| pkq (uN (x / 4294967296)) <| pkq (uN (y / 4294967296)) <| ppq (uN ((x / 4294967296) * (y / 4294967296))) (exec_cast (congrArg (Value.int .u64) (wrapU ((x / 4294967296) * (y / 4294967296)) (ba))) (by kernel_rfl)) <| pkq (uN (((x / 4294967296) * (y % 4294967296) + ((x % 4294967296) * (y % 4294967296)) / 4294967296) / 4294967296)) <| ppq (uN ((x / 4294967296) * (y / 4294967296) + ((x / 4294967296) * (y % 4294967296) + ((x % 4294967296) * (y % 4294967296)) / 4294967296) / 4294967296)) (exec_cast (congrArg (Value.int .u64) (wrapU ((x / 4294967296) * (y / 4294967296) + ((x / 4294967296) * (y % 4294967296) + ((x % 4294967296) * (y % 4294967296)) / 4294967296) / 4294967296) (by omega))) (by kernel_rfl)) ?_
  refine pkq (uN (((x / 4294967296) * (y % 4294967296) + ((x % 4294967296) * (y % 4294967296)) / 4294967296) % 4294967296 + (x % 4294967296) * (y / 4294967296))) <| ppq (uN ((((x / 4294967296) * (y % 4294967296) + ((x % 4294967296) * (y % 4294967296)) / 4294967296) % 4294967296 + (x % 4294967296) * (y / 4294967296)) / 4294967296)) (exec_cast (congrArg (fun n : Nat => Value.int .u64 (n : Int)) (shr32 (((x / 4294967296) * (y % 4294967296) + ((x % 4294967296) * (y % 4294967296)) / 4294967296) % 4294967296 + (x % 4294967296) * (y / 4294967296)))) (exec_binop .shr 40 169 (.tmp 45) (.const (.int .u64 32)) (by kernel_rfl) (uN (((x / 4294967296) * (y % 4294967296) + ((x % 4294967296) * (y % 4294967296)) / 4294967296) % 4294967296 + (x % 4294967296) * (y / 4294967296))) (uN 32) _ (by kernel_rfl) (by kernel_rfl) (by kernel_rfl) (run_shrU _ _ (((x / 4294967296) * (y % 4294967296) + ((x % 4294967296) * (y % 4294967296)) / 4294967296) % 4294967296 + (x % 4294967296) * (y / 4294967296)) 32 (by omega)))) <| ppq (uN (x * y / 18446744073709551616)) (exec_cast (congrArg (Value.int .u64) ((wrapU ((x / 4294967296) * (y / 4294967296) + ((x / 4294967296) * (y % 4294967296) + ((x % 4294967296) * (y % 4294967296)) / 4294967296) / 4294967296 + (((x / 4294967296) * (y % 4294967296) + ((x % 4294967296) * (y % 4294967296)) / 4294967296) % 4294967296 + (x % 4294967296) * (y / 4294967296)) / 4294967296) (by omega)).trans (congrArg (fun n : Nat => (n : Int)) hhi))) (by kernel_rfl)) <| pkq (uN (x * y / 18446744073709551616)) <| eqr_ [0, 1, 2, 3] <| pkq (uN x) <| pkq (uN y) <| ppq (uN (x * y % 18446744073709551616)) (exec_cast (congrArg (Value.int .u64) (wrapM (x * y))) (by kernel_rfl)) <| pkq (uN (x * y % 18446744073709551616)) <| ps_end <| sy_a ⟨#[uN x, uN y, ud, ud, uN (x * y / 18446744073709551616), uN (x * y % 18446744073709551616), uN (x % 4294967296), uN (x / 4294967296), uN (y % 4294967296), uN (y / 4294967296), uN ((x % 4294967296) * (y % 4294967296)), uN ((x / 4294967296) * (y % 4294967296) + ((x % 4294967296) * (y % 4294967296)) / 4294967296), uN (((x / 4294967296) * (y % 4294967296) + ((x % 4294967296) * (y % 4294967296)) / 4294967296) % 4294967296 + (x % 4294967296) * (y / 4294967296)), uN (((x / 4294967296) * (y % 4294967296) + ((x % 4294967296) * (y % 4294967296)) / 4294967296) / 4294967296), uN x, uN (x % 4294967296), uN x, uN (x / 4294967296), uN y, uN (y % 4294967296), uN y, uN (y / 4294967296), uN (x % 4294967296), uN (y % 4294967296), uN ((x % 4294967296) * (y % 4294967296)), uN (x / 4294967296), uN (y % 4294967296), uN ((x / 4294967296) * (y % 4294967296)), uN ((x % 4294967296) * (y % 4294967296)), uN (((x % 4294967296) * (y % 4294967296)) / 4294967296), uN ((x / 4294967296) * (y % 4294967296) + ((x % 4294967296) * (y % 4294967296)) / 4294967296), uN ((x / 4294967296) * (y % 4294967296) + ((x % 4294967296) * (y % 4294967296)) / 4294967296), uN (((x / 4294967296) * (y % 4294967296) + ((x % 4294967296) * (y % 4294967296)) / 4294967296) % 4294967296), uN ((x / 4294967296) * (y % 4294967296) + ((x % 4294967296) * (y % 4294967296)) / 4294967296), uN (((x / 4294967296) * (y % 4294967296) + ((x % 4294967296) * (y % 4294967296)) / 4294967296) / 4294967296), uN (((x / 4294967296) * (y % 4294967296) + ((x % 4294967296) * (y % 4294967296)) / 4294967296) % 4294967296), uN (x % 4294967296), uN (y / 4294967296), uN ((x % 4294967296) * (y / 4294967296)), uN (((x / 4294967296) * (y % 4294967296) + ((x % 4294967296) * (y % 4294967296)) / 4294967296) % 4294967296 + (x % 4294967296) * (y / 4294967296)), uN (x / 4294967296), uN (y / 4294967296), uN ((x / 4294967296) * (y / 4294967296)), uN (((x / 4294967296) * (y % 4294967296) + ((x % 4294967296) * (y % 4294967296)) / 4294967296) / 4294967296), uN ((x / 4294967296) * (y / 4294967296) + ((x / 4294967296) * (y % 4294967296) + ((x % 4294967296) * (y % 4294967296)) / 4294967296) / 4294967296), uN (((x / 4294967296) * (y % 4294967296) + ((x % 4294967296) * (y % 4294967296)) / 4294967296) % 4294967296 + (x % 4294967296) * (y / 4294967296)), uN ((((x / 4294967296) * (y % 4294967296) + ((x % 4294967296) * (y % 4294967296)) / 4294967296) % 4294967296 + (x % 4294967296) * (y / 4294967296)) / 4294967296), uN (x * y / 18446744073709551616), uN x, uN y, uN (x * y % 18446744073709551616)], []⟩ <| then_n <| u_ <| so_ (.tuple #[.int .u64 ((x * y / 18446744073709551616 : Nat) : Int), .int .u64 ((x * y % 18446744073709551616 : Nat) : Int)]) ?_
  exact ⟨rfl, rfl⟩
noncomputable def qc54_2 (n : Nat) : Code := partOf Tryz.f79 n
theorem fxTimes_ok (x y : Nat) (hx : x < 18446744073709551616) (hy : y < 18446744073709551616) (w : World) :
    Calls Tryz.prog 79 #[.int .u64 ((x : Nat) : Int), .int .u64 ((y : Nat) : Int)] w (fun e w' => e = .returned (.agg #[.int .u64 ((x * y / 18446744073709551616 : Nat) : Int), .int .u64 ((x * y % 18446744073709551616 : Nat) : Int)]) ∧ Keeps Nob w w') := by
  have K0 : Keeps Nob w w := Keeps.refl _ _
  refine sy_enter (qc54_2 1) ⟨#[uN x, uN y, ud, ud, ud, ud, ud, ud, ud, ud, ud, ud, ud, ud, ud, ud], []⟩ Tryz.func79 (by kernel_rfl) (by kernel_rfl) <| qr_ [0] <| pal 123 (#[.int .u64 0, .int .u64 0]) (.agg (#[.int .u64 0, .int .u64 0])) fun V1 gw egw h2 kV1 => ?_
  have n3 : w.heap.size ≤ gw := egw ▸ K0.size
  have K4 := K0.nn kV1
  have z5 := kV1.size
  refine eqr_ [0, 1, 2, 3, 4, 5, 6, 7] <| pkq (uN x) <| pkq (uN y) ?_
  refine pcq 93 #[uN x, uN y] Tryz.func93 ((bMul64_ok x y hx hy _).mono ?_)
  rintro e w1 ⟨rfl, rfl⟩
  refine ⟨_, rfl, ?_⟩
  refine pkq (.tuple #[uN (x * y / 18446744073709551616), uN (x * y % 18446744073709551616)]) <| pkq (uN (x * y / 18446744073709551616)) <| pkq (uN (x * y % 18446744073709551616)) <| pkq (uN (x * y / 18446744073709551616)) <| pkq (uN (x * y % 18446744073709551616)) <| eqr_ [0, 1, 2, 3] <| pkq (uN (x * y / 18446744073709551616)) <| pkq (uN (x * y % 18446744073709551616)) <| pkq (.agg #[uN (x * y / 18446744073709551616), uN (x * y % 18446744073709551616)]) ?_
  obtain ⟨V6, eV6, kV6⟩ := rowset_step V1 gw (#[.int .u64 ((x * y / 18446744073709551616 : Nat) : Int), .int .u64 ((x * y % 18446744073709551616 : Nat) : Int)])
  have h7 : V6.heap[gw]? = some (.cells (#[.int .u64 ((x * y / 18446744073709551616 : Nat) : Int), .int .u64 ((x * y % 18446744073709551616 : Nat) : Int)]) 123 (0, 0)) := eV6 ▸ setRow_heap _ _ _ _ _ _ h2
  refine pzq (w' := V6) (by rw [← eV6]; exact exec_store_row 123 (.tmp 4) (.tmp 15) (by kernel_rfl) gw (#[uN (x * y / 18446744073709551616), uN (x * y % 18446744073709551616)]) (by kernel_rfl) (by kernel_rfl) 123 (#[.int .u64 0, .int .u64 0]) h2 (by kernel_rfl) rfl (by kernel_rfl)) ?_
  clear eV6
  have K8 := K4.nO kV6
  have z9 := kV6.size
  refine eu_ <| sy_out (.agg (#[.int .u64 ((x * y / 18446744073709551616 : Nat) : Int), .int .u64 ((x * y % 18446744073709551616 : Nat) : Int)])) rfl (results_cell_row (p := 4) (ty := 123) (by kernel_rfl) _ _ gw 123 (#[.int .u64 ((x * y / 18446744073709551616 : Nat) : Int), .int .u64 ((x * y % 18446744073709551616 : Nat) : Int)]) (0, 0) _ (by kernel_rfl) h7 Tryz.underlying123 rfl (by kernel_rfl)) ?_
  exact ⟨rfl, K8⟩
noncomputable def qc54_4 (n : Nat) : Code := partOf Tryz.f80 n
theorem fxOver_ok (hi lo c : Nat) (hhi : hi < 18446744073709551616) (hlo : lo < 18446744073709551616) (hc : 0 < c) (hc2 : c < 18446744073709551616) (w : World) :
    Calls Tryz.prog 80 #[.agg #[.int .u64 ((hi : Nat) : Int), .int .u64 ((lo : Nat) : Int)], .int .u64 ((c : Nat) : Int)] w (fun e w' => ∃ r : Nat, e = .returned (.tuple #[.agg #[.int .u64 ((hi / c : Nat) : Int), .int .u64 (((hi % c * 18446744073709551616 + lo) / c : Nat) : Int)], .int .u64 ((r : Nat) : Int)]) ∧ Keeps Nob w w') := by
  have K0 : Keeps Nob w w := Keeps.refl _ _
  refine sy_enter (qc54_4 1) ⟨#[.agg #[uN hi, uN lo], uN c, ud, ud, ud, ud, ud, ud, ud, ud, ud, ud, ud, ud, ud, ud, ud, ud, ud, ud, ud, ud, ud, ud, ud, ud], []⟩ Tryz.func80 (by kernel_rfl) (by kernel_rfl) <| qr_ [0, 1, 2] <| pbx 123 (#[.int .u64 ((hi : Nat) : Int), .int .u64 ((lo : Nat) : Int)]) (.agg #[uN hi, uN lo]) fun V1 gx egx h2 kV1 => ?_
  have n3 : w.heap.size ≤ gx := egx ▸ K0.size
  have K4 := K0.nn kV1
  have z5 := kV1.size
  refine pal 123 (#[.int .u64 0, .int .u64 0]) (.agg (#[.int .u64 0, .int .u64 0])) fun V6 gw egw h7 kV6 => ?_
  have n8 : gx < gw := egw ▸ lt_of_block h2
  have n9 : w.heap.size ≤ gw := egw ▸ K4.size
  have h10 := kV6.bk h2
  have K11 := K4.nn kV6
  have z12 := kV6.size
  refine pkq (.int .u64 0) <| eq_ <| sy_np <| sy_reg <| an_begin 1 13 (opsAt (qc54_4 6)) (fun W => (W.heap[gx]? = some (.cells (#[.int .u64 ((hi : Nat) : Int), .int .u64 ((lo : Nat) : Int)]) 123 (0, 0))) ∧ (W.heap[gw]? = some (.cells (#[.int .u64 0, .int .u64 0]) 123 (0, 0)))) #[false, false, false, false, false, false, false, false, false, false, false, false, false] (by kernel_rfl) (by kernel_rfl) (by kernel_rfl) (by kernel_rfl) ?_
  obtain ⟨V13, eV13, kV13⟩ := drew_step V6
  rw [eV13]
  clear eV13
  have h14 := kV13.bk h10
  have h15 := kV13.bk h7
  have K16 := K11.nn kV13
  have z17 := kV13.size
  refine akq 0 (pT gx 0) ⟨h14, h15⟩ <| avq 1 (uN hi) (fun W hS => ldc 40 gx 0 (rc (hS.1) (by kernel_rfl))) ⟨h14, h15⟩ <| akq 2 (uN c) ⟨h14, h15⟩ <| avq 3 (uN (hi % c)) (fun W hS => exec_remU 40 40 (.tmp 10) (.tmp 11) (by kernel_rfl) hi c (by kernel_rfl) (by kernel_rfl) hc hhi) ⟨h14, h15⟩ <| akq 4 (pT gx 1) ⟨h14, h15⟩ <| avq 5 (uN lo) (fun W hS => ldc 40 gx 1 (rc (hS.1) (by kernel_rfl))) ⟨h14, h15⟩ <| akq 6 (uN c) ⟨h14, h15⟩ <| an_o 7 ?_
  refine ncq 94 #[uN (hi % c), uN lo, uN c] Tryz.func94 ((bDiv64_ok (hi % c) lo c (Nat.mod_lt _ hc) hc2 hlo _).mono ?_)
  rintro e V18 ⟨r, rfl, kV18⟩
  refine ⟨_, rfl, ?_⟩
  have h19 := kV18.bk h14
  have h20 := kV18.bk h15
  have K21 := K16.nn kV18
  have z22 := kV18.size
  refine ⟨⟨h19, h20⟩, ?_⟩
  refine akq 8 (.tuple #[uN ((hi % c * 18446744073709551616 + lo) / c), uN r]) ⟨h19, h20⟩ <| akq 9 (uN ((hi % c * 18446744073709551616 + lo) / c)) ⟨h19, h20⟩ <| akq 10 (uN r) ⟨h19, h20⟩ <| an_o 11 <| nrq (uN ((hi % c * 18446744073709551616 + lo) / c)) (w' := V18) (by kernel_rfl) ?_
  refine ⟨⟨h19, h20⟩, ?_⟩
  refine an_o 12 <| nrq (uN r) (w' := V18) (by kernel_rfl) ?_
  refine ⟨⟨h19, h20⟩, ?_⟩
  refine an_end (by kernel_rfl) <| tqr_ [0, 1, 2, 3, 4, 5, 6, 7, 8] <| pkq (pT gx 0) <| ppq (uN hi) (ldk 40 gx 0 h19) <| pkq (uN c) <| ppq (uN (hi / c)) (exec_quoU 40 40 (.tmp 20) (.tmp 21) (by kernel_rfl) hi c (by kernel_rfl) (by kernel_rfl) hc hhi) <| pkq (uN ((hi % c * 18446744073709551616 + lo) / c)) <| pkq (.agg #[uN (hi / c), uN ((hi % c * 18446744073709551616 + lo) / c)]) <| pkq (uN r) ?_
  obtain ⟨V23, eV23, kV23⟩ := rowset_step V18 gw (#[.int .u64 ((hi / c : Nat) : Int), .int .u64 (((hi % c * 18446744073709551616 + lo) / c : Nat) : Int)])
  have h24 : V23.heap[gw]? = some (.cells (#[.int .u64 ((hi / c : Nat) : Int), .int .u64 (((hi % c * 18446744073709551616 + lo) / c : Nat) : Int)]) 123 (0, 0)) := eV23 ▸ setRow_heap _ _ _ _ _ _ h20
  refine pzq (w' := V23) (by rw [← eV23]; exact exec_store_row 123 (.tmp 4) (.tmp 24) (by kernel_rfl) gw (#[uN (hi / c), uN ((hi % c * 18446744073709551616 + lo) / c)]) (by kernel_rfl) (by kernel_rfl) 123 (#[.int .u64 0, .int .u64 0]) h20 (by kernel_rfl) rfl (by kernel_rfl)) ?_
  clear eV23
  have K26 := K21.nO kV23
  have z27 := kV23.size
  refine pkq (uN r) <| ps_end <| sy_a ⟨#[.agg #[uN hi, uN lo], uN c, pT gx 0, ud, pT gw 0, uN r, uN ((hi % c * 18446744073709551616 + lo) / c), uN r, .tuple #[uN ((hi % c * 18446744073709551616 + lo) / c), uN r], pT gx 0, uN hi, uN c, uN (hi % c), pT gx 1, uN lo, uN c, .tuple #[uN ((hi % c * 18446744073709551616 + lo) / c), uN r], uN ((hi % c * 18446744073709551616 + lo) / c), uN r, pT gx 0, uN hi, uN c, uN (hi / c), uN ((hi % c * 18446744073709551616 + lo) / c), .agg #[uN (hi / c), uN ((hi % c * 18446744073709551616 + lo) / c)], uN r], []⟩ <| then_n <| u_ <| sy_out (.tuple #[.agg (#[.int .u64 ((hi / c : Nat) : Int), .int .u64 (((hi % c * 18446744073709551616 + lo) / c : Nat) : Int)]), .int .u64 ((r : Nat) : Int)]) rfl (results_row_tmp (p := 4) (q := 5) (ty := 123) (by kernel_rfl) _ _ gw 123 (#[.int .u64 ((hi / c : Nat) : Int), .int .u64 (((hi % c * 18446744073709551616 + lo) / c : Nat) : Int)]) (0, 0) _ (.int .u64 ((r : Nat) : Int)) (by kernel_rfl) h24 Tryz.underlying123 rfl (by kernel_rfl) (by kernel_rfl)) ?_
  exact ⟨_, rfl, K26⟩
noncomputable def qc54_1 (n : Nat) : Code := partOf Tryz.f81 n
theorem fxBelow_ok (m hi lo : Nat) (hm : m < 18446744073709551616) (hhi : hi < 18446744073709551616) (hlo : lo < 18446744073709551616) (w : World) :
    Calls Tryz.prog 81 #[.agg #[.int .u64 0, .int .u64 ((m : Nat) : Int)], .agg #[.int .u64 ((hi : Nat) : Int), .int .u64 ((lo : Nat) : Int)]] w (fun e w' => e = .returned (.bool (decide (0 < hi ∨ m < lo))) ∧ Keeps Nob w w') := by
  obtain ⟨bo, hbo⟩ : ∃ z, (if m < lo + 0 then 1 else 0 : Nat) = z := ⟨_, rfl⟩
  have hb1 : bo ≤ 1 := by rw [← hbo]; split <;> omega
  obtain ⟨bp, hbp⟩ : ∃ z, (if 0 < hi + bo then 1 else 0 : Nat) = z := ⟨_, rfl⟩
  have hres : ((((bp : Nat) : Int)) == (1 : Int)) = decide (0 < hi ∨ m < lo) := by rw [← hbp, ← hbo]; by_cases q1 : m < lo <;> by_cases q2 : 0 < hi <;> simp [q1, q2]
  have K0 : Keeps Nob w w := Keeps.refl _ _
  refine sy_enter (qc54_1 1) ⟨#[.agg #[.int .u64 0, uN m], .agg #[uN hi, uN lo], ud, ud, ud, ud, ud, ud, ud, ud, ud, ud, ud, ud, ud, ud, ud, ud, ud, ud, ud, ud, ud, ud, ud, ud], []⟩ Tryz.func81 (by kernel_rfl) (by kernel_rfl) <| qr_ [0, 1, 2] <| pbx 123 (#[.int .u64 0, .int .u64 ((m : Nat) : Int)]) (.agg #[.int .u64 0, uN m]) fun V1 gx egx h2 kV1 => ?_
  have n3 : w.heap.size ≤ gx := egx ▸ K0.size
  have K4 := K0.nn kV1
  have z5 := kV1.size
  refine pbx 123 (#[.int .u64 ((hi : Nat) : Int), .int .u64 ((lo : Nat) : Int)]) (.agg #[uN hi, uN lo]) fun V6 gw egw h7 kV6 => ?_
  have n8 : gx < gw := egw ▸ lt_of_block h2
  have n9 : w.heap.size ≤ gw := egw ▸ K4.size
  have h10 := kV6.bk h2
  have K11 := K4.nn kV6
  have z12 := kV6.size
  refine pkq (.bool false) <| eqr_ [0, 1, 2, 3, 4, 5, 6, 7, 8, 9] <| pkq (pT gx 1) <| ppq (uN m) (ldk 40 gx 1 h10) <| pkq (pT gw 1) <| ppq (uN lo) (ldk 40 gw 1 h7) <| ppq (.tuple #[uN ((m + 18446744073709551616 - lo - 0) % 18446744073709551616), uN (if m < lo + 0 then 1 else 0)]) (exec_ext 95 #[uN m, uN lo, .int .u64 0] _ (by kernel_rfl) (by kernel_rfl) (by kernel_rfl) (run_bSub64 m lo 0 (by decide) _)) <| pkq (.tuple #[uN ((m + 18446744073709551616 - lo - 0) % 18446744073709551616), uN (if m < lo + 0 then 1 else 0)]) <| pkq (uN ((m + 18446744073709551616 - lo - 0) % 18446744073709551616)) <| ppq (uN bo) (exec_cast (congrArg (fun n : Nat => Value.int .u64 (n : Int)) hbo) (by kernel_rfl)) <| pkq (uN ((m + 18446744073709551616 - lo - 0) % 18446744073709551616)) <| pkq (uN bo) <| eqr_ [0, 1, 2, 3, 4, 5, 6, 7, 8, 9] <| pkq (pT gx 0) ?_
  refine ppq (.int .u64 0) (ldk 40 gx 0 h10) <| pkq (pT gw 0) <| ppq (uN hi) (ldk 40 gw 0 h7) <| pkq (uN bo) <| ppq (.tuple #[uN ((0 + 18446744073709551616 - hi - bo) % 18446744073709551616), uN (if 0 < hi + bo then 1 else 0)]) (exec_ext 95 #[.int .u64 0, uN hi, uN bo] _ (by kernel_rfl) (by kernel_rfl) (by kernel_rfl) (run_bSub64 0 hi bo hb1 _)) <| pkq (.tuple #[uN ((0 + 18446744073709551616 - hi - bo) % 18446744073709551616), uN (if 0 < hi + bo then 1 else 0)]) <| pkq (uN ((0 + 18446744073709551616 - hi - bo) % 18446744073709551616)) <| ppq (uN bp) (exec_cast (congrArg (fun n : Nat => Value.int .u64 (n : Int)) hbp) (by kernel_rfl)) <| pkq (uN bp) <| eqr_ [0, 1, 2] <| pkq (uN bp) <| ppq (.bool (decide (0 < hi ∨ m < lo))) (exec_cast (congrArg Value.bool hres) (by kernel_rfl)) <| pkq (.bool (decide (0 < hi ∨ m < lo))) <| ps_end ?_
  refine sy_a ⟨#[.agg #[.int .u64 0, uN m], .agg #[uN hi, uN lo], pT gx 0, pT gw 0, .bool (decide (0 < hi ∨ m < lo)), uN ((m + 18446744073709551616 - lo - 0) % 18446744073709551616), uN bp, .tuple #[uN ((m + 18446744073709551616 - lo - 0) % 18446744073709551616), uN (if m < lo + 0 then 1 else 0)], pT gx 1, uN m, pT gw 1, uN lo, .tuple #[uN ((m + 18446744073709551616 - lo - 0) % 18446744073709551616), uN (if m < lo + 0 then 1 else 0)], uN ((m + 18446744073709551616 - lo - 0) % 18446744073709551616), uN bo, .tuple #[uN ((0 + 18446744073709551616 - hi - bo) % 18446744073709551616), uN (if 0 < hi + bo then 1 else 0)], pT gx 0, .int .u64 0, pT gw 0, uN hi, uN bo, .tuple #[uN ((0 + 18446744073709551616 - hi - bo) % 18446744073709551616), uN (if 0 < hi + bo then 1 else 0)], uN ((0 + 18446744073709551616 - hi - bo) % 18446744073709551616), uN bp, uN bp, .bool (decide (0 < hi ∨ m < lo))], []⟩ <| then_n <| u_ <| so_ (.bool (decide (0 < hi ∨ m < lo))) ?_
  exact ⟨rfl, K11⟩
theorem over_is {qh ql q1 q2 : Nat} {args : Array Value} {w : World} (h1 : q1 = qh) (h2 : q2 = ql) (h : Calls Tryz.prog 80 args w (fun e w' => ∃ r : Nat, e = .returned (.tuple #[.agg #[.int .u64 ((q1 : Nat) : Int), .int .u64 ((q2 : Nat) : Int)], .int .u64 ((r : Nat) : Int)]) ∧ Keeps Nob w w')) : Calls Tryz.prog 80 args w (fun e w' => ∃ r : Nat, e = .returned (.tuple #[.agg #[.int .u64 ((qh : Nat) : Int), .int .u64 ((ql : Nat) : Int)], .int .u64 ((r : Nat) : Int)]) ∧ Keeps Nob w w') := h1 ▸ h2 ▸ h
theorem below_is {x : Bool} (y : Bool) {args : Array Value} {w : World} (h1 : x = y) (h : Calls Tryz.prog 81 args w (fun e w' => e = .returned (.bool x) ∧ Keeps Nob w w')) : Calls Tryz.prog 81 args w (fun e w' => e = .returned (.bool y) ∧ Keeps Nob w w') := h1 ▸ h
theorem cap_big {m t qh ql : Nat} {x : Value} (hqt : t = qh * 18446744073709551616 + ql) (hl : ql < 18446744073709551616) (h : 0 < qh ∨ m < ql) (hm : m < 18446744073709551616) : (Ending.returned (.tuple #[.int .u64 ((m : Nat) : Int), x])) = .returned (.tuple #[.int .u64 ((min m t : Nat) : Int), x]) := by
  rw [show min m t = m by omega]
theorem cap_small {m t qh ql : Nat} {x : Value} (hqt : t = qh * 18446744073709551616 + ql) (h : ¬ (0 < qh ∨ m < ql)) : (Ending.returned (.tuple #[.int .u64 ((ql : Nat) : Int), x])) = .returned (.tuple #[.int .u64 ((min m t : Nat) : Int), x]) := by
  rw [show min m t = ql by omega]
noncomputable def qc54_0 (n : Nat) : Code := partOf Tryz.f57 n
theorem fxCapped_big (m a b c qh ql : Nat) (hm : m < 18446744073709551616) (ha : a < 18446744073709551616) (hb : b < 18446744073709551616) (hc : 0 < c) (hc2 : c < 18446744073709551616) (hqh : a * b / 18446744073709551616 / c = qh) (hql : (a * b / 18446744073709551616 % c * 18446744073709551616 + a * b % 18446744073709551616) / c = ql) (hqt : a * b / c = qh * 18446744073709551616 + ql) (hqh2 : qh < 18446744073709551616) (hql2 : ql < 18446744073709551616) (hbig : 0 < qh ∨ m < ql) (w : World) :
    Calls Tryz.prog 57 #[.int .u64 ((m : Nat) : Int), .int .u64 ((a : Nat) : Int), .int .u64 ((b : Nat) : Int), .int .u64 ((c : Nat) : Int)] w (fun e w' => e = .returned (.tuple #[.int .u64 ((min m (a * b / c) : Nat) : Int), .int .i64 0]) ∧ Keeps Nob w w') := by
  have hab : a * b / 18446744073709551616 < 18446744073709551616 := by rw [Nat.div_lt_iff_lt_mul (by decide)]; exact Nat.mul_lt_mul'' ha hb
  have K0 : Keeps Nob w w := Keeps.refl _ _
  refine sy_enter (qc54_0 1) ⟨#[uN m, uN a, uN b, uN c, ud, ud, ud, ud, ud, ud, ud, ud, ud, ud, ud, ud, ud, ud, ud, ud, ud, ud, ud, ud, ud, ud, ud, ud, ud, ud, ud], []⟩ Tryz.func57 (by kernel_rfl) (by kernel_rfl) <| qr_ [0, 1] <| pkq (.int .u64 0) <| pkq (.int .i64 0) <| eq_ <| qr_ [0, 1] <| pkq (uN c) <| ppq (.bool false) (eqf (((c : Nat) : Int)) ((0) : Int) (by omega)) <| en_ <| s_ <| tqr_ [0, 1, 2, 3, 4, 5, 6, 7, 8, 9, 10] <| pkq (uN a) <| pkq (uN b) ?_
  refine pcq 79 #[uN a, uN b] Tryz.func79 ((fxTimes_ok a b ha hb _).mono ?_)
  rintro e V1 ⟨rfl, kV1⟩
  refine ⟨_, rfl, ?_⟩
  have K2 := K0.nn kV1
  have z3 := kV1.size
  refine pkq (uN c) ?_
  refine pcq 80 #[.agg #[uN (a * b / 18446744073709551616), uN (a * b % 18446744073709551616)], uN c] Tryz.func80 ((over_is hqh hql (fxOver_ok (a * b / 18446744073709551616) (a * b % 18446744073709551616) c hab (Nat.mod_lt _ (by decide)) hc hc2 _)).mono ?_)
  rintro e V4 ⟨r, rfl, kV4⟩
  refine ⟨_, rfl, ?_⟩
  have K5 := K2.nn kV4
  have z6 := kV4.size
  refine pkq (.tuple #[.agg #[uN qh, uN ql], uN r]) <| pkq (.agg #[uN qh, uN ql]) <| pkq (uN r) <| pal 123 (#[.int .u64 0, .int .u64 0]) (.agg (#[.int .u64 0, .int .u64 0])) fun V7 gw egw h8 kV7 => ?_
  have n9 : w.heap.size ≤ gw := egw ▸ K5.size
  have K10 := K5.nn kV7
  have z11 := kV7.size
  obtain ⟨V12, eV12, kV12⟩ := rowset_step V7 gw (#[.int .u64 ((qh : Nat) : Int), .int .u64 ((ql : Nat) : Int)])
  have h13 : V12.heap[gw]? = some (.cells (#[.int .u64 ((qh : Nat) : Int), .int .u64 ((ql : Nat) : Int)]) 123 (0, 0)) := eV12 ▸ setRow_heap _ _ _ _ _ _ h8
  refine pzq (w' := V12) (by rw [← eV12]; exact exec_store_row 123 (.tmp 10) (.tmp 20) (by kernel_rfl) gw (#[uN qh, uN ql]) (by kernel_rfl) (by kernel_rfl) 123 (#[.int .u64 0, .int .u64 0]) h8 (by kernel_rfl) rfl (by kernel_rfl)) ?_
  clear eV12
  have K14 := K10.nO kV12
  have z15 := kV12.size
  refine pkq (uN r) <| eq_ <| qr_ [0, 1, 2, 3] <| pkq (uN m) <| pkq (.agg #[.int .u64 0, uN m]) <| ppq (.agg #[uN qh, uN ql]) (ldr 123 gw (h13) (by kernel_rfl)) ?_
  refine pcq 81 #[.agg #[.int .u64 0, uN m], .agg #[uN qh, uN ql]] Tryz.func81 ((below_is true (decide_eq_true hbig) (fxBelow_ok m qh ql hm hqh2 hql2 _)).mono ?_)
  rintro e V16 ⟨rfl, kV16⟩
  refine ⟨_, rfl, ?_⟩
  have K18 := K14.nn kV16
  have z19 := kV16.size
  refine ey_ <| qr_ [0, 1, 2, 3] <| pkq (uN m) <| pkq (.int .i64 0) <| pkq (uN m) <| pkq (.int .i64 0) <| eu_ <| then_r <| so_ (.tuple #[.int .u64 ((m : Nat) : Int), .int .i64 0]) ?_
  exact ⟨cap_big hqt hql2 hbig hm, K18⟩
theorem fxCapped_small (m a b c qh ql : Nat) (hm : m < 18446744073709551616) (ha : a < 18446744073709551616) (hb : b < 18446744073709551616) (hc : 0 < c) (hc2 : c < 18446744073709551616) (hqh : a * b / 18446744073709551616 / c = qh) (hql : (a * b / 18446744073709551616 % c * 18446744073709551616 + a * b % 18446744073709551616) / c = ql) (hqt : a * b / c = qh * 18446744073709551616 + ql) (hqh2 : qh < 18446744073709551616) (hql2 : ql < 18446744073709551616) (hbig : ¬ (0 < qh ∨ m < ql)) (w : World) :
    Calls Tryz.prog 57 #[.int .u64 ((m : Nat) : Int), .int .u64 ((a : Nat) : Int), .int .u64 ((b : Nat) : Int), .int .u64 ((c : Nat) : Int)] w (fun e w' => e = .returned (.tuple #[.int .u64 ((min m (a * b / c) : Nat) : Int), .int .i64 0]) ∧ Keeps Nob w w') := by
  have hab : a * b / 18446744073709551616 < 18446744073709551616 := by rw [Nat.div_lt_iff_lt_mul (by decide)]; exact Nat.mul_lt_mul'' ha hb
  have K0 : Keeps Nob w w := Keeps.refl _ _
  refine sy_enter (qc54_0 1) ⟨#[uN m, uN a, uN b, uN c, ud, ud, ud, ud, ud, ud, ud, ud, ud, ud, ud, ud, ud, ud, ud, ud, ud, ud, ud, ud, ud, ud, ud, ud, ud, ud, ud], []⟩ Tryz.func57 (by kernel_rfl) (by kernel_rfl) <| qr_ [0, 1] <| pkq (.int .u64 0) <| pkq (.int .i64 0) <| eq_ <| qr_ [0, 1] <| pkq (uN c) <| ppq (.bool false) (eqf (((c : Nat) : Int)) ((0) : Int) (by omega)) <| en_ <| s_ <| tqr_ [0, 1, 2, 3, 4, 5, 6, 7, 8, 9, 10] <| pkq (uN a) <| pkq (uN b) ?_
  refine pcq 79 #[uN a, uN b] Tryz.func79 ((fxTimes_ok a b ha hb _).mono ?_)
  rintro e V1 ⟨rfl, kV1⟩
  refine ⟨_, rfl, ?_⟩
  have K2 := K0.nn kV1
  have z3 := kV1.size
  refine pkq (uN c) ?_
  refine pcq 80 #[.agg #[uN (a * b / 18446744073709551616), uN (a * b % 18446744073709551616)], uN c] Tryz.func80 ((over_is hqh hql (fxOver_ok (a * b / 18446744073709551616) (a * b % 18446744073709551616) c hab (Nat.mod_lt _ (by decide)) hc hc2 _)).mono ?_)
  rintro e V4 ⟨r, rfl, kV4⟩
  refine ⟨_, rfl, ?_⟩
  have K5 := K2.nn kV4
  have z6 := kV4.size
  refine pkq (.tuple #[.agg #[uN qh, uN ql], uN r]) <| pkq (.agg #[uN qh, uN ql]) <| pkq (uN r) <| pal 123 (#[.int .u64 0, .int .u64 0]) (.agg (#[.int .u64 0, .int .u64 0])) fun V7 gw egw h8 kV7 => ?_
  have n9 : w.heap.size ≤ gw := egw ▸ K5.size
  have K10 := K5.nn kV7
  have z11 := kV7.size
  obtain ⟨V12, eV12, kV12⟩ := rowset_step V7 gw (#[.int .u64 ((qh : Nat) : Int), .int .u64 ((ql : Nat) : Int)])
  have h13 : V12.heap[gw]? = some (.cells (#[.int .u64 ((qh : Nat) : Int), .int .u64 ((ql : Nat) : Int)]) 123 (0, 0)) := eV12 ▸ setRow_heap _ _ _ _ _ _ h8
  refine pzq (w' := V12) (by rw [← eV12]; exact exec_store_row 123 (.tmp 10) (.tmp 20) (by kernel_rfl) gw (#[uN qh, uN ql]) (by kernel_rfl) (by kernel_rfl) 123 (#[.int .u64 0, .int .u64 0]) h8 (by kernel_rfl) rfl (by kernel_rfl)) ?_
  clear eV12
  have K14 := K10.nO kV12
  have z15 := kV12.size
  refine pkq (uN r) <| eq_ <| qr_ [0, 1, 2, 3] <| pkq (uN m) <| pkq (.agg #[.int .u64 0, uN m]) <| ppq (.agg #[uN qh, uN ql]) (ldr 123 gw (h13) (by kernel_rfl)) ?_
  refine pcq 81 #[.agg #[.int .u64 0, uN m], .agg #[uN qh, uN ql]] Tryz.func81 ((below_is false (decide_eq_false hbig) (fxBelow_ok m qh ql hm hqh2 hql2 _)).mono ?_)
  rintro e V16 ⟨rfl, kV16⟩
  refine ⟨_, rfl, ?_⟩
  have h17 := kV16.bk h13
  have K18 := K14.nn kV16
  have z19 := kV16.size
  refine en_ <| s_ <| tqr_ [0, 1, 2, 3, 4] <| pkq (pT gw 1) <| ppq (uN ql) (ldk 40 gw 1 h17) <| pkq (.int .i64 0) <| pkq (uN ql) <| pkq (.int .i64 0) <| ps_end <| sy_a ⟨#[uN m, uN a, uN b, uN c, ud, ud, ud, ud, uN ql, .int .i64 0, pT gw 0, uN r, uN c, .bool false, .tuple #[.agg #[uN qh, uN ql], uN r], uN a, uN b, .agg #[uN (a * b / 18446744073709551616), uN (a * b % 18446744073709551616)], uN c, .tuple #[.agg #[uN qh, uN ql], uN r], .agg #[uN qh, uN ql], uN r, uN m, .agg #[.int .u64 0, uN m], .agg #[uN qh, uN ql], .bool false, ud, ud, pT gw 1, uN ql, .int .i64 0], []⟩ <| then_n <| u_ <| so_ (.tuple #[.int .u64 ((ql : Nat) : Int), .int .i64 0]) ?_
  exact ⟨cap_small hqt hbig, K18⟩
/-- Capped: the quotient of a product, at most m. -/
theorem fxCapped_ok (m a b c : Nat) (hm : m < 18446744073709551616) (ha : a < 18446744073709551616) (hb : b < 18446744073709551616) (hc : 0 < c) (hc2 : c < 18446744073709551616) (w : World) : Calls Tryz.prog 57 #[.int .u64 ((m : Nat) : Int), .int .u64 ((a : Nat) : Int), .int .u64 ((b : Nat) : Int), .int .u64 ((c : Nat) : Int)] w (fun e w' => e = .returned (.tuple #[.int .u64 ((min m (a * b / c) : Nat) : Int), .int .i64 0]) ∧ Keeps Nob w w') := by
  have hab : a * b / 18446744073709551616 < 18446744073709551616 := by rw [Nat.div_lt_iff_lt_mul (by decide)]; exact Nat.mul_lt_mul'' ha hb
  have hqt : a * b / c = a * b / 18446744073709551616 / c * 18446744073709551616 + (a * b / 18446744073709551616 % c * 18446744073709551616 + a * b % 18446744073709551616) / c := by
    rw [← over_law hc]; congr 1; have := Nat.div_add_mod (a * b) 18446744073709551616; omega
  have h1 : a * b / 18446744073709551616 / c < 18446744073709551616 := Nat.lt_of_le_of_lt (Nat.div_le_self _ _) hab
  have h2 := over_lt (hi := a * b / 18446744073709551616) (lo := a * b % 18446744073709551616) hc (Nat.mod_lt _ (by decide))
  by_cases hbig : 0 < a * b / 18446744073709551616 / c ∨ m < (a * b / 18446744073709551616 % c * 18446744073709551616 + a * b % 18446744073709551616) / c
  · exact fxCapped_big m a b c _ _ hm ha hb hc hc2 rfl rfl hqt h1 h2 hbig w
  · exact fxCapped_small m a b c _ _ hm ha hb hc hc2 rfl rfl hqt h1 h2 hbig w
end Go.Proofs.YtghohakbepeffaaGreatDoor
namespace Go.Proofs.YtghohakbepeffaaGreatDoor
set_option maxRecDepth 100000
set_option maxHeartbeats 4000000
open Go Go.RowKit Go.Own Go.Shelf
/-- A number's cell. -/
def Gc (n : Nat) : List Value := [.int .u64 ((n : Nat) : Int)]
theorem gnum_info0 : (Tryz.prog.info? 40).map (fun i => (i.zero, i.size, i.bytes)) = some (some (.int .u64 0), 1, 8) := by kernel_rfl
theorem src_g {w : World} {g n : Nat} {T : TypeId} (h : w.heap[g]? = some (.cells #[.int .u64 ((n : Nat) : Int)] T (0, 0))) : Own.Src w 1 (.slice (some ⟨g, 0, none⟩) 1 1) 1 (Gc n) :=
  ⟨rfl, fun u hu => by simp only [Gc, List.mem_singleton] at hu; subst hu; rfl, .inr ⟨_, _, rfl, fun j u hj => by simp only [Addr.add_lit, Nat.zero_add]; exact rc h (by simpa [Gc] using hj)⟩⟩
theorem row_g {w : World} {T : TypeId} {v : Value} {l m : List Nat} {x : Nat} (e : m = l ++ [x]) (h : Row w T 1 v (l.length + 1) (l.flatMap Gc ++ Gc x)) : Row w T 1 v m.length (m.flatMap Gc) := by
  subst e; rw [List.flatMap_append, List.length_append]; simpa using h
theorem row_gs {w : World} {T : TypeId} {v : Value} {l : List Nat} (h : Row w T 1 v l.length (l.flatMap Gc)) : Sl w 1 Gc v l := Row.sl h rfl (fun _ _ => rfl)
theorem trim_cases (a : List Nat) (k : Nat) (h : k ≤ a.length) : k = 0 ∨ (∃ j x, k = j + 1 ∧ j < a.length ∧ a[j]? = some x ∧ x = 0) ∨ (∃ j x, k = j + 1 ∧ j < a.length ∧ a[j]? = some x ∧ x ≠ 0) := by
  cases k with
  | zero => exact .inl rfl
  | succ j =>
    obtain ⟨x, hx⟩ : ∃ x, a[j]? = some x := ⟨_, List.getElem?_eq_getElem (by omega)⟩
    by_cases h0 : x = 0
    · exact .inr (.inl ⟨j, x, rfl, by omega, hx, h0⟩)
    · exact .inr (.inr ⟨j, x, rfl, by omega, hx, h0⟩)
theorem dg_len4 {n : Nat} (h : n < 18446744073709551616) : (dg n).length ≤ 4 := by
  have q : ∀ (k m : Nat), m < 65536 ^ k → (dg m).length ≤ k := by
    intro k
    induction k with
    | zero => intro m hm; have : m = 0 := by simpa using hm
              subst this; exact Nat.le_refl _
    | succ k ih =>
      intro m hm
      by_cases h0 : m = 0
      · subst h0; exact Nat.zero_le _
      · rw [dg_pos h0, List.length_cons]
        have := ih (m / 65536) (by rw [Nat.pow_succ] at hm; omega)
        omega
  exact q 4 n (by simpa using h)
noncomputable def qc55_2 (n : Nat) : Code := partOf Tryz.f33 n
noncomputable abbrev qo55_2 (n k : Nat) : Oper := (opsAt (qc55_2 n)).getD k default
theorem kGreat_ok (n : Nat) (hn : n < 18446744073709551616) (w : World) :
    Calls Tryz.prog 33 #[.int .u64 ((n : Nat) : Int)] w (fun e w' => ∃ X, e = .returned X ∧ Sl w' 1 Gc X (dg n) ∧ Keeps Nob w w') := by
  obtain ⟨i8, hi8, hg0, hg1, hg2⟩ := info_parts gnum_info0
  have K0 : Keeps Nob w w := Keeps.refl _ _
  refine sy_enter (qc55_2 1) ⟨#[uN n, ud, ud, ud, ud, ud, ud, ud, ud, ud, ud, ud, ud, ud], []⟩ Tryz.func33 (by kernel_rfl) (by kernel_rfl) <| qr_ [0] <| pkq (.slice none 0 0) <| eqr_ [0] <| pkq (.slice none 0 0) <| eq_ <| bl_ 0 ?_
  refine sy_loop (qc55_2 56) (fun a V => ∃ (out : List Nat) (m : Nat) (v : Value) (u4 u5 u6 u7 u8 u9 u10 u11 u12 : Value), (a = ⟨#[uN m, ud, .slice none 0 0, v, u4, u5, u6, u7, u8, u9, u10, u11, u12, ud], []⟩) ∧ (out ++ dg m = dg n) ∧ (m < 18446744073709551616) ∧ (NewFrom w.heap.size v) ∧ (Row V 40 1 v out.length (out.flatMap Gc)) ∧ (Keeps Nob w V)) (fun a _ => (intOf (a.tmps.getD 0 undef)).toNat) (by kernel_rfl) ?_ ?_
  · exact ⟨[], n, .slice none 0 0, undef, undef, undef, undef, undef, undef, undef, undef, undef, by kernel_rfl, rfl, hn, NewFrom.nil _, (World.ownsRow_nil _ _ _ _), K0⟩
  · rintro a V1 ⟨out, m, v, u4, u5, u6, u7, u8, u9, u10, u11, u12, rfl, hp, hm, hnw, h2, K3⟩
    by_cases hm0 : m = 0
    · have hp2 : out = dg n := by rw [hm0, dg_zero, List.append_nil] at hp; exact hp
      refine q_ <| qr_ [0, 1] <| pkq (uN m) <| ppq (.bool false) (dcf ((((m : Nat) : Int)) > ((0) : Int)) (by omega)) <| en_ <| sy_exit 0 (by kernel_rfl) <| then_e <| then_e <| blk_e <| tqr_ [0, 1] <| pkq (v) <| pkq (v) <| eu_ <| so_ (v) ?_
      exact ⟨_, rfl, hp2 ▸ row_gs h2, K3⟩
    · have hlo : out.length ≤ 4 := by have h1 := congrArg List.length hp; rw [List.length_append] at h1; have := dg_len4 hn; omega
      obtain ⟨d, hd⟩ : ∃ x, m % 65536 = x := ⟨_, rfl⟩
      obtain ⟨m2, hm2⟩ : ∃ x, m / 65536 = x := ⟨_, rfl⟩
      have hpn : (out ++ [d]) ++ dg m2 = dg n := by rw [← hp, dg_pos hm0, hd, hm2, List.append_assoc]; rfl
      refine q_ <| qr_ [0, 1] <| pkq (uN m) <| ppq (.bool true) (dct ((((m : Nat) : Int)) > ((0) : Int)) (by omega)) <| ey_ <| s_ <| then_n <| bl_ 1 <| qr_ [0, 1, 2, 3, 4, 5] <| pkq (v) <| pkq (uN m) <| ppq (uN d) (exec_cast (congrArg (fun n : Nat => Value.int .u64 (n : Int)) hd) (exec_remU 40 40 (.tmp 7) (.const (.int .u64 65536)) (by kernel_rfl) m 65536 (by kernel_rfl) (by kernel_rfl) (by decide) (by omega))) ?_
      obtain ⟨V4, eV4, lit, elit, h5, kV4⟩ := alloc_step V1 (#[.int .u64 ((d : Nat) : Int)]) 40
      have n6 : w.heap.size ≤ lit := elit ▸ K3.size
      refine prq (.slice (some ⟨lit, 0, none⟩) 1 1) (w' := V4) (by rw [← eV4, ← elit]; kernel_rfl) ?_
      have h7 : Row V4 40 1 v out.length (out.flatMap Gc) := h2.keeps kV4 (fun _ _ x => x)
      have K8 := K3.nn kV4
      have z9 := kV4.size
      obtain ⟨vn, V10, hr11, h12, hg13, hn14, ha15⟩ := run_append_any (P := Tryz.prog) (w := V4) 49 (Oper.type (qo55_2 452 4)) 40 i8 (.int .u64 0) 1 8 Tryz.underlying49 hi8 hg0 hg1 hg2 rfl (by decide) v out.length (out.flatMap Gc) h7 (.slice (some ⟨lit, 0, none⟩) 1 1) 1 (Gc d) (src_g h5) (by unfold maxLen; omega) (by omega)
      have kV10 : Keeps (fun j => v.ownBlock = some j) V4 V10 := Keeps.rowAdd hg13
      have hw16 : NewFrom w.heap.size vn := hnw.next K8.size ha15
      refine prq vn (w' := V10) (exec_append (.tmp 6) (.tmp 9) 49 (by kernel_rfl) v (.slice (some ⟨lit, 0, none⟩) 1 1) (by kernel_rfl) (by kernel_rfl) hr11) ?_
      have h17 : Row V10 40 1 vn ((out ++ [d]).length) ((out ++ [d]).flatMap Gc) := (row_g rfl h12)
      have hnwn := hw16
      have K18 : Keeps Nob w V10 := K8.then kV10 (fun i hi hm => absurd hi (by have := hnw i hm; omega))
      have z19 := kV10.size
      refine pkq (vn) <| er_ [0, 1, 2] <| pkq (uN m) <| ppq (uN m2) (exec_cast (congrArg (fun n : Nat => Value.int .u64 (n : Int)) hm2) (exec_quoU 40 40 (.tmp 11) (.const (.int .u64 65536)) (by kernel_rfl) m 65536 (by kernel_rfl) (by kernel_rfl) (by decide) (by omega))) <| pkq (uN m2) <| ps_end <| blk_n <| then_n ?_
      refine ⟨⟨(out ++ [d]), m2, vn, (uN m), (.bool true), v, (uN m), (uN d), (.slice (some ⟨lit, 0, none⟩) 1 1), vn, (uN m), (uN m2), by kernel_rfl, hpn, by omega, hnwn, h17, K18⟩, ?_⟩
      exact lt_meas (x := m2) (y := m) (by kernel_rfl) (by kernel_rfl) (by omega)
noncomputable def qc55_4 (n : Nat) : Code := partOf Tryz.f60 n
theorem kTrim_form (A : Option Addr) (c : Nat) (lA : List Nat) (m : Nat) (hd : Gd lA) (hm : gv lA = m) (w : World) (hl : Sl w 1 Gc (.slice A lA.length c) lA) (hc : lA.length ≤ c) :
    Calls Tryz.prog 60 #[.slice A lA.length c] w (fun e w' => ∃ X, e = .returned X ∧ Sl w 1 Gc X (dg m) ∧ w = w') := by
  have hln := Sl.len_le hl
  have K0 : Keeps Nob w w := Keeps.refl _ _
  refine sy_enter (qc55_4 1) ⟨#[.slice A lA.length c, ud, ud, ud, ud, ud, ud, ud, ud, ud, ud, ud, ud, ud, ud, ud, ud, ud, ud, ud, ud], []⟩ Tryz.func60 (by kernel_rfl) (by kernel_rfl) <| qr_ [0] <| pkq (.slice none 0 0) <| eqr_ [0, 1, 2] <| pkq (.slice A lA.length c) <| ppq (iN lA.length) (exec_len_sl (.tmp 4) 49 40 (by kernel_rfl) Tryz.underlying49 (by kernel_rfl) hl) <| pkq (iN lA.length) <| eq_ <| bl_ 0 ?_
  refine sy_loop (qc55_4 56) (fun a V => ∃ (k : Nat) (u6 u7 u8 u9 u10 u11 u12 u13 u14 u15 u16 u17 : Value), (a = ⟨#[.slice A lA.length c, ud, .slice none 0 0, iN k, .slice A lA.length c, iN lA.length, u6, u7, u8, u9, u10, u11, u12, u13, u14, u15, u16, u17, ud, ud, ud], []⟩) ∧ (k ≤ lA.length) ∧ (∀ i, k ≤ i → gdig lA i = 0) ∧ (w = V)) (fun a _ => (intOf (a.tmps.getD 3 undef)).toNat) (by kernel_rfl) ?_ ?_
  · exact ⟨lA.length, undef, undef, undef, undef, undef, undef, undef, undef, undef, undef, undef, undef, by kernel_rfl, by omega, fun i hi => gdig_behind hi, rfl⟩
  · rintro a V1 ⟨k, u6, u7, u8, u9, u10, u11, u12, u13, u14, u15, u16, u17, rfl, hk, hz, rfl⟩
    rcases trim_cases lA k hk with hk0 | ⟨j, x, hkj, hj, hx, hx0⟩ | ⟨j, x, hkj, hj, hx, hx0⟩
    · have hend : k = 0 ∨ gdig lA (k - 1) ≠ 0 := .inl hk0
      refine q_ <| qr_ [0, 1, 2, 3, 4, 5, 6, 7, 8, 9] <| pkq (iN k) <| ppq (.bool false) (dcf ((((k : Nat) : Int)) > ((0) : Int)) (by omega)) <| pkq (.bool false) <| pnq <| pnq <| pnq <| pnq <| pnq <| pnq <| pkq (.bool false) <| en_ <| sy_exit 0 (by kernel_rfl) ?_
      refine then_e <| then_e <| blk_e <| tqr_ [0, 1, 2, 3] <| pkq (.slice A lA.length c) <| pkq (iN k) <| ppq (.slice A k c) (exec_slice_toW 49 (.tmp 18) (.tmp 19) (by kernel_rfl) A lA.length c (by kernel_rfl) .i64 k (by kernel_rfl) 40 Tryz.underlying49 1 (by kernel_rfl) (by omega)) <| pkq (.slice A k c) <| eu_ <| so_ (.slice A k c) ?_
      exact ⟨_, rfl, trim_is hd hm hk hz hend ▸ Sl.take hl k hk A _ c rfl, rfl⟩
    · obtain ⟨b_, o_, c_, hv_, hb_, _⟩ := hl.at_ j x hx
      have hzn : ∀ i, j ≤ i → gdig lA i = 0 := fun i hi => by
        rcases Nat.lt_or_ge j i with h | h
        · exact hz i (by omega)
        · rw [show i = j by omega, gdig_some hx, hx0]
      refine q_ <| qr_ [0, 1, 2, 3, 4, 5, 6, 7, 8, 9] <| pkq (iN k) <| ppq (.bool true) (dct ((((k : Nat) : Int)) > ((0) : Int)) (by omega)) <| pkq (.bool true) <| pkq (.slice A lA.length c) <| pkq (iN k) <| ppq (iN j) (exec_cast (congrArg (Value.int .i64) (wrapI (((k : Nat) : Int) - 1) ((j : Nat) : Int) (by omega) (by omega) (by omega))) (by kernel_rfl)) <| ppq (pT b_ (o_ + j * 1)) (exec_indexAt_slice 49 (.tmp 9) (.tmp 11) (by kernel_rfl) b_ o_ lA.length c_ (Eq.trans (b := (.slice A lA.length c)) (by kernel_rfl) hv_) .i64 j (by kernel_rfl) _ 1 Tryz.underlying49 (by kernel_rfl) (by omega)) <| ppq (uN x) (ldc 40 b_ (o_ + j * 1 + 0) (Sl.cell hl hx hv_ rfl)) <| ppq (.bool true) (eqt (((x : Nat) : Int)) ((0) : Int) (by omega)) <| pkq (.bool true) <| ey_ <| s_ ?_
      refine then_n <| bl_ 1 <| r_ [0, 1, 2] <| pkq (iN k) <| ppq (iN j) (exec_cast (congrArg (Value.int .i64) (wrapI (((k : Nat) : Int) - 1) ((j : Nat) : Int) (by omega) (by omega) (by omega))) (by kernel_rfl)) <| pkq (iN j) <| ps_end <| blk_n <| then_n ?_
      refine ⟨⟨j, (iN k), (.bool true), (.bool true), (.slice A lA.length c), (iN k), (iN j), (pT b_ (o_ + j * 1)), (uN x), (.bool true), (.bool true), (iN k), (iN j), by kernel_rfl, by omega, hzn, rfl⟩, ?_⟩
      exact lt_meas (x := j) (y := k) (by kernel_rfl) (by kernel_rfl) (by omega)
    · obtain ⟨b_, o_, c_, hv_, hb_, _⟩ := hl.at_ j x hx
      have hend : k = 0 ∨ gdig lA (k - 1) ≠ 0 := .inr (by rw [show k - 1 = j by omega, gdig_some hx]; exact hx0)
      refine q_ <| qr_ [0, 1, 2, 3, 4, 5, 6, 7, 8, 9] <| pkq (iN k) <| ppq (.bool true) (dct ((((k : Nat) : Int)) > ((0) : Int)) (by omega)) <| pkq (.bool true) <| pkq (.slice A lA.length c) <| pkq (iN k) <| ppq (iN j) (exec_cast (congrArg (Value.int .i64) (wrapI (((k : Nat) : Int) - 1) ((j : Nat) : Int) (by omega) (by omega) (by omega))) (by kernel_rfl)) <| ppq (pT b_ (o_ + j * 1)) (exec_indexAt_slice 49 (.tmp 9) (.tmp 11) (by kernel_rfl) b_ o_ lA.length c_ (Eq.trans (b := (.slice A lA.length c)) (by kernel_rfl) hv_) .i64 j (by kernel_rfl) _ 1 Tryz.underlying49 (by kernel_rfl) (by omega)) <| ppq (uN x) (ldc 40 b_ (o_ + j * 1 + 0) (Sl.cell hl hx hv_ rfl)) <| ppq (.bool false) (eqf (((x : Nat) : Int)) ((0) : Int) (by omega)) <| pkq (.bool false) <| en_ <| sy_exit 0 (by kernel_rfl) ?_
      refine then_e <| then_e <| blk_e <| tqr_ [0, 1, 2, 3] <| pkq (.slice A lA.length c) <| pkq (iN k) <| ppq (.slice A k c) (exec_slice_toW 49 (.tmp 18) (.tmp 19) (by kernel_rfl) A lA.length c (by kernel_rfl) .i64 k (by kernel_rfl) 40 Tryz.underlying49 1 (by kernel_rfl) (by omega)) <| pkq (.slice A k c) <| eu_ <| so_ (.slice A k c) ?_
      exact ⟨_, rfl, trim_is hd hm hk hz hend ▸ Sl.take hl k hk A _ c rfl, rfl⟩
theorem kTrim_ok (v : Value) (lA : List Nat) (m : Nat) (hd : Gd lA) (hm : gv lA = m) (w : World) (hl : Sl w 1 Gc v lA) : Calls Tryz.prog 60 #[v] w (fun e w' => ∃ X, e = .returned X ∧ Sl w 1 Gc X (dg m) ∧ w = w') := by
  obtain ⟨A, c, rfl, hc, _, _⟩ := hl.form
  exact kTrim_form A c lA m hd hm w hl hc
noncomputable def qc55_3 (n : Nat) : Code := partOf Tryz.f59 n
theorem kDigit_out (v : Value) (lA : List Nat) (i : Nat) (w : World) (hl : Sl w 1 Gc v lA) (hi : lA.length ≤ i) :
    Calls Tryz.prog 59 #[v, .int .i64 ((i : Nat) : Int)] w (fun e w' => e = .returned (.int .u64 ((gdig lA i : Nat) : Int)) ∧ w = w') := by
  have hln := Sl.len_le hl
  have K0 : Keeps Nob w w := Keeps.refl _ _
  refine sy_enter (qc55_3 1) ⟨#[v, iN i, ud, ud, ud, ud, ud, ud, ud, ud, ud, ud, ud], []⟩ Tryz.func59 (by kernel_rfl) (by kernel_rfl) <| qr_ [0] <| pkq (.int .u64 0) <| eq_ <| qr_ [0, 1, 2, 3] <| pkq (iN i) <| pkq (v) <| ppq (iN lA.length) (exec_len_sl (.tmp 6) 49 40 (by kernel_rfl) Tryz.underlying49 (by kernel_rfl) hl) <| ppq (.bool true) (dct ((((i : Nat) : Int)) ≥ (((lA.length : Nat) : Int))) (by omega)) <| ey_ <| qr_ [0] <| pkq (.int .u64 0) <| eu_ <| then_r ?_
  refine so_ (.int .u64 0) ?_
  exact ⟨by rw [gdig_behind hi]; rfl, rfl⟩
theorem kDigit_in (v : Value) (lA : List Nat) (i : Nat) (w : World) (hl : Sl w 1 Gc v lA) (x : Nat) (hi : i < lA.length) (hx : lA[i]? = some x) :
    Calls Tryz.prog 59 #[v, .int .i64 ((i : Nat) : Int)] w (fun e w' => e = .returned (.int .u64 ((gdig lA i : Nat) : Int)) ∧ w = w') := by
  have hln := Sl.len_le hl
  obtain ⟨b_, o_, c_, hv_, hb_, _⟩ := hl.at_ i x hx
  have K0 : Keeps Nob w w := Keeps.refl _ _
  refine sy_enter (qc55_3 1) ⟨#[v, iN i, ud, ud, ud, ud, ud, ud, ud, ud, ud, ud, ud], []⟩ Tryz.func59 (by kernel_rfl) (by kernel_rfl) <| qr_ [0] <| pkq (.int .u64 0) <| eq_ <| qr_ [0, 1, 2, 3] <| pkq (iN i) <| pkq (v) <| ppq (iN lA.length) (exec_len_sl (.tmp 6) 49 40 (by kernel_rfl) Tryz.underlying49 (by kernel_rfl) hl) <| ppq (.bool false) (dcf ((((i : Nat) : Int)) ≥ (((lA.length : Nat) : Int))) (by omega)) <| en_ <| s_ <| tqr_ [0, 1, 2, 3, 4] <| pkq (v) <| pkq (iN i) ?_
  refine ppq (pT b_ (o_ + i * 1)) (exec_indexAt_slice 49 (.tmp 9) (.tmp 10) (by kernel_rfl) b_ o_ lA.length c_ (Eq.trans (b := v) (by kernel_rfl) hv_) .i64 i (by kernel_rfl) _ 1 Tryz.underlying49 (by kernel_rfl) (by omega)) <| ppq (uN x) (ldc 40 b_ (o_ + i * 1 + 0) (Sl.cell hl hx hv_ rfl)) <| pkq (uN x) <| eu_ <| so_ (.int .u64 ((x : Nat) : Int)) ?_
  exact ⟨by rw [gdig_some hx], rfl⟩
theorem kDigit_is (v : Value) (lA : List Nat) (i d : Nat) (w : World) (hl : Sl w 1 Gc v lA) (hd : gdig lA i = d) : Calls Tryz.prog 59 #[v, .int .i64 ((i : Nat) : Int)] w (fun e w' => e = .returned (.int .u64 ((d : Nat) : Int)) ∧ w = w') := by
  subst hd
  by_cases h : i < lA.length
  · exact kDigit_in v lA i w hl _ h (List.getElem?_eq_getElem h)
  · exact kDigit_out v lA i w hl (by omega)
noncomputable def qc55_1 (n : Nat) : Code := partOf Tryz.f32 n
noncomputable abbrev qo55_1 (n k : Nat) : Oper := (opsAt (qc55_1 n)).getD k default
theorem kSum_go (vA vB : Value) (lA lB : List Nat) (ha0 : Gd lA) (hb0 : Gd lB) (hal : lA.length ≤ 1000) (hbl : lB.length ≤ 1000) (w : World) (hla : Sl w 1 Gc vA lA) (hlb : Sl w 1 Gc vB lB) :
    Calls Tryz.prog 32 #[vA, vB] w (fun e w' => ∃ X, e = .returned X ∧ Sl w' 1 Gc X (dg (gv lA + gv lB)) ∧ Keeps Nob w w') := by
  obtain ⟨i8, hi8, hg0, hg1, hg2⟩ := info_parts gnum_info0
  obtain ⟨mx, hmx⟩ : ∃ x, max lA.length lB.length = x := ⟨_, rfl⟩
  have hmxI : max ((lA.length : Nat) : Int) ((lB.length : Nat) : Int) = ((mx : Nat) : Int) := by omega
  have K0 : Keeps Nob w w := Keeps.refl _ _
  refine sy_enter (qc55_1 1) ⟨#[vA, vB, ud, ud, ud, ud, ud, ud, ud, ud, ud, ud, ud, ud, ud, ud, ud, ud, ud, ud, ud, ud, ud, ud, ud, ud, ud, ud, ud, ud, ud, ud, ud, ud, ud, ud, ud, ud, ud], []⟩ Tryz.func32 (by kernel_rfl) (by kernel_rfl) <| qr_ [0] <| pkq (.slice none 0 0) <| eqr_ [0] <| pkq (.slice none 0 0) <| eqr_ [0] <| pkq (.int .u64 0) <| eq_ <| qr_ [0] <| pkq (.int .i64 0) <| et_ <| bl_ 0 ?_
  refine sy_loop (qc55_1 244) (fun a V => ∃ (out : List Nat) (i : Nat) (c : Nat) (v : Value) (u8 u9 u10 u11 u12 u13 u14 u15 u16 u17 u18 u19 u20 u21 u22 u23 u24 u25 u26 u27 u28 u29 u30 u31 u32 u33 u34 u35 u36 : Value), (a = ⟨#[vA, vB, ud, ud, .slice none 0 0, v, uN c, iN i, u8, u9, u10, u11, u12, u13, u14, u15, u16, u17, u18, u19, u20, u21, u22, u23, u24, u25, u26, u27, u28, u29, u30, u31, u32, u33, u34, u35, u36, ud, ud], []⟩) ∧ (out.length = i) ∧ (gv out + 65536 ^ i * c = gv (lA.take i) + gv (lB.take i)) ∧ (c ≤ 1) ∧ (Gd out) ∧ (i ≤ mx ∨ i = mx + 1 ∧ c = 0) ∧ (NewFrom w.heap.size v) ∧ (Row V 40 1 v out.length (out.flatMap Gc)) ∧ (Keeps Nob w V)) (fun a _ => 2 + mx - (intOf (a.tmps.getD 7 undef)).toNat) (by kernel_rfl) ?_ ?_
  · exact ⟨[], 0, 0, .slice none 0 0, undef, undef, undef, undef, undef, undef, undef, undef, undef, undef, undef, undef, undef, undef, undef, undef, undef, undef, undef, undef, undef, undef, undef, undef, undef, undef, undef, undef, undef, by kernel_rfl, rfl, by simp [gv], by omega, (fun _ h => by cases h), by omega, NewFrom.nil _, (World.ownsRow_nil _ _ _ _), K0⟩
  · rintro a V1 ⟨out, i, c, v, u8, u9, u10, u11, u12, u13, u14, u15, u16, u17, u18, u19, u20, u21, u22, u23, u24, u25, u26, u27, u28, u29, u30, u31, u32, u33, u34, u35, u36, rfl, hlen, hval, hc, hgd, hi, hnw, h2, K3⟩
    rcases (show i < mx ∨ (i = mx ∧ 0 < c ∧ gdig lA i = 0 ∧ gdig lB i = 0) ∨ (mx ≤ i ∧ c = 0) by
        rcases Nat.lt_or_ge i mx with h | h
        · exact .inl h
        · rcases Nat.eq_zero_or_pos c with h1 | h1
          · exact .inr (.inr ⟨h, h1⟩)
          · exact .inr (.inl ⟨by omega, h1, gdig_behind (by omega), gdig_behind (by omega)⟩)) with lt_i | ⟨eq_i, hc0, hz1, hz2⟩ | ⟨ge_i, hc0⟩
    · obtain ⟨dq, hdq⟩ : ∃ x, gdig lA i = x := ⟨_, rfl⟩
      obtain ⟨dr_, hdr_⟩ : ∃ x, gdig lB i = x := ⟨_, rfl⟩
      have hdql := hdq ▸ gdig_lt ha0 i
      have hdr_l := hdr_ ▸ gdig_lt hb0 i
      obtain ⟨s1, hs1⟩ : ∃ x, c + dq = x := ⟨_, rfl⟩
      obtain ⟨s2, hs2⟩ : ∃ x, s1 + dr_ = x := ⟨_, rfl⟩
      obtain ⟨d, hd⟩ : ∃ x, s2 % 65536 = x := ⟨_, rfl⟩
      obtain ⟨c2, hc2⟩ : ∃ x, s2 / 65536 = x := ⟨_, rfl⟩
      have hvn : gv (out ++ [d]) + 65536 ^ (i + 1) * c2 = gv (lA.take (i + 1)) + gv (lB.take (i + 1)) := by
        have := sum_step' hlen hval
        rw [hdq, hdr_, hs1, hs2, hd, hc2] at this; exact this
      have hgn : Gd (out ++ [d]) := hgd.append (Gd.one (by omega))
      refine q_ <| qr_ [0, 1, 2, 3, 4, 5, 6, 7, 8, 9, 10] <| pkq (iN i) <| pkq (vA) <| ppq (iN lA.length) (exec_len_sl (.tmp 9) 49 40 (by kernel_rfl) Tryz.underlying49 (by kernel_rfl) (hla.keepsN K3)) <| pkq (vB) <| ppq (iN lB.length) (exec_len_sl (.tmp 11) 49 40 (by kernel_rfl) Tryz.underlying49 (by kernel_rfl) (hlb.keepsN K3)) <| ppq (iN mx) (exec_cast (congrArg (Value.int .i64) hmxI) (exec_max (.tmp 10) (.tmp 12) #[3, 3] (by kernel_rfl) .i64 _ _ (by kernel_rfl) (by kernel_rfl))) <| ppq (.bool true) (dct ((((i : Nat) : Int)) < (((mx : Nat) : Int))) (by omega)) <| pkq (.bool true) <| pnq <| pnq <| pkq (.bool true) <| ey_ ?_
      refine s_ <| tq_ <| bl_ 1 <| qr_ [0, 1, 2, 3, 4, 5, 6, 7, 8, 9] <| pkq (uN c) <| pkq (vA) <| pkq (iN i) ?_
      refine pcq 59 #[vA, iN i] Tryz.func59 ((kDigit_is vA lA i dq _ (hla.keepsN K3) hdq).mono ?_)
      rintro e w1 ⟨rfl, rfl⟩
      refine ⟨_, rfl, ?_⟩
      refine ppq (uN s1) (exec_cast (congrArg (Value.int .u64) ((wrapU (c + dq) (by omega)).trans (congrArg (fun n : Nat => (n : Int)) hs1))) (by kernel_rfl)) <| pkq (vB) <| pkq (iN i) ?_
      refine pcq 59 #[vB, iN i] Tryz.func59 ((kDigit_is vB lB i dr_ _ (hlb.keepsN K3) hdr_).mono ?_)
      rintro e w1 ⟨rfl, rfl⟩
      refine ⟨_, rfl, ?_⟩
      refine ppq (uN s2) (exec_cast (congrArg (Value.int .u64) ((wrapU (s1 + dr_) (by omega)).trans (congrArg (fun n : Nat => (n : Int)) hs2))) (by kernel_rfl)) <| pkq (uN s2) <| eqr_ [0, 1, 2, 3, 4, 5] <| pkq (v) <| pkq (uN s2) <| ppq (uN d) (exec_cast (congrArg (fun n : Nat => Value.int .u64 (n : Int)) hd) (exec_remU 40 40 (.tmp 31) (.const (.int .u64 65536)) (by kernel_rfl) s2 65536 (by kernel_rfl) (by kernel_rfl) (by decide) (by omega))) ?_
      obtain ⟨V4, eV4, lit, elit, h5, kV4⟩ := alloc_step V1 (#[.int .u64 ((d : Nat) : Int)]) 40
      have n6 : w.heap.size ≤ lit := elit ▸ K3.size
      refine prq (.slice (some ⟨lit, 0, none⟩) 1 1) (w' := V4) (by rw [← eV4, ← elit]; kernel_rfl) ?_
      have h7 : Row V4 40 1 v out.length (out.flatMap Gc) := h2.keeps kV4 (fun _ _ x => x)
      have K8 := K3.nn kV4
      have z9 := kV4.size
      obtain ⟨vn, V10, hr11, h12, hg13, hn14, ha15⟩ := run_append_any (P := Tryz.prog) (w := V4) 49 (Oper.type (qo55_1 7826 4)) 40 i8 (.int .u64 0) 1 8 Tryz.underlying49 hi8 hg0 hg1 hg2 rfl (by decide) v out.length (out.flatMap Gc) h7 (.slice (some ⟨lit, 0, none⟩) 1 1) 1 (Gc d) (src_g h5) (by unfold maxLen; omega) (by omega)
      have kV10 : Keeps (fun j => v.ownBlock = some j) V4 V10 := Keeps.rowAdd hg13
      have hw16 : NewFrom w.heap.size vn := hnw.next K8.size ha15
      refine prq vn (w' := V10) (exec_append (.tmp 30) (.tmp 33) 49 (by kernel_rfl) v (.slice (some ⟨lit, 0, none⟩) 1 1) (by kernel_rfl) (by kernel_rfl) hr11) ?_
      have h17 : Row V10 40 1 vn ((out ++ [d]).length) ((out ++ [d]).flatMap Gc) := (row_g rfl h12)
      have hnwn := hw16
      have K18 : Keeps Nob w V10 := K8.then kV10 (fun i hi hm => absurd hi (by have := hnw i hm; omega))
      have z19 := kV10.size
      refine pkq (vn) <| ps_end <| sy_a ⟨#[vA, vB, ud, ud, .slice none 0 0, vn, uN s2, iN i, iN i, vA, iN lA.length, vB, iN lB.length, iN mx, .bool true, .bool true, ud, ud, .bool true, u19, u20, uN c, vA, iN i, uN dq, uN s1, vB, iN i, uN dr_, uN s2, v, uN s2, uN d, .slice (some ⟨lit, 0, none⟩) 1 1, vn, u35, u36, ud, ud], []⟩ <| tr_ [0, 1, 2] <| pkq (uN s2) <| ppq (uN c2) (exec_cast (congrArg (fun n : Nat => Value.int .u64 (n : Int)) hc2) (exec_quoU 40 40 (.tmp 35) (.const (.int .u64 65536)) (by kernel_rfl) s2 65536 (by kernel_rfl) (by kernel_rfl) (by decide) (by omega))) <| pkq (uN c2) <| ps_end <| blk_n <| tr_ [0, 1, 2] <| pkq (iN i) <| ppq (iN (i + 1)) (exec_cast (congrArg (Value.int .i64) (wrapN (i + 1) (by omega))) (by kernel_rfl)) <| pkq (iN (i + 1)) <| et_ ?_
      refine ⟨⟨(out ++ [d]), i + 1, c2, vn, (iN i), vA, (iN lA.length), vB, (iN lB.length), (iN mx), (.bool true), (.bool true), undef, undef, (.bool true), (iN i), (iN (i + 1)), (uN c), vA, (iN i), (uN dq), (uN s1), vB, (iN i), (uN dr_), (uN s2), v, (uN s2), (uN d), (.slice (some ⟨lit, 0, none⟩) 1 1), vn, (uN s2), (uN c2), by kernel_rfl, by rw [List.length_append, hlen]; rfl, hvn, by omega, hgn, by omega, hnwn, h17, K18⟩, ?_⟩
      exact lt_meas (x := 2 + mx - (i + 1)) (y := 2 + mx - i) (by kernel_rfl) (by kernel_rfl) (by omega)
    · obtain ⟨dq, hdq⟩ : ∃ x, gdig lA i = x := ⟨_, rfl⟩
      obtain ⟨dr_, hdr_⟩ : ∃ x, gdig lB i = x := ⟨_, rfl⟩
      have hdql := hdq ▸ gdig_lt ha0 i
      have hdr_l := hdr_ ▸ gdig_lt hb0 i
      obtain ⟨s1, hs1⟩ : ∃ x, c + dq = x := ⟨_, rfl⟩
      obtain ⟨s2, hs2⟩ : ∃ x, s1 + dr_ = x := ⟨_, rfl⟩
      obtain ⟨d, hd⟩ : ∃ x, s2 % 65536 = x := ⟨_, rfl⟩
      obtain ⟨c2, hc2⟩ : ∃ x, s2 / 65536 = x := ⟨_, rfl⟩
      have hvn : gv (out ++ [d]) + 65536 ^ (i + 1) * c2 = gv (lA.take (i + 1)) + gv (lB.take (i + 1)) := by
        have := sum_step' hlen hval
        rw [hdq, hdr_, hs1, hs2, hd, hc2] at this; exact this
      have hgn : Gd (out ++ [d]) := hgd.append (Gd.one (by omega))
      refine q_ <| qr_ [0, 1, 2, 3, 4, 5, 6, 7, 8, 9, 10] <| pkq (iN i) <| pkq (vA) <| ppq (iN lA.length) (exec_len_sl (.tmp 9) 49 40 (by kernel_rfl) Tryz.underlying49 (by kernel_rfl) (hla.keepsN K3)) <| pkq (vB) <| ppq (iN lB.length) (exec_len_sl (.tmp 11) 49 40 (by kernel_rfl) Tryz.underlying49 (by kernel_rfl) (hlb.keepsN K3)) <| ppq (iN mx) (exec_cast (congrArg (Value.int .i64) hmxI) (exec_max (.tmp 10) (.tmp 12) #[3, 3] (by kernel_rfl) .i64 _ _ (by kernel_rfl) (by kernel_rfl))) <| ppq (.bool false) (dcf ((((i : Nat) : Int)) < (((mx : Nat) : Int))) (by omega)) <| pkq (.bool false) <| pkq (uN c) <| ppq (.bool true) (dct ((((c : Nat) : Int)) > ((0) : Int)) (by omega)) <| pkq (.bool true) <| ey_ ?_
      refine s_ <| tq_ <| bl_ 1 <| qr_ [0, 1, 2, 3, 4, 5, 6, 7, 8, 9] <| pkq (uN c) <| pkq (vA) <| pkq (iN i) ?_
      refine pcq 59 #[vA, iN i] Tryz.func59 ((kDigit_is vA lA i dq _ (hla.keepsN K3) hdq).mono ?_)
      rintro e w1 ⟨rfl, rfl⟩
      refine ⟨_, rfl, ?_⟩
      refine ppq (uN s1) (exec_cast (congrArg (Value.int .u64) ((wrapU (c + dq) (by omega)).trans (congrArg (fun n : Nat => (n : Int)) hs1))) (by kernel_rfl)) <| pkq (vB) <| pkq (iN i) ?_
      refine pcq 59 #[vB, iN i] Tryz.func59 ((kDigit_is vB lB i dr_ _ (hlb.keepsN K3) hdr_).mono ?_)
      rintro e w1 ⟨rfl, rfl⟩
      refine ⟨_, rfl, ?_⟩
      refine ppq (uN s2) (exec_cast (congrArg (Value.int .u64) ((wrapU (s1 + dr_) (by omega)).trans (congrArg (fun n : Nat => (n : Int)) hs2))) (by kernel_rfl)) <| pkq (uN s2) <| eqr_ [0, 1, 2, 3, 4, 5] <| pkq (v) <| pkq (uN s2) <| ppq (uN d) (exec_cast (congrArg (fun n : Nat => Value.int .u64 (n : Int)) hd) (exec_remU 40 40 (.tmp 31) (.const (.int .u64 65536)) (by kernel_rfl) s2 65536 (by kernel_rfl) (by kernel_rfl) (by decide) (by omega))) ?_
      obtain ⟨V20, eV20, lit, elit, h21, kV20⟩ := alloc_step V1 (#[.int .u64 ((d : Nat) : Int)]) 40
      have n22 : w.heap.size ≤ lit := elit ▸ K3.size
      refine prq (.slice (some ⟨lit, 0, none⟩) 1 1) (w' := V20) (by rw [← eV20, ← elit]; kernel_rfl) ?_
      have h23 : Row V20 40 1 v out.length (out.flatMap Gc) := h2.keeps kV20 (fun _ _ x => x)
      have K24 := K3.nn kV20
      have z25 := kV20.size
      obtain ⟨vn, V26, hr27, h28, hg29, hn30, ha31⟩ := run_append_any (P := Tryz.prog) (w := V20) 49 (Oper.type (qo55_1 7826 4)) 40 i8 (.int .u64 0) 1 8 Tryz.underlying49 hi8 hg0 hg1 hg2 rfl (by decide) v out.length (out.flatMap Gc) h23 (.slice (some ⟨lit, 0, none⟩) 1 1) 1 (Gc d) (src_g h21) (by unfold maxLen; omega) (by omega)
      have kV26 : Keeps (fun j => v.ownBlock = some j) V20 V26 := Keeps.rowAdd hg29
      have hw32 : NewFrom w.heap.size vn := hnw.next K24.size ha31
      refine prq vn (w' := V26) (exec_append (.tmp 30) (.tmp 33) 49 (by kernel_rfl) v (.slice (some ⟨lit, 0, none⟩) 1 1) (by kernel_rfl) (by kernel_rfl) hr27) ?_
      have h33 : Row V26 40 1 vn ((out ++ [d]).length) ((out ++ [d]).flatMap Gc) := (row_g rfl h28)
      have hnwn := hw32
      have K34 : Keeps Nob w V26 := K24.then kV26 (fun i hi hm => absurd hi (by have := hnw i hm; omega))
      have z35 := kV26.size
      refine pkq (vn) <| ps_end <| sy_a ⟨#[vA, vB, ud, ud, .slice none 0 0, vn, uN s2, iN i, iN i, vA, iN lA.length, vB, iN lB.length, iN mx, .bool false, .bool false, uN c, .bool true, .bool true, u19, u20, uN c, vA, iN i, uN dq, uN s1, vB, iN i, uN dr_, uN s2, v, uN s2, uN d, .slice (some ⟨lit, 0, none⟩) 1 1, vn, u35, u36, ud, ud], []⟩ <| tr_ [0, 1, 2] <| pkq (uN s2) <| ppq (uN c2) (exec_cast (congrArg (fun n : Nat => Value.int .u64 (n : Int)) hc2) (exec_quoU 40 40 (.tmp 35) (.const (.int .u64 65536)) (by kernel_rfl) s2 65536 (by kernel_rfl) (by kernel_rfl) (by decide) (by omega))) <| pkq (uN c2) <| ps_end <| blk_n <| tr_ [0, 1, 2] <| pkq (iN i) <| ppq (iN (i + 1)) (exec_cast (congrArg (Value.int .i64) (wrapN (i + 1) (by omega))) (by kernel_rfl)) <| pkq (iN (i + 1)) <| et_ ?_
      refine ⟨⟨(out ++ [d]), i + 1, c2, vn, (iN i), vA, (iN lA.length), vB, (iN lB.length), (iN mx), (.bool false), (.bool false), (uN c), (.bool true), (.bool true), (iN i), (iN (i + 1)), (uN c), vA, (iN i), (uN dq), (uN s1), vB, (iN i), (uN dr_), (uN s2), v, (uN s2), (uN d), (.slice (some ⟨lit, 0, none⟩) 1 1), vn, (uN s2), (uN c2), by kernel_rfl, by rw [List.length_append, hlen]; rfl, hvn, by omega, hgn, by omega, hnwn, h33, K34⟩, ?_⟩
      exact lt_meas (x := 2 + mx - (i + 1)) (y := 2 + mx - i) (by kernel_rfl) (by kernel_rfl) (by omega)
    · have hfin : gv out = gv lA + gv lB := by rw [gv_all lA i (by omega), gv_all lB i (by omega), hc0, Nat.mul_zero, Nat.add_zero] at hval; exact hval
      refine q_ <| qr_ [0, 1, 2, 3, 4, 5, 6, 7, 8, 9, 10] <| pkq (iN i) <| pkq (vA) <| ppq (iN lA.length) (exec_len_sl (.tmp 9) 49 40 (by kernel_rfl) Tryz.underlying49 (by kernel_rfl) (hla.keepsN K3)) <| pkq (vB) <| ppq (iN lB.length) (exec_len_sl (.tmp 11) 49 40 (by kernel_rfl) Tryz.underlying49 (by kernel_rfl) (hlb.keepsN K3)) <| ppq (iN mx) (exec_cast (congrArg (Value.int .i64) hmxI) (exec_max (.tmp 10) (.tmp 12) #[3, 3] (by kernel_rfl) .i64 _ _ (by kernel_rfl) (by kernel_rfl))) <| ppq (.bool false) (dcf ((((i : Nat) : Int)) < (((mx : Nat) : Int))) (by omega)) <| pkq (.bool false) <| pkq (uN c) <| ppq (.bool false) (dcf ((((c : Nat) : Int)) > ((0) : Int)) (by omega)) <| pkq (.bool false) <| en_ ?_
      refine sy_exit 0 (by kernel_rfl) <| then_e <| then_e <| blk_e <| tqr_ [0, 1, 2] <| pkq (v) ?_
      refine pcq 60 #[v] Tryz.func60 ((kTrim_ok v out _ hgd hfin _ (row_gs h2)).mono ?_)
      rintro e w1 ⟨X, rfl, hX, rfl⟩
      refine ⟨_, rfl, ?_⟩
      refine pkq (X) <| eu_ <| so_ (X) ?_
      exact ⟨_, rfl, hX, K3⟩
theorem dg_len (k : Nat) : ∀ (m : Nat), m < 65536 ^ k → (dg m).length ≤ k := by
  induction k with
  | zero => intro m hm; have : m = 0 := by simpa using hm
            subst this; exact Nat.le_refl _
  | succ k ih =>
    intro m hm
    by_cases h0 : m = 0
    · subst h0; exact Nat.zero_le _
    · rw [dg_pos h0, List.length_cons]
      have := ih (m / 65536) (by rw [Nat.pow_succ] at hm; omega)
      omega
theorem kSumGreat_ok (vA vB : Value) (lA lB : Nat) (ha : lA < 65536 ^ 100) (hb : lB < 65536 ^ 100) (w : World) (hla : Sl w 1 Gc vA (dg lA)) (hlb : Sl w 1 Gc vB (dg lB)) : Calls Tryz.prog 32 #[vA, vB] w (fun e w' => ∃ X, e = .returned X ∧ Sl w' 1 Gc X (dg (lA + lB)) ∧ Keeps Nob w w') := by
  have h := kSum_go vA vB (dg lA) (dg lB) (Gd_dg lA) (Gd_dg lB) (Nat.le_trans (dg_len 100 lA ha) (by decide)) (Nat.le_trans (dg_len 100 lB hb) (by decide)) w hla hlb
  rw [gv_dg, gv_dg] at h; exact h
theorem less_len {lA lB : List Nat} (ha0 : Gd lA) (hb0 : Gd lB) (hat : Gt lA) (hbt : Gt lB) (h : ¬ lA.length = lB.length) : decide (lA.length < lB.length) = decide (gv lA < gv lB) := by
  rcases Nat.lt_or_ge lA.length lB.length with q | q
  · rw [decide_eq_true q, decide_eq_true (gv_len_lt ha0 hbt q)]
  · have := gv_len_lt hb0 hat (show lB.length < lA.length by omega)
    rw [decide_eq_false (by omega), decide_eq_false (by omega)]
theorem less_cases (lA lB : List Nat) (kk : Int) (h1 : -1 ≤ kk) (h2 : kk < lA.length) (hl : lA.length = lB.length) : kk = -1 ∨ (∃ (j : Nat) (x y : Nat), kk = (j : Int) ∧ j < lA.length ∧ lA[j]? = some x ∧ lB[j]? = some y ∧ x = y) ∨ (∃ (j : Nat) (x y : Nat), kk = (j : Int) ∧ j < lA.length ∧ lA[j]? = some x ∧ lB[j]? = some y ∧ x ≠ y) := by
  rcases Int.lt_or_le kk 0 with q | q
  · exact .inl (by omega)
  · obtain ⟨j, rfl⟩ := Int.eq_ofNat_of_zero_le q
    have hj : j < lA.length := by omega
    by_cases e : lA[j] = lB[j]
    · exact .inr (.inl ⟨j, _, _, rfl, hj, List.getElem?_eq_getElem hj, List.getElem?_eq_getElem (by omega), e⟩)
    · exact .inr (.inr ⟨j, _, _, rfl, hj, List.getElem?_eq_getElem hj, List.getElem?_eq_getElem (by omega), e⟩)
theorem drop_same {lA lB : List Nat} {j x : Nat} (hx : lA[j]? = some x) (hy : lB[j]? = some x) (h : lA.drop (j + 1) = lB.drop (j + 1)) : lA.drop j = lB.drop j := by
  obtain ⟨h1, e1⟩ := List.getElem?_eq_some_iff.1 hx
  obtain ⟨h2, e2⟩ := List.getElem?_eq_some_iff.1 hy
  rw [List.drop_eq_getElem_cons h1, List.drop_eq_getElem_cons h2, e1, e2, h]
theorem less_at {lA lB : List Nat} {j x y : Nat} (ha0 : Gd lA) (hb0 : Gd lB) (hl : lA.length = lB.length) (hx : lA[j]? = some x) (hy : lB[j]? = some y) (hxy : x ≠ y) (h : lA.drop (j + 1) = lB.drop (j + 1)) : decide (x < y) = decide (gv lA < gv lB) := by
  rcases Nat.lt_or_ge x y with q | q
  · rw [decide_eq_true q, decide_eq_true (gv_dig_lt ha0 hl hx hy h q)]
  · have := gv_dig_lt hb0 hl.symm hy hx h.symm (by omega)
    rw [decide_eq_false (by omega), decide_eq_false (by omega)]
noncomputable def qc55_0 (n : Nat) : Code := partOf Tryz.f31 n
noncomputable abbrev qo55_0 (n k : Nat) : Oper := (opsAt (qc55_0 n)).getD k default
theorem kLess_len (vA vB : Value) (lA lB : List Nat) (ha0 : Gd lA) (hb0 : Gd lB) (hat : Gt lA) (hbt : Gt lB) (w : World) (hla : Sl w 1 Gc vA lA) (hlb : Sl w 1 Gc vB lB) (hlen : ¬ lA.length = lB.length) :
    Calls Tryz.prog 31 #[vA, vB] w (fun e w' => e = .returned (.bool (decide (gv lA < gv lB))) ∧ Keeps Nob w w') := by
  have hln := Sl.len_le hla
  have K0 : Keeps Nob w w := Keeps.refl _ _
  refine sy_enter (qc55_0 1) ⟨#[vA, vB, ud, ud, ud, ud, ud, ud, ud, ud, ud, ud, ud, ud, ud, ud, ud, ud, ud, ud, ud, ud, ud, ud, ud, ud, ud, ud, ud, ud, ud, ud, ud, ud, ud, ud, ud, ud, ud, ud, ud], []⟩ Tryz.func31 (by kernel_rfl) (by kernel_rfl) <| qr_ [0] <| pkq (.bool false) <| eq_ <| qr_ [0, 1, 2, 3, 4] <| pkq (vA) <| ppq (iN lA.length) (exec_len_sl (.tmp 6) 49 40 (by kernel_rfl) Tryz.underlying49 (by kernel_rfl) hla) <| pkq (vB) <| ppq (iN lB.length) (exec_len_sl (.tmp 8) 49 40 (by kernel_rfl) Tryz.underlying49 (by kernel_rfl) hlb) <| ppq (.bool true) (nqt (((lA.length : Nat) : Int)) (((lB.length : Nat) : Int)) (by omega)) <| ey_ <| qr_ [0, 1, 2, 3, 4, 5] <| pkq (vA) <| ppq (iN lA.length) (exec_len_sl (.tmp 11) 49 40 (by kernel_rfl) Tryz.underlying49 (by kernel_rfl) hla) ?_
  refine pkq (vB) <| ppq (iN lB.length) (exec_len_sl (.tmp 13) 49 40 (by kernel_rfl) Tryz.underlying49 (by kernel_rfl) hlb) <| ppq (.bool (decide (lA.length < lB.length))) (exec_cast (congrArg Value.bool (show decide (((lA.length : Nat) : Int) < ((lB.length : Nat) : Int)) = decide (lA.length < lB.length) from decide_eq_decide.2 (by omega))) (by kernel_rfl)) <| pkq (.bool (decide (lA.length < lB.length))) <| eu_ <| then_r <| so_ (.bool (decide (lA.length < lB.length))) ?_
  exact ⟨by rw [less_len ha0 hb0 hat hbt hlen], K0⟩
theorem kLess_go (vA vB : Value) (lA lB : List Nat) (ha0 : Gd lA) (hb0 : Gd lB) (hat : Gt lA) (hbt : Gt lB) (w : World) (hla : Sl w 1 Gc vA lA) (hlb : Sl w 1 Gc vB lB) (hlen : lA.length = lB.length) :
    Calls Tryz.prog 31 #[vA, vB] w (fun e w' => e = .returned (.bool (decide (gv lA < gv lB))) ∧ Keeps Nob w w') := by
  have hln := Sl.len_le hla
  have K0 : Keeps Nob w w := Keeps.refl _ _
  refine sy_enter (qc55_0 1) ⟨#[vA, vB, ud, ud, ud, ud, ud, ud, ud, ud, ud, ud, ud, ud, ud, ud, ud, ud, ud, ud, ud, ud, ud, ud, ud, ud, ud, ud, ud, ud, ud, ud, ud, ud, ud, ud, ud, ud, ud, ud, ud], []⟩ Tryz.func31 (by kernel_rfl) (by kernel_rfl) <| qr_ [0] <| pkq (.bool false) <| eq_ <| qr_ [0, 1, 2, 3, 4] <| pkq (vA) <| ppq (iN lA.length) (exec_len_sl (.tmp 6) 49 40 (by kernel_rfl) Tryz.underlying49 (by kernel_rfl) hla) <| pkq (vB) <| ppq (iN lB.length) (exec_len_sl (.tmp 8) 49 40 (by kernel_rfl) Tryz.underlying49 (by kernel_rfl) hlb) <| ppq (.bool false) (nqf (((lA.length : Nat) : Int)) (((lB.length : Nat) : Int)) (by omega)) <| en_ <| s_ <| tq_ <| qr_ [0, 1, 2, 3] ?_
  refine pkq (vA) <| ppq (iN lA.length) (exec_len_sl (.tmp 16) 49 40 (by kernel_rfl) Tryz.underlying49 (by kernel_rfl) hla) <| ppq (.int .i64 (((lA.length : Nat) : Int) - 1)) (exec_cast (congrArg (Value.int .i64) (wrapI (((lA.length : Nat) : Int) - 1) _ rfl (by omega) (by omega))) (by kernel_rfl)) <| pkq (.int .i64 (((lA.length : Nat) : Int) - 1)) <| et_ <| bl_ 0 ?_
  refine sy_loop (qc55_0 116) (fun a V => ∃ (kk : Int) (u4 u19 u20 u21 u22 u23 u24 u25 u26 u27 u28 u29 u30 u31 u32 u33 u34 u35 u36 u37 u38 u39 u40 : Value), (a = ⟨#[vA, vB, ud, ud, u4, .int .i64 kk, vA, iN lA.length, vB, iN lB.length, .bool false, ud, ud, ud, ud, ud, vA, iN lA.length, .int .i64 (((lA.length : Nat) : Int) - 1), u19, u20, u21, u22, u23, u24, u25, u26, u27, u28, u29, u30, u31, u32, u33, u34, u35, u36, u37, u38, u39, u40], []⟩) ∧ (-1 ≤ kk ∧ kk < lA.length) ∧ (lA.drop (kk + 1).toNat = lB.drop (kk + 1).toNat) ∧ (Keeps Nob w V)) (fun a _ => (intOf (a.tmps.getD 5 undef) + 1).toNat) (by kernel_rfl) ?_ ?_
  · exact ⟨((lA.length : Nat) : Int) - 1, (.bool false), undef, undef, undef, undef, undef, undef, undef, undef, undef, undef, undef, undef, undef, undef, undef, undef, undef, undef, undef, undef, undef, undef, by kernel_rfl, by omega, by rw [show (((lA.length : Nat) : Int) - 1 + 1).toNat = lA.length by omega, List.drop_length, hlen, List.drop_length], K0⟩
  · rintro a V1 ⟨kk, u4, u19, u20, u21, u22, u23, u24, u25, u26, u27, u28, u29, u30, u31, u32, u33, u34, u35, u36, u37, u38, u39, u40, rfl, hk, hdr, K2⟩
    rcases less_cases lA lB kk hk.1 hk.2 hlen with hk0 | ⟨j, x, y, hkj, hj, hx, hy, hxy⟩ | ⟨j, x, y, hkj, hj, hx, hy, hxy⟩
    · have hres : ¬ gv lA < gv lB := by
        rw [show (kk + 1).toNat = 0 by omega, List.drop_zero, List.drop_zero] at hdr
        rw [hdr]; exact Nat.lt_irrefl _
      refine q_ <| qr_ [0, 1] <| pkq (.int .i64 kk) <| ppq (.bool false) (dcf ((0 : Int) ≤ kk) (by omega)) <| en_ <| sy_exit 0 (by kernel_rfl) <| then_e <| then_e <| blk_e <| tqr_ [0] <| pkq (.bool false) <| eu_ <| so_ (.bool false) ?_
      exact ⟨by rw [decide_eq_false hres], K2⟩
    · subst hkj
      obtain ⟨b_lA, o_lA, c_lA, hv_lA, hb_lA, _⟩ := hla.at_ j x hx
      obtain ⟨b_lB, o_lB, c_lB, hv_lB, hb_lB, _⟩ := hlb.at_ j y hy
      have hdrn : lA.drop (((j : Nat) : Int) - 1 + 1).toNat = lB.drop (((j : Nat) : Int) - 1 + 1).toNat := by
        rw [show (((j : Nat) : Int) + 1).toNat = j + 1 by omega] at hdr
        rw [show (((j : Nat) : Int) - 1 + 1).toNat = j by omega]
        exact drop_same hx (hxy ▸ hy) hdr
      refine q_ <| qr_ [0, 1] <| pkq (iN j) <| ppq (.bool true) (dct ((0 : Int) ≤ ((j : Nat) : Int)) (by omega)) <| ey_ <| s_ <| tq_ <| bl_ 1 <| q_ <| sy_reg <| rg_still 6 8 (opsAt (qc55_0 1864)) [qo55_0 1864 0, qo55_0 1864 1, qo55_0 1864 2, qo55_0 1864 3, qo55_0 1864 4, qo55_0 1864 5, qo55_0 1864 6, qo55_0 1864 7] [qo55_0 1864 8] (by kernel_rfl) (by kernel_rfl) (by kernel_rfl) (by kernel_rfl) (by kernel_rfl) ?_
      obtain ⟨V4, eV4, kV4⟩ := drew_step V1
      rw [eV4]
      clear eV4
      have K5 := K2.nn kV4
      have z6 := kV4.size
      refine skq (vA) <| skq (iN j) <| spq (pT b_lA (o_lA + j * 1)) (exec_indexAt_slice 49 (.tmp 23) (.tmp 24) (by kernel_rfl) b_lA o_lA lA.length c_lA (Eq.trans (b := vA) (by kernel_rfl) hv_lA) .i64 j (by kernel_rfl) _ 1 Tryz.underlying49 (by kernel_rfl) (by omega)) <| spq (uN x) (ldc 40 b_lA (o_lA + j * 1 + 0) (Sl.cell (hla.keepsN K5) hx hv_lA rfl)) <| skq (vB) <| skq (iN j) <| spq (pT b_lB (o_lB + j * 1)) (exec_indexAt_slice 49 (.tmp 27) (.tmp 28) (by kernel_rfl) b_lB o_lB lB.length c_lB (Eq.trans (b := vB) (by kernel_rfl) hv_lB) .i64 j (by kernel_rfl) _ 1 Tryz.underlying49 (by kernel_rfl) (by omega)) <| spq (uN y) (ldc 40 b_lB (o_lB + j * 1 + 0) (Sl.cell (hlb.keepsN K5) hy hv_lB rfl)) <| st_end <| ls_run (qo55_0 1864 8) (.bool false) (w' := V4) (by kernel_rfl) (nqf (((x : Nat) : Int)) (((y : Nat) : Int)) (by omega)) <| ls_end <| then_n <| n_ <| s_ ?_
      refine blk_n <| tr_ [0, 1, 2] <| pkq (iN j) <| ppq (.int .i64 (((j : Nat) : Int) - 1)) (exec_cast (congrArg (Value.int .i64) (wrapI (((j : Nat) : Int) - 1) _ rfl (by omega) (by omega))) (by kernel_rfl)) <| pkq (.int .i64 (((j : Nat) : Int) - 1)) <| et_ ?_
      refine ⟨⟨((j : Nat) : Int) - 1, u4, (iN j), (.bool true), (iN j), (.int .i64 (((j : Nat) : Int) - 1)), vA, (iN j), (pT b_lA (o_lA + j * 1)), (uN x), vB, (iN j), (pT b_lB (o_lB + j * 1)), (uN y), (.bool false), u32, u33, u34, u35, u36, u37, u38, u39, u40, by kernel_rfl, by omega, hdrn, K5⟩, ?_⟩
      exact lt_meas (x := (((j : Nat) : Int) - 1 + 1).toNat) (y := (((j : Nat) : Int) + 1).toNat) (by kernel_rfl) (by kernel_rfl) (by omega)
    · subst hkj
      obtain ⟨b_lA, o_lA, c_lA, hv_lA, hb_lA, _⟩ := hla.at_ j x hx
      obtain ⟨b_lB, o_lB, c_lB, hv_lB, hb_lB, _⟩ := hlb.at_ j y hy
      have hres : decide (x < y) = decide (gv lA < gv lB) := less_at ha0 hb0 hlen hx hy hxy (by rw [show (((j : Nat) : Int) + 1).toNat = j + 1 by omega] at hdr; exact hdr)
      refine q_ <| qr_ [0, 1] <| pkq (iN j) <| ppq (.bool true) (dct ((0 : Int) ≤ ((j : Nat) : Int)) (by omega)) <| ey_ <| s_ <| tq_ <| bl_ 1 <| q_ <| sy_reg <| rg_still 6 8 (opsAt (qc55_0 1864)) [qo55_0 1864 0, qo55_0 1864 1, qo55_0 1864 2, qo55_0 1864 3, qo55_0 1864 4, qo55_0 1864 5, qo55_0 1864 6, qo55_0 1864 7] [qo55_0 1864 8] (by kernel_rfl) (by kernel_rfl) (by kernel_rfl) (by kernel_rfl) (by kernel_rfl) ?_
      obtain ⟨V8, eV8, kV8⟩ := drew_step V1
      rw [eV8]
      clear eV8
      have K9 := K2.nn kV8
      have z10 := kV8.size
      refine skq (vA) <| skq (iN j) <| spq (pT b_lA (o_lA + j * 1)) (exec_indexAt_slice 49 (.tmp 23) (.tmp 24) (by kernel_rfl) b_lA o_lA lA.length c_lA (Eq.trans (b := vA) (by kernel_rfl) hv_lA) .i64 j (by kernel_rfl) _ 1 Tryz.underlying49 (by kernel_rfl) (by omega)) <| spq (uN x) (ldc 40 b_lA (o_lA + j * 1 + 0) (Sl.cell (hla.keepsN K9) hx hv_lA rfl)) <| skq (vB) <| skq (iN j) <| spq (pT b_lB (o_lB + j * 1)) (exec_indexAt_slice 49 (.tmp 27) (.tmp 28) (by kernel_rfl) b_lB o_lB lB.length c_lB (Eq.trans (b := vB) (by kernel_rfl) hv_lB) .i64 j (by kernel_rfl) _ 1 Tryz.underlying49 (by kernel_rfl) (by omega)) <| spq (uN y) (ldc 40 b_lB (o_lB + j * 1 + 0) (Sl.cell (hlb.keepsN K9) hy hv_lB rfl)) <| st_end <| ls_run (qo55_0 1864 8) (.bool true) (w' := V8) (by kernel_rfl) (nqt (((x : Nat) : Int)) (((y : Nat) : Int)) (by omega)) <| ls_end <| then_n <| y_ <| q_ ?_
      refine sy_reg <| rg_still 7 9 (opsAt (qc55_0 7460)) [qo55_0 7460 0, qo55_0 7460 1, qo55_0 7460 2, qo55_0 7460 3, qo55_0 7460 4, qo55_0 7460 5, qo55_0 7460 6, qo55_0 7460 7, qo55_0 7460 8] [qo55_0 7460 9] (by kernel_rfl) (by kernel_rfl) (by kernel_rfl) (by kernel_rfl) (by kernel_rfl) ?_
      obtain ⟨V12, eV12, kV12⟩ := drew_step V8
      rw [eV12]
      clear eV12
      have K13 := K9.nn kV12
      have z14 := kV12.size
      refine skq (vA) <| skq (iN j) <| spq (pT b_lA (o_lA + j * 1)) (exec_indexAt_slice 49 (.tmp 32) (.tmp 33) (by kernel_rfl) b_lA o_lA lA.length c_lA (Eq.trans (b := vA) (by kernel_rfl) hv_lA) .i64 j (by kernel_rfl) _ 1 Tryz.underlying49 (by kernel_rfl) (by omega)) <| spq (uN x) (ldc 40 b_lA (o_lA + j * 1 + 0) (Sl.cell (hla.keepsN K13) hx hv_lA rfl)) <| skq (vB) <| skq (iN j) <| spq (pT b_lB (o_lB + j * 1)) (exec_indexAt_slice 49 (.tmp 36) (.tmp 37) (by kernel_rfl) b_lB o_lB lB.length c_lB (Eq.trans (b := vB) (by kernel_rfl) hv_lB) .i64 j (by kernel_rfl) _ 1 Tryz.underlying49 (by kernel_rfl) (by omega)) <| spq (uN y) (ldc 40 b_lB (o_lB + j * 1 + 0) (Sl.cell (hlb.keepsN K13) hy hv_lB rfl)) <| spq (.bool (decide (x < y))) (exec_cast (congrArg Value.bool (show decide (((x : Nat) : Int) < ((y : Nat) : Int)) = decide (x < y) from decide_eq_decide.2 (by omega))) (by kernel_rfl)) <| st_end <| ls_run (qo55_0 7460 9) (.bool (decide (x < y))) (w' := V12) (by kernel_rfl) (by kernel_rfl) <| ls_end <| then_n <| u_ ?_
      refine blk_r <| then_r <| then_r <| blk_r <| then_r <| so_ (.bool (decide (x < y))) ?_
      exact ⟨by rw [hres], K13⟩
theorem kLessGreat_ok (vA vB : Value) (lA lB : Nat) (w : World) (hla : Sl w 1 Gc vA (dg lA)) (hlb : Sl w 1 Gc vB (dg lB)) : Calls Tryz.prog 31 #[vA, vB] w (fun e w' => e = .returned (.bool (decide (lA < lB))) ∧ Keeps Nob w w') := by
  have e : decide (lA < lB) = decide (gv (dg lA) < gv (dg lB)) := by rw [gv_dg, gv_dg]
  rw [e]
  by_cases h : (dg lA).length = (dg lB).length
  · exact kLess_go vA vB _ _ (Gd_dg lA) (Gd_dg lB) (Gt_dg lA) (Gt_dg lB) w hla hlb h
  · exact kLess_len vA vB _ _ (Gd_dg lA) (Gd_dg lB) (Gt_dg lA) (Gt_dg lB) w hla hlb h
end Go.Proofs.YtghohakbepeffaaGreatDoor
namespace Go.Proofs.YtghohakbepeffaaGreatDoor
set_option maxRecDepth 100000
set_option maxHeartbeats 4000000
open Go Go.RowKit Go.Own Go.Shelf Go.ChangeShapes
theorem open_words {H : Type} {enc : TypeId × Value → H} {W : World} {sp : Nat → Bool} {held : Bool} {v : Value} {d : DataW H} {ps : List MemPlace} (h : DataW.Trod enc Tryz.prog W 0 sp held 49 v d ps) (hv : ∃ a len cap, v = .slice a len cap) : ∃ l : List Nat, Sl W 1 Gc v l ∧ ∀ x ∈ l, x < 18446744073709551616 := by
  have hC : Tryz.prog.cellsOf 40 = 1 := by kernel_rfl
  obtain ⟨a, len, cap, rfl, hl, hm, hn, hi⟩ := open_elemsN Tryz.underlying49 (by rw [hC]; omega) h hv
  rw [hC] at hi
  obtain ⟨l, hll, hq⟩ := list_of (fun i (x : Nat) => x < 18446744073709551616 ∧ ∃ b o, a = some ⟨b, o, none⟩ ∧ W.cell? ⟨b, o + i, none⟩ = some (.int .u64 ((x : Nat) : Int))) len (fun i hlt => by
    obtain ⟨b, o, cs, n, y, ha, hcl, hcell, ht'⟩ := hi i hlt
    obtain ⟨q, e1, _, e3⟩ := DataW.trod_int Tryz.underlying40 ht'
    obtain ⟨c, hc, rfl⟩ := u64_nat e3
    have h0 := hcell 0 (by omega)
    rw [e1] at h0
    exact ⟨c, by omega, b, o, ha, by simpa using h0⟩)
  subst hll
  refine ⟨l, ⟨⟨a, cap, rfl, hl, hm, hn⟩, fun k x hk => ?_⟩, fun x hx => ?_⟩
  · obtain ⟨_, b, o, rfl, c0⟩ := hq k x hk
    refine ⟨b, o, cap, rfl, World.block_lt_of_cell? W _ c0, fun j u hj => ?_⟩
    cases j with
    | succ j => simp [Gc] at hj
    | zero =>
      simp only [Gc, List.getElem?_cons_zero, Option.some.injEq] at hj
      subst hj
      rw [Nat.mul_one]; exact c0
  · obtain ⟨k, hk⟩ := List.getElem?_of_mem hx
    exact (hq k x hk).1
end Go.Proofs.YtghohakbepeffaaGreatDoor
