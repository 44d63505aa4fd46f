import Derived.Test.YtghohakbepeffaaGreatDoorPenaltyGrowsP4
namespace Go.Proofs.YtghohakbepeffaaGreatDoor
set_option maxRecDepth 100000
set_option maxHeartbeats 4000000
open Go Go.RowKit Go.Own Go.Shelf
def mNote (a n : Nat) : Nt := ⟨((a + n % 30 : Nat) : Int), n / 30 % 4611686018427387905⟩
def mgo : List Nat → Nat → List Nt
  | [], _ => []
  | n :: r, a => mNote a n :: mgo r (a + n % 30)
def mAt : List Nat → Nat → Nat
  | [], a => a
  | n :: r, a => mAt r (a + n % 30)
theorem mgo_snoc (n : Nat) : ∀ (l : List Nat) (a : Nat), mgo (l ++ [n]) a = mgo l a ++ [mNote (mAt l a) n]
  | [], a => rfl
  | m :: r, a => by rw [List.cons_append, mgo, mgo, mgo_snoc n r, mAt]; rfl
theorem mAt_snoc (n : Nat) : ∀ (l : List Nat) (a : Nat), mAt (l ++ [n]) a = mAt l a + n % 30
  | [], a => rfl
  | m :: r, a => by rw [List.cons_append, mAt, mAt_snoc n r, mAt]
theorem mgo_len : ∀ (l : List Nat) (a : Nat), (mgo l a).length = l.length
  | [], _ => rfl
  | m :: r, a => by rw [mgo, List.length_cons, mgo_len r, List.length_cons]
theorem mAt_le : ∀ (l : List Nat) (a : Nat), a ≤ mAt l a ∧ mAt l a ≤ a + 29 * l.length
  | [], a => by simp [mAt]
  | m :: r, a => by
    have := mAt_le r (a + m % 30)
    rw [mAt, List.length_cons]; omega
theorem mlast (l : List Nat) (a : Nat) (y : Nt) (h : (mgo l a).getLast? = some y) : y.h ≤ ((mAt l a : Nat) : Int) := by
  rcases List.eq_nil_or_concat l with rfl | ⟨r, n, rfl⟩
  · cases h
  · rw [List.concat_eq_append] at h ⊢
    rw [mgo_snoc, List.getLast?_append, List.getLast?_singleton] at h
    simp only [Option.some_or, Option.some.injEq] at h
    subst h
    rw [mAt_snoc]; exact Int.le_refl _
theorem mNote_fine (l : List Nat) (n : Nat) (h : l.length ≤ 64) : ¬ (mNote (mAt l 1) n).bad := by
  have := mAt_le l 1
  unfold Nt.bad mNote
  simp only
  omega
theorem mmay (l : List Nat) (n : Nat) (h : l.length ≤ 64) : nmay (mNote (mAt l 1) n) (mgo l 1) = 0 := by
  unfold nmay
  rw [if_neg (mNote_fine l n h)]
  split
  · rename_i y hy
    have := mlast l 1 y hy
    rw [if_neg]
    unfold mNote
    simp only
    omega
  · rfl
theorem nchk_snoc (x : Nt) : ∀ (r a : List Nt), (nchk a r).1 = 0 → nmay x (a ++ r) = 0 → (nchk a (r ++ [x])).1 = 0
  | [], a, _, h => by rw [List.append_nil] at h; rw [List.nil_append, nchk, if_pos h]; rfl
  | y :: r, a, h1, h => by
    rw [nchk] at h1
    by_cases hy : nmay y a = 0
    · rw [if_pos hy] at h1
      rw [List.cons_append, nchk, if_pos hy]
      exact nchk_snoc x r (a ++ [y]) h1 (by rw [List.append_assoc]; exact h)
    · rw [if_neg hy] at h1; exact absurd h1 hy
theorem ncheck_snoc {a : List Nt} {x : Nt} (h : (ncheck a).1 = 0) (hl : a.length < 64) (hx : nmay x a = 0) : (ncheck (a ++ [x])).1 = 0 := by
  unfold ncheck at h ⊢
  rw [if_neg (by omega)] at h
  rw [if_neg (by rw [List.length_append, List.length_singleton]; omega)]
  exact nchk_snoc x a [] h (by rw [List.nil_append]; exact hx)
theorem mcheck (l : List Nat) : l.length ≤ 64 → (ncheck (mgo l 1)).1 = 0 := by
  induction h : l.length generalizing l with
  | zero => intro _; obtain rfl := List.eq_nil_of_length_eq_zero h; rfl
  | succ k ih =>
    intro hk
    rcases List.eq_nil_or_concat l with rfl | ⟨r, n, rfl⟩
    · cases h
    · rw [List.concat_eq_append] at h ⊢
      rw [List.length_append, List.length_singleton] at h
      rw [mgo_snoc]
      exact ncheck_snoc (ih r (by omega) (by omega)) (by rw [mgo_len]; omega) (mmay r n (by omega))
theorem madd {nums : List Nat} {i n : Nat} (h : nums[i]? = some n) (hi : i < 64) : nadd (mgo (nums.take i) 1) (mNote (mAt (nums.take i) 1) n) = (mgo (nums.take (i + 1)) 1, 0) := by
  have hl : (nums.take i).length ≤ 64 := by rw [List.length_take]; omega
  have hlt : i < nums.length := (List.getElem?_eq_some_iff.1 h).1
  rw [nadd_ok (mcheck _ hl) (mmay _ n hl) (by rw [mgo_len, List.length_take]; omega), List.take_add_one, h, Option.toList_some, mgo_snoc]
theorem mat_next {nums : List Nat} {i n : Nat} (h : nums[i]? = some n) : mAt (nums.take (i + 1)) 1 = mAt (nums.take i) 1 + n % 30 := by
  rw [List.take_add_one, h, Option.toList_some, mAt_snoc]
/-- The params of a base, a multiple, a window. -/
def pOf (base mult : Nat) (window : Int) : Par := ⟨100, 100, 10, 8, 7, 8, 20, ((base % 1000000001 : Nat) : Int), ((mult % 1001 : Nat) : Int), 1 + window % 60, 100000000⟩
theorem pOf_Ok (base mult : Nat) (window : Int) : (pOf base mult window).Ok := by constructor <;> (simp only [pOf, i64ok, u64ok]; omega)
theorem pOf_check (base mult : Nat) (window : Int) : (pOf base mult window).check.1 = 0 := by
  have hg : ∀ i, i < 11 → (pOf base mult window).good i := by
    intro i hi
    have h : i = 0 ∨ i = 1 ∨ i = 2 ∨ i = 3 ∨ i = 4 ∨ i = 5 ∨ i = 6 ∨ i = 7 ∨ i = 8 ∨ i = 9 ∨ i = 10 := by omega
    rcases h with rfl | rfl | rfl | rfl | rfl | rfl | rfl | rfl | rfl | rfl | rfl <;> simp [Par.good, Par.l, parLo, parHi, pOf] <;> omega
  rw [Par.check_good _ hg]
  simp [pOf]
theorem mref {nums : List Nat} (base mult : Nat) (window h : Int) (hl : nums.length ≤ 64) (h1 : 1 ≤ h) (h2 : h ≤ 4294967296) : nref (pOf base mult window) (mgo nums 1) h = 0 := by
  unfold nref
  rw [if_neg (fun e => e (pOf_check base mult window)), if_neg (fun e => e (mcheck nums hl)), if_neg (by omega)]
theorem mnoted {nums : List Nat} (base mult : Nat) (window h : Int) (hl : nums.length ≤ 64) (h1 : 1 ≤ h) (h2 : h ≤ 4294967296) : nnoted (pOf base mult window) (mgo nums 1) h = (nsum ((mgo nums 1).filter (ncounts (pOf base mult window) h)), 0) := by
  unfold nnoted; rw [mref base mult window h hl h1 h2, if_neg (fun e => e rfl)]
/-- A fraction, when nothing is refused. -/
def mq (m S t : Nat) : Nat := m * 1000000000 * S / t
def mS (n s : Nat) : Nat := min (n + s) 4611686018427387904
def mfr (b q : Nat) : Nat := min (min 1000000000 q + b) 1000000000
theorem mfrac {nums : List Nat} (base mult : Nat) (window h : Int) (n s t : Nat) (hl : nums.length ≤ 64) (h1 : 1 ≤ h) (h2 : h ≤ 4294967296) (hn : nnoted (pOf base mult window) (mgo nums 1) h = (n, 0)) (hs : s ≤ 4611686018427387904) (ht : 1 ≤ t) (ht2 : t ≤ 4611686018427387904) : nfrac (pOf base mult window) (mgo nums 1) h s t = (mfr (base % 1000000001) (mq (mult % 1001) (mS n s) t), 0) := by
  unfold nfrac
  rw [hn]
  simp only
  rw [if_neg (by omega), if_neg (by omega), if_neg (by omega)]
  unfold mfr mq mS ncap pOf
  simp only
  rw [Int.toNat_natCast, Int.toNat_natCast]
theorem div3 (k a b t t' : Nat) (h : a ≤ b) (ht : t' ≤ t) (h0 : 1 ≤ t') : k * a / t ≤ k * b / t' :=
  Nat.le_trans (Nat.div_le_div_right (Nat.mul_le_mul_left k h)) (Nat.div_le_div_left ht h0)
theorem mq_more {m S S' t t' : Nat} (h : S ≤ S') (ht : t' ≤ t) (h0 : 1 ≤ t') : mq m S t ≤ mq m S' t' := by
  unfold mq; exact div3 _ _ _ _ _ h ht h0
theorem mS_more {n n' s s' : Nat} (hn : n ≤ n') (hs : s ≤ s') : mS n s ≤ mS n' s' := by unfold mS; omega
theorem mfr_more {b q q' : Nat} (h : q ≤ q') : mfr b q ≤ mfr b q' := by unfold mfr; omega
theorem mfr_bnd {b q : Nat} (h : b ≤ 1000000000) : b ≤ mfr b q ∧ mfr b q ≤ 1000000000 := by unfold mfr; omega
theorem mfr_exact {b q : Nat} (h1 : mfr b q < 1000000000) : q = mfr b q - b := by unfold mfr at h1 ⊢; omega
theorem mq_exact {m S t : Nat} (h0 : 1 ≤ t) : mq m S t * t ≤ m * S * 1000000000 ∧ m * S * 1000000000 < mq m S t * t + t := by
  have e : m * S * 1000000000 = m * 1000000000 * S := by rw [Nat.mul_assoc, Nat.mul_assoc, Nat.mul_comm S]
  unfold mq
  rw [e]
  generalize m * 1000000000 * S = X
  exact ⟨Nat.div_mul_le_self X t, Nat.lt_div_mul_add (by omega)⟩
/-- All that PenaltyGrows asks. -/
theorem grows_plain (base mult : Nat) (window h : Int) (nums : List Nat) (st mo tt le : Nat) (hl : nums.length ≤ 64) (h1 : 1 ≤ h) (h2 : h ≤ 4294967296) (q1 : st ≤ 4611686018427387904) (q2 : mo ≤ 4611686018427387904) (q3 : 1 ≤ tt ∧ tt ≤ 4611686018427387904) (q4 : 1 ≤ le ∧ le ≤ 4611686018427387904) :
    ∃ f n fa fb fn : Nat, nfrac (pOf base mult window) (mgo nums 1) h st tt = (f, 0) ∧ nnoted (pOf base mult window) (mgo nums 1) h = (n, 0) ∧ nfrac (pOf base mult window) (mgo nums 1) h (max st mo) tt = (fa, 0) ∧ nfrac (pOf base mult window) (mgo nums 1) h st (max tt le) = (fb, 0) ∧ nfrac (pOf base mult window) (mgo [] 1) h st tt = (fn, 0) ∧
      base % 1000000001 ≤ f ∧ f ≤ 1000000000 ∧ f ≤ fa ∧ fb ≤ f ∧ fn ≤ f ∧ n ≤ 4611686018427387904 ∧ (f = 1000000000 ∨ f < 1000000000 ∧ (f - base % 1000000001) * tt ≤ mult % 1001 * min (n + st) 4611686018427387904 * 1000000000 ∧ mult % 1001 * min (n + st) 4611686018427387904 * 1000000000 < (f - base % 1000000001) * tt + tt) := by
  have hn := mnoted base mult window h hl h1 h2
  have hn0 : nnoted (pOf base mult window) (mgo [] 1) h = (0, 0) := mnoted base mult window h (nums := []) (by decide) h1 h2
  have hnl := nsum_le ((mgo nums 1).filter (ncounts (pOf base mult window) h))
  generalize nsum ((mgo nums 1).filter (ncounts (pOf base mult window) h)) = n at hn hnl
  refine ⟨_, n, _, _, _, mfrac base mult window h n st tt hl h1 h2 hn q1 q3.1 q3.2, hn, mfrac base mult window h n (max st mo) tt hl h1 h2 hn (by omega) q3.1 q3.2, mfrac base mult window h n st (max tt le) hl h1 h2 hn q1 (by omega) (by omega), mfrac base mult window h 0 st tt (by decide) h1 h2 hn0 q1 q3.1 q3.2, (mfr_bnd (by omega)).1, (mfr_bnd (by omega)).2, mfr_more (mq_more (mS_more (Nat.le_refl _) (by omega)) (Nat.le_refl _) q3.1), mfr_more (mq_more (Nat.le_refl _) (by omega) q3.1), mfr_more (mq_more (mS_more (Nat.zero_le _) (Nat.le_refl _)) (Nat.le_refl _) q3.1), hnl, ?_⟩
  rcases Nat.lt_or_ge (mfr (base % 1000000001) (mq (mult % 1001) (mS n st) tt)) 1000000000 with q | q
  · have e := mfr_exact q
    have x := mq_exact (m := mult % 1001) (S := mS n st) q3.1
    refine .inr ⟨q, ?_⟩
    rw [← e]; exact x
  · exact .inl (by have := (mfr_bnd (b := base % 1000000001) (q := mq (mult % 1001) (mS n st) tt) (by omega)).2
                   omega)
end Go.Proofs.YtghohakbepeffaaGreatDoor
namespace Go.Proofs.YtghohakbepeffaaGreatDoor
set_option maxRecDepth 100000
set_option maxHeartbeats 4000000
open Go Go.RowKit Go.Own Go.Shelf
theorem par_more {p : Par} (h : p.check.1 = 0) : (0 ≤ p.base ∧ p.base ≤ 1000000000) ∧ (0 ≤ p.mult ∧ p.mult ≤ 1000) := by
  have hg : ∀ j, j < 11 → p.good j := by
    intro j hj
    refine Classical.byContradiction fun hn => ?_
    unfold Par.check at h
    cases hf : (List.range 11).find? (fun i => decide (¬ p.good i)) with
    | some i => rw [hf] at h; cases h
    | none =>
      rw [List.find?_eq_none] at hf
      exact hf j (by simpa using hj) (by simpa using hn)
  have g1 := hg 7 (by decide)
  have g2 := hg 8 (by decide)
  exact ⟨g1, g2⟩
theorem noted_par {p : Par} {l : List Nt} {h : Int} (a : (nnoted p l h).2 = 0) : p.check.1 = 0 := by
  unfold nnoted at a
  by_cases c : nref p l h ≠ 0
  · rw [if_pos c] at a; exact absurd a c
  · exact (nref_zero (Classical.byContradiction c)).1
theorem noted_le (p : Par) (l : List Nt) (h : Int) : (nnoted p l h).1 ≤ 4611686018427387904 := by
  unfold nnoted; split
  · exact Nat.zero_le _
  · exact nsum_le _
theorem nnoted_is {x n : Nat} {y r : Int} {args : Array Value} {w : World} (h1 : x = n) (h2 : y = r) (h : Calls Tryz.prog 29 args w (fun e w' => e = .returned (.tuple #[.int .u64 ((x : Nat) : Int), .int .i64 y]) ∧ Keeps Nob w w')) : Calls Tryz.prog 29 args w (fun e w' => e = .returned (.tuple #[.int .u64 ((n : Nat) : Int), .int .i64 r]) ∧ Keeps Nob w w') := h1 ▸ h2 ▸ h
theorem capped_is {x n : Nat} {args : Array Value} {w : World} (h1 : x = n) (h : Calls Tryz.prog 57 args w (fun e w' => e = .returned (.tuple #[.int .u64 ((x : Nat) : Int), .int .i64 0]) ∧ Keeps Nob w w')) : Calls Tryz.prog 57 args w (fun e w' => e = .returned (.tuple #[.int .u64 ((n : Nat) : Int), .int .i64 0]) ∧ Keeps Nob w w') := h1 ▸ h
noncomputable def qc58_0 (n : Nat) : Code := partOf Tryz.f28 n
theorem nFrac_err (p : Par) (hp : p.Ok) (l : List Nt) (v : Value) (h : Int) (hh1 : i64ok h) (s t : Nat) (hs : s < 18446744073709551616) (ht : t < 18446744073709551616) (w : World) (hl : Sl w 2 Nt.cl v l) (rf : Int) (n : Nat) (hn : (nnoted p l h).1 = n) (hrf : (nnoted p l h).2 = rf) (h0 : ¬ rf = 0) (het : ErrTab w) :
    Calls Tryz.prog 28 #[.agg p.cells, v, .int .i64 h, .int .u64 ((s : Nat) : Int), .int .u64 ((t : Nat) : Int)] w (fun e w' => e = .returned (.tuple #[.int .u64 (((nfrac p l h s t).1 : Nat) : Int), .int .i64 (nfrac p l h s t).2]) ∧ Keeps Nob w w') := by
  have K0 : Keeps Nob w w := Keeps.refl _ _
  refine sy_enter (qc58_0 1) ⟨#[.agg p.cells, v, .int .i64 h, uN s, uN t, ud, ud, ud, ud, ud, ud, ud, ud, ud, ud, ud, ud, ud, ud, ud, ud, ud, ud, ud, ud, ud, ud, ud, ud, ud, ud, ud, ud, ud, ud, ud, ud, ud, ud, ud, ud, ud, ud, ud, ud, ud, ud, ud, ud, ud, ud, ud, ud, ud, ud, ud], []⟩ Tryz.func28 (by kernel_rfl) (by kernel_rfl) <| qr_ [0, 1, 2] <| pbx 51 p.cells (.agg p.cells) fun V1 gp egp h2 kV1 => ?_
  have n3 : w.heap.size ≤ gp := egp ▸ K0.size
  have h4 : Sl V1 2 Nt.cl v l := hl.keepsN kV1
  have K5 := K0.nn kV1
  have z6 := kV1.size
  refine pkq (.int .u64 0) <| pkq (.int .i64 0) <| eqr_ [0, 1, 2, 3, 4, 5, 6, 7, 8] <| ppq (.agg (p.cells)) (ldr 51 gp (h2) (by kernel_rfl)) <| pkq (v) <| pkq (.int .i64 h) ?_
  refine pcq 29 #[.agg (p.cells), v, .int .i64 h] Tryz.func29 ((nnoted_is hn hrf (nNoted_all p hp l v h hh1 _ h4 (ErrTab.keeps het K5))).mono ?_)
  rintro e V7 ⟨rfl, kV7⟩
  refine ⟨_, rfl, ?_⟩
  have K10 := K5.nn kV7
  have z11 := kV7.size
  refine pkq (.tuple #[uN n, .int .i64 rf]) <| pkq (uN n) <| pkq (.int .i64 rf) <| pkq (uN n) <| pkq (.int .i64 rf) <| eq_ <| bl_ 0 <| qr_ [0, 1, 2] <| pkq (.int .i64 rf) <| ppq (.bool true) (nqt ((rf) : Int) ((0) : Int) (by omega)) <| pkq (.bool true) <| ey_ <| qr_ [0, 1, 2] <| pkq (.int .i64 rf) ?_
  refine pkq (.int .u64 0) <| pkq (.int .i64 rf) <| eu_ <| blk_r <| then_r <| so_ (.tuple #[.int .u64 0, .int .i64 rf]) ?_
  exact ⟨by unfold nfrac; rw [hrf, if_pos h0]; rfl, K10⟩
theorem nFrac_over1 (p : Par) (hp : p.Ok) (l : List Nt) (v : Value) (h : Int) (hh1 : i64ok h) (s t : Nat) (hs : s < 18446744073709551616) (ht : t < 18446744073709551616) (w : World) (hl : Sl w 2 Nt.cl v l) (n bs m f : Nat) (hn : (nnoted p l h).1 = n) (hrf : (nnoted p l h).2 = 0) (hn2 : n ≤ 4611686018427387904) (hbs : p.base = ((bs : Nat) : Int)) (hm : p.mult = ((m : Nat) : Int)) (hbl : bs ≤ 1000000000) (hml : m ≤ 1000) (hf : min 1000000000 (m * 1000000000 * (min (n + s) 4611686018427387904) / t) = f) (hq : 4611686018427387904 < s) (het : ErrTab w) :
    Calls Tryz.prog 28 #[.agg p.cells, v, .int .i64 h, .int .u64 ((s : Nat) : Int), .int .u64 ((t : Nat) : Int)] w (fun e w' => e = .returned (.tuple #[.int .u64 (((nfrac p l h s t).1 : Nat) : Int), .int .i64 (nfrac p l h s t).2]) ∧ Keeps Nob w w') := by
  have K0 : Keeps Nob w w := Keeps.refl _ _
  refine sy_enter (qc58_0 1) ⟨#[.agg p.cells, v, .int .i64 h, uN s, uN t, ud, ud, ud, ud, ud, ud, ud, ud, ud, ud, ud, ud, ud, ud, ud, ud, ud, ud, ud, ud, ud, ud, ud, ud, ud, ud, ud, ud, ud, ud, ud, ud, ud, ud, ud, ud, ud, ud, ud, ud, ud, ud, ud, ud, ud, ud, ud, ud, ud, ud, ud], []⟩ Tryz.func28 (by kernel_rfl) (by kernel_rfl) <| qr_ [0, 1, 2] <| pbx 51 p.cells (.agg p.cells) fun V1 gp egp h2 kV1 => ?_
  have n3 : w.heap.size ≤ gp := egp ▸ K0.size
  have h4 : Sl V1 2 Nt.cl v l := hl.keepsN kV1
  have K5 := K0.nn kV1
  have z6 := kV1.size
  refine pkq (.int .u64 0) <| pkq (.int .i64 0) <| eqr_ [0, 1, 2, 3, 4, 5, 6, 7, 8] <| ppq (.agg (p.cells)) (ldr 51 gp (h2) (by kernel_rfl)) <| pkq (v) <| pkq (.int .i64 h) ?_
  refine pcq 29 #[.agg (p.cells), v, .int .i64 h] Tryz.func29 ((nnoted_is hn hrf (nNoted_all p hp l v h hh1 _ h4 (ErrTab.keeps het K5))).mono ?_)
  rintro e V7 ⟨rfl, kV7⟩
  refine ⟨_, rfl, ?_⟩
  have K10 := K5.nn kV7
  have z11 := kV7.size
  refine pkq (.tuple #[uN n, .int .i64 0]) <| pkq (uN n) <| pkq (.int .i64 0) <| pkq (uN n) <| pkq (.int .i64 0) <| eq_ <| bl_ 0 <| qr_ [0, 1, 2] <| pkq (.int .i64 0) <| pkq (.bool false) <| pkq (.bool false) <| en_ <| qr_ [0, 1, 2, 3, 4, 5, 6] <| pkq (uN s) ?_
  refine ppq (.bool true) (dct ((((s : Nat) : Int)) > ((4611686018427387904) : Int)) (by omega)) <| pkq (.bool true) <| pnq <| pnq <| pkq (.bool true) <| pkq (.bool true) <| ey_ <| qr_ [0, 1] <| pkq (.int .u64 0) <| pkq (.int .i64 12) <| ps_end <| sy_a ⟨#[.agg p.cells, v, .int .i64 h, uN s, uN t, pT gp 0, ud, ud, ud, ud, .int .u64 0, .int .i64 12, uN n, .int .i64 0, ud, .tuple #[uN n, .int .i64 0], .agg (p.cells), v, .int .i64 h, .tuple #[uN n, .int .i64 0], uN n, .int .i64 0, .bool false, .int .i64 0, .bool false, ud, .bool true, uN s, .bool true, .bool true, ud, ud, .bool true, ud, ud, ud, ud, ud, ud, ud, ud, ud, ud, ud, ud, ud, ud, ud, ud, ud, ud, ud, ud, ud, ud, ud], []⟩ <| then_n <| u_ ?_
  refine blk_r <| then_r <| so_ (.tuple #[.int .u64 0, .int .i64 12]) ?_
  exact ⟨by unfold nfrac; rw [hrf, if_neg (by decide), if_pos (.inl hq)]; rfl, K10⟩
theorem nFrac_over2 (p : Par) (hp : p.Ok) (l : List Nt) (v : Value) (h : Int) (hh1 : i64ok h) (s t : Nat) (hs : s < 18446744073709551616) (ht : t < 18446744073709551616) (w : World) (hl : Sl w 2 Nt.cl v l) (n bs m f : Nat) (hn : (nnoted p l h).1 = n) (hrf : (nnoted p l h).2 = 0) (hn2 : n ≤ 4611686018427387904) (hbs : p.base = ((bs : Nat) : Int)) (hm : p.mult = ((m : Nat) : Int)) (hbl : bs ≤ 1000000000) (hml : m ≤ 1000) (hf : min 1000000000 (m * 1000000000 * (min (n + s) 4611686018427387904) / t) = f) (hq : ¬ 4611686018427387904 < s) (hq2 : 4611686018427387904 < t) (het : ErrTab w) :
    Calls Tryz.prog 28 #[.agg p.cells, v, .int .i64 h, .int .u64 ((s : Nat) : Int), .int .u64 ((t : Nat) : Int)] w (fun e w' => e = .returned (.tuple #[.int .u64 (((nfrac p l h s t).1 : Nat) : Int), .int .i64 (nfrac p l h s t).2]) ∧ Keeps Nob w w') := by
  have K0 : Keeps Nob w w := Keeps.refl _ _
  refine sy_enter (qc58_0 1) ⟨#[.agg p.cells, v, .int .i64 h, uN s, uN t, ud, ud, ud, ud, ud, ud, ud, ud, ud, ud, ud, ud, ud, ud, ud, ud, ud, ud, ud, ud, ud, ud, ud, ud, ud, ud, ud, ud, ud, ud, ud, ud, ud, ud, ud, ud, ud, ud, ud, ud, ud, ud, ud, ud, ud, ud, ud, ud, ud, ud, ud], []⟩ Tryz.func28 (by kernel_rfl) (by kernel_rfl) <| qr_ [0, 1, 2] <| pbx 51 p.cells (.agg p.cells) fun V1 gp egp h2 kV1 => ?_
  have n3 : w.heap.size ≤ gp := egp ▸ K0.size
  have h4 : Sl V1 2 Nt.cl v l := hl.keepsN kV1
  have K5 := K0.nn kV1
  have z6 := kV1.size
  refine pkq (.int .u64 0) <| pkq (.int .i64 0) <| eqr_ [0, 1, 2, 3, 4, 5, 6, 7, 8] <| ppq (.agg (p.cells)) (ldr 51 gp (h2) (by kernel_rfl)) <| pkq (v) <| pkq (.int .i64 h) ?_
  refine pcq 29 #[.agg (p.cells), v, .int .i64 h] Tryz.func29 ((nnoted_is hn hrf (nNoted_all p hp l v h hh1 _ h4 (ErrTab.keeps het K5))).mono ?_)
  rintro e V7 ⟨rfl, kV7⟩
  refine ⟨_, rfl, ?_⟩
  have K10 := K5.nn kV7
  have z11 := kV7.size
  refine pkq (.tuple #[uN n, .int .i64 0]) <| pkq (uN n) <| pkq (.int .i64 0) <| pkq (uN n) <| pkq (.int .i64 0) <| eq_ <| bl_ 0 <| qr_ [0, 1, 2] <| pkq (.int .i64 0) <| pkq (.bool false) <| pkq (.bool false) <| en_ <| qr_ [0, 1, 2, 3, 4, 5, 6] <| pkq (uN s) ?_
  refine ppq (.bool false) (dcf ((((s : Nat) : Int)) > ((4611686018427387904) : Int)) (by omega)) <| pkq (.bool false) <| pkq (uN t) <| ppq (.bool true) (dct ((((t : Nat) : Int)) > ((4611686018427387904) : Int)) (by omega)) <| pkq (.bool true) <| pkq (.bool true) <| ey_ <| qr_ [0, 1] <| pkq (.int .u64 0) <| pkq (.int .i64 12) <| ps_end <| sy_a ⟨#[.agg p.cells, v, .int .i64 h, uN s, uN t, pT gp 0, ud, ud, ud, ud, .int .u64 0, .int .i64 12, uN n, .int .i64 0, ud, .tuple #[uN n, .int .i64 0], .agg (p.cells), v, .int .i64 h, .tuple #[uN n, .int .i64 0], uN n, .int .i64 0, .bool false, .int .i64 0, .bool false, ud, .bool true, uN s, .bool false, .bool false, uN t, .bool true, .bool true, ud, ud, ud, ud, ud, ud, ud, ud, ud, ud, ud, ud, ud, ud, ud, ud, ud, ud, ud, ud, ud, ud, ud], []⟩ <| then_n <| u_ ?_
  refine blk_r <| then_r <| so_ (.tuple #[.int .u64 0, .int .i64 12]) ?_
  exact ⟨by unfold nfrac; rw [hrf, if_neg (by decide), if_pos (.inr hq2)]; rfl, K10⟩
theorem nFrac_zero (p : Par) (hp : p.Ok) (l : List Nt) (v : Value) (h : Int) (hh1 : i64ok h) (s t : Nat) (hs : s < 18446744073709551616) (ht : t < 18446744073709551616) (w : World) (hl : Sl w 2 Nt.cl v l) (n bs m f : Nat) (hn : (nnoted p l h).1 = n) (hrf : (nnoted p l h).2 = 0) (hn2 : n ≤ 4611686018427387904) (hbs : p.base = ((bs : Nat) : Int)) (hm : p.mult = ((m : Nat) : Int)) (hbl : bs ≤ 1000000000) (hml : m ≤ 1000) (hf : min 1000000000 (m * 1000000000 * (min (n + s) 4611686018427387904) / t) = f) (hq : ¬ 4611686018427387904 < s) (hq2 : t = 0) (het : ErrTab w) :
    Calls Tryz.prog 28 #[.agg p.cells, v, .int .i64 h, .int .u64 ((s : Nat) : Int), .int .u64 ((t : Nat) : Int)] w (fun e w' => e = .returned (.tuple #[.int .u64 (((nfrac p l h s t).1 : Nat) : Int), .int .i64 (nfrac p l h s t).2]) ∧ Keeps Nob w w') := by
  have K0 : Keeps Nob w w := Keeps.refl _ _
  refine sy_enter (qc58_0 1) ⟨#[.agg p.cells, v, .int .i64 h, uN s, uN t, ud, ud, ud, ud, ud, ud, ud, ud, ud, ud, ud, ud, ud, ud, ud, ud, ud, ud, ud, ud, ud, ud, ud, ud, ud, ud, ud, ud, ud, ud, ud, ud, ud, ud, ud, ud, ud, ud, ud, ud, ud, ud, ud, ud, ud, ud, ud, ud, ud, ud, ud], []⟩ Tryz.func28 (by kernel_rfl) (by kernel_rfl) <| qr_ [0, 1, 2] <| pbx 51 p.cells (.agg p.cells) fun V1 gp egp h2 kV1 => ?_
  have n3 : w.heap.size ≤ gp := egp ▸ K0.size
  have h4 : Sl V1 2 Nt.cl v l := hl.keepsN kV1
  have K5 := K0.nn kV1
  have z6 := kV1.size
  refine pkq (.int .u64 0) <| pkq (.int .i64 0) <| eqr_ [0, 1, 2, 3, 4, 5, 6, 7, 8] <| ppq (.agg (p.cells)) (ldr 51 gp (h2) (by kernel_rfl)) <| pkq (v) <| pkq (.int .i64 h) ?_
  refine pcq 29 #[.agg (p.cells), v, .int .i64 h] Tryz.func29 ((nnoted_is hn hrf (nNoted_all p hp l v h hh1 _ h4 (ErrTab.keeps het K5))).mono ?_)
  rintro e V7 ⟨rfl, kV7⟩
  refine ⟨_, rfl, ?_⟩
  have h9 := kV7.bk h2
  have K10 := K5.nn kV7
  have z11 := kV7.size
  refine pkq (.tuple #[uN n, .int .i64 0]) <| pkq (uN n) <| pkq (.int .i64 0) <| pkq (uN n) <| pkq (.int .i64 0) <| eq_ <| bl_ 0 <| qr_ [0, 1, 2] <| pkq (.int .i64 0) <| pkq (.bool false) <| pkq (.bool false) <| en_ <| qr_ [0, 1, 2, 3, 4, 5, 6] <| pkq (uN s) ?_
  refine ppq (.bool false) (dcf ((((s : Nat) : Int)) > ((4611686018427387904) : Int)) (by omega)) <| pkq (.bool false) <| pkq (uN t) <| ppq (.bool false) (dcf ((((t : Nat) : Int)) > ((4611686018427387904) : Int)) (by omega)) <| pkq (.bool false) <| pkq (.bool false) <| en_ <| qr_ [0, 1, 2] <| pkq (uN t) <| ppq (.bool true) (eqt (((t : Nat) : Int)) ((0) : Int) (by omega)) <| pkq (.bool true) <| ps_end <| sy_a ⟨#[.agg p.cells, v, .int .i64 h, uN s, uN t, pT gp 0, ud, ud, ud, ud, .int .u64 0, .int .i64 0, uN n, .int .i64 0, ud, .tuple #[uN n, .int .i64 0], .agg (p.cells), v, .int .i64 h, .tuple #[uN n, .int .i64 0], uN n, .int .i64 0, .bool false, .int .i64 0, .bool false, ud, .bool false, uN s, .bool false, .bool false, uN t, .bool false, .bool false, .bool true, uN t, .bool true, ud, ud, ud, ud, ud, ud, ud, ud, ud, ud, ud, ud, ud, ud, ud, ud, ud, ud, ud, ud], []⟩ <| then_n ?_
  refine y_ <| qr_ [0, 1, 2, 3] <| pkq (pT gp 7) <| ppq (uN bs) (exec_cast (congrArg (Value.int .u64) hbs) (ldc 40 gp 7 (rc (h9) (rfl)))) <| pkq (uN bs) <| pkq (.int .i64 0) <| eu_ <| blk_r <| then_r <| so_ (.tuple #[.int .u64 ((bs : Nat) : Int), .int .i64 0]) ?_
  exact ⟨by unfold nfrac; rw [hrf, if_neg (by decide), if_neg (by omega), if_pos hq2, hbs]; rfl, K10⟩
theorem nFrac_ok (p : Par) (hp : p.Ok) (l : List Nt) (v : Value) (h : Int) (hh1 : i64ok h) (s t : Nat) (hs : s < 18446744073709551616) (ht : t < 18446744073709551616) (w : World) (hl : Sl w 2 Nt.cl v l) (n bs m f : Nat) (hn : (nnoted p l h).1 = n) (hrf : (nnoted p l h).2 = 0) (hn2 : n ≤ 4611686018427387904) (hbs : p.base = ((bs : Nat) : Int)) (hm : p.mult = ((m : Nat) : Int)) (hbl : bs ≤ 1000000000) (hml : m ≤ 1000) (hf : min 1000000000 (m * 1000000000 * (min (n + s) 4611686018427387904) / t) = f) (hq : ¬ 4611686018427387904 < s) (hq2 : ¬ 4611686018427387904 < t) (hq3 : ¬ t = 0) (het : ErrTab w) :
    Calls Tryz.prog 28 #[.agg p.cells, v, .int .i64 h, .int .u64 ((s : Nat) : Int), .int .u64 ((t : Nat) : Int)] w (fun e w' => e = .returned (.tuple #[.int .u64 (((nfrac p l h s t).1 : Nat) : Int), .int .i64 (nfrac p l h s t).2]) ∧ Keeps Nob w w') := by
  have hf2 : f ≤ 1000000000 := by rw [← hf]; exact Nat.min_le_left _ _
  have K0 : Keeps Nob w w := Keeps.refl _ _
  refine sy_enter (qc58_0 1) ⟨#[.agg p.cells, v, .int .i64 h, uN s, uN t, ud, ud, ud, ud, ud, ud, ud, ud, ud, ud, ud, ud, ud, ud, ud, ud, ud, ud, ud, ud, ud, ud, ud, ud, ud, ud, ud, ud, ud, ud, ud, ud, ud, ud, ud, ud, ud, ud, ud, ud, ud, ud, ud, ud, ud, ud, ud, ud, ud, ud, ud], []⟩ Tryz.func28 (by kernel_rfl) (by kernel_rfl) <| qr_ [0, 1, 2] <| pbx 51 p.cells (.agg p.cells) fun V1 gp egp h2 kV1 => ?_
  have n3 : w.heap.size ≤ gp := egp ▸ K0.size
  have h4 : Sl V1 2 Nt.cl v l := hl.keepsN kV1
  have K5 := K0.nn kV1
  have z6 := kV1.size
  refine pkq (.int .u64 0) <| pkq (.int .i64 0) <| eqr_ [0, 1, 2, 3, 4, 5, 6, 7, 8] <| ppq (.agg (p.cells)) (ldr 51 gp (h2) (by kernel_rfl)) <| pkq (v) <| pkq (.int .i64 h) ?_
  refine pcq 29 #[.agg (p.cells), v, .int .i64 h] Tryz.func29 ((nnoted_is hn hrf (nNoted_all p hp l v h hh1 _ h4 (ErrTab.keeps het K5))).mono ?_)
  rintro e V7 ⟨rfl, kV7⟩
  refine ⟨_, rfl, ?_⟩
  have h9 := kV7.bk h2
  have K10 := K5.nn kV7
  have z11 := kV7.size
  refine pkq (.tuple #[uN n, .int .i64 0]) <| pkq (uN n) <| pkq (.int .i64 0) <| pkq (uN n) <| pkq (.int .i64 0) <| eq_ <| bl_ 0 <| qr_ [0, 1, 2] <| pkq (.int .i64 0) <| pkq (.bool false) <| pkq (.bool false) <| en_ <| qr_ [0, 1, 2, 3, 4, 5, 6] <| pkq (uN s) ?_
  refine ppq (.bool false) (dcf ((((s : Nat) : Int)) > ((4611686018427387904) : Int)) (by omega)) <| pkq (.bool false) <| pkq (uN t) <| ppq (.bool false) (dcf ((((t : Nat) : Int)) > ((4611686018427387904) : Int)) (by omega)) <| pkq (.bool false) <| pkq (.bool false) <| en_ <| qr_ [0, 1, 2] <| pkq (uN t) <| ppq (.bool false) (eqf (((t : Nat) : Int)) ((0) : Int) (by omega)) <| pkq (.bool false) <| ps_end <| sy_a ⟨#[.agg p.cells, v, .int .i64 h, uN s, uN t, pT gp 0, ud, ud, ud, ud, .int .u64 0, .int .i64 0, uN n, .int .i64 0, ud, .tuple #[uN n, .int .i64 0], .agg (p.cells), v, .int .i64 h, .tuple #[uN n, .int .i64 0], uN n, .int .i64 0, .bool false, .int .i64 0, .bool false, ud, .bool false, uN s, .bool false, .bool false, uN t, .bool false, .bool false, .bool false, uN t, .bool false, ud, ud, ud, ud, ud, ud, ud, ud, ud, ud, ud, ud, ud, ud, ud, ud, ud, ud, ud, ud], []⟩ <| then_n ?_
  refine n_ <| s_ <| blk_n <| tqr_ [0, 1, 2, 3, 4, 5, 6, 7, 8, 9, 10, 11, 12, 13] <| pkq (pT gp 8) <| ppq (uN m) (exec_cast (congrArg (Value.int .u64) hm) (ldc 40 gp 8 (rc (h9) (rfl)))) <| ppq (uN (m * 1000000000)) (exec_cast (congrArg (Value.int .u64) (wrapU (m * 1000000000) (by omega))) (by kernel_rfl)) <| pkq (uN n) <| pkq (uN s) <| ppq (uN (n + s)) (exec_cast (congrArg (Value.int .u64) (wrapU (n + s) (by omega))) (by kernel_rfl)) <| ppq (uN (min (n + s) 4611686018427387904)) (exec_cast (congrArg (Value.int .u64) (nat_min (n + s) 4611686018427387904)) (nexec_min (.tmp 44) (.const (.int .u64 4611686018427387904)) #[40, 40] (by kernel_rfl) .u64 ((n + s : Nat) : Int) 4611686018427387904 (by kernel_rfl) (by kernel_rfl))) <| pkq (uN t) ?_
  refine pcq 57 #[.int .u64 1000000000, uN (m * 1000000000), uN (min (n + s) 4611686018427387904), uN t] Tryz.func57 ((capped_is hf (fxCapped_ok 1000000000 (m * 1000000000) (min (n + s) 4611686018427387904) t (by decide) (by omega) (by omega) (by omega) (by omega) _)).mono ?_)
  rintro e V12 ⟨rfl, kV12⟩
  refine ⟨_, rfl, ?_⟩
  have h14 := kV12.bk h9
  have K15 := K10.nn kV12
  have z16 := kV12.size
  refine pkq (.tuple #[uN f, .int .i64 0]) <| pkq (uN f) <| pkq (.int .i64 0) <| pkq (uN f) <| pkq (.int .i64 0) <| eqr_ [0, 1, 2, 3, 4, 5, 6, 7] <| pkq (uN f) <| pkq (pT gp 7) <| ppq (uN bs) (exec_cast (congrArg (Value.int .u64) hbs) (ldc 40 gp 7 (rc (h14) (rfl)))) <| ppq (uN (f + bs)) (exec_cast (congrArg (Value.int .u64) (wrapU (f + bs) (by omega))) (by kernel_rfl)) <| ppq (uN (min (f + bs) 1000000000)) (exec_cast (congrArg (Value.int .u64) (nat_min (f + bs) 1000000000)) (nexec_min (.tmp 53) (.const (.int .u64 1000000000)) #[40, 40] (by kernel_rfl) .u64 ((f + bs : Nat) : Int) 1000000000 (by kernel_rfl) (by kernel_rfl))) <| pkq (.int .i64 0) <| pkq (uN (min (f + bs) 1000000000)) <| pkq (.int .i64 0) ?_
  refine eu_ <| so_ (.tuple #[.int .u64 ((min (f + bs) 1000000000 : Nat) : Int), .int .i64 0]) ?_
  exact ⟨by unfold nfrac ncap; rw [hrf, if_neg (by decide), if_neg (by omega), if_neg hq3, hbs, hm, hn, Int.toNat_natCast, Int.toNat_natCast, hf], K15⟩
theorem nFrac_all (p : Par) (hp : p.Ok) (l : List Nt) (v : Value) (h : Int) (hh1 : i64ok h) (s t : Nat) (hs : s < 18446744073709551616) (ht : t < 18446744073709551616) (w : World) (hl : Sl w 2 Nt.cl v l) (het : ErrTab w) : Calls Tryz.prog 28 #[.agg p.cells, v, .int .i64 h, .int .u64 ((s : Nat) : Int), .int .u64 ((t : Nat) : Int)] w (fun e w' => e = .returned (.tuple #[.int .u64 (((nfrac p l h s t).1 : Nat) : Int), .int .i64 (nfrac p l h s t).2]) ∧ Keeps Nob w w') := by
  by_cases hrf : (nnoted p l h).2 = 0
  · obtain ⟨⟨b1, b2⟩, m1, m2⟩ := par_more (noted_par hrf)
    have hb : p.base = ((p.base.toNat : Nat) : Int) := by omega
    have hm : p.mult = ((p.mult.toNat : Nat) : Int) := by omega
    by_cases hq : 4611686018427387904 < s
    · exact nFrac_over1 p hp l v h hh1 s t hs ht w hl _ _ _ _ rfl hrf (noted_le p l h) hb hm (by omega) (by omega) rfl hq het
    · by_cases hq2 : 4611686018427387904 < t
      · exact nFrac_over2 p hp l v h hh1 s t hs ht w hl _ _ _ _ rfl hrf (noted_le p l h) hb hm (by omega) (by omega) rfl hq hq2 het
      · by_cases hq3 : t = 0
        · exact nFrac_zero p hp l v h hh1 s t hs ht w hl _ _ _ _ rfl hrf (noted_le p l h) hb hm (by omega) (by omega) rfl hq hq3 het
        · exact nFrac_ok p hp l v h hh1 s t hs ht w hl _ _ _ _ rfl hrf (noted_le p l h) hb hm (by omega) (by omega) rfl hq hq2 hq3 het
  · exact nFrac_err p hp l v h hh1 s t hs ht w hl _ _ rfl rfl hrf het
end Go.Proofs.YtghohakbepeffaaGreatDoor
namespace Go.Proofs.YtghohakbepeffaaGreatDoor
set_option maxRecDepth 100000
set_option maxHeartbeats 4000000
open Go Go.RowKit Go.Own Go.Shelf
theorem nq_int {d : Nat} {f : Field} {fs : List Field} {xs ys : Array Value} {k : IntKind} {a b : Int} (w : World) (hf : f.name ≠ "_") (ht : Tryz.prog.underlying f.type = some (.int k)) (hp : Tryz.prog.plainKey f.type = true) (hx : xs[f.offset]? = some (.int k a)) (hy : ys[f.offset]? = some (.int k b)) :
    (Op.eqFields (d + 1) xs ys (f :: fs)).run Tryz.prog w = if a = b then (Op.eqFields (d + 1) xs ys fs).run Tryz.prog w else .ok false w := by
  conv => lhs; unfold Op.eqFields
  rw [if_pos hf]
  simp only [Sem.run_bind, run_part_plain w hp hx, run_part_plain w hp hy, Result.andThen_ok, run_equalIn_int w d f.type k k a b ht]
  by_cases h : a = b
  · simp [h]
  · simp [h]
theorem note_guard : Tryz.prog.eqGuardType Tryz.prog.depth 46 = false := by kernel_rfl
theorem note_equal (x y : Nt) (w : World) : (Op.equalIn 10000 46 (.agg x.c) (.agg y.c)).run Tryz.prog w = .ok (decide (x = y)) w := by
  rw [run_equalIn_struct w 9999 46 _ _ (by kernel_rfl) (by kernel_rfl)]
  simp only [Program.fieldsOf, Tryz.underlying46]
  rw [nq_int (d := 9998) (k := .i64) (a := x.h) (b := y.h) w (by decide) Tryz.underlying3 (by kernel_rfl) rfl rfl, nq_int (d := 9998) (k := .u64) (a := ((x.s : Nat) : Int)) (b := ((y.s : Nat) : Int)) w (by decide) Tryz.underlying40 (by kernel_rfl) rfl rfl]
  simp only [Op.eqFields, Sem.run_pure]
  obtain ⟨a0, a1⟩ := x
  obtain ⟨b0, b1⟩ := y
  simp only [Nt.mk.injEq]
  by_cases h0 : a0 = b0
  · by_cases h1 : a1 = b1 <;> simp [h0, h1, Int.natCast_inj]
  · simp [h0]
theorem note_eq (x y : Nt) (w : World) : (binOp .eql 46 (.agg x.c) (.agg y.c)).run Tryz.prog w = .ok (.bool (decide (x = y))) w := by rw [run_eql_struct, note_equal]; rfl
theorem nsame_step {l m : List Nt} (hl : l.length = m.length) {k : Nat} {x y : Nt} (hx : l[k]? = some x) (hy : m[k]? = some y) (h : l.take k = m.take k) : (l.take (k + 1) = m.take (k + 1)) ↔ x = y := by
  rw [List.take_add_one, List.take_add_one, hx, hy, h]
  constructor
  · intro h2; have := List.append_cancel_left h2; simpa using this
  · intro h2; rw [h2]
theorem nsame_cases (l m : List Nt) (k : Nat) (bb : Bool) (hlen : l.length = m.length) (hk : k ≤ l.length) (hb : bb = decide (l.take k = m.take k)) :
    (bb = true ∧ k < l.length ∧ ∀ x y, l[k]? = some x → m[k]? = some y → x = y) ∨ (bb = true ∧ k < l.length ∧ ∀ x y, l[k]? = some x → m[k]? = some y → x ≠ y) ∨ (bb = true ∧ k = l.length ∧ l = m) ∨ (bb = false ∧ l ≠ m) := by
  cases bb with
  | false => exact .inr (.inr (.inr ⟨rfl, fun e => by subst e; simp at hb⟩))
  | true =>
    have ht : l.take k = m.take k := of_decide_eq_true hb.symm
    by_cases hlt : k < l.length
    · by_cases h : l[k]? = m[k]?
      · exact .inl ⟨rfl, hlt, fun x y hx hy => by rw [hx, hy] at h; exact Option.some.inj h⟩
      · exact .inr (.inl ⟨rfl, hlt, fun x y hx hy e => h (by rw [hx, hy, e])⟩)
    · have hk2 : k = l.length := by omega
      refine .inr (.inr (.inl ⟨rfl, hk2, ?_⟩))
      rwa [List.take_of_length_le (by omega), List.take_of_length_le (by omega)] at ht
theorem notes_block {w : World} {g n cap : Nat} {xs : List Nt} {T : TypeId} (h : w.heap[g]? = some (.cells (xs.flatMap Nt.cl).toArray T (0, 0))) (hn : xs.length = n) (hc : n ≤ cap) (hm : cap ≤ 1000) : Sl w 2 Nt.cl (.slice (some ⟨g, 0, none⟩) n cap) xs := by
  subst hn
  exact ⟨⟨_, _, rfl, hc, by unfold maxLen; omega, fun h => by cases h⟩, fun k x hx => ⟨g, 0, _, rfl, lt_of_block h, fun j u hj => by
    rw [Nat.zero_add]
    exact rc h (by rw [List.getElem?_toArray]; exact flat_get (s := 2) (fun _ _ => rfl) k x hx j u hj)⟩⟩
noncomputable def qc59_2 (n : Nat) : Code := partOf Tryz.f17 n
noncomputable abbrev qo59_2 (n k : Nat) : Oper := (opsAt (qc59_2 n)).getD k default
theorem kSameNotes_len (va vb : Value) (l m : List Nt) (w : World) (Ha : Sl w 2 Nt.cl va l) (Hb : Sl w 2 Nt.cl vb m) (hne : l.length ≠ m.length) :
    Calls Tryz.prog 17 #[va, vb] w (fun e w' => e = .returned (.bool (false)) ∧ Keeps Nob w w') := by
  have hll := Ha.len_le
  have hml := Hb.len_le
  have K0 : Keeps Nob w w := Keeps.refl _ _
  refine sy_enter (qc59_2 1) ⟨#[va, vb, ud, ud, ud, ud, ud, ud, ud, ud, ud, ud, ud, ud, ud, ud, ud, ud, ud, ud, ud, ud, ud, ud, ud, ud, ud, ud, ud, ud, ud], []⟩ Tryz.func17 (by kernel_rfl) (by kernel_rfl) <| qr_ [0] <| pkq (.bool false) <| eqr_ [0, 1, 2, 3, 4, 5] <| pkq (va) <| ppq (iN l.length) (exec_len_sl (.tmp 7) 22 46 (by kernel_rfl) Tryz.underlying22 (by kernel_rfl) Ha) <| pkq (vb) <| ppq (iN m.length) (exec_len_sl (.tmp 9) 22 46 (by kernel_rfl) Tryz.underlying22 (by kernel_rfl) Hb) <| ppq (.bool false) (eqf (((l.length : Nat) : Int)) (((m.length : Nat) : Int)) (by omega)) <| pkq (.bool false) <| eq_ <| qr_ [0] <| pkq (.int .i64 0) <| et_ ?_
  refine bl_ 0 <| sy_rounds 1 (qc59_2 116) (by kernel_rfl) <| rd_step <| q_ <| qr_ [0, 1, 2, 3, 4, 5, 6] <| pkq (.bool false) <| pkq (.bool false) <| pnq <| pnq <| pnq <| pnq <| pkq (.bool false) <| en_ <| sy_exit 0 (by kernel_rfl) ?_
  refine then_e <| then_e <| blk_e <| tqr_ [0, 1] <| pkq (.bool false) <| pkq (.bool false) <| eu_ <| so_ (.bool false) ?_
  exact ⟨rfl, K0⟩
theorem kSameNotes_eq (va vb : Value) (l m : List Nt) (w : World) (Ha : Sl w 2 Nt.cl va l) (Hb : Sl w 2 Nt.cl vb m) (hlen : l.length = m.length) :
    Calls Tryz.prog 17 #[va, vb] w (fun e w' => e = .returned (.bool (decide (l = m))) ∧ Keeps Nob w w') := by
  have hll := Ha.len_le
  have hml := Hb.len_le
  have K0 : Keeps Nob w w := Keeps.refl _ _
  refine sy_enter (qc59_2 1) ⟨#[va, vb, ud, ud, ud, ud, ud, ud, ud, ud, ud, ud, ud, ud, ud, ud, ud, ud, ud, ud, ud, ud, ud, ud, ud, ud, ud, ud, ud, ud, ud], []⟩ Tryz.func17 (by kernel_rfl) (by kernel_rfl) <| qr_ [0] <| pkq (.bool false) <| eqr_ [0, 1, 2, 3, 4, 5] <| pkq (va) <| ppq (iN l.length) (exec_len_sl (.tmp 7) 22 46 (by kernel_rfl) Tryz.underlying22 (by kernel_rfl) Ha) <| pkq (vb) <| ppq (iN m.length) (exec_len_sl (.tmp 9) 22 46 (by kernel_rfl) Tryz.underlying22 (by kernel_rfl) Hb) <| ppq (.bool true) (eqt (((l.length : Nat) : Int)) (((m.length : Nat) : Int)) (by omega)) <| pkq (.bool true) <| eq_ <| qr_ [0] <| pkq (.int .i64 0) <| et_ ?_
  refine bl_ 0 ?_
  refine sy_loop (qc59_2 116) (fun a V => ∃ (k : Nat) (bb : Bool) (u12 u13 u14 u15 u16 u17 u18 u19 u20 u21 u22 u23 u24 u25 u26 u27 u28 u29 : Value), (a = ⟨#[va, vb, ud, ud, .bool false, .bool bb, iN k, va, iN l.length, vb, iN m.length, .bool true, u12, u13, u14, u15, u16, u17, u18, u19, u20, u21, u22, u23, u24, u25, u26, u27, u28, u29, ud], []⟩) ∧ (k ≤ l.length) ∧ (bb = decide (l.take k = m.take k)) ∧ (Sl V 2 Nt.cl va l) ∧ (Sl V 2 Nt.cl vb m) ∧ (Keeps Nob w V)) (fun a _ => l.length - (intOf (a.tmps.getD 6 undef)).toNat) (by kernel_rfl) ?_ ?_
  · exact ⟨0, true, undef, undef, undef, undef, undef, undef, undef, undef, undef, undef, undef, undef, undef, undef, undef, undef, undef, undef, by kernel_rfl, Nat.zero_le _, rfl, Ha, Hb, K0⟩
  · rintro a V1 ⟨k, bb, u12, u13, u14, u15, u16, u17, u18, u19, u20, u21, u22, u23, u24, u25, u26, u27, u28, u29, rfl, hk, hb, h2, h3, K4⟩
    rcases nsame_cases l m k bb hlen hk hb with ⟨rfl, hlt, hx0⟩ | ⟨rfl, hlt, hx0⟩ | ⟨rfl, heq, ht⟩ | ⟨rfl, hf⟩
    · obtain ⟨x, hx⟩ : ∃ x, l[k]? = some x := ⟨_, List.getElem?_eq_getElem hlt⟩
      obtain ⟨y, hy⟩ : ∃ y, m[k]? = some y := ⟨_, List.getElem?_eq_getElem (by omega)⟩
      obtain ⟨b_a, o_a, c_a, hv_a, hb_a, _⟩ := (h2).at_ k _ hx
      obtain ⟨b_b, o_b, c_b, hv_b, hb_b, _⟩ := (h3).at_ k _ hy
      skip
      have hxy := hx0 x y hx hy
      refine q_ <| qr_ [0, 1, 2, 3, 4, 5, 6] <| pkq (.bool true) <| pkq (.bool true) <| pkq (iN k) <| pkq (va) <| ppq (iN l.length) (exec_len_sl (.tmp 15) 22 46 (by kernel_rfl) Tryz.underlying22 (by kernel_rfl) h2) <| ppq (.bool true) (dct ((((k : Nat) : Int)) < (((l.length : Nat) : Int))) (by omega)) <| pkq (.bool true) <| ey_ <| s_ <| tq_ <| bl_ 1 <| sy_reg ?_
      refine rg_still 5 9 (opsAt (qc59_2 932)) [qo59_2 932 0, qo59_2 932 1, qo59_2 932 2, qo59_2 932 3, qo59_2 932 4, qo59_2 932 5, qo59_2 932 6, qo59_2 932 7, qo59_2 932 8] [qo59_2 932 9] (by kernel_rfl) (by kernel_rfl) (by kernel_rfl) (by kernel_rfl) (by kernel_rfl) ?_
      obtain ⟨V6, eV6, kV6⟩ := drew_step V1
      rw [eV6]
      clear eV6
      have h7 : Sl V6 2 Nt.cl va l := h2.keepsN kV6
      have h8 : Sl V6 2 Nt.cl vb m := h3.keepsN kV6
      have K9 := K4.nn kV6
      refine skq (va) <| skq (iN k) <| spq (pT b_a (o_a + k * 2)) (exec_indexAt_slice 22 (.tmp 21) (.tmp 22) (by kernel_rfl) b_a o_a l.length c_a (Eq.trans (b := va) (by kernel_rfl) hv_a) .i64 k (by kernel_rfl) _ 2 Tryz.underlying22 (by kernel_rfl) (by omega)) <| spq (.agg x.c) (exec_load_mid 46 (.tmp 23) (by kernel_rfl) b_a (o_a + k * 2) (by kernel_rfl) (Nt.cl x) _ (Sl.range h7 hx hv_a) Tryz.underlying46 rfl (by kernel_rfl)) <| skq (vb) <| skq (iN k) <| spq (pT b_b (o_b + k * 2)) (exec_indexAt_slice 22 (.tmp 25) (.tmp 26) (by kernel_rfl) b_b o_b m.length c_b (Eq.trans (b := vb) (by kernel_rfl) hv_b) .i64 k (by kernel_rfl) _ 2 Tryz.underlying22 (by kernel_rfl) (by omega)) <| spq (.agg y.c) (exec_load_mid 46 (.tmp 27) (by kernel_rfl) b_b (o_b + k * 2) (by kernel_rfl) (Nt.cl y) _ (Sl.range h8 hy hv_b) Tryz.underlying46 rfl (by kernel_rfl)) <| spq (.bool true) (exec_cast (congrArg Value.bool (decide_eq_true hxy)) (exec_binop .eql 46 46 (.tmp 24) (.tmp 28) (by kernel_rfl) (.agg x.c) (.agg y.c) _ (by kernel_rfl) (by kernel_rfl) (run_eqGuard_agg _ _ _ _ _ _ _ note_guard) (note_eq _ _ _))) <| st_end <| ls_run (qo59_2 932 9) (.bool true) (w' := V6) (by kernel_rfl) (by kernel_rfl) <| ls_end <| blk_n <| tr_ [0, 1, 2] ?_
      refine pkq (iN k) <| ppq (iN (k + 1)) (exec_cast (congrArg (Value.int .i64) (wrapN (k + 1) (by omega))) (by kernel_rfl)) <| pkq (iN (k + 1)) <| et_ ?_
      refine ⟨⟨k + 1, true, (.bool true), (.bool true), (iN k), va, (iN l.length), (.bool true), (.bool true), (iN k), (iN (k + 1)), va, (iN k), (pT b_a (o_a + k * 2)), (.agg x.c), vb, (iN k), (pT b_b (o_b + k * 2)), (.agg y.c), (.bool true), by kernel_rfl, by omega, (by first | exact (decide_eq_true ((nsame_step hlen hx hy (of_decide_eq_true hb.symm)).2 hxy)).symm | exact (decide_eq_false (fun h => hxy ((nsame_step hlen hx hy (of_decide_eq_true hb.symm)).1 h))).symm), h7, h8, K9⟩, ?_⟩
      exact lt_meas (x := l.length - (k + 1)) (y := l.length - k) (by kernel_rfl) (by kernel_rfl) (by omega)
    · obtain ⟨x, hx⟩ : ∃ x, l[k]? = some x := ⟨_, List.getElem?_eq_getElem hlt⟩
      obtain ⟨y, hy⟩ : ∃ y, m[k]? = some y := ⟨_, List.getElem?_eq_getElem (by omega)⟩
      obtain ⟨b_a, o_a, c_a, hv_a, hb_a, _⟩ := (h2).at_ k _ hx
      obtain ⟨b_b, o_b, c_b, hv_b, hb_b, _⟩ := (h3).at_ k _ hy
      skip
      have hxy := hx0 x y hx hy
      refine q_ <| qr_ [0, 1, 2, 3, 4, 5, 6] <| pkq (.bool true) <| pkq (.bool true) <| pkq (iN k) <| pkq (va) <| ppq (iN l.length) (exec_len_sl (.tmp 15) 22 46 (by kernel_rfl) Tryz.underlying22 (by kernel_rfl) h2) <| ppq (.bool true) (dct ((((k : Nat) : Int)) < (((l.length : Nat) : Int))) (by omega)) <| pkq (.bool true) <| ey_ <| s_ <| tq_ <| bl_ 1 <| sy_reg ?_
      refine rg_still 5 9 (opsAt (qc59_2 932)) [qo59_2 932 0, qo59_2 932 1, qo59_2 932 2, qo59_2 932 3, qo59_2 932 4, qo59_2 932 5, qo59_2 932 6, qo59_2 932 7, qo59_2 932 8] [qo59_2 932 9] (by kernel_rfl) (by kernel_rfl) (by kernel_rfl) (by kernel_rfl) (by kernel_rfl) ?_
      obtain ⟨V11, eV11, kV11⟩ := drew_step V1
      rw [eV11]
      clear eV11
      have h12 : Sl V11 2 Nt.cl va l := h2.keepsN kV11
      have h13 : Sl V11 2 Nt.cl vb m := h3.keepsN kV11
      have K14 := K4.nn kV11
      refine skq (va) <| skq (iN k) <| spq (pT b_a (o_a + k * 2)) (exec_indexAt_slice 22 (.tmp 21) (.tmp 22) (by kernel_rfl) b_a o_a l.length c_a (Eq.trans (b := va) (by kernel_rfl) hv_a) .i64 k (by kernel_rfl) _ 2 Tryz.underlying22 (by kernel_rfl) (by omega)) <| spq (.agg x.c) (exec_load_mid 46 (.tmp 23) (by kernel_rfl) b_a (o_a + k * 2) (by kernel_rfl) (Nt.cl x) _ (Sl.range h12 hx hv_a) Tryz.underlying46 rfl (by kernel_rfl)) <| skq (vb) <| skq (iN k) <| spq (pT b_b (o_b + k * 2)) (exec_indexAt_slice 22 (.tmp 25) (.tmp 26) (by kernel_rfl) b_b o_b m.length c_b (Eq.trans (b := vb) (by kernel_rfl) hv_b) .i64 k (by kernel_rfl) _ 2 Tryz.underlying22 (by kernel_rfl) (by omega)) <| spq (.agg y.c) (exec_load_mid 46 (.tmp 27) (by kernel_rfl) b_b (o_b + k * 2) (by kernel_rfl) (Nt.cl y) _ (Sl.range h13 hy hv_b) Tryz.underlying46 rfl (by kernel_rfl)) <| spq (.bool false) (exec_cast (congrArg Value.bool (decide_eq_false hxy)) (exec_binop .eql 46 46 (.tmp 24) (.tmp 28) (by kernel_rfl) (.agg x.c) (.agg y.c) _ (by kernel_rfl) (by kernel_rfl) (run_eqGuard_agg _ _ _ _ _ _ _ note_guard) (note_eq _ _ _))) <| st_end <| ls_run (qo59_2 932 9) (.bool false) (w' := V11) (by kernel_rfl) (by kernel_rfl) <| ls_end <| blk_n <| tr_ [0, 1, 2] ?_
      refine pkq (iN k) <| ppq (iN (k + 1)) (exec_cast (congrArg (Value.int .i64) (wrapN (k + 1) (by omega))) (by kernel_rfl)) <| pkq (iN (k + 1)) <| et_ ?_
      refine ⟨⟨k + 1, false, (.bool true), (.bool true), (iN k), va, (iN l.length), (.bool true), (.bool true), (iN k), (iN (k + 1)), va, (iN k), (pT b_a (o_a + k * 2)), (.agg x.c), vb, (iN k), (pT b_b (o_b + k * 2)), (.agg y.c), (.bool false), by kernel_rfl, by omega, (by first | exact (decide_eq_true ((nsame_step hlen hx hy (of_decide_eq_true hb.symm)).2 hxy)).symm | exact (decide_eq_false (fun h => hxy ((nsame_step hlen hx hy (of_decide_eq_true hb.symm)).1 h))).symm), h12, h13, K14⟩, ?_⟩
      exact lt_meas (x := l.length - (k + 1)) (y := l.length - k) (by kernel_rfl) (by kernel_rfl) (by omega)
    · skip
      refine q_ <| qr_ [0, 1, 2, 3, 4, 5, 6] <| pkq (.bool true) <| pkq (.bool true) <| pkq (iN k) <| pkq (va) <| ppq (iN l.length) (exec_len_sl (.tmp 15) 22 46 (by kernel_rfl) Tryz.underlying22 (by kernel_rfl) h2) <| ppq (.bool false) (dcf ((((k : Nat) : Int)) < (((l.length : Nat) : Int))) (by omega)) <| pkq (.bool false) <| en_ <| sy_exit 0 (by kernel_rfl) <| then_e <| then_e <| blk_e ?_
      refine tqr_ [0, 1] <| pkq (.bool true) <| pkq (.bool true) <| eu_ <| so_ (.bool true) ?_
      exact ⟨by first | (rw [decide_eq_true (by first | exact ht | exact hf)]) | (rw [decide_eq_false (by first | exact ht | exact hf)]), K4⟩
    · skip
      refine q_ <| qr_ [0, 1, 2, 3, 4, 5, 6] <| pkq (.bool false) <| pkq (.bool false) <| pnq <| pnq <| pnq <| pnq <| pkq (.bool false) <| en_ <| sy_exit 0 (by kernel_rfl) <| then_e <| then_e <| blk_e ?_
      refine tqr_ [0, 1] <| pkq (.bool false) <| pkq (.bool false) <| eu_ <| so_ (.bool false) ?_
      exact ⟨by first | (rw [decide_eq_true (by first | exact ht | exact hf)]) | (rw [decide_eq_false (by first | exact ht | exact hf)]), K4⟩
theorem kSameNotes_ok (va vb : Value) (l m : List Nt) (w : World) (Ha : Sl w 2 Nt.cl va l) (Hb : Sl w 2 Nt.cl vb m) : Calls Tryz.prog 17 #[va, vb] w fun e w' => e = .returned (.bool (decide (l = m))) ∧ Keeps Nob w w' := by
  by_cases h : l.length = m.length
  · exact kSameNotes_eq va vb l m w Ha Hb h
  · rw [decide_eq_false (fun e => h (by rw [e]))]; exact kSameNotes_len va vb l m w Ha Hb h
theorem kSameNotes_is {va vb : Value} {l m : List Nt} (r : Bool) (w : World) (Ha : Sl w 2 Nt.cl va l) (Hb : Sl w 2 Nt.cl vb m) (h : decide (l = m) = r) : Calls Tryz.prog 17 #[va, vb] w fun e w' => e = .returned (.bool r) ∧ Keeps Nob w w' := h ▸ kSameNotes_ok va vb l m w Ha Hb
def ntwo : List Nt := [⟨10, 100⟩, ⟨40, 200⟩]
def parDef : Par := ⟨100, 100, 10, 8, 7, 8, 20, 50000000, 3, 50, 100000000⟩
theorem parDef_Ok : parDef.Ok := by constructor <;> (simp only [parDef, i64ok, u64ok]; omega)
noncomputable def qc59_7 (n : Nat) : Code := partOf Tryz.f21 n
theorem lntwo_ok (w : World) :
    Calls Tryz.prog 21 #[] w (fun e w' => ∃ g, e = .returned (.slice (some ⟨g, 0, none⟩) 2 2) ∧ w'.heap[g]? = some (.cells (ntwo.flatMap Nt.cl).toArray 46 (0, 0)) ∧ w.heap.size ≤ g ∧ Keeps Nob w w') := by
  have K0 : Keeps Nob w w := Keeps.refl _ _
  refine sy_enter (qc59_7 1) ⟨#[ud, ud, ud, ud], []⟩ Tryz.func21 (by kernel_rfl) (by kernel_rfl) <| qr_ [0] <| pkq (.slice none 0 0) <| eqr_ [0, 1, 2, 3] <| pkq (.agg #[.int .i64 10, .int .u64 100]) <| pkq (.agg #[.int .i64 40, .int .u64 200]) ?_
  obtain ⟨V1, eV1, gq, egq, h2, kV1⟩ := alloc_step w #[.int .i64 10, .int .u64 100, .int .i64 40, .int .u64 200] 46
  have n3 : w.heap.size ≤ gq := egq ▸ K0.size
  refine prq (.slice (some ⟨gq, 0, none⟩) 2 2) (w' := V1) (by rw [← eV1, ← egq]; kernel_rfl) ?_
  clear eV1
  have h4 : V1.heap[gq]? = some (.cells ((ntwo.flatMap Nt.cl).toArray) 46 (0, 0)) := h2
  have K5 := K0.nn kV1
  have z6 := kV1.size
  refine pkq (.slice (some ⟨gq, 0, none⟩) 2 2) <| eu_ <| so_ (.slice (some ⟨gq, 0, none⟩) 2 2) ?_
  exact ⟨gq, rfl, h4, by omega, K5⟩
noncomputable def qc59_3 (n : Nat) : Code := partOf Tryz.f53 n
theorem pDefault_ok (w : World) :
    Calls Tryz.prog 53 #[] w (fun e w' => e = .returned (.agg parDef.cells) ∧ Keeps Nob w w') := by
  have K0 : Keeps Nob w w := Keeps.refl _ _
  refine sy_enter (qc59_3 1) ⟨#[ud, ud], []⟩ Tryz.func53 (by kernel_rfl) (by kernel_rfl) <| qr_ [0] <| pal 51 (#[.int .i64 0, .int .i64 0, .int .i64 0, .int .i64 0, .int .i64 0, .int .i64 0, .int .i64 0, .int .u64 0, .int .u64 0, .int .i64 0, .int .u64 0]) (.agg (#[.int .i64 0, .int .i64 0, .int .i64 0, .int .i64 0, .int .i64 0, .int .i64 0, .int .i64 0, .int .u64 0, .int .u64 0, .int .i64 0, .int .u64 0])) fun V1 g eg h2 kV1 => ?_
  have n3 : w.heap.size ≤ g := eg ▸ K0.size
  have K4 := K0.nn kV1
  have z5 := kV1.size
  refine eqr_ [0, 1] <| pkq (.agg parDef.cells) <| pst 51 g parDef.cells h2 (by kernel_rfl) rfl (by kernel_rfl) fun V6 h7 kV6 => ?_
  have K8 := K4.nO kV6
  have z9 := kV6.size
  refine eu_ <| sy_out (.agg parDef.cells) rfl (results_cell_row (p := 0) (ty := 51) (by kernel_rfl) _ _ g 51 parDef.cells (0, 0) _ (by kernel_rfl) h7 Tryz.underlying51 rfl (by kernel_rfl)) ?_
  exact ⟨rfl, K8⟩
theorem two_all {w : World} {g : Nat} (h : w.heap[g]? = some (.cells (ntwo.flatMap Nt.cl).toArray 46 (0, 0))) : Sl w 2 Nt.cl (.slice (some ⟨g, 0, none⟩) 2 2) ntwo := notes_block h rfl (Nat.le_refl _) (by decide)
theorem two_none {w : World} {g : Nat} (h : w.heap[g]? = some (.cells (ntwo.flatMap Nt.cl).toArray 46 (0, 0))) : Sl w 2 Nt.cl (.slice (some ⟨g, 0, none⟩) 0 2) (ntwo.take 0) := (two_all h).take 0 (by decide) _ _ _ rfl
theorem two_last {w : World} {g : Nat} (h : w.heap[g]? = some (.cells (ntwo.flatMap Nt.cl).toArray 46 (0, 0))) : Sl w 2 Nt.cl (.slice (some ⟨g, 2, none⟩) 1 1) (ntwo.drop 1) := (two_all h).drop 1 (by decide) _ _ _ rfl
theorem Sl.to {w w' : World} {v : Value} {l : List Nt} (h : Sl w 2 Nt.cl v l) (k : Keeps Nob w w') : Sl w' 2 Nt.cl v l := h.keepsN k
noncomputable def qc59_6 (n : Nat) : Code := partOf Tryz.f18 n
theorem lnlive_a (w : World) (het : ErrTab w) :
    Calls Tryz.prog 18 #[.int .i64 59, .int .i64 0, .int .i64 2] w (fun e w' => e = .returned (.bool true) ∧ Keeps Nob w w') := by
  have K0 : Keeps Nob w w := Keeps.refl _ _
  refine sy_enter (qc59_6 1) ⟨#[.int .i64 59, .int .i64 0, .int .i64 2, ud, ud, ud, ud, ud, ud, ud, ud, ud, ud, ud, ud, ud, ud, ud, ud, ud, ud, ud, ud, ud, ud, ud], []⟩ Tryz.func18 (by kernel_rfl) (by kernel_rfl) <| qr_ [0] <| pkq (.bool false) <| eqr_ [0, 1, 2, 3, 4, 5, 6, 7, 8] ?_
  refine pcq 53 #[] Tryz.func53 ((pDefault_ok _).mono ?_)
  rintro e V1 ⟨rfl, kV1⟩
  refine ⟨_, rfl, ?_⟩
  have K2 := K0.nn kV1
  have z3 := kV1.size
  refine pcq 21 #[] Tryz.func21 ((lntwo_ok _).mono ?_)
  rintro e V4 ⟨ga, rfl, h5, nga, kV4⟩
  refine ⟨_, rfl, ?_⟩
  have K6 := K2.nn kV4
  have z7 := kV4.size
  refine pkq (.int .i64 59) ?_
  refine pcq 34 #[.agg parDef.cells, .slice (some ⟨ga, 0, none⟩) 2 2, .int .i64 59] Tryz.func34 ((live_is parDef parDef_Ok ntwo _ 59 (by unfold i64ok; omega) 0 ntwo _ (two_all h5) (ErrTab.keeps het K6) (by decide) (by decide)).mono ?_)
  rintro e V8 ⟨X, rfl, hX, hXn, kV8⟩
  have hXs := row_nts hX
  refine ⟨_, rfl, ?_⟩
  have K10 := K6.nn kV8
  have z11 := kV8.size
  refine pkq (.tuple #[X, .int .i64 0]) <| pkq (X) <| pkq (.int .i64 0) <| pkq (X) <| pkq (.int .i64 0) <| eqr_ [0, 1, 2, 3, 4, 5, 6, 7, 8, 9, 10] <| pkq (.int .i64 0) <| pkq (.bool true) <| pkq (.bool true) <| pkq (X) ?_
  refine pcq 21 #[] Tryz.func21 ((lntwo_ok _).mono ?_)
  rintro e V12 ⟨gb, rfl, h13, ngb, kV12⟩
  refine ⟨_, rfl, ?_⟩
  have h15 : Sl V12 2 Nt.cl X ntwo := hXs.keepsN kV12
  have K16 := K10.nn kV12
  have z17 := kV12.size
  refine pkq (.int .i64 0) <| pkq (.int .i64 2) <| pkq (.slice (some ⟨gb, 0, none⟩) 2 2) ?_
  refine pcq 17 #[X, .slice (some ⟨gb, 0, none⟩) 2 2] Tryz.func17 ((kSameNotes_is true _ h15 (two_all h13) (by decide)).mono ?_)
  rintro e V18 ⟨rfl, kV18⟩
  refine ⟨_, rfl, ?_⟩
  have K22 := K16.nn kV18
  have z23 := kV18.size
  refine pkq (.bool true) <| pkq (.bool true) <| eu_ <| so_ (.bool true) ?_
  exact ⟨rfl, K22⟩
theorem lnlive_b (w : World) (het : ErrTab w) :
    Calls Tryz.prog 18 #[.int .i64 60, .int .i64 1, .int .i64 2] w (fun e w' => e = .returned (.bool true) ∧ Keeps Nob w w') := by
  have K0 : Keeps Nob w w := Keeps.refl _ _
  refine sy_enter (qc59_6 1) ⟨#[.int .i64 60, .int .i64 1, .int .i64 2, ud, ud, ud, ud, ud, ud, ud, ud, ud, ud, ud, ud, ud, ud, ud, ud, ud, ud, ud, ud, ud, ud, ud], []⟩ Tryz.func18 (by kernel_rfl) (by kernel_rfl) <| qr_ [0] <| pkq (.bool false) <| eqr_ [0, 1, 2, 3, 4, 5, 6, 7, 8] ?_
  refine pcq 53 #[] Tryz.func53 ((pDefault_ok _).mono ?_)
  rintro e V1 ⟨rfl, kV1⟩
  refine ⟨_, rfl, ?_⟩
  have K2 := K0.nn kV1
  have z3 := kV1.size
  refine pcq 21 #[] Tryz.func21 ((lntwo_ok _).mono ?_)
  rintro e V4 ⟨ga, rfl, h5, nga, kV4⟩
  refine ⟨_, rfl, ?_⟩
  have K6 := K2.nn kV4
  have z7 := kV4.size
  refine pkq (.int .i64 60) ?_
  refine pcq 34 #[.agg parDef.cells, .slice (some ⟨ga, 0, none⟩) 2 2, .int .i64 60] Tryz.func34 ((live_is parDef parDef_Ok ntwo _ 60 (by unfold i64ok; omega) 0 (ntwo.drop 1) _ (two_all h5) (ErrTab.keeps het K6) (by decide) (by decide)).mono ?_)
  rintro e V8 ⟨X, rfl, hX, hXn, kV8⟩
  have hXs := row_nts hX
  refine ⟨_, rfl, ?_⟩
  have K10 := K6.nn kV8
  have z11 := kV8.size
  refine pkq (.tuple #[X, .int .i64 0]) <| pkq (X) <| pkq (.int .i64 0) <| pkq (X) <| pkq (.int .i64 0) <| eqr_ [0, 1, 2, 3, 4, 5, 6, 7, 8, 9, 10] <| pkq (.int .i64 0) <| pkq (.bool true) <| pkq (.bool true) <| pkq (X) ?_
  refine pcq 21 #[] Tryz.func21 ((lntwo_ok _).mono ?_)
  rintro e V12 ⟨gb, rfl, h13, ngb, kV12⟩
  refine ⟨_, rfl, ?_⟩
  have h15 : Sl V12 2 Nt.cl X ((ntwo.drop 1)) := hXs.keepsN kV12
  have K16 := K10.nn kV12
  have z17 := kV12.size
  refine pkq (.int .i64 1) <| pkq (.int .i64 2) <| pkq (.slice (some ⟨gb, 2, none⟩) 1 1) ?_
  refine pcq 17 #[X, .slice (some ⟨gb, 2, none⟩) 1 1] Tryz.func17 ((kSameNotes_is true _ h15 (two_last h13) (by decide)).mono ?_)
  rintro e V18 ⟨rfl, kV18⟩
  refine ⟨_, rfl, ?_⟩
  have K22 := K16.nn kV18
  have z23 := kV18.size
  refine pkq (.bool true) <| pkq (.bool true) <| eu_ <| so_ (.bool true) ?_
  exact ⟨rfl, K22⟩
theorem lnlive_c (w : World) (het : ErrTab w) :
    Calls Tryz.prog 18 #[.int .i64 9, .int .i64 0, .int .i64 0] w (fun e w' => e = .returned (.bool true) ∧ Keeps Nob w w') := by
  have K0 : Keeps Nob w w := Keeps.refl _ _
  refine sy_enter (qc59_6 1) ⟨#[.int .i64 9, .int .i64 0, .int .i64 0, ud, ud, ud, ud, ud, ud, ud, ud, ud, ud, ud, ud, ud, ud, ud, ud, ud, ud, ud, ud, ud, ud, ud], []⟩ Tryz.func18 (by kernel_rfl) (by kernel_rfl) <| qr_ [0] <| pkq (.bool false) <| eqr_ [0, 1, 2, 3, 4, 5, 6, 7, 8] ?_
  refine pcq 53 #[] Tryz.func53 ((pDefault_ok _).mono ?_)
  rintro e V1 ⟨rfl, kV1⟩
  refine ⟨_, rfl, ?_⟩
  have K2 := K0.nn kV1
  have z3 := kV1.size
  refine pcq 21 #[] Tryz.func21 ((lntwo_ok _).mono ?_)
  rintro e V4 ⟨ga, rfl, h5, nga, kV4⟩
  refine ⟨_, rfl, ?_⟩
  have K6 := K2.nn kV4
  have z7 := kV4.size
  refine pkq (.int .i64 9) ?_
  refine pcq 34 #[.agg parDef.cells, .slice (some ⟨ga, 0, none⟩) 2 2, .int .i64 9] Tryz.func34 ((live_is parDef parDef_Ok ntwo _ 9 (by unfold i64ok; omega) 0 (ntwo.take 0) _ (two_all h5) (ErrTab.keeps het K6) (by decide) (by decide)).mono ?_)
  rintro e V8 ⟨X, rfl, hX, hXn, kV8⟩
  have hXs := row_nts hX
  refine ⟨_, rfl, ?_⟩
  have K10 := K6.nn kV8
  have z11 := kV8.size
  refine pkq (.tuple #[X, .int .i64 0]) <| pkq (X) <| pkq (.int .i64 0) <| pkq (X) <| pkq (.int .i64 0) <| eqr_ [0, 1, 2, 3, 4, 5, 6, 7, 8, 9, 10] <| pkq (.int .i64 0) <| pkq (.bool true) <| pkq (.bool true) <| pkq (X) ?_
  refine pcq 21 #[] Tryz.func21 ((lntwo_ok _).mono ?_)
  rintro e V12 ⟨gb, rfl, h13, ngb, kV12⟩
  refine ⟨_, rfl, ?_⟩
  have h15 : Sl V12 2 Nt.cl X ((ntwo.take 0)) := hXs.keepsN kV12
  have K16 := K10.nn kV12
  have z17 := kV12.size
  refine pkq (.int .i64 0) <| pkq (.int .i64 0) <| pkq (.slice (some ⟨gb, 0, none⟩) 0 2) ?_
  refine pcq 17 #[X, .slice (some ⟨gb, 0, none⟩) 0 2] Tryz.func17 ((kSameNotes_is true _ h15 (two_none h13) (by decide)).mono ?_)
  rintro e V18 ⟨rfl, kV18⟩
  refine ⟨_, rfl, ?_⟩
  have K22 := K16.nn kV18
  have z23 := kV18.size
  refine pkq (.bool true) <| pkq (.bool true) <| eu_ <| so_ (.bool true) ?_
  exact ⟨rfl, K22⟩
noncomputable def qc59_4 (n : Nat) : Code := partOf Tryz.f19 n
theorem lnnoted_ok (h : Int) (n : Nat) (hh : i64ok h) (hn : (nnoted parDef ntwo h).1 = n) (hrf : (nnoted parDef ntwo h).2 = 0) (w : World) (het : ErrTab w) :
    Calls Tryz.prog 19 #[.int .i64 h, .int .u64 ((n : Nat) : Int)] w (fun e w' => e = .returned (.bool true) ∧ Keeps Nob w w') := by
  have K0 : Keeps Nob w w := Keeps.refl _ _
  refine sy_enter (qc59_4 1) ⟨#[.int .i64 h, uN n, ud, ud, ud, ud, ud, ud, ud, ud, ud, ud, ud, ud, ud, ud, ud, ud, ud, ud, ud], []⟩ Tryz.func19 (by kernel_rfl) (by kernel_rfl) <| qr_ [0] <| pkq (.bool false) <| eqr_ [0, 1, 2, 3, 4, 5, 6, 7, 8] ?_
  refine pcq 53 #[] Tryz.func53 ((pDefault_ok _).mono ?_)
  rintro e V1 ⟨rfl, kV1⟩
  refine ⟨_, rfl, ?_⟩
  have K2 := K0.nn kV1
  have z3 := kV1.size
  refine pcq 21 #[] Tryz.func21 ((lntwo_ok _).mono ?_)
  rintro e V4 ⟨ga, rfl, h5, nga, kV4⟩
  refine ⟨_, rfl, ?_⟩
  have K6 := K2.nn kV4
  have z7 := kV4.size
  refine pkq (.int .i64 h) ?_
  refine pcq 29 #[.agg parDef.cells, .slice (some ⟨ga, 0, none⟩) 2 2, .int .i64 h] Tryz.func29 ((nnoted_is hn hrf (nNoted_all parDef parDef_Ok ntwo _ h hh _ (two_all h5) (ErrTab.keeps het K6))).mono ?_)
  rintro e V8 ⟨rfl, kV8⟩
  refine ⟨_, rfl, ?_⟩
  have K10 := K6.nn kV8
  have z11 := kV8.size
  refine pkq (.tuple #[uN n, .int .i64 0]) <| pkq (uN n) <| pkq (.int .i64 0) <| pkq (uN n) <| pkq (.int .i64 0) <| eqr_ [0, 1, 2, 3, 4, 5, 6, 7] <| pkq (uN n) <| pkq (uN n) <| ppq (.bool true) (eqt (((n : Nat) : Int)) (((n : Nat) : Int)) (by omega)) <| pkq (.bool true) <| pkq (.int .i64 0) <| pkq (.bool true) <| pkq (.bool true) <| pkq (.bool true) ?_
  refine eu_ <| so_ (.bool true) ?_
  exact ⟨rfl, K10⟩
theorem frac_is {x : Nat × Int} {n : Nat} {y : Int} {args : Array Value} {w : World} (h1 : x = (n, y)) (h : Calls Tryz.prog 28 args w (fun e w' => e = .returned (.tuple #[.int .u64 ((x.1 : Nat) : Int), .int .i64 x.2]) ∧ Keeps Nob w w')) : Calls Tryz.prog 28 args w (fun e w' => e = .returned (.tuple #[.int .u64 ((n : Nat) : Int), .int .i64 y]) ∧ Keeps Nob w w') := by subst h1; exact h
noncomputable def qc59_8 (n : Nat) : Code := partOf Tryz.f20 n
theorem lncut_ok (l : List Nt) (v : Value) (h : Int) (s t n : Nat) (er : Int) (hh : i64ok h) (hs : s < 18446744073709551616) (ht : t < 18446744073709551616) (hn : nfrac parDef l h s t = (n, er)) (w : World) (hl : Sl w 2 Nt.cl v l) (het : ErrTab w) :
    Calls Tryz.prog 20 #[v, .int .i64 h, .int .u64 ((s : Nat) : Int), .int .u64 ((t : Nat) : Int), .int .u64 ((n : Nat) : Int), .int .i64 er] w (fun e w' => e = .returned (.bool true) ∧ Keeps Nob w w') := by
  have K0 : Keeps Nob w w := Keeps.refl _ _
  refine sy_enter (qc59_8 1) ⟨#[v, .int .i64 h, uN s, uN t, uN n, .int .i64 er, ud, ud, ud, ud, ud, ud, ud, ud, ud, ud, ud, ud, ud, ud, ud, ud, ud, ud, ud, ud, ud, ud, ud, ud, ud, ud], []⟩ Tryz.func20 (by kernel_rfl) (by kernel_rfl) <| qr_ [0] <| pkq (.bool false) <| eqr_ [0, 1, 2, 3, 4, 5, 6, 7, 8, 9, 10] ?_
  refine pcq 53 #[] Tryz.func53 ((pDefault_ok _).mono ?_)
  rintro e V1 ⟨rfl, kV1⟩
  refine ⟨_, rfl, ?_⟩
  have h2 : Sl V1 2 Nt.cl v l := hl.keepsN kV1
  have K3 := K0.nn kV1
  have z4 := kV1.size
  refine pkq (v) <| pkq (.int .i64 h) <| pkq (uN s) <| pkq (uN t) ?_
  refine pcq 28 #[.agg parDef.cells, v, .int .i64 h, uN s, uN t] Tryz.func28 ((frac_is hn (nFrac_all parDef parDef_Ok l v h hh s t hs ht _ h2 (ErrTab.keeps het K3))).mono ?_)
  rintro e V5 ⟨rfl, kV5⟩
  refine ⟨_, rfl, ?_⟩
  have K7 := K3.nn kV5
  have z8 := kV5.size
  refine pkq (.tuple #[uN n, .int .i64 er]) <| pkq (uN n) <| pkq (.int .i64 er) <| pkq (uN n) <| pkq (.int .i64 er) <| eqr_ [0, 1, 2, 3, 4, 5, 6, 7, 8] <| pkq (uN n) <| pkq (uN n) <| ppq (.bool true) (eqt (((n : Nat) : Int)) (((n : Nat) : Int)) (by omega)) <| pkq (.bool true) <| pkq (.int .i64 er) <| pkq (.int .i64 er) <| ppq (.bool true) (eqt ((er) : Int) ((er) : Int) (by omega)) <| pkq (.bool true) ?_
  refine pkq (.bool true) <| eu_ <| so_ (.bool true) ?_
  exact ⟨rfl, K7⟩
noncomputable def qc59_5 (n : Nat) : Code := partOf Tryz.f8 n
theorem lnawake_ok (w : World) (het : ErrTab w) :
    Calls Tryz.prog 8 #[] w (fun e w' => e = .returned (.bool true) ∧ Keeps Nob w w') := by
  have K0 : Keeps Nob w w := Keeps.refl _ _
  refine sy_enter (qc59_5 1) ⟨#[ud, ud, ud, ud, ud, ud, ud, ud, ud, ud, ud, ud, ud, ud, ud, ud, ud, ud, ud], []⟩ Tryz.func8 (by kernel_rfl) (by kernel_rfl) <| qr_ [0] <| pkq (.bool false) <| eqr_ [0, 1, 2, 3, 4, 5, 6, 7, 8, 9, 10, 11, 12, 13, 14, 15, 16, 17, 18] ?_
  refine pcq 18 #[.int .i64 59, .int .i64 0, .int .i64 2] Tryz.func18 ((lnlive_a _ (ErrTab.keeps het K0)).mono ?_)
  rintro e V1 ⟨rfl, kV1⟩
  refine ⟨_, rfl, ?_⟩
  have K2 := K0.nn kV1
  have z3 := kV1.size
  refine pkq (.bool true) ?_
  refine pcq 18 #[.int .i64 60, .int .i64 1, .int .i64 2] Tryz.func18 ((lnlive_b _ (ErrTab.keeps het K2)).mono ?_)
  rintro e V4 ⟨rfl, kV4⟩
  refine ⟨_, rfl, ?_⟩
  have K5 := K2.nn kV4
  have z6 := kV4.size
  refine pkq (.bool true) <| pkq (.bool true) ?_
  refine pcq 19 #[.int .i64 59, .int .u64 300] Tryz.func19 ((lnnoted_ok 59 300 (by unfold i64ok; omega) (by decide) (by decide) _ (ErrTab.keeps het K5)).mono ?_)
  rintro e V7 ⟨rfl, kV7⟩
  refine ⟨_, rfl, ?_⟩
  have K8 := K5.nn kV7
  have z9 := kV7.size
  refine pkq (.bool true) <| pkq (.bool true) ?_
  refine pcq 20 #[.slice none 0 0, .int .i64 1, .int .u64 100, .int .u64 1000, .int .u64 350000000, .int .i64 0] Tryz.func20 ((lncut_ok [] _ 1 100 1000 350000000 0 (by unfold i64ok; omega) (by decide) (by decide) (by decide) _ (Sl.nil _ _ _) (ErrTab.keeps het K8)).mono ?_)
  rintro e V10 ⟨rfl, kV10⟩
  refine ⟨_, rfl, ?_⟩
  have K11 := K8.nn kV10
  have z12 := kV10.size
  refine pkq (.bool true) <| pkq (.bool true) ?_
  refine pcq 21 #[] Tryz.func21 ((lntwo_ok _).mono ?_)
  rintro e V13 ⟨ga, rfl, h14, nga, kV13⟩
  refine ⟨_, rfl, ?_⟩
  have K15 := K11.nn kV13
  have z16 := kV13.size
  refine pcq 20 #[.slice (some ⟨ga, 0, none⟩) 2 2, .int .i64 59, .int .u64 100, .int .u64 2000, .int .u64 650000000, .int .i64 0] Tryz.func20 ((lncut_ok ntwo _ 59 100 2000 650000000 0 (by unfold i64ok; omega) (by decide) (by decide) (by decide) _ (two_all h14) (ErrTab.keeps het K15)).mono ?_)
  rintro e V17 ⟨rfl, kV17⟩
  refine ⟨_, rfl, ?_⟩
  have K19 := K15.nn kV17
  have z20 := kV17.size
  refine pkq (.bool true) <| pkq (.bool true) ?_
  refine pcq 21 #[] Tryz.func21 ((lntwo_ok _).mono ?_)
  rintro e V21 ⟨gb, rfl, h22, ngb, kV21⟩
  refine ⟨_, rfl, ?_⟩
  have K24 := K19.nn kV21
  have z25 := kV21.size
  refine pcq 20 #[.slice (some ⟨gb, 0, none⟩) 2 2, .int .i64 59, .int .u64 100, .int .u64 1000, .int .u64 1000000000, .int .i64 0] Tryz.func20 ((lncut_ok ntwo _ 59 100 1000 1000000000 0 (by unfold i64ok; omega) (by decide) (by decide) (by decide) _ (two_all h22) (ErrTab.keeps het K24)).mono ?_)
  rintro e V26 ⟨rfl, kV26⟩
  refine ⟨_, rfl, ?_⟩
  have K29 := K24.nn kV26
  have z30 := kV26.size
  refine pkq (.bool true) <| pkq (.bool true) <| eu_ <| so_ (.bool true) ?_
  exact ⟨rfl, K29⟩
end Go.Proofs.YtghohakbepeffaaGreatDoor
namespace Go.Proofs.YtghohakbepeffaaGreatDoor
set_option maxRecDepth 100000
set_option maxHeartbeats 4000000
open Go Go.RowKit Go.Own Go.Shelf
theorem words_made (n : Nat) : madeCells (Value.int .u64 0).cells (n * 1) = Wz (List.replicate n 0) := by
  show madeCells #[.int .u64 0] (n * 1) = _
  unfold madeCells Wz
  apply Array.ext
  · simp
  · intro i h1 h2; simp [Nat.mod_one]
theorem sl_words {w : World} {s n : Nat} {o : List Nat} {T : TypeId} (h : w.heap[s]? = some (.cells (Wz o) T (0, 0))) (hn : o.length = n) (hm : n ≤ 100000) : Sl w 1 Gc (.slice (some ⟨s, 0, none⟩) n n) o :=
  ⟨⟨some ⟨s, 0, none⟩, n, by rw [hn], by omega, by unfold maxLen; omega, fun h => nomatch h⟩, fun k x hx => ⟨s, 0, n, by rw [hn], lt_of_block h, fun j u hj => by
    cases j with
    | succ j => simp [Gc] at hj
    | zero =>
      simp only [Gc, List.getElem?_cons_zero, Option.some.injEq] at hj
      subst hj
      rw [Nat.mul_one, Nat.zero_add, Nat.add_zero]
      exact rc h (Wz_get' o k x (List.getElem?_eq_some_iff.1 hx).1 (by unfold Kec.g; rw [List.getD_eq_getElem?_getD, hx]; rfl))⟩⟩
noncomputable def qc60_0 (n : Nat) : Code := partOf Tryz.f58 n
noncomputable abbrev qo60_0 (n k : Nat) : Oper := (opsAt (qc60_0 n)).getD k default
theorem kTimes_go (vA vB : Value) (lA lB : List Nat) (ha0 : Gd lA) (hb0 : Gd lB) (hal : lA.length ≤ 1000) (hbl : lB.length ≤ 1000) (w : World) (hla : Sl w 1 Gc vA lA) (hlb : Sl w 1 Gc vB lB) :
    Calls Tryz.prog 58 #[vA, vB] w (fun e w' => ∃ X, e = .returned X ∧ Sl w' 1 Gc X (dg (gv lA * gv lB)) ∧ Keeps Nob w w') := by
  obtain ⟨i8, hi8, hg0, hg1, hg2⟩ := info_parts gnum_info0
  obtain ⟨n, hn⟩ : ∃ x, lA.length + lB.length + 1 = x := ⟨_, rfl⟩
  have K0 : Keeps Nob w w := Keeps.refl _ _
  refine sy_enter (qc60_0 1) ⟨#[vA, vB, ud, ud, ud, ud, ud, ud, ud, ud, ud, ud, ud, ud, ud, ud, ud, ud, ud, ud, ud, ud, ud, ud, ud, ud, ud, ud, ud, ud, ud, ud, ud, ud, ud, ud, ud, ud, ud, ud, ud, ud, ud, ud, ud, ud, ud, ud, ud, ud, ud, ud, ud, ud, ud, ud], []⟩ Tryz.func58 (by kernel_rfl) (by kernel_rfl) <| qr_ [0] <| pkq (.slice none 0 0) <| eqr_ [0, 1, 2, 3, 4, 5, 6, 7] <| pkq (vA) <| ppq (iN lA.length) (exec_len_sl (.tmp 9) 49 40 (by kernel_rfl) Tryz.underlying49 (by kernel_rfl) hla) <| pkq (vB) <| ppq (iN lB.length) (exec_len_sl (.tmp 11) 49 40 (by kernel_rfl) Tryz.underlying49 (by kernel_rfl) hlb) <| ppq (iN (lA.length + lB.length)) (exec_cast (congrArg (Value.int .i64) (wrapN (lA.length + lB.length) (by omega))) (by kernel_rfl)) <| ppq (iN n) (exec_cast (congrArg (Value.int .i64) (wrapI (((lA.length + lB.length : Nat) : Int) + 1) ((n : Nat) : Int) (by omega) (by omega) (by omega))) (by kernel_rfl)) ?_
  obtain ⟨V1, eV1, s, es, h2, kV1⟩ := alloc_step w (madeCells (Value.int .u64 0).cells (n * i8.size)) 40
  have h3 : V1.heap[s]? = some (.cells (Wz ((List.replicate n 0))) 40 (0, 0)) := h2.trans (by rw [hg1]; exact congrArg (fun c => some (Obj.cells c 40 (0, 0))) (words_made n))
  refine prq (.slice (some ⟨s, 0, none⟩) n n) (w' := V1) (by rw [← eV1, ← es]; exact exec_makeSlice 49 (.tmp 14) (.tmp 14) (by kernel_rfl) 40 i8 (.int .u64 0) Tryz.underlying49 hi8 hg0 n (by kernel_rfl) (by kernel_rfl) (by rw [hg2]; omega) (by omega)) ?_
  clear eV1
  have ns : w.heap.size ≤ s := es ▸ K0.size
  have K4 := K0.nn kV1
  have z5 := kV1.size
  refine pkq (.slice (some ⟨s, 0, none⟩) n n) <| eq_ <| qr_ [0] <| pkq (.int .i64 0) <| et_ <| bl_ 0 ?_
  refine sy_loop (qc60_0 116) (fun a V => ∃ (i : Nat) (o : List Nat) (u7 u8 u16 u17 u18 u19 u20 u21 u22 u23 u24 u25 u26 u27 u28 u29 u30 u31 u32 u33 u34 u35 u36 u37 u38 u39 u40 u41 u42 u43 u44 u45 u46 u47 u48 u49 u50 u51 u52 u53 : Value), (a = ⟨#[vA, vB, ud, ud, .slice none 0 0, .slice (some ⟨s, 0, none⟩) n n, iN i, u7, u8, vA, iN lA.length, vB, iN lB.length, iN (lA.length + lB.length), iN n, .slice (some ⟨s, 0, none⟩) n n, u16, u17, u18, u19, u20, u21, u22, u23, u24, u25, u26, u27, u28, u29, u30, u31, u32, u33, u34, u35, u36, u37, u38, u39, u40, u41, u42, u43, u44, u45, u46, u47, u48, u49, u50, u51, u52, u53, ud, ud], []⟩) ∧ (i ≤ lA.length) ∧ (o.length = n) ∧ (Gd o) ∧ (gv o = gv (lA.take i) * gv lB) ∧ (V.heap[s]? = some (.cells (Wz o) 40 (0, 0))) ∧ (Keeps Nob w V)) (fun a _ => lA.length - (intOf (a.tmps.getD 6 undef)).toNat) (by kernel_rfl) ?_ ?_
  · exact ⟨0, (List.replicate n 0), undef, undef, undef, undef, undef, undef, undef, undef, undef, undef, undef, undef, undef, undef, undef, undef, undef, undef, undef, undef, undef, undef, undef, undef, undef, undef, undef, undef, undef, undef, undef, undef, undef, undef, undef, undef, undef, undef, undef, undef, by kernel_rfl, by omega, List.length_replicate, Gd_reps n, by rw [gv_reps, List.take_zero]; simp [gv], h3, K4⟩
  · rintro a V6 ⟨i, o, u7, u8, u16, u17, u18, u19, u20, u21, u22, u23, u24, u25, u26, u27, u28, u29, u30, u31, u32, u33, u34, u35, u36, u37, u38, u39, u40, u41, u42, u43, u44, u45, u46, u47, u48, u49, u50, u51, u52, u53, rfl, hi, hol, hgd, hval, h7, K8⟩
    by_cases lt_i : i < lA.length
    · obtain ⟨x, hx⟩ : ∃ x, lA[i]? = some x := ⟨_, List.getElem?_eq_getElem lt_i⟩
      have hxd := gdig_some hx
      have hxl : x < 65536 := hxd ▸ gdig_lt ha0 i
      obtain ⟨b_A, o_A, c_A, hv_A, hb_A, _⟩ := hla.at_ i x hx
      refine q_ <| qr_ [0, 1, 2, 3] <| pkq (iN i) <| pkq (vA) <| ppq (iN lA.length) (exec_len_sl (.tmp 17) 49 40 (by kernel_rfl) Tryz.underlying49 (by kernel_rfl) (hla.keepsN K8)) <| ppq (.bool true) (dct ((((i : Nat) : Int)) < (((lA.length : Nat) : Int))) (by omega)) <| ey_ <| s_ <| tq_ <| bl_ 1 <| qr_ [0] <| pkq (.int .u64 0) <| eqr_ [0] <| pkq (.int .i64 0) ?_
      refine et_ <| bl_ 2 ?_
      refine sy_loop (qc60_0 14924) (fun a V => ∃ (k : Nat) (o2 : List Nat) (c : Nat) (u22 u23 u24 u25 u26 u27 u28 u29 u30 u31 u32 u33 u34 u35 u36 u37 u38 u39 u40 u41 u42 u43 u44 u45 u46 u47 u48 u49 u50 u51 u52 u53 : Value), (a = ⟨#[vA, vB, ud, ud, .slice none 0 0, .slice (some ⟨s, 0, none⟩) n n, iN i, uN c, iN k, vA, iN lA.length, vB, iN lB.length, iN (lA.length + lB.length), iN n, .slice (some ⟨s, 0, none⟩) n n, iN i, vA, iN lA.length, .bool true, u20, u21, u22, u23, u24, u25, u26, u27, u28, u29, u30, u31, u32, u33, u34, u35, u36, u37, u38, u39, u40, u41, u42, u43, u44, u45, u46, u47, u48, u49, u50, u51, u52, u53, ud, ud], []⟩) ∧ (k ≤ lB.length + 1) ∧ (o2.length = n) ∧ (Gd o2) ∧ (c < 65536) ∧ (gv o2 + 65536 ^ (i + k) * c = gv (lA.take i) * gv lB + 65536 ^ i * (x * gv (lB.take k))) ∧ (V.heap[s]? = some (.cells (Wz o2) 40 (0, 0))) ∧ (Keeps Nob w V)) (fun a _ => 2 + lB.length - (intOf (a.tmps.getD 8 undef)).toNat) (by kernel_rfl) ?_ ?_
      · exact ⟨0, o, 0, u22, u23, u24, u25, u26, u27, u28, u29, u30, u31, u32, u33, u34, u35, u36, u37, u38, u39, u40, u41, u42, u43, u44, u45, u46, u47, u48, u49, u50, u51, u52, u53, by kernel_rfl, by omega, hol, hgd, by omega, mul_begin hval, h7, K8⟩
      · rintro a V9 ⟨k, o2, c, u22, u23, u24, u25, u26, u27, u28, u29, u30, u31, u32, u33, u34, u35, u36, u37, u38, u39, u40, u41, u42, u43, u44, u45, u46, u47, u48, u49, u50, u51, u52, u53, rfl, hk, hol2, hgd2, hc, hval2, h10, K11⟩
        by_cases lt_k : k ≤ lB.length
        · obtain ⟨z, hzs⟩ : ∃ z, o2[i + k]? = some z := ⟨_, List.getElem?_eq_getElem (by omega)⟩
          have hz : Kec.g o2 (i + k) = z := gdig_some hzs
          have hzl : z < 65536 := hz ▸ gdig_lt hgd2 (i + k)
          obtain ⟨y, hy⟩ : ∃ y, gdig lB k = y := ⟨_, rfl⟩
          have hyl : y < 65536 := hy ▸ gdig_lt hb0 k
          obtain ⟨xy, hxy⟩ : ∃ y1, x * y = y1 := ⟨_, rfl⟩
          obtain ⟨t1, ht1⟩ : ∃ y, c + z = y := ⟨_, rfl⟩
          obtain ⟨t, ht2⟩ : ∃ y, t1 + xy = y := ⟨_, rfl⟩
          have htl := mul_t hc hzl hxl hyl (show c + z + x * y = t by omega)
          have hvn := mul_step hzs hy (show c + z + x * y = t by omega) hval2
          obtain ⟨d, hd⟩ : ∃ x, t % 65536 = x := ⟨_, rfl⟩
          obtain ⟨c2, hc2⟩ : ∃ x, t / 65536 = x := ⟨_, rfl⟩
          rw [hd, hc2] at hvn
          obtain ⟨o3, ho3⟩ : ∃ x, o2.set (i + k) d = x := ⟨_, rfl⟩
          have hgd3 : Gd o3 := ho3 ▸ hgd2.set (by omega)
          have hol3 : o3.length = n := by rw [← ho3, List.length_set, hol2]
          rw [ho3] at hvn
          refine q_ <| qr_ [0, 1, 2, 3] <| pkq (iN k) <| pkq (vB) <| ppq (iN lB.length) (exec_len_sl (.tmp 23) 49 40 (by kernel_rfl) Tryz.underlying49 (by kernel_rfl) (hlb.keepsN K11)) <| ppq (.bool true) (dct ((((k : Nat) : Int)) ≤ (((lB.length : Nat) : Int))) (by omega)) <| ey_ <| s_ <| tq_ <| bl_ 3 <| q_ <| sy_reg <| rg_still 9 17 (opsAt (qc60_0 238792)) [qo60_0 238792 0, qo60_0 238792 1, qo60_0 238792 2, qo60_0 238792 3, qo60_0 238792 4, qo60_0 238792 5, qo60_0 238792 6, qo60_0 238792 7, qo60_0 238792 8, qo60_0 238792 9, qo60_0 238792 10, qo60_0 238792 11, qo60_0 238792 12, qo60_0 238792 13, qo60_0 238792 14, qo60_0 238792 15, qo60_0 238792 16] [qo60_0 238792 17] (by kernel_rfl) (by kernel_rfl) (by kernel_rfl) (by kernel_rfl) (by kernel_rfl) ?_
          obtain ⟨V13, eV13, kV13⟩ := drew_step V9
          rw [eV13]
          clear eV13
          have h14 := kV13.bk h10
          have K15 := K11.nn kV13
          have z16 := kV13.size
          refine skq (uN c) <| skq (.slice (some ⟨s, 0, none⟩) n n) <| skq (iN i) <| skq (iN k) <| spq (iN (i + k)) (exec_cast (congrArg (Value.int .i64) (wrapN (i + k) (by omega))) (by kernel_rfl)) <| spq (pT s (i + k)) (exec_cast (v := .pointer (some ⟨s, 0 + (i + k) * 1, none⟩)) (by simp) (exec_indexAt_slice 49 (.tmp 29) (.tmp 32) (by kernel_rfl) s 0 n n (by kernel_rfl) .i64 (i + k) (by kernel_rfl) _ 1 Tryz.underlying49 (by kernel_rfl) (by omega))) <| spq (uN z) (ldc 40 s (i + k) (rc (h14) (Wz_get' _ (i + k) _ (by rw [hol2]; omega) (hz)))) <| spq (uN t1) (exec_cast (congrArg (Value.int .u64) ((wrapU (c + z) (by omega)).trans (congrArg (fun n : Nat => (n : Int)) ht1))) (by kernel_rfl)) <| skq (vA) <| skq (iN i) <| spq (pT b_A (o_A + i * 1)) (exec_indexAt_slice 49 (.tmp 36) (.tmp 37) (by kernel_rfl) b_A o_A lA.length c_A (Eq.trans (b := vA) (by kernel_rfl) hv_A) .i64 i (by kernel_rfl) _ 1 Tryz.underlying49 (by kernel_rfl) (by omega)) <| spq (uN x) (ldc 40 b_A (o_A + i * 1 + 0) (Sl.cell (hla.keepsN K15) hx hv_A rfl)) <| skq (vB) <| skq (iN k) ?_
          refine scq 59 #[vB, iN k] (uN y) Tryz.func59 (kDigit_is vB lB k y _ (hlb.keepsN K15) hy) <| spq (uN xy) (exec_cast (congrArg (Value.int .u64) ((wrapU (x * y) (by omega)).trans (congrArg (fun n : Nat => (n : Int)) hxy))) (by kernel_rfl)) <| spq (uN t) (exec_cast (congrArg (Value.int .u64) ((wrapU (t1 + xy) (by omega)).trans (congrArg (fun n : Nat => (n : Int)) ht2))) (by kernel_rfl)) <| st_end <| ls_run (qo60_0 238792 17) (uN t) (w' := V13) (by kernel_rfl) (by kernel_rfl) <| ls_end <| tqr_ [0, 1, 2, 3, 4, 5, 6, 7] <| pkq (.slice (some ⟨s, 0, none⟩) n n) <| pkq (iN i) <| pkq (iN k) <| ppq (iN (i + k)) (exec_cast (congrArg (Value.int .i64) (wrapN (i + k) (by omega))) (by kernel_rfl)) <| pkq (uN t) <| ppq (uN d) (exec_cast (congrArg (fun n : Nat => Value.int .u64 (n : Int)) hd) (exec_remU 40 40 (.tmp 49) (.const (.int .u64 65536)) (by kernel_rfl) t 65536 (by kernel_rfl) (by kernel_rfl) (by decide) (by omega))) <| ppq (pT s (i + k)) (exec_cast (v := .pointer (some ⟨s, 0 + (i + k) * 1, none⟩)) (by simp) (exec_indexAt_slice 49 (.tmp 45) (.tmp 48) (by kernel_rfl) s 0 n n (by kernel_rfl) .i64 (i + k) (by kernel_rfl) _ 1 Tryz.underlying49 (by kernel_rfl) (by omega))) ?_
          refine pce 40 s (i + k) (uN d) (Wz o3) h14 (rc (h14) (Wz_get' _ (i + k) _ (by rw [hol2]; omega) (hz))) (by rw [Wz_set]; exact congrArg Wz (ho3)) fun V17 h18 kV17 => ?_
          have K19 := K15.nO kV17
          have z20 := kV17.size
          refine ps_end <| sy_a ⟨#[vA, vB, ud, ud, .slice none 0 0, .slice (some ⟨s, 0, none⟩) n n, iN i, uN t, iN k, vA, iN lA.length, vB, iN lB.length, iN (lA.length + lB.length), iN n, .slice (some ⟨s, 0, none⟩) n n, iN i, vA, iN lA.length, .bool true, u20, u21, iN k, vB, iN lB.length, .bool true, u26, u27, uN c, .slice (some ⟨s, 0, none⟩) n n, iN i, iN k, iN (i + k), pT s (i + k), uN z, uN t1, vA, iN i, pT b_A (o_A + i * 1), uN x, vB, iN k, uN y, uN xy, uN t, .slice (some ⟨s, 0, none⟩) n n, iN i, iN k, iN (i + k), uN t, uN d, pT s (i + k), u52, u53, ud, ud], []⟩ <| tr_ [0, 1, 2] <| pkq (uN t) <| ppq (uN c2) (exec_cast (congrArg (fun n : Nat => Value.int .u64 (n : Int)) hc2) (exec_quoU 40 40 (.tmp 52) (.const (.int .u64 65536)) (by kernel_rfl) t 65536 (by kernel_rfl) (by kernel_rfl) (by decide) (by omega))) <| pkq (uN c2) <| ps_end <| blk_n <| tr_ [0, 1, 2] <| pkq (iN k) <| ppq (iN (k + 1)) (exec_cast (congrArg (Value.int .i64) (wrapN (k + 1) (by omega))) (by kernel_rfl)) <| pkq (iN (k + 1)) <| et_ ?_
          refine ⟨⟨k + 1, o3, c2, (iN k), vB, (iN lB.length), (.bool true), (iN k), (iN (k + 1)), (uN c), (.slice (some ⟨s, 0, none⟩) n n), (iN i), (iN k), (iN (i + k)), (pT s (i + k)), (uN z), (uN t1), vA, (iN i), (pT b_A (o_A + i * 1)), (uN x), vB, (iN k), (uN y), (uN xy), (uN t), (.slice (some ⟨s, 0, none⟩) n n), (iN i), (iN k), (iN (i + k)), (uN t), (uN d), (pT s (i + k)), (uN t), (uN c2), by kernel_rfl, by omega, hol3, hgd3, by omega, hvn, h18, K19⟩, ?_⟩
          exact lt_meas (x := 2 + lB.length - (k + 1)) (y := 2 + lB.length - k) (by kernel_rfl) (by kernel_rfl) (by omega)
        · have eq_k : k = lB.length + 1 := by omega
          have hvo : gv o2 = gv (lA.take (i + 1)) * gv lB := mul_end ha0 hb0 hxd (eq_k ▸ hval2)
          refine q_ <| qr_ [0, 1, 2, 3] <| pkq (iN k) <| pkq (vB) <| ppq (iN lB.length) (exec_len_sl (.tmp 23) 49 40 (by kernel_rfl) Tryz.underlying49 (by kernel_rfl) (hlb.keepsN K11)) <| ppq (.bool false) (dcf ((((k : Nat) : Int)) ≤ (((lB.length : Nat) : Int))) (by omega)) <| en_ <| sy_exit 2 (by kernel_rfl) <| then_e <| then_e <| blk_e <| blk_n <| tr_ [0, 1, 2] <| pkq (iN i) ?_
          refine ppq (iN (i + 1)) (exec_cast (congrArg (Value.int .i64) (wrapN (i + 1) (by omega))) (by kernel_rfl)) <| pkq (iN (i + 1)) <| et_ ?_
          refine ⟨⟨i + 1, o2, (uN c), (iN k), (iN i), vA, (iN lA.length), (.bool true), (iN i), (iN (i + 1)), (iN k), vB, (iN lB.length), (.bool false), u26, u27, u28, u29, u30, u31, u32, u33, u34, u35, u36, u37, u38, u39, u40, u41, u42, u43, u44, u45, u46, u47, u48, u49, u50, u51, u52, u53, by kernel_rfl, by omega, hol2, hgd2, hvo, h10, K11⟩, ?_⟩
          exact lt_meas (x := lA.length - (i + 1)) (y := lA.length - i) (by kernel_rfl) (by kernel_rfl) (by omega)
    · have hfin : gv o = gv lA * gv lB := by rw [gv_all lA i (by omega)] at hval; exact hval
      refine q_ <| qr_ [0, 1, 2, 3] <| pkq (iN i) <| pkq (vA) <| ppq (iN lA.length) (exec_len_sl (.tmp 17) 49 40 (by kernel_rfl) Tryz.underlying49 (by kernel_rfl) (hla.keepsN K8)) <| ppq (.bool false) (dcf ((((i : Nat) : Int)) < (((lA.length : Nat) : Int))) (by omega)) <| en_ <| sy_exit 0 (by kernel_rfl) <| then_e <| then_e <| blk_e <| tqr_ [0, 1, 2] <| pkq (.slice (some ⟨s, 0, none⟩) n n) ?_
      refine pcq 60 #[.slice (some ⟨s, 0, none⟩) n n] Tryz.func60 ((kTrim_ok _ o _ hgd hfin _ (sl_words h7 hol (by omega))).mono ?_)
      rintro e w1 ⟨X, rfl, hX, rfl⟩
      refine ⟨_, rfl, ?_⟩
      refine pkq (X) <| eu_ <| so_ (X) ?_
      exact ⟨_, rfl, hX, K8⟩
theorem kTimesGreat_ok (va vb : Value) (a b : Nat) (ha : a < 65536 ^ 100) (hb : b < 65536 ^ 100) (w : World) (hla : Sl w 1 Gc va (dg a)) (hlb : Sl w 1 Gc vb (dg b)) : Calls Tryz.prog 58 #[va, vb] w (fun e w' => ∃ X, e = .returned X ∧ Sl w' 1 Gc X (dg (a * b)) ∧ Keeps Nob w w') := by
  have h := kTimes_go va vb (dg a) (dg b) (Gd_dg a) (Gd_dg b) (Nat.le_trans (dg_len 100 a ha) (by decide)) (Nat.le_trans (dg_len 100 b hb) (by decide)) w hla hlb
  rw [gv_dg, gv_dg] at h; exact h
theorem small_100 {n : Nat} (h : n < 340282366920938463463374607431768211456) : n < 65536 ^ 100 := Nat.lt_of_lt_of_le h (by decide +kernel)
theorem prod_128 {a b : Nat} (ha : a < 18446744073709551616) (hb : b < 18446744073709551616) : a * b < 340282366920938463463374607431768211456 := Nat.mul_lt_mul_of_lt_of_lt ha hb
noncomputable def qc60_1 (n : Nat) : Code := partOf Tryz.f30 n
theorem lntimes_ok (na nb nc : Nat) (hna : na < 18446744073709551616) (hnb : nb < 18446744073709551616) (hnc : nc < 18446744073709551616) (w : World) :
    Calls Tryz.prog 30 #[.int .u64 ((na : Nat) : Int), .int .u64 ((nb : Nat) : Int), .int .u64 ((nc : Nat) : Int)] w (fun e w' => ∃ X, e = .returned X ∧ Sl w' 1 Gc X (dg (na * nb * nc)) ∧ Keeps Nob w w') := by
  have K0 : Keeps Nob w w := Keeps.refl _ _
  refine sy_enter (qc60_1 1) ⟨#[uN na, uN nb, uN nc, ud, ud, ud, ud, ud, ud, ud, ud, ud, ud, ud, ud], []⟩ Tryz.func30 (by kernel_rfl) (by kernel_rfl) <| qr_ [0] <| pkq (.slice none 0 0) <| eqr_ [0, 1, 2, 3, 4, 5, 6, 7, 8] <| pkq (uN na) ?_
  refine pcq 33 #[uN na] Tryz.func33 ((kGreat_ok na hna _).mono ?_)
  rintro e V1 ⟨Xna, rfl, hXna, kV1⟩
  refine ⟨_, rfl, ?_⟩
  have K2 := K0.nn kV1
  have z3 := kV1.size
  refine pkq (uN nb) ?_
  refine pcq 33 #[uN nb] Tryz.func33 ((kGreat_ok nb hnb _).mono ?_)
  rintro e V4 ⟨Xnb, rfl, hXnb, kV4⟩
  refine ⟨_, rfl, ?_⟩
  have h5 : Sl V4 1 Gc Xna (dg na) := hXna.keepsN kV4
  have K6 := K2.nn kV4
  have z7 := kV4.size
  refine pcq 58 #[Xna, Xnb] Tryz.func58 ((kTimesGreat_ok Xna Xnb na nb (small_100 (by omega)) (small_100 (by omega)) _ h5 hXnb).mono ?_)
  rintro e V8 ⟨Xp, rfl, hXp, kV8⟩
  refine ⟨_, rfl, ?_⟩
  have K11 := K6.nn kV8
  have z12 := kV8.size
  refine pkq (uN nc) ?_
  refine pcq 33 #[uN nc] Tryz.func33 ((kGreat_ok nc hnc _).mono ?_)
  rintro e V13 ⟨Xnc, rfl, hXnc, kV13⟩
  refine ⟨_, rfl, ?_⟩
  have h16 : Sl V13 1 Gc Xp (dg (na * nb)) := hXp.keepsN kV13
  have K17 := K11.nn kV13
  have z18 := kV13.size
  refine pcq 58 #[Xp, Xnc] Tryz.func58 ((kTimesGreat_ok Xp Xnc (na * nb) nc (small_100 (prod_128 hna hnb)) (small_100 (by omega)) _ h16 hXnc).mono ?_)
  rintro e V19 ⟨Xq, rfl, hXq, kV19⟩
  refine ⟨_, rfl, ?_⟩
  have K24 := K17.nn kV19
  have z25 := kV19.size
  refine pkq (Xq) <| eu_ <| so_ (Xq) ?_
  exact ⟨_, rfl, hXq, K24⟩
theorem pick_law (x n r : Int) (hn : 0 < n) (hr : x.tmod n = r) : -n < r ∧ r < n ∧ (r < 0 → r + n = x % n) ∧ (0 ≤ r → r = x % n) := by
  have h1 := Int.tmod_lt_of_pos x hn
  have h2 := Int.lt_tmod_of_pos x hn
  have h3 := Int.tmod_add_mul_tdiv x n
  rw [hr] at h1 h2 h3
  refine ⟨h2, h1, fun h => ?_, fun h => ?_⟩
  · rw [← h3, Int.add_mul_emod_self_left, ← Int.add_emod_right, Int.emod_eq_of_lt (by omega) (by omega)]
  · rw [← h3, Int.add_mul_emod_self_left, Int.emod_eq_of_lt (by omega) (by omega)]
theorem exec_remI {P : Program} {o : Oper} {ρ : Operand → Value} {w : World} (t t' : TypeId) (x y : Operand) (ho : o.op = .binOp .rem t x y t') (a b : Int) (hx : ρ x = .int .i64 a) (hy : ρ y = .int .i64 b) (hb : 0 < b) :
    (execOp ρ o).run P w = .ok (.value (.int .i64 (a.tmod b))) w := by
  refine exec_binop .rem t t' x y ho _ _ _ hx hy rfl ?_
  have h : ¬ (b = 0) := by omega
  rw [binOp_rem]
  simp only [Op.intDiv, if_neg h]
  rfl
theorem gconv {x : Nat} (h : x < 9223372036854775808) (w : World) : (convert 40 3 (.int .u64 ((x : Nat) : Int))).run Tryz.prog w = .ok (.int .i64 ((x : Nat) : Int)) w := by
  simp only [convert, Tryz.underlying40, Tryz.underlying3]
  simp [Conv.intToInt, wrapI ((x : Nat) : Int) _ rfl (by omega) (by omega)]
noncomputable def qc60_3 (n : Nat) : Code := partOf Tryz.f27 n
theorem kPick_neg (x n r : Int) (hn : 0 < n) (hn2 : n ≤ 1000000000) (hr : x.tmod n = r) (h0 : r < 0) (w : World) :
    Calls Tryz.prog 27 #[.int .i64 x, .int .i64 n] w (fun e w' => e = .returned (.int .i64 (x % n)) ∧ w = w') := by
  obtain ⟨q1, q2, q3, q4⟩ := pick_law x n r hn hr
  have K0 : Keeps Nob w w := Keeps.refl _ _
  refine sy_enter (qc60_3 1) ⟨#[.int .i64 x, .int .i64 n, ud, ud, ud, ud, ud, ud, ud, ud, ud, ud, ud, ud, ud, ud], []⟩ Tryz.func27 (by kernel_rfl) (by kernel_rfl) <| qr_ [0] <| pkq (.int .i64 0) <| eq_ <| qr_ [0, 1] <| pkq (.int .i64 n) <| ppq (.bool false) (exec_cast (congrArg Value.bool (show (decide (((n) : Int) ≤ ((0) : Int))) = false from decide_eq_false (by omega))) (by kernel_rfl)) <| en_ <| s_ <| tqr_ [0, 1, 2, 3] <| pkq (.int .i64 x) <| pkq (.int .i64 n) <| ppq (.int .i64 r) (exec_cast (congrArg (Value.int .i64) hr) (exec_remI 3 3 (.tmp 7) (.tmp 8) (by kernel_rfl) x n (by kernel_rfl) (by kernel_rfl) hn)) <| pkq (.int .i64 r) ?_
  refine eq_ <| qr_ [0, 1] <| pkq (.int .i64 r) <| ppq (.bool true) (exec_cast (congrArg Value.bool (show (decide (((r) : Int) < ((0) : Int))) = true from decide_eq_true (by omega))) (by kernel_rfl)) <| ey_ <| r_ [0, 1, 2, 3] <| pkq (.int .i64 r) <| pkq (.int .i64 n) <| ppq (.int .i64 (r + n)) (exec_cast (congrArg (Value.int .i64) (wrapI (r + n) _ rfl (by omega) (by omega))) (by kernel_rfl)) <| pkq (.int .i64 (r + n)) <| eqr_ [0, 1] <| pkq (.int .i64 (r + n)) <| pkq (.int .i64 (r + n)) <| eu_ ?_
  refine so_ (.int .i64 (r + n)) ?_
  exact ⟨by rw [q3 h0], rfl⟩
theorem kPick_pos (x n r : Int) (hn : 0 < n) (hn2 : n ≤ 1000000000) (hr : x.tmod n = r) (h0 : 0 ≤ r) (w : World) :
    Calls Tryz.prog 27 #[.int .i64 x, .int .i64 n] w (fun e w' => e = .returned (.int .i64 (x % n)) ∧ w = w') := by
  obtain ⟨q1, q2, q3, q4⟩ := pick_law x n r hn hr
  have K0 : Keeps Nob w w := Keeps.refl _ _
  refine sy_enter (qc60_3 1) ⟨#[.int .i64 x, .int .i64 n, ud, ud, ud, ud, ud, ud, ud, ud, ud, ud, ud, ud, ud, ud], []⟩ Tryz.func27 (by kernel_rfl) (by kernel_rfl) <| qr_ [0] <| pkq (.int .i64 0) <| eq_ <| qr_ [0, 1] <| pkq (.int .i64 n) <| ppq (.bool false) (exec_cast (congrArg Value.bool (show (decide (((n) : Int) ≤ ((0) : Int))) = false from decide_eq_false (by omega))) (by kernel_rfl)) <| en_ <| s_ <| tqr_ [0, 1, 2, 3] <| pkq (.int .i64 x) <| pkq (.int .i64 n) <| ppq (.int .i64 r) (exec_cast (congrArg (Value.int .i64) hr) (exec_remI 3 3 (.tmp 7) (.tmp 8) (by kernel_rfl) x n (by kernel_rfl) (by kernel_rfl) hn)) <| pkq (.int .i64 r) ?_
  refine eq_ <| qr_ [0, 1] <| pkq (.int .i64 r) <| ppq (.bool false) (exec_cast (congrArg Value.bool (show (decide (((r) : Int) < ((0) : Int))) = false from decide_eq_false (by omega))) (by kernel_rfl)) <| en_ <| s_ <| tqr_ [0, 1] <| pkq (.int .i64 r) <| pkq (.int .i64 r) <| eu_ <| so_ (.int .i64 r) ?_
  exact ⟨by rw [← q4 h0], rfl⟩
theorem kPick_ok (x n : Int) (hn : 0 < n) (hn2 : n ≤ 1000000000) (w : World) : Calls Tryz.prog 27 #[.int .i64 x, .int .i64 n] w (fun e w' => e = .returned (.int .i64 (x % n)) ∧ w = w') := by
  rcases Int.lt_or_le (x.tmod n) 0 with h | h
  · exact kPick_neg x n _ hn hn2 rfl h w
  · exact kPick_pos x n _ hn hn2 rfl h w
noncomputable def qc60_4 (n : Nat) : Code := partOf Tryz.f25 n
theorem lnof_ok (base mult : Nat) (window : Int) (hb : base < 18446744073709551616) (hm : mult < 18446744073709551616) (w : World) :
    Calls Tryz.prog 25 #[.int .u64 ((base : Nat) : Int), .int .u64 ((mult : Nat) : Int), .int .i64 window] w (fun e w' => e = .returned (.agg (pOf base mult window).cells) ∧ Keeps Nob w w') := by
  have K0 : Keeps Nob w w := Keeps.refl _ _
  refine sy_enter (qc60_4 1) ⟨#[uN base, uN mult, .int .i64 window, ud, ud, ud, ud, ud, ud, ud, ud, ud, ud, ud, ud, ud, ud, ud, ud, ud], []⟩ Tryz.func25 (by kernel_rfl) (by kernel_rfl) <| qr_ [0] <| pal 51 (#[.int .i64 0, .int .i64 0, .int .i64 0, .int .i64 0, .int .i64 0, .int .i64 0, .int .i64 0, .int .u64 0, .int .u64 0, .int .i64 0, .int .u64 0]) (.agg (#[.int .i64 0, .int .i64 0, .int .i64 0, .int .i64 0, .int .i64 0, .int .i64 0, .int .i64 0, .int .u64 0, .int .u64 0, .int .i64 0, .int .u64 0])) fun V1 gr egr h2 kV1 => ?_
  have n3 : w.heap.size ≤ gr := egr ▸ K0.size
  have K4 := K0.nn kV1
  have z5 := kV1.size
  refine eqr_ [0, 1, 2] ?_
  refine pcq 53 #[] Tryz.func53 ((pDefault_ok _).mono ?_)
  rintro e V6 ⟨rfl, kV6⟩
  refine ⟨_, rfl, ?_⟩
  have h7 := kV6.bk h2
  have K8 := K4.nn kV6
  have z9 := kV6.size
  refine pal 51 (#[.int .i64 0, .int .i64 0, .int .i64 0, .int .i64 0, .int .i64 0, .int .i64 0, .int .i64 0, .int .u64 0, .int .u64 0, .int .i64 0, .int .u64 0]) (.agg (#[.int .i64 0, .int .i64 0, .int .i64 0, .int .i64 0, .int .i64 0, .int .i64 0, .int .i64 0, .int .u64 0, .int .u64 0, .int .i64 0, .int .u64 0])) fun V10 gp egp h11 kV10 => ?_
  have n12 : gr < gp := egp ▸ lt_of_block h7
  have n13 : w.heap.size ≤ gp := egp ▸ K8.size
  have h14 := kV10.bk h7
  have K15 := K8.nn kV10
  have z16 := kV10.size
  refine pst 51 gp (#[.int .i64 100, .int .i64 100, .int .i64 10, .int .i64 8, .int .i64 7, .int .i64 8, .int .i64 20, .int .u64 50000000, .int .u64 3, .int .i64 50, .int .u64 100000000]) h11 (by kernel_rfl) rfl (by kernel_rfl) fun V17 h18 kV17 => ?_
  have h19 := kV17.bO h14
  have K20 := K15.nO kV17
  have z21 := kV17.size
  refine eqr_ [0, 1, 2, 3] <| pkq (uN base) <| ppq (uN ((base % 1000000001))) (exec_remU 40 40 (.tmp 9) (.const (.int .u64 1000000001)) (by kernel_rfl) base 1000000001 (by kernel_rfl) (by kernel_rfl) (by decide) hb) <| pkq (pT gp 7) <| pce 40 gp 7 (uN ((base % 1000000001))) (#[.int .i64 100, .int .i64 100, .int .i64 10, .int .i64 8, .int .i64 7, .int .i64 8, .int .i64 20, .int .u64 (((base % 1000000001) : Nat) : Int), .int .u64 3, .int .i64 50, .int .u64 100000000]) h18 (rc (h18) (by kernel_rfl)) (by kernel_rfl) (u := .int .u64 50000000) fun V22 h23 kV22 => ?_
  have h24 := kV22.bO h19
  have K25 := K20.nO kV22
  have z26 := kV22.size
  refine eqr_ [0, 1, 2, 3] <| pkq (uN mult) <| ppq (uN ((mult % 1001))) (exec_remU 40 40 (.tmp 12) (.const (.int .u64 1001)) (by kernel_rfl) mult 1001 (by kernel_rfl) (by kernel_rfl) (by decide) hm) <| pkq (pT gp 8) <| pce 40 gp 8 (uN ((mult % 1001))) (#[.int .i64 100, .int .i64 100, .int .i64 10, .int .i64 8, .int .i64 7, .int .i64 8, .int .i64 20, .int .u64 (((base % 1000000001) : Nat) : Int), .int .u64 (((mult % 1001) : Nat) : Int), .int .i64 50, .int .u64 100000000]) h23 (rc (h23) (by kernel_rfl)) (by kernel_rfl) (u := .int .u64 3) fun V27 h28 kV27 => ?_
  have h29 := kV27.bO h24
  have K30 := K25.nO kV27
  have z31 := kV27.size
  refine eqr_ [0, 1, 2, 3, 4] <| pkq (.int .i64 window) ?_
  refine pcq 27 #[.int .i64 window, .int .i64 60] Tryz.func27 ((kPick_ok window 60 (by decide) (by decide) _).mono ?_)
  rintro e w1 ⟨rfl, rfl⟩
  refine ⟨_, rfl, ?_⟩
  refine ppq (.int .i64 (1 + (window % 60))) (exec_cast (congrArg (Value.int .i64) (wrapI (1 + (window % 60)) (1 + (window % 60)) rfl (by omega) (by omega))) (by kernel_rfl)) <| pkq (pT gp 9) <| pce 3 gp 9 (.int .i64 (1 + (window % 60))) (#[.int .i64 100, .int .i64 100, .int .i64 10, .int .i64 8, .int .i64 7, .int .i64 8, .int .i64 20, .int .u64 (((base % 1000000001) : Nat) : Int), .int .u64 (((mult % 1001) : Nat) : Int), .int .i64 (1 + (window % 60)), .int .u64 100000000]) h28 (rc (h28) (by kernel_rfl)) (by kernel_rfl) (u := .int .i64 50) fun V32 h33 kV32 => ?_
  have h34 := kV32.bO h29
  have K35 := K30.nO kV32
  have z36 := kV32.size
  refine eqr_ [0, 1] <| ppq (.agg #[.int .i64 100, .int .i64 100, .int .i64 10, .int .i64 8, .int .i64 7, .int .i64 8, .int .i64 20, uN ((base % 1000000001)), uN ((mult % 1001)), .int .i64 (1 + (window % 60)), .int .u64 100000000]) (ldr 51 gp (h33) (by kernel_rfl)) ?_
  obtain ⟨V37, eV37, kV37⟩ := rowset_step V32 gr (#[.int .i64 100, .int .i64 100, .int .i64 10, .int .i64 8, .int .i64 7, .int .i64 8, .int .i64 20, .int .u64 (((base % 1000000001) : Nat) : Int), .int .u64 (((mult % 1001) : Nat) : Int), .int .i64 (1 + (window % 60)), .int .u64 100000000])
  have h38 : V37.heap[gr]? = some (.cells (#[.int .i64 100, .int .i64 100, .int .i64 10, .int .i64 8, .int .i64 7, .int .i64 8, .int .i64 20, .int .u64 (((base % 1000000001) : Nat) : Int), .int .u64 (((mult % 1001) : Nat) : Int), .int .i64 (1 + (window % 60)), .int .u64 100000000]) 51 (0, 0)) := eV37 ▸ setRow_heap _ _ _ _ _ _ h34
  refine pzq (w' := V37) (by rw [← eV37]; exact exec_store_row 51 (.tmp 6) (.tmp 19) (by kernel_rfl) gr (#[.int .i64 100, .int .i64 100, .int .i64 10, .int .i64 8, .int .i64 7, .int .i64 8, .int .i64 20, uN ((base % 1000000001)), uN ((mult % 1001)), .int .i64 (1 + (window % 60)), .int .u64 100000000]) (by kernel_rfl) (by kernel_rfl) 51 (#[.int .i64 0, .int .i64 0, .int .i64 0, .int .i64 0, .int .i64 0, .int .i64 0, .int .i64 0, .int .u64 0, .int .u64 0, .int .i64 0, .int .u64 0]) h34 (by kernel_rfl) rfl (by kernel_rfl)) ?_
  clear eV37
  have K40 := K35.nO kV37
  have z41 := kV37.size
  refine eu_ <| sy_out (.agg (#[.int .i64 100, .int .i64 100, .int .i64 10, .int .i64 8, .int .i64 7, .int .i64 8, .int .i64 20, .int .u64 (((base % 1000000001) : Nat) : Int), .int .u64 (((mult % 1001) : Nat) : Int), .int .i64 (1 + (window % 60)), .int .u64 100000000])) rfl (results_cell_row (p := 6) (ty := 51) (by kernel_rfl) _ _ gr 51 (#[.int .i64 100, .int .i64 100, .int .i64 10, .int .i64 8, .int .i64 7, .int .i64 8, .int .i64 20, .int .u64 (((base % 1000000001) : Nat) : Int), .int .u64 (((mult % 1001) : Nat) : Int), .int .i64 (1 + (window % 60)), .int .u64 100000000]) (0, 0) _ (by kernel_rfl) h38 Tryz.underlying51 rfl (by kernel_rfl)) ?_
  exact ⟨rfl, K40⟩
theorem nadd_to {l l2 : List Nt} {x : Nt} {args : Array Value} {w : World} (h1 : nadd l x = (l2, 0)) (h : Calls Tryz.prog 56 args w (fun e w' => ∃ X, e = .returned (.tuple #[X, .int .i64 (nadd l x).2]) ∧ Row w' 46 2 X ((nadd l x).1).length (((nadd l x).1).flatMap Nt.cl) ∧ NewFrom w.heap.size X ∧ Keeps Nob w w')) : Calls Tryz.prog 56 args w (fun e w' => ∃ X, e = .returned (.tuple #[X, .int .i64 0]) ∧ Row w' 46 2 X (l2).length ((l2).flatMap Nt.cl) ∧ NewFrom w.heap.size X ∧ Keeps Nob w w') := by rw [h1] at h; exact h
noncomputable def qc60_2 (n : Nat) : Code := partOf Tryz.f26 n
theorem lnmade_ok (v0 : Value) (ns : List Nat) (hnl : ∀ x ∈ ns, x < 18446744073709551616) (w : World) (hns : Sl w 1 Gc v0 ns) (het : ErrTab w) :
    Calls Tryz.prog 26 #[v0] w (fun e w' => ∃ X, e = .returned (.tuple #[X, .bool true]) ∧ Sl w' 2 Nt.cl X (mgo (ns.take 64) 1) ∧ Keeps Nob w w') := by
  have hln := Sl.len_le hns
  have K0 : Keeps Nob w w := Keeps.refl _ _
  refine sy_enter (qc60_2 1) ⟨#[v0, ud, ud, ud, ud, ud, ud, ud, ud, ud, ud, ud, ud, ud, ud, ud, ud, ud, ud, ud, ud, ud, ud, ud, ud, ud, ud, ud, ud, ud, ud, ud, ud, ud, ud, ud, ud, ud, ud, ud, ud, ud, ud, ud], []⟩ Tryz.func26 (by kernel_rfl) (by kernel_rfl) <| qr_ [0, 1] <| pkq (.slice none 0 0) <| pkq (.bool false) <| eqr_ [0] <| pkq (.slice none 0 0) <| eqr_ [0] <| pkq (.int .i64 1) <| eq_ <| qr_ [0] <| pkq (.int .i64 0) <| et_ <| bl_ 0 ?_
  refine sy_loop (qc60_2 244) (fun a V => ∃ (i : Nat) (at_ : Nat) (l : List Nt) (v : Value) (u2 u3 u7 u8 u9 u10 u11 u12 u13 u14 u15 u16 u17 u18 u19 u20 u21 u22 u23 u24 u25 u26 u27 u28 u29 u30 u31 u32 u33 u34 u35 u36 u37 u38 u39 u40 u41 u42 : Value), (a = ⟨#[v0, ud, u2, u3, v, iN at_, iN i, u7, u8, u9, u10, u11, u12, u13, u14, u15, u16, u17, u18, u19, u20, u21, u22, u23, u24, u25, u26, u27, u28, u29, u30, u31, u32, u33, u34, u35, u36, u37, u38, u39, u40, u41, u42, ud], []⟩) ∧ (i ≤ ns.length) ∧ (i ≤ 64) ∧ (mAt (ns.take i) 1 = at_) ∧ (mgo (ns.take i) 1 = l) ∧ (Sl V 2 Nt.cl v l) ∧ (Keeps Nob w V)) (fun a _ => ns.length - (intOf (a.tmps.getD 6 undef)).toNat) (by kernel_rfl) ?_ ?_
  · exact ⟨0, 1, [], .slice none 0 0, (.slice none 0 0), (.bool false), undef, undef, undef, undef, undef, undef, undef, undef, undef, undef, undef, undef, undef, undef, undef, undef, undef, undef, undef, undef, undef, undef, undef, undef, undef, undef, undef, undef, undef, undef, undef, undef, undef, undef, undef, undef, by kernel_rfl, by omega, by omega, rfl, rfl, (Sl.nil w 2 Nt.cl), K0⟩
  · rintro a V1 ⟨i, at_, l, v, u2, u3, u7, u8, u9, u10, u11, u12, u13, u14, u15, u16, u17, u18, u19, u20, u21, u22, u23, u24, u25, u26, u27, u28, u29, u30, u31, u32, u33, u34, u35, u36, u37, u38, u39, u40, u41, u42, rfl, hi, hi2, hat, hl, h2, K3⟩
    rcases (show (i < ns.length ∧ i < 64) ∨ (i < ns.length ∧ i = 64) ∨ i = ns.length by omega) with ⟨lt_i, h64⟩ | ⟨lt_i, h64⟩ | eq_i
    · obtain ⟨x, hx⟩ : ∃ x, ns[i]? = some x := ⟨_, List.getElem?_eq_getElem lt_i⟩
      obtain ⟨b_, o_, c_, hv_, hb_, _⟩ := hns.at_ i x hx
      have hxl := hnl x (List.mem_of_getElem? hx)
      obtain ⟨d, hd⟩ : ∃ y, x % 30 = y := ⟨_, rfl⟩
      obtain ⟨q1, hq1⟩ : ∃ y, x / 30 = y := ⟨_, rfl⟩
      obtain ⟨s2, hs2⟩ : ∃ y, q1 % 4611686018427387905 = y := ⟨_, rfl⟩
      have hatl := mAt_le (ns.take i) 1
      rw [List.length_take, hat] at hatl
      obtain ⟨at2, hat2⟩ : ∃ y, at_ + d = y := ⟨_, rfl⟩
      obtain ⟨l2, hl2⟩ : ∃ y, mgo (ns.take (i + 1)) 1 = y := ⟨_, rfl⟩
      have hadd : nadd l ⟨((at2 : Nat) : Int), s2⟩ = (l2, 0) := by
        have e := madd hx h64
        unfold mNote at e
        rw [hl, hat, hd, hq1, hs2, hat2, hl2] at e; exact e
      have hatn : mAt (ns.take (i + 1)) 1 = at2 := by rw [mat_next hx, hat, hd, hat2]
      refine q_ <| qr_ [0, 1, 2, 3, 4, 5, 6, 7] <| pkq (iN i) <| pkq (v0) <| ppq (iN ns.length) (exec_len_sl (.tmp 10) 49 40 (by kernel_rfl) Tryz.underlying49 (by kernel_rfl) (hns.keepsN K3)) <| ppq (.bool true) (dct ((((i : Nat) : Int)) < (((ns.length : Nat) : Int))) (by omega)) <| pkq (.bool true) <| pkq (iN i) <| ppq (.bool true) (dct ((((i : Nat) : Int)) < ((64) : Int)) (by omega)) <| pkq (.bool true) <| ey_ <| s_ <| tq_ <| bl_ 1 ?_
      refine qr_ [0, 1, 2, 3, 4, 5, 6, 7, 8] <| pkq (iN at_) <| pkq (v0) <| pkq (iN i) <| ppq (pT b_ (o_ + i * 1)) (exec_indexAt_slice 49 (.tmp 20) (.tmp 21) (by kernel_rfl) b_ o_ ns.length c_ (Eq.trans (b := v0) (by kernel_rfl) hv_) .i64 i (by kernel_rfl) _ 1 Tryz.underlying49 (by kernel_rfl) (by omega)) <| ppq (uN x) (ldc 40 b_ (o_ + i * 1 + 0) (Sl.cell (hns.keepsN K3) hx hv_ rfl)) <| ppq (uN d) (exec_cast (congrArg (fun n : Nat => Value.int .u64 (n : Int)) hd) (exec_remU 40 40 (.tmp 23) (.const (.int .u64 30)) (by kernel_rfl) x 30 (by kernel_rfl) (by kernel_rfl) (by decide) (by omega))) <| prq (iN d) (w' := V1) (exec_convert 40 3 (.tmp 24) (by kernel_rfl) _ (by kernel_rfl) (gconv (by omega) _)) <| ppq (iN at2) (exec_cast (congrArg (Value.int .i64) (wrapI (((at_ : Nat) : Int) + ((d : Nat) : Int)) ((at2 : Nat) : Int) (by omega) (by omega) (by omega))) (by kernel_rfl)) <| pkq (iN at2) <| eqr_ [0, 1, 2, 3, 4, 5, 6, 7, 8, 9, 10, 11, 12, 13, 14] <| pkq (v) <| pkq (iN at2) <| pkq (v0) ?_
      refine pkq (iN i) <| ppq (pT b_ (o_ + i * 1)) (exec_indexAt_slice 49 (.tmp 30) (.tmp 31) (by kernel_rfl) b_ o_ ns.length c_ (Eq.trans (b := v0) (by kernel_rfl) hv_) .i64 i (by kernel_rfl) _ 1 Tryz.underlying49 (by kernel_rfl) (by omega)) <| ppq (uN x) (ldc 40 b_ (o_ + i * 1 + 0) (Sl.cell (hns.keepsN K3) hx hv_ rfl)) <| ppq (uN q1) (exec_cast (congrArg (fun n : Nat => Value.int .u64 (n : Int)) hq1) (exec_quoU 40 40 (.tmp 33) (.const (.int .u64 30)) (by kernel_rfl) x 30 (by kernel_rfl) (by kernel_rfl) (by decide) (by omega))) <| ppq (uN s2) (exec_cast (congrArg (fun n : Nat => Value.int .u64 (n : Int)) hs2) (exec_remU 40 40 (.tmp 34) (.const (.int .u64 4611686018427387905)) (by kernel_rfl) q1 4611686018427387905 (by kernel_rfl) (by kernel_rfl) (by decide) (by omega))) <| pkq (.agg #[iN at2, uN s2]) ?_
      refine pcq 56 #[v, .agg #[iN at2, uN s2]] Tryz.func56 ((nadd_to hadd (nAdd_all l ⟨((at2 : Nat) : Int), s2⟩ _ _ h2 (ErrTab.keeps het K3))).mono ?_)
      rintro e V4 ⟨X, rfl, hX, hXn, kV4⟩
      refine ⟨_, rfl, ?_⟩
      have K5 := K3.nn kV4
      have z6 := kV4.size
      refine pkq (.tuple #[X, .int .i64 0]) <| pkq (X) <| pkq (.int .i64 0) <| pkq (X) <| pkq (.int .i64 0) <| ps_end <| sy_a ⟨#[v0, ud, u2, u3, v, iN at2, iN i, X, .int .i64 0, iN i, v0, iN ns.length, .bool true, .bool true, iN i, .bool true, .bool true, u17, u18, iN at_, v0, iN i, pT b_ (o_ + i * 1), uN x, uN d, iN d, iN at2, .tuple #[X, .int .i64 0], v, iN at2, v0, iN i, pT b_ (o_ + i * 1), uN x, uN q1, uN s2, .agg #[iN at2, uN s2], .tuple #[X, .int .i64 0], X, .int .i64 0, u40, u41, u42, ud], []⟩ <| tq_ <| qr_ [0, 1] <| pkq (.int .i64 0) <| pkq (.bool false) <| en_ <| s_ <| tr_ [0, 1] ?_
      refine pkq (X) <| pkq (X) <| ps_end <| blk_n <| tr_ [0, 1, 2] <| pkq (iN i) <| ppq (iN (i + 1)) (exec_cast (congrArg (Value.int .i64) (wrapN (i + 1) (by omega))) (by kernel_rfl)) <| pkq (iN (i + 1)) <| et_ ?_
      refine ⟨⟨i + 1, at2, l2, X, u2, u3, X, (.int .i64 0), (iN i), v0, (iN ns.length), (.bool true), (.bool true), (iN i), (.bool true), (.bool true), (iN i), (iN (i + 1)), (iN at_), v0, (iN i), (pT b_ (o_ + i * 1)), (uN x), (uN d), (iN d), (iN at2), (.tuple #[X, .int .i64 0]), v, (iN at2), v0, (iN i), (pT b_ (o_ + i * 1)), (uN x), (uN q1), (uN s2), (.agg #[iN at2, uN s2]), (.tuple #[X, .int .i64 0]), X, (.int .i64 0), (.int .i64 0), (.bool false), X, by kernel_rfl, by omega, by omega, hatn, hl2, (row_nts hX), K5⟩, ?_⟩
      exact lt_meas (x := ns.length - (i + 1)) (y := ns.length - i) (by kernel_rfl) (by kernel_rfl) (by omega)
    · have hfin : l = mgo (ns.take 64) 1 := by rw [← hl, h64]
      refine q_ <| qr_ [0, 1, 2, 3, 4, 5, 6, 7] <| pkq (iN i) <| pkq (v0) <| ppq (iN ns.length) (exec_len_sl (.tmp 10) 49 40 (by kernel_rfl) Tryz.underlying49 (by kernel_rfl) (hns.keepsN K3)) <| ppq (.bool true) (dct ((((i : Nat) : Int)) < (((ns.length : Nat) : Int))) (by omega)) <| pkq (.bool true) <| pkq (iN i) <| ppq (.bool false) (dcf ((((i : Nat) : Int)) < ((64) : Int)) (by omega)) <| pkq (.bool false) <| en_ <| sy_exit 0 (by kernel_rfl) <| then_e <| then_e ?_
      refine blk_e <| tqr_ [0, 1, 2] <| pkq (v) <| pkq (v) <| pkq (.bool true) <| eu_ <| so_ (.tuple #[v, .bool true]) ?_
      exact ⟨_, rfl, hfin ▸ h2, K3⟩
    · have hfin : l = mgo (ns.take 64) 1 := by rw [← hl, List.take_of_length_le (show ns.length ≤ i by omega), List.take_of_length_le (show ns.length ≤ 64 by omega)]
      refine q_ <| qr_ [0, 1, 2, 3, 4, 5, 6, 7] <| pkq (iN i) <| pkq (v0) <| ppq (iN ns.length) (exec_len_sl (.tmp 10) 49 40 (by kernel_rfl) Tryz.underlying49 (by kernel_rfl) (hns.keepsN K3)) <| ppq (.bool false) (dcf ((((i : Nat) : Int)) < (((ns.length : Nat) : Int))) (by omega)) <| pkq (.bool false) <| pnq <| pnq <| pkq (.bool false) <| en_ <| sy_exit 0 (by kernel_rfl) <| then_e <| then_e ?_
      refine blk_e <| tqr_ [0, 1, 2] <| pkq (v) <| pkq (v) <| pkq (.bool true) <| eu_ <| so_ (.tuple #[v, .bool true]) ?_
      exact ⟨_, rfl, hfin ▸ h2, K3⟩
end Go.Proofs.YtghohakbepeffaaGreatDoor
namespace Go.Own
set_option maxRecDepth 100000
set_option maxHeartbeats 4000000
open Go Go.RowKit
/-- A step of an object with the blocks F; behind it has the blocks F'. -/
def Step (w w' : World) (F F' : Nat → Prop) : Prop := Keeps F w w' ∧ ∀ j, F' j → F j ∨ (w.heap.size ≤ j ∧ j < w'.heap.size)
def Dis (F G : Nat → Prop) : Prop := ∀ j, F j → ¬ G j
def Lt (F : Nat → Prop) (w : World) : Prop := ∀ j, F j → j < w.heap.size
def Ge (F : Nat → Prop) (w : World) : Prop := ∀ j, F j → w.heap.size ≤ j
section
variable {w0 w w' w'' : World} {F F' F'' G M : Nat → Prop}
theorem Dis.symm (h : Dis F G) : Dis G F := fun j hg hf => h j hf hg
theorem Lt.mono (h : Lt F w) (k : w.heap.size ≤ w'.heap.size) : Lt F w' := fun j hj => Nat.lt_of_lt_of_le (h j hj) k
theorem Lt.keeps (h : Lt F w) (k : Keeps M w w') : Lt F w' := h.mono k.size
theorem Ge.keeps (h : Ge F w') (k : Keeps M w w') : Ge F w := fun j hj => Nat.le_trans k.size (h j hj)
theorem Step.refl (w : World) (F : Nat → Prop) : Step w w F F := ⟨Keeps.refl _ _, fun _ h => .inl h⟩
theorem Step.trans (h : Step w w' F F') (k : Step w' w'' F' F'') : Step w w'' F F'' :=
  ⟨h.1.then k.1 (fun i hi hm => (h.2 i hm).elim id (fun x => absurd x.1 (by omega))), fun j hj => by
    rcases k.2 j hj with h1 | ⟨h1, h2⟩
    · rcases h.2 j h1 with h3 | ⟨h3, h4⟩
      · exact .inl h3
      · exact .inr ⟨h3, Nat.lt_of_lt_of_le h4 k.1.size⟩
    · exact .inr ⟨Nat.le_trans h.1.size h1, h2⟩⟩
theorem Step.size (h : Step w w' F F') : w.heap.size ≤ w'.heap.size := h.1.size
theorem Step.ge (h : Step w w' F F') (g : Ge F w0) (k : w0.heap.size ≤ w.heap.size) : Ge F' w0 := fun j hj => by
  rcases h.2 j hj with h1 | ⟨h1, _⟩
  · exact g j h1
  · omega
/-- What was there at the start is as it was. -/
theorem Step.keeps (h : Step w w' F F') (k : Keeps Nob w0 w) (g : Ge F w0) : Keeps Nob w0 w' := k.then h.1 (fun i hi hm => by have := g i hm; omega)
theorem Step.lt (h : Step w w' F F') (l : Lt F w) : Lt F' w' := fun j hj => by
  rcases h.2 j hj with h1 | ⟨_, h1⟩
  · exact Nat.lt_of_lt_of_le (l j h1) h.1.size
  · exact h1
end
end Go.Own
namespace Go.Proofs.YtghohakbepeffaaGreatDoor
set_option maxRecDepth 100000
set_option maxHeartbeats 4000000
open Go Go.RowKit Go.Own
theorem u8_info0 : (Tryz.prog.info? 5).map (fun i => (i.zero, i.size, i.bytes)) = some (some (.int .u8 0), 1, 1) := by kernel_rfl
theorem sameBytes_ok (a b : Value) (l m : List UInt8) (w : World) (ha : BytesAt w a l) (hb : BytesAt w b m) :
    Calls Tryz.prog 15 #[a, b] w fun e w' => e = .returned (.bool (l == m)) ∧ w = w' := by
  have h1 := ha.str (P := Tryz.prog) (src := 23) (dst := 9) (e := 5) Tryz.underlying23 Tryz.underlying5 Tryz.underlying9
  have h2 := hb.str (P := Tryz.prog) (src := 23) (dst := 9) (e := 5) Tryz.underlying23 Tryz.underlying5 Tryz.underlying9
  clear ha hb
  go_enter Tryz.func15, Tryz.ntmps15
  go_wp2_with fail
  go_ret
  exact ⟨rfl, rfl⟩
/-- The empty slice that a copy begins with. -/
theorem Row.empty (w : World) (t : TypeId) : Row (w.alloc (.cells #[] t)) t 1 (.slice (some ⟨w.heap.size, 0, none⟩) 0 0) 0 [] :=
  ⟨rfl, .inr ⟨_, _, _, rfl, Nat.zero_le _, heap_alloc_new _ _, Nat.le_refl _, by unfold maxLen; omega, rfl, rfl⟩⟩
end Go.Proofs.YtghohakbepeffaaGreatDoor
namespace Go.Proofs.YtghohakbepeffaaGreatDoor
set_option maxRecDepth 100000
set_option maxHeartbeats 4000000
open Go Go.RowKit Go.Own
theorem len_small (n m : Nat) (h : n + m ≤ 100000000) : n + m ≤ maxLen := by unfold maxLen; omega
theorem len_bytes (n m : Nat) (h : n + m ≤ 100000000) : (n + m) * 1 ≤ 140737488355328 := by omega
end Go.Proofs.YtghohakbepeffaaGreatDoor
namespace Go.Own.Cod
set_option maxRecDepth 100000
set_option maxHeartbeats 4000000
/-- The bytes of a number (at most so many). -/
def encF : Nat → Nat → List UInt8
  | 0, _ => []
  | f + 1, n => if n < 128 then [UInt8.ofNat n] else UInt8.ofNat (n % 128 + 128) :: encF f (n / 128)
def enc (n : Nat) : List UInt8 := encF 10 n
/-- Which number bytes begin with, its length, an error (0: none): from the byte at place i on, n having come so far. -/
def numF : List UInt8 → Nat → Nat → Nat × Nat × Int
  | [], _, _ => (0, 0, 6)
  | c :: r, i, n => if (i = 9 ∧ 1 < c.toNat) ∨ (0 < i ∧ c.toNat = 0) then (0, 0, 5) else if c.toNat < 128 then (n + c.toNat % 128 * 128 ^ i, i + 1, 0) else numF r (i + 1) (n + c.toNat % 128 * 128 ^ i)
def num (l : List UInt8) : Nat × Nat × Int := numF l 0 0
theorem toNat_ofNat (n : Nat) (h : n < 256) : (UInt8.ofNat n).toNat = n := by simp; omega
theorem encF_more (f n : Nat) (h : 128 ≤ n) : encF (f + 1) n = UInt8.ofNat (n % 128 + 128) :: encF f (n / 128) := by
  rw [encF, if_neg (by omega)]
theorem encF_last (f n : Nat) (h : n < 128) : encF (f + 1) n = [UInt8.ofNat n] := by
  rw [encF, if_pos h]
theorem small_step (k m : Nat) (hk : k ≤ 9) (h : m < 2 ^ (64 - 7 * k)) (hm : 128 ≤ m) : k < 9 ∧ m / 128 < 2 ^ (64 - 7 * (k + 1)) := by
  have hk9 : k < 9 := by
    rcases Nat.lt_or_ge k 9 with h9 | h9
    · exact h9
    · obtain rfl : k = 9 := by omega
      simp at h; omega
  refine ⟨hk9, ?_⟩
  apply Nat.div_lt_of_lt_mul
  have : 64 - 7 * k = (64 - 7 * (k + 1)) + 7 := by omega
  rw [this, Nat.pow_add] at h
  omega
theorem encF_pos (f n : Nat) : 0 < (encF (f + 1) n).length := by
  rw [encF]; split <;> simp
theorem encF_length (f n : Nat) : (encF f n).length ≤ f := by
  induction f generalizing n with
  | zero => simp [encF]
  | succ f ih =>
    rw [encF]; split
    · simp
    · simp; exact ih _
theorem enc_pos (n : Nat) : 0 < (enc n).length := encF_pos _ _
theorem enc_length (n : Nat) : (enc n).length ≤ 10 := encF_length _ _
/-- What is read as a number has just that number's bytes. -/
theorem numF_one (f : Nat) : ∀ (l : List UInt8) (i n x k : Nat), f + i = 10 → i ≤ 9 → numF l i n = (x, k, 0) → ∃ m, m < 2 ^ (64 - 7 * i) ∧ (0 < i → 0 < m) ∧ x = n + m * 128 ^ i ∧ k = i + (encF f m).length ∧ ∃ r, l = encF f m ++ r := by
  induction f with
  | zero => intro l i n x k h hi; omega
  | succ f ih =>
    intro l i n x k h hi hn
    match l with
    | [] => simp [numF] at hn
    | c :: r =>
      have hcl : c.toNat < 256 := c.toNat_lt
      rw [numF] at hn
      split at hn
      · simp at hn
      · rename_i h1
        split at hn
        · rename_i h2
          simp only [Prod.mk.injEq, and_true] at hn
          refine ⟨c.toNat, ?_, fun hp => by omega, ?_, ?_, r, ?_⟩
          · rcases Nat.lt_or_ge i 9 with h9 | h9
            · have : 2 ^ 7 ≤ 2 ^ (64 - 7 * i) := Nat.pow_le_pow_right (by omega) (by omega)
              omega
            · obtain rfl : i = 9 := by omega
              simp; omega
          · rw [Nat.mod_eq_of_lt h2] at hn; exact hn.1.symm
          · rw [encF_last f _ h2]; simp; omega
          · rw [encF_last f _ h2]; simp
        · rename_i h2
          have hi9 : i < 9 := by omega
          obtain ⟨m, hm, hp, hx, hk, r', hr⟩ := ih r (i + 1) _ x k (by omega) (by omega) hn
          have hp := hp (by omega)
          refine ⟨c.toNat % 128 + m * 128, ?_, fun _ => by omega, ?_, ?_, r', ?_⟩
          · have e : 64 - 7 * i = (64 - 7 * (i + 1)) + 7 := by omega
            rw [e, Nat.pow_add]
            have : m + 1 ≤ 2 ^ (64 - 7 * (i + 1)) := hm
            have := Nat.mul_le_mul_right (2 ^ 7) this
            omega
          · rw [hx, Nat.pow_succ, Nat.mul_comm (128 ^ i) 128, ← Nat.mul_assoc, Nat.add_assoc, ← Nat.add_mul]
          · rw [encF_more f _ (by omega), hk, show (c.toNat % 128 + m * 128) / 128 = m by omega]; simp; omega
          · rw [encF_more f _ (by omega), show (c.toNat % 128 + m * 128) / 128 = m by omega, hr]
            simp only [List.cons_append, List.cons.injEq, and_true]
            apply UInt8.toNat_inj.1
            rw [toNat_ofNat _ (by omega)]; omega
theorem num_one (l : List UInt8) (x k : Nat) (h : num l = (x, k, 0)) : x < 2 ^ 64 ∧ k = (enc x).length ∧ ∃ r, l = enc x ++ r := by
  obtain ⟨m, hm, _, hx, hk, r, hr⟩ := numF_one 10 l 0 0 x k (by omega) (by omega) h
  simp only [Nat.pow_zero, Nat.mul_one, Nat.zero_add] at hx hk
  subst hx
  exact ⟨by simpa using hm, hk, r, hr⟩
theorem num_ok (l : List UInt8) (h : (num l).2.2 = 0) : (num l).1 < 2 ^ 64 ∧ 0 < (num l).2.1 ∧ (num l).2.1 ≤ l.length ∧ (num l).2.1 ≤ 10 ∧ l.take (num l).2.1 = enc (num l).1 := by
  obtain ⟨h1, h2, r, h3⟩ := num_one l (num l).1 (num l).2.1 (by rw [← h])
  generalize (num l).1 = x at *
  generalize (num l).2.1 = k at *
  have h4 := enc_pos x
  have h5 := enc_length x
  subst h2
  subst h3
  exact ⟨h1, by omega, by simp, by omega, by simp⟩
end Go.Own.Cod
namespace Go.Proofs.YtghohakbepeffaaGreatDoor
set_option maxRecDepth 100000
set_option maxHeartbeats 4000000
open Go Go.RowKit Go.Own Go.Shelf
attribute [local go_sem] Oper.semAt_some
theorem mf_run0 : ∀ (fn : Fn) (first cap : Array Value) (w : World), (Instr.makeFunc fn first cap).run Tryz.prog w = .ok (.func fn first cap) w := fun _ _ _ _ => rfl
theorem digits_ok (n : Int) (w : World) :
    Calls Tryz.prog 88 #[.int .u64 n] w fun e w' => e = .returned (.func (.func 101) #[] #[.pointer (some ⟨w.heap.size, 0, none⟩)]) ∧ w.alloc (.cells #[.int .u64 n] 40) = w' := by
  have hmf := mf_run0
  go_enter Tryz.func88, Tryz.ntmps88
  go_wp2
  go_ret
  exact ⟨rfl, rfl⟩
/-- The iterator's own state: what is left of the number. -/
def DigS (n : Nat) (Bn : Nat) (k : Nat) (w : World) : Prop :=
  ∃ pre m, m = n / 128 ^ k ∧ pre.length = k ∧ Cod.enc n = pre ++ Cod.encF (10 - k) m ∧ k ≤ 9 ∧ m < 2 ^ (64 - 7 * k) ∧ w.cell? ⟨Bn, 0, none⟩ = some (.int .u64 (m : Int)) ∧ w.frozen? ⟨Bn, 0, none⟩ = false
theorem or128_fin : ∀ r : Fin 256, bits .or .u8 ((r.val : Nat) : Int) 128 = ((r.val % 128 + 128 : Nat) : Int) := by decide +kernel
theorem or128 (m : Nat) : bits .or .u8 ((m : Int) % 256) 128 = ((m % 128 + 128 : Nat) : Int) := by
  have h := or128_fin ⟨m % 256, Nat.mod_lt _ (by omega)⟩
  have e1 : ((m % 256 : Nat) : Int) = (m : Int) % 256 := by omega
  have e2 : m % 256 % 128 = m % 128 := by omega
  simp only [e1, e2] at h
  exact h
theorem digits_seq (n : Nat) (hn : 1 ≤ n) (Bn : Nat) (x : Nat) (hx : x < 2 ^ 64) :
    SeqOwn Fence.wide n Tryz.prog 101 #[.pointer (some ⟨Bn, 0, none⟩)] (fun x : UInt8 => #[.int .u8 (x.toNat : Int)]) (Cod.enc x) (One Bn) (DigS x Bn) := by
  intro l J Jx W0 hJ hJx hY h0 hS0
  have HY := Lib.hid hY; clear hY
  refine callsIn_of_wp Tryz.func101 rfl trivial ?_ rfl
  simp only [Tryz.ntmps101, List.size_toArray, List.length_cons, List.length_nil, Nat.reduceAdd, Nat.reduceSub, Array.replicate_succ, Array.replicate_zero, List.push_toArray, List.append_toArray, List.nil_append, List.cons_append]
  gi_wp2_with fail
  gi_loopg [3] 10 (fun g e wr => ∃ k : Nat, k ≤ 9 ∧ g = 10 - k ∧ J k wr ∧ DigS x Bn k wr)
  case atStart => exact ⟨0, by omega, by omega, h0, hS0⟩
  case round =>
    obtain ⟨k, hk, hg, hj, hs⟩ := hrel
    have hs' := hs
    obtain ⟨pre, m, hmd, hp, he, _, hm, hc, hf⟩ := hs'
    have HD := Lib.hid hmd
    have HS := Lib.hid hs
    have HE := Lib.hid he
    have HM := Lib.hid hm
    have HP := Lib.hid hp
    have HX := Lib.hid hx
    clear he hm hp hs hS0 hx hmd
    by_cases hlt : m < 128
    · have hget : (Cod.enc x)[k]? = some (UInt8.ofNat m) ∧ (Cod.enc x).length = k + 1 := by
        have h1 : 10 - k = (9 - k) + 1 := by omega
        have h2 := HE.out
        rw [h1, Cod.encF_last _ _ (by omega)] at h2
        rw [h2, List.getElem?_append_right (by have := HP.out; omega), HP.out]; simp [HP.out]
      have HL := Lib.hid hget.2
      obtain ⟨fn, tmps, assign, body, hy, hR⟩ := HY.out k _ wr hget.1 hj HS.out
      rw [Cod.toNat_ofNat _ (by omega)] at hy
      have hb : ((m : Int) % 256) = (m : Int) := by omega
      have hd : decide (128 ≤ (m : Int)) = false := by simp; omega
      clear hget
      gi_wp2_with fail
      refine hR.mono ?_
      rintro e W3 (⟨rfl, hj3, hs3⟩ | ⟨rfl, hx3⟩)
      · gi_wp2
        go_end0
        exact ⟨⟨_, rfl⟩, .inl (by rw [HL.out]; exact hj3)⟩
      · gi_wp2
        go_end0
        exact ⟨⟨_, rfl⟩, .inr hx3⟩
    · have hget : (Cod.enc x)[k]? = some (UInt8.ofNat (m % 128 + 128)) := by
        have h1 : 10 - k = (9 - k) + 1 := by omega
        have h2 := HE.out
        rw [h1, Cod.encF_more _ _ (by omega)] at h2
        rw [h2, List.getElem?_append_right (by have := HP.out; omega), HP.out]; simp
      obtain ⟨fn, tmps, assign, body, hy, hR⟩ := HY.out k _ wr hget hj HS.out
      rw [Cod.toNat_ofNat _ (by omega)] at hy
      have hb := or128 m
      generalize hz : m % 128 + 128 = z at hy hb
      clear hz hget
      gi_wp2_with fail
      refine hR.mono ?_
      rintro e W3 (⟨rfl, hj3, hs3⟩ | ⟨rfl, hx3⟩)
      · obtain ⟨pre3, m3, hmd3, _, _, _, _, hc3, hf3⟩ := hs3
        obtain rfl : m3 = m := hmd3.trans HD.out.symm
        have HE1 : Hid (Cod.enc x = (pre ++ [UInt8.ofNat (m3 % 128 + 128)]) ++ Cod.encF (10 - (k + 1)) (m3 / 128)) := Lib.hid (by
          have h1 : 10 - k = (9 - k) + 1 := by omega
          have h2 := HE.out
          rw [h1, Cod.encF_more _ _ (by omega)] at h2
          rw [h2, show 10 - (k + 1) = 9 - k by omega]; simp)
        have HM1 := Lib.hid (Cod.small_step k m3 hk HM.out (by omega))
        clear hmd3 hc hf
        gi_wp2_with fail
        have hk9 := HM1.out.1
        gi_roundg (10 - (k + 1))
        case measure => omega
        case rel => exact ⟨k + 1, by omega, rfl, hJ _ _ _ hj3 ((Keeps.refl _ _).setOne _), pre ++ [UInt8.ofNat (m3 % 128 + 128)], m3 / 128, by rw [HD.out, Nat.pow_succ, Nat.div_div_eq_div_mul], by simp [HP.out], HE1.out, by omega, HM1.out.2, (World.cell?_setCell_same _ _ _ hc3).trans (by simp), by simpa using hf3⟩
      · gi_wp2
        refine bodyPost_ret (results_none rfl _ _ _) rfl ?_
        exact ⟨⟨_, rfl⟩, .inr hx3⟩
end Go.Proofs.YtghohakbepeffaaGreatDoor
namespace Go.Proofs.YtghohakbepeffaaGreatDoor
set_option maxRecDepth 100000
set_option maxHeartbeats 4000000
open Go Go.RowKit Go.Own Go.Shelf
attribute [local go_sem] Oper.semAt_some
theorem u8_info : (Tryz.prog.info? 5).map (fun i => (i.zero, i.size, i.bytes)) = some (some (.int .u8 0), 1, 1) := by kernel_rfl
/-- What is collected so far lies in a variable. -/
structure Coll (w0 : World) (Bn b : Nat) (xs : List UInt8) (k : Nat) (V : World) : Prop where
  ex : ∃ v, V.heap[b]? = some (.cells #[v] 23 (0, 0)) ∧ Row V 5 1 v k (B (xs.take k)) ∧ (∀ j, v.ownBlock = some j → w0.heap.size ≤ j) ∧ (v = .slice none 0 0 ↔ k = 0)
  keeps : Keeps (One Bn) w0 V
theorem appendSeq_ok (Bn : Nat) (x : Nat) (hx : x < 2 ^ 64) (w : World) (hc : w.cell? ⟨Bn, 0, none⟩ = some (.int .u64 (x : Int))) (hf : w.frozen? ⟨Bn, 0, none⟩ = false) :
    Calls Tryz.prog 100 #[.slice none 0 0, .func (.func 101) #[] #[.pointer (some ⟨Bn, 0, none⟩)]] w fun e w' => ∃ v, e = .returned v ∧ Row w' 5 1 v (Cod.enc x).length (B (Cod.enc x)) ∧ (∀ j, v.ownBlock = some j → w.heap.size ≤ j) ∧ v ≠ .slice none 0 0 ∧ Keeps (One Bn) w w' := by
  obtain ⟨i0, hi, hz0, hz1, hz2⟩ := info_parts u8_info
  have hBn : Bn < w.heap.size := World.block_lt_of_cell? w _ hc
  have HX := Lib.hid hx
  refine calls_marks 3 Tryz.func100 rfl ?_
  simp only [Tryz.ntmps100, List.size_toArray, List.length_cons, List.length_nil, Nat.reduceAdd, Nat.reduceSub, Array.replicate_succ, Array.replicate_zero, List.push_toArray, List.append_toArray, List.nil_append, List.cons_append]
  go_wp2_with fail
  have hk : Keeps (One Bn) w (w.alloc (.cells #[.slice none 0 0] 23)) := (Keeps.refl _ _).alloc _
  have hb : (w.alloc (.cells #[.slice none 0 0] 23)).heap[w.heap.size]? = some (.cells #[.slice none 0 0] 23 (0, 0)) := World.alloc_heap_new _ _
  have g0 : (w.alloc (.cells #[.slice none 0 0] 23)).cell? ⟨Bn, 0, none⟩ = some (.int .u64 (x : Int)) := by
    rw [World.cell?_alloc_lt _ _ _ hBn]; exact hc
  have f0 : (w.alloc (.cells #[.slice none 0 0] 23)).frozen? ⟨Bn, 0, none⟩ = false := by
    refine (World.frozen?_of_block (w := w) ?_).trans hf
    exact Below.heap_alloc _ _ _ hBn
  have hs : (w.alloc (.cells #[.slice none 0 0] 23)).heap.size = w.heap.size + 1 := by simp
  clear hc hf hx
  generalize w.alloc (.cells #[.slice none 0 0] 23) = W1 at *
  refine wp_range1 3 (gf := 101) (lb := #[.pointer (some ⟨Bn, 0, none⟩)]) rfl (enters_of Tryz.func101 (by kernel_rfl) rfl) (encs := fun x : UInt8 => #[.int .u8 (x.toNat : Int)]) (fun _ => rfl)
    (Mi := One Bn) (fun j hj => by have : j = Bn := hj; omega) (digits_seq 5 (by omega) Bn x HX.out) ?hS ?hS0
    (fun k V => k ≤ (Cod.enc x).length ∧ Coll w Bn w.heap.size (Cod.enc x) k V) (fun _ _ => False) ?hI (fun _ _ _ h => h.elim) ?h0 ?f ?assign ?body ?done ?stop
  case hS0 => exact ⟨[], x, by simp, rfl, rfl, by omega, by simpa using HX.out, g0, f0⟩
  case hS =>
    rintro k A V ⟨pre, m, a1, a2, a3, a4, a5, a6, a7⟩ t
    exact ⟨pre, m, a1, a2, a3, a4, a5, t.cell a6 (fun x => x), (t.frozen a6 (fun x => x)).trans a7⟩
  case h0 => exact ⟨Nat.zero_le _, ⟨⟨.slice none 0 0, hb, ⟨rfl, .inl ⟨rfl, rfl⟩⟩, (fun j hj => by cases hj), ⟨fun _ => rfl, fun _ => rfl⟩⟩, hk⟩⟩
  case hI =>
    rintro k A V ⟨hk, ⟨v, h1, h2, h3, h4⟩, h5⟩ t
    refine ⟨hk, ⟨v, ?_, ?_, h3, h4⟩, t.keeps h5 (by omega)⟩
    · exact t.same _ _ h1 (fun (h : w.heap.size = Bn) => by omega) (.inr rfl)
    · refine h2.heap fun j hj => ?_
      obtain ⟨cs, hcs⟩ := h2.elem hj
      rw [hcs]
      exact t.same _ _ hcs (fun (h : j = Bn) => by have := h3 j hj; omega) (.inr rfl)
  case assign =>
    intro l k y V K hx hi hs hK
    gi_wp2
    exact hK
  case body =>
    rintro l k y V hl hr hx ⟨hkl, ⟨v, h1, h2, h3, h4⟩, h5⟩ hs
    have hlt : k < (Cod.enc x).length := (List.getElem?_eq_some_iff.1 hx).1
    have hlen := Cod.enc_length x
    have hne := h2.ne h1 (by decide)
    have c1 := cell_of_one h1
    have f1 := free_of_one h1
    have hbl := lt_of_block h1
    have htake : (Cod.enc x).take (k + 1) = (Cod.enc x).take k ++ [y] := by
      rw [List.take_add_one, hx]; rfl
    have HT := Lib.hid htake
    have H4 := Lib.hid h4
    have HX := Lib.hid hx
    have HS := Lib.hid hs
    clear htake h4 hx hs
    have hown := h2.keeps ((Keeps.refl Nob V).alloc (.cells #[.int .u8 (y.toNat : Int)] 5)) (fun _ _ x => x)
    have hsrc := Src.new V 1 1 [.int .u8 (y.toNat : Int)] 5 rfl (by simp [Value.oneCell']) 1
    gi_wp2_with (gi_at_builtin; refine own_append2_in rfl _ _ 23 rfl 5 i0 (.int .u8 0) 1 1 Tryz.underlying23 hi hz0 hz1 hz2 rfl (by decide) v k _ rfl hown _ 1 _ rfl hsrc (by unfold maxLen; omega) (by omega) ?_; intro v' w1 hown' hgrow hnil hat; obtain ⟨g', cap', rfl, hg'⟩ := hown'.spell (by omega); have hb1 : w1.heap[w.heap.size]? = some (.cells #[v] 23 (0, 0)) := (hgrow.block _ (by simp; omega) (fun e => hne e.symm)).trans ((Below.heap_alloc _ _ _ hbl).trans h1); have c2 := cell_of_one hb1; have f2 := free_of_one hb1)
    have hkA : KeepsOthers V (V.alloc (.cells #[.int .u8 (y.toNat : Int)] 5)) := KeepsOthers.alloc _ _
    have hkB := hkA.trans ((hown.others hgrow).trans (KeepsOthers.setCell w1 ⟨w.heap.size, 0, none⟩ (.slice (some ⟨g', 0, none⟩) (k + 1) cap')))
    have hKp : Keeps (fun j => v.ownBlock = some j) V w1 := ((Keeps.refl _ _).alloc _).grown hgrow (fun j hj _ => hj)
    have hgne : g' ≠ w.heap.size := fun e => hown'.ne hb1 (by decide) (by rw [e]; rfl)
    have hKw : Keeps (One Bn) w w1 := h5.then hKp (fun i hi hm => by have := h3 i hm; omega)
    obtain ⟨pre, m, b1, b2, b3, b4, b5, b6, b7⟩ := HS.out
    have hvB : v.ownBlock ≠ some Bn := fun e => by have := h3 _ e; omega
    have hBV : Bn < V.heap.size := World.block_lt_of_cell? V _ b6
    have e6 := (hKp.cell (i := 0) hBV hvB).trans b6
    have e7 := (hKp.frozen (i := 0) hBV hvB).trans b7
    refine ⟨hkB.from _, ⟨hlt, ⟨⟨_, one_setCell hb1, ?_, ?_, ⟨(fun h => by cases h), (fun h => by omega)⟩⟩, hKw.setCell_new (p := ⟨w.heap.size, 0, none⟩) (Nat.le_refl _) _⟩⟩, pre, m, b1, b2, b3, b4, b5, ?_, ?_⟩
    · rw [HT.out, B_append]
      exact ownsRow_setCell_other hown' (by simp [Value.ownBlock]; exact hgne) _
    · intro j hj
      rcases hat j hj with h | ⟨h, _⟩
      · exact h3 j h
      · simp at h; omega
    · rw [World.cell?_setCell_other _ _ _ _ (fun e => by simp at e <;> omega)]; exact e6
    · simpa using e7
  case done =>
    rintro D V hD ⟨_, ⟨v, h1, h2, h3, h4⟩, h5⟩ hK
    rw [List.take_of_length_le (Nat.le_refl _)] at h2
    have hpos := Cod.enc_pos x
    obtain ⟨g, cap, rfl, hg⟩ := h2.spell hpos
    have c1 := cell_of_one h1
    have H2 := Lib.hid h2
    clear h2 h4
    go_wp2
    refine marks_ret hK (v := .slice (some ⟨g, 0, none⟩) (Cod.enc x).length cap) (by simp [results, Tryz.results100, go_sem]) ?_
    have ht : Turn W1.heap.size Nob V (V.putObj D (.deferred none)) := Turn.put _ _ _ _ hD hK rfl
    refine ⟨_, rfl, H2.out.heap fun j hj => ?_, h3, by simp, ht.keepsN h5 (by omega)⟩
    obtain ⟨cs, hcs⟩ := H2.out.elem hj
    rw [hcs]
    exact ht.same _ _ hcs (fun h => h) (.inr rfl)
  case stop =>
    rintro D c V hD hx hK
    exact hx.elim
theorem collect_ok (Bn : Nat) (x : Nat) (hx : x < 2 ^ 64) (w : World) (hc : w.cell? ⟨Bn, 0, none⟩ = some (.int .u64 (x : Int))) (hf : w.frozen? ⟨Bn, 0, none⟩ = false) :
    Calls Tryz.prog 87 #[.func (.func 101) #[] #[.pointer (some ⟨Bn, 0, none⟩)]] w fun e w' => ∃ v, e = .returned v ∧ Row w' 5 1 v (Cod.enc x).length (B (Cod.enc x)) ∧ (∀ j, v.ownBlock = some j → w.heap.size ≤ j) ∧ v ≠ .slice none 0 0 ∧ Keeps (One Bn) w w' := by
  have HA := Lib.hid (appendSeq_ok Bn x hx w hc hf)
  clear hx hc hf
  go_enter Tryz.func87, Tryz.ntmps87
  go_wp2_with (go_at_call 100; refine HA.out.mono ?_; rintro e w' ⟨v, rfl, h1, h2, h3, h4⟩; have H1 := Lib.hid h1; have H2 := Lib.hid h2; have H3 := Lib.hid h3; clear h1 h2 h3)
  go_ret
  exact ⟨_, rfl, H1.out, H2.out, H3.out, h4⟩
/-- The bytes of a number, in new memory. -/
theorem cPut_ok (x : Nat) (hx : x < 2 ^ 64) (w : World) :
    Calls Tryz.prog 68 #[.int .u64 (x : Int)] w fun e w' => ∃ v, e = .returned v ∧ Row w' 5 1 v (Cod.enc x).length (B (Cod.enc x)) ∧ (∀ j, v.ownBlock = some j → w.heap.size ≤ j) ∧ v ≠ .slice none 0 0 ∧ Keeps Nob w w' := by
  have HX := Lib.hid hx
  have c1 : (w.alloc (.cells #[.int .u64 (x : Int)] 40)).cell? ⟨w.heap.size, 0, none⟩ = some (.int .u64 (x : Int)) := (World.cell?_alloc_at _ _ _ _ rfl).trans rfl
  have f1 : (w.alloc (.cells #[.int .u64 (x : Int)] 40)).frozen? ⟨w.heap.size, 0, none⟩ = false := by simp [go_sem]
  have HA := Lib.hid (collect_ok w.heap.size x hx _ c1 f1)
  clear hx c1 f1
  go_enter Tryz.func68, Tryz.ntmps68
  go_wp2_with (first
    | (go_at_call 88; refine (digits_ok _ _).mono ?_; rintro e w' ⟨rfl, rfl⟩)
    | (go_at_call 87; refine HA.out.mono ?_; rintro e w' ⟨v, rfl, h1, h2, h3, h4⟩; have H1 := Lib.hid h1; have H2 := Lib.hid h2; have H3 := Lib.hid h3; clear h1 h2 h3))
  go_ret
  refine ⟨_, rfl, H1.out, fun j hj => ?_, H3.out, ((Keeps.refl Nob w).alloc _).then h4 (fun i hi (e : i = w.heap.size) => by omega)⟩
  have := H2.out j hj
  simp at this; omega
end Go.Proofs.YtghohakbepeffaaGreatDoor
namespace Go.Proofs.YtghohakbepeffaaGreatDoor
set_option maxRecDepth 100000
set_option maxHeartbeats 4000000
open Go Go.RowKit Go.Own Go.Shelf
theorem and127_fin : ∀ r : Fin 256, bits .and .u8 ((r.val : Nat) : Int) 127 = ((r.val % 128 : Nat) : Int) := by decide +kernel
theorem and127 (z : Nat) (hz : z < 256) : bits .and .u8 (z : Int) 127 = ((z % 128 : Nat) : Int) := and127_fin ⟨z, hz⟩
theorem pow128 (k : Nat) : 2 ^ (7 * k) = 128 ^ k := by rw [Nat.pow_mul]
theorem acc_small (z m k : Nat) (hk : k ≤ 9) (h9 : k = 9 → z ≤ 1) : z % 128 * 128 ^ k < 18446744073709551616 := by
  have h : k = 0 ∨ k = 1 ∨ k = 2 ∨ k = 3 ∨ k = 4 ∨ k = 5 ∨ k = 6 ∨ k = 7 ∨ k = 8 ∨ k = 9 := by omega
  rcases h with rfl | rfl | rfl | rfl | rfl | rfl | rfl | rfl | rfl | rfl <;> simp <;> omega
theorem acc_join (x m k : Nat) (hm : m < 128 ^ k) : m ||| x * 128 ^ k = m + x * 128 ^ k := by
  rw [Nat.or_comm, nat_join (7 * k) (x * 128 ^ k) m (by rw [pow128]; exact Nat.mul_mod_left _ _) (by rw [pow128]; exact hm), Nat.add_comm]
theorem wrap_u64_nat (n : Nat) (h : n < 18446744073709551616) : IntKind.u64.wrap (n : Int) = (n : Int) := by
  simp [IntKind.wrap, IntKind.bits, IntKind.signed]; omega
/-- A byte's groups are laid to those that were there. -/
theorem acc_mod (z m k : Nat) (hk : k ≤ 9) (h9 : k = 9 → z ≤ 1) (hm : m < 128 ^ k) (hm2 : m < 18446744073709551616) :
    bits .or .u64 (m : Int) (IntKind.u64.wrap (IntKind.u64.wrap ((z % 128 : Nat) : Int) * 2 ^ (7 * k))) = ((m + z % 128 * 128 ^ k : Nat) : Int) := by
  have hs := acc_small z m k hk h9
  rw [wrap_u64_nat (z % 128) (by omega)]
  have e : ((z % 128 : Nat) : Int) * 2 ^ (7 * k) = ((z % 128 * 128 ^ k : Nat) : Int) := by
    rw [← pow128]; simp
  rw [e, wrap_u64_nat _ hs, u64_or_nat _ _ hm2 hs, acc_join _ _ _ hm]
theorem acc_and (z m k : Nat) (hz : z < 256) (hk : k ≤ 9) (h9 : k = 9 → z ≤ 1) (hm : m < 128 ^ k) (hm2 : m < 18446744073709551616) :
    bits .or .u64 (m : Int) (IntKind.u64.wrap (IntKind.u64.wrap (bits .and .u8 (z : Int) 127) * 2 ^ (7 * k))) = ((m + z % 128 * 128 ^ k : Nat) : Int) := by
  rw [and127 z hz]; exact acc_mod z m k hk h9 hm hm2
theorem acc_next (z m k : Nat) (hm : m < 128 ^ k) : m + z % 128 * 128 ^ k < 128 ^ (k + 1) := by
  rw [Nat.pow_succ, Nat.mul_comm _ 128]
  have : z % 128 ≤ 127 := by omega
  have := Nat.mul_le_mul_right (128 ^ k) this
  omega
theorem pow128_le (k : Nat) (hk : k ≤ 9) : 128 ^ k ≤ 9223372036854775808 := by
  have : 128 ^ k ≤ 128 ^ 9 := Nat.pow_le_pow_right (by omega) hk
  simpa using this
/-- What has come of the bytes ahead of place k. -/
def NumAt (l : List UInt8) (k m : Nat) : Prop := Cod.num l = Cod.numF (l.drop k) k m ∧ m < 128 ^ k ∧ k ≤ 9
theorem NumAt.zero (l : List UInt8) : NumAt l 0 0 := ⟨rfl, by omega, by omega⟩
theorem drop_cons (l : List UInt8) (k : Nat) (c : UInt8) (h : l[k]? = some c) : l.drop k = c :: l.drop (k + 1) := by
  obtain ⟨hk, e⟩ := List.getElem?_eq_some_iff.1 h
  rw [List.drop_eq_getElem_cons hk, e]
theorem NumAt.end_ {l : List UInt8} {k m : Nat} (h : NumAt l k m) (hk : l.length ≤ k) : Cod.num l = (0, 0, 6) := by
  rw [h.1, List.drop_eq_nil_of_le hk]; rfl
theorem NumAt.form {l : List UInt8} {k m z : Nat} {c : UInt8} (h : NumAt l k m) (hc : l[k]? = some c) (hz : c.toNat = z) (hf : (k = 9 ∧ 1 < z) ∨ (0 < k ∧ z = 0)) : Cod.num l = (0, 0, 5) := by
  rw [h.1, drop_cons l k c hc, Cod.numF, hz, if_pos hf]
theorem NumAt.done {l : List UInt8} {k m z : Nat} {c : UInt8} (h : NumAt l k m) (hc : l[k]? = some c) (hz : c.toNat = z) (hf : ¬ ((k = 9 ∧ 1 < z) ∨ (0 < k ∧ z = 0))) (hlt : z < 128) : Cod.num l = (m + z % 128 * 128 ^ k, k + 1, 0) := by
  rw [h.1, drop_cons l k c hc, Cod.numF, hz, if_neg hf, if_pos hlt]
theorem NumAt.more {l : List UInt8} {k m z : Nat} {c : UInt8} (h : NumAt l k m) (hc : l[k]? = some c) (hz : c.toNat = z) (hf : ¬ ((k = 9 ∧ 1 < z) ∨ (0 < k ∧ z = 0))) (hge : ¬ z < 128) : NumAt l (k + 1) (m + z % 128 * 128 ^ k) := by
  refine ⟨?_, acc_next z m k h.2.1, ?_⟩
  · rw [h.1, drop_cons l k c hc, Cod.numF, hz, if_neg hf, if_neg hge]
  · have := h.2.2; omega
theorem num_ret {l : List UInt8} {r : Nat × Nat × Int} {a b : Nat} {e : Int} (h1 : Cod.num l = r) (h2 : Cod.num l = (a, b, e)) : r = (a, b, e) := h1.symm.trans h2
theorem number_ok (v : Value) (l : List UInt8) (w : World) (hv : BytesAt w v l) :
    Calls Tryz.prog 73 #[v] w fun e w' => e = .returned (.tuple #[.int .u64 ((Cod.num l).1 : Int), .int .i64 ((Cod.num l).2.1 : Int), .int .i64 (Cod.num l).2.2]) ∧ w = w' := by
  have hlen := hv.length_le
  obtain ⟨A, cap, rfl⟩ := hv.len
  have HV := Lib.hid hv; clear hv
  obtain ⟨r, hr⟩ : ∃ r, Cod.num l = r := ⟨_, rfl⟩
  rw [hr]
  have HR := Lib.hid hr; clear hr
  go_enter Tryz.func73, Tryz.ntmps73
  go_wp2_with fail
  go_loop [5, 10] (fun n i => ∃ k m : Nat, k ≤ l.length ∧ i = .int .i64 k ∧ n = .int .u64 (m : Int) ∧ Hid (NumAt l k m) ∧ k ≤ 9) (fun _ i => l.length - (intOf i).toNat)
  case atStart => exact ⟨0, 0, Nat.zero_le _, rfl, rfl, Lib.hid (NumAt.zero l), by omega⟩
  case round =>
    obtain ⟨k, m, hk, rfl, rfl, HK, hk9⟩ := hrel
    by_cases hlt : k < l.length
    · obtain ⟨c, hc⟩ : ∃ c, l[k]? = some c := ⟨_, List.getElem?_eq_getElem hlt⟩
      obtain ⟨b, o, cap', hv, hb, c0⟩ := HV.out.at_ k c hc
      simp only [Value.slice.injEq, true_and] at hv
      obtain ⟨rfl, rfl⟩ := hv
      have HC := Lib.hid hc
      clear hc
      have hc256 : c.toNat < 256 := c.toNat_lt
      obtain ⟨z, hz⟩ : ∃ z, c.toNat = z := ⟨_, rfl⟩
      rw [hz] at c0 hc256
      have HZ := Lib.hid hz; clear hz
      have key : ((k = 9 ∧ 1 < z) ∨ (0 < k ∧ z = 0)) ∨ ¬ ((k = 9 ∧ 1 < z) ∨ (0 < k ∧ z = 0)) := Decidable.em _
      rcases key with hf | hf
      · obtain rfl := num_ret HR.out (HK.out.form HC.out HZ.out hf)
        have kinds : (((k : Int) == 9) = true ∧ (k == 9) = true ∧ decide (1 < (z : Int)) = true ∧ decide (1 < z) = true) ∨ (((k : Int) == 9) = false ∧ (k == 9) = false ∧ decide (0 < (k : Int)) = true ∧ decide (0 < k) = true ∧ ((z : Int) == 0) = true ∧ (z == 0) = true) ∨ (((k : Int) == 9) = true ∧ (k == 9) = true ∧ decide (1 < (z : Int)) = false ∧ decide (1 < z) = false ∧ decide (0 < (k : Int)) = true ∧ decide (0 < k) = true ∧ ((z : Int) == 0) = true ∧ (z == 0) = true) := by
          simp; omega
        clear hf
        rcases kinds with ⟨b0, b1, b2, b3⟩ | ⟨b0, b1, b2, b3, b4, b5⟩ | ⟨b0, b1, b2, b3, b4, b5, b6, b7⟩
        all_goals
          go_wp2_with fail
          go_ret3
          exact ⟨rfl, rfl⟩
      · have h9 : k = 9 → z ≤ 1 := fun h => by omega
        have hacc := acc_and z m k hc256 hk9 h9 HK.out.2.1 (Nat.lt_of_lt_of_le HK.out.2.1 (Nat.le_trans (pow128_le k hk9) (by omega)))
        clear h9
        have kinds : (((k : Int) == 9) = false ∧ (k == 9) = false ∧ decide (0 < (k : Int)) = false ∧ decide (0 < k) = false) ∨ (((k : Int) == 9) = false ∧ (k == 9) = false ∧ decide (0 < (k : Int)) = true ∧ decide (0 < k) = true ∧ ((z : Int) == 0) = false ∧ (z == 0) = false) ∨ (((k : Int) == 9) = true ∧ (k == 9) = true ∧ decide (1 < (z : Int)) = false ∧ decide (1 < z) = false ∧ decide (0 < (k : Int)) = true ∧ decide (0 < k) = true ∧ ((z : Int) == 0) = false ∧ (z == 0) = false) := by
          simp; omega
        by_cases hlt : z < 128
        · have hd := HK.out.done HC.out HZ.out hf hlt
          clear hf
          generalize m + z % 128 * 128 ^ k = m' at hacc hd
          obtain rfl := num_ret HR.out hd
          clear hd
          rcases kinds with ⟨b0, b1, b2, b3⟩ | ⟨b0, b1, b2, b3, b4, b5⟩ | ⟨b0, b1, b2, b3, b4, b5, b6, b7⟩
          all_goals
            go_wp2_with fail
            go_ret3
            exact ⟨rfl, rfl⟩
        · have HN := Lib.hid (HK.out.more HC.out HZ.out hf hlt)
          have h91 := HN.out.2.2
          clear hf
          generalize m + z % 128 * 128 ^ k = m' at hacc HN
          rcases kinds with ⟨b0, b1, b2, b3⟩ | ⟨b0, b1, b2, b3, b4, b5⟩ | ⟨b0, b1, b2, b3, b4, b5, b6, b7⟩
          all_goals
            go_wp2_with fail
            go_round
            case rel => exact ⟨k + 1, m', by omega, by go_num, rfl, HN, h91⟩
            case measure => simp [intOf]; omega
    · obtain rfl := num_ret HR.out (HK.out.end_ (by omega))
      go_wp2_with fail
      go_ret3
      exact ⟨rfl, rfl⟩
end Go.Proofs.YtghohakbepeffaaGreatDoor
namespace Go.Proofs.YtghohakbepeffaaGreatDoor
set_option maxRecDepth 100000
set_option maxHeartbeats 4000000
open Go Go.RowKit Go.Own Go.Shelf
theorem bytes_size : ∀ w, (Go.sizeOf (Tryz.prog.elem 23)).run Tryz.prog w = .ok 1 w := fun w => by kernel_rfl
end Go.Proofs.YtghohakbepeffaaGreatDoor
namespace Go.Proofs.YtghohakbepeffaaGreatDoor
set_option maxRecDepth 100000
set_option maxHeartbeats 4000000
open Go Go.RowKit Go.Own Go.Shelf
end Go.Proofs.YtghohakbepeffaaGreatDoor
namespace Go.Proofs.YtghohakbepeffaaGreatDoor
set_option maxRecDepth 100000
set_option maxHeartbeats 4000000
open Go Go.RowKit Go.Own Go.Shelf
/-- A reader's state: its error (0: none) and its place, or that of its fault. -/
structure RS where
  err : Int
  pos : Int
/-- A reader at block b: its bytes' slice v, its fault's pointer fp, its own place. -/
structure RdAt (w : World) (b : Nat) (v fp : Value) (l : List UInt8) (s : RS) : Prop where
  ex : ∃ at_ : Nat, w.heap[b]? = some (.cells #[v, .int .i64 (at_ : Int), .bool true, fp] 109 (0, 0)) ∧ at_ ≤ l.length ∧
    ((s.err = 0 ∧ s.pos = at_ ∧ fp = .pointer none) ∨ (s.err ≠ 0 ∧ ∃ g, fp = .pointer (some ⟨g, 0, none⟩) ∧ g ≠ b ∧ w.heap[g]? = some (.cells #[.int .i64 s.err, .int .i64 s.pos] 31 (0, 0))))
  bytes : BytesAt w v l
  own : v.ownBlock ≠ some b
def ptrBlock : Value → Option Nat
  | .pointer (some a) => some a.block
  | _ => none
/-- Its blocks. -/
def rdBlk (b : Nat) (v fp : Value) : Nat → Prop := fun j => j = b ∨ v.ownBlock = some j ∨ ptrBlock fp = some j
theorem RdAt.keeps {w w' : World} {M : Nat → Prop} {b : Nat} {v fp : Value} {l : List UInt8} {s : RS} (h : RdAt w b v fp l s) (k : Keeps M w w') (hm : ∀ j, rdBlk b v fp j → ¬ M j) : RdAt w' b v fp l s := by
  obtain ⟨at_, hb, hl, hf⟩ := h.ex
  refine ⟨⟨at_, (k.block b (lt_of_block hb) (hm b (.inl rfl))).trans hb, hl, ?_⟩, h.bytes.keeps k (fun j hj => hm j (.inr (.inl hj))), h.own⟩
  rcases hf with hf | ⟨h0, g, rfl, hg, hc⟩
  · exact .inl hf
  · exact .inr ⟨h0, g, rfl, hg, (k.block g (lt_of_block hc) (hm g (.inr (.inr rfl)))).trans hc⟩
theorem RdAt.lt {w : World} {b : Nat} {v fp : Value} {l : List UInt8} {s : RS} (h : RdAt w b v fp l s) : b < w.heap.size := by
  obtain ⟨at_, hb, _⟩ := h.ex
  exact lt_of_block hb
theorem rnone_ok (b : Nat) (v fp : Value) (l : List UInt8) (s : RS) (w : World) (h : RdAt w b v fp l s) :
    Calls Tryz.prog 74 #[.pointer (some ⟨b, 0, none⟩)] w fun e w' => e = .returned (.bool false) ∧ w = w' := by
  obtain ⟨at_, hb, hl, hf⟩ := h.ex
  have c2 : w.cell? ⟨b, 2, none⟩ = some (.bool true) := (cell_of_row w b 2 _ _ _ hb).trans rfl
  clear h hb hf
  go_enter Tryz.func74, Tryz.ntmps74
  go_wp2
  go_ret
  exact ⟨rfl, rfl⟩
theorem rAt_ok (b : Nat) (v fp : Value) (l : List UInt8) (s : RS) (w : World) (h : RdAt w b v fp l s) :
    Calls Tryz.prog 43 #[.pointer (some ⟨b, 0, none⟩)] w fun e w' => e = .returned (.int .i64 s.pos) ∧ w = w' := by
  have HN := Lib.hid (rnone_ok b v fp l s w h)
  obtain ⟨at_, hb, hl, hf⟩ := h.ex
  have c1 : w.cell? ⟨b, 1, none⟩ = some (.int .i64 (at_ : Int)) := (cell_of_row w b 1 _ _ _ hb).trans rfl
  have c3 : w.cell? ⟨b, 3, none⟩ = some fp := (cell_of_row w b 3 _ _ _ hb).trans rfl
  clear h hb
  rcases hf with ⟨h0, hp, rfl⟩ | ⟨h0, g, rfl, hg, hc⟩
  · rw [hp]
    clear hp
    go_enter Tryz.func43, Tryz.ntmps43
    go_wp2_with (go_at_call 74; refine HN.out.mono ?_; rintro e w' ⟨rfl, rfl⟩)
    go_ret
    exact ⟨rfl, rfl⟩
  · have g1 : w.cell? ⟨g, 1, none⟩ = some (.int .i64 s.pos) := (cell_of_row w g 1 _ _ _ hc).trans rfl
    clear hc
    go_enter Tryz.func43, Tryz.ntmps43
    go_wp2_with (go_at_call 74; refine HN.out.mono ?_; rintro e w' ⟨rfl, rfl⟩)
    go_ret
    exact ⟨rfl, rfl⟩
/-- How many bytes are left. -/
def RS.left (s : RS) (l : List UInt8) : Int := if s.err = 0 then l.length - s.pos else 0
/-- What End tells. -/
def RS.fin (s : RS) (l : List UInt8) : Int × Int := if s.err = 0 then (if s.pos < l.length then (4, s.pos) else (0, 0)) else (s.err, s.pos)
theorem rEnd_ok (b : Nat) (v fp : Value) (l : List UInt8) (s : RS) (w : World) (h : RdAt w b v fp l s) :
    Calls Tryz.prog 46 #[.pointer (some ⟨b, 0, none⟩)] w fun e w' => e = .returned (.agg #[.int .i64 (s.fin l).1, .int .i64 (s.fin l).2]) ∧ Keeps Nob w w' := by
  have hk0 : Keeps Nob w (w.alloc (.cells #[.int .i64 0, .int .i64 0] 31)) := (Keeps.refl _ _).alloc _
  have hA := h.keeps hk0 (fun _ _ x => x)
  have HN := Lib.hid (rnone_ok b v fp l s _ hA)
  have hll := h.bytes.length_le
  obtain ⟨A, cap, rfl⟩ := h.bytes.len
  obtain ⟨at_, hb, hl, hf⟩ := hA.ex
  have hlt := h.lt
  have c0 := (cell_of_row _ b 0 _ _ _ hb).trans (show _ = some (.slice A l.length cap) from rfl)
  have c1 := (cell_of_row _ b 1 _ _ _ hb).trans (show _ = some (.int .i64 (at_ : Int)) from rfl)
  have c3 := (cell_of_row _ b 3 _ _ _ hb).trans (show _ = some fp from rfl)
  clear h hA hb
  rcases hf with ⟨h0, hp, rfl⟩ | ⟨h0, g, rfl, hg, hc⟩
  · by_cases h1 : at_ < l.length
    · have hs : s.fin l = (4, (at_ : Int)) := by unfold RS.fin; rw [if_pos h0, hp, if_pos (by omega)]
      rw [hs]
      clear hs h0 hp
      go_enter Tryz.func46, Tryz.ntmps46
      go_wp2_with (go_at_call 74; refine HN.out.mono ?_; rintro e w' ⟨rfl, rfl⟩)
      go_quiet (fail)
      go_wp2
      exact bodyPost_ret (v := .agg #[.int .i64 4, .int .i64 (at_ : Int)]) (by simp [results, Tryz.results46, go_sem]) rfl ⟨rfl, ((hk0.drewN _).setCell_new (p := ⟨w.heap.size, 0, none⟩) (Nat.le_refl _) _).setCell_new (p := ⟨w.heap.size, 1, none⟩) (Nat.le_refl _) _⟩
    · have hs : s.fin l = (0, 0) := by unfold RS.fin; rw [if_pos h0, hp, if_neg (by omega)]
      rw [hs]
      clear hs h0 hp
      go_enter Tryz.func46, Tryz.ntmps46
      go_wp2_with (go_at_call 74; refine HN.out.mono ?_; rintro e w' ⟨rfl, rfl⟩)
      go_quiet (fail)
      go_wp2
      exact bodyPost_ret (v := .agg #[.int .i64 0, .int .i64 0]) (by simp [results, Tryz.results46, go_sem]) rfl ⟨rfl, ((hk0.drewN _).setCell_new (p := ⟨w.heap.size, 0, none⟩) (Nat.le_refl _) _).setCell_new (p := ⟨w.heap.size, 1, none⟩) (Nat.le_refl _) _⟩
  · have g0 := (cell_of_row _ g 0 _ _ _ hc).trans (show _ = some (.int .i64 s.err) from rfl)
    have g1 := (cell_of_row _ g 1 _ _ _ hc).trans (show _ = some (.int .i64 s.pos) from rfl)
    have hs : s.fin l = (s.err, s.pos) := by unfold RS.fin; rw [if_neg h0]
    rw [hs]
    clear hs h0 hc
    go_enter Tryz.func46, Tryz.ntmps46
    go_wp2_with (go_at_call 74; refine HN.out.mono ?_; rintro e w' ⟨rfl, rfl⟩)
    exact bodyPost_ret (v := .agg #[.int .i64 s.err, .int .i64 s.pos]) (by simp [results, Tryz.results46, go_sem]) rfl ⟨rfl, (Keeps.refl _ _).alloc _⟩
/-- A fault that is laid from without. -/
def RS.fail (s : RS) (e p : Int) : RS := if s.err = 0 ∧ e ≠ 0 then ⟨e, p⟩ else s
/-- What a step may lay: a fault's new block. -/
def NewPtr (w : World) (fp fp' : Value) : Prop := fp' = fp ∨ ∃ g, fp' = .pointer (some ⟨g, 0, none⟩) ∧ w.heap.size ≤ g
theorem rFail_ok (b : Nat) (v fp : Value) (l : List UInt8) (s : RS) (e p : Int) (w : World) (h : RdAt w b v fp l s) :
    Calls Tryz.prog 44 #[.pointer (some ⟨b, 0, none⟩), .int .i64 e, .int .i64 p] w fun x w' => (∃ r, x = .returned r) ∧ (∃ fp', RdAt w' b v fp' l (s.fail e p) ∧ NewPtr w fp fp') ∧ Keeps (One b) w w' := by
  have H := Lib.hid h
  have HN := Lib.hid (rnone_ok b v fp l s w h)
  obtain ⟨at_, hb, hl, hf⟩ := h.ex
  have c3 : w.cell? ⟨b, 3, none⟩ = some fp := (cell_of_row w b 3 _ _ _ hb).trans rfl
  have f3 : w.frozen? ⟨b, 3, none⟩ = false := frozen_of_row w b 3 _ _ hb
  have hlt := h.lt
  have HBK := Lib.hid hb
  clear h hb
  rcases hf with ⟨h0, hp, rfl⟩ | ⟨h0, g, rfl, hg, hc⟩
  · by_cases he : e = 0
    · have hs : s.fail e p = s := by unfold RS.fail; rw [if_neg (by simp [he])]
      rw [hs]
      have hb : (e != 0) = false := by simpa using he
      clear hs h0 hp he
      go_enter Tryz.func44, Tryz.ntmps44
      go_wp2_with (go_at_call 74; refine HN.out.mono ?_; rintro e w' ⟨rfl, rfl⟩)
      go_end0
      exact ⟨⟨_, rfl⟩, ⟨_, H.out, .inl rfl⟩, Keeps.refl _ _⟩
    · have hs : s.fail e p = ⟨e, p⟩ := by unfold RS.fail; rw [if_pos ⟨h0, he⟩]
      rw [hs]
      have hb : (e != 0) = true := by simpa using he
      have HE := Lib.hid he
      clear hs h0 hp he
      go_enter Tryz.func44, Tryz.ntmps44
      go_wp2_with (go_at_call 74; refine HN.out.mono ?_; rintro e w' ⟨rfl, rfl⟩)
      go_end0
      have kS : Keeps (One b) w (w.setCell ⟨b, 3, none⟩ (.pointer (some ⟨w.heap.size, 0, none⟩))) := (Keeps.refl _ _).setOne _
      have hbS : (w.setCell ⟨b, 3, none⟩ (.pointer (some ⟨w.heap.size, 0, none⟩))).heap[b]? = some (.cells #[v, .int .i64 (at_ : Int), .bool true, .pointer (some ⟨w.heap.size, 0, none⟩)] 109 (0, 0)) := heap_setCell_same w b 3 _ _ _ HBK.out
      have hsz : (w.setCell ⟨b, 3, none⟩ (.pointer (some ⟨w.heap.size, 0, none⟩))).heap.size = w.heap.size := by simp
      generalize w.setCell ⟨b, 3, none⟩ (.pointer (some ⟨w.heap.size, 0, none⟩)) = WS at *
      have hg2 : (WS.alloc (.cells #[.int .i64 e, .int .i64 p] 31)).heap[w.heap.size]? = some (.cells #[.int .i64 e, .int .i64 p] 31 (0, 0)) := by rw [← hsz]; exact heap_alloc_new _ _
      have hk := kS.alloc (.cells #[.int .i64 e, .int .i64 p] 31)
      refine ⟨⟨_, rfl⟩, ⟨_, ⟨⟨at_, (Below.heap_alloc _ _ _ (by omega)).trans hbS, hl, .inr ⟨HE.out, w.heap.size, rfl, by omega, hg2⟩⟩, ?_, H.out.own⟩, .inr ⟨_, rfl, Nat.le_refl _⟩⟩, hk⟩
      exact H.out.bytes.keeps hk (fun j hj (e : j = b) => H.out.own (by rw [hj, e]))
  · have hs : s.fail e p = s := by unfold RS.fail; rw [if_neg (by simp [h0])]
    rw [hs]
    clear hs h0 hc
    go_enter Tryz.func44, Tryz.ntmps44
    go_wp2_with (go_at_call 74; refine HN.out.mono ?_; rintro e w' ⟨rfl, rfl⟩)
    go_end0
    exact ⟨⟨_, rfl⟩, ⟨_, H.out, .inl rfl⟩, Keeps.refl _ _⟩
/-- 'slices.Clone' of bytes: nil of nil, else new memory. -/
theorem u8_info1 : (Tryz.prog.info? 5).map (fun i => (i.zero, i.size, i.bytes)) = some (some (.int .u8 0), 1, 1) := by kernel_rfl
theorem clone_ok (a : Value) (l : List UInt8) (w : World) (ha : BytesAt w a l) (hl : l.length ≤ 100000000) :
    Calls Tryz.prog 69 #[a] w fun e w' => ∃ v, e = .returned v ∧ Row w' 5 1 v l.length (B l) ∧ (∀ j, v.ownBlock = some j → w.heap.size ≤ j) ∧ Keeps Nob w w' := by
  obtain ⟨i0, hi, hz0, hz1, hz2⟩ := info_parts u8_info1
  obtain ⟨A, cap, rfl, h1, h2, h3⟩ := ha.form
  cases A with
  | none =>
    have h0 : l = [] := by
      cases l with
      | nil => rfl
      | cons x r => obtain ⟨b, o, c, e, _⟩ := ha.at_ 0 x rfl; simp at e
    subst h0
    obtain rfl := h3 rfl
    clear ha
    have hn := fun W => Lib.run_eql_slice_nil (P := Tryz.prog) W 23 5 none 0 0 0 0 Tryz.underlying23
    go_enter Tryz.func69, Tryz.ntmps69
    go_wp2
    go_ret
    exact ⟨_, rfl, ⟨rfl, .inl ⟨rfl, rfl⟩⟩, (fun j hj => by cases hj), Keeps.refl _ _⟩
  | some ad =>
    have hr := Row.empty w 5
    have hs := (ha.keepsN ((Keeps.refl Nob w).alloc (.cells #[] 5))).src
    have HA := Lib.hid ha
    clear ha h3
    have hn := fun W => Lib.run_eql_slice_nil (P := Tryz.prog) W 23 5 (some ad) l.length cap 0 0 Tryz.underlying23
    go_enter Tryz.func69, Tryz.ntmps69
    go_wp2_with (at_builtin; refine own_append2 rfl _ _ 23 rfl 5 i0 (.int .u8 0) 1 1 Tryz.underlying23 hi hz0 hz1 hz2 rfl (by decide) (.slice (some ⟨w.heap.size, 0, none⟩) 0 0) 0 _ rfl hr (.slice (some ad) l.length cap) l.length (B l) rfl hs (by unfold maxLen; omega) (by omega) ?_; intro v' w1 hown' hgrow hnil hat; rw [Nat.zero_add, List.nil_append] at hown'; have H1 := Lib.hid hown'; have H3 := Lib.hid hat; have H4 := Lib.hid hgrow; clear hown' hnil hat hgrow)
    go_ret
    refine ⟨_, rfl, H1.out, fun j hj => ?_, ((Keeps.refl Nob w).alloc _).grown H4.out (fun j hj hlt => by simp [Value.ownBlock] at hj; omega)⟩
    rcases H3.out j hj with h | ⟨h, _⟩
    · simp [Value.ownBlock] at h; omega
    · simp at h; omega
theorem newReader_ok (a : Value) (l : List UInt8) (w : World) (ha : BytesAt w a l) (hl : l.length ≤ 100000000) :
    Calls Tryz.prog 41 #[a] w fun e w' => ∃ b v, e = .returned (.pointer (some ⟨b, 0, none⟩)) ∧ RdAt w' b v (.pointer none) l ⟨0, 0⟩ ∧ w.heap.size ≤ b ∧ (∀ j, v.ownBlock = some j → w.heap.size ≤ j ∧ j < w'.heap.size) ∧ Keeps Nob w w' := by
  have HC := Lib.hid (clone_ok a l w ha hl)
  clear ha
  go_enter Tryz.func41, Tryz.ntmps41
  go_wp2_with (go_at_call 69; refine HC.out.mono ?_; rintro e w' ⟨v, rfl, h1, h2, h3⟩; obtain ⟨A, cap, rfl⟩ := (Row.bytes h1).len; have H1 := Lib.hid h1; have H2 := Lib.hid h2; clear h1 h2)
  go_ret
  have hkA : Keeps Nob w' (w'.alloc (.cells #[.slice A l.length cap, .int .i64 0, .bool true, .pointer none] 109)) := (Keeps.refl _ _).alloc _
  refine ⟨w'.heap.size, .slice A l.length cap, rfl, ⟨⟨0, heap_alloc_new _ _, Nat.zero_le _, .inl ⟨rfl, rfl, rfl⟩⟩, (Row.bytes H1.out).keepsN hkA, fun h => ?_⟩, h3.size, fun j hj => ⟨H2.out j hj, Nat.lt_of_lt_of_le (H1.out.lt hj) hkA.size⟩, h3.trans hkA⟩
  exact absurd (H1.out.lt h) (by omega)
end Go.Proofs.YtghohakbepeffaaGreatDoor
namespace Go.Proofs.YtghohakbepeffaaGreatDoor
set_option maxRecDepth 100000
set_option maxHeartbeats 4000000
open Go Go.RowKit Go.Own Go.Shelf
/-- A writer's state: its limit, its bytes, its error. -/
structure WS where
  lim : Int
  out : List UInt8
  err : Int
def WS.add (s : WS) (bs : List UInt8) : WS := if s.err = 0 then (if s.lim - s.out.length < bs.length then { s with err := 4 } else { s with out := s.out ++ bs }) else s
structure WrAt (w : World) (b : Nat) (v : Value) (s : WS) : Prop where
  blk : w.heap[b]? = some (.cells #[v, .int .i64 s.lim, .bool true, .int .i64 s.err] 104 (0, 0))
  row : Row w 5 1 v s.out.length (B s.out)
  own : v.ownBlock ≠ some b
  l0 : 0 ≤ s.lim
  l1 : s.lim ≤ 1048576
  fits : (s.out.length : Int) ≤ s.lim
/-- Its blocks. -/
def WBlk (b : Nat) (v : Value) : Nat → Prop := fun j => j = b ∨ v.ownBlock = some j
theorem WrAt.lt {w : World} {b : Nat} {v : Value} {s : WS} (h : WrAt w b v s) : b < w.heap.size := lt_of_block h.blk
theorem WrAt.blk_lt {w : World} {b : Nat} {v : Value} {s : WS} (h : WrAt w b v s) : ∀ j, WBlk b v j → j < w.heap.size := fun j hj => by
  rcases hj with rfl | hj
  · exact h.lt
  · exact h.row.lt hj
theorem WrAt.keeps {w w' : World} {M : Nat → Prop} {b : Nat} {v : Value} {s : WS} (h : WrAt w b v s) (k : Keeps M w w') (hm : ∀ j, WBlk b v j → ¬ M j) : WrAt w' b v s :=
  ⟨(k.block b h.lt (hm b (.inl rfl))).trans h.blk, h.row.keeps k (fun j hj => hm j (.inr hj)), h.own, h.l0, h.l1, h.fits⟩
theorem wstate_ok (b : Nat) (v : Value) (s : WS) (w : World) (h : WrAt w b v s) :
    Calls Tryz.prog 66 #[.pointer (some ⟨b, 0, none⟩)] w fun e w' => e = .returned (.int .i64 s.err) ∧ w = w' := by
  have c2 : w.cell? ⟨b, 2, none⟩ = some (.bool true) := (cell_of_row w b 2 _ _ _ h.blk).trans rfl
  have c3 : w.cell? ⟨b, 3, none⟩ = some (.int .i64 s.err) := (cell_of_row w b 3 _ _ _ h.blk).trans rfl
  clear h
  go_enter Tryz.func66, Tryz.ntmps66
  go_wp2
  go_ret
  exact ⟨rfl, rfl⟩
theorem newWriter_ok (lim : Int) (w : World) (h0 : 0 ≤ lim) (h1 : lim ≤ 1048576) :
    Calls Tryz.prog 35 #[.int .i64 lim] w fun e w' => ∃ b, e = .returned (.tuple #[.pointer (some ⟨b, 0, none⟩), .int .i64 0]) ∧ WrAt w' b (.slice none 0 0) ⟨lim, [], 0⟩ ∧ w.heap.size ≤ b ∧ Keeps Nob w w' := by
  have d0 : decide (lim < 0) = false := by simpa using h0
  have d1 : decide (1048576 < lim) = false := by simpa using h1
  go_enter Tryz.func35, Tryz.ntmps35
  go_wp2
  go_ret2
  exact ⟨_, rfl, ⟨heap_alloc_new _ _, ⟨rfl, .inl ⟨rfl, rfl⟩⟩, by simp [Value.ownBlock], h0, h1, by simpa using h0⟩, Nat.le_refl _, (Keeps.refl _ _).alloc _⟩
/-- What a step leaves of a writer. -/
def WPost (b : Nat) (v : Value) (s : WS) (w : World) (e : Ending) (w' : World) : Prop :=
  e = .returned (.int .i64 s.err) ∧ (∃ v', WrAt w' b v' s ∧ ∀ j, v'.ownBlock = some j → v.ownBlock = some j ∨ w.heap.size ≤ j) ∧ Keeps (WBlk b v) w w'
theorem wadd_ok (b : Nat) (v : Value) (s : WS) (x : Value) (bs : List UInt8) (w : World) (h : WrAt w b v s) (hx : BytesAt w x bs) (hl : bs.length ≤ 10000000) :
    Calls Tryz.prog 67 #[.pointer (some ⟨b, 0, none⟩), x] w (WPost b v (s.add bs) w) := by
  have HS := Lib.hid (wstate_ok b v s w h)
  have H := Lib.hid h
  obtain ⟨A, cap, rfl⟩ := hx.len
  obtain ⟨Av, cv, rfl⟩ := (Row.bytes h.row).len
  have c0 : w.cell? ⟨b, 0, none⟩ = some (.slice Av s.out.length cv) := (cell_of_row w b 0 _ _ _ h.blk).trans rfl
  have c1 : w.cell? ⟨b, 1, none⟩ = some (.int .i64 s.lim) := (cell_of_row w b 1 _ _ _ h.blk).trans rfl
  have c3 : w.cell? ⟨b, 3, none⟩ = some (.int .i64 s.err) := (cell_of_row w b 3 _ _ _ h.blk).trans rfl
  have f3 : w.frozen? ⟨b, 3, none⟩ = false := frozen_of_row w b 3 _ _ h.blk
  have hlt := h.lt
  have l0 := h.l0
  have l1 := h.l1
  have hfit := h.fits
  have HX := Lib.hid hx
  clear h hx
  by_cases h0 : s.err = 0
  · have d0 : (s.err != 0) = false := by simpa using h0
    have ew : IntKind.i64.wrap (s.lim - (s.out.length : Int)) = s.lim - (s.out.length : Int) := by rw [IntKind.wrap_i64]; omega
    by_cases h1 : s.lim - (s.out.length : Int) < (bs.length : Int)
    · have e1 : s.add bs = { s with err := 4 } := by unfold WS.add; rw [if_pos h0, if_pos h1]
      rw [e1]
      have d1 : decide (s.lim - (s.out.length : Int) < (bs.length : Int)) = true := by simpa using h1
      clear e1 h0
      go_enter Tryz.func67, Tryz.ntmps67
      go_wp2_with (go_at_call 66; refine HS.out.mono ?_; rintro e w' ⟨rfl, rfl⟩)
      go_quiet (fail)
      revert nq; intro n1
      go_wp2
      go_ret
      have hb2 := heap_setCell_same (w.drewN n1) b 3 _ _ (.int .i64 4) H.out.blk
      have hk : Keeps (One b) w ((w.drewN n1).setCell ⟨b, 3, none⟩ (.int .i64 4)) := ((Keeps.refl _ _).drewN n1).setOne _
      exact ⟨rfl, ⟨_, ⟨hb2, H.out.row.keeps hk (fun j hj (e : j = b) => H.out.own (by rw [hj, e])), H.out.own, l0, l1, hfit⟩, fun j hj => .inl hj⟩, hk.mono (fun _ _ e => .inl e)⟩
    · have e1 : s.add bs = { s with out := s.out ++ bs } := by unfold WS.add; rw [if_pos h0, if_neg h1]
      rw [e1]
      have d1 : decide (s.lim - (s.out.length : Int) < (bs.length : Int)) = false := by simpa using h1
      obtain ⟨i0, hi, hz0, hz1, hz2⟩ := info_parts u8_info0
      have HI := Lib.hid hi
      have HZ0 := Lib.hid hz0
      have HZ1 := Lib.hid hz1
      have HZ2 := Lib.hid hz2
      have H0 := Lib.hid h0
      clear e1 h0 hi hz0 hz1 hz2
      go_enter Tryz.func67, Tryz.ntmps67
      go_wp2_with (go_at_call 66; refine HS.out.mono ?_; rintro e w' ⟨rfl, rfl⟩)
      go_quiet (fail)
      revert nq; intro n1
      have kd : Hid (Keeps Nob w (w.drewN n1)) := Lib.hid ((Keeps.refl _ _).drewN n1)
      have HR1 := Lib.hid (H.out.row.keeps kd.out (fun _ _ x => x))
      have HS1 := Lib.hid (HX.out.keepsN kd.out).src
      go_wp2_with (at_builtin; refine own_append2 rfl _ _ 23 rfl 5 i0 (.int .u8 0) 1 1 Tryz.underlying23 HI.out HZ0.out HZ1.out HZ2.out rfl (by decide) _ _ _ rfl HR1.out (.slice A bs.length cap) bs.length (B bs) rfl HS1.out (len_small _ _ (by omega)) (len_bytes _ _ (by omega)) ?_; intro v' w1 hown' hgrow hnil hat; rw [← B_append, ← List.length_append] at hown'; obtain ⟨Av', cv', hv'⟩ := (Row.bytes hown').len; subst hv'; have hk1 : Keeps (fun j => (Value.slice Av s.out.length cv).ownBlock = some j) (w.drewN n1) w1 := (Keeps.refl _ _).grown hgrow (fun j hj _ => hj); have hb1 := (hk1.block b hlt (fun e => H.out.own e)).trans H.out.blk; have q0 : w1.cell? ⟨b, 0, none⟩ = some (.slice Av s.out.length cv) := (cell_of_row w1 b 0 _ _ _ hb1).trans rfl; have q1 : w1.frozen? ⟨b, 0, none⟩ = false := frozen_of_row w1 b 0 _ _ hb1; have H1 := Lib.hid hown'; have H3 := Lib.hid hat; have HB := Lib.hid hb1; have HK := Lib.hid hk1; clear hown' hnil hat hgrow hb1 hk1)
      go_ret
      obtain ⟨v', hv'⟩ : ∃ v', (Value.slice Av' (s.out.length + bs.length) cv') = v' := ⟨_, rfl⟩
      rw [List.length_append, hv'] at H1 H3
      rw [hv']
      have hb2 := heap_setCell_same w1 b 0 _ _ v' HB.out
      have hkS : Keeps (One b) w1 (w1.setCell ⟨b, 0, none⟩ v') := (Keeps.refl _ _).setOne _
      have hown : ∀ j, v'.ownBlock = some j → (Value.slice Av s.out.length cv).ownBlock = some j ∨ w.heap.size ≤ j := fun j hj => by
        rcases H3.out j hj with h | ⟨h, _⟩
        · exact .inl h
        · simp at h; exact .inr (by omega)
      have hvb : v'.ownBlock ≠ some b := fun hj => by
        rcases hown b hj with h | h
        · exact H.out.own h
        · omega
      refine ⟨by show Ending.returned (.int .i64 0) = .returned (.int .i64 s.err); rw [H0.out], ⟨v', ⟨hb2, ?_, hvb, l0, l1, by simp; omega⟩, hown⟩, (((Keeps.refl _ w).drewN n1).trans (HK.out.mono (fun _ _ e => .inr e))).trans (hkS.mono (fun _ _ e => .inl e))⟩
      rw [← List.length_append] at H1
      exact H1.out.keeps hkS (fun j hj (e : j = b) => hvb (by rw [hj, e]))
  · have e1 : s.add bs = s := by unfold WS.add; rw [if_neg h0]
    rw [e1]
    have d0 : (s.err != 0) = true := by simpa using h0
    clear h0 e1
    go_enter Tryz.func67, Tryz.ntmps67
    go_wp2_with (go_at_call 66; refine HS.out.mono ?_; rintro e w' ⟨rfl, rfl⟩)
    go_ret
    exact ⟨rfl, ⟨_, H.out, fun j hj => .inl hj⟩, Keeps.refl _ _⟩
end Go.Proofs.YtghohakbepeffaaGreatDoor
namespace Go.Proofs.YtghohakbepeffaaGreatDoor
set_option maxRecDepth 100000
set_option maxHeartbeats 4000000
open Go Go.RowKit Go.Own Go.Shelf
theorem WPost.mono {b : Nat} {v : Value} {s : WS} {w w0 : World} {e : Ending} {w' : World} (h : WPost b v s w e w') (k : Keeps Nob w0 w) : WPost b v s w0 e w' := by
  obtain ⟨h1, ⟨v', h2, h3⟩, h4⟩ := h
  refine ⟨h1, ⟨v', h2, fun j hj => ?_⟩, (k.mono (fun _ _ x => x.elim)).trans h4⟩
  rcases h3 j hj with h | h
  · exact .inl h
  · exact .inr (Nat.le_trans k.size h)
theorem wU_ok (b : Nat) (v : Value) (s : WS) (n : Nat) (w : World) (h : WrAt w b v s) (hn : n < 2 ^ 64) :
    Calls Tryz.prog 37 #[.pointer (some ⟨b, 0, none⟩), .int .u64 (n : Int)] w (WPost b v (s.add (Cod.enc n)) w) := by
  have H := Lib.hid h
  have HP := Lib.hid (cPut_ok n hn w)
  clear h hn
  go_enter Tryz.func37, Tryz.ntmps37
  go_wp2_with (first
    | (go_at_call 68; refine HP.out.mono ?_; rintro e w1 ⟨x, rfl, h1, h2, h3, h4⟩; have H1 := Lib.hid h1; have H4 := Lib.hid h4; clear h1 h2 h3 h4)
    | (go_at_call 67; refine (wadd_ok b v s x (Cod.enc n) w1 (H.out.keeps H4.out (fun _ _ x => x)) (Row.bytes H1.out) (by have := Cod.enc_length n; omega)).mono ?_; rintro e w2 hp; have HQ := Lib.hid (hp.mono H4.out); obtain ⟨rfl, -, -⟩ := hp))
  go_ret
  exact HQ.out
theorem wN_ok (b : Nat) (v : Value) (s : WS) (n : Int) (w : World) (h : WrAt w b v s) (h0 : 0 ≤ n) (h1 : n ≤ 9223372036854775807) :
    Calls Tryz.prog 36 #[.pointer (some ⟨b, 0, none⟩), .int .i64 n] w (WPost b v (s.add (Cod.enc n.toNat)) w) := by
  have H := Lib.hid h
  have HS := Lib.hid (wstate_ok b v s w h)
  obtain ⟨k, rfl⟩ : ∃ k : Nat, n = (k : Int) := ⟨n.toNat, by omega⟩
  have HU := Lib.hid (wU_ok b v s k w h (by omega))
  rw [Int.toNat_natCast]
  have w1' : IntKind.u64.wrap (k : Int) = (k : Int) := by simp [IntKind.wrap, IntKind.bits, IntKind.signed]; omega
  have d0 : decide ((0 : Int) ≤ (k : Int)) = true := by simp
  clear h
  by_cases he : s.err = 0
  · have d1 : (s.err != 0) = false := by simpa using he
    clear he
    go_enter Tryz.func36, Tryz.ntmps36
    go_wp2_with (first
      | (go_at_call 66; refine HS.out.mono ?_; rintro e w' ⟨rfl, rfl⟩)
      | (go_at_call 37; refine HU.out.mono ?_; rintro e w2 hp; have HQ := Lib.hid hp; obtain ⟨rfl, -, -⟩ := hp))
    go_ret
    exact HQ.out
  · have d1 : (s.err != 0) = true := by simpa using he
    clear he
    go_enter Tryz.func36, Tryz.ntmps36
    go_wp2_with (first
      | (go_at_call 66; refine HS.out.mono ?_; rintro e w' ⟨rfl, rfl⟩)
      | (go_at_call 37; refine HU.out.mono ?_; rintro e w2 hp; have HQ := Lib.hid hp; obtain ⟨rfl, -, -⟩ := hp))
    go_ret
    exact HQ.out
/-- Done: the bytes, or why none. -/
def DPost (s : WS) (w : World) (e : Ending) (w' : World) : Prop :=
  ∃ X, e = .returned (.tuple #[X, .int .i64 s.err]) ∧ (Row w' 5 1 X (if s.err = 0 then s.out else []).length (B (if s.err = 0 then s.out else [])) ∧ ∀ j, X.ownBlock = some j → w.heap.size ≤ j) ∧ Keeps Nob w w'
theorem wDone_ok (b : Nat) (v : Value) (s : WS) (w : World) (h : WrAt w b v s) :
    Calls Tryz.prog 38 #[.pointer (some ⟨b, 0, none⟩)] w (DPost s w) := by
  have HS := Lib.hid (wstate_ok b v s w h)
  have hf := h.fits
  have hl := h.l1
  have HC := Lib.hid (clone_ok v s.out w (Row.bytes h.row) (by omega))
  have c0 : w.cell? ⟨b, 0, none⟩ = some v := (cell_of_row w b 0 _ _ _ h.blk).trans rfl
  clear h
  by_cases he : s.err = 0
  · have d1 : (s.err != 0) = false := by simpa using he
    have HE := Lib.hid he
    clear he
    go_enter Tryz.func38, Tryz.ntmps38
    go_wp2_with (first
      | (go_at_call 66; refine HS.out.mono ?_; rintro e w' ⟨rfl, rfl⟩)
      | (go_at_call 69; refine HC.out.mono ?_; rintro e w1 ⟨X, rfl, h1, h2, h3⟩; have H1 := Lib.hid h1; have H2 := Lib.hid h2; have H3 := Lib.hid h3; clear h1 h2 h3))
    go_ret2
    exact ⟨X, by rw [HE.out]; rfl, ⟨by rw [if_pos HE.out]; exact H1.out, H2.out⟩, H3.out⟩
  · have d1 : (s.err != 0) = true := by simpa using he
    have HE := Lib.hid he
    clear he
    go_enter Tryz.func38, Tryz.ntmps38
    go_wp2_with (go_at_call 66; refine HS.out.mono ?_; rintro e w' ⟨rfl, rfl⟩)
    go_ret2
    exact ⟨_, rfl, ⟨by rw [if_neg HE.out]; exact ⟨rfl, .inl ⟨rfl, rfl⟩⟩, fun j hj => by cases hj⟩, Keeps.refl _ _⟩
end Go.Proofs.YtghohakbepeffaaGreatDoor
namespace Go.Proofs.YtghohakbepeffaaGreatDoor
set_option maxRecDepth 100000
set_option maxHeartbeats 4000000
open Go Go.RowKit Go.Own Go.Shelf
def Wr (w : World) (F : Nat → Prop) (b : Nat) (s : WS) : Prop := ∃ v, WrAt w b v s ∧ F = WBlk b v
section
variable {w w' : World} {F M : Nat → Prop} {b : Nat} {t t' : WS}
theorem Wr.lt (h : Wr w F b t) : Lt F w := by
  obtain ⟨v, h1, rfl⟩ := h
  exact h1.blk_lt
theorem Wr.keeps (h : Wr w F b t) (k : Keeps M w w') (d : Dis F M) : Wr w' F b t := by
  obtain ⟨v, h1, rfl⟩ := h
  exact ⟨v, h1.keeps k d, rfl⟩
theorem Wr.keepsN (h : Wr w F b t) (k : Keeps Nob w w') : Wr w' F b t := h.keeps k (fun _ _ x => x)
theorem wr_step {v : Value} {e : Ending} (hp : WPost b v t' w e w') : e = .returned (.int .i64 t'.err) ∧ ∃ F', Wr w' F' b t' ∧ Step w w' (WBlk b v) F' := by
  obtain ⟨h1, ⟨v', h2, h3⟩, h4⟩ := hp
  refine ⟨h1, _, ⟨v', h2, rfl⟩, h4, fun j hj => ?_⟩
  rcases hj with hj | hj
  · exact .inl (.inl hj)
  · rcases h3 j hj with h | h
    · exact .inl (.inr h)
    · exact .inr ⟨h, h2.row.lt hj⟩
def WPost2 (w : World) (F : Nat → Prop) (b : Nat) (t' : WS) (e : Ending) (w' : World) : Prop := e = .returned (.int .i64 t'.err) ∧ ∃ F', Wr w' F' b t' ∧ Step w w' F F'
theorem wr_new (lim : Int) (w : World) (h0 : 0 ≤ lim) (h1 : lim ≤ 1048576) :
    Calls Tryz.prog 35 #[.int .i64 lim] w fun e w' => ∃ b F, e = .returned (.tuple #[.pointer (some ⟨b, 0, none⟩), .int .i64 0]) ∧ Wr w' F b ⟨lim, [], 0⟩ ∧ Ge F w ∧ Keeps Nob w w' :=
  (newWriter_ok lim w h0 h1).mono fun e w' ⟨b, he, hr, hb, hk⟩ => by
    refine ⟨b, _, he, ⟨_, hr, rfl⟩, ?_, hk⟩
    intro j hj
    rcases hj with rfl | hj
    · exact hb
    · cases hj
theorem Wr.u (h : Wr w F b t) (n : Nat) (hn : n < 2 ^ 64) : Calls Tryz.prog 37 #[.pointer (some ⟨b, 0, none⟩), .int .u64 (n : Int)] w (WPost2 w F b (t.add (Cod.enc n))) := by
  obtain ⟨v, h1, rfl⟩ := h
  exact (wU_ok b v t n w h1 hn).mono fun e w' hp => wr_step hp
theorem Wr.n (h : Wr w F b t) (n : Int) (h0 : 0 ≤ n) (h1 : n ≤ 9223372036854775807) : Calls Tryz.prog 36 #[.pointer (some ⟨b, 0, none⟩), .int .i64 n] w (WPost2 w F b (t.add (Cod.enc n.toNat))) := by
  obtain ⟨v, h2, rfl⟩ := h
  exact (wN_ok b v t n w h2 h0 h1).mono fun e w' hp => wr_step hp
theorem Wr.done (h : Wr w F b t) : Calls Tryz.prog 38 #[.pointer (some ⟨b, 0, none⟩)] w (DPost t w) := by
  obtain ⟨v, h1, _⟩ := h
  exact wDone_ok b v t w h1
end
end Go.Proofs.YtghohakbepeffaaGreatDoor
namespace Go.Proofs.YtghohakbepeffaaGreatDoor
set_option maxRecDepth 100000
set_option maxHeartbeats 4000000
open Go Go.RowKit Go.Own Go.Shelf
def nb1 (x : Nt) : List UInt8 := Cod.enc x.h.toNat ++ Cod.enc x.s
/-- The bytes of notes. -/
def nby (l : List Nt) : List UInt8 := Cod.enc l.length ++ l.flatMap nb1
def nbi (l : List Nt) (i : Nat) : List UInt8 := Cod.enc l.length ++ (l.take i).flatMap nb1
def nbytes (l : List Nt) : List UInt8 × Int := if (ncheck l).1 ≠ 0 then ([], (ncheck l).1) else (nby l, 0)
theorem nbi_0 (l : List Nt) : nbi l 0 = Cod.enc l.length := by simp [nbi]
theorem nbi_all (l : List Nt) : nbi l l.length = nby l := by unfold nbi nby; rw [List.take_length]
theorem nbi_succ {l : List Nt} {i : Nat} {x : Nt} (h : l[i]? = some x) : nbi l (i + 1) = (nbi l i ++ Cod.enc x.h.toNat) ++ Cod.enc x.s := by
  unfold nbi; rw [List.take_add_one, h]; simp [nb1]
theorem nbi_le (l : List Nt) (i : Nat) : (nbi l i).length ≤ 10 + 20 * i := by
  have h0 := Cod.enc_length l.length
  induction i with
  | zero => rw [nbi_0]; omega
  | succ i ih =>
    cases h : l[i]? with
    | none =>
      have : nbi l (i + 1) = nbi l i := by unfold nbi; rw [List.take_add_one, h]; simp
      rw [this]; omega
    | some x =>
      have h1 := Cod.enc_length x.h.toNat
      have h2 := Cod.enc_length x.s
      rw [nbi_succ h, List.length_append, List.length_append]; omega
theorem ws_add {o bs : List UInt8} (h : o.length + bs.length ≤ 4096) : (⟨4096, o, 0⟩ : WS).add bs = ⟨4096, o ++ bs, 0⟩ := by
  unfold WS.add; rw [if_pos rfl, if_neg (by show ¬ (4096 : Int) - (o.length : Int) < _; omega)]
theorem ws_h {l : List Nt} {i : Nat} (h : i < 64) (x : Nt) : (⟨4096, nbi l i, 0⟩ : WS).add (Cod.enc x.h.toNat) = ⟨4096, nbi l i ++ Cod.enc x.h.toNat, 0⟩ := ws_add (by have := nbi_le l i; have := Cod.enc_length x.h.toNat; omega)
theorem ws_s {l : List Nt} {i : Nat} {x : Nt} (hx : l[i]? = some x) (h : i < 64) : (⟨4096, nbi l i ++ Cod.enc x.h.toNat, 0⟩ : WS).add (Cod.enc x.s) = ⟨4096, nbi l (i + 1), 0⟩ := by
  rw [nbi_succ hx]; exact ws_add (by have := nbi_le l i; have := Cod.enc_length x.h.toNat; have := Cod.enc_length x.s; rw [List.length_append]; omega)
theorem ws_n (l : List Nt) : (⟨4096, [], 0⟩ : WS).add (Cod.enc ((l.length : Nat) : Int).toNat) = ⟨4096, nbi l 0, 0⟩ := by
  rw [nbi_0, Int.toNat_natCast]; exact ws_add (by have := Cod.enc_length l.length; simp; omega)
theorem nbytes_bad {l : List Nt} {rf : Int} (h : (ncheck l).1 = rf) (h0 : ¬ rf = 0) : nbytes l = ([], rf) := by unfold nbytes; rw [h, if_pos h0]
theorem nbytes_ok {l : List Nt} (h : (ncheck l).1 = 0) : nbytes l = (nby l, 0) := by unfold nbytes; rw [if_neg (fun e => e h)]
noncomputable def qc71_0 (n : Nat) : Code := partOf Tryz.f11 n
theorem nBytes_bad (l : List Nt) (v : Value) (w : World) (hl : Sl w 2 Nt.cl v l) (rf : Int) (hc : (ncheck l).1 = rf) (h0 : ¬ rf = 0) (het : ErrTab w) :
    Calls Tryz.prog 11 #[v] w (fun e w' => ∃ X, e = .returned (.tuple #[X, .int .i64 (nbytes l).2]) ∧ Row w' 5 1 X (nbytes l).1.length (B (nbytes l).1) ∧ NewFrom w.heap.size X ∧ Keeps Nob w w') := by
  have K0 : Keeps Nob w w := Keeps.refl _ _
  refine sy_enter (qc71_0 1) ⟨#[v, ud, ud, ud, ud, ud, ud, ud, ud, ud, ud, ud, ud, ud, ud, ud, ud, ud, ud, ud, ud, ud, ud, ud, ud, ud, ud, ud, ud, ud, ud, ud, ud, ud, ud, ud, ud, ud, ud, ud, ud, ud, ud, ud, ud], []⟩ Tryz.func11 (by kernel_rfl) (by kernel_rfl) <| qr_ [0, 1] <| pkq (.slice none 0 0) <| pkq (.int .i64 0) <| eq_ <| qr_ [0, 1, 2, 3, 4, 5, 6] <| pkq (v) ?_
  refine pcq 22 #[v] Tryz.func22 ((nCheck_is l v rf _ hl (ErrTab.keeps het K0) hc).mono ?_)
  rintro e V1 ⟨rfl, kck⟩
  refine ⟨_, rfl, ?_⟩
  have K2 := K0.nn kck
  have z3 := kck.size
  refine pkq (.tuple #[.int .i64 rf, .int .i64 (ncheck l).2]) <| pkq (.int .i64 rf) <| pkq (.int .i64 (ncheck l).2) <| pkq (.int .i64 rf) <| pkq (.int .i64 (ncheck l).2) <| eqr_ [0, 1] <| pkq (.int .i64 rf) <| ppq (.bool true) (nqt ((rf) : Int) ((0) : Int) (by omega)) <| ey_ <| qr_ [0, 1, 2] <| pkq (.int .i64 rf) <| pkq (.slice none 0 0) <| pkq (.int .i64 rf) <| eu_ ?_
  refine then_r <| so_ (.tuple #[.slice none 0 0, .int .i64 rf]) ?_
  exact ⟨_, by rw [nbytes_bad hc h0], by rw [nbytes_bad hc h0]; exact World.ownsRow_nil _ _ _ _, NewFrom.nil _, K2⟩
theorem nBytes_ok (l : List Nt) (v : Value) (w : World) (hl : Sl w 2 Nt.cl v l) (hc : (ncheck l).1 = 0) (het : ErrTab w) :
    Calls Tryz.prog 11 #[v] w (fun e w' => ∃ X, e = .returned (.tuple #[X, .int .i64 (nbytes l).2]) ∧ Row w' 5 1 X (nbytes l).1.length (B (nbytes l).1) ∧ NewFrom w.heap.size X ∧ Keeps Nob w w') := by
  obtain ⟨hl64, hbad⟩ := ncheck_fine hc
  have K0 : Keeps Nob w w := Keeps.refl _ _
  refine sy_enter (qc71_0 1) ⟨#[v, ud, ud, ud, ud, ud, ud, ud, ud, ud, ud, ud, ud, ud, ud, ud, ud, ud, ud, ud, ud, ud, ud, ud, ud, ud, ud, ud, ud, ud, ud, ud, ud, ud, ud, ud, ud, ud, ud, ud, ud, ud, ud, ud, ud], []⟩ Tryz.func11 (by kernel_rfl) (by kernel_rfl) <| qr_ [0, 1] <| pkq (.slice none 0 0) <| pkq (.int .i64 0) <| eq_ <| qr_ [0, 1, 2, 3, 4, 5, 6] <| pkq (v) ?_
  refine pcq 22 #[v] Tryz.func22 ((nCheck_is l v 0 _ hl (ErrTab.keeps het K0) hc).mono ?_)
  rintro e V1 ⟨rfl, kck⟩
  refine ⟨_, rfl, ?_⟩
  have K2 := K0.nn kck
  have z3 := kck.size
  refine pkq (.tuple #[.int .i64 0, .int .i64 (ncheck l).2]) <| pkq (.int .i64 0) <| pkq (.int .i64 (ncheck l).2) <| pkq (.int .i64 0) <| pkq (.int .i64 (ncheck l).2) <| eqr_ [0, 1] <| pkq (.int .i64 0) <| pkq (.bool false) <| en_ <| s_ <| tqr_ [0, 1, 2, 3, 4, 5] ?_
  have hK1 := K2.size
  refine pcq 35 #[.int .i64 4096] Tryz.func35 ((wr_new 4096 _ (by decide) (by decide)).mono ?_)
  rintro e V4 ⟨b, F0, rfl, hV4, hge0, kV4⟩
  have hgeA : ∀ j, F0 j → w.heap.size ≤ j := fun j h => by have := hge0 j h; omega
  refine ⟨_, rfl, ?_⟩
  have K5 := K2.nn kV4
  have z6 := kV4.size
  refine pkq (.tuple #[pT b 0, .int .i64 0]) <| pkq (pT b 0) <| pkq (.int .i64 0) <| pkq (pT b 0) <| pkq (.int .i64 0) <| eqr_ [0, 1, 2, 3] <| pkq (pT b 0) <| pkq (v) <| ppq (iN l.length) (exec_len_sl (.tmp 23) 22 46 (by kernel_rfl) Tryz.underlying22 (by kernel_rfl) (hl.keepsN K5)) ?_
  have hKs5 := K5.size
  refine pcq 36 #[pT b 0, iN l.length] Tryz.func36 (((ws_n l ▸ Wr.n hV4 ((l.length : Nat) : Int) (by omega) (by omega))).mono ?_)
  rintro e V7 ⟨rfl, F1, hV7, hS1⟩
  have hge1 : ∀ j, F1 j → w.heap.size ≤ j := fun j h => (hS1.2 j h).elim (hgeA j) (fun h => by omega)
  refine ⟨_, rfl, ?_⟩
  have K8 : Keeps Nob w V7 := K5.then hS1.1 (fun i hi hm => absurd hi (by have := hgeA i hm; omega))
  have z9 := hS1.1.size
  refine eq_ <| qr_ [0, 1, 2] <| pkq (v) <| ppq (iN l.length) (exec_len_sl (.tmp 26) 22 46 (by kernel_rfl) Tryz.underlying22 (by kernel_rfl) (hl.keepsN K8)) <| pkq (.int .i64 0) <| ps_end <| sy_a ⟨#[v, ud, .slice none 0 0, .int .i64 0, .int .i64 0, .int .i64 (ncheck l).2, pT b 0, .int .i64 0, ud, ud, .tuple #[.int .i64 0, .int .i64 (ncheck l).2], v, .tuple #[.int .i64 0, .int .i64 (ncheck l).2], .int .i64 0, .int .i64 (ncheck l).2, .int .i64 0, .bool false, ud, .tuple #[pT b 0, .int .i64 0], .tuple #[pT b 0, .int .i64 0], pT b 0, .int .i64 0, pT b 0, v, iN l.length, .int .i64 0, v, iN l.length, .int .i64 0, ud, ud, ud, ud, ud, ud, ud, ud, ud, ud, ud, ud, ud, ud, ud, ud], []⟩ <| then_n <| bl_ 0 ?_
  refine sy_loop (qc71_0 500) (fun a V => ∃ (i : Nat) (Fi : Nat → Prop) (u9 u29 u30 u31 u32 u33 u34 u35 u36 u37 u38 u39 u40 : Value), (a = ⟨#[v, ud, .slice none 0 0, .int .i64 0, .int .i64 0, .int .i64 (ncheck l).2, pT b 0, .int .i64 0, ud, u9, .tuple #[.int .i64 0, .int .i64 (ncheck l).2], v, .tuple #[.int .i64 0, .int .i64 (ncheck l).2], .int .i64 0, .int .i64 (ncheck l).2, .int .i64 0, .bool false, ud, .tuple #[pT b 0, .int .i64 0], .tuple #[pT b 0, .int .i64 0], pT b 0, .int .i64 0, pT b 0, v, iN l.length, .int .i64 0, v, iN l.length, iN i, u29, u30, u31, u32, u33, u34, u35, u36, u37, u38, u39, u40, ud, ud, ud, ud], []⟩) ∧ (i ≤ l.length) ∧ (∀ j, Fi j → w.heap.size ≤ j) ∧ (Wr V Fi b ⟨4096, nbi l i, 0⟩) ∧ (Keeps Nob w V)) (fun a _ => l.length - (intOf (a.tmps.getD 28 undef)).toNat) (by kernel_rfl) ?_ ?_
  · exact ⟨0, F1, undef, undef, undef, undef, undef, undef, undef, undef, undef, undef, undef, undef, undef, by kernel_rfl, Nat.zero_le _, hge1, hV7, K8⟩
  · rintro a V10 ⟨i, Fi, u9, u29, u30, u31, u32, u33, u34, u35, u36, u37, u38, u39, u40, rfl, hi, hgei, h11, K12⟩
    by_cases lt_i : i < l.length
    · obtain ⟨x, hx⟩ : ∃ x, l[i]? = some x := ⟨_, List.getElem?_eq_getElem lt_i⟩
      have h64 : i < 64 := by omega
      have hbx := hbad x (List.mem_of_getElem? hx)
      have hxh : 1 ≤ x.h ∧ x.h ≤ 4294967296 ∧ x.s ≤ 4611686018427387904 := by unfold Nt.bad at hbx; omega
      obtain ⟨b_, o_, c_, hv_, hb_, _⟩ := ((hl.keepsN K12)).at_ i _ hx
      have hltR := Wr.lt h11
      refine qr_ [0] <| ppq (.bool true) (dct ((((i : Nat) : Int)) < (((l.length : Nat) : Int))) (by omega)) <| eq_ <| y_ <| s_ <| tq_ <| bl_ 1 <| qr_ [0, 1, 2, 3] <| ppq (pT b_ (o_ + i * 2)) (exec_indexAt_slice 22 (.tmp 26) (.tmp 28) (by kernel_rfl) b_ o_ l.length c_ (Eq.trans (b := v) (by kernel_rfl) hv_) .i64 i (by kernel_rfl) _ 2 Tryz.underlying22 (by kernel_rfl) (by omega)) <| ppq (.agg x.c) (exec_load_mid 46 (.tmp 30) (by kernel_rfl) b_ (o_ + i * 2) (by kernel_rfl) (Nt.cl x) _ (Sl.range (hl.keepsN K12) hx hv_) Tryz.underlying46 rfl (by kernel_rfl)) <| pal 46 (#[.int .i64 0, .int .u64 0]) (.agg (#[.int .i64 0, .int .u64 0])) fun V13 gx egx h14 kV13 => ?_
      have n15 : w.heap.size ≤ gx := egx ▸ K12.size
      have h16 : Wr V13 Fi b ⟨4096, nbi l i, 0⟩ := h11.keepsN kV13
      have K17 := K12.nn kV13
      have z18 := kV13.size
      refine pst 46 gx x.c h14 (by kernel_rfl) rfl (by kernel_rfl) fun V19 h20 kV19 => ?_
      have h21 : Wr V19 Fi b ⟨4096, nbi l i, 0⟩ := h16.keeps kV19 (fun j hj e => by have := hltR j hj; unfold Own.One at e; omega)
      have K22 := K17.nO kV19
      have z23 := kV19.size
      refine eqr_ [0, 1, 2, 3] <| pkq (pT b 0) <| pkq (pT gx 0) <| ppq (.int .i64 x.h) (ldc 3 gx 0 (rc (h20) (rfl))) ?_
      have hKs9 := K22.size
      have ltx9 := lt_of_block h20
      refine pcq 36 #[pT b 0, .int .i64 x.h] Tryz.func36 (((ws_h h64 x ▸ Wr.n h21 x.h (by omega) (by omega))).mono ?_)
      rintro e V24 ⟨rfl, F2, hV24, hS2⟩
      have hge2 : ∀ j, F2 j → w.heap.size ≤ j ∧ j ≠ gx := fun j h => (hS2.2 j h).elim (fun h => by have := hgei j h; have := hltR j h; omega) (fun h => by omega)
      refine ⟨_, rfl, ?_⟩
      have h25 : V24.heap[gx]? = some (.cells x.c 46 (0, 0)) := (hS2.1.block gx (lt_of_block h20) (fun e => by have := hltR _ e; omega)).trans h20
      have K26 : Keeps Nob w V24 := K22.then hS2.1 (fun k hi hm => absurd hi (by have := hgei k hm; omega))
      have z27 := hS2.1.size
      refine er_ [0, 1, 2, 3] <| pkq (pT b 0) <| pkq (pT gx 1) <| ppq (uN x.s) (ldc 40 gx 1 (rc (h25) (rfl))) ?_
      have hKs10 := K26.size
      refine pcq 37 #[pT b 0, uN x.s] Tryz.func37 (((ws_s hx h64 ▸ Wr.u hV24 x.s (by omega))).mono ?_)
      rintro e V28 ⟨rfl, F3, hV28, hS3⟩
      have hge3 : ∀ j, F3 j → w.heap.size ≤ j := fun j h => (hS3.2 j h).elim (fun h => (hge2 j h).1) (fun h => by omega)
      refine ⟨_, rfl, ?_⟩
      have K29 : Keeps Nob w V28 := K26.then hS3.1 (fun k hi hm => absurd hi (by have := (hge2 k hm).1; omega))
      have z30 := hS3.1.size
      refine ps_end <| blk_n <| tr_ [0, 1] <| ppq (iN (i + 1)) (exec_cast (congrArg (Value.int .i64) (wrapN (i + 1) (by omega))) (by kernel_rfl)) <| pkq (iN (i + 1)) <| et_ ?_
      refine ⟨⟨i + 1, F3, (pT gx 0), (.bool true), (pT b_ (o_ + i * 2)), (.agg x.c), (pT b 0), (pT gx 0), (.int .i64 x.h), (.int .i64 0), (pT b 0), (pT gx 1), (uN x.s), (.int .i64 0), (iN (i + 1)), by kernel_rfl, by omega, hge3, hV28, K29⟩, ?_⟩
      exact lt_meas (x := l.length - (i + 1)) (y := l.length - i) (by kernel_rfl) (by kernel_rfl) (by omega)
    · have eq_i : i = l.length := by omega
      refine qr_ [0] <| ppq (.bool false) (dcf ((((i : Nat) : Int)) < (((l.length : Nat) : Int))) (by omega)) <| eq_ <| n_ <| sy_exit 0 (by kernel_rfl) <| then_e <| then_e <| blk_e <| tqr_ [0, 1, 2, 3, 4, 5] <| pkq (pT b 0) ?_
      have hK9 := K12.size
      refine pcq 38 #[pT b 0] Tryz.func38 ((Wr.done h11).mono ?_)
      rintro e V31 ⟨X, rfl, ⟨hX, hXn⟩, kV31⟩
      refine ⟨_, rfl, ?_⟩
      have K32 := K12.nn kV31
      have z33 := kV31.size
      refine pkq (X) <| pkq (.int .i64 0) <| pkq (X) <| pkq (.int .i64 0) <| eu_ <| so_ (.tuple #[X, .int .i64 0]) ?_
      exact ⟨X, by rw [nbytes_ok hc], by rw [nbytes_ok hc, ← nbi_all, ← eq_i]; exact hX, fun j hj => Nat.le_trans hK9 (hXn j hj), K32⟩
theorem nBytes_all (l : List Nt) (v : Value) (w : World) (hl : Sl w 2 Nt.cl v l) (het : ErrTab w) : Calls Tryz.prog 11 #[v] w (fun e w' => ∃ X, e = .returned (.tuple #[X, .int .i64 (nbytes l).2]) ∧ Row w' 5 1 X (nbytes l).1.length (B (nbytes l).1) ∧ NewFrom w.heap.size X ∧ Keeps Nob w w') := by
  by_cases hc : (ncheck l).1 = 0
  · exact nBytes_ok l v w hl hc het
  · exact nBytes_bad l v w hl _ rfl hc het
end Go.Proofs.YtghohakbepeffaaGreatDoor
namespace Go.Proofs.YtghohakbepeffaaGreatDoor
set_option maxRecDepth 100000
set_option maxHeartbeats 4000000
open Go Go.RowKit Go.Own Go.Shelf
theorem exec_cut {o : Oper} {ρ : Operand → Value} {w : World} (x y : Operand) (ho : o.op = .slice 23 x (some y) none none) (A : Option Addr) (n cap k : Nat) (hx : ρ x = .slice A n cap) (hy : ρ y = .int .i64 (k : Int)) (hk : k ≤ n) :
    (execOp ρ o).run Tryz.prog w = .ok (.value (cutV A n cap k)) w := by
  have hc := run_cut (P := Tryz.prog) (t := 23) rfl bytes_size A n cap k hk w
  unfold execOp
  simp only [ho, hx, hy, Option.map_some, Option.map_none, Sem.run_bind, hc, Result.andThen_ok, Sem.run_pure]
/-- What is read: as the func told it, or nothing. -/
def RdVal (s : RS) (er : Int) (PX : World → Value → Prop) (z : Value) (w : World) (V : Value) : Prop := (s.err = 0 ∧ er = 0 ∧ PX w V) ∨ (¬ (s.err = 0 ∧ er = 0) ∧ V = z)
/-- The state behind a read. -/
def RS.read (s : RS) (k : Nat) (er : Int) : RS := if s.err = 0 then (if er = 0 then ⟨0, s.pos + k⟩ else ⟨er, s.pos⟩) else s
noncomputable def opsreadU : Array Oper := opsOf Tryz.f75 4
theorem readU_core (f : FuncId) (caps : Array Value) (hent : ∀ args w, (callFunc f args).run Tryz.prog w = .ok (.enter f args) w) (b : Nat) (v fp : Value) (l : List UInt8) (s : RS) (w : World) (h : RdAt w b v fp l s) (k : Nat) (er : Int) (PX : World → Value → Prop)
    (HF0 : s.err = 0 → ∀ W A cap, v = .slice A l.length cap → Keeps Nob w W → Calls Tryz.prog f (#[cutV A l.length cap s.pos.toNat] ++ caps) W fun e W' => ∃ X, e = .returned (.tuple #[X, .int .i64 (k : Int), .int .i64 er]) ∧ PX W' X ∧ Keeps Nob W W')
    (hPX : ∀ W W' X, PX W X → Keeps (One b) W W' → PX W' X) (hk0 : s.err = 0 → er = 0 → s.pos + k ≤ l.length) :
    Calls Tryz.prog 75 #[.pointer (some ⟨b, 0, none⟩), .func (.func f) #[] caps] w fun e w' => ∃ V, e = .returned V ∧ RdVal s er PX (.int .u64 0) w' V ∧ (∃ fp', RdAt w' b v fp' l (s.read k er) ∧ NewPtr w fp fp') ∧ Keeps (One b) w w' := by
  have H := Lib.hid h
  have HN := Lib.hid (rnone_ok b v fp l s w h)
  have hll := h.bytes.length_le
  obtain ⟨A, cap, rfl⟩ := h.bytes.len
  obtain ⟨at_, hb, hl, hf⟩ := h.ex
  have hlt := h.lt
  have c3 : w.cell? ⟨b, 3, none⟩ = some fp := (cell_of_row w b 3 _ _ _ hb).trans rfl
  have HBK := Lib.hid hb
  have HPX := Lib.hid hPX
  clear h hb hPX
  rcases hf with ⟨h0, hp, rfl⟩ | ⟨h0, g, rfl, hg, hc⟩
  · have hpn : s.pos.toNat = at_ := by omega
    have HF := HF0 h0
    have hk := hk0 h0
    rw [hpn] at HF
    have e1 : s.read k er = if er = 0 then ⟨0, s.pos + k⟩ else ⟨er, s.pos⟩ := by unfold RS.read; rw [if_pos h0]
    rw [e1]
    have HFH := Lib.hid (fun W => HF W A cap rfl)
    have HP := Lib.hid hp
    have H0 := Lib.hid h0
    have HK := Lib.hid hk
    clear e1 HF hpn hp h0 hk HF0 hk0
    go_enter Tryz.func75, Tryz.ntmps75
    go_wp2_with (go_at_call 74; refine HN.out.mono ?_; rintro e w' ⟨rfl, rfl⟩)
    refine wp_region_noPanic <| region_named (R := opsreadU) (by kernel_rfl) <| wp_regionH_fuel (fun W => Keeps Nob w W) 18 #[false, false, false, false, false, false, false, false, false, false, false, false, false, false, false, false, false, false] (by kernel_rfl) (by kernel_rfl) rfl ?_
    have S0 : Keeps Nob w w.drew := (Keeps.refl _ _).drew
    have cb : ∀ W, Keeps Nob w W → W.heap[b]? = some (.cells #[.slice A l.length cap, .int .i64 (at_ : Int), .bool true, .pointer none] 109 (0, 0)) := fun W hW => (hW.block b hlt (fun x => x)).trans HBK.out
    refine wpAnyH_val (i := 0) (opsreadU.getD 0 default) (.func (.func f) #[] caps) (by kernel_rfl) (fun _ _ _ _ _ h => h) (by kernel_rfl) (by kernel_rfl) (by kernel_rfl) (by kernel_rfl) (fun W hW => by kernel_rfl) S0 <| wpAnyH_val (i := 1) (opsreadU.getD 1 default) (.pointer (some ⟨b, 0, none⟩)) (by kernel_rfl) (fun _ _ _ _ _ h => h) (by kernel_rfl) (by kernel_rfl) (by kernel_rfl) (by kernel_rfl) (fun W hW => by kernel_rfl) S0 <| wpAnyH_val (i := 2) (opsreadU.getD 2 default) (.pointer (some ⟨b, 0, none⟩)) (by kernel_rfl) (fun _ _ _ _ _ h => h) (by kernel_rfl) (by kernel_rfl) (by kernel_rfl) (by kernel_rfl) (fun W hW => by kernel_rfl) S0 <| wpAnyH_val (i := 3) (opsreadU.getD 3 default) (.pointer (some ⟨b, 0, none⟩)) (by kernel_rfl) (fun _ _ _ _ _ h => h) (by kernel_rfl) (by kernel_rfl) (by kernel_rfl) (by kernel_rfl) (fun W hW => by kernel_rfl) S0 <| wpAnyH_val (i := 4) (opsreadU.getD 4 default) (.slice A l.length cap) (by kernel_rfl) (fun _ _ _ _ _ h => h) (by kernel_rfl) (by kernel_rfl) (by kernel_rfl) (by kernel_rfl) (fun W hW => exec_load_cell 23 (.tmp 23) (by kernel_rfl) ⟨b, 0, none⟩ (by kernel_rfl) _ _ Tryz.underlying23 rfl ((cell_of_row W b 0 _ _ _ (cb W hW)).trans rfl)) S0 <| wpAnyH_val (i := 5) (opsreadU.getD 5 default) (.pointer (some ⟨b, 0, none⟩)) (by kernel_rfl) (fun _ _ _ _ _ h => h) (by kernel_rfl) (by kernel_rfl) (by kernel_rfl) (by kernel_rfl) (fun W hW => by kernel_rfl) S0 <| wpAnyH_val (i := 6) (opsreadU.getD 6 default) (.pointer (some ⟨b, 0, none⟩)) (by kernel_rfl) (fun _ _ _ _ _ h => h) (by kernel_rfl) (by kernel_rfl) (by kernel_rfl) (by kernel_rfl) (fun W hW => by kernel_rfl) S0 <| wpAnyH_val (i := 7) (opsreadU.getD 7 default) (.pointer (some ⟨b, 1, none⟩)) (by kernel_rfl) (fun _ _ _ _ _ h => h) (by kernel_rfl) (by kernel_rfl) (by kernel_rfl) (by kernel_rfl) (fun W hW => by kernel_rfl) S0 <| wpAnyH_val (i := 8) (opsreadU.getD 8 default) (.int .i64 (at_ : Int)) (by kernel_rfl) (fun _ _ _ _ _ h => h) (by kernel_rfl) (by kernel_rfl) (by kernel_rfl) (by kernel_rfl) (fun W hW => exec_load_cell 3 (.tmp 27) (by kernel_rfl) ⟨b, 1, none⟩ (by kernel_rfl) _ _ Tryz.underlying3 rfl ((cell_of_row W b 1 _ _ _ (cb W hW)).trans rfl)) S0 <| wpAnyH_val (i := 9) (opsreadU.getD 9 default) (cutV A l.length cap at_) (by kernel_rfl) (fun _ _ _ _ _ h => h) (by kernel_rfl) (by kernel_rfl) (by kernel_rfl) (by kernel_rfl) (fun W hW => exec_cut (.tmp 24) (.tmp 28) (by kernel_rfl) A l.length cap at_ (by kernel_rfl) (by kernel_rfl) hl) S0 ?_
    refine wpAnyH_callV (i := 10) (opsreadU.getD 10 default) (.tmp 20) f caps (#[cutV A l.length cap at_] ++ caps) (by kernel_rfl) (by kernel_rfl) (by kernel_rfl) (by kernel_rfl) (by kernel_rfl) (by kernel_rfl) hent ((HFH.out _ S0).mono ?_)
    rintro e W1 ⟨X, rfl, hX, k1⟩
    have S1 : Keeps Nob w W1 := S0.trans k1
    refine ⟨_, rfl, S1, ?_⟩
    refine wpAnyH_run (i := 11) (opsreadU.getD 11 default) (.tuple #[X, .int .i64 (k : Int), .int .i64 er]) (w' := W1) (by kernel_rfl) (by kernel_rfl) (by kernel_rfl) (.inl (by kernel_rfl)) S1 <| wpAnyH_val (i := 12) (opsreadU.getD 12 default) (X) (by kernel_rfl) (fun _ _ _ _ _ h => h) (by kernel_rfl) (by kernel_rfl) (by kernel_rfl) (by kernel_rfl) (fun W hW => by kernel_rfl) S1 <| wpAnyH_val (i := 13) (opsreadU.getD 13 default) (.int .i64 (k : Int)) (by kernel_rfl) (fun _ _ _ _ _ h => h) (by kernel_rfl) (by kernel_rfl) (by kernel_rfl) (by kernel_rfl) (fun W hW => by kernel_rfl) S1 <| wpAnyH_val (i := 14) (opsreadU.getD 14 default) (.int .i64 er) (by kernel_rfl) (fun _ _ _ _ _ h => h) (by kernel_rfl) (by kernel_rfl) (by kernel_rfl) (by kernel_rfl) (fun W hW => by kernel_rfl) S1 <| wpAnyH_run (i := 15) (opsreadU.getD 15 default) (X) (w' := W1) (by kernel_rfl) (by kernel_rfl) (by kernel_rfl) (.inl (by kernel_rfl)) S1 <| wpAnyH_run (i := 16) (opsreadU.getD 16 default) (.int .i64 (k : Int)) (w' := W1) (by kernel_rfl) (by kernel_rfl) (by kernel_rfl) (.inl (by kernel_rfl)) S1 <| wpAnyH_run (i := 17) (opsreadU.getD 17 default) (.int .i64 er) (w' := W1) (by kernel_rfl) (by kernel_rfl) (by kernel_rfl) (.inl (by kernel_rfl)) S1 ?_
    refine wpAnyH_done (by kernel_rfl) ?_ _
    refine NoPanic.normal <| state_eq (b := ⟨#[.pointer (some ⟨b, 0, none⟩), .func (.func f) #[] caps, ud, ud, .int .u64 0, .int .u64 0, X, .int .i64 (k : Int), .int .i64 er, .pointer (some ⟨b, 0, none⟩), .bool false, .bool false, .pointer (some ⟨b, 0, none⟩), .pointer (some ⟨b, 0, none⟩), .pointer (some ⟨b, 3, none⟩), .pointer none, .bool false, .bool false, ud, .tuple #[X, .int .i64 (k : Int), .int .i64 er], .func (.func f) #[] caps, .pointer (some ⟨b, 0, none⟩), .pointer (some ⟨b, 0, none⟩), .pointer (some ⟨b, 0, none⟩), .slice A l.length cap, .pointer (some ⟨b, 0, none⟩), .pointer (some ⟨b, 0, none⟩), .pointer (some ⟨b, 1, none⟩), .int .i64 (at_ : Int), cutV A l.length cap at_, .tuple #[X, .int .i64 (k : Int), .int .i64 er], X, .int .i64 (k : Int), .int .i64 er, ud, ud, ud, ud, ud, ud, ud, ud, ud, ud, ud, ud, ud, ud, ud, ud, ud, ud, ud], []⟩) (by kernel_rfl) ?_
    have HX := Lib.hid hX
    have hbW := cb W1 S1
    have a1 : W1.cell? ⟨b, 1, none⟩ = some (.int .i64 (at_ : Int)) := (cell_of_row W1 b 1 _ _ _ hbW).trans rfl
    have a2 : W1.frozen? ⟨b, 1, none⟩ = false := frozen_of_row W1 b 1 _ _ hbW
    have HBW := Lib.hid hbW
    clear cb hX hbW
    generalize cutV A l.length cap at_ = cv at *
    by_cases he : er = 0
    · subst he
      have hkk := HK.out rfl
      rw [HP.out] at hkk
      go_wp2_with fail
      go_ret
      try simp only [if_true]
      have hkS : Keeps (One b) W1 (W1.setCell ⟨b, 1, none⟩ (.int .i64 ((at_ : Int) + k))) := (Keeps.refl _ _).setOne _
      have hkw : Keeps (One b) w (W1.setCell ⟨b, 1, none⟩ (.int .i64 ((at_ : Int) + k))) := (S1.mono (fun _ _ x => x.elim)).trans hkS
      refine ⟨_, rfl, .inl ⟨H0.out, rfl, HPX.out _ _ _ HX.out hkS⟩, ⟨.pointer none, ⟨⟨at_ + k, ?_, by omega, .inl ⟨rfl, by rw [HP.out]; simp, rfl⟩⟩, H.out.bytes.keeps hkw (fun j hj (e : j = b) => H.out.own (by rw [hj, e])), H.out.own⟩, .inl rfl⟩, hkw⟩
      rw [show (((at_ + k : Nat)) : Int) = (at_ : Int) + k by omega]
      exact heap_setCell_same W1 b 1 _ _ _ HBW.out
    · have hb : (er != 0) = true := by simpa using he
      have HFa := Lib.hid (rFail_ok b (.slice A l.length cap) (.pointer none) l s er (at_ : Int) W1 (H.out.keeps S1 (fun _ _ x => x)))
      have hs : s.fail er (at_ : Int) = ⟨er, s.pos⟩ := by unfold RS.fail; rw [if_pos ⟨H0.out, he⟩, HP.out]
      rw [hs] at HFa
      have HE := Lib.hid he
      clear hs he
      go_wp2_with (go_at_call 44; refine HFa.out.mono ?_; rintro e w' ⟨⟨r, rfl⟩, ⟨fp', h1, h2⟩, h3⟩; have H1 := Lib.hid h1; have H2 := Lib.hid h2; clear h1 h2)
      go_ret
      try simp only [if_neg HE.out]
      refine ⟨_, rfl, .inr ⟨fun h => HE.out h.2, rfl⟩, ⟨fp', H1.out, ?_⟩, (S1.mono (fun _ _ x => x.elim)).trans h3⟩
      rcases H2.out with h | ⟨g, h, hg⟩
      · exact .inl h
      · exact .inr ⟨g, h, Nat.le_trans S1.size hg⟩
  · have e1 : s.read k er = s := by unfold RS.read; rw [if_neg h0]
    rw [e1]
    have HE := Lib.hid h0
    clear e1 h0 hc HF0 hk0
    go_enter Tryz.func75, Tryz.ntmps75
    go_wp2_with (go_at_call 74; refine HN.out.mono ?_; rintro e w' ⟨rfl, rfl⟩)
    go_ret
    exact ⟨_, rfl, .inr ⟨fun h => HE.out h.1, rfl⟩, ⟨_, H.out, .inl rfl⟩, Keeps.refl _ _⟩
noncomputable def opsreadI : Array Oper := opsOf Tryz.f71 4
theorem readI_core (f : FuncId) (caps : Array Value) (hent : ∀ args w, (callFunc f args).run Tryz.prog w = .ok (.enter f args) w) (b : Nat) (v fp : Value) (l : List UInt8) (s : RS) (w : World) (h : RdAt w b v fp l s) (k : Nat) (er : Int) (PX : World → Value → Prop)
    (HF0 : s.err = 0 → ∀ W A cap, v = .slice A l.length cap → Keeps Nob w W → Calls Tryz.prog f (#[cutV A l.length cap s.pos.toNat] ++ caps) W fun e W' => ∃ X, e = .returned (.tuple #[X, .int .i64 (k : Int), .int .i64 er]) ∧ PX W' X ∧ Keeps Nob W W')
    (hPX : ∀ W W' X, PX W X → Keeps (One b) W W' → PX W' X) (hk0 : s.err = 0 → er = 0 → s.pos + k ≤ l.length) :
    Calls Tryz.prog 71 #[.pointer (some ⟨b, 0, none⟩), .func (.func f) #[] caps] w fun e w' => ∃ V, e = .returned V ∧ RdVal s er PX (.int .i64 0) w' V ∧ (∃ fp', RdAt w' b v fp' l (s.read k er) ∧ NewPtr w fp fp') ∧ Keeps (One b) w w' := by
  have H := Lib.hid h
  have HN := Lib.hid (rnone_ok b v fp l s w h)
  have hll := h.bytes.length_le
  obtain ⟨A, cap, rfl⟩ := h.bytes.len
  obtain ⟨at_, hb, hl, hf⟩ := h.ex
  have hlt := h.lt
  have c3 : w.cell? ⟨b, 3, none⟩ = some fp := (cell_of_row w b 3 _ _ _ hb).trans rfl
  have HBK := Lib.hid hb
  have HPX := Lib.hid hPX
  clear h hb hPX
  rcases hf with ⟨h0, hp, rfl⟩ | ⟨h0, g, rfl, hg, hc⟩
  · have hpn : s.pos.toNat = at_ := by omega
    have HF := HF0 h0
    have hk := hk0 h0
    rw [hpn] at HF
    have e1 : s.read k er = if er = 0 then ⟨0, s.pos + k⟩ else ⟨er, s.pos⟩ := by unfold RS.read; rw [if_pos h0]
    rw [e1]
    have HFH := Lib.hid (fun W => HF W A cap rfl)
    have HP := Lib.hid hp
    have H0 := Lib.hid h0
    have HK := Lib.hid hk
    clear e1 HF hpn hp h0 hk HF0 hk0
    go_enter Tryz.func71, Tryz.ntmps71
    go_wp2_with (go_at_call 74; refine HN.out.mono ?_; rintro e w' ⟨rfl, rfl⟩)
    refine wp_region_noPanic <| region_named (R := opsreadI) (by kernel_rfl) <| wp_regionH_fuel (fun W => Keeps Nob w W) 18 #[false, false, false, false, false, false, false, false, false, false, false, false, false, false, false, false, false, false] (by kernel_rfl) (by kernel_rfl) rfl ?_
    have S0 : Keeps Nob w w.drew := (Keeps.refl _ _).drew
    have cb : ∀ W, Keeps Nob w W → W.heap[b]? = some (.cells #[.slice A l.length cap, .int .i64 (at_ : Int), .bool true, .pointer none] 109 (0, 0)) := fun W hW => (hW.block b hlt (fun x => x)).trans HBK.out
    refine wpAnyH_val (i := 0) (opsreadI.getD 0 default) (.func (.func f) #[] caps) (by kernel_rfl) (fun _ _ _ _ _ h => h) (by kernel_rfl) (by kernel_rfl) (by kernel_rfl) (by kernel_rfl) (fun W hW => by kernel_rfl) S0 <| wpAnyH_val (i := 1) (opsreadI.getD 1 default) (.pointer (some ⟨b, 0, none⟩)) (by kernel_rfl) (fun _ _ _ _ _ h => h) (by kernel_rfl) (by kernel_rfl) (by kernel_rfl) (by kernel_rfl) (fun W hW => by kernel_rfl) S0 <| wpAnyH_val (i := 2) (opsreadI.getD 2 default) (.pointer (some ⟨b, 0, none⟩)) (by kernel_rfl) (fun _ _ _ _ _ h => h) (by kernel_rfl) (by kernel_rfl) (by kernel_rfl) (by kernel_rfl) (fun W hW => by kernel_rfl) S0 <| wpAnyH_val (i := 3) (opsreadI.getD 3 default) (.pointer (some ⟨b, 0, none⟩)) (by kernel_rfl) (fun _ _ _ _ _ h => h) (by kernel_rfl) (by kernel_rfl) (by kernel_rfl) (by kernel_rfl) (fun W hW => by kernel_rfl) S0 <| wpAnyH_val (i := 4) (opsreadI.getD 4 default) (.slice A l.length cap) (by kernel_rfl) (fun _ _ _ _ _ h => h) (by kernel_rfl) (by kernel_rfl) (by kernel_rfl) (by kernel_rfl) (fun W hW => exec_load_cell 23 (.tmp 23) (by kernel_rfl) ⟨b, 0, none⟩ (by kernel_rfl) _ _ Tryz.underlying23 rfl ((cell_of_row W b 0 _ _ _ (cb W hW)).trans rfl)) S0 <| wpAnyH_val (i := 5) (opsreadI.getD 5 default) (.pointer (some ⟨b, 0, none⟩)) (by kernel_rfl) (fun _ _ _ _ _ h => h) (by kernel_rfl) (by kernel_rfl) (by kernel_rfl) (by kernel_rfl) (fun W hW => by kernel_rfl) S0 <| wpAnyH_val (i := 6) (opsreadI.getD 6 default) (.pointer (some ⟨b, 0, none⟩)) (by kernel_rfl) (fun _ _ _ _ _ h => h) (by kernel_rfl) (by kernel_rfl) (by kernel_rfl) (by kernel_rfl) (fun W hW => by kernel_rfl) S0 <| wpAnyH_val (i := 7) (opsreadI.getD 7 default) (.pointer (some ⟨b, 1, none⟩)) (by kernel_rfl) (fun _ _ _ _ _ h => h) (by kernel_rfl) (by kernel_rfl) (by kernel_rfl) (by kernel_rfl) (fun W hW => by kernel_rfl) S0 <| wpAnyH_val (i := 8) (opsreadI.getD 8 default) (.int .i64 (at_ : Int)) (by kernel_rfl) (fun _ _ _ _ _ h => h) (by kernel_rfl) (by kernel_rfl) (by kernel_rfl) (by kernel_rfl) (fun W hW => exec_load_cell 3 (.tmp 27) (by kernel_rfl) ⟨b, 1, none⟩ (by kernel_rfl) _ _ Tryz.underlying3 rfl ((cell_of_row W b 1 _ _ _ (cb W hW)).trans rfl)) S0 <| wpAnyH_val (i := 9) (opsreadI.getD 9 default) (cutV A l.length cap at_) (by kernel_rfl) (fun _ _ _ _ _ h => h) (by kernel_rfl) (by kernel_rfl) (by kernel_rfl) (by kernel_rfl) (fun W hW => exec_cut (.tmp 24) (.tmp 28) (by kernel_rfl) A l.length cap at_ (by kernel_rfl) (by kernel_rfl) hl) S0 ?_
    refine wpAnyH_callV (i := 10) (opsreadI.getD 10 default) (.tmp 20) f caps (#[cutV A l.length cap at_] ++ caps) (by kernel_rfl) (by kernel_rfl) (by kernel_rfl) (by kernel_rfl) (by kernel_rfl) (by kernel_rfl) hent ((HFH.out _ S0).mono ?_)
    rintro e W1 ⟨X, rfl, hX, k1⟩
    have S1 : Keeps Nob w W1 := S0.trans k1
    refine ⟨_, rfl, S1, ?_⟩
    refine wpAnyH_run (i := 11) (opsreadI.getD 11 default) (.tuple #[X, .int .i64 (k : Int), .int .i64 er]) (w' := W1) (by kernel_rfl) (by kernel_rfl) (by kernel_rfl) (.inl (by kernel_rfl)) S1 <| wpAnyH_val (i := 12) (opsreadI.getD 12 default) (X) (by kernel_rfl) (fun _ _ _ _ _ h => h) (by kernel_rfl) (by kernel_rfl) (by kernel_rfl) (by kernel_rfl) (fun W hW => by kernel_rfl) S1 <| wpAnyH_val (i := 13) (opsreadI.getD 13 default) (.int .i64 (k : Int)) (by kernel_rfl) (fun _ _ _ _ _ h => h) (by kernel_rfl) (by kernel_rfl) (by kernel_rfl) (by kernel_rfl) (fun W hW => by kernel_rfl) S1 <| wpAnyH_val (i := 14) (opsreadI.getD 14 default) (.int .i64 er) (by kernel_rfl) (fun _ _ _ _ _ h => h) (by kernel_rfl) (by kernel_rfl) (by kernel_rfl) (by kernel_rfl) (fun W hW => by kernel_rfl) S1 <| wpAnyH_run (i := 15) (opsreadI.getD 15 default) (X) (w' := W1) (by kernel_rfl) (by kernel_rfl) (by kernel_rfl) (.inl (by kernel_rfl)) S1 <| wpAnyH_run (i := 16) (opsreadI.getD 16 default) (.int .i64 (k : Int)) (w' := W1) (by kernel_rfl) (by kernel_rfl) (by kernel_rfl) (.inl (by kernel_rfl)) S1 <| wpAnyH_run (i := 17) (opsreadI.getD 17 default) (.int .i64 er) (w' := W1) (by kernel_rfl) (by kernel_rfl) (by kernel_rfl) (.inl (by kernel_rfl)) S1 ?_
    refine wpAnyH_done (by kernel_rfl) ?_ _
    refine NoPanic.normal <| state_eq (b := ⟨#[.pointer (some ⟨b, 0, none⟩), .func (.func f) #[] caps, ud, ud, .int .i64 0, .int .i64 0, X, .int .i64 (k : Int), .int .i64 er, .pointer (some ⟨b, 0, none⟩), .bool false, .bool false, .pointer (some ⟨b, 0, none⟩), .pointer (some ⟨b, 0, none⟩), .pointer (some ⟨b, 3, none⟩), .pointer none, .bool false, .bool false, ud, .tuple #[X, .int .i64 (k : Int), .int .i64 er], .func (.func f) #[] caps, .pointer (some ⟨b, 0, none⟩), .pointer (some ⟨b, 0, none⟩), .pointer (some ⟨b, 0, none⟩), .slice A l.length cap, .pointer (some ⟨b, 0, none⟩), .pointer (some ⟨b, 0, none⟩), .pointer (some ⟨b, 1, none⟩), .int .i64 (at_ : Int), cutV A l.length cap at_, .tuple #[X, .int .i64 (k : Int), .int .i64 er], X, .int .i64 (k : Int), .int .i64 er, ud, ud, ud, ud, ud, ud, ud, ud, ud, ud, ud, ud, ud, ud, ud, ud, ud, ud, ud], []⟩) (by kernel_rfl) ?_
    have HX := Lib.hid hX
    have hbW := cb W1 S1
    have a1 : W1.cell? ⟨b, 1, none⟩ = some (.int .i64 (at_ : Int)) := (cell_of_row W1 b 1 _ _ _ hbW).trans rfl
    have a2 : W1.frozen? ⟨b, 1, none⟩ = false := frozen_of_row W1 b 1 _ _ hbW
    have HBW := Lib.hid hbW
    clear cb hX hbW
    generalize cutV A l.length cap at_ = cv at *
    by_cases he : er = 0
    · subst he
      have hkk := HK.out rfl
      rw [HP.out] at hkk
      go_wp2_with fail
      go_ret
      try simp only [if_true]
      have hkS : Keeps (One b) W1 (W1.setCell ⟨b, 1, none⟩ (.int .i64 ((at_ : Int) + k))) := (Keeps.refl _ _).setOne _
      have hkw : Keeps (One b) w (W1.setCell ⟨b, 1, none⟩ (.int .i64 ((at_ : Int) + k))) := (S1.mono (fun _ _ x => x.elim)).trans hkS
      refine ⟨_, rfl, .inl ⟨H0.out, rfl, HPX.out _ _ _ HX.out hkS⟩, ⟨.pointer none, ⟨⟨at_ + k, ?_, by omega, .inl ⟨rfl, by rw [HP.out]; simp, rfl⟩⟩, H.out.bytes.keeps hkw (fun j hj (e : j = b) => H.out.own (by rw [hj, e])), H.out.own⟩, .inl rfl⟩, hkw⟩
      rw [show (((at_ + k : Nat)) : Int) = (at_ : Int) + k by omega]
      exact heap_setCell_same W1 b 1 _ _ _ HBW.out
    · have hb : (er != 0) = true := by simpa using he
      have HFa := Lib.hid (rFail_ok b (.slice A l.length cap) (.pointer none) l s er (at_ : Int) W1 (H.out.keeps S1 (fun _ _ x => x)))
      have hs : s.fail er (at_ : Int) = ⟨er, s.pos⟩ := by unfold RS.fail; rw [if_pos ⟨H0.out, he⟩, HP.out]
      rw [hs] at HFa
      have HE := Lib.hid he
      clear hs he
      go_wp2_with (go_at_call 44; refine HFa.out.mono ?_; rintro e w' ⟨⟨r, rfl⟩, ⟨fp', h1, h2⟩, h3⟩; have H1 := Lib.hid h1; have H2 := Lib.hid h2; clear h1 h2)
      go_ret
      try simp only [if_neg HE.out]
      refine ⟨_, rfl, .inr ⟨fun h => HE.out h.2, rfl⟩, ⟨fp', H1.out, ?_⟩, (S1.mono (fun _ _ x => x.elim)).trans h3⟩
      rcases H2.out with h | ⟨g, h, hg⟩
      · exact .inl h
      · exact .inr ⟨g, h, Nat.le_trans S1.size hg⟩
  · have e1 : s.read k er = s := by unfold RS.read; rw [if_neg h0]
    rw [e1]
    have HE := Lib.hid h0
    clear e1 h0 hc HF0 hk0
    go_enter Tryz.func71, Tryz.ntmps71
    go_wp2_with (go_at_call 74; refine HN.out.mono ?_; rintro e w' ⟨rfl, rfl⟩)
    go_ret
    exact ⟨_, rfl, .inr ⟨fun h => HE.out h.1, rfl⟩, ⟨_, H.out, .inl rfl⟩, Keeps.refl _ _⟩
end Go.Proofs.YtghohakbepeffaaGreatDoor
namespace Go.Proofs.YtghohakbepeffaaGreatDoor
set_option maxRecDepth 100000
set_option maxHeartbeats 4000000
open Go Go.RowKit Go.Own Go.Shelf
/-- The number that stands at a reader's place. -/
def RS.num (s : RS) (l : List UInt8) : Nat × Nat × Int := Cod.num (l.drop s.pos.toNat)
theorem RS.num_le (s : RS) (l : List UInt8) (h0 : 0 ≤ s.pos) (hl : s.pos ≤ l.length) (he : (s.num l).2.2 = 0) : s.pos + (s.num l).2.1 ≤ l.length := by
  have := (Cod.num_ok _ he).2.2.1
  rw [List.length_drop] at this
  unfold RS.num
  omega
theorem RdAt.pos {w : World} {b : Nat} {v fp : Value} {l : List UInt8} {s : RS} (h : RdAt w b v fp l s) (h0 : s.err = 0) : 0 ≤ s.pos ∧ s.pos ≤ l.length := by
  obtain ⟨at_, hb, hl, hf⟩ := h.ex
  rcases hf with ⟨_, hp, _⟩ | ⟨h1, _⟩
  · omega
  · exact absurd h0 h1
/-- U: what is told, and the state behind. -/
def rdU (l : List UInt8) (s : RS) : Int × RS := (if s.err = 0 ∧ (s.num l).2.2 = 0 then ((s.num l).1 : Int) else 0, s.read (s.num l).2.1 (s.num l).2.2)
theorem rU_ok (b : Nat) (v fp : Value) (l : List UInt8) (s : RS) (w : World) (h : RdAt w b v fp l s) :
    Calls Tryz.prog 45 #[.pointer (some ⟨b, 0, none⟩)] w fun e w' => e = .returned (.int .u64 (rdU l s).1) ∧ (∃ fp', RdAt w' b v fp' l (rdU l s).2 ∧ NewPtr w fp fp') ∧ Keeps (One b) w w' := by
  have HC := Lib.hid (readU_core 73 #[] (enters_of Tryz.func73 (by kernel_rfl) rfl) b v fp l s w h (s.num l).2.1 (s.num l).2.2 (fun _ X => X = .int .u64 ((s.num l).1 : Int))
    (fun h0 W A cap hv hW => by
      subst hv
      refine (number_ok _ _ W ((h.bytes.drop s.pos.toNat (by have := h.pos h0; omega) _ _ _ rfl).keepsN hW)).mono ?_
      rintro e W' ⟨rfl, rfl⟩
      exact ⟨_, rfl, rfl, Keeps.refl _ _⟩)
    (fun _ _ _ h _ => h) (fun h0 he => s.num_le l (h.pos h0).1 (h.pos h0).2 he))
  clear h
  go_enter Tryz.func45, Tryz.ntmps45
  go_wp2_with (go_at_call 75; refine HC.out.mono ?_; rintro e w' ⟨V, rfl, h1, h2, h3⟩; have H1 := Lib.hid h1; have H2 := Lib.hid h2; clear h1 h2)
  go_ret
  unfold rdU
  refine ⟨?_, H2.out, h3⟩
  rcases H1.out with ⟨a, b, rfl⟩ | ⟨a, rfl⟩
  · rw [if_pos ⟨a, b⟩]; rfl
  · rw [if_neg a]; rfl
/-- Is a number out of bounds? -/
def outN (n : Nat) (least most : Int) : Prop := most < 0 ∨ most < (n : Int) ∨ (0 < least ∧ (n : Int) < least)
instance (n : Nat) (least most : Int) : Decidable (outN n least most) := by unfold outN; infer_instance
def errN (r : Nat × Nat × Int) (least most : Int) : Int := if r.2.2 = 0 ∧ outN r.1 least most then 3 else r.2.2
theorem rN1_ok (v : Value) (l : List UInt8) (least most : Int) (b1 b2 : Nat) (w : World) (hv : BytesAt w v l) (h1 : w.cell? ⟨b1, 0, none⟩ = some (.int .i64 most)) (h2 : w.cell? ⟨b2, 0, none⟩ = some (.int .i64 least))
   (m1 : -9223372036854775808 ≤ most ∧ most ≤ 9223372036854775807) (m2 : -9223372036854775808 ≤ least ∧ least ≤ 9223372036854775807) :
    Calls Tryz.prog 72 #[v, .pointer (some ⟨b1, 0, none⟩), .pointer (some ⟨b2, 0, none⟩)] w fun e w' => e = .returned (.tuple #[.int .i64 (wrap64 ((Cod.num l).1 : Int)), .int .i64 ((Cod.num l).2.1 : Int), .int .i64 (errN (Cod.num l) least most)]) ∧ w = w' := by
  have HN := Lib.hid (number_ok v l w hv)
  have hn64 : (Cod.num l).2.2 = 0 → (Cod.num l).1 < 18446744073709551616 := fun h => by have := (Cod.num_ok l h).1; simpa using this
  clear hv
  obtain ⟨er, her⟩ : ∃ er, errN (Cod.num l) least most = er := ⟨_, rfl⟩
  rw [her]
  unfold errN outN at her
  generalize Cod.num l = r at *
  obtain ⟨n, k, e⟩ := r
  simp only at her hn64 HN ⊢
  obtain ⟨m1a, m1b⟩ := m1
  obtain ⟨m2a, m2b⟩ := m2
  by_cases he : e = 0
  · subst he
    have hn := hn64 rfl
    clear hn64
    by_cases a1 : most < 0
    · obtain rfl : er = 3 := by rw [← her, if_pos ⟨rfl, .inl a1⟩]
      clear her
      go_enter Tryz.func72, Tryz.ntmps72
      go_wp2_with (go_at_call 73; refine HN.out.mono ?_; rintro e w' ⟨rfl, rfl⟩)
      go_ret3
      exact ⟨rfl, rfl⟩
    · have d1 : decide (most < 0) = false := by simpa using a1
      have w1 : IntKind.u64.wrap most = most := by simp [IntKind.wrap, IntKind.bits, IntKind.signed]; omega
      by_cases a2 : most < (n : Int)
      · obtain rfl : er = 3 := by rw [← her, if_pos ⟨rfl, .inr (.inl a2)⟩]
        clear her
        have d2 : decide (most < (n : Int)) = true := by simpa using a2
        go_enter Tryz.func72, Tryz.ntmps72
        go_wp2_with (go_at_call 73; refine HN.out.mono ?_; rintro e w' ⟨rfl, rfl⟩)
        go_ret3
        exact ⟨rfl, rfl⟩
      · have d2 : decide (most < (n : Int)) = false := by simpa using a2
        rw [IntWalk.wrap64_in (n : Int) ⟨by omega, by omega⟩]
        by_cases a3 : 0 < least
        · have d3 : decide (0 < least) = true := by simpa using a3
          have w2 : IntKind.u64.wrap least = least := by simp [IntKind.wrap, IntKind.bits, IntKind.signed]; omega
          by_cases a4 : (n : Int) < least
          · obtain rfl : er = 3 := by rw [← her, if_pos ⟨rfl, .inr (.inr ⟨a3, a4⟩)⟩]
            clear her
            have d4 : decide ((n : Int) < least) = true := by simpa using a4
            go_enter Tryz.func72, Tryz.ntmps72
            go_wp2_with (go_at_call 73; refine HN.out.mono ?_; rintro e w' ⟨rfl, rfl⟩)
            go_ret3
            exact ⟨rfl, rfl⟩
          · obtain rfl : er = 0 := by rw [← her, if_neg (by omega)]
            clear her
            have d4 : decide ((n : Int) < least) = false := by simpa using a4
            go_enter Tryz.func72, Tryz.ntmps72
            go_wp2_with (go_at_call 73; refine HN.out.mono ?_; rintro e w' ⟨rfl, rfl⟩)
            go_ret3
            exact ⟨rfl, rfl⟩
        · obtain rfl : er = 0 := by rw [← her, if_neg (by omega)]
          clear her
          have d3 : decide (0 < least) = false := by simpa using a3
          go_enter Tryz.func72, Tryz.ntmps72
          go_wp2_with (go_at_call 73; refine HN.out.mono ?_; rintro e w' ⟨rfl, rfl⟩)
          go_ret3
          exact ⟨rfl, rfl⟩
  · obtain rfl : er = e := by rw [← her, if_neg (fun h => he h.1)]
    have hb : (er == 0) = false := by simpa using he
    clear her hn64
    go_enter Tryz.func72, Tryz.ntmps72
    go_wp2_with (go_at_call 73; refine HN.out.mono ?_; rintro e w' ⟨rfl, rfl⟩)
    go_ret3
    exact ⟨rfl, rfl⟩
/-- N: what is told, and the state behind. -/
def rdN (l : List UInt8) (s : RS) (least most : Int) : Int × RS := (if s.err = 0 ∧ errN (s.num l) least most = 0 then ((s.num l).1 : Int) else 0, s.read (s.num l).2.1 (errN (s.num l) least most))
theorem errN_zero {r : Nat × Nat × Int} {least most : Int} (h : errN r least most = 0) : r.2.2 = 0 ∧ 0 ≤ most ∧ (r.1 : Int) ≤ most ∧ (0 < least → least ≤ r.1) := by
  unfold errN outN at h
  split at h
  · omega
  · rename_i h1
    refine ⟨h, ?_⟩
    have h2 := fun x => h1 ⟨h, x⟩
    omega
theorem rN_ok (b : Nat) (v fp : Value) (l : List UInt8) (s : RS) (least most : Int) (w : World) (h : RdAt w b v fp l s)
   (m2 : -9223372036854775808 ≤ least ∧ least ≤ 9223372036854775807) (m1 : -9223372036854775808 ≤ most ∧ most ≤ 9223372036854775807) :
    Calls Tryz.prog 42 #[.pointer (some ⟨b, 0, none⟩), .int .i64 least, .int .i64 most] w fun e w' => e = .returned (.int .i64 (rdN l s least most).1) ∧ (∃ fp', RdAt w' b v fp' l (rdN l s least most).2 ∧ NewPtr w fp fp') ∧ Keeps (One b) w w' := by
  have hkA : Keeps Nob w ((w.alloc (.cells #[.int .i64 least] 3)).alloc (.cells #[.int .i64 most] 3)) := ((Keeps.refl _ _).alloc _).alloc _
  have c1 : ((w.alloc (.cells #[.int .i64 least] 3)).alloc (.cells #[.int .i64 most] 3)).cell? ⟨w.heap.size + 1, 0, none⟩ = some (.int .i64 most) := (World.cell?_alloc_at _ _ _ _ (by simp)).trans rfl
  have c2 : ((w.alloc (.cells #[.int .i64 least] 3)).alloc (.cells #[.int .i64 most] 3)).cell? ⟨w.heap.size, 0, none⟩ = some (.int .i64 least) := (World.cell?_alloc_lt _ _ _ (by simp)).trans ((World.cell?_alloc_at _ _ _ _ rfl).trans rfl)
  have hb1 : w.heap.size + 1 < ((w.alloc (.cells #[.int .i64 least] 3)).alloc (.cells #[.int .i64 most] 3)).heap.size := by simp
  have hA := h.keeps hkA (fun _ _ x => x)
  have HC := Lib.hid (readI_core 72 #[.pointer (some ⟨w.heap.size + 1, 0, none⟩), .pointer (some ⟨w.heap.size, 0, none⟩)] (enters_of Tryz.func72 (by kernel_rfl) rfl) b v fp l s _ hA (s.num l).2.1 (errN (s.num l) least most) (fun _ X => X = .int .i64 (wrap64 ((s.num l).1 : Int)))
    (fun h0 W A cap hv hW => by
      subst hv
      refine (rN1_ok _ _ least most _ _ W ((hA.bytes.drop s.pos.toNat (by have := hA.pos h0; omega) _ _ _ rfl).keepsN hW) ((hW.cell hb1 (fun x => x)).trans c1) ((hW.cell (by omega) (fun x => x)).trans c2) m1 m2).mono ?_
      rintro e W' ⟨rfl, rfl⟩
      exact ⟨_, rfl, rfl, Keeps.refl _ _⟩)
    (fun _ _ _ h _ => h) (fun h0 he => s.num_le l (h.pos h0).1 (h.pos h0).2 (errN_zero he).1))
  have HKA := Lib.hid hkA
  clear h hA c1 c2 hb1 hkA
  have hmf : ∀ (fn : Fn) (first cap : Array Value) (w : World), (Instr.makeFunc fn first cap).run Tryz.prog w = .ok (.func fn first cap) w := fun _ _ _ _ => rfl
  obtain ⟨m1a, m1b⟩ := m1
  go_enter Tryz.func42, Tryz.ntmps42
  go_wp2_with (go_at_call 71; refine HC.out.mono ?_; rintro e w' ⟨V, rfl, h1, h2, h3⟩; have H1 := Lib.hid h1; have H2 := Lib.hid h2; clear h1 h2)
  go_ret
  obtain ⟨fp', h2, h3'⟩ := H2.out
  refine ⟨?_, ⟨fp', h2, ?_⟩, (HKA.out.mono (fun _ _ x => x.elim)).trans h3⟩
  · unfold rdN
    rcases H1.out with ⟨a, b, rfl⟩ | ⟨a, rfl⟩
    · have hz := errN_zero b
      rw [if_pos ⟨a, b⟩, IntWalk.wrap64_in ((s.num l).1 : Int) ⟨by omega, by omega⟩]; rfl
    · rw [if_neg a]; rfl
  · rcases h3' with h | ⟨g, h, hg⟩
    · exact .inl h
    · exact .inr ⟨g, h, Nat.le_trans HKA.out.size hg⟩
end Go.Proofs.YtghohakbepeffaaGreatDoor
namespace Go.Proofs.YtghohakbepeffaaGreatDoor
set_option maxRecDepth 100000
set_option maxHeartbeats 4000000
open Go Go.RowKit Go.Own Go.Shelf
def RS.rest (s : RS) (l : List UInt8) : List UInt8 := l.drop s.pos.toNat
end Go.Proofs.YtghohakbepeffaaGreatDoor
namespace Go.Proofs.YtghohakbepeffaaGreatDoor
set_option maxRecDepth 100000
set_option maxHeartbeats 4000000
open Go Go.RowKit Go.Own Go.Shelf
end Go.Proofs.YtghohakbepeffaaGreatDoor
namespace Go.Proofs.YtghohakbepeffaaGreatDoor
set_option maxRecDepth 100000
set_option maxHeartbeats 4000000
open Go Go.RowKit Go.Own Go.Shelf
end Go.Proofs.YtghohakbepeffaaGreatDoor
namespace Go.Proofs.YtghohakbepeffaaGreatDoor
set_option maxRecDepth 100000
set_option maxHeartbeats 4000000
open Go Go.RowKit Go.Own Go.Shelf
def Rd (w : World) (F : Nat → Prop) (b : Nat) (l : List UInt8) (s : RS) : Prop := ∃ v fp, RdAt w b v fp l s ∧ (∀ j, v.ownBlock = some j → j < w.heap.size) ∧ F = rdBlk b v fp
section
variable {w w' : World} {F M : Nat → Prop} {b : Nat} {l : List UInt8} {s s' : RS}
theorem Rd.lt (h : Rd w F b l s) : Lt F w := by
  obtain ⟨v, fp, h1, h2, rfl⟩ := h
  intro j hj
  rcases hj with rfl | hj | hj
  · exact h1.lt
  · exact h2 j hj
  · obtain ⟨at_, hb, hl, hf⟩ := h1.ex
    rcases hf with ⟨_, _, rfl⟩ | ⟨_, g, rfl, _, hc⟩
    · cases hj
    · cases hj; exact lt_of_block hc
theorem Rd.keeps (h : Rd w F b l s) (k : Keeps M w w') (d : Dis F M) : Rd w' F b l s := by
  obtain ⟨v, fp, h1, h2, rfl⟩ := h
  exact ⟨v, fp, h1.keeps k d, fun j hj => Nat.lt_of_lt_of_le (h2 j hj) k.size, rfl⟩
theorem Rd.keepsN (h : Rd w F b l s) (k : Keeps Nob w w') : Rd w' F b l s := h.keeps k (fun _ _ x => x)
theorem rdr_step {v fp fp' : Value} (h : RdAt w b v fp l s) (hv : ∀ j, v.ownBlock = some j → j < w.heap.size) (hr : RdAt w' b v fp' l s') (hn : NewPtr w fp fp') (k : Keeps (One b) w w') :
    ∃ F', Rd w' F' b l s' ∧ Step w w' (rdBlk b v fp) F' := by
  have hv' := fun j hj => Nat.lt_of_lt_of_le (hv j hj) k.size
  have hR : Rd w' (rdBlk b v fp') b l s' := ⟨v, fp', hr, hv', rfl⟩
  refine ⟨_, hR, k.mono (fun _ _ e => .inl e), fun j hj => ?_⟩
  rcases hj with hj | hj | hj
  · exact .inl (.inl hj)
  · exact .inl (.inr (.inl hj))
  · rcases hn with rfl | ⟨g, rfl, hg⟩
    · exact .inl (.inr (.inr hj))
    · refine .inr ⟨?_, hR.lt j (.inr (.inr hj))⟩
      cases hj; exact hg
def RPost (w : World) (F : Nat → Prop) (b : Nat) (l : List UInt8) (x : Value) (s' : RS) (e : Ending) (w' : World) : Prop := e = .returned x ∧ ∃ F', Rd w' F' b l s' ∧ Step w w' F F'
theorem Rd.u (h : Rd w F b l s) : Calls Tryz.prog 45 #[.pointer (some ⟨b, 0, none⟩)] w (RPost w F b l (.int .u64 (rdU l s).1) (rdU l s).2) := by
  obtain ⟨v, fp, h1, h2, rfl⟩ := h
  exact (rU_ok b v fp l s w h1).mono fun e w' ⟨he, ⟨fp', h3, h4⟩, h5⟩ => ⟨he, rdr_step h1 h2 h3 h4 h5⟩
theorem Rd.n (h : Rd w F b l s) (least most : Int) (m2 : -9223372036854775808 ≤ least ∧ least ≤ 9223372036854775807) (m1 : -9223372036854775808 ≤ most ∧ most ≤ 9223372036854775807) :
    Calls Tryz.prog 42 #[.pointer (some ⟨b, 0, none⟩), .int .i64 least, .int .i64 most] w (RPost w F b l (.int .i64 (rdN l s least most).1) (rdN l s least most).2) := by
  obtain ⟨v, fp, h1, h2, rfl⟩ := h
  exact (rN_ok b v fp l s least most w h1 m2 m1).mono fun e w' ⟨he, ⟨fp', h3, h4⟩, h5⟩ => ⟨he, rdr_step h1 h2 h3 h4 h5⟩
theorem Rd.at_ (h : Rd w F b l s) : Calls Tryz.prog 43 #[.pointer (some ⟨b, 0, none⟩)] w fun e w' => e = .returned (.int .i64 s.pos) ∧ w = w' := by
  obtain ⟨v, fp, h1, _, _⟩ := h
  exact rAt_ok b v fp l s w h1
theorem Rd.fin (h : Rd w F b l s) : Calls Tryz.prog 46 #[.pointer (some ⟨b, 0, none⟩)] w fun e w' => e = .returned (.agg #[.int .i64 (s.fin l).1, .int .i64 (s.fin l).2]) ∧ Keeps Nob w w' := by
  obtain ⟨v, fp, h1, _, _⟩ := h
  exact rEnd_ok b v fp l s w h1
theorem rd_new (a : Value) (l : List UInt8) (w : World) (ha : BytesAt w a l) (hl : l.length ≤ 100000000) :
    Calls Tryz.prog 41 #[a] w fun e w' => ∃ b F, e = .returned (.pointer (some ⟨b, 0, none⟩)) ∧ Rd w' F b l ⟨0, 0⟩ ∧ Ge F w ∧ Keeps Nob w w' :=
  (newReader_ok a l w ha hl).mono fun e w' ⟨b, v, he, hr, hb, hf, hk⟩ => by
    refine ⟨b, _, he, ⟨v, _, hr, fun j hj => (hf j hj).2, rfl⟩, ?_, hk⟩
    intro j hj
    rcases hj with rfl | hj | hj
    · exact hb
    · exact (hf j hj).1
    · cases hj
end
end Go.Proofs.YtghohakbepeffaaGreatDoor
