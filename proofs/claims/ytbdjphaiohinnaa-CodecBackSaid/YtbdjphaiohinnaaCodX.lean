/-
  Codec: the law's 'long' and 'reads'. Conditions: none.
-/
import Derived.Test.YtbdjphaiohinnaaCodW
import Derived.Test.YtbdjphaiohinnaaArr
namespace Go.Proofs.Ytbdjphaiohinnaa
open Go Go.RowKit Go.Own Go.Shelf

/-- Are things more than are gone through? -/
def longB (l : List Th) : Bool := (l.take 41).any (fun x => decide (200 < x.bytes.length)) || decide (40 < l.length)
theorem longB_false {l : List Th} (h : longB l = false) : l.length ≤ 40 ∧ ∀ (k : Nat) (x : Th), l[k]? = some x → x.bytes.length ≤ 200 := by
  unfold longB at h
  simp only [Bool.or_eq_false_iff, decide_eq_false_iff_not, Nat.not_lt] at h
  refine ⟨h.2, fun k x hx => ?_⟩
  have h1 := List.any_eq_false.1 h.1 x (List.mem_of_getElem? (i := k) (by rw [List.getElem?_take_of_lt]; exact hx; have := (List.getElem?_eq_some_iff.1 hx).1; omega))
  simpa using h1

set_option maxRecDepth 100000 in
set_option maxHeartbeats 2000000 in
theorem long_ok (v : Value) (l : List Th) (w : World) (h : ThingsAt w v l) :
    Calls Try.prog 19 #[v] w fun e w' => e = .returned (.bool (longB l)) ∧ w = w' := by
  obtain ⟨a, cap, rfl⟩ := h.len
  obtain ⟨n, hn⟩ : ∃ n, l.length = n := ⟨_, rfl⟩
  rw [hn]
  have HN := Lib.hid hn
  have H := Lib.hid h
  obtain ⟨r, hr⟩ : ∃ r, longB l = r := ⟨_, rfl⟩
  rw [hr]
  have HR := Lib.hid hr
  clear hn h hr
  go_enter Try.func19, Try.ntmps19
  go_wp2
  go_loop [3] (fun i => ∃ k : Nat, k ≤ n ∧ k ≤ 41 ∧ i = .int .i64 k ∧ Hid (∀ j x, j < k → l[j]? = some x → x.bytes.length ≤ 200)) (fun i => 41 - (intOf i).toNat)
  case atStart => exact ⟨0, Nat.zero_le _, by omega, rfl, Lib.hid (fun j x hj => absurd hj (Nat.not_lt_zero _))⟩
  case round =>
    obtain ⟨k, hk, hk2, rfl, HL⟩ := hrel
    by_cases hlt : k < n
    · by_cases hlt2 : k < 41
      · obtain ⟨x, hx⟩ : ∃ x, l[k]? = some x := ⟨_, List.getElem?_eq_getElem (by have := HN.out; omega)⟩
        obtain ⟨b, o, cap', hv, hb, hrg⟩ := H.out.at_ k x hx
        simp only [Value.slice.injEq] at hv
        obtain ⟨rfl, _, rfl⟩ := hv
        have hok := H.out.ok k x hx
        obtain ⟨A, c2, hbv⟩ := (H.out.bytes k x hx).len
        have c0 : w.cell? ⟨b, o + k * 38 + 36, none⟩ = some (.slice A x.bytes.length c2) := (hrg 36 _ hok.c36).trans (by rw [hbv])
        have HX := Lib.hid hx
        have hble := (H.out.bytes k x hx).length_le
        clear hrg hok hbv hx
        by_cases h2 : 200 < x.bytes.length
        · have hd : decide (200 < x.bytes.length) = true := by simpa using h2
          have hd2 : decide ((200 : Int) < (x.bytes.length : Int)) = true := by simp; omega
          go_wp2
          go_ret
          refine ⟨?_, rfl⟩
          rw [← HR.out]
          unfold longB
          have : (l.take 41).any (fun x => decide (200 < x.bytes.length)) = true := by
            rw [List.any_eq_true]
            exact ⟨x, List.mem_of_getElem? (i := k) (by rw [List.getElem?_take_of_lt hlt2]; exact HX.out), hd⟩
          rw [this]; rfl
        · have hd2 : decide ((200 : Int) < (x.bytes.length : Int)) = false := by simp; omega
          go_wp2
          go_round
          case rel =>
            refine ⟨k + 1, by omega, by omega, by go_num, Lib.hid (fun j y hj hy => ?_)⟩
            by_cases e : j = k
            · subst e
              have := HX.out.symm.trans hy
              simp only [Option.some.injEq] at this
              subst this; omega
            · exact HL.out j y (by omega) hy
          case measure => simp [intOf]; omega
      · obtain rfl : k = 41 := by omega
        have hd : decide (40 < n) = true := by simp; omega
        have hd2 : decide ((40 : Int) < (n : Int)) = true := by simp; omega
        have hd3 : decide ((41 : Int) < (n : Int)) = true := by simp; omega
        go_wp2
        go_ret
        refine ⟨?_, rfl⟩
        rw [← HR.out]
        unfold longB
        rw [HN.out, hd, Bool.or_true]
        rfl
    · have hkn : k = n := by omega
      have hd0 : decide ((k : Int) < (n : Int)) = false := by simp; omega
      have hd1 : decide (k < n) = false := by simp; omega
      have hfin : longB l = decide (40 < n) := by
        unfold longB
        have : (l.take 41).any (fun x => decide (200 < x.bytes.length)) = false := by
          rw [List.any_eq_false]
          intro x hx
          obtain ⟨j, hj⟩ := List.getElem?_of_mem hx
          have hj1 : j < 41 := by have := (List.getElem?_eq_some_iff.1 hj).1; rw [List.length_take] at this; omega
          rw [List.getElem?_take_of_lt hj1] at hj
          have := HL.out j x (by have := (List.getElem?_eq_some_iff.1 hj).1; have := HN.out; omega) hj
          simp; omega
        rw [this, HN.out, Bool.false_or]
      have HFIN := Lib.hid (HR.out.symm.trans hfin)
      clear hfin hkn
      go_wp2
      go_ret
      refine ⟨?_, rfl⟩
      rw [HFIN.out]
      simp
      omega

/-- Both readers, over the same bytes, apart from each other. -/
structure Pair (w : World) (b : Nat) (v fp : Value) (b2 : Nat) (v2 : Value) (l : List UInt8) (s t : RS) : Prop where
  r : RdAt w b v fp l s
  u : RrAt w b2 v2 l t
  ne : b ≠ b2
  s1 : v.ownBlock ≠ some b2
  s2 : v2.ownBlock ≠ some b
  s3 : ptrBlock fp ≠ some b2
  l1 : ∀ j, v.ownBlock = some j → j < w.heap.size
  l2 : ∀ j, v2.ownBlock = some j → j < w.heap.size
section
variable {w w' : World} {b b2 : Nat} {v fp v2 : Value} {l : List UInt8} {s s' t t' : RS}
theorem RdAt.ptr_lt (h : RdAt w b v fp l s) : ∀ j, ptrBlock fp = some j → j < w.heap.size := fun j hj => by
  obtain ⟨at_, hb, hl, hf⟩ := h.ex
  rcases hf with ⟨_, _, rfl⟩ | ⟨_, g, rfl, _, hc⟩
  · cases hj
  · cases hj; exact lt_of_block hc
theorem Pair.blk (h : Pair w b v fp b2 v2 l s t) : ∀ j, rdBlk b v fp j → j < w.heap.size := fun j hj => by
  rcases hj with rfl | hj | hj
  · exact h.r.lt
  · exact h.l1 j hj
  · exact h.r.ptr_lt j hj
theorem Pair.keepsM {M : Nat → Prop} (h : Pair w b v fp b2 v2 l s t) (k : Keeps M w w') (hm : ∀ j, j < w.heap.size → ¬ M j) : Pair w' b v fp b2 v2 l s t :=
  ⟨h.r.keeps k (fun j hj => hm j (h.blk j hj)), h.u.keeps k (hm b2 h.u.lt) (fun j hj => hm j (h.l2 j hj)), h.ne, h.s1, h.s2, h.s3, fun j hj => Nat.lt_of_lt_of_le (h.l1 j hj) k.size, fun j hj => Nat.lt_of_lt_of_le (h.l2 j hj) k.size⟩
theorem Pair.keeps (h : Pair w b v fp b2 v2 l s t) (k : Keeps Nob w w') : Pair w' b v fp b2 v2 l s t := h.keepsM k (fun _ _ x => x)
theorem Pair.prog {fp' : Value} (h : Pair w b v fp b2 v2 l s t) (hr : RdAt w' b v fp' l s') (hn : NewPtr w fp fp') (k : Keeps (One b) w w') : Pair w' b v fp' b2 v2 l s' t :=
  ⟨hr, h.u.keeps k (fun e => h.ne e.symm) (fun j hj (e : j = b) => h.s2 (by rw [hj, e])), h.ne, h.s1, h.s2, by
    rcases hn with rfl | ⟨g, rfl, hg⟩
    · exact h.s3
    · have := h.u.lt
      simp [ptrBlock]; omega, fun j hj => Nat.lt_of_lt_of_le (h.l1 j hj) k.size, fun j hj => Nat.lt_of_lt_of_le (h.l2 j hj) k.size⟩
theorem Pair.ref (h : Pair w b v fp b2 v2 l s t) (hu : RrAt w' b2 v2 l t') (k : Keeps (One b2) w w') : Pair w' b v fp b2 v2 l s t' :=
  ⟨h.r.keeps k (fun j hj (e : j = b2) => by
    rcases hj with hj | hj | hj
    · exact h.ne (hj.symm.trans e)
    · exact h.s1 (by rw [hj, e])
    · exact h.s3 (by rw [hj, e])), hu, h.ne, h.s1, h.s2, h.s3, fun j hj => Nat.lt_of_lt_of_le (h.l1 j hj) k.size, fun j hj => Nat.lt_of_lt_of_le (h.l2 j hj) k.size⟩
end

/-- The state behind a thing that was asked for. -/
def rdStep (l : List UInt8) (s : RS) (x : Th) : RS :=
  if x.kind = 0 then (rdU l s).2 else if x.kind = 1 then (rdN l s x.least x.int).2 else if x.kind = 2 then (rdH l s).2 else if x.kind = 3 then (rdB l s x.int).2 else if x.kind = 4 then s.fail x.errno x.int else s
def Two (b b2 : Nat) : Nat → Prop := fun j => j = b ∨ j = b2
def RdsPost (b : Nat) (v : Value) (b2 : Nat) (v2 : Value) (l : List UInt8) (s : RS) (w : World) (e : Ending) (w' : World) : Prop :=
  e = .returned (.bool true) ∧ (∃ fp', Pair w' b v fp' b2 v2 l s s) ∧ Keeps (Two b b2) w w'
theorem two_l {b b2 : Nat} {W W' : World} (k : Keeps (One b) W W') : Keeps (Two b b2) W W' := k.mono (fun _ _ e => .inl e)
theorem two_r {b b2 : Nat} {W W' : World} (k : Keeps (One b2) W W') : Keeps (Two b b2) W W' := k.mono (fun _ _ e => .inr e)
theorem Pair.keepsW {w w' : World} {b b2 : Nat} {v fp v2 : Value} {l : List UInt8} {s t : RS} {M : Nat → Prop} (h : Pair w b v fp b2 v2 l s t) (k : Keeps M w w') (h1 : ∀ j, rdBlk b v fp j → ¬ M j) (h2 : ¬ M b2) (h3 : ∀ j, v2.ownBlock = some j → ¬ M j) : Pair w' b v fp b2 v2 l s t :=
  ⟨h.r.keeps k h1, h.u.keeps k h2 h3, h.ne, h.s1, h.s2, h.s3, fun j hj => Nat.lt_of_lt_of_le (h.l1 j hj) k.size, fun j hj => Nat.lt_of_lt_of_le (h.l2 j hj) k.size⟩
theorem hash_eq (l : List UInt8) (hl : l.length = 32) (w : World) : (Op.equalIn 10000 44 (.agg (B l).toArray) (.agg (B l).toArray)).run Try.prog w = .ok true w := by
  obtain ⟨i0, hi, _, _, _⟩ := info_parts u8_info0
  have := run_equalIn_bytes (P := Try.prog) (t := 44) (e := 5) (n := 32) Try.underlying44 hi (by kernel_rfl) Try.underlying5 (by kernel_rfl) 9998 l l w hl hl
  simpa using this
theorem hash_guard : Try.prog.eqGuardType Try.prog.depth 44 = false := by kernel_rfl

set_option maxRecDepth 100000 in
set_option maxHeartbeats 8000000 in
theorem reads_ok (b : Nat) (v fp : Value) (b2 : Nat) (v2 : Value) (l : List UInt8) (s : RS) (x : Th) (w : World) (h : Pair w b v fp b2 v2 l s s) (hll : l.length ≤ 100000000) (hx : x.Ok) :
    Calls Try.prog 22 #[.pointer (some ⟨b, 0, none⟩), .pointer (some ⟨b2, 0, none⟩), .agg x.cs.toArray] w (RdsPost b v b2 v2 l (rdStep l s x) w) := by
  have hkA : Keeps Nob w (w.alloc (.cells x.cs.toArray 46)) := (Keeps.refl _ _).alloc _
  have hpA := h.keeps hkA
  have hbx := heap_alloc_new w (.cells x.cs.toArray 46)
  have hA : ∀ W, Keeps (Two b b2) (w.alloc (.cells x.cs.toArray 46)) W → W.heap[w.heap.size]? = some (.cells x.cs.toArray 46 (0, 0)) := fun W hW => (hW.block _ (lt_of_block hbx) (fun e => by
    have h1 := h.r.lt; have h2 := h.u.lt; rcases e with e | e <;> omega)).trans hbx
  have c0 : (w.alloc (.cells x.cs.toArray 46)).cell? ⟨w.heap.size, 0, none⟩ = some (.int .i64 x.kind) := (cell_of_row _ _ 0 _ _ _ hbx).trans (by simpa using hx.c0)
  have c1 : (w.alloc (.cells x.cs.toArray 46)).cell? ⟨w.heap.size, 1, none⟩ = some (.int .i64 x.int) := (cell_of_row _ _ 1 _ _ _ hbx).trans (by simpa using hx.c1)
  have hm1 : ∀ W, Keeps (Two b b2) (w.alloc (.cells x.cs.toArray 46)) W → W.cell? ⟨w.heap.size, 1, none⟩ = some (.int .i64 x.int) := fun W hW => (cell_of_row W _ 1 _ _ _ (hA W hW)).trans (by simpa using hx.c1)
  have hm2 : ∀ W, Keeps (Two b b2) (w.alloc (.cells x.cs.toArray 46)) W → W.cell? ⟨w.heap.size, 2, none⟩ = some (.int .i64 x.least) := fun W hW => (cell_of_row W _ 2 _ _ _ (hA W hW)).trans (by simpa using hx.c2)
  have hm6 : ∀ W, Keeps (Two b b2) (w.alloc (.cells x.cs.toArray 46)) W → W.cell? ⟨w.heap.size, 37, none⟩ = some (.int .i64 x.errno) := fun W hW => (cell_of_row W _ 37 _ _ _ (hA W hW)).trans (by simpa using hx.c37)
  have c6 := hm6 _ (Keeps.refl _ _)
  have HM1 := Lib.hid hm1
  have HM2 := Lib.hid hm2
  have HM6 := Lib.hid hm6
  have HPA := Lib.hid hpA
  have HKA := Lib.hid hkA
  have hlt := h.r.lt
  have hlt2 := h.u.lt
  obtain ⟨bi1, bi2⟩ := hx.bi
  obtain ⟨bl1, bl2⟩ := hx.bl
  have hst : ∀ st, rdStep l s x = st → Calls Try.prog 22 #[.pointer (some ⟨b, 0, none⟩), .pointer (some ⟨b2, 0, none⟩), .agg x.cs.toArray] w (RdsPost b v b2 v2 l st w) := by
    intro st hst
    clear h hm1 hm2 hm6 hpA hkA hA hbx
    unfold rdStep at hst
    by_cases k0 : x.kind = 0
    · rw [if_pos k0] at hst
      rw [k0] at c0
      subst hst
      clear k0
      go_enter Try.func22, Try.ntmps22
      go_wp2_with (first
        | (go_at_call 38; refine (rU_ok b v fp l s _ HPA.out.r).mono ?_; rintro e w1 ⟨rfl, ⟨fp', h1, h2⟩, h3⟩; have J1 := Lib.hid (HPA.out.prog h1 h2 h3); have J3 := Lib.hid h3; clear h1 h2 h3)
        | (go_at_call 52; refine (rrU_ok b2 v2 l s _ J1.out.u).mono ?_; rintro e w2 ⟨rfl, h1, h3⟩; have J2 := Lib.hid (J1.out.ref h1 h3); have J4 := Lib.hid h3; clear h1 h3))
      go_ret
      exact ⟨rfl, ⟨_, J2.out⟩, (HKA.out.mono (fun _ _ e => e.elim)).trans ((two_l J3.out).trans (two_r J4.out))⟩
    rw [if_neg k0] at hst
    have d0 : (x.kind == 0) = false := by simpa using k0
    by_cases k1 : x.kind = 1
    · rw [if_pos k1] at hst
      rw [k1] at c0
      subst hst
      clear k0 k1 d0
      go_enter Try.func22, Try.ntmps22
      go_wp2
      refine reads_region (by kernel_rfl) b b2 w.heap.size x.int x.least (rdN l s x.least x.int).1 (Two b b2) (fun W => Pair W b v fp b2 v2 l s s) (fun W => ∃ fp', Pair W b v fp' b2 v2 l (rdN l s x.least x.int).2 s) (fun W => ∃ fp', Pair W b v fp' b2 v2 l (rdN l s x.least x.int).2 (rdN l s x.least x.int).2) _ HM1.out HM2.out (HPA.out.keeps ((Keeps.refl _ _).drew)) (fun W hW => (rN_ok b v fp l s x.least x.int W hW.r ⟨bl1, bl2⟩ ⟨bi1, bi2⟩).mono (by
        rintro e W' ⟨rfl, ⟨fp', h1, h2⟩, h3⟩
        exact ⟨rfl, ⟨fp', hW.prog h1 h2 h3⟩, two_l h3⟩)) (fun W ⟨fp', hW⟩ => (rrN_ok b2 v2 l s x.least x.int W hW.u ⟨bl1, bl2⟩ ⟨bi1, bi2⟩).mono (by
        rintro e W' ⟨rfl, h1, h3⟩
        exact ⟨rfl, ⟨fp', hW.ref h1 h3⟩, two_r h3⟩)) _ ?_
      intro W hW hP
      have HP := Lib.hid hP
      clear hP
      go_wp2
      go_ret
      exact ⟨rfl, HP.out, (HKA.out.mono (fun _ _ e => e.elim)).trans hW⟩
    rw [if_neg k1] at hst
    have d1 : (x.kind == 1) = false := by simpa using k1
    by_cases k2 : x.kind = 2
    · rw [if_pos k2] at hst
      rw [k2] at c0
      subst hst
      have hlen : (rdH l s).1.length = 32 := by
        unfold rdH; dsimp only; split
        · exact hashOf_length _
        · simp
      have he := fun W => hash_eq (rdH l s).1 hlen W
      have hg := hash_guard
      have HU := fun W hW => rHash_ok b v fp l s W hW hll
      have HV := fun W hW => rrHash_ok b2 v2 l s W hW hll
      unfold RHPost at HU
      obtain ⟨Y, hY⟩ : ∃ Y, (B (rdH l s).1).toArray = Y := ⟨_, rfl⟩
      rw [hY] at he HU HV
      have HUH := Lib.hid HU
      have HVH := Lib.hid HV
      clear k0 k1 k2 d0 d1 hlen hY HU HV
      go_enter Try.func22, Try.ntmps22
      go_wp2_with (first
        | (go_at_call 41; refine (HUH.out _ HPA.out.r).mono ?_; rintro e w1 ⟨rfl, ⟨fp', h1, h2⟩, h3⟩; have J1 := Lib.hid (HPA.out.prog h1 h2 h3); have J3 := Lib.hid h3; clear h1 h2 h3)
        | (go_at_call 54; refine (HVH.out _ J1.out.u).mono ?_; rintro e w2 ⟨rfl, h1, h3⟩; have J2 := Lib.hid (J1.out.ref h1 h3); have J4 := Lib.hid h3; clear h1 h3))
      go_ret
      exact ⟨rfl, ⟨_, J2.out⟩, (HKA.out.mono (fun _ _ e => e.elim)).trans ((two_l J3.out).trans (two_r J4.out))⟩
    rw [if_neg k2] at hst
    have d2 : (x.kind == 2) = false := by simpa using k2
    by_cases k3 : x.kind = 3
    · rw [if_pos k3] at hst
      rw [k3] at c0
      subst hst
      have HU := Lib.hid (rBlob_ok b v fp l s x.int _ HPA.out.r hll ⟨bi1, bi2⟩)
      have HV := Lib.hid (fun W hW => rrBlob_ok b2 v2 l s x.int W hW hll ⟨bi1, bi2⟩)
      unfold BlPost at HV
      obtain ⟨⟨bs, s1⟩, hr⟩ : ∃ r, rdB l s x.int = r := ⟨_, rfl⟩
      rw [hr] at HU HV ⊢
      simp only at HU HV ⊢
      clear k0 k1 k2 k3 d0 d1 d2 hr
      go_enter Try.func22, Try.ntmps22
      go_wp2_with (first
        | (go_at_call 37; refine HU.out.mono ?_; rintro e w1 ⟨X, rfl, hrow, ⟨fp', h1, h2, h5⟩, h3⟩; have RX := Lib.hid hrow; have FX := Lib.hid h5; have J1 := Lib.hid (HPA.out.prog h1 h2 h3); have J3 := Lib.hid h3; have q1 := HM1.out w1 (two_l h3); clear h1 h2 h3 h5 hrow)
        | (go_at_call 55; refine (HV.out _ J1.out.u).mono ?_; rintro e w2 ⟨X2, rfl, ⟨hrow2, hfr2⟩, h1, h3⟩; have J2 := Lib.hid (J1.out.ref h1 h3); have RX2 := Lib.hid hrow2; have J4 := Lib.hid h3; have RX3 := Lib.hid (RX.out.keeps h3 (fun j hj (e : j = b2) => by have := (FX.out j hj).1; simp at this; omega)); clear h1 h3 hrow2 hfr2)
        | (go_at_call 15; refine (sameBytes_ok _ _ _ _ _ (Row.bytes RX3.out) (Row.bytes RX2.out)).mono ?_; rintro e w3 ⟨rfl, rfl⟩)
        | (go_at_call 17; refine (overBytes_ok X bs _ RX3.out).mono ?_; rintro e w3 ⟨⟨r, rfl⟩, hk⟩; have J5 := Lib.hid hk; clear hk))
      go_ret
      have hb0 := HPA.out.blk
      have hb2 := HPA.out.u.lt
      have hl2 := HPA.out.l2
      refine ⟨by simp, ⟨_, J2.out.keepsW J5.out (fun j hj hX => ?_) (fun hX => ?_) (fun j hj hX => ?_)⟩, ?_⟩
      · have := (FX.out j hX)
        rcases hj with hj | hj | hj
        · have := hb0 j (.inl hj); omega
        · have := hb0 j (.inr (.inl hj)); omega
        · exact this.2 hj
      · have := (FX.out _ hX).1; omega
      · have := (FX.out _ hX).1; have := hl2 j hj; omega
      · refine ((HKA.out.mono (fun _ _ e => e.elim)).trans ((two_l J3.out).trans (two_r J4.out))).then J5.out (fun i hi hX => ?_)
        have := (FX.out _ hX).1; have := HKA.out.size; omega
    rw [if_neg k3] at hst
    have d3 : (x.kind == 3) = false := by simpa using k3
    by_cases k4 : x.kind = 4
    · rw [if_pos k4] at hst
      rw [k4] at c0
      subst hst
      clear k0 k1 k2 k3 k4 d0 d1 d2 d3
      go_enter Try.func22, Try.ntmps22
      go_wp2_with (first
        | (go_at_call 40; refine (rFail_ok b v fp l s x.errno x.int _ HPA.out.r).mono ?_; rintro e w1 ⟨⟨r, rfl⟩, ⟨fp', h1, h2⟩, h3⟩; have J1 := Lib.hid (HPA.out.prog h1 h2 h3); have J3 := Lib.hid h3; have q1 := HM1.out w1 (two_l h3); have q6 := HM6.out w1 (two_l h3); clear h1 h2 h3)
        | (go_at_call 56; refine (rrFail_ok b2 v2 l s x.errno x.int _ J1.out.u).mono ?_; rintro e w2 ⟨⟨r2, rfl⟩, h1, h3⟩; have J2 := Lib.hid (J1.out.ref h1 h3); have J4 := Lib.hid h3; clear h1 h3))
      go_ret
      exact ⟨rfl, ⟨_, J2.out⟩, (HKA.out.mono (fun _ _ e => e.elim)).trans ((two_l J3.out).trans (two_r J4.out))⟩
    · rw [if_neg k4] at hst
      subst hst
      have d4 : (x.kind == 4) = false := by simpa using k4
      clear k0 k1 k2 k3 k4
      go_enter Try.func22, Try.ntmps22
      go_wp2
      go_ret
      exact ⟨rfl, ⟨_, HPA.out⟩, HKA.out.mono (fun _ _ e => e.elim)⟩
  exact hst _ rfl
end Go.Proofs.Ytbdjphaiohinnaa
