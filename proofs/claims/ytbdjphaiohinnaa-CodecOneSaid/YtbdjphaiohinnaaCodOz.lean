/-
  Codec: the walk of CodecOne. Conditions: none.
-/
import Derived.Test.YtbdjphaiohinnaaCodOx
import Derived.Test.YtbdjphaiohinnaaCodBk
namespace Go.Proofs.Ytbdjphaiohinnaa
open Go Go.RowKit Go.Own Go.Shelf

/-- At the head of a round. -/
def OneAt (w V : World) (b c : Nat) (l : List UInt8) (p : Nat) : Prop := p ≤ l.length ∧ RW w V b c l ⟨0, (p : Int)⟩ ⟨1048576, l.take p, 0⟩
theorem one_add (l : List UInt8) (p q : Nat) (bs : List UInt8) (hl : l.length ≤ 400) (h : l.take q = l.take p ++ bs) : (⟨1048576, l.take p, 0⟩ : WS).add bs = ⟨1048576, l.take q, 0⟩ := by
  have h1 := congrArg List.length h
  rw [List.length_append, List.length_take, List.length_take] at h1
  rw [h]
  exact add_ok _ _ rfl (by simp only [List.length_take]; omega)
/-- Done, where nothing stands against it. -/
theorem done_ok {w V : World} {b c : Nat} {l : List UInt8} {s : RS} {bs : List UInt8} (h : RW w V b c l s ⟨1048576, bs, 0⟩) : Calls Try.prog 35 #[.pointer (some ⟨c, 0, none⟩)] V fun e V' => ∃ A n cap, e = .returned (.tuple #[.slice A n cap, .int .i64 0]) ∧ BytesAt V' (.slice A n cap) bs ∧ Keeps Nob V V' := by
  refine h.done.mono ?_
  rintro e V' ⟨X, rfl, ⟨hX, -⟩, hk⟩
  simp only [if_true] at hX
  have hB := Row.bytes hX
  obtain ⟨A, cap, rfl⟩ := hB.len
  exact ⟨A, _, cap, rfl, hB, hk⟩

/-- The fault of a read is told: the round ends. -/
def OneBad (w V : World) (b c : Nat) (l : List UInt8) (p : Nat) : Prop := p ≤ l.length ∧ ∃ s, s.err ≠ 0 ∧ s.pos = (p : Int) ∧ RW w V b c l s ⟨1048576, l.take p, 0⟩
set_option maxRecDepth 100000 in
set_option maxHeartbeats 16000000 in
theorem codecOne_ok (v : Value) (l : List UInt8) (v1 : Value) (ks : List Int) (w : World) (hv : BytesAt w v l) (h1 : IntsAt w v1 ks) :
    Calls Try.prog 8 #[v, v1] w fun e w' => e = .returned (.bool true) ∧ Keeps Nob w w' := by
  have HK := Lib.hid (fun W => known_ok W)
  obtain ⟨A, cap, rfl, hcl, hcm, -⟩ := hv.form
  unfold maxLen at hcm
  obtain ⟨a1, cap1, rfl⟩ := h1.len
  have HV := Lib.hid hv
  have H1 := Lib.hid h1
  obtain ⟨n1, hn1⟩ : ∃ n1, ks.length = n1 := ⟨_, rfl⟩
  rw [hn1] at H1 ⊢
  have HN1 := Lib.hid hn1
  clear hv h1 hn1
  by_cases g1 : 400 < l.length
  · have d1 : decide ((400 : Int) < (l.length : Int)) = true := by simp; omega
    clear g1
    go_enter Try.func8, Try.ntmps8
    go_wp2_with (go_at_call 5; refine (HK.out _).mono ?_; rintro e w1 ⟨rfl, hk⟩)
    go_ret
    exact ⟨rfl, hk⟩
  have d1 : decide ((400 : Int) < (l.length : Int)) = false := by simp; omega
  by_cases g2 : 40 < n1
  · have d2 : decide ((40 : Int) < (n1 : Int)) = true := by simp; omega
    clear g2
    go_enter Try.func8, Try.ntmps8
    go_wp2_with (go_at_call 5; refine (HK.out _).mono ?_; rintro e w1 ⟨rfl, hk⟩)
    go_ret
    exact ⟨rfl, hk⟩
  have d2 : decide ((40 : Int) < (n1 : Int)) = false := by simp; omega
  go_enter Try.func8, Try.ntmps8
  go_wp2_with (first
    | (go_at_call 5; refine (HK.out _).mono ?_; rintro e w1 ⟨rfl, hk⟩; have KC := Lib.hid hk; clear hk)
    | (go_at_call 20; refine (rd_new _ l _ (HV.out.keepsN KC.out) (by omega)).mono ?_; rintro e w2 ⟨b, F, rfl, hR, hg, hk⟩; have HR := Lib.hid hR; have HG := Lib.hid (hg.keeps KC.out); have KC := Lib.hid (KC.out.trans hk); clear hR hg hk)
    | (go_at_call 31; refine (wr_new 1048576 _ (by decide) (by decide)).mono ?_; rintro e w3 ⟨c, G, rfl, hW, hg, hk⟩; have HRW : Hid (OneAt w w3 b c l 0) := Lib.hid ⟨Nat.zero_le _, F, G, HR.out.keepsN hk, hW, (hg.dis HR.out.lt).symm, HG.out, hg.keeps KC.out, KC.out.trans hk⟩; clear hW hg hk))
  clear HR HG KC
  go_loopw [9] (fun i V => ∃ k p : Nat, k ≤ n1 ∧ i = .int .i64 k ∧ Hid (OneAt w V b c l p)) (fun i _ => n1 - (intOf i).toNat)
  case atStart => exact ⟨0, 0, Nat.zero_le _, rfl, HRW⟩
  case round =>
    obtain ⟨k, p, hk, rfl, HO⟩ := hrel
    clear HRW
    obtain ⟨hp, hrw⟩ := HO.out
    have HRW := Lib.hid hrw
    clear hrw HO
    by_cases hlt : k < n1
    · -- ROUND
      obtain ⟨x, hx⟩ : ∃ x, ks[k]? = some x := ⟨_, List.getElem?_eq_getElem (by have := HN1.out; omega)⟩
      obtain ⟨bx1, bx2, b1, o, cap', hv1, hb1, hc1⟩ := (H1.out.keeps HRW.out.keep).at_ k x hx
      simp only [Value.slice.injEq] at hv1
      obtain ⟨rfl, -, rfl⟩ := hv1
      have hd : decide ((k : Int) < (n1 : Int)) = true := by simp; omega
      have dp : decide ((p : Int) ≤ (l.length : Int)) = true := by simp; omega
      have dp2 : decide (p ≤ l.length) = true := by simp; omega
      obtain ⟨r, hr⟩ : ∃ r, x % 3 = r := ⟨_, rfl⟩
      have HPK : Hid (∀ W, Calls Try.prog 45 #[.int .i64 x, .int .i64 3] W fun e w' => e = .returned (.int .i64 r) ∧ W = w') := Lib.hid (fun W => by
        have := pick_ok x 3 W ⟨bx1, bx2⟩ (by decide)
        rw [if_neg (by decide), hr] at this; exact this)
      have hr3 : r = 0 ∨ r = 1 ∨ r = 2 := by omega
      have RC := HRW
      clear hx hr hb1
      rcases hr3 with rfl | rfl | rfl
      · rcases one_u l p hp with ⟨he, hpos⟩ | ⟨n, q, hn, hpq, hql, e1, e2⟩
        · obtain ⟨⟨vv, s2⟩, hr2⟩ : ∃ r, rdU l ⟨0, (p : Int)⟩ = r := ⟨_, rfl⟩
          have HRD := Lib.hid (HRW.out.u)
          rw [hr2] at he hpos HRD
          simp only at he hpos HRD
          have e2 : s2.left l = 0 := by unfold RS.left; rw [if_neg he]
          have FA : Hid (∀ W t, RW w W b c l s2 t → Calls Try.prog 47 #[.pointer (some ⟨b, 0, none⟩)] W fun e w' => e = .returned (.bool true) ∧ Keeps Nob W w') := Lib.hid (fun W t h => by
            have := h.faulty (fun h0 => absurd h0 he) (by omega)
            rw [show decide (s2.err ≠ 0) = true by simpa using he] at this; exact this)
          have AT : Hid (∀ W t, RW w W b c l s2 t → Calls Try.prog 23 #[.pointer (some ⟨b, 0, none⟩)] W fun e w' => e = .returned (.int .i64 (p : Int)) ∧ W = w') := Lib.hid (fun W t h => by
            have := h.at_; rw [hpos] at this; exact this)
          have LF : Hid (∀ W t, RW w W b c l s2 t → Calls Try.prog 25 #[.pointer (some ⟨b, 0, none⟩)] W fun e w' => e = .returned (.int .i64 0) ∧ ∃ n, w' = W.drewN n) := Lib.hid (fun W t h => by
            have := h.left; rw [e2] at this; exact this)
          clear he hpos hr2 e2
          go_wp2_with (first
            | (go_at_call 23; first | (refine (AT.out _ _ RC.out).mono ?_; rintro e w9 ⟨rfl, rfl⟩) | (refine RC.out.at_.mono ?_; rintro e w9 ⟨rfl, rfl⟩))
            | (go_at_call 45; refine (HPK.out _).mono ?_; rintro e w4 ⟨rfl, rfl⟩)
            | (go_at_call 38; refine HRD.out.mono ?_; rintro e w4 ⟨rfl, hr4⟩; have RC := Lib.hid hr4; clear hr4)
            | (go_at_call 47; refine (FA.out _ _ RC.out).mono ?_; rintro e w5 ⟨rfl, hk5⟩; have RC := Lib.hid (RC.out.nob hk5); clear hk5)
            | (go_at_call 35; refine (done_ok RC.out).mono ?_; rintro e w6 ⟨AX, nX, cX, rfl, hX, hk6⟩; have BX := Lib.hid hX; have RC := Lib.hid (RC.out.nob hk6); clear hX hk6)
            | (go_at_call 15; refine (sameBytes_ok _ _ (l.take p) (l.take p) _ BX.out ((HV.out.keepsN RC.out.keep).take p hp _ _ _ rfl)).mono ?_; rintro e w8 ⟨rfl, rfl⟩)
            | (go_at_call 25; refine (LF.out _ _ RC.out).mono ?_; rintro e w7 ⟨rfl, n7, rfl⟩))
          go_ret
          exact ⟨rfl, RC.out.keep.drewN _⟩
        · have HRD := Lib.hid (HRW.out.u)
          rw [e1] at HRD
          simp only at HRD
          have HAD := Lib.hid (one_add l p q (Cod.enc n) (by omega) e2)
          have FA : Hid (∀ W t, RW w W b c l ⟨0, (q : Int)⟩ t → Calls Try.prog 47 #[.pointer (some ⟨b, 0, none⟩)] W fun e w' => e = .returned (.bool false) ∧ Keeps Nob W w') := Lib.hid (fun W t h => h.faulty (fun _ => by simp only; omega) (by omega))
          skip
          clear e1 e2
          go_wp2_with (first
            | (go_at_call 23; refine RC.out.at_.mono ?_; rintro e w9 ⟨rfl, rfl⟩)
            | (go_at_call 45; refine (HPK.out _).mono ?_; rintro e w4 ⟨rfl, rfl⟩)
            | (go_at_call 38; refine HRD.out.mono ?_; rintro e w4 ⟨rfl, hr4⟩; have RC := Lib.hid hr4; clear hr4)
            | (go_at_call 47; refine (FA.out _ _ RC.out).mono ?_; rintro e w5 ⟨rfl, hk5⟩; have RC := Lib.hid (RC.out.nob hk5); clear hk5)
            | (go_at_call 34; have hw := RC.out.w_ (fun G hG => hG.u n hn); rw [HAD.out] at hw; refine hw.mono ?_; clear hw; rintro e w6 ⟨rfl, hr6⟩; have RC := Lib.hid hr6; clear hr6))
          go_roundw
          case rel => exact ⟨k + 1, q, by omega, by go_num, Lib.hid ⟨hql, RC.out⟩⟩
          case measure => simp [intOf]; omega
      · rcases one_h l p hp with ⟨he, hpos⟩ | ⟨xb, q, hxb, hpq, hql, e1, e2⟩
        · obtain ⟨⟨vv, s2⟩, hr2⟩ : ∃ r, rdH l ⟨0, (p : Int)⟩ = r := ⟨_, rfl⟩
          have HRD := Lib.hid (HRW.out.hash (by omega))
          rw [hr2] at he hpos HRD
          simp only at he hpos HRD
          have hl32 : vv.length = 32 := by
            have : (rdH l ⟨0, (p : Int)⟩).1.length = 32 := by
              unfold rdH; dsimp only; split
              · exact hashOf_length _
              · simp
            rw [hr2] at this; exact this
          have hone := B_oneA vv
          have hosz : (B vv).toArray.size = 32 := by simp [B_length]; exact hl32
          have HOI : Hid ((Try.prog.info? 44).map (·.size) = some (B vv).toArray.size) := Lib.hid (by rw [hosz]; exact hash_info)
          have HONE := Lib.hid hone
          have HOSZ := Lib.hid hosz
          clear hone hosz
          obtain ⟨X, hX⟩ : ∃ X, (B vv).toArray = X := ⟨_, rfl⟩
          rw [hX] at HRD HOI HONE HOSZ
          clear hX hl32
          have e2 : s2.left l = 0 := by unfold RS.left; rw [if_neg he]
          have FA : Hid (∀ W t, RW w W b c l s2 t → Calls Try.prog 47 #[.pointer (some ⟨b, 0, none⟩)] W fun e w' => e = .returned (.bool true) ∧ Keeps Nob W w') := Lib.hid (fun W t h => by
            have := h.faulty (fun h0 => absurd h0 he) (by omega)
            rw [show decide (s2.err ≠ 0) = true by simpa using he] at this; exact this)
          have AT : Hid (∀ W t, RW w W b c l s2 t → Calls Try.prog 23 #[.pointer (some ⟨b, 0, none⟩)] W fun e w' => e = .returned (.int .i64 (p : Int)) ∧ W = w') := Lib.hid (fun W t h => by
            have := h.at_; rw [hpos] at this; exact this)
          have LF : Hid (∀ W t, RW w W b c l s2 t → Calls Try.prog 25 #[.pointer (some ⟨b, 0, none⟩)] W fun e w' => e = .returned (.int .i64 0) ∧ ∃ n, w' = W.drewN n) := Lib.hid (fun W t h => by
            have := h.left; rw [e2] at this; exact this)
          clear he hpos hr2 e2
          go_wp2_with (first
            | (go_at_call 23; first | (refine (AT.out _ _ RC.out).mono ?_; rintro e w9 ⟨rfl, rfl⟩) | (refine RC.out.at_.mono ?_; rintro e w9 ⟨rfl, rfl⟩))
            | (go_at_call 45; refine (HPK.out _).mono ?_; rintro e w4 ⟨rfl, rfl⟩)
            | (go_at_call 41; refine HRD.out.mono ?_; rintro e w4 ⟨rfl, hr4⟩; have RC := Lib.hid hr4; clear hr4)
            | (refine own_alloc rfl 44 rfl (hash_zero2 _) ?_)
            | (refine wpList_store_row rfl 44 _ _ rfl w4.heap.size X rfl rfl 44 hashZ (heap_alloc_new w4 _) HOI.out (by rw [HOSZ.out]; rfl) HONE.out ?_; have hkN : Keeps (One w4.heap.size) w4 ((w4.alloc (.cells hashZ 44)).setRow w4.heap.size X) := ((Keeps.refl (One w4.heap.size) w4).alloc (.cells hashZ 44)).setRow (g := w4.heap.size) (fun _ => rfl) X; have RC := Lib.hid (RC.out.new hkN (fun j (hj : j = w4.heap.size) => by omega)); have HZ := Lib.hid (setRow_heap _ w4.heap.size _ X _ _ (heap_alloc_new w4 (.cells hashZ 44))); clear hkN)
            | (go_at_call 47; refine (FA.out _ _ RC.out).mono ?_; rintro e w5 ⟨rfl, hk5⟩; have RC := Lib.hid (RC.out.nob hk5); clear hk5)
            | (go_at_call 35; refine (done_ok RC.out).mono ?_; rintro e w6 ⟨AX, nX, cX, rfl, hX, hk6⟩; have BX := Lib.hid hX; have RC := Lib.hid (RC.out.nob hk6); clear hX hk6)
            | (go_at_call 15; refine (sameBytes_ok _ _ (l.take p) (l.take p) _ BX.out ((HV.out.keepsN RC.out.keep).take p hp _ _ _ rfl)).mono ?_; rintro e w8 ⟨rfl, rfl⟩)
            | (go_at_call 25; refine (LF.out _ _ RC.out).mono ?_; rintro e w7 ⟨rfl, n7, rfl⟩))
          go_ret
          exact ⟨rfl, RC.out.keep.drewN _⟩
        · have HRD := Lib.hid (HRW.out.hash (by omega))
          rw [e1] at HRD
          simp only at HRD
          have HAD := Lib.hid (one_add l p q xb (by omega) e2)
          have FA : Hid (∀ W t, RW w W b c l ⟨0, (q : Int)⟩ t → Calls Try.prog 47 #[.pointer (some ⟨b, 0, none⟩)] W fun e w' => e = .returned (.bool false) ∧ Keeps Nob W w') := Lib.hid (fun W t h => h.faulty (fun _ => by simp only; omega) (by omega))
          have hl32 := hxb
          have hone := B_oneA xb
          have hosz : (B xb).toArray.size = 32 := by simp [B_length]; exact hl32
          have HOI : Hid ((Try.prog.info? 44).map (·.size) = some (B xb).toArray.size) := Lib.hid (by rw [hosz]; exact hash_info)
          have HONE := Lib.hid hone
          have HOSZ := Lib.hid hosz
          clear hone hosz
          have hwh := fun (W : World) (G : Nat → Prop) (hG : Wr W G c ⟨1048576, l.take p, 0⟩) => hG.hash xb hxb
          obtain ⟨X, hX⟩ : ∃ X, (B xb).toArray = X := ⟨_, rfl⟩
          rw [hX] at HRD HOI HONE HOSZ hwh
          have HWH := Lib.hid hwh
          clear hX hwh hl32
          clear e1 e2
          go_wp2_with (first
            | (go_at_call 23; refine RC.out.at_.mono ?_; rintro e w9 ⟨rfl, rfl⟩)
            | (go_at_call 45; refine (HPK.out _).mono ?_; rintro e w4 ⟨rfl, rfl⟩)
            | (go_at_call 41; refine HRD.out.mono ?_; rintro e w4 ⟨rfl, hr4⟩; have RC := Lib.hid hr4; clear hr4)
            | (refine own_alloc rfl 44 rfl (hash_zero2 _) ?_)
            | (refine wpList_store_row rfl 44 _ _ rfl w4.heap.size X rfl rfl 44 hashZ (heap_alloc_new w4 _) HOI.out (by rw [HOSZ.out]; rfl) HONE.out ?_; have hkN : Keeps (One w4.heap.size) w4 ((w4.alloc (.cells hashZ 44)).setRow w4.heap.size X) := ((Keeps.refl (One w4.heap.size) w4).alloc (.cells hashZ 44)).setRow (g := w4.heap.size) (fun _ => rfl) X; have RC := Lib.hid (RC.out.new hkN (fun j (hj : j = w4.heap.size) => by omega)); have HZ := Lib.hid (setRow_heap _ w4.heap.size _ X _ _ (heap_alloc_new w4 (.cells hashZ 44))); clear hkN)
            | (go_at_call 47; refine (FA.out _ _ RC.out).mono ?_; rintro e w5 ⟨rfl, hk5⟩; (try (have HZ := Lib.hid ((hk5.block _ (lt_of_block HZ.out) (fun x => x)).trans HZ.out))); have RC := Lib.hid (RC.out.nob hk5); clear hk5)
            | (go_at_call 39; have hw := RC.out.w_ (fun G hG => HWH.out _ G hG); rw [HAD.out] at hw; refine hw.mono ?_; clear hw; rintro e w6 ⟨rfl, hr6⟩; have RC := Lib.hid hr6; clear hr6)
            | (refine wpList_load_row rfl 44 _ rfl w4.heap.size rfl 44 X (0, 0) _ HZ.out Try.underlying44 rfl HOI.out ?_))
          go_roundw
          case rel => exact ⟨k + 1, q, by omega, by go_num, Lib.hid ⟨hql, RC.out⟩⟩
          case measure => simp [intOf]; omega
      · rcases one_b l p 400 hp with ⟨he, hpos⟩ | ⟨xb, q, hpq, hql, e1, e2⟩
        · obtain ⟨⟨vv, s2⟩, hr2⟩ : ∃ r, rdB l ⟨0, (p : Int)⟩ 400 = r := ⟨_, rfl⟩
          have HRD := Lib.hid (HRW.out.blob (by omega) 400 (by decide))
          rw [hr2] at he hpos HRD
          simp only at he hpos HRD
          have e2 : s2.left l = 0 := by unfold RS.left; rw [if_neg he]
          have FA : Hid (∀ W t, RW w W b c l s2 t → Calls Try.prog 47 #[.pointer (some ⟨b, 0, none⟩)] W fun e w' => e = .returned (.bool true) ∧ Keeps Nob W w') := Lib.hid (fun W t h => by
            have := h.faulty (fun h0 => absurd h0 he) (by omega)
            rw [show decide (s2.err ≠ 0) = true by simpa using he] at this; exact this)
          have AT : Hid (∀ W t, RW w W b c l s2 t → Calls Try.prog 23 #[.pointer (some ⟨b, 0, none⟩)] W fun e w' => e = .returned (.int .i64 (p : Int)) ∧ W = w') := Lib.hid (fun W t h => by
            have := h.at_; rw [hpos] at this; exact this)
          have LF : Hid (∀ W t, RW w W b c l s2 t → Calls Try.prog 25 #[.pointer (some ⟨b, 0, none⟩)] W fun e w' => e = .returned (.int .i64 0) ∧ ∃ n, w' = W.drewN n) := Lib.hid (fun W t h => by
            have := h.left; rw [e2] at this; exact this)
          clear he hpos hr2 e2
          go_wp2_with (first
            | (go_at_call 23; first | (refine (AT.out _ _ RC.out).mono ?_; rintro e w9 ⟨rfl, rfl⟩) | (refine RC.out.at_.mono ?_; rintro e w9 ⟨rfl, rfl⟩))
            | (go_at_call 45; refine (HPK.out _).mono ?_; rintro e w4 ⟨rfl, rfl⟩)
            | (go_at_call 37; refine HRD.out.mono ?_; rintro e w4 ⟨X, rfl, hX4, hr4⟩; have BX := Lib.hid hX4; have RC := Lib.hid hr4; clear hX4 hr4)
            | (go_at_call 47; refine (FA.out _ _ RC.out).mono ?_; rintro e w5 ⟨rfl, hk5⟩; have RC := Lib.hid (RC.out.nob hk5); clear hk5)
            | (go_at_call 35; refine (done_ok RC.out).mono ?_; rintro e w6 ⟨AX, nX, cX, rfl, hX, hk6⟩; have BX := Lib.hid hX; have RC := Lib.hid (RC.out.nob hk6); clear hX hk6)
            | (go_at_call 15; refine (sameBytes_ok _ _ (l.take p) (l.take p) _ BX.out ((HV.out.keepsN RC.out.keep).take p hp _ _ _ rfl)).mono ?_; rintro e w8 ⟨rfl, rfl⟩)
            | (go_at_call 25; refine (LF.out _ _ RC.out).mono ?_; rintro e w7 ⟨rfl, n7, rfl⟩))
          go_ret
          exact ⟨rfl, RC.out.keep.drewN _⟩
        · have HRD := Lib.hid (HRW.out.blob (by omega) 400 (by decide))
          rw [e1] at HRD
          simp only at HRD
          have HAD := Lib.hid (one_add l p q (Cod.enc xb.length ++ xb) (by omega) e2)
          have FA : Hid (∀ W t, RW w W b c l ⟨0, (q : Int)⟩ t → Calls Try.prog 47 #[.pointer (some ⟨b, 0, none⟩)] W fun e w' => e = .returned (.bool false) ∧ Keeps Nob W w') := Lib.hid (fun W t h => h.faulty (fun _ => by simp only; omega) (by omega))
          have hxb : xb.length ≤ 400 := by (have := congrArg List.length e2; rw [List.length_append, List.length_append, List.length_take, List.length_take] at this; omega)
          clear e1 e2
          go_wp2_with (first
            | (go_at_call 23; refine RC.out.at_.mono ?_; rintro e w9 ⟨rfl, rfl⟩)
            | (go_at_call 45; refine (HPK.out _).mono ?_; rintro e w4 ⟨rfl, rfl⟩)
            | (go_at_call 37; refine HRD.out.mono ?_; rintro e w4 ⟨X, rfl, hX4, hr4⟩; have BX := Lib.hid hX4; have RC := Lib.hid hr4; clear hX4 hr4)
            | (go_at_call 47; refine (FA.out _ _ RC.out).mono ?_; rintro e w5 ⟨rfl, hk5⟩; (try (have BX := Lib.hid (BX.out.keepsN hk5))); have RC := Lib.hid (RC.out.nob hk5); clear hk5)
            | (go_at_call 33; have hw := RC.out.w_ (fun G hG => hG.blob _ xb BX.out (by omega)); rw [HAD.out] at hw; refine hw.mono ?_; clear hw; rintro e w6 ⟨rfl, hr6⟩; have RC := Lib.hid hr6; clear hr6))
          go_roundw
          case rel => exact ⟨k + 1, q, by omega, by go_num, Lib.hid ⟨hql, RC.out⟩⟩
          case measure => simp [intOf]; omega
      -- END
    · have hd : decide ((k : Int) < (n1 : Int)) = false := by simp; omega
      have dp : decide ((p : Int) ≤ (l.length : Int)) = true := by simp; omega
      have dp2 : decide (p ≤ l.length) = true := by simp; omega
      have el : (⟨0, (p : Int)⟩ : RS).left l = (l.length : Int) - p := by unfold RS.left; rw [if_pos rfl]
      have HL := Lib.hid (fun W (hk : Keeps Nob wr W) => (HRW.out.nob hk).left)
      rw [el] at HL
      clear el
      go_wp2_with (first
        | (go_at_call 35; refine (done_ok HRW.out).mono ?_; rintro e w4 ⟨AX, nX, cX, rfl, hX, hk⟩; have BX := Lib.hid hX; have K4 := Lib.hid hk; clear hX hk)
        | (go_at_call 23; refine (HRW.out.nob K4.out).at_.mono ?_; rintro e w5 ⟨rfl, rfl⟩)
        | (go_at_call 15; refine (sameBytes_ok _ _ (l.take p) (l.take p) _ BX.out ((HV.out.keepsN (HRW.out.keep.trans K4.out)).take p hp _ _ _ rfl)).mono ?_; rintro e w6 ⟨rfl, rfl⟩)
        | (go_at_call 25; refine (HL.out _ K4.out).mono ?_; rintro e w7 ⟨rfl, n7, rfl⟩; have K4 := Lib.hid (K4.out.drewN n7)))
      go_ret
      exact ⟨rfl, HRW.out.keep.trans K4.out⟩
end Go.Proofs.Ytbdjphaiohinnaa
