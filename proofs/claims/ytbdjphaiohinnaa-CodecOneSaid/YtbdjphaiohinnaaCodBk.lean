/-
  Codec: the laws' 'written', 'asked', 'back'. Conditions: none.
-/
import Derived.Test.YtbdjphaiohinnaaCodAr
import Derived.Test.YtbdjphaiohinnaaCodPl
namespace Go.Proofs.Ytbdjphaiohinnaa
open Go Go.RowKit Go.Own Go.Shelf

/-- The fields of a thing that lies in a block of its own. -/
structure ThIn (W : World) (bx : Nat) (x : Th) : Prop where
  blk : W.heap[bx]? = some (.cells x.cs.toArray 46 (0, 0))
theorem ThIn.c (j : Nat) {W : World} {bx : Nat} {x : Th} {u : Value} (h : ThIn W bx x) (hu : x.cs[j]? = some u) : W.cell? ⟨bx, j, none⟩ = some u := (cell_of_row W bx j _ _ _ h.blk).trans (by simpa using hu)
theorem ThIn.hash {W : World} {bx : Nat} {x : Th} (h : ThIn W bx x) (hx : x.Ok) : W.rangeAt bx 4 (B x.hash) := fun j v hj => by
  have hlt : j < 32 := by have := (List.getElem?_eq_some_iff.1 hj).1; rw [B_length, hx.hl] at this; exact this
  rw [← hx.hash, List.getElem?_take_of_lt hlt, List.getElem?_drop] at hj
  exact h.c (4 + j) hj
theorem ThIn.keeps {W W' : World} {M : Nat → Prop} {bx : Nat} {x : Th} (h : ThIn W bx x) (k : Keeps M W W') (hm : ¬ M bx) : ThIn W' bx x := ⟨(k.block bx (lt_of_block h.blk) hm).trans h.blk⟩

/-- What is left of 'written'. -/
def WrdPost (w : World) (F : Nat → Prop) (b : Nat) (t' : WS) (e : Ending) (w' : World) : Prop := e = .returned (.bool true) ∧ ∃ F', Wr w' F' b t' ∧ Step w w' F F'
theorem add_ok (t : WS) (bs : List UInt8) (h0 : t.err = 0) (h : (t.out.length : Int) + bs.length ≤ t.lim) : t.add bs = ⟨t.lim, t.out ++ bs, 0⟩ := by
  unfold WS.add; rw [if_pos h0, if_neg (by omega)]; cases t; simp_all
set_option maxRecDepth 100000 in
set_option maxHeartbeats 4000000 in
theorem written_ok (F : Nat → Prop) (b : Nat) (t : WS) (x : Th) (w : World) (h : Wr w F b t) (hx : x.Ok) (hbv : BytesAt w x.bv x.bytes) (hb : x.bytes.length ≤ 200) (h0 : t.err = 0) (hf : (t.out.length : Int) + (thB x).length ≤ t.lim) :
    Calls Try.prog 43 #[.pointer (some ⟨b, 0, none⟩), .agg x.cs.toArray] w (WrdPost w F b ⟨t.lim, t.out ++ thB x, 0⟩) := by
  have k0 : Keeps Nob w (w.alloc (.cells x.cs.toArray 46)) := (Keeps.refl _ _).alloc _
  have hT : ThIn (w.alloc (.cells x.cs.toArray 46)) w.heap.size x := ⟨heap_alloc_new _ _⟩
  have c0 := hT.c 0 hx.c0
  have c1 := hT.c 1 hx.c1
  have c3 := hT.c 3 hx.c3
  have c5 := hT.c 36 hx.c36
  have hh := hT.hash hx
  have HW := Lib.hid (h.keepsN k0)
  have K0 := Lib.hid k0
  obtain ⟨bi1, bi2⟩ := hx.bi
  obtain ⟨A, cap, hbe⟩ := hbv.len
  have HB := Lib.hid (hbe ▸ hbv.keepsN k0)
  rw [hbe] at c5
  have st0 : Hid (Step w (w.alloc (.cells x.cs.toArray 46)) F F) := Lib.hid (Step.nob k0)
  have hln : ∀ bs, thB x = bs → t.add bs = ⟨t.lim, t.out ++ bs, 0⟩ := fun bs e => add_ok t bs h0 (by rw [← e]; exact hf)
  have HLN := Lib.hid hln
  have HX := Lib.hid hx
  have HH := Lib.hid hh
  clear h k0 hT hbe hln hf hx hbv hh
  by_cases k0 : x.kind = 0
  · have e1 : thB x = Cod.enc x.n := if_pos k0
    rw [e1]
    have hc := Lib.hid (HW.out.u x.n HX.out.bn)
    rw [HLN.out _ e1] at hc
    rw [k0] at c0
    clear e1 k0
    go_enter Try.func43, Try.ntmps43
    go_wp2_with (go_at_call 34; refine hc.out.mono ?_; rintro e w1 ⟨rfl, F1, h1, st⟩; have H1 := Lib.hid h1; have ST := Lib.hid st; clear h1 st)
    go_ret
    exact ⟨rfl, F1, H1.out, st0.out.trans ST.out⟩
  have d0 : (x.kind == 0) = false := by simpa using k0
  by_cases k1 : x.kind = 1
  · rw [k1] at c0
    by_cases hn : x.int < 0
    · have e1 : thB x = [] := by unfold thB; rw [if_neg k0, if_pos k1, if_pos hn]
      rw [e1]
      have e2 : (⟨t.lim, t.out ++ [], 0⟩ : WS) = t := by cases t; simp_all
      rw [e2]
      have hd : decide (x.int < 0) = true := by simpa using hn
      clear e1 e2 k0 k1 hn d0
      go_enter Try.func43, Try.ntmps43
      go_wp2
      go_ret
      exact ⟨rfl, F, HW.out, st0.out⟩
    · have e1 : thB x = Cod.enc x.int.toNat := by unfold thB; rw [if_neg k0, if_pos k1, if_neg hn]
      rw [e1]
      have hc := Lib.hid (HW.out.n x.int (by omega) bi2)
      rw [HLN.out _ e1] at hc
      have hd : decide (x.int < 0) = false := by simpa using hn
      clear e1 k0 k1 hn d0
      go_enter Try.func43, Try.ntmps43
      go_wp2_with (go_at_call 32; refine hc.out.mono ?_; rintro e w1 ⟨rfl, F1, h1, st⟩; have H1 := Lib.hid h1; have ST := Lib.hid st; clear h1 st)
      go_ret
      exact ⟨rfl, F1, H1.out, st0.out.trans ST.out⟩
  have d1 : (x.kind == 1) = false := by simpa using k1
  by_cases k2 : x.kind = 2
  · have e1 : thB x = x.hash := by unfold thB; rw [if_neg k0, if_neg k1, if_pos k2]
    rw [e1]
    have hc := Lib.hid (HW.out.hash x.hash HX.out.hl)
    rw [HLN.out _ e1] at hc
    rw [k2] at c0
    have HI : Hid ((Try.prog.info? 44).map (·.size) = some (B x.hash).length) := Lib.hid (by rw [B_length, HX.out.hl]; exact hash_info)
    clear e1 k0 k1 k2 d0 d1
    go_enter Try.func43, Try.ntmps43
    go_wp2_with (first
      | (refine wpList_load_mid rfl 44 _ rfl w.heap.size 4 rfl (B x.hash) _ HH.out Try.underlying44 rfl HI.out ?_)
      | (go_at_call 39; refine hc.out.mono ?_; rintro e w1 ⟨rfl, F1, h1, st⟩; have H1 := Lib.hid h1; have ST := Lib.hid st; clear h1 st))
    go_ret
    exact ⟨rfl, F1, H1.out, st0.out.trans ST.out⟩
  have d2 : (x.kind == 2) = false := by simpa using k2
  by_cases k3 : x.kind = 3
  · have e1 : thB x = Cod.enc x.bytes.length ++ x.bytes := by unfold thB; rw [if_neg k0, if_neg k1, if_neg k2, if_pos k3]
    rw [e1]
    have hc := Lib.hid (HW.out.blob _ x.bytes HB.out (by omega))
    rw [HLN.out _ e1] at hc
    rw [k3] at c0
    clear e1 k0 k1 k2 k3 d0 d1 d2
    go_enter Try.func43, Try.ntmps43
    go_wp2_with (go_at_call 33; refine hc.out.mono ?_; rintro e w1 ⟨rfl, F1, h1, st⟩; have H1 := Lib.hid h1; have ST := Lib.hid st; clear h1 st)
    go_ret
    exact ⟨rfl, F1, H1.out, st0.out.trans ST.out⟩
  · have e1 : thB x = [] := by unfold thB; rw [if_neg k0, if_neg k1, if_neg k2, if_neg k3]
    rw [e1]
    have e2 : (⟨t.lim, t.out ++ [], 0⟩ : WS) = t := by cases t; simp_all
    rw [e2]
    have d3 : (x.kind == 3) = false := by simpa using k3
    clear e1 e2 k0 k1 k2 k3
    go_enter Try.func43, Try.ntmps43
    go_wp2
    go_ret
    exact ⟨rfl, F, HW.out, st0.out⟩

/-- What is left of 'asked'. -/
def AskPost (w : World) (F : Nat → Prop) (b : Nat) (l : List UInt8) (r : Bool) (s' : RS) (e : Ending) (w' : World) : Prop := e = .returned (.bool r) ∧ ∃ F', Rd w' F' b l s' ∧ Step w w' F F'
set_option maxRecDepth 100000 in
set_option maxHeartbeats 4000000 in
theorem asked_ok (F : Nat → Prop) (b : Nat) (l : List UInt8) (s : RS) (x : Th) (w : World) (h : Rd w F b l s) (hll : l.length ≤ 100000000) (hx : x.Ok) (hbv : BytesAt w x.bv x.bytes) (hdb : ∀ W', Keeps F w W' → BytesAt W' x.bv x.bytes) (hb : x.bytes.length ≤ 200) :
    Calls Try.prog 46 #[.pointer (some ⟨b, 0, none⟩), .agg x.cs.toArray] w (AskPost w F b l (rdIs l s x) (rdAsk l s x)) := by
  have k0 : Keeps Nob w (w.alloc (.cells x.cs.toArray 46)) := (Keeps.refl _ _).alloc _
  have hT : ThIn (w.alloc (.cells x.cs.toArray 46)) w.heap.size x := ⟨heap_alloc_new _ _⟩
  have hnF : ¬ F w.heap.size := fun hf => by have := h.lt _ hf; omega
  have hTK : ∀ W, Keeps F (w.alloc (.cells x.cs.toArray 46)) W → ThIn W w.heap.size x := fun W hk => hT.keeps hk hnF
  have c0 := hT.c 0 hx.c0
  have hR := h.keepsN k0
  obtain ⟨bi1, bi2⟩ := hx.bi
  obtain ⟨A, cap, hbe⟩ := hbv.len
  have HDB : Hid (∀ W', Keeps F w W' → BytesAt W' (.slice A x.bytes.length cap) x.bytes) := Lib.hid (by rw [← hbe]; exact hdb)
  have c36 : Hid (x.cs[36]? = some (.slice A x.bytes.length cap)) := Lib.hid (by rw [← hbe]; exact hx.c36)
  have st0 : Hid (Step w (w.alloc (.cells x.cs.toArray 46)) F F) := Lib.hid (Step.nob k0)
  have HX := Lib.hid hx
  have HR := Lib.hid hR
  have HT := Lib.hid hTK
  clear h k0 hT hbe hx hbv hR hTK hnF hdb
  generalize hW0 : w.alloc (.cells x.cs.toArray 46) = W0 at *
  have HW0 := Lib.hid hW0
  clear hW0
  unfold rdIs rdAsk
  by_cases k0 : x.kind = 0
  · simp only [if_pos k0]
    rw [k0] at c0
    clear k0
    rw [← HW0.out] at c0
    go_enter Try.func46, Try.ntmps46
    go_wp2
    rw [HW0.out]
    refine ask0_region (by kernel_rfl) b w.heap.size F (fun W => Rd W F b l s ∧ Step W0 W F F) (fun W => ∃ F', Rd W F' b l (rdU l s).2 ∧ Step W0 W F F') W0 ⟨HR.out.keepsN (Keeps.refl _ _).drew, Step.nob (Keeps.refl _ _).drew⟩ (rdU l s).1 (x.n : Int) (fun W hW => (HT.out W hW).c 3 HX.out.c3) (fun W hW => hW.1.u.mono (by
      rintro e W' ⟨rfl, F', h1, st⟩
      exact ⟨rfl, ⟨F', h1, hW.2.trans st⟩, st.1⟩)) _ ?_
    intro W hW hP
    have HP := Lib.hid hP
    clear hP
    go_wp2
    go_ret
    obtain ⟨F', h1, st⟩ := HP.out
    exact ⟨rfl, F', h1, st0.out.trans st⟩
  simp only [if_neg k0]
  have d0 : (x.kind == 0) = false := by simpa using k0
  by_cases k1 : x.kind = 1
  · simp only [if_pos k1]
    rw [k1] at c0
    clear k0 k1 d0
    rw [← HW0.out] at c0
    by_cases hn : x.int < 0
    · simp only [if_pos hn]
      have hd : decide (x.int < 0) = true := by simpa using hn
      go_enter Try.func46, Try.ntmps46
      go_wp2
      rw [HW0.out]
      refine ask1a_region (by kernel_rfl) w.heap.size W0 b x.int hd (fun W hW => (HT.out W (hW.mono (fun _ _ x => x.elim))).c 1 HX.out.c1) _ ?_
      intro W hW
      go_wp2
      go_ret
      exact ⟨rfl, F, HR.out.keepsN hW, st0.out.trans (Step.nob hW)⟩
    · simp only [if_neg hn]
      have hd : decide (x.int < 0) = false := by simpa using hn
      go_enter Try.func46, Try.ntmps46
      go_wp2
      rw [HW0.out]
      refine ask1b_region (by kernel_rfl) b w.heap.size F (fun W => Rd W F b l s ∧ Step W0 W F F) (fun W => ∃ F', Rd W F' b l (rdN l s x.int x.int).2 ∧ Step W0 W F F') W0 ⟨HR.out.keepsN (Keeps.refl _ _).drew, Step.nob (Keeps.refl _ _).drew⟩ (rdN l s x.int x.int).1 x.int hd (fun W hW => (HT.out W hW).c 1 HX.out.c1) (fun W hW => (hW.1.n x.int x.int ⟨bi1, bi2⟩ ⟨bi1, bi2⟩).mono (by
        rintro e W' ⟨rfl, F', h1, st⟩
        exact ⟨rfl, ⟨F', h1, hW.2.trans st⟩, st.1⟩)) _ ?_
      intro W hW hP
      have HP := Lib.hid hP
      clear hP
      go_wp2
      go_ret
      obtain ⟨F', h1, st⟩ := HP.out
      exact ⟨rfl, F', h1, st0.out.trans st⟩
  simp only [if_neg k1]
  have d1 : (x.kind == 1) = false := by simpa using k1
  by_cases k2 : x.kind = 2
  · simp only [if_pos k2]
    rw [k2] at c0
    clear k0 k1 k2 d0 d1
    rw [← HW0.out] at c0
    have hlen : (rdH l s).1.length = 32 := by
      unfold rdH; dsimp only; split
      · exact hashOf_length _
      · simp
    have HL := Lib.hid hlen
    clear hlen
    go_enter Try.func46, Try.ntmps46
    go_wp2
    rw [HW0.out]
    refine ask2_region (by kernel_rfl) b w.heap.size F (fun W => Rd W F b l s ∧ Step W0 W F F) (fun W => ∃ F', Rd W F' b l (rdH l s).2 ∧ Step W0 W F F') W0 ⟨HR.out.keepsN (Keeps.refl _ _).drew, Step.nob (Keeps.refl _ _).drew⟩ (rdH l s).1 x.hash HL.out HX.out.hl (fun W hW => (HT.out W hW).hash HX.out) (fun W hW => (hW.1.hash hll).mono (by
      rintro e W' ⟨rfl, F', h1, st⟩
      exact ⟨rfl, ⟨F', h1, hW.2.trans st⟩, st.1⟩)) _ ?_
    intro W hW hP
    have HP := Lib.hid hP
    clear hP
    generalize (B (rdH l s).1).toArray = Y1 at *
    generalize (B x.hash).toArray = Y2 at *
    generalize ((rdH l s).1 == x.hash) = bb at *
    go_wp2
    go_ret
    obtain ⟨F', h1, st⟩ := HP.out
    exact ⟨rfl, F', h1, st0.out.trans st⟩
  simp only [if_neg k2]
  have d2 : (x.kind == 2) = false := by simpa using k2
  by_cases k3 : x.kind = 3
  · simp only [if_pos k3]
    rw [k3] at c0
    clear k0 k1 k2 k3 d0 d1 d2
    rw [← HW0.out] at c0
    go_enter Try.func46, Try.ntmps46
    go_wp2
    rw [HW0.out]
    refine ask3_region (by kernel_rfl) b w.heap.size F (fun W => Rd W F b l s ∧ Step W0 W F F) (fun W X => BytesAt W X (rdB l s x.bytes.length).1 ∧ (∃ F', Rd W F' b l (rdB l s x.bytes.length).2 ∧ Step W0 W F F') ∧ BytesAt W (.slice A x.bytes.length cap) x.bytes) (fun W => ∃ F', Rd W F' b l (rdB l s x.bytes.length).2 ∧ Step W0 W F F') W0 ⟨HR.out.keepsN (Keeps.refl _ _).drew, Step.nob (Keeps.refl _ _).drew⟩ A x.bytes.length cap ((rdB l s x.bytes.length).1 == x.bytes) (fun W hW => (HT.out W hW).c 36 c36.out) (fun W hW => (hW.1.blob hll (x.bytes.length : Int) (by omega)).mono (by
      rintro e W' ⟨X, rfl, hX, F', h1, st, -, -⟩
      exact ⟨X, rfl, ⟨Row.bytes hX, ⟨F', h1, hW.2.trans st⟩, HDB.out W' (st0.out.trans (hW.2.trans st)).1⟩, st.1⟩)) (fun W X hW => (sameBytes_ok X _ _ _ W hW.1 hW.2.2).mono (by
      rintro e W' ⟨rfl, rfl⟩
      exact ⟨rfl, hW.2.1, Keeps.refl _ _⟩)) _ ?_
    intro W X hW hP
    have HP := Lib.hid hP
    clear hP
    generalize ((rdB l s x.bytes.length).1 == x.bytes) = bb at *
    go_wp2
    go_ret
    obtain ⟨F', h1, st⟩ := HP.out
    exact ⟨rfl, F', h1, st0.out.trans st⟩
  · simp only [if_neg k3]
    have d3 : (x.kind == 3) = false := by simpa using k3
    clear k0 k1 k2 k3
    rw [← HW0.out] at c0
    go_enter Try.func46, Try.ntmps46
    go_wp2
    go_ret
    rw [HW0.out]
    exact ⟨rfl, F, HR.out, st0.out⟩

/-- Things that came in, none too long. -/
structure ThsOk (w : World) (v : Value) (l : List Th) : Prop where
  at_ : ThingsAt w v l
  n40 : l.length ≤ 40
  b200 : ∀ (k : Nat) (x : Th), l[k]? = some x → x.bytes.length ≤ 200

set_option maxRecDepth 100000 in
set_option maxHeartbeats 4000000 in
theorem back_ok (v : Value) (bs : List UInt8) (v1 : Value) (l : List Th) (ex : List UInt8) (e1 e2 : Int) (w : World) (hv : BytesAt w v bs) (h1 : ThsOk w v1 l) (hbs : bs = thsB l ++ ex) (hex : ex.length ≤ 1) (hfin : (⟨0, ((thsB l).length : Int)⟩ : RS).fin bs = (e1, e2)) :
    Calls Try.prog 44 #[v, v1, .int .i64 ((thsB l).length : Int), .agg #[.int .i64 e1, .int .i64 e2]] w fun e w' => e = .returned (.bool true) ∧ Keeps Nob w w' := by
  have hlen : (thsB l).length ≤ 210 * l.length := thsB_len l (fun k x hk => ⟨h1.at_.ok k x hk, h1.b200 k x hk⟩)
  have hn40 := h1.n40
  have hbl : bs.length ≤ 100000000 := by rw [hbs, List.length_append]; omega
  have hNR := Lib.hid (fun W (hk : Keeps Nob w W) => rd_new v bs W (hv.keepsN hk) hbl)
  have k0 : Keeps Nob w (w.alloc (.cells #[.int .i64 e1, .int .i64 e2] 29)) := (Keeps.refl _ _).alloc _
  have hf0 := heap_alloc_new w (.cells #[.int .i64 e1, .int .i64 e2] 29)
  have K0 := Lib.hid k0
  have HF0 := Lib.hid hf0
  obtain ⟨W0, hW0⟩ : ∃ W0, w.alloc (.cells #[.int .i64 e1, .int .i64 e2] 29) = W0 := ⟨_, rfl⟩
  have hs0 : W0.heap.size = w.heap.size + 1 := by rw [← hW0]; simp
  have KW := Lib.hid (hW0 ▸ k0)
  have HW0 := Lib.hid hW0
  obtain ⟨a1, cap1, rfl⟩ := h1.at_.len
  obtain ⟨n, hn⟩ : ∃ n, l.length = n := ⟨_, rfl⟩
  rw [hn] at h1 hn40 ⊢
  have HN := Lib.hid hn
  have H1 := Lib.hid h1
  have HBS := Lib.hid hbs
  have HFIN := Lib.hid hfin
  obtain ⟨q, hq⟩ : ∃ q, (thsB l).length = q := ⟨_, rfl⟩
  rw [hq] at HFIN ⊢
  have HQ := Lib.hid hq
  clear hlen hv h1 hbs hfin k0 hf0 hn hq hW0
  go_enter Try.func44, Try.ntmps44
  go_wp2_with (go_at_call 20; refine (hNR.out _ K0.out).mono ?_; rintro e w1 ⟨b, F, rfl, hR, hg, hk⟩; have HR : Hid (∃ F, Rd w1 F b bs ⟨0, 0⟩ ∧ Ge F W0) := Lib.hid ⟨F, hR, HW0.out ▸ hg⟩; have K1 : Hid (Keeps Nob W0 w1) := Lib.hid (HW0.out ▸ hk); have HF1 := Lib.hid ((hk.block _ (lt_of_block HF0.out) (fun x => x)).trans HF0.out); clear hR hg hk)
  clear hNR K0 HF0
  go_loopw [10] (fun i V => ∃ k : Nat, k ≤ n ∧ i = .int .i64 k ∧ Hid (∃ F, Rd V F b bs ⟨0, ((thsB (l.take k)).length : Int)⟩ ∧ Ge F W0) ∧ Hid (Keeps Nob W0 V) ∧ Hid (V.heap[w.heap.size]? = some (.cells #[.int .i64 e1, .int .i64 e2] 29 (0, 0)))) (fun i _ => n - (intOf i).toNat)
  case atStart => exact ⟨0, Nat.zero_le _, rfl, HR, K1, HF1⟩
  case round =>
    obtain ⟨k, hk, rfl, HR2, HK, HF2⟩ := hrel
    clear HR K1 HF1
    obtain ⟨F, hR, hg⟩ := HR2.out
    have HR3 := Lib.hid hR
    have HG := Lib.hid hg
    clear hR hg HR2
    by_cases hlt : k < n
    · obtain ⟨x, hx⟩ : ∃ x, l[k]? = some x := ⟨_, List.getElem?_eq_getElem (by have := HN.out; omega)⟩
      have hTA := H1.out.at_.keeps (KW.out.trans HK.out)
      obtain ⟨b1, o, cap', hv1, hb1, hrg⟩ := hTA.at_ k x hx
      simp only [Value.slice.injEq] at hv1
      obtain ⟨rfl, -, rfl⟩ := hv1
      have hok := H1.out.at_.ok k x hx
      have HI : Hid ((Try.prog.info? 46).map (·.size) = some x.cs.length) := Lib.hid (by rw [hok.len]; kernel_rfl)
      have HRG := Lib.hid hrg
      have hd : decide ((k : Int) < (n : Int)) = true := by simp; omega
      have hdrop : bs.drop (thsB (l.take k)).length = thB x ++ (thsB (l.drop (k + 1)) ++ ex) := by
        rw [HBS.out, thsB_split l k x hx, List.append_assoc, List.drop_left, List.append_assoc]
      have hak := ask_ok bs (thsB (l.take k)).length x _ hok (H1.out.b200 k x hx) hdrop
      have hsucc : (thsB (l.take (k + 1))).length = (thsB (l.take k)).length + (thB x).length := by rw [thsB_take_succ l k x hx, List.length_append]
      have hc := asked_ok F b bs ⟨0, ((thsB (l.take k)).length : Int)⟩ x wr HR3.out hbl hok (hTA.bytes k x hx) (fun W' hW' => (H1.out.at_.bytes k x hx).keepsN (KW.out.trans (HK.out.then hW' (fun i hi hf => by have := HG.out i hf; omega)))) (H1.out.b200 k x hx)
      rw [hak.1, hak.2, ← hsucc] at hc
      have HC := Lib.hid hc
      clear hx hrg hb1 hTA hok hdrop hak hsucc hc
      go_wp2_with (first
        | (refine wpList_load_mid rfl 46 _ rfl b1 (o + k * 38) rfl x.cs _ HRG.out Try.underlying46 rfl HI.out ?_)
        | (go_at_call 46; refine HC.out.mono ?_; rintro e w6 ⟨rfl, F6, h6, st⟩; have H6 := Lib.hid h6; have ST := Lib.hid st; clear h6 st))
      go_roundw
      case rel =>
        have hz := H1.out
        exact ⟨k + 1, by omega, by go_num, Lib.hid ⟨F6, H6.out, ST.out.ge HG.out HK.out.size⟩, Lib.hid (ST.out.keeps HK.out HG.out), Lib.hid ((ST.out.1.block _ (lt_of_block HF2.out) (fun hf => by have := HG.out _ hf; omega)).trans HF2.out)⟩
      case measure => simp [intOf]; omega
    · have hd : decide ((k : Int) < (n : Int)) = false := by simp; omega
      obtain rfl : k = n := by omega
      have htk : thsB (l.take k) = thsB l := by rw [List.take_of_length_le (by have := HN.out; omega)]
      rw [htk, HQ.out] at HR3
      clear htk HN
      go_wp2
      refine back_region (by kernel_rfl) b w.heap.size (fun W => Rd W F b bs ⟨0, (q : Int)⟩) (fun W => Rd W F b bs ⟨0, (q : Int)⟩) wr (HR3.out.keepsN (Keeps.refl _ _).drew) (q : Int) e1 e2 (fun W hW => (hW.block _ (lt_of_block HF2.out) (fun x => x)).trans HF2.out) (fun W hW => hW.at_.mono (by
        rintro e W' ⟨rfl, rfl⟩
        exact ⟨rfl, hW, Keeps.refl _ _⟩)) (fun W hW => by
          have h := hW.fin
          rw [HFIN.out] at h
          exact h) _ ?_
      intro W hW
      go_wp2
      go_ret
      exact ⟨rfl, (KW.out.trans HK.out).trans hW⟩
end Go.Proofs.Ytbdjphaiohinnaa
