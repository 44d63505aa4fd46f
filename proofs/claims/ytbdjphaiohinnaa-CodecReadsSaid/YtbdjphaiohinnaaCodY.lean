/-
  Codec: the walk of CodecReads. Conditions: none.
-/
import Derived.Test.YtbdjphaiohinnaaCodX
import Derived.Test.YtbdjphaiohinnaaCodH
import Derived.Deep.MidRow
namespace Go.Proofs.Ytbdjphaiohinnaa
open Go Go.RowKit Go.Own Go.Shelf

theorem Row.first {w : World} {e : TypeId} {n m cap g : Nat} {xs ys : List Value} (h : Row w e 1 (.slice (some ⟨g, 0, none⟩) (n + m) cap) (n + m) (xs ++ ys)) (hx : xs.length = n) : Row w e 1 (.slice (some ⟨g, 0, none⟩) n cap) n xs := by
  rcases h.2 with ⟨h0, _⟩ | ⟨g', cap', cur, h0, hb, hg, hn, hm, hc, ht⟩
  · cases h0
  · simp only [Value.slice.injEq, Option.some.injEq, Addr.mk.injEq, and_true, true_and] at h0
    obtain ⟨rfl, rfl⟩ := h0
    refine ⟨by simpa using hx, .inr ⟨_, _, cur, rfl, hb, hg, by omega, hm, hc, ?_⟩⟩
    have h1 := congrArg (List.take n) ht
    rw [List.take_take, List.take_append_of_le_length (by omega), List.take_of_length_le (Nat.le_of_eq hx)] at h1
    rw [← h1]
    congr 1
    omega
theorem Lent.row {w : World} {v : Value} {l : List UInt8} (h : Lent w v l) : Row w 5 1 v l.length (B l) := by
  obtain ⟨g, cap, rfl, hr⟩ := h
  rw [B_append] at hr
  exact Row.first hr (B_length l)

set_option maxRecDepth 100000 in
set_option maxHeartbeats 8000000 in
theorem codecReads_ok (v : Value) (l : List UInt8) (v1 : Value) (l1 : List Th) (w : World) (hv : BytesAt w v l) (h1 : ThingsAt w v1 l1) :
    Calls Try.prog 4 #[v, v1] w fun e w' => e = .returned (.bool true) ∧ Keeps Nob w w' := by
  have hlen := hv.length_le
  have HL := Lib.hid (long_ok v1 l1 w h1)
  have HA := fun W => awake_ok W
  have HAH := Lib.hid HA
  obtain ⟨A, cap, rfl⟩ := hv.len
  obtain ⟨a1, cap1, rfl⟩ := h1.len
  have HV := Lib.hid hv
  have H1 := Lib.hid h1
  clear HA hv h1
  by_cases g1 : 600 < l.length
  · have d1 : decide ((600 : Int) < (l.length : Int)) = true := by simp; omega
    clear g1
    go_enter Try.func4, Try.ntmps4
    go_wp2_with (go_at_call 9; refine (HAH.out _).mono ?_; rintro e w1 ⟨rfl, hk⟩)
    go_ret
    exact ⟨rfl, hk⟩
  · have d1 : decide ((600 : Int) < (l.length : Int)) = false := by simp; omega
    cases g2 : longB l1 with
    | true =>
      rw [g2] at HL
      clear g2
      go_enter Try.func4, Try.ntmps4
      go_wp2_with (first
        | (go_at_call 19; refine HL.out.mono ?_; rintro e w1 ⟨rfl, rfl⟩)
        | (go_at_call 9; refine (HAH.out _).mono ?_; rintro e w1 ⟨rfl, hk⟩))
      go_ret
      exact ⟨rfl, hk⟩
    | false =>
      obtain ⟨n40, hby⟩ := longB_false g2
      rw [g2] at HL
      have HB := Lib.hid hby
      obtain ⟨n, hn⟩ : ∃ n, l1.length = n := ⟨_, rfl⟩
      rw [hn] at HL H1 n40 ⊢
      have HN := Lib.hid hn
      clear g2 hby hn
      go_enter Try.func4, Try.ntmps4
      go_wp2_with (first
        | (go_at_call 19; refine HL.out.mono ?_; rintro e w1 ⟨rfl, rfl⟩)
        | (go_at_call 12; refine (lentBytes_ok (.slice A l.length cap) l _ HV.out (by omega)).mono ?_; rintro e w1 ⟨X, rfl, hX, hfr, hk⟩; have LX := Lib.hid hX; have FX := Lib.hid hfr; have K1 := Lib.hid hk; clear hX hfr hk)
        | (go_at_call 20; refine (newReader_ok X l _ LX.out.bytes (by omega)).mono ?_; rintro e w2 ⟨b, v, rfl, hr, hb, hf, hk⟩; have RD := Lib.hid hr; have FB := Lib.hid hb; have FV := Lib.hid hf; have K2 := Lib.hid hk; clear hr hb hf hk)
        | (go_at_call 21; refine (rrNew_ok (.slice A l.length cap) l _ (HV.out.keepsN (K1.out.trans K2.out)) (by omega)).mono ?_; rintro e w3 ⟨b2, v2, rfl, hr, hb, hf, hk⟩; have RR := Lib.hid hr; have FB2 := Lib.hid hb; have FV2 := Lib.hid hf; have K3 := Lib.hid hk; clear hr hb hf hk)
        | (go_at_call 18; refine (keptBytes_ok X (.slice A l.length cap) l _ (LX.out.keeps (K2.out.trans K3.out) (fun _ _ x => x)) (HV.out.keepsN (K1.out.trans (K2.out.trans K3.out))) (by omega)).mono ?_; rintro e w4 ⟨rfl, hk⟩; have K4 := Lib.hid hk; clear hk)
        | (go_at_call 17; refine (overBytes_ok X l _ (LX.out.keeps (K2.out.trans (K3.out.trans K4.out)) (fun _ _ x => x)).row).mono ?_; rintro e w5 ⟨⟨r, rfl⟩, hk⟩; have K5 := Lib.hid hk; clear hk))
      have hX : ∀ j, X.ownBlock = some j → j < w1.heap.size := fun j hj => LX.out.row.lt hj
      have hsb := RD.out.lt
      have hk2 := K2.out.size
      have hk3 := K3.out.size
      have hfb := FB.out
      have hfb2 := FB2.out
      have hP0 : Pair w4 b v (.pointer none) b2 v2 l ⟨0, 0⟩ ⟨0, 0⟩ :=
        ⟨RD.out.keeps (K3.out.trans K4.out) (fun _ _ x => x), RR.out.keeps K4.out (fun x => x) (fun _ _ x => x), by omega, fun h => by have := (FV.out _ h).2; omega, fun h => by have := (FV2.out _ h).1; omega, by simp [ptrBlock],
          fun j hj => Nat.lt_of_lt_of_le (FV.out j hj).2 (Nat.le_trans hk3 K4.out.size), fun j hj => Nat.lt_of_lt_of_le (FV2.out j hj).2 K4.out.size⟩
      have hP : Pair w5 b v (.pointer none) b2 v2 l ⟨0, 0⟩ ⟨0, 0⟩ := hP0.keepsW K5.out (fun j hj hx => by
        have := hX j hx
        rcases hj with hj | hj | hj
        · omega
        · have := (FV.out _ hj).1; omega
        · cases hj) (fun hx => by have := hX _ hx; omega) (fun j hj hx => by have := hX _ hx; have := (FV2.out _ hj).1; omega)
      have hkw : Keeps Nob w w5 := (K1.out.trans (K2.out.trans (K3.out.trans K4.out))).then K5.out (fun i hi hx => by have := FX.out i hx; omega)
      have hbw : w.heap.size ≤ b := Nat.le_trans K1.out.size FB.out
      have hbw2 : w.heap.size ≤ b2 := by have := K1.out.size; omega
      have HP := Lib.hid hP
      have HKW := Lib.hid hkw
      clear hX hsb hk2 hk3 hfb hfb2 hP0 hP hkw LX FX K1 RD FB FV K2 RR FB2 FV2 K3 K4 K5 HL
      go_loopw [8] (fun i V => ∃ k : Nat, k ≤ n ∧ i = .int .i64 k ∧ Hid (∃ s fp, Pair V b v fp b2 v2 l s s) ∧ Hid (Keeps Nob w V)) (fun i _ => n - (intOf i).toNat)
      case atStart => exact ⟨0, Nat.zero_le _, rfl, Lib.hid ⟨_, _, HP.out⟩, HKW⟩
      case round =>
        obtain ⟨k, hk, rfl, HQ, HK⟩ := hrel
        obtain ⟨s, fp, hq⟩ := HQ.out
        have HPP := Lib.hid hq
        clear hq HQ
        by_cases hlt : k < n
        · obtain ⟨x, hx⟩ : ∃ x, l1[k]? = some x := ⟨_, List.getElem?_eq_getElem (by have := HN.out; omega)⟩
          obtain ⟨b1, o, cap', hv1, hb1, hrg⟩ := (H1.out.keeps HK.out).at_ k x hx
          simp only [Value.slice.injEq] at hv1
          obtain ⟨rfl, -, rfl⟩ := hv1
          have HOK := Lib.hid (H1.out.ok k x hx)
          have HI : Hid ((Try.prog.info? 46).map (·.size) = some x.cs.length) := Lib.hid (by rw [HOK.out.len]; kernel_rfl)
          have HRG := Lib.hid hrg
          have hd : decide ((k : Int) < (n : Int)) = true := by simp; omega
          clear hx hrg hb1
          go_wp2_with (first
            | (refine wpList_load_mid rfl 46 _ rfl b1 (o + k * 38) rfl x.cs _ HRG.out Try.underlying46 rfl HI.out ?_)
            | (go_at_call 22; refine (reads_ok b v fp b2 v2 l s x _ HPP.out (by omega) HOK.out).mono ?_; rintro e w6 ⟨rfl, ⟨fp6, hp6⟩, hk6⟩; generalize rdStep l s x = s6 at hp6; have P6 := Lib.hid hp6; have K6 := Lib.hid hk6; clear hp6 hk6)
            | (go_at_call 23; refine (rAt_ok b v fp6 l s6 _ P6.out.r).mono ?_; rintro e w7 ⟨rfl, rfl⟩)
            | (go_at_call 24; refine (rrAt_ok b2 v2 l s6 _ P6.out.u).mono ?_; rintro e w7 ⟨rfl, rfl⟩)
            | (go_at_call 25; refine (rLeft_ok b v fp6 l s6 _ P6.out.r).mono ?_; rintro e w7 ⟨rfl, n7, rfl⟩; have P7 := Lib.hid (P6.out.keeps ((Keeps.refl _ _).drewN n7)))
            | (go_at_call 26; refine (rrLeft_ok b2 v2 l s6 _ P7.out.u).mono ?_; rintro e w8 ⟨rfl, n8, rfl⟩; have P8 := Lib.hid (P6.out.keeps ((Keeps.refl _ _).drewN (n7 + n8))))
            | (go_at_call 27; refine (rEnd_ok b v fp6 l s6 _ P8.out.r).mono ?_; rintro e w9 ⟨rfl, hk9⟩; have P9 := Lib.hid (P8.out.keeps hk9); have K9 := Lib.hid hk9; clear hk9)
            | (go_at_call 28; refine (rrEnd_ok b2 v2 l s6 _ P9.out.u).mono ?_; rintro e w10 ⟨rfl, hk10⟩; have P10 := Lib.hid (P9.out.keeps hk10); have K10 := Lib.hid hk10; clear hk10))
          go_roundw
          case rel =>
            have hk6 : Keeps Nob w w6 := HK.out.then K6.out (fun i hi hx => by rcases hx with e | e <;> omega)
            exact ⟨k + 1, by omega, by go_num, Lib.hid ⟨_, _, P10.out⟩, Lib.hid (((hk6.drewN (n7 + n8)).trans K9.out).trans K10.out)⟩
          case measure => simp [intOf]; omega
        · have hd : decide ((k : Int) < (n : Int)) = false := by simp; omega
          go_wp2_with (first
            | (go_at_call 27; refine (rEnd_ok b v fp l s _ HPP.out.r).mono ?_; rintro e w9 ⟨rfl, hk9⟩; have P9 := Lib.hid (HPP.out.keeps hk9); have K9 := Lib.hid hk9; clear hk9)
            | (go_at_call 28; refine (rrEnd_ok b2 v2 l s _ P9.out.u).mono ?_; rintro e w10 ⟨rfl, hk10⟩; have K10 := Lib.hid hk10; clear hk10)
            | (go_at_call 9; refine (HAH.out _).mono ?_; rintro e w11 ⟨rfl, hk⟩))
          go_ret
          exact ⟨rfl, ((HK.out.trans K9.out).trans K10.out).trans hk⟩
end Go.Proofs.Ytbdjphaiohinnaa
