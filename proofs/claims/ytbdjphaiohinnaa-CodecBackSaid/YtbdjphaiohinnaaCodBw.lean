/-
  Codec: the walk of CodecBack. Conditions: none.
-/
import Derived.Test.YtbdjphaiohinnaaCodBk
import Derived.Test.YtbdjphaiohinnaaCodKn
import Derived.Test.YtbdjphaiohinnaaCodX
import Derived.Test.YtbdjphaiohinnaaMore2
import Derived.Test.YtbdjphaiohinnaaPickOk
namespace Go.Proofs.Ytbdjphaiohinnaa
open Go Go.RowKit Go.Own Go.Shelf

theorem Row.app {w : World} {t : TypeId} {v : Value} {l m : List UInt8} (h : Row w t 1 v (l.length + m.length) (B l ++ B m)) : Row w t 1 v (l ++ m).length (B (l ++ m)) := by
  rw [B_append, List.length_append]; exact h
theorem field_err (a b : Int) (w : World) : (Instr.field 29 (.agg #[.int .i64 a, .int .i64 b]) 0).run Try.prog w = .ok (.int .i64 a) w := by kernel_rfl
theorem getAt_enc (n : Nat) (hn : n < 2 ^ 64) : getAt (Cod.enc n ++ [1]) 0 = (n, ((Cod.enc n).length : Int), 0, 0) := by
  have h := getAt_ok (Cod.enc n ++ [1]) 0 (by omega) (by rw [List.drop_zero, Cod.num_enc n [1] hn])
  rw [List.drop_zero, Cod.num_enc n [1] hn] at h
  simpa using h
theorem thsOk_of (w : World) (v : Value) (l : List Th) (h : ThingsAt w v l) (hl : longB l = false) : ThsOk w v l := ⟨h, (longB_false hl).1, (longB_false hl).2⟩
theorem ThsOk.keeps {w w' : World} {v : Value} {l : List Th} (h : ThsOk w v l) (k : Keeps Nob w w') : ThsOk w' v l := ⟨h.at_.keeps k, h.n40, h.b200⟩
theorem fin_end (l : List UInt8) : (⟨0, (l.length : Int)⟩ : RS).fin (l ++ []) = (0, 0) := by unfold RS.fin; simp
theorem fin_more (l : List UInt8) (c : UInt8) : (⟨0, (l.length : Int)⟩ : RS).fin (l ++ [c]) = (4, (l.length : Int)) := by unfold RS.fin; rw [if_pos rfl, if_pos (by simp; omega)]
/-- How far a look at cut bytes has come. -/
def CutS (l : List Th) (c k : Nat) (s : RS) : Prop := (s = ⟨0, ((thsB (l.take k)).length : Int)⟩ ∧ (thsB (l.take k)).length ≤ c) ∨ s.err = 6
theorem CutS.step {l : List Th} {c k : Nat} {s : RS} {x : Th} (h : CutS l c k s) (hx : l[k]? = some x) (hok : x.Ok) (hb : x.bytes.length ≤ 200) (hc : c ≤ (thsB l).length) : CutS l c (k + 1) (rdAsk ((thsB l).take c) s x) := by
  rcases h with ⟨rfl, h1⟩ | h
  · have hs := thsB_take_succ l k x hx
    have hsp := thsB_split l k x hx
    have hd : ((thsB l).take c).drop (thsB (l.take k)).length = (thB x ++ thsB (l.drop (k + 1))).take (c - (thsB (l.take k)).length) := by
      rw [List.drop_take, hsp, List.drop_left]
    by_cases h2 : (thB x).length ≤ c - (thsB (l.take k)).length
    · left
      rw [List.take_append, List.take_of_length_le h2] at hd
      have := (ask_ok _ _ x _ hok hb hd).2
      rw [this, hs, List.length_append]
      exact ⟨rfl, by omega⟩
    · right
      rw [List.take_append_of_le_length (by omega)] at hd
      exact ask_cut _ _ x _ hok hb hd (by omega)
  · exact .inr (ask_stays _ _ _ h)
theorem CutS.done {l : List Th} {c : Nat} {s : RS} (h : CutS l c l.length s) (hc : c < (thsB l).length) : s.err = 6 := by
  rcases h with ⟨rfl, h1⟩ | h
  · rw [List.take_length] at h1; omega
  · exact h
theorem fin_six (s : RS) (l : List UInt8) (h : s.err = 6) : s.fin l = (6, s.pos) := by unfold RS.fin; rw [if_neg (by omega), h]

set_option maxRecDepth 100000 in
set_option maxHeartbeats 16000000 in
theorem codecBack_ok (v : Value) (l : List Th) (cut : Int) (n m : Nat) (w : World) (hcut : -9223372036854775808 ≤ cut ∧ cut ≤ 9223372036854775807) (hn : n < 2 ^ 64) (hm : m < 2 ^ 64) (h : ThingsAt w v l) :
    Calls Try.prog 7 #[v, .int .i64 cut, .int .u64 (n : Int), .int .u64 (m : Int)] w fun e w' => e = .returned (.bool true) ∧ Keeps Nob w w' := by
  have HK := Lib.hid (fun W => known_ok W)
  have HL := Lib.hid (fun W (k : Keeps Nob w W) => long_ok v l W (h.keeps k))
  cases hlong : longB l with
  | true =>
    rw [hlong] at HL
    clear hlong h hn hm
    go_enter Try.func7, Try.ntmps7
    go_wp2_with (first
      | (go_at_call 5; refine (HK.out _).mono ?_; rintro e w1 ⟨rfl, hk⟩; have K1 := Lib.hid hk; clear hk)
      | (go_at_call 19; refine (HL.out _ K1.out).mono ?_; rintro e w2 ⟨rfl, rfl⟩))
    go_ret
    exact ⟨rfl, K1.out⟩
  | false =>
    have hOK := thsOk_of w v l h hlong
    rw [hlong] at HL
    have hlen : (thsB l).length ≤ 210 * l.length := thsB_len l (fun k x hk => ⟨h.ok k x hk, hOK.b200 k x hk⟩)
    have hn40 := hOK.n40
    obtain ⟨A, capv, rfl⟩ := h.len
    obtain ⟨nn, hnn⟩ : ∃ nn, l.length = nn := ⟨_, rfl⟩
    rw [hnn] at HL hOK hn40 hlen ⊢
    have HNN := Lib.hid hnn
    have HOK := Lib.hid hOK
    have HN := Lib.hid hn
    have HM := Lib.hid hm
    have hen := Cod.enc_length n
    have HPT := Lib.hid (fun W => cPut_ok n hn W)
    have HSN := Lib.hid (fun W => cSize_ok n hn W)
    have HSM := Lib.hid (fun W => cSize_ok m hm W)
    have HGE := Lib.hid (getAt_enc n hn)
    obtain ⟨q, hq⟩ : ∃ q, (thsB l).length = q := ⟨_, rfl⟩
    rw [hq] at hlen
    have HQ := Lib.hid hq
    obtain ⟨i0, hi, hz0, hz1, hz2⟩ := info_parts u8_info0
    have HI := Lib.hid hi
    have HZ0 := Lib.hid hz0
    have HZ1 := Lib.hid hz1
    have HZ2 := Lib.hid hz2
    obtain ⟨hcut1, hcut2⟩ := hcut
    have key : (n ≤ m ∧ (Cod.enc n).length ≤ (Cod.enc m).length) ∨ ¬ n ≤ m := by
      by_cases hnm : n ≤ m
      · exact .inl ⟨hnm, Cod.enc_mono n m hnm⟩
      · exact .inr hnm
    clear hlong h hn hm hnn hOK hq hi hz0 hz1 hz2
    have dec : (decide ((n : Int) ≤ (m : Int)) = true ∧ decide (n ≤ m) = true ∧ decide (((Cod.enc m).length : Int) < ((Cod.enc n).length : Int)) = false ∧ decide ((Cod.enc m).length < (Cod.enc n).length) = false) ∨ (decide ((n : Int) ≤ (m : Int)) = false ∧ decide (n ≤ m) = false) := by
      rcases key with ⟨k1, k2⟩ | k1
      · exact .inl ⟨by simp; omega, by simp; omega, by simp; omega, by simp; omega⟩
      · exact .inr ⟨by simp; omega, by simp; omega⟩
    clear key
    generalize Cod.enc n = en at *
    generalize Cod.enc m = em at *
    have BK1 : Hid (∀ W X, Keeps Nob w W → BytesAt W X (thsB l) → Calls Try.prog 44 #[X, .slice A nn capv, .int .i64 (q : Int), .agg #[.int .i64 0, .int .i64 0]] W fun e w' => e = .returned (.bool true) ∧ Keeps Nob W w') := Lib.hid (fun W X hk hX => by
      have := back_ok X (thsB l) _ l [] 0 0 W hX (HOK.out.keeps hk) (by simp) (by simp) (by have := fin_end (thsB l); rwa [List.append_nil] at this)
      rw [HQ.out] at this; exact this)
    have BK2 : Hid (∀ W X, Keeps Nob w W → BytesAt W X (thsB l ++ [7]) → Calls Try.prog 44 #[X, .slice A nn capv, .int .i64 (q : Int), .agg #[.int .i64 4, .int .i64 (q : Int)]] W fun e w' => e = .returned (.bool true) ∧ Keeps Nob W w') := Lib.hid (fun W X hk hX => by
      have := back_ok X (thsB l ++ [7]) _ l [7] 4 (q : Int) W hX (HOK.out.keeps hk) rfl (by simp) (by rw [← HQ.out]; exact fin_more (thsB l) 7)
      rw [HQ.out] at this; exact this)
    have HLT : Hid (∀ k x, l[k]? = some x → (thsB (l.take k)).length + (thB x).length ≤ 8400) := Lib.hid (fun k x hx => by
      have := thsB_split l k x hx
      have h2 := congrArg List.length this
      rw [HQ.out, List.length_append, List.length_append] at h2
      omega)
    rcases dec with ⟨d1, d2, d3, d4⟩ | ⟨d1, d2⟩
    · go_enter Try.func7, Try.ntmps7
      go_wp2_with (first
        | (go_at_call 5; refine (HK.out _).mono ?_; rintro e w1 ⟨rfl, hk⟩; have KC := Lib.hid hk; clear hk)
        | (go_at_call 19; refine (HL.out _ KC.out).mono ?_; rintro e w2 ⟨rfl, rfl⟩)
        | (go_at_call 10; refine (HPT.out _).mono ?_; rintro e w2 ⟨p, rfl, h1, -, -, h4⟩; obtain ⟨Ap, cp, rfl⟩ := (Row.bytes h1).len; have P2 := Lib.hid (Row.bytes h1); have KC := Lib.hid (KC.out.trans h4); clear h1 h4)
        | (go_at_call 42; refine (copyBytes_ok _ en _ P2.out (by omega)).mono ?_; rintro e w3 ⟨x, rfl, h1, h2, -, h4⟩; have X3 := Lib.hid h1; have F3 : Hid (∀ j, x.ownBlock = some j → w.heap.size ≤ j) := Lib.hid (fun j hj => Nat.le_trans KC.out.size (h2 j hj)); have KC := Lib.hid (KC.out.trans h4); clear h1 h2 h4)
        | (at_builtin; refine own_append2 rfl (.tmp 25) _ 23 rfl 5 i0 (.int .u8 0) 1 1 Try.underlying23 HI.out HZ0.out HZ1.out HZ2.out rfl (by decide) _ _ _ rfl (X3.out.keeps ((Keeps.refl Nob w3).alloc _) (fun _ _ x => x)) (.slice (some ⟨w3.heap.size, 0, none⟩) 1 1) 1 (B [1]) rfl (Src.new w3 1 1 (B [1]) 5 rfl (B_one _) 1) (len_small _ _ (by omega)) (len_bytes _ _ (by omega)) ?_; intro v4 w4 hown hgrow _ hat; have h4 := Row.app (m := [1]) hown; obtain ⟨A4, c4, hv4⟩ := (Row.bytes h4).len; have B4 := Row.bytes h4; rw [hv4] at B4; rw [List.length_append, List.length_singleton] at B4 hv4; subst hv4; have B4 := Lib.hid B4; have KC := Lib.hid ((KC.out.alloc _).grown hgrow (fun j hj hlt => by have := F3.out j hj; omega)); clear hown hgrow hat h4)
        | (go_at_call 30; refine (gets_ok _ (en ++ [1]) 0 n (en.length : Int) 0 0 _ B4.out HGE.out).mono ?_; rintro e w5 ⟨rfl, h5⟩; have KC := Lib.hid (KC.out.trans h5); clear h5)
        | (go_at_call 16; ((with_reducible refine (HSN.out _).mono ?_); rintro e w6 ⟨rfl, h6⟩; have KC := Lib.hid (KC.out.trans h6); clear h6))
        | (go_at_call 16; ((with_reducible refine (HSM.out _).mono ?_); rintro e w7 ⟨rfl, h7⟩; have KC := Lib.hid (KC.out.trans h7); clear h7))
        | (go_at_call 31; refine (wr_new 1048576 _ (by decide) (by decide)).mono ?_; rintro e w8 ⟨b, F, rfl, hW, hg, hk⟩; have HW : Hid (∃ F, Wr w8 F b ⟨1048576, thsB (l.take 0), 0⟩ ∧ Ge F w) := Lib.hid ⟨F, hW, hg.keeps KC.out⟩; have KC := Lib.hid (KC.out.trans hk); clear hW hg hk))
      clear P2 X3 F3 B4 HPT HSN HSM HGE
      go_loopw [13] (fun i V => ∃ k : Nat, k ≤ nn ∧ i = .int .i64 k ∧ Hid (∃ F, Wr V F b ⟨1048576, thsB (l.take k), 0⟩ ∧ Ge F w) ∧ Hid (Keeps Nob w V)) (fun i _ => nn - (intOf i).toNat)
      case atStart => exact ⟨0, Nat.zero_le _, rfl, HW, KC⟩
      case round =>
        obtain ⟨k, hk, rfl, HW2, HKC⟩ := hrel
        clear HW KC
        obtain ⟨F2, hW, hg⟩ := HW2.out
        have HW3 := Lib.hid hW
        have HG := Lib.hid hg
        clear hW hg HW2
        by_cases hlt : k < nn
        · obtain ⟨x2, hx⟩ : ∃ x, l[k]? = some x := ⟨_, List.getElem?_eq_getElem (by have := HNN.out; omega)⟩
          have hTA := HOK.out.at_.keeps HKC.out
          obtain ⟨b1, o, cap', hv1, hb1, hrg⟩ := hTA.at_ k x2 hx
          simp only [Value.slice.injEq] at hv1
          obtain ⟨rfl, -, rfl⟩ := hv1
          have hok := HOK.out.at_.ok k x2 hx
          have HI2 : Hid ((Try.prog.info? 46).map (·.size) = some x2.cs.length) := Lib.hid (by rw [hok.len]; kernel_rfl)
          have HRG := Lib.hid hrg
          have hd : decide ((k : Int) < (nn : Int)) = true := by simp; omega
          have hc := written_ok F2 b ⟨1048576, thsB (l.take k), 0⟩ x2 wr HW3.out hok (hTA.bytes k x2 hx) (HOK.out.b200 k x2 hx) rfl (by have := HLT.out k x2 hx; simp only; omega)
          rw [← thsB_take_succ l k x2 hx] at hc
          have HC := Lib.hid hc
          clear hx hrg hb1 hTA hok hc
          go_wp2_with (first
            | (refine wpList_load_mid rfl 46 _ rfl b1 (o + k * 38) rfl x2.cs _ HRG.out Try.underlying46 rfl HI2.out ?_)
            | (go_at_call 43; refine HC.out.mono ?_; rintro e w6 ⟨rfl, F6, h6, st⟩; have H6 := Lib.hid h6; have ST := Lib.hid st; clear h6 st))
          go_roundw
          case rel => exact ⟨k + 1, by omega, by go_num, Lib.hid ⟨F6, H6.out, ST.out.ge HG.out HKC.out.size⟩, Lib.hid (ST.out.keeps HKC.out HG.out)⟩
          case measure => simp [intOf]; omega
        · have hd : decide ((k : Int) < (nn : Int)) = false := by simp; omega
          obtain rfl : k = nn := by omega
          have htk : l.take k = l := List.take_of_length_le (by have := HNN.out; omega)
          rw [htk] at HW3
          have HD : Hid (Calls Try.prog 35 #[.pointer (some ⟨b, 0, none⟩)] wr fun e w' => ∃ AX cX, e = .returned (.tuple #[.slice AX q cX, .int .i64 0]) ∧ BytesAt w' (.slice AX q cX) (thsB l) ∧ (∀ j, (Value.slice AX q cX).ownBlock = some j → j < w'.heap.size) ∧ Keeps Nob wr w' ∧ q ≤ cX ∧ cX ≤ 9223372036854775807) := Lib.hid (HW3.out.done.mono (by
            rintro e w' ⟨X, rfl, ⟨hX, -⟩, hk⟩
            simp only [if_true] at hX
            have hB := Row.bytes hX
            have hlt := fun j hj => hX.lt (k := j) hj
            obtain ⟨AX, cX, rfl, hc1, hc2, -⟩ := hB.form
            unfold maxLen at hc2
            rw [HQ.out] at hB hlt hc1 ⊢
            exact ⟨AX, cX, rfl, hB, hlt, hk, hc1, hc2⟩))
          clear htk HW3 HG HLT
          by_cases hq0 : q = 0
          · have hdq : ((q : Int) == 0) = true := by simp [hq0]
            have hdq2 : (q == 0) = true := by simp [hq0]
            clear hq0
            go_wp2_with (first 
              | (go_at_call 35; refine HD.out.mono ?_; rintro e w9 ⟨AX, cX, rfl, hX, hl9, hk, hcx1, hcx2⟩; have hltX := Lib.hid hl9; have BX := Lib.hid hX; have KD := Lib.hid (HKC.out.trans hk); clear hX hk hl9)
              | (go_at_call 44; ((with_reducible refine (BK1.out _ _ KD.out BX.out).mono ?_); rintro e w10 ⟨rfl, hk⟩; have hltX := Lib.hid (fun j hj => Nat.lt_of_lt_of_le (hltX.out j hj) hk.size); have BX := Lib.hid (BX.out.keepsN hk); have KD := Lib.hid (KD.out.trans hk); clear hk))
              | (go_at_call 42; refine (copyBytes_ok _ (thsB l) _ BX.out (by have := HQ.out; omega)).mono ?_; rintro e w11 ⟨y, rfl, h1, h2, -, h4⟩; rw [HQ.out] at h1; have hltX := Lib.hid (fun j hj => Nat.lt_of_lt_of_le (hltX.out j hj) (Nat.le_refl _)); have HYJ := Lib.hid h2; have Y3 := Lib.hid h1; have F3 : Hid (∀ j, y.ownBlock = some j → w.heap.size ≤ j) := Lib.hid (fun j hj => Nat.le_trans KD.out.size (h2 j hj)); have KD := Lib.hid (KD.out.trans h4); have BX := Lib.hid (BX.out.keepsN h4); clear h1 h2 h4)
              | (at_builtin; refine own_append2_w (by kernel_rfl) (.tmp 86) _ 23 rfl 5 i0 (.int .u8 0) 1 1 Try.underlying23 HI.out HZ0.out HZ1.out HZ2.out rfl (by decide) _ _ _ rfl (Y3.out.keeps ((Keeps.refl Nob w11).alloc _) (fun _ _ x => x)) (.slice (some ⟨w11.heap.size, 0, none⟩) 1 1) 1 (B [7]) rfl (Src.new w11 1 1 (B [7]) 5 rfl (B_one _) 1) (len_small _ _ (by omega)) (len_bytes _ _ (by omega)) ?_; intro v4 w4 hown hgrow _ hat; rw [← HQ.out] at hown; have h4 := Row.app (m := [7]) hown; obtain ⟨A5, c5, hv4⟩ := (Row.bytes h4).len; have B4 := Row.bytes h4; rw [hv4] at B4; rw [List.length_append, List.length_singleton, HQ.out] at B4 hv4; subst hv4; have BY := Lib.hid B4; have BX : Hid (BytesAt w4 (.slice AX q cX) (thsB l)) := Lib.hid (BX.out.keeps (M := fun j => y.ownBlock = some j) (((Keeps.refl _ w11).alloc _).grown hgrow (fun j hj _ => hj)) (fun j hj hy => by have := HYJ.out j hy; have := hltX.out j hj; omega)); have KD := Lib.hid ((KD.out.alloc _).grown hgrow (fun j hj hlt => by have := F3.out j hj; omega)); clear hown hgrow hat h4 B4)
              | (go_at_call 44; ((with_reducible refine (BK2.out _ _ KD.out BY.out).mono ?_); rintro e w12 ⟨rfl, hk⟩; have BX := Lib.hid (BX.out.keepsN hk); have KD := Lib.hid (KD.out.trans hk); clear hk)))
            go_ret
            exact ⟨rfl, KD.out⟩
          · have hdq : ((q : Int) == 0) = false := by simp [hq0]
            have hdq2 : (q == 0) = false := by simp [hq0]
            obtain ⟨c, hc0, hcq⟩ : ∃ c : Nat, cut % (q : Int) = (c : Int) ∧ c < q := by
              have h1 := Int.emod_nonneg cut (show (q : Int) ≠ 0 by omega)
              have h2 := Int.emod_lt_of_pos cut (show (0 : Int) < (q : Int) by omega)
              exact ⟨(cut % (q : Int)).toNat, by omega, by omega⟩
            have HPK : Hid (∀ W, Calls Try.prog 45 #[.int .i64 cut, .int .i64 (q : Int)] W fun e w' => e = .returned (.int .i64 (c : Int)) ∧ W = w') := Lib.hid (fun W => by
              have := pick_ok cut q W ⟨hcut1, hcut2⟩ (by omega)
              rw [if_neg (by omega), hc0] at this; exact this)
            clear hc0
            go_wp2_with (first 
              | (go_at_call 35; refine HD.out.mono ?_; rintro e w9 ⟨AX, cX, rfl, hX, hl9, hk, hcx1, hcx2⟩; have hltX := Lib.hid hl9; have BX := Lib.hid hX; have KD := Lib.hid (HKC.out.trans hk); clear hX hk hl9)
              | (go_at_call 44; ((with_reducible refine (BK1.out _ _ KD.out BX.out).mono ?_); rintro e w10 ⟨rfl, hk⟩; have hltX := Lib.hid (fun j hj => Nat.lt_of_lt_of_le (hltX.out j hj) hk.size); have BX := Lib.hid (BX.out.keepsN hk); have KD := Lib.hid (KD.out.trans hk); clear hk))
              | (go_at_call 42; refine (copyBytes_ok _ (thsB l) _ BX.out (by have := HQ.out; omega)).mono ?_; rintro e w11 ⟨y, rfl, h1, h2, -, h4⟩; rw [HQ.out] at h1; have hltX := Lib.hid (fun j hj => Nat.lt_of_lt_of_le (hltX.out j hj) (Nat.le_refl _)); have HYJ := Lib.hid h2; have Y3 := Lib.hid h1; have F3 : Hid (∀ j, y.ownBlock = some j → w.heap.size ≤ j) := Lib.hid (fun j hj => Nat.le_trans KD.out.size (h2 j hj)); have KD := Lib.hid (KD.out.trans h4); have BX := Lib.hid (BX.out.keepsN h4); clear h1 h2 h4)
              | (at_builtin; refine own_append2_w (by kernel_rfl) (.tmp 86) _ 23 rfl 5 i0 (.int .u8 0) 1 1 Try.underlying23 HI.out HZ0.out HZ1.out HZ2.out rfl (by decide) _ _ _ rfl (Y3.out.keeps ((Keeps.refl Nob w11).alloc _) (fun _ _ x => x)) (.slice (some ⟨w11.heap.size, 0, none⟩) 1 1) 1 (B [7]) rfl (Src.new w11 1 1 (B [7]) 5 rfl (B_one _) 1) (len_small _ _ (by omega)) (len_bytes _ _ (by omega)) ?_; intro v4 w4 hown hgrow _ hat; rw [← HQ.out] at hown; have h4 := Row.app (m := [7]) hown; obtain ⟨A5, c5, hv4⟩ := (Row.bytes h4).len; have B4 := Row.bytes h4; rw [hv4] at B4; rw [List.length_append, List.length_singleton, HQ.out] at B4 hv4; subst hv4; have BY := Lib.hid B4; have BX : Hid (BytesAt w4 (.slice AX q cX) (thsB l)) := Lib.hid (BX.out.keeps (M := fun j => y.ownBlock = some j) (((Keeps.refl _ w11).alloc _).grown hgrow (fun j hj _ => hj)) (fun j hj hy => by have := HYJ.out j hy; have := hltX.out j hj; omega)); have KD := Lib.hid ((KD.out.alloc _).grown hgrow (fun j hj hlt => by have := F3.out j hj; omega)); clear hown hgrow hat h4 B4)
              | (go_at_call 44; ((with_reducible refine (BK2.out _ _ KD.out BY.out).mono ?_); rintro e w12 ⟨rfl, hk⟩; have BX := Lib.hid (BX.out.keepsN hk); have KD := Lib.hid (KD.out.trans hk); clear hk))
              | (go_at_call 45; refine (HPK.out _).mono ?_; rintro e w13 ⟨rfl, rfl⟩)
              | (go_at_call 20; refine (rd_new _ ((thsB l).take c) _ (BX.out.take c (by have := HQ.out; omega) _ _ _ rfl) (by rw [List.length_take]; omega)).mono ?_; rintro e w14 ⟨b3, G, rfl, hR, hg, hk⟩; have HR : Hid (∃ G s, Rd w14 G b3 ((thsB l).take c) s ∧ Ge G w ∧ CutS l c 0 s) := Lib.hid ⟨G, _, hR, hg.keeps KD.out, .inl ⟨rfl, Nat.zero_le _⟩⟩; have KD := Lib.hid (KD.out.trans hk); clear hR hg hk))
            clear BX hltX
            obtain ⟨wo, rfl⟩ : ∃ wo : World, wo = wr := ⟨_, rfl⟩
            go_loopw [17] (fun i V => ∃ j : Nat, j ≤ k ∧ i = .int .i64 j ∧ Hid (∃ G s, Rd V G b3 ((thsB l).take c) s ∧ Ge G w ∧ CutS l c j s) ∧ Hid (Keeps Nob w V)) (fun i _ => k - (intOf i).toNat)
            case atStart => exact ⟨0, Nat.zero_le _, rfl, HR, KD⟩
            case round =>
              obtain ⟨j, hj, rfl, HR2, HKC2⟩ := hrel
              clear HR KD
              obtain ⟨G2, s, hR, hg, hcs⟩ := HR2.out
              have HR3 := Lib.hid hR
              have HG3 := Lib.hid hg
              have HCS := Lib.hid hcs
              have hcl : ((thsB l).take c).length ≤ 100000000 := by rw [List.length_take]; omega
              clear hR hg hcs HR2
              by_cases hlt : j < k
              · obtain ⟨x2, hx⟩ : ∃ x, l[j]? = some x := ⟨_, List.getElem?_eq_getElem (by have := HNN.out; omega)⟩
                have hTA := HOK.out.at_.keeps HKC2.out
                obtain ⟨b1, o, cap', hv1, hb1, hrg⟩ := hTA.at_ j x2 hx
                simp only [Value.slice.injEq] at hv1
                obtain ⟨rfl, -, rfl⟩ := hv1
                have hok := HOK.out.at_.ok j x2 hx
                have HI2 : Hid ((Try.prog.info? 46).map (·.size) = some x2.cs.length) := Lib.hid (by rw [hok.len]; kernel_rfl)
                have HRG := Lib.hid hrg
                have hd : decide ((j : Int) < (k : Int)) = true := by simp; omega
                have HST := Lib.hid (HCS.out.step hx hok (HOK.out.b200 j x2 hx) (by have := HQ.out; omega))
                have hc := asked_ok G2 b3 _ s x2 wr HR3.out hcl hok (hTA.bytes j x2 hx) (fun W' hW' => (HOK.out.at_.bytes j x2 hx).keepsN (HKC2.out.then hW' (fun i hi hf => by have := HG3.out i hf; omega))) (HOK.out.b200 j x2 hx)
                have HC := Lib.hid hc
                clear hx hrg hb1 hTA hok hc
                generalize rdIs ((thsB l).take c) s x2 = bb at *
                generalize rdAsk ((thsB l).take c) s x2 = s2 at *
                go_wp2_with (first
                  | (refine wpList_load_mid rfl 46 _ rfl b1 (o + j * 38) rfl x2.cs _ HRG.out Try.underlying46 rfl HI2.out ?_)
                  | (go_at_call 46; refine HC.out.mono ?_; rintro e w6 ⟨rfl, F6, h6, st⟩; have H6 := Lib.hid h6; have ST := Lib.hid st; clear h6 st))
                go_roundw
                case rel => exact ⟨j + 1, by omega, by go_num, Lib.hid ⟨F6, s2, H6.out, ST.out.ge HG3.out HKC2.out.size, HST.out⟩, Lib.hid (ST.out.keeps HKC2.out HG3.out)⟩
                case measure => simp [intOf]; omega
              · have hd : decide ((j : Int) < (k : Int)) = false := by simp; omega
                obtain rfl : j = k := by omega
                have h6 : s.err = 6 := CutS.done (l := l) (c := c) (by rw [HNN.out]; exact HCS.out) (by have := HQ.out; omega)
                have HE := HR3.out.fin
                rw [fin_six s _ h6] at HE
                have HEE := Lib.hid HE
                have hfd := field_err
                clear h6 HE
                go_wp2_with (go_at_call 27; refine HEE.out.mono ?_; rintro e w7 ⟨rfl, hk7⟩)
                go_ret
                exact ⟨rfl, HKC2.out.trans hk7⟩
    · go_enter Try.func7, Try.ntmps7
      go_wp2_with (first
        | (go_at_call 5; refine (HK.out _).mono ?_; rintro e w1 ⟨rfl, hk⟩; have KC := Lib.hid hk; clear hk)
        | (go_at_call 19; refine (HL.out _ KC.out).mono ?_; rintro e w2 ⟨rfl, rfl⟩)
        | (go_at_call 10; refine (HPT.out _).mono ?_; rintro e w2 ⟨p, rfl, h1, -, -, h4⟩; obtain ⟨Ap, cp, rfl⟩ := (Row.bytes h1).len; have P2 := Lib.hid (Row.bytes h1); have KC := Lib.hid (KC.out.trans h4); clear h1 h4)
        | (go_at_call 42; refine (copyBytes_ok _ en _ P2.out (by omega)).mono ?_; rintro e w3 ⟨x, rfl, h1, h2, -, h4⟩; have X3 := Lib.hid h1; have F3 : Hid (∀ j, x.ownBlock = some j → w.heap.size ≤ j) := Lib.hid (fun j hj => Nat.le_trans KC.out.size (h2 j hj)); have KC := Lib.hid (KC.out.trans h4); clear h1 h2 h4)
        | (at_builtin; refine own_append2 rfl (.tmp 25) _ 23 rfl 5 i0 (.int .u8 0) 1 1 Try.underlying23 HI.out HZ0.out HZ1.out HZ2.out rfl (by decide) _ _ _ rfl (X3.out.keeps ((Keeps.refl Nob w3).alloc _) (fun _ _ x => x)) (.slice (some ⟨w3.heap.size, 0, none⟩) 1 1) 1 (B [1]) rfl (Src.new w3 1 1 (B [1]) 5 rfl (B_one _) 1) (len_small _ _ (by omega)) (len_bytes _ _ (by omega)) ?_; intro v4 w4 hown hgrow _ hat; have h4 := Row.app (m := [1]) hown; obtain ⟨A4, c4, hv4⟩ := (Row.bytes h4).len; have B4 := Row.bytes h4; rw [hv4] at B4; rw [List.length_append, List.length_singleton] at B4 hv4; subst hv4; have B4 := Lib.hid B4; have KC := Lib.hid ((KC.out.alloc _).grown hgrow (fun j hj hlt => by have := F3.out j hj; omega)); clear hown hgrow hat h4)
        | (go_at_call 30; refine (gets_ok _ (en ++ [1]) 0 n (en.length : Int) 0 0 _ B4.out HGE.out).mono ?_; rintro e w5 ⟨rfl, h5⟩; have KC := Lib.hid (KC.out.trans h5); clear h5)
        | (go_at_call 16; ((with_reducible refine (HSN.out _).mono ?_); rintro e w6 ⟨rfl, h6⟩; have KC := Lib.hid (KC.out.trans h6); clear h6))
        | (go_at_call 16; ((with_reducible refine (HSM.out _).mono ?_); rintro e w7 ⟨rfl, h7⟩; have KC := Lib.hid (KC.out.trans h7); clear h7))
        | (go_at_call 31; refine (wr_new 1048576 _ (by decide) (by decide)).mono ?_; rintro e w8 ⟨b, F, rfl, hW, hg, hk⟩; have HW : Hid (∃ F, Wr w8 F b ⟨1048576, thsB (l.take 0), 0⟩ ∧ Ge F w) := Lib.hid ⟨F, hW, hg.keeps KC.out⟩; have KC := Lib.hid (KC.out.trans hk); clear hW hg hk))
      clear P2 X3 F3 B4 HPT HSN HSM HGE
      go_loopw [13] (fun i V => ∃ k : Nat, k ≤ nn ∧ i = .int .i64 k ∧ Hid (∃ F, Wr V F b ⟨1048576, thsB (l.take k), 0⟩ ∧ Ge F w) ∧ Hid (Keeps Nob w V)) (fun i _ => nn - (intOf i).toNat)
      case atStart => exact ⟨0, Nat.zero_le _, rfl, HW, KC⟩
      case round =>
        obtain ⟨k, hk, rfl, HW2, HKC⟩ := hrel
        clear HW KC
        obtain ⟨F2, hW, hg⟩ := HW2.out
        have HW3 := Lib.hid hW
        have HG := Lib.hid hg
        clear hW hg HW2
        by_cases hlt : k < nn
        · obtain ⟨x2, hx⟩ : ∃ x, l[k]? = some x := ⟨_, List.getElem?_eq_getElem (by have := HNN.out; omega)⟩
          have hTA := HOK.out.at_.keeps HKC.out
          obtain ⟨b1, o, cap', hv1, hb1, hrg⟩ := hTA.at_ k x2 hx
          simp only [Value.slice.injEq] at hv1
          obtain ⟨rfl, -, rfl⟩ := hv1
          have hok := HOK.out.at_.ok k x2 hx
          have HI2 : Hid ((Try.prog.info? 46).map (·.size) = some x2.cs.length) := Lib.hid (by rw [hok.len]; kernel_rfl)
          have HRG := Lib.hid hrg
          have hd : decide ((k : Int) < (nn : Int)) = true := by simp; omega
          have hc := written_ok F2 b ⟨1048576, thsB (l.take k), 0⟩ x2 wr HW3.out hok (hTA.bytes k x2 hx) (HOK.out.b200 k x2 hx) rfl (by have := HLT.out k x2 hx; simp only; omega)
          rw [← thsB_take_succ l k x2 hx] at hc
          have HC := Lib.hid hc
          clear hx hrg hb1 hTA hok hc
          go_wp2_with (first
            | (refine wpList_load_mid rfl 46 _ rfl b1 (o + k * 38) rfl x2.cs _ HRG.out Try.underlying46 rfl HI2.out ?_)
            | (go_at_call 43; refine HC.out.mono ?_; rintro e w6 ⟨rfl, F6, h6, st⟩; have H6 := Lib.hid h6; have ST := Lib.hid st; clear h6 st))
          go_roundw
          case rel => exact ⟨k + 1, by omega, by go_num, Lib.hid ⟨F6, H6.out, ST.out.ge HG.out HKC.out.size⟩, Lib.hid (ST.out.keeps HKC.out HG.out)⟩
          case measure => simp [intOf]; omega
        · have hd : decide ((k : Int) < (nn : Int)) = false := by simp; omega
          obtain rfl : k = nn := by omega
          have htk : l.take k = l := List.take_of_length_le (by have := HNN.out; omega)
          rw [htk] at HW3
          have HD : Hid (Calls Try.prog 35 #[.pointer (some ⟨b, 0, none⟩)] wr fun e w' => ∃ AX cX, e = .returned (.tuple #[.slice AX q cX, .int .i64 0]) ∧ BytesAt w' (.slice AX q cX) (thsB l) ∧ (∀ j, (Value.slice AX q cX).ownBlock = some j → j < w'.heap.size) ∧ Keeps Nob wr w' ∧ q ≤ cX ∧ cX ≤ 9223372036854775807) := Lib.hid (HW3.out.done.mono (by
            rintro e w' ⟨X, rfl, ⟨hX, -⟩, hk⟩
            simp only [if_true] at hX
            have hB := Row.bytes hX
            have hlt := fun j hj => hX.lt (k := j) hj
            obtain ⟨AX, cX, rfl, hc1, hc2, -⟩ := hB.form
            unfold maxLen at hc2
            rw [HQ.out] at hB hlt hc1 ⊢
            exact ⟨AX, cX, rfl, hB, hlt, hk, hc1, hc2⟩))
          clear htk HW3 HG HLT
          by_cases hq0 : q = 0
          · have hdq : ((q : Int) == 0) = true := by simp [hq0]
            have hdq2 : (q == 0) = true := by simp [hq0]
            clear hq0
            go_wp2_with (first 
              | (go_at_call 35; refine HD.out.mono ?_; rintro e w9 ⟨AX, cX, rfl, hX, hl9, hk, hcx1, hcx2⟩; have hltX := Lib.hid hl9; have BX := Lib.hid hX; have KD := Lib.hid (HKC.out.trans hk); clear hX hk hl9)
              | (go_at_call 44; ((with_reducible refine (BK1.out _ _ KD.out BX.out).mono ?_); rintro e w10 ⟨rfl, hk⟩; have hltX := Lib.hid (fun j hj => Nat.lt_of_lt_of_le (hltX.out j hj) hk.size); have BX := Lib.hid (BX.out.keepsN hk); have KD := Lib.hid (KD.out.trans hk); clear hk))
              | (go_at_call 42; refine (copyBytes_ok _ (thsB l) _ BX.out (by have := HQ.out; omega)).mono ?_; rintro e w11 ⟨y, rfl, h1, h2, -, h4⟩; rw [HQ.out] at h1; have hltX := Lib.hid (fun j hj => Nat.lt_of_lt_of_le (hltX.out j hj) (Nat.le_refl _)); have HYJ := Lib.hid h2; have Y3 := Lib.hid h1; have F3 : Hid (∀ j, y.ownBlock = some j → w.heap.size ≤ j) := Lib.hid (fun j hj => Nat.le_trans KD.out.size (h2 j hj)); have KD := Lib.hid (KD.out.trans h4); have BX := Lib.hid (BX.out.keepsN h4); clear h1 h2 h4)
              | (at_builtin; refine own_append2_w (by kernel_rfl) (.tmp 86) _ 23 rfl 5 i0 (.int .u8 0) 1 1 Try.underlying23 HI.out HZ0.out HZ1.out HZ2.out rfl (by decide) _ _ _ rfl (Y3.out.keeps ((Keeps.refl Nob w11).alloc _) (fun _ _ x => x)) (.slice (some ⟨w11.heap.size, 0, none⟩) 1 1) 1 (B [7]) rfl (Src.new w11 1 1 (B [7]) 5 rfl (B_one _) 1) (len_small _ _ (by omega)) (len_bytes _ _ (by omega)) ?_; intro v4 w4 hown hgrow _ hat; rw [← HQ.out] at hown; have h4 := Row.app (m := [7]) hown; obtain ⟨A5, c5, hv4⟩ := (Row.bytes h4).len; have B4 := Row.bytes h4; rw [hv4] at B4; rw [List.length_append, List.length_singleton, HQ.out] at B4 hv4; subst hv4; have BY := Lib.hid B4; have BX : Hid (BytesAt w4 (.slice AX q cX) (thsB l)) := Lib.hid (BX.out.keeps (M := fun j => y.ownBlock = some j) (((Keeps.refl _ w11).alloc _).grown hgrow (fun j hj _ => hj)) (fun j hj hy => by have := HYJ.out j hy; have := hltX.out j hj; omega)); have KD := Lib.hid ((KD.out.alloc _).grown hgrow (fun j hj hlt => by have := F3.out j hj; omega)); clear hown hgrow hat h4 B4)
              | (go_at_call 44; ((with_reducible refine (BK2.out _ _ KD.out BY.out).mono ?_); rintro e w12 ⟨rfl, hk⟩; have BX := Lib.hid (BX.out.keepsN hk); have KD := Lib.hid (KD.out.trans hk); clear hk)))
            go_ret
            exact ⟨rfl, KD.out⟩
          · have hdq : ((q : Int) == 0) = false := by simp [hq0]
            have hdq2 : (q == 0) = false := by simp [hq0]
            obtain ⟨c, hc0, hcq⟩ : ∃ c : Nat, cut % (q : Int) = (c : Int) ∧ c < q := by
              have h1 := Int.emod_nonneg cut (show (q : Int) ≠ 0 by omega)
              have h2 := Int.emod_lt_of_pos cut (show (0 : Int) < (q : Int) by omega)
              exact ⟨(cut % (q : Int)).toNat, by omega, by omega⟩
            have HPK : Hid (∀ W, Calls Try.prog 45 #[.int .i64 cut, .int .i64 (q : Int)] W fun e w' => e = .returned (.int .i64 (c : Int)) ∧ W = w') := Lib.hid (fun W => by
              have := pick_ok cut q W ⟨hcut1, hcut2⟩ (by omega)
              rw [if_neg (by omega), hc0] at this; exact this)
            clear hc0
            go_wp2_with (first 
              | (go_at_call 35; refine HD.out.mono ?_; rintro e w9 ⟨AX, cX, rfl, hX, hl9, hk, hcx1, hcx2⟩; have hltX := Lib.hid hl9; have BX := Lib.hid hX; have KD := Lib.hid (HKC.out.trans hk); clear hX hk hl9)
              | (go_at_call 44; ((with_reducible refine (BK1.out _ _ KD.out BX.out).mono ?_); rintro e w10 ⟨rfl, hk⟩; have hltX := Lib.hid (fun j hj => Nat.lt_of_lt_of_le (hltX.out j hj) hk.size); have BX := Lib.hid (BX.out.keepsN hk); have KD := Lib.hid (KD.out.trans hk); clear hk))
              | (go_at_call 42; refine (copyBytes_ok _ (thsB l) _ BX.out (by have := HQ.out; omega)).mono ?_; rintro e w11 ⟨y, rfl, h1, h2, -, h4⟩; rw [HQ.out] at h1; have hltX := Lib.hid (fun j hj => Nat.lt_of_lt_of_le (hltX.out j hj) (Nat.le_refl _)); have HYJ := Lib.hid h2; have Y3 := Lib.hid h1; have F3 : Hid (∀ j, y.ownBlock = some j → w.heap.size ≤ j) := Lib.hid (fun j hj => Nat.le_trans KD.out.size (h2 j hj)); have KD := Lib.hid (KD.out.trans h4); have BX := Lib.hid (BX.out.keepsN h4); clear h1 h2 h4)
              | (at_builtin; refine own_append2_w (by kernel_rfl) (.tmp 86) _ 23 rfl 5 i0 (.int .u8 0) 1 1 Try.underlying23 HI.out HZ0.out HZ1.out HZ2.out rfl (by decide) _ _ _ rfl (Y3.out.keeps ((Keeps.refl Nob w11).alloc _) (fun _ _ x => x)) (.slice (some ⟨w11.heap.size, 0, none⟩) 1 1) 1 (B [7]) rfl (Src.new w11 1 1 (B [7]) 5 rfl (B_one _) 1) (len_small _ _ (by omega)) (len_bytes _ _ (by omega)) ?_; intro v4 w4 hown hgrow _ hat; rw [← HQ.out] at hown; have h4 := Row.app (m := [7]) hown; obtain ⟨A5, c5, hv4⟩ := (Row.bytes h4).len; have B4 := Row.bytes h4; rw [hv4] at B4; rw [List.length_append, List.length_singleton, HQ.out] at B4 hv4; subst hv4; have BY := Lib.hid B4; have BX : Hid (BytesAt w4 (.slice AX q cX) (thsB l)) := Lib.hid (BX.out.keeps (M := fun j => y.ownBlock = some j) (((Keeps.refl _ w11).alloc _).grown hgrow (fun j hj _ => hj)) (fun j hj hy => by have := HYJ.out j hy; have := hltX.out j hj; omega)); have KD := Lib.hid ((KD.out.alloc _).grown hgrow (fun j hj hlt => by have := F3.out j hj; omega)); clear hown hgrow hat h4 B4)
              | (go_at_call 44; ((with_reducible refine (BK2.out _ _ KD.out BY.out).mono ?_); rintro e w12 ⟨rfl, hk⟩; have BX := Lib.hid (BX.out.keepsN hk); have KD := Lib.hid (KD.out.trans hk); clear hk))
              | (go_at_call 45; refine (HPK.out _).mono ?_; rintro e w13 ⟨rfl, rfl⟩)
              | (go_at_call 20; refine (rd_new _ ((thsB l).take c) _ (BX.out.take c (by have := HQ.out; omega) _ _ _ rfl) (by rw [List.length_take]; omega)).mono ?_; rintro e w14 ⟨b3, G, rfl, hR, hg, hk⟩; have HR : Hid (∃ G s, Rd w14 G b3 ((thsB l).take c) s ∧ Ge G w ∧ CutS l c 0 s) := Lib.hid ⟨G, _, hR, hg.keeps KD.out, .inl ⟨rfl, Nat.zero_le _⟩⟩; have KD := Lib.hid (KD.out.trans hk); clear hR hg hk))
            clear BX hltX
            obtain ⟨wo, rfl⟩ : ∃ wo : World, wo = wr := ⟨_, rfl⟩
            go_loopw [17] (fun i V => ∃ j : Nat, j ≤ k ∧ i = .int .i64 j ∧ Hid (∃ G s, Rd V G b3 ((thsB l).take c) s ∧ Ge G w ∧ CutS l c j s) ∧ Hid (Keeps Nob w V)) (fun i _ => k - (intOf i).toNat)
            case atStart => exact ⟨0, Nat.zero_le _, rfl, HR, KD⟩
            case round =>
              obtain ⟨j, hj, rfl, HR2, HKC2⟩ := hrel
              clear HR KD
              obtain ⟨G2, s, hR, hg, hcs⟩ := HR2.out
              have HR3 := Lib.hid hR
              have HG3 := Lib.hid hg
              have HCS := Lib.hid hcs
              have hcl : ((thsB l).take c).length ≤ 100000000 := by rw [List.length_take]; omega
              clear hR hg hcs HR2
              by_cases hlt : j < k
              · obtain ⟨x2, hx⟩ : ∃ x, l[j]? = some x := ⟨_, List.getElem?_eq_getElem (by have := HNN.out; omega)⟩
                have hTA := HOK.out.at_.keeps HKC2.out
                obtain ⟨b1, o, cap', hv1, hb1, hrg⟩ := hTA.at_ j x2 hx
                simp only [Value.slice.injEq] at hv1
                obtain ⟨rfl, -, rfl⟩ := hv1
                have hok := HOK.out.at_.ok j x2 hx
                have HI2 : Hid ((Try.prog.info? 46).map (·.size) = some x2.cs.length) := Lib.hid (by rw [hok.len]; kernel_rfl)
                have HRG := Lib.hid hrg
                have hd : decide ((j : Int) < (k : Int)) = true := by simp; omega
                have HST := Lib.hid (HCS.out.step hx hok (HOK.out.b200 j x2 hx) (by have := HQ.out; omega))
                have hc := asked_ok G2 b3 _ s x2 wr HR3.out hcl hok (hTA.bytes j x2 hx) (fun W' hW' => (HOK.out.at_.bytes j x2 hx).keepsN (HKC2.out.then hW' (fun i hi hf => by have := HG3.out i hf; omega))) (HOK.out.b200 j x2 hx)
                have HC := Lib.hid hc
                clear hx hrg hb1 hTA hok hc
                generalize rdIs ((thsB l).take c) s x2 = bb at *
                generalize rdAsk ((thsB l).take c) s x2 = s2 at *
                go_wp2_with (first
                  | (refine wpList_load_mid rfl 46 _ rfl b1 (o + j * 38) rfl x2.cs _ HRG.out Try.underlying46 rfl HI2.out ?_)
                  | (go_at_call 46; refine HC.out.mono ?_; rintro e w6 ⟨rfl, F6, h6, st⟩; have H6 := Lib.hid h6; have ST := Lib.hid st; clear h6 st))
                go_roundw
                case rel => exact ⟨j + 1, by omega, by go_num, Lib.hid ⟨F6, s2, H6.out, ST.out.ge HG3.out HKC2.out.size, HST.out⟩, Lib.hid (ST.out.keeps HKC2.out HG3.out)⟩
                case measure => simp [intOf]; omega
              · have hd : decide ((j : Int) < (k : Int)) = false := by simp; omega
                obtain rfl : j = k := by omega
                have h6 : s.err = 6 := CutS.done (l := l) (c := c) (by rw [HNN.out]; exact HCS.out) (by have := HQ.out; omega)
                have HE := HR3.out.fin
                rw [fin_six s _ h6] at HE
                have HEE := Lib.hid HE
                have hfd := field_err
                clear h6 HE
                go_wp2_with (go_at_call 27; refine HEE.out.mono ?_; rintro e w7 ⟨rfl, hk7⟩)
                go_ret
                exact ⟨rfl, HKC2.out.trans hk7⟩
end Go.Proofs.Ytbdjphaiohinnaa
