/-
  Codec: the document's reader: so many bytes, hashes, blobs. Conditions: none.
  Codec: the document's reader: hashes and blobs. Conditions: none.
  Codec: the document's reader: blobs. Conditions: none.
-/
import Derived.Test.YtmapcghgdbfmhaaCodR
namespace Go.Proofs.Ytmapcghgdbfmhaa
open Go Go.RowKit Go.Own Go.Shelf

/-- So many bytes of a thing that began at a place. -/
def rTk (l : List UInt8) (s : RS) (k : Nat) (from_ : Int) : Option (List UInt8) × RS :=
  if s.err = 0 then (if (k : Int) ≤ (l.length : Int) - s.pos then (some ((s.rest l).take k), ⟨0, s.pos + k⟩) else (none, ⟨6, from_⟩)) else (none, s)
def TkVal (w0 w' : World) (X : Value) : Option (List UInt8) → Prop
  | some bs => Row w' 5 1 X bs.length (B bs) ∧ (∀ j, X.ownBlock = some j → w0.heap.size ≤ j) ∧ X ≠ .slice none 0 0
  | none => X = .slice none 0 0
def TkPost (b : Nat) (v : Value) (l : List UInt8) (r : Option (List UInt8) × RS) (w : World) (e : Ending) (w' : World) : Prop :=
  ∃ X, e = .returned X ∧ TkVal w w' X r.1 ∧ RrAt w' b v l r.2 ∧ Keeps (One b) w w'

set_option maxRecDepth 100000 in
set_option maxHeartbeats 4000000 in
theorem rrTake_ok (b : Nat) (v : Value) (l : List UInt8) (s : RS) (k : Nat) (from_ : Int) (w : World) (h : RrAt w b v l s) (hk : k ≤ 9223372036854775807) (hll : l.length ≤ 100000000) :
    Calls Try.prog 86 #[.pointer (some ⟨b, 0, none⟩), .int .i64 (k : Int), .int .i64 from_] w (TkPost b v l (rTk l s k from_) w) := by
  have H := Lib.hid h
  obtain ⟨A, cap, rfl, hlc, hcm, _⟩ := h.bytes.form
  unfold maxLen at hcm
  obtain ⟨at_, ea, hb, hl, h1, h2⟩ := h.ex
  have c0 : w.cell? ⟨b, 0, none⟩ = some (.slice A l.length cap) := (cell_of_row w b 0 _ _ _ hb).trans rfl
  have c1 : w.cell? ⟨b, 1, none⟩ = some (.int .i64 (at_ : Int)) := (cell_of_row w b 1 _ _ _ hb).trans rfl
  have c2 : w.cell? ⟨b, 2, none⟩ = some (.int .i64 s.err) := (cell_of_row w b 2 _ _ _ hb).trans rfl
  have HBK := Lib.hid hb
  have K1 := Lib.hid h1
  clear h hb h1 h2
  by_cases h0 : s.err = 0
  · have hp := (K1.out h0).1
    have d0 : (s.err == 0) = true := by simpa using h0
    have d1 : (s.err != 0) = false := by simpa using h0
    have ew : IntKind.i64.wrap ((l.length : Int) - (at_ : Int)) = (l.length : Int) - (at_ : Int) := by rw [IntKind.wrap_i64]; omega
    have HP := Lib.hid hp
    have H0 := Lib.hid h0
    by_cases h3 : (l.length : Int) - (at_ : Int) < (k : Int)
    · have e1 : rTk l s k from_ = (none, ⟨6, from_⟩) := by unfold rTk; rw [if_pos h0, if_neg (by omega)]
      rw [e1]
      have d2 : decide ((l.length : Int) - (at_ : Int) < (k : Int)) = true := by simpa using h3
      have HF := Lib.hid (fun W (hW : Keeps Nob w W) => rrFail_ok b _ l s 6 from_ W (H.out.keeps hW (fun x => x) (fun _ _ x => x)))
      have e2 : s.fail 6 from_ = ⟨6, from_⟩ := by unfold RS.fail; rw [if_pos ⟨h0, by decide⟩]
      rw [e2] at HF
      clear e1 e2 h0 hp h3
      go_enter Try.func86, Try.ntmps86
      go_wp2
      go_quiet (fail)
      revert nq; intro n1
      go_wp2_with (go_at_call 67; refine (HF.out _ ((Keeps.refl _ _).drewN n1)).mono ?_; rintro e w2 ⟨⟨r, rfl⟩, hR, hK⟩; have q3 := hR.c2; have HR2 := Lib.hid hR; have HK2 := Lib.hid hK; clear hR hK; simp only at q3)
      go_ret
      exact ⟨_, rfl, rfl, HR2.out, ((Keeps.refl (One b) w).drewN n1).trans HK2.out⟩
    · have e1 : rTk l s k from_ = (some ((l.drop at_).take k), ⟨0, s.pos + k⟩) := by unfold rTk RS.rest; rw [if_pos h0, if_pos (by omega), show s.pos.toNat = at_ by omega]
      rw [e1]
      have d2 : decide ((l.length : Int) - (at_ : Int) < (k : Int)) = false := by simpa using h3
      have hkl : at_ + k ≤ l.length := by omega
      have hcut := run_cut2 (t := 22) rfl bytes_size A l.length cap at_ (at_ + k) (by omega) (by omega)
      have hcv : BytesAt w (.slice (if cap = at_ then A else A.map (·.add at_)) (at_ + k - at_) (cap - at_)) ((l.drop at_).take k) := by
        have := (H.out.bytes.drop at_ (by omega) _ _ _ rfl).take k (by rw [List.length_drop]; omega) _ _ _ rfl
        simpa using this
      generalize (Value.slice (if cap = at_ then A else A.map (·.add at_)) (at_ + k - at_) (cap - at_)) = cv at *
      have hbl : ((l.drop at_).take k).length ≤ 100000000 := by rw [List.length_take]; omega
      generalize (l.drop at_).take k = bs at *
      have HC := Lib.hid (fun W (hW : Keeps Nob w W) => copyBytes_ok cv bs W (hcv.keepsN hW) hbl)
      have HCUT := Lib.hid hcut
      rw [h0] at c2
      clear e1 h0 hp h3 hcut hcv hbl d1 d0
      have hwk : Hid (IntKind.i64.wrap ((at_ : Int) + (k : Int)) = ((at_ + k : Nat) : Int)) := Lib.hid (by rw [IntKind.wrap_i64]; omega)
      go_enter Try.func86, Try.ntmps86
      go_wp2
      go_quiet (fail)
      revert nq; intro n1
      go_wp2
      have K0 : Keeps Nob w (w.drewN n1) := (Keeps.refl _ _).drewN n1
      have HB2 : (w.drewN n1).heap[b]? = _ := HBK.out
      generalize w.drewN n1 = W0 at *
      refine refTake_region (by kernel_rfl) b A l cap at_ s.err ea W0 HB2 k cv (fun W X => Row W 5 1 X bs.length (B bs) ∧ (∀ j, X.ownBlock = some j → W0.heap.size ≤ j) ∧ X ≠ .slice none 0 0) hwk.out (fun W => HCUT.out W) (fun W hW => (HC.out W (K0.trans hW)).mono (by
        rintro e W' ⟨X, rfl, h1, h2, h3, h4⟩
        exact ⟨X, rfl, ⟨h1, fun j hj => Nat.le_trans hW.size (h2 j hj), h3⟩, h4⟩)) _ ?_
      intro X W hW hX
      have hbW := (hW.block b (lt_of_block HB2) (fun x => x)).trans HB2
      have q1 : W.frozen? ⟨b, 1, none⟩ = false := frozen_of_row W b 1 _ _ hbW
      have q2 : W.cell? ⟨b, 1, none⟩ = some (.int .i64 (at_ : Int)) := (cell_of_row W b 1 _ _ _ hbW).trans rfl
      have HBW := Lib.hid hbW
      have HX := Lib.hid hX
      have HB3 := Lib.hid HB2
      clear hbW hX HB2
      go_wp2
      go_ret
      have hb2 := heap_setCell_same W b 1 _ _ (.int .i64 ((at_ : Int) + k)) HBW.out
      have hkS : Keeps (One b) W (W.setCell ⟨b, 1, none⟩ (.int .i64 ((at_ : Int) + k))) := (Keeps.refl _ _).setOne _
      have hkF : Keeps (One b) w (W.setCell ⟨b, 1, none⟩ (.int .i64 ((at_ : Int) + k))) := ((K0.trans hW).mono (fun _ _ x => x.elim)).trans hkS
      obtain ⟨x1, x2, x3⟩ := HX.out
      have hblt := lt_of_block HB3.out
      refine ⟨X, rfl, ⟨x1.keeps hkS (fun j hj (e : j = b) => by have := x2 j hj; omega), fun j hj => Nat.le_trans K0.size (x2 j hj), x3⟩, ⟨⟨at_ + k, 0, ?_, by omega, fun _ => ⟨by rw [HP.out]; simp, rfl⟩, fun h => absurd rfl h⟩, H.out.bytes.keeps hkF (fun j hj (e : j = b) => H.out.own (by rw [hj, e])), H.out.own⟩, hkF⟩
      rw [show (((at_ + k : Nat)) : Int) = (at_ : Int) + k by omega]
      rw [H0.out, (K1.out H0.out).2] at hb2
      exact hb2
  · have e1 : rTk l s k from_ = (none, s) := by unfold rTk; rw [if_neg h0]
    rw [e1]
    have d0 : (s.err == 0) = false := by simpa using h0
    have d1 : (s.err != 0) = true := by simpa using h0
    clear h0 e1
    go_enter Try.func86, Try.ntmps86
    go_wp2
    go_quiet (fail)
    go_wp2
    go_ret
    exact ⟨_, rfl, rfl, H.out.keeps ((Keeps.refl Nob w).drewN _) (fun x => x) (fun _ _ x => x), (Keeps.refl (One b) w).drewN _⟩
end Go.Proofs.Ytmapcghgdbfmhaa
namespace Go.Proofs.Ytmapcghgdbfmhaa
open Go Go.RowKit Go.Own Go.Shelf

theorem rdH_spec (l : List UInt8) (s : RS) (hp : s.err = 0 → 0 ≤ s.pos ∧ s.pos ≤ l.length) :
    (∃ bs, (rTk l s 32 s.pos).1 = some bs ∧ bs.length = 32 ∧ rdH l s = (bs, (rTk l s 32 s.pos).2)) ∨ ((rTk l s 32 s.pos).1 = none ∧ rdH l s = (List.replicate 32 0, (rTk l s 32 s.pos).2)) := by
  by_cases h0 : s.err = 0
  · have hp := hp h0
    have hl : (s.rest l).length = l.length - s.pos.toNat := by unfold RS.rest; rw [List.length_drop]
    by_cases h1 : 32 ≤ (s.rest l).length
    · have e1 : hashErr (s.rest l) = 0 := if_neg (by omega)
      have e2 : hashLen (s.rest l) = 32 := if_neg (by omega)
      have e3 : hashOf (s.rest l) = (s.rest l).take 32 := if_neg (by omega)
      have e4 : rTk l s 32 s.pos = (some ((s.rest l).take 32), ⟨0, s.pos + (32 : Nat)⟩) := by unfold rTk; rw [if_pos h0, if_pos (by omega)]
      refine .inl ⟨_, by rw [e4], by rw [List.length_take]; omega, ?_⟩
      unfold rdH RS.read; rw [e1, e2, e3, e4]; simp [h0]
    · have e1 : hashErr (s.rest l) = 6 := if_pos (by omega)
      have e4 : rTk l s 32 s.pos = (none, ⟨6, s.pos⟩) := by unfold rTk; rw [if_pos h0, if_neg (by omega)]
      refine .inr ⟨by rw [e4], ?_⟩
      unfold rdH RS.read; rw [e1, e4]; simp [h0]
  · have e4 : rTk l s 32 s.pos = (none, s) := by unfold rTk; rw [if_neg h0]
    refine .inr ⟨by rw [e4], ?_⟩
    unfold rdH RS.read; rw [e4]; simp [h0]
theorem rTk_from (l : List UInt8) (s : RS) (k : Nat) (f g : Int) (h : s.err = 0 → f = g) : rTk l s k f = rTk l s k g := by
  unfold rTk
  by_cases h0 : s.err = 0
  · rw [h h0]
  · rw [if_neg h0, if_neg h0]

/-- The cells so far. -/
def partH (bs : List UInt8) (k : Nat) : Array Value := (B (bs.take k ++ List.replicate (32 - k) 0)).toArray
theorem partH_zero (bs : List UInt8) : partH bs 0 = hashZ := rfl
theorem partH_full (bs : List UInt8) (h : bs.length = 32) : partH bs 32 = (B bs).toArray := by unfold partH; simp [List.take_of_length_le (Nat.le_of_eq h)]
theorem partH_size (bs : List UInt8) (k : Nat) (h : bs.length = 32) (hk : k ≤ 32) : (partH bs k).size = 32 := by unfold partH; simp [B_length]; omega
theorem partH_succ (bs : List UInt8) (k : Nat) (c : UInt8) (h : bs[k]? = some c) (hl : bs.length = 32) (hk : k < 32) : (partH bs k).setIfInBounds k (.int .u8 (c.toNat : Int)) = partH bs (k + 1) := by
  unfold partH
  apply Array.toList_inj.1
  rw [Array.toList_setIfInBounds]
  show (B _).set k _ = B _
  rw [B_set]
  congr 1
  have h1 : (bs.take k).length = k := by rw [List.length_take]; omega
  rw [List.set_append_right _ _ (by omega), h1, Nat.sub_self, show 32 - k = (32 - (k + 1)) + 1 by omega, List.replicate_succ, List.set_cons_zero]
  have h2 : bs.take (k + 1) = bs.take k ++ [c] := by
    obtain ⟨hk', hc⟩ := List.getElem?_eq_some_iff.1 h
    rw [List.take_succ_eq_append_getElem hk', hc]
  rw [h2]; simp

set_option maxRecDepth 100000 in
set_option maxHeartbeats 4000000 in
theorem rrHash_ok (b : Nat) (v : Value) (l : List UInt8) (s : RS) (w : World) (h : RrAt w b v l s) (hll : l.length ≤ 100000000) :
    Calls Try.prog 100 #[.pointer (some ⟨b, 0, none⟩)] w fun e w' => e = .returned (.agg (B (rdH l s).1).toArray) ∧ RrAt w' b v l (rdH l s).2 ∧ Keeps (One b) w w' := by
  have H := Lib.hid h
  have hlt := h.lt
  have key := rdH_spec l s h.pos
  have k0 : Keeps Nob w ((w.alloc (.cells hashZ 29)).alloc (.cells hashZ 29)) := ((Keeps.refl _ _).alloc _).alloc _
  have z4 : ((w.alloc (.cells hashZ 29)).alloc (.cells hashZ 29)).heap[w.heap.size]? = some (.cells hashZ 29 (0, 0)) := (Below.heap_alloc _ _ _ (by simp)).trans (heap_alloc_new w _)
  have z5 : ((w.alloc (.cells hashZ 29)).alloc (.cells hashZ 29)).heap[w.heap.size + 1]? = some (.cells hashZ 29 (0, 0)) := by
    have := heap_alloc_new (w.alloc (.cells hashZ 29)) (.cells hashZ 29); rwa [World.size_alloc] at this
  obtain ⟨at_, hl, c1, hp⟩ := (h.keeps k0 (fun x => x) (fun _ _ x => x)).c1
  have e0 : rTk l s 32 (at_ : Int) = rTk l s 32 s.pos := rTk_from _ _ _ _ _ (fun h0 => (hp h0).symm)
  have HT := Lib.hid (rrTake_ok b v l s 32 (at_ : Int) _ (h.keeps k0 (fun x => x) (fun _ _ x => x)) (by decide) hll)
  rw [e0] at HT
  have hzi : (Try.prog.info? 29).map (·.size) = some hashZ.size := hash_info
  have hz1 : hashZ.all (·.oneCell') = true := B_oneA _
  have K0 := Lib.hid k0
  have Z4 := Lib.hid z4
  have Z5 := Lib.hid z5
  have HZI := Lib.hid hzi
  have HZ1 := Lib.hid hz1
  have hh4 := lt_of_block z4
  have hh5 := lt_of_block z5
  clear h hp e0 k0 z4 z5 hzi hz1
  generalize rTk l s 32 s.pos = r at *
  obtain ⟨ob, s1⟩ := r
  simp only at key HT
  have h5b : w.heap.size + 1 ≠ b := by omega
  have h4b : w.heap.size ≠ b := by omega
  rcases key with ⟨bs, rfl, hbl, h2⟩ | ⟨rfl, h2⟩
  · rw [h2]
    clear h2
    have HBL := Lib.hid hbl
    clear hbl
    go_enter Try.func100, Try.ntmps100
    go_wp2_with (first
      | (refine own_alloc rfl 29 rfl (hash_zero2 _) ?_)
      | (go_at_call 86; refine HT.out.mono ?_; rintro e w1 ⟨X, rfl, hX, hR, hK⟩; obtain ⟨x1, x2, x3⟩ := hX; rw [HBL.out] at x1; obtain ⟨g, cap, rfl, hg⟩ := x1.spell (by omega); have hcap := x1.cap; have hgn := x2 g rfl; have X1 := Lib.hid x1; have HR := Lib.hid hR; have Y4 := Lib.hid ((hK.block _ hh4 h4b).trans Z4.out); have Y5 := Lib.hid ((hK.block _ hh5 h5b).trans Z5.out); have HK := Lib.hid hK; have hs1 := hK.size; clear x1 x2 x3 hR hK))
    have hgh : w.heap.size + 1 < g := by simp at hgn; omega
    have hw1 : w.heap.size + 1 < w1.heap.size := lt_of_block Y5.out
    clear hs1 hgn hh4 hh5 c1
    go_loopw [5] (fun i V => ∃ k : Nat, k ≤ 32 ∧ i = .int .i64 k ∧ Hid (V.heap[w.heap.size + 1]? = some (.cells (partH bs k) 29 (0, 0))) ∧ Keeps (fun j => j = w.heap.size + 1) w1 V) (fun i _ => 32 - (intOf i).toNat)
    case atStart => exact ⟨0, by omega, rfl, Lib.hid (by rw [partH_zero]; exact Y5.out), Keeps.refl _ _⟩
    case round =>
      obtain ⟨k, hk, rfl, HL, hkp⟩ := hrel
      by_cases hlt2 : k < 32
      · obtain ⟨c, hc⟩ : ∃ c, bs[k]? = some c := ⟨_, List.getElem?_eq_getElem (by rw [HBL.out]; omega)⟩
        have c0 : wr.cell? ⟨g, k, none⟩ = some (.int .u8 (c.toNat : Int)) := (hkp.cell hg (by omega)).trans ((World.ownsRow.cellAt X1.out k (by rw [Nat.mul_one] at *; omega)).trans (B_get _ _ _ hc))
        have hpz := partH_size bs k HBL.out hk
        obtain ⟨z, hz⟩ : ∃ z, (partH bs k)[k]? = some z := ⟨_, Array.getElem?_eq_getElem (by omega)⟩
        have c5 : wr.cell? ⟨w.heap.size + 1, k, none⟩ = some z := (cell_of_row wr _ k _ _ _ HL.out).trans hz
        have f5 : wr.frozen? ⟨w.heap.size + 1, k, none⟩ = false := frozen_of_row wr _ k _ _ HL.out
        have HC := Lib.hid hc
        have b1 : (0 : Int) ≤ (k : Int) := by omega
        have b2 : (k : Int) < 32 := by omega
        clear hc hz hpz
        go_wp2_with fail
        go_roundw
        case rel =>
          refine ⟨k + 1, by omega, by go_num, Lib.hid ?_, hkp.trans ((Keeps.refl (fun j => j = w.heap.size + 1) _).setCell (p := ⟨w.heap.size + 1, k, none⟩) (fun _ => rfl) _)⟩
          rw [← partH_succ bs k c HC.out HBL.out hlt2]
          exact heap_setCell_same wr _ k _ _ _ HL.out
        case measure => simp [intOf]; omega
      · obtain rfl : k = 32 := by omega
        have hpf := partH_full bs HBL.out
        rw [hpf] at HL
        have hone := B_oneA bs
        have hosz : (B bs).toArray.size = 32 := by simp [B_length, HBL.out]
        have HOI : Hid ((Try.prog.info? 29).map (·.size) = some (B bs).toArray.size) := Lib.hid (by rw [hosz]; exact hash_info)
        have W4 := Lib.hid ((hkp.block w.heap.size (by omega) (by omega)).trans Y4.out)
        have HONE := Lib.hid hone
        have HOSZ := Lib.hid hosz
        have HKP := Lib.hid hkp
        clear hpf hone hosz hkp
        obtain ⟨C, hC⟩ : ∃ C, (B bs).toArray = C := ⟨_, rfl⟩
        rw [hC] at HOI HONE HOSZ HL
        have HCE := Lib.hid hC
        clear hC
        go_wp2_with (first
          | (refine wpList_load_row rfl 29 _ rfl (w.heap.size + 1) rfl 29 C (0, 0) _ HL.out Try.underlying29 rfl HOI.out ?_)
          | (refine wpList_store_row rfl 29 _ _ rfl w.heap.size C rfl rfl 29 hashZ W4.out HOI.out (by rw [HOSZ.out]; rfl) HONE.out ?_))
        have hk1 : Keeps (One b) w w1 := (K0.out.mono (fun _ _ x => x.elim)).trans HK.out
        have hkw : Keeps (One b) w wr := hk1.then HKP.out (fun i hi e => by omega)
        have hkF := hkw.setRow (g := w.heap.size) (fun x => absurd x (by omega)) C
        have hby := H.out.bytes.keeps hkF (fun j hj (e : j = b) => H.out.own (by rw [hj, e]))
        obtain ⟨at2, ea, hb, hrest⟩ := HR.out.ex
        have hbF : (wr.setRow w.heap.size C).heap[b]? = _ := (setRow_other _ _ _ _ (Ne.symm h4b)).trans ((HKP.out.block b (lt_of_block hb) (Ne.symm h5b)).trans hb)
        exact bodyPost_ret (v := .agg C) (results_cell_row rfl _ _ w.heap.size 29 C (0, 0) _ rfl (setRow_heap _ _ _ _ _ _ W4.out) Try.underlying29 rfl HOI.out) rfl ⟨by rw [HCE.out], ⟨⟨at2, ea, hbF, hrest⟩, hby, H.out.own⟩, hkF⟩
  · rw [h2]
    clear h2
    go_enter Try.func100, Try.ntmps100
    go_wp2_with (first
      | (refine own_alloc rfl 29 rfl (hash_zero2 _) ?_)
      | (go_at_call 86; refine HT.out.mono ?_; rintro e w1 ⟨X, rfl, hX, hR, hK⟩; obtain rfl : X = .slice none 0 0 := hX; have HR := Lib.hid hR; have Y4 := Lib.hid ((hK.block _ hh4 h4b).trans Z4.out); have Y5 := Lib.hid ((hK.block _ hh5 h5b).trans Z5.out); have HK := Lib.hid hK; clear hR hK))
    clear c1 hh4 hh5
    go_loop [5] (fun i => i = .int .i64 0) (fun _ => 0)
    case atStart => rfl
    case round =>
      subst hrel
      have hz1 := HZ1.out
      clear hz1
      go_wp2_with (first
        | (refine wpList_load_row rfl 29 _ rfl (w.heap.size + 1) rfl 29 hashZ (0, 0) _ Y5.out Try.underlying29 rfl HZI.out ?_)
        | (refine wpList_store_row rfl 29 _ _ rfl w.heap.size hashZ rfl rfl 29 hashZ Y4.out HZI.out rfl HZ1.out ?_))
      have hk1 : Keeps (One b) w w1 := (K0.out.mono (fun _ _ x => x.elim)).trans HK.out
      have hkF := hk1.setRow (g := w.heap.size) (fun x => absurd x (by omega)) hashZ
      have hby := H.out.bytes.keeps hkF (fun j hj (e : j = b) => H.out.own (by rw [hj, e]))
      obtain ⟨at2, ea, hb, hrest⟩ := HR.out.ex
      have hbF : (w1.setRow w.heap.size hashZ).heap[b]? = _ := (setRow_other _ _ _ _ (Ne.symm h4b)).trans hb
      exact bodyPost_ret (v := .agg hashZ) (results_cell_row rfl _ _ w.heap.size 29 hashZ (0, 0) _ rfl (setRow_heap _ _ _ _ _ _ Y4.out) Try.underlying29 rfl HZI.out) rfl ⟨rfl, ⟨⟨at2, ea, hbF, hrest⟩, hby, H.out.own⟩, hkF⟩

/-- What a blob's number and its bytes come to, after the document. -/
theorem rdB_spec (l : List UInt8) (s : RS) (most : Int) (hp : s.err = 0 → 0 ≤ s.pos ∧ s.pos ≤ l.length) :
    ((rdU l s).2.err ≠ 0 ∧ rdB l s most = ([], (rdU l s).2)) ∨
    ∃ (n : Nat) (p : Int), n < 18446744073709551616 ∧ s.err = 0 ∧ rdU l s = ((n : Int), ⟨0, p⟩) ∧ 0 ≤ p ∧ p ≤ l.length ∧
      (((most < 0 ∨ most < (n : Int)) ∧ rdB l s most = ([], ⟨4, s.pos⟩)) ∨ (¬ (most < 0 ∨ most < (n : Int)) ∧ rdB l s most = ((rTk l ⟨0, p⟩ n s.pos).1.getD [], (rTk l ⟨0, p⟩ n s.pos).2))) := by
  rcases rdU_cases l s hp with ⟨h0, h1⟩ | ⟨h0, h1, h2⟩ | ⟨h0, h1, h2, h3, h4⟩
  · refine .inl ⟨by rw [h1]; exact h0, ?_⟩
    rw [h1]; unfold rdB RS.read; rw [if_neg (fun h => h0 h.1), if_neg h0]
  · refine .inl ⟨by rw [h2]; exact h1, ?_⟩
    have e1 : errB (s.num l) (s.rest l) most = (s.num l).2.2 := by unfold errB; rw [if_neg h1]
    rw [h2]; unfold rdB RS.read; rw [e1, if_neg (fun h => h1 h.2), if_pos h0, if_neg h1]
  · have hp := hp h0
    have hlen : (s.rest l).length = l.length - s.pos.toNat := by unfold RS.rest; rw [List.length_drop]
    refine .inr ⟨_, _, h2, h0, h4, by omega, by omega, ?_⟩
    by_cases a1 : most < 0 ∨ most < ((s.num l).1 : Int)
    · refine .inl ⟨a1, ?_⟩
      have e1 : errB (s.num l) (s.rest l) most = 4 := by unfold errB; rw [if_pos h1, if_pos a1]
      unfold rdB RS.read; rw [e1]; simp [h0]
    · refine .inr ⟨a1, ?_⟩
      by_cases a2 : ((s.rest l).length : Int) - (s.num l).2.1 < (s.num l).1
      · have e1 : errB (s.num l) (s.rest l) most = 6 := by unfold errB; rw [if_pos h1, if_neg a1, if_pos a2]
        have e2 : rTk l ⟨0, s.pos + (s.num l).2.1⟩ (s.num l).1 s.pos = (none, ⟨6, s.pos⟩) := by unfold rTk; rw [if_pos rfl, if_neg (by simp only; omega)]
        unfold rdB RS.read; rw [e1, e2]; simp [h0]
      · have e1 : errB (s.num l) (s.rest l) most = 0 := by unfold errB; rw [if_pos h1, if_neg a1, if_neg a2]
        have e3 : lenB (s.num l) (s.rest l) most = (s.num l).2.1 + (s.num l).1 := if_pos e1
        have e2 : rTk l ⟨0, s.pos + (s.num l).2.1⟩ (s.num l).1 s.pos = (some ((l.drop (s.pos + (s.num l).2.1).toNat).take (s.num l).1), ⟨0, s.pos + (s.num l).2.1 + (s.num l).1⟩) := by unfold rTk RS.rest; rw [if_pos rfl, if_pos (by simp only; omega)]
        unfold rdB RS.read; rw [e1, e2, e3]
        simp only [h0, true_and, if_true, Option.getD_some, Prod.mk.injEq, RS.mk.injEq]
        refine ⟨?_, by omega⟩
        unfold bytesB RS.rest
        rw [List.drop_drop, show (s.pos + ((s.num l).2.1 : Int)).toNat = s.pos.toNat + (s.num l).2.1 by omega]
end Go.Proofs.Ytmapcghgdbfmhaa
namespace Go.Proofs.Ytmapcghgdbfmhaa
open Go Go.RowKit Go.Own Go.Shelf

def BlPost (b : Nat) (v : Value) (l : List UInt8) (r : List UInt8 × RS) (w : World) (e : Ending) (w' : World) : Prop :=
  ∃ X, e = .returned X ∧ (Row w' 5 1 X r.1.length (B r.1) ∧ ∀ j, X.ownBlock = some j → w.heap.size ≤ j) ∧ RrAt w' b v l r.2 ∧ Keeps (One b) w w'
theorem Row.nil (w : World) (t : TypeId) : Row w t 1 (.slice none 0 0) ([] : List UInt8).length (B []) := ⟨rfl, .inl ⟨rfl, rfl⟩⟩

set_option maxRecDepth 100000 in
set_option maxHeartbeats 8000000 in
theorem rrBlob_ok (b : Nat) (v : Value) (l : List UInt8) (s : RS) (most : Int) (w : World) (h : RrAt w b v l s) (hll : l.length ≤ 100000000)
   (m1 : -9223372036854775808 ≤ most ∧ most ≤ 9223372036854775807) :
    Calls Try.prog 59 #[.pointer (some ⟨b, 0, none⟩), .int .i64 most] w (BlPost b v l (rdB l s most) w) := by
  have HU := Lib.hid (rrU_ok b v l s w h)
  obtain ⟨at_, hl, c1, hp⟩ := h.c1
  have key := rdB_spec l s most h.pos
  obtain ⟨m1a, m1b⟩ := m1
  rcases key with ⟨h1, h2⟩ | ⟨n, p, hn, h0, h1, hp0, hpl, key⟩
  · rw [h2]
    clear h h2 hp
    obtain ⟨⟨nv, s1⟩, hr⟩ : ∃ r, rdU l s = r := ⟨_, rfl⟩
    rw [hr] at HU h1 ⊢
    simp only at HU h1 ⊢
    have d0 : (s1.err == 0) = false := by simpa using h1
    have d1 : (s1.err != 0) = true := by simpa using h1
    clear hr h1
    go_enter Try.func59, Try.ntmps59
    go_wp2_with (go_at_call 66; refine HU.out.mono ?_; rintro e w1 ⟨rfl, hR, hK⟩; have q2 := hR.c2; have HR1 := Lib.hid hR; have HK1 := Lib.hid hK; clear hR hK)
    go_ret
    exact ⟨_, rfl, ⟨Row.nil _ _, fun j hj => by cases hj⟩, HR1.out, HK1.out⟩
  · have hp := hp h0
    rw [h1] at HU
    simp only at HU
    have HS : Hid (s.pos = at_) := Lib.hid hp
    rcases key with ⟨ho, h2⟩ | ⟨ho, h2⟩
    · rw [h2]
      have e1 : (⟨0, p⟩ : RS).fail 4 (at_ : Int) = ⟨4, (at_ : Int)⟩ := by unfold RS.fail; simp
      have HF := Lib.hid (fun W h => rrFail_ok b v l ⟨0, p⟩ 4 (at_ : Int) W h)
      rw [e1] at HF
      have key : most < 0 ∨ (0 ≤ most ∧ most < (n : Int)) := by omega
      clear ho e1 h h1 h2 hp h0
      rcases key with a1 | ⟨a1, a2⟩
      · have d1 : decide (most < 0) = true := by simpa using a1
        go_enter Try.func59, Try.ntmps59
        go_wp2_with (first
          | (go_at_call 66; refine HU.out.mono ?_; rintro e w1 ⟨rfl, hR, hK⟩; have q2 := hR.c2; have HR1 := Lib.hid hR; have HK1 := Lib.hid hK; clear hR hK; simp only at q2)
          | (go_at_call 67; refine (HF.out w1 HR1.out).mono ?_; rintro e w2 ⟨⟨r, rfl⟩, hR, hK⟩; have q3 := hR.c2; have HR2 := Lib.hid hR; have HK2 := Lib.hid hK; clear hR hK; simp only at q3))
        go_ret
        exact ⟨_, rfl, ⟨Row.nil _ _, fun j hj => by cases hj⟩, by rw [HS.out]; exact HR2.out, HK1.out.trans HK2.out⟩
      · have d1 : decide (0 ≤ most) = true := by simpa using a1
        have d2 : decide (most < (n : Int)) = true := by simpa using a2
        have d3 : decide (most < 0) = false := by simpa using a1
        have w1' : IntKind.u64.wrap most = most := by simp [IntKind.wrap, IntKind.bits, IntKind.signed]; omega
        go_enter Try.func59, Try.ntmps59
        go_wp2_with (first
          | (go_at_call 66; refine HU.out.mono ?_; rintro e w1 ⟨rfl, hR, hK⟩; have q2 := hR.c2; have HR1 := Lib.hid hR; have HK1 := Lib.hid hK; clear hR hK; simp only at q2)
          | (go_at_call 67; refine (HF.out w1 HR1.out).mono ?_; rintro e w2 ⟨⟨r, rfl⟩, hR, hK⟩; have q3 := hR.c2; have HR2 := Lib.hid hR; have HK2 := Lib.hid hK; clear hR hK; simp only at q3))
        go_ret
        exact ⟨_, rfl, ⟨Row.nil _ _, fun j hj => by cases hj⟩, by rw [HS.out]; exact HR2.out, HK1.out.trans HK2.out⟩
    · rw [h2]
      have a1 : 0 ≤ most := by omega
      have a2 : (n : Int) ≤ most := by omega
      have d1 : decide (0 ≤ most) = true := by simpa using a1
      have d2 : decide (most < (n : Int)) = false := by simpa using a2
      have d3 : decide (most < 0) = false := by simpa using a1
      have w1' : IntKind.u64.wrap most = most := by simp [IntKind.wrap, IntKind.bits, IntKind.signed]; omega
      have w3' : wrap64 (n : Int) = (n : Int) := IntWalk.wrap64_in (n : Int) ⟨by omega, by omega⟩
      have HT := Lib.hid (fun W h => rrTake_ok b v l ⟨0, p⟩ n (at_ : Int) W h (by omega) hll)
      rw [hp]
      generalize rTk l ⟨0, p⟩ n (at_ : Int) = r at *
      obtain ⟨ob, s2⟩ := r
      clear ho h h1 h2 hp h0 HS
      go_enter Try.func59, Try.ntmps59
      go_wp2_with (first
        | (go_at_call 66; refine HU.out.mono ?_; rintro e w1 ⟨rfl, hR, hK⟩; have q2 := hR.c2; have HR1 := Lib.hid hR; have HK1 := Lib.hid hK; clear hR hK; simp only at q2)
        | (go_at_call 86; refine (HT.out w1 HR1.out).mono ?_; rintro e w2 ⟨X, rfl, hX, hR, hK⟩; have HX := Lib.hid hX; have HR2 := Lib.hid hR; have HK2 := Lib.hid hK; clear hX hR hK))
      go_ret
      refine ⟨_, rfl, ?_, HR2.out, HK1.out.trans HK2.out⟩
      have hX := HX.out
      cases ob with
      | none =>
        obtain rfl : X = .slice none 0 0 := hX
        exact ⟨Row.nil _ _, fun j hj => by cases hj⟩
      | some bs => exact ⟨hX.1, fun j hj => Nat.le_trans HK1.out.size (hX.2.1 j hj)⟩
end Go.Proofs.Ytmapcghgdbfmhaa
