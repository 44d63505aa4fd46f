/-
  Codec: the document's reader: so many bytes, hashes, blobs. Conditions: none.
-/
import Derived.Test.YtmapcghgdbfmhaaCodR
namespace Go.Proofs.Ytmapcghgdbfmhaa
open Go Go.RowKit Go.Own Go.Shelf

/-- So many bytes of a thing that began at a place. -/
def rTk (l : List UInt8) (s : RS) (k : Nat) (from_ : Int) : Option (List UInt8) × RS :=
  if s.err = 0 then (if (k : Int) ≤ (l.length : Int) - s.pos then (some ((s.rest l).take k), ⟨0, s.pos + k⟩) else (none, ⟨6, from_⟩)) else (none, s)
def TkVal (w0 w' : World) (X : Value) : Option (List UInt8) → Prop
  | some bs => Row w' 5 1 X bs.length (B bs) ∧ (∀ j, X.ownBlock = some j → w0.heap.size ≤ j) ∧ X ≠ .slice none 0 0
  | none => X = .slice none 0 0
def TkPost (b : Nat) (v : Value) (l : List UInt8) (r : Option (List UInt8) × RS) (w : World) (e : Ending) (w' : World) : Prop :=
  ∃ X, e = .returned X ∧ TkVal w w' X r.1 ∧ RrAt w' b v l r.2 ∧ Keeps (One b) w w'

set_option maxRecDepth 100000 in
set_option maxHeartbeats 4000000 in
theorem rrTake_ok (b : Nat) (v : Value) (l : List UInt8) (s : RS) (k : Nat) (from_ : Int) (w : World) (h : RrAt w b v l s) (hk : k ≤ 9223372036854775807) (hll : l.length ≤ 100000000) :
    Calls Try.prog 86 #[.pointer (some ⟨b, 0, none⟩), .int .i64 (k : Int), .int .i64 from_] w (TkPost b v l (rTk l s k from_) w) := by
  have H := Lib.hid h
  obtain ⟨A, cap, rfl, hlc, hcm, _⟩ := h.bytes.form
  unfold maxLen at hcm
  obtain ⟨at_, ea, hb, hl, h1, h2⟩ := h.ex
  have c0 : w.cell? ⟨b, 0, none⟩ = some (.slice A l.length cap) := (cell_of_row w b 0 _ _ _ hb).trans rfl
  have c1 : w.cell? ⟨b, 1, none⟩ = some (.int .i64 (at_ : Int)) := (cell_of_row w b 1 _ _ _ hb).trans rfl
  have c2 : w.cell? ⟨b, 2, none⟩ = some (.int .i64 s.err) := (cell_of_row w b 2 _ _ _ hb).trans rfl
  have HBK := Lib.hid hb
  have K1 := Lib.hid h1
  clear h hb h1 h2
  by_cases h0 : s.err = 0
  · have hp := (K1.out h0).1
    have d0 : (s.err == 0) = true := by simpa using h0
    have d1 : (s.err != 0) = false := by simpa using h0
    have ew : IntKind.i64.wrap ((l.length : Int) - (at_ : Int)) = (l.length : Int) - (at_ : Int) := by rw [IntKind.wrap_i64]; omega
    have HP := Lib.hid hp
    have H0 := Lib.hid h0
    by_cases h3 : (l.length : Int) - (at_ : Int) < (k : Int)
    · have e1 : rTk l s k from_ = (none, ⟨6, from_⟩) := by unfold rTk; rw [if_pos h0, if_neg (by omega)]
      rw [e1]
      have d2 : decide ((l.length : Int) - (at_ : Int) < (k : Int)) = true := by simpa using h3
      have HF := Lib.hid (fun W (hW : Keeps Nob w W) => rrFail_ok b _ l s 6 from_ W (H.out.keeps hW (fun x => x) (fun _ _ x => x)))
      have e2 : s.fail 6 from_ = ⟨6, from_⟩ := by unfold RS.fail; rw [if_pos ⟨h0, by decide⟩]
      rw [e2] at HF
      clear e1 e2 h0 hp h3
      go_enter Try.func86, Try.ntmps86
      go_wp2
      go_quiet (fail)
      revert nq; intro n1
      go_wp2_with (go_at_call 67; refine (HF.out _ ((Keeps.refl _ _).drewN n1)).mono ?_; rintro e w2 ⟨⟨r, rfl⟩, hR, hK⟩; have q3 := hR.c2; have HR2 := Lib.hid hR; have HK2 := Lib.hid hK; clear hR hK; simp only at q3)
      go_ret
      exact ⟨_, rfl, rfl, HR2.out, ((Keeps.refl (One b) w).drewN n1).trans HK2.out⟩
    · have e1 : rTk l s k from_ = (some ((l.drop at_).take k), ⟨0, s.pos + k⟩) := by unfold rTk RS.rest; rw [if_pos h0, if_pos (by omega), show s.pos.toNat = at_ by omega]
      rw [e1]
      have d2 : decide ((l.length : Int) - (at_ : Int) < (k : Int)) = false := by simpa using h3
      have hkl : at_ + k ≤ l.length := by omega
      have hcut := run_cut2 (t := 22) rfl bytes_size A l.length cap at_ (at_ + k) (by omega) (by omega)
      have hcv : BytesAt w (.slice (if cap = at_ then A else A.map (·.add at_)) (at_ + k - at_) (cap - at_)) ((l.drop at_).take k) := by
        have := (H.out.bytes.drop at_ (by omega) _ _ _ rfl).take k (by rw [List.length_drop]; omega) _ _ _ rfl
        simpa using this
      generalize (Value.slice (if cap = at_ then A else A.map (·.add at_)) (at_ + k - at_) (cap - at_)) = cv at *
      have hbl : ((l.drop at_).take k).length ≤ 100000000 := by rw [List.length_take]; omega
      generalize (l.drop at_).take k = bs at *
      have HC := Lib.hid (fun W (hW : Keeps Nob w W) => copyBytes_ok cv bs W (hcv.keepsN hW) hbl)
      have HCUT := Lib.hid hcut
      rw [h0] at c2
      clear e1 h0 hp h3 hcut hcv hbl d1 d0
      have hwk : Hid (IntKind.i64.wrap ((at_ : Int) + (k : Int)) = ((at_ + k : Nat) : Int)) := Lib.hid (by rw [IntKind.wrap_i64]; omega)
      go_enter Try.func86, Try.ntmps86
      go_wp2
      go_quiet (fail)
      revert nq; intro n1
      go_wp2
      have K0 : Keeps Nob w (w.drewN n1) := (Keeps.refl _ _).drewN n1
      have HB2 : (w.drewN n1).heap[b]? = _ := HBK.out
      generalize w.drewN n1 = W0 at *
      refine refTake_region (by kernel_rfl) b A l cap at_ s.err ea W0 HB2 k cv (fun W X => Row W 5 1 X bs.length (B bs) ∧ (∀ j, X.ownBlock = some j → W0.heap.size ≤ j) ∧ X ≠ .slice none 0 0) hwk.out (fun W => HCUT.out W) (fun W hW => (HC.out W (K0.trans hW)).mono (by
        rintro e W' ⟨X, rfl, h1, h2, h3, h4⟩
        exact ⟨X, rfl, ⟨h1, fun j hj => Nat.le_trans hW.size (h2 j hj), h3⟩, h4⟩)) _ ?_
      intro X W hW hX
      have hbW := (hW.block b (lt_of_block HB2) (fun x => x)).trans HB2
      have q1 : W.frozen? ⟨b, 1, none⟩ = false := frozen_of_row W b 1 _ _ hbW
      have q2 : W.cell? ⟨b, 1, none⟩ = some (.int .i64 (at_ : Int)) := (cell_of_row W b 1 _ _ _ hbW).trans rfl
      have HBW := Lib.hid hbW
      have HX := Lib.hid hX
      have HB3 := Lib.hid HB2
      clear hbW hX HB2
      go_wp2
      go_ret
      have hb2 := heap_setCell_same W b 1 _ _ (.int .i64 ((at_ : Int) + k)) HBW.out
      have hkS : Keeps (One b) W (W.setCell ⟨b, 1, none⟩ (.int .i64 ((at_ : Int) + k))) := (Keeps.refl _ _).setOne _
      have hkF : Keeps (One b) w (W.setCell ⟨b, 1, none⟩ (.int .i64 ((at_ : Int) + k))) := ((K0.trans hW).mono (fun _ _ x => x.elim)).trans hkS
      obtain ⟨x1, x2, x3⟩ := HX.out
      have hblt := lt_of_block HB3.out
      refine ⟨X, rfl, ⟨x1.keeps hkS (fun j hj (e : j = b) => by have := x2 j hj; omega), fun j hj => Nat.le_trans K0.size (x2 j hj), x3⟩, ⟨⟨at_ + k, 0, ?_, by omega, fun _ => ⟨by rw [HP.out]; simp, rfl⟩, fun h => absurd rfl h⟩, H.out.bytes.keeps hkF (fun j hj (e : j = b) => H.out.own (by rw [hj, e])), H.out.own⟩, hkF⟩
      rw [show (((at_ + k : Nat)) : Int) = (at_ : Int) + k by omega]
      rw [H0.out, (K1.out H0.out).2] at hb2
      exact hb2
  · have e1 : rTk l s k from_ = (none, s) := by unfold rTk; rw [if_neg h0]
    rw [e1]
    have d0 : (s.err == 0) = false := by simpa using h0
    have d1 : (s.err != 0) = true := by simpa using h0
    clear h0 e1
    go_enter Try.func86, Try.ntmps86
    go_wp2
    go_quiet (fail)
    go_wp2
    go_ret
    exact ⟨_, rfl, rfl, H.out.keeps ((Keeps.refl Nob w).drewN _) (fun x => x) (fun _ _ x => x), (Keeps.refl (One b) w).drewN _⟩
end Go.Proofs.Ytmapcghgdbfmhaa
