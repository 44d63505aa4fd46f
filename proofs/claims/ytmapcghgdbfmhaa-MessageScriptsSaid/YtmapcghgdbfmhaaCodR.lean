/-
  Codec: the document's reader in memory; what it tells. Conditions: none.
  Codec: the document's reader: numbers, and so many bytes. Conditions: none.
-/
import Derived.Test.YtmapcghgdbfmhaaCodP
import Derived.Test.YtmapcghgdbfmhaaCodO
namespace Go.Proofs.Ytmapcghgdbfmhaa
open Go Go.RowKit Go.Own Go.Shelf

/-- The document's reader at block b: its bytes' slice v; the same state. -/
structure RrAt (w : World) (b : Nat) (v : Value) (l : List UInt8) (s : RS) : Prop where
  ex : ∃ (at_ : Nat) (ea : Int), w.heap[b]? = some (.cells #[v, .int .i64 (at_ : Int), .int .i64 s.err, .int .i64 ea] 112 (0, 0)) ∧ at_ ≤ l.length ∧ (s.err = 0 → s.pos = at_ ∧ ea = 0) ∧ (s.err ≠ 0 → s.pos = ea)
  bytes : BytesAt w v l
  own : v.ownBlock ≠ some b
theorem RrAt.keeps {w w' : World} {M : Nat → Prop} {b : Nat} {v : Value} {l : List UInt8} {s : RS} (h : RrAt w b v l s) (k : Keeps M w w') (hb : ¬ M b) (hm : ∀ j, v.ownBlock = some j → ¬ M j) : RrAt w' b v l s := by
  obtain ⟨at_, ea, hbk, r⟩ := h.ex
  exact ⟨⟨at_, ea, (k.block b (lt_of_block hbk) hb).trans hbk, r⟩, h.bytes.keeps k hm, h.own⟩
theorem RrAt.lt {w : World} {b : Nat} {v : Value} {l : List UInt8} {s : RS} (h : RrAt w b v l s) : b < w.heap.size := by
  obtain ⟨at_, ea, hb, _⟩ := h.ex
  exact lt_of_block hb
theorem RrAt.pos {w : World} {b : Nat} {v : Value} {l : List UInt8} {s : RS} (h : RrAt w b v l s) (h0 : s.err = 0) : 0 ≤ s.pos ∧ s.pos ≤ l.length := by
  obtain ⟨at_, ea, hb, hl, h1, _⟩ := h.ex
  have := (h1 h0).1
  omega

set_option maxRecDepth 100000 in
set_option maxHeartbeats 2000000 in
theorem rrEnd_ok (b : Nat) (v : Value) (l : List UInt8) (s : RS) (w : World) (h : RrAt w b v l s) :
    Calls Try.prog 46 #[.pointer (some ⟨b, 0, none⟩)] w fun e w' => e = .returned (.agg #[.int .i64 (s.fin l).1, .int .i64 (s.fin l).2]) ∧ Keeps Nob w w' := by
  have hk0 : Keeps Nob w (w.alloc (.cells #[.int .i64 0, .int .i64 0] 38)) := (Keeps.refl _ _).alloc _
  have hA := h.keeps hk0 (fun x => x) (fun _ _ x => x)
  have hll := h.bytes.length_le
  obtain ⟨A, cap, rfl⟩ := h.bytes.len
  obtain ⟨at_, ea, hb, hl, h1, h2⟩ := hA.ex
  have hlt := h.lt
  have c0 := (cell_of_row _ b 0 _ _ _ hb).trans (show _ = some (.slice A l.length cap) from rfl)
  have c1 := (cell_of_row _ b 1 _ _ _ hb).trans (show _ = some (.int .i64 (at_ : Int)) from rfl)
  have c2 := (cell_of_row _ b 2 _ _ _ hb).trans (show _ = some (.int .i64 s.err) from rfl)
  have c3 := (cell_of_row _ b 3 _ _ _ hb).trans (show _ = some (.int .i64 ea) from rfl)
  clear h hA hb
  by_cases h0 : s.err = 0
  · obtain ⟨hp, rfl⟩ := h1 h0
    have d0 : (s.err == 0) = true := by simpa using h0
    by_cases h1' : at_ < l.length
    · have hs : s.fin l = (4, (at_ : Int)) := by unfold RS.fin; rw [if_pos h0, hp, if_pos (by omega)]
      rw [hs]
      clear hs h0 hp h1 h2
      go_enter Try.func46, Try.ntmps46
      go_wp2
      go_quiet (fail)
      go_wp2
      exact bodyPost_ret (v := .agg #[.int .i64 4, .int .i64 (at_ : Int)]) (by simp [results, Try.results46, go_sem]) rfl ⟨rfl, ((hk0.drewN _).setCell_new (p := ⟨w.heap.size, 0, none⟩) (Nat.le_refl _) _).setCell_new (p := ⟨w.heap.size, 1, none⟩) (Nat.le_refl _) _⟩
    · have hs : s.fin l = (0, 0) := by unfold RS.fin; rw [if_pos h0, hp, if_neg (by omega)]
      rw [hs]
      rw [h0] at c2
      clear hs h0 hp h1 h2 d0
      go_enter Try.func46, Try.ntmps46
      go_wp2
      go_quiet (fail)
      go_wp2
      exact bodyPost_ret (v := .agg #[.int .i64 0, .int .i64 0]) (by simp [results, Try.results46, go_sem]) rfl ⟨rfl, ((hk0.drewN _).setCell_new (p := ⟨w.heap.size, 0, none⟩) (Nat.le_refl _) _).setCell_new (p := ⟨w.heap.size, 1, none⟩) (Nat.le_refl _) _⟩
  · have hs : s.fin l = (s.err, ea) := by unfold RS.fin; rw [if_neg h0, h2 h0]
    rw [hs]
    have d0 : (s.err == 0) = false := by simpa using h0
    clear hs h0 h1 h2
    go_enter Try.func46, Try.ntmps46
    go_wp2
    go_quiet (fail)
    go_wp2
    exact bodyPost_ret (v := .agg #[.int .i64 s.err, .int .i64 ea]) (by simp [results, Try.results46, go_sem]) rfl ⟨rfl, ((hk0.drewN _).setCell_new (p := ⟨w.heap.size, 0, none⟩) (Nat.le_refl _) _).setCell_new (p := ⟨w.heap.size, 1, none⟩) (Nat.le_refl _) _⟩

set_option maxRecDepth 100000 in
set_option maxHeartbeats 2000000 in
theorem rrFail_ok (b : Nat) (v : Value) (l : List UInt8) (s : RS) (e p : Int) (w : World) (h : RrAt w b v l s) :
    Calls Try.prog 67 #[.pointer (some ⟨b, 0, none⟩), .int .i64 e, .int .i64 p] w fun x w' => (∃ r, x = .returned r) ∧ RrAt w' b v l (s.fail e p) ∧ Keeps (One b) w w' := by
  have H := Lib.hid h
  obtain ⟨at_, ea, hb, hl, h1, h2⟩ := h.ex
  have c2 : w.cell? ⟨b, 2, none⟩ = some (.int .i64 s.err) := (cell_of_row w b 2 _ _ _ hb).trans rfl
  have c3 : w.cell? ⟨b, 3, none⟩ = some (.int .i64 ea) := (cell_of_row w b 3 _ _ _ hb).trans rfl
  have f2 : w.frozen? ⟨b, 2, none⟩ = false := frozen_of_row w b 2 _ _ hb
  have f3 : w.frozen? ⟨b, 3, none⟩ = false := frozen_of_row w b 3 _ _ hb
  have HBK := Lib.hid hb
  have K1 := Lib.hid h1
  have K2 := Lib.hid h2
  clear h hb h1 h2
  by_cases hc : s.err = 0 ∧ e ≠ 0
  · have hs : s.fail e p = ⟨e, p⟩ := by unfold RS.fail; rw [if_pos hc]
    rw [hs]
    obtain ⟨h0, he⟩ := hc
    have d0 : (s.err == 0) = true := by simpa using h0
    have d1 : (e != 0) = true := by simpa using he
    have HE := Lib.hid he
    clear hs h0 he
    go_enter Try.func67, Try.ntmps67
    go_wp2
    go_end0
    have hb2 := heap_setCell_same _ b 3 _ _ (.int .i64 p) (heap_setCell_same w b 2 _ _ (.int .i64 e) HBK.out)
    have hkF : Keeps (One b) w ((w.setCell ⟨b, 2, none⟩ (.int .i64 e)).setCell ⟨b, 3, none⟩ (.int .i64 p)) := ((Keeps.refl _ _).setOne _).setOne _
    exact ⟨⟨_, rfl⟩, ⟨⟨at_, p, hb2, hl, fun h => absurd h HE.out, fun _ => rfl⟩, H.out.bytes.keeps hkF (fun j hj (e : j = b) => H.out.own (by rw [hj, e])), H.out.own⟩, hkF⟩
  · have hs : s.fail e p = s := by unfold RS.fail; rw [if_neg hc]
    rw [hs]
    by_cases h0 : s.err = 0
    · have d0 : (s.err == 0) = true := by simpa using h0
      have d1 : (e != 0) = false := by simp; exact Classical.byContradiction fun he => hc ⟨h0, he⟩
      clear hs h0 hc
      go_enter Try.func67, Try.ntmps67
      go_wp2
      go_end0
      exact ⟨⟨_, rfl⟩, H.out, Keeps.refl _ _⟩
    · have d0 : (s.err == 0) = false := by simpa using h0
      clear hs h0 hc
      go_enter Try.func67, Try.ntmps67
      go_wp2
      go_end0
      exact ⟨⟨_, rfl⟩, H.out, Keeps.refl _ _⟩

set_option maxRecDepth 100000 in
set_option maxHeartbeats 1000000 in
theorem rrNew_ok (a : Value) (l : List UInt8) (w : World) (ha : BytesAt w a l) (hl : l.length ≤ 100000000) :
    Calls Try.prog 43 #[a] w fun e w' => ∃ b v, e = .returned (.pointer (some ⟨b, 0, none⟩)) ∧ RrAt w' b v l ⟨0, 0⟩ ∧ w.heap.size ≤ b ∧ (∀ j, v.ownBlock = some j → w.heap.size ≤ j ∧ j < w'.heap.size) ∧ Keeps Nob w w' := by
  have HC := Lib.hid (copyBytes_ok a l w ha hl)
  clear ha
  go_enter Try.func43, Try.ntmps43
  go_wp2_with (go_at_call 56; refine HC.out.mono ?_; rintro e w' ⟨v, rfl, h1, h2, h3, h4⟩; obtain ⟨A, cap, rfl⟩ := (Row.bytes h1).len; have H1 := Lib.hid h1; have H2 := Lib.hid h2; clear h1 h2 h3)
  go_ret
  have hkA : Keeps Nob w' (w'.alloc (.cells #[.slice A l.length cap, .int .i64 0, .int .i64 0, .int .i64 0] 112)) := (Keeps.refl _ _).alloc _
  refine ⟨w'.heap.size, .slice A l.length cap, rfl, ⟨⟨0, 0, heap_alloc_new _ _, Nat.zero_le _, fun _ => ⟨rfl, rfl⟩, fun h => absurd rfl h⟩, (Row.bytes H1.out).keepsN hkA, fun h => ?_⟩, h4.size, fun j hj => ⟨H2.out j hj, Nat.lt_of_lt_of_le (H1.out.lt hj) hkA.size⟩, h4.trans hkA⟩
  exact absurd (H1.out.lt h) (by omega)
end Go.Proofs.Ytmapcghgdbfmhaa
namespace Go.Proofs.Ytmapcghgdbfmhaa
open Go Go.RowKit Go.Own Go.Shelf

set_option maxRecDepth 100000 in
set_option maxHeartbeats 2000000 in
theorem rrU_ok (b : Nat) (v : Value) (l : List UInt8) (s : RS) (w : World) (h : RrAt w b v l s) :
    Calls Try.prog 66 #[.pointer (some ⟨b, 0, none⟩)] w fun e w' => e = .returned (.int .u64 (rdU l s).1) ∧ RrAt w' b v l (rdU l s).2 ∧ Keeps (One b) w w' := by
  have H := Lib.hid h
  have hll := h.bytes.length_le
  obtain ⟨A, cap, rfl⟩ := h.bytes.len
  obtain ⟨at_, ea, hb, hl, h1, h2⟩ := h.ex
  have c2 : w.cell? ⟨b, 2, none⟩ = some (.int .i64 s.err) := (cell_of_row w b 2 _ _ _ hb).trans rfl
  have HBK := Lib.hid hb
  have K1 := Lib.hid h1
  have K2 := Lib.hid h2
  clear h hb h1 h2
  by_cases h0 : s.err = 0
  · have hp := (K1.out h0).1
    have d0 : (s.err != 0) = false := by simpa using h0
    have e0 : s.num l = Cod.num (l.drop at_) := by unfold RS.num; rw [show s.pos.toNat = at_ by omega]
    have hok := Cod.num_ok (l.drop at_)
    have g1 := getAt_ok l at_ hl
    have g2 := getAt_bad l at_ hl
    have e1 : (rdU l s).1 = if (Cod.num (l.drop at_)).2.2 = 0 then ((Cod.num (l.drop at_)).1 : Int) else 0 := by unfold rdU; rw [e0]; simp [h0]
    have e2 : (rdU l s).2 = if (Cod.num (l.drop at_)).2.2 = 0 then ⟨0, s.pos + (Cod.num (l.drop at_)).2.1⟩ else ⟨(Cod.num (l.drop at_)).2.2, s.pos⟩ := by unfold rdU; rw [e0]; simp only [RS.read, h0]; rfl
    have HF := Lib.hid (fun W (hk : Keeps Nob w W) => rGet_ok (.slice A l.length cap) l (at_ : Int) W (H.out.bytes.keepsN hk))
    generalize Cod.num (l.drop at_) = r at *
    obtain ⟨n, k, er⟩ := r
    simp only at hok g1 g2 e1 e2
    have HP := Lib.hid hp
    have E1 := Lib.hid e1
    have E2 := Lib.hid e2
    have H0 := Lib.hid h0
    rw [h0] at c2
    clear hp e0 e1 e2 h0 d0
    by_cases he : er = 0
    · subst he
      obtain ⟨hn, hk0, hkl, hk10, _⟩ := hok rfl
      rw [List.length_drop] at hkl
      rw [g1 rfl] at HF
      have HFF : Hid (∀ W, Keeps Nob w W → Calls Try.prog 99 #[.slice A l.length cap, .int .i64 (at_ : Int)] W fun e w' => e = .returned (.tuple #[.int .u64 (n : Int), .int .i64 ((at_ : Int) + (k : Int)), .agg #[.int .i64 0, .int .i64 0]]) ∧ Keeps Nob W w') := HF
      clear HF g1 g2 hok hn
      go_enter Try.func66, Try.ntmps66
      go_wp2
      refine refU_region (by kernel_rfl) b A l cap at_ s.err ea w HBK.out (n : Int) ((at_ : Int) + (k : Int)) 0 0 HFF.out _ ?_
      intro gf W hW hg hgf
      have hbW := (hW.block b (lt_of_block HBK.out) (fun x => x)).trans HBK.out
      have q0 : W.cell? ⟨gf, 0, none⟩ = some (.int .i64 0) := (cell_of_row W gf 0 _ _ _ hgf).trans rfl
      have q1 : W.frozen? ⟨b, 1, none⟩ = false := frozen_of_row W b 1 _ _ hbW
      have q2 : W.cell? ⟨b, 1, none⟩ = some (.int .i64 (at_ : Int)) := (cell_of_row W b 1 _ _ _ hbW).trans rfl
      have HBW := Lib.hid hbW
      clear hbW hgf
      go_wp2
      go_ret
      have hb2 := heap_setCell_same W b 1 _ _ (.int .i64 ((at_ : Int) + k)) HBW.out
      have hkF : Keeps (One b) w (W.setCell ⟨b, 1, none⟩ (.int .i64 ((at_ : Int) + k))) := (hW.mono (fun _ _ x => x.elim)).setOne _
      rw [E1.out, E2.out, if_pos True.intro, if_pos True.intro]
      refine ⟨rfl, ⟨⟨at_ + k, 0, ?_, by omega, fun _ => ⟨by rw [HP.out]; simp, rfl⟩, fun h => absurd rfl h⟩, H.out.bytes.keeps hkF (fun j hj (e : j = b) => H.out.own (by rw [hj, e])), H.out.own⟩, hkF⟩
      rw [show (((at_ + k : Nat)) : Int) = (at_ : Int) + k by omega]
      rw [H0.out, (K1.out H0.out).2] at hb2
      exact hb2
    · rw [g2 he] at HF
      have HFF : Hid (∀ W, Keeps Nob w W → Calls Try.prog 99 #[.slice A l.length cap, .int .i64 (at_ : Int)] W fun e w' => e = .returned (.tuple #[.int .u64 0, .int .i64 0, .agg #[.int .i64 er, .int .i64 (at_ : Int)]]) ∧ Keeps Nob W w') := HF
      have d1 : (er != 0) = true := by simpa using he
      have HE := Lib.hid he
      clear HF g1 g2 hok he
      go_enter Try.func66, Try.ntmps66
      go_wp2
      refine refU_region (by kernel_rfl) b A l cap at_ s.err ea w HBK.out 0 0 er (at_ : Int) HFF.out _ ?_
      intro gf W hW hg hgf
      have hbW := (hW.block b (lt_of_block HBK.out) (fun x => x)).trans HBK.out
      have q0 : W.cell? ⟨gf, 0, none⟩ = some (.int .i64 er) := (cell_of_row W gf 0 _ _ _ hgf).trans rfl
      have q1 : W.cell? ⟨gf, 1, none⟩ = some (.int .i64 (at_ : Int)) := (cell_of_row W gf 1 _ _ _ hgf).trans rfl
      have q2 : W.frozen? ⟨b, 2, none⟩ = false := frozen_of_row W b 2 _ _ hbW
      have q3 : W.frozen? ⟨b, 3, none⟩ = false := frozen_of_row W b 3 _ _ hbW
      have q4 : W.cell? ⟨b, 2, none⟩ = some (.int .i64 s.err) := (cell_of_row W b 2 _ _ _ hbW).trans rfl
      have q5 : W.cell? ⟨b, 3, none⟩ = some (.int .i64 ea) := (cell_of_row W b 3 _ _ _ hbW).trans rfl
      have HBW := Lib.hid hbW
      clear hbW hgf
      go_wp2
      go_ret
      have hb2 := heap_setCell_same _ b 3 _ _ (.int .i64 (at_ : Int)) (heap_setCell_same W b 2 _ _ (.int .i64 er) HBW.out)
      have hkF : Keeps (One b) w ((W.setCell ⟨b, 2, none⟩ (.int .i64 er)).setCell ⟨b, 3, none⟩ (.int .i64 (at_ : Int))) := ((hW.mono (fun _ _ x => x.elim)).setOne _).setOne _
      rw [E1.out, E2.out, if_neg HE.out, if_neg HE.out]
      exact ⟨rfl, ⟨⟨at_, (at_ : Int), hb2, hl, fun h => absurd h HE.out, fun _ => HP.out⟩, H.out.bytes.keeps hkF (fun j hj (e : j = b) => H.out.own (by rw [hj, e])), H.out.own⟩, hkF⟩
  · have e1 : rdU l s = (0, s) := by unfold rdU RS.read; simp [h0]
    rw [e1]
    have d0 : (s.err != 0) = true := by simpa using h0
    clear h0 e1
    go_enter Try.func66, Try.ntmps66
    go_wp2
    go_ret
    exact ⟨rfl, H.out, Keeps.refl _ _⟩

theorem RrAt.c1 {w : World} {b : Nat} {v : Value} {l : List UInt8} {s : RS} (h : RrAt w b v l s) : ∃ at_ : Nat, at_ ≤ l.length ∧ w.cell? ⟨b, 1, none⟩ = some (.int .i64 (at_ : Int)) ∧ (s.err = 0 → s.pos = at_) := by
  obtain ⟨at_, ea, hb, hl, h1, _⟩ := h.ex
  exact ⟨at_, hl, (cell_of_row w b 1 _ _ _ hb).trans rfl, fun h => (h1 h).1⟩
theorem RrAt.c2 {w : World} {b : Nat} {v : Value} {l : List UInt8} {s : RS} (h : RrAt w b v l s) : w.cell? ⟨b, 2, none⟩ = some (.int .i64 s.err) := by
  obtain ⟨at_, ea, hb, hl, h1, _⟩ := h.ex
  exact (cell_of_row w b 2 _ _ _ hb).trans rfl

theorem rdU_cases (l : List UInt8) (s : RS) (hp : s.err = 0 → 0 ≤ s.pos ∧ s.pos ≤ l.length) :
    (s.err ≠ 0 ∧ rdU l s = (0, s)) ∨ (s.err = 0 ∧ (s.num l).2.2 ≠ 0 ∧ rdU l s = (0, ⟨(s.num l).2.2, s.pos⟩)) ∨
    (s.err = 0 ∧ (s.num l).2.2 = 0 ∧ (s.num l).1 < 18446744073709551616 ∧ s.pos + (s.num l).2.1 ≤ l.length ∧ rdU l s = (((s.num l).1 : Int), ⟨0, s.pos + (s.num l).2.1⟩)) := by
  by_cases h0 : s.err = 0
  · by_cases h1 : (s.num l).2.2 = 0
    · have h2 := s.num_le l (hp h0).1 (hp h0).2 h1
      refine .inr (.inr ⟨h0, h1, ?_, h2, ?_⟩)
      · have := (Cod.num_ok _ h1).1; unfold RS.num; simpa using this
      · unfold rdU RS.read; rw [if_pos ⟨h0, h1⟩, if_pos h0, if_pos h1]
    · refine .inr (.inl ⟨h0, h1, ?_⟩)
      unfold rdU RS.read; rw [if_neg (fun h => h1 h.2), if_pos h0, if_neg h1]
  · refine .inl ⟨h0, ?_⟩
    unfold rdU RS.read; rw [if_neg (fun h => h0 h.1), if_neg h0]
theorem rdN_spec (l : List UInt8) (s : RS) (least most : Int) (hp : s.err = 0 → 0 ≤ s.pos ∧ s.pos ≤ l.length) :
    ((rdU l s).2.err ≠ 0 ∧ rdN l s least most = (0, (rdU l s).2)) ∨
    ∃ (n : Nat) (p : Int), n < 18446744073709551616 ∧ s.err = 0 ∧ rdU l s = ((n : Int), ⟨0, p⟩) ∧ rdN l s least most = if outN n least most then (0, ⟨3, s.pos⟩) else ((n : Int), ⟨0, p⟩) := by
  rcases rdU_cases l s hp with ⟨h0, h1⟩ | ⟨h0, h1, h2⟩ | ⟨h0, h1, h2, h3, h4⟩
  · refine .inl ⟨by rw [h1]; exact h0, ?_⟩
    rw [h1]; unfold rdN RS.read; rw [if_neg (fun h => h0 h.1), if_neg h0]
  · refine .inl ⟨by rw [h2]; exact h1, ?_⟩
    have : errN (s.num l) least most = (s.num l).2.2 := by unfold errN; rw [if_neg (fun h => h1 h.1)]
    rw [h2]; unfold rdN RS.read; rw [this, if_neg (fun h => h1 h.2), if_pos h0, if_neg h1]
  · refine .inr ⟨_, _, h2, h0, h4, ?_⟩
    unfold rdN RS.read errN
    by_cases ho : outN (s.num l).1 least most
    · simp [h0, h1, ho]
    · simp [h0, h1, ho]

set_option maxRecDepth 100000 in
set_option maxHeartbeats 8000000 in
theorem rrN_ok (b : Nat) (v : Value) (l : List UInt8) (s : RS) (least most : Int) (w : World) (h : RrAt w b v l s)
   (m2 : -9223372036854775808 ≤ least ∧ least ≤ 9223372036854775807) (m1 : -9223372036854775808 ≤ most ∧ most ≤ 9223372036854775807) :
    Calls Try.prog 44 #[.pointer (some ⟨b, 0, none⟩), .int .i64 least, .int .i64 most] w fun e w' => e = .returned (.int .i64 (rdN l s least most).1) ∧ RrAt w' b v l (rdN l s least most).2 ∧ Keeps (One b) w w' := by
  have HU := Lib.hid (rrU_ok b v l s w h)
  obtain ⟨at_, hl, c1, hp⟩ := h.c1
  have hpos := h.pos
  have key := rdN_spec l s least most hpos
  obtain ⟨m1a, m1b⟩ := m1
  obtain ⟨m2a, m2b⟩ := m2
  rcases key with ⟨h1, h2⟩ | ⟨n, p, hn, h0, h1, h2⟩
  · rw [h2]
    clear h h2 hp
    obtain ⟨⟨nv, s1⟩, hr⟩ : ∃ r, rdU l s = r := ⟨_, rfl⟩
    rw [hr] at HU h1 ⊢
    simp only at HU h1 ⊢
    have d0 : (s1.err == 0) = false := by simpa using h1
    have d1 : (s1.err != 0) = true := by simpa using h1
    clear hr h1 hpos
    go_enter Try.func44, Try.ntmps44
    go_wp2_with (go_at_call 66; refine HU.out.mono ?_; rintro e w1 ⟨rfl, hR, hK⟩; have q2 := hR.c2; have HR1 := Lib.hid hR; have HK1 := Lib.hid hK; clear hR hK)
    go_ret
    exact ⟨rfl, HR1.out, HK1.out⟩
  · have hp := hp h0
    rw [h2]
    rw [h1] at HU
    simp only at HU
    have H0 := Lib.hid h0
    have HP := Lib.hid hp
    clear h h1 h2 h0 hp hpos
    by_cases ho : outN n least most
    · rw [if_pos ho]
      have e1 : (⟨0, p⟩ : RS).fail 3 (at_ : Int) = ⟨3, (at_ : Int)⟩ := by unfold RS.fail; simp
      have HF := Lib.hid (fun W h => rrFail_ok b v l ⟨0, p⟩ 3 (at_ : Int) W h)
      rw [e1] at HF
      unfold outN at ho
      have key : (most < 0 ∧ 0 < n) ∨ (most < 0 ∧ n = 0) ∨ (0 ≤ most ∧ most < (n : Int)) ∨ (0 ≤ most ∧ (n : Int) ≤ most ∧ 0 < least ∧ (n : Int) < least) := by omega
      clear ho e1
      have HS : Hid (s.pos = at_) := HP
      rcases key with ⟨a1, a2⟩ | ⟨a1, a2⟩ | ⟨a1, a2⟩ | ⟨a1, a2, a3, a4⟩
      · have d1 : decide (0 ≤ most) = false := by simpa using a1
        have d2 : decide (0 < n) = true := by simpa using a2
        have d3 : decide ((0 : Int) < (n : Int)) = true := by simpa using a2
        go_enter Try.func44, Try.ntmps44
        go_wp2_with (first
          | (go_at_call 66; refine HU.out.mono ?_; rintro e w1 ⟨rfl, hR, hK⟩; have q2 := hR.c2; have HR1 := Lib.hid hR; have HK1 := Lib.hid hK; clear hR hK; simp only at q2)
          | (go_at_call 67; refine (HF.out w1 HR1.out).mono ?_; rintro e w2 ⟨⟨r, rfl⟩, hR, hK⟩; have q3 := hR.c2; have HR2 := Lib.hid hR; have HK2 := Lib.hid hK; clear hR hK; simp only at q3))
        go_ret
        exact ⟨rfl, by rw [HS.out]; exact HR2.out, HK1.out.trans HK2.out⟩
      · subst a2
        have d1 : decide (0 ≤ most) = false := by simpa using a1
        have d2 : decide (most < 0) = true := by simpa using a1
        go_enter Try.func44, Try.ntmps44
        go_wp2_with (first
          | (go_at_call 66; refine HU.out.mono ?_; rintro e w1 ⟨rfl, hR, hK⟩; have q2 := hR.c2; have HR1 := Lib.hid hR; have HK1 := Lib.hid hK; clear hR hK; simp only at q2)
          | (go_at_call 67; refine (HF.out w1 HR1.out).mono ?_; rintro e w2 ⟨⟨r, rfl⟩, hR, hK⟩; have q3 := hR.c2; have HR2 := Lib.hid hR; have HK2 := Lib.hid hK; clear hR hK; simp only at q3))
        go_ret
        exact ⟨rfl, by rw [HS.out]; exact HR2.out, HK1.out.trans HK2.out⟩
      · have d1 : decide (0 ≤ most) = true := by simpa using a1
        have d2 : decide (most < (n : Int)) = true := by simpa using a2
        have w1' : IntKind.u64.wrap most = most := by simp [IntKind.wrap, IntKind.bits, IntKind.signed]; omega
        go_enter Try.func44, Try.ntmps44
        go_wp2_with (first
          | (go_at_call 66; refine HU.out.mono ?_; rintro e w1 ⟨rfl, hR, hK⟩; have q2 := hR.c2; have HR1 := Lib.hid hR; have HK1 := Lib.hid hK; clear hR hK; simp only at q2)
          | (go_at_call 67; refine (HF.out w1 HR1.out).mono ?_; rintro e w2 ⟨⟨r, rfl⟩, hR, hK⟩; have q3 := hR.c2; have HR2 := Lib.hid hR; have HK2 := Lib.hid hK; clear hR hK; simp only at q3))
        go_ret
        exact ⟨rfl, by rw [HS.out]; exact HR2.out, HK1.out.trans HK2.out⟩
      · have d1 : decide (0 ≤ most) = true := by simpa using a1
        have d2 : decide (most < (n : Int)) = false := by simpa using a2
        have d3 : decide (most < 0) = false := by simpa using a1
        have d4 : decide (0 < least) = true := by simpa using a3
        have d5 : decide ((n : Int) < least) = true := by simpa using a4
        have w1' : IntKind.u64.wrap most = most := by simp [IntKind.wrap, IntKind.bits, IntKind.signed]; omega
        have w2' : IntKind.u64.wrap least = least := by simp [IntKind.wrap, IntKind.bits, IntKind.signed]; omega
        go_enter Try.func44, Try.ntmps44
        go_wp2_with (first
          | (go_at_call 66; refine HU.out.mono ?_; rintro e w1 ⟨rfl, hR, hK⟩; have q2 := hR.c2; have HR1 := Lib.hid hR; have HK1 := Lib.hid hK; clear hR hK; simp only at q2)
          | (go_at_call 67; refine (HF.out w1 HR1.out).mono ?_; rintro e w2 ⟨⟨r, rfl⟩, hR, hK⟩; have q3 := hR.c2; have HR2 := Lib.hid hR; have HK2 := Lib.hid hK; clear hR hK; simp only at q3))
        go_ret
        exact ⟨rfl, by rw [HS.out]; exact HR2.out, HK1.out.trans HK2.out⟩
    · rw [if_neg ho]
      unfold outN at ho
      have a1 : 0 ≤ most := by omega
      have a2 : (n : Int) ≤ most := by omega
      have w3' : wrap64 (n : Int) = (n : Int) := IntWalk.wrap64_in (n : Int) ⟨by omega, by omega⟩
      have d1 : decide (0 ≤ most) = true := by simpa using a1
      have d2 : decide (most < (n : Int)) = false := by simpa using a2
      have d3 : decide (most < 0) = false := by simpa using a1
      have w1' : IntKind.u64.wrap most = most := by simp [IntKind.wrap, IntKind.bits, IntKind.signed]; omega
      by_cases a3 : 0 < least
      · have a4 : least ≤ (n : Int) := by omega
        have d4 : decide (0 < least) = true := by simpa using a3
        have d5 : decide ((n : Int) < least) = false := by simpa using a4
        have w2' : IntKind.u64.wrap least = least := by simp [IntKind.wrap, IntKind.bits, IntKind.signed]; omega
        clear ho
        go_enter Try.func44, Try.ntmps44
        go_wp2_with (first
          | (go_at_call 66; refine HU.out.mono ?_; rintro e w1 ⟨rfl, hR, hK⟩; have q2 := hR.c2; have HR1 := Lib.hid hR; have HK1 := Lib.hid hK; clear hR hK; simp only at q2)
          | (go_at_call 67; refine (HF.out w1 HR1.out).mono ?_; rintro e w2 ⟨⟨r, rfl⟩, hR, hK⟩; have q3 := hR.c2; have HR2 := Lib.hid hR; have HK2 := Lib.hid hK; clear hR hK; simp only at q3))
        go_ret
        exact ⟨rfl, HR1.out, HK1.out⟩
      · have d4 : decide (0 < least) = false := by simpa using a3
        clear ho
        go_enter Try.func44, Try.ntmps44
        go_wp2_with (first
          | (go_at_call 66; refine HU.out.mono ?_; rintro e w1 ⟨rfl, hR, hK⟩; have q2 := hR.c2; have HR1 := Lib.hid hR; have HK1 := Lib.hid hK; clear hR hK; simp only at q2)
          | (go_at_call 67; refine (HF.out w1 HR1.out).mono ?_; rintro e w2 ⟨⟨r, rfl⟩, hR, hK⟩; have q3 := hR.c2; have HR2 := Lib.hid hR; have HK2 := Lib.hid hK; clear hR hK; simp only at q3))
        go_ret
        exact ⟨rfl, HR1.out, HK1.out⟩
end Go.Proofs.Ytmapcghgdbfmhaa
