/-
  Codec: a reader in memory; what it tells. Conditions: none.
-/
import Derived.Test.YtmapcghgdbfmhaaCodF
import Derived.Test.YtmapcghgdbfmhaaKitB
import Derived.Test.YtmapcghgdbfmhaaPick2
import Derived.Test.YtmapcghgdbfmhaaRegion
import Derived.Deep.RegionHeld3
namespace Go.Proofs.Ytmapcghgdbfmhaa
open Go Go.RowKit Go.Own Go.Shelf

/-- A reader's state: its error (0: none) and its place, or that of its fault. -/
structure RS where
  err : Int
  pos : Int

/-- A reader at block b: its bytes' slice v, its fault's pointer fp, its own place. -/
structure RdAt (w : World) (b : Nat) (v fp : Value) (l : List UInt8) (s : RS) : Prop where
  ex : ∃ at_ : Nat, w.heap[b]? = some (.cells #[v, .int .i64 (at_ : Int), .bool true, fp] 100 (0, 0)) ∧ at_ ≤ l.length ∧
    ((s.err = 0 ∧ s.pos = at_ ∧ fp = .pointer none) ∨ (s.err ≠ 0 ∧ ∃ g, fp = .pointer (some ⟨g, 0, none⟩) ∧ g ≠ b ∧ w.heap[g]? = some (.cells #[.int .i64 s.err, .int .i64 s.pos] 38 (0, 0))))
  bytes : BytesAt w v l
  own : v.ownBlock ≠ some b
def ptrBlock : Value → Option Nat
  | .pointer (some a) => some a.block
  | _ => none
/-- Its blocks. -/
def rdBlk (b : Nat) (v fp : Value) : Nat → Prop := fun j => j = b ∨ v.ownBlock = some j ∨ ptrBlock fp = some j
theorem RdAt.keeps {w w' : World} {M : Nat → Prop} {b : Nat} {v fp : Value} {l : List UInt8} {s : RS} (h : RdAt w b v fp l s) (k : Keeps M w w') (hm : ∀ j, rdBlk b v fp j → ¬ M j) : RdAt w' b v fp l s := by
  obtain ⟨at_, hb, hl, hf⟩ := h.ex
  refine ⟨⟨at_, (k.block b (lt_of_block hb) (hm b (.inl rfl))).trans hb, hl, ?_⟩, h.bytes.keeps k (fun j hj => hm j (.inr (.inl hj))), h.own⟩
  rcases hf with hf | ⟨h0, g, rfl, hg, hc⟩
  · exact .inl hf
  · exact .inr ⟨h0, g, rfl, hg, (k.block g (lt_of_block hc) (hm g (.inr (.inr rfl)))).trans hc⟩
theorem RdAt.lt {w : World} {b : Nat} {v fp : Value} {l : List UInt8} {s : RS} (h : RdAt w b v fp l s) : b < w.heap.size := by
  obtain ⟨at_, hb, _⟩ := h.ex
  exact lt_of_block hb

set_option maxRecDepth 100000 in
set_option maxHeartbeats 1000000 in
theorem rnone_ok (b : Nat) (v fp : Value) (l : List UInt8) (s : RS) (w : World) (h : RdAt w b v fp l s) :
    Calls Try.prog 65 #[.pointer (some ⟨b, 0, none⟩)] w fun e w' => e = .returned (.bool false) ∧ w = w' := by
  obtain ⟨at_, hb, hl, hf⟩ := h.ex
  have c2 : w.cell? ⟨b, 2, none⟩ = some (.bool true) := (cell_of_row w b 2 _ _ _ hb).trans rfl
  clear h hb hf
  go_enter Try.func65, Try.ntmps65
  go_wp2
  go_ret
  exact ⟨rfl, rfl⟩
/-- How many bytes are left. -/
def RS.left (s : RS) (l : List UInt8) : Int := if s.err = 0 then l.length - s.pos else 0
/-- What End tells. -/
def RS.fin (s : RS) (l : List UInt8) : Int × Int := if s.err = 0 then (if s.pos < l.length then (4, s.pos) else (0, 0)) else (s.err, s.pos)

set_option maxRecDepth 100000 in
set_option maxHeartbeats 2000000 in
theorem rEnd_ok (b : Nat) (v fp : Value) (l : List UInt8) (s : RS) (w : World) (h : RdAt w b v fp l s) :
    Calls Try.prog 42 #[.pointer (some ⟨b, 0, none⟩)] w fun e w' => e = .returned (.agg #[.int .i64 (s.fin l).1, .int .i64 (s.fin l).2]) ∧ Keeps Nob w w' := by
  have hk0 : Keeps Nob w (w.alloc (.cells #[.int .i64 0, .int .i64 0] 38)) := (Keeps.refl _ _).alloc _
  have hA := h.keeps hk0 (fun _ _ x => x)
  have HN := Lib.hid (rnone_ok b v fp l s _ hA)
  have hll := h.bytes.length_le
  obtain ⟨A, cap, rfl⟩ := h.bytes.len
  obtain ⟨at_, hb, hl, hf⟩ := hA.ex
  have hlt := h.lt
  have c0 := (cell_of_row _ b 0 _ _ _ hb).trans (show _ = some (.slice A l.length cap) from rfl)
  have c1 := (cell_of_row _ b 1 _ _ _ hb).trans (show _ = some (.int .i64 (at_ : Int)) from rfl)
  have c3 := (cell_of_row _ b 3 _ _ _ hb).trans (show _ = some fp from rfl)
  clear h hA hb
  rcases hf with ⟨h0, hp, rfl⟩ | ⟨h0, g, rfl, hg, hc⟩
  · by_cases h1 : at_ < l.length
    · have hs : s.fin l = (4, (at_ : Int)) := by unfold RS.fin; rw [if_pos h0, hp, if_pos (by omega)]
      rw [hs]
      clear hs h0 hp
      go_enter Try.func42, Try.ntmps42
      go_wp2_with (go_at_call 65; refine HN.out.mono ?_; rintro e w' ⟨rfl, rfl⟩)
      go_quiet (fail)
      go_wp2
      exact bodyPost_ret (v := .agg #[.int .i64 4, .int .i64 (at_ : Int)]) (by simp [results, Try.results42, go_sem]) rfl ⟨rfl, ((hk0.drewN _).setCell_new (p := ⟨w.heap.size, 0, none⟩) (Nat.le_refl _) _).setCell_new (p := ⟨w.heap.size, 1, none⟩) (Nat.le_refl _) _⟩
    · have hs : s.fin l = (0, 0) := by unfold RS.fin; rw [if_pos h0, hp, if_neg (by omega)]
      rw [hs]
      clear hs h0 hp
      go_enter Try.func42, Try.ntmps42
      go_wp2_with (go_at_call 65; refine HN.out.mono ?_; rintro e w' ⟨rfl, rfl⟩)
      go_quiet (fail)
      go_wp2
      exact bodyPost_ret (v := .agg #[.int .i64 0, .int .i64 0]) (by simp [results, Try.results42, go_sem]) rfl ⟨rfl, ((hk0.drewN _).setCell_new (p := ⟨w.heap.size, 0, none⟩) (Nat.le_refl _) _).setCell_new (p := ⟨w.heap.size, 1, none⟩) (Nat.le_refl _) _⟩
  · have g0 := (cell_of_row _ g 0 _ _ _ hc).trans (show _ = some (.int .i64 s.err) from rfl)
    have g1 := (cell_of_row _ g 1 _ _ _ hc).trans (show _ = some (.int .i64 s.pos) from rfl)
    have hs : s.fin l = (s.err, s.pos) := by unfold RS.fin; rw [if_neg h0]
    rw [hs]
    clear hs h0 hc
    go_enter Try.func42, Try.ntmps42
    go_wp2_with (go_at_call 65; refine HN.out.mono ?_; rintro e w' ⟨rfl, rfl⟩)
    exact bodyPost_ret (v := .agg #[.int .i64 s.err, .int .i64 s.pos]) (by simp [results, Try.results42, go_sem]) rfl ⟨rfl, (Keeps.refl _ _).alloc _⟩

/-- A fault that is laid from without. -/
def RS.fail (s : RS) (e p : Int) : RS := if s.err = 0 ∧ e ≠ 0 then ⟨e, p⟩ else s
/-- What a step may lay: a fault's new block. -/
def NewPtr (w : World) (fp fp' : Value) : Prop := fp' = fp ∨ ∃ g, fp' = .pointer (some ⟨g, 0, none⟩) ∧ w.heap.size ≤ g

set_option maxRecDepth 100000 in
set_option maxHeartbeats 2000000 in
theorem rFail_ok (b : Nat) (v fp : Value) (l : List UInt8) (s : RS) (e p : Int) (w : World) (h : RdAt w b v fp l s) :
    Calls Try.prog 87 #[.pointer (some ⟨b, 0, none⟩), .int .i64 e, .int .i64 p] w fun x w' => (∃ r, x = .returned r) ∧ (∃ fp', RdAt w' b v fp' l (s.fail e p) ∧ NewPtr w fp fp') ∧ Keeps (One b) w w' := by
  have H := Lib.hid h
  have HN := Lib.hid (rnone_ok b v fp l s w h)
  obtain ⟨at_, hb, hl, hf⟩ := h.ex
  have c3 : w.cell? ⟨b, 3, none⟩ = some fp := (cell_of_row w b 3 _ _ _ hb).trans rfl
  have f3 : w.frozen? ⟨b, 3, none⟩ = false := frozen_of_row w b 3 _ _ hb
  have hlt := h.lt
  have HBK := Lib.hid hb
  clear h hb
  rcases hf with ⟨h0, hp, rfl⟩ | ⟨h0, g, rfl, hg, hc⟩
  · by_cases he : e = 0
    · have hs : s.fail e p = s := by unfold RS.fail; rw [if_neg (by simp [he])]
      rw [hs]
      have hb : (e != 0) = false := by simpa using he
      clear hs h0 hp he
      go_enter Try.func87, Try.ntmps87
      go_wp2_with (go_at_call 65; refine HN.out.mono ?_; rintro e w' ⟨rfl, rfl⟩)
      go_end0
      exact ⟨⟨_, rfl⟩, ⟨_, H.out, .inl rfl⟩, Keeps.refl _ _⟩
    · have hs : s.fail e p = ⟨e, p⟩ := by unfold RS.fail; rw [if_pos ⟨h0, he⟩]
      rw [hs]
      have hb : (e != 0) = true := by simpa using he
      have HE := Lib.hid he
      clear hs h0 hp he
      go_enter Try.func87, Try.ntmps87
      go_wp2_with (go_at_call 65; refine HN.out.mono ?_; rintro e w' ⟨rfl, rfl⟩)
      go_end0
      have kS : Keeps (One b) w (w.setCell ⟨b, 3, none⟩ (.pointer (some ⟨w.heap.size, 0, none⟩))) := (Keeps.refl _ _).setOne _
      have hbS : (w.setCell ⟨b, 3, none⟩ (.pointer (some ⟨w.heap.size, 0, none⟩))).heap[b]? = some (.cells #[v, .int .i64 (at_ : Int), .bool true, .pointer (some ⟨w.heap.size, 0, none⟩)] 100 (0, 0)) := heap_setCell_same w b 3 _ _ _ HBK.out
      have hsz : (w.setCell ⟨b, 3, none⟩ (.pointer (some ⟨w.heap.size, 0, none⟩))).heap.size = w.heap.size := by simp
      generalize w.setCell ⟨b, 3, none⟩ (.pointer (some ⟨w.heap.size, 0, none⟩)) = WS at *
      have hg2 : (WS.alloc (.cells #[.int .i64 e, .int .i64 p] 38)).heap[w.heap.size]? = some (.cells #[.int .i64 e, .int .i64 p] 38 (0, 0)) := by rw [← hsz]; exact heap_alloc_new _ _
      have hk := kS.alloc (.cells #[.int .i64 e, .int .i64 p] 38)
      refine ⟨⟨_, rfl⟩, ⟨_, ⟨⟨at_, (Below.heap_alloc _ _ _ (by omega)).trans hbS, hl, .inr ⟨HE.out, w.heap.size, rfl, by omega, hg2⟩⟩, ?_, H.out.own⟩, .inr ⟨_, rfl, Nat.le_refl _⟩⟩, hk⟩
      exact H.out.bytes.keeps hk (fun j hj (e : j = b) => H.out.own (by rw [hj, e]))
  · have hs : s.fail e p = s := by unfold RS.fail; rw [if_neg (by simp [h0])]
    rw [hs]
    clear hs h0 hc
    go_enter Try.func87, Try.ntmps87
    go_wp2_with (go_at_call 65; refine HN.out.mono ?_; rintro e w' ⟨rfl, rfl⟩)
    go_end0
    exact ⟨⟨_, rfl⟩, ⟨_, H.out, .inl rfl⟩, Keeps.refl _ _⟩

/-- 'slices.Clone' of bytes: nil of nil, else new memory. -/
theorem u8_info1 : (Try.prog.info? 5).map (fun i => (i.zero, i.size, i.bytes)) = some (some (.int .u8 0), 1, 1) := by kernel_rfl
set_option maxRecDepth 100000 in
set_option maxHeartbeats 1000000 in
theorem clone_ok (a : Value) (l : List UInt8) (w : World) (ha : BytesAt w a l) (hl : l.length ≤ 100000000) :
    Calls Try.prog 60 #[a] w fun e w' => ∃ v, e = .returned v ∧ Row w' 5 1 v l.length (B l) ∧ (∀ j, v.ownBlock = some j → w.heap.size ≤ j) ∧ Keeps Nob w w' := by
  obtain ⟨i0, hi, hz0, hz1, hz2⟩ := info_parts u8_info1
  obtain ⟨A, cap, rfl, h1, h2, h3⟩ := ha.form
  cases A with
  | none =>
    have h0 : l = [] := by
      cases l with
      | nil => rfl
      | cons x r => obtain ⟨b, o, c, e, _⟩ := ha.at_ 0 x rfl; simp at e
    subst h0
    obtain rfl := h3 rfl
    clear ha
    have hn := fun W => Lib.run_eql_slice_nil (P := Try.prog) W 22 5 none 0 0 0 0 Try.underlying22
    go_enter Try.func60, Try.ntmps60
    go_wp2
    go_ret
    exact ⟨_, rfl, ⟨rfl, .inl ⟨rfl, rfl⟩⟩, (fun j hj => by cases hj), Keeps.refl _ _⟩
  | some ad =>
    have hr := Row.empty w 5
    have hs := (ha.keepsN ((Keeps.refl Nob w).alloc (.cells #[] 5))).src
    have HA := Lib.hid ha
    clear ha h3
    have hn := fun W => Lib.run_eql_slice_nil (P := Try.prog) W 22 5 (some ad) l.length cap 0 0 Try.underlying22
    go_enter Try.func60, Try.ntmps60
    go_wp2_with (at_builtin; refine own_append2 rfl _ _ 22 rfl 5 i0 (.int .u8 0) 1 1 Try.underlying22 hi hz0 hz1 hz2 rfl (by decide) (.slice (some ⟨w.heap.size, 0, none⟩) 0 0) 0 _ rfl hr (.slice (some ad) l.length cap) l.length (B l) rfl hs (by unfold maxLen; omega) (by omega) ?_; intro v' w1 hown' hgrow hnil hat; rw [Nat.zero_add, List.nil_append] at hown'; have H1 := Lib.hid hown'; have H3 := Lib.hid hat; have H4 := Lib.hid hgrow; clear hown' hnil hat hgrow)
    go_ret
    refine ⟨_, rfl, H1.out, fun j hj => ?_, ((Keeps.refl Nob w).alloc _).grown H4.out (fun j hj hlt => by simp [Value.ownBlock] at hj; omega)⟩
    rcases H3.out j hj with h | ⟨h, _⟩
    · simp [Value.ownBlock] at h; omega
    · simp at h; omega

set_option maxRecDepth 100000 in
set_option maxHeartbeats 1000000 in
theorem newReader_ok (a : Value) (l : List UInt8) (w : World) (ha : BytesAt w a l) (hl : l.length ≤ 100000000) :
    Calls Try.prog 38 #[a] w fun e w' => ∃ b v, e = .returned (.pointer (some ⟨b, 0, none⟩)) ∧ RdAt w' b v (.pointer none) l ⟨0, 0⟩ ∧ w.heap.size ≤ b ∧ (∀ j, v.ownBlock = some j → w.heap.size ≤ j ∧ j < w'.heap.size) ∧ Keeps Nob w w' := by
  have HC := Lib.hid (clone_ok a l w ha hl)
  clear ha
  go_enter Try.func38, Try.ntmps38
  go_wp2_with (go_at_call 60; refine HC.out.mono ?_; rintro e w' ⟨v, rfl, h1, h2, h3⟩; obtain ⟨A, cap, rfl⟩ := (Row.bytes h1).len; have H1 := Lib.hid h1; have H2 := Lib.hid h2; clear h1 h2)
  go_ret
  have hkA : Keeps Nob w' (w'.alloc (.cells #[.slice A l.length cap, .int .i64 0, .bool true, .pointer none] 100)) := (Keeps.refl _ _).alloc _
  refine ⟨w'.heap.size, .slice A l.length cap, rfl, ⟨⟨0, heap_alloc_new _ _, Nat.zero_le _, .inl ⟨rfl, rfl, rfl⟩⟩, (Row.bytes H1.out).keepsN hkA, fun h => ?_⟩, h3.size, fun j hj => ⟨H2.out j hj, Nat.lt_of_lt_of_le (H1.out.lt hj) hkA.size⟩, h3.trans hkA⟩
  exact absurd (H1.out.lt h) (by omega)
end Go.Proofs.Ytmapcghgdbfmhaa
