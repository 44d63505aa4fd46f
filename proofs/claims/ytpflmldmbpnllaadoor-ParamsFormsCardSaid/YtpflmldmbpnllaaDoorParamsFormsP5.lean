import Derived.Test.YtpflmldmbpnllaaDoorParamsFormsP4
namespace Go.Proofs.YtpflmldmbpnllaaDoor
set_option maxRecDepth 100000
set_option maxHeartbeats 4000000
open Go Go.RowKit Go.Own Go.Shelf
/-- A reader's state: its error (0: none) and its place, or that of its fault. -/
structure RS where
  err : Int
  pos : Int
/-- A reader at block b: its bytes' slice v, its fault's pointer fp, its own place. -/
structure RdAt (w : World) (b : Nat) (v fp : Value) (l : List UInt8) (s : RS) : Prop where
  ex : ∃ at_ : Nat, w.heap[b]? = some (.cells #[v, .int .i64 (at_ : Int), .bool true, fp] 116 (0, 0)) ∧ at_ ≤ l.length ∧
    ((s.err = 0 ∧ s.pos = at_ ∧ fp = .pointer none) ∨ (s.err ≠ 0 ∧ ∃ g, fp = .pointer (some ⟨g, 0, none⟩) ∧ g ≠ b ∧ w.heap[g]? = some (.cells #[.int .i64 s.err, .int .i64 s.pos] 46 (0, 0))))
  bytes : BytesAt w v l
  own : v.ownBlock ≠ some b
def ptrBlock : Value → Option Nat
  | .pointer (some a) => some a.block
  | _ => none
/-- Its blocks. -/
def rdBlk (b : Nat) (v fp : Value) : Nat → Prop := fun j => j = b ∨ v.ownBlock = some j ∨ ptrBlock fp = some j
theorem RdAt.keeps {w w' : World} {M : Nat → Prop} {b : Nat} {v fp : Value} {l : List UInt8} {s : RS} (h : RdAt w b v fp l s) (k : Keeps M w w') (hm : ∀ j, rdBlk b v fp j → ¬ M j) : RdAt w' b v fp l s := by
  obtain ⟨at_, hb, hl, hf⟩ := h.ex
  refine ⟨⟨at_, (k.block b (lt_of_block hb) (hm b (.inl rfl))).trans hb, hl, ?_⟩, h.bytes.keeps k (fun j hj => hm j (.inr (.inl hj))), h.own⟩
  rcases hf with hf | ⟨h0, g, rfl, hg, hc⟩
  · exact .inl hf
  · exact .inr ⟨h0, g, rfl, hg, (k.block g (lt_of_block hc) (hm g (.inr (.inr rfl)))).trans hc⟩
theorem RdAt.lt {w : World} {b : Nat} {v fp : Value} {l : List UInt8} {s : RS} (h : RdAt w b v fp l s) : b < w.heap.size := by
  obtain ⟨at_, hb, _⟩ := h.ex
  exact lt_of_block hb
theorem rnone_ok (b : Nat) (v fp : Value) (l : List UInt8) (s : RS) (w : World) (h : RdAt w b v fp l s) :
    Calls Tryd.prog 77 #[.pointer (some ⟨b, 0, none⟩)] w fun e w' => e = .returned (.bool false) ∧ w = w' := by
  obtain ⟨at_, hb, hl, hf⟩ := h.ex
  have c2 : w.cell? ⟨b, 2, none⟩ = some (.bool true) := (cell_of_row w b 2 _ _ _ hb).trans rfl
  clear h hb hf
  go_enter Tryd.func77, Tryd.ntmps77
  go_wp2
  go_ret
  exact ⟨rfl, rfl⟩
theorem rAt_ok (b : Nat) (v fp : Value) (l : List UInt8) (s : RS) (w : World) (h : RdAt w b v fp l s) :
    Calls Tryd.prog 55 #[.pointer (some ⟨b, 0, none⟩)] w fun e w' => e = .returned (.int .i64 s.pos) ∧ w = w' := by
  have HN := Lib.hid (rnone_ok b v fp l s w h)
  obtain ⟨at_, hb, hl, hf⟩ := h.ex
  have c1 : w.cell? ⟨b, 1, none⟩ = some (.int .i64 (at_ : Int)) := (cell_of_row w b 1 _ _ _ hb).trans rfl
  have c3 : w.cell? ⟨b, 3, none⟩ = some fp := (cell_of_row w b 3 _ _ _ hb).trans rfl
  clear h hb
  rcases hf with ⟨h0, hp, rfl⟩ | ⟨h0, g, rfl, hg, hc⟩
  · rw [hp]
    clear hp
    go_enter Tryd.func55, Tryd.ntmps55
    go_wp2_with (go_at_call 77; refine HN.out.mono ?_; rintro e w' ⟨rfl, rfl⟩)
    go_ret
    exact ⟨rfl, rfl⟩
  · have g1 : w.cell? ⟨g, 1, none⟩ = some (.int .i64 s.pos) := (cell_of_row w g 1 _ _ _ hc).trans rfl
    clear hc
    go_enter Tryd.func55, Tryd.ntmps55
    go_wp2_with (go_at_call 77; refine HN.out.mono ?_; rintro e w' ⟨rfl, rfl⟩)
    go_ret
    exact ⟨rfl, rfl⟩
/-- How many bytes are left. -/
def RS.left (s : RS) (l : List UInt8) : Int := if s.err = 0 then l.length - s.pos else 0
/-- What End tells. -/
def RS.fin (s : RS) (l : List UInt8) : Int × Int := if s.err = 0 then (if s.pos < l.length then (4, s.pos) else (0, 0)) else (s.err, s.pos)
theorem rEnd_ok (b : Nat) (v fp : Value) (l : List UInt8) (s : RS) (w : World) (h : RdAt w b v fp l s) :
    Calls Tryd.prog 58 #[.pointer (some ⟨b, 0, none⟩)] w fun e w' => e = .returned (.agg #[.int .i64 (s.fin l).1, .int .i64 (s.fin l).2]) ∧ Keeps Nob w w' := by
  have hk0 : Keeps Nob w (w.alloc (.cells #[.int .i64 0, .int .i64 0] 46)) := (Keeps.refl _ _).alloc _
  have hA := h.keeps hk0 (fun _ _ x => x)
  have HN := Lib.hid (rnone_ok b v fp l s _ hA)
  have hll := h.bytes.length_le
  obtain ⟨A, cap, rfl⟩ := h.bytes.len
  obtain ⟨at_, hb, hl, hf⟩ := hA.ex
  have hlt := h.lt
  have c0 := (cell_of_row _ b 0 _ _ _ hb).trans (show _ = some (.slice A l.length cap) from rfl)
  have c1 := (cell_of_row _ b 1 _ _ _ hb).trans (show _ = some (.int .i64 (at_ : Int)) from rfl)
  have c3 := (cell_of_row _ b 3 _ _ _ hb).trans (show _ = some fp from rfl)
  clear h hA hb
  rcases hf with ⟨h0, hp, rfl⟩ | ⟨h0, g, rfl, hg, hc⟩
  · by_cases h1 : at_ < l.length
    · have hs : s.fin l = (4, (at_ : Int)) := by unfold RS.fin; rw [if_pos h0, hp, if_pos (by omega)]
      rw [hs]
      clear hs h0 hp
      go_enter Tryd.func58, Tryd.ntmps58
      go_wp2_with (go_at_call 77; refine HN.out.mono ?_; rintro e w' ⟨rfl, rfl⟩)
      go_quiet (fail)
      go_wp2
      exact bodyPost_ret (v := .agg #[.int .i64 4, .int .i64 (at_ : Int)]) (by simp [results, Tryd.results58, go_sem]) rfl ⟨rfl, ((hk0.drewN _).setCell_new (p := ⟨w.heap.size, 0, none⟩) (Nat.le_refl _) _).setCell_new (p := ⟨w.heap.size, 1, none⟩) (Nat.le_refl _) _⟩
    · have hs : s.fin l = (0, 0) := by unfold RS.fin; rw [if_pos h0, hp, if_neg (by omega)]
      rw [hs]
      clear hs h0 hp
      go_enter Tryd.func58, Tryd.ntmps58
      go_wp2_with (go_at_call 77; refine HN.out.mono ?_; rintro e w' ⟨rfl, rfl⟩)
      go_quiet (fail)
      go_wp2
      exact bodyPost_ret (v := .agg #[.int .i64 0, .int .i64 0]) (by simp [results, Tryd.results58, go_sem]) rfl ⟨rfl, ((hk0.drewN _).setCell_new (p := ⟨w.heap.size, 0, none⟩) (Nat.le_refl _) _).setCell_new (p := ⟨w.heap.size, 1, none⟩) (Nat.le_refl _) _⟩
  · have g0 := (cell_of_row _ g 0 _ _ _ hc).trans (show _ = some (.int .i64 s.err) from rfl)
    have g1 := (cell_of_row _ g 1 _ _ _ hc).trans (show _ = some (.int .i64 s.pos) from rfl)
    have hs : s.fin l = (s.err, s.pos) := by unfold RS.fin; rw [if_neg h0]
    rw [hs]
    clear hs h0 hc
    go_enter Tryd.func58, Tryd.ntmps58
    go_wp2_with (go_at_call 77; refine HN.out.mono ?_; rintro e w' ⟨rfl, rfl⟩)
    exact bodyPost_ret (v := .agg #[.int .i64 s.err, .int .i64 s.pos]) (by simp [results, Tryd.results58, go_sem]) rfl ⟨rfl, (Keeps.refl _ _).alloc _⟩
/-- A fault that is laid from without. -/
def RS.fail (s : RS) (e p : Int) : RS := if s.err = 0 ∧ e ≠ 0 then ⟨e, p⟩ else s
/-- What a step may lay: a fault's new block. -/
def NewPtr (w : World) (fp fp' : Value) : Prop := fp' = fp ∨ ∃ g, fp' = .pointer (some ⟨g, 0, none⟩) ∧ w.heap.size ≤ g
theorem rFail_ok (b : Nat) (v fp : Value) (l : List UInt8) (s : RS) (e p : Int) (w : World) (h : RdAt w b v fp l s) :
    Calls Tryd.prog 57 #[.pointer (some ⟨b, 0, none⟩), .int .i64 e, .int .i64 p] w fun x w' => (∃ r, x = .returned r) ∧ (∃ fp', RdAt w' b v fp' l (s.fail e p) ∧ NewPtr w fp fp') ∧ Keeps (One b) w w' := by
  have H := Lib.hid h
  have HN := Lib.hid (rnone_ok b v fp l s w h)
  obtain ⟨at_, hb, hl, hf⟩ := h.ex
  have c3 : w.cell? ⟨b, 3, none⟩ = some fp := (cell_of_row w b 3 _ _ _ hb).trans rfl
  have f3 : w.frozen? ⟨b, 3, none⟩ = false := frozen_of_row w b 3 _ _ hb
  have hlt := h.lt
  have HBK := Lib.hid hb
  clear h hb
  rcases hf with ⟨h0, hp, rfl⟩ | ⟨h0, g, rfl, hg, hc⟩
  · by_cases he : e = 0
    · have hs : s.fail e p = s := by unfold RS.fail; rw [if_neg (by simp [he])]
      rw [hs]
      have hb : (e != 0) = false := by simpa using he
      clear hs h0 hp he
      go_enter Tryd.func57, Tryd.ntmps57
      go_wp2_with (go_at_call 77; refine HN.out.mono ?_; rintro e w' ⟨rfl, rfl⟩)
      go_end0
      exact ⟨⟨_, rfl⟩, ⟨_, H.out, .inl rfl⟩, Keeps.refl _ _⟩
    · have hs : s.fail e p = ⟨e, p⟩ := by unfold RS.fail; rw [if_pos ⟨h0, he⟩]
      rw [hs]
      have hb : (e != 0) = true := by simpa using he
      have HE := Lib.hid he
      clear hs h0 hp he
      go_enter Tryd.func57, Tryd.ntmps57
      go_wp2_with (go_at_call 77; refine HN.out.mono ?_; rintro e w' ⟨rfl, rfl⟩)
      go_end0
      have kS : Keeps (One b) w (w.setCell ⟨b, 3, none⟩ (.pointer (some ⟨w.heap.size, 0, none⟩))) := (Keeps.refl _ _).setOne _
      have hbS : (w.setCell ⟨b, 3, none⟩ (.pointer (some ⟨w.heap.size, 0, none⟩))).heap[b]? = some (.cells #[v, .int .i64 (at_ : Int), .bool true, .pointer (some ⟨w.heap.size, 0, none⟩)] 116 (0, 0)) := heap_setCell_same w b 3 _ _ _ HBK.out
      have hsz : (w.setCell ⟨b, 3, none⟩ (.pointer (some ⟨w.heap.size, 0, none⟩))).heap.size = w.heap.size := by simp
      generalize w.setCell ⟨b, 3, none⟩ (.pointer (some ⟨w.heap.size, 0, none⟩)) = WS at *
      have hg2 : (WS.alloc (.cells #[.int .i64 e, .int .i64 p] 46)).heap[w.heap.size]? = some (.cells #[.int .i64 e, .int .i64 p] 46 (0, 0)) := by rw [← hsz]; exact heap_alloc_new _ _
      have hk := kS.alloc (.cells #[.int .i64 e, .int .i64 p] 46)
      refine ⟨⟨_, rfl⟩, ⟨_, ⟨⟨at_, (Below.heap_alloc _ _ _ (by omega)).trans hbS, hl, .inr ⟨HE.out, w.heap.size, rfl, by omega, hg2⟩⟩, ?_, H.out.own⟩, .inr ⟨_, rfl, Nat.le_refl _⟩⟩, hk⟩
      exact H.out.bytes.keeps hk (fun j hj (e : j = b) => H.out.own (by rw [hj, e]))
  · have hs : s.fail e p = s := by unfold RS.fail; rw [if_neg (by simp [h0])]
    rw [hs]
    clear hs h0 hc
    go_enter Tryd.func57, Tryd.ntmps57
    go_wp2_with (go_at_call 77; refine HN.out.mono ?_; rintro e w' ⟨rfl, rfl⟩)
    go_end0
    exact ⟨⟨_, rfl⟩, ⟨_, H.out, .inl rfl⟩, Keeps.refl _ _⟩
/-- 'slices.Clone' of bytes: nil of nil, else new memory. -/
theorem u8_info1 : (Tryd.prog.info? 5).map (fun i => (i.zero, i.size, i.bytes)) = some (some (.int .u8 0), 1, 1) := by kernel_rfl
theorem clone_ok (a : Value) (l : List UInt8) (w : World) (ha : BytesAt w a l) (hl : l.length ≤ 100000000) :
    Calls Tryd.prog 76 #[a] w fun e w' => ∃ v, e = .returned v ∧ Row w' 5 1 v l.length (B l) ∧ (∀ j, v.ownBlock = some j → w.heap.size ≤ j) ∧ Keeps Nob w w' := by
  obtain ⟨i0, hi, hz0, hz1, hz2⟩ := info_parts u8_info1
  obtain ⟨A, cap, rfl, h1, h2, h3⟩ := ha.form
  cases A with
  | none =>
    have h0 : l = [] := by
      cases l with
      | nil => rfl
      | cons x r => obtain ⟨b, o, c, e, _⟩ := ha.at_ 0 x rfl; simp at e
    subst h0
    obtain rfl := h3 rfl
    clear ha
    have hn := fun W => Lib.run_eql_slice_nil (P := Tryd.prog) W 39 5 none 0 0 0 0 Tryd.underlying39
    go_enter Tryd.func76, Tryd.ntmps76
    go_wp2
    go_ret
    exact ⟨_, rfl, ⟨rfl, .inl ⟨rfl, rfl⟩⟩, (fun j hj => by cases hj), Keeps.refl _ _⟩
  | some ad =>
    have hr := Row.empty w 5
    have hs := (ha.keepsN ((Keeps.refl Nob w).alloc (.cells #[] 5))).src
    have HA := Lib.hid ha
    clear ha h3
    have hn := fun W => Lib.run_eql_slice_nil (P := Tryd.prog) W 39 5 (some ad) l.length cap 0 0 Tryd.underlying39
    go_enter Tryd.func76, Tryd.ntmps76
    go_wp2_with (at_builtin; refine own_append2 rfl _ _ 39 rfl 5 i0 (.int .u8 0) 1 1 Tryd.underlying39 hi hz0 hz1 hz2 rfl (by decide) (.slice (some ⟨w.heap.size, 0, none⟩) 0 0) 0 _ rfl hr (.slice (some ad) l.length cap) l.length (B l) rfl hs (by unfold maxLen; omega) (by omega) ?_; intro v' w1 hown' hgrow hnil hat; rw [Nat.zero_add, List.nil_append] at hown'; have H1 := Lib.hid hown'; have H3 := Lib.hid hat; have H4 := Lib.hid hgrow; clear hown' hnil hat hgrow)
    go_ret
    refine ⟨_, rfl, H1.out, fun j hj => ?_, ((Keeps.refl Nob w).alloc _).grown H4.out (fun j hj hlt => by simp [Value.ownBlock] at hj; omega)⟩
    rcases H3.out j hj with h | ⟨h, _⟩
    · simp [Value.ownBlock] at h; omega
    · simp at h; omega
theorem newReader_ok (a : Value) (l : List UInt8) (w : World) (ha : BytesAt w a l) (hl : l.length ≤ 100000000) :
    Calls Tryd.prog 54 #[a] w fun e w' => ∃ b v, e = .returned (.pointer (some ⟨b, 0, none⟩)) ∧ RdAt w' b v (.pointer none) l ⟨0, 0⟩ ∧ w.heap.size ≤ b ∧ (∀ j, v.ownBlock = some j → w.heap.size ≤ j ∧ j < w'.heap.size) ∧ Keeps Nob w w' := by
  have HC := Lib.hid (clone_ok a l w ha hl)
  clear ha
  go_enter Tryd.func54, Tryd.ntmps54
  go_wp2_with (go_at_call 76; refine HC.out.mono ?_; rintro e w' ⟨v, rfl, h1, h2, h3⟩; obtain ⟨A, cap, rfl⟩ := (Row.bytes h1).len; have H1 := Lib.hid h1; have H2 := Lib.hid h2; clear h1 h2)
  go_ret
  have hkA : Keeps Nob w' (w'.alloc (.cells #[.slice A l.length cap, .int .i64 0, .bool true, .pointer none] 116)) := (Keeps.refl _ _).alloc _
  refine ⟨w'.heap.size, .slice A l.length cap, rfl, ⟨⟨0, heap_alloc_new _ _, Nat.zero_le _, .inl ⟨rfl, rfl, rfl⟩⟩, (Row.bytes H1.out).keepsN hkA, fun h => ?_⟩, h3.size, fun j hj => ⟨H2.out j hj, Nat.lt_of_lt_of_le (H1.out.lt hj) hkA.size⟩, h3.trans hkA⟩
  exact absurd (H1.out.lt h) (by omega)
end Go.Proofs.YtpflmldmbpnllaaDoor
namespace Go.Proofs.YtpflmldmbpnllaaDoor
set_option maxRecDepth 100000
set_option maxHeartbeats 4000000
open Go Go.RowKit Go.Own Go.Shelf
/-- A writer's state: its limit, its bytes, its error. -/
structure WS where
  lim : Int
  out : List UInt8
  err : Int
def WS.add (s : WS) (bs : List UInt8) : WS := if s.err = 0 then (if s.lim - s.out.length < bs.length then { s with err := 4 } else { s with out := s.out ++ bs }) else s
end Go.Proofs.YtpflmldmbpnllaaDoor
namespace Go.Proofs.YtpflmldmbpnllaaDoor
set_option maxRecDepth 100000
set_option maxHeartbeats 4000000
open Go Go.RowKit Go.Own Go.Shelf
end Go.Proofs.YtpflmldmbpnllaaDoor
namespace Go.Proofs.YtpflmldmbpnllaaDoor
set_option maxRecDepth 100000
set_option maxHeartbeats 4000000
open Go Go.RowKit Go.Own Go.Shelf
section
variable {w w' : World} {F M : Nat → Prop} {b : Nat} {t t' : WS}
end
end Go.Proofs.YtpflmldmbpnllaaDoor
namespace Go.Proofs.YtpflmldmbpnllaaDoor
set_option maxRecDepth 100000
set_option maxHeartbeats 4000000
open Go Go.RowKit Go.Own Go.Shelf
theorem exec_cut {o : Oper} {ρ : Operand → Value} {w : World} (x y : Operand) (ho : o.op = .slice 39 x (some y) none none) (A : Option Addr) (n cap k : Nat) (hx : ρ x = .slice A n cap) (hy : ρ y = .int .i64 (k : Int)) (hk : k ≤ n) :
    (execOp ρ o).run Tryd.prog w = .ok (.value (cutV A n cap k)) w := by
  have hc := run_cut (P := Tryd.prog) (t := 39) rfl bytes_size A n cap k hk w
  unfold execOp
  simp only [ho, hx, hy, Option.map_some, Option.map_none, Sem.run_bind, hc, Result.andThen_ok, Sem.run_pure]
/-- What is read: as the func told it, or nothing. -/
def RdVal (s : RS) (er : Int) (PX : World → Value → Prop) (z : Value) (w : World) (V : Value) : Prop := (s.err = 0 ∧ er = 0 ∧ PX w V) ∨ (¬ (s.err = 0 ∧ er = 0) ∧ V = z)
/-- The state behind a read. -/
def RS.read (s : RS) (k : Nat) (er : Int) : RS := if s.err = 0 then (if er = 0 then ⟨0, s.pos + k⟩ else ⟨er, s.pos⟩) else s
noncomputable def opsreadI : Array Oper := opsOf Tryd.f78 4
theorem readI_core (f : FuncId) (caps : Array Value) (hent : ∀ args w, (callFunc f args).run Tryd.prog w = .ok (.enter f args) w) (b : Nat) (v fp : Value) (l : List UInt8) (s : RS) (w : World) (h : RdAt w b v fp l s) (k : Nat) (er : Int) (PX : World → Value → Prop)
    (HF0 : s.err = 0 → ∀ W A cap, v = .slice A l.length cap → Keeps Nob w W → Calls Tryd.prog f (#[cutV A l.length cap s.pos.toNat] ++ caps) W fun e W' => ∃ X, e = .returned (.tuple #[X, .int .i64 (k : Int), .int .i64 er]) ∧ PX W' X ∧ Keeps Nob W W')
    (hPX : ∀ W W' X, PX W X → Keeps (One b) W W' → PX W' X) (hk0 : s.err = 0 → er = 0 → s.pos + k ≤ l.length) :
    Calls Tryd.prog 78 #[.pointer (some ⟨b, 0, none⟩), .func (.func f) #[] caps] w fun e w' => ∃ V, e = .returned V ∧ RdVal s er PX (.int .i64 0) w' V ∧ (∃ fp', RdAt w' b v fp' l (s.read k er) ∧ NewPtr w fp fp') ∧ Keeps (One b) w w' := by
  have H := Lib.hid h
  have HN := Lib.hid (rnone_ok b v fp l s w h)
  have hll := h.bytes.length_le
  obtain ⟨A, cap, rfl⟩ := h.bytes.len
  obtain ⟨at_, hb, hl, hf⟩ := h.ex
  have hlt := h.lt
  have c3 : w.cell? ⟨b, 3, none⟩ = some fp := (cell_of_row w b 3 _ _ _ hb).trans rfl
  have HBK := Lib.hid hb
  have HPX := Lib.hid hPX
  clear h hb hPX
  rcases hf with ⟨h0, hp, rfl⟩ | ⟨h0, g, rfl, hg, hc⟩
  · have hpn : s.pos.toNat = at_ := by omega
    have HF := HF0 h0
    have hk := hk0 h0
    rw [hpn] at HF
    have e1 : s.read k er = if er = 0 then ⟨0, s.pos + k⟩ else ⟨er, s.pos⟩ := by unfold RS.read; rw [if_pos h0]
    rw [e1]
    have HFH := Lib.hid (fun W => HF W A cap rfl)
    have HP := Lib.hid hp
    have H0 := Lib.hid h0
    have HK := Lib.hid hk
    clear e1 HF hpn hp h0 hk HF0 hk0
    go_enter Tryd.func78, Tryd.ntmps78
    go_wp2_with (go_at_call 77; refine HN.out.mono ?_; rintro e w' ⟨rfl, rfl⟩)
    refine wp_region_noPanic <| region_named (R := opsreadI) (by kernel_rfl) <| wp_regionH_fuel (fun W => Keeps Nob w W) 18 #[false, false, false, false, false, false, false, false, false, false, false, false, false, false, false, false, false, false] (by kernel_rfl) (by kernel_rfl) rfl ?_
    have S0 : Keeps Nob w w.drew := (Keeps.refl _ _).drew
    have cb : ∀ W, Keeps Nob w W → W.heap[b]? = some (.cells #[.slice A l.length cap, .int .i64 (at_ : Int), .bool true, .pointer none] 116 (0, 0)) := fun W hW => (hW.block b hlt (fun x => x)).trans HBK.out
    refine wpAnyH_val (i := 0) (opsreadI.getD 0 default) (.func (.func f) #[] caps) (by kernel_rfl) (fun _ _ _ _ _ h => h) (by kernel_rfl) (by kernel_rfl) (by kernel_rfl) (by kernel_rfl) (fun W hW => by kernel_rfl) S0 <| wpAnyH_val (i := 1) (opsreadI.getD 1 default) (.pointer (some ⟨b, 0, none⟩)) (by kernel_rfl) (fun _ _ _ _ _ h => h) (by kernel_rfl) (by kernel_rfl) (by kernel_rfl) (by kernel_rfl) (fun W hW => by kernel_rfl) S0 <| wpAnyH_val (i := 2) (opsreadI.getD 2 default) (.pointer (some ⟨b, 0, none⟩)) (by kernel_rfl) (fun _ _ _ _ _ h => h) (by kernel_rfl) (by kernel_rfl) (by kernel_rfl) (by kernel_rfl) (fun W hW => by kernel_rfl) S0 <| wpAnyH_val (i := 3) (opsreadI.getD 3 default) (.pointer (some ⟨b, 0, none⟩)) (by kernel_rfl) (fun _ _ _ _ _ h => h) (by kernel_rfl) (by kernel_rfl) (by kernel_rfl) (by kernel_rfl) (fun W hW => by kernel_rfl) S0 <| wpAnyH_val (i := 4) (opsreadI.getD 4 default) (.slice A l.length cap) (by kernel_rfl) (fun _ _ _ _ _ h => h) (by kernel_rfl) (by kernel_rfl) (by kernel_rfl) (by kernel_rfl) (fun W hW => exec_load_cell 39 (.tmp 23) (by kernel_rfl) ⟨b, 0, none⟩ (by kernel_rfl) _ _ Tryd.underlying39 rfl ((cell_of_row W b 0 _ _ _ (cb W hW)).trans rfl)) S0 <| wpAnyH_val (i := 5) (opsreadI.getD 5 default) (.pointer (some ⟨b, 0, none⟩)) (by kernel_rfl) (fun _ _ _ _ _ h => h) (by kernel_rfl) (by kernel_rfl) (by kernel_rfl) (by kernel_rfl) (fun W hW => by kernel_rfl) S0 <| wpAnyH_val (i := 6) (opsreadI.getD 6 default) (.pointer (some ⟨b, 0, none⟩)) (by kernel_rfl) (fun _ _ _ _ _ h => h) (by kernel_rfl) (by kernel_rfl) (by kernel_rfl) (by kernel_rfl) (fun W hW => by kernel_rfl) S0 <| wpAnyH_val (i := 7) (opsreadI.getD 7 default) (.pointer (some ⟨b, 1, none⟩)) (by kernel_rfl) (fun _ _ _ _ _ h => h) (by kernel_rfl) (by kernel_rfl) (by kernel_rfl) (by kernel_rfl) (fun W hW => by kernel_rfl) S0 <| wpAnyH_val (i := 8) (opsreadI.getD 8 default) (.int .i64 (at_ : Int)) (by kernel_rfl) (fun _ _ _ _ _ h => h) (by kernel_rfl) (by kernel_rfl) (by kernel_rfl) (by kernel_rfl) (fun W hW => exec_load_cell 3 (.tmp 27) (by kernel_rfl) ⟨b, 1, none⟩ (by kernel_rfl) _ _ Tryd.underlying3 rfl ((cell_of_row W b 1 _ _ _ (cb W hW)).trans rfl)) S0 <| wpAnyH_val (i := 9) (opsreadI.getD 9 default) (cutV A l.length cap at_) (by kernel_rfl) (fun _ _ _ _ _ h => h) (by kernel_rfl) (by kernel_rfl) (by kernel_rfl) (by kernel_rfl) (fun W hW => exec_cut (.tmp 24) (.tmp 28) (by kernel_rfl) A l.length cap at_ (by kernel_rfl) (by kernel_rfl) hl) S0 ?_
    refine wpAnyH_callV (i := 10) (opsreadI.getD 10 default) (.tmp 20) f caps (#[cutV A l.length cap at_] ++ caps) (by kernel_rfl) (by kernel_rfl) (by kernel_rfl) (by kernel_rfl) (by kernel_rfl) (by kernel_rfl) hent ((HFH.out _ S0).mono ?_)
    rintro e W1 ⟨X, rfl, hX, k1⟩
    have S1 : Keeps Nob w W1 := S0.trans k1
    refine ⟨_, rfl, S1, ?_⟩
    refine wpAnyH_run (i := 11) (opsreadI.getD 11 default) (.tuple #[X, .int .i64 (k : Int), .int .i64 er]) (w' := W1) (by kernel_rfl) (by kernel_rfl) (by kernel_rfl) (.inl (by kernel_rfl)) S1 <| wpAnyH_val (i := 12) (opsreadI.getD 12 default) (X) (by kernel_rfl) (fun _ _ _ _ _ h => h) (by kernel_rfl) (by kernel_rfl) (by kernel_rfl) (by kernel_rfl) (fun W hW => by kernel_rfl) S1 <| wpAnyH_val (i := 13) (opsreadI.getD 13 default) (.int .i64 (k : Int)) (by kernel_rfl) (fun _ _ _ _ _ h => h) (by kernel_rfl) (by kernel_rfl) (by kernel_rfl) (by kernel_rfl) (fun W hW => by kernel_rfl) S1 <| wpAnyH_val (i := 14) (opsreadI.getD 14 default) (.int .i64 er) (by kernel_rfl) (fun _ _ _ _ _ h => h) (by kernel_rfl) (by kernel_rfl) (by kernel_rfl) (by kernel_rfl) (fun W hW => by kernel_rfl) S1 <| wpAnyH_run (i := 15) (opsreadI.getD 15 default) (X) (w' := W1) (by kernel_rfl) (by kernel_rfl) (by kernel_rfl) (.inl (by kernel_rfl)) S1 <| wpAnyH_run (i := 16) (opsreadI.getD 16 default) (.int .i64 (k : Int)) (w' := W1) (by kernel_rfl) (by kernel_rfl) (by kernel_rfl) (.inl (by kernel_rfl)) S1 <| wpAnyH_run (i := 17) (opsreadI.getD 17 default) (.int .i64 er) (w' := W1) (by kernel_rfl) (by kernel_rfl) (by kernel_rfl) (.inl (by kernel_rfl)) S1 ?_
    refine wpAnyH_done (by kernel_rfl) ?_ _
    refine NoPanic.normal <| state_eq (b := ⟨#[.pointer (some ⟨b, 0, none⟩), .func (.func f) #[] caps, ud, ud, .int .i64 0, .int .i64 0, X, .int .i64 (k : Int), .int .i64 er, .pointer (some ⟨b, 0, none⟩), .bool false, .bool false, .pointer (some ⟨b, 0, none⟩), .pointer (some ⟨b, 0, none⟩), .pointer (some ⟨b, 3, none⟩), .pointer none, .bool false, .bool false, ud, .tuple #[X, .int .i64 (k : Int), .int .i64 er], .func (.func f) #[] caps, .pointer (some ⟨b, 0, none⟩), .pointer (some ⟨b, 0, none⟩), .pointer (some ⟨b, 0, none⟩), .slice A l.length cap, .pointer (some ⟨b, 0, none⟩), .pointer (some ⟨b, 0, none⟩), .pointer (some ⟨b, 1, none⟩), .int .i64 (at_ : Int), cutV A l.length cap at_, .tuple #[X, .int .i64 (k : Int), .int .i64 er], X, .int .i64 (k : Int), .int .i64 er, ud, ud, ud, ud, ud, ud, ud, ud, ud, ud, ud, ud, ud, ud, ud, ud, ud, ud, ud], []⟩) (by kernel_rfl) ?_
    have HX := Lib.hid hX
    have hbW := cb W1 S1
    have a1 : W1.cell? ⟨b, 1, none⟩ = some (.int .i64 (at_ : Int)) := (cell_of_row W1 b 1 _ _ _ hbW).trans rfl
    have a2 : W1.frozen? ⟨b, 1, none⟩ = false := frozen_of_row W1 b 1 _ _ hbW
    have HBW := Lib.hid hbW
    clear cb hX hbW
    generalize cutV A l.length cap at_ = cv at *
    by_cases he : er = 0
    · subst he
      have hkk := HK.out rfl
      rw [HP.out] at hkk
      go_wp2_with fail
      go_ret
      try simp only [if_true]
      have hkS : Keeps (One b) W1 (W1.setCell ⟨b, 1, none⟩ (.int .i64 ((at_ : Int) + k))) := (Keeps.refl _ _).setOne _
      have hkw : Keeps (One b) w (W1.setCell ⟨b, 1, none⟩ (.int .i64 ((at_ : Int) + k))) := (S1.mono (fun _ _ x => x.elim)).trans hkS
      refine ⟨_, rfl, .inl ⟨H0.out, rfl, HPX.out _ _ _ HX.out hkS⟩, ⟨.pointer none, ⟨⟨at_ + k, ?_, by omega, .inl ⟨rfl, by rw [HP.out]; simp, rfl⟩⟩, H.out.bytes.keeps hkw (fun j hj (e : j = b) => H.out.own (by rw [hj, e])), H.out.own⟩, .inl rfl⟩, hkw⟩
      rw [show (((at_ + k : Nat)) : Int) = (at_ : Int) + k by omega]
      exact heap_setCell_same W1 b 1 _ _ _ HBW.out
    · have hb : (er != 0) = true := by simpa using he
      have HFa := Lib.hid (rFail_ok b (.slice A l.length cap) (.pointer none) l s er (at_ : Int) W1 (H.out.keeps S1 (fun _ _ x => x)))
      have hs : s.fail er (at_ : Int) = ⟨er, s.pos⟩ := by unfold RS.fail; rw [if_pos ⟨H0.out, he⟩, HP.out]
      rw [hs] at HFa
      have HE := Lib.hid he
      clear hs he
      go_wp2_with (go_at_call 57; refine HFa.out.mono ?_; rintro e w' ⟨⟨r, rfl⟩, ⟨fp', h1, h2⟩, h3⟩; have H1 := Lib.hid h1; have H2 := Lib.hid h2; clear h1 h2)
      go_ret
      try simp only [if_neg HE.out]
      refine ⟨_, rfl, .inr ⟨fun h => HE.out h.2, rfl⟩, ⟨fp', H1.out, ?_⟩, (S1.mono (fun _ _ x => x.elim)).trans h3⟩
      rcases H2.out with h | ⟨g, h, hg⟩
      · exact .inl h
      · exact .inr ⟨g, h, Nat.le_trans S1.size hg⟩
  · have e1 : s.read k er = s := by unfold RS.read; rw [if_neg h0]
    rw [e1]
    have HE := Lib.hid h0
    clear e1 h0 hc HF0 hk0
    go_enter Tryd.func78, Tryd.ntmps78
    go_wp2_with (go_at_call 77; refine HN.out.mono ?_; rintro e w' ⟨rfl, rfl⟩)
    go_ret
    exact ⟨_, rfl, .inr ⟨fun h => HE.out h.1, rfl⟩, ⟨_, H.out, .inl rfl⟩, Keeps.refl _ _⟩
end Go.Proofs.YtpflmldmbpnllaaDoor
namespace Go.Proofs.YtpflmldmbpnllaaDoor
set_option maxRecDepth 100000
set_option maxHeartbeats 4000000
open Go Go.RowKit Go.Own Go.Shelf
/-- The number that stands at a reader's place. -/
def RS.num (s : RS) (l : List UInt8) : Nat × Nat × Int := Cod.num (l.drop s.pos.toNat)
theorem RS.num_le (s : RS) (l : List UInt8) (h0 : 0 ≤ s.pos) (hl : s.pos ≤ l.length) (he : (s.num l).2.2 = 0) : s.pos + (s.num l).2.1 ≤ l.length := by
  have := (Cod.num_ok _ he).2.2.1
  rw [List.length_drop] at this
  unfold RS.num
  omega
theorem RdAt.pos {w : World} {b : Nat} {v fp : Value} {l : List UInt8} {s : RS} (h : RdAt w b v fp l s) (h0 : s.err = 0) : 0 ≤ s.pos ∧ s.pos ≤ l.length := by
  obtain ⟨at_, hb, hl, hf⟩ := h.ex
  rcases hf with ⟨_, hp, _⟩ | ⟨h1, _⟩
  · omega
  · exact absurd h0 h1
/-- U: what is told, and the state behind. -/
def rdU (l : List UInt8) (s : RS) : Int × RS := (if s.err = 0 ∧ (s.num l).2.2 = 0 then ((s.num l).1 : Int) else 0, s.read (s.num l).2.1 (s.num l).2.2)
/-- Is a number out of bounds? -/
def outN (n : Nat) (least most : Int) : Prop := most < 0 ∨ most < (n : Int) ∨ (0 < least ∧ (n : Int) < least)
instance (n : Nat) (least most : Int) : Decidable (outN n least most) := by unfold outN; infer_instance
def errN (r : Nat × Nat × Int) (least most : Int) : Int := if r.2.2 = 0 ∧ outN r.1 least most then 3 else r.2.2
theorem rN1_ok (v : Value) (l : List UInt8) (least most : Int) (b1 b2 : Nat) (w : World) (hv : BytesAt w v l) (h1 : w.cell? ⟨b1, 0, none⟩ = some (.int .i64 most)) (h2 : w.cell? ⟨b2, 0, none⟩ = some (.int .i64 least))
   (m1 : -9223372036854775808 ≤ most ∧ most ≤ 9223372036854775807) (m2 : -9223372036854775808 ≤ least ∧ least ≤ 9223372036854775807) :
    Calls Tryd.prog 79 #[v, .pointer (some ⟨b1, 0, none⟩), .pointer (some ⟨b2, 0, none⟩)] w fun e w' => e = .returned (.tuple #[.int .i64 (wrap64 ((Cod.num l).1 : Int)), .int .i64 ((Cod.num l).2.1 : Int), .int .i64 (errN (Cod.num l) least most)]) ∧ w = w' := by
  have HN := Lib.hid (number_ok v l w hv)
  have hn64 : (Cod.num l).2.2 = 0 → (Cod.num l).1 < 18446744073709551616 := fun h => by have := (Cod.num_ok l h).1; simpa using this
  clear hv
  obtain ⟨er, her⟩ : ∃ er, errN (Cod.num l) least most = er := ⟨_, rfl⟩
  rw [her]
  unfold errN outN at her
  generalize Cod.num l = r at *
  obtain ⟨n, k, e⟩ := r
  simp only at her hn64 HN ⊢
  obtain ⟨m1a, m1b⟩ := m1
  obtain ⟨m2a, m2b⟩ := m2
  by_cases he : e = 0
  · subst he
    have hn := hn64 rfl
    clear hn64
    by_cases a1 : most < 0
    · obtain rfl : er = 3 := by rw [← her, if_pos ⟨rfl, .inl a1⟩]
      clear her
      go_enter Tryd.func79, Tryd.ntmps79
      go_wp2_with (go_at_call 80; refine HN.out.mono ?_; rintro e w' ⟨rfl, rfl⟩)
      go_ret3
      exact ⟨rfl, rfl⟩
    · have d1 : decide (most < 0) = false := by simpa using a1
      have w1 : IntKind.u64.wrap most = most := by simp [IntKind.wrap, IntKind.bits, IntKind.signed]; omega
      by_cases a2 : most < (n : Int)
      · obtain rfl : er = 3 := by rw [← her, if_pos ⟨rfl, .inr (.inl a2)⟩]
        clear her
        have d2 : decide (most < (n : Int)) = true := by simpa using a2
        go_enter Tryd.func79, Tryd.ntmps79
        go_wp2_with (go_at_call 80; refine HN.out.mono ?_; rintro e w' ⟨rfl, rfl⟩)
        go_ret3
        exact ⟨rfl, rfl⟩
      · have d2 : decide (most < (n : Int)) = false := by simpa using a2
        rw [IntWalk.wrap64_in (n : Int) ⟨by omega, by omega⟩]
        by_cases a3 : 0 < least
        · have d3 : decide (0 < least) = true := by simpa using a3
          have w2 : IntKind.u64.wrap least = least := by simp [IntKind.wrap, IntKind.bits, IntKind.signed]; omega
          by_cases a4 : (n : Int) < least
          · obtain rfl : er = 3 := by rw [← her, if_pos ⟨rfl, .inr (.inr ⟨a3, a4⟩)⟩]
            clear her
            have d4 : decide ((n : Int) < least) = true := by simpa using a4
            go_enter Tryd.func79, Tryd.ntmps79
            go_wp2_with (go_at_call 80; refine HN.out.mono ?_; rintro e w' ⟨rfl, rfl⟩)
            go_ret3
            exact ⟨rfl, rfl⟩
          · obtain rfl : er = 0 := by rw [← her, if_neg (by omega)]
            clear her
            have d4 : decide ((n : Int) < least) = false := by simpa using a4
            go_enter Tryd.func79, Tryd.ntmps79
            go_wp2_with (go_at_call 80; refine HN.out.mono ?_; rintro e w' ⟨rfl, rfl⟩)
            go_ret3
            exact ⟨rfl, rfl⟩
        · obtain rfl : er = 0 := by rw [← her, if_neg (by omega)]
          clear her
          have d3 : decide (0 < least) = false := by simpa using a3
          go_enter Tryd.func79, Tryd.ntmps79
          go_wp2_with (go_at_call 80; refine HN.out.mono ?_; rintro e w' ⟨rfl, rfl⟩)
          go_ret3
          exact ⟨rfl, rfl⟩
  · obtain rfl : er = e := by rw [← her, if_neg (fun h => he h.1)]
    have hb : (er == 0) = false := by simpa using he
    clear her hn64
    go_enter Tryd.func79, Tryd.ntmps79
    go_wp2_with (go_at_call 80; refine HN.out.mono ?_; rintro e w' ⟨rfl, rfl⟩)
    go_ret3
    exact ⟨rfl, rfl⟩
/-- N: what is told, and the state behind. -/
def rdN (l : List UInt8) (s : RS) (least most : Int) : Int × RS := (if s.err = 0 ∧ errN (s.num l) least most = 0 then ((s.num l).1 : Int) else 0, s.read (s.num l).2.1 (errN (s.num l) least most))
theorem errN_zero {r : Nat × Nat × Int} {least most : Int} (h : errN r least most = 0) : r.2.2 = 0 ∧ 0 ≤ most ∧ (r.1 : Int) ≤ most ∧ (0 < least → least ≤ r.1) := by
  unfold errN outN at h
  split at h
  · omega
  · rename_i h1
    refine ⟨h, ?_⟩
    have h2 := fun x => h1 ⟨h, x⟩
    omega
theorem rN_ok (b : Nat) (v fp : Value) (l : List UInt8) (s : RS) (least most : Int) (w : World) (h : RdAt w b v fp l s)
   (m2 : -9223372036854775808 ≤ least ∧ least ≤ 9223372036854775807) (m1 : -9223372036854775808 ≤ most ∧ most ≤ 9223372036854775807) :
    Calls Tryd.prog 56 #[.pointer (some ⟨b, 0, none⟩), .int .i64 least, .int .i64 most] w fun e w' => e = .returned (.int .i64 (rdN l s least most).1) ∧ (∃ fp', RdAt w' b v fp' l (rdN l s least most).2 ∧ NewPtr w fp fp') ∧ Keeps (One b) w w' := by
  have hkA : Keeps Nob w ((w.alloc (.cells #[.int .i64 least] 3)).alloc (.cells #[.int .i64 most] 3)) := ((Keeps.refl _ _).alloc _).alloc _
  have c1 : ((w.alloc (.cells #[.int .i64 least] 3)).alloc (.cells #[.int .i64 most] 3)).cell? ⟨w.heap.size + 1, 0, none⟩ = some (.int .i64 most) := (World.cell?_alloc_at _ _ _ _ (by simp)).trans rfl
  have c2 : ((w.alloc (.cells #[.int .i64 least] 3)).alloc (.cells #[.int .i64 most] 3)).cell? ⟨w.heap.size, 0, none⟩ = some (.int .i64 least) := (World.cell?_alloc_lt _ _ _ (by simp)).trans ((World.cell?_alloc_at _ _ _ _ rfl).trans rfl)
  have hb1 : w.heap.size + 1 < ((w.alloc (.cells #[.int .i64 least] 3)).alloc (.cells #[.int .i64 most] 3)).heap.size := by simp
  have hA := h.keeps hkA (fun _ _ x => x)
  have HC := Lib.hid (readI_core 79 #[.pointer (some ⟨w.heap.size + 1, 0, none⟩), .pointer (some ⟨w.heap.size, 0, none⟩)] (enters_of Tryd.func79 (by kernel_rfl) rfl) b v fp l s _ hA (s.num l).2.1 (errN (s.num l) least most) (fun _ X => X = .int .i64 (wrap64 ((s.num l).1 : Int)))
    (fun h0 W A cap hv hW => by
      subst hv
      refine (rN1_ok _ _ least most _ _ W ((hA.bytes.drop s.pos.toNat (by have := hA.pos h0; omega) _ _ _ rfl).keepsN hW) ((hW.cell hb1 (fun x => x)).trans c1) ((hW.cell (by omega) (fun x => x)).trans c2) m1 m2).mono ?_
      rintro e W' ⟨rfl, rfl⟩
      exact ⟨_, rfl, rfl, Keeps.refl _ _⟩)
    (fun _ _ _ h _ => h) (fun h0 he => s.num_le l (h.pos h0).1 (h.pos h0).2 (errN_zero he).1))
  have HKA := Lib.hid hkA
  clear h hA c1 c2 hb1 hkA
  have hmf : ∀ (fn : Fn) (first cap : Array Value) (w : World), (Instr.makeFunc fn first cap).run Tryd.prog w = .ok (.func fn first cap) w := fun _ _ _ _ => rfl
  obtain ⟨m1a, m1b⟩ := m1
  go_enter Tryd.func56, Tryd.ntmps56
  go_wp2_with (go_at_call 78; refine HC.out.mono ?_; rintro e w' ⟨V, rfl, h1, h2, h3⟩; have H1 := Lib.hid h1; have H2 := Lib.hid h2; clear h1 h2)
  go_ret
  obtain ⟨fp', h2, h3'⟩ := H2.out
  refine ⟨?_, ⟨fp', h2, ?_⟩, (HKA.out.mono (fun _ _ x => x.elim)).trans h3⟩
  · unfold rdN
    rcases H1.out with ⟨a, b, rfl⟩ | ⟨a, rfl⟩
    · have hz := errN_zero b
      rw [if_pos ⟨a, b⟩, IntWalk.wrap64_in ((s.num l).1 : Int) ⟨by omega, by omega⟩]; rfl
    · rw [if_neg a]; rfl
  · rcases h3' with h | ⟨g, h, hg⟩
    · exact .inl h
    · exact .inr ⟨g, h, Nat.le_trans HKA.out.size hg⟩
end Go.Proofs.YtpflmldmbpnllaaDoor
namespace Go.Proofs.YtpflmldmbpnllaaDoor
set_option maxRecDepth 100000
set_option maxHeartbeats 4000000
open Go Go.RowKit Go.Own Go.Shelf
def RS.rest (s : RS) (l : List UInt8) : List UInt8 := l.drop s.pos.toNat
end Go.Proofs.YtpflmldmbpnllaaDoor
namespace Go.Proofs.YtpflmldmbpnllaaDoor
set_option maxRecDepth 100000
set_option maxHeartbeats 4000000
open Go Go.RowKit Go.Own Go.Shelf
end Go.Proofs.YtpflmldmbpnllaaDoor
namespace Go.Proofs.YtpflmldmbpnllaaDoor
set_option maxRecDepth 100000
set_option maxHeartbeats 4000000
open Go Go.RowKit Go.Own Go.Shelf
end Go.Proofs.YtpflmldmbpnllaaDoor
namespace Go.Proofs.YtpflmldmbpnllaaDoor
set_option maxRecDepth 100000
set_option maxHeartbeats 4000000
open Go Go.RowKit Go.Own Go.Shelf
def Rd (w : World) (F : Nat → Prop) (b : Nat) (l : List UInt8) (s : RS) : Prop := ∃ v fp, RdAt w b v fp l s ∧ (∀ j, v.ownBlock = some j → j < w.heap.size) ∧ F = rdBlk b v fp
section
variable {w w' : World} {F M : Nat → Prop} {b : Nat} {l : List UInt8} {s s' : RS}
theorem Rd.lt (h : Rd w F b l s) : Lt F w := by
  obtain ⟨v, fp, h1, h2, rfl⟩ := h
  intro j hj
  rcases hj with rfl | hj | hj
  · exact h1.lt
  · exact h2 j hj
  · obtain ⟨at_, hb, hl, hf⟩ := h1.ex
    rcases hf with ⟨_, _, rfl⟩ | ⟨_, g, rfl, _, hc⟩
    · cases hj
    · cases hj; exact lt_of_block hc
theorem Rd.keeps (h : Rd w F b l s) (k : Keeps M w w') (d : Dis F M) : Rd w' F b l s := by
  obtain ⟨v, fp, h1, h2, rfl⟩ := h
  exact ⟨v, fp, h1.keeps k d, fun j hj => Nat.lt_of_lt_of_le (h2 j hj) k.size, rfl⟩
theorem Rd.keepsN (h : Rd w F b l s) (k : Keeps Nob w w') : Rd w' F b l s := h.keeps k (fun _ _ x => x)
theorem rdr_step {v fp fp' : Value} (h : RdAt w b v fp l s) (hv : ∀ j, v.ownBlock = some j → j < w.heap.size) (hr : RdAt w' b v fp' l s') (hn : NewPtr w fp fp') (k : Keeps (One b) w w') :
    ∃ F', Rd w' F' b l s' ∧ Step w w' (rdBlk b v fp) F' := by
  have hv' := fun j hj => Nat.lt_of_lt_of_le (hv j hj) k.size
  have hR : Rd w' (rdBlk b v fp') b l s' := ⟨v, fp', hr, hv', rfl⟩
  refine ⟨_, hR, k.mono (fun _ _ e => .inl e), fun j hj => ?_⟩
  rcases hj with hj | hj | hj
  · exact .inl (.inl hj)
  · exact .inl (.inr (.inl hj))
  · rcases hn with rfl | ⟨g, rfl, hg⟩
    · exact .inl (.inr (.inr hj))
    · refine .inr ⟨?_, hR.lt j (.inr (.inr hj))⟩
      cases hj; exact hg
def RPost (w : World) (F : Nat → Prop) (b : Nat) (l : List UInt8) (x : Value) (s' : RS) (e : Ending) (w' : World) : Prop := e = .returned x ∧ ∃ F', Rd w' F' b l s' ∧ Step w w' F F'
theorem Rd.n (h : Rd w F b l s) (least most : Int) (m2 : -9223372036854775808 ≤ least ∧ least ≤ 9223372036854775807) (m1 : -9223372036854775808 ≤ most ∧ most ≤ 9223372036854775807) :
    Calls Tryd.prog 56 #[.pointer (some ⟨b, 0, none⟩), .int .i64 least, .int .i64 most] w (RPost w F b l (.int .i64 (rdN l s least most).1) (rdN l s least most).2) := by
  obtain ⟨v, fp, h1, h2, rfl⟩ := h
  exact (rN_ok b v fp l s least most w h1 m2 m1).mono fun e w' ⟨he, ⟨fp', h3, h4⟩, h5⟩ => ⟨he, rdr_step h1 h2 h3 h4 h5⟩
theorem Rd.at_ (h : Rd w F b l s) : Calls Tryd.prog 55 #[.pointer (some ⟨b, 0, none⟩)] w fun e w' => e = .returned (.int .i64 s.pos) ∧ w = w' := by
  obtain ⟨v, fp, h1, _, _⟩ := h
  exact rAt_ok b v fp l s w h1
theorem Rd.fin (h : Rd w F b l s) : Calls Tryd.prog 58 #[.pointer (some ⟨b, 0, none⟩)] w fun e w' => e = .returned (.agg #[.int .i64 (s.fin l).1, .int .i64 (s.fin l).2]) ∧ Keeps Nob w w' := by
  obtain ⟨v, fp, h1, _, _⟩ := h
  exact rEnd_ok b v fp l s w h1
theorem rd_new (a : Value) (l : List UInt8) (w : World) (ha : BytesAt w a l) (hl : l.length ≤ 100000000) :
    Calls Tryd.prog 54 #[a] w fun e w' => ∃ b F, e = .returned (.pointer (some ⟨b, 0, none⟩)) ∧ Rd w' F b l ⟨0, 0⟩ ∧ Ge F w ∧ Keeps Nob w w' :=
  (newReader_ok a l w ha hl).mono fun e w' ⟨b, v, he, hr, hb, hf, hk⟩ => by
    refine ⟨b, _, he, ⟨v, _, hr, fun j hj => (hf j hj).2, rfl⟩, ?_, hk⟩
    intro j hj
    rcases hj with rfl | hj | hj
    · exact hb
    · exact (hf j hj).1
    · cases hj
end
end Go.Proofs.YtpflmldmbpnllaaDoor
namespace Go.Proofs.YtpflmldmbpnllaaDoor
set_option maxRecDepth 100000
set_option maxHeartbeats 4000000
open Go Go.RowKit Go.Own Go.Shelf
/-- Field i's number, read by a reader that stands at s. -/
def brd (l : List UInt8) (i : Nat) (s : RS) : Int × RS := rdN l s (parLo[i]?.getD 0) (parHi[i]?.getD 0)
def brn (l : List UInt8) (i : Nat) (s : RS) : Nat := (brd l i s).1.toNat
/-- The reader behind field i, 'vs' being the numbers ahead. -/
def bst (l : List UInt8) (vs : List Int) (i : Nat) (s : RS) : RS := if i = 1 ∧ vs[0]?.getD 0 < ((brn l i s : Nat) : Int) then (brd l i s).2.fail 9 s.pos else (brd l i s).2
def bgo : Nat → List Int → List UInt8 → RS → List Int × RS
  | 0, vs, _, s => (vs, s)
  | m + 1, vs, l, s => bgo m (vs ++ [((brn l vs.length s : Nat) : Int)]) l (bst l vs vs.length s)
def bres (l : List UInt8) : List Int × RS := bgo 11 [] l ⟨0, 0⟩
def bfin (l : List UInt8) : Int × Int := (bres l).2.fin l
def pbread (l : List UInt8) : Par × Int × Int := if (bfin l).1 = 0 then (parOfL (bres l).1, 0, 0) else (parZ, (bfin l).1, (bfin l).2)
theorem rdN_range (l : List UInt8) (s : RS) (lo hi : Int) (hh : 0 ≤ hi) : 0 ≤ (rdN l s lo hi).1 ∧ (rdN l s lo hi).1 ≤ hi := by
  unfold rdN
  simp only
  split
  · rename_i h
    have := errN_zero h.2
    omega
  · exact ⟨Int.le_refl 0, hh⟩
theorem hi_nn (i : Nat) : 0 ≤ parHi[i]?.getD 0 := by
  by_cases h : i < 11
  · have h : i = 0 ∨ i = 1 ∨ i = 2 ∨ i = 3 ∨ i = 4 ∨ i = 5 ∨ i = 6 ∨ i = 7 ∨ i = 8 ∨ i = 9 ∨ i = 10 := by omega
    rcases h with rfl | rfl | rfl | rfl | rfl | rfl | rfl | rfl | rfl | rfl | rfl <;> decide
  · rw [List.getElem?_eq_none (show parHi.length ≤ i by show 11 ≤ i; omega)]; decide
theorem lo_nn (i : Nat) : 0 ≤ parLo[i]?.getD 0 ∧ parLo[i]?.getD 0 ≤ 1 := by
  by_cases h : i < 11
  · have h : i = 0 ∨ i = 1 ∨ i = 2 ∨ i = 3 ∨ i = 4 ∨ i = 5 ∨ i = 6 ∨ i = 7 ∨ i = 8 ∨ i = 9 ∨ i = 10 := by omega
    rcases h with rfl | rfl | rfl | rfl | rfl | rfl | rfl | rfl | rfl | rfl | rfl <;> decide
  · rw [List.getElem?_eq_none (show parLo.length ≤ i by show 11 ≤ i; omega)]; decide
theorem brd_nat (l : List UInt8) (i : Nat) (s : RS) : (brd l i s).1 = ((brn l i s : Nat) : Int) := by
  have := (rdN_range l s (parLo[i]?.getD 0) (parHi[i]?.getD 0) (hi_nn i)).1
  unfold brn
  have h : 0 ≤ (brd l i s).1 := this
  omega
theorem brn_le (l : List UInt8) (i : Nat) (s : RS) : brn l i s ≤ 1000000000 := by
  have h1 := (rdN_range l s (parLo[i]?.getD 0) (parHi[i]?.getD 0) (hi_nn i)).2
  have h2 := parHi_le i
  have h3 := brd_nat l i s
  have h : (brd l i s).1 ≤ parHi[i]?.getD 0 := h1
  omega
theorem bst_ord {l : List UInt8} {vs : List Int} {i : Nat} {s : RS} (h1 : i = 1) (h2 : vs[0]?.getD 0 < ((brn l i s : Nat) : Int)) : bst l vs i s = (brd l i s).2.fail 9 s.pos := by unfold bst; rw [if_pos ⟨h1, h2⟩]
theorem bst_not {l : List UInt8} {vs : List Int} {i : Nat} {s : RS} (h : ¬ (i = 1 ∧ vs[0]?.getD 0 < ((brn l i s : Nat) : Int))) : bst l vs i s = (brd l i s).2 := by unfold bst; rw [if_neg h]
theorem bgo_step {i : Nat} {vs : List Int} {l : List UInt8} {s : RS} (hi : i < 11) (hv : vs.length = i) (h : bgo (11 - i) vs l s = bres l) : bgo (11 - (i + 1)) (vs ++ [((brn l i s : Nat) : Int)]) l (bst l vs i s) = bres l := by
  rw [show 11 - i = (11 - (i + 1)) + 1 by omega, bgo, hv] at h; exact h
theorem bgo_end {i : Nat} {vs : List Int} {l : List UInt8} {s : RS} (hi : i = 11) (h : bgo (11 - i) vs l s = bres l) : (bres l).1 = vs ∧ (bres l).2 = s := by
  rw [hi] at h; rw [← h]; exact ⟨rfl, rfl⟩
theorem bread_ok {i : Nat} {vs : List Int} {l : List UInt8} {s : RS} (hi : i = 11) (h : bgo (11 - i) vs l s = bres l) (h0 : (s.fin l).1 = 0) : pbread l = (parOfL vs, 0, 0) := by
  obtain ⟨h1, h2⟩ := bgo_end hi h
  have e : bfin l = s.fin l := by unfold bfin; rw [h2]
  unfold pbread; rw [e, if_pos h0, h1]
theorem bread_no {i : Nat} {vs : List Int} {l : List UInt8} {s : RS} (hi : i = 11) (h : bgo (11 - i) vs l s = bres l) (h0 : ¬ (s.fin l).1 = 0) : pbread l = (parZ, (s.fin l).1, (s.fin l).2) := by
  obtain ⟨h1, h2⟩ := bgo_end hi h
  have e : bfin l = s.fin l := by unfold bfin; rw [h2]
  unfold pbread; rw [e, if_neg h0]
theorem bgo_0 (l : List UInt8) : bgo (11 - 0) [] l ⟨0, 0⟩ = bres l := rfl
/-- Which round this is. -/
theorem bread_cases (i : Nat) (vs : List Int) (l : List UInt8) (s : RS) (hi : i ≤ 11) : (i < 11 ∧ i = 1 ∧ vs[0]?.getD 0 < ((brn l i s : Nat) : Int)) ∨ (i < 11 ∧ i = 1 ∧ ¬ vs[0]?.getD 0 < ((brn l i s : Nat) : Int)) ∨ (i < 11 ∧ i ≠ 1) ∨ (i = 11 ∧ (s.fin l).1 = 0) ∨ (i = 11 ∧ ¬ (s.fin l).1 = 0) := by
  by_cases h : i < 11
  · by_cases h1 : i = 1
    · by_cases h2 : vs[0]?.getD 0 < ((brn l i s : Nat) : Int)
      · exact .inl ⟨h, h1, h2⟩
      · exact .inr (.inl ⟨h, h1, h2⟩)
    · exact .inr (.inr (.inl ⟨h, h1⟩))
  · by_cases h2 : (s.fin l).1 = 0
    · exact .inr (.inr (.inr (.inl ⟨by omega, h2⟩)))
    · exact .inr (.inr (.inr (.inr ⟨by omega, h2⟩)))
theorem Rd.fail {w : World} {F : Nat → Prop} {b : Nat} {l : List UInt8} {s : RS} (h : Rd w F b l s) (e p : Int) : Calls Tryd.prog 57 #[.pointer (some ⟨b, 0, none⟩), .int .i64 e, .int .i64 p] w fun x w' => (∃ r, x = .returned r) ∧ ∃ F', Rd w' F' b l (s.fail e p) ∧ Step w w' F F' := by
  obtain ⟨v, fp, h1, h2, rfl⟩ := h
  exact (rFail_ok b v fp l s e p w h1).mono fun x w' ⟨h0, ⟨fp', h3, h4⟩, h5⟩ => ⟨h0, rdr_step h1 h2 h3 h4 h5⟩
theorem b_range (i : Nat) : (-9223372036854775808 ≤ parLo[i]?.getD 0 ∧ parLo[i]?.getD 0 ≤ 9223372036854775807) ∧ (-9223372036854775808 ≤ parHi[i]?.getD 0 ∧ parHi[i]?.getD 0 ≤ 9223372036854775807) := by
  have h1 := lo_nn i
  have h2 := hi_nn i
  have h3 := parHi_le i
  omega
/-- Field i's number is read. -/
theorem Rd.num {w : World} {F : Nat → Prop} {b : Nat} {l : List UInt8} {s s1 : RS} {i n : Nat} {lo hi : Int} (h : Rd w F b l s) (hlo : parLo[i]?.getD 0 = lo) (hhi : parHi[i]?.getD 0 = hi) (hn : brn l i s = n) (hs : (brd l i s).2 = s1) :
    Calls Tryd.prog 56 #[.pointer (some ⟨b, 0, none⟩), .int .i64 lo, .int .i64 hi] w (RPost w F b l (.int .i64 ((n : Nat) : Int)) s1) := by
  have hr := b_range i
  rw [hlo, hhi] at hr
  have := h.n lo hi hr.1 hr.2
  have e : rdN l s lo hi = brd l i s := by unfold brd; rw [hlo, hhi]
  rw [e, brd_nat, hn, hs] at this
  exact this
end Go.Proofs.YtpflmldmbpnllaaDoor
namespace Go.Proofs.YtpflmldmbpnllaaDoor
set_option maxRecDepth 100000
set_option maxHeartbeats 4000000
open Go Go.RowKit Go.Own Go.Shelf
theorem rd_end {w : World} {F : Nat → Prop} {b : Nat} {l : List UInt8} {s : RS} {fe fp : Int} (h : Rd w F b l s) (h1 : (s.fin l).1 = fe) (h2 : (s.fin l).2 = fp) : Calls Tryd.prog 58 #[.pointer (some ⟨b, 0, none⟩)] w fun e w' => e = .returned (.agg #[.int .i64 fe, .int .i64 fp]) ∧ Keeps Nob w w' := h1 ▸ h2 ▸ h.fin
theorem u_range (i : Nat) : (0 ≤ parLo[i]?.getD 0) ∧ (parLo[i]?.getD 0 ≤ 9223372036854775807) ∧ (0 ≤ parHi[i]?.getD 0) ∧ (parHi[i]?.getD 0 ≤ 9223372036854775807) := by
  have h1 := lo_nn i
  have h2 := hi_nn i
  have h3 := parHi_le i
  omega
noncomputable def qc55_0 (n : Nat) : Code := partOf Tryd.f29 n
noncomputable abbrev qo55_0 (n k : Nat) : Oper := (opsAt (qc55_0 n)).getD k default
theorem pRead_ok (v0 : Value) (l : List UInt8) (w : World) (hx : BytesAt w v0 l) (hl : l.length ≤ 100000000) :
    Calls Tryd.prog 29 #[v0] w (fun e w' => e = .returned (.tuple #[.agg (pbread l).1.cells, .agg #[.int .i64 (pbread l).2.1, .int .i64 (pbread l).2.2]]) ∧ Keeps Nob w w') := by
  have K0 : Keeps Nob w w := Keeps.refl _ _
  refine sy_enter (qc55_0 1) ⟨#[v0, ud, ud, ud, ud, ud, ud, ud, ud, ud, ud, ud, ud, ud, ud, ud, ud, ud, ud, ud, ud, ud, ud, ud, ud, ud, ud, ud, ud, ud, ud, ud, ud, ud, ud, ud, ud, ud, ud, ud, ud, ud, ud, ud, ud, ud, ud, ud, ud, ud, ud, ud, ud, ud, ud], []⟩ Tryd.func29 (by kernel_rfl) (by kernel_rfl) <| qr_ [0, 1] <| pal 24 (#[.int .i64 0, .int .i64 0, .int .i64 0, .int .i64 0, .int .i64 0, .int .i64 0, .int .i64 0, .int .u64 0, .int .u64 0, .int .i64 0, .int .u64 0]) (.agg (#[.int .i64 0, .int .i64 0, .int .i64 0, .int .i64 0, .int .i64 0, .int .i64 0, .int .i64 0, .int .u64 0, .int .u64 0, .int .i64 0, .int .u64 0])) fun V1 r1 er1 h2 kV1 => ?_
  have n3 : w.heap.size ≤ r1 := er1 ▸ K0.size
  have K4 := K0.nn kV1
  have z5 := kV1.size
  refine pal 46 (#[.int .i64 0, .int .i64 0]) (.agg (#[.int .i64 0, .int .i64 0])) fun V6 r2 er2 h7 kV6 => ?_
  have n8 : r1 < r2 := er2 ▸ lt_of_block h2
  have n9 : w.heap.size ≤ r2 := er2 ▸ K4.size
  have h10 := kV6.bk h2
  have K11 := K4.nn kV6
  have z12 := kV6.size
  refine eqr_ [0] <| pal 24 (#[.int .i64 0, .int .i64 0, .int .i64 0, .int .i64 0, .int .i64 0, .int .i64 0, .int .i64 0, .int .u64 0, .int .u64 0, .int .i64 0, .int .u64 0]) (.agg (#[.int .i64 0, .int .i64 0, .int .i64 0, .int .i64 0, .int .i64 0, .int .i64 0, .int .i64 0, .int .u64 0, .int .u64 0, .int .i64 0, .int .u64 0])) fun V13 gp egp h14 kV13 => ?_
  have n15 : r1 < gp := egp ▸ lt_of_block h10
  have n16 : r2 < gp := egp ▸ lt_of_block h7
  have n17 : w.heap.size ≤ gp := egp ▸ K11.size
  have h18 := kV13.bk h10
  have h19 := kV13.bk h7
  have K20 := K11.nn kV13
  have z21 := kV13.size
  refine eqr_ [0, 1, 2] <| pkq (v0) ?_
  have lt_r1 := lt_of_block h18
  have lt_r2 := lt_of_block h19
  have lt_gp := lt_of_block h14
  refine pcq 54 #[v0] Tryd.func54 ((rd_new v0 l _ (hx.keepsN K20) hl).mono ?_)
  rintro e V22 ⟨b, F0, rfl, hR0, hge0, kV22⟩
  have hlt0 := hR0.lt
  refine ⟨_, rfl, ?_⟩
  have h23 := kV22.bk h18
  have h24 := kV22.bk h19
  have h25 := kV22.bk h14
  have K26 := K20.nn kV22
  have z27 := kV22.size
  refine pkq (pT b 0) <| eq_ <| qr_ [0, 1, 2] ?_
  refine pcq 37 #[pT gp 0] Tryd.func37 ((fields_new gp _).mono ?_)
  rintro e V28 ⟨g, ks, rfl, hF, hgl, kV28, hgn, hkn⟩
  obtain ⟨NB, hNB⟩ : ∃ n, V28.heap.size = n := ⟨_, rfl⟩
  have hFk := fun n (hn : n < 11) => FieldsAt.klt hF n hn
  have hFg := FieldsAt.glt hF
  have hks : ∀ n, n < 11 → ks n ≠ gp := fun n hn => by have := hkn n hn; omega
  have hd0 : ∀ j, F0 j → w.heap.size ≤ j ∧ j ≠ r1 ∧ j ≠ r2 ∧ j ≠ gp ∧ j ≠ g := fun j h => by have := hge0 j h; have := hlt0 j h; omega
  have hd0k : ∀ j, F0 j → ∀ n, n < 11 → j ≠ ks n := fun j h n hn e => by have := hlt0 j h; have := hkn n hn; omega
  refine ⟨_, rfl, ?_⟩
  have h29 := kV28.bk h23
  have h30 := kV28.bk h24
  have h31 := kV28.bk h25
  have h32 : Rd V28 F0 b l ⟨0, 0⟩ := hR0.keepsN kV28
  have K33 := K26.nn kV28
  have z34 := kV28.size
  refine ppq (.int .i64 11) (exec_len (.tmp 12) 61 _ (by kernel_rfl) Tryd.underlying61 (some ⟨g, 0, none⟩) 11 11 (by kernel_rfl)) <| pkq (.int .i64 0) <| et_ <| b_ 0 ?_
  refine sy_loop (qc55_0 244) (fun a V => ∃ (i : Nat) (vs : List Int) (s : RS) (F0 : Nat → Prop) (u6 u7 u8 u15 u16 u17 u18 u19 u20 u21 u22 u23 u24 u25 u26 u27 u28 u29 u30 u31 u32 u33 u34 u35 u36 u37 u38 u39 u40 u41 u42 u43 u44 u45 : Value), (a = ⟨#[v0, ud, pT r1 0, pT r2 0, pT gp 0, pT b 0, u6, u7, u8, ud, v0, pT b 0, .slice (some ⟨g, 0, none⟩) 11 11, .int .i64 11, iN i, u15, u16, u17, u18, u19, u20, u21, u22, u23, u24, u25, u26, u27, u28, u29, u30, u31, u32, u33, u34, u35, u36, u37, u38, u39, u40, u41, u42, u43, u44, u45, ud, ud, ud, ud, ud, ud, ud, ud, ud], []⟩) ∧ (i ≤ 11) ∧ (vs.length = i) ∧ (bgo (11 - i) vs l s = bres l) ∧ (∀ j, F0 j → w.heap.size ≤ j ∧ j ≠ r1 ∧ j ≠ r2 ∧ j ≠ gp ∧ j ≠ g) ∧ (∀ j, F0 j → ∀ n, n < 11 → j ≠ ks n) ∧ (V.heap[r1]? = some (.cells (#[.int .i64 0, .int .i64 0, .int .i64 0, .int .i64 0, .int .i64 0, .int .i64 0, .int .i64 0, .int .u64 0, .int .u64 0, .int .i64 0, .int .u64 0]) 24 (0, 0))) ∧ (V.heap[r2]? = some (.cells (#[.int .i64 0, .int .i64 0]) 46 (0, 0))) ∧ (V.heap[gp]? = some (.cells ((parOfL vs).cells) 24 (0, 0))) ∧ (Rd V F0 b l s) ∧ (FieldsAt V g gp ks) ∧ (NB ≤ V.heap.size) ∧ (Keeps Nob w V)) (fun a _ => 11 - (intOf (a.tmps.getD 14 undef)).toNat) (by kernel_rfl) ?_ ?_
  · exact ⟨0, [], ⟨0, 0⟩, F0, undef, undef, undef, undef, undef, undef, undef, undef, undef, undef, undef, undef, undef, undef, undef, undef, undef, undef, undef, undef, undef, undef, undef, undef, undef, undef, undef, undef, undef, undef, undef, undef, undef, undef, by kernel_rfl, by omega, rfl, bgo_0 l, hd0, hd0k, h29, h30, h31, h32, hF, (Nat.le_of_eq hNB.symm), K33⟩
  · rintro a V35 ⟨i, vs, s, F0, u6, u7, u8, u15, u16, u17, u18, u19, u20, u21, u22, u23, u24, u25, u26, u27, u28, u29, u30, u31, u32, u33, u34, u35, u36, u37, u38, u39, u40, u41, u42, u43, u44, u45, rfl, hi, hv, hp, hd, hdk, h36, h37, h38, h39, h40, h41, K42⟩
    rcases bread_cases i vs l s hi with ⟨hi2, hi1, hlt5⟩ | ⟨hi2, hi1, hlt5⟩ | ⟨hi2, hi1⟩ | ⟨eq_i, hfin⟩ | ⟨eq_i, hfin⟩
    · skip
      have hltR := Rd.lt h39
      skip
      obtain ⟨lo, hlo⟩ : ∃ x, parLo[i]?.getD 0 = x := ⟨_, rfl⟩
      obtain ⟨hi, hhi⟩ : ∃ x, parHi[i]?.getD 0 = x := ⟨_, rfl⟩
      obtain ⟨n, hn⟩ : ∃ x, brn l i s = x := ⟨_, rfl⟩
      obtain ⟨s1, hs1⟩ : ∃ x, (brd l i s).2 = x := ⟨_, rfl⟩
      have hn9 : n ≤ 1000000000 := hn ▸ brn_le l i s
      have hr0 := u_range i
      obtain ⟨q, hq⟩ : ∃ q, parOfL (vs ++ [((n : Nat) : Int)]) = q := ⟨_, rfl⟩
      have ho := ord_iff (vs := vs) (n := ((n : Nat) : Int)) (by omega)
      rw [hq] at ho
      have ho2 : q.unb < q.mage := by rw [ho.1, ho.2, ← hn]; exact hlt5
      obtain ⟨sn, hsn0⟩ : ∃ x, bst l vs i s = x := ⟨_, rfl⟩
      have hpe := bgo_step hi2 hv hp
      rw [hn, hsn0] at hpe
      have hsn : s1.fail 9 s.pos = sn := by rw [← hsn0, bst_ord hi1 hlt5, hs1]
      refine qr_ [0] <| ppq (.bool true) (dct ((((i : Nat) : Int)) < ((11) : Int)) (by omega)) <| eq_ <| y_ <| s_ <| tq_ <| b_ 1 <| qr_ [0, 1, 2, 3, 4, 5] <| pkq (iN i) <| ppq (pT g (i * 5)) (exec_cast (v := pT g (0 + i * 5)) (by simp) (exec_indexAt_slice 61 (.tmp 12) (.tmp 14) (by kernel_rfl) g 0 11 11 (by kernel_rfl) .i64 i (by kernel_rfl) _ 5 Tryd.underlying61 (by kernel_rfl) (by omega))) <| ppq (.agg (fieldC i (ks i)).toArray) (exec_load_mid 67 (.tmp 17) (by kernel_rfl) g (i * 5) (by kernel_rfl) (fieldC i (ks i)) _ (FieldsAt.mid h40 hi2) Tryd.underlying67 rfl (by kernel_rfl)) <| pal 67 (#[.string ⟨#[]⟩, .int .u64 0, .int .u64 0, .nilFunc, .nilFunc]) (.agg (#[.string ⟨#[]⟩, .int .u64 0, .int .u64 0, .nilFunc, .nilFunc])) fun V43 gf egf h44 kV43 => ?_
      have n45 : r1 < gf := egf ▸ lt_of_block h36
      have n46 : r2 < gf := egf ▸ lt_of_block h37
      have n47 : gp < gf := egf ▸ lt_of_block h38
      have n48 : w.heap.size ≤ gf := egf ▸ K42.size
      have h49 := kV43.bk h36
      have h50 := kV43.bk h37
      have h51 := kV43.bk h38
      have h52 : Rd V43 F0 b l s := h39.keepsN kV43
      have h53 : FieldsAt V43 g gp ks := h40.keepsN kV43
      have h54 : NB ≤ V43.heap.size := Nat.le_trans h41 kV43.size
      have K55 := K42.nn kV43
      have z56 := kV43.size
      refine pkq (iN i) <| pst 67 gf ((fieldC i (ks i)).toArray) h44 (by kernel_rfl) rfl (by kernel_rfl) fun V57 h58 kV57 => ?_
      have h59 := kV57.bO h49
      have h60 := kV57.bO h50
      have h61 := kV57.bO h51
      have h62 : Rd V57 F0 b l s := h52.keeps kV57 (fun j hj e => by have := hltR j hj; unfold Own.One at e; omega)
      have h63 : FieldsAt V57 g gp ks := FieldsAt.keepsB hF h53 kV57 (fun j hj e => by unfold Own.One at e; omega)
      have h64 : NB ≤ V57.heap.size := Nat.le_trans h54 kV57.size
      have K65 := K55.nO kV57
      have z66 := kV57.size
      refine eqr_ [0, 1, 2] <| pkq (pT b 0) ?_
      have hda : ∀ j, F0 j → w.heap.size ≤ j ∧ j ≠ r1 ∧ j ≠ r2 ∧ j ≠ gp ∧ j ≠ g ∧ j ≠ gf := fun j h => by have := hd j h; have := hltR j h; omega
      have hdak := hdk
      refine pcq 55 #[pT b 0] Tryd.func55 ((Rd.at_ h62).mono ?_)
      rintro e w1 ⟨rfl, rfl⟩
      refine ⟨_, rfl, ?_⟩
      refine pkq (.int .i64 s.pos) <| eq_ <| sy_np <| sy_reg <| an_begin 7 12 (opsAt (qc55_0 31334)) (fun W => (W.heap[gf]? = some (.cells ((fieldC i (ks i)).toArray) 67 (0, 0)))) #[false, false, false, false, false, false, false, false, false, false, false, false] (by kernel_rfl) (by kernel_rfl) (by kernel_rfl) (by kernel_rfl) ?_
      obtain ⟨V67, eV67, kV67⟩ := drew_step V57
      rw [eV67]
      clear eV67
      have h68 := kV67.bk h59
      have h69 := kV67.bk h60
      have h70 := kV67.bk h61
      have h71 : Rd V67 F0 b l s := h62.keepsN kV67
      have h72 : FieldsAt V67 g gp ks := h63.keepsN kV67
      have h73 : NB ≤ V67.heap.size := Nat.le_trans h64 kV67.size
      have h74 := kV67.bk h58
      have K75 := K65.nn kV67
      have z76 := kV67.size
      refine akq 0 (pT gf 4) h74 <| avq 1 (.func (.func (parSet[i]?.getD 0)) #[] #[.pointer (some ⟨ks i, 0, none⟩)]) (fun W hS => ldc 65 gf 4 (rc (hS) (rfl))) h74 <| akq 2 (pT b 0) h74 <| akq 3 (pT gf 1) h74 <| avq 4 (.int .u64 (parLoU[i]?.getD 0)) (fun W hS => ldc 22 gf 1 (rc (hS) (rfl))) h74 <| avq 5 (.int .i64 lo) (fun W hS => exec_convert 22 3 (.tmp 25) (by kernel_rfl) (.int .u64 (parLoU[i]?.getD 0)) (by kernel_rfl) (hlo ▸ conv_u64 (parLo[i]?.getD 0) _ hr0.1 hr0.2.1)) h74 <| akq 6 (pT gf 2) h74 <| avq 7 (.int .u64 (parHiU[i]?.getD 0)) (fun W hS => ldc 22 gf 2 (rc (hS) (rfl))) h74 <| avq 8 (.int .i64 hi) (fun W hS => exec_convert 22 3 (.tmp 28) (by kernel_rfl) (.int .u64 (parHiU[i]?.getD 0)) (by kernel_rfl) (hhi ▸ conv_u64 (parHi[i]?.getD 0) _ hr0.2.2.1 hr0.2.2.2)) h74 <| an_o 9 ?_
      have ltb_r17 := lt_of_block h68
      have ltb_r27 := lt_of_block h69
      have ltb_gp7 := lt_of_block h70
      have ltb_gf7 := lt_of_block h74
      have szb_7 := h73
      have szk_7 := K75.size
      refine ncq 56 #[pT b 0, .int .i64 lo, .int .i64 hi] Tryd.func56 ((Rd.num h71 hlo hhi hn hs1).mono ?_)
      rintro e V77 ⟨rfl, F1, hRV77, hSV77⟩
      have hd1 : ∀ j, F1 j → w.heap.size ≤ j ∧ j ≠ r1 ∧ j ≠ r2 ∧ j ≠ gp ∧ j ≠ g ∧ j ≠ gf := fun j h => (hSV77.2 j h).elim (hda j) (fun h => by omega)
      have hd1k : ∀ j, F1 j → ∀ n, n < 11 → j ≠ ks n := fun j h n hn e => (hSV77.2 j h).elim (fun h => hdak j h n hn e) (fun h => by have := hFk n hn; omega)
      refine ⟨_, rfl, ?_⟩
      have h78 : V77.heap[r1]? = some (.cells (#[.int .i64 0, .int .i64 0, .int .i64 0, .int .i64 0, .int .i64 0, .int .i64 0, .int .i64 0, .int .u64 0, .int .u64 0, .int .i64 0, .int .u64 0]) 24 (0, 0)) := (hSV77.1.block r1 (lt_of_block h68) (fun e => by have := hda _ e; omega)).trans h68
      have h79 : V77.heap[r2]? = some (.cells (#[.int .i64 0, .int .i64 0]) 46 (0, 0)) := (hSV77.1.block r2 (lt_of_block h69) (fun e => by have := hda _ e; omega)).trans h69
      have h80 : V77.heap[gp]? = some (.cells ((parOfL vs).cells) 24 (0, 0)) := (hSV77.1.block gp (lt_of_block h70) (fun e => by have := hda _ e; omega)).trans h70
      have h81 : FieldsAt V77 g gp ks := FieldsAt.keeps (N := 0) h72 hSV77.1 (fun e => by have := hda _ e; omega) (fun n hn e => hdak _ e n hn rfl)
      have h82 : NB ≤ V77.heap.size := Nat.le_trans h73 hSV77.1.size
      have h83 : V77.heap[gf]? = some (.cells ((fieldC i (ks i)).toArray) 67 (0, 0)) := (hSV77.1.block gf (lt_of_block h74) (fun e => by have := hda _ e; omega)).trans h74
      have K84 : Keeps Nob w V77 := K75.then hSV77.1 (fun i hi hm => absurd hi (by have := hda i hm; omega))
      have z85 := hSV77.1.size
      refine ⟨h83, ?_⟩
      refine avq 10 (uN n) (fun W hS => exec_convert 3 22 (.tmp 30) (by kernel_rfl) _ (by kernel_rfl) (conv_i64 _ _ (by omega) (by omega))) h83 <| an_o 11 ?_
      refine on_callV (qo55_0 31334 11) (.tmp 22) (parSet[i]?.getD 0) #[] #[.pointer (some ⟨ks i, 0, none⟩)] #[uN n, .pointer (some ⟨ks i, 0, none⟩)] (by kernel_rfl) (by kernel_rfl) (by kernel_rfl) (by kernel_rfl) (by kernel_rfl) (set_enters i hi2) ((setp_ok vs i gp (ks i) n _ hv hi2 hn9 (FieldsAt.box h81 i hi2) h80 (hks i hi2)).mono ?_)
      rintro e V86 ⟨rfl, hq2, kV86⟩
      rw [hq] at hq2
      refine ⟨_, rfl, ?_⟩
      have h87 := kV86.bO h78
      have h88 := kV86.bO h79
      have h89 : FieldsAt V86 g gp ks := FieldsAt.keeps (N := 0) h81 kV86 (fun e => by unfold Own.One at e; omega) (fun n hn e => by unfold Own.One at e; have := hks n hn; omega)
      have h90 : NB ≤ V86.heap.size := Nat.le_trans h82 kV86.size
      have h91 := kV86.bO h83
      have h92 : Rd V86 F1 b l s1 := hRV77.keeps kV86 (fun j hj e => by have := hd1 j hj; unfold Own.One at e; omega)
      have K93 := K84.nO kV86
      have z94 := kV86.size
      refine ⟨h91, ?_⟩
      refine an_end (by kernel_rfl) <| tqr_ [0, 1, 2, 3, 4, 5, 6, 7, 8] <| pkq (iN i) <| ppq (.bool true) (eqt (((i : Nat) : Int)) ((1) : Int) (by omega)) <| pkq (.bool true) <| pkq (pT gp 1) <| ppq (.int .i64 q.mage) (ldc 3 gp 1 (rc (hq2) (rfl))) <| pkq (pT gp 0) <| ppq (.int .i64 q.unb) (ldc 3 gp 0 (rc (hq2) (rfl))) <| ppq (.bool true) (dct (((q.mage) : Int) > ((q.unb) : Int)) (by omega)) <| pkq (.bool true) <| ps_end <| sy_a ⟨#[v0, ud, pT r1 0, pT r2 0, pT gp 0, pT b 0, iN i, pT gf 0, .int .i64 s.pos, ud, v0, pT b 0, .slice (some ⟨g, 0, none⟩) 11 11, .int .i64 11, iN i, .bool true, iN i, pT g (i * 5), .agg (fieldC i (ks i)).toArray, pT b 0, .int .i64 s.pos, pT gf 4, .func (.func (parSet[i]?.getD 0)) #[] #[.pointer (some ⟨ks i, 0, none⟩)], pT b 0, pT gf 1, .int .u64 (parLoU[i]?.getD 0), .int .i64 lo, pT gf 2, .int .u64 (parHiU[i]?.getD 0), .int .i64 hi, iN n, uN n, .tuple #[], iN i, .bool true, .bool true, pT gp 1, .int .i64 q.mage, pT gp 0, .int .i64 q.unb, .bool true, .bool true, u42, u43, u44, u45, ud, ud, ud, ud, ud, ud, ud, ud, ud], []⟩ <| then_n ?_
      refine y_ <| r_ [0, 1, 2] <| pkq (pT b 0) <| pkq (.int .i64 s.pos) ?_
      have ltb_r19 := lt_of_block h87
      have ltb_r29 := lt_of_block h88
      have ltb_gp9 := lt_of_block hq2
      have ltb_gf9 := lt_of_block h91
      have szb_9 := h90
      have szk_9 := K93.size
      refine pcq 57 #[pT b 0, .int .i64 9, .int .i64 s.pos] Tryd.func57 ((Rd.fail h92 9 s.pos).mono ?_)
      rintro e V95 ⟨⟨rv, rfl⟩, Fn, hRV95, hSV95⟩
      have hdn : ∀ j, Fn j → w.heap.size ≤ j ∧ j ≠ r1 ∧ j ≠ r2 ∧ j ≠ gp ∧ j ≠ g ∧ j ≠ gf := fun j h => (hSV95.2 j h).elim (hd1 j) (fun h => by omega)
      have hdnk : ∀ j, Fn j → ∀ n, n < 11 → j ≠ ks n := fun j h n hn e => (hSV95.2 j h).elim (fun h => hd1k j h n hn e) (fun h => by have := hFk n hn; omega)
      refine ⟨_, rfl, ?_⟩
      have h96 : V95.heap[r1]? = some (.cells (#[.int .i64 0, .int .i64 0, .int .i64 0, .int .i64 0, .int .i64 0, .int .i64 0, .int .i64 0, .int .u64 0, .int .u64 0, .int .i64 0, .int .u64 0]) 24 (0, 0)) := (hSV95.1.block r1 (lt_of_block h87) (fun e => by have := hd1 _ e; omega)).trans h87
      have h97 : V95.heap[r2]? = some (.cells (#[.int .i64 0, .int .i64 0]) 46 (0, 0)) := (hSV95.1.block r2 (lt_of_block h88) (fun e => by have := hd1 _ e; omega)).trans h88
      have h98 : FieldsAt V95 g gp ks := FieldsAt.keeps (N := 0) h89 hSV95.1 (fun e => by have := hd1 _ e; omega) (fun n hn e => hd1k _ e n hn rfl)
      have h99 : NB ≤ V95.heap.size := Nat.le_trans h90 hSV95.1.size
      have h101 : V95.heap[gp]? = some (.cells q.cells 24 (0, 0)) := (hSV95.1.block gp (lt_of_block hq2) (fun e => by have := hd1 _ e; omega)).trans hq2
      have K102 : Keeps Nob w V95 := K93.then hSV95.1 (fun i hi hm => absurd hi (by have := hd1 i hm; omega))
      have z103 := hSV95.1.size
      refine ps_end <| blk_n <| tr_ [0, 1] <| ppq (iN (i + 1)) (exec_cast (congrArg (Value.int .i64) (wrapN (i + 1) (by omega))) (by kernel_rfl)) <| pkq (iN (i + 1)) <| et_ ?_
      refine ⟨⟨(i + 1), (vs ++ [((n : Nat) : Int)]), sn, Fn, (iN i), (pT gf 0), (.int .i64 s.pos), (.bool true), (iN i), (pT g (i * 5)), (.agg (fieldC i (ks i)).toArray), (pT b 0), (.int .i64 s.pos), (pT gf 4), (.func (.func (parSet[i]?.getD 0)) #[] #[.pointer (some ⟨ks i, 0, none⟩)]), (pT b 0), (pT gf 1), (.int .u64 (parLoU[i]?.getD 0)), (.int .i64 lo), (pT gf 2), (.int .u64 (parHiU[i]?.getD 0)), (.int .i64 hi), (iN n), (uN n), (.tuple #[]), (iN i), (.bool true), (.bool true), (pT gp 1), (.int .i64 q.mage), (pT gp 0), (.int .i64 q.unb), (.bool true), (.bool true), (pT b 0), (.int .i64 s.pos), rv, (iN (i + 1)), by kernel_rfl, by omega, by simp [hv], hpe, fun j h => by have := hdn j h; omega, hdnk, h96, h97, (hq ▸ h101), (hsn ▸ hRV95), h98, h99, K102⟩, ?_⟩
      exact lt_meas (x := 11 - (i + 1)) (y := 11 - i) (by kernel_rfl) (by kernel_rfl) (by omega)
    · skip
      have hltR := Rd.lt h39
      skip
      obtain ⟨lo, hlo⟩ : ∃ x, parLo[i]?.getD 0 = x := ⟨_, rfl⟩
      obtain ⟨hi, hhi⟩ : ∃ x, parHi[i]?.getD 0 = x := ⟨_, rfl⟩
      obtain ⟨n, hn⟩ : ∃ x, brn l i s = x := ⟨_, rfl⟩
      obtain ⟨s1, hs1⟩ : ∃ x, (brd l i s).2 = x := ⟨_, rfl⟩
      have hn9 : n ≤ 1000000000 := hn ▸ brn_le l i s
      have hr0 := u_range i
      obtain ⟨q, hq⟩ : ∃ q, parOfL (vs ++ [((n : Nat) : Int)]) = q := ⟨_, rfl⟩
      have ho := ord_iff (vs := vs) (n := ((n : Nat) : Int)) (by omega)
      rw [hq] at ho
      have ho2 : ¬ q.unb < q.mage := by rw [ho.1, ho.2, ← hn]; exact hlt5
      obtain ⟨sn, hsn0⟩ : ∃ x, bst l vs i s = x := ⟨_, rfl⟩
      have hpe := bgo_step hi2 hv hp
      rw [hn, hsn0] at hpe
      have hsn : s1 = sn := by rw [← hsn0, bst_not (fun x => hlt5 x.2), hs1]
      refine qr_ [0] <| ppq (.bool true) (dct ((((i : Nat) : Int)) < ((11) : Int)) (by omega)) <| eq_ <| y_ <| s_ <| tq_ <| b_ 1 <| qr_ [0, 1, 2, 3, 4, 5] <| pkq (iN i) <| ppq (pT g (i * 5)) (exec_cast (v := pT g (0 + i * 5)) (by simp) (exec_indexAt_slice 61 (.tmp 12) (.tmp 14) (by kernel_rfl) g 0 11 11 (by kernel_rfl) .i64 i (by kernel_rfl) _ 5 Tryd.underlying61 (by kernel_rfl) (by omega))) <| ppq (.agg (fieldC i (ks i)).toArray) (exec_load_mid 67 (.tmp 17) (by kernel_rfl) g (i * 5) (by kernel_rfl) (fieldC i (ks i)) _ (FieldsAt.mid h40 hi2) Tryd.underlying67 rfl (by kernel_rfl)) <| pal 67 (#[.string ⟨#[]⟩, .int .u64 0, .int .u64 0, .nilFunc, .nilFunc]) (.agg (#[.string ⟨#[]⟩, .int .u64 0, .int .u64 0, .nilFunc, .nilFunc])) fun V104 gf egf h105 kV104 => ?_
      have n106 : r1 < gf := egf ▸ lt_of_block h36
      have n107 : r2 < gf := egf ▸ lt_of_block h37
      have n108 : gp < gf := egf ▸ lt_of_block h38
      have n109 : w.heap.size ≤ gf := egf ▸ K42.size
      have h110 := kV104.bk h36
      have h111 := kV104.bk h37
      have h112 := kV104.bk h38
      have h113 : Rd V104 F0 b l s := h39.keepsN kV104
      have h114 : FieldsAt V104 g gp ks := h40.keepsN kV104
      have h115 : NB ≤ V104.heap.size := Nat.le_trans h41 kV104.size
      have K116 := K42.nn kV104
      have z117 := kV104.size
      refine pkq (iN i) <| pst 67 gf ((fieldC i (ks i)).toArray) h105 (by kernel_rfl) rfl (by kernel_rfl) fun V118 h119 kV118 => ?_
      have h120 := kV118.bO h110
      have h121 := kV118.bO h111
      have h122 := kV118.bO h112
      have h123 : Rd V118 F0 b l s := h113.keeps kV118 (fun j hj e => by have := hltR j hj; unfold Own.One at e; omega)
      have h124 : FieldsAt V118 g gp ks := FieldsAt.keepsB hF h114 kV118 (fun j hj e => by unfold Own.One at e; omega)
      have h125 : NB ≤ V118.heap.size := Nat.le_trans h115 kV118.size
      have K126 := K116.nO kV118
      have z127 := kV118.size
      refine eqr_ [0, 1, 2] <| pkq (pT b 0) ?_
      have hda : ∀ j, F0 j → w.heap.size ≤ j ∧ j ≠ r1 ∧ j ≠ r2 ∧ j ≠ gp ∧ j ≠ g ∧ j ≠ gf := fun j h => by have := hd j h; have := hltR j h; omega
      have hdak := hdk
      refine pcq 55 #[pT b 0] Tryd.func55 ((Rd.at_ h123).mono ?_)
      rintro e w1 ⟨rfl, rfl⟩
      refine ⟨_, rfl, ?_⟩
      refine pkq (.int .i64 s.pos) <| eq_ <| sy_np <| sy_reg <| an_begin 7 12 (opsAt (qc55_0 31334)) (fun W => (W.heap[gf]? = some (.cells ((fieldC i (ks i)).toArray) 67 (0, 0)))) #[false, false, false, false, false, false, false, false, false, false, false, false] (by kernel_rfl) (by kernel_rfl) (by kernel_rfl) (by kernel_rfl) ?_
      obtain ⟨V128, eV128, kV128⟩ := drew_step V118
      rw [eV128]
      clear eV128
      have h129 := kV128.bk h120
      have h130 := kV128.bk h121
      have h131 := kV128.bk h122
      have h132 : Rd V128 F0 b l s := h123.keepsN kV128
      have h133 : FieldsAt V128 g gp ks := h124.keepsN kV128
      have h134 : NB ≤ V128.heap.size := Nat.le_trans h125 kV128.size
      have h135 := kV128.bk h119
      have K136 := K126.nn kV128
      have z137 := kV128.size
      refine akq 0 (pT gf 4) h135 <| avq 1 (.func (.func (parSet[i]?.getD 0)) #[] #[.pointer (some ⟨ks i, 0, none⟩)]) (fun W hS => ldc 65 gf 4 (rc (hS) (rfl))) h135 <| akq 2 (pT b 0) h135 <| akq 3 (pT gf 1) h135 <| avq 4 (.int .u64 (parLoU[i]?.getD 0)) (fun W hS => ldc 22 gf 1 (rc (hS) (rfl))) h135 <| avq 5 (.int .i64 lo) (fun W hS => exec_convert 22 3 (.tmp 25) (by kernel_rfl) (.int .u64 (parLoU[i]?.getD 0)) (by kernel_rfl) (hlo ▸ conv_u64 (parLo[i]?.getD 0) _ hr0.1 hr0.2.1)) h135 <| akq 6 (pT gf 2) h135 <| avq 7 (.int .u64 (parHiU[i]?.getD 0)) (fun W hS => ldc 22 gf 2 (rc (hS) (rfl))) h135 <| avq 8 (.int .i64 hi) (fun W hS => exec_convert 22 3 (.tmp 28) (by kernel_rfl) (.int .u64 (parHiU[i]?.getD 0)) (by kernel_rfl) (hhi ▸ conv_u64 (parHi[i]?.getD 0) _ hr0.2.2.1 hr0.2.2.2)) h135 <| an_o 9 ?_
      have ltb_r17 := lt_of_block h129
      have ltb_r27 := lt_of_block h130
      have ltb_gp7 := lt_of_block h131
      have ltb_gf7 := lt_of_block h135
      have szb_7 := h134
      have szk_7 := K136.size
      refine ncq 56 #[pT b 0, .int .i64 lo, .int .i64 hi] Tryd.func56 ((Rd.num h132 hlo hhi hn hs1).mono ?_)
      rintro e V138 ⟨rfl, Fn, hRV138, hSV138⟩
      have hdn : ∀ j, Fn j → w.heap.size ≤ j ∧ j ≠ r1 ∧ j ≠ r2 ∧ j ≠ gp ∧ j ≠ g ∧ j ≠ gf := fun j h => (hSV138.2 j h).elim (hda j) (fun h => by omega)
      have hdnk : ∀ j, Fn j → ∀ n, n < 11 → j ≠ ks n := fun j h n hn e => (hSV138.2 j h).elim (fun h => hdak j h n hn e) (fun h => by have := hFk n hn; omega)
      refine ⟨_, rfl, ?_⟩
      have h139 : V138.heap[r1]? = some (.cells (#[.int .i64 0, .int .i64 0, .int .i64 0, .int .i64 0, .int .i64 0, .int .i64 0, .int .i64 0, .int .u64 0, .int .u64 0, .int .i64 0, .int .u64 0]) 24 (0, 0)) := (hSV138.1.block r1 (lt_of_block h129) (fun e => by have := hda _ e; omega)).trans h129
      have h140 : V138.heap[r2]? = some (.cells (#[.int .i64 0, .int .i64 0]) 46 (0, 0)) := (hSV138.1.block r2 (lt_of_block h130) (fun e => by have := hda _ e; omega)).trans h130
      have h141 : V138.heap[gp]? = some (.cells ((parOfL vs).cells) 24 (0, 0)) := (hSV138.1.block gp (lt_of_block h131) (fun e => by have := hda _ e; omega)).trans h131
      have h142 : FieldsAt V138 g gp ks := FieldsAt.keeps (N := 0) h133 hSV138.1 (fun e => by have := hda _ e; omega) (fun n hn e => hdak _ e n hn rfl)
      have h143 : NB ≤ V138.heap.size := Nat.le_trans h134 hSV138.1.size
      have h144 : V138.heap[gf]? = some (.cells ((fieldC i (ks i)).toArray) 67 (0, 0)) := (hSV138.1.block gf (lt_of_block h135) (fun e => by have := hda _ e; omega)).trans h135
      have K145 : Keeps Nob w V138 := K136.then hSV138.1 (fun i hi hm => absurd hi (by have := hda i hm; omega))
      have z146 := hSV138.1.size
      refine ⟨h144, ?_⟩
      refine avq 10 (uN n) (fun W hS => exec_convert 3 22 (.tmp 30) (by kernel_rfl) _ (by kernel_rfl) (conv_i64 _ _ (by omega) (by omega))) h144 <| an_o 11 ?_
      refine on_callV (qo55_0 31334 11) (.tmp 22) (parSet[i]?.getD 0) #[] #[.pointer (some ⟨ks i, 0, none⟩)] #[uN n, .pointer (some ⟨ks i, 0, none⟩)] (by kernel_rfl) (by kernel_rfl) (by kernel_rfl) (by kernel_rfl) (by kernel_rfl) (set_enters i hi2) ((setp_ok vs i gp (ks i) n _ hv hi2 hn9 (FieldsAt.box h142 i hi2) h141 (hks i hi2)).mono ?_)
      rintro e V147 ⟨rfl, hq2, kV147⟩
      rw [hq] at hq2
      refine ⟨_, rfl, ?_⟩
      have h148 := kV147.bO h139
      have h149 := kV147.bO h140
      have h150 : FieldsAt V147 g gp ks := FieldsAt.keeps (N := 0) h142 kV147 (fun e => by unfold Own.One at e; omega) (fun n hn e => by unfold Own.One at e; have := hks n hn; omega)
      have h151 : NB ≤ V147.heap.size := Nat.le_trans h143 kV147.size
      have h152 := kV147.bO h144
      have h153 : Rd V147 Fn b l s1 := hRV138.keeps kV147 (fun j hj e => by have := hdn j hj; unfold Own.One at e; omega)
      have K154 := K145.nO kV147
      have z155 := kV147.size
      refine ⟨h152, ?_⟩
      refine an_end (by kernel_rfl) <| tqr_ [0, 1, 2, 3, 4, 5, 6, 7, 8] <| pkq (iN i) <| ppq (.bool true) (eqt (((i : Nat) : Int)) ((1) : Int) (by omega)) <| pkq (.bool true) <| pkq (pT gp 1) <| ppq (.int .i64 q.mage) (ldc 3 gp 1 (rc (hq2) (rfl))) <| pkq (pT gp 0) <| ppq (.int .i64 q.unb) (ldc 3 gp 0 (rc (hq2) (rfl))) <| ppq (.bool false) (dcf (((q.mage) : Int) > ((q.unb) : Int)) (by omega)) <| pkq (.bool false) <| ps_end <| sy_a ⟨#[v0, ud, pT r1 0, pT r2 0, pT gp 0, pT b 0, iN i, pT gf 0, .int .i64 s.pos, ud, v0, pT b 0, .slice (some ⟨g, 0, none⟩) 11 11, .int .i64 11, iN i, .bool true, iN i, pT g (i * 5), .agg (fieldC i (ks i)).toArray, pT b 0, .int .i64 s.pos, pT gf 4, .func (.func (parSet[i]?.getD 0)) #[] #[.pointer (some ⟨ks i, 0, none⟩)], pT b 0, pT gf 1, .int .u64 (parLoU[i]?.getD 0), .int .i64 lo, pT gf 2, .int .u64 (parHiU[i]?.getD 0), .int .i64 hi, iN n, uN n, .tuple #[], iN i, .bool true, .bool true, pT gp 1, .int .i64 q.mage, pT gp 0, .int .i64 q.unb, .bool false, .bool false, u42, u43, u44, u45, ud, ud, ud, ud, ud, ud, ud, ud, ud], []⟩ <| then_n ?_
      refine n_ <| s_ <| blk_n <| tr_ [0, 1] <| ppq (iN (i + 1)) (exec_cast (congrArg (Value.int .i64) (wrapN (i + 1) (by omega))) (by kernel_rfl)) <| pkq (iN (i + 1)) <| et_ ?_
      refine ⟨⟨(i + 1), (vs ++ [((n : Nat) : Int)]), sn, Fn, (iN i), (pT gf 0), (.int .i64 s.pos), (.bool true), (iN i), (pT g (i * 5)), (.agg (fieldC i (ks i)).toArray), (pT b 0), (.int .i64 s.pos), (pT gf 4), (.func (.func (parSet[i]?.getD 0)) #[] #[.pointer (some ⟨ks i, 0, none⟩)]), (pT b 0), (pT gf 1), (.int .u64 (parLoU[i]?.getD 0)), (.int .i64 lo), (pT gf 2), (.int .u64 (parHiU[i]?.getD 0)), (.int .i64 hi), (iN n), (uN n), (.tuple #[]), (iN i), (.bool true), (.bool true), (pT gp 1), (.int .i64 q.mage), (pT gp 0), (.int .i64 q.unb), (.bool false), (.bool false), u42, u43, u44, (iN (i + 1)), by kernel_rfl, by omega, by simp [hv], hpe, fun j h => by have := hdn j h; omega, hdnk, h148, h149, (hq ▸ hq2), (hsn ▸ h153), h150, h151, K154⟩, ?_⟩
      exact lt_meas (x := 11 - (i + 1)) (y := 11 - i) (by kernel_rfl) (by kernel_rfl) (by omega)
    · skip
      have hltR := Rd.lt h39
      skip
      obtain ⟨lo, hlo⟩ : ∃ x, parLo[i]?.getD 0 = x := ⟨_, rfl⟩
      obtain ⟨hi, hhi⟩ : ∃ x, parHi[i]?.getD 0 = x := ⟨_, rfl⟩
      obtain ⟨n, hn⟩ : ∃ x, brn l i s = x := ⟨_, rfl⟩
      obtain ⟨s1, hs1⟩ : ∃ x, (brd l i s).2 = x := ⟨_, rfl⟩
      have hn9 : n ≤ 1000000000 := hn ▸ brn_le l i s
      have hr0 := u_range i
      obtain ⟨q, hq⟩ : ∃ q, parOfL (vs ++ [((n : Nat) : Int)]) = q := ⟨_, rfl⟩
      obtain ⟨sn, hsn0⟩ : ∃ x, bst l vs i s = x := ⟨_, rfl⟩
      have hpe := bgo_step hi2 hv hp
      rw [hn, hsn0] at hpe
      have hsn : s1 = sn := by rw [← hsn0, bst_not (fun x => hi1 x.1), hs1]
      refine qr_ [0] <| ppq (.bool true) (dct ((((i : Nat) : Int)) < ((11) : Int)) (by omega)) <| eq_ <| y_ <| s_ <| tq_ <| b_ 1 <| qr_ [0, 1, 2, 3, 4, 5] <| pkq (iN i) <| ppq (pT g (i * 5)) (exec_cast (v := pT g (0 + i * 5)) (by simp) (exec_indexAt_slice 61 (.tmp 12) (.tmp 14) (by kernel_rfl) g 0 11 11 (by kernel_rfl) .i64 i (by kernel_rfl) _ 5 Tryd.underlying61 (by kernel_rfl) (by omega))) <| ppq (.agg (fieldC i (ks i)).toArray) (exec_load_mid 67 (.tmp 17) (by kernel_rfl) g (i * 5) (by kernel_rfl) (fieldC i (ks i)) _ (FieldsAt.mid h40 hi2) Tryd.underlying67 rfl (by kernel_rfl)) <| pal 67 (#[.string ⟨#[]⟩, .int .u64 0, .int .u64 0, .nilFunc, .nilFunc]) (.agg (#[.string ⟨#[]⟩, .int .u64 0, .int .u64 0, .nilFunc, .nilFunc])) fun V156 gf egf h157 kV156 => ?_
      have n158 : r1 < gf := egf ▸ lt_of_block h36
      have n159 : r2 < gf := egf ▸ lt_of_block h37
      have n160 : gp < gf := egf ▸ lt_of_block h38
      have n161 : w.heap.size ≤ gf := egf ▸ K42.size
      have h162 := kV156.bk h36
      have h163 := kV156.bk h37
      have h164 := kV156.bk h38
      have h165 : Rd V156 F0 b l s := h39.keepsN kV156
      have h166 : FieldsAt V156 g gp ks := h40.keepsN kV156
      have h167 : NB ≤ V156.heap.size := Nat.le_trans h41 kV156.size
      have K168 := K42.nn kV156
      have z169 := kV156.size
      refine pkq (iN i) <| pst 67 gf ((fieldC i (ks i)).toArray) h157 (by kernel_rfl) rfl (by kernel_rfl) fun V170 h171 kV170 => ?_
      have h172 := kV170.bO h162
      have h173 := kV170.bO h163
      have h174 := kV170.bO h164
      have h175 : Rd V170 F0 b l s := h165.keeps kV170 (fun j hj e => by have := hltR j hj; unfold Own.One at e; omega)
      have h176 : FieldsAt V170 g gp ks := FieldsAt.keepsB hF h166 kV170 (fun j hj e => by unfold Own.One at e; omega)
      have h177 : NB ≤ V170.heap.size := Nat.le_trans h167 kV170.size
      have K178 := K168.nO kV170
      have z179 := kV170.size
      refine eqr_ [0, 1, 2] <| pkq (pT b 0) ?_
      have hda : ∀ j, F0 j → w.heap.size ≤ j ∧ j ≠ r1 ∧ j ≠ r2 ∧ j ≠ gp ∧ j ≠ g ∧ j ≠ gf := fun j h => by have := hd j h; have := hltR j h; omega
      have hdak := hdk
      refine pcq 55 #[pT b 0] Tryd.func55 ((Rd.at_ h175).mono ?_)
      rintro e w1 ⟨rfl, rfl⟩
      refine ⟨_, rfl, ?_⟩
      refine pkq (.int .i64 s.pos) <| eq_ <| sy_np <| sy_reg <| an_begin 7 12 (opsAt (qc55_0 31334)) (fun W => (W.heap[gf]? = some (.cells ((fieldC i (ks i)).toArray) 67 (0, 0)))) #[false, false, false, false, false, false, false, false, false, false, false, false] (by kernel_rfl) (by kernel_rfl) (by kernel_rfl) (by kernel_rfl) ?_
      obtain ⟨V180, eV180, kV180⟩ := drew_step V170
      rw [eV180]
      clear eV180
      have h181 := kV180.bk h172
      have h182 := kV180.bk h173
      have h183 := kV180.bk h174
      have h184 : Rd V180 F0 b l s := h175.keepsN kV180
      have h185 : FieldsAt V180 g gp ks := h176.keepsN kV180
      have h186 : NB ≤ V180.heap.size := Nat.le_trans h177 kV180.size
      have h187 := kV180.bk h171
      have K188 := K178.nn kV180
      have z189 := kV180.size
      refine akq 0 (pT gf 4) h187 <| avq 1 (.func (.func (parSet[i]?.getD 0)) #[] #[.pointer (some ⟨ks i, 0, none⟩)]) (fun W hS => ldc 65 gf 4 (rc (hS) (rfl))) h187 <| akq 2 (pT b 0) h187 <| akq 3 (pT gf 1) h187 <| avq 4 (.int .u64 (parLoU[i]?.getD 0)) (fun W hS => ldc 22 gf 1 (rc (hS) (rfl))) h187 <| avq 5 (.int .i64 lo) (fun W hS => exec_convert 22 3 (.tmp 25) (by kernel_rfl) (.int .u64 (parLoU[i]?.getD 0)) (by kernel_rfl) (hlo ▸ conv_u64 (parLo[i]?.getD 0) _ hr0.1 hr0.2.1)) h187 <| akq 6 (pT gf 2) h187 <| avq 7 (.int .u64 (parHiU[i]?.getD 0)) (fun W hS => ldc 22 gf 2 (rc (hS) (rfl))) h187 <| avq 8 (.int .i64 hi) (fun W hS => exec_convert 22 3 (.tmp 28) (by kernel_rfl) (.int .u64 (parHiU[i]?.getD 0)) (by kernel_rfl) (hhi ▸ conv_u64 (parHi[i]?.getD 0) _ hr0.2.2.1 hr0.2.2.2)) h187 <| an_o 9 ?_
      have ltb_r17 := lt_of_block h181
      have ltb_r27 := lt_of_block h182
      have ltb_gp7 := lt_of_block h183
      have ltb_gf7 := lt_of_block h187
      have szb_7 := h186
      have szk_7 := K188.size
      refine ncq 56 #[pT b 0, .int .i64 lo, .int .i64 hi] Tryd.func56 ((Rd.num h184 hlo hhi hn hs1).mono ?_)
      rintro e V190 ⟨rfl, Fn, hRV190, hSV190⟩
      have hdn : ∀ j, Fn j → w.heap.size ≤ j ∧ j ≠ r1 ∧ j ≠ r2 ∧ j ≠ gp ∧ j ≠ g ∧ j ≠ gf := fun j h => (hSV190.2 j h).elim (hda j) (fun h => by omega)
      have hdnk : ∀ j, Fn j → ∀ n, n < 11 → j ≠ ks n := fun j h n hn e => (hSV190.2 j h).elim (fun h => hdak j h n hn e) (fun h => by have := hFk n hn; omega)
      refine ⟨_, rfl, ?_⟩
      have h191 : V190.heap[r1]? = some (.cells (#[.int .i64 0, .int .i64 0, .int .i64 0, .int .i64 0, .int .i64 0, .int .i64 0, .int .i64 0, .int .u64 0, .int .u64 0, .int .i64 0, .int .u64 0]) 24 (0, 0)) := (hSV190.1.block r1 (lt_of_block h181) (fun e => by have := hda _ e; omega)).trans h181
      have h192 : V190.heap[r2]? = some (.cells (#[.int .i64 0, .int .i64 0]) 46 (0, 0)) := (hSV190.1.block r2 (lt_of_block h182) (fun e => by have := hda _ e; omega)).trans h182
      have h193 : V190.heap[gp]? = some (.cells ((parOfL vs).cells) 24 (0, 0)) := (hSV190.1.block gp (lt_of_block h183) (fun e => by have := hda _ e; omega)).trans h183
      have h194 : FieldsAt V190 g gp ks := FieldsAt.keeps (N := 0) h185 hSV190.1 (fun e => by have := hda _ e; omega) (fun n hn e => hdak _ e n hn rfl)
      have h195 : NB ≤ V190.heap.size := Nat.le_trans h186 hSV190.1.size
      have h196 : V190.heap[gf]? = some (.cells ((fieldC i (ks i)).toArray) 67 (0, 0)) := (hSV190.1.block gf (lt_of_block h187) (fun e => by have := hda _ e; omega)).trans h187
      have K197 : Keeps Nob w V190 := K188.then hSV190.1 (fun i hi hm => absurd hi (by have := hda i hm; omega))
      have z198 := hSV190.1.size
      refine ⟨h196, ?_⟩
      refine avq 10 (uN n) (fun W hS => exec_convert 3 22 (.tmp 30) (by kernel_rfl) _ (by kernel_rfl) (conv_i64 _ _ (by omega) (by omega))) h196 <| an_o 11 ?_
      refine on_callV (qo55_0 31334 11) (.tmp 22) (parSet[i]?.getD 0) #[] #[.pointer (some ⟨ks i, 0, none⟩)] #[uN n, .pointer (some ⟨ks i, 0, none⟩)] (by kernel_rfl) (by kernel_rfl) (by kernel_rfl) (by kernel_rfl) (by kernel_rfl) (set_enters i hi2) ((setp_ok vs i gp (ks i) n _ hv hi2 hn9 (FieldsAt.box h194 i hi2) h193 (hks i hi2)).mono ?_)
      rintro e V199 ⟨rfl, hq2, kV199⟩
      rw [hq] at hq2
      refine ⟨_, rfl, ?_⟩
      have h200 := kV199.bO h191
      have h201 := kV199.bO h192
      have h202 : FieldsAt V199 g gp ks := FieldsAt.keeps (N := 0) h194 kV199 (fun e => by unfold Own.One at e; omega) (fun n hn e => by unfold Own.One at e; have := hks n hn; omega)
      have h203 : NB ≤ V199.heap.size := Nat.le_trans h195 kV199.size
      have h204 := kV199.bO h196
      have h205 : Rd V199 Fn b l s1 := hRV190.keeps kV199 (fun j hj e => by have := hdn j hj; unfold Own.One at e; omega)
      have K206 := K197.nO kV199
      have z207 := kV199.size
      refine ⟨h204, ?_⟩
      refine an_end (by kernel_rfl) <| tqr_ [0, 1, 2, 3, 4, 5, 6, 7, 8] <| pkq (iN i) <| ppq (.bool false) (eqf (((i : Nat) : Int)) ((1) : Int) (by omega)) <| pkq (.bool false) <| pnq <| pnq <| pnq <| pnq <| pnq <| pkq (.bool false) <| ps_end <| sy_a ⟨#[v0, ud, pT r1 0, pT r2 0, pT gp 0, pT b 0, iN i, pT gf 0, .int .i64 s.pos, ud, v0, pT b 0, .slice (some ⟨g, 0, none⟩) 11 11, .int .i64 11, iN i, .bool true, iN i, pT g (i * 5), .agg (fieldC i (ks i)).toArray, pT b 0, .int .i64 s.pos, pT gf 4, .func (.func (parSet[i]?.getD 0)) #[] #[.pointer (some ⟨ks i, 0, none⟩)], pT b 0, pT gf 1, .int .u64 (parLoU[i]?.getD 0), .int .i64 lo, pT gf 2, .int .u64 (parHiU[i]?.getD 0), .int .i64 hi, iN n, uN n, .tuple #[], iN i, .bool false, .bool false, ud, ud, ud, ud, ud, .bool false, u42, u43, u44, u45, ud, ud, ud, ud, ud, ud, ud, ud, ud], []⟩ <| then_n ?_
      refine n_ <| s_ <| blk_n <| tr_ [0, 1] <| ppq (iN (i + 1)) (exec_cast (congrArg (Value.int .i64) (wrapN (i + 1) (by omega))) (by kernel_rfl)) <| pkq (iN (i + 1)) <| et_ ?_
      refine ⟨⟨(i + 1), (vs ++ [((n : Nat) : Int)]), sn, Fn, (iN i), (pT gf 0), (.int .i64 s.pos), (.bool true), (iN i), (pT g (i * 5)), (.agg (fieldC i (ks i)).toArray), (pT b 0), (.int .i64 s.pos), (pT gf 4), (.func (.func (parSet[i]?.getD 0)) #[] #[.pointer (some ⟨ks i, 0, none⟩)]), (pT b 0), (pT gf 1), (.int .u64 (parLoU[i]?.getD 0)), (.int .i64 lo), (pT gf 2), (.int .u64 (parHiU[i]?.getD 0)), (.int .i64 hi), (iN n), (uN n), (.tuple #[]), (iN i), (.bool false), (.bool false), undef, undef, undef, undef, undef, (.bool false), u42, u43, u44, (iN (i + 1)), by kernel_rfl, by omega, by simp [hv], hpe, fun j h => by have := hdn j h; omega, hdnk, h200, h201, (hq ▸ hq2), (hsn ▸ h205), h202, h203, K206⟩, ?_⟩
      exact lt_meas (x := 11 - (i + 1)) (y := 11 - i) (by kernel_rfl) (by kernel_rfl) (by omega)
    · have hres := bread_ok eq_i hp hfin
      obtain ⟨fe, hfe⟩ : ∃ x, (s.fin l).1 = x := ⟨_, rfl⟩
      obtain ⟨fp, hfp⟩ : ∃ x, (s.fin l).2 = x := ⟨_, rfl⟩
      rw [hfe] at hfin
      skip
      refine qr_ [0] <| ppq (.bool false) (dcf ((((i : Nat) : Int)) < ((11) : Int)) (by omega)) <| eq_ <| n_ <| sy_exit 0 (by kernel_rfl) <| then_e <| then_e <| blk_e <| tq_ <| qr_ [0, 1, 2, 3] <| pkq (pT b 0) ?_
      refine pcq 58 #[pT b 0] Tryd.func58 ((rd_end h39 hfe hfp).mono ?_)
      rintro e V208 ⟨rfl, kV208⟩
      refine ⟨_, rfl, ?_⟩
      have h209 := kV208.bk h36
      have h210 := kV208.bk h37
      have h211 := kV208.bk h38
      have K212 := K42.nn kV208
      have z213 := kV208.size
      refine pal 46 (#[.int .i64 0, .int .i64 0]) (.agg (#[.int .i64 0, .int .i64 0])) fun V214 gE egE h215 kV214 => ?_
      have n216 : r1 < gE := egE ▸ lt_of_block h209
      have n217 : r2 < gE := egE ▸ lt_of_block h210
      have n218 : gp < gE := egE ▸ lt_of_block h211
      have n219 : w.heap.size ≤ gE := egE ▸ K212.size
      have h220 := kV214.bk h209
      have h221 := kV214.bk h210
      have h222 := kV214.bk h211
      have K223 := K212.nn kV214
      have z224 := kV214.size
      refine pst 46 gE (#[.int .i64 fe, .int .i64 fp]) h215 (by kernel_rfl) rfl (by kernel_rfl) fun V225 h226 kV225 => ?_
      have h227 := kV225.bO h220
      have h228 := kV225.bO h221
      have h229 := kV225.bO h222
      have K230 := K223.nO kV225
      have z231 := kV225.size
      refine eqr_ [0, 1, 2] <| pkq (pT gE 0) <| ppq (.int .i64 fe) (ldk 26 gE 0 h226) <| ppq (.bool false) (nqf ((fe) : Int) ((0) : Int) (by omega)) <| en_ <| s_ <| tqr_ [0, 1, 2, 3] <| ppq (.agg ((parOfL vs).cells)) (ldr 24 gp (h229) (by kernel_rfl)) <| pkq (.agg #[.int .i64 0, .int .i64 0]) <| pst 24 r1 (((parOfL vs).cells)) h227 (by kernel_rfl) rfl (by kernel_rfl) fun V232 h233 kV232 => ?_
      have h234 := kV232.bO h228
      have K237 := K230.nO kV232
      have z238 := kV232.size
      refine pst 46 r2 (#[.int .i64 0, .int .i64 0]) h234 (by kernel_rfl) rfl (by kernel_rfl) fun V239 h240 kV239 => ?_
      have h243 := kV239.bO h233
      have K244 := K237.nO kV239
      have z245 := kV239.size
      refine eu_ <| sy_out (.tuple #[.agg ((parOfL vs).cells), .agg #[.int .i64 0, .int .i64 0]]) rfl (results_rows2 (p := 2) (q := 3) (ty := 24) (tz := 46) (by kernel_rfl) _ _ r1 r2 24 46 ((parOfL vs).cells) (#[.int .i64 0, .int .i64 0]) (0, 0) (0, 0) _ _ (by kernel_rfl) h243 Tryd.underlying24 rfl (by kernel_rfl) (by kernel_rfl) h240 Tryd.underlying46 rfl (by kernel_rfl)) ?_
      exact ⟨by rw [hres], K244⟩
    · have hres := bread_no eq_i hp hfin
      obtain ⟨fe, hfe⟩ : ∃ x, (s.fin l).1 = x := ⟨_, rfl⟩
      obtain ⟨fp, hfp⟩ : ∃ x, (s.fin l).2 = x := ⟨_, rfl⟩
      rw [hfe, hfp] at hres
      rw [hfe] at hfin
      skip
      refine qr_ [0] <| ppq (.bool false) (dcf ((((i : Nat) : Int)) < ((11) : Int)) (by omega)) <| eq_ <| n_ <| sy_exit 0 (by kernel_rfl) <| then_e <| then_e <| blk_e <| tq_ <| qr_ [0, 1, 2, 3] <| pkq (pT b 0) ?_
      refine pcq 58 #[pT b 0] Tryd.func58 ((rd_end h39 hfe hfp).mono ?_)
      rintro e V246 ⟨rfl, kV246⟩
      refine ⟨_, rfl, ?_⟩
      have h247 := kV246.bk h36
      have h248 := kV246.bk h37
      have h249 := kV246.bk h38
      have K250 := K42.nn kV246
      have z251 := kV246.size
      refine pal 46 (#[.int .i64 0, .int .i64 0]) (.agg (#[.int .i64 0, .int .i64 0])) fun V252 gE egE h253 kV252 => ?_
      have n254 : r1 < gE := egE ▸ lt_of_block h247
      have n255 : r2 < gE := egE ▸ lt_of_block h248
      have n256 : gp < gE := egE ▸ lt_of_block h249
      have n257 : w.heap.size ≤ gE := egE ▸ K250.size
      have h258 := kV252.bk h247
      have h259 := kV252.bk h248
      have K261 := K250.nn kV252
      have z262 := kV252.size
      refine pst 46 gE (#[.int .i64 fe, .int .i64 fp]) h253 (by kernel_rfl) rfl (by kernel_rfl) fun V263 h264 kV263 => ?_
      have h265 := kV263.bO h258
      have h266 := kV263.bO h259
      have K268 := K261.nO kV263
      have z269 := kV263.size
      refine eqr_ [0, 1, 2] <| pkq (pT gE 0) <| ppq (.int .i64 fe) (ldk 26 gE 0 h264) <| ppq (.bool true) (nqt ((fe) : Int) ((0) : Int) (by omega)) <| ey_ <| q_ <| sy_np <| sy_reg <| an_begin 13 4 (opsAt (qc55_0 1004)) (fun W => (W.heap[gE]? = some (.cells (#[.int .i64 fe, .int .i64 fp]) 46 (0, 0)))) #[false, false, false, false] (by kernel_rfl) (by kernel_rfl) (by kernel_rfl) (by kernel_rfl) ?_
      obtain ⟨V270, eV270, kV270⟩ := drew_step V263
      rw [eV270]
      clear eV270
      have h271 := kV270.bk h265
      have h272 := kV270.bk h266
      have h274 := kV270.bk h264
      have K275 := K268.nn kV270
      have z276 := kV270.size
      refine akq 0 (.agg parZ.cells) h274 <| avq 1 (.agg #[.int .i64 fe, .int .i64 fp]) (fun W hS => ldr 46 gE (hS) (by kernel_rfl)) h274 <| an_o 2 <| nst 24 r1 parZ.cells h271 (by kernel_rfl) rfl (by kernel_rfl) fun V277 h278 kV277 => ?_
      have h279 := kV277.bO h272
      have h281 := kV277.bO h274
      have K282 := K275.nO kV277
      have z283 := kV277.size
      refine ⟨h281, ?_⟩
      refine an_o 3 <| nst 46 r2 (#[.int .i64 fe, .int .i64 fp]) h279 (by kernel_rfl) rfl (by kernel_rfl) fun V284 h285 kV284 => ?_
      have h287 := kV284.bO h281
      have h288 := kV284.bO h278
      have K289 := K282.nO kV284
      have z290 := kV284.size
      refine ⟨h287, ?_⟩
      refine an_end (by kernel_rfl) <| then_n <| u_ <| then_r <| sy_out (.tuple #[.agg (parZ.cells), .agg #[.int .i64 fe, .int .i64 fp]]) rfl (results_rows2 (p := 2) (q := 3) (ty := 24) (tz := 46) (by kernel_rfl) _ _ r1 r2 24 46 (parZ.cells) (#[.int .i64 fe, .int .i64 fp]) (0, 0) (0, 0) _ _ (by kernel_rfl) h288 Tryd.underlying24 rfl (by kernel_rfl) (by kernel_rfl) h285 Tryd.underlying46 rfl (by kernel_rfl)) ?_
      exact ⟨by rw [hres], K289⟩
end Go.Proofs.YtpflmldmbpnllaaDoor
namespace Go.Proofs.YtpflmldmbpnllaaDoor
set_option maxRecDepth 100000
set_option maxHeartbeats 4000000
open Go Go.RowKit Go.Own Go.Shelf
section
variable {i j : Nat} {vs : List Int} {r l a : List UInt8} {e : Int}
theorem res_none (hi : i < 11) (hv : vs.length = i) (hp : pgo (11 - i) vs r = pparse l) (hf : feedAt r = none) : pparse l = (parZ, 6, ((i : Nat) : Int)) := by
  have e1 := pgo_none (m := 10 - i) (vs := vs) hf
  rw [hv, show 10 - i + 1 = 11 - i by omega, hp] at e1; exact e1
theorem res_bad (hi : i < 11) (hv : vs.length = i) (hp : pgo (11 - i) vs r = pparse l) (hf : feedAt r = some j) (ha : r.take j = a) (he : perr i vs a = e) (h0 : e ≠ 0) : pparse l = (parZ, e, ((i : Nat) : Int)) := by
  have e1 := pgo_bad (m := 10 - i) (vs := vs) hf (e := e) (by rw [ha, hv]; exact he) h0
  rw [hv, show 10 - i + 1 = 11 - i by omega, hp] at e1; exact e1
theorem res_go (hi : i < 11) (hv : vs.length = i) (hp : pgo (11 - i) vs r = pparse l) (hf : feedAt r = some j) (ha : r.take j = a) (he : perr i vs a = 0) : pgo (11 - (i + 1)) (vs ++ [((pln i a).1 : Int)]) (r.drop (j + 1)) = pparse l := by
  have e1 := pgo_go (m := 10 - i) (vs := vs) hf (by rw [ha, hv]; exact he)
  rw [hv, ha, show 10 - i + 1 = 11 - i by omega, hp] at e1
  rw [show 11 - (i + 1) = 10 - i by omega]; exact e1.symm
theorem res_end (hi : i = 11) (hp : pgo (11 - i) vs r = pparse l) : pparse l = if r = [] then (parOfL vs, 0, 0) else (parZ, 4, 11) := by rw [← hp, hi]; rfl
theorem res_0 (l : List UInt8) : pgo (11 - 0) [] l = pparse l := rfl
theorem parse_cases (i : Nat) (vs : List Int) (r : List UInt8) (hi : i ≤ 11) :
    (i < 11 ∧ feedAt r = none) ∨ (∃ j a, i < 11 ∧ feedAt r = some j ∧ r.take j = a ∧ (pln i a).2 = false) ∨ (∃ j a, i < 11 ∧ feedAt r = some j ∧ r.take j = a ∧ (pln i a).2 = true ∧ ¬ (parLo[i]?.getD 0 ≤ ((pln i a).1 : Int) ∧ ((pln i a).1 : Int) ≤ parHi[i]?.getD 0)) ∨
    (∃ j a, i < 11 ∧ feedAt r = some j ∧ r.take j = a ∧ (pln i a).2 = true ∧ (parLo[i]?.getD 0 ≤ ((pln i a).1 : Int) ∧ ((pln i a).1 : Int) ≤ parHi[i]?.getD 0) ∧ i = 1 ∧ vs[0]?.getD 0 < ((pln i a).1 : Int)) ∨
    (∃ j a, i < 11 ∧ feedAt r = some j ∧ r.take j = a ∧ (pln i a).2 = true ∧ (parLo[i]?.getD 0 ≤ ((pln i a).1 : Int) ∧ ((pln i a).1 : Int) ≤ parHi[i]?.getD 0) ∧ i = 1 ∧ ¬ vs[0]?.getD 0 < ((pln i a).1 : Int)) ∨
    (∃ j a, i < 11 ∧ feedAt r = some j ∧ r.take j = a ∧ (pln i a).2 = true ∧ (parLo[i]?.getD 0 ≤ ((pln i a).1 : Int) ∧ ((pln i a).1 : Int) ≤ parHi[i]?.getD 0) ∧ i ≠ 1) ∨ (i = 11 ∧ r = []) ∨ (i = 11 ∧ r ≠ []) := by
  by_cases h : i < 11
  · cases hf : feedAt r with
    | none => exact .inl ⟨h, rfl⟩
    | some j =>
      refine .inr ?_
      cases h2 : (pln i (r.take j)).2 with
      | false => exact .inl ⟨j, _, h, rfl, rfl, h2⟩
      | true =>
        refine .inr ?_
        by_cases h3 : parLo[i]?.getD 0 ≤ ((pln i (r.take j)).1 : Int) ∧ ((pln i (r.take j)).1 : Int) ≤ parHi[i]?.getD 0
        · refine .inr ?_
          by_cases h4 : i = 1
          · by_cases hlt5 : vs[0]?.getD 0 < ((pln i (r.take j)).1 : Int)
            · exact .inl ⟨j, _, h, rfl, rfl, h2, h3, h4, hlt5⟩
            · exact .inr (.inl ⟨j, _, h, rfl, rfl, h2, h3, h4, hlt5⟩)
          · exact .inr (.inr (.inl ⟨j, _, h, rfl, rfl, h2, h3, h4⟩))
        · exact .inl ⟨j, _, h, rfl, rfl, h2, h3⟩
  · by_cases h2 : r = []
    · exact .inr (.inr (.inr (.inr (.inr (.inr (.inl ⟨by omega, h2⟩))))))
    · exact .inr (.inr (.inr (.inr (.inr (.inr (.inr ⟨by omega, h2⟩))))))
theorem feed_is {r : List UInt8} {x : Int} (w : World) (hl : r.length ≤ 100000000) (h : feedV r = x) : Calls Tryd.prog 52 #[.string ⟨r.toArray⟩] w (fun e w' => e = .returned (.int .i64 x) ∧ Keeps Nob w w') := h ▸ r7feed_ok r w hl
theorem line_is {i : Nat} {a : List UInt8} {b : Bool} (w : World) (hi : i < 11) (h : (pln i a).2 = b) : Calls Tryd.prog 53 #[.int .i64 ((i : Nat) : Int), .string ⟨a.toArray⟩] w (fun e w' => e = .returned (.tuple #[.int .i64 (((pln i a).1 : Nat) : Int), .bool b]) ∧ Keeps Nob w w') := h ▸ r7line_ok i a w hi
theorem I_snoc (vs : List Int) (n : Int) : I vs ++ [.int .i64 n] = I (vs ++ [n]) := by simp [I]
end
theorem within7_is {i : Nat} {n : Int} {b : Bool} (w : World) (hi : i < 11) (h : decide (parLo[i]?.getD 0 ≤ n ∧ n ≤ parHi[i]?.getD 0) = b) : Calls Tryd.prog 39 #[.int .i64 ((i : Nat) : Int), .int .i64 n] w (fun e w' => e = .returned (.bool b) ∧ Keeps Nob w w') := h ▸ r7within_ok i n w hi
theorem all_snoc {vs : List Int} {n : Int} (h : ∀ n ∈ vs, 0 ≤ n ∧ n ≤ 1000000000) (hn : 0 ≤ n ∧ n ≤ 1000000000) : ∀ m ∈ vs ++ [n], 0 ≤ m ∧ m ≤ 1000000000 := fun m hm => by
  rcases List.mem_append.1 hm with h1 | h1
  · exact h m h1
  · rw [List.mem_singleton.1 h1]; exact hn
theorem nn_of {i : Nat} {n : Nat} (hi : i < 11) (h : parLo[i]?.getD 0 ≤ ((n : Nat) : Int) ∧ ((n : Nat) : Int) ≤ parHi[i]?.getD 0) : 0 ≤ ((n : Nat) : Int) ∧ ((n : Nat) : Int) ≤ 1000000000 := by
  have := parHi_le i
  omega
noncomputable def qc56_0 (n : Nat) : Code := partOf Tryd.f27 n
noncomputable abbrev qo56_0 (n k : Nat) : Oper := (opsAt (qc56_0 n)).getD k default
theorem r7Parse_ok (l : List UInt8) (w : World) (hl : l.length ≤ 100000000) :
    Calls Tryd.prog 27 #[.string ⟨l.toArray⟩] w (fun e w' => e = .returned (.tuple #[.agg (pparse l).1.cells, .agg #[.int .i64 (pparse l).2.1, .int .i64 (pparse l).2.2]]) ∧ Keeps Nob w w') := by
  obtain ⟨i0, hi0, hz0, hz1, hz2⟩ := info_parts int_info0
  have hrow0 : Row w 3 1 (.slice none 0 0) 0 (I []) := World.ownsRow_nil _ _ _ _
  have K0 : Keeps Nob w w := Keeps.refl _ _
  refine sy_enter (qc56_0 1) ⟨#[.string ⟨l.toArray⟩, ud, ud, ud, ud, ud, ud, ud, ud, ud, ud, ud, ud, ud, ud, ud, ud, ud, ud, ud, ud, ud, ud, ud, ud, ud, ud, ud, ud, ud, ud, ud, ud, ud, ud, ud, ud, ud, ud, ud, ud, ud, ud, ud, ud, ud, ud, ud, ud, ud, ud, ud, ud, ud, ud, ud, ud, ud, ud, ud, ud, ud, ud, ud, ud, ud, ud, ud, ud, ud, ud], []⟩ Tryd.func27 (by kernel_rfl) (by kernel_rfl) <| qr_ [0, 1] <| pal 24 (#[.int .i64 0, .int .i64 0, .int .i64 0, .int .i64 0, .int .i64 0, .int .i64 0, .int .i64 0, .int .u64 0, .int .u64 0, .int .i64 0, .int .u64 0]) (.agg (#[.int .i64 0, .int .i64 0, .int .i64 0, .int .i64 0, .int .i64 0, .int .i64 0, .int .i64 0, .int .u64 0, .int .u64 0, .int .i64 0, .int .u64 0])) fun V1 r1 er1 h2 kV1 => ?_
  have n3 : w.heap.size ≤ r1 := er1 ▸ K0.size
  have h4 : Row V1 3 1 (.slice none 0 0) 0 (I []) := hrow0.keeps kV1 (fun j hj _ => by cases hj)
  have K5 := K0.nn kV1
  have z6 := kV1.size
  refine pal 46 (#[.int .i64 0, .int .i64 0]) (.agg (#[.int .i64 0, .int .i64 0])) fun V7 r2 er2 h8 kV7 => ?_
  have n9 : r1 < r2 := er2 ▸ lt_of_block h2
  have n10 : w.heap.size ≤ r2 := er2 ▸ K5.size
  have h11 : Row V7 3 1 (.slice none 0 0) 0 (I []) := h4.keeps kV7 (fun j hj _ => by cases hj)
  have h12 := kV7.bk h2
  have K13 := K5.nn kV7
  have z14 := kV7.size
  refine eqr_ [0] <| pkq (.slice none 0 0) <| eq_ <| qr_ [0] <| pkq (.int .i64 0) <| et_ <| b_ 0 ?_
  refine sy_loop (qc56_0 116) (fun a V => ∃ (i : Nat) (r : List UInt8) (vs : List Int) (v : Value) (u6 u7 u8 u9 u10 u11 u12 u13 u14 u15 u16 u17 u18 u19 u20 u21 u22 u23 u24 u25 u26 u27 u28 u29 u30 u31 u32 u33 u34 u35 u36 u37 u38 u39 u40 u41 u42 u43 u44 u45 u46 u47 u48 u49 u50 u51 u52 u53 u54 u55 u56 u57 u58 u59 u60 u61 u62 : Value), (a = ⟨#[.string ⟨r.toArray⟩, ud, pT r1 0, pT r2 0, v, iN i, u6, u7, u8, u9, u10, u11, u12, u13, u14, u15, u16, u17, u18, u19, u20, u21, u22, u23, u24, u25, u26, u27, u28, u29, u30, u31, u32, u33, u34, u35, u36, u37, u38, u39, u40, u41, u42, u43, u44, u45, u46, u47, u48, u49, u50, u51, u52, u53, u54, u55, u56, u57, u58, u59, u60, u61, u62, ud, ud, ud, ud, ud, ud, ud, ud], []⟩) ∧ (i ≤ 11) ∧ (vs.length = i) ∧ (pgo (11 - i) vs r = pparse l) ∧ (r.length ≤ 100000000) ∧ (∀ n ∈ vs, 0 ≤ n ∧ n ≤ 1000000000) ∧ (Row V 3 1 v i (I vs)) ∧ (V.heap[r1]? = some (.cells (#[.int .i64 0, .int .i64 0, .int .i64 0, .int .i64 0, .int .i64 0, .int .i64 0, .int .i64 0, .int .u64 0, .int .u64 0, .int .i64 0, .int .u64 0]) 24 (0, 0))) ∧ (V.heap[r2]? = some (.cells (#[.int .i64 0, .int .i64 0]) 46 (0, 0))) ∧ (Keeps Nob w V) ∧ (NewFrom w.heap.size v)) (fun a _ => 11 - (intOf (a.tmps.getD 5 undef)).toNat) (by kernel_rfl) ?_ ?_
  · exact ⟨0, l, [], .slice none 0 0, undef, undef, undef, undef, undef, undef, undef, undef, undef, undef, undef, undef, undef, undef, undef, undef, undef, undef, undef, undef, undef, undef, undef, undef, undef, undef, undef, undef, undef, undef, undef, undef, undef, undef, undef, undef, undef, undef, undef, undef, undef, undef, undef, undef, undef, undef, undef, undef, undef, undef, undef, undef, undef, undef, undef, undef, undef, by kernel_rfl, by omega, rfl, res_0 l, hl, (fun n hn => by cases hn), h11, h12, h8, K13, (NewFrom.nil _)⟩
  · rintro a V15 ⟨i, r, vs, v, u6, u7, u8, u9, u10, u11, u12, u13, u14, u15, u16, u17, u18, u19, u20, u21, u22, u23, u24, u25, u26, u27, u28, u29, u30, u31, u32, u33, u34, u35, u36, u37, u38, u39, u40, u41, u42, u43, u44, u45, u46, u47, u48, u49, u50, u51, u52, u53, u54, u55, u56, u57, u58, u59, u60, u61, u62, rfl, hi, hv, hp, hr, hall, h16, h17, h18, K19, hnw⟩
    rcases parse_cases i vs r hi with ⟨hi2, hf⟩ | ⟨j, a, hi2, hf, ha, hln⟩ | ⟨j, a, hi2, hf, ha, hln, hrg⟩ | ⟨j, a, hi2, hf, ha, hln, hrg, hi1, hlt5⟩ | ⟨j, a, hi2, hf, ha, hln, hrg, hi1, hlt5⟩ | ⟨j, a, hi2, hf, ha, hln, hrg, hi1⟩ | ⟨eq_i, hr0⟩ | ⟨eq_i, hr0⟩
    · skip
      have hres := res_none hi2 hv hp hf
      refine q_ <| qr_ [0, 1] <| pkq (iN i) <| ppq (.bool true) (dct ((((i : Nat) : Int)) < ((11) : Int)) (by omega)) <| ey_ <| s_ <| tq_ <| b_ 1 <| qr_ [0, 1, 2] <| pkq (.string ⟨r.toArray⟩) ?_
      refine pcq 52 #[.string ⟨r.toArray⟩] Tryd.func52 ((feed_is _ hr (by rw [feedV, hf])).mono ?_)
      rintro e V20 ⟨rfl, kV20⟩
      refine ⟨_, rfl, ?_⟩
      have h22 := kV20.bk h17
      have h23 := kV20.bk h18
      have K24 := K19.nn kV20
      have z25 := kV20.size
      refine pkq (.int .i64 (-1)) <| eq_ <| qr_ [0, 1] <| pkq (.int .i64 (-1)) <| ppq (.bool true) (dct (((-1) : Int) < ((0) : Int)) (by omega)) <| ey_ <| qr_ [0, 1, 2, 3, 4] <| pkq (.agg parZ.cells) <| pkq (iN i) <| pkq (.agg #[.int .i64 6, iN i]) <| pst 24 r1 parZ.cells h22 (by kernel_rfl) rfl (by kernel_rfl) fun V26 h27 kV26 => ?_
      have h29 := kV26.bO h23
      have K30 := K24.nO kV26
      have z31 := kV26.size
      obtain ⟨V32, eV32, kV32⟩ := rowset_step V26 r2 (#[.int .i64 6, .int .i64 ((i : Nat) : Int)])
      have h33 : V32.heap[r2]? = some (.cells (#[.int .i64 6, .int .i64 ((i : Nat) : Int)]) 46 (0, 0)) := eV32 ▸ setRow_heap _ _ _ _ _ _ h29
      refine pzq (w' := V32) (by rw [← eV32]; exact exec_store_row 46 (.tmp 3) (.tmp 19) (by kernel_rfl) r2 (#[.int .i64 6, iN i]) (by kernel_rfl) (by kernel_rfl) 46 (#[.int .i64 0, .int .i64 0]) h29 (by kernel_rfl) rfl (by kernel_rfl)) ?_
      clear eV32
      have h35 := kV32.bO h27
      have K36 := K30.nO kV32
      have z37 := kV32.size
      refine eu_ <| then_r <| blk_r <| then_r <| then_r <| blk_r <| then_r <| sy_out (.tuple #[.agg (parZ.cells), .agg #[.int .i64 6, .int .i64 ((i : Nat) : Int)]]) rfl (results_rows2 (p := 2) (q := 3) (ty := 24) (tz := 46) (by kernel_rfl) _ _ r1 r2 24 46 (parZ.cells) (#[.int .i64 6, .int .i64 ((i : Nat) : Int)]) (0, 0) (0, 0) _ _ (by kernel_rfl) h35 Tryd.underlying24 rfl (by kernel_rfl) (by kernel_rfl) h33 Tryd.underlying46 rfl (by kernel_rfl)) ?_
      exact ⟨by rw [hres], K36⟩
    · skip
      skip
      have hjl := feedAt_lt _ _ hf
      have hnl := pln_lt i a
      obtain ⟨rr, hrr⟩ : ∃ x, r.drop (j + 1) = x := ⟨_, rfl⟩
      have hres := res_bad hi2 hv hp hf ha (perr_bad (by rw [rerr_form hln]; decide)) (by rw [rerr_form hln]; decide)
      rw [rerr_form hln] at hres
      refine q_ <| qr_ [0, 1] <| pkq (iN i) <| ppq (.bool true) (dct ((((i : Nat) : Int)) < ((11) : Int)) (by omega)) <| ey_ <| s_ <| tq_ <| b_ 1 <| qr_ [0, 1, 2] <| pkq (.string ⟨r.toArray⟩) ?_
      refine pcq 52 #[.string ⟨r.toArray⟩] Tryd.func52 ((feed_is _ hr (by rw [feedV, hf])).mono ?_)
      rintro e V38 ⟨rfl, kV38⟩
      refine ⟨_, rfl, ?_⟩
      have h40 := kV38.bk h17
      have h41 := kV38.bk h18
      have K42 := K19.nn kV38
      have z43 := kV38.size
      refine pkq (iN j) <| eq_ <| qr_ [0, 1] <| pkq (iN j) <| ppq (.bool false) (dcf ((((j : Nat) : Int)) < ((0) : Int)) (by omega)) <| en_ <| s_ <| tqr_ [0, 1, 2, 3, 4, 5, 6, 7, 8, 9] <| pkq (iN i) <| pkq (.string ⟨r.toArray⟩) <| pkq (iN j) <| ppq (.string ⟨a.toArray⟩) (exec_cast (congrArg (fun l : List UInt8 => Value.string ⟨l.toArray⟩) ha) (exec_slice_to 9 (.tmp 22) (.tmp 23) (by kernel_rfl) r (by kernel_rfl) .i64 j (by kernel_rfl) Tryd.underlying9 (by omega))) ?_
      refine pcq 53 #[iN i, .string ⟨a.toArray⟩] Tryd.func53 ((line_is _ hi2 hln).mono ?_)
      rintro e V44 ⟨rfl, kV44⟩
      refine ⟨_, rfl, ?_⟩
      have h46 := kV44.bk h40
      have h47 := kV44.bk h41
      have K48 := K42.nn kV44
      have z49 := kV44.size
      refine pkq (.tuple #[iN ((pln i a).1), .bool false]) <| pkq (iN ((pln i a).1)) <| pkq (.bool false) <| pkq (iN ((pln i a).1)) <| pkq (.bool false) <| eqr_ [0, 1, 2, 3, 4] <| pkq (.string ⟨r.toArray⟩) <| pkq (iN j) <| ppq (iN (j + 1)) (exec_cast (congrArg (Value.int .i64) (wrapN (j + 1) (by omega))) (by kernel_rfl)) <| ppq (.string ⟨rr.toArray⟩) (exec_cast (congrArg (fun l : List UInt8 => Value.string ⟨l.toArray⟩) hrr) (exec_slice_from 9 (.tmp 28) (.tmp 30) (by kernel_rfl) r (by kernel_rfl) .i64 (j + 1) (by kernel_rfl) Tryd.underlying9 (by omega))) <| pkq (.string ⟨rr.toArray⟩) <| eq_ <| b_ 2 <| qr_ [0, 1, 2] ?_
      refine pkq (.bool false) <| pkq (.bool true) <| pkq (.bool true) <| ps_end <| sy_a ⟨#[.string ⟨rr.toArray⟩, ud, pT r1 0, pT r2 0, v, iN i, iN j, iN ((pln i a).1), .bool false, iN i, .bool true, u11, u12, .string ⟨r.toArray⟩, iN j, iN j, .bool false, u17, u18, u19, .tuple #[iN ((pln i a).1), .bool false], iN i, .string ⟨r.toArray⟩, iN j, .string ⟨a.toArray⟩, .tuple #[iN ((pln i a).1), .bool false], iN ((pln i a).1), .bool false, .string ⟨r.toArray⟩, iN j, iN (j + 1), .string ⟨rr.toArray⟩, .bool true, .bool false, .bool true, u35, u36, u37, u38, u39, u40, u41, u42, u43, u44, u45, u46, u47, u48, u49, u50, u51, u52, u53, u54, u55, u56, u57, u58, u59, u60, u61, u62, ud, ud, ud, ud, ud, ud, ud, ud], []⟩ <| then_n <| y_ <| qr_ [0, 1, 2, 3, 4] <| pkq (.agg parZ.cells) <| pkq (iN i) <| pkq (.agg #[.int .i64 5, iN i]) <| pst 24 r1 parZ.cells h46 (by kernel_rfl) rfl (by kernel_rfl) fun V50 h51 kV50 => ?_
      have h53 := kV50.bO h47
      have K54 := K48.nO kV50
      have z55 := kV50.size
      obtain ⟨V56, eV56, kV56⟩ := rowset_step V50 r2 (#[.int .i64 5, .int .i64 ((i : Nat) : Int)])
      have h57 : V56.heap[r2]? = some (.cells (#[.int .i64 5, .int .i64 ((i : Nat) : Int)]) 46 (0, 0)) := eV56 ▸ setRow_heap _ _ _ _ _ _ h53
      refine pzq (w' := V56) (by rw [← eV56]; exact exec_store_row 46 (.tmp 3) (.tmp 37) (by kernel_rfl) r2 (#[.int .i64 5, iN i]) (by kernel_rfl) (by kernel_rfl) 46 (#[.int .i64 0, .int .i64 0]) h53 (by kernel_rfl) rfl (by kernel_rfl)) ?_
      clear eV56
      have h59 := kV56.bO h51
      have K60 := K54.nO kV56
      have z61 := kV56.size
      refine eu_ <| blk_r <| then_r <| blk_r <| then_r <| then_r <| blk_r <| then_r <| sy_out (.tuple #[.agg (parZ.cells), .agg #[.int .i64 5, .int .i64 ((i : Nat) : Int)]]) rfl (results_rows2 (p := 2) (q := 3) (ty := 24) (tz := 46) (by kernel_rfl) _ _ r1 r2 24 46 (parZ.cells) (#[.int .i64 5, .int .i64 ((i : Nat) : Int)]) (0, 0) (0, 0) _ _ (by kernel_rfl) h59 Tryd.underlying24 rfl (by kernel_rfl) (by kernel_rfl) h57 Tryd.underlying46 rfl (by kernel_rfl)) ?_
      exact ⟨by rw [hres], K60⟩
    · skip
      skip
      have hjl := feedAt_lt _ _ hf
      have hnl := pln_lt i a
      obtain ⟨rr, hrr⟩ : ∃ x, r.drop (j + 1) = x := ⟨_, rfl⟩
      have hwi := decide_eq_false hrg
      have hres := res_bad hi2 hv hp hf ha (perr_bad (by rw [rerr_range hln hrg]; decide)) (by rw [rerr_range hln hrg]; decide)
      rw [rerr_range hln hrg] at hres
      refine q_ <| qr_ [0, 1] <| pkq (iN i) <| ppq (.bool true) (dct ((((i : Nat) : Int)) < ((11) : Int)) (by omega)) <| ey_ <| s_ <| tq_ <| b_ 1 <| qr_ [0, 1, 2] <| pkq (.string ⟨r.toArray⟩) ?_
      refine pcq 52 #[.string ⟨r.toArray⟩] Tryd.func52 ((feed_is _ hr (by rw [feedV, hf])).mono ?_)
      rintro e V62 ⟨rfl, kV62⟩
      refine ⟨_, rfl, ?_⟩
      have h64 := kV62.bk h17
      have h65 := kV62.bk h18
      have K66 := K19.nn kV62
      have z67 := kV62.size
      refine pkq (iN j) <| eq_ <| qr_ [0, 1] <| pkq (iN j) <| ppq (.bool false) (dcf ((((j : Nat) : Int)) < ((0) : Int)) (by omega)) <| en_ <| s_ <| tqr_ [0, 1, 2, 3, 4, 5, 6, 7, 8, 9] <| pkq (iN i) <| pkq (.string ⟨r.toArray⟩) <| pkq (iN j) <| ppq (.string ⟨a.toArray⟩) (exec_cast (congrArg (fun l : List UInt8 => Value.string ⟨l.toArray⟩) ha) (exec_slice_to 9 (.tmp 22) (.tmp 23) (by kernel_rfl) r (by kernel_rfl) .i64 j (by kernel_rfl) Tryd.underlying9 (by omega))) ?_
      refine pcq 53 #[iN i, .string ⟨a.toArray⟩] Tryd.func53 ((line_is _ hi2 hln).mono ?_)
      rintro e V68 ⟨rfl, kV68⟩
      refine ⟨_, rfl, ?_⟩
      have h70 := kV68.bk h64
      have h71 := kV68.bk h65
      have K72 := K66.nn kV68
      have z73 := kV68.size
      refine pkq (.tuple #[iN ((pln i a).1), .bool true]) <| pkq (iN ((pln i a).1)) <| pkq (.bool true) <| pkq (iN ((pln i a).1)) <| pkq (.bool true) <| eqr_ [0, 1, 2, 3, 4] <| pkq (.string ⟨r.toArray⟩) <| pkq (iN j) <| ppq (iN (j + 1)) (exec_cast (congrArg (Value.int .i64) (wrapN (j + 1) (by omega))) (by kernel_rfl)) <| ppq (.string ⟨rr.toArray⟩) (exec_cast (congrArg (fun l : List UInt8 => Value.string ⟨l.toArray⟩) hrr) (exec_slice_from 9 (.tmp 28) (.tmp 30) (by kernel_rfl) r (by kernel_rfl) .i64 (j + 1) (by kernel_rfl) Tryd.underlying9 (by omega))) <| pkq (.string ⟨rr.toArray⟩) <| eq_ <| b_ 2 <| qr_ [0, 1, 2] ?_
      refine pkq (.bool true) <| pkq (.bool false) <| pkq (.bool false) <| ps_end <| sy_a ⟨#[.string ⟨rr.toArray⟩, ud, pT r1 0, pT r2 0, v, iN i, iN j, iN ((pln i a).1), .bool true, iN i, .bool true, u11, u12, .string ⟨r.toArray⟩, iN j, iN j, .bool false, u17, u18, u19, .tuple #[iN ((pln i a).1), .bool true], iN i, .string ⟨r.toArray⟩, iN j, .string ⟨a.toArray⟩, .tuple #[iN ((pln i a).1), .bool true], iN ((pln i a).1), .bool true, .string ⟨r.toArray⟩, iN j, iN (j + 1), .string ⟨rr.toArray⟩, .bool false, .bool true, .bool false, u35, u36, u37, u38, u39, u40, u41, u42, u43, u44, u45, u46, u47, u48, u49, u50, u51, u52, u53, u54, u55, u56, u57, u58, u59, u60, u61, u62, ud, ud, ud, ud, ud, ud, ud, ud], []⟩ <| then_n <| n_ <| qr_ [0, 1, 2, 3, 4] <| pkq (iN i) <| pkq (iN ((pln i a).1)) ?_
      refine pcq 39 #[iN i, iN ((pln i a).1)] Tryd.func39 ((within7_is _ hi2 hwi).mono ?_)
      rintro e V74 ⟨rfl, kV74⟩
      refine ⟨_, rfl, ?_⟩
      have h76 := kV74.bk h70
      have h77 := kV74.bk h71
      have K78 := K72.nn kV74
      have z79 := kV74.size
      refine pkq (.bool true) <| pkq (.bool true) <| ey_ <| qr_ [0, 1, 2, 3, 4] <| pkq (.agg parZ.cells) <| pkq (iN i) <| pkq (.agg #[.int .i64 3, iN i]) <| pst 24 r1 parZ.cells h76 (by kernel_rfl) rfl (by kernel_rfl) fun V80 h81 kV80 => ?_
      have h83 := kV80.bO h77
      have K84 := K78.nO kV80
      have z85 := kV80.size
      obtain ⟨V86, eV86, kV86⟩ := rowset_step V80 r2 (#[.int .i64 3, .int .i64 ((i : Nat) : Int)])
      have h87 : V86.heap[r2]? = some (.cells (#[.int .i64 3, .int .i64 ((i : Nat) : Int)]) 46 (0, 0)) := eV86 ▸ setRow_heap _ _ _ _ _ _ h83
      refine pzq (w' := V86) (by rw [← eV86]; exact exec_store_row 46 (.tmp 3) (.tmp 45) (by kernel_rfl) r2 (#[.int .i64 3, iN i]) (by kernel_rfl) (by kernel_rfl) 46 (#[.int .i64 0, .int .i64 0]) h83 (by kernel_rfl) rfl (by kernel_rfl)) ?_
      clear eV86
      have h89 := kV86.bO h81
      have K90 := K84.nO kV86
      have z91 := kV86.size
      refine eu_ <| blk_r <| then_r <| blk_r <| then_r <| then_r <| blk_r <| then_r <| sy_out (.tuple #[.agg (parZ.cells), .agg #[.int .i64 3, .int .i64 ((i : Nat) : Int)]]) rfl (results_rows2 (p := 2) (q := 3) (ty := 24) (tz := 46) (by kernel_rfl) _ _ r1 r2 24 46 (parZ.cells) (#[.int .i64 3, .int .i64 ((i : Nat) : Int)]) (0, 0) (0, 0) _ _ (by kernel_rfl) h89 Tryd.underlying24 rfl (by kernel_rfl) (by kernel_rfl) h87 Tryd.underlying46 rfl (by kernel_rfl)) ?_
      exact ⟨by rw [hres], K90⟩
    · skip
      skip
      have hjl := feedAt_lt _ _ hf
      have hnl := pln_lt i a
      obtain ⟨rr, hrr⟩ : ∃ x, r.drop (j + 1) = x := ⟨_, rfl⟩
      have hwi := decide_eq_true hrg
      have hres := res_bad hi2 hv hp hf ha (perr_ord (rerr_fine hln hrg) ⟨hi1, hlt5⟩) (by decide)
      obtain ⟨gv, capv, rfl, hgv⟩ := Row.spell h16 (by omega)
      obtain ⟨u0, hu1⟩ : ∃ u, vs[0]?.getD 0 = u := ⟨_, rfl⟩
      have hu0 : (I vs)[0]? = some (.int .i64 u0) := by rw [← hu1]; simp [I, List.getElem?_eq_getElem (show 0 < vs.length by omega)]
      rw [hu1] at hlt5
      refine q_ <| qr_ [0, 1] <| pkq (iN i) <| ppq (.bool true) (dct ((((i : Nat) : Int)) < ((11) : Int)) (by omega)) <| ey_ <| s_ <| tq_ <| b_ 1 <| qr_ [0, 1, 2] <| pkq (.string ⟨r.toArray⟩) ?_
      refine pcq 52 #[.string ⟨r.toArray⟩] Tryd.func52 ((feed_is _ hr (by rw [feedV, hf])).mono ?_)
      rintro e V92 ⟨rfl, kV92⟩
      refine ⟨_, rfl, ?_⟩
      have h93 : Row V92 3 1 (.slice (some ⟨gv, 0, none⟩) i capv) i (I vs) := h16.keeps kV92 (fun _ _ x => x)
      have h94 := kV92.bk h17
      have h95 := kV92.bk h18
      have K96 := K19.nn kV92
      have z97 := kV92.size
      refine pkq (iN j) <| eq_ <| qr_ [0, 1] <| pkq (iN j) <| ppq (.bool false) (dcf ((((j : Nat) : Int)) < ((0) : Int)) (by omega)) <| en_ <| s_ <| tqr_ [0, 1, 2, 3, 4, 5, 6, 7, 8, 9] <| pkq (iN i) <| pkq (.string ⟨r.toArray⟩) <| pkq (iN j) <| ppq (.string ⟨a.toArray⟩) (exec_cast (congrArg (fun l : List UInt8 => Value.string ⟨l.toArray⟩) ha) (exec_slice_to 9 (.tmp 22) (.tmp 23) (by kernel_rfl) r (by kernel_rfl) .i64 j (by kernel_rfl) Tryd.underlying9 (by omega))) ?_
      refine pcq 53 #[iN i, .string ⟨a.toArray⟩] Tryd.func53 ((line_is _ hi2 hln).mono ?_)
      rintro e V98 ⟨rfl, kV98⟩
      refine ⟨_, rfl, ?_⟩
      have h99 : Row V98 3 1 (.slice (some ⟨gv, 0, none⟩) i capv) i (I vs) := h93.keeps kV98 (fun _ _ x => x)
      have h100 := kV98.bk h94
      have h101 := kV98.bk h95
      have K102 := K96.nn kV98
      have z103 := kV98.size
      refine pkq (.tuple #[iN ((pln i a).1), .bool true]) <| pkq (iN ((pln i a).1)) <| pkq (.bool true) <| pkq (iN ((pln i a).1)) <| pkq (.bool true) <| eqr_ [0, 1, 2, 3, 4] <| pkq (.string ⟨r.toArray⟩) <| pkq (iN j) <| ppq (iN (j + 1)) (exec_cast (congrArg (Value.int .i64) (wrapN (j + 1) (by omega))) (by kernel_rfl)) <| ppq (.string ⟨rr.toArray⟩) (exec_cast (congrArg (fun l : List UInt8 => Value.string ⟨l.toArray⟩) hrr) (exec_slice_from 9 (.tmp 28) (.tmp 30) (by kernel_rfl) r (by kernel_rfl) .i64 (j + 1) (by kernel_rfl) Tryd.underlying9 (by omega))) <| pkq (.string ⟨rr.toArray⟩) <| eq_ <| b_ 2 <| qr_ [0, 1, 2] ?_
      refine pkq (.bool true) <| pkq (.bool false) <| pkq (.bool false) <| ps_end <| sy_a ⟨#[.string ⟨rr.toArray⟩, ud, pT r1 0, pT r2 0, .slice (some ⟨gv, 0, none⟩) i capv, iN i, iN j, iN ((pln i a).1), .bool true, iN i, .bool true, u11, u12, .string ⟨r.toArray⟩, iN j, iN j, .bool false, u17, u18, u19, .tuple #[iN ((pln i a).1), .bool true], iN i, .string ⟨r.toArray⟩, iN j, .string ⟨a.toArray⟩, .tuple #[iN ((pln i a).1), .bool true], iN ((pln i a).1), .bool true, .string ⟨r.toArray⟩, iN j, iN (j + 1), .string ⟨rr.toArray⟩, .bool false, .bool true, .bool false, u35, u36, u37, u38, u39, u40, u41, u42, u43, u44, u45, u46, u47, u48, u49, u50, u51, u52, u53, u54, u55, u56, u57, u58, u59, u60, u61, u62, ud, ud, ud, ud, ud, ud, ud, ud], []⟩ <| then_n <| n_ <| qr_ [0, 1, 2, 3, 4] <| pkq (iN i) <| pkq (iN ((pln i a).1)) ?_
      refine pcq 39 #[iN i, iN ((pln i a).1)] Tryd.func39 ((within7_is _ hi2 hwi).mono ?_)
      rintro e V104 ⟨rfl, kV104⟩
      refine ⟨_, rfl, ?_⟩
      have h105 : Row V104 3 1 (.slice (some ⟨gv, 0, none⟩) i capv) i (I vs) := h99.keeps kV104 (fun _ _ x => x)
      have h106 := kV104.bk h100
      have h107 := kV104.bk h101
      have K108 := K102.nn kV104
      have z109 := kV104.size
      refine pkq (.bool false) <| pkq (.bool false) <| en_ <| qr_ [0, 1, 2, 3, 4, 5, 6, 7, 8, 9] <| pkq (iN i) <| ppq (.bool true) (eqt (((i : Nat) : Int)) ((1) : Int) (by omega)) <| pkq (.bool true) <| pkq (iN ((pln i a).1)) <| pkq (.slice (some ⟨gv, 0, none⟩) i capv) <| ppq (pT gv 0) (exec_indexAt_slice 55 (.tmp 51) (.const (.int .i64 0)) (by kernel_rfl) gv 0 i capv (by kernel_rfl) .i64 0 (by kernel_rfl) _ 1 Tryd.underlying55 (by kernel_rfl) (by omega)) <| ppq (.int .i64 u0) (ldc 3 gv 0 (row_cells h105 0 _ hu0)) <| ppq (.bool true) (dct (((((pln i a).1 : Nat) : Int)) > ((u0) : Int)) (by omega)) <| pkq (.bool true) <| pkq (.bool true) ?_
      refine ey_ <| qr_ [0, 1, 2, 3, 4] <| pkq (.agg parZ.cells) <| pkq (iN i) <| pkq (.agg #[.int .i64 9, iN i]) <| pst 24 r1 parZ.cells h106 (by kernel_rfl) rfl (by kernel_rfl) fun V110 h111 kV110 => ?_
      have h113 := kV110.bO h107
      have K114 := K108.nO kV110
      have z115 := kV110.size
      obtain ⟨V116, eV116, kV116⟩ := rowset_step V110 r2 (#[.int .i64 9, .int .i64 ((i : Nat) : Int)])
      have h117 : V116.heap[r2]? = some (.cells (#[.int .i64 9, .int .i64 ((i : Nat) : Int)]) 46 (0, 0)) := eV116 ▸ setRow_heap _ _ _ _ _ _ h113
      refine pzq (w' := V116) (by rw [← eV116]; exact exec_store_row 46 (.tmp 3) (.tmp 58) (by kernel_rfl) r2 (#[.int .i64 9, iN i]) (by kernel_rfl) (by kernel_rfl) 46 (#[.int .i64 0, .int .i64 0]) h113 (by kernel_rfl) rfl (by kernel_rfl)) ?_
      clear eV116
      have h119 := kV116.bO h111
      have K120 := K114.nO kV116
      have z121 := kV116.size
      refine eu_ <| blk_r <| then_r <| blk_r <| then_r <| then_r <| blk_r <| then_r <| sy_out (.tuple #[.agg (parZ.cells), .agg #[.int .i64 9, .int .i64 ((i : Nat) : Int)]]) rfl (results_rows2 (p := 2) (q := 3) (ty := 24) (tz := 46) (by kernel_rfl) _ _ r1 r2 24 46 (parZ.cells) (#[.int .i64 9, .int .i64 ((i : Nat) : Int)]) (0, 0) (0, 0) _ _ (by kernel_rfl) h119 Tryd.underlying24 rfl (by kernel_rfl) (by kernel_rfl) h117 Tryd.underlying46 rfl (by kernel_rfl)) ?_
      exact ⟨by rw [hres], K120⟩
    · skip
      skip
      have hjl := feedAt_lt _ _ hf
      have hnl := pln_lt i a
      obtain ⟨rr, hrr⟩ : ∃ x, r.drop (j + 1) = x := ⟨_, rfl⟩
      have hwi := decide_eq_true hrg
      have hpe : perr i vs a = 0 := perr_ok (rerr_fine hln hrg) (fun x => hlt5 x.2)
      have hnn := nn_of hi2 hrg
      obtain ⟨gv, capv, rfl, hgv⟩ := Row.spell h16 (by omega)
      obtain ⟨u0, hu1⟩ : ∃ u, vs[0]?.getD 0 = u := ⟨_, rfl⟩
      have hu0 : (I vs)[0]? = some (.int .i64 u0) := by rw [← hu1]; simp [I, List.getElem?_eq_getElem (show 0 < vs.length by omega)]
      rw [hu1] at hlt5
      refine q_ <| qr_ [0, 1] <| pkq (iN i) <| ppq (.bool true) (dct ((((i : Nat) : Int)) < ((11) : Int)) (by omega)) <| ey_ <| s_ <| tq_ <| b_ 1 <| qr_ [0, 1, 2] <| pkq (.string ⟨r.toArray⟩) ?_
      refine pcq 52 #[.string ⟨r.toArray⟩] Tryd.func52 ((feed_is _ hr (by rw [feedV, hf])).mono ?_)
      rintro e V122 ⟨rfl, kV122⟩
      refine ⟨_, rfl, ?_⟩
      have h123 : Row V122 3 1 (.slice (some ⟨gv, 0, none⟩) i capv) i (I vs) := h16.keeps kV122 (fun _ _ x => x)
      have h124 := kV122.bk h17
      have h125 := kV122.bk h18
      have K126 := K19.nn kV122
      have z127 := kV122.size
      refine pkq (iN j) <| eq_ <| qr_ [0, 1] <| pkq (iN j) <| ppq (.bool false) (dcf ((((j : Nat) : Int)) < ((0) : Int)) (by omega)) <| en_ <| s_ <| tqr_ [0, 1, 2, 3, 4, 5, 6, 7, 8, 9] <| pkq (iN i) <| pkq (.string ⟨r.toArray⟩) <| pkq (iN j) <| ppq (.string ⟨a.toArray⟩) (exec_cast (congrArg (fun l : List UInt8 => Value.string ⟨l.toArray⟩) ha) (exec_slice_to 9 (.tmp 22) (.tmp 23) (by kernel_rfl) r (by kernel_rfl) .i64 j (by kernel_rfl) Tryd.underlying9 (by omega))) ?_
      refine pcq 53 #[iN i, .string ⟨a.toArray⟩] Tryd.func53 ((line_is _ hi2 hln).mono ?_)
      rintro e V128 ⟨rfl, kV128⟩
      refine ⟨_, rfl, ?_⟩
      have h129 : Row V128 3 1 (.slice (some ⟨gv, 0, none⟩) i capv) i (I vs) := h123.keeps kV128 (fun _ _ x => x)
      have h130 := kV128.bk h124
      have h131 := kV128.bk h125
      have K132 := K126.nn kV128
      have z133 := kV128.size
      refine pkq (.tuple #[iN ((pln i a).1), .bool true]) <| pkq (iN ((pln i a).1)) <| pkq (.bool true) <| pkq (iN ((pln i a).1)) <| pkq (.bool true) <| eqr_ [0, 1, 2, 3, 4] <| pkq (.string ⟨r.toArray⟩) <| pkq (iN j) <| ppq (iN (j + 1)) (exec_cast (congrArg (Value.int .i64) (wrapN (j + 1) (by omega))) (by kernel_rfl)) <| ppq (.string ⟨rr.toArray⟩) (exec_cast (congrArg (fun l : List UInt8 => Value.string ⟨l.toArray⟩) hrr) (exec_slice_from 9 (.tmp 28) (.tmp 30) (by kernel_rfl) r (by kernel_rfl) .i64 (j + 1) (by kernel_rfl) Tryd.underlying9 (by omega))) <| pkq (.string ⟨rr.toArray⟩) <| eq_ <| b_ 2 <| qr_ [0, 1, 2] ?_
      refine pkq (.bool true) <| pkq (.bool false) <| pkq (.bool false) <| ps_end <| sy_a ⟨#[.string ⟨rr.toArray⟩, ud, pT r1 0, pT r2 0, .slice (some ⟨gv, 0, none⟩) i capv, iN i, iN j, iN ((pln i a).1), .bool true, iN i, .bool true, u11, u12, .string ⟨r.toArray⟩, iN j, iN j, .bool false, u17, u18, u19, .tuple #[iN ((pln i a).1), .bool true], iN i, .string ⟨r.toArray⟩, iN j, .string ⟨a.toArray⟩, .tuple #[iN ((pln i a).1), .bool true], iN ((pln i a).1), .bool true, .string ⟨r.toArray⟩, iN j, iN (j + 1), .string ⟨rr.toArray⟩, .bool false, .bool true, .bool false, u35, u36, u37, u38, u39, u40, u41, u42, u43, u44, u45, u46, u47, u48, u49, u50, u51, u52, u53, u54, u55, u56, u57, u58, u59, u60, u61, u62, ud, ud, ud, ud, ud, ud, ud, ud], []⟩ <| then_n <| n_ <| qr_ [0, 1, 2, 3, 4] <| pkq (iN i) <| pkq (iN ((pln i a).1)) ?_
      refine pcq 39 #[iN i, iN ((pln i a).1)] Tryd.func39 ((within7_is _ hi2 hwi).mono ?_)
      rintro e V134 ⟨rfl, kV134⟩
      refine ⟨_, rfl, ?_⟩
      have h135 : Row V134 3 1 (.slice (some ⟨gv, 0, none⟩) i capv) i (I vs) := h129.keeps kV134 (fun _ _ x => x)
      have h136 := kV134.bk h130
      have h137 := kV134.bk h131
      have K138 := K132.nn kV134
      have z139 := kV134.size
      refine pkq (.bool false) <| pkq (.bool false) <| en_ <| qr_ [0, 1, 2, 3, 4, 5, 6, 7, 8, 9] <| pkq (iN i) <| ppq (.bool true) (eqt (((i : Nat) : Int)) ((1) : Int) (by omega)) <| pkq (.bool true) <| pkq (iN ((pln i a).1)) <| pkq (.slice (some ⟨gv, 0, none⟩) i capv) <| ppq (pT gv 0) (exec_indexAt_slice 55 (.tmp 51) (.const (.int .i64 0)) (by kernel_rfl) gv 0 i capv (by kernel_rfl) .i64 0 (by kernel_rfl) _ 1 Tryd.underlying55 (by kernel_rfl) (by omega)) <| ppq (.int .i64 u0) (ldc 3 gv 0 (row_cells h135 0 _ hu0)) <| ppq (.bool false) (dcf (((((pln i a).1 : Nat) : Int)) > ((u0) : Int)) (by omega)) <| pkq (.bool false) <| pkq (.bool false) ?_
      refine en_ <| s_ <| blk_n <| tr_ [0, 1, 2, 3, 4] <| pkq (.slice (some ⟨gv, 0, none⟩) i capv) <| pkq (iN ((pln i a).1)) ?_
      obtain ⟨V140, eV140, lit, elit, h141, kV140⟩ := alloc_step V134 (#[.int .i64 (((pln i a).1 : Nat) : Int)]) 3
      have n142 : r1 < lit := elit ▸ lt_of_block h136
      have n143 : r2 < lit := elit ▸ lt_of_block h137
      have n144 : w.heap.size ≤ lit := elit ▸ K138.size
      refine prq (.slice (some ⟨lit, 0, none⟩) 1 1) (w' := V140) (by rw [← eV140, ← elit]; kernel_rfl) ?_
      have h145 : Row V140 3 1 (.slice (some ⟨gv, 0, none⟩) i capv) i (I vs) := h135.keeps kV140 (fun _ _ x => x)
      have h146 := kV140.bk h136
      have h147 := kV140.bk h137
      have K148 := K138.nn kV140
      have z149 := kV140.size
      obtain ⟨v150, V151, hr152, h153, hg154, hn155, ha156⟩ := run_append_any (P := Tryd.prog) (w := V140) 55 (Oper.type (qo56_0 29855 3)) 3 i0 (.int .i64 0) 1 8 Tryd.underlying55 hi0 hz0 hz1 hz2 rfl (by decide) (.slice (some ⟨gv, 0, none⟩) i capv) i (I vs) h145 (.slice (some ⟨lit, 0, none⟩) 1 1) 1 ([.int .i64 (((pln i a).1 : Nat) : Int)]) (src_block h141 1 1 rfl (by simp [Value.oneCell'])) (by unfold maxLen; omega) (by omega)
      have kV151 : Keeps (fun j => (.slice (some ⟨gv, 0, none⟩) i capv : Value).ownBlock = some j) V140 V151 := Keeps.rowAdd hg154
      have hw157 : NewFrom w.heap.size v150 := hnw.next K148.size ha156
      refine prq v150 (w' := V151) (exec_append (.tmp 59) (.tmp 61) 55 (by kernel_rfl) (.slice (some ⟨gv, 0, none⟩) i capv) (.slice (some ⟨lit, 0, none⟩) 1 1) (by kernel_rfl) (by kernel_rfl) hr152) ?_
      have h158 : Row V151 3 1 v150 (i + 1) (I (vs ++ [((pln i a).1 : Int)])) := (I_snoc vs _ ▸ h153)
      have h159 : V151.heap[r1]? = some (.cells (#[.int .i64 0, .int .i64 0, .int .i64 0, .int .i64 0, .int .i64 0, .int .i64 0, .int .i64 0, .int .u64 0, .int .u64 0, .int .i64 0, .int .u64 0]) 24 (0, 0)) := (kV151.block r1 (lt_of_block h146) (fun e => Row.ne h145 h146 (by decide) e)).trans h146
      have h160 : V151.heap[r2]? = some (.cells (#[.int .i64 0, .int .i64 0]) 46 (0, 0)) := (kV151.block r2 (lt_of_block h147) (fun e => Row.ne h145 h147 (by decide) e)).trans h147
      have K161 : Keeps Nob w V151 := K148.then kV151 (fun i hi hm => absurd hi (by have := hnw i hm; omega))
      have z162 := kV151.size
      refine pkq (v150) <| ps_end <| blk_n <| tr_ [0, 1, 2] <| pkq (iN i) <| ppq (iN (i + 1)) (exec_cast (congrArg (Value.int .i64) (wrapN (i + 1) (by omega))) (by kernel_rfl)) <| pkq (iN (i + 1)) <| et_ ?_
      refine ⟨⟨i + 1, rr, vs ++ [((pln i a).1 : Int)], v150, (iN j), (iN ((pln i a).1)), (.bool true), (iN i), (.bool true), (iN i), (iN (i + 1)), (.string ⟨r.toArray⟩), (iN j), (iN j), (.bool false), u17, u18, u19, (.tuple #[iN ((pln i a).1), .bool true]), (iN i), (.string ⟨r.toArray⟩), (iN j), (.string ⟨a.toArray⟩), (.tuple #[iN ((pln i a).1), .bool true]), (iN ((pln i a).1)), (.bool true), (.string ⟨r.toArray⟩), (iN j), (iN (j + 1)), (.string ⟨rr.toArray⟩), (.bool false), (.bool true), (.bool false), u35, u36, u37, (.bool false), (iN i), (iN ((pln i a).1)), (.bool true), (.bool false), u43, u44, u45, (.bool false), (iN i), (.bool true), (.bool true), (iN ((pln i a).1)), (.slice (some ⟨gv, 0, none⟩) i capv), (pT gv 0), (.int .i64 u0), (.bool false), (.bool false), u56, u57, u58, (.slice (some ⟨gv, 0, none⟩) i capv), (iN ((pln i a).1)), (.slice (some ⟨lit, 0, none⟩) 1 1), v150, by kernel_rfl, by omega, by simp [hv], hrr ▸ res_go hi2 hv hp hf ha hpe, by rw [← hrr, List.length_drop]; omega, all_snoc hall hnn, h158, h159, h160, K161, hw157⟩, ?_⟩
      exact lt_meas (x := 11 - (i + 1)) (y := 11 - i) (by kernel_rfl) (by kernel_rfl) (by omega)
    · skip
      skip
      have hjl := feedAt_lt _ _ hf
      have hnl := pln_lt i a
      obtain ⟨rr, hrr⟩ : ∃ x, r.drop (j + 1) = x := ⟨_, rfl⟩
      have hwi := decide_eq_true hrg
      have hpe : perr i vs a = 0 := perr_ok (rerr_fine hln hrg) (fun x => hi1 x.1)
      have hnn := nn_of hi2 hrg
      refine q_ <| qr_ [0, 1] <| pkq (iN i) <| ppq (.bool true) (dct ((((i : Nat) : Int)) < ((11) : Int)) (by omega)) <| ey_ <| s_ <| tq_ <| b_ 1 <| qr_ [0, 1, 2] <| pkq (.string ⟨r.toArray⟩) ?_
      refine pcq 52 #[.string ⟨r.toArray⟩] Tryd.func52 ((feed_is _ hr (by rw [feedV, hf])).mono ?_)
      rintro e V163 ⟨rfl, kV163⟩
      refine ⟨_, rfl, ?_⟩
      have h164 : Row V163 3 1 v i (I vs) := h16.keeps kV163 (fun _ _ x => x)
      have h165 := kV163.bk h17
      have h166 := kV163.bk h18
      have K167 := K19.nn kV163
      have z168 := kV163.size
      refine pkq (iN j) <| eq_ <| qr_ [0, 1] <| pkq (iN j) <| ppq (.bool false) (dcf ((((j : Nat) : Int)) < ((0) : Int)) (by omega)) <| en_ <| s_ <| tqr_ [0, 1, 2, 3, 4, 5, 6, 7, 8, 9] <| pkq (iN i) <| pkq (.string ⟨r.toArray⟩) <| pkq (iN j) <| ppq (.string ⟨a.toArray⟩) (exec_cast (congrArg (fun l : List UInt8 => Value.string ⟨l.toArray⟩) ha) (exec_slice_to 9 (.tmp 22) (.tmp 23) (by kernel_rfl) r (by kernel_rfl) .i64 j (by kernel_rfl) Tryd.underlying9 (by omega))) ?_
      refine pcq 53 #[iN i, .string ⟨a.toArray⟩] Tryd.func53 ((line_is _ hi2 hln).mono ?_)
      rintro e V169 ⟨rfl, kV169⟩
      refine ⟨_, rfl, ?_⟩
      have h170 : Row V169 3 1 v i (I vs) := h164.keeps kV169 (fun _ _ x => x)
      have h171 := kV169.bk h165
      have h172 := kV169.bk h166
      have K173 := K167.nn kV169
      have z174 := kV169.size
      refine pkq (.tuple #[iN ((pln i a).1), .bool true]) <| pkq (iN ((pln i a).1)) <| pkq (.bool true) <| pkq (iN ((pln i a).1)) <| pkq (.bool true) <| eqr_ [0, 1, 2, 3, 4] <| pkq (.string ⟨r.toArray⟩) <| pkq (iN j) <| ppq (iN (j + 1)) (exec_cast (congrArg (Value.int .i64) (wrapN (j + 1) (by omega))) (by kernel_rfl)) <| ppq (.string ⟨rr.toArray⟩) (exec_cast (congrArg (fun l : List UInt8 => Value.string ⟨l.toArray⟩) hrr) (exec_slice_from 9 (.tmp 28) (.tmp 30) (by kernel_rfl) r (by kernel_rfl) .i64 (j + 1) (by kernel_rfl) Tryd.underlying9 (by omega))) <| pkq (.string ⟨rr.toArray⟩) <| eq_ <| b_ 2 <| qr_ [0, 1, 2] ?_
      refine pkq (.bool true) <| pkq (.bool false) <| pkq (.bool false) <| ps_end <| sy_a ⟨#[.string ⟨rr.toArray⟩, ud, pT r1 0, pT r2 0, v, iN i, iN j, iN ((pln i a).1), .bool true, iN i, .bool true, u11, u12, .string ⟨r.toArray⟩, iN j, iN j, .bool false, u17, u18, u19, .tuple #[iN ((pln i a).1), .bool true], iN i, .string ⟨r.toArray⟩, iN j, .string ⟨a.toArray⟩, .tuple #[iN ((pln i a).1), .bool true], iN ((pln i a).1), .bool true, .string ⟨r.toArray⟩, iN j, iN (j + 1), .string ⟨rr.toArray⟩, .bool false, .bool true, .bool false, u35, u36, u37, u38, u39, u40, u41, u42, u43, u44, u45, u46, u47, u48, u49, u50, u51, u52, u53, u54, u55, u56, u57, u58, u59, u60, u61, u62, ud, ud, ud, ud, ud, ud, ud, ud], []⟩ <| then_n <| n_ <| qr_ [0, 1, 2, 3, 4] <| pkq (iN i) <| pkq (iN ((pln i a).1)) ?_
      refine pcq 39 #[iN i, iN ((pln i a).1)] Tryd.func39 ((within7_is _ hi2 hwi).mono ?_)
      rintro e V175 ⟨rfl, kV175⟩
      refine ⟨_, rfl, ?_⟩
      have h176 : Row V175 3 1 v i (I vs) := h170.keeps kV175 (fun _ _ x => x)
      have h177 := kV175.bk h171
      have h178 := kV175.bk h172
      have K179 := K173.nn kV175
      have z180 := kV175.size
      refine pkq (.bool false) <| pkq (.bool false) <| en_ <| qr_ [0, 1, 2, 3, 4, 5, 6, 7, 8, 9] <| pkq (iN i) <| ppq (.bool false) (eqf (((i : Nat) : Int)) ((1) : Int) (by omega)) <| pkq (.bool false) <| pnq <| pnq <| pnq <| pnq <| pnq <| pkq (.bool false) <| pkq (.bool false) ?_
      refine en_ <| s_ <| blk_n <| tr_ [0, 1, 2, 3, 4] <| pkq (v) <| pkq (iN ((pln i a).1)) ?_
      obtain ⟨V181, eV181, lit, elit, h182, kV181⟩ := alloc_step V175 (#[.int .i64 (((pln i a).1 : Nat) : Int)]) 3
      have n183 : r1 < lit := elit ▸ lt_of_block h177
      have n184 : r2 < lit := elit ▸ lt_of_block h178
      have n185 : w.heap.size ≤ lit := elit ▸ K179.size
      refine prq (.slice (some ⟨lit, 0, none⟩) 1 1) (w' := V181) (by rw [← eV181, ← elit]; kernel_rfl) ?_
      have h186 : Row V181 3 1 v i (I vs) := h176.keeps kV181 (fun _ _ x => x)
      have h187 := kV181.bk h177
      have h188 := kV181.bk h178
      have K189 := K179.nn kV181
      have z190 := kV181.size
      obtain ⟨v191, V192, hr193, h194, hg195, hn196, ha197⟩ := run_append_any (P := Tryd.prog) (w := V181) 55 (Oper.type (qo56_0 29855 3)) 3 i0 (.int .i64 0) 1 8 Tryd.underlying55 hi0 hz0 hz1 hz2 rfl (by decide) v i (I vs) h186 (.slice (some ⟨lit, 0, none⟩) 1 1) 1 ([.int .i64 (((pln i a).1 : Nat) : Int)]) (src_block h182 1 1 rfl (by simp [Value.oneCell'])) (by unfold maxLen; omega) (by omega)
      have kV192 : Keeps (fun j => v.ownBlock = some j) V181 V192 := Keeps.rowAdd hg195
      have hw198 : NewFrom w.heap.size v191 := hnw.next K189.size ha197
      refine prq v191 (w' := V192) (exec_append (.tmp 59) (.tmp 61) 55 (by kernel_rfl) v (.slice (some ⟨lit, 0, none⟩) 1 1) (by kernel_rfl) (by kernel_rfl) hr193) ?_
      have h199 : Row V192 3 1 v191 (i + 1) (I (vs ++ [((pln i a).1 : Int)])) := (I_snoc vs _ ▸ h194)
      have h200 : V192.heap[r1]? = some (.cells (#[.int .i64 0, .int .i64 0, .int .i64 0, .int .i64 0, .int .i64 0, .int .i64 0, .int .i64 0, .int .u64 0, .int .u64 0, .int .i64 0, .int .u64 0]) 24 (0, 0)) := (kV192.block r1 (lt_of_block h187) (fun e => Row.ne h186 h187 (by decide) e)).trans h187
      have h201 : V192.heap[r2]? = some (.cells (#[.int .i64 0, .int .i64 0]) 46 (0, 0)) := (kV192.block r2 (lt_of_block h188) (fun e => Row.ne h186 h188 (by decide) e)).trans h188
      have K202 : Keeps Nob w V192 := K189.then kV192 (fun i hi hm => absurd hi (by have := hnw i hm; omega))
      have z203 := kV192.size
      refine pkq (v191) <| ps_end <| blk_n <| tr_ [0, 1, 2] <| pkq (iN i) <| ppq (iN (i + 1)) (exec_cast (congrArg (Value.int .i64) (wrapN (i + 1) (by omega))) (by kernel_rfl)) <| pkq (iN (i + 1)) <| et_ ?_
      refine ⟨⟨i + 1, rr, vs ++ [((pln i a).1 : Int)], v191, (iN j), (iN ((pln i a).1)), (.bool true), (iN i), (.bool true), (iN i), (iN (i + 1)), (.string ⟨r.toArray⟩), (iN j), (iN j), (.bool false), u17, u18, u19, (.tuple #[iN ((pln i a).1), .bool true]), (iN i), (.string ⟨r.toArray⟩), (iN j), (.string ⟨a.toArray⟩), (.tuple #[iN ((pln i a).1), .bool true]), (iN ((pln i a).1)), (.bool true), (.string ⟨r.toArray⟩), (iN j), (iN (j + 1)), (.string ⟨rr.toArray⟩), (.bool false), (.bool true), (.bool false), u35, u36, u37, (.bool false), (iN i), (iN ((pln i a).1)), (.bool true), (.bool false), u43, u44, u45, (.bool false), (iN i), (.bool false), (.bool false), undef, undef, undef, undef, undef, (.bool false), u56, u57, u58, v, (iN ((pln i a).1)), (.slice (some ⟨lit, 0, none⟩) 1 1), v191, by kernel_rfl, by omega, by simp [hv], hrr ▸ res_go hi2 hv hp hf ha hpe, by rw [← hrr, List.length_drop]; omega, all_snoc hall hnn, h199, h200, h201, K202, hw198⟩, ?_⟩
      exact lt_meas (x := 11 - (i + 1)) (y := 11 - i) (by kernel_rfl) (by kernel_rfl) (by omega)
    · have hrl : r.length = 0 := by rw [hr0]; rfl
      have hres := res_end eq_i hp
      rw [if_pos hr0] at hres
      skip
      refine q_ <| qr_ [0, 1] <| pkq (iN i) <| ppq (.bool false) (dcf ((((i : Nat) : Int)) < ((11) : Int)) (by omega)) <| en_ <| sy_exit 0 (by kernel_rfl) <| then_e <| then_e <| blk_e <| tq_ <| qr_ [0, 1, 2] <| pkq (.string ⟨r.toArray⟩) <| ppq (iN r.length) (exec_len_str (.tmp 63) 9 (by kernel_rfl) Tryd.underlying9 ⟨r.toArray⟩ (by kernel_rfl)) <| ppq (.bool false) (dcf ((((r.length : Nat) : Int)) > ((0) : Int)) (by omega)) ?_
      refine en_ <| s_ <| tqr_ [0, 1, 2, 3, 4] <| pkq (v) ?_
      refine pcq 41 #[v] Tryd.func41 ((kRecord_row v vs _ (by omega) (eq_i ▸ h16) (fun n hn => by have := hall n hn; omega)).mono ?_)
      rintro e V204 ⟨rfl, kV204⟩
      refine ⟨_, rfl, ?_⟩
      have h206 := kV204.bk h17
      have h207 := kV204.bk h18
      have K208 := K19.nn kV204
      have z209 := kV204.size
      refine pkq (.agg #[.int .i64 0, .int .i64 0]) <| pst 24 r1 ((parOfL vs).cells) h206 (by kernel_rfl) rfl (by kernel_rfl) fun V210 h211 kV210 => ?_
      have h213 := kV210.bO h207
      have K214 := K208.nO kV210
      have z215 := kV210.size
      refine pst 46 r2 (#[.int .i64 0, .int .i64 0]) h213 (by kernel_rfl) rfl (by kernel_rfl) fun V216 h217 kV216 => ?_
      have h219 := kV216.bO h211
      have K220 := K214.nO kV216
      have z221 := kV216.size
      refine eu_ <| sy_out (.tuple #[.agg ((parOfL vs).cells), .agg #[.int .i64 0, .int .i64 0]]) rfl (results_rows2 (p := 2) (q := 3) (ty := 24) (tz := 46) (by kernel_rfl) _ _ r1 r2 24 46 ((parOfL vs).cells) (#[.int .i64 0, .int .i64 0]) (0, 0) (0, 0) _ _ (by kernel_rfl) h219 Tryd.underlying24 rfl (by kernel_rfl) (by kernel_rfl) h217 Tryd.underlying46 rfl (by kernel_rfl)) ?_
      exact ⟨by rw [hres], K220⟩
    · have hrl : 0 < r.length := List.length_pos_iff.2 hr0
      have hres := res_end eq_i hp
      rw [if_neg hr0] at hres
      skip
      refine q_ <| qr_ [0, 1] <| pkq (iN i) <| ppq (.bool false) (dcf ((((i : Nat) : Int)) < ((11) : Int)) (by omega)) <| en_ <| sy_exit 0 (by kernel_rfl) <| then_e <| then_e <| blk_e <| tq_ <| qr_ [0, 1, 2] <| pkq (.string ⟨r.toArray⟩) <| ppq (iN r.length) (exec_len_str (.tmp 63) 9 (by kernel_rfl) Tryd.underlying9 ⟨r.toArray⟩ (by kernel_rfl)) <| ppq (.bool true) (dct ((((r.length : Nat) : Int)) > ((0) : Int)) (by omega)) ?_
      refine ey_ <| qr_ [0, 1, 2, 3] <| pkq (.agg parZ.cells) <| pkq (.agg #[.int .i64 4, .int .i64 11]) <| pst 24 r1 parZ.cells h17 (by kernel_rfl) rfl (by kernel_rfl) fun V222 h223 kV222 => ?_
      have h225 := kV222.bO h18
      have K226 := K19.nO kV222
      have z227 := kV222.size
      refine pst 46 r2 (#[.int .i64 4, .int .i64 11]) h225 (by kernel_rfl) rfl (by kernel_rfl) fun V228 h229 kV228 => ?_
      have h231 := kV228.bO h223
      have K232 := K226.nO kV228
      have z233 := kV228.size
      refine eu_ <| then_r <| sy_out (.tuple #[.agg (parZ.cells), .agg #[.int .i64 4, .int .i64 11]]) rfl (results_rows2 (p := 2) (q := 3) (ty := 24) (tz := 46) (by kernel_rfl) _ _ r1 r2 24 46 (parZ.cells) (#[.int .i64 4, .int .i64 11]) (0, 0) (0, 0) _ _ (by kernel_rfl) h231 Tryd.underlying24 rfl (by kernel_rfl) (by kernel_rfl) h229 Tryd.underlying46 rfl (by kernel_rfl)) ?_
      exact ⟨by rw [hres], K232⟩
end Go.Proofs.YtpflmldmbpnllaaDoor
namespace Go.Proofs.YtpflmldmbpnllaaDoor
set_option maxRecDepth 100000
set_option maxHeartbeats 4000000
open Go Go.RowKit Go.Own Go.Shelf
theorem rGet_ok (v : Value) (l : List UInt8) (at_ : Int) (w : World) (hv : BytesAt w v l) :
    Calls Tryd.prog 98 #[v, .int .i64 at_] w fun e w' => e = .returned (getV (getAt l at_)) ∧ Keeps Nob w w' := by
  have hlen := hv.length_le
  obtain ⟨A, cap, rfl, hlc, hcm, _⟩ := hv.form
  by_cases h1 : at_ < 0
  · rw [getAt_out _ _ (.inl h1)]
    go_enter Tryd.func98, Tryd.ntmps98
    go_wp2
    exact bodyPost_ret (v := getV (0, 0, 3, 0)) (by simp [results, Tryd.results98, go_sem, getV]) rfl ⟨rfl, (Keeps.refl _ _).alloc _⟩
  · have h1d : decide (at_ < 0) = false := by simpa using h1
    by_cases h2 : (l.length : Int) < at_
    · rw [getAt_out _ _ (.inr h2)]
      go_enter Tryd.func98, Tryd.ntmps98
      go_wp2
      exact bodyPost_ret (v := getV (0, 0, 3, 0)) (by simp [results, Tryd.results98, go_sem, getV]) rfl ⟨rfl, (Keeps.refl _ _).alloc _⟩
    · obtain ⟨a, rfl⟩ : ∃ k : Nat, at_ = k := ⟨at_.toNat, by omega⟩
      have hal : a ≤ l.length := by omega
      have HV := Lib.hid hv
      clear hv
      obtain ⟨gg, hgg⟩ : ∃ g, getAt l a = g := ⟨_, rfl⟩
      rw [hgg]
      have HG := Lib.hid hgg
      clear hgg
      unfold maxLen at hcm
      go_enter Tryd.func98, Tryd.ntmps98
      go_wp2_with fail
      go_loop [7, 8] (fun n i => ∃ k m : Nat, a + k ≤ l.length ∧ i = .int .i64 k ∧ n = .int .u64 (m : Int) ∧ Hid (NumAt (l.drop a) k m) ∧ k ≤ 9) (fun _ i => l.length - (intOf i).toNat)
      case atStart => exact ⟨0, 0, by omega, rfl, rfl, Lib.hid (NumAt.zero _), by omega⟩
      case round =>
        obtain ⟨k, m, hk, rfl, rfl, HK, hk9⟩ := hrel
        have hk10 : decide ((k : Int) < 10) = true := by simp; omega
        by_cases hlt : a + k < l.length
        · obtain ⟨c, hc⟩ : ∃ c, l[a + k]? = some c := ⟨_, List.getElem?_eq_getElem hlt⟩
          obtain ⟨b, o, cap', hv, hb, c00⟩ := HV.out.at_ (a + k) c hc
          simp only [Value.slice.injEq, true_and] at hv
          obtain ⟨rfl, rfl⟩ := hv
          have c0 : (w.alloc (.cells #[.int .i64 0, .int .i64 0] 46)).cell? ⟨b, o + (a + k), none⟩ = some (.int .u8 (c.toNat : Int)) := (World.cell?_alloc_lt _ _ _ hb).trans c00
          clear c00
          have HC : Hid ((l.drop a)[k]? = some c) := Lib.hid (by rw [List.getElem?_drop]; exact hc)
          clear hc
          have hc256 : c.toNat < 256 := c.toNat_lt
          obtain ⟨z, hz⟩ : ∃ z, c.toNat = z := ⟨_, rfl⟩
          rw [hz] at c0 hc256
          have HZ := Lib.hid hz; clear hz
          have key : ((k = 9 ∧ 1 < z) ∨ (0 < k ∧ z = 0)) ∨ ¬ ((k = 9 ∧ 1 < z) ∨ (0 < k ∧ z = 0)) := Decidable.em _
          rcases key with hf | hf
          · have hn := HK.out.form HC.out HZ.out hf
            obtain rfl : gg = (0, 0, 5, (a : Int)) := HG.out.symm.trans (by rw [getAt_bad _ _ hal (by rw [hn]; decide), hn])
            have kinds : (((k : Int) == 9) = true ∧ (k == 9) = true ∧ decide (1 < (z : Int)) = true ∧ decide (1 < z) = true) ∨ (((k : Int) == 9) = false ∧ (k == 9) = false ∧ decide (0 < (k : Int)) = true ∧ decide (0 < k) = true ∧ ((z : Int) == 0) = true ∧ (z == 0) = true) ∨ (((k : Int) == 9) = true ∧ (k == 9) = true ∧ decide (1 < (z : Int)) = false ∧ decide (1 < z) = false ∧ decide (0 < (k : Int)) = true ∧ decide (0 < k) = true ∧ ((z : Int) == 0) = true ∧ (z == 0) = true) := by
              simp; omega
            clear hf hn
            rcases kinds with ⟨b0, b1, b2, b3⟩ | ⟨b0, b1, b2, b3, b4, b5⟩ | ⟨b0, b1, b2, b3, b4, b5, b6, b7⟩
            all_goals
              go_wp2_with fail
              exact bodyPost_ret (v := getV (0, 0, 5, (a : Int))) (by simp [results, Tryd.results98, go_sem, getV]) rfl ⟨rfl, (Keeps.refl _ _).alloc _⟩
          · have h9 : k = 9 → z ≤ 1 := fun h => by omega
            have hacc := acc_mod z m k hk9 h9 HK.out.2.1 (Nat.lt_of_lt_of_le HK.out.2.1 (Nat.le_trans (pow128_le k hk9) (by omega)))
            rw [wrap_u64_nat (z % 128) (by omega)] at hacc
            rw [show (((z % 128 : Nat)) : Int) = (z : Int) % 128 by omega] at hacc
            clear h9
            have kinds : (((k : Int) == 9) = false ∧ (k == 9) = false ∧ decide (0 < (k : Int)) = false ∧ decide (0 < k) = false) ∨ (((k : Int) == 9) = false ∧ (k == 9) = false ∧ decide (0 < (k : Int)) = true ∧ decide (0 < k) = true ∧ ((z : Int) == 0) = false ∧ (z == 0) = false) ∨ (((k : Int) == 9) = true ∧ (k == 9) = true ∧ decide (1 < (z : Int)) = false ∧ decide (1 < z) = false ∧ decide (0 < (k : Int)) = true ∧ decide (0 < k) = true ∧ ((z : Int) == 0) = false ∧ (z == 0) = false) := by
              simp; omega
            by_cases hlt2 : z < 128
            · have hn := HK.out.done HC.out HZ.out hf hlt2
              clear hf
              generalize m + z % 128 * 128 ^ k = m' at hacc hn
              obtain rfl : gg = (m', (a : Int) + ((k + 1 : Nat) : Int), 0, 0) := HG.out.symm.trans (by rw [getAt_ok _ _ hal (by rw [hn]), hn])
              clear hn
              rcases kinds with ⟨b0, b1, b2, b3⟩ | ⟨b0, b1, b2, b3, b4, b5⟩ | ⟨b0, b1, b2, b3, b4, b5, b6, b7⟩
              all_goals
                go_wp2_with fail
                exact bodyPost_ret (v := getV (m', (a : Int) + ((k + 1 : Nat) : Int), 0, 0)) (by simp [results, Tryd.results98, go_sem, getV]) rfl ⟨rfl, (Keeps.refl _ _).alloc _⟩
            · have HN := Lib.hid (HK.out.more HC.out HZ.out hf hlt2)
              have h91 := HN.out.2.2
              clear hf
              generalize m + z % 128 * 128 ^ k = m' at hacc HN
              rcases kinds with ⟨b0, b1, b2, b3⟩ | ⟨b0, b1, b2, b3, b4, b5⟩ | ⟨b0, b1, b2, b3, b4, b5, b6, b7⟩
              all_goals
                go_wp2_with fail
                go_round
                case rel => exact ⟨k + 1, m', by omega, by go_num, rfl, HN, h91⟩
                case measure => simp [intOf]; omega
        · have hn := HK.out.end_ (by rw [List.length_drop]; omega)
          obtain rfl : gg = (0, 0, 6, (a : Int)) := HG.out.symm.trans (by rw [getAt_bad _ _ hal (by rw [hn]; decide), hn])
          clear hn
          go_wp2_with fail
          exact bodyPost_ret (v := getV (0, 0, 6, (a : Int))) (by simp [results, Tryd.results98, go_sem, getV]) rfl ⟨rfl, (Keeps.refl _ _).alloc _⟩
end Go.Proofs.YtpflmldmbpnllaaDoor
namespace Go.Proofs.YtpflmldmbpnllaaDoor
set_option maxRecDepth 100000
set_option maxHeartbeats 4000000
open Go Go.RowKit Go.Own Go.Shelf
theorem fault_zero (w : World) : (zeroValue 46).run Tryd.prog w = .ok (.agg #[.int .i64 0, .int .i64 0]) w := by kernel_rfl
noncomputable def opsrRU_3 : Array Oper := opsOf Tryd.f81 3
theorem refU_region {ops' : Array Oper} (hops : ops' = opsrRU_3) {u1 u2 u3 u4 u5 u6 u7 u8 u9 u10 u11 u12 u13 u14 u15 u16 u17 u18 u19 u20 u21 u22 u23 u24 u25 u26 u27 u28 u29 u30 u31 u32 u33 u34 u35 u36 : Value} (b : Nat) (A : Option Addr) (l : List UInt8) (cap at_ : Nat) (e0 e1 : Int) (W0 : World) (HBK : W0.heap[b]? = some (.cells #[.slice A l.length cap, .int .i64 (at_ : Int), .int .i64 e0, .int .i64 e1] 100 (0, 0))) (n to er bad : Int) (HF : ∀ W, Keeps Nob W0 W → Calls Tryd.prog 98 #[.slice A l.length cap, .int .i64 (at_ : Int)] W fun e w' => e = .returned (.tuple #[.int .u64 n, .int .i64 to, .agg #[.int .i64 er, .int .i64 bad]]) ∧ Keeps Nob W w') (Q : Exit → Act → World → Prop)
    (hQ : ∀ (gf : Nat) (W : World), Keeps Nob W0 W → W0.heap.size ≤ gf → W.heap[gf]? = some (.cells #[.int .i64 er, .int .i64 bad] 46 (0, 0)) → Q .normal ⟨#[.pointer (some ⟨b, 0, none⟩), u1, u2, .int .u64 n, .int .i64 to, .pointer (some ⟨gf, 0, none⟩), u6, u7, u8, u9, u10, u11, .tuple #[.int .u64 n, .int .i64 to, .agg #[.int .i64 er, .int .i64 bad]], .pointer (some ⟨b, 0, none⟩), .pointer (some ⟨b, 0, none⟩), .pointer (some ⟨b, 0, none⟩), .slice A l.length cap, .pointer (some ⟨b, 0, none⟩), .pointer (some ⟨b, 0, none⟩), .pointer (some ⟨b, 1, none⟩), .int .i64 (at_ : Int), .tuple #[.int .u64 n, .int .i64 to, .agg #[.int .i64 er, .int .i64 bad]], .int .u64 n, .int .i64 to, .agg #[.int .i64 er, .int .i64 bad], u25, u26, u27, u28, u29, u30, u31, u32, u33, u34, u35, u36], []⟩ W) : (Code.region 3 ops' true).wp Tryd.prog Q ⟨#[.pointer (some ⟨b, 0, none⟩), u1, u2, u3, u4, u5, u6, u7, u8, u9, u10, u11, u12, u13, u14, u15, u16, u17, u18, u19, u20, u21, u22, u23, u24, u25, u26, u27, u28, u29, u30, u31, u32, u33, u34, u35, u36], []⟩ W0 := by
  subst hops
  refine wp_region_noPanic ?_
  have hb0 : b < W0.heap.size := lt_of_block HBK
  have cb : ∀ W, Keeps Nob W0 W → W.heap[b]? = some (.cells #[.slice A l.length cap, .int .i64 (at_ : Int), .int .i64 e0, .int .i64 e1] 100 (0, 0)) := fun W hW => (hW.block b hb0 (fun x => x)).trans HBK
  refine wp_regionH_fuel (fun W => Keeps Nob W0 W) 17 #[false, false, false, false, false, false, false, false, false, false, false, false, false, false, false, false, false] (by kernel_rfl) (by kernel_rfl) rfl ?_
  have S0 : Keeps Nob W0 W0.drew := (Keeps.refl _ _).drew
  refine wpAnyH_val (i := 0) (opsrRU_3.getD 0 default) (.pointer (some ⟨b, 0, none⟩)) (by kernel_rfl) (fun _ _ _ _ _ h => h) (by kernel_rfl) (by kernel_rfl) (by kernel_rfl) (by kernel_rfl) (fun W hW => by kernel_rfl) S0 <| wpAnyH_val (i := 1) (opsrRU_3.getD 1 default) (.pointer (some ⟨b, 0, none⟩)) (by kernel_rfl) (fun _ _ _ _ _ h => h) (by kernel_rfl) (by kernel_rfl) (by kernel_rfl) (by kernel_rfl) (fun W hW => by kernel_rfl) S0 <| wpAnyH_val (i := 2) (opsrRU_3.getD 2 default) (.pointer (some ⟨b, 0, none⟩)) (by kernel_rfl) (fun _ _ _ _ _ h => h) (by kernel_rfl) (by kernel_rfl) (by kernel_rfl) (by kernel_rfl) (fun W hW => by kernel_rfl) S0 <| wpAnyH_val (i := 3) (opsrRU_3.getD 3 default) (.slice A l.length cap) (by kernel_rfl) (fun _ _ _ _ _ h => h) (by kernel_rfl) (by kernel_rfl) (by kernel_rfl) (by kernel_rfl) (fun W hW => exec_load_cell 39 (.tmp 15) (by kernel_rfl) ⟨b, 0, none⟩ (by kernel_rfl) _ _ Tryd.underlying39 rfl ((cell_of_row W b 0 _ _ _ (cb W hW)).trans rfl)) S0 <| wpAnyH_val (i := 4) (opsrRU_3.getD 4 default) (.pointer (some ⟨b, 0, none⟩)) (by kernel_rfl) (fun _ _ _ _ _ h => h) (by kernel_rfl) (by kernel_rfl) (by kernel_rfl) (by kernel_rfl) (fun W hW => by kernel_rfl) S0 <| wpAnyH_val (i := 5) (opsrRU_3.getD 5 default) (.pointer (some ⟨b, 0, none⟩)) (by kernel_rfl) (fun _ _ _ _ _ h => h) (by kernel_rfl) (by kernel_rfl) (by kernel_rfl) (by kernel_rfl) (fun W hW => by kernel_rfl) S0 <| wpAnyH_val (i := 6) (opsrRU_3.getD 6 default) (.pointer (some ⟨b, 1, none⟩)) (by kernel_rfl) (fun _ _ _ _ _ h => h) (by kernel_rfl) (by kernel_rfl) (by kernel_rfl) (by kernel_rfl) (fun W hW => by kernel_rfl) S0 <| wpAnyH_val (i := 7) (opsrRU_3.getD 7 default) (.int .i64 (at_ : Int)) (by kernel_rfl) (fun _ _ _ _ _ h => h) (by kernel_rfl) (by kernel_rfl) (by kernel_rfl) (by kernel_rfl) (fun W hW => exec_load_cell 3 (.tmp 19) (by kernel_rfl) ⟨b, 1, none⟩ (by kernel_rfl) _ _ Tryd.underlying3 rfl ((cell_of_row W b 1 _ _ _ (cb W hW)).trans rfl)) S0 ?_
  refine anyH_two 8 13 (by kernel_rfl) ?_ ?_
  · refine opH_callF (opsrRU_3.getD 8 default) 98 #[.slice A l.length cap, .int .i64 (at_ : Int)] (by kernel_rfl) (by kernel_rfl) (by kernel_rfl) (by kernel_rfl) (enters_of Tryd.func98 (by kernel_rfl) rfl) ((HF W0.drew S0).mono ?_)
    rintro e V1 ⟨rfl, hk1⟩
    have SV1 := (S0).trans hk1
    refine ⟨_, rfl, SV1, ?_⟩
    refine wpAnyH_val (i := 9) (opsrRU_3.getD 9 default) (.tuple #[.int .u64 n, .int .i64 to, .agg #[.int .i64 er, .int .i64 bad]]) (by kernel_rfl) (fun _ _ _ _ _ h => h) (by kernel_rfl) (by kernel_rfl) (by kernel_rfl) (by kernel_rfl) (fun W hW => by kernel_rfl) SV1 <| wpAnyH_val (i := 10) (opsrRU_3.getD 10 default) (.int .u64 n) (by kernel_rfl) (fun _ _ _ _ _ h => h) (by kernel_rfl) (by kernel_rfl) (by kernel_rfl) (by kernel_rfl) (fun W hW => by kernel_rfl) SV1 <| wpAnyH_val (i := 11) (opsrRU_3.getD 11 default) (.int .i64 to) (by kernel_rfl) (fun _ _ _ _ _ h => h) (by kernel_rfl) (by kernel_rfl) (by kernel_rfl) (by kernel_rfl) (fun W hW => by kernel_rfl) SV1 <| wpAnyH_val (i := 12) (opsrRU_3.getD 12 default) (.agg #[.int .i64 er, .int .i64 bad]) (by kernel_rfl) (fun _ _ _ _ _ h => h) (by kernel_rfl) (by kernel_rfl) (by kernel_rfl) (by kernel_rfl) (fun W hW => by kernel_rfl) SV1 ?_
    obtain ⟨V2, eV2⟩ : ∃ V, (V1).alloc (.cells #[.int .i64 0, .int .i64 0] 46) = V := ⟨_, rfl⟩
    obtain ⟨gf, egf⟩ : ∃ g, (V1).heap.size = g := ⟨_, rfl⟩
    have SV2 : Keeps Nob W0 V2 := eV2 ▸ (SV1).alloc _
    have row_f_2 : V2.heap[gf]? = some (.cells #[.int .i64 0, .int .i64 0] 46 (0, 0)) := by rw [← eV2, ← egf]; exact heap_alloc_new _ _
    have le_f : W0.heap.size ≤ gf := egf ▸ (SV1).size
    refine wpAnyH_run (i := 13) (opsrRU_3.getD 13 default) (.pointer (some ⟨gf, 0, none⟩)) (w' := V2) (by kernel_rfl) (by kernel_rfl) (by kernel_rfl) (.inl (by rw [← eV2, ← egf]; exact exec_alloc 46 (by kernel_rfl) (fault_zero _))) SV2 ?_
    clear eV2
    refine wpAnyH_run (i := 14) (opsrRU_3.getD 14 default) (.int .u64 n) (w' := V2) (by kernel_rfl) (by kernel_rfl) (by kernel_rfl) (.inl (by kernel_rfl)) SV2 <| wpAnyH_run (i := 15) (opsrRU_3.getD 15 default) (.int .i64 to) (w' := V2) (by kernel_rfl) (by kernel_rfl) (by kernel_rfl) (.inl (by kernel_rfl)) SV2 ?_
    obtain ⟨V3, eV3⟩ : ∃ V, (V2).setRow gf #[.int .i64 er, .int .i64 bad] = V := ⟨_, rfl⟩
    have SV3 : Keeps Nob W0 V3 := eV3 ▸ (SV2).setRow (fun x => absurd x (by omega)) _
    have row_f_3 : V3.heap[gf]? = some (.cells #[.int .i64 er, .int .i64 bad] 46 (0, 0)) := by rw [← eV3]; exact setRow_heap _ _ _ _ _ _ row_f_2
    refine wpAnyH_run (i := 16) (opsrRU_3.getD 16 default) undef (w' := V3) (by kernel_rfl) (by kernel_rfl) (by kernel_rfl) (.inr ⟨(by rw [← eV3]; exact exec_store_row 46 (.tmp 5) (.tmp 24) (by kernel_rfl) gf #[.int .i64 er, .int .i64 bad] (by kernel_rfl) (by kernel_rfl) 46 #[.int .i64 0, .int .i64 0] row_f_2 (by kernel_rfl) rfl (by simp [Value.oneCell'])), rfl⟩) SV3 ?_
    clear eV3
    refine wpAnyH_done (by kernel_rfl) ?_ _
    refine NoPanic.normal ?_
    exact state_eq (b := ⟨#[.pointer (some ⟨b, 0, none⟩), u1, u2, .int .u64 n, .int .i64 to, .pointer (some ⟨gf, 0, none⟩), u6, u7, u8, u9, u10, u11, .tuple #[.int .u64 n, .int .i64 to, .agg #[.int .i64 er, .int .i64 bad]], .pointer (some ⟨b, 0, none⟩), .pointer (some ⟨b, 0, none⟩), .pointer (some ⟨b, 0, none⟩), .slice A l.length cap, .pointer (some ⟨b, 0, none⟩), .pointer (some ⟨b, 0, none⟩), .pointer (some ⟨b, 1, none⟩), .int .i64 (at_ : Int), .tuple #[.int .u64 n, .int .i64 to, .agg #[.int .i64 er, .int .i64 bad]], .int .u64 n, .int .i64 to, .agg #[.int .i64 er, .int .i64 bad], u25, u26, u27, u28, u29, u30, u31, u32, u33, u34, u35, u36], []⟩) (by kernel_rfl) (hQ gf V3 SV3 le_f row_f_3)
  · obtain ⟨V1, eV1⟩ : ∃ V, (W0.drew).alloc (.cells #[.int .i64 0, .int .i64 0] 46) = V := ⟨_, rfl⟩
    obtain ⟨gf, egf⟩ : ∃ g, (W0.drew).heap.size = g := ⟨_, rfl⟩
    have SV1 : Keeps Nob W0 V1 := eV1 ▸ (S0).alloc _
    have row_f_1 : V1.heap[gf]? = some (.cells #[.int .i64 0, .int .i64 0] 46 (0, 0)) := by rw [← eV1, ← egf]; exact heap_alloc_new _ _
    have le_f : W0.heap.size ≤ gf := egf ▸ (S0).size
    refine opH_run (opsrRU_3.getD 13 default) (.pointer (some ⟨gf, 0, none⟩)) (w' := V1) (by kernel_rfl) (by kernel_rfl) (by rw [← eV1, ← egf]; exact exec_alloc 46 (by kernel_rfl) (fault_zero _)) ⟨SV1, ?_⟩
    clear eV1
    refine wpAnyH_call (i := 8) (opsrRU_3.getD 8 default) 98 #[.slice A l.length cap, .int .i64 (at_ : Int)] (by kernel_rfl) (by kernel_rfl) (by kernel_rfl) (by kernel_rfl) (by kernel_rfl) (enters_of Tryd.func98 (by kernel_rfl) rfl) ((HF V1 SV1).mono ?_)
    rintro e V2 ⟨rfl, hk2⟩
    have SV2 := (SV1).trans hk2
    refine ⟨_, rfl, SV2, ?_⟩
    have row_f_2 := (hk2.block gf (lt_of_block row_f_1) (fun x => x)).trans row_f_1
    refine wpAnyH_val (i := 9) (opsrRU_3.getD 9 default) (.tuple #[.int .u64 n, .int .i64 to, .agg #[.int .i64 er, .int .i64 bad]]) (by kernel_rfl) (fun _ _ _ _ _ h => h) (by kernel_rfl) (by kernel_rfl) (by kernel_rfl) (by kernel_rfl) (fun W hW => by kernel_rfl) SV2 <| wpAnyH_val (i := 10) (opsrRU_3.getD 10 default) (.int .u64 n) (by kernel_rfl) (fun _ _ _ _ _ h => h) (by kernel_rfl) (by kernel_rfl) (by kernel_rfl) (by kernel_rfl) (fun W hW => by kernel_rfl) SV2 <| wpAnyH_val (i := 11) (opsrRU_3.getD 11 default) (.int .i64 to) (by kernel_rfl) (fun _ _ _ _ _ h => h) (by kernel_rfl) (by kernel_rfl) (by kernel_rfl) (by kernel_rfl) (fun W hW => by kernel_rfl) SV2 <| wpAnyH_val (i := 12) (opsrRU_3.getD 12 default) (.agg #[.int .i64 er, .int .i64 bad]) (by kernel_rfl) (fun _ _ _ _ _ h => h) (by kernel_rfl) (by kernel_rfl) (by kernel_rfl) (by kernel_rfl) (fun W hW => by kernel_rfl) SV2 <| wpAnyH_run (i := 14) (opsrRU_3.getD 14 default) (.int .u64 n) (w' := V2) (by kernel_rfl) (by kernel_rfl) (by kernel_rfl) (.inl (by kernel_rfl)) SV2 <| wpAnyH_run (i := 15) (opsrRU_3.getD 15 default) (.int .i64 to) (w' := V2) (by kernel_rfl) (by kernel_rfl) (by kernel_rfl) (.inl (by kernel_rfl)) SV2 ?_
    obtain ⟨V3, eV3⟩ : ∃ V, (V2).setRow gf #[.int .i64 er, .int .i64 bad] = V := ⟨_, rfl⟩
    have SV3 : Keeps Nob W0 V3 := eV3 ▸ (SV2).setRow (fun x => absurd x (by omega)) _
    have row_f_3 : V3.heap[gf]? = some (.cells #[.int .i64 er, .int .i64 bad] 46 (0, 0)) := by rw [← eV3]; exact setRow_heap _ _ _ _ _ _ row_f_2
    refine wpAnyH_run (i := 16) (opsrRU_3.getD 16 default) undef (w' := V3) (by kernel_rfl) (by kernel_rfl) (by kernel_rfl) (.inr ⟨(by rw [← eV3]; exact exec_store_row 46 (.tmp 5) (.tmp 24) (by kernel_rfl) gf #[.int .i64 er, .int .i64 bad] (by kernel_rfl) (by kernel_rfl) 46 #[.int .i64 0, .int .i64 0] row_f_2 (by kernel_rfl) rfl (by simp [Value.oneCell'])), rfl⟩) SV3 ?_
    clear eV3
    refine wpAnyH_done (by kernel_rfl) ?_ _
    refine NoPanic.normal ?_
    exact state_eq (b := ⟨#[.pointer (some ⟨b, 0, none⟩), u1, u2, .int .u64 n, .int .i64 to, .pointer (some ⟨gf, 0, none⟩), u6, u7, u8, u9, u10, u11, .tuple #[.int .u64 n, .int .i64 to, .agg #[.int .i64 er, .int .i64 bad]], .pointer (some ⟨b, 0, none⟩), .pointer (some ⟨b, 0, none⟩), .pointer (some ⟨b, 0, none⟩), .slice A l.length cap, .pointer (some ⟨b, 0, none⟩), .pointer (some ⟨b, 0, none⟩), .pointer (some ⟨b, 1, none⟩), .int .i64 (at_ : Int), .tuple #[.int .u64 n, .int .i64 to, .agg #[.int .i64 er, .int .i64 bad]], .int .u64 n, .int .i64 to, .agg #[.int .i64 er, .int .i64 bad], u25, u26, u27, u28, u29, u30, u31, u32, u33, u34, u35, u36], []⟩) (by kernel_rfl) (hQ gf V3 SV3 le_f row_f_3)
end Go.Proofs.YtpflmldmbpnllaaDoor
namespace Go.Proofs.YtpflmldmbpnllaaDoor
set_option maxRecDepth 100000
set_option maxHeartbeats 4000000
open Go Go.RowKit Go.Own Go.Shelf
/-- The document's reader at block b: its bytes' slice v; the same state. -/
structure RrAt (w : World) (b : Nat) (v : Value) (l : List UInt8) (s : RS) : Prop where
  ex : ∃ (at_ : Nat) (ea : Int), w.heap[b]? = some (.cells #[v, .int .i64 (at_ : Int), .int .i64 s.err, .int .i64 ea] 100 (0, 0)) ∧ at_ ≤ l.length ∧ (s.err = 0 → s.pos = at_ ∧ ea = 0) ∧ (s.err ≠ 0 → s.pos = ea)
  bytes : BytesAt w v l
  own : v.ownBlock ≠ some b
theorem RrAt.keeps {w w' : World} {M : Nat → Prop} {b : Nat} {v : Value} {l : List UInt8} {s : RS} (h : RrAt w b v l s) (k : Keeps M w w') (hb : ¬ M b) (hm : ∀ j, v.ownBlock = some j → ¬ M j) : RrAt w' b v l s := by
  obtain ⟨at_, ea, hbk, r⟩ := h.ex
  exact ⟨⟨at_, ea, (k.block b (lt_of_block hbk) hb).trans hbk, r⟩, h.bytes.keeps k hm, h.own⟩
theorem RrAt.lt {w : World} {b : Nat} {v : Value} {l : List UInt8} {s : RS} (h : RrAt w b v l s) : b < w.heap.size := by
  obtain ⟨at_, ea, hb, _⟩ := h.ex
  exact lt_of_block hb
theorem RrAt.pos {w : World} {b : Nat} {v : Value} {l : List UInt8} {s : RS} (h : RrAt w b v l s) (h0 : s.err = 0) : 0 ≤ s.pos ∧ s.pos ≤ l.length := by
  obtain ⟨at_, ea, hb, hl, h1, _⟩ := h.ex
  have := (h1 h0).1
  omega
theorem rrEnd_ok (b : Nat) (v : Value) (l : List UInt8) (s : RS) (w : World) (h : RrAt w b v l s) :
    Calls Tryd.prog 64 #[.pointer (some ⟨b, 0, none⟩)] w fun e w' => e = .returned (.agg #[.int .i64 (s.fin l).1, .int .i64 (s.fin l).2]) ∧ Keeps Nob w w' := by
  have hk0 : Keeps Nob w (w.alloc (.cells #[.int .i64 0, .int .i64 0] 46)) := (Keeps.refl _ _).alloc _
  have hA := h.keeps hk0 (fun x => x) (fun _ _ x => x)
  have hll := h.bytes.length_le
  obtain ⟨A, cap, rfl⟩ := h.bytes.len
  obtain ⟨at_, ea, hb, hl, h1, h2⟩ := hA.ex
  have hlt := h.lt
  have c0 := (cell_of_row _ b 0 _ _ _ hb).trans (show _ = some (.slice A l.length cap) from rfl)
  have c1 := (cell_of_row _ b 1 _ _ _ hb).trans (show _ = some (.int .i64 (at_ : Int)) from rfl)
  have c2 := (cell_of_row _ b 2 _ _ _ hb).trans (show _ = some (.int .i64 s.err) from rfl)
  have c3 := (cell_of_row _ b 3 _ _ _ hb).trans (show _ = some (.int .i64 ea) from rfl)
  clear h hA hb
  by_cases h0 : s.err = 0
  · obtain ⟨hp, rfl⟩ := h1 h0
    have d0 : (s.err == 0) = true := by simpa using h0
    by_cases h1' : at_ < l.length
    · have hs : s.fin l = (4, (at_ : Int)) := by unfold RS.fin; rw [if_pos h0, hp, if_pos (by omega)]
      rw [hs]
      clear hs h0 hp h1 h2
      go_enter Tryd.func64, Tryd.ntmps64
      go_wp2
      go_quiet (fail)
      go_wp2
      exact bodyPost_ret (v := .agg #[.int .i64 4, .int .i64 (at_ : Int)]) (by simp [results, Tryd.results64, go_sem]) rfl ⟨rfl, ((hk0.drewN _).setCell_new (p := ⟨w.heap.size, 0, none⟩) (Nat.le_refl _) _).setCell_new (p := ⟨w.heap.size, 1, none⟩) (Nat.le_refl _) _⟩
    · have hs : s.fin l = (0, 0) := by unfold RS.fin; rw [if_pos h0, hp, if_neg (by omega)]
      rw [hs]
      rw [h0] at c2
      clear hs h0 hp h1 h2 d0
      go_enter Tryd.func64, Tryd.ntmps64
      go_wp2
      go_quiet (fail)
      go_wp2
      exact bodyPost_ret (v := .agg #[.int .i64 0, .int .i64 0]) (by simp [results, Tryd.results64, go_sem]) rfl ⟨rfl, ((hk0.drewN _).setCell_new (p := ⟨w.heap.size, 0, none⟩) (Nat.le_refl _) _).setCell_new (p := ⟨w.heap.size, 1, none⟩) (Nat.le_refl _) _⟩
  · have hs : s.fin l = (s.err, ea) := by unfold RS.fin; rw [if_neg h0, h2 h0]
    rw [hs]
    have d0 : (s.err == 0) = false := by simpa using h0
    clear hs h0 h1 h2
    go_enter Tryd.func64, Tryd.ntmps64
    go_wp2
    go_quiet (fail)
    go_wp2
    exact bodyPost_ret (v := .agg #[.int .i64 s.err, .int .i64 ea]) (by simp [results, Tryd.results64, go_sem]) rfl ⟨rfl, ((hk0.drewN _).setCell_new (p := ⟨w.heap.size, 0, none⟩) (Nat.le_refl _) _).setCell_new (p := ⟨w.heap.size, 1, none⟩) (Nat.le_refl _) _⟩
theorem rrFail_ok (b : Nat) (v : Value) (l : List UInt8) (s : RS) (e p : Int) (w : World) (h : RrAt w b v l s) :
    Calls Tryd.prog 63 #[.pointer (some ⟨b, 0, none⟩), .int .i64 e, .int .i64 p] w fun x w' => (∃ r, x = .returned r) ∧ RrAt w' b v l (s.fail e p) ∧ Keeps (One b) w w' := by
  have H := Lib.hid h
  obtain ⟨at_, ea, hb, hl, h1, h2⟩ := h.ex
  have c2 : w.cell? ⟨b, 2, none⟩ = some (.int .i64 s.err) := (cell_of_row w b 2 _ _ _ hb).trans rfl
  have c3 : w.cell? ⟨b, 3, none⟩ = some (.int .i64 ea) := (cell_of_row w b 3 _ _ _ hb).trans rfl
  have f2 : w.frozen? ⟨b, 2, none⟩ = false := frozen_of_row w b 2 _ _ hb
  have f3 : w.frozen? ⟨b, 3, none⟩ = false := frozen_of_row w b 3 _ _ hb
  have HBK := Lib.hid hb
  have K1 := Lib.hid h1
  have K2 := Lib.hid h2
  clear h hb h1 h2
  by_cases hc : s.err = 0 ∧ e ≠ 0
  · have hs : s.fail e p = ⟨e, p⟩ := by unfold RS.fail; rw [if_pos hc]
    rw [hs]
    obtain ⟨h0, he⟩ := hc
    have d0 : (s.err == 0) = true := by simpa using h0
    have d1 : (e != 0) = true := by simpa using he
    have HE := Lib.hid he
    clear hs h0 he
    go_enter Tryd.func63, Tryd.ntmps63
    go_wp2
    go_end0
    have hb2 := heap_setCell_same _ b 3 _ _ (.int .i64 p) (heap_setCell_same w b 2 _ _ (.int .i64 e) HBK.out)
    have hkF : Keeps (One b) w ((w.setCell ⟨b, 2, none⟩ (.int .i64 e)).setCell ⟨b, 3, none⟩ (.int .i64 p)) := ((Keeps.refl _ _).setOne _).setOne _
    exact ⟨⟨_, rfl⟩, ⟨⟨at_, p, hb2, hl, fun h => absurd h HE.out, fun _ => rfl⟩, H.out.bytes.keeps hkF (fun j hj (e : j = b) => H.out.own (by rw [hj, e])), H.out.own⟩, hkF⟩
  · have hs : s.fail e p = s := by unfold RS.fail; rw [if_neg hc]
    rw [hs]
    by_cases h0 : s.err = 0
    · have d0 : (s.err == 0) = true := by simpa using h0
      have d1 : (e != 0) = false := by simp; exact Classical.byContradiction fun he => hc ⟨h0, he⟩
      clear hs h0 hc
      go_enter Tryd.func63, Tryd.ntmps63
      go_wp2
      go_end0
      exact ⟨⟨_, rfl⟩, H.out, Keeps.refl _ _⟩
    · have d0 : (s.err == 0) = false := by simpa using h0
      clear hs h0 hc
      go_enter Tryd.func63, Tryd.ntmps63
      go_wp2
      go_end0
      exact ⟨⟨_, rfl⟩, H.out, Keeps.refl _ _⟩
theorem rrNew_ok (a : Value) (l : List UInt8) (w : World) (ha : BytesAt w a l) (hl : l.length ≤ 100000000) :
    Calls Tryd.prog 59 #[a] w fun e w' => ∃ b v, e = .returned (.pointer (some ⟨b, 0, none⟩)) ∧ RrAt w' b v l ⟨0, 0⟩ ∧ w.heap.size ≤ b ∧ (∀ j, v.ownBlock = some j → w.heap.size ≤ j ∧ j < w'.heap.size) ∧ Keeps Nob w w' := by
  have HC := Lib.hid (copyBytes_ok a l w ha hl)
  clear ha
  go_enter Tryd.func59, Tryd.ntmps59
  go_wp2_with (go_at_call 28; refine HC.out.mono ?_; rintro e w' ⟨v, rfl, h1, h2, h3, h4⟩; obtain ⟨A, cap, rfl⟩ := (Row.bytes h1).len; have H1 := Lib.hid h1; have H2 := Lib.hid h2; clear h1 h2 h3)
  go_ret
  have hkA : Keeps Nob w' (w'.alloc (.cells #[.slice A l.length cap, .int .i64 0, .int .i64 0, .int .i64 0] 100)) := (Keeps.refl _ _).alloc _
  refine ⟨w'.heap.size, .slice A l.length cap, rfl, ⟨⟨0, 0, heap_alloc_new _ _, Nat.zero_le _, fun _ => ⟨rfl, rfl⟩, fun h => absurd rfl h⟩, (Row.bytes H1.out).keepsN hkA, fun h => ?_⟩, h4.size, fun j hj => ⟨H2.out j hj, Nat.lt_of_lt_of_le (H1.out.lt hj) hkA.size⟩, h4.trans hkA⟩
  exact absurd (H1.out.lt h) (by omega)
end Go.Proofs.YtpflmldmbpnllaaDoor
namespace Go.Proofs.YtpflmldmbpnllaaDoor
set_option maxRecDepth 100000
set_option maxHeartbeats 4000000
open Go Go.RowKit Go.Own Go.Shelf
theorem rrU_ok (b : Nat) (v : Value) (l : List UInt8) (s : RS) (w : World) (h : RrAt w b v l s) :
    Calls Tryd.prog 81 #[.pointer (some ⟨b, 0, none⟩)] w fun e w' => e = .returned (.int .u64 (rdU l s).1) ∧ RrAt w' b v l (rdU l s).2 ∧ Keeps (One b) w w' := by
  have H := Lib.hid h
  have hll := h.bytes.length_le
  obtain ⟨A, cap, rfl⟩ := h.bytes.len
  obtain ⟨at_, ea, hb, hl, h1, h2⟩ := h.ex
  have c2 : w.cell? ⟨b, 2, none⟩ = some (.int .i64 s.err) := (cell_of_row w b 2 _ _ _ hb).trans rfl
  have HBK := Lib.hid hb
  have K1 := Lib.hid h1
  have K2 := Lib.hid h2
  clear h hb h1 h2
  by_cases h0 : s.err = 0
  · have hp := (K1.out h0).1
    have d0 : (s.err != 0) = false := by simpa using h0
    have e0 : s.num l = Cod.num (l.drop at_) := by unfold RS.num; rw [show s.pos.toNat = at_ by omega]
    have hok := Cod.num_ok (l.drop at_)
    have g1 := getAt_ok l at_ hl
    have g2 := getAt_bad l at_ hl
    have e1 : (rdU l s).1 = if (Cod.num (l.drop at_)).2.2 = 0 then ((Cod.num (l.drop at_)).1 : Int) else 0 := by unfold rdU; rw [e0]; simp [h0]
    have e2 : (rdU l s).2 = if (Cod.num (l.drop at_)).2.2 = 0 then ⟨0, s.pos + (Cod.num (l.drop at_)).2.1⟩ else ⟨(Cod.num (l.drop at_)).2.2, s.pos⟩ := by unfold rdU; rw [e0]; simp only [RS.read, h0]; rfl
    have HF := Lib.hid (fun W (hk : Keeps Nob w W) => rGet_ok (.slice A l.length cap) l (at_ : Int) W (H.out.bytes.keepsN hk))
    generalize Cod.num (l.drop at_) = r at *
    obtain ⟨n, k, er⟩ := r
    simp only at hok g1 g2 e1 e2
    have HP := Lib.hid hp
    have E1 := Lib.hid e1
    have E2 := Lib.hid e2
    have H0 := Lib.hid h0
    rw [h0] at c2
    clear hp e0 e1 e2 h0 d0
    by_cases he : er = 0
    · subst he
      obtain ⟨hn, hk0, hkl, hk10, _⟩ := hok rfl
      rw [List.length_drop] at hkl
      rw [g1 rfl] at HF
      have HFF : Hid (∀ W, Keeps Nob w W → Calls Tryd.prog 98 #[.slice A l.length cap, .int .i64 (at_ : Int)] W fun e w' => e = .returned (.tuple #[.int .u64 (n : Int), .int .i64 ((at_ : Int) + (k : Int)), .agg #[.int .i64 0, .int .i64 0]]) ∧ Keeps Nob W w') := HF
      clear HF g1 g2 hok hn
      go_enter Tryd.func81, Tryd.ntmps81
      go_wp2
      refine refU_region (by kernel_rfl) b A l cap at_ s.err ea w HBK.out (n : Int) ((at_ : Int) + (k : Int)) 0 0 HFF.out _ ?_
      intro gf W hW hg hgf
      have hbW := (hW.block b (lt_of_block HBK.out) (fun x => x)).trans HBK.out
      have q0 : W.cell? ⟨gf, 0, none⟩ = some (.int .i64 0) := (cell_of_row W gf 0 _ _ _ hgf).trans rfl
      have q1 : W.frozen? ⟨b, 1, none⟩ = false := frozen_of_row W b 1 _ _ hbW
      have q2 : W.cell? ⟨b, 1, none⟩ = some (.int .i64 (at_ : Int)) := (cell_of_row W b 1 _ _ _ hbW).trans rfl
      have HBW := Lib.hid hbW
      clear hbW hgf
      go_wp2
      go_ret
      have hb2 := heap_setCell_same W b 1 _ _ (.int .i64 ((at_ : Int) + k)) HBW.out
      have hkF : Keeps (One b) w (W.setCell ⟨b, 1, none⟩ (.int .i64 ((at_ : Int) + k))) := (hW.mono (fun _ _ x => x.elim)).setOne _
      rw [E1.out, E2.out, if_pos True.intro, if_pos True.intro]
      refine ⟨rfl, ⟨⟨at_ + k, 0, ?_, by omega, fun _ => ⟨by rw [HP.out]; simp, rfl⟩, fun h => absurd rfl h⟩, H.out.bytes.keeps hkF (fun j hj (e : j = b) => H.out.own (by rw [hj, e])), H.out.own⟩, hkF⟩
      rw [show (((at_ + k : Nat)) : Int) = (at_ : Int) + k by omega]
      rw [H0.out, (K1.out H0.out).2] at hb2
      exact hb2
    · rw [g2 he] at HF
      have HFF : Hid (∀ W, Keeps Nob w W → Calls Tryd.prog 98 #[.slice A l.length cap, .int .i64 (at_ : Int)] W fun e w' => e = .returned (.tuple #[.int .u64 0, .int .i64 0, .agg #[.int .i64 er, .int .i64 (at_ : Int)]]) ∧ Keeps Nob W w') := HF
      have d1 : (er != 0) = true := by simpa using he
      have HE := Lib.hid he
      clear HF g1 g2 hok he
      go_enter Tryd.func81, Tryd.ntmps81
      go_wp2
      refine refU_region (by kernel_rfl) b A l cap at_ s.err ea w HBK.out 0 0 er (at_ : Int) HFF.out _ ?_
      intro gf W hW hg hgf
      have hbW := (hW.block b (lt_of_block HBK.out) (fun x => x)).trans HBK.out
      have q0 : W.cell? ⟨gf, 0, none⟩ = some (.int .i64 er) := (cell_of_row W gf 0 _ _ _ hgf).trans rfl
      have q1 : W.cell? ⟨gf, 1, none⟩ = some (.int .i64 (at_ : Int)) := (cell_of_row W gf 1 _ _ _ hgf).trans rfl
      have q2 : W.frozen? ⟨b, 2, none⟩ = false := frozen_of_row W b 2 _ _ hbW
      have q3 : W.frozen? ⟨b, 3, none⟩ = false := frozen_of_row W b 3 _ _ hbW
      have q4 : W.cell? ⟨b, 2, none⟩ = some (.int .i64 s.err) := (cell_of_row W b 2 _ _ _ hbW).trans rfl
      have q5 : W.cell? ⟨b, 3, none⟩ = some (.int .i64 ea) := (cell_of_row W b 3 _ _ _ hbW).trans rfl
      have HBW := Lib.hid hbW
      clear hbW hgf
      go_wp2
      go_ret
      have hb2 := heap_setCell_same _ b 3 _ _ (.int .i64 (at_ : Int)) (heap_setCell_same W b 2 _ _ (.int .i64 er) HBW.out)
      have hkF : Keeps (One b) w ((W.setCell ⟨b, 2, none⟩ (.int .i64 er)).setCell ⟨b, 3, none⟩ (.int .i64 (at_ : Int))) := ((hW.mono (fun _ _ x => x.elim)).setOne _).setOne _
      rw [E1.out, E2.out, if_neg HE.out, if_neg HE.out]
      exact ⟨rfl, ⟨⟨at_, (at_ : Int), hb2, hl, fun h => absurd h HE.out, fun _ => HP.out⟩, H.out.bytes.keeps hkF (fun j hj (e : j = b) => H.out.own (by rw [hj, e])), H.out.own⟩, hkF⟩
  · have e1 : rdU l s = (0, s) := by unfold rdU RS.read; simp [h0]
    rw [e1]
    have d0 : (s.err != 0) = true := by simpa using h0
    clear h0 e1
    go_enter Tryd.func81, Tryd.ntmps81
    go_wp2
    go_ret
    exact ⟨rfl, H.out, Keeps.refl _ _⟩
theorem RrAt.c1 {w : World} {b : Nat} {v : Value} {l : List UInt8} {s : RS} (h : RrAt w b v l s) : ∃ at_ : Nat, at_ ≤ l.length ∧ w.cell? ⟨b, 1, none⟩ = some (.int .i64 (at_ : Int)) ∧ (s.err = 0 → s.pos = at_) := by
  obtain ⟨at_, ea, hb, hl, h1, _⟩ := h.ex
  exact ⟨at_, hl, (cell_of_row w b 1 _ _ _ hb).trans rfl, fun h => (h1 h).1⟩
theorem RrAt.c2 {w : World} {b : Nat} {v : Value} {l : List UInt8} {s : RS} (h : RrAt w b v l s) : w.cell? ⟨b, 2, none⟩ = some (.int .i64 s.err) := by
  obtain ⟨at_, ea, hb, hl, h1, _⟩ := h.ex
  exact (cell_of_row w b 2 _ _ _ hb).trans rfl
theorem rdU_cases (l : List UInt8) (s : RS) (hp : s.err = 0 → 0 ≤ s.pos ∧ s.pos ≤ l.length) :
    (s.err ≠ 0 ∧ rdU l s = (0, s)) ∨ (s.err = 0 ∧ (s.num l).2.2 ≠ 0 ∧ rdU l s = (0, ⟨(s.num l).2.2, s.pos⟩)) ∨
    (s.err = 0 ∧ (s.num l).2.2 = 0 ∧ (s.num l).1 < 18446744073709551616 ∧ s.pos + (s.num l).2.1 ≤ l.length ∧ rdU l s = (((s.num l).1 : Int), ⟨0, s.pos + (s.num l).2.1⟩)) := by
  by_cases h0 : s.err = 0
  · by_cases h1 : (s.num l).2.2 = 0
    · have h2 := s.num_le l (hp h0).1 (hp h0).2 h1
      refine .inr (.inr ⟨h0, h1, ?_, h2, ?_⟩)
      · have := (Cod.num_ok _ h1).1; unfold RS.num; simpa using this
      · unfold rdU RS.read; rw [if_pos ⟨h0, h1⟩, if_pos h0, if_pos h1]
    · refine .inr (.inl ⟨h0, h1, ?_⟩)
      unfold rdU RS.read; rw [if_neg (fun h => h1 h.2), if_pos h0, if_neg h1]
  · refine .inl ⟨h0, ?_⟩
    unfold rdU RS.read; rw [if_neg (fun h => h0 h.1), if_neg h0]
theorem rdN_spec (l : List UInt8) (s : RS) (least most : Int) (hp : s.err = 0 → 0 ≤ s.pos ∧ s.pos ≤ l.length) :
    ((rdU l s).2.err ≠ 0 ∧ rdN l s least most = (0, (rdU l s).2)) ∨
    ∃ (n : Nat) (p : Int), n < 18446744073709551616 ∧ s.err = 0 ∧ rdU l s = ((n : Int), ⟨0, p⟩) ∧ rdN l s least most = if outN n least most then (0, ⟨3, s.pos⟩) else ((n : Int), ⟨0, p⟩) := by
  rcases rdU_cases l s hp with ⟨h0, h1⟩ | ⟨h0, h1, h2⟩ | ⟨h0, h1, h2, h3, h4⟩
  · refine .inl ⟨by rw [h1]; exact h0, ?_⟩
    rw [h1]; unfold rdN RS.read; rw [if_neg (fun h => h0 h.1), if_neg h0]
  · refine .inl ⟨by rw [h2]; exact h1, ?_⟩
    have : errN (s.num l) least most = (s.num l).2.2 := by unfold errN; rw [if_neg (fun h => h1 h.1)]
    rw [h2]; unfold rdN RS.read; rw [this, if_neg (fun h => h1 h.2), if_pos h0, if_neg h1]
  · refine .inr ⟨_, _, h2, h0, h4, ?_⟩
    unfold rdN RS.read errN
    by_cases ho : outN (s.num l).1 least most
    · simp [h0, h1, ho]
    · simp [h0, h1, ho]
theorem rrN_ok (b : Nat) (v : Value) (l : List UInt8) (s : RS) (least most : Int) (w : World) (h : RrAt w b v l s)
   (m2 : -9223372036854775808 ≤ least ∧ least ≤ 9223372036854775807) (m1 : -9223372036854775808 ≤ most ∧ most ≤ 9223372036854775807) :
    Calls Tryd.prog 60 #[.pointer (some ⟨b, 0, none⟩), .int .i64 least, .int .i64 most] w fun e w' => e = .returned (.int .i64 (rdN l s least most).1) ∧ RrAt w' b v l (rdN l s least most).2 ∧ Keeps (One b) w w' := by
  have HU := Lib.hid (rrU_ok b v l s w h)
  obtain ⟨at_, hl, c1, hp⟩ := h.c1
  have hpos := h.pos
  have key := rdN_spec l s least most hpos
  obtain ⟨m1a, m1b⟩ := m1
  obtain ⟨m2a, m2b⟩ := m2
  rcases key with ⟨h1, h2⟩ | ⟨n, p, hn, h0, h1, h2⟩
  · rw [h2]
    clear h h2 hp
    obtain ⟨⟨nv, s1⟩, hr⟩ : ∃ r, rdU l s = r := ⟨_, rfl⟩
    rw [hr] at HU h1 ⊢
    simp only at HU h1 ⊢
    have d0 : (s1.err == 0) = false := by simpa using h1
    have d1 : (s1.err != 0) = true := by simpa using h1
    clear hr h1 hpos
    go_enter Tryd.func60, Tryd.ntmps60
    go_wp2_with (go_at_call 81; refine HU.out.mono ?_; rintro e w1 ⟨rfl, hR, hK⟩; have q2 := hR.c2; have HR1 := Lib.hid hR; have HK1 := Lib.hid hK; clear hR hK)
    go_ret
    exact ⟨rfl, HR1.out, HK1.out⟩
  · have hp := hp h0
    rw [h2]
    rw [h1] at HU
    simp only at HU
    have H0 := Lib.hid h0
    have HP := Lib.hid hp
    clear h h1 h2 h0 hp hpos
    by_cases ho : outN n least most
    · rw [if_pos ho]
      have e1 : (⟨0, p⟩ : RS).fail 3 (at_ : Int) = ⟨3, (at_ : Int)⟩ := by unfold RS.fail; simp
      have HF := Lib.hid (fun W h => rrFail_ok b v l ⟨0, p⟩ 3 (at_ : Int) W h)
      rw [e1] at HF
      unfold outN at ho
      have key : (most < 0 ∧ 0 < n) ∨ (most < 0 ∧ n = 0) ∨ (0 ≤ most ∧ most < (n : Int)) ∨ (0 ≤ most ∧ (n : Int) ≤ most ∧ 0 < least ∧ (n : Int) < least) := by omega
      clear ho e1
      have HS : Hid (s.pos = at_) := HP
      rcases key with ⟨a1, a2⟩ | ⟨a1, a2⟩ | ⟨a1, a2⟩ | ⟨a1, a2, a3, a4⟩
      · have d1 : decide (0 ≤ most) = false := by simpa using a1
        have d2 : decide (0 < n) = true := by simpa using a2
        have d3 : decide ((0 : Int) < (n : Int)) = true := by simpa using a2
        go_enter Tryd.func60, Tryd.ntmps60
        go_wp2_with (first
          | (go_at_call 81; refine HU.out.mono ?_; rintro e w1 ⟨rfl, hR, hK⟩; have q2 := hR.c2; have HR1 := Lib.hid hR; have HK1 := Lib.hid hK; clear hR hK; simp only at q2)
          | (go_at_call 63; refine (HF.out w1 HR1.out).mono ?_; rintro e w2 ⟨⟨r, rfl⟩, hR, hK⟩; have q3 := hR.c2; have HR2 := Lib.hid hR; have HK2 := Lib.hid hK; clear hR hK; simp only at q3))
        go_ret
        exact ⟨rfl, by rw [HS.out]; exact HR2.out, HK1.out.trans HK2.out⟩
      · subst a2
        have d1 : decide (0 ≤ most) = false := by simpa using a1
        have d2 : decide (most < 0) = true := by simpa using a1
        go_enter Tryd.func60, Tryd.ntmps60
        go_wp2_with (first
          | (go_at_call 81; refine HU.out.mono ?_; rintro e w1 ⟨rfl, hR, hK⟩; have q2 := hR.c2; have HR1 := Lib.hid hR; have HK1 := Lib.hid hK; clear hR hK; simp only at q2)
          | (go_at_call 63; refine (HF.out w1 HR1.out).mono ?_; rintro e w2 ⟨⟨r, rfl⟩, hR, hK⟩; have q3 := hR.c2; have HR2 := Lib.hid hR; have HK2 := Lib.hid hK; clear hR hK; simp only at q3))
        go_ret
        exact ⟨rfl, by rw [HS.out]; exact HR2.out, HK1.out.trans HK2.out⟩
      · have d1 : decide (0 ≤ most) = true := by simpa using a1
        have d2 : decide (most < (n : Int)) = true := by simpa using a2
        have w1' : IntKind.u64.wrap most = most := by simp [IntKind.wrap, IntKind.bits, IntKind.signed]; omega
        go_enter Tryd.func60, Tryd.ntmps60
        go_wp2_with (first
          | (go_at_call 81; refine HU.out.mono ?_; rintro e w1 ⟨rfl, hR, hK⟩; have q2 := hR.c2; have HR1 := Lib.hid hR; have HK1 := Lib.hid hK; clear hR hK; simp only at q2)
          | (go_at_call 63; refine (HF.out w1 HR1.out).mono ?_; rintro e w2 ⟨⟨r, rfl⟩, hR, hK⟩; have q3 := hR.c2; have HR2 := Lib.hid hR; have HK2 := Lib.hid hK; clear hR hK; simp only at q3))
        go_ret
        exact ⟨rfl, by rw [HS.out]; exact HR2.out, HK1.out.trans HK2.out⟩
      · have d1 : decide (0 ≤ most) = true := by simpa using a1
        have d2 : decide (most < (n : Int)) = false := by simpa using a2
        have d3 : decide (most < 0) = false := by simpa using a1
        have d4 : decide (0 < least) = true := by simpa using a3
        have d5 : decide ((n : Int) < least) = true := by simpa using a4
        have w1' : IntKind.u64.wrap most = most := by simp [IntKind.wrap, IntKind.bits, IntKind.signed]; omega
        have w2' : IntKind.u64.wrap least = least := by simp [IntKind.wrap, IntKind.bits, IntKind.signed]; omega
        go_enter Tryd.func60, Tryd.ntmps60
        go_wp2_with (first
          | (go_at_call 81; refine HU.out.mono ?_; rintro e w1 ⟨rfl, hR, hK⟩; have q2 := hR.c2; have HR1 := Lib.hid hR; have HK1 := Lib.hid hK; clear hR hK; simp only at q2)
          | (go_at_call 63; refine (HF.out w1 HR1.out).mono ?_; rintro e w2 ⟨⟨r, rfl⟩, hR, hK⟩; have q3 := hR.c2; have HR2 := Lib.hid hR; have HK2 := Lib.hid hK; clear hR hK; simp only at q3))
        go_ret
        exact ⟨rfl, by rw [HS.out]; exact HR2.out, HK1.out.trans HK2.out⟩
    · rw [if_neg ho]
      unfold outN at ho
      have a1 : 0 ≤ most := by omega
      have a2 : (n : Int) ≤ most := by omega
      have w3' : wrap64 (n : Int) = (n : Int) := IntWalk.wrap64_in (n : Int) ⟨by omega, by omega⟩
      have d1 : decide (0 ≤ most) = true := by simpa using a1
      have d2 : decide (most < (n : Int)) = false := by simpa using a2
      have d3 : decide (most < 0) = false := by simpa using a1
      have w1' : IntKind.u64.wrap most = most := by simp [IntKind.wrap, IntKind.bits, IntKind.signed]; omega
      by_cases a3 : 0 < least
      · have a4 : least ≤ (n : Int) := by omega
        have d4 : decide (0 < least) = true := by simpa using a3
        have d5 : decide ((n : Int) < least) = false := by simpa using a4
        have w2' : IntKind.u64.wrap least = least := by simp [IntKind.wrap, IntKind.bits, IntKind.signed]; omega
        clear ho
        go_enter Tryd.func60, Tryd.ntmps60
        go_wp2_with (first
          | (go_at_call 81; refine HU.out.mono ?_; rintro e w1 ⟨rfl, hR, hK⟩; have q2 := hR.c2; have HR1 := Lib.hid hR; have HK1 := Lib.hid hK; clear hR hK; simp only at q2)
          | (go_at_call 63; refine (HF.out w1 HR1.out).mono ?_; rintro e w2 ⟨⟨r, rfl⟩, hR, hK⟩; have q3 := hR.c2; have HR2 := Lib.hid hR; have HK2 := Lib.hid hK; clear hR hK; simp only at q3))
        go_ret
        exact ⟨rfl, HR1.out, HK1.out⟩
      · have d4 : decide (0 < least) = false := by simpa using a3
        clear ho
        go_enter Tryd.func60, Tryd.ntmps60
        go_wp2_with (first
          | (go_at_call 81; refine HU.out.mono ?_; rintro e w1 ⟨rfl, hR, hK⟩; have q2 := hR.c2; have HR1 := Lib.hid hR; have HK1 := Lib.hid hK; clear hR hK; simp only at q2)
          | (go_at_call 63; refine (HF.out w1 HR1.out).mono ?_; rintro e w2 ⟨⟨r, rfl⟩, hR, hK⟩; have q3 := hR.c2; have HR2 := Lib.hid hR; have HK2 := Lib.hid hK; clear hR hK; simp only at q3))
        go_ret
        exact ⟨rfl, HR1.out, HK1.out⟩
end Go.Proofs.YtpflmldmbpnllaaDoor
namespace Go.Own
set_option maxRecDepth 100000
set_option maxHeartbeats 4000000
open Go Go.RowKit
variable {P : Program}
end Go.Own
namespace Go.Proofs.YtpflmldmbpnllaaDoor
set_option maxRecDepth 100000
set_option maxHeartbeats 4000000
open Go Go.RowKit Go.Own Go.Shelf
end Go.Proofs.YtpflmldmbpnllaaDoor
namespace Go.Proofs.YtpflmldmbpnllaaDoor
set_option maxRecDepth 100000
set_option maxHeartbeats 4000000
open Go Go.RowKit Go.Own Go.Shelf
/-- An error stays. -/
theorem read_err {s : RS} {k : Nat} {e : Int} (h : (s.read k e).err = 0) : s.err = 0 ∧ e = 0 := by
  unfold RS.read at h
  by_cases h0 : s.err = 0
  · rw [if_pos h0] at h
    by_cases h1 : e = 0
    · exact ⟨h0, h1⟩
    · rw [if_neg h1] at h; exact absurd h h1
  · rw [if_neg h0] at h; exact absurd h h0
theorem rdN_err {l : List UInt8} {s : RS} {lo hi : Int} (h : (rdN l s lo hi).2.err = 0) : s.err = 0 ∧ errN (s.num l) lo hi = 0 := read_err h
end Go.Proofs.YtpflmldmbpnllaaDoor
