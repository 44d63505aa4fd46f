/-
  Codec: how a thing is read, by a func that is told the rest (printed by codread.py). Conditions: none.
-/
import Derived.Test.YtmapcghgdbfmhaaCodI
namespace Go.Proofs.Ytmapcghgdbfmhaa
open Go Go.RowKit Go.Own Go.Shelf

set_option maxRecDepth 100000 in
theorem exec_cut {o : Oper} {ρ : Operand → Value} {w : World} (x y : Operand) (ho : o.op = .slice 22 x (some y) none none) (A : Option Addr) (n cap k : Nat) (hx : ρ x = .slice A n cap) (hy : ρ y = .int .i64 (k : Int)) (hk : k ≤ n) :
    (execOp ρ o).run Try.prog w = .ok (.value (cutV A n cap k)) w := by
  have hc := run_cut (P := Try.prog) (t := 22) rfl bytes_size A n cap k hk w
  unfold execOp
  simp only [ho, hx, hy, Option.map_some, Option.map_none, Sem.run_bind, hc, Result.andThen_ok, Sem.run_pure]
theorem state_eq {Q : Exit → Act → World → Prop} {e : Exit} {a b : Act} {w : World} (h : a = b) (hq : Q e b w) : Q e a w := h ▸ hq
/-- What is read: as the func told it, or nothing. -/
def RdVal (s : RS) (er : Int) (PX : World → Value → Prop) (z : Value) (w : World) (V : Value) : Prop := (s.err = 0 ∧ er = 0 ∧ PX w V) ∨ (¬ (s.err = 0 ∧ er = 0) ∧ V = z)
/-- The state behind a read. -/
def RS.read (s : RS) (k : Nat) (er : Int) : RS := if s.err = 0 then (if er = 0 then ⟨0, s.pos + k⟩ else ⟨er, s.pos⟩) else s


noncomputable def opsreadU : Array Oper := opsOf Try.f140 4
set_option maxRecDepth 100000 in
set_option maxHeartbeats 8000000 in
theorem readU_core (f : FuncId) (caps : Array Value) (hent : ∀ args w, (callFunc f args).run Try.prog w = .ok (.enter f args) w) (b : Nat) (v fp : Value) (l : List UInt8) (s : RS) (w : World) (h : RdAt w b v fp l s) (k : Nat) (er : Int) (PX : World → Value → Prop)
    (HF0 : s.err = 0 → ∀ W A cap, v = .slice A l.length cap → Keeps Nob w W → Calls Try.prog f (#[cutV A l.length cap s.pos.toNat] ++ caps) W fun e W' => ∃ X, e = .returned (.tuple #[X, .int .i64 (k : Int), .int .i64 er]) ∧ PX W' X ∧ Keeps Nob W W')
    (hPX : ∀ W W' X, PX W X → Keeps (One b) W W' → PX W' X) (hk0 : s.err = 0 → er = 0 → s.pos + k ≤ l.length) :
    Calls Try.prog 140 #[.pointer (some ⟨b, 0, none⟩), .func (.func f) #[] caps] w fun e w' => ∃ V, e = .returned V ∧ RdVal s er PX (.int .u64 0) w' V ∧ (∃ fp', RdAt w' b v fp' l (s.read k er) ∧ NewPtr w fp fp') ∧ Keeps (One b) w w' := by
  have H := Lib.hid h
  have HN := Lib.hid (rnone_ok b v fp l s w h)
  have hll := h.bytes.length_le
  obtain ⟨A, cap, rfl⟩ := h.bytes.len
  obtain ⟨at_, hb, hl, hf⟩ := h.ex
  have hlt := h.lt
  have c3 : w.cell? ⟨b, 3, none⟩ = some fp := (cell_of_row w b 3 _ _ _ hb).trans rfl
  have HBK := Lib.hid hb
  have HPX := Lib.hid hPX
  clear h hb hPX
  rcases hf with ⟨h0, hp, rfl⟩ | ⟨h0, g, rfl, hg, hc⟩
  · have hpn : s.pos.toNat = at_ := by omega
    have HF := HF0 h0
    have hk := hk0 h0
    rw [hpn] at HF
    have e1 : s.read k er = if er = 0 then ⟨0, s.pos + k⟩ else ⟨er, s.pos⟩ := by unfold RS.read; rw [if_pos h0]
    rw [e1]
    have HFH := Lib.hid (fun W => HF W A cap rfl)
    have HP := Lib.hid hp
    have H0 := Lib.hid h0
    have HK := Lib.hid hk
    clear e1 HF hpn hp h0 hk HF0 hk0
    go_enter Try.func140, Try.ntmps140
    go_wp2_with (go_at_call 65; refine HN.out.mono ?_; rintro e w' ⟨rfl, rfl⟩)
    refine wp_region_noPanic ?_
    refine region_named (R := opsreadU) (by kernel_rfl) ?_
    refine wp_regionH_fuel (fun W => Keeps Nob w W) 18 #[false, false, false, false, false, false, false, false, false, false, false, false, false, false, false, false, false, false] (by kernel_rfl) (by kernel_rfl) rfl ?_
    have S0 : Keeps Nob w w.drew := (Keeps.refl _ _).drew
    have cb : ∀ W, Keeps Nob w W → W.heap[b]? = some (.cells #[.slice A l.length cap, .int .i64 (at_ : Int), .bool true, .pointer none] 100 (0, 0)) := fun W hW => (hW.block b hlt (fun x => x)).trans HBK.out
    refine wpAnyH_val (i := 0) (opsreadU.getD 0 default) (.func (.func f) #[] caps) (by kernel_rfl) (fun _ _ _ _ _ h => h) (by kernel_rfl) (by kernel_rfl) (by kernel_rfl) (by kernel_rfl) (fun W hW => by kernel_rfl) S0 ?_
    refine wpAnyH_val (i := 1) (opsreadU.getD 1 default) (.pointer (some ⟨b, 0, none⟩)) (by kernel_rfl) (fun _ _ _ _ _ h => h) (by kernel_rfl) (by kernel_rfl) (by kernel_rfl) (by kernel_rfl) (fun W hW => by kernel_rfl) S0 ?_
    refine wpAnyH_val (i := 2) (opsreadU.getD 2 default) (.pointer (some ⟨b, 0, none⟩)) (by kernel_rfl) (fun _ _ _ _ _ h => h) (by kernel_rfl) (by kernel_rfl) (by kernel_rfl) (by kernel_rfl) (fun W hW => by kernel_rfl) S0 ?_
    refine wpAnyH_val (i := 3) (opsreadU.getD 3 default) (.pointer (some ⟨b, 0, none⟩)) (by kernel_rfl) (fun _ _ _ _ _ h => h) (by kernel_rfl) (by kernel_rfl) (by kernel_rfl) (by kernel_rfl) (fun W hW => by kernel_rfl) S0 ?_
    refine wpAnyH_val (i := 4) (opsreadU.getD 4 default) (.slice A l.length cap) (by kernel_rfl) (fun _ _ _ _ _ h => h) (by kernel_rfl) (by kernel_rfl) (by kernel_rfl) (by kernel_rfl) (fun W hW => exec_load_cell 22 (.tmp 23) (by kernel_rfl) ⟨b, 0, none⟩ (by kernel_rfl) _ _ Try.underlying22 rfl ((cell_of_row W b 0 _ _ _ (cb W hW)).trans rfl)) S0 ?_
    refine wpAnyH_val (i := 5) (opsreadU.getD 5 default) (.pointer (some ⟨b, 0, none⟩)) (by kernel_rfl) (fun _ _ _ _ _ h => h) (by kernel_rfl) (by kernel_rfl) (by kernel_rfl) (by kernel_rfl) (fun W hW => by kernel_rfl) S0 ?_
    refine wpAnyH_val (i := 6) (opsreadU.getD 6 default) (.pointer (some ⟨b, 0, none⟩)) (by kernel_rfl) (fun _ _ _ _ _ h => h) (by kernel_rfl) (by kernel_rfl) (by kernel_rfl) (by kernel_rfl) (fun W hW => by kernel_rfl) S0 ?_
    refine wpAnyH_val (i := 7) (opsreadU.getD 7 default) (.pointer (some ⟨b, 1, none⟩)) (by kernel_rfl) (fun _ _ _ _ _ h => h) (by kernel_rfl) (by kernel_rfl) (by kernel_rfl) (by kernel_rfl) (fun W hW => by kernel_rfl) S0 ?_
    refine wpAnyH_val (i := 8) (opsreadU.getD 8 default) (.int .i64 (at_ : Int)) (by kernel_rfl) (fun _ _ _ _ _ h => h) (by kernel_rfl) (by kernel_rfl) (by kernel_rfl) (by kernel_rfl) (fun W hW => exec_load_cell 3 (.tmp 27) (by kernel_rfl) ⟨b, 1, none⟩ (by kernel_rfl) _ _ Try.underlying3 rfl ((cell_of_row W b 1 _ _ _ (cb W hW)).trans rfl)) S0 ?_
    refine wpAnyH_val (i := 9) (opsreadU.getD 9 default) (cutV A l.length cap at_) (by kernel_rfl) (fun _ _ _ _ _ h => h) (by kernel_rfl) (by kernel_rfl) (by kernel_rfl) (by kernel_rfl) (fun W hW => exec_cut (.tmp 24) (.tmp 28) (by kernel_rfl) A l.length cap at_ (by kernel_rfl) (by kernel_rfl) hl) S0 ?_
    refine wpAnyH_callV (i := 10) (opsreadU.getD 10 default) (.tmp 20) f caps (#[cutV A l.length cap at_] ++ caps) (by kernel_rfl) (by kernel_rfl) (by kernel_rfl) (by kernel_rfl) (by kernel_rfl) (by kernel_rfl) hent ((HFH.out _ S0).mono ?_)
    rintro e W1 ⟨X, rfl, hX, k1⟩
    have S1 : Keeps Nob w W1 := S0.trans k1
    refine ⟨_, rfl, S1, ?_⟩
    refine wpAnyH_run (i := 11) (opsreadU.getD 11 default) (.tuple #[X, .int .i64 (k : Int), .int .i64 er]) (w' := W1) (by kernel_rfl) (by kernel_rfl) (by kernel_rfl) (.inl (by kernel_rfl)) S1 ?_
    refine wpAnyH_val (i := 12) (opsreadU.getD 12 default) (X) (by kernel_rfl) (fun _ _ _ _ _ h => h) (by kernel_rfl) (by kernel_rfl) (by kernel_rfl) (by kernel_rfl) (fun W hW => by kernel_rfl) S1 ?_
    refine wpAnyH_val (i := 13) (opsreadU.getD 13 default) (.int .i64 (k : Int)) (by kernel_rfl) (fun _ _ _ _ _ h => h) (by kernel_rfl) (by kernel_rfl) (by kernel_rfl) (by kernel_rfl) (fun W hW => by kernel_rfl) S1 ?_
    refine wpAnyH_val (i := 14) (opsreadU.getD 14 default) (.int .i64 er) (by kernel_rfl) (fun _ _ _ _ _ h => h) (by kernel_rfl) (by kernel_rfl) (by kernel_rfl) (by kernel_rfl) (fun W hW => by kernel_rfl) S1 ?_
    refine wpAnyH_run (i := 15) (opsreadU.getD 15 default) (X) (w' := W1) (by kernel_rfl) (by kernel_rfl) (by kernel_rfl) (.inl (by kernel_rfl)) S1 ?_
    refine wpAnyH_run (i := 16) (opsreadU.getD 16 default) (.int .i64 (k : Int)) (w' := W1) (by kernel_rfl) (by kernel_rfl) (by kernel_rfl) (.inl (by kernel_rfl)) S1 ?_
    refine wpAnyH_run (i := 17) (opsreadU.getD 17 default) (.int .i64 er) (w' := W1) (by kernel_rfl) (by kernel_rfl) (by kernel_rfl) (.inl (by kernel_rfl)) S1 ?_
    refine wpAnyH_done (by kernel_rfl) ?_ _
    refine NoPanic.normal ?_
    refine state_eq (b := ⟨#[.pointer (some ⟨b, 0, none⟩), .func (.func f) #[] caps, undef, undef, .int .u64 0, .int .u64 0, X, .int .i64 (k : Int), .int .i64 er, .pointer (some ⟨b, 0, none⟩), .bool false, .bool false, .pointer (some ⟨b, 0, none⟩), .pointer (some ⟨b, 0, none⟩), .pointer (some ⟨b, 3, none⟩), .pointer none, .bool false, .bool false, undef, .tuple #[X, .int .i64 (k : Int), .int .i64 er], .func (.func f) #[] caps, .pointer (some ⟨b, 0, none⟩), .pointer (some ⟨b, 0, none⟩), .pointer (some ⟨b, 0, none⟩), .slice A l.length cap, .pointer (some ⟨b, 0, none⟩), .pointer (some ⟨b, 0, none⟩), .pointer (some ⟨b, 1, none⟩), .int .i64 (at_ : Int), cutV A l.length cap at_, .tuple #[X, .int .i64 (k : Int), .int .i64 er], X, .int .i64 (k : Int), .int .i64 er, undef, undef, undef, undef, undef, undef, undef, undef, undef, undef, undef, undef, undef, undef, undef, undef, undef, undef, undef], []⟩) (by kernel_rfl) ?_
    have HX := Lib.hid hX
    have hbW := cb W1 S1
    have a1 : W1.cell? ⟨b, 1, none⟩ = some (.int .i64 (at_ : Int)) := (cell_of_row W1 b 1 _ _ _ hbW).trans rfl
    have a2 : W1.frozen? ⟨b, 1, none⟩ = false := frozen_of_row W1 b 1 _ _ hbW
    have HBW := Lib.hid hbW
    clear cb hX hbW
    generalize cutV A l.length cap at_ = cv at *
    by_cases he : er = 0
    · subst he
      have hkk := HK.out rfl
      rw [HP.out] at hkk
      go_wp2_with fail
      go_ret
      try simp only [if_true]
      have hkS : Keeps (One b) W1 (W1.setCell ⟨b, 1, none⟩ (.int .i64 ((at_ : Int) + k))) := (Keeps.refl _ _).setOne _
      have hkw : Keeps (One b) w (W1.setCell ⟨b, 1, none⟩ (.int .i64 ((at_ : Int) + k))) := (S1.mono (fun _ _ x => x.elim)).trans hkS
      refine ⟨_, rfl, .inl ⟨H0.out, rfl, HPX.out _ _ _ HX.out hkS⟩, ⟨.pointer none, ⟨⟨at_ + k, ?_, by omega, .inl ⟨rfl, by rw [HP.out]; simp, rfl⟩⟩, H.out.bytes.keeps hkw (fun j hj (e : j = b) => H.out.own (by rw [hj, e])), H.out.own⟩, .inl rfl⟩, hkw⟩
      rw [show (((at_ + k : Nat)) : Int) = (at_ : Int) + k by omega]
      exact heap_setCell_same W1 b 1 _ _ _ HBW.out
    · have hb : (er != 0) = true := by simpa using he
      have HFa := Lib.hid (rFail_ok b (.slice A l.length cap) (.pointer none) l s er (at_ : Int) W1 (H.out.keeps S1 (fun _ _ x => x)))
      have hs : s.fail er (at_ : Int) = ⟨er, s.pos⟩ := by unfold RS.fail; rw [if_pos ⟨H0.out, he⟩, HP.out]
      rw [hs] at HFa
      have HE := Lib.hid he
      clear hs he
      go_wp2_with (go_at_call 87; refine HFa.out.mono ?_; rintro e w' ⟨⟨r, rfl⟩, ⟨fp', h1, h2⟩, h3⟩; have H1 := Lib.hid h1; have H2 := Lib.hid h2; clear h1 h2)
      go_ret
      try simp only [if_neg HE.out]
      refine ⟨_, rfl, .inr ⟨fun h => HE.out h.2, rfl⟩, ⟨fp', H1.out, ?_⟩, (S1.mono (fun _ _ x => x.elim)).trans h3⟩
      rcases H2.out with h | ⟨g, h, hg⟩
      · exact .inl h
      · exact .inr ⟨g, h, Nat.le_trans S1.size hg⟩
  · have e1 : s.read k er = s := by unfold RS.read; rw [if_neg h0]
    rw [e1]
    have HE := Lib.hid h0
    clear e1 h0 hc HF0 hk0
    go_enter Try.func140, Try.ntmps140
    go_wp2_with (go_at_call 65; refine HN.out.mono ?_; rintro e w' ⟨rfl, rfl⟩)
    go_ret
    exact ⟨_, rfl, .inr ⟨fun h => HE.out h.1, rfl⟩, ⟨_, H.out, .inl rfl⟩, Keeps.refl _ _⟩

noncomputable def opsreadI : Array Oper := opsOf Try.f61 4
set_option maxRecDepth 100000 in
set_option maxHeartbeats 8000000 in
theorem readI_core (f : FuncId) (caps : Array Value) (hent : ∀ args w, (callFunc f args).run Try.prog w = .ok (.enter f args) w) (b : Nat) (v fp : Value) (l : List UInt8) (s : RS) (w : World) (h : RdAt w b v fp l s) (k : Nat) (er : Int) (PX : World → Value → Prop)
    (HF0 : s.err = 0 → ∀ W A cap, v = .slice A l.length cap → Keeps Nob w W → Calls Try.prog f (#[cutV A l.length cap s.pos.toNat] ++ caps) W fun e W' => ∃ X, e = .returned (.tuple #[X, .int .i64 (k : Int), .int .i64 er]) ∧ PX W' X ∧ Keeps Nob W W')
    (hPX : ∀ W W' X, PX W X → Keeps (One b) W W' → PX W' X) (hk0 : s.err = 0 → er = 0 → s.pos + k ≤ l.length) :
    Calls Try.prog 61 #[.pointer (some ⟨b, 0, none⟩), .func (.func f) #[] caps] w fun e w' => ∃ V, e = .returned V ∧ RdVal s er PX (.int .i64 0) w' V ∧ (∃ fp', RdAt w' b v fp' l (s.read k er) ∧ NewPtr w fp fp') ∧ Keeps (One b) w w' := by
  have H := Lib.hid h
  have HN := Lib.hid (rnone_ok b v fp l s w h)
  have hll := h.bytes.length_le
  obtain ⟨A, cap, rfl⟩ := h.bytes.len
  obtain ⟨at_, hb, hl, hf⟩ := h.ex
  have hlt := h.lt
  have c3 : w.cell? ⟨b, 3, none⟩ = some fp := (cell_of_row w b 3 _ _ _ hb).trans rfl
  have HBK := Lib.hid hb
  have HPX := Lib.hid hPX
  clear h hb hPX
  rcases hf with ⟨h0, hp, rfl⟩ | ⟨h0, g, rfl, hg, hc⟩
  · have hpn : s.pos.toNat = at_ := by omega
    have HF := HF0 h0
    have hk := hk0 h0
    rw [hpn] at HF
    have e1 : s.read k er = if er = 0 then ⟨0, s.pos + k⟩ else ⟨er, s.pos⟩ := by unfold RS.read; rw [if_pos h0]
    rw [e1]
    have HFH := Lib.hid (fun W => HF W A cap rfl)
    have HP := Lib.hid hp
    have H0 := Lib.hid h0
    have HK := Lib.hid hk
    clear e1 HF hpn hp h0 hk HF0 hk0
    go_enter Try.func61, Try.ntmps61
    go_wp2_with (go_at_call 65; refine HN.out.mono ?_; rintro e w' ⟨rfl, rfl⟩)
    refine wp_region_noPanic ?_
    refine region_named (R := opsreadI) (by kernel_rfl) ?_
    refine wp_regionH_fuel (fun W => Keeps Nob w W) 18 #[false, false, false, false, false, false, false, false, false, false, false, false, false, false, false, false, false, false] (by kernel_rfl) (by kernel_rfl) rfl ?_
    have S0 : Keeps Nob w w.drew := (Keeps.refl _ _).drew
    have cb : ∀ W, Keeps Nob w W → W.heap[b]? = some (.cells #[.slice A l.length cap, .int .i64 (at_ : Int), .bool true, .pointer none] 100 (0, 0)) := fun W hW => (hW.block b hlt (fun x => x)).trans HBK.out
    refine wpAnyH_val (i := 0) (opsreadI.getD 0 default) (.func (.func f) #[] caps) (by kernel_rfl) (fun _ _ _ _ _ h => h) (by kernel_rfl) (by kernel_rfl) (by kernel_rfl) (by kernel_rfl) (fun W hW => by kernel_rfl) S0 ?_
    refine wpAnyH_val (i := 1) (opsreadI.getD 1 default) (.pointer (some ⟨b, 0, none⟩)) (by kernel_rfl) (fun _ _ _ _ _ h => h) (by kernel_rfl) (by kernel_rfl) (by kernel_rfl) (by kernel_rfl) (fun W hW => by kernel_rfl) S0 ?_
    refine wpAnyH_val (i := 2) (opsreadI.getD 2 default) (.pointer (some ⟨b, 0, none⟩)) (by kernel_rfl) (fun _ _ _ _ _ h => h) (by kernel_rfl) (by kernel_rfl) (by kernel_rfl) (by kernel_rfl) (fun W hW => by kernel_rfl) S0 ?_
    refine wpAnyH_val (i := 3) (opsreadI.getD 3 default) (.pointer (some ⟨b, 0, none⟩)) (by kernel_rfl) (fun _ _ _ _ _ h => h) (by kernel_rfl) (by kernel_rfl) (by kernel_rfl) (by kernel_rfl) (fun W hW => by kernel_rfl) S0 ?_
    refine wpAnyH_val (i := 4) (opsreadI.getD 4 default) (.slice A l.length cap) (by kernel_rfl) (fun _ _ _ _ _ h => h) (by kernel_rfl) (by kernel_rfl) (by kernel_rfl) (by kernel_rfl) (fun W hW => exec_load_cell 22 (.tmp 23) (by kernel_rfl) ⟨b, 0, none⟩ (by kernel_rfl) _ _ Try.underlying22 rfl ((cell_of_row W b 0 _ _ _ (cb W hW)).trans rfl)) S0 ?_
    refine wpAnyH_val (i := 5) (opsreadI.getD 5 default) (.pointer (some ⟨b, 0, none⟩)) (by kernel_rfl) (fun _ _ _ _ _ h => h) (by kernel_rfl) (by kernel_rfl) (by kernel_rfl) (by kernel_rfl) (fun W hW => by kernel_rfl) S0 ?_
    refine wpAnyH_val (i := 6) (opsreadI.getD 6 default) (.pointer (some ⟨b, 0, none⟩)) (by kernel_rfl) (fun _ _ _ _ _ h => h) (by kernel_rfl) (by kernel_rfl) (by kernel_rfl) (by kernel_rfl) (fun W hW => by kernel_rfl) S0 ?_
    refine wpAnyH_val (i := 7) (opsreadI.getD 7 default) (.pointer (some ⟨b, 1, none⟩)) (by kernel_rfl) (fun _ _ _ _ _ h => h) (by kernel_rfl) (by kernel_rfl) (by kernel_rfl) (by kernel_rfl) (fun W hW => by kernel_rfl) S0 ?_
    refine wpAnyH_val (i := 8) (opsreadI.getD 8 default) (.int .i64 (at_ : Int)) (by kernel_rfl) (fun _ _ _ _ _ h => h) (by kernel_rfl) (by kernel_rfl) (by kernel_rfl) (by kernel_rfl) (fun W hW => exec_load_cell 3 (.tmp 27) (by kernel_rfl) ⟨b, 1, none⟩ (by kernel_rfl) _ _ Try.underlying3 rfl ((cell_of_row W b 1 _ _ _ (cb W hW)).trans rfl)) S0 ?_
    refine wpAnyH_val (i := 9) (opsreadI.getD 9 default) (cutV A l.length cap at_) (by kernel_rfl) (fun _ _ _ _ _ h => h) (by kernel_rfl) (by kernel_rfl) (by kernel_rfl) (by kernel_rfl) (fun W hW => exec_cut (.tmp 24) (.tmp 28) (by kernel_rfl) A l.length cap at_ (by kernel_rfl) (by kernel_rfl) hl) S0 ?_
    refine wpAnyH_callV (i := 10) (opsreadI.getD 10 default) (.tmp 20) f caps (#[cutV A l.length cap at_] ++ caps) (by kernel_rfl) (by kernel_rfl) (by kernel_rfl) (by kernel_rfl) (by kernel_rfl) (by kernel_rfl) hent ((HFH.out _ S0).mono ?_)
    rintro e W1 ⟨X, rfl, hX, k1⟩
    have S1 : Keeps Nob w W1 := S0.trans k1
    refine ⟨_, rfl, S1, ?_⟩
    refine wpAnyH_run (i := 11) (opsreadI.getD 11 default) (.tuple #[X, .int .i64 (k : Int), .int .i64 er]) (w' := W1) (by kernel_rfl) (by kernel_rfl) (by kernel_rfl) (.inl (by kernel_rfl)) S1 ?_
    refine wpAnyH_val (i := 12) (opsreadI.getD 12 default) (X) (by kernel_rfl) (fun _ _ _ _ _ h => h) (by kernel_rfl) (by kernel_rfl) (by kernel_rfl) (by kernel_rfl) (fun W hW => by kernel_rfl) S1 ?_
    refine wpAnyH_val (i := 13) (opsreadI.getD 13 default) (.int .i64 (k : Int)) (by kernel_rfl) (fun _ _ _ _ _ h => h) (by kernel_rfl) (by kernel_rfl) (by kernel_rfl) (by kernel_rfl) (fun W hW => by kernel_rfl) S1 ?_
    refine wpAnyH_val (i := 14) (opsreadI.getD 14 default) (.int .i64 er) (by kernel_rfl) (fun _ _ _ _ _ h => h) (by kernel_rfl) (by kernel_rfl) (by kernel_rfl) (by kernel_rfl) (fun W hW => by kernel_rfl) S1 ?_
    refine wpAnyH_run (i := 15) (opsreadI.getD 15 default) (X) (w' := W1) (by kernel_rfl) (by kernel_rfl) (by kernel_rfl) (.inl (by kernel_rfl)) S1 ?_
    refine wpAnyH_run (i := 16) (opsreadI.getD 16 default) (.int .i64 (k : Int)) (w' := W1) (by kernel_rfl) (by kernel_rfl) (by kernel_rfl) (.inl (by kernel_rfl)) S1 ?_
    refine wpAnyH_run (i := 17) (opsreadI.getD 17 default) (.int .i64 er) (w' := W1) (by kernel_rfl) (by kernel_rfl) (by kernel_rfl) (.inl (by kernel_rfl)) S1 ?_
    refine wpAnyH_done (by kernel_rfl) ?_ _
    refine NoPanic.normal ?_
    refine state_eq (b := ⟨#[.pointer (some ⟨b, 0, none⟩), .func (.func f) #[] caps, undef, undef, .int .i64 0, .int .i64 0, X, .int .i64 (k : Int), .int .i64 er, .pointer (some ⟨b, 0, none⟩), .bool false, .bool false, .pointer (some ⟨b, 0, none⟩), .pointer (some ⟨b, 0, none⟩), .pointer (some ⟨b, 3, none⟩), .pointer none, .bool false, .bool false, undef, .tuple #[X, .int .i64 (k : Int), .int .i64 er], .func (.func f) #[] caps, .pointer (some ⟨b, 0, none⟩), .pointer (some ⟨b, 0, none⟩), .pointer (some ⟨b, 0, none⟩), .slice A l.length cap, .pointer (some ⟨b, 0, none⟩), .pointer (some ⟨b, 0, none⟩), .pointer (some ⟨b, 1, none⟩), .int .i64 (at_ : Int), cutV A l.length cap at_, .tuple #[X, .int .i64 (k : Int), .int .i64 er], X, .int .i64 (k : Int), .int .i64 er, undef, undef, undef, undef, undef, undef, undef, undef, undef, undef, undef, undef, undef, undef, undef, undef, undef, undef, undef], []⟩) (by kernel_rfl) ?_
    have HX := Lib.hid hX
    have hbW := cb W1 S1
    have a1 : W1.cell? ⟨b, 1, none⟩ = some (.int .i64 (at_ : Int)) := (cell_of_row W1 b 1 _ _ _ hbW).trans rfl
    have a2 : W1.frozen? ⟨b, 1, none⟩ = false := frozen_of_row W1 b 1 _ _ hbW
    have HBW := Lib.hid hbW
    clear cb hX hbW
    generalize cutV A l.length cap at_ = cv at *
    by_cases he : er = 0
    · subst he
      have hkk := HK.out rfl
      rw [HP.out] at hkk
      go_wp2_with fail
      go_ret
      try simp only [if_true]
      have hkS : Keeps (One b) W1 (W1.setCell ⟨b, 1, none⟩ (.int .i64 ((at_ : Int) + k))) := (Keeps.refl _ _).setOne _
      have hkw : Keeps (One b) w (W1.setCell ⟨b, 1, none⟩ (.int .i64 ((at_ : Int) + k))) := (S1.mono (fun _ _ x => x.elim)).trans hkS
      refine ⟨_, rfl, .inl ⟨H0.out, rfl, HPX.out _ _ _ HX.out hkS⟩, ⟨.pointer none, ⟨⟨at_ + k, ?_, by omega, .inl ⟨rfl, by rw [HP.out]; simp, rfl⟩⟩, H.out.bytes.keeps hkw (fun j hj (e : j = b) => H.out.own (by rw [hj, e])), H.out.own⟩, .inl rfl⟩, hkw⟩
      rw [show (((at_ + k : Nat)) : Int) = (at_ : Int) + k by omega]
      exact heap_setCell_same W1 b 1 _ _ _ HBW.out
    · have hb : (er != 0) = true := by simpa using he
      have HFa := Lib.hid (rFail_ok b (.slice A l.length cap) (.pointer none) l s er (at_ : Int) W1 (H.out.keeps S1 (fun _ _ x => x)))
      have hs : s.fail er (at_ : Int) = ⟨er, s.pos⟩ := by unfold RS.fail; rw [if_pos ⟨H0.out, he⟩, HP.out]
      rw [hs] at HFa
      have HE := Lib.hid he
      clear hs he
      go_wp2_with (go_at_call 87; refine HFa.out.mono ?_; rintro e w' ⟨⟨r, rfl⟩, ⟨fp', h1, h2⟩, h3⟩; have H1 := Lib.hid h1; have H2 := Lib.hid h2; clear h1 h2)
      go_ret
      try simp only [if_neg HE.out]
      refine ⟨_, rfl, .inr ⟨fun h => HE.out h.2, rfl⟩, ⟨fp', H1.out, ?_⟩, (S1.mono (fun _ _ x => x.elim)).trans h3⟩
      rcases H2.out with h | ⟨g, h, hg⟩
      · exact .inl h
      · exact .inr ⟨g, h, Nat.le_trans S1.size hg⟩
  · have e1 : s.read k er = s := by unfold RS.read; rw [if_neg h0]
    rw [e1]
    have HE := Lib.hid h0
    clear e1 h0 hc HF0 hk0
    go_enter Try.func61, Try.ntmps61
    go_wp2_with (go_at_call 65; refine HN.out.mono ?_; rintro e w' ⟨rfl, rfl⟩)
    go_ret
    exact ⟨_, rfl, .inr ⟨fun h => HE.out h.1, rfl⟩, ⟨_, H.out, .inl rfl⟩, Keeps.refl _ _⟩

noncomputable def opsreadB : Array Oper := opsOf Try.f84 4
set_option maxRecDepth 100000 in
set_option maxHeartbeats 8000000 in
theorem readB_core (f : FuncId) (caps : Array Value) (hent : ∀ args w, (callFunc f args).run Try.prog w = .ok (.enter f args) w) (b : Nat) (v fp : Value) (l : List UInt8) (s : RS) (w : World) (h : RdAt w b v fp l s) (k : Nat) (er : Int) (PX : World → Value → Prop)
    (HF0 : s.err = 0 → ∀ W A cap, v = .slice A l.length cap → Keeps Nob w W → Calls Try.prog f (#[cutV A l.length cap s.pos.toNat] ++ caps) W fun e W' => ∃ X, e = .returned (.tuple #[X, .int .i64 (k : Int), .int .i64 er]) ∧ PX W' X ∧ Keeps Nob W W')
    (hPX : ∀ W W' X, PX W X → Keeps (One b) W W' → PX W' X) (hk0 : s.err = 0 → er = 0 → s.pos + k ≤ l.length) :
    Calls Try.prog 84 #[.pointer (some ⟨b, 0, none⟩), .func (.func f) #[] caps] w fun e w' => ∃ V, e = .returned V ∧ RdVal s er PX (.slice none 0 0) w' V ∧ (∃ fp', RdAt w' b v fp' l (s.read k er) ∧ NewPtr w fp fp') ∧ Keeps (One b) w w' := by
  have H := Lib.hid h
  have HN := Lib.hid (rnone_ok b v fp l s w h)
  have hll := h.bytes.length_le
  obtain ⟨A, cap, rfl⟩ := h.bytes.len
  obtain ⟨at_, hb, hl, hf⟩ := h.ex
  have hlt := h.lt
  have c3 : w.cell? ⟨b, 3, none⟩ = some fp := (cell_of_row w b 3 _ _ _ hb).trans rfl
  have HBK := Lib.hid hb
  have HPX := Lib.hid hPX
  clear h hb hPX
  rcases hf with ⟨h0, hp, rfl⟩ | ⟨h0, g, rfl, hg, hc⟩
  · have hpn : s.pos.toNat = at_ := by omega
    have HF := HF0 h0
    have hk := hk0 h0
    rw [hpn] at HF
    have e1 : s.read k er = if er = 0 then ⟨0, s.pos + k⟩ else ⟨er, s.pos⟩ := by unfold RS.read; rw [if_pos h0]
    rw [e1]
    have HFH := Lib.hid (fun W => HF W A cap rfl)
    have HP := Lib.hid hp
    have H0 := Lib.hid h0
    have HK := Lib.hid hk
    clear e1 HF hpn hp h0 hk HF0 hk0
    go_enter Try.func84, Try.ntmps84
    go_wp2_with (go_at_call 65; refine HN.out.mono ?_; rintro e w' ⟨rfl, rfl⟩)
    refine wp_region_noPanic ?_
    refine region_named (R := opsreadB) (by kernel_rfl) ?_
    refine wp_regionH_fuel (fun W => Keeps Nob w W) 18 #[false, false, false, false, false, false, false, false, false, false, false, false, false, false, false, false, false, false] (by kernel_rfl) (by kernel_rfl) rfl ?_
    have S0 : Keeps Nob w w.drew := (Keeps.refl _ _).drew
    have cb : ∀ W, Keeps Nob w W → W.heap[b]? = some (.cells #[.slice A l.length cap, .int .i64 (at_ : Int), .bool true, .pointer none] 100 (0, 0)) := fun W hW => (hW.block b hlt (fun x => x)).trans HBK.out
    refine wpAnyH_val (i := 0) (opsreadB.getD 0 default) (.func (.func f) #[] caps) (by kernel_rfl) (fun _ _ _ _ _ h => h) (by kernel_rfl) (by kernel_rfl) (by kernel_rfl) (by kernel_rfl) (fun W hW => by kernel_rfl) S0 ?_
    refine wpAnyH_val (i := 1) (opsreadB.getD 1 default) (.pointer (some ⟨b, 0, none⟩)) (by kernel_rfl) (fun _ _ _ _ _ h => h) (by kernel_rfl) (by kernel_rfl) (by kernel_rfl) (by kernel_rfl) (fun W hW => by kernel_rfl) S0 ?_
    refine wpAnyH_val (i := 2) (opsreadB.getD 2 default) (.pointer (some ⟨b, 0, none⟩)) (by kernel_rfl) (fun _ _ _ _ _ h => h) (by kernel_rfl) (by kernel_rfl) (by kernel_rfl) (by kernel_rfl) (fun W hW => by kernel_rfl) S0 ?_
    refine wpAnyH_val (i := 3) (opsreadB.getD 3 default) (.pointer (some ⟨b, 0, none⟩)) (by kernel_rfl) (fun _ _ _ _ _ h => h) (by kernel_rfl) (by kernel_rfl) (by kernel_rfl) (by kernel_rfl) (fun W hW => by kernel_rfl) S0 ?_
    refine wpAnyH_val (i := 4) (opsreadB.getD 4 default) (.slice A l.length cap) (by kernel_rfl) (fun _ _ _ _ _ h => h) (by kernel_rfl) (by kernel_rfl) (by kernel_rfl) (by kernel_rfl) (fun W hW => exec_load_cell 22 (.tmp 23) (by kernel_rfl) ⟨b, 0, none⟩ (by kernel_rfl) _ _ Try.underlying22 rfl ((cell_of_row W b 0 _ _ _ (cb W hW)).trans rfl)) S0 ?_
    refine wpAnyH_val (i := 5) (opsreadB.getD 5 default) (.pointer (some ⟨b, 0, none⟩)) (by kernel_rfl) (fun _ _ _ _ _ h => h) (by kernel_rfl) (by kernel_rfl) (by kernel_rfl) (by kernel_rfl) (fun W hW => by kernel_rfl) S0 ?_
    refine wpAnyH_val (i := 6) (opsreadB.getD 6 default) (.pointer (some ⟨b, 0, none⟩)) (by kernel_rfl) (fun _ _ _ _ _ h => h) (by kernel_rfl) (by kernel_rfl) (by kernel_rfl) (by kernel_rfl) (fun W hW => by kernel_rfl) S0 ?_
    refine wpAnyH_val (i := 7) (opsreadB.getD 7 default) (.pointer (some ⟨b, 1, none⟩)) (by kernel_rfl) (fun _ _ _ _ _ h => h) (by kernel_rfl) (by kernel_rfl) (by kernel_rfl) (by kernel_rfl) (fun W hW => by kernel_rfl) S0 ?_
    refine wpAnyH_val (i := 8) (opsreadB.getD 8 default) (.int .i64 (at_ : Int)) (by kernel_rfl) (fun _ _ _ _ _ h => h) (by kernel_rfl) (by kernel_rfl) (by kernel_rfl) (by kernel_rfl) (fun W hW => exec_load_cell 3 (.tmp 27) (by kernel_rfl) ⟨b, 1, none⟩ (by kernel_rfl) _ _ Try.underlying3 rfl ((cell_of_row W b 1 _ _ _ (cb W hW)).trans rfl)) S0 ?_
    refine wpAnyH_val (i := 9) (opsreadB.getD 9 default) (cutV A l.length cap at_) (by kernel_rfl) (fun _ _ _ _ _ h => h) (by kernel_rfl) (by kernel_rfl) (by kernel_rfl) (by kernel_rfl) (fun W hW => exec_cut (.tmp 24) (.tmp 28) (by kernel_rfl) A l.length cap at_ (by kernel_rfl) (by kernel_rfl) hl) S0 ?_
    refine wpAnyH_callV (i := 10) (opsreadB.getD 10 default) (.tmp 20) f caps (#[cutV A l.length cap at_] ++ caps) (by kernel_rfl) (by kernel_rfl) (by kernel_rfl) (by kernel_rfl) (by kernel_rfl) (by kernel_rfl) hent ((HFH.out _ S0).mono ?_)
    rintro e W1 ⟨X, rfl, hX, k1⟩
    have S1 : Keeps Nob w W1 := S0.trans k1
    refine ⟨_, rfl, S1, ?_⟩
    refine wpAnyH_run (i := 11) (opsreadB.getD 11 default) (.tuple #[X, .int .i64 (k : Int), .int .i64 er]) (w' := W1) (by kernel_rfl) (by kernel_rfl) (by kernel_rfl) (.inl (by kernel_rfl)) S1 ?_
    refine wpAnyH_val (i := 12) (opsreadB.getD 12 default) (X) (by kernel_rfl) (fun _ _ _ _ _ h => h) (by kernel_rfl) (by kernel_rfl) (by kernel_rfl) (by kernel_rfl) (fun W hW => by kernel_rfl) S1 ?_
    refine wpAnyH_val (i := 13) (opsreadB.getD 13 default) (.int .i64 (k : Int)) (by kernel_rfl) (fun _ _ _ _ _ h => h) (by kernel_rfl) (by kernel_rfl) (by kernel_rfl) (by kernel_rfl) (fun W hW => by kernel_rfl) S1 ?_
    refine wpAnyH_val (i := 14) (opsreadB.getD 14 default) (.int .i64 er) (by kernel_rfl) (fun _ _ _ _ _ h => h) (by kernel_rfl) (by kernel_rfl) (by kernel_rfl) (by kernel_rfl) (fun W hW => by kernel_rfl) S1 ?_
    refine wpAnyH_run (i := 15) (opsreadB.getD 15 default) (X) (w' := W1) (by kernel_rfl) (by kernel_rfl) (by kernel_rfl) (.inl (by kernel_rfl)) S1 ?_
    refine wpAnyH_run (i := 16) (opsreadB.getD 16 default) (.int .i64 (k : Int)) (w' := W1) (by kernel_rfl) (by kernel_rfl) (by kernel_rfl) (.inl (by kernel_rfl)) S1 ?_
    refine wpAnyH_run (i := 17) (opsreadB.getD 17 default) (.int .i64 er) (w' := W1) (by kernel_rfl) (by kernel_rfl) (by kernel_rfl) (.inl (by kernel_rfl)) S1 ?_
    refine wpAnyH_done (by kernel_rfl) ?_ _
    refine NoPanic.normal ?_
    refine state_eq (b := ⟨#[.pointer (some ⟨b, 0, none⟩), .func (.func f) #[] caps, undef, undef, .slice none 0 0, .slice none 0 0, X, .int .i64 (k : Int), .int .i64 er, .pointer (some ⟨b, 0, none⟩), .bool false, .bool false, .pointer (some ⟨b, 0, none⟩), .pointer (some ⟨b, 0, none⟩), .pointer (some ⟨b, 3, none⟩), .pointer none, .bool false, .bool false, undef, .tuple #[X, .int .i64 (k : Int), .int .i64 er], .func (.func f) #[] caps, .pointer (some ⟨b, 0, none⟩), .pointer (some ⟨b, 0, none⟩), .pointer (some ⟨b, 0, none⟩), .slice A l.length cap, .pointer (some ⟨b, 0, none⟩), .pointer (some ⟨b, 0, none⟩), .pointer (some ⟨b, 1, none⟩), .int .i64 (at_ : Int), cutV A l.length cap at_, .tuple #[X, .int .i64 (k : Int), .int .i64 er], X, .int .i64 (k : Int), .int .i64 er, undef, undef, undef, undef, undef, undef, undef, undef, undef, undef, undef, undef, undef, undef, undef, undef, undef, undef, undef], []⟩) (by kernel_rfl) ?_
    have HX := Lib.hid hX
    have hbW := cb W1 S1
    have a1 : W1.cell? ⟨b, 1, none⟩ = some (.int .i64 (at_ : Int)) := (cell_of_row W1 b 1 _ _ _ hbW).trans rfl
    have a2 : W1.frozen? ⟨b, 1, none⟩ = false := frozen_of_row W1 b 1 _ _ hbW
    have HBW := Lib.hid hbW
    clear cb hX hbW
    generalize cutV A l.length cap at_ = cv at *
    by_cases he : er = 0
    · subst he
      have hkk := HK.out rfl
      rw [HP.out] at hkk
      go_wp2_with fail
      go_ret
      try simp only [if_true]
      have hkS : Keeps (One b) W1 (W1.setCell ⟨b, 1, none⟩ (.int .i64 ((at_ : Int) + k))) := (Keeps.refl _ _).setOne _
      have hkw : Keeps (One b) w (W1.setCell ⟨b, 1, none⟩ (.int .i64 ((at_ : Int) + k))) := (S1.mono (fun _ _ x => x.elim)).trans hkS
      refine ⟨_, rfl, .inl ⟨H0.out, rfl, HPX.out _ _ _ HX.out hkS⟩, ⟨.pointer none, ⟨⟨at_ + k, ?_, by omega, .inl ⟨rfl, by rw [HP.out]; simp, rfl⟩⟩, H.out.bytes.keeps hkw (fun j hj (e : j = b) => H.out.own (by rw [hj, e])), H.out.own⟩, .inl rfl⟩, hkw⟩
      rw [show (((at_ + k : Nat)) : Int) = (at_ : Int) + k by omega]
      exact heap_setCell_same W1 b 1 _ _ _ HBW.out
    · have hb : (er != 0) = true := by simpa using he
      have HFa := Lib.hid (rFail_ok b (.slice A l.length cap) (.pointer none) l s er (at_ : Int) W1 (H.out.keeps S1 (fun _ _ x => x)))
      have hs : s.fail er (at_ : Int) = ⟨er, s.pos⟩ := by unfold RS.fail; rw [if_pos ⟨H0.out, he⟩, HP.out]
      rw [hs] at HFa
      have HE := Lib.hid he
      clear hs he
      go_wp2_with (go_at_call 87; refine HFa.out.mono ?_; rintro e w' ⟨⟨r, rfl⟩, ⟨fp', h1, h2⟩, h3⟩; have H1 := Lib.hid h1; have H2 := Lib.hid h2; clear h1 h2)
      go_ret
      try simp only [if_neg HE.out]
      refine ⟨_, rfl, .inr ⟨fun h => HE.out h.2, rfl⟩, ⟨fp', H1.out, ?_⟩, (S1.mono (fun _ _ x => x.elim)).trans h3⟩
      rcases H2.out with h | ⟨g, h, hg⟩
      · exact .inl h
      · exact .inr ⟨g, h, Nat.le_trans S1.size hg⟩
  · have e1 : s.read k er = s := by unfold RS.read; rw [if_neg h0]
    rw [e1]
    have HE := Lib.hid h0
    clear e1 h0 hc HF0 hk0
    go_enter Try.func84, Try.ntmps84
    go_wp2_with (go_at_call 65; refine HN.out.mono ?_; rintro e w' ⟨rfl, rfl⟩)
    go_ret
    exact ⟨_, rfl, .inr ⟨fun h => HE.out h.1, rfl⟩, ⟨_, H.out, .inl rfl⟩, Keeps.refl _ _⟩
end Go.Proofs.Ytmapcghgdbfmhaa
