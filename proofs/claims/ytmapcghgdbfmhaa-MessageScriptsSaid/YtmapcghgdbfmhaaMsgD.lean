/-
  Messages: what becomes of them when each of the four goes through their things. Conditions: none.
-/
import Derived.Test.YtmapcghgdbfmhaaMsgA
import Derived.Test.YtmapcghgdbfmhaaMsgC
namespace Go.Proofs.Ytmapcghgdbfmhaa
open Go Go.RowKit Go.Own Go.Shelf
def chkV : Vis := ⟨.iface 92 (.agg #[]), .agg #[], 150, 148, 149⟩
def clrV : Vis := ⟨.iface 93 (.agg #[]), .agg #[], 153, 151, 152⟩
def wrV (b : Nat) : Vis := ⟨.iface 84 (.agg #[.pointer (some ⟨b, 0, none⟩)]), .agg #[.pointer (some ⟨b, 0, none⟩)], 146, 144, 145⟩
def rdV (b : Nat) : Vis := ⟨.iface 74 (.agg #[.pointer (some ⟨b, 0, none⟩)]), .agg #[.pointer (some ⟨b, 0, none⟩)], 137, 135, 136⟩
theorem chkV_ok : chkV.Ok := ⟨fun _ _ => by kernel_rfl, fun _ _ => by kernel_rfl, fun _ _ => by kernel_rfl, nil_at fun _ => by kernel_rfl, nil_at fun _ => by kernel_rfl, nil_at fun _ => by kernel_rfl⟩
theorem clrV_ok : clrV.Ok := ⟨fun _ _ => by kernel_rfl, fun _ _ => by kernel_rfl, fun _ _ => by kernel_rfl, nil_at fun _ => by kernel_rfl, nil_at fun _ => by kernel_rfl, nil_at fun _ => by kernel_rfl⟩
theorem wrV_ok (b : Nat) : (wrV b).Ok := ⟨fun _ _ => by kernel_rfl, fun _ _ => by kernel_rfl, fun _ _ => by kernel_rfl, nil_at fun _ => by kernel_rfl, nil_at fun _ => by kernel_rfl, nil_at fun _ => by kernel_rfl⟩
theorem rdV_ok (b : Nat) : (rdV b).Ok := ⟨fun _ _ => by kernel_rfl, fun _ _ => by kernel_rfl, fun _ _ => by kernel_rfl, nil_at fun _ => by kernel_rfl, nil_at fun _ => by kernel_rfl, nil_at fun _ => by kernel_rfl⟩
/-- A thing of a message: a number field, its bounds; an amount; a hash; the number of a kind of votes. -/
inductive MIt where
  | n (x : NF) (lo hi : Int) | a (x : AF) | h (x : HF) | k (x : Int)
def MIt.low : MIt → It
  | .n x lo hi => .n x.off lo hi | .a x => .a x.off | .h x => .h x.off | .k x => .k x
/-- Bounds that occur. -/
def MIt.Fit : MIt → Prop
  | .n _ lo hi => -1 ≤ lo ∧ lo ≤ hi ∧ hi ≤ 4294967296 | .k x => 1 ≤ x ∧ x ≤ 2 | _ => True
section
variable {g : Nat} {K : World → Prop} {E : List PanicEntry → World → Prop}
theorem hoff_le (x : HF) : x.off + 32 ≤ 154 := by cases x <;> decide
/-! The checker. -/
def chkIt (m : Msg) : MIt → Bool
  | .n x lo hi => decide (lo ≤ x.get m ∧ x.get m ≤ hi) | _ => true
theorem run_chk (m : Msg) (hr : m.R) (l : List MIt) : ∀ w : World, w.heap[g]? = some (.cells m.c 70 (0, 0)) → (l.all (chkIt m) = true → ∀ w', Keeps Nob w w' → K w') → (l.all (chkIt m) = false → ∀ w', Keeps Nob w w' → E [outP] w') → Run chkV g (l.map MIt.low) K E w := by
  induction l with
  | nil => intro w _ hk _; exact hk rfl w (Keeps.refl _ _)
  | cons i r ih =>
    intro w hb hk he
    have step : ∀ W W', Keeps Nob w W → Keeps Nob W W' → chkIt m i = true → PEnd (Run chkV g (r.map MIt.low) K E) E (.returned (.tuple #[])) W' := fun W W' k1 k2 hi => .inl ⟨rfl, ih W' ((k1.nn k2).bk hb)
      (fun h W2 k3 => hk (by rw [List.all_cons, hi, h]; rfl) W2 ((k1.nn k2).nn k3)) (fun h W2 k3 => he (by rw [List.all_cons, hi, h]; rfl) W2 ((k1.nn k2).nn k3))⟩
    cases i with
    | n x lo hi =>
      intro W k1
      by_cases hin : lo ≤ x.get m ∧ x.get m ≤ hi
      · exact (xcN_in g x.off m.c _ _ lo hi W (k1.bk hb) (Msg.get_n hr x) hin.1 hin.2).mono fun e W' ⟨h1, k2⟩ => h1 ▸ step W W' k1 k2 (decide_eq_true hin)
      · exact (xcN_out g x.off m.c _ _ lo hi W (k1.bk hb) (Msg.get_n hr x) hin).mono fun e W' ⟨h1, k2⟩ => .inr ⟨_, h1, he (by rw [List.all_cons, show chkIt m (.n x lo hi) = false from decide_eq_false hin]; rfl) W' (k1.nn k2)⟩
    | a x => intro W k1; exact (xcA_ok _ W).mono fun e W' ⟨h1, k2⟩ => h1 ▸ step W W' k1 k2 rfl
    | h x => intro W k1; exact (xcH_ok _ W).mono fun e W' ⟨h1, k2⟩ => h1 ▸ step W W' k1 k2 rfl
    | k x => intro W c k1 _ hc; exact (xcN_in c 0 _ _ x x x W hc rfl (Int.le_refl _) (Int.le_refl _)).mono fun e W' ⟨h1, k2⟩ => h1 ▸ step W W' k1 k2 rfl
/-! The clearer. -/
def clrIt (m : Msg) : MIt → Msg
  | .n x _ _ => x.set m 0 | .a x => x.set m 0 | .h x => x.set m zeroH | .k _ => m
theorem clr_R {m : Msg} (i : MIt) (h : m.R) : (clrIt m i).R := by
  cases i with
  | n x lo hi => exact NF.R h
  | a x => exact AF.R h
  | h x => exact HF.R h rfl
  | k x => exact h
theorem run_clr (l : List MIt) : ∀ (m : Msg) (w : World), m.R → w.heap[g]? = some (.cells m.c 70 (0, 0)) → (∀ w', w'.heap[g]? = some (.cells (l.foldl clrIt m).c 70 (0, 0)) → Keeps (One g) w w' → K w') → Run clrV g (l.map MIt.low) K E w := by
  induction l with
  | nil => intro m w _ hb hk; exact hk w hb (Keeps.refl _ _)
  | cons i r ih =>
    intro m w hr hb hk
    have step : ∀ W W', Keeps Nob w W → Keeps (One g) W W' → W'.heap[g]? = some (.cells (clrIt m i).c 70 (0, 0)) → PEnd (Run clrV g (r.map MIt.low) K E) E (.returned (.tuple #[])) W' := fun W W' k1 k2 hb2 =>
      .inl ⟨rfl, ih _ W' (clr_R i hr) hb2 (fun W2 h2 k3 => hk W2 h2 (((k1.mono (fun _ _ x => x.elim)).then k2 (fun _ _ x => x)).then k3 (fun _ _ x => x)))⟩
    cases i with
    | n x lo hi => intro W k1; exact (xlN_ok g x.off m.c _ _ lo hi W (k1.bk hb) (Msg.get_n hr x)).mono fun e W' ⟨h1, h2, k2⟩ => h1 ▸ step W W' k1 k2 (by rw [Msg.set_n hr] at h2; exact h2)
    | a x => intro W k1; exact (xlA_ok g x.off m.c _ _ W (k1.bk hb) (Msg.get_a hr x)).mono fun e W' ⟨h1, h2, k2⟩ => h1 ▸ step W W' k1 k2 (by rw [show (Value.int .u64 0) = .int .u64 ((0 : Nat) : Int) from rfl, Msg.set_a hr] at h2; exact h2)
    | h x => intro W k1; exact (xlH_ok g x.off m.c _ W (k1.bk hb) (by rw [Msg.c_size hr]; exact hoff_le x)).mono fun e W' ⟨h1, h2, k2⟩ => h1 ▸ step W W' k1 k2 (by rw [Msg.set_h hr x zeroH rfl] at h2; exact h2)
    | k x =>
      intro W c k1 hge hc
      have hne : g ≠ c := fun e => by have := lt_of_block hb; omega
      exact (xlN_ok c 0 _ _ x x x W hc rfl).mono fun e W' ⟨h1, _, k2⟩ => h1 ▸ .inl ⟨rfl, ih _ W' hr (k2.bo (k1.bk hb) hne) (fun W2 h2 k3 => hk W2 h2 (((k1.no k2 hge).mono (fun _ _ x => x.elim)).then k3 (fun _ _ x => x)))⟩
/-! The writer. -/
def wrIt (m : Msg) (s : WS) : MIt → WS
  | .n x lo _ => s.add (Cod.enc (x.get m - min lo 0).toNat) | .a x => s.add (Cod.enc (x.get m)) | .h x => s.add (x.get m) | .k x => s.add (Cod.enc x.toNat)
def Am (m : Msg) : Prop := ∀ x : AF, x.get m < 2 ^ 64
theorem run_wr (b : Nat) (m : Msg) (hr : m.R) (ha : Am m) (l : List MIt) : ∀ (s : WS) (F : Nat → Prop) (w : World), w.heap[g]? = some (.cells m.c 70 (0, 0)) → Wr w F b s → ¬ F g → l.all (chkIt m) = true → (∀ i ∈ l, i.Fit) →
    (∀ w' F', Wr w' F' b (l.foldl (wrIt m) s) → Step w w' F F' → K w') → Run (wrV b) g (l.map MIt.low) K E w := by
  induction l with
  | nil => intro s F w _ hR _ _ _ hk; exact hk w F hR (Step.refl _ _)
  | cons i r ih =>
    intro s F w hb hR hg hall hfit hk
    rw [List.all_cons, Bool.and_eq_true] at hall
    have hf := hfit i (List.mem_cons_self ..)
    have hgl := lt_of_block hb
    have step : ∀ W W' F1, Keeps Nob w W → Wr W' F1 b (wrIt m s i) → Step W W' F F1 → PEnd (Run (wrV b) g (r.map MIt.low) K E) E (.returned (.tuple #[])) W' := fun W W' F1 k1 hR1 hS1 => by
      have hS : Step w W' F F1 := (Step.nob k1).trans hS1
      exact .inl ⟨rfl, ih _ F1 W' ((hS.1.block g hgl hg).trans hb) hR1 (fun h => (hS.2 g h).elim hg (fun x => by omega)) hall.2 (fun j hj => hfit j (List.mem_cons_of_mem _ hj)) (fun W2 F2 h2 h3 => hk W2 F2 h2 (hS.trans h3))⟩
    cases i with
    | n x lo hi =>
      intro W k1
      have hin := of_decide_eq_true hall.1
      have hf : -1 ≤ lo ∧ lo ≤ hi ∧ hi ≤ 4294967296 := hf
      exact (xwN_ok g x.off m.c _ b F s _ lo hi (by omega) hin.1 (by omega) W (k1.bk hb) (Msg.get_n hr x) (hR.keepsN k1) hg).mono fun e W' ⟨h1, F1, h2, h3⟩ => h1 ▸ step W W' F1 k1 h2 h3
    | a x => intro W k1; exact (xwA_ok g x.off m.c _ b F s _ (ha x) W (k1.bk hb) (Msg.get_a hr x) (hR.keepsN k1) hg).mono fun e W' ⟨h1, F1, h2, h3⟩ => h1 ▸ step W W' F1 k1 h2 h3
    | h x => intro W k1; exact (xwH_ok g x.off m.c _ b F s _ (HF.len hr) W (k1.bk hb) (Msg.get_h hr x) (hR.keepsN k1) hg).mono fun e W' ⟨h1, F1, h2, h3⟩ => h1 ▸ step W W' F1 k1 h2 h3
    | k x =>
      intro W c k1 hge hc
      have hf : 1 ≤ x ∧ x ≤ 2 := hf
      refine (xwN_ok c 0 _ _ b F s x x x (by omega) (Int.le_refl _) (by omega) W hc rfl (hR.keepsN k1) (fun h => by have := hR.lt c h; omega)).mono fun e W' ⟨h1, F1, h2, h3⟩ => h1 ▸ step W W' F1 k1 ?_ h3
      have e0 : min x 0 = 0 := by omega
      rw [e0, Int.sub_zero] at h2
      exact h2
/-! The reader. -/
def rdIt (l : List UInt8) (ms : Msg × RS) : MIt → Msg × RS
  | .n x lo hi => (x.set ms.1 ((rdN l ms.2 (lo - min lo 0) (hi - min lo 0)).1 + min lo 0), (rdN l ms.2 (lo - min lo 0) (hi - min lo 0)).2)
  | .a x => (x.set ms.1 (rdU l ms.2).1.toNat, (rdU l ms.2).2)
  | .h x => (x.set ms.1 (rdH l ms.2).1, (rdH l ms.2).2)
  | .k x => (ms.1, (rdN l ms.2 x x).2)
theorem rd_R {l : List UInt8} {ms : Msg × RS} (i : MIt) (h : ms.1.R) : (rdIt l ms i).1.R := by
  cases i with
  | n x lo hi => exact NF.R h
  | a x => exact AF.R h
  | h x => exact HF.R h (rdH_len _ _)
  | k x => exact h
theorem run_rd (b : Nat) (l : List UInt8) (hl : l.length ≤ 100000000) (its : List MIt) : ∀ (m : Msg) (s : RS) (F : Nat → Prop) (w : World), m.R → w.heap[g]? = some (.cells m.c 70 (0, 0)) → Rd w F b l s → ¬ F g → (∀ i ∈ its, i.Fit) →
    (∀ w' F', w'.heap[g]? = some (.cells (its.foldl (rdIt l) (m, s)).1.c 70 (0, 0)) → Rd w' F' b l (its.foldl (rdIt l) (m, s)).2 → ¬ F' g → Step w w' (Or2 F (One g)) (Or2 F' (One g)) → K w') → Run (rdV b) g (its.map MIt.low) K E w := by
  induction its with
  | nil => intro m s F w _ hb hR hg _ hk; exact hk w F hb hR hg (Step.refl _ _)
  | cons i r ih =>
    intro m s F w hr hb hR hg hfit hk
    have hf := hfit i (List.mem_cons_self ..)
    have hgl := lt_of_block hb
    have step : ∀ W W' F1, Keeps Nob w W → W'.heap[g]? = some (.cells (rdIt l (m, s) i).1.c 70 (0, 0)) → Rd W' F1 b l (rdIt l (m, s) i).2 → ¬ F1 g → Step W W' (Or2 F (One g)) (Or2 F1 (One g)) → PEnd (Run (rdV b) g (r.map MIt.low) K E) E (.returned (.tuple #[])) W' := fun W W' F1 k1 hb1 hR1 hg1 hS1 =>
      .inl ⟨rfl, ih _ _ F1 W' (rd_R i hr) hb1 hR1 hg1 (fun j hj => hfit j (List.mem_cons_of_mem _ hj)) (fun W2 F2 h2 h3 h4 h5 => hk W2 F2 h2 h3 h4 (((Step.nob k1).trans hS1).trans h5))⟩
    cases i with
    | n x lo hi =>
      intro W k1
      have hf : -1 ≤ lo ∧ lo ≤ hi ∧ hi ≤ 4294967296 := hf
      exact (xrN_ok g x.off m.c _ b F l s _ lo hi hf.1 (by omega) hf.2.1 W (k1.bk hb) (Msg.get_n hr x) (hR.keepsN k1) hg).mono fun e W' ⟨h1, F1, h2, h3, h4, h5⟩ => h1 ▸ step W W' F1 k1 (by rw [Msg.set_n hr] at h4; exact h4) h2 h3 h5
    | a x => intro W k1; exact (xrA_ok g x.off m.c _ b F l s _ W (k1.bk hb) (Msg.get_a hr x) (hR.keepsN k1) hg).mono fun e W' ⟨h1, F1, h2, h3, h4, h5⟩ => h1 ▸ step W W' F1 k1 (by rw [Msg.set_a hr] at h4; exact h4) h2 h3 h5
    | h x => intro W k1; exact (xrH_ok g x.off m.c _ b F l s hl (by rw [Msg.c_size hr]; exact hoff_le x) W (k1.bk hb) (hR.keepsN k1) hg).mono fun e W' ⟨h1, F1, h2, h3, h4, h5⟩ => h1 ▸ step W W' F1 k1 (by rw [Msg.set_h hr x _ (rdH_len _ _)] at h4; exact h4) h2 h3 h5
    | k x =>
      intro W c k1 hge hc
      have hf : 1 ≤ x ∧ x ≤ 2 := hf
      have e0 : min x 0 = 0 := by omega
      have hcF : ¬ F c := fun h => by have := hR.lt c h; omega
      refine (xrN_ok c 0 _ _ b F l s x x x (by omega) (by omega) (Int.le_refl _) W hc rfl (hR.keepsN k1) hcF).mono fun e W' ⟨h1, F1, h2, h3, h4, h5⟩ => ?_
      rw [e0, Int.sub_zero] at h2
      subst h1
      have hgc : ¬ Or2 F (One c) g := fun h => h.elim hg (fun e => by unfold Own.One at e; omega)
      have hS : Step w W' F F1 := ⟨k1.mono (fun _ _ x => x.elim) |>.then h5.1 (fun j hj hm => hm.elim id (fun e => by unfold Own.One at e; omega)), fun j hj => (h5.2 j (.inl hj)).elim (fun h => h.elim .inl (fun e => by unfold Own.One at e; subst e; exact absurd hj h3)) (fun h => .inr ⟨Nat.le_trans k1.size h.1, h.2⟩)⟩
      have hg1 : ¬ F1 g := fun h => (hS.2 g h).elim hg (fun x => by omega)
      exact .inl ⟨rfl, ih m _ F1 W' hr ((h5.1.block g (Nat.lt_of_lt_of_le hgl k1.size) hgc).trans (k1.bk hb)) h2 hg1 (fun j hj => hfit j (List.mem_cons_of_mem _ hj)) (fun W2 F2 a1 a2 a3 a4 => hk W2 F2 a1 a2 a3
        (Step.trans ⟨hS.1.mono (fun _ _ h => .inl h), fun j hj => hj.elim (fun h => (hS.2 j h).imp .inl id) (fun h => .inl (.inr h))⟩ a4))⟩
end
end Go.Proofs.Ytmapcghgdbfmhaa
