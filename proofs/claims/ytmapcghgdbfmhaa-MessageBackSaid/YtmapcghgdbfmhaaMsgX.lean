/-
  Messages: the plain law of forms: what is written is read, and no other bytes are. Conditions: none.
-/
import Derived.Test.YtmapcghgdbfmhaaMsgH
import Derived.Test.YtmapcghgdbfmhaaMsgI
import Derived.Test.YtmapcghgdbfmhaaRdIn
namespace Go.Proofs.Ytmapcghgdbfmhaa
open Go Go.RowKit Go.Own Go.Shelf
/-! What is written is read. -/
/-- A thing, taken over from a message. -/
def cpIt (m m' : Msg) : MIt → Msg
  | .n x _ _ => x.set m' (x.get m) | .a x => x.set m' (x.get m) | .h x => x.set m' (x.get m) | .k _ => m'
theorem rdIt_at {l r : List UInt8} {p : Nat} {m m' : Msg} {i : MIt} (hok : m.Ok) (hf : i.Fit) (hc : chkIt m i = true) (h : l.drop p = itB m i ++ r) : rdIt l (m', rs p) i = (cpIt m m' i, rs (p + (itB m i).length)) := by
  cases i with
  | n x lo hi =>
    obtain ⟨f1, f2, f3⟩ := hf
    have hc' : lo ≤ x.get m ∧ x.get m ≤ hi := of_decide_eq_true hc
    have e := rdN_at (lo := lo - min lo 0) (hi := hi - min lo 0) h (by omega) (by omega) (by omega)
    show (x.set m' ((rdN l (rs p) (lo - min lo 0) (hi - min lo 0)).1 + min lo 0), (rdN l (rs p) (lo - min lo 0) (hi - min lo 0)).2) = _
    rw [e]
    show (x.set m' (((x.get m - min lo 0).toNat : Int) + min lo 0), _) = _
    rw [show (((x.get m - min lo 0).toNat : Nat) : Int) + min lo 0 = x.get m by omega]
    rfl
  | a x =>
    have e := rdU_at h (hok.am' x)
    show (x.set m' (rdU l (rs p)).1.toNat, (rdU l (rs p)).2) = _
    rw [e]; rfl
  | h x =>
    have e := rdH_at h (HF.len hok.R)
    show (x.set m' (rdH l (rs p)).1, (rdH l (rs p)).2) = _
    rw [e, show (itB m (.h x)).length = 32 from HF.len hok.R]; rfl
  | k x =>
    have f1 : 1 ≤ x ∧ x ≤ 2 := hf
    have e := rdN_at (lo := x) (hi := x) h (by omega) (by omega) (by omega)
    show (m', (rdN l (rs p) x x).2) = _
    rw [e]; rfl
theorem rdL_at {l r : List UInt8} {m : Msg} (hok : m.Ok) (its : List MIt) : ∀ (p : Nat) (m' : Msg), (∀ i ∈ its, i.Fit) → its.all (chkIt m) = true → l.drop p = its.flatMap (itB m) ++ r → its.foldl (rdIt l) (m', rs p) = (its.foldl (cpIt m) m', rs (p + (its.flatMap (itB m)).length)) := by
  induction its with
  | nil => intro p m' _ _ _; simp
  | cons i t ih =>
    intro p m' hf hc h
    rw [List.flatMap_cons, List.append_assoc] at h
    rw [List.all_cons, Bool.and_eq_true] at hc
    rw [List.foldl_cons, rdIt_at hok (hf i (List.mem_cons_self ..)) hc.1 h, ih _ _ (fun j hj => hf j (List.mem_cons_of_mem _ hj)) hc.2 (drop_more h), List.foldl_cons, List.flatMap_cons, List.length_append, Nat.add_assoc]
theorem cp_0 (m : Msg) : (kM 0).foldl (cpIt m) ((kM 0).foldl clrIt m) = m := by kernel_rfl
theorem cp_1 (m : Msg) : (kM 1).foldl (cpIt m) ((kM 1).foldl clrIt m) = m := by kernel_rfl
theorem cp_2 (m : Msg) : (kM 2).foldl (cpIt m) ((kM 2).foldl clrIt m) = m := by kernel_rfl
theorem cp_3 (m : Msg) : (kM 3).foldl (cpIt m) ((kM 3).foldl clrIt m) = m := by kernel_rfl
theorem cp_4 (m : Msg) : (kM 4).foldl (cpIt m) ((kM 4).foldl clrIt m) = m := by kernel_rfl
theorem cp_5 (m : Msg) : (kM 5).foldl (cpIt m) ((kM 5).foldl clrIt m) = m := by kernel_rfl
theorem cp_6 (m : Msg) : (kM 6).foldl (cpIt m) ((kM 6).foldl clrIt m) = m := by kernel_rfl
theorem cp_7 (m : Msg) : (kM 7).foldl (cpIt m) ((kM 7).foldl clrIt m) = m := by kernel_rfl
theorem cp_8 (m : Msg) : (kM 8).foldl (cpIt m) ((kM 8).foldl clrIt m) = m := by kernel_rfl
theorem cp_9 (m : Msg) : (kM 9).foldl (cpIt m) ((kM 9).foldl clrIt m) = m := by kernel_rfl
theorem cp_10 (m : Msg) : (kM 10).foldl (cpIt m) ((kM 10).foldl clrIt m) = m := by kernel_rfl
theorem cp_11 (m : Msg) : (kM 11).foldl (cpIt m) ((kM 11).foldl clrIt m) = m := by kernel_rfl
theorem cp_kM (m : Msg) (k : Nat) : (kM k).foldl (cpIt m) ((kM k).foldl clrIt m) = m := by
  match k with
  | 0 => exact cp_0 m
  | 1 => exact cp_1 m
  | 2 => exact cp_2 m
  | 3 => exact cp_3 m
  | 4 => exact cp_4 m
  | 5 => exact cp_5 m
  | 6 => exact cp_6 m
  | 7 => exact cp_7 m
  | 8 => exact cp_8 m
  | 9 => exact cp_9 m
  | 10 => exact cp_10 m
  | 11 => exact cp_11 m
  | n + 12 => rfl
theorem cp_ep (m : Msg) : ([MIt.n .f 0 63] ++ ([MIt.n .pf 1 3] ++ (blockM .pv .ph .pr .pg ++ blockM .qv .qh .qr .qg))).foldl (cpIt m) (([MIt.n .f 0 63] ++ ([MIt.n .pf 1 3] ++ (blockM .pv .ph .pr .pg ++ blockM .qv .qh .qr .qg))).foldl clrIt m) = m := by kernel_rfl
theorem cp_ev' (m : Msg) : ([MIt.n .f 0 63] ++ ([MIt.n .pf 1 3] ++ (voteM .av .as_ .at_ .ar .ag ++ voteM .bv .bs .bt .br .bg))).foldl (cpIt m) (([MIt.n .f 0 63] ++ ([MIt.n .pf 1 3] ++ (voteM .av .as_ .at_ .ar .ag ++ voteM .bv .bs .bt .br .bg))).foldl clrIt m) = m := by kernel_rfl
theorem cp_ev (m : Msg) (p : Int) : ([MIt.n .f 0 63] ++ ([MIt.n .pf 1 3] ++ evM p)).foldl (cpIt m) (([MIt.n .f 0 63] ++ ([MIt.n .pf 1 3] ++ evM p)).foldl clrIt m) = m := by
  unfold evM; split
  · exact cp_ep m
  · exact cp_ev' m
theorem cp_items (m : Msg) : m.items.foldl (cpIt m) (clrAll m) = m := by
  unfold clrAll Msg.items
  split
  · exact cp_ev m _
  · exact cp_kM m _
theorem ev_pf (m m' : Msg) : (cpIt m (cpIt m m' (.n .f 0 63)) (.n .pf 1 3)).pf = m.pf := rfl
theorem mRS_at {l r : List UInt8} {m : Msg} (hok : m.Ok) (hc : m.chk = 0) (h : l = m.by ++ r) : mRS l = (m, rs m.by.length) := by
  obtain ⟨⟨hk, hpf⟩, hall, hclr⟩ := chk_0 hc
  have h0 : l.drop 0 = Cod.enc m.k.toNat ++ (m.items.flatMap (itB m) ++ r) := by rw [List.drop_zero, h]; simp [Msg.by]
  have eK : mK l = (((m.k.toNat : Nat) : Int), rs (0 + (Cod.enc m.k.toNat).length)) := rdN_at (lo := 1) (hi := 11) h0 (by omega) (by omega) (by omega)
  have ek : ((m.k.toNat : Nat) : Int) = m.k := by omega
  have hd := drop_more h0
  have e2 := rdL_at (r := r) hok m.items _ (onlyK m.k) m.items_fit hall hd
  rw [show m.items.foldl (cpIt m) (onlyK m.k) = m by rw [← hclr]; exact cp_items m] at e2
  have el : 0 + (Cod.enc m.k.toNat).length + (m.items.flatMap (itB m)).length = m.by.length := by unfold Msg.by; rw [List.length_append]; omega
  rw [el] at e2
  unfold mRS
  rw [eK, ek, if_pos hk.1]
  unfold rdAll
  by_cases h8 : m.k = 8
  · rw [if_pos (by rw [h8]; rfl)]
    rw [Msg.items8 h8] at e2 hall
    rw [List.foldl_append, List.foldl_append] at e2
    rw [List.all_append, List.all_append, Bool.and_eq_true, Bool.and_eq_true] at hall
    have c1 : chkIt m (.n .f 0 63) = true := by simpa using hall.1
    have c2 : chkIt m (.n .pf 1 3) = true := by simpa using hall.2.1
    rw [Msg.items8 h8, List.flatMap_append, List.flatMap_append, List.append_assoc, List.append_assoc] at hd
    have d1 : l.drop (0 + (Cod.enc m.k.toNat).length) = itB m (.n .f 0 63) ++ (itB m (.n .pf 1 3) ++ ((evM m.pf).flatMap (itB m) ++ r)) := by simpa using hd
    have s1 := rdIt_at (m' := onlyK m.k) hok (i := .n .f 0 63) (by simp [MIt.Fit]) c1 d1
    have s2 := rdIt_at (m' := cpIt m (onlyK m.k) (.n .f 0 63)) hok (i := .n .pf 1 3) (by simp [MIt.Fit]) c2 (drop_more d1)
    have e3 : ((rdIt l (rdIt l (onlyK m.k, rs (0 + (Cod.enc m.k.toNat).length)) (.n .f 0 63)) (.n .pf 1 3)).1.pf) = m.pf := by rw [s1, s2]; rfl
    rw [e3, if_pos (by have := hpf h8; omega)]
    exact e2
  · rw [if_neg (by omega)]
    rw [Msg.itemsk ek.symm (by omega)] at e2
    exact e2
theorem mFin_at {m : Msg} (hok : m.Ok) (hc : m.chk = 0) : mFin m.by = (0, 0) ∧ mRes m.by = m := by
  have e := mRS_at (r := []) hok hc (List.append_nil _).symm
  have e1 : mFin m.by = (0, 0) := by unfold mFin; rw [e]; exact fin_at (Nat.le_refl _)
  exact ⟨e1, by unfold mRes; rw [e1, if_pos rfl, e]⟩
/-! What is read of bytes has just these bytes. -/
/-- Things that stand at other places. -/
def Dist : MIt → MIt → Bool
  | .n x _ _, .n y _ _ => decide (x ≠ y) | .a x, .a y => decide (x ≠ y) | .h x, .h y => decide (x ≠ y) | _, _ => true
theorem NF.gs (x : NF) (m : Msg) (v : Int) : x.get (x.set m v) = v := by cases x <;> rfl
theorem AF.gs (x : AF) (m : Msg) (v : Nat) : x.get (x.set m v) = v := by cases x <;> rfl
theorem HF.gs (x : HF) (m : Msg) (v : List UInt8) : x.get (x.set m v) = v := by cases x <;> rfl
theorem keepN {l : List UInt8} {ms : Msg × RS} {x : NF} {lo hi : Int} {j : MIt} (h : Dist (.n x lo hi) j = true) : x.get (rdIt l ms j).1 = x.get ms.1 := by
  cases j with
  | n y a b =>
    have hne : x ≠ y := of_decide_eq_true h
    show x.get (y.set ms.1 _) = _
    clear h
    cases x <;> cases y <;> first | rfl | exact absurd rfl hne
  | a y => show x.get (y.set ms.1 _) = _; cases x <;> cases y <;> rfl
  | h y => show x.get (y.set ms.1 _) = _; cases x <;> cases y <;> rfl
  | k y => rfl
theorem keepA {l : List UInt8} {ms : Msg × RS} {x : AF} {j : MIt} (h : Dist (.a x) j = true) : x.get (rdIt l ms j).1 = x.get ms.1 := by
  cases j with
  | n y a b => show x.get (y.set ms.1 _) = _; cases x <;> cases y <;> rfl
  | a y =>
    have hne : x ≠ y := of_decide_eq_true h
    show x.get (y.set ms.1 _) = _
    clear h
    cases x <;> cases y <;> first | rfl | exact absurd rfl hne
  | h y => show x.get (y.set ms.1 _) = _; cases x <;> cases y <;> rfl
  | k y => rfl
theorem keepH {l : List UInt8} {ms : Msg × RS} {x : HF} {j : MIt} (h : Dist (.h x) j = true) : x.get (rdIt l ms j).1 = x.get ms.1 := by
  cases j with
  | n y a b => show x.get (y.set ms.1 _) = _; cases x <;> cases y <;> rfl
  | a y => show x.get (y.set ms.1 _) = _; cases x <;> cases y <;> rfl
  | h y =>
    have hne : x ≠ y := of_decide_eq_true h
    show x.get (y.set ms.1 _) = _
    clear h
    cases x <;> cases y <;> first | rfl | exact absurd rfl hne
  | k y => rfl
theorem itB_keep {l : List UInt8} {i : MIt} (t : List MIt) : ∀ ms : Msg × RS, (∀ j ∈ t, Dist i j = true) → itB (t.foldl (rdIt l) ms).1 i = itB ms.1 i ∧ chkIt (t.foldl (rdIt l) ms).1 i = chkIt ms.1 i := by
  induction t with
  | nil => intro ms _; exact ⟨rfl, rfl⟩
  | cons j t ih =>
    intro ms h
    obtain ⟨h1, h2⟩ := ih (rdIt l ms j) (fun j hj => h j (List.mem_cons_of_mem _ hj))
    have hj := h j (List.mem_cons_self ..)
    rw [List.foldl_cons, h1, h2]
    cases i with
    | n x lo hi => unfold itB chkIt; simp only [keepN hj]; exact ⟨trivial, trivial⟩
    | a x => unfold itB chkIt; simp only [keepA hj]; exact ⟨trivial, trivial⟩
    | h x => unfold itB chkIt; simp only [keepH hj]; exact ⟨trivial, trivial⟩
    | k x => exact ⟨rfl, rfl⟩
theorem getN_keep {l : List UInt8} {x : NF} {lo hi : Int} (t : List MIt) : ∀ ms : Msg × RS, (∀ j ∈ t, Dist (.n x lo hi) j = true) → x.get (t.foldl (rdIt l) ms).1 = x.get ms.1 := by
  induction t with
  | nil => intro ms _; rfl
  | cons j t ih =>
    intro ms h
    rw [List.foldl_cons, ih _ (fun j hj => h j (List.mem_cons_of_mem _ hj)), keepN (h j (List.mem_cons_self ..))]
theorem NF.ok {m : Msg} {v : Int} (h : m.Ok) (hv : i64b v) (x : NF) : (x.set m v).Ok := by
  cases x
  · exact { h with k := hv }
  · exact { h with f := hv }
  · exact { h with vl := hv }
  · exact { h with t := hv }
  · exact { h with sv := hv }
  · exact { h with ss := hv }
  · exact { h with sp := hv }
  · exact { h with sf := hv }
  · exact { h with n := hv }
  · exact { h with pf := hv }
  · exact { h with a := { h.a with v := hv } }
  · exact { h with a := { h.a with s := hv } }
  · exact { h with a := { h.a with t := hv } }
  · exact { h with b := { h.b with v := hv } }
  · exact { h with b := { h.b with s := hv } }
  · exact { h with b := { h.b with t := hv } }
  · exact { h with p := { h.p with v := hv } }
  · exact { h with p := { h.p with h := hv } }
  · exact { h with q := { h.q with v := hv } }
  · exact { h with q := { h.q with h := hv } }
theorem AF.ok {m : Msg} {v : Nat} (h : m.Ok) (hv : v < 2 ^ 64) (x : AF) : (x.set m v).Ok := by
  cases x
  · exact { h with am := hv }
  · exact { h with mn := hv }
  · exact { h with a := { h.a with g := hv } }
  · exact { h with b := { h.b with g := hv } }
  · exact { h with p := { h.p with g := hv } }
  · exact { h with q := { h.q with g := hv } }
theorem HF.ok {m : Msg} {v : List UInt8} (h : m.Ok) (hv : v.length = 32) (x : HF) : (x.set m v).Ok := by
  cases x
  · exact { h with a := { h.a with r := hv } }
  · exact { h with b := { h.b with r := hv } }
  · exact { h with p := { h.p with r := hv } }
  · exact { h with q := { h.q with r := hv } }
theorem rdIt_err {l : List UInt8} {ms : Msg × RS} {i : MIt} (h : (rdIt l ms i).2.err = 0) : ms.2.err = 0 := by
  cases i with
  | n x lo hi => exact (rdN_err h).1
  | a x => exact (rdU_err h).1
  | h x => exact (rdH_err h).1
  | k x => exact (rdN_err h).1
theorem rdL_err {l : List UInt8} (its : List MIt) : ∀ ms : Msg × RS, (its.foldl (rdIt l) ms).2.err = 0 → ms.2.err = 0 := by
  induction its with
  | nil => intro ms h; exact h
  | cons i t ih => intro ms h; exact rdIt_err (ih _ h)
theorem rdIt_back {l : List UInt8} {p : Nat} {m' : Msg} {i : MIt} (hf : i.Fit) (hok : m'.Ok) (hp : p ≤ l.length) (h : (rdIt l (m', rs p) i).2.err = 0) :
    ∃ r, l.drop p = itB (rdIt l (m', rs p) i).1 i ++ r ∧ (rdIt l (m', rs p) i).2 = rs (p + (itB (rdIt l (m', rs p) i).1 i).length) ∧ p + (itB (rdIt l (m', rs p) i).1 i).length ≤ l.length ∧ chkIt (rdIt l (m', rs p) i).1 i = true ∧ (rdIt l (m', rs p) i).1.Ok := by
  cases i with
  | n x lo hi =>
    obtain ⟨f1, f2, f3⟩ := hf
    obtain ⟨n, r, hn, hd, e, h1, h2, h3⟩ := rdN_inv hp (show (rdN l (rs p) (lo - min lo 0) (hi - min lo 0)).2.err = 0 from h)
    have e' : rdIt l (m', rs p) (.n x lo hi) = (x.set m' ((n : Int) + min lo 0), rs (p + (Cod.enc n).length)) := by
      show (x.set m' ((rdN l (rs p) (lo - min lo 0) (hi - min lo 0)).1 + min lo 0), (rdN l (rs p) (lo - min lo 0) (hi - min lo 0)).2) = _
      rw [e]
    rw [e']
    have eb : itB (x.set m' ((n : Int) + min lo 0)) (.n x lo hi) = Cod.enc n := by
      show Cod.enc (x.get (x.set m' ((n : Int) + min lo 0)) - min lo 0).toNat = _
      rw [NF.gs, show ((n : Int) + min lo 0 - min lo 0).toNat = n by omega]
    refine ⟨r, by rw [eb]; exact hd, by rw [eb], by rw [eb]; exact h3, ?_, NF.ok hok ⟨by omega, by omega⟩ x⟩
    show decide (lo ≤ x.get (x.set m' ((n : Int) + min lo 0)) ∧ x.get (x.set m' ((n : Int) + min lo 0)) ≤ hi) = true
    rw [NF.gs]
    exact decide_eq_true ⟨by omega, by omega⟩
  | a x =>
    obtain ⟨n, r, hn, hd, e, h3⟩ := rdU_inv hp (show (rdU l (rs p)).2.err = 0 from h)
    have e' : rdIt l (m', rs p) (.a x) = (x.set m' n, rs (p + (Cod.enc n).length)) := by
      show (x.set m' (rdU l (rs p)).1.toNat, (rdU l (rs p)).2) = _
      rw [e]; rfl
    rw [e']
    have eb : itB (x.set m' n) (.a x) = Cod.enc n := by show Cod.enc (x.get (x.set m' n)) = _; rw [AF.gs]
    exact ⟨r, by rw [eb]; exact hd, by rw [eb], by rw [eb]; exact h3, rfl, AF.ok hok hn x⟩
  | h x =>
    obtain ⟨y, r, hy, hd, e, h3⟩ := rdH_inv hp (show (rdH l (rs p)).2.err = 0 from h)
    have e' : rdIt l (m', rs p) (.h x) = (x.set m' y, rs (p + 32)) := by
      show (x.set m' (rdH l (rs p)).1, (rdH l (rs p)).2) = _
      rw [e]
    rw [e']
    have eb : itB (x.set m' y) (.h x) = y := HF.gs _ _ _
    exact ⟨r, by rw [eb]; exact hd, by rw [eb, hy], by rw [eb, hy]; exact h3, rfl, HF.ok hok hy x⟩
  | k x =>
    have f1 : 1 ≤ x ∧ x ≤ 2 := hf
    obtain ⟨n, r, hn, hd, e, h1, h2, h3⟩ := rdN_inv hp (show (rdN l (rs p) x x).2.err = 0 from h)
    have e' : rdIt l (m', rs p) (.k x) = (m', rs (p + (Cod.enc n).length)) := by
      show (m', (rdN l (rs p) x x).2) = _
      rw [e]
    rw [e']
    have eb : itB m' (.k x) = Cod.enc n := by show Cod.enc x.toNat = _; rw [show x.toNat = n by have := h2 (by omega); omega]
    exact ⟨r, by rw [eb]; exact hd, by rw [eb], by rw [eb]; exact h3, rfl, hok⟩
theorem rdL_back {l : List UInt8} (its : List MIt) : ∀ (p : Nat) (m' : Msg), (∀ i ∈ its, i.Fit) → its.Pairwise (fun i j => Dist i j = true) → m'.Ok → p ≤ l.length → (its.foldl (rdIt l) (m', rs p)).2.err = 0 →
    ∃ r, l.drop p = its.flatMap (itB (its.foldl (rdIt l) (m', rs p)).1) ++ r ∧ (its.foldl (rdIt l) (m', rs p)).2 = rs (p + (its.flatMap (itB (its.foldl (rdIt l) (m', rs p)).1)).length) ∧ p + (its.flatMap (itB (its.foldl (rdIt l) (m', rs p)).1)).length ≤ l.length ∧ its.all (chkIt (its.foldl (rdIt l) (m', rs p)).1) = true ∧ (its.foldl (rdIt l) (m', rs p)).1.Ok := by
  induction its with
  | nil => intro p m' _ _ hok hp _; exact ⟨l.drop p, by simp, by simp, by simpa using hp, rfl, hok⟩
  | cons i t ih =>
    intro p m' hf hd hok hp h
    rw [List.pairwise_cons] at hd
    rw [List.foldl_cons] at h ⊢
    obtain ⟨r1, a1, a2, a3, a4, a5⟩ := rdIt_back (hf i (List.mem_cons_self ..)) hok hp (rdL_err _ _ h)
    obtain ⟨m1, e1⟩ : ∃ m1, (rdIt l (m', rs p) i).1 = m1 := ⟨_, rfl⟩
    have e2 : rdIt l (m', rs p) i = (m1, rs (p + (itB m1 i).length)) := by rw [← e1, ← a2]
    rw [e1] at a1 a2 a3 a4 a5
    rw [e2] at h ⊢
    obtain ⟨k1, k2⟩ := itB_keep (l := l) (i := i) t (m1, rs (p + (itB m1 i).length)) hd.1
    obtain ⟨r, b1, b2, b3, b4, b5⟩ := ih _ m1 (fun j hj => hf j (List.mem_cons_of_mem _ hj)) hd.2 a5 a3 h
    refine ⟨r, ?_, ?_, ?_, ?_, b5⟩
    · rw [List.flatMap_cons, k1, List.append_assoc, a1, ← b1, ← drop_more a1]
    · rw [List.flatMap_cons, List.length_append, k1, ← Nat.add_assoc]; exact b2
    · rw [List.flatMap_cons, List.length_append, k1, ← Nat.add_assoc]; exact b3
    · rw [List.all_cons, k2, b4, Bool.and_true]; exact a4
theorem dist_kM (k : Nat) : (NF.k.off = 0) ∧ (kM k).Pairwise (fun i j => Dist i j = true) ∧ ∀ j ∈ kM k, Dist (.n .k 0 0) j = true := by
  refine ⟨rfl, ?_⟩
  match k with
  | 0 => exact ⟨by decide, by decide⟩
  | 1 => exact ⟨by decide, by decide⟩
  | 2 => exact ⟨by decide, by decide⟩
  | 3 => exact ⟨by decide, by decide⟩
  | 4 => exact ⟨by decide, by decide⟩
  | 5 => exact ⟨by decide, by decide⟩
  | 6 => exact ⟨by decide, by decide⟩
  | 7 => exact ⟨by decide, by decide⟩
  | 8 => exact ⟨by decide, by decide⟩
  | 9 => exact ⟨by decide, by decide⟩
  | 10 => exact ⟨by decide, by decide⟩
  | 11 => exact ⟨by decide, by decide⟩
  | n + 12 => exact ⟨List.Pairwise.nil, fun j h => by cases h⟩
theorem dist_ev (p : Int) : ([MIt.n .f 0 63] ++ ([MIt.n .pf 1 3] ++ evM p)).Pairwise (fun i j => Dist i j = true) ∧ (∀ j ∈ [MIt.n .f 0 63] ++ ([MIt.n .pf 1 3] ++ evM p), Dist (.n .k 0 0) j = true) ∧ ∀ j ∈ evM p, Dist (.n .pf 0 0) j = true := by
  unfold evM; split <;> exact ⟨by decide, by decide, by decide⟩
theorem ev_fit (p : Int) : ∀ i ∈ [MIt.n .f 0 63] ++ ([MIt.n .pf 1 3] ++ evM p), i.Fit := by
  intro i hi
  rcases List.mem_append.1 hi with h | h
  · obtain rfl : i = .n .f 0 63 := by simpa using h
    simp [MIt.Fit]
  · rcases List.mem_append.1 h with h | h
    · obtain rfl : i = .n .pf 1 3 := by simpa using h
      simp [MIt.Fit]
    · exact evM_fit _ i h
theorem clr_0 (l : List UInt8) (K : Int) (s : RS) : (kM 0).foldl clrIt ((kM 0).foldl (rdIt l) (onlyK K, s)).1 = onlyK K := by kernel_rfl
theorem clr_1 (l : List UInt8) (K : Int) (s : RS) : (kM 1).foldl clrIt ((kM 1).foldl (rdIt l) (onlyK K, s)).1 = onlyK K := by kernel_rfl
theorem clr_2 (l : List UInt8) (K : Int) (s : RS) : (kM 2).foldl clrIt ((kM 2).foldl (rdIt l) (onlyK K, s)).1 = onlyK K := by kernel_rfl
theorem clr_3 (l : List UInt8) (K : Int) (s : RS) : (kM 3).foldl clrIt ((kM 3).foldl (rdIt l) (onlyK K, s)).1 = onlyK K := by kernel_rfl
theorem clr_4 (l : List UInt8) (K : Int) (s : RS) : (kM 4).foldl clrIt ((kM 4).foldl (rdIt l) (onlyK K, s)).1 = onlyK K := by kernel_rfl
theorem clr_5 (l : List UInt8) (K : Int) (s : RS) : (kM 5).foldl clrIt ((kM 5).foldl (rdIt l) (onlyK K, s)).1 = onlyK K := by kernel_rfl
theorem clr_6 (l : List UInt8) (K : Int) (s : RS) : (kM 6).foldl clrIt ((kM 6).foldl (rdIt l) (onlyK K, s)).1 = onlyK K := by kernel_rfl
theorem clr_7 (l : List UInt8) (K : Int) (s : RS) : (kM 7).foldl clrIt ((kM 7).foldl (rdIt l) (onlyK K, s)).1 = onlyK K := by kernel_rfl
theorem clr_8 (l : List UInt8) (K : Int) (s : RS) : (kM 8).foldl clrIt ((kM 8).foldl (rdIt l) (onlyK K, s)).1 = onlyK K := by kernel_rfl
theorem clr_9 (l : List UInt8) (K : Int) (s : RS) : (kM 9).foldl clrIt ((kM 9).foldl (rdIt l) (onlyK K, s)).1 = onlyK K := by kernel_rfl
theorem clr_10 (l : List UInt8) (K : Int) (s : RS) : (kM 10).foldl clrIt ((kM 10).foldl (rdIt l) (onlyK K, s)).1 = onlyK K := by kernel_rfl
theorem clr_11 (l : List UInt8) (K : Int) (s : RS) : (kM 11).foldl clrIt ((kM 11).foldl (rdIt l) (onlyK K, s)).1 = onlyK K := by kernel_rfl
theorem clr_kM (l : List UInt8) (K : Int) (s : RS) (k : Nat) : (kM k).foldl clrIt ((kM k).foldl (rdIt l) (onlyK K, s)).1 = onlyK K := by
  match k with
  | 0 => exact clr_0 l K s
  | 1 => exact clr_1 l K s
  | 2 => exact clr_2 l K s
  | 3 => exact clr_3 l K s
  | 4 => exact clr_4 l K s
  | 5 => exact clr_5 l K s
  | 6 => exact clr_6 l K s
  | 7 => exact clr_7 l K s
  | 8 => exact clr_8 l K s
  | 9 => exact clr_9 l K s
  | 10 => exact clr_10 l K s
  | 11 => exact clr_11 l K s
  | n + 12 => rfl
theorem clr_ep (l : List UInt8) (K : Int) (s : RS) : ([MIt.n .f 0 63] ++ ([MIt.n .pf 1 3] ++ (blockM .pv .ph .pr .pg ++ blockM .qv .qh .qr .qg))).foldl clrIt (([MIt.n .f 0 63] ++ ([MIt.n .pf 1 3] ++ (blockM .pv .ph .pr .pg ++ blockM .qv .qh .qr .qg))).foldl (rdIt l) (onlyK K, s)).1 = onlyK K := by kernel_rfl
theorem clr_ev' (l : List UInt8) (K : Int) (s : RS) : ([MIt.n .f 0 63] ++ ([MIt.n .pf 1 3] ++ (voteM .av .as_ .at_ .ar .ag ++ voteM .bv .bs .bt .br .bg))).foldl clrIt (([MIt.n .f 0 63] ++ ([MIt.n .pf 1 3] ++ (voteM .av .as_ .at_ .ar .ag ++ voteM .bv .bs .bt .br .bg))).foldl (rdIt l) (onlyK K, s)).1 = onlyK K := by kernel_rfl
theorem clr_ev (l : List UInt8) (K : Int) (s : RS) (p : Int) : ([MIt.n .f 0 63] ++ ([MIt.n .pf 1 3] ++ evM p)).foldl clrIt (([MIt.n .f 0 63] ++ ([MIt.n .pf 1 3] ++ evM p)).foldl (rdIt l) (onlyK K, s)).1 = onlyK K := by
  unfold evM; split
  · exact clr_ep l K s
  · exact clr_ev' l K s
theorem onlyK_Ok {k : Int} (h : i64b k) : (onlyK k).Ok := by
  have z : i64b 0 := ⟨by decide, by decide⟩
  have za : (⟨0, 0, 0, zeroH, 0⟩ : Att).Ok := ⟨z, z, z, rfl, by decide⟩
  have zp : (⟨0, 0, zeroH, 0⟩ : Pro).Ok := ⟨z, z, rfl, by decide⟩
  exact ⟨h, z, z, z, (by show 0 < 2 ^ 64; decide), (by show 0 < 2 ^ 64; decide), z, z, z, z, z, z, za, za, zp, zp⟩
theorem chk_of {m : Msg} (h1 : m.form) (h2 : m.items.all (chkIt m) = true) (h3 : clrAll m = onlyK m.k) : m.chk = 0 := by
  unfold Msg.chk; rw [if_pos h1, if_pos h2, if_pos h3]
/-- What is read of bytes may be, and has just these bytes. -/
theorem mRes_back {l : List UInt8} (h : (mFin l).1 = 0) : (mRes l).Ok ∧ (mRes l).chk = 0 ∧ (mRes l).by = l := by
  have eR : mRes l = (mRS l).1 := by unfold mRes; rw [if_pos h]
  obtain ⟨h1, hpos⟩ := fin_err (show ((mRS l).2.fin l).1 = 0 from h)
  have hK0 : (mK l).2.err = 0 := by
    unfold mRS at h1
    split at h1
    · unfold rdAll at h1
      split at h1
      · have := rdL_err _ _ h1; have := rdIt_err this; exact rdIt_err this
      · exact rdL_err _ _ h1
    · exact h1
  obtain ⟨n, r0, hn, d0, eK, u1, u2, p0⟩ := rdN_inv (p := 0) (Nat.zero_le _) (show (rdN l (rs 0) 1 11).2.err = 0 from hK0)
  have eK' : mK l = ((n : Int), rs (0 + (Cod.enc n).length)) := eK
  have hn1 := u2 (by omega)
  have hkb : i64b ((n : Nat) : Int) := ⟨by omega, by omega⟩
  have e1 : mRS l = rdAll l n (onlyK n, rs (0 + (Cod.enc n).length)) := by
    unfold mRS; rw [eK', if_pos hn1]; rfl
  -- the list of things
  obtain ⟨its, e2, hfit, hdist, hk, hclr, hits⟩ : ∃ its : List MIt, rdAll l n (onlyK n, rs (0 + (Cod.enc n).length)) = its.foldl (rdIt l) (onlyK n, rs (0 + (Cod.enc n).length)) ∧ (∀ i ∈ its, i.Fit) ∧ its.Pairwise (fun i j => Dist i j = true) ∧ (∀ j ∈ its, Dist (.n .k 0 0) j = true) ∧
      its.foldl clrIt (its.foldl (rdIt l) (onlyK n, rs (0 + (Cod.enc n).length))).1 = onlyK n ∧
      ((its.foldl (rdIt l) (onlyK n, rs (0 + (Cod.enc n).length))).1.k = (n : Int) → (its.foldl (rdIt l) (onlyK n, rs (0 + (Cod.enc n).length))).1.items = its ∧ (its.foldl (rdIt l) (onlyK n, rs (0 + (Cod.enc n).length))).1.form) := by
    by_cases h8 : n = 8
    · have h8' : ((n : Nat) : Int) = 8 := by omega
      obtain ⟨ms1, hm1⟩ : ∃ ms, rdIt l (onlyK (n : Int), rs (0 + (Cod.enc n).length)) (.n .f 0 63) = ms := ⟨_, rfl⟩
      obtain ⟨ms2, hm2⟩ : ∃ ms, rdIt l ms1 (.n .pf 1 3) = ms := ⟨_, rfl⟩
      have hms2 : ms2.2.err = 0 := by
        rw [e1] at h1
        unfold rdAll at h1
        rw [if_pos h8] at h1
        have := rdL_err _ _ h1
        rw [← hm2, ← hm1]; exact this
      have hms1 : ms1.2.err = 0 := by rw [← hm2] at hms2; exact rdIt_err hms2
      have hok8 : (onlyK (n : Int)).Ok := onlyK_Ok hkb
      obtain ⟨r1, a1, a2, a3, a4, a5⟩ := rdIt_back (m' := onlyK (n : Int)) (i := .n .f 0 63) (by simp [MIt.Fit]) hok8 p0 (by rw [show rdIt l (onlyK (n : Int), rs (0 + (Cod.enc n).length)) (.n .f 0 63) = ms1 from hm1]; exact hms1)
      rw [hm1] at a1 a2 a3 a4 a5
      have e5 : ms1 = (ms1.1, rs (0 + (Cod.enc n).length + (itB ms1.1 (.n .f 0 63)).length)) := by rw [← a2]
      have hm2' := hm2
      rw [e5] at hm2'
      obtain ⟨r2, b1, b2, b3, b4, b5⟩ := rdIt_back (m' := ms1.1) (i := .n .pf 1 3) (by simp [MIt.Fit]) a5 a3 (by rw [hm2']; exact hms2)
      rw [hm2'] at b4
      have hpf : 1 ≤ ms2.1.pf ∧ ms2.1.pf ≤ 3 := of_decide_eq_true b4
      have hfold : ([MIt.n .f 0 63] ++ ([MIt.n .pf 1 3] ++ evM ms2.1.pf)).foldl (rdIt l) (onlyK (n : Int), rs (0 + (Cod.enc n).length)) = (evM ms2.1.pf).foldl (rdIt l) ms2 := by
        rw [List.foldl_append, List.foldl_append, List.foldl_cons, List.foldl_cons, List.foldl_nil, List.foldl_nil, hm1, hm2]
      refine ⟨[MIt.n .f 0 63] ++ ([MIt.n .pf 1 3] ++ evM ms2.1.pf), ?_, ev_fit _, (dist_ev _).1, (dist_ev _).2.1, clr_ev l _ _ _, fun hk8 => ?_⟩
      · unfold rdAll
        rw [if_pos h8]
        show (evM (if (rdIt l (rdIt l (onlyK (n : Int), rs (0 + (Cod.enc n).length)) (.n .f 0 63)) (.n .pf 1 3)).1.pf ≠ 0 then _ else _)).foldl (rdIt l) (rdIt l (rdIt l (onlyK (n : Int), rs (0 + (Cod.enc n).length)) (.n .f 0 63)) (.n .pf 1 3)) = _
        have e9 : (rdIt l (rdIt l (onlyK (n : Int), rs (0 + (Cod.enc n).length)) (.n .f 0 63)) (.n .pf 1 3)) = ms2 := hm1 ▸ hm2
        rw [e9, if_pos (by omega)]; exact hfold.symm
      · have hp := getN_keep (l := l) (x := .pf) (lo := 0) (hi := 0) (evM ms2.1.pf) ms2 (dist_ev _).2.2
        have hp' : (([MIt.n .f 0 63] ++ ([MIt.n .pf 1 3] ++ evM ms2.1.pf)).foldl (rdIt l) (onlyK (n : Int), rs (0 + (Cod.enc n).length))).1.pf = ms2.1.pf := by rw [hfold]; exact hp
        refine ⟨?_, ?_⟩
        · exact (Msg.items8 (hk8.trans h8')).trans (congrArg (fun q => [MIt.n .f 0 63] ++ ([MIt.n .pf 1 3] ++ evM q)) hp')
        · refine ⟨by rw [hk8, h8']; decide, fun _ => ?_⟩
          have := hp'
          exact ⟨Int.le_trans hpf.1 (Int.le_of_eq this.symm), Int.le_trans (Int.le_of_eq this) hpf.2⟩
    · refine ⟨kM n, ?_, kM_fit n, (dist_kM n).2.1, (dist_kM n).2.2, clr_kM l _ _ n, fun hkn => ⟨Msg.itemsk hkn h8, ?_⟩⟩
      · unfold rdAll; rw [if_neg h8]
      · exact ⟨by rw [hkn]; omega, fun h => absurd (Int.ofNat.inj (hkn.symm.trans h)) h8⟩
  have e3 : mRS l = its.foldl (rdIt l) (onlyK n, rs (0 + (Cod.enc n).length)) := e1.trans e2
  rw [e3] at h1 hpos
  obtain ⟨r, c1, c2, c3, c4, c5⟩ := rdL_back its _ (onlyK n) hfit hdist (onlyK_Ok hkb) p0 h1
  have hkk := getN_keep (l := l) (x := .k) (lo := 0) (hi := 0) its (onlyK n, rs (0 + (Cod.enc n).length)) hk
  have hkk' : (its.foldl (rdIt l) (onlyK n, rs (0 + (Cod.enc n).length))).1.k = (n : Int) := hkk
  obtain ⟨i1, i2⟩ := hits hkk'
  rw [eR, e3]
  obtain ⟨M, hM⟩ : ∃ M, (its.foldl (rdIt l) (onlyK n, rs (0 + (Cod.enc n).length))).1 = M := ⟨_, rfl⟩
  rw [hM] at c1 c2 c3 c4 c5 hkk' i1 i2 hclr ⊢
  refine ⟨c5, chk_of i2 (by rw [i1]; exact c4) ?_, ?_⟩
  · unfold clrAll; rw [i1, hclr, hkk']
  · have hend : r = [] := by
      have t := congrArg List.length c1
      rw [List.length_drop, List.length_append] at t
      rw [c2] at hpos
      have hpos := Int.ofNat_le.1 hpos
      exact List.eq_nil_of_length_eq_zero (by omega)
    rw [hend, List.append_nil] at c1
    unfold Msg.by
    rw [i1, hkk', ← c1, drop_more d0, show ((n : Nat) : Int).toNat = n from Int.toNat_natCast n]
    rw [List.drop_zero] at d0
    exact d0.symm
/-- No beginning of a message's bytes is a message. -/
theorem mFin_cut {m : Msg} {k : Nat} (hok : m.Ok) (hc : m.chk = 0) (hk : k < m.by.length) : ¬ (mFin (m.by.take k)).1 = 0 := fun h => by
  obtain ⟨o1, o2, o3⟩ := mRes_back h
  have e := mRS_at (l := m.by) (r := m.by.drop k) o1 o2 (by rw [o3, List.take_append_drop])
  have e2 := mRS_at (r := []) hok hc (List.append_nil m.by).symm
  rw [e, o3] at e2
  have := congrArg (fun z => z.2.pos) e2
  have h3 : (((m.by.take k).length : Nat) : Int) = (m.by.length : Nat) := this
  rw [List.length_take] at h3
  omega
theorem who_ok {m : Msg} (hc : m.chk = 0) : m.who = (m.f, decide (m.k ≠ 11)) := by
  obtain ⟨⟨hk, _⟩, _, hclr⟩ := chk_0 hc
  unfold Msg.who
  by_cases h : m.k = 11
  · have e : m.items = kM 11 := Msg.itemsk (k := 11) h (by decide)
    have hf : m.f = 0 := by
      unfold clrAll at hclr; rw [e] at hclr
      exact congrArg Msg.f hclr
    rw [if_neg (by omega), hf, decide_eq_false (by omega)]
  · rw [if_pos (by omega), decide_eq_true h]
end Go.Proofs.Ytmapcghgdbfmhaa
