/-
  EvidenceWhole proved: for every input the law returns true, and each argument reads as it did. Conditions: none.
-/
import Derived.Test.YtcbfnflnokoacaaGreatEvidenceWholeP6
namespace Go.Proofs.YtcbfnflnokoacaaGreat
set_option maxRecDepth 100000
set_option maxHeartbeats 4000000
open Go Go.RowKit Go.Own Go.Shelf
theorem row_app {w : World} {T : TypeId} {v : Value} {l m : List Sel} (h : Row w T 34 v (l.length + m.length) (l.flatMap Sel.cl ++ m.flatMap Sel.cl)) : Row w T 34 v (l ++ m).length ((l ++ m).flatMap Sel.cl) := by
  rw [List.flatMap_append, List.length_append]; exact h
theorem evMs_chk {pf : Int} {a b : Att} (hp : pf = 1 ∨ pf = 2) (ha : a.fine) (hb : b.fine) : (evMs pf a b).chk = 0 := by
  have hpf : (evMs pf a b).pf = pf := rfl
  have hk : (evMs pf a b).k = 8 := rfl
  have h3 : ¬ pf = 3 := by omega
  have hit : (evMs pf a b).items = [.n .f 0 63] ++ ([.n .pf 1 3] ++ (voteM .av .as_ .at_ .ar .ag ++ voteM .bv .bs .bt .br .bg)) := by
    rw [Msg.items8 hk, hpf, evM, if_neg h3]
  unfold Msg.chk
  rw [if_pos (show (evMs pf a b).form from ⟨⟨by rw [hk]; decide, by rw [hk]; decide⟩, fun _ => by rw [hpf]; omega⟩)]
  obtain ⟨a1, a2, a3, a4, a5, a6⟩ := ha
  obtain ⟨b1, b2, b3, b4, b5, b6⟩ := hb
  rw [if_pos]
  · rw [if_pos]
    unfold clrAll
    rw [hit]
    rfl
  · rw [hit]
    have e1 : chkIt (evMs pf a b) (.n .f 0 63) = true := decide_eq_true (show (0 : Int) ≤ 0 ∧ (0 : Int) ≤ 63 by decide)
    have e2 : chkIt (evMs pf a b) (.n .pf 1 3) = true := decide_eq_true (show 1 ≤ pf ∧ pf ≤ 3 by omega)
    have c1 : chkIt (evMs pf a b) (.n .av 0 31) = true := decide_eq_true ⟨a1, a2⟩
    have c2 : chkIt (evMs pf a b) (.n .as_ 0 4294967296) = true := decide_eq_true ⟨a3, a4⟩
    have c3 : chkIt (evMs pf a b) (.n .at_ 0 4294967296) = true := decide_eq_true ⟨a5, a6⟩
    have d1 : chkIt (evMs pf a b) (.n .bv 0 31) = true := decide_eq_true ⟨b1, b2⟩
    have d2 : chkIt (evMs pf a b) (.n .bs 0 4294967296) = true := decide_eq_true ⟨b3, b4⟩
    have d3 : chkIt (evMs pf a b) (.n .bt 0 4294967296) = true := decide_eq_true ⟨b5, b6⟩
    simp only [voteM, List.cons_append, List.nil_append, List.all_cons, List.all_nil, e1, e2, c1, c2, c3, d1, d2, d3]
    rfl
theorem evP_chk {p q : Pro} (ha : p.fine) (hb : q.fine) : (evP p q).chk = 0 := by
  have hk : (evP p q).k = 8 := rfl
  have hpf : (evP p q).pf = 3 := rfl
  have hit : (evP p q).items = [.n .f 0 63] ++ ([.n .pf 1 3] ++ (blockM .pv .ph .pr .pg ++ blockM .qv .qh .qr .qg)) := by
    rw [Msg.items8 hk, hpf, evM, if_pos rfl]
  unfold Msg.chk
  rw [if_pos (show (evP p q).form from ⟨⟨by rw [hk]; decide, by rw [hk]; decide⟩, fun _ => by rw [hpf]; omega⟩)]
  obtain ⟨a1, a2, a3, a4⟩ := ha
  obtain ⟨b1, b2, b3, b4⟩ := hb
  rw [if_pos]
  · rw [if_pos]
    unfold clrAll
    rw [hit]
    rfl
  · rw [hit]
    have e1 : chkIt (evP p q) (.n .f 0 63) = true := decide_eq_true (show (0 : Int) ≤ 0 ∧ (0 : Int) ≤ 63 by decide)
    have e2 : chkIt (evP p q) (.n .pf 1 3) = true := decide_eq_true (show (1 : Int) ≤ 3 ∧ (3 : Int) ≤ 3 by decide)
    have c1 : chkIt (evP p q) (.n .pv 0 31) = true := decide_eq_true ⟨a1, a2⟩
    have c2 : chkIt (evP p q) (.n .ph 1 4294967296) = true := decide_eq_true ⟨a3, a4⟩
    have d1 : chkIt (evP p q) (.n .qv 0 31) = true := decide_eq_true ⟨b1, b2⟩
    have d2 : chkIt (evP p q) (.n .qh 1 4294967296) = true := decide_eq_true ⟨b3, b4⟩
    simp only [blockM, List.cons_append, List.nil_append, List.all_cons, List.all_nil, e1, e2, c1, c2, d1, d2]
    rfl
theorem max_comm' (a b : Int) : max a b = max b a := by omega
theorem swp_Ok {m : Msg} (h : m.Ok) : (putB (putA m m.b) m.a).Ok := ⟨h.k, h.f, h.vl, h.t, h.am, h.mn, h.sv, h.ss, h.sp, h.sf, h.n, h.pf, h.b, h.a, h.p, h.q⟩
theorem msgZ_Ok : msgZ.Ok := ⟨i64b_0, i64b_0, i64b_0, i64b_0, u64_0, u64_0, i64b_0, i64b_0, i64b_0, i64b_0, i64b_0, i64b_0, attZ_ok, attZ_ok, proZ_ok, proZ_ok⟩
theorem proves_Ok {a b : Att} (ha : a.Ok) (hb : b.Ok) : (proves a b).1.Ok := by
  unfold proves
  split
  · exact evMs_Ok (pf := 1) i64b_1 ha hb
  split
  · exact evMs_Ok (pf := 2) i64b_2 ha hb
  split
  · exact evMs_Ok (pf := 2) i64b_2 hb ha
  · exact msgZ_Ok
theorem provesP_Ok {a b : Pro} (ha : a.Ok) (hb : b.Ok) : (provesP a b).1.Ok := by
  unfold provesP
  split
  · exact evP_Ok ha hb
  · exact msgZ_Ok
theorem off_att {p : Par} {m : Msg} {h : Int} (hp : p.check.1 = 0) (hc : m.chk = 0) (hk : m.k = 8) (hcl : m.cla = true) (hpf : m.pf = 1 ∨ m.pf = 2) (hf : p.first (max m.a.t m.b.t) = (h, 0)) : offe p m = (⟨m.a.v, 1, h⟩, 0) := by
  have he : m.evi = 0 := by rw [Msg.evi, if_pos hc, if_pos hk]
  have hh : hgt p m = (h, 0) := (if_pos hpf).trans hf
  rw [offe, if_pos (offE_of hp he hcl), hh, if_pos rfl, if_neg (by omega)]
theorem jud_att {p : Par} {L : List Sel} {m : Msg} {h n : Int} (hp : p.check.1 = 0) (hc : m.chk = 0) (hk : m.k = 8) (hcl : m.cla = true) (hpf : m.pf = 1 ∨ m.pf = 2) (hf : p.first (max m.a.t m.b.t) = (h, 0)) (hn : n = m.a.v + 1) (ha : m.a.sel ∈ L) (hb : m.b.sel ∈ L) : jud p L n m = (⟨m.a.v, 1, h⟩, 0) :=
  jud_yes (off_att hp hc hk hcl hpf hf) (by show ¬ n ≤ m.a.v; omega) (sgnd_yes (by rw [Msg.evi, if_pos hc, if_pos hk]) (by
    rw [show m.sls = [m.a.sel, m.b.sel] from if_neg (by omega)]
    intro x hx
    simp only [List.mem_cons, List.not_mem_nil, or_false] at hx
    rcases hx with rfl | rfl
    · exact ha
    · exact hb))
theorem cla_1 (a b : Att) : (evMs 1 a b).cla = doub a b := if_pos rfl
theorem cla_2 (a b : Att) : (evMs 2 a b).cla = surr a b := (if_neg (by show ¬ (2 : Int) = 1; decide)).trans (if_pos rfl)
theorem edoub_comm {a b : Att} (h : doub a b = true) : doub b a = true := by
  obtain ⟨h1, h2, h3, h4, h5⟩ := of_decide_eq_true h
  exact decide_eq_true ⟨h2, h1, h3.symm, h4.symm, fun e => h5 e.symm⟩
theorem esurr_anti {a b : Att} (h : surr a b = true) : surr b a = false := decide_eq_false fun h' => absurd (Int.lt_trans (of_decide_eq_true h).2.2.2.1 h'.2.2.2.1) (Int.lt_irrefl _)
theorem jud_wrong {p : Par} {L : List Sel} {n : Int} {a b : Att} (hp : p.check.1 = 0) (ha : a.fine) (hb : b.fine) (hs : surr a b = false) : jud p L n (evMs 2 a b) = (offZ, 18) := by
  have h : offE p (evMs 2 a b) = 18 := by rw [offE, hp, Msg.evi, if_pos (evMs_chk (.inr rfl) ha hb), if_pos (show (evMs 2 a b).k = 8 from rfl), cla_2, hs]; rfl
  have h2 : offe p (evMs 2 a b) = (offZ, 18) := by rw [offe, h]; rfl
  rw [jud, h2]; rfl
theorem whole_cases {p : Par} {a b : Att} {L : List Sel} {h : Int} (hp : p.check.1 = 0) (ha : a.fine → a.sel ∈ L) (hb : b.fine → b.sel ∈ L) (hf : p.first (max a.t b.t) = (h, 0)) :
    ((proves a b).2 = true ∧ (proves a b).1.pf = 1 ∧ a.fine ∧ jud p L (a.v + 1) (proves a b).1 = (⟨a.v, 1, h⟩, 0) ∧ jud p L (a.v + 1) (putB (putA (proves a b).1 (proves a b).1.b) (proves a b).1.a) = (⟨a.v, 1, h⟩, 0)) ∨
    ((proves a b).2 = true ∧ (proves a b).1.pf = 2 ∧ a.fine ∧ jud p L (a.v + 1) (proves a b).1 = (⟨a.v, 1, h⟩, 0) ∧ jud p L (a.v + 1) (putB (putA (proves a b).1 (proves a b).1.b) (proves a b).1.a) = (offZ, 18)) ∨ (proves a b).2 = false := by
  have hf' : p.first (max b.t a.t) = (h, 0) := by rw [max_comm']; exact hf
  by_cases c0 : doub a b = true
  · have e : proves a b = (evMs 1 a b, true) := if_pos c0
    obtain ⟨fa, fb, hv, ht, hd⟩ := of_decide_eq_true c0
    rw [e]
    refine .inl ⟨rfl, rfl, fa, jud_att hp (evMs_chk (.inl rfl) fa fb) rfl ((cla_1 a b).trans c0) (.inl rfl) hf rfl (ha fa) (hb fb), ?_⟩
    rw [show putB (putA (evMs 1 a b) (evMs 1 a b).b) (evMs 1 a b).a = evMs 1 b a from rfl, hv]
    exact jud_att hp (evMs_chk (.inl rfl) fb fa) rfl ((cla_1 b a).trans (edoub_comm c0)) (.inl rfl) hf' rfl (hb fb) (ha fa)
  by_cases c1 : surr a b = true
  · have e : proves a b = (evMs 2 a b, true) := (if_neg c0).trans (if_pos c1)
    obtain ⟨fa, fb, hv, ht, hd⟩ := of_decide_eq_true c1
    rw [e]
    refine .inr (.inl ⟨rfl, rfl, fa, jud_att hp (evMs_chk (.inr rfl) fa fb) rfl ((cla_2 a b).trans c1) (.inr rfl) hf rfl (ha fa) (hb fb), ?_⟩)
    exact jud_wrong (a := b) (b := a) hp fb fa (esurr_anti c1)
  by_cases c2 : surr b a = true
  · have e : proves a b = (evMs 2 b a, true) := (if_neg c0).trans ((if_neg c1).trans (if_pos c2))
    obtain ⟨fb, fa, hv, ht, hd⟩ := of_decide_eq_true c2
    rw [e]
    refine .inr (.inl ⟨rfl, rfl, fa, ?_, ?_⟩)
    · rw [← hv]; exact jud_att hp (evMs_chk (.inr rfl) fb fa) rfl ((cla_2 b a).trans c2) (.inr rfl) hf' rfl (hb fb) (ha fa)
    · exact jud_wrong (a := a) (b := b) hp fa fb (esurr_anti c2)
  · have e : proves a b = (msgZ, false) := (if_neg c0).trans ((if_neg c1).trans (if_neg c2))
    exact .inr (.inr (by rw [e]))
theorem wholeP_yes {p : Par} {x y : Pro} {L : List Sel} (hp : p.check.1 = 0) (hx : x.fine → x.sel ∈ L) (hy : y.fine → y.sel ∈ L) (c : doubP x y = true) : (provesP x y).2 = true ∧ x.fine ∧ jud p L (x.v + 1) (provesP x y).1 = (⟨x.v, 2, x.h⟩, 0) := by
  have e : provesP x y = (evP x y, true) := if_pos c
  obtain ⟨fa, fb, hv, ht, hd⟩ := of_decide_eq_true c
  rw [e]
  have hc := evP_chk fa fb
  have he : (evP x y).evi = 0 := by rw [Msg.evi, if_pos hc]; rfl
  have hcl : (evP x y).cla = true := (if_neg (by show ¬ (3 : Int) = 1; decide)).trans ((if_neg (by show ¬ (3 : Int) = 2; decide)).trans c)
  have hh : hgt p (evP x y) = (x.h, 0) := if_neg (by show ¬ ((3 : Int) = 1 ∨ (3 : Int) = 2); decide)
  have hof : offe p (evP x y) = (⟨x.v, 2, x.h⟩, 0) := by
    rw [offe, if_pos (offE_of hp he hcl), hh, if_pos rfl, if_pos (show (evP x y).pf = 3 from rfl)]; rfl
  refine ⟨rfl, fa, jud_yes hof (by show ¬ x.v + 1 ≤ x.v; omega) (sgnd_yes he ?_)⟩
  rw [show (evP x y).sls = [x.sel, y.sel] from if_pos rfl]
  intro z hz
  simp only [List.mem_cons, List.not_mem_nil, or_false] at hz
  rcases hz with rfl | rfl
  · exact hx fa
  · exact hy fb
theorem wholeP_no {x y : Pro} (c : doubP x y = false) : (provesP x y).2 = false := by rw [provesP, c]; rfl
theorem proves_yes {a b : Att} (h : doub a b = true ∨ surr a b = true ∨ surr b a = true) : (proves a b).2 = true := by
  unfold proves
  split
  · rfl
  split
  · rfl
  split
  · rfl
  · rename_i h1 h2 h3; rcases h with h | h | h; exact absurd h h1; exact absurd h h2; exact absurd h h3
theorem proves_no {a b : Att} (h0 : doub a b = false) (h1 : surr a b = false) (h2 : surr b a = false) : (proves a b).2 = false := by rw [proves, h0, h1, h2]; rfl
theorem two_A {a b : Att} (ha : a.Ok) (hb : b.Ok) : ∀ x ∈ [a, b], x.Ok := fun x hx => by
  simp only [List.mem_cons, List.not_mem_nil, or_false] at hx
  rcases hx with rfl | rfl
  · exact ha
  · exact hb
theorem two_P {a b : Pro} (ha : a.Ok) (hb : b.Ok) : ∀ x ∈ [a, b], x.Ok := fun x hx => by
  simp only [List.mem_cons, List.not_mem_nil, or_false] at hx
  rcases hx with rfl | rfl
  · exact ha
  · exact hb
theorem selA_mem {l : List Att} {a : Att} (h : a ∈ l) (hf : a.fine) : a.sel ∈ selA l := List.mem_map.2 ⟨a, List.mem_filter.2 ⟨h, decide_eq_true hf⟩, rfl⟩
theorem selP_mem {l : List Pro} {a : Pro} (h : a ∈ l) (hf : a.fine) : a.sel ∈ selP l := List.mem_map.2 ⟨a, List.mem_filter.2 ⟨h, decide_eq_true hf⟩, rfl⟩
noncomputable def qc86_0 (n : Nat) : Code := partOf Tryz.f6 n
noncomputable abbrev qo86_0 (n k : Nat) : Oper := (opsAt (qc86_0 n)).getD k default
theorem whole_par (p : Par) (a b : Att) (x y : Pro) (v : Value) (l : List Sel) (w : World) (hp : p.Ok) (ha : a.Ok) (hb : b.Ok) (hx : x.Ok) (hy : y.Ok) (hl : SelsAt w v l) (hlr : ∀ z ∈ l, z.r.length = 32) (hc : ¬ p.check.1 = 0) :
    Calls Tryz.prog 6 #[.agg p.cells, .agg (Att.c a), .agg (Att.c b), .agg (Pro.c x), .agg (Pro.c y), v] w (fun e w' => e = .returned (.bool true) ∧ Keeps Nob w w') := by
  have hll := hl.len_le
  have K0 : Keeps Nob w w := Keeps.refl _ _
  refine sy_enter (qc86_0 1) ⟨#[.agg p.cells, .agg (Att.c a), .agg (Att.c b), .agg (Pro.c x), .agg (Pro.c y), v, ud, ud, ud, ud, ud, ud, ud, ud, ud, ud, ud, ud, ud, ud, ud, ud, ud, ud, ud, ud, ud, ud, ud, ud, ud, ud, ud, ud, ud, ud, ud, ud, ud, ud, ud, ud, ud, ud, ud, ud, ud, ud, ud, ud, ud, ud, ud, ud, ud, ud, ud, ud, ud, ud, ud, ud, ud, ud, ud, ud, ud, ud, ud, ud, ud, ud, ud, ud, ud, ud, ud, ud, ud, ud, ud, ud, ud, ud, ud, ud, ud, ud, ud, ud, ud, ud, ud, ud, ud, ud, ud, ud, ud, ud, ud, ud, ud, ud, ud, ud, ud, ud, ud, ud, ud, ud, ud, ud, ud, ud, ud, ud, ud, ud, ud, ud, ud, ud, ud, ud, ud, ud, ud, ud, ud, ud, ud, ud, ud, ud, ud, ud, ud, ud, ud, ud, ud, ud, ud, ud, ud, ud, ud, ud, ud, ud, ud, ud, ud, ud, ud, ud, ud, ud, ud, ud, ud, ud, ud, ud, ud, ud, ud, ud, ud, ud, ud, ud, ud], []⟩ Tryz.func6 (by kernel_rfl) (by kernel_rfl) <| sy_sq (qc86_0 2) (qc86_0 3) <| sy_reg <| rg_q 0 [0, 1, 2, 3, 4, 5] ?_
  obtain ⟨V1, eV1, gp, egp, h2, kV1⟩ := alloc_step w p.cells 45
  have n3 : w.heap.size ≤ gp := egp ▸ K0.size
  refine prq (pT gp 0) (w' := V1) (by rw [← eV1, ← egp]; exact exec_box 45 (.tmp 0) (by kernel_rfl) (.agg p.cells) (by kernel_rfl)) ?_
  clear eV1
  have K5 := K0.nn kV1
  have z6 := kV1.size
  obtain ⟨V7, eV7, ga, ega, h8, kV7⟩ := alloc_step V1 ((Att.c a)) 26
  have n9 : gp < ga := ega ▸ lt_of_block h2
  have n10 : w.heap.size ≤ ga := ega ▸ K5.size
  refine prq (pT ga 0) (w' := V7) (by rw [← eV7, ← ega]; exact exec_box 26 (.tmp 1) (by kernel_rfl) (.agg (Att.c a)) (by kernel_rfl)) ?_
  clear eV7
  have h12 := kV7.bk h2
  have K13 := K5.nn kV7
  have z14 := kV7.size
  obtain ⟨V15, eV15, gb, egb, h16, kV15⟩ := alloc_step V7 ((Att.c b)) 26
  have n17 : gp < gb := egb ▸ lt_of_block h12
  have n18 : ga < gb := egb ▸ lt_of_block h8
  have n19 : w.heap.size ≤ gb := egb ▸ K13.size
  refine prq (pT gb 0) (w' := V15) (by rw [← eV15, ← egb]; exact exec_box 26 (.tmp 2) (by kernel_rfl) (.agg (Att.c b)) (by kernel_rfl)) ?_
  clear eV15
  have h21 := kV15.bk h12
  have h22 := kV15.bk h8
  have K23 := K13.nn kV15
  have z24 := kV15.size
  obtain ⟨V25, eV25, gx, egx, h26, kV25⟩ := alloc_step V15 ((Pro.c x)) 28
  have n27 : gp < gx := egx ▸ lt_of_block h21
  have n28 : ga < gx := egx ▸ lt_of_block h22
  have n29 : gb < gx := egx ▸ lt_of_block h16
  have n30 : w.heap.size ≤ gx := egx ▸ K23.size
  refine prq (pT gx 0) (w' := V25) (by rw [← eV25, ← egx]; exact exec_box 28 (.tmp 3) (by kernel_rfl) (.agg (Pro.c x)) (by kernel_rfl)) ?_
  clear eV25
  have h32 := kV25.bk h21
  have h33 := kV25.bk h22
  have h34 := kV25.bk h16
  have K35 := K23.nn kV25
  have z36 := kV25.size
  obtain ⟨V37, eV37, gy, egy, h38, kV37⟩ := alloc_step V25 ((Pro.c y)) 28
  have n39 : gp < gy := egy ▸ lt_of_block h32
  have n40 : ga < gy := egy ▸ lt_of_block h33
  have n41 : gb < gy := egy ▸ lt_of_block h34
  have n42 : gx < gy := egy ▸ lt_of_block h26
  have n43 : w.heap.size ≤ gy := egy ▸ K35.size
  refine prq (pT gy 0) (w' := V37) (by rw [← eV37, ← egy]; exact exec_box 28 (.tmp 4) (by kernel_rfl) (.agg (Pro.c y)) (by kernel_rfl)) ?_
  clear eV37
  have h45 := kV37.bk h32
  have K49 := K35.nn kV37
  have z50 := kV37.size
  refine pkq (.bool false) <| ps_end <| then_n <| sy_sq (qc86_0 6) (qc86_0 7) <| sy_reg <| rg_q 1 [0, 1] ?_
  refine pcq 5 #[] Tryz.func5 ((evidenceKnown_ok _).mono ?_)
  rintro e V51 ⟨rfl, kV51⟩
  refine ⟨_, rfl, ?_⟩
  have h53 := kV51.bk h45
  have K58 := K49.nn kV51
  have z59 := kV51.size
  refine pkq (.bool true) <| ps_end <| then_n <| sy_sq (qc86_0 14) (qc86_0 15) <| sy_sq (qc86_0 28) (qc86_0 29) <| sy_reg <| rg_q 2 [0, 1, 2, 3, 4, 5, 6] <| ppq (.agg (p.cells)) (exec_load_row 45 (.tmp 6) (by kernel_rfl) gp (by kernel_rfl) _ _ (0, 0) _ (h53) Tryz.underlying45 rfl (by kernel_rfl)) ?_
  refine pcq 31 #[.agg (p.cells)] Tryz.func31 ((pCheck_ok p hp _).mono ?_)
  rintro e V60 ⟨rfl, kV60⟩
  refine ⟨_, rfl, ?_⟩
  have K67 := K58.nn kV60
  have z68 := kV60.size
  refine pkq (.tuple #[.int .i64 p.check.1, .int .i64 p.check.2]) <| pkq (.int .i64 p.check.1) <| pkq (.int .i64 p.check.2) <| pkq (.int .i64 p.check.1) <| pkq (.int .i64 p.check.2) <| ps_end <| then_n <| sy_sq (qc86_0 58) (qc86_0 59) <| sy_reg <| rg_q 3 [0, 1, 2, 3, 4, 5, 6] <| pkq (.int .i64 p.check.1) <| ppq (.bool true) (nqt ((p.check.1) : Int) ((0) : Int) (by omega)) <| pkq (.bool true) <| pnq ?_
  refine pnq <| pnq <| pkq (.bool true) <| ps_end <| then_n <| sy_ys (.tmp 42) (qc86_0 118) (qc86_0 119) <| sy_sq (qc86_0 236) (qc86_0 237) <| sy_reg <| rg_q 4 [0, 1] <| pkq (.bool true) <| pkq (.bool true) <| ps_end <| sy_a ⟨#[.agg p.cells, .agg (Att.c a), .agg (Att.c b), .agg (Pro.c x), .agg (Pro.c y), v, pT gp 0, pT ga 0, pT gb 0, pT gx 0, pT gy 0, ud, .bool true, .bool true, .int .i64 p.check.1, .int .i64 p.check.2, ud, ud, ud, ud, ud, ud, ud, ud, ud, ud, ud, ud, ud, ud, .bool true, .tuple #[.int .i64 p.check.1, .int .i64 p.check.2], .agg (p.cells), .tuple #[.int .i64 p.check.1, .int .i64 p.check.2], .int .i64 p.check.1, .int .i64 p.check.2, .int .i64 p.check.1, .bool true, .bool true, ud, ud, ud, .bool true, .bool true, ud, ud, ud, ud, ud, ud, ud, ud, ud, ud, ud, ud, ud, ud, ud, ud, ud, ud, ud, ud, ud, ud, ud, ud, ud, ud, ud, ud, ud, ud, ud, ud, ud, ud, ud, ud, ud, ud, ud, ud, ud, ud, ud, ud, ud, ud, ud, ud, ud, ud, ud, ud, ud, ud, ud, ud, ud, ud, ud, ud, ud, ud, ud, ud, ud, ud, ud, ud, ud, ud, ud, ud, ud, ud, ud, ud, ud, ud, ud, ud, ud, ud, ud, ud, ud, ud, ud, ud, ud, ud, ud, ud, ud, ud, ud, ud, ud, ud, ud, ud, ud, ud, ud, ud, ud, ud, ud, ud, ud, ud, ud, ud, ud, ud, ud, ud, ud, ud, ud, ud, ud, ud, ud, ud, ud, ud, ud, ud, ud, ud, ud], []⟩ <| then_n ?_
  refine sy_ret (by kernel_rfl) <| then_r <| sy_out (.bool true) rfl (by kernel_rfl) ?_
  exact ⟨rfl, K67⟩
theorem whole_long (p : Par) (a b : Att) (x y : Pro) (v : Value) (l : List Sel) (w : World) (hp : p.Ok) (ha : a.Ok) (hb : b.Ok) (hx : x.Ok) (hy : y.Ok) (hl : SelsAt w v l) (hlr : ∀ z ∈ l, z.r.length = 32) (hc : p.check.1 = 0) (hlen : 20 < l.length) :
    Calls Tryz.prog 6 #[.agg p.cells, .agg (Att.c a), .agg (Att.c b), .agg (Pro.c x), .agg (Pro.c y), v] w (fun e w' => e = .returned (.bool true) ∧ Keeps Nob w w') := by
  have hll := hl.len_le
  have K0 : Keeps Nob w w := Keeps.refl _ _
  refine sy_enter (qc86_0 1) ⟨#[.agg p.cells, .agg (Att.c a), .agg (Att.c b), .agg (Pro.c x), .agg (Pro.c y), v, ud, ud, ud, ud, ud, ud, ud, ud, ud, ud, ud, ud, ud, ud, ud, ud, ud, ud, ud, ud, ud, ud, ud, ud, ud, ud, ud, ud, ud, ud, ud, ud, ud, ud, ud, ud, ud, ud, ud, ud, ud, ud, ud, ud, ud, ud, ud, ud, ud, ud, ud, ud, ud, ud, ud, ud, ud, ud, ud, ud, ud, ud, ud, ud, ud, ud, ud, ud, ud, ud, ud, ud, ud, ud, ud, ud, ud, ud, ud, ud, ud, ud, ud, ud, ud, ud, ud, ud, ud, ud, ud, ud, ud, ud, ud, ud, ud, ud, ud, ud, ud, ud, ud, ud, ud, ud, ud, ud, ud, ud, ud, ud, ud, ud, ud, ud, ud, ud, ud, ud, ud, ud, ud, ud, ud, ud, ud, ud, ud, ud, ud, ud, ud, ud, ud, ud, ud, ud, ud, ud, ud, ud, ud, ud, ud, ud, ud, ud, ud, ud, ud, ud, ud, ud, ud, ud, ud, ud, ud, ud, ud, ud, ud, ud, ud, ud, ud, ud, ud], []⟩ Tryz.func6 (by kernel_rfl) (by kernel_rfl) <| sy_sq (qc86_0 2) (qc86_0 3) <| sy_reg <| rg_q 0 [0, 1, 2, 3, 4, 5] ?_
  obtain ⟨V69, eV69, gp, egp, h70, kV69⟩ := alloc_step w p.cells 45
  have n71 : w.heap.size ≤ gp := egp ▸ K0.size
  refine prq (pT gp 0) (w' := V69) (by rw [← eV69, ← egp]; exact exec_box 45 (.tmp 0) (by kernel_rfl) (.agg p.cells) (by kernel_rfl)) ?_
  clear eV69
  have h72 : SelsAt V69 v l := hl.keepsN kV69
  have K73 := K0.nn kV69
  have z74 := kV69.size
  obtain ⟨V75, eV75, ga, ega, h76, kV75⟩ := alloc_step V69 ((Att.c a)) 26
  have n77 : gp < ga := ega ▸ lt_of_block h70
  have n78 : w.heap.size ≤ ga := ega ▸ K73.size
  refine prq (pT ga 0) (w' := V75) (by rw [← eV75, ← ega]; exact exec_box 26 (.tmp 1) (by kernel_rfl) (.agg (Att.c a)) (by kernel_rfl)) ?_
  clear eV75
  have h79 : SelsAt V75 v l := h72.keepsN kV75
  have h80 := kV75.bk h70
  have K81 := K73.nn kV75
  have z82 := kV75.size
  obtain ⟨V83, eV83, gb, egb, h84, kV83⟩ := alloc_step V75 ((Att.c b)) 26
  have n85 : gp < gb := egb ▸ lt_of_block h80
  have n86 : ga < gb := egb ▸ lt_of_block h76
  have n87 : w.heap.size ≤ gb := egb ▸ K81.size
  refine prq (pT gb 0) (w' := V83) (by rw [← eV83, ← egb]; exact exec_box 26 (.tmp 2) (by kernel_rfl) (.agg (Att.c b)) (by kernel_rfl)) ?_
  clear eV83
  have h88 : SelsAt V83 v l := h79.keepsN kV83
  have h89 := kV83.bk h80
  have h90 := kV83.bk h76
  have K91 := K81.nn kV83
  have z92 := kV83.size
  obtain ⟨V93, eV93, gx, egx, h94, kV93⟩ := alloc_step V83 ((Pro.c x)) 28
  have n95 : gp < gx := egx ▸ lt_of_block h89
  have n96 : ga < gx := egx ▸ lt_of_block h90
  have n97 : gb < gx := egx ▸ lt_of_block h84
  have n98 : w.heap.size ≤ gx := egx ▸ K91.size
  refine prq (pT gx 0) (w' := V93) (by rw [← eV93, ← egx]; exact exec_box 28 (.tmp 3) (by kernel_rfl) (.agg (Pro.c x)) (by kernel_rfl)) ?_
  clear eV93
  have h99 : SelsAt V93 v l := h88.keepsN kV93
  have h100 := kV93.bk h89
  have h101 := kV93.bk h90
  have h102 := kV93.bk h84
  have K103 := K91.nn kV93
  have z104 := kV93.size
  obtain ⟨V105, eV105, gy, egy, h106, kV105⟩ := alloc_step V93 ((Pro.c y)) 28
  have n107 : gp < gy := egy ▸ lt_of_block h100
  have n108 : ga < gy := egy ▸ lt_of_block h101
  have n109 : gb < gy := egy ▸ lt_of_block h102
  have n110 : gx < gy := egy ▸ lt_of_block h94
  have n111 : w.heap.size ≤ gy := egy ▸ K103.size
  refine prq (pT gy 0) (w' := V105) (by rw [← eV105, ← egy]; exact exec_box 28 (.tmp 4) (by kernel_rfl) (.agg (Pro.c y)) (by kernel_rfl)) ?_
  clear eV105
  have h112 : SelsAt V105 v l := h99.keepsN kV105
  have h113 := kV105.bk h100
  have K117 := K103.nn kV105
  have z118 := kV105.size
  refine pkq (.bool false) <| ps_end <| then_n <| sy_sq (qc86_0 6) (qc86_0 7) <| sy_reg <| rg_q 1 [0, 1] ?_
  refine pcq 5 #[] Tryz.func5 ((evidenceKnown_ok _).mono ?_)
  rintro e V119 ⟨rfl, kV119⟩
  refine ⟨_, rfl, ?_⟩
  have h120 : SelsAt V119 v l := h112.keepsN kV119
  have h121 := kV119.bk h113
  have K126 := K117.nn kV119
  have z127 := kV119.size
  refine pkq (.bool true) <| ps_end <| then_n <| sy_sq (qc86_0 14) (qc86_0 15) <| sy_sq (qc86_0 28) (qc86_0 29) <| sy_reg <| rg_q 2 [0, 1, 2, 3, 4, 5, 6] <| ppq (.agg (p.cells)) (exec_load_row 45 (.tmp 6) (by kernel_rfl) gp (by kernel_rfl) _ _ (0, 0) _ (h121) Tryz.underlying45 rfl (by kernel_rfl)) ?_
  refine pcq 31 #[.agg (p.cells)] Tryz.func31 ((pCheck_0 _ hp hc).mono ?_)
  rintro e V128 ⟨rfl, kV128⟩
  refine ⟨_, rfl, ?_⟩
  have h129 : SelsAt V128 v l := h120.keepsN kV128
  have K135 := K126.nn kV128
  have z136 := kV128.size
  refine pkq (.tuple #[.int .i64 0, .int .i64 p.check.2]) <| pkq (.int .i64 0) <| pkq (.int .i64 p.check.2) <| pkq (.int .i64 0) <| pkq (.int .i64 p.check.2) <| ps_end <| then_n <| sy_sq (qc86_0 58) (qc86_0 59) <| sy_reg <| rg_q 3 [0, 1, 2, 3, 4, 5, 6] <| pkq (.int .i64 0) <| pkq (.bool false) <| pkq (.bool false) <| pkq (v) ?_
  refine ppq (iN l.length) (exec_len_sl (.tmp 39) 46 30 (by kernel_rfl) Tryz.underlying46 (by kernel_rfl) h129) <| ppq (.bool true) (dct ((((l.length : Nat) : Int)) > ((20) : Int)) (by omega)) <| pkq (.bool true) <| ps_end <| then_n <| sy_ys (.tmp 42) (qc86_0 118) (qc86_0 119) <| sy_sq (qc86_0 236) (qc86_0 237) <| sy_reg <| rg_q 4 [0, 1] <| pkq (.bool true) <| pkq (.bool true) <| ps_end <| sy_a ⟨#[.agg p.cells, .agg (Att.c a), .agg (Att.c b), .agg (Pro.c x), .agg (Pro.c y), v, pT gp 0, pT ga 0, pT gb 0, pT gx 0, pT gy 0, ud, .bool true, .bool true, .int .i64 0, .int .i64 p.check.2, ud, ud, ud, ud, ud, ud, ud, ud, ud, ud, ud, ud, ud, ud, .bool true, .tuple #[.int .i64 0, .int .i64 p.check.2], .agg (p.cells), .tuple #[.int .i64 0, .int .i64 p.check.2], .int .i64 0, .int .i64 p.check.2, .int .i64 0, .bool false, .bool false, v, iN l.length, .bool true, .bool true, .bool true, ud, ud, ud, ud, ud, ud, ud, ud, ud, ud, ud, ud, ud, ud, ud, ud, ud, ud, ud, ud, ud, ud, ud, ud, ud, ud, ud, ud, ud, ud, ud, ud, ud, ud, ud, ud, ud, ud, ud, ud, ud, ud, ud, ud, ud, ud, ud, ud, ud, ud, ud, ud, ud, ud, ud, ud, ud, ud, ud, ud, ud, ud, ud, ud, ud, ud, ud, ud, ud, ud, ud, ud, ud, ud, ud, ud, ud, ud, ud, ud, ud, ud, ud, ud, ud, ud, ud, ud, ud, ud, ud, ud, ud, ud, ud, ud, ud, ud, ud, ud, ud, ud, ud, ud, ud, ud, ud, ud, ud, ud, ud, ud, ud, ud, ud, ud, ud, ud, ud, ud, ud, ud, ud, ud, ud, ud, ud, ud, ud, ud, ud], []⟩ <| then_n ?_
  refine sy_ret (by kernel_rfl) <| then_r <| sy_out (.bool true) rfl (by kernel_rfl) ?_
  exact ⟨rfl, K135⟩
theorem prove_split (a b : Att) : ((proves a b).2 = true ∧ doub a b = true) ∨ ((proves a b).2 = true ∧ doub a b = false ∧ surr a b = true) ∨ ((proves a b).2 = true ∧ doub a b = false ∧ surr a b = false ∧ surr b a = true) ∨ ((proves a b).2 = false ∧ doub a b = false ∧ surr a b = false ∧ surr b a = false) := by
  cases c0 : doub a b with
  | true => exact .inl ⟨proves_yes (.inl c0), rfl⟩
  | false =>
    cases c1 : surr a b with
    | true => exact .inr (.inl ⟨proves_yes (.inr (.inl c1)), rfl, rfl⟩)
    | false =>
      cases c2 : surr b a with
      | true => exact .inr (.inr (.inl ⟨proves_yes (.inr (.inr c2)), rfl, rfl, rfl⟩))
      | false => exact .inr (.inr (.inr ⟨proves_no c0 c1 c2, rfl, rfl, rfl⟩))
theorem proveP_split (x y : Pro) : ((provesP x y).2 = true ∧ doubP x y = true) ∨ ((provesP x y).2 = false ∧ doubP x y = false) := by
  cases c : doubP x y with
  | true => exact .inl ⟨by rw [provesP, c]; rfl, rfl⟩
  | false => exact .inr ⟨wholeP_no c, rfl⟩
theorem whole_split {p : Par} {a b : Att} {L : List Sel} (hp : p.check.1 = 0) (ha : a.fine → a.sel ∈ L) (hb : b.fine → b.sel ∈ L) :
    ((p.first (max a.t b.t)).2 = 0 ∧ (proves a b).2 = true ∧ (proves a b).1.pf = 1 ∧ a.fine ∧ jud p L (a.v + 1) (proves a b).1 = (⟨a.v, 1, (p.first (max a.t b.t)).1⟩, 0) ∧ jud p L (a.v + 1) (putB (putA (proves a b).1 (proves a b).1.b) (proves a b).1.a) = (⟨a.v, 1, (p.first (max a.t b.t)).1⟩, 0)) ∨
    ((p.first (max a.t b.t)).2 = 0 ∧ (proves a b).2 = true ∧ (proves a b).1.pf = 2 ∧ a.fine ∧ jud p L (a.v + 1) (proves a b).1 = (⟨a.v, 1, (p.first (max a.t b.t)).1⟩, 0) ∧ jud p L (a.v + 1) (putB (putA (proves a b).1 (proves a b).1.b) (proves a b).1.a) = (⟨0, 0, 0⟩, 18)) ∨ ((proves a b).2 = false ∧ True) ∨ ((proves a b).2 = true ∧ ¬ (p.first (max a.t b.t)).2 = 0) := by
  by_cases he : (p.first (max a.t b.t)).2 = 0
  · rcases whole_cases hp ha hb (h := (p.first (max a.t b.t)).1) (by rw [← he]) with h | h | h
    · exact .inl ⟨he, h⟩
    · exact .inr (.inl ⟨he, h⟩)
    · exact .inr (.inr (.inl ⟨h, trivial⟩))
  · rcases Bool.eq_false_or_eq_true (proves a b).2 with h | h
    · exact .inr (.inr (.inr ⟨h, he⟩))
    · exact .inr (.inr (.inl ⟨h, trivial⟩))
theorem whole_main (p : Par) (a b : Att) (x y : Pro) (v : Value) (l : List Sel) (w : World) (hp : p.Ok) (ha : a.Ok) (hb : b.Ok) (hx : x.Ok) (hy : y.Ok) (hl : SelsAt w v l) (hlr : ∀ z ∈ l, z.r.length = 32) (hc : p.check.1 = 0) (hlen : ¬ 20 < l.length) :
    Calls Tryz.prog 6 #[.agg p.cells, .agg (Att.c a), .agg (Att.c b), .agg (Pro.c x), .agg (Pro.c y), v] w (fun e w' => e = .returned (.bool true) ∧ Keeps Nob w w') := by
  have hll := hl.len_le
  have hmO := proves_Ok ha hb
  have hmR := hmO.R
  have hnO := provesP_Ok hx hy
  have hnR := hnO.R
  obtain ⟨i0, hi0, hz0, hz1, _⟩ := info_parts eatt_info0
  obtain ⟨i1, hi1, hw0, hw1, _⟩ := info_parts epro_info0
  obtain ⟨i2, hi2, hs0, hs1, hs2⟩ := info_parts sel_info0
  have hAl : ∀ z ∈ [a, b], z.cl.length = 36 := fun z hz => Att.cl_len (two_A ha hb z hz)
  have hPl : ∀ z ∈ [x, y], z.cl.length = 35 := fun z hz => Pro.cl_len (two_P hx hy z hz)
  have hZl : (selA [a, b] ++ selP [x, y]).length ≤ 4 := by
      have h1 := selA_len [a, b] 2; have h2 := selP_len [x, y] 2; rw [List.length_append]; exact Nat.add_le_add h1 h2
  have hLr : ∀ z ∈ (l ++ (selA [a, b] ++ selP [x, y])), z.r.length = 32 := fun z hz => (List.mem_append.1 hz).elim (hlr z) fun h => (List.mem_append.1 h).elim (selA_r z) (selP_r z)
  have hsa : a.fine → a.sel ∈ (l ++ (selA [a, b] ++ selP [x, y])) := fun h => List.mem_append_right _ (List.mem_append_left _ (selA_mem List.mem_cons_self h))
  have hsb : b.fine → b.sel ∈ (l ++ (selA [a, b] ++ selP [x, y])) := fun h => List.mem_append_right _ (List.mem_append_left _ (selA_mem (List.mem_cons_of_mem _ List.mem_cons_self) h))
  have hsx : x.fine → x.sel ∈ (l ++ (selA [a, b] ++ selP [x, y])) := fun h => List.mem_append_right _ (List.mem_append_right _ (selP_mem List.mem_cons_self h))
  have hsy : y.fine → y.sel ∈ (l ++ (selA [a, b] ++ selP [x, y])) := fun h => List.mem_append_right _ (List.mem_append_right _ (selP_mem (List.mem_cons_of_mem _ List.mem_cons_self) h))
  have hmx : i64ok (max a.t b.t) := by have h1 := ha.t; have h2 := hb.t; unfold i64ok; unfold i64b at h1 h2; omega
  have sels_one : ∀ u ∈ (selA [a, b] ++ selP [x, y]).flatMap Sel.cl, u.oneCell' = true := fun u hu => by obtain ⟨z, _, hz⟩ := mem_flat hu; exact Sel.cl_one z u hz
  have K0 : Keeps Nob w w := Keeps.refl _ _
  refine sy_enter (qc86_0 1) ⟨#[.agg p.cells, .agg (Att.c a), .agg (Att.c b), .agg (Pro.c x), .agg (Pro.c y), v, ud, ud, ud, ud, ud, ud, ud, ud, ud, ud, ud, ud, ud, ud, ud, ud, ud, ud, ud, ud, ud, ud, ud, ud, ud, ud, ud, ud, ud, ud, ud, ud, ud, ud, ud, ud, ud, ud, ud, ud, ud, ud, ud, ud, ud, ud, ud, ud, ud, ud, ud, ud, ud, ud, ud, ud, ud, ud, ud, ud, ud, ud, ud, ud, ud, ud, ud, ud, ud, ud, ud, ud, ud, ud, ud, ud, ud, ud, ud, ud, ud, ud, ud, ud, ud, ud, ud, ud, ud, ud, ud, ud, ud, ud, ud, ud, ud, ud, ud, ud, ud, ud, ud, ud, ud, ud, ud, ud, ud, ud, ud, ud, ud, ud, ud, ud, ud, ud, ud, ud, ud, ud, ud, ud, ud, ud, ud, ud, ud, ud, ud, ud, ud, ud, ud, ud, ud, ud, ud, ud, ud, ud, ud, ud, ud, ud, ud, ud, ud, ud, ud, ud, ud, ud, ud, ud, ud, ud, ud, ud, ud, ud, ud, ud, ud, ud, ud, ud, ud], []⟩ Tryz.func6 (by kernel_rfl) (by kernel_rfl) <| sy_sq (qc86_0 2) (qc86_0 3) <| sy_reg <| rg_q 0 [0, 1, 2, 3, 4, 5] ?_
  obtain ⟨V137, eV137, gp, egp, h138, kV137⟩ := alloc_step w p.cells 45
  have n139 : w.heap.size ≤ gp := egp ▸ K0.size
  refine prq (pT gp 0) (w' := V137) (by rw [← eV137, ← egp]; exact exec_box 45 (.tmp 0) (by kernel_rfl) (.agg p.cells) (by kernel_rfl)) ?_
  clear eV137
  have h140 : SelsAt V137 v l := hl.keepsN kV137
  have K141 := K0.nn kV137
  have z142 := kV137.size
  obtain ⟨V143, eV143, ga, ega, h144, kV143⟩ := alloc_step V137 ((Att.c a)) 26
  have n145 : gp < ga := ega ▸ lt_of_block h138
  have n146 : w.heap.size ≤ ga := ega ▸ K141.size
  refine prq (pT ga 0) (w' := V143) (by rw [← eV143, ← ega]; exact exec_box 26 (.tmp 1) (by kernel_rfl) (.agg (Att.c a)) (by kernel_rfl)) ?_
  clear eV143
  have h147 : SelsAt V143 v l := h140.keepsN kV143
  have h148 := kV143.bk h138
  have K149 := K141.nn kV143
  have z150 := kV143.size
  obtain ⟨V151, eV151, gb, egb, h152, kV151⟩ := alloc_step V143 ((Att.c b)) 26
  have n153 : gp < gb := egb ▸ lt_of_block h148
  have n154 : ga < gb := egb ▸ lt_of_block h144
  have n155 : w.heap.size ≤ gb := egb ▸ K149.size
  refine prq (pT gb 0) (w' := V151) (by rw [← eV151, ← egb]; exact exec_box 26 (.tmp 2) (by kernel_rfl) (.agg (Att.c b)) (by kernel_rfl)) ?_
  clear eV151
  have h156 : SelsAt V151 v l := h147.keepsN kV151
  have h157 := kV151.bk h148
  have h158 := kV151.bk h144
  have K159 := K149.nn kV151
  have z160 := kV151.size
  obtain ⟨V161, eV161, gx, egx, h162, kV161⟩ := alloc_step V151 ((Pro.c x)) 28
  have n163 : gp < gx := egx ▸ lt_of_block h157
  have n164 : ga < gx := egx ▸ lt_of_block h158
  have n165 : gb < gx := egx ▸ lt_of_block h152
  have n166 : w.heap.size ≤ gx := egx ▸ K159.size
  refine prq (pT gx 0) (w' := V161) (by rw [← eV161, ← egx]; exact exec_box 28 (.tmp 3) (by kernel_rfl) (.agg (Pro.c x)) (by kernel_rfl)) ?_
  clear eV161
  have h167 : SelsAt V161 v l := h156.keepsN kV161
  have h168 := kV161.bk h157
  have h169 := kV161.bk h158
  have h170 := kV161.bk h152
  have K171 := K159.nn kV161
  have z172 := kV161.size
  obtain ⟨V173, eV173, gy, egy, h174, kV173⟩ := alloc_step V161 ((Pro.c y)) 28
  have n175 : gp < gy := egy ▸ lt_of_block h168
  have n176 : ga < gy := egy ▸ lt_of_block h169
  have n177 : gb < gy := egy ▸ lt_of_block h170
  have n178 : gx < gy := egy ▸ lt_of_block h162
  have n179 : w.heap.size ≤ gy := egy ▸ K171.size
  refine prq (pT gy 0) (w' := V173) (by rw [← eV173, ← egy]; exact exec_box 28 (.tmp 4) (by kernel_rfl) (.agg (Pro.c y)) (by kernel_rfl)) ?_
  clear eV173
  have h180 : SelsAt V173 v l := h167.keepsN kV173
  have h181 := kV173.bk h168
  have h182 := kV173.bk h169
  have h183 := kV173.bk h170
  have h184 := kV173.bk h162
  have K185 := K171.nn kV173
  have z186 := kV173.size
  refine pkq (.bool false) <| ps_end <| then_n <| sy_sq (qc86_0 6) (qc86_0 7) <| sy_reg <| rg_q 1 [0, 1] ?_
  refine pcq 5 #[] Tryz.func5 ((evidenceKnown_ok _).mono ?_)
  rintro e V187 ⟨rfl, kV187⟩
  refine ⟨_, rfl, ?_⟩
  have h188 : SelsAt V187 v l := h180.keepsN kV187
  have h189 := kV187.bk h181
  have h190 := kV187.bk h182
  have h191 := kV187.bk h183
  have h192 := kV187.bk h184
  have h193 := kV187.bk h174
  have K194 := K185.nn kV187
  have z195 := kV187.size
  refine pkq (.bool true) <| ps_end <| then_n <| sy_sq (qc86_0 14) (qc86_0 15) <| sy_sq (qc86_0 28) (qc86_0 29) <| sy_reg <| rg_q 2 [0, 1, 2, 3, 4, 5, 6] <| ppq (.agg (p.cells)) (exec_load_row 45 (.tmp 6) (by kernel_rfl) gp (by kernel_rfl) _ _ (0, 0) _ (h189) Tryz.underlying45 rfl (by kernel_rfl)) ?_
  refine pcq 31 #[.agg (p.cells)] Tryz.func31 ((pCheck_0 _ hp hc).mono ?_)
  rintro e V196 ⟨rfl, kV196⟩
  refine ⟨_, rfl, ?_⟩
  have h197 : SelsAt V196 v l := h188.keepsN kV196
  have h198 := kV196.bk h189
  have h199 := kV196.bk h190
  have h200 := kV196.bk h191
  have h201 := kV196.bk h192
  have h202 := kV196.bk h193
  have K203 := K194.nn kV196
  have z204 := kV196.size
  refine pkq (.tuple #[.int .i64 0, .int .i64 p.check.2]) <| pkq (.int .i64 0) <| pkq (.int .i64 p.check.2) <| pkq (.int .i64 0) <| pkq (.int .i64 p.check.2) <| ps_end <| then_n <| sy_sq (qc86_0 58) (qc86_0 59) <| sy_reg <| rg_q 3 [0, 1, 2, 3, 4, 5, 6] <| pkq (.int .i64 0) <| pkq (.bool false) <| pkq (.bool false) <| pkq (v) ?_
  refine ppq (iN l.length) (exec_len_sl (.tmp 39) 46 30 (by kernel_rfl) Tryz.underlying46 (by kernel_rfl) h197) <| ppq (.bool false) (dcf ((((l.length : Nat) : Int)) > ((20) : Int)) (by omega)) <| pkq (.bool false) <| ps_end <| then_n <| sy_n (.tmp 42) (qc86_0 118) (qc86_0 119) <| sy_sk <| then_n <| sy_sq (qc86_0 30) (qc86_0 31) ?_
  refine sy_cut (fun aQ VQ => ∃ (qa qb : Nat) (cg : Nat) (cc : Nat) (vl : Value) (lv : Value), (aQ = ⟨#[.agg p.cells, .agg (Att.c a), .agg (Att.c b), .agg (Pro.c x), .agg (Pro.c y), v, .pointer (some ⟨gp, 0, none⟩), .pointer (some ⟨ga, 0, none⟩), .pointer (some ⟨gb, 0, none⟩), .pointer (some ⟨gx, 0, none⟩), .pointer (some ⟨gy, 0, none⟩), ud, .bool false, .bool true, .int .i64 0, .int .i64 p.check.2, lv, ud, ud, ud, ud, ud, ud, ud, ud, ud, ud, ud, ud, ud, .bool true, .tuple #[.int .i64 0, .int .i64 p.check.2], .agg (p.cells), .tuple #[.int .i64 0, .int .i64 p.check.2], .int .i64 0, .int .i64 p.check.2, .int .i64 0, .bool false, .bool false, v, .int .i64 ((l.length : Nat) : Int), .bool false, .bool false, ud, v, .slice (some ⟨cg, 0, none⟩) l.length cc, .agg (Att.c a), .agg (Att.c b), .slice (some ⟨qa, 0, none⟩) 2 2, .agg (Pro.c x), .agg (Pro.c y), .slice (some ⟨qb, 0, none⟩) 2 2, vl, lv, ud, ud, ud, ud, ud, ud, ud, ud, ud, ud, ud, ud, ud, ud, ud, ud, ud, ud, ud, ud, ud, ud, ud, ud, ud, ud, ud, ud, ud, ud, ud, ud, ud, ud, ud, ud, ud, ud, ud, ud, ud, ud, ud, ud, ud, ud, ud, ud, ud, ud, ud, ud, ud, ud, ud, ud, ud, ud, ud, ud, ud, ud, ud, ud, ud, ud, ud, ud, ud, ud, ud, ud, ud, ud, ud, ud, ud, ud, ud, ud, ud, ud, ud, ud, ud, ud, ud, ud, ud, ud, ud, ud, ud, ud, ud, ud, ud, ud, ud, ud, ud, ud, ud, ud, ud, ud, ud, ud, ud, ud, ud, ud, ud, ud, ud, ud, ud, ud, ud, ud, ud], []⟩) ∧ (SelsAt VQ v l) ∧ (VQ.heap[gp]? = some (.cells p.cells 45 (0, 0))) ∧ (VQ.heap[ga]? = some (.cells (Att.c a) 26 (0, 0))) ∧ (VQ.heap[gb]? = some (.cells (Att.c b) 26 (0, 0))) ∧ (VQ.heap[gx]? = some (.cells (Pro.c x) 28 (0, 0))) ∧ (VQ.heap[gy]? = some (.cells (Pro.c y) 28 (0, 0))) ∧ (VQ.heap[qa]? = some (.cells ((List.flatMap Att.cl [a, b]).toArray) 26 (0, 0))) ∧ (VQ.heap[qb]? = some (.cells ((List.flatMap Pro.cl [x, y]).toArray) 28 (0, 0))) ∧ (Row VQ 30 34 lv ((l ++ (selA [a, b] ++ selP [x, y])).length) ((l ++ (selA [a, b] ++ selP [x, y])).flatMap Sel.cl)) ∧ (qa ≠ qb ∧ qa ≠ gp ∧ qa ≠ ga ∧ qa ≠ gb ∧ qa ≠ gx ∧ qa ≠ gy ∧ qb ≠ gp ∧ qb ≠ ga ∧ qb ≠ gb ∧ qb ≠ gx ∧ qb ≠ gy ∧ w.heap.size ≤ qa ∧ w.heap.size ≤ qb ∧ V196.heap.size ≤ qa ∧ V196.heap.size ≤ qb) ∧ (Keeps Nob w VQ)) ?_ ?_
  · refine sy_np <| sy_reg <| an_begin 5 11 (opsAt (qc86_0 30)) (fun W => (W.heap[ga]? = some (.cells (Att.c a) 26 (0, 0))) ∧ (W.heap[gb]? = some (.cells (Att.c b) 26 (0, 0))) ∧ (W.heap[gx]? = some (.cells (Pro.c x) 28 (0, 0))) ∧ (W.heap[gy]? = some (.cells (Pro.c y) 28 (0, 0)))) #[false, false, false, false, false, false, false, false, false, false, false] (by kernel_rfl) (by kernel_rfl) (by kernel_rfl) (by kernel_rfl) ?_
    obtain ⟨V205, eV205, kV205⟩ := drew_step V196
    rw [eV205]
    clear eV205
    have h206 : SelsAt V205 v l := h197.keepsN kV205
    have h207 := kV205.bk h198
    have h208 := kV205.bk h199
    have h209 := kV205.bk h200
    have h210 := kV205.bk h201
    have h211 := kV205.bk h202
    have K212 := K203.nn kV205
    have z213 := kV205.size
    refine akq 0 (v) ⟨h208, h209, h210, h211⟩ <| avq 2 (.agg (Att.c a)) (fun W hS => exec_load_row 26 (.tmp 7) (by kernel_rfl) ga (by kernel_rfl) _ _ (0, 0) _ (hS.1) Tryz.underlying26 rfl (by rw [Att.c_size _ ha.r]; kernel_rfl)) ⟨h208, h209, h210, h211⟩ <| avq 3 (.agg (Att.c b)) (fun W hS => exec_load_row 26 (.tmp 8) (by kernel_rfl) gb (by kernel_rfl) _ _ (0, 0) _ (hS.2.1) Tryz.underlying26 rfl (by rw [Att.c_size _ hb.r]; kernel_rfl)) ⟨h208, h209, h210, h211⟩ <| avq 5 (.agg (Pro.c x)) (fun W hS => exec_load_row 28 (.tmp 9) (by kernel_rfl) gx (by kernel_rfl) _ _ (0, 0) _ (hS.2.2.1) Tryz.underlying28 rfl (by rw [Pro.c_size _ hx.r]; kernel_rfl)) ⟨h208, h209, h210, h211⟩ <| avq 6 (.agg (Pro.c y)) (fun W hS => exec_load_row 28 (.tmp 10) (by kernel_rfl) gy (by kernel_rfl) _ _ (0, 0) _ (hS.2.2.2) Tryz.underlying28 rfl (by rw [Pro.c_size _ hy.r]; kernel_rfl)) ⟨h208, h209, h210, h211⟩ ?_
    refine an_three 1 4 7 (by kernel_rfl) ?_ ?_ ?_
    · refine ncq 17 #[v] Tryz.func17 ((kCopySeals_ok v l _ h206 hlr (by omega)).mono ?_)
      rintro e V214 ⟨cg, cc, rfl, hcrV214, hcgV214, kV214⟩
      refine ⟨_, rfl, ?_⟩
      have h215 : SelsAt V214 v l := h206.keepsN kV214
      have h216 := kV214.bk h207
      have h217 := kV214.bk h208
      have h218 := kV214.bk h209
      have h219 := kV214.bk h210
      have h220 := kV214.bk h211
      have K221 := K212.nn kV214
      have z222 := kV214.size
      refine ⟨⟨h217, h218, h219, h220⟩, ?_⟩
      refine an_two 4 7 (by kernel_rfl) ?_ ?_
      · obtain ⟨V223, eV223, qa, eqa, h224, kV223⟩ := alloc_step V214 (([.agg (Att.c a), .agg (Att.c b)] : List Value).flatMap fun v => v.cells.toList).toArray 26
        have n225 : gp < qa := eqa ▸ lt_of_block h216
        have n226 : ga < qa := eqa ▸ lt_of_block h217
        have n227 : gb < qa := eqa ▸ lt_of_block h218
        have n228 : gx < qa := eqa ▸ lt_of_block h219
        have n229 : gy < qa := eqa ▸ lt_of_block h220
        have n230 : w.heap.size ≤ qa := eqa ▸ K221.size
        refine nrq (.slice (some ⟨qa, 0, none⟩) 2 2) (w' := V223) (by rw [← eV223, ← eqa]; exact exec_buildAll 59 26 2 #[(0, .tmp 46), (1, .tmp 47)] (by kernel_rfl) [.agg (Att.c a), .agg (Att.c b)] (by kernel_rfl) i0 _ Tryz.underlying59 hi0 hz0 36 hz1 (by decide) rfl (by decide) (by decide) (fun u hu => by simp only [List.mem_cons, List.not_mem_nil, or_false] at hu; rcases hu with rfl | rfl; exact Att.c_size _ ha.r; exact Att.c_size _ hb.r)) ?_
        clear eV223
        have h231 : V223.heap[qa]? = some (.cells ((List.flatMap Att.cl [a, b]).toArray) 26 (0, 0)) := h224
        have h232 : SelsAt V223 v l := h215.keepsN kV223
        have h233 := kV223.bk h216
        have h234 := kV223.bk h217
        have h235 := kV223.bk h218
        have h236 := kV223.bk h219
        have h237 := kV223.bk h220
        have h238 : Row V223 30 34 (.slice (some ⟨cg, 0, none⟩) l.length cc) l.length (l.flatMap Sel.cl) := hcrV214.keeps kV223 (fun _ _ x => x)
        have K239 := K221.nn kV223
        have z240 := kV223.size
        refine ⟨⟨h234, h235, h236, h237⟩, ?_⟩
        refine an_o 7 ?_
        obtain ⟨V241, eV241, qb, eqb, h242, kV241⟩ := alloc_step V223 (([.agg (Pro.c x), .agg (Pro.c y)] : List Value).flatMap fun v => v.cells.toList).toArray 28
        have n243 : gp < qb := eqb ▸ lt_of_block h233
        have n244 : ga < qb := eqb ▸ lt_of_block h234
        have n245 : gb < qb := eqb ▸ lt_of_block h235
        have n246 : gx < qb := eqb ▸ lt_of_block h236
        have n247 : gy < qb := eqb ▸ lt_of_block h237
        have n248 : qa < qb := eqb ▸ lt_of_block h231
        have n249 : w.heap.size ≤ qb := eqb ▸ K239.size
        refine nrq (.slice (some ⟨qb, 0, none⟩) 2 2) (w' := V241) (by rw [← eV241, ← eqb]; exact exec_buildAll 60 28 2 #[(0, .tmp 49), (1, .tmp 50)] (by kernel_rfl) [.agg (Pro.c x), .agg (Pro.c y)] (by kernel_rfl) i1 _ Tryz.underlying60 hi1 hw0 35 hw1 (by decide) rfl (by decide) (by decide) (fun u hu => by simp only [List.mem_cons, List.not_mem_nil, or_false] at hu; rcases hu with rfl | rfl; exact Pro.c_size _ hx.r; exact Pro.c_size _ hy.r)) ?_
        clear eV241
        have h250 : V241.heap[qb]? = some (.cells ((List.flatMap Pro.cl [x, y]).toArray) 28 (0, 0)) := h242
        have h251 : SelsAt V241 v l := h232.keepsN kV241
        have h252 := kV241.bk h233
        have h253 := kV241.bk h234
        have h254 := kV241.bk h235
        have h255 := kV241.bk h236
        have h256 := kV241.bk h237
        have h257 : Row V241 30 34 (.slice (some ⟨cg, 0, none⟩) l.length cc) l.length (l.flatMap Sel.cl) := h238.keeps kV241 (fun _ _ x => x)
        have h258 := kV241.bk h231
        have K259 := K239.nn kV241
        have z260 := kV241.size
        refine ⟨⟨h253, h254, h255, h256⟩, ?_⟩
        refine an_o 8 ?_
        refine ncq 27 #[.slice (some ⟨qa, 0, none⟩) 2 2, .slice (some ⟨qb, 0, none⟩) 2 2] Tryz.func27 ((leseals_ok _ _ [a, b] [x, y] _ (Sl.blockG h258 hAl rfl (by simp)) (Sl.blockG h250 hPl rfl (by simp)) (two_A ha hb) (two_P hx hy) (by simp) (by simp)).mono ?_)
        rintro e V261 ⟨vl, rfl, hsrV261, hnlV261, kV261⟩
        refine ⟨_, rfl, ?_⟩
        have h262 : SelsAt V261 v l := h251.keepsN kV261
        have h263 := kV261.bk h252
        have h264 := kV261.bk h253
        have h265 := kV261.bk h254
        have h266 := kV261.bk h255
        have h267 := kV261.bk h256
        have h268 : Row V261 30 34 (.slice (some ⟨cg, 0, none⟩) l.length cc) l.length (l.flatMap Sel.cl) := h257.keeps kV261 (fun _ _ x => x)
        have h269 := kV261.bk h258
        have h270 := kV261.bk h250
        have K271 := K259.nn kV261
        have z272 := kV261.size
        refine ⟨⟨h264, h265, h266, h267⟩, ?_⟩
        refine an_o 9 ?_
        obtain ⟨lv, V273, hr274, h275, hg276, hn277, ha278⟩ := run_append_any (P := Tryz.prog) (w := V261) 46 (Oper.type (qo86_0 30 9)) 30 i2 (.agg selZ.c) 34 48 Tryz.underlying46 hi2 hs0 hs1 hs2 rfl (by decide) (.slice (some ⟨cg, 0, none⟩) l.length cc) l.length (l.flatMap Sel.cl) h268 vl ((selA [a, b] ++ selP [x, y]).length) ((selA [a, b] ++ selP [x, y]).flatMap Sel.cl) (Row.src hsrV261 sels_one) (by unfold maxLen; omega) (by omega)
        have kV273 : Keeps (fun j => (.slice (some ⟨cg, 0, none⟩) l.length cc : Value).ownBlock = some j) V261 V273 := Keeps.rowAdd hg276
        have hw279 : NewFrom w.heap.size lv := (NewFrom.ptr (by have := hcgV214; omega) _ _ : NewFrom w.heap.size (.slice (some ⟨cg, 0, none⟩) l.length cc)).next K271.size ha278
        refine nrq lv (w' := V273) (exec_append (.tmp 45) (.tmp 52) 46 (by kernel_rfl) (.slice (some ⟨cg, 0, none⟩) l.length cc) vl (by kernel_rfl) (by kernel_rfl) hr274) ?_
        have h280 : Row V273 30 34 lv ((l ++ (selA [a, b] ++ selP [x, y])).length) ((l ++ (selA [a, b] ++ selP [x, y])).flatMap Sel.cl) := row_app h275
        have h281 : SelsAt V273 v l := Sl.keepsB hl h262 kV273 (fun j e => by have := (NewFrom.ptr (by have := hcgV214; omega) _ _ : NewFrom w.heap.size (.slice (some ⟨cg, 0, none⟩) l.length cc)) j e; omega)
        have h282 : V273.heap[gp]? = some (.cells p.cells 45 (0, 0)) := (kV273.block gp (lt_of_block h263) (fun e => Row.ne h268 h263 (by decide) e)).trans h263
        have h283 : V273.heap[ga]? = some (.cells (Att.c a) 26 (0, 0)) := (kV273.block ga (lt_of_block h264) (fun e => Row.ne h268 h264 (by decide) e)).trans h264
        have h284 : V273.heap[gb]? = some (.cells (Att.c b) 26 (0, 0)) := (kV273.block gb (lt_of_block h265) (fun e => Row.ne h268 h265 (by decide) e)).trans h265
        have h285 : V273.heap[gx]? = some (.cells (Pro.c x) 28 (0, 0)) := (kV273.block gx (lt_of_block h266) (fun e => Row.ne h268 h266 (by decide) e)).trans h266
        have h286 : V273.heap[gy]? = some (.cells (Pro.c y) 28 (0, 0)) := (kV273.block gy (lt_of_block h267) (fun e => Row.ne h268 h267 (by decide) e)).trans h267
        have h287 : V273.heap[qa]? = some (.cells ((List.flatMap Att.cl [a, b]).toArray) 26 (0, 0)) := (kV273.block qa (lt_of_block h269) (fun e => Row.ne h268 h269 (by decide) e)).trans h269
        have h288 : V273.heap[qb]? = some (.cells ((List.flatMap Pro.cl [x, y]).toArray) 28 (0, 0)) := (kV273.block qb (lt_of_block h270) (fun e => Row.ne h268 h270 (by decide) e)).trans h270
        have K289 : Keeps Nob w V273 := K271.then kV273 (fun i hi hm => absurd hi (by have := (NewFrom.ptr (by have := hcgV214; omega) _ _ : NewFrom w.heap.size (.slice (some ⟨cg, 0, none⟩) l.length cc)) i hm; omega))
        have z290 := kV273.size
        refine ⟨⟨h283, h284, h285, h286⟩, ?_⟩
        refine an_o 10 <| nrq (lv) (w' := V273) (by kernel_rfl) ?_
        refine ⟨⟨h283, h284, h285, h286⟩, ?_⟩
        refine an_end (by kernel_rfl) ?_
        exact ⟨rfl, qa, qb, cg, cc, vl, lv, by kernel_rfl, h281, h282, h283, h284, h285, h286, h287, h288, h280, by omega, K289⟩
      · obtain ⟨V291, eV291, qb, eqb, h292, kV291⟩ := alloc_step V214 (([.agg (Pro.c x), .agg (Pro.c y)] : List Value).flatMap fun v => v.cells.toList).toArray 28
        have n293 : gp < qb := eqb ▸ lt_of_block h216
        have n294 : ga < qb := eqb ▸ lt_of_block h217
        have n295 : gb < qb := eqb ▸ lt_of_block h218
        have n296 : gx < qb := eqb ▸ lt_of_block h219
        have n297 : gy < qb := eqb ▸ lt_of_block h220
        have n298 : w.heap.size ≤ qb := eqb ▸ K221.size
        refine nrq (.slice (some ⟨qb, 0, none⟩) 2 2) (w' := V291) (by rw [← eV291, ← eqb]; exact exec_buildAll 60 28 2 #[(0, .tmp 49), (1, .tmp 50)] (by kernel_rfl) [.agg (Pro.c x), .agg (Pro.c y)] (by kernel_rfl) i1 _ Tryz.underlying60 hi1 hw0 35 hw1 (by decide) rfl (by decide) (by decide) (fun u hu => by simp only [List.mem_cons, List.not_mem_nil, or_false] at hu; rcases hu with rfl | rfl; exact Pro.c_size _ hx.r; exact Pro.c_size _ hy.r)) ?_
        clear eV291
        have h299 : V291.heap[qb]? = some (.cells ((List.flatMap Pro.cl [x, y]).toArray) 28 (0, 0)) := h292
        have h300 : SelsAt V291 v l := h215.keepsN kV291
        have h301 := kV291.bk h216
        have h302 := kV291.bk h217
        have h303 := kV291.bk h218
        have h304 := kV291.bk h219
        have h305 := kV291.bk h220
        have h306 : Row V291 30 34 (.slice (some ⟨cg, 0, none⟩) l.length cc) l.length (l.flatMap Sel.cl) := hcrV214.keeps kV291 (fun _ _ x => x)
        have K307 := K221.nn kV291
        have z308 := kV291.size
        refine ⟨⟨h302, h303, h304, h305⟩, ?_⟩
        refine an_o 4 ?_
        obtain ⟨V309, eV309, qa, eqa, h310, kV309⟩ := alloc_step V291 (([.agg (Att.c a), .agg (Att.c b)] : List Value).flatMap fun v => v.cells.toList).toArray 26
        have n311 : gp < qa := eqa ▸ lt_of_block h301
        have n312 : ga < qa := eqa ▸ lt_of_block h302
        have n313 : gb < qa := eqa ▸ lt_of_block h303
        have n314 : gx < qa := eqa ▸ lt_of_block h304
        have n315 : gy < qa := eqa ▸ lt_of_block h305
        have n316 : qb < qa := eqa ▸ lt_of_block h299
        have n317 : w.heap.size ≤ qa := eqa ▸ K307.size
        refine nrq (.slice (some ⟨qa, 0, none⟩) 2 2) (w' := V309) (by rw [← eV309, ← eqa]; exact exec_buildAll 59 26 2 #[(0, .tmp 46), (1, .tmp 47)] (by kernel_rfl) [.agg (Att.c a), .agg (Att.c b)] (by kernel_rfl) i0 _ Tryz.underlying59 hi0 hz0 36 hz1 (by decide) rfl (by decide) (by decide) (fun u hu => by simp only [List.mem_cons, List.not_mem_nil, or_false] at hu; rcases hu with rfl | rfl; exact Att.c_size _ ha.r; exact Att.c_size _ hb.r)) ?_
        clear eV309
        have h318 : V309.heap[qa]? = some (.cells ((List.flatMap Att.cl [a, b]).toArray) 26 (0, 0)) := h310
        have h319 : SelsAt V309 v l := h300.keepsN kV309
        have h320 := kV309.bk h301
        have h321 := kV309.bk h302
        have h322 := kV309.bk h303
        have h323 := kV309.bk h304
        have h324 := kV309.bk h305
        have h325 : Row V309 30 34 (.slice (some ⟨cg, 0, none⟩) l.length cc) l.length (l.flatMap Sel.cl) := h306.keeps kV309 (fun _ _ x => x)
        have h326 := kV309.bk h299
        have K327 := K307.nn kV309
        have z328 := kV309.size
        refine ⟨⟨h321, h322, h323, h324⟩, ?_⟩
        refine an_o 8 ?_
        refine ncq 27 #[.slice (some ⟨qa, 0, none⟩) 2 2, .slice (some ⟨qb, 0, none⟩) 2 2] Tryz.func27 ((leseals_ok _ _ [a, b] [x, y] _ (Sl.blockG h318 hAl rfl (by simp)) (Sl.blockG h326 hPl rfl (by simp)) (two_A ha hb) (two_P hx hy) (by simp) (by simp)).mono ?_)
        rintro e V329 ⟨vl, rfl, hsrV329, hnlV329, kV329⟩
        refine ⟨_, rfl, ?_⟩
        have h330 : SelsAt V329 v l := h319.keepsN kV329
        have h331 := kV329.bk h320
        have h332 := kV329.bk h321
        have h333 := kV329.bk h322
        have h334 := kV329.bk h323
        have h335 := kV329.bk h324
        have h336 : Row V329 30 34 (.slice (some ⟨cg, 0, none⟩) l.length cc) l.length (l.flatMap Sel.cl) := h325.keeps kV329 (fun _ _ x => x)
        have h337 := kV329.bk h326
        have h338 := kV329.bk h318
        have K339 := K327.nn kV329
        have z340 := kV329.size
        refine ⟨⟨h332, h333, h334, h335⟩, ?_⟩
        refine an_o 9 ?_
        obtain ⟨lv, V341, hr342, h343, hg344, hn345, ha346⟩ := run_append_any (P := Tryz.prog) (w := V329) 46 (Oper.type (qo86_0 30 9)) 30 i2 (.agg selZ.c) 34 48 Tryz.underlying46 hi2 hs0 hs1 hs2 rfl (by decide) (.slice (some ⟨cg, 0, none⟩) l.length cc) l.length (l.flatMap Sel.cl) h336 vl ((selA [a, b] ++ selP [x, y]).length) ((selA [a, b] ++ selP [x, y]).flatMap Sel.cl) (Row.src hsrV329 sels_one) (by unfold maxLen; omega) (by omega)
        have kV341 : Keeps (fun j => (.slice (some ⟨cg, 0, none⟩) l.length cc : Value).ownBlock = some j) V329 V341 := Keeps.rowAdd hg344
        have hw347 : NewFrom w.heap.size lv := (NewFrom.ptr (by have := hcgV214; omega) _ _ : NewFrom w.heap.size (.slice (some ⟨cg, 0, none⟩) l.length cc)).next K339.size ha346
        refine nrq lv (w' := V341) (exec_append (.tmp 45) (.tmp 52) 46 (by kernel_rfl) (.slice (some ⟨cg, 0, none⟩) l.length cc) vl (by kernel_rfl) (by kernel_rfl) hr342) ?_
        have h348 : Row V341 30 34 lv ((l ++ (selA [a, b] ++ selP [x, y])).length) ((l ++ (selA [a, b] ++ selP [x, y])).flatMap Sel.cl) := row_app h343
        have h349 : SelsAt V341 v l := Sl.keepsB hl h330 kV341 (fun j e => by have := (NewFrom.ptr (by have := hcgV214; omega) _ _ : NewFrom w.heap.size (.slice (some ⟨cg, 0, none⟩) l.length cc)) j e; omega)
        have h350 : V341.heap[gp]? = some (.cells p.cells 45 (0, 0)) := (kV341.block gp (lt_of_block h331) (fun e => Row.ne h336 h331 (by decide) e)).trans h331
        have h351 : V341.heap[ga]? = some (.cells (Att.c a) 26 (0, 0)) := (kV341.block ga (lt_of_block h332) (fun e => Row.ne h336 h332 (by decide) e)).trans h332
        have h352 : V341.heap[gb]? = some (.cells (Att.c b) 26 (0, 0)) := (kV341.block gb (lt_of_block h333) (fun e => Row.ne h336 h333 (by decide) e)).trans h333
        have h353 : V341.heap[gx]? = some (.cells (Pro.c x) 28 (0, 0)) := (kV341.block gx (lt_of_block h334) (fun e => Row.ne h336 h334 (by decide) e)).trans h334
        have h354 : V341.heap[gy]? = some (.cells (Pro.c y) 28 (0, 0)) := (kV341.block gy (lt_of_block h335) (fun e => Row.ne h336 h335 (by decide) e)).trans h335
        have h355 : V341.heap[qb]? = some (.cells ((List.flatMap Pro.cl [x, y]).toArray) 28 (0, 0)) := (kV341.block qb (lt_of_block h337) (fun e => Row.ne h336 h337 (by decide) e)).trans h337
        have h356 : V341.heap[qa]? = some (.cells ((List.flatMap Att.cl [a, b]).toArray) 26 (0, 0)) := (kV341.block qa (lt_of_block h338) (fun e => Row.ne h336 h338 (by decide) e)).trans h338
        have K357 : Keeps Nob w V341 := K339.then kV341 (fun i hi hm => absurd hi (by have := (NewFrom.ptr (by have := hcgV214; omega) _ _ : NewFrom w.heap.size (.slice (some ⟨cg, 0, none⟩) l.length cc)) i hm; omega))
        have z358 := kV341.size
        refine ⟨⟨h351, h352, h353, h354⟩, ?_⟩
        refine an_o 10 <| nrq (lv) (w' := V341) (by kernel_rfl) ?_
        refine ⟨⟨h351, h352, h353, h354⟩, ?_⟩
        refine an_end (by kernel_rfl) ?_
        exact ⟨rfl, qa, qb, cg, cc, vl, lv, by kernel_rfl, h349, h350, h351, h352, h353, h354, h356, h355, h348, by omega, K357⟩
    · obtain ⟨V359, eV359, qa, eqa, h360, kV359⟩ := alloc_step V205 (([.agg (Att.c a), .agg (Att.c b)] : List Value).flatMap fun v => v.cells.toList).toArray 26
      have n361 : gp < qa := eqa ▸ lt_of_block h207
      have n362 : ga < qa := eqa ▸ lt_of_block h208
      have n363 : gb < qa := eqa ▸ lt_of_block h209
      have n364 : gx < qa := eqa ▸ lt_of_block h210
      have n365 : gy < qa := eqa ▸ lt_of_block h211
      have n366 : w.heap.size ≤ qa := eqa ▸ K212.size
      refine nrq (.slice (some ⟨qa, 0, none⟩) 2 2) (w' := V359) (by rw [← eV359, ← eqa]; exact exec_buildAll 59 26 2 #[(0, .tmp 46), (1, .tmp 47)] (by kernel_rfl) [.agg (Att.c a), .agg (Att.c b)] (by kernel_rfl) i0 _ Tryz.underlying59 hi0 hz0 36 hz1 (by decide) rfl (by decide) (by decide) (fun u hu => by simp only [List.mem_cons, List.not_mem_nil, or_false] at hu; rcases hu with rfl | rfl; exact Att.c_size _ ha.r; exact Att.c_size _ hb.r)) ?_
      clear eV359
      have h367 : V359.heap[qa]? = some (.cells ((List.flatMap Att.cl [a, b]).toArray) 26 (0, 0)) := h360
      have h368 : SelsAt V359 v l := h206.keepsN kV359
      have h369 := kV359.bk h207
      have h370 := kV359.bk h208
      have h371 := kV359.bk h209
      have h372 := kV359.bk h210
      have h373 := kV359.bk h211
      have K374 := K212.nn kV359
      have z375 := kV359.size
      refine ⟨⟨h370, h371, h372, h373⟩, ?_⟩
      refine an_two 1 7 (by kernel_rfl) ?_ ?_
      · refine ncq 17 #[v] Tryz.func17 ((kCopySeals_ok v l _ h368 hlr (by omega)).mono ?_)
        rintro e V376 ⟨cg, cc, rfl, hcrV376, hcgV376, kV376⟩
        refine ⟨_, rfl, ?_⟩
        have h377 : SelsAt V376 v l := h368.keepsN kV376
        have h378 := kV376.bk h369
        have h379 := kV376.bk h370
        have h380 := kV376.bk h371
        have h381 := kV376.bk h372
        have h382 := kV376.bk h373
        have h383 := kV376.bk h367
        have K384 := K374.nn kV376
        have z385 := kV376.size
        refine ⟨⟨h379, h380, h381, h382⟩, ?_⟩
        refine an_o 7 ?_
        obtain ⟨V386, eV386, qb, eqb, h387, kV386⟩ := alloc_step V376 (([.agg (Pro.c x), .agg (Pro.c y)] : List Value).flatMap fun v => v.cells.toList).toArray 28
        have n388 : gp < qb := eqb ▸ lt_of_block h378
        have n389 : ga < qb := eqb ▸ lt_of_block h379
        have n390 : gb < qb := eqb ▸ lt_of_block h380
        have n391 : gx < qb := eqb ▸ lt_of_block h381
        have n392 : gy < qb := eqb ▸ lt_of_block h382
        have n393 : qa < qb := eqb ▸ lt_of_block h383
        have n394 : w.heap.size ≤ qb := eqb ▸ K384.size
        refine nrq (.slice (some ⟨qb, 0, none⟩) 2 2) (w' := V386) (by rw [← eV386, ← eqb]; exact exec_buildAll 60 28 2 #[(0, .tmp 49), (1, .tmp 50)] (by kernel_rfl) [.agg (Pro.c x), .agg (Pro.c y)] (by kernel_rfl) i1 _ Tryz.underlying60 hi1 hw0 35 hw1 (by decide) rfl (by decide) (by decide) (fun u hu => by simp only [List.mem_cons, List.not_mem_nil, or_false] at hu; rcases hu with rfl | rfl; exact Pro.c_size _ hx.r; exact Pro.c_size _ hy.r)) ?_
        clear eV386
        have h395 : V386.heap[qb]? = some (.cells ((List.flatMap Pro.cl [x, y]).toArray) 28 (0, 0)) := h387
        have h396 : SelsAt V386 v l := h377.keepsN kV386
        have h397 := kV386.bk h378
        have h398 := kV386.bk h379
        have h399 := kV386.bk h380
        have h400 := kV386.bk h381
        have h401 := kV386.bk h382
        have h402 := kV386.bk h383
        have h403 : Row V386 30 34 (.slice (some ⟨cg, 0, none⟩) l.length cc) l.length (l.flatMap Sel.cl) := hcrV376.keeps kV386 (fun _ _ x => x)
        have K404 := K384.nn kV386
        have z405 := kV386.size
        refine ⟨⟨h398, h399, h400, h401⟩, ?_⟩
        refine an_o 8 ?_
        refine ncq 27 #[.slice (some ⟨qa, 0, none⟩) 2 2, .slice (some ⟨qb, 0, none⟩) 2 2] Tryz.func27 ((leseals_ok _ _ [a, b] [x, y] _ (Sl.blockG h402 hAl rfl (by simp)) (Sl.blockG h395 hPl rfl (by simp)) (two_A ha hb) (two_P hx hy) (by simp) (by simp)).mono ?_)
        rintro e V406 ⟨vl, rfl, hsrV406, hnlV406, kV406⟩
        refine ⟨_, rfl, ?_⟩
        have h407 : SelsAt V406 v l := h396.keepsN kV406
        have h408 := kV406.bk h397
        have h409 := kV406.bk h398
        have h410 := kV406.bk h399
        have h411 := kV406.bk h400
        have h412 := kV406.bk h401
        have h413 := kV406.bk h402
        have h414 : Row V406 30 34 (.slice (some ⟨cg, 0, none⟩) l.length cc) l.length (l.flatMap Sel.cl) := h403.keeps kV406 (fun _ _ x => x)
        have h415 := kV406.bk h395
        have K416 := K404.nn kV406
        have z417 := kV406.size
        refine ⟨⟨h409, h410, h411, h412⟩, ?_⟩
        refine an_o 9 ?_
        obtain ⟨lv, V418, hr419, h420, hg421, hn422, ha423⟩ := run_append_any (P := Tryz.prog) (w := V406) 46 (Oper.type (qo86_0 30 9)) 30 i2 (.agg selZ.c) 34 48 Tryz.underlying46 hi2 hs0 hs1 hs2 rfl (by decide) (.slice (some ⟨cg, 0, none⟩) l.length cc) l.length (l.flatMap Sel.cl) h414 vl ((selA [a, b] ++ selP [x, y]).length) ((selA [a, b] ++ selP [x, y]).flatMap Sel.cl) (Row.src hsrV406 sels_one) (by unfold maxLen; omega) (by omega)
        have kV418 : Keeps (fun j => (.slice (some ⟨cg, 0, none⟩) l.length cc : Value).ownBlock = some j) V406 V418 := Keeps.rowAdd hg421
        have hw424 : NewFrom w.heap.size lv := (NewFrom.ptr (by have := hcgV376; omega) _ _ : NewFrom w.heap.size (.slice (some ⟨cg, 0, none⟩) l.length cc)).next K416.size ha423
        refine nrq lv (w' := V418) (exec_append (.tmp 45) (.tmp 52) 46 (by kernel_rfl) (.slice (some ⟨cg, 0, none⟩) l.length cc) vl (by kernel_rfl) (by kernel_rfl) hr419) ?_
        have h425 : Row V418 30 34 lv ((l ++ (selA [a, b] ++ selP [x, y])).length) ((l ++ (selA [a, b] ++ selP [x, y])).flatMap Sel.cl) := row_app h420
        have h426 : SelsAt V418 v l := Sl.keepsB hl h407 kV418 (fun j e => by have := (NewFrom.ptr (by have := hcgV376; omega) _ _ : NewFrom w.heap.size (.slice (some ⟨cg, 0, none⟩) l.length cc)) j e; omega)
        have h427 : V418.heap[gp]? = some (.cells p.cells 45 (0, 0)) := (kV418.block gp (lt_of_block h408) (fun e => Row.ne h414 h408 (by decide) e)).trans h408
        have h428 : V418.heap[ga]? = some (.cells (Att.c a) 26 (0, 0)) := (kV418.block ga (lt_of_block h409) (fun e => Row.ne h414 h409 (by decide) e)).trans h409
        have h429 : V418.heap[gb]? = some (.cells (Att.c b) 26 (0, 0)) := (kV418.block gb (lt_of_block h410) (fun e => Row.ne h414 h410 (by decide) e)).trans h410
        have h430 : V418.heap[gx]? = some (.cells (Pro.c x) 28 (0, 0)) := (kV418.block gx (lt_of_block h411) (fun e => Row.ne h414 h411 (by decide) e)).trans h411
        have h431 : V418.heap[gy]? = some (.cells (Pro.c y) 28 (0, 0)) := (kV418.block gy (lt_of_block h412) (fun e => Row.ne h414 h412 (by decide) e)).trans h412
        have h432 : V418.heap[qa]? = some (.cells ((List.flatMap Att.cl [a, b]).toArray) 26 (0, 0)) := (kV418.block qa (lt_of_block h413) (fun e => Row.ne h414 h413 (by decide) e)).trans h413
        have h433 : V418.heap[qb]? = some (.cells ((List.flatMap Pro.cl [x, y]).toArray) 28 (0, 0)) := (kV418.block qb (lt_of_block h415) (fun e => Row.ne h414 h415 (by decide) e)).trans h415
        have K434 : Keeps Nob w V418 := K416.then kV418 (fun i hi hm => absurd hi (by have := (NewFrom.ptr (by have := hcgV376; omega) _ _ : NewFrom w.heap.size (.slice (some ⟨cg, 0, none⟩) l.length cc)) i hm; omega))
        have z435 := kV418.size
        refine ⟨⟨h428, h429, h430, h431⟩, ?_⟩
        refine an_o 10 <| nrq (lv) (w' := V418) (by kernel_rfl) ?_
        refine ⟨⟨h428, h429, h430, h431⟩, ?_⟩
        refine an_end (by kernel_rfl) ?_
        exact ⟨rfl, qa, qb, cg, cc, vl, lv, by kernel_rfl, h426, h427, h428, h429, h430, h431, h432, h433, h425, by omega, K434⟩
      · obtain ⟨V436, eV436, qb, eqb, h437, kV436⟩ := alloc_step V359 (([.agg (Pro.c x), .agg (Pro.c y)] : List Value).flatMap fun v => v.cells.toList).toArray 28
        have n438 : gp < qb := eqb ▸ lt_of_block h369
        have n439 : ga < qb := eqb ▸ lt_of_block h370
        have n440 : gb < qb := eqb ▸ lt_of_block h371
        have n441 : gx < qb := eqb ▸ lt_of_block h372
        have n442 : gy < qb := eqb ▸ lt_of_block h373
        have n443 : qa < qb := eqb ▸ lt_of_block h367
        have n444 : w.heap.size ≤ qb := eqb ▸ K374.size
        refine nrq (.slice (some ⟨qb, 0, none⟩) 2 2) (w' := V436) (by rw [← eV436, ← eqb]; exact exec_buildAll 60 28 2 #[(0, .tmp 49), (1, .tmp 50)] (by kernel_rfl) [.agg (Pro.c x), .agg (Pro.c y)] (by kernel_rfl) i1 _ Tryz.underlying60 hi1 hw0 35 hw1 (by decide) rfl (by decide) (by decide) (fun u hu => by simp only [List.mem_cons, List.not_mem_nil, or_false] at hu; rcases hu with rfl | rfl; exact Pro.c_size _ hx.r; exact Pro.c_size _ hy.r)) ?_
        clear eV436
        have h445 : V436.heap[qb]? = some (.cells ((List.flatMap Pro.cl [x, y]).toArray) 28 (0, 0)) := h437
        have h446 : SelsAt V436 v l := h368.keepsN kV436
        have h447 := kV436.bk h369
        have h448 := kV436.bk h370
        have h449 := kV436.bk h371
        have h450 := kV436.bk h372
        have h451 := kV436.bk h373
        have h452 := kV436.bk h367
        have K453 := K374.nn kV436
        have z454 := kV436.size
        refine ⟨⟨h448, h449, h450, h451⟩, ?_⟩
        refine an_o 1 ?_
        refine ncq 17 #[v] Tryz.func17 ((kCopySeals_ok v l _ h446 hlr (by omega)).mono ?_)
        rintro e V455 ⟨cg, cc, rfl, hcrV455, hcgV455, kV455⟩
        refine ⟨_, rfl, ?_⟩
        have h456 : SelsAt V455 v l := h446.keepsN kV455
        have h457 := kV455.bk h447
        have h458 := kV455.bk h448
        have h459 := kV455.bk h449
        have h460 := kV455.bk h450
        have h461 := kV455.bk h451
        have h462 := kV455.bk h452
        have h463 := kV455.bk h445
        have K464 := K453.nn kV455
        have z465 := kV455.size
        refine ⟨⟨h458, h459, h460, h461⟩, ?_⟩
        refine an_o 8 ?_
        refine ncq 27 #[.slice (some ⟨qa, 0, none⟩) 2 2, .slice (some ⟨qb, 0, none⟩) 2 2] Tryz.func27 ((leseals_ok _ _ [a, b] [x, y] _ (Sl.blockG h462 hAl rfl (by simp)) (Sl.blockG h463 hPl rfl (by simp)) (two_A ha hb) (two_P hx hy) (by simp) (by simp)).mono ?_)
        rintro e V466 ⟨vl, rfl, hsrV466, hnlV466, kV466⟩
        refine ⟨_, rfl, ?_⟩
        have h467 : SelsAt V466 v l := h456.keepsN kV466
        have h468 := kV466.bk h457
        have h469 := kV466.bk h458
        have h470 := kV466.bk h459
        have h471 := kV466.bk h460
        have h472 := kV466.bk h461
        have h473 := kV466.bk h462
        have h474 := kV466.bk h463
        have h475 : Row V466 30 34 (.slice (some ⟨cg, 0, none⟩) l.length cc) l.length (l.flatMap Sel.cl) := hcrV455.keeps kV466 (fun _ _ x => x)
        have K476 := K464.nn kV466
        have z477 := kV466.size
        refine ⟨⟨h469, h470, h471, h472⟩, ?_⟩
        refine an_o 9 ?_
        obtain ⟨lv, V478, hr479, h480, hg481, hn482, ha483⟩ := run_append_any (P := Tryz.prog) (w := V466) 46 (Oper.type (qo86_0 30 9)) 30 i2 (.agg selZ.c) 34 48 Tryz.underlying46 hi2 hs0 hs1 hs2 rfl (by decide) (.slice (some ⟨cg, 0, none⟩) l.length cc) l.length (l.flatMap Sel.cl) h475 vl ((selA [a, b] ++ selP [x, y]).length) ((selA [a, b] ++ selP [x, y]).flatMap Sel.cl) (Row.src hsrV466 sels_one) (by unfold maxLen; omega) (by omega)
        have kV478 : Keeps (fun j => (.slice (some ⟨cg, 0, none⟩) l.length cc : Value).ownBlock = some j) V466 V478 := Keeps.rowAdd hg481
        have hw484 : NewFrom w.heap.size lv := (NewFrom.ptr (by have := hcgV455; omega) _ _ : NewFrom w.heap.size (.slice (some ⟨cg, 0, none⟩) l.length cc)).next K476.size ha483
        refine nrq lv (w' := V478) (exec_append (.tmp 45) (.tmp 52) 46 (by kernel_rfl) (.slice (some ⟨cg, 0, none⟩) l.length cc) vl (by kernel_rfl) (by kernel_rfl) hr479) ?_
        have h485 : Row V478 30 34 lv ((l ++ (selA [a, b] ++ selP [x, y])).length) ((l ++ (selA [a, b] ++ selP [x, y])).flatMap Sel.cl) := row_app h480
        have h486 : SelsAt V478 v l := Sl.keepsB hl h467 kV478 (fun j e => by have := (NewFrom.ptr (by have := hcgV455; omega) _ _ : NewFrom w.heap.size (.slice (some ⟨cg, 0, none⟩) l.length cc)) j e; omega)
        have h487 : V478.heap[gp]? = some (.cells p.cells 45 (0, 0)) := (kV478.block gp (lt_of_block h468) (fun e => Row.ne h475 h468 (by decide) e)).trans h468
        have h488 : V478.heap[ga]? = some (.cells (Att.c a) 26 (0, 0)) := (kV478.block ga (lt_of_block h469) (fun e => Row.ne h475 h469 (by decide) e)).trans h469
        have h489 : V478.heap[gb]? = some (.cells (Att.c b) 26 (0, 0)) := (kV478.block gb (lt_of_block h470) (fun e => Row.ne h475 h470 (by decide) e)).trans h470
        have h490 : V478.heap[gx]? = some (.cells (Pro.c x) 28 (0, 0)) := (kV478.block gx (lt_of_block h471) (fun e => Row.ne h475 h471 (by decide) e)).trans h471
        have h491 : V478.heap[gy]? = some (.cells (Pro.c y) 28 (0, 0)) := (kV478.block gy (lt_of_block h472) (fun e => Row.ne h475 h472 (by decide) e)).trans h472
        have h492 : V478.heap[qa]? = some (.cells ((List.flatMap Att.cl [a, b]).toArray) 26 (0, 0)) := (kV478.block qa (lt_of_block h473) (fun e => Row.ne h475 h473 (by decide) e)).trans h473
        have h493 : V478.heap[qb]? = some (.cells ((List.flatMap Pro.cl [x, y]).toArray) 28 (0, 0)) := (kV478.block qb (lt_of_block h474) (fun e => Row.ne h475 h474 (by decide) e)).trans h474
        have K494 : Keeps Nob w V478 := K476.then kV478 (fun i hi hm => absurd hi (by have := (NewFrom.ptr (by have := hcgV455; omega) _ _ : NewFrom w.heap.size (.slice (some ⟨cg, 0, none⟩) l.length cc)) i hm; omega))
        have z495 := kV478.size
        refine ⟨⟨h488, h489, h490, h491⟩, ?_⟩
        refine an_o 10 <| nrq (lv) (w' := V478) (by kernel_rfl) ?_
        refine ⟨⟨h488, h489, h490, h491⟩, ?_⟩
        refine an_end (by kernel_rfl) ?_
        exact ⟨rfl, qa, qb, cg, cc, vl, lv, by kernel_rfl, h486, h487, h488, h489, h490, h491, h492, h493, h485, by omega, K494⟩
    · obtain ⟨V496, eV496, qb, eqb, h497, kV496⟩ := alloc_step V205 (([.agg (Pro.c x), .agg (Pro.c y)] : List Value).flatMap fun v => v.cells.toList).toArray 28
      have n498 : gp < qb := eqb ▸ lt_of_block h207
      have n499 : ga < qb := eqb ▸ lt_of_block h208
      have n500 : gb < qb := eqb ▸ lt_of_block h209
      have n501 : gx < qb := eqb ▸ lt_of_block h210
      have n502 : gy < qb := eqb ▸ lt_of_block h211
      have n503 : w.heap.size ≤ qb := eqb ▸ K212.size
      refine nrq (.slice (some ⟨qb, 0, none⟩) 2 2) (w' := V496) (by rw [← eV496, ← eqb]; exact exec_buildAll 60 28 2 #[(0, .tmp 49), (1, .tmp 50)] (by kernel_rfl) [.agg (Pro.c x), .agg (Pro.c y)] (by kernel_rfl) i1 _ Tryz.underlying60 hi1 hw0 35 hw1 (by decide) rfl (by decide) (by decide) (fun u hu => by simp only [List.mem_cons, List.not_mem_nil, or_false] at hu; rcases hu with rfl | rfl; exact Pro.c_size _ hx.r; exact Pro.c_size _ hy.r)) ?_
      clear eV496
      have h504 : V496.heap[qb]? = some (.cells ((List.flatMap Pro.cl [x, y]).toArray) 28 (0, 0)) := h497
      have h505 : SelsAt V496 v l := h206.keepsN kV496
      have h506 := kV496.bk h207
      have h507 := kV496.bk h208
      have h508 := kV496.bk h209
      have h509 := kV496.bk h210
      have h510 := kV496.bk h211
      have K511 := K212.nn kV496
      have z512 := kV496.size
      refine ⟨⟨h507, h508, h509, h510⟩, ?_⟩
      refine an_two 1 4 (by kernel_rfl) ?_ ?_
      · refine ncq 17 #[v] Tryz.func17 ((kCopySeals_ok v l _ h505 hlr (by omega)).mono ?_)
        rintro e V513 ⟨cg, cc, rfl, hcrV513, hcgV513, kV513⟩
        refine ⟨_, rfl, ?_⟩
        have h514 : SelsAt V513 v l := h505.keepsN kV513
        have h515 := kV513.bk h506
        have h516 := kV513.bk h507
        have h517 := kV513.bk h508
        have h518 := kV513.bk h509
        have h519 := kV513.bk h510
        have h520 := kV513.bk h504
        have K521 := K511.nn kV513
        have z522 := kV513.size
        refine ⟨⟨h516, h517, h518, h519⟩, ?_⟩
        refine an_o 4 ?_
        obtain ⟨V523, eV523, qa, eqa, h524, kV523⟩ := alloc_step V513 (([.agg (Att.c a), .agg (Att.c b)] : List Value).flatMap fun v => v.cells.toList).toArray 26
        have n525 : gp < qa := eqa ▸ lt_of_block h515
        have n526 : ga < qa := eqa ▸ lt_of_block h516
        have n527 : gb < qa := eqa ▸ lt_of_block h517
        have n528 : gx < qa := eqa ▸ lt_of_block h518
        have n529 : gy < qa := eqa ▸ lt_of_block h519
        have n530 : qb < qa := eqa ▸ lt_of_block h520
        have n531 : w.heap.size ≤ qa := eqa ▸ K521.size
        refine nrq (.slice (some ⟨qa, 0, none⟩) 2 2) (w' := V523) (by rw [← eV523, ← eqa]; exact exec_buildAll 59 26 2 #[(0, .tmp 46), (1, .tmp 47)] (by kernel_rfl) [.agg (Att.c a), .agg (Att.c b)] (by kernel_rfl) i0 _ Tryz.underlying59 hi0 hz0 36 hz1 (by decide) rfl (by decide) (by decide) (fun u hu => by simp only [List.mem_cons, List.not_mem_nil, or_false] at hu; rcases hu with rfl | rfl; exact Att.c_size _ ha.r; exact Att.c_size _ hb.r)) ?_
        clear eV523
        have h532 : V523.heap[qa]? = some (.cells ((List.flatMap Att.cl [a, b]).toArray) 26 (0, 0)) := h524
        have h533 : SelsAt V523 v l := h514.keepsN kV523
        have h534 := kV523.bk h515
        have h535 := kV523.bk h516
        have h536 := kV523.bk h517
        have h537 := kV523.bk h518
        have h538 := kV523.bk h519
        have h539 := kV523.bk h520
        have h540 : Row V523 30 34 (.slice (some ⟨cg, 0, none⟩) l.length cc) l.length (l.flatMap Sel.cl) := hcrV513.keeps kV523 (fun _ _ x => x)
        have K541 := K521.nn kV523
        have z542 := kV523.size
        refine ⟨⟨h535, h536, h537, h538⟩, ?_⟩
        refine an_o 8 ?_
        refine ncq 27 #[.slice (some ⟨qa, 0, none⟩) 2 2, .slice (some ⟨qb, 0, none⟩) 2 2] Tryz.func27 ((leseals_ok _ _ [a, b] [x, y] _ (Sl.blockG h532 hAl rfl (by simp)) (Sl.blockG h539 hPl rfl (by simp)) (two_A ha hb) (two_P hx hy) (by simp) (by simp)).mono ?_)
        rintro e V543 ⟨vl, rfl, hsrV543, hnlV543, kV543⟩
        refine ⟨_, rfl, ?_⟩
        have h544 : SelsAt V543 v l := h533.keepsN kV543
        have h545 := kV543.bk h534
        have h546 := kV543.bk h535
        have h547 := kV543.bk h536
        have h548 := kV543.bk h537
        have h549 := kV543.bk h538
        have h550 := kV543.bk h539
        have h551 : Row V543 30 34 (.slice (some ⟨cg, 0, none⟩) l.length cc) l.length (l.flatMap Sel.cl) := h540.keeps kV543 (fun _ _ x => x)
        have h552 := kV543.bk h532
        have K553 := K541.nn kV543
        have z554 := kV543.size
        refine ⟨⟨h546, h547, h548, h549⟩, ?_⟩
        refine an_o 9 ?_
        obtain ⟨lv, V555, hr556, h557, hg558, hn559, ha560⟩ := run_append_any (P := Tryz.prog) (w := V543) 46 (Oper.type (qo86_0 30 9)) 30 i2 (.agg selZ.c) 34 48 Tryz.underlying46 hi2 hs0 hs1 hs2 rfl (by decide) (.slice (some ⟨cg, 0, none⟩) l.length cc) l.length (l.flatMap Sel.cl) h551 vl ((selA [a, b] ++ selP [x, y]).length) ((selA [a, b] ++ selP [x, y]).flatMap Sel.cl) (Row.src hsrV543 sels_one) (by unfold maxLen; omega) (by omega)
        have kV555 : Keeps (fun j => (.slice (some ⟨cg, 0, none⟩) l.length cc : Value).ownBlock = some j) V543 V555 := Keeps.rowAdd hg558
        have hw561 : NewFrom w.heap.size lv := (NewFrom.ptr (by have := hcgV513; omega) _ _ : NewFrom w.heap.size (.slice (some ⟨cg, 0, none⟩) l.length cc)).next K553.size ha560
        refine nrq lv (w' := V555) (exec_append (.tmp 45) (.tmp 52) 46 (by kernel_rfl) (.slice (some ⟨cg, 0, none⟩) l.length cc) vl (by kernel_rfl) (by kernel_rfl) hr556) ?_
        have h562 : Row V555 30 34 lv ((l ++ (selA [a, b] ++ selP [x, y])).length) ((l ++ (selA [a, b] ++ selP [x, y])).flatMap Sel.cl) := row_app h557
        have h563 : SelsAt V555 v l := Sl.keepsB hl h544 kV555 (fun j e => by have := (NewFrom.ptr (by have := hcgV513; omega) _ _ : NewFrom w.heap.size (.slice (some ⟨cg, 0, none⟩) l.length cc)) j e; omega)
        have h564 : V555.heap[gp]? = some (.cells p.cells 45 (0, 0)) := (kV555.block gp (lt_of_block h545) (fun e => Row.ne h551 h545 (by decide) e)).trans h545
        have h565 : V555.heap[ga]? = some (.cells (Att.c a) 26 (0, 0)) := (kV555.block ga (lt_of_block h546) (fun e => Row.ne h551 h546 (by decide) e)).trans h546
        have h566 : V555.heap[gb]? = some (.cells (Att.c b) 26 (0, 0)) := (kV555.block gb (lt_of_block h547) (fun e => Row.ne h551 h547 (by decide) e)).trans h547
        have h567 : V555.heap[gx]? = some (.cells (Pro.c x) 28 (0, 0)) := (kV555.block gx (lt_of_block h548) (fun e => Row.ne h551 h548 (by decide) e)).trans h548
        have h568 : V555.heap[gy]? = some (.cells (Pro.c y) 28 (0, 0)) := (kV555.block gy (lt_of_block h549) (fun e => Row.ne h551 h549 (by decide) e)).trans h549
        have h569 : V555.heap[qb]? = some (.cells ((List.flatMap Pro.cl [x, y]).toArray) 28 (0, 0)) := (kV555.block qb (lt_of_block h550) (fun e => Row.ne h551 h550 (by decide) e)).trans h550
        have h570 : V555.heap[qa]? = some (.cells ((List.flatMap Att.cl [a, b]).toArray) 26 (0, 0)) := (kV555.block qa (lt_of_block h552) (fun e => Row.ne h551 h552 (by decide) e)).trans h552
        have K571 : Keeps Nob w V555 := K553.then kV555 (fun i hi hm => absurd hi (by have := (NewFrom.ptr (by have := hcgV513; omega) _ _ : NewFrom w.heap.size (.slice (some ⟨cg, 0, none⟩) l.length cc)) i hm; omega))
        have z572 := kV555.size
        refine ⟨⟨h565, h566, h567, h568⟩, ?_⟩
        refine an_o 10 <| nrq (lv) (w' := V555) (by kernel_rfl) ?_
        refine ⟨⟨h565, h566, h567, h568⟩, ?_⟩
        refine an_end (by kernel_rfl) ?_
        exact ⟨rfl, qa, qb, cg, cc, vl, lv, by kernel_rfl, h563, h564, h565, h566, h567, h568, h570, h569, h562, by omega, K571⟩
      · obtain ⟨V573, eV573, qa, eqa, h574, kV573⟩ := alloc_step V496 (([.agg (Att.c a), .agg (Att.c b)] : List Value).flatMap fun v => v.cells.toList).toArray 26
        have n575 : gp < qa := eqa ▸ lt_of_block h506
        have n576 : ga < qa := eqa ▸ lt_of_block h507
        have n577 : gb < qa := eqa ▸ lt_of_block h508
        have n578 : gx < qa := eqa ▸ lt_of_block h509
        have n579 : gy < qa := eqa ▸ lt_of_block h510
        have n580 : qb < qa := eqa ▸ lt_of_block h504
        have n581 : w.heap.size ≤ qa := eqa ▸ K511.size
        refine nrq (.slice (some ⟨qa, 0, none⟩) 2 2) (w' := V573) (by rw [← eV573, ← eqa]; exact exec_buildAll 59 26 2 #[(0, .tmp 46), (1, .tmp 47)] (by kernel_rfl) [.agg (Att.c a), .agg (Att.c b)] (by kernel_rfl) i0 _ Tryz.underlying59 hi0 hz0 36 hz1 (by decide) rfl (by decide) (by decide) (fun u hu => by simp only [List.mem_cons, List.not_mem_nil, or_false] at hu; rcases hu with rfl | rfl; exact Att.c_size _ ha.r; exact Att.c_size _ hb.r)) ?_
        clear eV573
        have h582 : V573.heap[qa]? = some (.cells ((List.flatMap Att.cl [a, b]).toArray) 26 (0, 0)) := h574
        have h583 : SelsAt V573 v l := h505.keepsN kV573
        have h584 := kV573.bk h506
        have h585 := kV573.bk h507
        have h586 := kV573.bk h508
        have h587 := kV573.bk h509
        have h588 := kV573.bk h510
        have h589 := kV573.bk h504
        have K590 := K511.nn kV573
        have z591 := kV573.size
        refine ⟨⟨h585, h586, h587, h588⟩, ?_⟩
        refine an_o 1 ?_
        refine ncq 17 #[v] Tryz.func17 ((kCopySeals_ok v l _ h583 hlr (by omega)).mono ?_)
        rintro e V592 ⟨cg, cc, rfl, hcrV592, hcgV592, kV592⟩
        refine ⟨_, rfl, ?_⟩
        have h593 : SelsAt V592 v l := h583.keepsN kV592
        have h594 := kV592.bk h584
        have h595 := kV592.bk h585
        have h596 := kV592.bk h586
        have h597 := kV592.bk h587
        have h598 := kV592.bk h588
        have h599 := kV592.bk h589
        have h600 := kV592.bk h582
        have K601 := K590.nn kV592
        have z602 := kV592.size
        refine ⟨⟨h595, h596, h597, h598⟩, ?_⟩
        refine an_o 8 ?_
        refine ncq 27 #[.slice (some ⟨qa, 0, none⟩) 2 2, .slice (some ⟨qb, 0, none⟩) 2 2] Tryz.func27 ((leseals_ok _ _ [a, b] [x, y] _ (Sl.blockG h600 hAl rfl (by simp)) (Sl.blockG h599 hPl rfl (by simp)) (two_A ha hb) (two_P hx hy) (by simp) (by simp)).mono ?_)
        rintro e V603 ⟨vl, rfl, hsrV603, hnlV603, kV603⟩
        refine ⟨_, rfl, ?_⟩
        have h604 : SelsAt V603 v l := h593.keepsN kV603
        have h605 := kV603.bk h594
        have h606 := kV603.bk h595
        have h607 := kV603.bk h596
        have h608 := kV603.bk h597
        have h609 := kV603.bk h598
        have h610 := kV603.bk h599
        have h611 := kV603.bk h600
        have h612 : Row V603 30 34 (.slice (some ⟨cg, 0, none⟩) l.length cc) l.length (l.flatMap Sel.cl) := hcrV592.keeps kV603 (fun _ _ x => x)
        have K613 := K601.nn kV603
        have z614 := kV603.size
        refine ⟨⟨h606, h607, h608, h609⟩, ?_⟩
        refine an_o 9 ?_
        obtain ⟨lv, V615, hr616, h617, hg618, hn619, ha620⟩ := run_append_any (P := Tryz.prog) (w := V603) 46 (Oper.type (qo86_0 30 9)) 30 i2 (.agg selZ.c) 34 48 Tryz.underlying46 hi2 hs0 hs1 hs2 rfl (by decide) (.slice (some ⟨cg, 0, none⟩) l.length cc) l.length (l.flatMap Sel.cl) h612 vl ((selA [a, b] ++ selP [x, y]).length) ((selA [a, b] ++ selP [x, y]).flatMap Sel.cl) (Row.src hsrV603 sels_one) (by unfold maxLen; omega) (by omega)
        have kV615 : Keeps (fun j => (.slice (some ⟨cg, 0, none⟩) l.length cc : Value).ownBlock = some j) V603 V615 := Keeps.rowAdd hg618
        have hw621 : NewFrom w.heap.size lv := (NewFrom.ptr (by have := hcgV592; omega) _ _ : NewFrom w.heap.size (.slice (some ⟨cg, 0, none⟩) l.length cc)).next K613.size ha620
        refine nrq lv (w' := V615) (exec_append (.tmp 45) (.tmp 52) 46 (by kernel_rfl) (.slice (some ⟨cg, 0, none⟩) l.length cc) vl (by kernel_rfl) (by kernel_rfl) hr616) ?_
        have h622 : Row V615 30 34 lv ((l ++ (selA [a, b] ++ selP [x, y])).length) ((l ++ (selA [a, b] ++ selP [x, y])).flatMap Sel.cl) := row_app h617
        have h623 : SelsAt V615 v l := Sl.keepsB hl h604 kV615 (fun j e => by have := (NewFrom.ptr (by have := hcgV592; omega) _ _ : NewFrom w.heap.size (.slice (some ⟨cg, 0, none⟩) l.length cc)) j e; omega)
        have h624 : V615.heap[gp]? = some (.cells p.cells 45 (0, 0)) := (kV615.block gp (lt_of_block h605) (fun e => Row.ne h612 h605 (by decide) e)).trans h605
        have h625 : V615.heap[ga]? = some (.cells (Att.c a) 26 (0, 0)) := (kV615.block ga (lt_of_block h606) (fun e => Row.ne h612 h606 (by decide) e)).trans h606
        have h626 : V615.heap[gb]? = some (.cells (Att.c b) 26 (0, 0)) := (kV615.block gb (lt_of_block h607) (fun e => Row.ne h612 h607 (by decide) e)).trans h607
        have h627 : V615.heap[gx]? = some (.cells (Pro.c x) 28 (0, 0)) := (kV615.block gx (lt_of_block h608) (fun e => Row.ne h612 h608 (by decide) e)).trans h608
        have h628 : V615.heap[gy]? = some (.cells (Pro.c y) 28 (0, 0)) := (kV615.block gy (lt_of_block h609) (fun e => Row.ne h612 h609 (by decide) e)).trans h609
        have h629 : V615.heap[qb]? = some (.cells ((List.flatMap Pro.cl [x, y]).toArray) 28 (0, 0)) := (kV615.block qb (lt_of_block h610) (fun e => Row.ne h612 h610 (by decide) e)).trans h610
        have h630 : V615.heap[qa]? = some (.cells ((List.flatMap Att.cl [a, b]).toArray) 26 (0, 0)) := (kV615.block qa (lt_of_block h611) (fun e => Row.ne h612 h611 (by decide) e)).trans h611
        have K631 : Keeps Nob w V615 := K613.then kV615 (fun i hi hm => absurd hi (by have := (NewFrom.ptr (by have := hcgV592; omega) _ _ : NewFrom w.heap.size (.slice (some ⟨cg, 0, none⟩) l.length cc)) i hm; omega))
        have z632 := kV615.size
        refine ⟨⟨h625, h626, h627, h628⟩, ?_⟩
        refine an_o 10 <| nrq (lv) (w' := V615) (by kernel_rfl) ?_
        refine ⟨⟨h625, h626, h627, h628⟩, ?_⟩
        refine an_end (by kernel_rfl) ?_
        exact ⟨rfl, qa, qb, cg, cc, vl, lv, by kernel_rfl, h623, h624, h625, h626, h627, h628, h630, h629, h622, by omega, K631⟩
  rintro aQ V633 ⟨qa, qb, cg, cc, vl, lv, rfl, h634, h635, h636, h637, h638, h639, h640, h641, h642, hd643, K644⟩
  have z645 := lt_of_block h640
  have hls0 : SelsAt V633 lv (l ++ (selA [a, b] ++ selP [x, y])) := Row.sl h642 rfl (fun z hz => Sel.cl_len (hLr z hz))
  refine then_n <| sy_sq (qc86_0 62) (qc86_0 63) <| sy_reg <| rg_q 6 [0, 1, 2, 3, 4, 5, 6, 7, 8] <| ppq (.agg (Att.c a)) (exec_load_row 26 (.tmp 7) (by kernel_rfl) ga (by kernel_rfl) _ _ (0, 0) _ (h636) Tryz.underlying26 rfl (by rw [Att.c_size _ ha.r]; kernel_rfl)) <| ppq (.agg (Att.c b)) (exec_load_row 26 (.tmp 8) (by kernel_rfl) gb (by kernel_rfl) _ _ (0, 0) _ (h637) Tryz.underlying26 rfl (by rw [Att.c_size _ hb.r]; kernel_rfl)) ?_
  refine pcq 12 #[.agg (Att.c a), .agg (Att.c b)] Tryz.func12 ((eProve_ok a b _ ha hb).mono ?_)
  rintro e V646 ⟨rfl, kV646⟩
  refine ⟨_, rfl, ?_⟩
  have h647 := kV646.bk h635
  have h648 := kV646.bk h636
  have h649 := kV646.bk h637
  have h650 := kV646.bk h638
  have h651 := kV646.bk h639
  have h652 : SelsAt V646 lv ((l ++ (selA [a, b] ++ selP [x, y]))) := hls0.keepsN kV646
  have K653 := K644.nn kV646
  have z654 := kV646.size
  refine pkq (.tuple #[.agg (Msg.c (proves a b).1), .bool (proves a b).2]) <| pkq (.agg (Msg.c (proves a b).1)) <| pkq (.bool (proves a b).2) ?_
  obtain ⟨V655, eV655, gm, egm, h656, kV655⟩ := alloc_step V646 ((Msg.c msgZ)) 38
  have n657 : gp < gm := egm ▸ lt_of_block h647
  have n658 : ga < gm := egm ▸ lt_of_block h648
  have n659 : gb < gm := egm ▸ lt_of_block h649
  have n660 : gx < gm := egm ▸ lt_of_block h650
  have n661 : gy < gm := egm ▸ lt_of_block h651
  have n662 : w.heap.size ≤ gm := egm ▸ K653.size
  refine prq (pT gm 0) (w' := V655) (by rw [← eV655, ← egm]; exact exec_alloc0 38 (by kernel_rfl) (.agg ((Msg.c msgZ))) (by kernel_rfl)) ?_
  clear eV655
  have h663 := kV655.bk h647
  have h664 := kV655.bk h648
  have h665 := kV655.bk h649
  have h666 := kV655.bk h650
  have h667 := kV655.bk h651
  have h668 : SelsAt V655 lv ((l ++ (selA [a, b] ++ selP [x, y]))) := h652.keepsN kV655
  have K669 := K653.nn kV655
  have z670 := kV655.size
  obtain ⟨V671, eV671, kV671⟩ := rowset_step V655 gm ((Msg.c (proves a b).1))
  have h672 : V671.heap[gm]? = some (.cells (Msg.c ((proves a b).1)) 38 (0, 0)) := eV671 ▸ setRow_heap _ _ _ _ _ _ h656
  refine pzq (w' := V671) (by rw [← eV671]; exact exec_store_row 38 (.tmp 17) (.tmp 58) (by kernel_rfl) gm ((Msg.c (proves a b).1)) (by kernel_rfl) (by kernel_rfl) 38 ((Msg.c msgZ)) h656 (by rw [Msg.c_size hmR]; kernel_rfl) (by rw [Msg.c_size hmR]; exact (Msg.c_size msgZ_R).symm) (Msg.c_one _)) ?_
  clear eV671
  have h673 := kV671.bo h663 (by omega)
  have h674 := kV671.bo h664 (by omega)
  have h675 := kV671.bo h665 (by omega)
  have h676 := kV671.bo h666 (by omega)
  have h677 := kV671.bo h667 (by omega)
  have h678 : SelsAt V671 lv ((l ++ (selA [a, b] ++ selP [x, y]))) := Sl.keepsB hls0 h668 kV671 (fun j e => by first | (unfold Own.One at e; omega) | omega)
  have K679 := K669.no kV671 (by omega)
  have z680 := kV671.size
  refine pkq (.bool (proves a b).2) <| ps_end <| then_n <| sy_sq (qc86_0 126) (qc86_0 127) ?_
  refine sy_cut (fun aQ VQ => ∃ (u5_60 u5_61 u5_62 u5_63 u5_64 u5_65 u5_66 u5_67 u5_68 u5_69 u5_70 u5_71 u5_72 u5_73 : Value), (aQ = ⟨#[.agg p.cells, .agg (Att.c a), .agg (Att.c b), .agg (Pro.c x), .agg (Pro.c y), v, .pointer (some ⟨gp, 0, none⟩), .pointer (some ⟨ga, 0, none⟩), .pointer (some ⟨gb, 0, none⟩), .pointer (some ⟨gx, 0, none⟩), .pointer (some ⟨gy, 0, none⟩), ud, .bool false, .bool true, .int .i64 0, .int .i64 p.check.2, lv, .pointer (some ⟨gm, 0, none⟩), .bool (proves a b).2, ud, ud, ud, ud, ud, ud, ud, ud, ud, ud, ud, .bool true, .tuple #[.int .i64 0, .int .i64 p.check.2], .agg (p.cells), .tuple #[.int .i64 0, .int .i64 p.check.2], .int .i64 0, .int .i64 p.check.2, .int .i64 0, .bool false, .bool false, v, .int .i64 ((l.length : Nat) : Int), .bool false, .bool false, ud, v, .slice (some ⟨cg, 0, none⟩) l.length cc, .agg (Att.c a), .agg (Att.c b), .slice (some ⟨qa, 0, none⟩) 2 2, .agg (Pro.c x), .agg (Pro.c y), .slice (some ⟨qb, 0, none⟩) 2 2, vl, lv, .tuple #[.agg (Msg.c (proves a b).1), .bool (proves a b).2], .agg (Att.c a), .agg (Att.c b), .tuple #[.agg (Msg.c (proves a b).1), .bool (proves a b).2], .agg (Msg.c (proves a b).1), .bool (proves a b).2, u5_60, u5_61, u5_62, u5_63, u5_64, u5_65, u5_66, u5_67, u5_68, u5_69, u5_70, u5_71, u5_72, u5_73, .bool false, ud, ud, ud, ud, ud, ud, ud, ud, ud, ud, ud, ud, ud, ud, ud, ud, ud, ud, ud, ud, ud, ud, ud, ud, ud, ud, ud, ud, ud, ud, ud, ud, ud, ud, ud, ud, ud, ud, ud, ud, ud, ud, ud, ud, ud, ud, ud, ud, ud, ud, ud, ud, ud, ud, ud, ud, ud, ud, ud, ud, ud, ud, ud, ud, ud, ud, ud, ud, ud, ud, ud, ud, ud, ud, ud, ud, ud, ud, ud, ud, ud, ud, ud, ud, ud, ud, ud, ud, ud, ud, ud, ud, ud, ud, ud, ud, ud, ud, ud, ud], []⟩) ∧ (VQ.heap[gp]? = some (.cells p.cells 45 (0, 0))) ∧ (VQ.heap[ga]? = some (.cells (Att.c a) 26 (0, 0))) ∧ (VQ.heap[gb]? = some (.cells (Att.c b) 26 (0, 0))) ∧ (VQ.heap[gx]? = some (.cells (Pro.c x) 28 (0, 0))) ∧ (VQ.heap[gy]? = some (.cells (Pro.c y) 28 (0, 0))) ∧ (SelsAt VQ lv ((l ++ (selA [a, b] ++ selP [x, y])))) ∧ (VQ.heap[gm]? = some (.cells (Msg.c ((proves a b).1)) 38 (0, 0))) ∧ (V671.heap.size ≤ VQ.heap.size) ∧ (Keeps Nob w VQ)) ?_ ?_
  · rcases prove_split a b with ⟨hys, c0⟩ | ⟨hys, c0, c1⟩ | ⟨hys, c0, c1, c2⟩ | ⟨hys, c0, c1, c2⟩
    · skip
      refine sy_sq (qc86_0 252) (qc86_0 253) <| sy_reg <| rg_q 7 [0, 1, 2, 3, 4, 5, 6, 7, 8, 9, 10, 11, 12, 13, 14] <| ppq (.bool true) (exec_cast (congrArg Value.bool hys) (by kernel_rfl)) <| ppq (.agg (Att.c a)) (exec_load_row 26 (.tmp 7) (by kernel_rfl) ga (by kernel_rfl) _ _ (0, 0) _ (h674) Tryz.underlying26 rfl (by rw [Att.c_size _ ha.r]; kernel_rfl)) <| ppq (.agg (Att.c b)) (exec_load_row 26 (.tmp 8) (by kernel_rfl) gb (by kernel_rfl) _ _ (0, 0) _ (h675) Tryz.underlying26 rfl (by rw [Att.c_size _ hb.r]; kernel_rfl)) ?_
      refine pcq 32 #[.agg (Att.c a), .agg (Att.c b)] Tryz.func32 ((doubV _ ha hb c0).mono ?_)
      rintro e V681 ⟨rfl, kV681⟩
      refine ⟨_, rfl, ?_⟩
      have h682 := kV681.bk h673
      have h683 := kV681.bk h674
      have h684 := kV681.bk h675
      have h685 := kV681.bk h676
      have h686 := kV681.bk h677
      have h687 : SelsAt V681 lv ((l ++ (selA [a, b] ++ selP [x, y]))) := h678.keepsN kV681
      have h688 := kV681.bk h672
      have K689 := K679.nn kV681
      have z690 := kV681.size
      refine pkq (.bool true) <| pnq <| pnq <| pnq <| pkq (.bool true) <| pkq (.bool true) <| pnq <| pnq <| pnq <| pkq (.bool true) <| pkq (.bool false) <| ps_end <| then_n <| sy_n (.tmp 74) (qc86_0 506) (qc86_0 507) ?_
      refine sy_sk ?_
      exact ⟨rfl, .bool true, .agg (Att.c a), .agg (Att.c b), .bool true, .bool true, undef, undef, undef, .bool true, .bool true, undef, undef, undef, .bool true, by kernel_rfl, h682, h683, h684, h685, h686, h687, h688, by omega, K689⟩
    · skip
      refine sy_sq (qc86_0 252) (qc86_0 253) <| sy_reg <| rg_q 7 [0, 1, 2, 3, 4, 5, 6, 7, 8, 9, 10, 11, 12, 13, 14] <| ppq (.bool true) (exec_cast (congrArg Value.bool hys) (by kernel_rfl)) <| ppq (.agg (Att.c a)) (exec_load_row 26 (.tmp 7) (by kernel_rfl) ga (by kernel_rfl) _ _ (0, 0) _ (h674) Tryz.underlying26 rfl (by rw [Att.c_size _ ha.r]; kernel_rfl)) <| ppq (.agg (Att.c b)) (exec_load_row 26 (.tmp 8) (by kernel_rfl) gb (by kernel_rfl) _ _ (0, 0) _ (h675) Tryz.underlying26 rfl (by rw [Att.c_size _ hb.r]; kernel_rfl)) ?_
      refine pcq 32 #[.agg (Att.c a), .agg (Att.c b)] Tryz.func32 ((doubV _ ha hb c0).mono ?_)
      rintro e V691 ⟨rfl, kV691⟩
      refine ⟨_, rfl, ?_⟩
      have h692 := kV691.bk h673
      have h693 := kV691.bk h674
      have h694 := kV691.bk h675
      have h695 := kV691.bk h676
      have h696 := kV691.bk h677
      have h697 : SelsAt V691 lv ((l ++ (selA [a, b] ++ selP [x, y]))) := h678.keepsN kV691
      have h698 := kV691.bk h672
      have K699 := K679.nn kV691
      have z700 := kV691.size
      refine pkq (.bool false) <| ppq (.agg (Att.c a)) (exec_load_row 26 (.tmp 7) (by kernel_rfl) ga (by kernel_rfl) _ _ (0, 0) _ (h693) Tryz.underlying26 rfl (by rw [Att.c_size _ ha.r]; kernel_rfl)) <| ppq (.agg (Att.c b)) (exec_load_row 26 (.tmp 8) (by kernel_rfl) gb (by kernel_rfl) _ _ (0, 0) _ (h694) Tryz.underlying26 rfl (by rw [Att.c_size _ hb.r]; kernel_rfl)) ?_
      refine pcq 33 #[.agg (Att.c a), .agg (Att.c b)] Tryz.func33 ((surrV _ ha hb c1).mono ?_)
      rintro e V701 ⟨rfl, kV701⟩
      refine ⟨_, rfl, ?_⟩
      have h702 := kV701.bk h692
      have h703 := kV701.bk h693
      have h704 := kV701.bk h694
      have h705 := kV701.bk h695
      have h706 := kV701.bk h696
      have h707 : SelsAt V701 lv ((l ++ (selA [a, b] ++ selP [x, y]))) := h697.keepsN kV701
      have h708 := kV701.bk h698
      have K709 := K699.nn kV701
      have z710 := kV701.size
      refine pkq (.bool true) <| pkq (.bool true) <| pnq <| pnq <| pnq <| pkq (.bool true) <| pkq (.bool false) <| ps_end <| then_n <| sy_n (.tmp 74) (qc86_0 506) (qc86_0 507) <| sy_sk ?_
      exact ⟨rfl, .bool true, .agg (Att.c a), .agg (Att.c b), .bool false, .bool false, .agg (Att.c a), .agg (Att.c b), .bool true, .bool true, .bool true, undef, undef, undef, .bool true, by kernel_rfl, h702, h703, h704, h705, h706, h707, h708, by omega, K709⟩
    · skip
      refine sy_sq (qc86_0 252) (qc86_0 253) <| sy_reg <| rg_q 7 [0, 1, 2, 3, 4, 5, 6, 7, 8, 9, 10, 11, 12, 13, 14] <| ppq (.bool true) (exec_cast (congrArg Value.bool hys) (by kernel_rfl)) <| ppq (.agg (Att.c a)) (exec_load_row 26 (.tmp 7) (by kernel_rfl) ga (by kernel_rfl) _ _ (0, 0) _ (h674) Tryz.underlying26 rfl (by rw [Att.c_size _ ha.r]; kernel_rfl)) <| ppq (.agg (Att.c b)) (exec_load_row 26 (.tmp 8) (by kernel_rfl) gb (by kernel_rfl) _ _ (0, 0) _ (h675) Tryz.underlying26 rfl (by rw [Att.c_size _ hb.r]; kernel_rfl)) ?_
      refine pcq 32 #[.agg (Att.c a), .agg (Att.c b)] Tryz.func32 ((doubV _ ha hb c0).mono ?_)
      rintro e V711 ⟨rfl, kV711⟩
      refine ⟨_, rfl, ?_⟩
      have h712 := kV711.bk h673
      have h713 := kV711.bk h674
      have h714 := kV711.bk h675
      have h715 := kV711.bk h676
      have h716 := kV711.bk h677
      have h717 : SelsAt V711 lv ((l ++ (selA [a, b] ++ selP [x, y]))) := h678.keepsN kV711
      have h718 := kV711.bk h672
      have K719 := K679.nn kV711
      have z720 := kV711.size
      refine pkq (.bool false) <| ppq (.agg (Att.c a)) (exec_load_row 26 (.tmp 7) (by kernel_rfl) ga (by kernel_rfl) _ _ (0, 0) _ (h713) Tryz.underlying26 rfl (by rw [Att.c_size _ ha.r]; kernel_rfl)) <| ppq (.agg (Att.c b)) (exec_load_row 26 (.tmp 8) (by kernel_rfl) gb (by kernel_rfl) _ _ (0, 0) _ (h714) Tryz.underlying26 rfl (by rw [Att.c_size _ hb.r]; kernel_rfl)) ?_
      refine pcq 33 #[.agg (Att.c a), .agg (Att.c b)] Tryz.func33 ((surrV _ ha hb c1).mono ?_)
      rintro e V721 ⟨rfl, kV721⟩
      refine ⟨_, rfl, ?_⟩
      have h722 := kV721.bk h712
      have h723 := kV721.bk h713
      have h724 := kV721.bk h714
      have h725 := kV721.bk h715
      have h726 := kV721.bk h716
      have h727 : SelsAt V721 lv ((l ++ (selA [a, b] ++ selP [x, y]))) := h717.keepsN kV721
      have h728 := kV721.bk h718
      have K729 := K719.nn kV721
      have z730 := kV721.size
      refine pkq (.bool false) <| pkq (.bool false) <| ppq (.agg (Att.c b)) (exec_load_row 26 (.tmp 8) (by kernel_rfl) gb (by kernel_rfl) _ _ (0, 0) _ (h724) Tryz.underlying26 rfl (by rw [Att.c_size _ hb.r]; kernel_rfl)) <| ppq (.agg (Att.c a)) (exec_load_row 26 (.tmp 7) (by kernel_rfl) ga (by kernel_rfl) _ _ (0, 0) _ (h723) Tryz.underlying26 rfl (by rw [Att.c_size _ ha.r]; kernel_rfl)) ?_
      refine pcq 33 #[.agg (Att.c b), .agg (Att.c a)] Tryz.func33 ((surrV _ hb ha c2).mono ?_)
      rintro e V731 ⟨rfl, kV731⟩
      refine ⟨_, rfl, ?_⟩
      have h732 := kV731.bk h722
      have h733 := kV731.bk h723
      have h734 := kV731.bk h724
      have h735 := kV731.bk h725
      have h736 := kV731.bk h726
      have h737 : SelsAt V731 lv ((l ++ (selA [a, b] ++ selP [x, y]))) := h727.keepsN kV731
      have h738 := kV731.bk h728
      have K739 := K729.nn kV731
      have z740 := kV731.size
      refine pkq (.bool true) <| pkq (.bool false) <| ps_end <| then_n <| sy_n (.tmp 74) (qc86_0 506) (qc86_0 507) <| sy_sk ?_
      exact ⟨rfl, .bool true, .agg (Att.c a), .agg (Att.c b), .bool false, .bool false, .agg (Att.c a), .agg (Att.c b), .bool false, .bool false, .bool false, .agg (Att.c b), .agg (Att.c a), .bool true, .bool true, by kernel_rfl, h732, h733, h734, h735, h736, h737, h738, by omega, K739⟩
    · skip
      refine sy_sq (qc86_0 252) (qc86_0 253) <| sy_reg <| rg_q 7 [0, 1, 2, 3, 4, 5, 6, 7, 8, 9, 10, 11, 12, 13, 14] <| ppq (.bool false) (exec_cast (congrArg Value.bool hys) (by kernel_rfl)) <| ppq (.agg (Att.c a)) (exec_load_row 26 (.tmp 7) (by kernel_rfl) ga (by kernel_rfl) _ _ (0, 0) _ (h674) Tryz.underlying26 rfl (by rw [Att.c_size _ ha.r]; kernel_rfl)) <| ppq (.agg (Att.c b)) (exec_load_row 26 (.tmp 8) (by kernel_rfl) gb (by kernel_rfl) _ _ (0, 0) _ (h675) Tryz.underlying26 rfl (by rw [Att.c_size _ hb.r]; kernel_rfl)) ?_
      refine pcq 32 #[.agg (Att.c a), .agg (Att.c b)] Tryz.func32 ((doubV _ ha hb c0).mono ?_)
      rintro e V741 ⟨rfl, kV741⟩
      refine ⟨_, rfl, ?_⟩
      have h742 := kV741.bk h673
      have h743 := kV741.bk h674
      have h744 := kV741.bk h675
      have h745 := kV741.bk h676
      have h746 := kV741.bk h677
      have h747 : SelsAt V741 lv ((l ++ (selA [a, b] ++ selP [x, y]))) := h678.keepsN kV741
      have h748 := kV741.bk h672
      have K749 := K679.nn kV741
      have z750 := kV741.size
      refine pkq (.bool false) <| ppq (.agg (Att.c a)) (exec_load_row 26 (.tmp 7) (by kernel_rfl) ga (by kernel_rfl) _ _ (0, 0) _ (h743) Tryz.underlying26 rfl (by rw [Att.c_size _ ha.r]; kernel_rfl)) <| ppq (.agg (Att.c b)) (exec_load_row 26 (.tmp 8) (by kernel_rfl) gb (by kernel_rfl) _ _ (0, 0) _ (h744) Tryz.underlying26 rfl (by rw [Att.c_size _ hb.r]; kernel_rfl)) ?_
      refine pcq 33 #[.agg (Att.c a), .agg (Att.c b)] Tryz.func33 ((surrV _ ha hb c1).mono ?_)
      rintro e V751 ⟨rfl, kV751⟩
      refine ⟨_, rfl, ?_⟩
      have h752 := kV751.bk h742
      have h753 := kV751.bk h743
      have h754 := kV751.bk h744
      have h755 := kV751.bk h745
      have h756 := kV751.bk h746
      have h757 : SelsAt V751 lv ((l ++ (selA [a, b] ++ selP [x, y]))) := h747.keepsN kV751
      have h758 := kV751.bk h748
      have K759 := K749.nn kV751
      have z760 := kV751.size
      refine pkq (.bool false) <| pkq (.bool false) <| ppq (.agg (Att.c b)) (exec_load_row 26 (.tmp 8) (by kernel_rfl) gb (by kernel_rfl) _ _ (0, 0) _ (h754) Tryz.underlying26 rfl (by rw [Att.c_size _ hb.r]; kernel_rfl)) <| ppq (.agg (Att.c a)) (exec_load_row 26 (.tmp 7) (by kernel_rfl) ga (by kernel_rfl) _ _ (0, 0) _ (h753) Tryz.underlying26 rfl (by rw [Att.c_size _ ha.r]; kernel_rfl)) ?_
      refine pcq 33 #[.agg (Att.c b), .agg (Att.c a)] Tryz.func33 ((surrV _ hb ha c2).mono ?_)
      rintro e V761 ⟨rfl, kV761⟩
      refine ⟨_, rfl, ?_⟩
      have h762 := kV761.bk h752
      have h763 := kV761.bk h753
      have h764 := kV761.bk h754
      have h765 := kV761.bk h755
      have h766 := kV761.bk h756
      have h767 : SelsAt V761 lv ((l ++ (selA [a, b] ++ selP [x, y]))) := h757.keepsN kV761
      have h768 := kV761.bk h758
      have K769 := K759.nn kV761
      have z770 := kV761.size
      refine pkq (.bool false) <| pkq (.bool false) <| ps_end <| then_n <| sy_n (.tmp 74) (qc86_0 506) (qc86_0 507) <| sy_sk ?_
      exact ⟨rfl, .bool false, .agg (Att.c a), .agg (Att.c b), .bool false, .bool false, .agg (Att.c a), .agg (Att.c b), .bool false, .bool false, .bool false, .agg (Att.c b), .agg (Att.c a), .bool false, .bool false, by kernel_rfl, h762, h763, h764, h765, h766, h767, h768, by omega, K769⟩
  rintro aQ V771 ⟨u5_60, u5_61, u5_62, u5_63, u5_64, u5_65, u5_66, u5_67, u5_68, u5_69, u5_70, u5_71, u5_72, u5_73, rfl, h772, h773, h774, h775, h776, h777, h778, z779, K780⟩
  refine then_n <| sy_sq (qc86_0 254) (qc86_0 255) <| sy_sq (qc86_0 508) (qc86_0 509) <| sy_reg <| rg_q 9 [0, 1, 2, 3, 4, 5, 6, 7, 8, 9, 10, 11] <| ppq (.agg (p.cells)) (exec_load_row 45 (.tmp 6) (by kernel_rfl) gp (by kernel_rfl) _ _ (0, 0) _ (h772) Tryz.underlying45 rfl (by kernel_rfl)) <| pkq (pT ga 2) <| ppq (.int .i64 a.t) (exec_ld 3 (.tmp 77) ga 2 Tryz.underlying3 (rc (h773) (Att.c_2 _))) <| pkq (pT gb 2) <| ppq (.int .i64 b.t) (exec_ld 3 (.tmp 79) gb 2 Tryz.underlying3 (rc (h774) (Att.c_2 _))) <| ppq (.int .i64 (max a.t b.t)) (exec_max (.tmp 78) (.tmp 80) #[3, 3] (by kernel_rfl) .i64 a.t b.t (by kernel_rfl) (by kernel_rfl)) ?_
  refine pcq 34 #[.agg (p.cells), .int .i64 (max a.t b.t)] Tryz.func34 ((pFirst_ok p hp (max a.t b.t) hmx _).mono ?_)
  rintro e V781 ⟨rfl, kV781⟩
  refine ⟨_, rfl, ?_⟩
  have h782 := kV781.bk h772
  have h783 := kV781.bk h773
  have h784 := kV781.bk h774
  have h785 := kV781.bk h775
  have h786 := kV781.bk h776
  have h787 : SelsAt V781 lv ((l ++ (selA [a, b] ++ selP [x, y]))) := h777.keepsN kV781
  have h788 := kV781.bk h778
  have K789 := K780.nn kV781
  have z790 := kV781.size
  refine pkq (.tuple #[.int .i64 (p.first (max a.t b.t)).1, .int .i64 (p.first (max a.t b.t)).2]) <| pkq (.int .i64 (p.first (max a.t b.t)).1) <| pkq (.int .i64 (p.first (max a.t b.t)).2) <| pkq (.int .i64 (p.first (max a.t b.t)).1) <| pkq (.int .i64 (p.first (max a.t b.t)).2) <| ps_end <| then_n ?_
  refine sy_cut (fun aQ VQ => ∃ (uu7_ : Nat → Value), (aQ = ⟨#[.agg p.cells, .agg (Att.c a), .agg (Att.c b), .agg (Pro.c x), .agg (Pro.c y), v, .pointer (some ⟨gp, 0, none⟩), .pointer (some ⟨ga, 0, none⟩), .pointer (some ⟨gb, 0, none⟩), .pointer (some ⟨gx, 0, none⟩), .pointer (some ⟨gy, 0, none⟩), ud, .bool false, .bool true, .int .i64 0, .int .i64 p.check.2, lv, .pointer (some ⟨gm, 0, none⟩), .bool (proves a b).2, .int .i64 (p.first (max a.t b.t)).1, .int .i64 (p.first (max a.t b.t)).2, uu7_ 0, uu7_ 1, uu7_ 2, uu7_ 3, uu7_ 4, ud, ud, ud, ud, .bool true, .tuple #[.int .i64 0, .int .i64 p.check.2], .agg (p.cells), .tuple #[.int .i64 0, .int .i64 p.check.2], .int .i64 0, .int .i64 p.check.2, .int .i64 0, .bool false, .bool false, v, .int .i64 ((l.length : Nat) : Int), .bool false, .bool false, ud, v, .slice (some ⟨cg, 0, none⟩) l.length cc, .agg (Att.c a), .agg (Att.c b), .slice (some ⟨qa, 0, none⟩) 2 2, .agg (Pro.c x), .agg (Pro.c y), .slice (some ⟨qb, 0, none⟩) 2 2, vl, lv, .tuple #[.agg (Msg.c (proves a b).1), .bool (proves a b).2], .agg (Att.c a), .agg (Att.c b), .tuple #[.agg (Msg.c (proves a b).1), .bool (proves a b).2], .agg (Msg.c (proves a b).1), .bool (proves a b).2, u5_60, u5_61, u5_62, u5_63, u5_64, u5_65, u5_66, u5_67, u5_68, u5_69, u5_70, u5_71, u5_72, u5_73, .bool false, .tuple #[.int .i64 (p.first (max a.t b.t)).1, .int .i64 (p.first (max a.t b.t)).2], .agg (p.cells), .pointer (some ⟨ga, 2, none⟩), .int .i64 a.t, .pointer (some ⟨gb, 2, none⟩), .int .i64 b.t, .int .i64 (max a.t b.t), .tuple #[.int .i64 (p.first (max a.t b.t)).1, .int .i64 (p.first (max a.t b.t)).2], .int .i64 (p.first (max a.t b.t)).1, .int .i64 (p.first (max a.t b.t)).2, uu7_ 5, uu7_ 6, uu7_ 7, uu7_ 8, uu7_ 9, uu7_ 10, uu7_ 11, uu7_ 12, uu7_ 13, uu7_ 14, uu7_ 15, uu7_ 16, uu7_ 17, uu7_ 18, uu7_ 19, uu7_ 20, uu7_ 21, uu7_ 22, uu7_ 23, uu7_ 24, uu7_ 25, uu7_ 26, uu7_ 27, uu7_ 28, uu7_ 29, uu7_ 30, uu7_ 31, uu7_ 32, uu7_ 33, uu7_ 34, uu7_ 35, uu7_ 36, uu7_ 37, uu7_ 38, uu7_ 39, uu7_ 40, uu7_ 41, uu7_ 42, uu7_ 43, uu7_ 44, uu7_ 45, uu7_ 46, uu7_ 47, uu7_ 48, uu7_ 49, uu7_ 50, uu7_ 51, uu7_ 52, uu7_ 53, uu7_ 54, uu7_ 55, uu7_ 56, uu7_ 57, uu7_ 58, uu7_ 59, uu7_ 60, ud, ud, ud, ud, ud, ud, ud, ud, ud, ud, ud, ud, ud, ud, ud, ud, ud, ud, ud, ud, ud, ud, ud, ud, ud, ud, ud, ud, ud, ud, ud, ud, ud, ud], []⟩) ∧ (VQ.heap[gp]? = some (.cells p.cells 45 (0, 0))) ∧ (VQ.heap[ga]? = some (.cells (Att.c a) 26 (0, 0))) ∧ (VQ.heap[gb]? = some (.cells (Att.c b) 26 (0, 0))) ∧ (VQ.heap[gx]? = some (.cells (Pro.c x) 28 (0, 0))) ∧ (VQ.heap[gy]? = some (.cells (Pro.c y) 28 (0, 0))) ∧ (SelsAt VQ lv ((l ++ (selA [a, b] ++ selP [x, y])))) ∧ (V781.heap.size ≤ VQ.heap.size) ∧ (Keeps Nob w VQ)) ?_ ?_
  · rcases whole_split (p := p) (a := a) (b := b) (L := (l ++ (selA [a, b] ++ selP [x, y]))) hc hsa hsb with ⟨he, hys, hpf, hfa, hj1, hj2⟩ | ⟨he, hys, hpf, hfa, hj1, hj2⟩ | ⟨hys, _⟩ | ⟨hys, he⟩
    · obtain ⟨fa1, fa2, _⟩ := hfa
      refine sy_sq (qc86_0 1018) (qc86_0 1019) <| sy_reg <| rg_q 10 [0, 1, 2, 3, 4] <| ppq (.bool true) (exec_cast (congrArg Value.bool hys) (by kernel_rfl)) <| pkq (.bool true) <| pkq (.int .i64 (p.first (max a.t b.t)).2) <| ppq (.bool true) (eqt (((p.first (max a.t b.t)).2) : Int) ((0) : Int) (by omega)) <| pkq (.bool true) <| ps_end <| then_n <| sy_ys (.tmp 89) (qc86_0 2038) (qc86_0 2039) <| sy_sq (qc86_0 4076) (qc86_0 4077) <| sy_reg <| rg_q 11 [0, 1, 2, 3, 4, 5, 6, 7, 8, 9, 10, 11, 12] ?_
      refine ppq (.agg (p.cells)) (exec_load_row 45 (.tmp 6) (by kernel_rfl) gp (by kernel_rfl) _ _ (0, 0) _ (h782) Tryz.underlying45 rfl (by kernel_rfl)) <| pkq (lv) <| pkq (pT ga 0) <| ppq (.int .i64 a.v) (exec_ld 3 (.tmp 93) ga 0 Tryz.underlying3 (rc (h783) (Att.c_0 _))) <| ppq (.int .i64 (a.v + 1)) (exec_cast (congrArg (Value.int .i64) (wrapI (a.v + 1) (a.v + 1) rfl (by omega) (by omega))) (by kernel_rfl)) <| ppq (.agg (Msg.c ((proves a b).1))) (exec_load_row 38 (.tmp 17) (by kernel_rfl) gm (by kernel_rfl) _ _ (0, 0) _ (h788) Tryz.underlying38 rfl (by rw [Msg.c_size hmR]; kernel_rfl)) ?_
      refine pcq 20 #[.agg (p.cells), lv, .int .i64 (a.v + 1), .agg (Msg.c ((proves a b).1))] Tryz.func20 ((eJudge_is _ hp hmO h787 hLr hj1).mono ?_)
      rintro e V791 ⟨rfl, kV791⟩
      refine ⟨_, rfl, ?_⟩
      have h792 := kV791.bk h782
      have h793 := kV791.bk h783
      have h794 := kV791.bk h784
      have h795 := kV791.bk h785
      have h796 := kV791.bk h786
      have h797 : SelsAt V791 lv ((l ++ (selA [a, b] ++ selP [x, y]))) := h787.keepsN kV791
      have h798 := kV791.bk h788
      have K799 := K789.nn kV791
      have z800 := kV791.size
      refine pkq (.tuple #[.agg (Off.cs ⟨a.v, 1, (p.first (max a.t b.t)).1⟩), .int .i64 0]) <| pkq (.agg (Off.cs ⟨a.v, 1, (p.first (max a.t b.t)).1⟩)) <| pkq (.int .i64 0) ?_
      obtain ⟨V801, eV801, q1, eq1, h802, kV801⟩ := alloc_step V791 (#[.int .i64 0, .int .i64 0, .int .i64 0]) 49
      have n803 : gp < q1 := eq1 ▸ lt_of_block h792
      have n804 : ga < q1 := eq1 ▸ lt_of_block h793
      have n805 : gb < q1 := eq1 ▸ lt_of_block h794
      have n806 : gx < q1 := eq1 ▸ lt_of_block h795
      have n807 : gy < q1 := eq1 ▸ lt_of_block h796
      have n808 : gm < q1 := eq1 ▸ lt_of_block h798
      have n809 : w.heap.size ≤ q1 := eq1 ▸ K799.size
      refine prq (pT q1 0) (w' := V801) (by rw [← eV801, ← eq1]; exact exec_alloc0 49 (by kernel_rfl) (.agg (#[.int .i64 0, .int .i64 0, .int .i64 0])) (by kernel_rfl)) ?_
      clear eV801
      have h810 := kV801.bk h792
      have h811 := kV801.bk h793
      have h812 := kV801.bk h794
      have h813 := kV801.bk h795
      have h814 := kV801.bk h796
      have h815 : SelsAt V801 lv ((l ++ (selA [a, b] ++ selP [x, y]))) := h797.keepsN kV801
      have h816 := kV801.bk h798
      have K817 := K799.nn kV801
      have z818 := kV801.size
      obtain ⟨V819, eV819, kV819⟩ := rowset_step V801 q1 ((Off.cs ⟨a.v, 1, (p.first (max a.t b.t)).1⟩))
      have h820 : V819.heap[q1]? = some (.cells (Off.cs ⟨a.v, 1, (p.first (max a.t b.t)).1⟩) 49 (0, 0)) := eV819 ▸ setRow_heap _ _ _ _ _ _ h802
      refine pzq (w' := V819) (by rw [← eV819]; exact exec_store_row 49 (.tmp 21) (.tmp 98) (by kernel_rfl) q1 ((Off.cs ⟨a.v, 1, (p.first (max a.t b.t)).1⟩)) (by kernel_rfl) (by kernel_rfl) 49 (#[.int .i64 0, .int .i64 0, .int .i64 0]) h802 (by kernel_rfl) rfl (by kernel_rfl)) ?_
      clear eV819
      have h821 := kV819.bo h810 (by omega)
      have h822 := kV819.bo h811 (by omega)
      have h823 := kV819.bo h812 (by omega)
      have h824 := kV819.bo h813 (by omega)
      have h825 := kV819.bo h814 (by omega)
      have h826 : SelsAt V819 lv ((l ++ (selA [a, b] ++ selP [x, y]))) := Sl.keepsB hls0 h815 kV819 (fun j e => by first | (unfold Own.One at e; omega) | omega)
      have h827 := kV819.bo h816 (by omega)
      have K828 := K817.no kV819 (by omega)
      have z829 := kV819.size
      refine pkq (.int .i64 0) <| ps_end <| then_n <| sy_sq (qc86_0 8154) (qc86_0 8155) <| sy_reg <| rg_q 12 [0, 1, 2, 3, 4, 5, 6, 7] <| pkq (pT gm 48) <| ppq (.agg (Att.c ((proves a b).1).b)) (exec_load_seg 26 (.tmp 100) (by kernel_rfl) gm 48 (by kernel_rfl) (Att.c ((proves a b).1).b).toList _ _ _ h827 (Msg.seg_B hmR) Tryz.underlying26 rfl (by rw [Att.tl hmR.b]; kernel_rfl)) <| pkq (pT gm 12) <| ppq (.agg (Att.c ((proves a b).1).a)) (exec_load_seg 26 (.tmp 102) (by kernel_rfl) gm 12 (by kernel_rfl) (Att.c ((proves a b).1).a).toList _ _ _ h827 (Msg.seg_A hmR) Tryz.underlying26 rfl (by rw [Att.tl hmR.a]; kernel_rfl)) <| pkq (pT gm 12) ?_
      obtain ⟨V830, eV830⟩ : ∃ V, V819.setCells gm 12 (Att.c ((proves a b).1.b)).toList = V := ⟨_, rfl⟩
      have kV830 : Keeps (One gm) V819 V830 := eV830 ▸ Keeps.setCells _ _ _ _
      have h831 : V830.heap[gm]? = some (.cells (Msg.c (putA ((proves a b).1) ((proves a b).1.b))) 38 (0, 0)) := eV830 ▸ (heap_setCells gm _ _ 12 _ _ h827 (show 12 + (Att.c ((proves a b).1.b)).toList.length ≤ _ by rw [(show (Att.c ((proves a b).1.b)).toList.length = 36 from Att.tl hmR.b), Msg.c_size hmR]; decide)).trans (congrArg (fun c => some (Obj.cells c 38 (0, 0))) (Msg.set_A hmR _ hmR.b))
      refine pzq (w' := V830) (by rw [← eV830]; exact exec_store_mid 26 (.tmp 104) (.tmp 101) (by kernel_rfl) gm 12 (by kernel_rfl) (Att.c ((proves a b).1.b)) (by kernel_rfl) _ _ h827 (show 12 + (Att.c ((proves a b).1.b)).toList.length ≤ _ by rw [(show (Att.c ((proves a b).1.b)).toList.length = 36 from Att.tl hmR.b), Msg.c_size hmR]; decide) (by rw [Att.c_size _ hmR.b]; kernel_rfl) (Att.c_one _)) ?_
      clear eV830
      have h832 := kV830.bo h821 (by omega)
      have h833 := kV830.bo h822 (by omega)
      have h834 := kV830.bo h823 (by omega)
      have h835 := kV830.bo h824 (by omega)
      have h836 := kV830.bo h825 (by omega)
      have h837 : SelsAt V830 lv ((l ++ (selA [a, b] ++ selP [x, y]))) := Sl.keepsB hls0 h826 kV830 (fun j e => by first | (unfold Own.One at e; omega) | omega)
      have h838 := kV830.bo h820 (by omega)
      have K839 := K828.no kV830 (by omega)
      have z840 := kV830.size
      refine pkq (pT gm 48) ?_
      obtain ⟨V841, eV841⟩ : ∃ V, V830.setCells gm 48 (Att.c ((proves a b).1.a)).toList = V := ⟨_, rfl⟩
      have kV841 : Keeps (One gm) V830 V841 := eV841 ▸ Keeps.setCells _ _ _ _
      have h842 : V841.heap[gm]? = some (.cells (Msg.c (putB (putA ((proves a b).1) ((proves a b).1.b)) ((proves a b).1.a))) 38 (0, 0)) := eV841 ▸ (heap_setCells gm _ _ 48 _ _ h831 (show 48 + (Att.c ((proves a b).1.a)).toList.length ≤ _ by rw [(show (Att.c ((proves a b).1.a)).toList.length = 36 from Att.tl hmR.a), Msg.c_size (putA_R hmR hmR.b)]; decide)).trans (congrArg (fun c => some (Obj.cells c 38 (0, 0))) (Msg.set_B (putA_R hmR hmR.b) _ hmR.a))
      refine pzq (w' := V841) (by rw [← eV841]; exact exec_store_mid 26 (.tmp 105) (.tmp 103) (by kernel_rfl) gm 48 (by kernel_rfl) (Att.c ((proves a b).1.a)) (by kernel_rfl) _ _ h831 (show 48 + (Att.c ((proves a b).1.a)).toList.length ≤ _ by rw [(show (Att.c ((proves a b).1.a)).toList.length = 36 from Att.tl hmR.a), Msg.c_size (putA_R hmR hmR.b)]; decide) (by rw [Att.c_size _ hmR.a]; kernel_rfl) (Att.c_one _)) ?_
      clear eV841
      have h843 := kV841.bo h832 (by omega)
      have h844 := kV841.bo h833 (by omega)
      have h845 := kV841.bo h834 (by omega)
      have h846 := kV841.bo h835 (by omega)
      have h847 := kV841.bo h836 (by omega)
      have h848 : SelsAt V841 lv ((l ++ (selA [a, b] ++ selP [x, y]))) := Sl.keepsB hls0 h837 kV841 (fun j e => by first | (unfold Own.One at e; omega) | omega)
      have h849 := kV841.bo h838 (by omega)
      have K850 := K839.no kV841 (by omega)
      have z851 := kV841.size
      refine ps_end <| sy_a ⟨#[.agg p.cells, .agg (Att.c a), .agg (Att.c b), .agg (Pro.c x), .agg (Pro.c y), v, pT gp 0, pT ga 0, pT gb 0, pT gx 0, pT gy 0, ud, .bool false, .bool true, .int .i64 0, .int .i64 p.check.2, lv, pT gm 0, .bool (proves a b).2, .int .i64 (p.first (max a.t b.t)).1, .int .i64 (p.first (max a.t b.t)).2, pT q1 0, .int .i64 0, ud, ud, ud, ud, ud, ud, ud, .bool true, .tuple #[.int .i64 0, .int .i64 p.check.2], .agg (p.cells), .tuple #[.int .i64 0, .int .i64 p.check.2], .int .i64 0, .int .i64 p.check.2, .int .i64 0, .bool false, .bool false, v, iN l.length, .bool false, .bool false, ud, v, .slice (some ⟨cg, 0, none⟩) l.length cc, .agg (Att.c a), .agg (Att.c b), .slice (some ⟨qa, 0, none⟩) 2 2, .agg (Pro.c x), .agg (Pro.c y), .slice (some ⟨qb, 0, none⟩) 2 2, vl, lv, .tuple #[.agg (Msg.c (proves a b).1), .bool (proves a b).2], .agg (Att.c a), .agg (Att.c b), .tuple #[.agg (Msg.c (proves a b).1), .bool (proves a b).2], .agg (Msg.c (proves a b).1), .bool (proves a b).2, u5_60, u5_61, u5_62, u5_63, u5_64, u5_65, u5_66, u5_67, u5_68, u5_69, u5_70, u5_71, u5_72, u5_73, .bool false, .tuple #[.int .i64 (p.first (max a.t b.t)).1, .int .i64 (p.first (max a.t b.t)).2], .agg (p.cells), pT ga 2, .int .i64 a.t, pT gb 2, .int .i64 b.t, .int .i64 (max a.t b.t), .tuple #[.int .i64 (p.first (max a.t b.t)).1, .int .i64 (p.first (max a.t b.t)).2], .int .i64 (p.first (max a.t b.t)).1, .int .i64 (p.first (max a.t b.t)).2, .bool true, .bool true, .int .i64 (p.first (max a.t b.t)).2, .bool true, .bool true, .tuple #[.agg (Off.cs ⟨a.v, 1, (p.first (max a.t b.t)).1⟩), .int .i64 0], .agg (p.cells), lv, pT ga 0, .int .i64 a.v, .int .i64 (a.v + 1), .agg (Msg.c ((proves a b).1)), .tuple #[.agg (Off.cs ⟨a.v, 1, (p.first (max a.t b.t)).1⟩), .int .i64 0], .agg (Off.cs ⟨a.v, 1, (p.first (max a.t b.t)).1⟩), .int .i64 0, pT gm 48, .agg (Att.c ((proves a b).1).b), pT gm 12, .agg (Att.c ((proves a b).1).a), pT gm 12, pT gm 48, ud, ud, ud, ud, ud, ud, ud, ud, ud, ud, ud, ud, ud, ud, ud, ud, ud, ud, ud, ud, ud, ud, ud, ud, ud, ud, ud, ud, ud, ud, ud, ud, ud, ud, ud, ud, ud, ud, ud, ud, ud, ud, ud, ud, ud, ud, ud, ud, ud, ud, ud, ud, ud, ud, ud, ud, ud, ud, ud, ud, ud, ud, ud, ud, ud, ud, ud, ud, ud], []⟩ <| then_n <| sy_sq (qc86_0 16310) (qc86_0 16311) <| sy_reg <| rg_q 13 [0, 1, 2, 3, 4, 5, 6, 7, 8, 9, 10, 11, 12] <| ppq (.agg (p.cells)) (exec_load_row 45 (.tmp 6) (by kernel_rfl) gp (by kernel_rfl) _ _ (0, 0) _ (h843) Tryz.underlying45 rfl (by kernel_rfl)) <| pkq (lv) <| pkq (pT ga 0) <| ppq (.int .i64 a.v) (exec_ld 3 (.tmp 109) ga 0 Tryz.underlying3 (rc (h844) (Att.c_0 _))) <| ppq (.int .i64 (a.v + 1)) (exec_cast (congrArg (Value.int .i64) (wrapI (a.v + 1) (a.v + 1) rfl (by omega) (by omega))) (by kernel_rfl)) <| ppq (.agg (Msg.c (putB (putA ((proves a b).1) ((proves a b).1.b)) ((proves a b).1.a)))) (exec_load_row 38 (.tmp 17) (by kernel_rfl) gm (by kernel_rfl) _ _ (0, 0) _ (h842) Tryz.underlying38 rfl (by rw [Msg.c_size (putB_R (putA_R hmR hmR.b) hmR.a)]; kernel_rfl)) ?_
      refine pcq 20 #[.agg (p.cells), lv, .int .i64 (a.v + 1), .agg (Msg.c (putB (putA ((proves a b).1) ((proves a b).1.b)) ((proves a b).1.a)))] Tryz.func20 ((eJudge_is _ hp (swp_Ok hmO) h848 hLr hj2).mono ?_)
      rintro e V852 ⟨rfl, kV852⟩
      refine ⟨_, rfl, ?_⟩
      have h853 := kV852.bk h843
      have h854 := kV852.bk h844
      have h855 := kV852.bk h845
      have h856 := kV852.bk h846
      have h857 := kV852.bk h847
      have h858 : SelsAt V852 lv ((l ++ (selA [a, b] ++ selP [x, y]))) := h848.keepsN kV852
      have h859 := kV852.bk h849
      have h860 := kV852.bk h842
      have K861 := K850.nn kV852
      have z862 := kV852.size
      refine pkq (.tuple #[.agg (Off.cs ⟨a.v, 1, (p.first (max a.t b.t)).1⟩), .int .i64 0]) <| pkq (.agg (Off.cs ⟨a.v, 1, (p.first (max a.t b.t)).1⟩)) <| pkq (.int .i64 0) ?_
      obtain ⟨V863, eV863, q2, eq2, h864, kV863⟩ := alloc_step V852 (#[.int .i64 0, .int .i64 0, .int .i64 0]) 49
      have n865 : gp < q2 := eq2 ▸ lt_of_block h853
      have n866 : ga < q2 := eq2 ▸ lt_of_block h854
      have n867 : gb < q2 := eq2 ▸ lt_of_block h855
      have n868 : gx < q2 := eq2 ▸ lt_of_block h856
      have n869 : gy < q2 := eq2 ▸ lt_of_block h857
      have n870 : q1 < q2 := eq2 ▸ lt_of_block h859
      have n871 : gm < q2 := eq2 ▸ lt_of_block h860
      have n872 : w.heap.size ≤ q2 := eq2 ▸ K861.size
      refine prq (pT q2 0) (w' := V863) (by rw [← eV863, ← eq2]; exact exec_alloc0 49 (by kernel_rfl) (.agg (#[.int .i64 0, .int .i64 0, .int .i64 0])) (by kernel_rfl)) ?_
      clear eV863
      have h873 := kV863.bk h853
      have h874 := kV863.bk h854
      have h875 := kV863.bk h855
      have h876 := kV863.bk h856
      have h877 := kV863.bk h857
      have h878 : SelsAt V863 lv ((l ++ (selA [a, b] ++ selP [x, y]))) := h858.keepsN kV863
      have h879 := kV863.bk h859
      have h880 := kV863.bk h860
      have K881 := K861.nn kV863
      have z882 := kV863.size
      obtain ⟨V883, eV883, kV883⟩ := rowset_step V863 q2 ((Off.cs ⟨a.v, 1, (p.first (max a.t b.t)).1⟩))
      have h884 : V883.heap[q2]? = some (.cells (Off.cs ⟨a.v, 1, (p.first (max a.t b.t)).1⟩) 49 (0, 0)) := eV883 ▸ setRow_heap _ _ _ _ _ _ h864
      refine pzq (w' := V883) (by rw [← eV883]; exact exec_store_row 49 (.tmp 23) (.tmp 114) (by kernel_rfl) q2 ((Off.cs ⟨a.v, 1, (p.first (max a.t b.t)).1⟩)) (by kernel_rfl) (by kernel_rfl) 49 (#[.int .i64 0, .int .i64 0, .int .i64 0]) h864 (by kernel_rfl) rfl (by kernel_rfl)) ?_
      clear eV883
      have h885 := kV883.bo h873 (by omega)
      have h886 := kV883.bo h874 (by omega)
      have h887 := kV883.bo h875 (by omega)
      have h888 := kV883.bo h876 (by omega)
      have h889 := kV883.bo h877 (by omega)
      have h890 : SelsAt V883 lv ((l ++ (selA [a, b] ++ selP [x, y]))) := Sl.keepsB hls0 h878 kV883 (fun j e => by first | (unfold Own.One at e; omega) | omega)
      have h891 := kV883.bo h879 (by omega)
      have h892 := kV883.bo h880 (by omega)
      have K893 := K881.no kV883 (by omega)
      have z894 := kV883.size
      refine pkq (.int .i64 0) <| ps_end <| then_n <| sy_sq (qc86_0 32622) (qc86_0 32623) <| sy_reg <| rg_q 14 [0, 1, 2, 3] <| pkq (pT gm 11) <| ppq (.int .i64 ((proves a b).1.pf)) (exec_ld 3 (.tmp 116) gm 11 Tryz.underlying3 (rc (h892) (Msg.get_n (putB_R (putA_R hmR hmR.b) hmR.a) NF.pf))) <| ppq (.bool true) (eqt (((proves a b).1.pf) : Int) ((1) : Int) (by omega)) <| pkq (.bool true) <| ps_end <| then_n <| sy_sq (qc86_0 65246) (qc86_0 65247) <| sy_reg ?_
      refine rg_q 15 [0, 1, 2, 3, 4, 5, 6, 7, 8, 9, 10, 11, 12, 13, 14, 15, 16, 17, 18, 19, 20, 21] <| pkq (.int .i64 0) <| pkq (.bool false) <| pkq (.bool false) <| pkq (.bool true) <| pkq (.bool true) <| pkq (.int .i64 0) <| pkq (.bool false) <| pkq (.bool false) <| ppq (.agg (Off.cs ⟨a.v, 1, (p.first (max a.t b.t)).1⟩)) (exec_load_row 49 (.tmp 23) (by kernel_rfl) q2 (by kernel_rfl) _ _ (0, 0) _ (h884) Tryz.underlying49 rfl (by kernel_rfl)) <| ppq (.agg (Off.cs ⟨a.v, 1, (p.first (max a.t b.t)).1⟩)) (exec_load_row 49 (.tmp 21) (by kernel_rfl) q1 (by kernel_rfl) _ _ (0, 0) _ (h891) Tryz.underlying49 rfl (by kernel_rfl)) <| ppq (.bool false) (exec_cast (congrArg Value.bool (by simp)) (exec_binop .neq 49 49 (.tmp 127) (.tmp 128) (by kernel_rfl) (.agg (Off.cs ⟨a.v, 1, (p.first (max a.t b.t)).1⟩)) (.agg (Off.cs ⟨a.v, 1, (p.first (max a.t b.t)).1⟩)) _ (by kernel_rfl) (by kernel_rfl) (run_eqGuard_agg _ _ _ _ _ _ _ off_guard) (off_ne _ _ _))) <| pkq (.bool false) <| pkq (.bool false) ?_
      refine pkq (.bool false) <| pkq (.bool false) <| pkq (.bool true) <| pkq (.bool false) <| pkq (.bool false) <| pnq <| pnq <| pkq (.bool false) <| pkq (.bool false) <| ps_end <| sy_a ⟨#[.agg p.cells, .agg (Att.c a), .agg (Att.c b), .agg (Pro.c x), .agg (Pro.c y), v, pT gp 0, pT ga 0, pT gb 0, pT gx 0, pT gy 0, ud, .bool false, .bool true, .int .i64 0, .int .i64 p.check.2, lv, pT gm 0, .bool (proves a b).2, .int .i64 (p.first (max a.t b.t)).1, .int .i64 (p.first (max a.t b.t)).2, pT q1 0, .int .i64 0, pT q2 0, .int .i64 0, .bool true, ud, ud, ud, ud, .bool true, .tuple #[.int .i64 0, .int .i64 p.check.2], .agg (p.cells), .tuple #[.int .i64 0, .int .i64 p.check.2], .int .i64 0, .int .i64 p.check.2, .int .i64 0, .bool false, .bool false, v, iN l.length, .bool false, .bool false, ud, v, .slice (some ⟨cg, 0, none⟩) l.length cc, .agg (Att.c a), .agg (Att.c b), .slice (some ⟨qa, 0, none⟩) 2 2, .agg (Pro.c x), .agg (Pro.c y), .slice (some ⟨qb, 0, none⟩) 2 2, vl, lv, .tuple #[.agg (Msg.c (proves a b).1), .bool (proves a b).2], .agg (Att.c a), .agg (Att.c b), .tuple #[.agg (Msg.c (proves a b).1), .bool (proves a b).2], .agg (Msg.c (proves a b).1), .bool (proves a b).2, u5_60, u5_61, u5_62, u5_63, u5_64, u5_65, u5_66, u5_67, u5_68, u5_69, u5_70, u5_71, u5_72, u5_73, .bool false, .tuple #[.int .i64 (p.first (max a.t b.t)).1, .int .i64 (p.first (max a.t b.t)).2], .agg (p.cells), pT ga 2, .int .i64 a.t, pT gb 2, .int .i64 b.t, .int .i64 (max a.t b.t), .tuple #[.int .i64 (p.first (max a.t b.t)).1, .int .i64 (p.first (max a.t b.t)).2], .int .i64 (p.first (max a.t b.t)).1, .int .i64 (p.first (max a.t b.t)).2, .bool true, .bool true, .int .i64 (p.first (max a.t b.t)).2, .bool true, .bool true, .tuple #[.agg (Off.cs ⟨a.v, 1, (p.first (max a.t b.t)).1⟩), .int .i64 0], .agg (p.cells), lv, pT ga 0, .int .i64 a.v, .int .i64 (a.v + 1), .agg (Msg.c ((proves a b).1)), .tuple #[.agg (Off.cs ⟨a.v, 1, (p.first (max a.t b.t)).1⟩), .int .i64 0], .agg (Off.cs ⟨a.v, 1, (p.first (max a.t b.t)).1⟩), .int .i64 0, pT gm 48, .agg (Att.c ((proves a b).1).b), pT gm 12, .agg (Att.c ((proves a b).1).a), pT gm 12, pT gm 48, .tuple #[.agg (Off.cs ⟨a.v, 1, (p.first (max a.t b.t)).1⟩), .int .i64 0], .agg (p.cells), lv, pT ga 0, .int .i64 a.v, .int .i64 (a.v + 1), .agg (Msg.c (putB (putA ((proves a b).1) ((proves a b).1.b)) ((proves a b).1.a))), .tuple #[.agg (Off.cs ⟨a.v, 1, (p.first (max a.t b.t)).1⟩), .int .i64 0], .agg (Off.cs ⟨a.v, 1, (p.first (max a.t b.t)).1⟩), .int .i64 0, pT gm 11, .int .i64 ((proves a b).1.pf), .bool true, .int .i64 0, .bool false, .bool false, .bool true, .bool true, .int .i64 0, .bool false, .bool false, .agg (Off.cs ⟨a.v, 1, (p.first (max a.t b.t)).1⟩), .agg (Off.cs ⟨a.v, 1, (p.first (max a.t b.t)).1⟩), .bool false, .bool false, .bool false, .bool false, .bool false, .bool true, .bool false, .bool false, ud, ud, .bool false, .bool false, ud, ud, ud, ud, ud, ud, ud, ud, ud, ud, ud, ud, ud, ud, ud, ud, ud, ud, ud, ud, ud, ud, ud, ud, ud, ud, ud, ud, ud, ud, ud, ud, ud, ud], []⟩ <| then_n <| sy_n (.tmp 140) (qc86_0 130494) (qc86_0 130495) <| sy_sk ?_
      exact ⟨rfl, (fun k => ([.pointer (some ⟨q1, 0, none⟩), .int .i64 0, .pointer (some ⟨q2, 0, none⟩), .int .i64 0, .bool true, .bool true, .bool true, .int .i64 (p.first (max a.t b.t)).2, .bool true, .bool true, .tuple #[.agg (Off.cs ⟨a.v, 1, (p.first (max a.t b.t)).1⟩), .int .i64 0], .agg (p.cells), lv, .pointer (some ⟨ga, 0, none⟩), .int .i64 a.v, .int .i64 (a.v + 1), .agg (Msg.c ((proves a b).1)), .tuple #[.agg (Off.cs ⟨a.v, 1, (p.first (max a.t b.t)).1⟩), .int .i64 0], .agg (Off.cs ⟨a.v, 1, (p.first (max a.t b.t)).1⟩), .int .i64 0, .pointer (some ⟨gm, 48, none⟩), .agg (Att.c ((proves a b).1).b), .pointer (some ⟨gm, 12, none⟩), .agg (Att.c ((proves a b).1).a), .pointer (some ⟨gm, 12, none⟩), .pointer (some ⟨gm, 48, none⟩), .tuple #[.agg (Off.cs ⟨a.v, 1, (p.first (max a.t b.t)).1⟩), .int .i64 0], .agg (p.cells), lv, .pointer (some ⟨ga, 0, none⟩), .int .i64 a.v, .int .i64 (a.v + 1), .agg (Msg.c (putB (putA ((proves a b).1) ((proves a b).1.b)) ((proves a b).1.a))), .tuple #[.agg (Off.cs ⟨a.v, 1, (p.first (max a.t b.t)).1⟩), .int .i64 0], .agg (Off.cs ⟨a.v, 1, (p.first (max a.t b.t)).1⟩), .int .i64 0, .pointer (some ⟨gm, 11, none⟩), .int .i64 ((proves a b).1.pf), .bool true, .int .i64 0, .bool false, .bool false, .bool true, .bool true, .int .i64 0, .bool false, .bool false, .agg (Off.cs ⟨a.v, 1, (p.first (max a.t b.t)).1⟩), .agg (Off.cs ⟨a.v, 1, (p.first (max a.t b.t)).1⟩), .bool false, .bool false, .bool false, .bool false, .bool false, .bool true, .bool false, .bool false, undef, undef, .bool false, .bool false] : List Value).getD k undef), by kernel_rfl, h885, h886, h887, h888, h889, h890, by omega, K893⟩
    · obtain ⟨fa1, fa2, _⟩ := hfa
      refine sy_sq (qc86_0 1018) (qc86_0 1019) <| sy_reg <| rg_q 10 [0, 1, 2, 3, 4] <| ppq (.bool true) (exec_cast (congrArg Value.bool hys) (by kernel_rfl)) <| pkq (.bool true) <| pkq (.int .i64 (p.first (max a.t b.t)).2) <| ppq (.bool true) (eqt (((p.first (max a.t b.t)).2) : Int) ((0) : Int) (by omega)) <| pkq (.bool true) <| ps_end <| then_n <| sy_ys (.tmp 89) (qc86_0 2038) (qc86_0 2039) <| sy_sq (qc86_0 4076) (qc86_0 4077) <| sy_reg <| rg_q 11 [0, 1, 2, 3, 4, 5, 6, 7, 8, 9, 10, 11, 12] ?_
      refine ppq (.agg (p.cells)) (exec_load_row 45 (.tmp 6) (by kernel_rfl) gp (by kernel_rfl) _ _ (0, 0) _ (h782) Tryz.underlying45 rfl (by kernel_rfl)) <| pkq (lv) <| pkq (pT ga 0) <| ppq (.int .i64 a.v) (exec_ld 3 (.tmp 93) ga 0 Tryz.underlying3 (rc (h783) (Att.c_0 _))) <| ppq (.int .i64 (a.v + 1)) (exec_cast (congrArg (Value.int .i64) (wrapI (a.v + 1) (a.v + 1) rfl (by omega) (by omega))) (by kernel_rfl)) <| ppq (.agg (Msg.c ((proves a b).1))) (exec_load_row 38 (.tmp 17) (by kernel_rfl) gm (by kernel_rfl) _ _ (0, 0) _ (h788) Tryz.underlying38 rfl (by rw [Msg.c_size hmR]; kernel_rfl)) ?_
      refine pcq 20 #[.agg (p.cells), lv, .int .i64 (a.v + 1), .agg (Msg.c ((proves a b).1))] Tryz.func20 ((eJudge_is _ hp hmO h787 hLr hj1).mono ?_)
      rintro e V895 ⟨rfl, kV895⟩
      refine ⟨_, rfl, ?_⟩
      have h896 := kV895.bk h782
      have h897 := kV895.bk h783
      have h898 := kV895.bk h784
      have h899 := kV895.bk h785
      have h900 := kV895.bk h786
      have h901 : SelsAt V895 lv ((l ++ (selA [a, b] ++ selP [x, y]))) := h787.keepsN kV895
      have h902 := kV895.bk h788
      have K903 := K789.nn kV895
      have z904 := kV895.size
      refine pkq (.tuple #[.agg (Off.cs ⟨a.v, 1, (p.first (max a.t b.t)).1⟩), .int .i64 0]) <| pkq (.agg (Off.cs ⟨a.v, 1, (p.first (max a.t b.t)).1⟩)) <| pkq (.int .i64 0) ?_
      obtain ⟨V905, eV905, q1, eq1, h906, kV905⟩ := alloc_step V895 (#[.int .i64 0, .int .i64 0, .int .i64 0]) 49
      have n907 : gp < q1 := eq1 ▸ lt_of_block h896
      have n908 : ga < q1 := eq1 ▸ lt_of_block h897
      have n909 : gb < q1 := eq1 ▸ lt_of_block h898
      have n910 : gx < q1 := eq1 ▸ lt_of_block h899
      have n911 : gy < q1 := eq1 ▸ lt_of_block h900
      have n912 : gm < q1 := eq1 ▸ lt_of_block h902
      have n913 : w.heap.size ≤ q1 := eq1 ▸ K903.size
      refine prq (pT q1 0) (w' := V905) (by rw [← eV905, ← eq1]; exact exec_alloc0 49 (by kernel_rfl) (.agg (#[.int .i64 0, .int .i64 0, .int .i64 0])) (by kernel_rfl)) ?_
      clear eV905
      have h914 := kV905.bk h896
      have h915 := kV905.bk h897
      have h916 := kV905.bk h898
      have h917 := kV905.bk h899
      have h918 := kV905.bk h900
      have h919 : SelsAt V905 lv ((l ++ (selA [a, b] ++ selP [x, y]))) := h901.keepsN kV905
      have h920 := kV905.bk h902
      have K921 := K903.nn kV905
      have z922 := kV905.size
      obtain ⟨V923, eV923, kV923⟩ := rowset_step V905 q1 ((Off.cs ⟨a.v, 1, (p.first (max a.t b.t)).1⟩))
      have h924 : V923.heap[q1]? = some (.cells (Off.cs ⟨a.v, 1, (p.first (max a.t b.t)).1⟩) 49 (0, 0)) := eV923 ▸ setRow_heap _ _ _ _ _ _ h906
      refine pzq (w' := V923) (by rw [← eV923]; exact exec_store_row 49 (.tmp 21) (.tmp 98) (by kernel_rfl) q1 ((Off.cs ⟨a.v, 1, (p.first (max a.t b.t)).1⟩)) (by kernel_rfl) (by kernel_rfl) 49 (#[.int .i64 0, .int .i64 0, .int .i64 0]) h906 (by kernel_rfl) rfl (by kernel_rfl)) ?_
      clear eV923
      have h925 := kV923.bo h914 (by omega)
      have h926 := kV923.bo h915 (by omega)
      have h927 := kV923.bo h916 (by omega)
      have h928 := kV923.bo h917 (by omega)
      have h929 := kV923.bo h918 (by omega)
      have h930 : SelsAt V923 lv ((l ++ (selA [a, b] ++ selP [x, y]))) := Sl.keepsB hls0 h919 kV923 (fun j e => by first | (unfold Own.One at e; omega) | omega)
      have h931 := kV923.bo h920 (by omega)
      have K932 := K921.no kV923 (by omega)
      have z933 := kV923.size
      refine pkq (.int .i64 0) <| ps_end <| then_n <| sy_sq (qc86_0 8154) (qc86_0 8155) <| sy_reg <| rg_q 12 [0, 1, 2, 3, 4, 5, 6, 7] <| pkq (pT gm 48) <| ppq (.agg (Att.c ((proves a b).1).b)) (exec_load_seg 26 (.tmp 100) (by kernel_rfl) gm 48 (by kernel_rfl) (Att.c ((proves a b).1).b).toList _ _ _ h931 (Msg.seg_B hmR) Tryz.underlying26 rfl (by rw [Att.tl hmR.b]; kernel_rfl)) <| pkq (pT gm 12) <| ppq (.agg (Att.c ((proves a b).1).a)) (exec_load_seg 26 (.tmp 102) (by kernel_rfl) gm 12 (by kernel_rfl) (Att.c ((proves a b).1).a).toList _ _ _ h931 (Msg.seg_A hmR) Tryz.underlying26 rfl (by rw [Att.tl hmR.a]; kernel_rfl)) <| pkq (pT gm 12) ?_
      obtain ⟨V934, eV934⟩ : ∃ V, V923.setCells gm 12 (Att.c ((proves a b).1.b)).toList = V := ⟨_, rfl⟩
      have kV934 : Keeps (One gm) V923 V934 := eV934 ▸ Keeps.setCells _ _ _ _
      have h935 : V934.heap[gm]? = some (.cells (Msg.c (putA ((proves a b).1) ((proves a b).1.b))) 38 (0, 0)) := eV934 ▸ (heap_setCells gm _ _ 12 _ _ h931 (show 12 + (Att.c ((proves a b).1.b)).toList.length ≤ _ by rw [(show (Att.c ((proves a b).1.b)).toList.length = 36 from Att.tl hmR.b), Msg.c_size hmR]; decide)).trans (congrArg (fun c => some (Obj.cells c 38 (0, 0))) (Msg.set_A hmR _ hmR.b))
      refine pzq (w' := V934) (by rw [← eV934]; exact exec_store_mid 26 (.tmp 104) (.tmp 101) (by kernel_rfl) gm 12 (by kernel_rfl) (Att.c ((proves a b).1.b)) (by kernel_rfl) _ _ h931 (show 12 + (Att.c ((proves a b).1.b)).toList.length ≤ _ by rw [(show (Att.c ((proves a b).1.b)).toList.length = 36 from Att.tl hmR.b), Msg.c_size hmR]; decide) (by rw [Att.c_size _ hmR.b]; kernel_rfl) (Att.c_one _)) ?_
      clear eV934
      have h936 := kV934.bo h925 (by omega)
      have h937 := kV934.bo h926 (by omega)
      have h938 := kV934.bo h927 (by omega)
      have h939 := kV934.bo h928 (by omega)
      have h940 := kV934.bo h929 (by omega)
      have h941 : SelsAt V934 lv ((l ++ (selA [a, b] ++ selP [x, y]))) := Sl.keepsB hls0 h930 kV934 (fun j e => by first | (unfold Own.One at e; omega) | omega)
      have h942 := kV934.bo h924 (by omega)
      have K943 := K932.no kV934 (by omega)
      have z944 := kV934.size
      refine pkq (pT gm 48) ?_
      obtain ⟨V945, eV945⟩ : ∃ V, V934.setCells gm 48 (Att.c ((proves a b).1.a)).toList = V := ⟨_, rfl⟩
      have kV945 : Keeps (One gm) V934 V945 := eV945 ▸ Keeps.setCells _ _ _ _
      have h946 : V945.heap[gm]? = some (.cells (Msg.c (putB (putA ((proves a b).1) ((proves a b).1.b)) ((proves a b).1.a))) 38 (0, 0)) := eV945 ▸ (heap_setCells gm _ _ 48 _ _ h935 (show 48 + (Att.c ((proves a b).1.a)).toList.length ≤ _ by rw [(show (Att.c ((proves a b).1.a)).toList.length = 36 from Att.tl hmR.a), Msg.c_size (putA_R hmR hmR.b)]; decide)).trans (congrArg (fun c => some (Obj.cells c 38 (0, 0))) (Msg.set_B (putA_R hmR hmR.b) _ hmR.a))
      refine pzq (w' := V945) (by rw [← eV945]; exact exec_store_mid 26 (.tmp 105) (.tmp 103) (by kernel_rfl) gm 48 (by kernel_rfl) (Att.c ((proves a b).1.a)) (by kernel_rfl) _ _ h935 (show 48 + (Att.c ((proves a b).1.a)).toList.length ≤ _ by rw [(show (Att.c ((proves a b).1.a)).toList.length = 36 from Att.tl hmR.a), Msg.c_size (putA_R hmR hmR.b)]; decide) (by rw [Att.c_size _ hmR.a]; kernel_rfl) (Att.c_one _)) ?_
      clear eV945
      have h947 := kV945.bo h936 (by omega)
      have h948 := kV945.bo h937 (by omega)
      have h949 := kV945.bo h938 (by omega)
      have h950 := kV945.bo h939 (by omega)
      have h951 := kV945.bo h940 (by omega)
      have h952 : SelsAt V945 lv ((l ++ (selA [a, b] ++ selP [x, y]))) := Sl.keepsB hls0 h941 kV945 (fun j e => by first | (unfold Own.One at e; omega) | omega)
      have h953 := kV945.bo h942 (by omega)
      have K954 := K943.no kV945 (by omega)
      have z955 := kV945.size
      refine ps_end <| sy_a ⟨#[.agg p.cells, .agg (Att.c a), .agg (Att.c b), .agg (Pro.c x), .agg (Pro.c y), v, pT gp 0, pT ga 0, pT gb 0, pT gx 0, pT gy 0, ud, .bool false, .bool true, .int .i64 0, .int .i64 p.check.2, lv, pT gm 0, .bool (proves a b).2, .int .i64 (p.first (max a.t b.t)).1, .int .i64 (p.first (max a.t b.t)).2, pT q1 0, .int .i64 0, ud, ud, ud, ud, ud, ud, ud, .bool true, .tuple #[.int .i64 0, .int .i64 p.check.2], .agg (p.cells), .tuple #[.int .i64 0, .int .i64 p.check.2], .int .i64 0, .int .i64 p.check.2, .int .i64 0, .bool false, .bool false, v, iN l.length, .bool false, .bool false, ud, v, .slice (some ⟨cg, 0, none⟩) l.length cc, .agg (Att.c a), .agg (Att.c b), .slice (some ⟨qa, 0, none⟩) 2 2, .agg (Pro.c x), .agg (Pro.c y), .slice (some ⟨qb, 0, none⟩) 2 2, vl, lv, .tuple #[.agg (Msg.c (proves a b).1), .bool (proves a b).2], .agg (Att.c a), .agg (Att.c b), .tuple #[.agg (Msg.c (proves a b).1), .bool (proves a b).2], .agg (Msg.c (proves a b).1), .bool (proves a b).2, u5_60, u5_61, u5_62, u5_63, u5_64, u5_65, u5_66, u5_67, u5_68, u5_69, u5_70, u5_71, u5_72, u5_73, .bool false, .tuple #[.int .i64 (p.first (max a.t b.t)).1, .int .i64 (p.first (max a.t b.t)).2], .agg (p.cells), pT ga 2, .int .i64 a.t, pT gb 2, .int .i64 b.t, .int .i64 (max a.t b.t), .tuple #[.int .i64 (p.first (max a.t b.t)).1, .int .i64 (p.first (max a.t b.t)).2], .int .i64 (p.first (max a.t b.t)).1, .int .i64 (p.first (max a.t b.t)).2, .bool true, .bool true, .int .i64 (p.first (max a.t b.t)).2, .bool true, .bool true, .tuple #[.agg (Off.cs ⟨a.v, 1, (p.first (max a.t b.t)).1⟩), .int .i64 0], .agg (p.cells), lv, pT ga 0, .int .i64 a.v, .int .i64 (a.v + 1), .agg (Msg.c ((proves a b).1)), .tuple #[.agg (Off.cs ⟨a.v, 1, (p.first (max a.t b.t)).1⟩), .int .i64 0], .agg (Off.cs ⟨a.v, 1, (p.first (max a.t b.t)).1⟩), .int .i64 0, pT gm 48, .agg (Att.c ((proves a b).1).b), pT gm 12, .agg (Att.c ((proves a b).1).a), pT gm 12, pT gm 48, ud, ud, ud, ud, ud, ud, ud, ud, ud, ud, ud, ud, ud, ud, ud, ud, ud, ud, ud, ud, ud, ud, ud, ud, ud, ud, ud, ud, ud, ud, ud, ud, ud, ud, ud, ud, ud, ud, ud, ud, ud, ud, ud, ud, ud, ud, ud, ud, ud, ud, ud, ud, ud, ud, ud, ud, ud, ud, ud, ud, ud, ud, ud, ud, ud, ud, ud, ud, ud], []⟩ <| then_n <| sy_sq (qc86_0 16310) (qc86_0 16311) <| sy_reg <| rg_q 13 [0, 1, 2, 3, 4, 5, 6, 7, 8, 9, 10, 11, 12] <| ppq (.agg (p.cells)) (exec_load_row 45 (.tmp 6) (by kernel_rfl) gp (by kernel_rfl) _ _ (0, 0) _ (h947) Tryz.underlying45 rfl (by kernel_rfl)) <| pkq (lv) <| pkq (pT ga 0) <| ppq (.int .i64 a.v) (exec_ld 3 (.tmp 109) ga 0 Tryz.underlying3 (rc (h948) (Att.c_0 _))) <| ppq (.int .i64 (a.v + 1)) (exec_cast (congrArg (Value.int .i64) (wrapI (a.v + 1) (a.v + 1) rfl (by omega) (by omega))) (by kernel_rfl)) <| ppq (.agg (Msg.c (putB (putA ((proves a b).1) ((proves a b).1.b)) ((proves a b).1.a)))) (exec_load_row 38 (.tmp 17) (by kernel_rfl) gm (by kernel_rfl) _ _ (0, 0) _ (h946) Tryz.underlying38 rfl (by rw [Msg.c_size (putB_R (putA_R hmR hmR.b) hmR.a)]; kernel_rfl)) ?_
      refine pcq 20 #[.agg (p.cells), lv, .int .i64 (a.v + 1), .agg (Msg.c (putB (putA ((proves a b).1) ((proves a b).1.b)) ((proves a b).1.a)))] Tryz.func20 ((eJudge_is _ hp (swp_Ok hmO) h952 hLr hj2).mono ?_)
      rintro e V956 ⟨rfl, kV956⟩
      refine ⟨_, rfl, ?_⟩
      have h957 := kV956.bk h947
      have h958 := kV956.bk h948
      have h959 := kV956.bk h949
      have h960 := kV956.bk h950
      have h961 := kV956.bk h951
      have h962 : SelsAt V956 lv ((l ++ (selA [a, b] ++ selP [x, y]))) := h952.keepsN kV956
      have h963 := kV956.bk h953
      have h964 := kV956.bk h946
      have K965 := K954.nn kV956
      have z966 := kV956.size
      refine pkq (.tuple #[.agg (Off.cs ⟨0, 0, 0⟩), .int .i64 18]) <| pkq (.agg (Off.cs ⟨0, 0, 0⟩)) <| pkq (.int .i64 18) ?_
      obtain ⟨V967, eV967, q2, eq2, h968, kV967⟩ := alloc_step V956 (#[.int .i64 0, .int .i64 0, .int .i64 0]) 49
      have n969 : gp < q2 := eq2 ▸ lt_of_block h957
      have n970 : ga < q2 := eq2 ▸ lt_of_block h958
      have n971 : gb < q2 := eq2 ▸ lt_of_block h959
      have n972 : gx < q2 := eq2 ▸ lt_of_block h960
      have n973 : gy < q2 := eq2 ▸ lt_of_block h961
      have n974 : q1 < q2 := eq2 ▸ lt_of_block h963
      have n975 : gm < q2 := eq2 ▸ lt_of_block h964
      have n976 : w.heap.size ≤ q2 := eq2 ▸ K965.size
      refine prq (pT q2 0) (w' := V967) (by rw [← eV967, ← eq2]; exact exec_alloc0 49 (by kernel_rfl) (.agg (#[.int .i64 0, .int .i64 0, .int .i64 0])) (by kernel_rfl)) ?_
      clear eV967
      have h977 := kV967.bk h957
      have h978 := kV967.bk h958
      have h979 := kV967.bk h959
      have h980 := kV967.bk h960
      have h981 := kV967.bk h961
      have h982 : SelsAt V967 lv ((l ++ (selA [a, b] ++ selP [x, y]))) := h962.keepsN kV967
      have h984 := kV967.bk h964
      have K985 := K965.nn kV967
      have z986 := kV967.size
      obtain ⟨V987, eV987, kV987⟩ := rowset_step V967 q2 ((Off.cs ⟨0, 0, 0⟩))
      refine pzq (w' := V987) (by rw [← eV987]; exact exec_store_row 49 (.tmp 23) (.tmp 114) (by kernel_rfl) q2 ((Off.cs ⟨0, 0, 0⟩)) (by kernel_rfl) (by kernel_rfl) 49 (#[.int .i64 0, .int .i64 0, .int .i64 0]) h968 (by kernel_rfl) rfl (by kernel_rfl)) ?_
      clear eV987
      have h989 := kV987.bo h977 (by omega)
      have h990 := kV987.bo h978 (by omega)
      have h991 := kV987.bo h979 (by omega)
      have h992 := kV987.bo h980 (by omega)
      have h993 := kV987.bo h981 (by omega)
      have h994 : SelsAt V987 lv ((l ++ (selA [a, b] ++ selP [x, y]))) := Sl.keepsB hls0 h982 kV987 (fun j e => by first | (unfold Own.One at e; omega) | omega)
      have h996 := kV987.bo h984 (by omega)
      have K997 := K985.no kV987 (by omega)
      have z998 := kV987.size
      refine pkq (.int .i64 18) <| ps_end <| then_n <| sy_sq (qc86_0 32622) (qc86_0 32623) <| sy_reg <| rg_q 14 [0, 1, 2, 3] <| pkq (pT gm 11) <| ppq (.int .i64 ((proves a b).1.pf)) (exec_ld 3 (.tmp 116) gm 11 Tryz.underlying3 (rc (h996) (Msg.get_n (putB_R (putA_R hmR hmR.b) hmR.a) NF.pf))) <| ppq (.bool false) (eqf (((proves a b).1.pf) : Int) ((1) : Int) (by omega)) <| pkq (.bool false) <| ps_end <| then_n <| sy_sq (qc86_0 65246) (qc86_0 65247) <| sy_reg ?_
      refine rg_q 15 [0, 1, 2, 3, 4, 5, 6, 7, 8, 9, 10, 11, 12, 13, 14, 15, 16, 17, 18, 19, 20, 21] <| pkq (.int .i64 0) <| pkq (.bool false) <| pkq (.bool false) <| pkq (.bool false) <| pkq (.bool false) <| pnq <| pnq <| pnq <| pnq <| pnq <| pnq <| pnq <| pkq (.bool false) ?_
      refine pkq (.bool false) <| pkq (.bool false) <| pkq (.bool false) <| pkq (.bool true) <| pkq (.bool true) <| pkq (.int .i64 18) <| pkq (.bool false) <| pkq (.bool false) <| pkq (.bool false) <| ps_end <| sy_a ⟨#[.agg p.cells, .agg (Att.c a), .agg (Att.c b), .agg (Pro.c x), .agg (Pro.c y), v, pT gp 0, pT ga 0, pT gb 0, pT gx 0, pT gy 0, ud, .bool false, .bool true, .int .i64 0, .int .i64 p.check.2, lv, pT gm 0, .bool (proves a b).2, .int .i64 (p.first (max a.t b.t)).1, .int .i64 (p.first (max a.t b.t)).2, pT q1 0, .int .i64 0, pT q2 0, .int .i64 18, .bool false, ud, ud, ud, ud, .bool true, .tuple #[.int .i64 0, .int .i64 p.check.2], .agg (p.cells), .tuple #[.int .i64 0, .int .i64 p.check.2], .int .i64 0, .int .i64 p.check.2, .int .i64 0, .bool false, .bool false, v, iN l.length, .bool false, .bool false, ud, v, .slice (some ⟨cg, 0, none⟩) l.length cc, .agg (Att.c a), .agg (Att.c b), .slice (some ⟨qa, 0, none⟩) 2 2, .agg (Pro.c x), .agg (Pro.c y), .slice (some ⟨qb, 0, none⟩) 2 2, vl, lv, .tuple #[.agg (Msg.c (proves a b).1), .bool (proves a b).2], .agg (Att.c a), .agg (Att.c b), .tuple #[.agg (Msg.c (proves a b).1), .bool (proves a b).2], .agg (Msg.c (proves a b).1), .bool (proves a b).2, u5_60, u5_61, u5_62, u5_63, u5_64, u5_65, u5_66, u5_67, u5_68, u5_69, u5_70, u5_71, u5_72, u5_73, .bool false, .tuple #[.int .i64 (p.first (max a.t b.t)).1, .int .i64 (p.first (max a.t b.t)).2], .agg (p.cells), pT ga 2, .int .i64 a.t, pT gb 2, .int .i64 b.t, .int .i64 (max a.t b.t), .tuple #[.int .i64 (p.first (max a.t b.t)).1, .int .i64 (p.first (max a.t b.t)).2], .int .i64 (p.first (max a.t b.t)).1, .int .i64 (p.first (max a.t b.t)).2, .bool true, .bool true, .int .i64 (p.first (max a.t b.t)).2, .bool true, .bool true, .tuple #[.agg (Off.cs ⟨a.v, 1, (p.first (max a.t b.t)).1⟩), .int .i64 0], .agg (p.cells), lv, pT ga 0, .int .i64 a.v, .int .i64 (a.v + 1), .agg (Msg.c ((proves a b).1)), .tuple #[.agg (Off.cs ⟨a.v, 1, (p.first (max a.t b.t)).1⟩), .int .i64 0], .agg (Off.cs ⟨a.v, 1, (p.first (max a.t b.t)).1⟩), .int .i64 0, pT gm 48, .agg (Att.c ((proves a b).1).b), pT gm 12, .agg (Att.c ((proves a b).1).a), pT gm 12, pT gm 48, .tuple #[.agg (Off.cs ⟨0, 0, 0⟩), .int .i64 18], .agg (p.cells), lv, pT ga 0, .int .i64 a.v, .int .i64 (a.v + 1), .agg (Msg.c (putB (putA ((proves a b).1) ((proves a b).1.b)) ((proves a b).1.a))), .tuple #[.agg (Off.cs ⟨0, 0, 0⟩), .int .i64 18], .agg (Off.cs ⟨0, 0, 0⟩), .int .i64 18, pT gm 11, .int .i64 ((proves a b).1.pf), .bool false, .int .i64 0, .bool false, .bool false, .bool false, .bool false, ud, ud, ud, ud, ud, ud, ud, .bool false, .bool false, .bool false, .bool false, .bool true, .bool true, .int .i64 18, .bool false, .bool false, .bool false, ud, ud, ud, ud, ud, ud, ud, ud, ud, ud, ud, ud, ud, ud, ud, ud, ud, ud, ud, ud, ud, ud, ud, ud, ud, ud, ud, ud, ud, ud, ud, ud, ud, ud], []⟩ <| then_n <| sy_n (.tmp 140) (qc86_0 130494) (qc86_0 130495) <| sy_sk ?_
      exact ⟨rfl, (fun k => ([.pointer (some ⟨q1, 0, none⟩), .int .i64 0, .pointer (some ⟨q2, 0, none⟩), .int .i64 18, .bool false, .bool true, .bool true, .int .i64 (p.first (max a.t b.t)).2, .bool true, .bool true, .tuple #[.agg (Off.cs ⟨a.v, 1, (p.first (max a.t b.t)).1⟩), .int .i64 0], .agg (p.cells), lv, .pointer (some ⟨ga, 0, none⟩), .int .i64 a.v, .int .i64 (a.v + 1), .agg (Msg.c ((proves a b).1)), .tuple #[.agg (Off.cs ⟨a.v, 1, (p.first (max a.t b.t)).1⟩), .int .i64 0], .agg (Off.cs ⟨a.v, 1, (p.first (max a.t b.t)).1⟩), .int .i64 0, .pointer (some ⟨gm, 48, none⟩), .agg (Att.c ((proves a b).1).b), .pointer (some ⟨gm, 12, none⟩), .agg (Att.c ((proves a b).1).a), .pointer (some ⟨gm, 12, none⟩), .pointer (some ⟨gm, 48, none⟩), .tuple #[.agg (Off.cs ⟨0, 0, 0⟩), .int .i64 18], .agg (p.cells), lv, .pointer (some ⟨ga, 0, none⟩), .int .i64 a.v, .int .i64 (a.v + 1), .agg (Msg.c (putB (putA ((proves a b).1) ((proves a b).1.b)) ((proves a b).1.a))), .tuple #[.agg (Off.cs ⟨0, 0, 0⟩), .int .i64 18], .agg (Off.cs ⟨0, 0, 0⟩), .int .i64 18, .pointer (some ⟨gm, 11, none⟩), .int .i64 ((proves a b).1.pf), .bool false, .int .i64 0, .bool false, .bool false, .bool false, .bool false, undef, undef, undef, undef, undef, undef, undef, .bool false, .bool false, .bool false, .bool false, .bool true, .bool true, .int .i64 18, .bool false, .bool false, .bool false] : List Value).getD k undef), by kernel_rfl, h989, h990, h991, h992, h993, h994, by omega, K997⟩
    · skip
      refine sy_sq (qc86_0 1018) (qc86_0 1019) <| sy_reg <| rg_q 10 [0, 1, 2, 3, 4] <| ppq (.bool false) (exec_cast (congrArg Value.bool hys) (by kernel_rfl)) <| pkq (.bool false) <| pnq <| pnq <| pkq (.bool false) <| ps_end <| then_n <| sy_n (.tmp 89) (qc86_0 2038) (qc86_0 2039) <| sy_sk ?_
      exact ⟨rfl, (fun k => ([undef, undef, undef, undef, undef, .bool false, .bool false, undef, undef, .bool false, undef, undef, undef, undef, undef, undef, undef, undef, undef, undef, undef, undef, undef, undef, undef, undef, undef, undef, undef, undef, undef, undef, undef, undef, undef, undef, undef, undef, undef, undef, undef, undef, undef, undef, undef, undef, undef, undef, undef, undef, undef, undef, undef, undef, undef, undef, undef, undef, undef, undef, undef] : List Value).getD k undef), by kernel_rfl, h782, h783, h784, h785, h786, h787, by omega, K789⟩
    · skip
      refine sy_sq (qc86_0 1018) (qc86_0 1019) <| sy_reg <| rg_q 10 [0, 1, 2, 3, 4] <| ppq (.bool true) (exec_cast (congrArg Value.bool hys) (by kernel_rfl)) <| pkq (.bool true) <| pkq (.int .i64 (p.first (max a.t b.t)).2) <| ppq (.bool false) (eqf (((p.first (max a.t b.t)).2) : Int) ((0) : Int) (by omega)) <| pkq (.bool false) <| ps_end <| then_n <| sy_n (.tmp 89) (qc86_0 2038) (qc86_0 2039) <| sy_sk ?_
      exact ⟨rfl, (fun k => ([undef, undef, undef, undef, undef, .bool true, .bool true, .int .i64 (p.first (max a.t b.t)).2, .bool false, .bool false, undef, undef, undef, undef, undef, undef, undef, undef, undef, undef, undef, undef, undef, undef, undef, undef, undef, undef, undef, undef, undef, undef, undef, undef, undef, undef, undef, undef, undef, undef, undef, undef, undef, undef, undef, undef, undef, undef, undef, undef, undef, undef, undef, undef, undef, undef, undef, undef, undef, undef, undef] : List Value).getD k undef), by kernel_rfl, h782, h783, h784, h785, h786, h787, by omega, K789⟩
  rintro aQ V999 ⟨uu7_, rfl, h1000, h1001, h1002, h1003, h1004, h1005, z1006, K1007⟩
  refine then_n <| sy_sq (qc86_0 510) (qc86_0 511) <| sy_reg <| rg_q 17 [0, 1, 2, 3, 4, 5, 6, 7, 8] <| ppq (.agg (Pro.c x)) (exec_load_row 28 (.tmp 9) (by kernel_rfl) gx (by kernel_rfl) _ _ (0, 0) _ (h1003) Tryz.underlying28 rfl (by rw [Pro.c_size _ hx.r]; kernel_rfl)) <| ppq (.agg (Pro.c y)) (exec_load_row 28 (.tmp 10) (by kernel_rfl) gy (by kernel_rfl) _ _ (0, 0) _ (h1004) Tryz.underlying28 rfl (by rw [Pro.c_size _ hy.r]; kernel_rfl)) ?_
  refine pcq 14 #[.agg (Pro.c x), .agg (Pro.c y)] Tryz.func14 ((eProveBlock_ok x y _ hx hy).mono ?_)
  rintro e V1008 ⟨rfl, kV1008⟩
  refine ⟨_, rfl, ?_⟩
  have h1009 := kV1008.bk h1000
  have h1010 := kV1008.bk h1001
  have h1011 := kV1008.bk h1002
  have h1012 := kV1008.bk h1003
  have h1013 := kV1008.bk h1004
  have h1014 : SelsAt V1008 lv ((l ++ (selA [a, b] ++ selP [x, y]))) := h1005.keepsN kV1008
  have K1015 := K1007.nn kV1008
  have z1016 := kV1008.size
  refine pkq (.tuple #[.agg (Msg.c (provesP x y).1), .bool (provesP x y).2]) <| pkq (.agg (Msg.c (provesP x y).1)) <| pkq (.bool (provesP x y).2) ?_
  obtain ⟨V1017, eV1017, gn, egn, h1018, kV1017⟩ := alloc_step V1008 ((Msg.c msgZ)) 38
  have n1019 : gp < gn := egn ▸ lt_of_block h1009
  have n1020 : ga < gn := egn ▸ lt_of_block h1010
  have n1021 : gb < gn := egn ▸ lt_of_block h1011
  have n1022 : gx < gn := egn ▸ lt_of_block h1012
  have n1023 : gy < gn := egn ▸ lt_of_block h1013
  have n1024 : w.heap.size ≤ gn := egn ▸ K1015.size
  refine prq (pT gn 0) (w' := V1017) (by rw [← eV1017, ← egn]; exact exec_alloc0 38 (by kernel_rfl) (.agg ((Msg.c msgZ))) (by kernel_rfl)) ?_
  clear eV1017
  have h1025 := kV1017.bk h1009
  have h1026 := kV1017.bk h1010
  have h1027 := kV1017.bk h1011
  have h1028 := kV1017.bk h1012
  have h1029 := kV1017.bk h1013
  have h1030 : SelsAt V1017 lv ((l ++ (selA [a, b] ++ selP [x, y]))) := h1014.keepsN kV1017
  have K1031 := K1015.nn kV1017
  have z1032 := kV1017.size
  obtain ⟨V1033, eV1033, kV1033⟩ := rowset_step V1017 gn ((Msg.c (provesP x y).1))
  have h1034 : V1033.heap[gn]? = some (.cells (Msg.c ((provesP x y).1)) 38 (0, 0)) := eV1033 ▸ setRow_heap _ _ _ _ _ _ h1018
  refine pzq (w' := V1033) (by rw [← eV1033]; exact exec_store_row 38 (.tmp 26) (.tmp 145) (by kernel_rfl) gn ((Msg.c (provesP x y).1)) (by kernel_rfl) (by kernel_rfl) 38 ((Msg.c msgZ)) h1018 (by rw [Msg.c_size hnR]; kernel_rfl) (by rw [Msg.c_size hnR]; exact (Msg.c_size msgZ_R).symm) (Msg.c_one _)) ?_
  clear eV1033
  have h1035 := kV1033.bo h1025 (by omega)
  have h1036 := kV1033.bo h1026 (by omega)
  have h1037 := kV1033.bo h1027 (by omega)
  have h1038 := kV1033.bo h1028 (by omega)
  have h1039 := kV1033.bo h1029 (by omega)
  have h1040 : SelsAt V1033 lv ((l ++ (selA [a, b] ++ selP [x, y]))) := Sl.keepsB hls0 h1030 kV1033 (fun j e => by first | (unfold Own.One at e; omega) | omega)
  have K1041 := K1031.no kV1033 (by omega)
  have z1042 := kV1033.size
  refine pkq (.bool (provesP x y).2) <| ps_end <| then_n <| sy_sq (qc86_0 1022) (qc86_0 1023) ?_
  refine sy_cut (fun aQ VQ => ∃ (u8_147 u8_148 u8_149 u8_150 : Value), (aQ = ⟨#[.agg p.cells, .agg (Att.c a), .agg (Att.c b), .agg (Pro.c x), .agg (Pro.c y), v, .pointer (some ⟨gp, 0, none⟩), .pointer (some ⟨ga, 0, none⟩), .pointer (some ⟨gb, 0, none⟩), .pointer (some ⟨gx, 0, none⟩), .pointer (some ⟨gy, 0, none⟩), ud, .bool false, .bool true, .int .i64 0, .int .i64 p.check.2, lv, .pointer (some ⟨gm, 0, none⟩), .bool (proves a b).2, .int .i64 (p.first (max a.t b.t)).1, .int .i64 (p.first (max a.t b.t)).2, uu7_ 0, uu7_ 1, uu7_ 2, uu7_ 3, uu7_ 4, .pointer (some ⟨gn, 0, none⟩), .bool (provesP x y).2, ud, ud, .bool true, .tuple #[.int .i64 0, .int .i64 p.check.2], .agg (p.cells), .tuple #[.int .i64 0, .int .i64 p.check.2], .int .i64 0, .int .i64 p.check.2, .int .i64 0, .bool false, .bool false, v, .int .i64 ((l.length : Nat) : Int), .bool false, .bool false, ud, v, .slice (some ⟨cg, 0, none⟩) l.length cc, .agg (Att.c a), .agg (Att.c b), .slice (some ⟨qa, 0, none⟩) 2 2, .agg (Pro.c x), .agg (Pro.c y), .slice (some ⟨qb, 0, none⟩) 2 2, vl, lv, .tuple #[.agg (Msg.c (proves a b).1), .bool (proves a b).2], .agg (Att.c a), .agg (Att.c b), .tuple #[.agg (Msg.c (proves a b).1), .bool (proves a b).2], .agg (Msg.c (proves a b).1), .bool (proves a b).2, u5_60, u5_61, u5_62, u5_63, u5_64, u5_65, u5_66, u5_67, u5_68, u5_69, u5_70, u5_71, u5_72, u5_73, .bool false, .tuple #[.int .i64 (p.first (max a.t b.t)).1, .int .i64 (p.first (max a.t b.t)).2], .agg (p.cells), .pointer (some ⟨ga, 2, none⟩), .int .i64 a.t, .pointer (some ⟨gb, 2, none⟩), .int .i64 b.t, .int .i64 (max a.t b.t), .tuple #[.int .i64 (p.first (max a.t b.t)).1, .int .i64 (p.first (max a.t b.t)).2], .int .i64 (p.first (max a.t b.t)).1, .int .i64 (p.first (max a.t b.t)).2, uu7_ 5, uu7_ 6, uu7_ 7, uu7_ 8, uu7_ 9, uu7_ 10, uu7_ 11, uu7_ 12, uu7_ 13, uu7_ 14, uu7_ 15, uu7_ 16, uu7_ 17, uu7_ 18, uu7_ 19, uu7_ 20, uu7_ 21, uu7_ 22, uu7_ 23, uu7_ 24, uu7_ 25, uu7_ 26, uu7_ 27, uu7_ 28, uu7_ 29, uu7_ 30, uu7_ 31, uu7_ 32, uu7_ 33, uu7_ 34, uu7_ 35, uu7_ 36, uu7_ 37, uu7_ 38, uu7_ 39, uu7_ 40, uu7_ 41, uu7_ 42, uu7_ 43, uu7_ 44, uu7_ 45, uu7_ 46, uu7_ 47, uu7_ 48, uu7_ 49, uu7_ 50, uu7_ 51, uu7_ 52, uu7_ 53, uu7_ 54, uu7_ 55, uu7_ 56, uu7_ 57, uu7_ 58, uu7_ 59, uu7_ 60, .tuple #[.agg (Msg.c (provesP x y).1), .bool (provesP x y).2], .agg (Pro.c x), .agg (Pro.c y), .tuple #[.agg (Msg.c (provesP x y).1), .bool (provesP x y).2], .agg (Msg.c (provesP x y).1), .bool (provesP x y).2, u8_147, u8_148, u8_149, u8_150, .bool false, ud, ud, ud, ud, ud, ud, ud, ud, ud, ud, ud, ud, ud, ud, ud, ud, ud, ud, ud, ud, ud, ud, ud], []⟩) ∧ (VQ.heap[gp]? = some (.cells p.cells 45 (0, 0))) ∧ (VQ.heap[ga]? = some (.cells (Att.c a) 26 (0, 0))) ∧ (VQ.heap[gb]? = some (.cells (Att.c b) 26 (0, 0))) ∧ (VQ.heap[gx]? = some (.cells (Pro.c x) 28 (0, 0))) ∧ (VQ.heap[gy]? = some (.cells (Pro.c y) 28 (0, 0))) ∧ (SelsAt VQ lv ((l ++ (selA [a, b] ++ selP [x, y])))) ∧ (VQ.heap[gn]? = some (.cells (Msg.c ((provesP x y).1)) 38 (0, 0))) ∧ (V1033.heap.size ≤ VQ.heap.size) ∧ (Keeps Nob w VQ)) ?_ ?_
  · rcases proveP_split x y with ⟨hys, c3⟩ | ⟨hys, c3⟩
    · skip
      refine sy_sq (qc86_0 2044) (qc86_0 2045) <| sy_reg <| rg_q 18 [0, 1, 2, 3, 4] <| ppq (.bool true) (exec_cast (congrArg Value.bool hys) (by kernel_rfl)) <| ppq (.agg (Pro.c x)) (exec_load_row 28 (.tmp 9) (by kernel_rfl) gx (by kernel_rfl) _ _ (0, 0) _ (h1038) Tryz.underlying28 rfl (by rw [Pro.c_size _ hx.r]; kernel_rfl)) <| ppq (.agg (Pro.c y)) (exec_load_row 28 (.tmp 10) (by kernel_rfl) gy (by kernel_rfl) _ _ (0, 0) _ (h1039) Tryz.underlying28 rfl (by rw [Pro.c_size _ hy.r]; kernel_rfl)) ?_
      refine pcq 35 #[.agg (Pro.c x), .agg (Pro.c y)] Tryz.func35 ((doubPV _ hx hy c3).mono ?_)
      rintro e V1043 ⟨rfl, kV1043⟩
      refine ⟨_, rfl, ?_⟩
      have h1044 := kV1043.bk h1035
      have h1045 := kV1043.bk h1036
      have h1046 := kV1043.bk h1037
      have h1047 := kV1043.bk h1038
      have h1048 := kV1043.bk h1039
      have h1049 : SelsAt V1043 lv ((l ++ (selA [a, b] ++ selP [x, y]))) := h1040.keepsN kV1043
      have h1050 := kV1043.bk h1034
      have K1051 := K1041.nn kV1043
      have z1052 := kV1043.size
      refine pkq (.bool false) <| ps_end <| then_n <| sy_n (.tmp 151) (qc86_0 4090) (qc86_0 4091) <| sy_sk ?_
      exact ⟨rfl, .bool true, .agg (Pro.c x), .agg (Pro.c y), .bool true, by kernel_rfl, h1044, h1045, h1046, h1047, h1048, h1049, h1050, by omega, K1051⟩
    · skip
      refine sy_sq (qc86_0 2044) (qc86_0 2045) <| sy_reg <| rg_q 18 [0, 1, 2, 3, 4] <| ppq (.bool false) (exec_cast (congrArg Value.bool hys) (by kernel_rfl)) <| ppq (.agg (Pro.c x)) (exec_load_row 28 (.tmp 9) (by kernel_rfl) gx (by kernel_rfl) _ _ (0, 0) _ (h1038) Tryz.underlying28 rfl (by rw [Pro.c_size _ hx.r]; kernel_rfl)) <| ppq (.agg (Pro.c y)) (exec_load_row 28 (.tmp 10) (by kernel_rfl) gy (by kernel_rfl) _ _ (0, 0) _ (h1039) Tryz.underlying28 rfl (by rw [Pro.c_size _ hy.r]; kernel_rfl)) ?_
      refine pcq 35 #[.agg (Pro.c x), .agg (Pro.c y)] Tryz.func35 ((doubPV _ hx hy c3).mono ?_)
      rintro e V1053 ⟨rfl, kV1053⟩
      refine ⟨_, rfl, ?_⟩
      have h1054 := kV1053.bk h1035
      have h1055 := kV1053.bk h1036
      have h1056 := kV1053.bk h1037
      have h1057 := kV1053.bk h1038
      have h1058 := kV1053.bk h1039
      have h1059 : SelsAt V1053 lv ((l ++ (selA [a, b] ++ selP [x, y]))) := h1040.keepsN kV1053
      have h1060 := kV1053.bk h1034
      have K1061 := K1041.nn kV1053
      have z1062 := kV1053.size
      refine pkq (.bool false) <| ps_end <| then_n <| sy_n (.tmp 151) (qc86_0 4090) (qc86_0 4091) <| sy_sk ?_
      exact ⟨rfl, .bool false, .agg (Pro.c x), .agg (Pro.c y), .bool false, by kernel_rfl, h1054, h1055, h1056, h1057, h1058, h1059, h1060, by omega, K1061⟩
  rintro aQ V1063 ⟨u8_147, u8_148, u8_149, u8_150, rfl, h1064, h1065, h1066, h1067, h1068, h1069, h1070, z1071, K1072⟩
  refine then_n <| sy_sq (qc86_0 2046) (qc86_0 2047) ?_
  refine sy_cut (fun aQ VQ => ∃ (u9_28 u9_29 u9_152 u9_153 u9_154 u9_155 u9_156 u9_157 u9_158 u9_159 u9_160 u9_161 u9_162 u9_163 u9_164 u9_165 u9_166 u9_167 u9_168 u9_169 u9_170 u9_171 u9_172 u9_173 : Value), (aQ = ⟨#[.agg p.cells, .agg (Att.c a), .agg (Att.c b), .agg (Pro.c x), .agg (Pro.c y), v, .pointer (some ⟨gp, 0, none⟩), .pointer (some ⟨ga, 0, none⟩), .pointer (some ⟨gb, 0, none⟩), .pointer (some ⟨gx, 0, none⟩), .pointer (some ⟨gy, 0, none⟩), ud, .bool false, .bool true, .int .i64 0, .int .i64 p.check.2, lv, .pointer (some ⟨gm, 0, none⟩), .bool (proves a b).2, .int .i64 (p.first (max a.t b.t)).1, .int .i64 (p.first (max a.t b.t)).2, uu7_ 0, uu7_ 1, uu7_ 2, uu7_ 3, uu7_ 4, .pointer (some ⟨gn, 0, none⟩), .bool (provesP x y).2, u9_28, u9_29, .bool true, .tuple #[.int .i64 0, .int .i64 p.check.2], .agg (p.cells), .tuple #[.int .i64 0, .int .i64 p.check.2], .int .i64 0, .int .i64 p.check.2, .int .i64 0, .bool false, .bool false, v, .int .i64 ((l.length : Nat) : Int), .bool false, .bool false, ud, v, .slice (some ⟨cg, 0, none⟩) l.length cc, .agg (Att.c a), .agg (Att.c b), .slice (some ⟨qa, 0, none⟩) 2 2, .agg (Pro.c x), .agg (Pro.c y), .slice (some ⟨qb, 0, none⟩) 2 2, vl, lv, .tuple #[.agg (Msg.c (proves a b).1), .bool (proves a b).2], .agg (Att.c a), .agg (Att.c b), .tuple #[.agg (Msg.c (proves a b).1), .bool (proves a b).2], .agg (Msg.c (proves a b).1), .bool (proves a b).2, u5_60, u5_61, u5_62, u5_63, u5_64, u5_65, u5_66, u5_67, u5_68, u5_69, u5_70, u5_71, u5_72, u5_73, .bool false, .tuple #[.int .i64 (p.first (max a.t b.t)).1, .int .i64 (p.first (max a.t b.t)).2], .agg (p.cells), .pointer (some ⟨ga, 2, none⟩), .int .i64 a.t, .pointer (some ⟨gb, 2, none⟩), .int .i64 b.t, .int .i64 (max a.t b.t), .tuple #[.int .i64 (p.first (max a.t b.t)).1, .int .i64 (p.first (max a.t b.t)).2], .int .i64 (p.first (max a.t b.t)).1, .int .i64 (p.first (max a.t b.t)).2, uu7_ 5, uu7_ 6, uu7_ 7, uu7_ 8, uu7_ 9, uu7_ 10, uu7_ 11, uu7_ 12, uu7_ 13, uu7_ 14, uu7_ 15, uu7_ 16, uu7_ 17, uu7_ 18, uu7_ 19, uu7_ 20, uu7_ 21, uu7_ 22, uu7_ 23, uu7_ 24, uu7_ 25, uu7_ 26, uu7_ 27, uu7_ 28, uu7_ 29, uu7_ 30, uu7_ 31, uu7_ 32, uu7_ 33, uu7_ 34, uu7_ 35, uu7_ 36, uu7_ 37, uu7_ 38, uu7_ 39, uu7_ 40, uu7_ 41, uu7_ 42, uu7_ 43, uu7_ 44, uu7_ 45, uu7_ 46, uu7_ 47, uu7_ 48, uu7_ 49, uu7_ 50, uu7_ 51, uu7_ 52, uu7_ 53, uu7_ 54, uu7_ 55, uu7_ 56, uu7_ 57, uu7_ 58, uu7_ 59, uu7_ 60, .tuple #[.agg (Msg.c (provesP x y).1), .bool (provesP x y).2], .agg (Pro.c x), .agg (Pro.c y), .tuple #[.agg (Msg.c (provesP x y).1), .bool (provesP x y).2], .agg (Msg.c (provesP x y).1), .bool (provesP x y).2, u8_147, u8_148, u8_149, u8_150, .bool false, u9_152, u9_153, u9_154, u9_155, u9_156, u9_157, u9_158, u9_159, u9_160, u9_161, u9_162, u9_163, u9_164, u9_165, u9_166, u9_167, u9_168, u9_169, u9_170, u9_171, u9_172, u9_173, ud], []⟩) ∧ (VQ.heap[gp]? = some (.cells p.cells 45 (0, 0))) ∧ (VQ.heap[ga]? = some (.cells (Att.c a) 26 (0, 0))) ∧ (VQ.heap[gb]? = some (.cells (Att.c b) 26 (0, 0))) ∧ (VQ.heap[gx]? = some (.cells (Pro.c x) 28 (0, 0))) ∧ (VQ.heap[gy]? = some (.cells (Pro.c y) 28 (0, 0))) ∧ (SelsAt VQ lv ((l ++ (selA [a, b] ++ selP [x, y])))) ∧ (VQ.heap[gn]? = some (.cells (Msg.c ((provesP x y).1)) 38 (0, 0))) ∧ (V1063.heap.size ≤ VQ.heap.size) ∧ (Keeps Nob w VQ)) ?_ ?_
  · rcases proveP_split x y with ⟨hys, c3⟩ | ⟨hys, c3⟩
    · obtain ⟨_, ⟨fx1, fx2, _⟩, hj3⟩ := wholeP_yes hc hsx hsy c3
      refine sy_sq (qc86_0 4092) (qc86_0 4093) <| sy_reg <| rg_q 20 [0] <| ppq (.bool true) (exec_cast (congrArg Value.bool hys) (by kernel_rfl)) <| ps_end <| then_n <| sy_ys (.tmp 152) (qc86_0 8186) (qc86_0 8187) <| sy_sq (qc86_0 16372) (qc86_0 16373) <| sy_reg <| rg_q 21 [0, 1, 2, 3, 4, 5, 6, 7, 8, 9, 10, 11, 12] <| ppq (.agg (p.cells)) (exec_load_row 45 (.tmp 6) (by kernel_rfl) gp (by kernel_rfl) _ _ (0, 0) _ (h1064) Tryz.underlying45 rfl (by kernel_rfl)) <| pkq (lv) <| pkq (pT gx 0) <| ppq (.int .i64 x.v) (exec_ld 3 (.tmp 156) gx 0 Tryz.underlying3 (rc (h1067) (Pro.c_0 _))) ?_
      refine ppq (.int .i64 (x.v + 1)) (exec_cast (congrArg (Value.int .i64) (wrapI (x.v + 1) (x.v + 1) rfl (by omega) (by omega))) (by kernel_rfl)) <| ppq (.agg (Msg.c ((provesP x y).1))) (exec_load_row 38 (.tmp 26) (by kernel_rfl) gn (by kernel_rfl) _ _ (0, 0) _ (h1070) Tryz.underlying38 rfl (by rw [Msg.c_size hnR]; kernel_rfl)) ?_
      refine pcq 20 #[.agg (p.cells), lv, .int .i64 (x.v + 1), .agg (Msg.c ((provesP x y).1))] Tryz.func20 ((eJudge_is _ hp hnO h1069 hLr hj3).mono ?_)
      rintro e V1073 ⟨rfl, kV1073⟩
      refine ⟨_, rfl, ?_⟩
      have h1074 := kV1073.bk h1064
      have h1075 := kV1073.bk h1065
      have h1076 := kV1073.bk h1066
      have h1077 := kV1073.bk h1067
      have h1078 := kV1073.bk h1068
      have h1079 : SelsAt V1073 lv ((l ++ (selA [a, b] ++ selP [x, y]))) := h1069.keepsN kV1073
      have h1080 := kV1073.bk h1070
      have K1081 := K1072.nn kV1073
      have z1082 := kV1073.size
      refine pkq (.tuple #[.agg (Off.cs ⟨x.v, 2, x.h⟩), .int .i64 0]) <| pkq (.agg (Off.cs ⟨x.v, 2, x.h⟩)) <| pkq (.int .i64 0) ?_
      obtain ⟨V1083, eV1083, q3, eq3, h1084, kV1083⟩ := alloc_step V1073 (#[.int .i64 0, .int .i64 0, .int .i64 0]) 49
      have n1085 : gp < q3 := eq3 ▸ lt_of_block h1074
      have n1086 : ga < q3 := eq3 ▸ lt_of_block h1075
      have n1087 : gb < q3 := eq3 ▸ lt_of_block h1076
      have n1088 : gx < q3 := eq3 ▸ lt_of_block h1077
      have n1089 : gy < q3 := eq3 ▸ lt_of_block h1078
      have n1090 : gn < q3 := eq3 ▸ lt_of_block h1080
      have n1091 : w.heap.size ≤ q3 := eq3 ▸ K1081.size
      refine prq (pT q3 0) (w' := V1083) (by rw [← eV1083, ← eq3]; exact exec_alloc0 49 (by kernel_rfl) (.agg (#[.int .i64 0, .int .i64 0, .int .i64 0])) (by kernel_rfl)) ?_
      clear eV1083
      have h1092 := kV1083.bk h1074
      have h1093 := kV1083.bk h1075
      have h1094 := kV1083.bk h1076
      have h1095 := kV1083.bk h1077
      have h1096 := kV1083.bk h1078
      have h1097 : SelsAt V1083 lv ((l ++ (selA [a, b] ++ selP [x, y]))) := h1079.keepsN kV1083
      have h1098 := kV1083.bk h1080
      have K1099 := K1081.nn kV1083
      have z1100 := kV1083.size
      obtain ⟨V1101, eV1101, kV1101⟩ := rowset_step V1083 q3 ((Off.cs ⟨x.v, 2, x.h⟩))
      have h1102 : V1101.heap[q3]? = some (.cells (Off.cs ⟨x.v, 2, x.h⟩) 49 (0, 0)) := eV1101 ▸ setRow_heap _ _ _ _ _ _ h1084
      refine pzq (w' := V1101) (by rw [← eV1101]; exact exec_store_row 49 (.tmp 28) (.tmp 161) (by kernel_rfl) q3 ((Off.cs ⟨x.v, 2, x.h⟩)) (by kernel_rfl) (by kernel_rfl) 49 (#[.int .i64 0, .int .i64 0, .int .i64 0]) h1084 (by kernel_rfl) rfl (by kernel_rfl)) ?_
      clear eV1101
      have h1103 := kV1101.bo h1092 (by omega)
      have h1104 := kV1101.bo h1093 (by omega)
      have h1105 := kV1101.bo h1094 (by omega)
      have h1106 := kV1101.bo h1095 (by omega)
      have h1107 := kV1101.bo h1096 (by omega)
      have h1108 : SelsAt V1101 lv ((l ++ (selA [a, b] ++ selP [x, y]))) := Sl.keepsB hls0 h1097 kV1101 (fun j e => by first | (unfold Own.One at e; omega) | omega)
      have h1109 := kV1101.bo h1098 (by omega)
      have K1110 := K1099.no kV1101 (by omega)
      have z1111 := kV1101.size
      refine pkq (.int .i64 0) <| ps_end <| then_n <| sy_sq (qc86_0 32746) (qc86_0 32747) <| sy_reg <| rg_q 22 [0, 1, 2, 3, 4, 5, 6, 7, 8, 9, 10] <| pkq (.int .i64 0) <| pkq (.bool false) <| pkq (.bool false) <| ppq (.agg (Off.cs ⟨x.v, 2, x.h⟩)) (exec_load_row 49 (.tmp 28) (by kernel_rfl) q3 (by kernel_rfl) _ _ (0, 0) _ (h1102) Tryz.underlying49 rfl (by kernel_rfl)) <| pkq (pT gx 0) <| ppq (.int .i64 x.v) (exec_ld 3 (.tmp 167) gx 0 Tryz.underlying3 (rc (h1106) (Pro.c_0 _))) <| pkq (pT gx 1) <| ppq (.int .i64 x.h) (exec_ld 3 (.tmp 169) gx 1 Tryz.underlying3 (rc (h1106) (Pro.c_1 _))) ?_
      refine pkq (.agg (Off.cs ⟨x.v, 2, x.h⟩)) <| ppq (.bool false) (exec_cast (congrArg Value.bool (by simp)) (exec_binop .neq 49 49 (.tmp 166) (.tmp 171) (by kernel_rfl) (.agg (Off.cs ⟨x.v, 2, x.h⟩)) (.agg (Off.cs ⟨x.v, 2, x.h⟩)) _ (by kernel_rfl) (by kernel_rfl) (run_eqGuard_agg _ _ _ _ _ _ _ off_guard) (off_ne _ _ _))) <| pkq (.bool false) <| ps_end <| sy_a ⟨#[.agg p.cells, .agg (Att.c a), .agg (Att.c b), .agg (Pro.c x), .agg (Pro.c y), v, pT gp 0, pT ga 0, pT gb 0, pT gx 0, pT gy 0, ud, .bool false, .bool true, .int .i64 0, .int .i64 p.check.2, lv, pT gm 0, .bool (proves a b).2, .int .i64 (p.first (max a.t b.t)).1, .int .i64 (p.first (max a.t b.t)).2, uu7_ 0, uu7_ 1, uu7_ 2, uu7_ 3, uu7_ 4, pT gn 0, .bool (provesP x y).2, pT q3 0, .int .i64 0, .bool true, .tuple #[.int .i64 0, .int .i64 p.check.2], .agg (p.cells), .tuple #[.int .i64 0, .int .i64 p.check.2], .int .i64 0, .int .i64 p.check.2, .int .i64 0, .bool false, .bool false, v, iN l.length, .bool false, .bool false, ud, v, .slice (some ⟨cg, 0, none⟩) l.length cc, .agg (Att.c a), .agg (Att.c b), .slice (some ⟨qa, 0, none⟩) 2 2, .agg (Pro.c x), .agg (Pro.c y), .slice (some ⟨qb, 0, none⟩) 2 2, vl, lv, .tuple #[.agg (Msg.c (proves a b).1), .bool (proves a b).2], .agg (Att.c a), .agg (Att.c b), .tuple #[.agg (Msg.c (proves a b).1), .bool (proves a b).2], .agg (Msg.c (proves a b).1), .bool (proves a b).2, u5_60, u5_61, u5_62, u5_63, u5_64, u5_65, u5_66, u5_67, u5_68, u5_69, u5_70, u5_71, u5_72, u5_73, .bool false, .tuple #[.int .i64 (p.first (max a.t b.t)).1, .int .i64 (p.first (max a.t b.t)).2], .agg (p.cells), pT ga 2, .int .i64 a.t, pT gb 2, .int .i64 b.t, .int .i64 (max a.t b.t), .tuple #[.int .i64 (p.first (max a.t b.t)).1, .int .i64 (p.first (max a.t b.t)).2], .int .i64 (p.first (max a.t b.t)).1, .int .i64 (p.first (max a.t b.t)).2, uu7_ 5, uu7_ 6, uu7_ 7, uu7_ 8, uu7_ 9, uu7_ 10, uu7_ 11, uu7_ 12, uu7_ 13, uu7_ 14, uu7_ 15, uu7_ 16, uu7_ 17, uu7_ 18, uu7_ 19, uu7_ 20, uu7_ 21, uu7_ 22, uu7_ 23, uu7_ 24, uu7_ 25, uu7_ 26, uu7_ 27, uu7_ 28, uu7_ 29, uu7_ 30, uu7_ 31, uu7_ 32, uu7_ 33, uu7_ 34, uu7_ 35, uu7_ 36, uu7_ 37, uu7_ 38, uu7_ 39, uu7_ 40, uu7_ 41, uu7_ 42, uu7_ 43, uu7_ 44, uu7_ 45, uu7_ 46, uu7_ 47, uu7_ 48, uu7_ 49, uu7_ 50, uu7_ 51, uu7_ 52, uu7_ 53, uu7_ 54, uu7_ 55, uu7_ 56, uu7_ 57, uu7_ 58, uu7_ 59, uu7_ 60, .tuple #[.agg (Msg.c (provesP x y).1), .bool (provesP x y).2], .agg (Pro.c x), .agg (Pro.c y), .tuple #[.agg (Msg.c (provesP x y).1), .bool (provesP x y).2], .agg (Msg.c (provesP x y).1), .bool (provesP x y).2, u8_147, u8_148, u8_149, u8_150, .bool false, .bool true, .tuple #[.agg (Off.cs ⟨x.v, 2, x.h⟩), .int .i64 0], .agg (p.cells), lv, pT gx 0, .int .i64 x.v, .int .i64 (x.v + 1), .agg (Msg.c ((provesP x y).1)), .tuple #[.agg (Off.cs ⟨x.v, 2, x.h⟩), .int .i64 0], .agg (Off.cs ⟨x.v, 2, x.h⟩), .int .i64 0, .int .i64 0, .bool false, .bool false, .agg (Off.cs ⟨x.v, 2, x.h⟩), pT gx 0, .int .i64 x.v, pT gx 1, .int .i64 x.h, .agg (Off.cs ⟨x.v, 2, x.h⟩), .bool false, .bool false, ud], []⟩ <| then_n <| sy_n (.tmp 173) (qc86_0 65494) (qc86_0 65495) <| sy_sk ?_
      exact ⟨rfl, .pointer (some ⟨q3, 0, none⟩), .int .i64 0, .bool true, .tuple #[.agg (Off.cs ⟨x.v, 2, x.h⟩), .int .i64 0], .agg (p.cells), lv, .pointer (some ⟨gx, 0, none⟩), .int .i64 x.v, .int .i64 (x.v + 1), .agg (Msg.c ((provesP x y).1)), .tuple #[.agg (Off.cs ⟨x.v, 2, x.h⟩), .int .i64 0], .agg (Off.cs ⟨x.v, 2, x.h⟩), .int .i64 0, .int .i64 0, .bool false, .bool false, .agg (Off.cs ⟨x.v, 2, x.h⟩), .pointer (some ⟨gx, 0, none⟩), .int .i64 x.v, .pointer (some ⟨gx, 1, none⟩), .int .i64 x.h, .agg (Off.cs ⟨x.v, 2, x.h⟩), .bool false, .bool false, by kernel_rfl, h1103, h1104, h1105, h1106, h1107, h1108, h1109, by omega, K1110⟩
    · skip
      refine sy_sq (qc86_0 4092) (qc86_0 4093) <| sy_reg <| rg_q 20 [0] <| ppq (.bool false) (exec_cast (congrArg Value.bool hys) (by kernel_rfl)) <| ps_end <| then_n <| sy_n (.tmp 152) (qc86_0 8186) (qc86_0 8187) <| sy_sk ?_
      exact ⟨rfl, undef, undef, .bool false, undef, undef, undef, undef, undef, undef, undef, undef, undef, undef, undef, undef, undef, undef, undef, undef, undef, undef, undef, undef, undef, by kernel_rfl, h1064, h1065, h1066, h1067, h1068, h1069, h1070, by omega, K1072⟩
  rintro aQ V1112 ⟨u9_28, u9_29, u9_152, u9_153, u9_154, u9_155, u9_156, u9_157, u9_158, u9_159, u9_160, u9_161, u9_162, u9_163, u9_164, u9_165, u9_166, u9_167, u9_168, u9_169, u9_170, u9_171, u9_172, u9_173, rfl, h1113, h1114, h1115, h1116, h1117, h1118, h1119, z1120, K1121⟩
  refine then_n <| sy_sq (qc86_0 4094) (qc86_0 4095) <| sy_reg <| rg_q 24 [0, 1] <| pkq (.bool true) <| pkq (.bool true) <| ps_end <| then_n <| sy_ret (by kernel_rfl) <| sy_out (.bool true) rfl (by kernel_rfl) ?_
  exact ⟨rfl, K1121⟩
theorem evidenceWhole_ok (p : Par) (hp : p.Ok) (a b : Att) (x y : Pro) (v : Value) (l : List Sel) (w : World) (ha : a.Ok) (hb : b.Ok) (hx : x.Ok) (hy : y.Ok) (hsl : SelsAt w v l ∧ ∀ z ∈ l, z.r.length = 32) : Calls Tryz.prog 6 #[.agg p.cells, .agg (Att.c a), .agg (Att.c b), .agg (Pro.c x), .agg (Pro.c y), v] w fun e w' => e = .returned (.bool true) ∧ Keeps Nob w w' := by
  obtain ⟨hl, hlr⟩ := hsl
  by_cases hc : p.check.1 = 0
  · by_cases hlen : 20 < l.length
    · exact whole_long p a b x y v l w hp ha hb hx hy hl hlr hc hlen
    · exact whole_main p a b x y v l w hp ha hb hx hy hl hlr hc hlen
  · exact whole_par p a b x y v l w hp ha hb hx hy hl hlr hc
end Go.Proofs.YtcbfnflnokoacaaGreat
namespace Go.Proofs.YtcbfnflnokoacaaGreat
set_option maxRecDepth 100000
set_option maxHeartbeats 4000000
open Go Go.RowKit Go.Own Go.ChangeShapes Go.WideShapes Go.ChangeAt Go.WideElems
theorem hash_cells {H : Type} {enc : TypeId × Value → H} {W : World} {sp : Nat → Bool} {held : Bool} {n off : Nat} {cs : List Value} {y : Option (DataW H × List MemPlace)} {z : DataW H × List MemPlace} (h : DataW.trod enc Tryz.prog W 0 sp held n 23 ((cs.drop off).take (Tryz.prog.cellsOf 23)) = y) (hy : y = some z) :
    ∃ l : List UInt8, l.length = 32 ∧ (cs.drop off).take 32 = B l := by
  subst hy
  have hh : Tryz.prog.cellsOf 23 = 32 := by kernel_rfl
  rw [hh] at h
  generalize (cs.drop off).take 32 = c at *
  obtain ⟨xs, m, _, _, hc, hxl, hel⟩ := DataW.trod_array Tryz.underlying23 h
  have hC : Tryz.prog.cellsOf 5 = 1 := by kernel_rfl
  rw [hC] at hel
  obtain ⟨l, hl, hq⟩ := list_of (fun i (x : UInt8) => c[i]? = some (.int .u8 (x.toNat : Int))) 32 (fun i hlt => by
    have h1 := hel i hlt
    rw [List.getElem?_eq_getElem (show i < xs.length by omega)] at h1
    obtain ⟨q, e1, _, e3⟩ := DataW.trod_int Tryz.underlying5 h1
    obtain ⟨x, rfl⟩ := u8_nat e3
    refine ⟨x, ?_⟩
    have h2 : ((c.drop (i * 1)).take 1)[0]? = some (.int .u8 (x.toNat : Int)) := by rw [e1]; rfl
    rw [List.getElem?_take_of_lt (by omega), List.getElem?_drop] at h2
    simpa using h2)
  refine ⟨l, hl, List.ext_getElem? fun i => ?_⟩
  by_cases hi : i < 32
  · obtain ⟨x, hx⟩ : ∃ x, l[i]? = some x := ⟨_, List.getElem?_eq_getElem (by omega)⟩
    rw [hq i x hx, B_get _ _ _ hx]
  · have h32 : c.length = 32 := by rw [hc, hh]
    rw [List.getElem?_eq_none (by omega), List.getElem?_eq_none (by rw [B_length]; omega)]
theorem att_cells {H : Type} {enc : TypeId × Value → H} {W : World} {sp : Nat → Bool} {held : Bool} {n : Nat} {cs : List Value} {z : DataW H × List MemPlace} (h : DataW.trod enc Tryz.prog W 0 sp held n 26 cs = some z) (hl : cs.length = 36) : ∃ a : Att, cs = a.c.toList ∧ a.Ok := by
  have hi : Tryz.prog.cellsOf 3 = 1 := by kernel_rfl
  have hu : Tryz.prog.cellsOf 24 = 1 := by kernel_rfl
  obtain ⟨xs, n', _, _, _, hxl, hf⟩ := DataW.trod_struct Tryz.underlying26 h
  obtain ⟨q0, e0, f0⟩ := field_int Tryz.underlying3 hi (hf 0 _ rfl) (List.getElem?_eq_getElem (by rw [hxl]; decide))
  obtain ⟨q1, e1, f1⟩ := field_int Tryz.underlying3 hi (hf 1 _ rfl) (List.getElem?_eq_getElem (by rw [hxl]; decide))
  obtain ⟨q2, e2, f2⟩ := field_int Tryz.underlying3 hi (hf 2 _ rfl) (List.getElem?_eq_getElem (by rw [hxl]; decide))
  obtain ⟨r, hr, er⟩ := hash_cells (off := 3) (hf 3 _ rfl) (List.getElem?_eq_getElem (by rw [hxl]; decide))
  obtain ⟨q4, e4, f4⟩ := field_int Tryz.underlying24 hu (hf 4 _ rfl) (List.getElem?_eq_getElem (by rw [hxl]; decide))
  obtain ⟨g, hg, rfl⟩ := u64_nat f4
  refine ⟨⟨q0, q1, q2, r, g⟩, ?_, ⟨bounds_i64 f0, bounds_i64 f1, bounds_i64 f2, hr, hg⟩⟩
  match cs, hl, e0, e1, e2, er, e4 with
  | a :: b :: c :: r', hl, e0, e1, e2, er, e4 =>
    have e0 : some a = some (Value.int .i64 q0) := e0
    cases e0
    have e1 : some b = some (Value.int .i64 q1) := e1
    have e2 : some c = some (Value.int .i64 q2) := e2
    cases e1; cases e2
    have e4 : r'[32]? = some (Value.int .u64 (g : Int)) := e4
    have er : r'.take 32 = B r := er
    have hl : r'.length = 33 := by simpa using hl
    simp only [Att.c, List.cons.injEq, true_and]
    rw [← er]
    conv => lhs; rw [← List.take_append_drop 32 r']
    congr 1
    rw [List.drop_eq_getElem_cons (by omega), List.drop_of_length_le (by omega)]
    rw [List.getElem?_eq_getElem (by omega)] at e4
    rw [Option.some.inj e4]
theorem pro_cells {H : Type} {enc : TypeId × Value → H} {W : World} {sp : Nat → Bool} {held : Bool} {n : Nat} {cs : List Value} {z : DataW H × List MemPlace} (h : DataW.trod enc Tryz.prog W 0 sp held n 28 cs = some z) (hl : cs.length = 35) : ∃ a : Pro, cs = a.c.toList ∧ a.Ok := by
  have hi : Tryz.prog.cellsOf 3 = 1 := by kernel_rfl
  have hu : Tryz.prog.cellsOf 24 = 1 := by kernel_rfl
  obtain ⟨xs, n', _, _, _, hxl, hf⟩ := DataW.trod_struct Tryz.underlying28 h
  obtain ⟨q0, e0, f0⟩ := field_int Tryz.underlying3 hi (hf 0 _ rfl) (List.getElem?_eq_getElem (by rw [hxl]; decide))
  obtain ⟨q1, e1, f1⟩ := field_int Tryz.underlying3 hi (hf 1 _ rfl) (List.getElem?_eq_getElem (by rw [hxl]; decide))
  obtain ⟨r, hr, er⟩ := hash_cells (off := 2) (hf 2 _ rfl) (List.getElem?_eq_getElem (by rw [hxl]; decide))
  obtain ⟨q4, e4, f4⟩ := field_int Tryz.underlying24 hu (hf 3 _ rfl) (List.getElem?_eq_getElem (by rw [hxl]; decide))
  obtain ⟨g, hg, rfl⟩ := u64_nat f4
  refine ⟨⟨q0, q1, r, g⟩, ?_, ⟨bounds_i64 f0, bounds_i64 f1, hr, hg⟩⟩
  match cs, hl, e0, e1, er, e4 with
  | a :: b :: r', hl, e0, e1, er, e4 =>
    have e0 : some a = some (Value.int .i64 q0) := e0
    cases e0
    have e1 : some b = some (Value.int .i64 q1) := e1
    cases e1
    have e4 : r'[32]? = some (Value.int .u64 (g : Int)) := e4
    have er : r'.take 32 = B r := er
    have hl : r'.length = 33 := by simpa using hl
    simp only [Pro.c, List.cons.injEq, true_and]
    rw [← er]
    conv => lhs; rw [← List.take_append_drop 32 r']
    congr 1
    rw [List.drop_eq_getElem_cons (by omega), List.drop_of_length_le (by omega)]
    rw [List.getElem?_eq_getElem (by omega)] at e4
    rw [Option.some.inj e4]
theorem open_att {H : Type} {enc : TypeId × Value → H} {W : World} {sp : Nat → Bool} {held : Bool} {v : Value} {d : DataW H} {ps : List MemPlace} {R : Reach} {base : Nat} (h : DataW.Trod enc Tryz.prog W 0 sp held 26 v d ps) (hv : Value.okWide Tryz.prog W R base 26 v) : ∃ a : Att, v = .agg a.c ∧ a.Ok := by
  obtain ⟨cs, rfl, hsz⟩ := okWide_struct Tryz.underlying26 hv
  have hC : Tryz.prog.cellsOf 26 = 36 := by kernel_rfl
  rw [hC] at hsz
  obtain ⟨fuel, ht⟩ := h
  have ht : DataW.trod enc Tryz.prog W 0 sp held fuel 26 cs.toList = some (d, ps) := ht
  obtain ⟨a, ha, hok⟩ := att_cells ht (by simpa using hsz)
  exact ⟨a, congrArg Value.agg (Array.toList_inj.1 ha), hok⟩
theorem open_pro {H : Type} {enc : TypeId × Value → H} {W : World} {sp : Nat → Bool} {held : Bool} {v : Value} {d : DataW H} {ps : List MemPlace} {R : Reach} {base : Nat} (h : DataW.Trod enc Tryz.prog W 0 sp held 28 v d ps) (hv : Value.okWide Tryz.prog W R base 28 v) : ∃ a : Pro, v = .agg a.c ∧ a.Ok := by
  obtain ⟨cs, rfl, hsz⟩ := okWide_struct Tryz.underlying28 hv
  have hC : Tryz.prog.cellsOf 28 = 35 := by kernel_rfl
  rw [hC] at hsz
  obtain ⟨fuel, ht⟩ := h
  have ht : DataW.trod enc Tryz.prog W 0 sp held fuel 28 cs.toList = some (d, ps) := ht
  obtain ⟨a, ha, hok⟩ := pro_cells ht (by simpa using hsz)
  exact ⟨a, congrArg Value.agg (Array.toList_inj.1 ha), hok⟩
end Go.Proofs.YtcbfnflnokoacaaGreat
namespace Go.Proofs.YtcbfnflnokoacaaGreat
set_option maxRecDepth 100000
set_option maxHeartbeats 4000000
open Go Go.RowKit Go.Own Go.ChangeShapes Go.WideShapes Go.ChangeAt Go.WideElems
theorem sel_cells {H : Type} {enc : TypeId × Value → H} {W : World} {sp : Nat → Bool} {held : Bool} {n : Nat} {cs : List Value} {z : DataW H × List MemPlace} (h : DataW.trod enc Tryz.prog W 0 sp held n 30 cs = some z) (hl : cs.length = 34) : ∃ x : Sel, cs = x.cl ∧ x.Ok := by
  have hi : Tryz.prog.cellsOf 3 = 1 := by kernel_rfl
  have hu : Tryz.prog.cellsOf 24 = 1 := by kernel_rfl
  obtain ⟨xs, n', _, _, _, hxl, hf⟩ := DataW.trod_struct Tryz.underlying30 h
  obtain ⟨q0, e0, f0⟩ := field_int Tryz.underlying3 hi (hf 0 _ rfl) (List.getElem?_eq_getElem (by rw [hxl]; decide))
  obtain ⟨r, hr, er⟩ := hash_cells (off := 1) (hf 1 _ rfl) (List.getElem?_eq_getElem (by rw [hxl]; decide))
  obtain ⟨q4, e4, f4⟩ := field_int Tryz.underlying24 hu (hf 2 _ rfl) (List.getElem?_eq_getElem (by rw [hxl]; decide))
  obtain ⟨g, hg, rfl⟩ := u64_nat f4
  refine ⟨⟨q0, r, g⟩, ?_, ⟨bounds_i64 f0, hr, hg⟩⟩
  match cs, hl, e0, er, e4 with
  | c0 :: r', hl, e0, er, e4 =>
    have e0 : some c0 = some (Value.int .i64 q0) := e0
    cases e0
    have er : r'.take 32 = B r := er
    have e4 : r'[32]? = some (.int .u64 ((g : Nat) : Int)) := e4
    have hl : r'.length = 33 := by simpa using hl
    show _ :: r' = _ :: (B r ++ [_])
    congr 1
    rw [← er]
    conv => lhs; rw [← List.take_append_drop 32 r']
    congr 1
    apply List.ext_getElem?
    intro i
    rw [List.getElem?_drop]
    match i with
    | 0 => exact e4
    | i + 1 => rw [List.getElem?_eq_none (by omega), List.getElem?_eq_none (by simp)]
theorem open_sels {H : Type} {enc : TypeId × Value → H} {W : World} {sp : Nat → Bool} {held : Bool} {v : Value} {d : DataW H} {ps : List MemPlace} (h : DataW.Trod enc Tryz.prog W 0 sp held 46 v d ps) (hv : ∃ a len cap, v = .slice a len cap) : ∃ l : List Sel, SelsAt W v l ∧ ∀ x ∈ l, x.r.length = 32 := by
  have hC : Tryz.prog.cellsOf 30 = 34 := by kernel_rfl
  obtain ⟨a, len, cap, rfl, hl, hm, hnz, hi⟩ := open_elemsN Tryz.underlying46 (by rw [hC]; omega) h hv
  rw [hC] at hi
  obtain ⟨l, hll, hq⟩ := list_of (fun i (x : Sel) => x.Ok ∧ ∃ b o, a = some ⟨b, o, none⟩ ∧ ∀ (j : Nat) (u : Value), x.cl[j]? = some u → W.cell? ⟨b, o + i * 34 + j, none⟩ = some u) len (fun i hlt => by
    obtain ⟨b, o, cs, n, y, ha, hcl, hcell, ht⟩ := hi i hlt
    obtain ⟨x, rfl, hok⟩ := sel_cells ht hcl
    exact ⟨x, hok, b, o, ha, fun j u hj => (hcell j (by have := (List.getElem?_eq_some_iff.1 hj).1; omega)).trans hj⟩)
  subst hll
  refine ⟨l, ⟨⟨a, cap, rfl, hl, hm, hnz⟩, fun k x hk => ?_⟩, fun x hx => ?_⟩
  · obtain ⟨hok, b, o, rfl, hc⟩ := hq k x hk
    exact ⟨b, o, cap, rfl, World.block_lt_of_cell? W _ (hc 0 (.int .i64 x.v) rfl), hc⟩
  · obtain ⟨k, hk⟩ := List.getElem?_of_mem hx
    exact (hq k x hk).1.r
end Go.Proofs.YtcbfnflnokoacaaGreat
namespace Go.Proofs.YtcbfnflnokoacaaGreat
set_option maxRecDepth 100000
set_option maxHeartbeats 4000000
open Go Go.RowKit Go.Own Go.ChangeShapes Go.WideShapes Go.ChangeAt Go.WideElems
section
variable {H : Type} {enc : TypeId × Value → H} {W : World} {sp : Nat → Bool} {held : Bool} {n off : Nat} {cs : List Value} {y : Option (DataW H × List MemPlace)} {z : DataW H × List MemPlace}
end
end Go.Proofs.YtcbfnflnokoacaaGreat
namespace Go.Proofs.YtcbfnflnokoacaaGreat
set_option maxRecDepth 100000
open Go Go.RowKit Go.Own Go.ChangeShapes Go.WideShapes Go.ChangeAt Go.WideElems
theorem open_params {H : Type} {enc : TypeId × Value → H} {W : World} {sp : Nat → Bool} {held : Bool} {v : Value} {d : DataW H} {ps : List MemPlace} {R : Reach} {base : Nat} (h : DataW.Trod enc Tryz.prog W 0 sp held 45 v d ps) (hv : Value.okWide Tryz.prog W R base 45 v) :
    ∃ p : Par, v = p.v ∧ p.Ok := by
  obtain ⟨cs, rfl, hsz⟩ := okWide_struct Tryz.underlying45 hv
  have hC : Tryz.prog.cellsOf 45 = 11 := by kernel_rfl
  have hi : Tryz.prog.cellsOf 3 = 1 := by kernel_rfl
  have hu : Tryz.prog.cellsOf 24 = 1 := by kernel_rfl
  rw [hC] at hsz
  obtain ⟨fuel, ht⟩ := h
  have ht : DataW.trod enc Tryz.prog W 0 sp held fuel 45 cs.toList = some (d, ps) := ht
  obtain ⟨xs, n', _, _, _, hxl, hf⟩ := DataW.trod_struct Tryz.underlying45 ht
  obtain ⟨q0, e0, f0⟩ := field_int Tryz.underlying3 hi (hf 0 _ rfl) (List.getElem?_eq_getElem (by rw [hxl]; decide))
  obtain ⟨q1, e1, f1⟩ := field_int Tryz.underlying3 hi (hf 1 _ rfl) (List.getElem?_eq_getElem (by rw [hxl]; decide))
  obtain ⟨q2, e2, f2⟩ := field_int Tryz.underlying3 hi (hf 2 _ rfl) (List.getElem?_eq_getElem (by rw [hxl]; decide))
  obtain ⟨q3, e3, f3⟩ := field_int Tryz.underlying3 hi (hf 3 _ rfl) (List.getElem?_eq_getElem (by rw [hxl]; decide))
  obtain ⟨q4, e4, f4⟩ := field_int Tryz.underlying3 hi (hf 4 _ rfl) (List.getElem?_eq_getElem (by rw [hxl]; decide))
  obtain ⟨q5, e5, f5⟩ := field_int Tryz.underlying3 hi (hf 5 _ rfl) (List.getElem?_eq_getElem (by rw [hxl]; decide))
  obtain ⟨q6, e6, f6⟩ := field_int Tryz.underlying3 hi (hf 6 _ rfl) (List.getElem?_eq_getElem (by rw [hxl]; decide))
  obtain ⟨q7, e7, f7⟩ := field_int Tryz.underlying24 hu (hf 7 _ rfl) (List.getElem?_eq_getElem (by rw [hxl]; decide))
  obtain ⟨q8, e8, f8⟩ := field_int Tryz.underlying24 hu (hf 8 _ rfl) (List.getElem?_eq_getElem (by rw [hxl]; decide))
  obtain ⟨q9, e9, f9⟩ := field_int Tryz.underlying3 hi (hf 9 _ rfl) (List.getElem?_eq_getElem (by rw [hxl]; decide))
  obtain ⟨q10, e10, f10⟩ := field_int Tryz.underlying24 hu (hf 10 _ rfl) (List.getElem?_eq_getElem (by rw [hxl]; decide))
  have ui : ∀ {a : Int}, (Lit.int .i64 a).wf = true → i64ok a := fun h => bounds_i64 h
  have uu : ∀ {a : Int}, (Lit.int .u64 a).wf = true → u64ok a := fun h => by
    obtain ⟨n, h1, rfl⟩ := u64_nat h
    unfold u64ok; omega
  refine ⟨⟨q0, q1, q2, q3, q4, q5, q6, q7, q8, q9, q10⟩, ?_, ⟨ui f0, ui f1, ui f2, ui f3, ui f4, ui f5, ui f6, uu f7, uu f8, ui f9, uu f10⟩⟩
  have : cs = #[.int .i64 q0, .int .i64 q1, .int .i64 q2, .int .i64 q3, .int .i64 q4, .int .i64 q5, .int .i64 q6, .int .u64 q7, .int .u64 q8, .int .i64 q9, .int .u64 q10] := by
    apply Array.ext_getElem?
    intro i
    by_cases hlt : i < 11
    · have h' : i = 0 ∨ i = 1 ∨ i = 2 ∨ i = 3 ∨ i = 4 ∨ i = 5 ∨ i = 6 ∨ i = 7 ∨ i = 8 ∨ i = 9 ∨ i = 10 := by omega
      have tl : ∀ j : Nat, cs[j]? = cs.toList[j]? := fun j => by simp
      rw [tl]
      rcases h' with rfl | rfl | rfl | rfl | rfl | rfl | rfl | rfl | rfl | rfl | rfl <;> assumption
    · rw [Array.getElem?_eq_none (by omega), Array.getElem?_eq_none (by simp; omega)]
  rw [this]; rfl
end Go.Proofs.YtcbfnflnokoacaaGreat
namespace Go.Proofs.YtcbfnflnokoacaaGreat.evidenceWhole
open Go.ChangeShapes Go.WideShapes Go.ChangeAt Go.RowKit Go.Own
open Go.ChangeMaps (open_string shut_string)
theorem own : ownKnob Tryz.prog.godebug = none := by kernel_rfl
theorem laid : laidOutB Tryz.prog = true := by kernel_rfl
set_option maxRecDepth 100000 in
theorem lifted (os : Os) (started : os.Started) (H : Type) (enc : TypeId × Value → H) :
    ReturnsInHanded {} Tryz.checked os 6 .any (Rows.evidenceWholeSpec.pre6 enc Tryz.prog Tryz.f6 Rows.evidenceWholeRow.domain false) (Rows.evidenceWholeSpec.post enc Tryz.prog Tryz.f6 false true false false) := by
  refine returnsInHanded_of_change (C := Tryz.checked) own started (by kernel_rfl) Tryz.func6
    (ChangeSpec.witness6 (enc := enc) (C := Tryz.checked) false ⟨#[], #[.agg #[.int .i64 0, .int .i64 0, .int .i64 0, .int .i64 0, .int .i64 0, .int .i64 0, .int .i64 0, .int .u64 0, .int .u64 0, .int .i64 0, .int .u64 0], .agg #[.int .i64 0, .int .i64 0, .int .i64 0, .int .u8 0, .int .u8 0, .int .u8 0, .int .u8 0, .int .u8 0, .int .u8 0, .int .u8 0, .int .u8 0, .int .u8 0, .int .u8 0, .int .u8 0, .int .u8 0, .int .u8 0, .int .u8 0, .int .u8 0, .int .u8 0, .int .u8 0, .int .u8 0, .int .u8 0, .int .u8 0, .int .u8 0, .int .u8 0, .int .u8 0, .int .u8 0, .int .u8 0, .int .u8 0, .int .u8 0, .int .u8 0, .int .u8 0, .int .u8 0, .int .u8 0, .int .u8 0, .int .u64 0], .agg #[.int .i64 0, .int .i64 0, .int .i64 0, .int .u8 0, .int .u8 0, .int .u8 0, .int .u8 0, .int .u8 0, .int .u8 0, .int .u8 0, .int .u8 0, .int .u8 0, .int .u8 0, .int .u8 0, .int .u8 0, .int .u8 0, .int .u8 0, .int .u8 0, .int .u8 0, .int .u8 0, .int .u8 0, .int .u8 0, .int .u8 0, .int .u8 0, .int .u8 0, .int .u8 0, .int .u8 0, .int .u8 0, .int .u8 0, .int .u8 0, .int .u8 0, .int .u8 0, .int .u8 0, .int .u8 0, .int .u8 0, .int .u64 0], .agg #[.int .i64 0, .int .i64 0, .int .u8 0, .int .u8 0, .int .u8 0, .int .u8 0, .int .u8 0, .int .u8 0, .int .u8 0, .int .u8 0, .int .u8 0, .int .u8 0, .int .u8 0, .int .u8 0, .int .u8 0, .int .u8 0, .int .u8 0, .int .u8 0, .int .u8 0, .int .u8 0, .int .u8 0, .int .u8 0, .int .u8 0, .int .u8 0, .int .u8 0, .int .u8 0, .int .u8 0, .int .u8 0, .int .u8 0, .int .u8 0, .int .u8 0, .int .u8 0, .int .u8 0, .int .u8 0, .int .u64 0], .agg #[.int .i64 0, .int .i64 0, .int .u8 0, .int .u8 0, .int .u8 0, .int .u8 0, .int .u8 0, .int .u8 0, .int .u8 0, .int .u8 0, .int .u8 0, .int .u8 0, .int .u8 0, .int .u8 0, .int .u8 0, .int .u8 0, .int .u8 0, .int .u8 0, .int .u8 0, .int .u8 0, .int .u8 0, .int .u8 0, .int .u8 0, .int .u8 0, .int .u8 0, .int .u8 0, .int .u8 0, .int .u8 0, .int .u8 0, .int .u8 0, .int .u8 0, .int .u8 0, .int .u8 0, .int .u8 0, .int .u64 0], .slice none 0 0], []⟩ 8 (by kernel_rfl) (by kernel_rfl) (by kernel_rfl) (by kernel_rfl)) ?_
  intro W base args ds gs before hval0 hW hcnd _
  have hval : ∀ (j : Nat) t v, Tryz.f6.params[j]? = some t → args[j]? = some v → Value.okWide Tryz.prog W .any base t v := hval0
  have hW' := hW
  obtain ⟨p, q, hA0, hV, rfl, hfz, hnd⟩ := hW
  have hA : DataW.TrodAll enc Tryz.prog W 0 (fun _ => true) true Tryz.f6.params.toList args.toList ds p := hA0
  rw [Tryz.params6] at hA hval
  obtain ⟨v0, vs0, d0, ds0, p0, q0, hargs, rfl, rfl, h0, r0⟩ := trodAll_cons hA
  obtain ⟨v1, vs1, d1, ds1, p1, q1, rfl, rfl, rfl, h1, r1⟩ := trodAll_cons r0
  obtain ⟨v2, vs2, d2, ds2, p2, q2, rfl, rfl, rfl, h2, r2⟩ := trodAll_cons r1
  obtain ⟨v3, vs3, d3, ds3, p3, q3, rfl, rfl, rfl, h3, r3⟩ := trodAll_cons r2
  obtain ⟨v4, vs4, d4, ds4, p4, q4, rfl, rfl, rfl, h4, r4⟩ := trodAll_cons r3
  obtain ⟨v5, vs5, d5, ds5, p5, q5, rfl, rfl, rfl, h5, r5⟩ := trodAll_cons r4
  obtain ⟨rfl, rfl, rfl⟩ := trodAll_nil r5
  obtain rfl : args = #[v0, v1, v2, v3, v4, v5] := by cases args; simp_all
  obtain ⟨rfl, rfl⟩ := trodVars_none hV
  obtain ⟨p0, rfl, hp0⟩ := open_params h0 (hval 0 45 v0 rfl rfl)
  obtain ⟨x1, rfl, ha1⟩ := open_att h1 (hval 1 26 v1 rfl rfl)
  obtain ⟨x2, rfl, ha2⟩ := open_att h2 (hval 2 26 v2 rfl rfl)
  obtain ⟨x3, rfl, hp3⟩ := open_pro h3 (hval 3 28 v3 rfl rfl)
  obtain ⟨x4, rfl, hp4⟩ := open_pro h4 (hval 4 28 v4 rfl rfl)
  obtain ⟨l5, hl5⟩ := open_sels h5 (okWide_slice Tryz.underlying46 (hval 5 46 v5 rfl rfl))
  clear hA0 hval0
  refine (evidenceWhole_ok p0 hp0 x1 x2 x3 x4 v5 l5 W ha1 ha2 hp3 hp4 hl5).mono fun e W' ⟨he, hg⟩ => ?_
  subst he
  exact ⟨_, rfl, law_post laid (by kernel_rfl) rfl Tryz.underlying4 rfl rfl hW' (hg.below (Nat.le_refl _) (fun _ _ x => x))⟩
theorem proved : Rows.EvidenceWholeSaid :=
  OpenClaim.holds_of_wide 6 Tryz.f6 rfl rfl rfl rfl rfl rfl rfl ⟨rfl, rfl, rfl, rfl, rfl⟩ rfl rfl rfl rfl rfl (by kernel_rfl) Tryz.func6 (by kernel_rfl)
    (of_decide_eq_true (by kernel_rfl)) (by unfold Func.isWrapper; first | (rw [if_pos (by decide +kernel)]; kernel_rfl) | (rw [if_neg (by decide +kernel)]; exact ⟨rfl, rfl⟩))
    (fun os started H enc _ => lifted os started H enc)
end Go.Proofs.YtcbfnflnokoacaaGreat.evidenceWhole
