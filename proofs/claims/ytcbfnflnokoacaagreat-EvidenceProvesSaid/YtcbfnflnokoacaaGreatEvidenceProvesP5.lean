import Derived.Test.YtcbfnflnokoacaaGreatEvidenceProvesP4
namespace Go.Own
set_option maxRecDepth 100000
set_option maxHeartbeats 4000000
open Go Go.RowKit Go.Shelf
theorem fold_seg (off : Nat) (vs : List Value) (cs : Array Value) (h : off + vs.length ≤ cs.size) : (vs.zipIdx 0).foldl (fun cs (x : Value × Nat) => cs.setIfInBounds (off + x.2) x.1) cs = seg cs off vs := by
  obtain ⟨h1, h2⟩ := Great.foldl_set off vs 0 cs
  apply Array.ext_getElem?
  intro k
  rw [h2 k]
  simp only [seg, List.getElem?_toArray, Nat.add_zero]
  by_cases ha : k < off
  · rw [if_neg (by omega), List.append_assoc, List.getElem?_append_left (by simp; omega), List.getElem?_take_of_lt ha]; simp
  · by_cases hb : k < off + vs.length
    · rw [if_pos (by omega), List.append_assoc, List.getElem?_append_right (by simp; omega), List.length_take, Nat.min_eq_left (by simp; omega), List.getElem?_append_left (by omega)]
    · rw [if_neg (by omega), List.getElem?_append_right (by simp; omega), List.getElem?_drop, List.length_append, List.length_take, Nat.min_eq_left (by simp; omega), show off + vs.length + (k - (off + vs.length)) = k by omega]; simp
theorem fill_seg {place : Nat → Option (Nat × Nat)} {cs ds r : Array Value} {i off n : Nat} {v : Value} {rest : List (Nat × Value)} (hp : place i = some (off, n)) (hv : v.cells.size = n) (hn : off + n ≤ cs.size) (hs : seg cs off v.cells.toList = ds) (h : Instr.fill place ds rest = some r) : Instr.fill place cs ((i, v) :: rest) = some r := by
  unfold Instr.fill
  simp only [hp, hv]
  rw [if_neg (by simp; omega), ← Array.foldl_toList, Array.toList_zipIdx, fold_seg off v.cells.toList cs (by simpa [hv] using hn), hs]
  exact h
section
variable {P : Program} {o : Oper} {ρ : Operand → Value} {w : World}
theorem exec_build_fill (t : TypeId) (ps : Array (Nat × Operand)) (ho : o.op = .build t ps) (qs : List (Nat × Value)) (hq : (ps.map fun (i, x) => (i, ρ x)).toList = qs) (fs : Array Field) (hu : P.underlying t = some (.struct fs)) (zv : Value) (hz : ∀ w, (zeroValue t).run P w = .ok zv w)
    (places : Array (Nat × Nat)) (hp : ∀ w, (fs.mapM fun f => do pure (f.offset, ← sizeOf f.type) : Sem (Array (Nat × Nat))).run P w = .ok places w) (cells : Array Value) (hf : Instr.fill (places[·]?) zv.cells qs = some cells) : (execOp ρ o).run P w = .ok (.value (.agg cells)) w := by
  subst hq
  refine exec_build t ps ho _ rfl ?_
  unfold Instr.build
  simp only [Sem.run_bind, hz, Result.andThen_ok, run_underlying hu, hp]
  rw [hf]
  rfl
/-- A slice literal, all of whose elements are given. -/
theorem exec_buildAll (t e : TypeId) (n : Nat) (ps : Array (Nat × Operand)) (ho : o.op = .buildSlice t n ps) (vs : List Value) (hq : (ps.map fun (i, x) => (i, ρ x)).toList = ((vs.zipIdx 0).map fun x => (x.2, x.1))) (ie : TypeInfo) (z : Value) (hu : P.underlying t = some (.slice e)) (hie : P.info? e = some ie) (hz : ie.zero = some z)
    (s : Nat) (hs : ie.size = s) (hs0 : 0 < s) (hn : vs.length = n) (hn0 : 0 < n) (hs1 : n * s ≤ 16777216) (hv : ∀ v ∈ vs, v.cells.size = s) : (execOp ρ o).run P w = .ok (.value (.slice (some ⟨w.heap.size, 0, none⟩) n n)) (w.alloc (.cells (vs.flatMap fun v => v.cells.toList).toArray e)) := by
  have hf : Instr.fill (fun i => some (i * ie.size, ie.size)) ((Array.range (n * ie.size)).map (z.cells[· % z.cells.size]!)) (ps.map fun (i, x) => (i, ρ x)).toList = some (vs.flatMap fun v => v.cells.toList).toArray := by
    rw [hq]
    exact Great.fill_whole (s := ie.size) (by omega) vs _ (fun u hu => by rw [hv u hu, hs]) (by simp [hn])
  have hp : ¬ n * ie.size = 0 := by rw [hs]; exact Nat.ne_of_gt (Nat.mul_pos hn0 hs0)
  unfold execOp
  simp only [ho, Sem.run_bind, run_buildSlice w t e n _ _ ie z hu hie hz (by rw [hs]; omega) hp hf, Result.andThen_ok, Sem.run_pure]
end
end Go.Own
namespace Go.Proofs.YtcbfnflnokoacaaGreat
set_option maxRecDepth 100000
set_option maxHeartbeats 4000000
open Go Go.RowKit Go.Own Go.Shelf
/-- A vote's stamp: whose, of what, its tag. -/
structure Sel where
  (v : Int) (r : List UInt8) (g : Nat)
  deriving DecidableEq
def Sel.c (a : Sel) : Array Value := (.int .i64 a.v :: (B a.r ++ [.int .u64 ((a.g : Nat) : Int)])).toArray
def Sel.cl (a : Sel) : List Value := a.c.toList
structure Sel.Ok (a : Sel) : Prop where
  v : i64b a.v
  r : a.r.length = 32
  g : a.g < 2 ^ 64
section
variable (a : Sel)
theorem Sel.c_size (h : a.r.length = 32) : a.c.size = 34 := by simp [Sel.c, B_length, h]
theorem Sel.cl_len {a : Sel} (h : a.r.length = 32) : a.cl.length = 34 := by simp [Sel.cl, Sel.c, B_length, h]
theorem Sel.c_0 : a.c[0]? = some (.int .i64 a.v) := by simp [Sel.c]
theorem Sel.c_tag (h : a.r.length = 32) : a.c[33]? = some (.int .u64 ((a.g : Nat) : Int)) := by
  simp only [Sel.c, List.getElem?_toArray, List.getElem?_cons_succ]
  rw [List.getElem?_append_right (by rw [B_length]; omega), B_length, h]; rfl
theorem Sel.c_seg : ∀ (j : Nat) (x : Value), (B a.r)[j]? = some x → a.c[1 + j]? = some x := fun j x h => by
  simp only [Sel.c, List.getElem?_toArray, show 1 + j = j + 1 by omega, List.getElem?_cons_succ]
  rw [List.getElem?_append_left (List.getElem?_eq_some_iff.1 h).1]; exact h
theorem Sel.c_one : a.c.all (·.oneCell') = true := by
  simp only [Sel.c, List.all_toArray, List.all_cons, List.all_append]
  rw [List.all_eq_true.2 (B_one a.r)]; rfl
theorem Sel.c_seth (x : List UInt8) (h : a.r.length = 32) (hx : x.length = 32) : seg a.c 1 (B x) = Sel.c ⟨a.v, x, a.g⟩ := by
  apply Array.toList_inj.1
  simp only [seg, Sel.c, B_length, hx]
  simp only [List.take_succ_cons, List.take_zero, List.drop_succ_cons, Nat.reduceAdd]
  rw [show List.drop 32 (B a.r ++ [Value.int IntKind.u64 ((a.g : Nat) : Int)]) = [Value.int IntKind.u64 ((a.g : Nat) : Int)] by rw [List.drop_append_of_le_length (by rw [B_length]; omega), List.drop_of_length_le (by rw [B_length]; omega)]; rfl]
  simp
theorem Sel.c_setg (x : Nat) (h : a.r.length = 32) : seg a.c 33 [.int .u64 ((x : Nat) : Int)] = Sel.c ⟨a.v, a.r, x⟩ := by
  apply Array.toList_inj.1
  simp only [seg, Sel.c, List.length_cons, List.length_nil, Nat.reduceAdd]
  simp only [List.take_succ_cons, List.drop_succ_cons]
  rw [List.take_append_of_le_length (by rw [B_length]; omega), List.take_of_length_le (by rw [B_length]; omega), List.drop_of_length_le (by simp [B_length, h])]
  simp
end
def selZ : Sel := ⟨0, zhash, 0⟩
theorem selZ_r : selZ.r.length = 32 := rfl
def Att.sel (a : Att) : Sel := if a.fine then ⟨a.v, a.dg, a.g⟩ else selZ
def Pro.sel (a : Pro) : Sel := if a.fine then ⟨a.v, a.dg, a.g⟩ else selZ
theorem Att.sel_ok {a : Att} (h : a.fine) : a.sel = ⟨a.v, a.dg, a.g⟩ := if_pos h
theorem Att.sel_no {a : Att} (h : ¬ a.fine) : a.sel = selZ := if_neg h
theorem Pro.sel_ok {a : Pro} (h : a.fine) : a.sel = ⟨a.v, a.dg, a.g⟩ := if_pos h
theorem Pro.sel_no {a : Pro} (h : ¬ a.fine) : a.sel = selZ := if_neg h
theorem Att.sel_r (a : Att) : a.sel.r.length = 32 := by unfold Att.sel; split; exact a.dg_len; rfl
theorem Pro.sel_r (a : Pro) : a.sel.r.length = 32 := by unfold Pro.sel; split; exact a.dg_len; rfl
/-- A seal's literal. -/
theorem fill_sel (v : Int) (d : List UInt8) (g : Nat) (hd : d.length = 32) : Instr.fill ((#[(0, 1), (1, 32), (33, 1)] : Array (Nat × Nat))[·]?) selZ.c [(0, .int .i64 v), (1, .agg (B d).toArray), (2, .int .u64 ((g : Nat) : Int))] = some (Sel.c ⟨v, d, g⟩) := by
  have h0 : (⟨v, zhash, 0⟩ : Sel).r.length = 32 := rfl
  refine fill_seg (ds := Sel.c ⟨v, zhash, 0⟩) rfl rfl (by decide) (by kernel_rfl) <| fill_seg (ds := Sel.c ⟨v, d, 0⟩) rfl (by rw [show (Value.agg (B d).toArray).cells = (B d).toArray from rfl]; simp [B_length, hd]) (by rw [Sel.c_size _ h0]; decide) (Sel.c_seth ⟨v, zhash, 0⟩ d h0 hd) ?_
  refine fill_seg (ds := Sel.c ⟨v, d, g⟩) rfl rfl (by rw [Sel.c_size _ hd]; decide) (Sel.c_setg ⟨v, d, 0⟩ g hd) rfl
/-- Is evidence that may be an offence? -/
def Msg.cla (m : Msg) : Bool := if m.pf = 1 then doub m.a m.b else if m.pf = 2 then surr m.a m.b else doubP m.p m.q
/-- Why a message is no evidence. -/
def Msg.evi (m : Msg) : Int := if m.chk = 0 then (if m.k = 8 then 0 else 5) else m.chk
def hgt (p : Par) (m : Msg) : Int × Int := if m.pf = 1 ∨ m.pf = 2 then p.first (max m.a.t m.b.t) else (m.p.h, 0)
def firstE : List Int → Int
  | [] => 0
  | x :: r => if x = 0 then firstE r else x
/-- An offence: whose, of which class, when. -/
structure Off where
  (v c h : Int)
  deriving DecidableEq
def Off.cs (o : Off) : Array Value := #[.int .i64 o.v, .int .i64 o.c, .int .i64 o.h]
def offZ : Off := ⟨0, 0, 0⟩
def offE (p : Par) (m : Msg) : Int := firstE [p.check.1, m.evi, if m.cla then 0 else 18]
def offe (p : Par) (m : Msg) : Off × Int := if offE p m = 0 then (if (hgt p m).2 = 0 then (if m.pf = 3 then (⟨m.p.v, 2, (hgt p m).1⟩, 0) else (⟨m.a.v, 1, (hgt p m).1⟩, 0)) else (offZ, (hgt p m).2)) else (offZ, offE p m)
def Msg.sls (m : Msg) : List Sel := if m.pf = 3 then [m.p.sel, m.q.sel] else [m.a.sel, m.b.sel]
def hasE (l xs : List Sel) : Int := if xs.all (fun x => decide (x ∈ l)) then 0 else 15
def sgnd (l : List Sel) (m : Msg) : Int := firstE [m.evi, hasE l m.sls]
/-- What two votes prove. -/
def proves (a b : Att) : Msg × Bool := if doub a b then ({ msgZ with k := 8, pf := 1, a := a, b := b }, true) else if surr a b then ({ msgZ with k := 8, pf := 2, a := a, b := b }, true) else if surr b a then ({ msgZ with k := 8, pf := 2, a := b, b := a }, true) else (msgZ, false)
def provesP (p q : Pro) : Msg × Bool := if doubP p q then ({ msgZ with k := 8, pf := 3, p := p, q := q }, true) else (msgZ, false)
abbrev SelsAt (w : World) (v : Value) (l : List Sel) : Prop := Sl w 34 Sel.cl v l
end Go.Proofs.YtcbfnflnokoacaaGreat
namespace Go.Proofs.YtcbfnflnokoacaaGreat
set_option maxRecDepth 100000
set_option maxHeartbeats 4000000
open Go Go.RowKit Go.Own Go.Shelf
theorem Sel.c_ext (a : Sel) (h : a.r.length = 32) : a.c.extract 1 33 = (B a.r).toArray := by
  apply Array.toList_inj.1
  rw [Array.toList_extract]
  simp only [Sel.c, List.extract_eq_take_drop, List.drop_succ_cons, List.drop_zero, Nat.reduceSub]
  rw [List.take_append_of_le_length (by rw [B_length]; omega), List.take_of_length_le (by rw [B_length]; omega)]
theorem sel_guard : Tryz.prog.eqGuardType Tryz.prog.depth 30 = false := by kernel_rfl
theorem sel_equal (a b : Sel) (ha : a.r.length = 32) (hb : b.r.length = 32) (w : World) : (Op.equalIn 10000 30 (.agg a.c) (.agg b.c)).run Tryz.prog w = .ok (decide (a = b)) w := by
  rw [run_equalIn_struct w 9999 30 _ _ (by kernel_rfl) (by kernel_rfl)]
  simp only [Program.fieldsOf, Tryz.underlying30]
  rw [eqF_int (d := 9998) (k := .i64) (a := a.v) (b := b.v) w (by decide) Tryz.underlying3 (by kernel_rfl) (Sel.c_0 a) (Sel.c_0 b), eqF_hash (d := 9997) (l := a.r) (m := b.r) w (by decide) rfl (Sel.c_ext a ha) (Sel.c_ext b hb) ha hb,
    eqF_int (d := 9998) (k := .u64) (a := ((a.g : Nat) : Int)) (b := ((b.g : Nat) : Int)) w (by decide) Tryz.underlying24 (by kernel_rfl) (Sel.c_tag a ha) (Sel.c_tag b hb)]
  simp only [Op.eqFields, Sem.run_pure]
  obtain ⟨v, r, g⟩ := a
  obtain ⟨v', r', g'⟩ := b
  simp only [Sel.mk.injEq]
  by_cases h1 : v = v' <;> by_cases h4 : r = r' <;> by_cases h5 : g = g' <;> simp [h1, h4, h5] <;> omega
theorem sel_eq (a b : Sel) (ha : a.r.length = 32) (hb : b.r.length = 32) (w : World) : (binOp .eql 30 (.agg a.c) (.agg b.c)).run Tryz.prog w = .ok (.bool (decide (a = b))) w := by rw [run_eql_struct, sel_equal a b ha hb]; rfl
theorem sel_ne (a b : Sel) (ha : a.r.length = 32) (hb : b.r.length = 32) (w : World) : (binOp .neq 30 (.agg a.c) (.agg b.c)).run Tryz.prog w = .ok (.bool (!decide (a = b))) w := by rw [run_neq_struct, sel_equal a b ha hb]; rfl
noncomputable def qc75_3 (n : Nat) : Code := partOf Tryz.f41 n
noncomputable abbrev qo75_3 (n k : Nat) : Oper := (opsAt (qc75_3 n)).getD k default
theorem esealedA_ok (a : Att) (w : World) (ha : a.Ok) :
    Calls Tryz.prog 41 #[.agg (Att.c a), .func (.func 39) #[] #[], .int .i64 a.v, .int .u64 ((a.g : Nat) : Int)] w (fun e w' => e = .returned (.tuple #[.agg (Sel.c a.sel), .int .i64 a.err]) ∧ Keeps Nob w w') := by
  have hr := ha.r
  have K0 : Keeps Nob w w := Keeps.refl _ _
  refine sy_enter (qc75_3 1) ⟨#[.agg (Att.c a), .func (.func 39) #[] #[], .int .i64 a.v, uN a.g, ud, ud, ud, ud, ud, ud, ud, ud, ud, ud, ud, ud, ud, ud, ud, ud, ud, ud, ud, ud, ud, ud], []⟩ Tryz.func41 (by kernel_rfl) (by kernel_rfl) <| sy_sq (qc75_3 2) (qc75_3 3) <| sy_reg <| rg_q 0 [0, 1, 2] ?_
  obtain ⟨V1, eV1, ga, ega, h2, kV1⟩ := alloc_step w ((Att.c a)) 26
  have n3 : w.heap.size ≤ ga := ega ▸ K0.size
  refine prq (pT ga 0) (w' := V1) (by rw [← eV1, ← ega]; exact exec_box 26 (.tmp 0) (by kernel_rfl) (.agg (Att.c a)) (by kernel_rfl)) ?_
  clear eV1
  have K4 := K0.nn kV1
  have z5 := kV1.size
  obtain ⟨V6, eV6, gs, egs, h7, kV6⟩ := alloc_step V1 ((Sel.c selZ)) 30
  have n8 : ga < gs := egs ▸ lt_of_block h2
  have n9 : w.heap.size ≤ gs := egs ▸ K4.size
  refine prq (pT gs 0) (w' := V6) (by rw [← eV6, ← egs]; exact exec_alloc0 30 (by kernel_rfl) (.agg ((Sel.c selZ))) (by kernel_rfl)) ?_
  clear eV6
  have h10 := kV6.bk h2
  have K11 := K4.nn kV6
  have z12 := kV6.size
  refine pkq (.int .i64 0) <| ps_end <| then_n <| sy_sq (qc75_3 6) (qc75_3 7) <| sy_reg <| rg_q 1 [0, 1, 2, 3, 4, 5, 6, 7, 8] <| pkq (.func (.func 39) #[] #[]) <| ppq (.agg (Att.c a)) (exec_load_row 26 (.tmp 4) (by kernel_rfl) ga (by kernel_rfl) _ _ (0, 0) _ (h10) Tryz.underlying26 rfl (by rw [Att.c_size _ hr]; kernel_rfl)) ?_
  refine ps_callV (qo75_3 6 2) (.tmp 13) 39 #[] #[] #[.agg (Att.c a)] (by kernel_rfl) (by kernel_rfl) (by kernel_rfl) (by kernel_rfl) (by kernel_rfl) (enters_of Tryz.func39 (by kernel_rfl) rfl) ((vDigest_any a _ ha).mono ?_)
  rintro e V13 ⟨rfl, kV13⟩
  refine ⟨_, rfl, ?_⟩
  have h14 := kV13.bk h10
  have h15 := kV13.bk h7
  have K16 := K11.nn kV13
  have z17 := kV13.size
  refine pkq (.tuple #[.agg (B a.dg).toArray, .int .i64 a.err]) <| pkq (.agg (B a.dg).toArray) <| pkq (.int .i64 a.err) ?_
  obtain ⟨V18, eV18, gx, egx, h19, kV18⟩ := alloc_step V13 (zr_u8_32) 23
  have n20 : ga < gx := egx ▸ lt_of_block h14
  have n21 : gs < gx := egx ▸ lt_of_block h15
  have n22 : w.heap.size ≤ gx := egx ▸ K16.size
  refine prq (pT gx 0) (w' := V18) (by rw [← eV18, ← egx]; exact exec_alloc0 23 (by kernel_rfl) (.agg (zr_u8_32)) (by kernel_rfl)) ?_
  clear eV18
  have h24 := kV18.bk h15
  have K25 := K16.nn kV18
  have z26 := kV18.size
  obtain ⟨V27, eV27, kV27⟩ := rowset_step V18 gx ((B a.dg).toArray)
  have h28 : V27.heap[gx]? = some (.cells ((B a.dg).toArray) 23 (0, 0)) := eV27 ▸ setRow_heap _ _ _ _ _ _ h19
  refine pzq (w' := V27) (by rw [← eV27]; exact exec_store_row 23 (.tmp 10) (.tmp 16) (by kernel_rfl) gx ((B a.dg).toArray) (by kernel_rfl) (by kernel_rfl) 23 (zr_u8_32) h19 (by rw [Bz_size, Att.dg_len]; kernel_rfl) (by rw [Bz_size, Att.dg_len]; rfl) (by rw [List.all_toArray]; exact List.all_eq_true.2 (B_one _))) ?_
  clear eV27
  have h30 := kV27.bo h24 (by omega)
  have K31 := K25.no kV27 (by omega)
  have z32 := kV27.size
  refine pkq (.int .i64 a.err) <| ps_end <| then_n <| sy_sq (qc75_3 14) (qc75_3 15) <| sy_sq (qc75_3 28) (qc75_3 29) <| sy_reg <| rg_q 2 [0, 1] ?_
  by_cases c0 : a.fine
  · have e0 := Att.err_ok c0
    refine pkq (.int .i64 a.err) <| ppq (.bool false) (nqf ((a.err) : Int) ((0) : Int) (by omega)) <| ps_end <| then_n <| sy_n (.tmp 19) (qc75_3 58) (qc75_3 59) <| sy_sk <| then_n <| sy_sq (qc75_3 30) (qc75_3 31) <| sy_reg <| rg_q 4 [0, 1, 2, 3, 4, 5] <| pkq (.int .i64 a.v) <| ppq (.agg ((B a.dg).toArray)) (exec_load_row 23 (.tmp 10) (by kernel_rfl) gx (by kernel_rfl) _ _ (0, 0) _ (h28) Tryz.underlying23 rfl (by rw [Bz_size, (Att.dg_len a)]; kernel_rfl)) <| pkq (uN a.g) <| ppq (.agg (Sel.c ⟨a.v, a.dg, a.g⟩)) (exec_build_fill 30 #[(0, .tmp 22), (1, .tmp 23), (2, .tmp 24)] (by kernel_rfl) [(0, .int .i64 a.v), (1, .agg ((B a.dg).toArray)), (2, uN a.g)] (by kernel_rfl) _ Tryz.underlying30 (.agg selZ.c) (fun _ => by kernel_rfl) #[(0, 1), (1, 32), (33, 1)] (fun _ => by kernel_rfl) _ (fill_sel a.v a.dg a.g a.dg_len)) ?_
    obtain ⟨V33, eV33, kV33⟩ := rowset_step V27 gs ((Sel.c ⟨a.v, a.dg, a.g⟩))
    have h34 : V33.heap[gs]? = some (.cells (Sel.c ⟨a.v, a.dg, a.g⟩) 30 (0, 0)) := eV33 ▸ setRow_heap _ _ _ _ _ _ h30
    refine pzq (w' := V33) (by rw [← eV33]; exact exec_store_row 30 (.tmp 8) (.tmp 25) (by kernel_rfl) gs ((Sel.c ⟨a.v, a.dg, a.g⟩)) (by kernel_rfl) (by kernel_rfl) 30 ((Sel.c selZ)) h30 (by rw [Sel.c_size _ (show (⟨a.v, a.dg, a.g⟩ : Sel).r.length = 32 from a.dg_len)]; kernel_rfl) (by rw [Sel.c_size _ (show (⟨a.v, a.dg, a.g⟩ : Sel).r.length = 32 from a.dg_len)]; rfl) (Sel.c_one _)) ?_
    clear eV33
    have K37 := K31.no kV33 (by omega)
    have z38 := kV33.size
    refine pkq (.int .i64 0) <| ps_end <| then_n <| sy_ret (by kernel_rfl) <| sy_out (.tuple #[.agg (Sel.c ⟨a.v, a.dg, a.g⟩), .int .i64 0]) rfl (results_row_tmp (p := 8) (q := 9) (ty := 30) (by kernel_rfl) _ _ gs 30 (Sel.c ⟨a.v, a.dg, a.g⟩) (0, 0) _ (.int .i64 0) (by kernel_rfl) h34 Tryz.underlying30 rfl (by rw [Sel.c_size _ (show (⟨a.v, a.dg, a.g⟩ : Sel).r.length = 32 from a.dg_len)]; kernel_rfl) (by kernel_rfl)) ?_
    exact ⟨by simp only [Att.sel_ok c0, e0], K37⟩
  · have e0 := Att.err_no c0
    refine pkq (.int .i64 a.err) <| ppq (.bool true) (nqt ((a.err) : Int) ((0) : Int) (by omega)) <| ps_end <| then_n <| sy_ys (.tmp 19) (qc75_3 58) (qc75_3 59) <| sy_sq (qc75_3 116) (qc75_3 117) <| sy_reg <| rg_q 3 [0, 1, 2, 3] <| pkq (.agg (Sel.c selZ)) <| pkq (.int .i64 a.err) ?_
    obtain ⟨V39, eV39, kV39⟩ := rowset_step V27 gs ((Sel.c selZ))
    have h40 : V39.heap[gs]? = some (.cells (Sel.c selZ) 30 (0, 0)) := eV39 ▸ setRow_heap _ _ _ _ _ _ h30
    refine pzq (w' := V39) (by rw [← eV39]; exact exec_store_row 30 (.tmp 8) (.tmp 20) (by kernel_rfl) gs ((Sel.c selZ)) (by kernel_rfl) (by kernel_rfl) 30 ((Sel.c selZ)) h30 (by rw [Sel.c_size _ selZ_r]; kernel_rfl) rfl (Sel.c_one _)) ?_
    clear eV39
    have K43 := K31.no kV39 (by omega)
    have z44 := kV39.size
    refine pkq (.int .i64 a.err) <| ps_end <| then_n <| sy_ret (by kernel_rfl) <| then_r <| sy_out (.tuple #[.agg (Sel.c selZ), .int .i64 a.err]) rfl (results_row_tmp (p := 8) (q := 9) (ty := 30) (by kernel_rfl) _ _ gs 30 (Sel.c selZ) (0, 0) _ (.int .i64 a.err) (by kernel_rfl) h40 Tryz.underlying30 rfl (by rw [Sel.c_size _ selZ_r]; kernel_rfl) (by kernel_rfl)) ?_
    exact ⟨by simp only [Att.sel_no c0], K43⟩
noncomputable def qc75_6 (n : Nat) : Code := partOf Tryz.f8 n
theorem eSeal_ok (a : Att) (w : World) (ha : a.Ok) :
    Calls Tryz.prog 8 #[.agg (Att.c a)] w (fun e w' => e = .returned (.tuple #[.agg (Sel.c a.sel), .int .i64 a.err]) ∧ Keeps Nob w w') := by
  have hr := ha.r
  have K0 : Keeps Nob w w := Keeps.refl _ _
  refine sy_enter (qc75_6 1) ⟨#[.agg (Att.c a), ud, ud, ud, ud, ud, ud, ud, ud, ud, ud, ud], []⟩ Tryz.func8 (by kernel_rfl) (by kernel_rfl) <| sy_sq (qc75_6 2) (qc75_6 3) <| sy_reg <| rg_q 0 [0, 1, 2] ?_
  obtain ⟨V1, eV1, ga, ega, h2, kV1⟩ := alloc_step w ((Att.c a)) 26
  have n3 : w.heap.size ≤ ga := ega ▸ K0.size
  refine prq (pT ga 0) (w' := V1) (by rw [← eV1, ← ega]; exact exec_box 26 (.tmp 0) (by kernel_rfl) (.agg (Att.c a)) (by kernel_rfl)) ?_
  clear eV1
  have K4 := K0.nn kV1
  have z5 := kV1.size
  obtain ⟨V6, eV6, gs, egs, h7, kV6⟩ := alloc_step V1 ((Sel.c selZ)) 30
  have n8 : ga < gs := egs ▸ lt_of_block h2
  have n9 : w.heap.size ≤ gs := egs ▸ K4.size
  refine prq (pT gs 0) (w' := V6) (by rw [← eV6, ← egs]; exact exec_alloc0 30 (by kernel_rfl) (.agg ((Sel.c selZ))) (by kernel_rfl)) ?_
  clear eV6
  have h10 := kV6.bk h2
  have K11 := K4.nn kV6
  have z12 := kV6.size
  refine pkq (.int .i64 0) <| ps_end <| then_n <| sy_sq (qc75_6 6) (qc75_6 7) <| sy_reg <| rg_q 1 [0, 1, 2, 3, 4, 5, 6, 7, 8, 9] <| ppq (.agg (Att.c a)) (exec_load_row 26 (.tmp 1) (by kernel_rfl) ga (by kernel_rfl) _ _ (0, 0) _ (h10) Tryz.underlying26 rfl (by rw [Att.c_size _ hr]; kernel_rfl)) <| pkq (pT ga 0) <| ppq (.int .i64 a.v) (exec_ld 3 (.tmp 5) ga 0 Tryz.underlying3 (rc (h10) (Att.c_0 _))) <| pkq (pT ga 35) <| ppq (uN a.g) (exec_ld 24 (.tmp 7) ga 35 Tryz.underlying24 (rc (h10) (Att.c_tag _ hr))) ?_
  refine pcq 41 #[.agg (Att.c a), .func (.func 39) #[] #[], .int .i64 a.v, uN a.g] Tryz.func41 ((esealedA_ok a _ ha).mono ?_)
  rintro e V13 ⟨rfl, kV13⟩
  refine ⟨_, rfl, ?_⟩
  have h15 := kV13.bk h7
  have K16 := K11.nn kV13
  have z17 := kV13.size
  refine pkq (.agg (Sel.c a.sel)) <| pkq (.int .i64 a.err) ?_
  obtain ⟨V18, eV18, kV18⟩ := rowset_step V13 gs ((Sel.c a.sel))
  have h19 : V18.heap[gs]? = some (.cells (Sel.c a.sel) 30 (0, 0)) := eV18 ▸ setRow_heap _ _ _ _ _ _ h15
  refine pzq (w' := V18) (by rw [← eV18]; exact exec_store_row 30 (.tmp 2) (.tmp 10) (by kernel_rfl) gs ((Sel.c a.sel)) (by kernel_rfl) (by kernel_rfl) 30 ((Sel.c selZ)) h15 (by rw [Sel.c_size _ a.sel_r]; kernel_rfl) (by rw [Sel.c_size _ a.sel_r]; rfl) (Sel.c_one _)) ?_
  clear eV18
  have K21 := K16.no kV18 (by omega)
  have z22 := kV18.size
  refine pkq (.int .i64 a.err) <| ps_end <| then_n <| sy_ret (by kernel_rfl) <| sy_out (.tuple #[.agg (Sel.c a.sel), .int .i64 a.err]) rfl (results_row_tmp (p := 2) (q := 3) (ty := 30) (by kernel_rfl) _ _ gs 30 (Sel.c a.sel) (0, 0) _ (.int .i64 a.err) (by kernel_rfl) h19 Tryz.underlying30 rfl (by rw [Sel.c_size _ a.sel_r]; kernel_rfl) (by kernel_rfl)) ?_
  exact ⟨rfl, K21⟩
noncomputable def qc75_2 (n : Nat) : Code := partOf Tryz.f43 n
noncomputable abbrev qo75_2 (n k : Nat) : Oper := (opsAt (qc75_2 n)).getD k default
theorem esealedP_ok (a : Pro) (w : World) (ha : a.Ok) :
    Calls Tryz.prog 43 #[.agg (Pro.c a), .func (.func 37) #[] #[], .int .i64 a.v, .int .u64 ((a.g : Nat) : Int)] w (fun e w' => e = .returned (.tuple #[.agg (Sel.c a.sel), .int .i64 a.err]) ∧ Keeps Nob w w') := by
  have hr := ha.r
  have K0 : Keeps Nob w w := Keeps.refl _ _
  refine sy_enter (qc75_2 1) ⟨#[.agg (Pro.c a), .func (.func 37) #[] #[], .int .i64 a.v, uN a.g, ud, ud, ud, ud, ud, ud, ud, ud, ud, ud, ud, ud, ud, ud, ud, ud, ud, ud, ud, ud, ud, ud], []⟩ Tryz.func43 (by kernel_rfl) (by kernel_rfl) <| sy_sq (qc75_2 2) (qc75_2 3) <| sy_reg <| rg_q 0 [0, 1, 2] ?_
  obtain ⟨V1, eV1, ga, ega, h2, kV1⟩ := alloc_step w ((Pro.c a)) 28
  have n3 : w.heap.size ≤ ga := ega ▸ K0.size
  refine prq (pT ga 0) (w' := V1) (by rw [← eV1, ← ega]; exact exec_box 28 (.tmp 0) (by kernel_rfl) (.agg (Pro.c a)) (by kernel_rfl)) ?_
  clear eV1
  have K4 := K0.nn kV1
  have z5 := kV1.size
  obtain ⟨V6, eV6, gs, egs, h7, kV6⟩ := alloc_step V1 ((Sel.c selZ)) 30
  have n8 : ga < gs := egs ▸ lt_of_block h2
  have n9 : w.heap.size ≤ gs := egs ▸ K4.size
  refine prq (pT gs 0) (w' := V6) (by rw [← eV6, ← egs]; exact exec_alloc0 30 (by kernel_rfl) (.agg ((Sel.c selZ))) (by kernel_rfl)) ?_
  clear eV6
  have h10 := kV6.bk h2
  have K11 := K4.nn kV6
  have z12 := kV6.size
  refine pkq (.int .i64 0) <| ps_end <| then_n <| sy_sq (qc75_2 6) (qc75_2 7) <| sy_reg <| rg_q 1 [0, 1, 2, 3, 4, 5, 6, 7, 8] <| pkq (.func (.func 37) #[] #[]) <| ppq (.agg (Pro.c a)) (exec_load_row 28 (.tmp 4) (by kernel_rfl) ga (by kernel_rfl) _ _ (0, 0) _ (h10) Tryz.underlying28 rfl (by rw [Pro.c_size _ hr]; kernel_rfl)) ?_
  refine ps_callV (qo75_2 6 2) (.tmp 13) 37 #[] #[] #[.agg (Pro.c a)] (by kernel_rfl) (by kernel_rfl) (by kernel_rfl) (by kernel_rfl) (by kernel_rfl) (enters_of Tryz.func37 (by kernel_rfl) rfl) ((vDigestBlock_any a _ ha).mono ?_)
  rintro e V13 ⟨rfl, kV13⟩
  refine ⟨_, rfl, ?_⟩
  have h14 := kV13.bk h10
  have h15 := kV13.bk h7
  have K16 := K11.nn kV13
  have z17 := kV13.size
  refine pkq (.tuple #[.agg (B a.dg).toArray, .int .i64 a.err]) <| pkq (.agg (B a.dg).toArray) <| pkq (.int .i64 a.err) ?_
  obtain ⟨V18, eV18, gx, egx, h19, kV18⟩ := alloc_step V13 (zr_u8_32) 23
  have n20 : ga < gx := egx ▸ lt_of_block h14
  have n21 : gs < gx := egx ▸ lt_of_block h15
  have n22 : w.heap.size ≤ gx := egx ▸ K16.size
  refine prq (pT gx 0) (w' := V18) (by rw [← eV18, ← egx]; exact exec_alloc0 23 (by kernel_rfl) (.agg (zr_u8_32)) (by kernel_rfl)) ?_
  clear eV18
  have h24 := kV18.bk h15
  have K25 := K16.nn kV18
  have z26 := kV18.size
  obtain ⟨V27, eV27, kV27⟩ := rowset_step V18 gx ((B a.dg).toArray)
  have h28 : V27.heap[gx]? = some (.cells ((B a.dg).toArray) 23 (0, 0)) := eV27 ▸ setRow_heap _ _ _ _ _ _ h19
  refine pzq (w' := V27) (by rw [← eV27]; exact exec_store_row 23 (.tmp 10) (.tmp 16) (by kernel_rfl) gx ((B a.dg).toArray) (by kernel_rfl) (by kernel_rfl) 23 (zr_u8_32) h19 (by rw [Bz_size, Pro.dg_len]; kernel_rfl) (by rw [Bz_size, Pro.dg_len]; rfl) (by rw [List.all_toArray]; exact List.all_eq_true.2 (B_one _))) ?_
  clear eV27
  have h30 := kV27.bo h24 (by omega)
  have K31 := K25.no kV27 (by omega)
  have z32 := kV27.size
  refine pkq (.int .i64 a.err) <| ps_end <| then_n <| sy_sq (qc75_2 14) (qc75_2 15) <| sy_sq (qc75_2 28) (qc75_2 29) <| sy_reg <| rg_q 2 [0, 1] ?_
  by_cases c0 : a.fine
  · have e0 := Pro.err_ok c0
    refine pkq (.int .i64 a.err) <| ppq (.bool false) (nqf ((a.err) : Int) ((0) : Int) (by omega)) <| ps_end <| then_n <| sy_n (.tmp 19) (qc75_2 58) (qc75_2 59) <| sy_sk <| then_n <| sy_sq (qc75_2 30) (qc75_2 31) <| sy_reg <| rg_q 4 [0, 1, 2, 3, 4, 5] <| pkq (.int .i64 a.v) <| ppq (.agg ((B a.dg).toArray)) (exec_load_row 23 (.tmp 10) (by kernel_rfl) gx (by kernel_rfl) _ _ (0, 0) _ (h28) Tryz.underlying23 rfl (by rw [Bz_size, (Pro.dg_len a)]; kernel_rfl)) <| pkq (uN a.g) <| ppq (.agg (Sel.c ⟨a.v, a.dg, a.g⟩)) (exec_build_fill 30 #[(0, .tmp 22), (1, .tmp 23), (2, .tmp 24)] (by kernel_rfl) [(0, .int .i64 a.v), (1, .agg ((B a.dg).toArray)), (2, uN a.g)] (by kernel_rfl) _ Tryz.underlying30 (.agg selZ.c) (fun _ => by kernel_rfl) #[(0, 1), (1, 32), (33, 1)] (fun _ => by kernel_rfl) _ (fill_sel a.v a.dg a.g a.dg_len)) ?_
    obtain ⟨V33, eV33, kV33⟩ := rowset_step V27 gs ((Sel.c ⟨a.v, a.dg, a.g⟩))
    have h34 : V33.heap[gs]? = some (.cells (Sel.c ⟨a.v, a.dg, a.g⟩) 30 (0, 0)) := eV33 ▸ setRow_heap _ _ _ _ _ _ h30
    refine pzq (w' := V33) (by rw [← eV33]; exact exec_store_row 30 (.tmp 8) (.tmp 25) (by kernel_rfl) gs ((Sel.c ⟨a.v, a.dg, a.g⟩)) (by kernel_rfl) (by kernel_rfl) 30 ((Sel.c selZ)) h30 (by rw [Sel.c_size _ (show (⟨a.v, a.dg, a.g⟩ : Sel).r.length = 32 from a.dg_len)]; kernel_rfl) (by rw [Sel.c_size _ (show (⟨a.v, a.dg, a.g⟩ : Sel).r.length = 32 from a.dg_len)]; rfl) (Sel.c_one _)) ?_
    clear eV33
    have K37 := K31.no kV33 (by omega)
    have z38 := kV33.size
    refine pkq (.int .i64 0) <| ps_end <| then_n <| sy_ret (by kernel_rfl) <| sy_out (.tuple #[.agg (Sel.c ⟨a.v, a.dg, a.g⟩), .int .i64 0]) rfl (results_row_tmp (p := 8) (q := 9) (ty := 30) (by kernel_rfl) _ _ gs 30 (Sel.c ⟨a.v, a.dg, a.g⟩) (0, 0) _ (.int .i64 0) (by kernel_rfl) h34 Tryz.underlying30 rfl (by rw [Sel.c_size _ (show (⟨a.v, a.dg, a.g⟩ : Sel).r.length = 32 from a.dg_len)]; kernel_rfl) (by kernel_rfl)) ?_
    exact ⟨by simp only [Pro.sel_ok c0, e0], K37⟩
  · have e0 := Pro.err_no c0
    refine pkq (.int .i64 a.err) <| ppq (.bool true) (nqt ((a.err) : Int) ((0) : Int) (by omega)) <| ps_end <| then_n <| sy_ys (.tmp 19) (qc75_2 58) (qc75_2 59) <| sy_sq (qc75_2 116) (qc75_2 117) <| sy_reg <| rg_q 3 [0, 1, 2, 3] <| pkq (.agg (Sel.c selZ)) <| pkq (.int .i64 a.err) ?_
    obtain ⟨V39, eV39, kV39⟩ := rowset_step V27 gs ((Sel.c selZ))
    have h40 : V39.heap[gs]? = some (.cells (Sel.c selZ) 30 (0, 0)) := eV39 ▸ setRow_heap _ _ _ _ _ _ h30
    refine pzq (w' := V39) (by rw [← eV39]; exact exec_store_row 30 (.tmp 8) (.tmp 20) (by kernel_rfl) gs ((Sel.c selZ)) (by kernel_rfl) (by kernel_rfl) 30 ((Sel.c selZ)) h30 (by rw [Sel.c_size _ selZ_r]; kernel_rfl) rfl (Sel.c_one _)) ?_
    clear eV39
    have K43 := K31.no kV39 (by omega)
    have z44 := kV39.size
    refine pkq (.int .i64 a.err) <| ps_end <| then_n <| sy_ret (by kernel_rfl) <| then_r <| sy_out (.tuple #[.agg (Sel.c selZ), .int .i64 a.err]) rfl (results_row_tmp (p := 8) (q := 9) (ty := 30) (by kernel_rfl) _ _ gs 30 (Sel.c selZ) (0, 0) _ (.int .i64 a.err) (by kernel_rfl) h40 Tryz.underlying30 rfl (by rw [Sel.c_size _ selZ_r]; kernel_rfl) (by kernel_rfl)) ?_
    exact ⟨by simp only [Pro.sel_no c0], K43⟩
noncomputable def qc75_0 (n : Nat) : Code := partOf Tryz.f10 n
theorem eSealBlock_ok (a : Pro) (w : World) (ha : a.Ok) :
    Calls Tryz.prog 10 #[.agg (Pro.c a)] w (fun e w' => e = .returned (.tuple #[.agg (Sel.c a.sel), .int .i64 a.err]) ∧ Keeps Nob w w') := by
  have hr := ha.r
  have K0 : Keeps Nob w w := Keeps.refl _ _
  refine sy_enter (qc75_0 1) ⟨#[.agg (Pro.c a), ud, ud, ud, ud, ud, ud, ud, ud, ud, ud, ud], []⟩ Tryz.func10 (by kernel_rfl) (by kernel_rfl) <| sy_sq (qc75_0 2) (qc75_0 3) <| sy_reg <| rg_q 0 [0, 1, 2] ?_
  obtain ⟨V1, eV1, ga, ega, h2, kV1⟩ := alloc_step w ((Pro.c a)) 28
  have n3 : w.heap.size ≤ ga := ega ▸ K0.size
  refine prq (pT ga 0) (w' := V1) (by rw [← eV1, ← ega]; exact exec_box 28 (.tmp 0) (by kernel_rfl) (.agg (Pro.c a)) (by kernel_rfl)) ?_
  clear eV1
  have K4 := K0.nn kV1
  have z5 := kV1.size
  obtain ⟨V6, eV6, gs, egs, h7, kV6⟩ := alloc_step V1 ((Sel.c selZ)) 30
  have n8 : ga < gs := egs ▸ lt_of_block h2
  have n9 : w.heap.size ≤ gs := egs ▸ K4.size
  refine prq (pT gs 0) (w' := V6) (by rw [← eV6, ← egs]; exact exec_alloc0 30 (by kernel_rfl) (.agg ((Sel.c selZ))) (by kernel_rfl)) ?_
  clear eV6
  have h10 := kV6.bk h2
  have K11 := K4.nn kV6
  have z12 := kV6.size
  refine pkq (.int .i64 0) <| ps_end <| then_n <| sy_sq (qc75_0 6) (qc75_0 7) <| sy_reg <| rg_q 1 [0, 1, 2, 3, 4, 5, 6, 7, 8, 9] <| ppq (.agg (Pro.c a)) (exec_load_row 28 (.tmp 1) (by kernel_rfl) ga (by kernel_rfl) _ _ (0, 0) _ (h10) Tryz.underlying28 rfl (by rw [Pro.c_size _ hr]; kernel_rfl)) <| pkq (pT ga 0) <| ppq (.int .i64 a.v) (exec_ld 3 (.tmp 5) ga 0 Tryz.underlying3 (rc (h10) (Pro.c_0 _))) <| pkq (pT ga 34) <| ppq (uN a.g) (exec_ld 24 (.tmp 7) ga 34 Tryz.underlying24 (rc (h10) (Pro.c_tag _ hr))) ?_
  refine pcq 43 #[.agg (Pro.c a), .func (.func 37) #[] #[], .int .i64 a.v, uN a.g] Tryz.func43 ((esealedP_ok a _ ha).mono ?_)
  rintro e V13 ⟨rfl, kV13⟩
  refine ⟨_, rfl, ?_⟩
  have h15 := kV13.bk h7
  have K16 := K11.nn kV13
  have z17 := kV13.size
  refine pkq (.agg (Sel.c a.sel)) <| pkq (.int .i64 a.err) ?_
  obtain ⟨V18, eV18, kV18⟩ := rowset_step V13 gs ((Sel.c a.sel))
  have h19 : V18.heap[gs]? = some (.cells (Sel.c a.sel) 30 (0, 0)) := eV18 ▸ setRow_heap _ _ _ _ _ _ h15
  refine pzq (w' := V18) (by rw [← eV18]; exact exec_store_row 30 (.tmp 2) (.tmp 10) (by kernel_rfl) gs ((Sel.c a.sel)) (by kernel_rfl) (by kernel_rfl) 30 ((Sel.c selZ)) h15 (by rw [Sel.c_size _ a.sel_r]; kernel_rfl) (by rw [Sel.c_size _ a.sel_r]; rfl) (Sel.c_one _)) ?_
  clear eV18
  have K21 := K16.no kV18 (by omega)
  have z22 := kV18.size
  refine pkq (.int .i64 a.err) <| ps_end <| then_n <| sy_ret (by kernel_rfl) <| sy_out (.tuple #[.agg (Sel.c a.sel), .int .i64 a.err]) rfl (results_row_tmp (p := 2) (q := 3) (ty := 30) (by kernel_rfl) _ _ gs 30 (Sel.c a.sel) (0, 0) _ (.int .i64 a.err) (by kernel_rfl) h19 Tryz.underlying30 rfl (by rw [Sel.c_size _ a.sel_r]; kernel_rfl) (by kernel_rfl)) ?_
  exact ⟨rfl, K21⟩
noncomputable def qc75_4 (n : Nat) : Code := partOf Tryz.f110 n
noncomputable abbrev qo75_4 (n k : Nat) : Oper := (opsAt (qc75_4 n)).getD k default
theorem sIndex_ok (v : Value) (l : List Sel) (x : Sel) (w : World) (hl : SelsAt w v l) (hlr : ∀ y ∈ l, y.r.length = 32) (hx : x.r.length = 32) :
    Calls Tryz.prog 110 #[v, .agg (Sel.c x)] w (fun e w' => ∃ n : Int, e = .returned (.int .i64 n) ∧ decide (0 ≤ n) = decide (x ∈ l) ∧ Keeps Nob w w') := by
  have hll := hl.len_le
  have K0 : Keeps Nob w w := Keeps.refl _ _
  refine sy_enter (qc75_4 1) ⟨#[v, .agg (Sel.c x), ud, ud, ud, ud, ud, ud, ud, ud, ud, ud, ud, ud, ud, ud, ud, ud, ud], []⟩ Tryz.func110 (by kernel_rfl) (by kernel_rfl) <| sy_sq (qc75_4 2) (qc75_4 3) <| sy_reg <| rg_q 0 [0, 1] ?_
  obtain ⟨V1, eV1, gx, egx, h2, kV1⟩ := alloc_step w ((Sel.c x)) 30
  have n3 : w.heap.size ≤ gx := egx ▸ K0.size
  refine prq (pT gx 0) (w' := V1) (by rw [← eV1, ← egx]; exact exec_box 30 (.tmp 1) (by kernel_rfl) (.agg (Sel.c x)) (by kernel_rfl)) ?_
  clear eV1
  have h4 : SelsAt V1 v l := hl.keepsN kV1
  have K5 := K0.nn kV1
  refine pkq (.int .i64 0) <| ps_end <| then_n <| sy_sq (qc75_4 6) (qc75_4 7) <| sy_sq (qc75_4 12) (qc75_4 13) <| sy_reg <| rg_q 1 [0, 1, 2] <| pkq (v) <| ppq (iN l.length) (exec_len_sl (.tmp 6) 46 30 (by kernel_rfl) Tryz.underlying46 (by kernel_rfl) h4) <| pkq (.int .i64 0) <| ps_end <| then_n <| sy_bk 0 (qc75_4 26) ?_
  refine sy_loop (qc75_4 52) (fun a V => ∃ (k : Nat) (u4 u5 u9 u10 u11 u12 u13 u14 u15 u16 u17 u18 : Value), (a = ⟨#[v, .agg (Sel.c x), ud, pT gx 0, u4, u5, v, iN l.length, iN k, u9, u10, u11, u12, u13, u14, u15, u16, u17, u18], []⟩) ∧ (k ≤ l.length) ∧ (∀ j, j < k → l[j]? ≠ some x) ∧ (SelsAt V v l) ∧ (V.heap[gx]? = some (.cells (Sel.c x) 30 (0, 0))) ∧ (Keeps Nob w V)) (fun a _ => l.length - (intOf (a.tmps.getD 8 undef)).toNat) (by kernel_rfl) ?_ ?_
  · exact ⟨0, (.int .i64 0), undef, undef, undef, undef, undef, undef, undef, undef, undef, undef, undef, by kernel_rfl, Nat.zero_le _, fun j h => absurd h (by omega), h4, h2, K5⟩
  · rintro a V6 ⟨k, u4, u5, u9, u10, u11, u12, u13, u14, u15, u16, u17, u18, rfl, hk, hs, h7, h8, K9⟩
    rcases (show (∃ y, l[k]? = some y ∧ x = y) ∨ (∃ y, l[k]? = some y ∧ ¬ x = y) ∨ ¬ k < l.length by
        by_cases h : k < l.length
        · by_cases e : x = l[k]
          · exact .inl ⟨_, List.getElem?_eq_getElem h, e⟩
          · exact .inr (.inl ⟨_, List.getElem?_eq_getElem h, e⟩)
        · exact .inr (.inr h)) with ⟨y, hy, hxy⟩ | ⟨y, hy, hxy⟩ | lt_k
    · have lt_k := (List.getElem?_eq_some_iff.1 hy).1
      have hyr := hlr y (List.mem_of_getElem? hy)
      obtain ⟨b_a, o_a, c_a, hv_a, hb_a, _⟩ := (h7).at_ k _ hy
      refine sy_sq (qc75_4 104) (qc75_4 105) <| sy_reg <| rg_q 2 [0] <| ppq (.bool true) (dct ((((k : Nat) : Int)) < (((l.length : Nat) : Int))) (by omega)) <| ps_end <| then_n <| sy_sq (qc75_4 210) (qc75_4 211) <| sy_ys (.tmp 9) (qc75_4 420) (qc75_4 421) <| sy_sk <| then_n <| sy_sq (qc75_4 422) (qc75_4 423) <| sy_bk 1 (qc75_4 844) <| sy_sq (qc75_4 1688) (qc75_4 1689) <| sy_reg ?_
      refine rg_q 3 [0, 1] <| pkq (iN k) <| pkq (iN k) <| ps_end <| then_n <| sy_sq (qc75_4 3378) (qc75_4 3379) <| sy_reg <| rg_still 4 5 (opsAt (qc75_4 3378)) [qo75_4 3378 0, qo75_4 3378 1, qo75_4 3378 2, qo75_4 3378 3, qo75_4 3378 4] [qo75_4 3378 5] (by kernel_rfl) (by kernel_rfl) (by kernel_rfl) (by kernel_rfl) (by kernel_rfl) ?_
      obtain ⟨V11, eV11, kV11⟩ := drew_step V6
      rw [eV11]
      clear eV11
      have h12 : SelsAt V11 v l := h7.keepsN kV11
      have h13 := kV11.bk h8
      have K14 := K9.nn kV11
      refine spq (.agg (Sel.c x)) (exec_load_row 30 (.tmp 3) (by kernel_rfl) gx (by kernel_rfl) _ _ (0, 0) _ (h13) Tryz.underlying30 rfl (by rw [Sel.c_size _ hx]; kernel_rfl)) <| skq (v) <| skq (iN k) <| spq (pT b_a (o_a + k * 34)) (exec_indexAt_slice 46 (.tmp 12) (.tmp 13) (by kernel_rfl) b_a o_a l.length c_a (Eq.trans (b := v) (by kernel_rfl) hv_a) .i64 k (by kernel_rfl) _ 34 Tryz.underlying46 (by kernel_rfl) (by omega)) <| spq (.agg (Sel.c y)) (exec_load_mid 30 (.tmp 14) (by kernel_rfl) b_a (o_a + k * 34) (by kernel_rfl) (Sel.cl y) _ (Sl.range h12 hy hv_a) Tryz.underlying30 rfl (by rw [Sel.cl_len hyr]; kernel_rfl)) <| st_end <| ls_run (qo75_4 3378 5) (.bool true) (w' := V11) (by kernel_rfl) (exec_cast (congrArg Value.bool (decide_eq_true hxy)) (exec_binop .eql 30 30 (.tmp 11) (.tmp 15) (by kernel_rfl) (.agg (Sel.c x)) (.agg (Sel.c y)) _ (by kernel_rfl) (by kernel_rfl) (run_eqGuard_agg _ _ _ _ _ _ _ sel_guard) (sel_eq x y hx hyr _))) <| ls_end <| then_n <| sy_ys (.tmp 16) (qc75_4 6758) (qc75_4 6759) <| sy_sq (qc75_4 13516) (qc75_4 13517) <| sy_reg <| rg_q 5 [0, 1] <| pkq (iN k) ?_
      refine pkq (iN k) <| ps_end <| then_n <| sy_ret (by kernel_rfl) <| blk_r <| then_r <| then_r <| blk_r <| then_r <| sy_out (.int .i64 ((k : Nat) : Int)) rfl (by kernel_rfl) ?_
      exact ⟨_, rfl, by rw [decide_eq_true (show x ∈ l from hxy ▸ List.mem_of_getElem? hy), decide_eq_true (by omega)], K14⟩
    · have lt_k := (List.getElem?_eq_some_iff.1 hy).1
      have hyr := hlr y (List.mem_of_getElem? hy)
      obtain ⟨b_a, o_a, c_a, hv_a, hb_a, _⟩ := (h7).at_ k _ hy
      refine sy_sq (qc75_4 104) (qc75_4 105) <| sy_reg <| rg_q 2 [0] <| ppq (.bool true) (dct ((((k : Nat) : Int)) < (((l.length : Nat) : Int))) (by omega)) <| ps_end <| then_n <| sy_sq (qc75_4 210) (qc75_4 211) <| sy_ys (.tmp 9) (qc75_4 420) (qc75_4 421) <| sy_sk <| then_n <| sy_sq (qc75_4 422) (qc75_4 423) <| sy_bk 1 (qc75_4 844) <| sy_sq (qc75_4 1688) (qc75_4 1689) <| sy_reg ?_
      refine rg_q 3 [0, 1] <| pkq (iN k) <| pkq (iN k) <| ps_end <| then_n <| sy_sq (qc75_4 3378) (qc75_4 3379) <| sy_reg <| rg_still 4 5 (opsAt (qc75_4 3378)) [qo75_4 3378 0, qo75_4 3378 1, qo75_4 3378 2, qo75_4 3378 3, qo75_4 3378 4] [qo75_4 3378 5] (by kernel_rfl) (by kernel_rfl) (by kernel_rfl) (by kernel_rfl) (by kernel_rfl) ?_
      obtain ⟨V16, eV16, kV16⟩ := drew_step V6
      rw [eV16]
      clear eV16
      have h17 : SelsAt V16 v l := h7.keepsN kV16
      have h18 := kV16.bk h8
      have K19 := K9.nn kV16
      refine spq (.agg (Sel.c x)) (exec_load_row 30 (.tmp 3) (by kernel_rfl) gx (by kernel_rfl) _ _ (0, 0) _ (h18) Tryz.underlying30 rfl (by rw [Sel.c_size _ hx]; kernel_rfl)) <| skq (v) <| skq (iN k) <| spq (pT b_a (o_a + k * 34)) (exec_indexAt_slice 46 (.tmp 12) (.tmp 13) (by kernel_rfl) b_a o_a l.length c_a (Eq.trans (b := v) (by kernel_rfl) hv_a) .i64 k (by kernel_rfl) _ 34 Tryz.underlying46 (by kernel_rfl) (by omega)) <| spq (.agg (Sel.c y)) (exec_load_mid 30 (.tmp 14) (by kernel_rfl) b_a (o_a + k * 34) (by kernel_rfl) (Sel.cl y) _ (Sl.range h17 hy hv_a) Tryz.underlying30 rfl (by rw [Sel.cl_len hyr]; kernel_rfl)) <| st_end <| ls_run (qo75_4 3378 5) (.bool false) (w' := V16) (by kernel_rfl) (exec_cast (congrArg Value.bool (decide_eq_false hxy)) (exec_binop .eql 30 30 (.tmp 11) (.tmp 15) (by kernel_rfl) (.agg (Sel.c x)) (.agg (Sel.c y)) _ (by kernel_rfl) (by kernel_rfl) (run_eqGuard_agg _ _ _ _ _ _ _ sel_guard) (sel_eq x y hx hyr _))) <| ls_end <| then_n <| sy_n (.tmp 16) (qc75_4 6758) (qc75_4 6759) <| sy_sk <| blk_n <| then_n <| sy_reg ?_
      refine rg_q 6 [0, 1] <| ppq (iN (k + 1)) (exec_cast (congrArg (Value.int .i64) (wrapN (k + 1) (by omega))) (by kernel_rfl)) <| pkq (iN (k + 1)) <| ps_end <| then_n ?_
      refine ⟨⟨k + 1, u4, (iN k), (.bool true), (iN k), (.agg (Sel.c x)), v, (iN k), (pT b_a (o_a + k * 34)), (.agg (Sel.c y)), (.bool false), u17, (iN (k + 1)), by kernel_rfl, by omega, fun j hj => by by_cases e : j = k; (subst e; rw [hy]; intro e; exact hxy (Option.some.inj e).symm); exact hs j (by omega), h17, h18, K19⟩, ?_⟩
      exact lt_meas (x := l.length - (k + 1)) (y := l.length - k) (by kernel_rfl) (by kernel_rfl) (by omega)
    · have eq_k : k = l.length := by omega
      refine sy_sq (qc75_4 104) (qc75_4 105) <| sy_reg <| rg_q 2 [0] <| ppq (.bool false) (dcf ((((k : Nat) : Int)) < (((l.length : Nat) : Int))) (by omega)) <| ps_end <| then_n <| sy_sq (qc75_4 210) (qc75_4 211) <| sy_n (.tmp 9) (qc75_4 420) (qc75_4 421) <| sy_exit 0 (by kernel_rfl) <| then_e <| then_e <| blk_e <| then_n <| sy_sq (qc75_4 14) (qc75_4 15) ?_
      refine sy_reg <| rg_q 7 [0] <| pkq (.int .i64 (-1)) <| ps_end <| then_n <| sy_ret (by kernel_rfl) <| sy_out (.int .i64 (-1)) rfl (by kernel_rfl) ?_
      exact ⟨_, rfl, by rw [decide_eq_false (show ¬ x ∈ l from fun hm => by obtain ⟨j, hj⟩ := List.getElem?_of_mem hm; exact hs j (by have := (List.getElem?_eq_some_iff.1 hj).1; omega) hj)]; rfl, K9⟩
noncomputable def qc75_1 (n : Nat) : Code := partOf Tryz.f88 n
theorem sContains_ok (v : Value) (l : List Sel) (x : Sel) (w : World) (hl : SelsAt w v l) (hlr : ∀ y ∈ l, y.r.length = 32) (hx : x.r.length = 32) :
    Calls Tryz.prog 88 #[v, .agg (Sel.c x)] w (fun e w' => e = .returned (.bool (decide (x ∈ l))) ∧ Keeps Nob w w') := by
  have K0 : Keeps Nob w w := Keeps.refl _ _
  refine sy_enter (qc75_1 1) ⟨#[v, .agg (Sel.c x), ud, ud, ud, ud, ud, ud, ud], []⟩ Tryz.func88 (by kernel_rfl) (by kernel_rfl) <| sy_sq (qc75_1 2) (qc75_1 3) <| sy_reg <| rg_q 0 [0, 1] ?_
  obtain ⟨V1, eV1, gx, egx, h2, kV1⟩ := alloc_step w ((Sel.c x)) 30
  have n3 : w.heap.size ≤ gx := egx ▸ K0.size
  refine prq (pT gx 0) (w' := V1) (by rw [← eV1, ← egx]; exact exec_box 30 (.tmp 1) (by kernel_rfl) (.agg (Sel.c x)) (by kernel_rfl)) ?_
  clear eV1
  have h4 : SelsAt V1 v l := hl.keepsN kV1
  have K5 := K0.nn kV1
  have z6 := kV1.size
  refine pkq (.bool false) <| ps_end <| then_n <| sy_sq (qc75_1 6) (qc75_1 7) <| sy_reg <| rg_q 1 [0, 1, 2, 3, 4] <| pkq (v) <| ppq (.agg (Sel.c x)) (exec_load_row 30 (.tmp 3) (by kernel_rfl) gx (by kernel_rfl) _ _ (0, 0) _ (h2) Tryz.underlying30 rfl (by rw [Sel.c_size _ hx]; kernel_rfl)) ?_
  refine pcq 110 #[v, .agg (Sel.c x)] Tryz.func110 ((sIndex_ok v l x _ h4 hlr hx).mono ?_)
  rintro e V7 ⟨n, rfl, hn, kV7⟩
  refine ⟨_, rfl, ?_⟩
  have K10 := K5.nn kV7
  have z11 := kV7.size
  refine ppq (.bool (decide (x ∈ l))) (exec_cast (congrArg Value.bool (show decide ((n : Int) ≥ ((0 : Int))) = decide (x ∈ l) from hn)) (by kernel_rfl)) <| pkq (.bool (decide (x ∈ l))) <| ps_end <| then_n <| sy_ret (by kernel_rfl) <| sy_out (.bool (decide (x ∈ l))) rfl (by kernel_rfl) ?_
  exact ⟨rfl, K10⟩
noncomputable def qc75_7 (n : Nat) : Code := partOf Tryz.f62 n
theorem sHas_ok (v : Value) (l : List Sel) (x : Sel) (w : World) (hl : SelsAt w v l) (hlr : ∀ y ∈ l, y.r.length = 32) (hx : x.r.length = 32) :
    Calls Tryz.prog 62 #[v, .agg (Sel.c x)] w (fun e w' => e = .returned (.bool (decide (x ∈ l))) ∧ Keeps Nob w w') := by
  have K0 : Keeps Nob w w := Keeps.refl _ _
  refine sy_enter (qc75_7 1) ⟨#[v, .agg (Sel.c x), ud, ud, ud, ud, ud, ud], []⟩ Tryz.func62 (by kernel_rfl) (by kernel_rfl) <| sy_sq (qc75_7 2) (qc75_7 3) <| sy_reg <| rg_q 0 [0, 1] ?_
  obtain ⟨V1, eV1, gx, egx, h2, kV1⟩ := alloc_step w ((Sel.c x)) 30
  have n3 : w.heap.size ≤ gx := egx ▸ K0.size
  refine prq (pT gx 0) (w' := V1) (by rw [← eV1, ← egx]; exact exec_box 30 (.tmp 1) (by kernel_rfl) (.agg (Sel.c x)) (by kernel_rfl)) ?_
  clear eV1
  have h4 : SelsAt V1 v l := hl.keepsN kV1
  have K5 := K0.nn kV1
  have z6 := kV1.size
  refine pkq (.bool false) <| ps_end <| then_n <| sy_sq (qc75_7 6) (qc75_7 7) <| sy_reg <| rg_q 1 [0, 1, 2, 3] <| pkq (v) <| ppq (.agg (Sel.c x)) (exec_load_row 30 (.tmp 3) (by kernel_rfl) gx (by kernel_rfl) _ _ (0, 0) _ (h2) Tryz.underlying30 rfl (by rw [Sel.c_size _ hx]; kernel_rfl)) ?_
  refine pcq 88 #[v, .agg (Sel.c x)] Tryz.func88 ((sContains_ok v l x _ h4 hlr hx).mono ?_)
  rintro e V7 ⟨rfl, kV7⟩
  refine ⟨_, rfl, ?_⟩
  have K10 := K5.nn kV7
  have z11 := kV7.size
  refine pkq (.bool (decide (x ∈ l))) <| ps_end <| then_n <| sy_ret (by kernel_rfl) <| sy_out (.bool (decide (x ∈ l))) rfl (by kernel_rfl) ?_
  exact ⟨rfl, K10⟩
noncomputable def qc75_5 (n : Nat) : Code := partOf Tryz.f48 n
noncomputable abbrev qo75_5 (n k : Nat) : Oper := (opsAt (qc75_5 n)).getD k default
theorem efirst_aa (F0 : FuncId) (A0 : Value) (x0 : Int) (F1 : FuncId) (A1 : Value) (x1 : Int) (g : Nat) (w : World) (hb : w.heap[g]? = some (.cells #[.func (.func (F0)) #[] #[A0], .func (.func (F1)) #[] #[A1]] 80 (0, 0))) (hE0 : ∀ args w, (callFunc F0 args).run Tryz.prog w = .ok (.enter F0 args) w) (hc0 : ∀ W, Keeps Nob w W → Calls Tryz.prog F0 #[A0] W fun e w' => e = .returned (.int .i64 x0) ∧ Keeps Nob W w') (hE1 : ∀ args w, (callFunc F1 args).run Tryz.prog w = .ok (.enter F1 args) w) (hc1 : ∀ W, Keeps Nob w W → Calls Tryz.prog F1 #[A1] W fun e w' => e = .returned (.int .i64 x1) ∧ Keeps Nob W w') :
    Calls Tryz.prog 48 #[.slice (some ⟨g, 0, none⟩) 2 2] w (fun e w' => e = .returned (.int .i64 (firstE [x0, x1])) ∧ Keeps Nob w w') := by
  have K0 : Keeps Nob w w := Keeps.refl _ _
  refine sy_enter (qc75_5 1) ⟨#[.slice (some ⟨g, 0, none⟩) 2 2, ud, ud, ud, ud, ud, ud, ud, ud, ud, ud, ud, ud, ud, ud, ud, ud, ud], []⟩ Tryz.func48 (by kernel_rfl) (by kernel_rfl) <| sy_sq (qc75_5 2) (qc75_5 3) <| sy_reg <| rg_q 0 [0] <| pkq (.int .i64 0) <| ps_end <| then_n <| sy_sq (qc75_5 6) (qc75_5 7) <| sy_sq (qc75_5 12) (qc75_5 13) <| sy_reg <| rg_q 1 [0, 1, 2] <| pkq (.slice (some ⟨g, 0, none⟩) 2 2) <| ppq (.int .i64 2) (exec_len (.tmp 6) 120 _ (by kernel_rfl) Tryz.underlying120 (some ⟨g, 0, none⟩) 2 2 (by kernel_rfl)) <| pkq (.int .i64 0) ?_
  refine ps_end <| then_n <| sy_bk 0 (qc75_5 26) <| sy_rounds 3 (qc75_5 52) (by kernel_rfl) <| rd_step <| sy_sq (qc75_5 104) (qc75_5 105) <| sy_reg <| rg_q 2 [0] <| pkq (.bool true) <| ps_end <| then_n <| sy_sq (qc75_5 210) (qc75_5 211) <| sy_ys (.tmp 9) (qc75_5 420) (qc75_5 421) <| sy_sk ?_
  refine then_n <| sy_sq (qc75_5 422) (qc75_5 423) <| sy_bk 1 (qc75_5 844) <| sy_sq (qc75_5 1688) (qc75_5 1689) <| sy_reg <| rg_q 3 [0, 1, 2] <| ppq (pT g 0) (exec_cast (v := pT g (0 + 0 * 1)) (by simp) (exec_indexAt_slice 120 (.tmp 6) (.tmp 8) (by kernel_rfl) g 0 2 2 (by kernel_rfl) .i64 0 (by kernel_rfl) _ 1 Tryz.underlying120 (by kernel_rfl) (by omega))) <| ppq (.func (.func (F0)) #[] #[A0]) (exec_ld 80 (.tmp 10) g 0 Tryz.underlying80 (rc (hb) (by kernel_rfl))) <| pkq (.func (.func (F0)) #[] #[A0]) <| ps_end <| then_n <| sy_sq (qc75_5 3378) (qc75_5 3379) <| sy_reg <| rg_q 4 [0, 1, 2] ?_
  refine pkq (.func (.func (F0)) #[] #[A0]) ?_
  refine ps_callV (qo75_5 3378 1) (.tmp 12) (F0) #[] #[A0] #[A0] (by kernel_rfl) (by kernel_rfl) (by kernel_rfl) (by kernel_rfl) (by kernel_rfl) hE0 ((hc0 _ K0).mono ?_)
  rintro e V1 ⟨rfl, kV1⟩
  refine ⟨_, rfl, ?_⟩
  have h2 := kV1.bk hb
  have K3 := K0.nn kV1
  have z4 := kV1.size
  refine pkq (.int .i64 x0) <| ps_end <| then_n <| sy_sq (qc75_5 6758) (qc75_5 6759) <| sy_reg <| rg_q 5 [0, 1] ?_
  by_cases c0 : x0 = 0
  · refine pkq (.int .i64 x0) <| ppq (.bool false) (nqf ((x0) : Int) ((0) : Int) (by omega)) <| ps_end <| then_n <| sy_n (.tmp 15) (qc75_5 13518) (qc75_5 13519) <| sy_sk <| blk_n <| then_n <| sy_reg <| rg_q 7 [0, 1] <| pkq (.int .i64 1) <| pkq (.int .i64 1) <| ps_end <| then_n ?_
    refine rd_step <| sy_sq (qc75_5 104) (qc75_5 105) <| sy_reg <| rg_q 2 [0] <| pkq (.bool true) <| ps_end <| then_n <| sy_sq (qc75_5 210) (qc75_5 211) <| sy_ys (.tmp 9) (qc75_5 420) (qc75_5 421) <| sy_sk <| then_n <| sy_sq (qc75_5 422) (qc75_5 423) <| sy_bk 1 (qc75_5 844) <| sy_sq (qc75_5 1688) (qc75_5 1689) ?_
    refine sy_reg <| rg_q 3 [0, 1, 2] <| ppq (pT g 1) (exec_cast (v := pT g (0 + 1 * 1)) (by simp) (exec_indexAt_slice 120 (.tmp 6) (.tmp 8) (by kernel_rfl) g 0 2 2 (by kernel_rfl) .i64 1 (by kernel_rfl) _ 1 Tryz.underlying120 (by kernel_rfl) (by omega))) <| ppq (.func (.func (F1)) #[] #[A1]) (exec_ld 80 (.tmp 10) g 1 Tryz.underlying80 (rc (h2) (by kernel_rfl))) <| pkq (.func (.func (F1)) #[] #[A1]) <| ps_end <| then_n <| sy_sq (qc75_5 3378) (qc75_5 3379) <| sy_reg <| rg_q 4 [0, 1, 2] <| pkq (.func (.func (F1)) #[] #[A1]) ?_
    refine ps_callV (qo75_5 3378 1) (.tmp 12) (F1) #[] #[A1] #[A1] (by kernel_rfl) (by kernel_rfl) (by kernel_rfl) (by kernel_rfl) (by kernel_rfl) hE1 ((hc1 _ K3).mono ?_)
    rintro e V5 ⟨rfl, kV5⟩
    refine ⟨_, rfl, ?_⟩
    have K7 := K3.nn kV5
    have z8 := kV5.size
    refine pkq (.int .i64 x1) <| ps_end <| then_n <| sy_sq (qc75_5 6758) (qc75_5 6759) <| sy_reg <| rg_q 5 [0, 1] ?_
    by_cases c1 : x1 = 0
    · refine pkq (.int .i64 x1) <| ppq (.bool false) (nqf ((x1) : Int) ((0) : Int) (by omega)) <| ps_end <| sy_a ⟨#[.slice (some ⟨g, 0, none⟩) 2 2, ud, .int .i64 0, ud, .func (.func (F1)) #[] #[A1], .int .i64 x1, .slice (some ⟨g, 0, none⟩) 2 2, .int .i64 2, .int .i64 1, .bool true, pT g 1, .func (.func (F1)) #[] #[A1], .func (.func (F1)) #[] #[A1], .int .i64 x1, .int .i64 x1, .bool false, ud, .int .i64 1], []⟩ <| then_n <| sy_n (.tmp 15) (qc75_5 13518) (qc75_5 13519) <| sy_sk <| blk_n <| then_n <| sy_reg <| rg_q 7 [0, 1] <| pkq (.int .i64 2) <| pkq (.int .i64 2) <| ps_end ?_
      refine then_n <| rd_step <| sy_sq (qc75_5 104) (qc75_5 105) <| sy_reg <| rg_q 2 [0] <| pkq (.bool false) <| ps_end <| then_n <| sy_sq (qc75_5 210) (qc75_5 211) <| sy_n (.tmp 9) (qc75_5 420) (qc75_5 421) <| sy_exit 0 (by kernel_rfl) <| then_e <| then_e <| blk_e ?_
      refine then_n <| sy_sq (qc75_5 14) (qc75_5 15) <| sy_reg <| rg_q 8 [0] <| pkq (.int .i64 0) <| ps_end <| then_n <| sy_ret (by kernel_rfl) <| sy_out (.int .i64 0) rfl (by kernel_rfl) ?_
      exact ⟨by simp only [firstE]; simp [c0, c1], K7⟩
    · refine pkq (.int .i64 x1) <| ppq (.bool true) (nqt ((x1) : Int) ((0) : Int) (by omega)) <| ps_end <| sy_a ⟨#[.slice (some ⟨g, 0, none⟩) 2 2, ud, .int .i64 0, ud, .func (.func (F1)) #[] #[A1], .int .i64 x1, .slice (some ⟨g, 0, none⟩) 2 2, .int .i64 2, .int .i64 1, .bool true, pT g 1, .func (.func (F1)) #[] #[A1], .func (.func (F1)) #[] #[A1], .int .i64 x1, .int .i64 x1, .bool true, ud, .int .i64 1], []⟩ <| then_n <| sy_ys (.tmp 15) (qc75_5 13518) (qc75_5 13519) <| sy_sq (qc75_5 27036) (qc75_5 27037) <| sy_reg <| rg_q 6 [0, 1] <| pkq (.int .i64 x1) <| pkq (.int .i64 x1) <| ps_end <| then_n <| sy_ret (by kernel_rfl) ?_
      refine blk_r <| then_r <| then_r <| blk_r <| then_r <| sy_out (.int .i64 x1) rfl (by kernel_rfl) ?_
      exact ⟨by simp only [firstE]; simp [c0, c1], K7⟩
  · refine pkq (.int .i64 x0) <| ppq (.bool true) (nqt ((x0) : Int) ((0) : Int) (by omega)) <| ps_end <| then_n <| sy_ys (.tmp 15) (qc75_5 13518) (qc75_5 13519) <| sy_sq (qc75_5 27036) (qc75_5 27037) <| sy_reg <| rg_q 6 [0, 1] <| pkq (.int .i64 x0) <| pkq (.int .i64 x0) <| ps_end <| then_n <| sy_ret (by kernel_rfl) <| blk_r ?_
    refine then_r <| then_r <| blk_r <| then_r <| sy_out (.int .i64 x0) rfl (by kernel_rfl) ?_
    exact ⟨by simp only [firstE]; simp [c0], K3⟩
theorem efirst_ab (F0 : FuncId) (A0 : Value) (x0 : Int) (F1 : FuncId) (A1 B1 : Value) (x1 : Int) (g : Nat) (w : World) (hb : w.heap[g]? = some (.cells #[.func (.func (F0)) #[] #[A0], .func (.func (F1)) #[] #[A1, B1]] 80 (0, 0))) (hE0 : ∀ args w, (callFunc F0 args).run Tryz.prog w = .ok (.enter F0 args) w) (hc0 : ∀ W, Keeps Nob w W → Calls Tryz.prog F0 #[A0] W fun e w' => e = .returned (.int .i64 x0) ∧ Keeps Nob W w') (hE1 : ∀ args w, (callFunc F1 args).run Tryz.prog w = .ok (.enter F1 args) w) (hc1 : ∀ W, Keeps Nob w W → Calls Tryz.prog F1 #[A1, B1] W fun e w' => e = .returned (.int .i64 x1) ∧ Keeps Nob W w') :
    Calls Tryz.prog 48 #[.slice (some ⟨g, 0, none⟩) 2 2] w (fun e w' => e = .returned (.int .i64 (firstE [x0, x1])) ∧ Keeps Nob w w') := by
  have K0 : Keeps Nob w w := Keeps.refl _ _
  refine sy_enter (qc75_5 1) ⟨#[.slice (some ⟨g, 0, none⟩) 2 2, ud, ud, ud, ud, ud, ud, ud, ud, ud, ud, ud, ud, ud, ud, ud, ud, ud], []⟩ Tryz.func48 (by kernel_rfl) (by kernel_rfl) <| sy_sq (qc75_5 2) (qc75_5 3) <| sy_reg <| rg_q 0 [0] <| pkq (.int .i64 0) <| ps_end <| then_n <| sy_sq (qc75_5 6) (qc75_5 7) <| sy_sq (qc75_5 12) (qc75_5 13) <| sy_reg <| rg_q 1 [0, 1, 2] <| pkq (.slice (some ⟨g, 0, none⟩) 2 2) <| ppq (.int .i64 2) (exec_len (.tmp 6) 120 _ (by kernel_rfl) Tryz.underlying120 (some ⟨g, 0, none⟩) 2 2 (by kernel_rfl)) <| pkq (.int .i64 0) ?_
  refine ps_end <| then_n <| sy_bk 0 (qc75_5 26) <| sy_rounds 3 (qc75_5 52) (by kernel_rfl) <| rd_step <| sy_sq (qc75_5 104) (qc75_5 105) <| sy_reg <| rg_q 2 [0] <| pkq (.bool true) <| ps_end <| then_n <| sy_sq (qc75_5 210) (qc75_5 211) <| sy_ys (.tmp 9) (qc75_5 420) (qc75_5 421) <| sy_sk ?_
  refine then_n <| sy_sq (qc75_5 422) (qc75_5 423) <| sy_bk 1 (qc75_5 844) <| sy_sq (qc75_5 1688) (qc75_5 1689) <| sy_reg <| rg_q 3 [0, 1, 2] <| ppq (pT g 0) (exec_cast (v := pT g (0 + 0 * 1)) (by simp) (exec_indexAt_slice 120 (.tmp 6) (.tmp 8) (by kernel_rfl) g 0 2 2 (by kernel_rfl) .i64 0 (by kernel_rfl) _ 1 Tryz.underlying120 (by kernel_rfl) (by omega))) <| ppq (.func (.func (F0)) #[] #[A0]) (exec_ld 80 (.tmp 10) g 0 Tryz.underlying80 (rc (hb) (by kernel_rfl))) <| pkq (.func (.func (F0)) #[] #[A0]) <| ps_end <| then_n <| sy_sq (qc75_5 3378) (qc75_5 3379) <| sy_reg <| rg_q 4 [0, 1, 2] ?_
  refine pkq (.func (.func (F0)) #[] #[A0]) ?_
  refine ps_callV (qo75_5 3378 1) (.tmp 12) (F0) #[] #[A0] #[A0] (by kernel_rfl) (by kernel_rfl) (by kernel_rfl) (by kernel_rfl) (by kernel_rfl) hE0 ((hc0 _ K0).mono ?_)
  rintro e V1 ⟨rfl, kV1⟩
  refine ⟨_, rfl, ?_⟩
  have h2 := kV1.bk hb
  have K3 := K0.nn kV1
  have z4 := kV1.size
  refine pkq (.int .i64 x0) <| ps_end <| then_n <| sy_sq (qc75_5 6758) (qc75_5 6759) <| sy_reg <| rg_q 5 [0, 1] ?_
  by_cases c0 : x0 = 0
  · refine pkq (.int .i64 x0) <| ppq (.bool false) (nqf ((x0) : Int) ((0) : Int) (by omega)) <| ps_end <| then_n <| sy_n (.tmp 15) (qc75_5 13518) (qc75_5 13519) <| sy_sk <| blk_n <| then_n <| sy_reg <| rg_q 7 [0, 1] <| pkq (.int .i64 1) <| pkq (.int .i64 1) <| ps_end <| then_n ?_
    refine rd_step <| sy_sq (qc75_5 104) (qc75_5 105) <| sy_reg <| rg_q 2 [0] <| pkq (.bool true) <| ps_end <| then_n <| sy_sq (qc75_5 210) (qc75_5 211) <| sy_ys (.tmp 9) (qc75_5 420) (qc75_5 421) <| sy_sk <| then_n <| sy_sq (qc75_5 422) (qc75_5 423) <| sy_bk 1 (qc75_5 844) <| sy_sq (qc75_5 1688) (qc75_5 1689) ?_
    refine sy_reg <| rg_q 3 [0, 1, 2] <| ppq (pT g 1) (exec_cast (v := pT g (0 + 1 * 1)) (by simp) (exec_indexAt_slice 120 (.tmp 6) (.tmp 8) (by kernel_rfl) g 0 2 2 (by kernel_rfl) .i64 1 (by kernel_rfl) _ 1 Tryz.underlying120 (by kernel_rfl) (by omega))) <| ppq (.func (.func (F1)) #[] #[A1, B1]) (exec_ld 80 (.tmp 10) g 1 Tryz.underlying80 (rc (h2) (by kernel_rfl))) <| pkq (.func (.func (F1)) #[] #[A1, B1]) <| ps_end <| then_n <| sy_sq (qc75_5 3378) (qc75_5 3379) <| sy_reg <| rg_q 4 [0, 1, 2] <| pkq (.func (.func (F1)) #[] #[A1, B1]) ?_
    refine ps_callV (qo75_5 3378 1) (.tmp 12) (F1) #[] #[A1, B1] #[A1, B1] (by kernel_rfl) (by kernel_rfl) (by kernel_rfl) (by kernel_rfl) (by kernel_rfl) hE1 ((hc1 _ K3).mono ?_)
    rintro e V5 ⟨rfl, kV5⟩
    refine ⟨_, rfl, ?_⟩
    have K7 := K3.nn kV5
    have z8 := kV5.size
    refine pkq (.int .i64 x1) <| ps_end <| then_n <| sy_sq (qc75_5 6758) (qc75_5 6759) <| sy_reg <| rg_q 5 [0, 1] ?_
    by_cases c1 : x1 = 0
    · refine pkq (.int .i64 x1) <| ppq (.bool false) (nqf ((x1) : Int) ((0) : Int) (by omega)) <| ps_end <| sy_a ⟨#[.slice (some ⟨g, 0, none⟩) 2 2, ud, .int .i64 0, ud, .func (.func (F1)) #[] #[A1, B1], .int .i64 x1, .slice (some ⟨g, 0, none⟩) 2 2, .int .i64 2, .int .i64 1, .bool true, pT g 1, .func (.func (F1)) #[] #[A1, B1], .func (.func (F1)) #[] #[A1, B1], .int .i64 x1, .int .i64 x1, .bool false, ud, .int .i64 1], []⟩ <| then_n <| sy_n (.tmp 15) (qc75_5 13518) (qc75_5 13519) <| sy_sk <| blk_n <| then_n <| sy_reg <| rg_q 7 [0, 1] <| pkq (.int .i64 2) <| pkq (.int .i64 2) <| ps_end ?_
      refine then_n <| rd_step <| sy_sq (qc75_5 104) (qc75_5 105) <| sy_reg <| rg_q 2 [0] <| pkq (.bool false) <| ps_end <| then_n <| sy_sq (qc75_5 210) (qc75_5 211) <| sy_n (.tmp 9) (qc75_5 420) (qc75_5 421) <| sy_exit 0 (by kernel_rfl) <| then_e <| then_e <| blk_e ?_
      refine then_n <| sy_sq (qc75_5 14) (qc75_5 15) <| sy_reg <| rg_q 8 [0] <| pkq (.int .i64 0) <| ps_end <| then_n <| sy_ret (by kernel_rfl) <| sy_out (.int .i64 0) rfl (by kernel_rfl) ?_
      exact ⟨by simp only [firstE]; simp [c0, c1], K7⟩
    · refine pkq (.int .i64 x1) <| ppq (.bool true) (nqt ((x1) : Int) ((0) : Int) (by omega)) <| ps_end <| sy_a ⟨#[.slice (some ⟨g, 0, none⟩) 2 2, ud, .int .i64 0, ud, .func (.func (F1)) #[] #[A1, B1], .int .i64 x1, .slice (some ⟨g, 0, none⟩) 2 2, .int .i64 2, .int .i64 1, .bool true, pT g 1, .func (.func (F1)) #[] #[A1, B1], .func (.func (F1)) #[] #[A1, B1], .int .i64 x1, .int .i64 x1, .bool true, ud, .int .i64 1], []⟩ <| then_n <| sy_ys (.tmp 15) (qc75_5 13518) (qc75_5 13519) <| sy_sq (qc75_5 27036) (qc75_5 27037) <| sy_reg <| rg_q 6 [0, 1] <| pkq (.int .i64 x1) <| pkq (.int .i64 x1) <| ps_end <| then_n <| sy_ret (by kernel_rfl) ?_
      refine blk_r <| then_r <| then_r <| blk_r <| then_r <| sy_out (.int .i64 x1) rfl (by kernel_rfl) ?_
      exact ⟨by simp only [firstE]; simp [c0, c1], K7⟩
  · refine pkq (.int .i64 x0) <| ppq (.bool true) (nqt ((x0) : Int) ((0) : Int) (by omega)) <| ps_end <| then_n <| sy_ys (.tmp 15) (qc75_5 13518) (qc75_5 13519) <| sy_sq (qc75_5 27036) (qc75_5 27037) <| sy_reg <| rg_q 6 [0, 1] <| pkq (.int .i64 x0) <| pkq (.int .i64 x0) <| ps_end <| then_n <| sy_ret (by kernel_rfl) <| blk_r ?_
    refine then_r <| then_r <| blk_r <| then_r <| sy_out (.int .i64 x0) rfl (by kernel_rfl) ?_
    exact ⟨by simp only [firstE]; simp [c0], K3⟩
theorem efirst_aaa (F0 : FuncId) (A0 : Value) (x0 : Int) (F1 : FuncId) (A1 : Value) (x1 : Int) (F2 : FuncId) (A2 : Value) (x2 : Int) (g : Nat) (w : World) (hb : w.heap[g]? = some (.cells #[.func (.func (F0)) #[] #[A0], .func (.func (F1)) #[] #[A1], .func (.func (F2)) #[] #[A2]] 80 (0, 0))) (hE0 : ∀ args w, (callFunc F0 args).run Tryz.prog w = .ok (.enter F0 args) w) (hc0 : ∀ W, Keeps Nob w W → Calls Tryz.prog F0 #[A0] W fun e w' => e = .returned (.int .i64 x0) ∧ Keeps Nob W w') (hE1 : ∀ args w, (callFunc F1 args).run Tryz.prog w = .ok (.enter F1 args) w) (hc1 : ∀ W, Keeps Nob w W → Calls Tryz.prog F1 #[A1] W fun e w' => e = .returned (.int .i64 x1) ∧ Keeps Nob W w') (hE2 : ∀ args w, (callFunc F2 args).run Tryz.prog w = .ok (.enter F2 args) w) (hc2 : ∀ W, Keeps Nob w W → Calls Tryz.prog F2 #[A2] W fun e w' => e = .returned (.int .i64 x2) ∧ Keeps Nob W w') :
    Calls Tryz.prog 48 #[.slice (some ⟨g, 0, none⟩) 3 3] w (fun e w' => e = .returned (.int .i64 (firstE [x0, x1, x2])) ∧ Keeps Nob w w') := by
  have K0 : Keeps Nob w w := Keeps.refl _ _
  refine sy_enter (qc75_5 1) ⟨#[.slice (some ⟨g, 0, none⟩) 3 3, ud, ud, ud, ud, ud, ud, ud, ud, ud, ud, ud, ud, ud, ud, ud, ud, ud], []⟩ Tryz.func48 (by kernel_rfl) (by kernel_rfl) <| sy_sq (qc75_5 2) (qc75_5 3) <| sy_reg <| rg_q 0 [0] <| pkq (.int .i64 0) <| ps_end <| then_n <| sy_sq (qc75_5 6) (qc75_5 7) <| sy_sq (qc75_5 12) (qc75_5 13) <| sy_reg <| rg_q 1 [0, 1, 2] <| pkq (.slice (some ⟨g, 0, none⟩) 3 3) <| ppq (.int .i64 3) (exec_len (.tmp 6) 120 _ (by kernel_rfl) Tryz.underlying120 (some ⟨g, 0, none⟩) 3 3 (by kernel_rfl)) <| pkq (.int .i64 0) ?_
  refine ps_end <| then_n <| sy_bk 0 (qc75_5 26) <| sy_rounds 4 (qc75_5 52) (by kernel_rfl) <| rd_step <| sy_sq (qc75_5 104) (qc75_5 105) <| sy_reg <| rg_q 2 [0] <| pkq (.bool true) <| ps_end <| then_n <| sy_sq (qc75_5 210) (qc75_5 211) <| sy_ys (.tmp 9) (qc75_5 420) (qc75_5 421) <| sy_sk ?_
  refine then_n <| sy_sq (qc75_5 422) (qc75_5 423) <| sy_bk 1 (qc75_5 844) <| sy_sq (qc75_5 1688) (qc75_5 1689) <| sy_reg <| rg_q 3 [0, 1, 2] <| ppq (pT g 0) (exec_cast (v := pT g (0 + 0 * 1)) (by simp) (exec_indexAt_slice 120 (.tmp 6) (.tmp 8) (by kernel_rfl) g 0 3 3 (by kernel_rfl) .i64 0 (by kernel_rfl) _ 1 Tryz.underlying120 (by kernel_rfl) (by omega))) <| ppq (.func (.func (F0)) #[] #[A0]) (exec_ld 80 (.tmp 10) g 0 Tryz.underlying80 (rc (hb) (by kernel_rfl))) <| pkq (.func (.func (F0)) #[] #[A0]) <| ps_end <| then_n <| sy_sq (qc75_5 3378) (qc75_5 3379) <| sy_reg <| rg_q 4 [0, 1, 2] ?_
  refine pkq (.func (.func (F0)) #[] #[A0]) ?_
  refine ps_callV (qo75_5 3378 1) (.tmp 12) (F0) #[] #[A0] #[A0] (by kernel_rfl) (by kernel_rfl) (by kernel_rfl) (by kernel_rfl) (by kernel_rfl) hE0 ((hc0 _ K0).mono ?_)
  rintro e V1 ⟨rfl, kV1⟩
  refine ⟨_, rfl, ?_⟩
  have h2 := kV1.bk hb
  have K3 := K0.nn kV1
  have z4 := kV1.size
  refine pkq (.int .i64 x0) <| ps_end <| then_n <| sy_sq (qc75_5 6758) (qc75_5 6759) <| sy_reg <| rg_q 5 [0, 1] ?_
  by_cases c0 : x0 = 0
  · refine pkq (.int .i64 x0) <| ppq (.bool false) (nqf ((x0) : Int) ((0) : Int) (by omega)) <| ps_end <| then_n <| sy_n (.tmp 15) (qc75_5 13518) (qc75_5 13519) <| sy_sk <| blk_n <| then_n <| sy_reg <| rg_q 7 [0, 1] <| pkq (.int .i64 1) <| pkq (.int .i64 1) <| ps_end <| then_n ?_
    refine rd_step <| sy_sq (qc75_5 104) (qc75_5 105) <| sy_reg <| rg_q 2 [0] <| pkq (.bool true) <| ps_end <| then_n <| sy_sq (qc75_5 210) (qc75_5 211) <| sy_ys (.tmp 9) (qc75_5 420) (qc75_5 421) <| sy_sk <| then_n <| sy_sq (qc75_5 422) (qc75_5 423) <| sy_bk 1 (qc75_5 844) <| sy_sq (qc75_5 1688) (qc75_5 1689) ?_
    refine sy_reg <| rg_q 3 [0, 1, 2] <| ppq (pT g 1) (exec_cast (v := pT g (0 + 1 * 1)) (by simp) (exec_indexAt_slice 120 (.tmp 6) (.tmp 8) (by kernel_rfl) g 0 3 3 (by kernel_rfl) .i64 1 (by kernel_rfl) _ 1 Tryz.underlying120 (by kernel_rfl) (by omega))) <| ppq (.func (.func (F1)) #[] #[A1]) (exec_ld 80 (.tmp 10) g 1 Tryz.underlying80 (rc (h2) (by kernel_rfl))) <| pkq (.func (.func (F1)) #[] #[A1]) <| ps_end <| then_n <| sy_sq (qc75_5 3378) (qc75_5 3379) <| sy_reg <| rg_q 4 [0, 1, 2] <| pkq (.func (.func (F1)) #[] #[A1]) ?_
    refine ps_callV (qo75_5 3378 1) (.tmp 12) (F1) #[] #[A1] #[A1] (by kernel_rfl) (by kernel_rfl) (by kernel_rfl) (by kernel_rfl) (by kernel_rfl) hE1 ((hc1 _ K3).mono ?_)
    rintro e V5 ⟨rfl, kV5⟩
    refine ⟨_, rfl, ?_⟩
    have h6 := kV5.bk h2
    have K7 := K3.nn kV5
    have z8 := kV5.size
    refine pkq (.int .i64 x1) <| ps_end <| then_n <| sy_sq (qc75_5 6758) (qc75_5 6759) <| sy_reg <| rg_q 5 [0, 1] ?_
    by_cases c1 : x1 = 0
    · refine pkq (.int .i64 x1) <| ppq (.bool false) (nqf ((x1) : Int) ((0) : Int) (by omega)) <| ps_end <| sy_a ⟨#[.slice (some ⟨g, 0, none⟩) 3 3, ud, .int .i64 0, ud, .func (.func (F1)) #[] #[A1], .int .i64 x1, .slice (some ⟨g, 0, none⟩) 3 3, .int .i64 3, .int .i64 1, .bool true, pT g 1, .func (.func (F1)) #[] #[A1], .func (.func (F1)) #[] #[A1], .int .i64 x1, .int .i64 x1, .bool false, ud, .int .i64 1], []⟩ <| then_n <| sy_n (.tmp 15) (qc75_5 13518) (qc75_5 13519) <| sy_sk <| blk_n <| then_n <| sy_reg <| rg_q 7 [0, 1] <| pkq (.int .i64 2) <| pkq (.int .i64 2) <| ps_end ?_
      refine then_n <| rd_step <| sy_sq (qc75_5 104) (qc75_5 105) <| sy_reg <| rg_q 2 [0] <| pkq (.bool true) <| ps_end <| then_n <| sy_sq (qc75_5 210) (qc75_5 211) <| sy_ys (.tmp 9) (qc75_5 420) (qc75_5 421) <| sy_sk <| then_n <| sy_sq (qc75_5 422) (qc75_5 423) <| sy_bk 1 (qc75_5 844) ?_
      refine sy_sq (qc75_5 1688) (qc75_5 1689) <| sy_reg <| rg_q 3 [0, 1, 2] <| ppq (pT g 2) (exec_cast (v := pT g (0 + 2 * 1)) (by simp) (exec_indexAt_slice 120 (.tmp 6) (.tmp 8) (by kernel_rfl) g 0 3 3 (by kernel_rfl) .i64 2 (by kernel_rfl) _ 1 Tryz.underlying120 (by kernel_rfl) (by omega))) <| ppq (.func (.func (F2)) #[] #[A2]) (exec_ld 80 (.tmp 10) g 2 Tryz.underlying80 (rc (h6) (by kernel_rfl))) <| pkq (.func (.func (F2)) #[] #[A2]) <| ps_end <| then_n <| sy_sq (qc75_5 3378) (qc75_5 3379) <| sy_reg <| rg_q 4 [0, 1, 2] <| pkq (.func (.func (F2)) #[] #[A2]) ?_
      refine ps_callV (qo75_5 3378 1) (.tmp 12) (F2) #[] #[A2] #[A2] (by kernel_rfl) (by kernel_rfl) (by kernel_rfl) (by kernel_rfl) (by kernel_rfl) hE2 ((hc2 _ K7).mono ?_)
      rintro e V9 ⟨rfl, kV9⟩
      refine ⟨_, rfl, ?_⟩
      have K11 := K7.nn kV9
      have z12 := kV9.size
      refine pkq (.int .i64 x2) <| ps_end <| then_n <| sy_sq (qc75_5 6758) (qc75_5 6759) <| sy_reg <| rg_q 5 [0, 1] ?_
      by_cases c2 : x2 = 0
      · refine pkq (.int .i64 x2) <| ppq (.bool false) (nqf ((x2) : Int) ((0) : Int) (by omega)) <| ps_end <| then_n <| sy_n (.tmp 15) (qc75_5 13518) (qc75_5 13519) <| sy_sk <| blk_n <| then_n <| sy_reg <| rg_q 7 [0, 1] <| pkq (.int .i64 3) <| pkq (.int .i64 3) <| ps_end <| then_n ?_
        refine rd_step <| sy_sq (qc75_5 104) (qc75_5 105) <| sy_reg <| rg_q 2 [0] <| pkq (.bool false) <| ps_end <| then_n <| sy_sq (qc75_5 210) (qc75_5 211) <| sy_n (.tmp 9) (qc75_5 420) (qc75_5 421) <| sy_exit 0 (by kernel_rfl) <| then_e <| then_e <| blk_e <| then_n ?_
        refine sy_sq (qc75_5 14) (qc75_5 15) <| sy_reg <| rg_q 8 [0] <| pkq (.int .i64 0) <| ps_end <| then_n <| sy_ret (by kernel_rfl) <| sy_out (.int .i64 0) rfl (by kernel_rfl) ?_
        exact ⟨by simp only [firstE]; simp [c0, c1, c2], K11⟩
      · refine pkq (.int .i64 x2) <| ppq (.bool true) (nqt ((x2) : Int) ((0) : Int) (by omega)) <| ps_end <| then_n <| sy_ys (.tmp 15) (qc75_5 13518) (qc75_5 13519) <| sy_sq (qc75_5 27036) (qc75_5 27037) <| sy_reg <| rg_q 6 [0, 1] <| pkq (.int .i64 x2) <| pkq (.int .i64 x2) <| ps_end <| then_n <| sy_ret (by kernel_rfl) <| blk_r ?_
        refine then_r <| then_r <| blk_r <| then_r <| sy_out (.int .i64 x2) rfl (by kernel_rfl) ?_
        exact ⟨by simp only [firstE]; simp [c0, c1, c2], K11⟩
    · refine pkq (.int .i64 x1) <| ppq (.bool true) (nqt ((x1) : Int) ((0) : Int) (by omega)) <| ps_end <| sy_a ⟨#[.slice (some ⟨g, 0, none⟩) 3 3, ud, .int .i64 0, ud, .func (.func (F1)) #[] #[A1], .int .i64 x1, .slice (some ⟨g, 0, none⟩) 3 3, .int .i64 3, .int .i64 1, .bool true, pT g 1, .func (.func (F1)) #[] #[A1], .func (.func (F1)) #[] #[A1], .int .i64 x1, .int .i64 x1, .bool true, ud, .int .i64 1], []⟩ <| then_n <| sy_ys (.tmp 15) (qc75_5 13518) (qc75_5 13519) <| sy_sq (qc75_5 27036) (qc75_5 27037) <| sy_reg <| rg_q 6 [0, 1] <| pkq (.int .i64 x1) <| pkq (.int .i64 x1) <| ps_end <| then_n <| sy_ret (by kernel_rfl) ?_
      refine blk_r <| then_r <| then_r <| blk_r <| then_r <| sy_out (.int .i64 x1) rfl (by kernel_rfl) ?_
      exact ⟨by simp only [firstE]; simp [c0, c1], K7⟩
  · refine pkq (.int .i64 x0) <| ppq (.bool true) (nqt ((x0) : Int) ((0) : Int) (by omega)) <| ps_end <| then_n <| sy_ys (.tmp 15) (qc75_5 13518) (qc75_5 13519) <| sy_sq (qc75_5 27036) (qc75_5 27037) <| sy_reg <| rg_q 6 [0, 1] <| pkq (.int .i64 x0) <| pkq (.int .i64 x0) <| ps_end <| then_n <| sy_ret (by kernel_rfl) <| blk_r ?_
    refine then_r <| then_r <| blk_r <| then_r <| sy_out (.int .i64 x0) rfl (by kernel_rfl) ?_
    exact ⟨by simp only [firstE]; simp [c0], K3⟩
end Go.Proofs.YtcbfnflnokoacaaGreat
namespace Go.Proofs.YtcbfnflnokoacaaGreat
set_option maxRecDepth 100000
set_option maxHeartbeats 4000000
open Go Go.RowKit Go.Own Go.Shelf
def putA (m : Msg) (x : Att) : Msg := { m with a := x }
def putB (m : Msg) (x : Att) : Msg := { m with b := x }
def putP (m : Msg) (x : Pro) : Msg := { m with p := x }
def putQ (m : Msg) (x : Pro) : Msg := { m with q := x }
section
variable {m : Msg}
theorem putA_R {x : Att} (h : m.R) (hx : x.r.length = 32) : (putA m x).R := ⟨hx, h.b, h.p, h.q⟩
theorem putB_R {x : Att} (h : m.R) (hx : x.r.length = 32) : (putB m x).R := ⟨h.a, hx, h.p, h.q⟩
theorem putP_R {x : Pro} (h : m.R) (hx : x.r.length = 32) : (putP m x).R := ⟨h.a, h.b, hx, h.q⟩
theorem Msg.seg_A (hr : m.R) : ∀ (j : Nat) (u : Value), m.a.c.toList[j]? = some u → m.c[12 + j]? = some u := fun j u h => getA m (by rw [Array.getElem?_toList] at h; exact h)
theorem Msg.seg_B (hr : m.R) : ∀ (j : Nat) (u : Value), m.b.c.toList[j]? = some u → m.c[48 + j]? = some u := fun j u h => getB hr (by rw [Array.getElem?_toList] at h; exact h)
theorem Msg.seg_P (hr : m.R) : ∀ (j : Nat) (u : Value), m.p.c.toList[j]? = some u → m.c[84 + j]? = some u := fun j u h => getP hr (by rw [Array.getElem?_toList] at h; exact h)
theorem Msg.seg_Q (hr : m.R) : ∀ (j : Nat) (u : Value), m.q.c.toList[j]? = some u → m.c[119 + j]? = some u := fun j u h => getQ hr (by rw [Array.getElem?_toList] at h; exact h)
theorem full_seg {y xs : List Value} (h : xs.length = y.length) : y.take 0 ++ (xs ++ y.drop (0 + xs.length)) = xs := by
  rw [Nat.zero_add, h, List.drop_length]; simp
theorem Msg.set_A (hr : m.R) (x : Att) (hx : x.r.length = 32) : seg m.c 12 x.c.toList = (putA m x).c :=
  (segM (Msg.cl_a m) Msg.hd_len (j := 0) (by rw [Att.tl hr.a, Att.tl hx]; decide) (full_seg (by rw [Att.tl hr.a, Att.tl hx]))).trans rfl
theorem Msg.set_B (hr : m.R) (x : Att) (hx : x.r.length = 32) : seg m.c 48 x.c.toList = (putB m x).c :=
  (segM (Msg.cl_b m) (len_b hr) (j := 0) (by rw [Att.tl hr.b, Att.tl hx]; decide) (full_seg (by rw [Att.tl hr.b, Att.tl hx]))).trans (by rw [Msg.c, Msg.cl_b]; rfl)
theorem Msg.set_P (hr : m.R) (x : Pro) (hx : x.r.length = 32) : seg m.c 84 x.c.toList = (putP m x).c :=
  (segM (Msg.cl_p m) (len_p hr) (j := 0) (by rw [Pro.tl hr.p, Pro.tl hx]; decide) (full_seg (by rw [Pro.tl hr.p, Pro.tl hx]))).trans (by rw [Msg.c, Msg.cl_p]; rfl)
theorem Msg.set_Q (hr : m.R) (x : Pro) (hx : x.r.length = 32) : seg m.c 119 x.c.toList = (putQ m x).c :=
  (segM (Msg.cl_q m) (len_q hr) (j := 0) (by rw [Pro.tl hr.q, Pro.tl hx]; decide) (full_seg (by rw [Pro.tl hr.q, Pro.tl hx]))).trans (by rw [Msg.c, Msg.cl_q]; rfl)
end
end Go.Proofs.YtcbfnflnokoacaaGreat
namespace Go.Proofs.YtcbfnflnokoacaaGreat
set_option maxRecDepth 100000
set_option maxHeartbeats 4000000
open Go Go.RowKit Go.Own Go.Shelf
theorem evi_first (m : Msg) : firstE [m.chk, if m.k = 8 then 0 else 5] = m.evi := by
  unfold Msg.evi; simp only [firstE]
  by_cases h : m.chk = 0 <;> by_cases h8 : m.k = 8 <;> simp [h, h8]
theorem hasE_pair (l : List Sel) (x y : Sel) : hasE l [x, y] = if x ∈ l then (if y ∈ l then 0 else 15) else 15 := by
  unfold hasE; by_cases h : x ∈ l <;> by_cases h2 : y ∈ l <;> simp [h, h2]
theorem sHas_is {v : Value} {l : List Sel} {x : Sel} {r : Bool} (w : World) (hl : SelsAt w v l) (hlr : ∀ y ∈ l, y.r.length = 32) (hx : x.r.length = 32) (h : decide (x ∈ l) = r) : Calls Tryz.prog 62 #[v, .agg (Sel.c x)] w fun e w' => e = .returned (.bool r) ∧ Keeps Nob w w' := by
  subst h; exact sHas_ok v l x w hl hlr hx
theorem sel_info0 : (Tryz.prog.info? 30).map (fun i => (i.zero, i.size, i.bytes)) = some (some (.agg selZ.c), 34, 48) := by kernel_rfl
def evMs (pf : Int) (a b : Att) : Msg := { msgZ with k := 8, pf := pf, a := a, b := b }
def evP (p q : Pro) : Msg := { msgZ with k := 8, pf := 3, p := p, q := q }
theorem evMs_R {pf : Int} {a b : Att} (ha : a.r.length = 32) (hb : b.r.length = 32) : (evMs pf a b).R := ⟨ha, hb, rfl, rfl⟩
theorem evP_R {p q : Pro} (ha : p.r.length = 32) (hb : q.r.length = 32) : (evP p q).R := ⟨rfl, rfl, ha, hb⟩
theorem fill_ab (a b : Att) (ha : a.r.length = 32) (hb : b.r.length = 32) : Instr.fill ((#[(0, 1), (1, 1), (2, 1), (3, 1), (4, 1), (5, 1), (6, 4), (10, 1), (11, 1), (12, 36), (48, 36), (84, 35), (119, 35)] : Array (Nat × Nat))[·]?) msgZ.c [(0, .int .i64 8), (9, .agg (Att.c a)), (10, .agg (Att.c b))] = some (Msg.c (evMs 0 a b)) := by
  refine fill_seg (ds := Msg.c (onlyK 8)) rfl rfl (by decide) (by kernel_rfl) <| fill_seg (ds := Msg.c (putA (onlyK 8) a)) rfl (Att.c_size a ha) (by rw [Msg.c_size (onlyK_R 8)]; decide) (Msg.set_A (onlyK_R 8) a ha) ?_
  exact fill_seg (ds := Msg.c (putB (putA (onlyK 8) a) b)) rfl (Att.c_size b hb) (by rw [Msg.c_size (putA_R (onlyK_R 8) ha)]; decide) (Msg.set_B (putA_R (onlyK_R 8) ha) b hb) rfl
theorem fill_pq (p q : Pro) (ha : p.r.length = 32) (hb : q.r.length = 32) : Instr.fill ((#[(0, 1), (1, 1), (2, 1), (3, 1), (4, 1), (5, 1), (6, 4), (10, 1), (11, 1), (12, 36), (48, 36), (84, 35), (119, 35)] : Array (Nat × Nat))[·]?) msgZ.c [(0, .int .i64 8), (8, .int .i64 3), (11, .agg (Pro.c p)), (12, .agg (Pro.c q))] = some (Msg.c (evP p q)) := by
  refine fill_seg (ds := Msg.c (onlyK 8)) rfl rfl (by decide) (by kernel_rfl) <| fill_seg (ds := Msg.c (NF.set (onlyK 8) 3 .pf)) rfl rfl (by rw [Msg.c_size (onlyK_R 8)]; decide) (by kernel_rfl) ?_
  have h3 := NF.R (onlyK_R 8) (x := .pf) (v := 3)
  refine fill_seg (ds := Msg.c (putP (NF.set (onlyK 8) 3 .pf) p)) rfl (Pro.c_size p ha) (by rw [Msg.c_size h3]; decide) (Msg.set_P h3 p ha) ?_
  exact fill_seg (ds := Msg.c (putQ (putP (NF.set (onlyK 8) 3 .pf) p) q)) rfl (Pro.c_size q hb) (by rw [Msg.c_size (putP_R h3 ha)]; decide) (Msg.set_Q (putP_R h3 ha) q hb) rfl
theorem doubV {a b : Att} {r : Bool} (w : World) (ha : a.Ok) (hb : b.Ok) (h : doub a b = r) : Calls Tryz.prog 32 #[.agg (Att.c a), .agg (Att.c b)] w fun e w' => e = .returned (.bool r) ∧ Keeps Nob w w' := by subst h; exact vDoubles_ok a b w ha hb
theorem surrV {a b : Att} {r : Bool} (w : World) (ha : a.Ok) (hb : b.Ok) (h : surr a b = r) : Calls Tryz.prog 33 #[.agg (Att.c a), .agg (Att.c b)] w fun e w' => e = .returned (.bool r) ∧ Keeps Nob w w' := by subst h; exact vSurrounds_ok a b w ha hb
theorem doubPV {a b : Pro} {r : Bool} (w : World) (ha : a.Ok) (hb : b.Ok) (h : doubP a b = r) : Calls Tryz.prog 35 #[.agg (Pro.c a), .agg (Pro.c b)] w fun e w' => e = .returned (.bool r) ∧ Keeps Nob w w' := by subst h; exact vDoublesBlock_ok a b w ha hb
theorem bnot {x : Bool} (h : ¬ x = true) : x = false := by cases x; rfl; exact absurd rfl h
noncomputable def qc77_14 (n : Nat) : Code := partOf Tryz.f82 n
theorem eform1_ok (m : Msg) (g : Nat) (w : World) (hr : m.R) (hb : w.heap[g]? = some (.cells (Msg.c m) 38 (0, 0))) :
    Calls Tryz.prog 82 #[.pointer (some ⟨g, 0, none⟩)] w (fun e w' => e = .returned (.int .i64 m.chk) ∧ Keeps Nob w w') := by
  have K0 : Keeps Nob w w := Keeps.refl _ _
  refine sy_enter (qc77_14 1) ⟨#[pT g 0, ud, ud, ud], []⟩ Tryz.func82 (by kernel_rfl) (by kernel_rfl) <| sy_sq (qc77_14 2) (qc77_14 3) <| sy_reg <| rg_q 0 [0] <| pkq (.int .i64 0) <| ps_end <| then_n <| sy_sq (qc77_14 6) (qc77_14 7) <| sy_reg <| rg_q 1 [0, 1, 2] <| ppq (.agg (Msg.c m)) (exec_load_row 38 (.tmp 0) (by kernel_rfl) g (by kernel_rfl) _ _ (0, 0) _ (hb) Tryz.underlying38 rfl (by rw [Msg.c_size hr]; kernel_rfl)) ?_
  refine pcq 36 #[.agg (Msg.c m)] Tryz.func36 ((mCheck_any m _ hr).mono ?_)
  rintro e V1 ⟨rfl, kV1⟩
  refine ⟨_, rfl, ?_⟩
  have K3 := K0.nn kV1
  have z4 := kV1.size
  refine pkq (.int .i64 m.chk) <| ps_end <| then_n <| sy_ret (by kernel_rfl) <| sy_out (.int .i64 m.chk) rfl (by kernel_rfl) ?_
  exact ⟨rfl, K3⟩
noncomputable def qc77_13 (n : Nat) : Code := partOf Tryz.f83 n
theorem eform2_ok (m : Msg) (g : Nat) (w : World) (hr : m.R) (hb : w.heap[g]? = some (.cells (Msg.c m) 38 (0, 0))) :
    Calls Tryz.prog 83 #[.pointer (some ⟨g, 0, none⟩)] w (fun e w' => e = .returned (.int .i64 (if m.k = 8 then 0 else 5)) ∧ Keeps Nob w w') := by
  have K0 : Keeps Nob w w := Keeps.refl _ _
  refine sy_enter (qc77_13 1) ⟨#[pT g 0, ud, ud, ud, ud], []⟩ Tryz.func83 (by kernel_rfl) (by kernel_rfl) <| sy_sq (qc77_13 2) (qc77_13 3) <| sy_reg <| rg_q 0 [0] <| pkq (.int .i64 0) <| ps_end <| then_n <| sy_sq (qc77_13 6) (qc77_13 7) <| sy_sq (qc77_13 12) (qc77_13 13) <| sy_reg <| rg_q 1 [0, 1, 2] ?_
  by_cases c0 : m.k = 8
  · refine pkq (pT g 0) <| ppq (.int .i64 m.k) (exec_ld 3 (.tmp 2) g 0 Tryz.underlying3 (rc (hb) (Msg.get_n hr NF.k))) <| ppq (.bool false) (nqf ((m.k) : Int) ((8) : Int) (by omega)) <| ps_end <| then_n <| sy_n (.tmp 4) (qc77_13 26) (qc77_13 27) <| sy_sk <| then_n <| sy_sq (qc77_13 14) (qc77_13 15) <| sy_reg <| rg_q 3 [0] <| pkq (.int .i64 0) <| ps_end <| then_n ?_
    refine sy_ret (by kernel_rfl) <| sy_out (.int .i64 0) rfl (by kernel_rfl) ?_
    exact ⟨by simp [c0], K0⟩
  · refine pkq (pT g 0) <| ppq (.int .i64 m.k) (exec_ld 3 (.tmp 2) g 0 Tryz.underlying3 (rc (hb) (Msg.get_n hr NF.k))) <| ppq (.bool true) (nqt ((m.k) : Int) ((8) : Int) (by omega)) <| ps_end <| then_n <| sy_ys (.tmp 4) (qc77_13 26) (qc77_13 27) <| sy_sq (qc77_13 52) (qc77_13 53) <| sy_reg <| rg_q 2 [0] <| pkq (.int .i64 5) <| ps_end <| then_n <| sy_ret (by kernel_rfl) <| then_r ?_
    refine sy_out (.int .i64 5) rfl (by kernel_rfl) ?_
    exact ⟨by simp [c0], K0⟩
noncomputable def qc77_15 (n : Nat) : Code := partOf Tryz.f51 n
theorem eform_ok (m : Msg) (w : World) (hr : m.R) :
    Calls Tryz.prog 51 #[.agg (Msg.c m)] w (fun e w' => e = .returned (.int .i64 m.evi) ∧ Keeps Nob w w') := by
  have K0 : Keeps Nob w w := Keeps.refl _ _
  refine sy_enter (qc77_15 1) ⟨#[.agg (Msg.c m), ud, ud, ud, ud, ud, ud], []⟩ Tryz.func51 (by kernel_rfl) (by kernel_rfl) <| sy_sq (qc77_15 2) (qc77_15 3) <| sy_reg <| rg_q 0 [0, 1] ?_
  obtain ⟨V1, eV1, gm, egm, h2, kV1⟩ := alloc_step w ((Msg.c m)) 38
  have n3 : w.heap.size ≤ gm := egm ▸ K0.size
  refine prq (pT gm 0) (w' := V1) (by rw [← eV1, ← egm]; exact exec_box 38 (.tmp 0) (by kernel_rfl) (.agg (Msg.c m)) (by kernel_rfl)) ?_
  clear eV1
  have K4 := K0.nn kV1
  have z5 := kV1.size
  refine pkq (.int .i64 0) <| ps_end <| then_n <| sy_sq (qc77_15 6) (qc77_15 7) <| sy_reg <| rg_q 1 [0, 1, 2, 3, 4] <| pkq (.func (.func 82) #[] #[pT gm 0]) <| pkq (.func (.func 83) #[] #[pT gm 0]) ?_
  obtain ⟨V6, eV6, gf, egf, h7, kV6⟩ := alloc_step V1 (#[.func (.func 82) #[] #[.pointer (some ⟨gm, 0, none⟩)], .func (.func 83) #[] #[.pointer (some ⟨gm, 0, none⟩)]]) 80
  have n8 : gm < gf := egf ▸ lt_of_block h2
  have n9 : w.heap.size ≤ gf := egf ▸ K4.size
  refine prq (.slice (some ⟨gf, 0, none⟩) 2 2) (w' := V6) (by rw [← eV6, ← egf]; kernel_rfl) ?_
  have h10 := kV6.bk h2
  have K11 := K4.nn kV6
  have z12 := kV6.size
  refine pcq 48 #[.slice (some ⟨gf, 0, none⟩) 2 2] Tryz.func48 ((efirst_aa 82 (pT gm 0) m.chk 83 (pT gm 0) (if m.k = 8 then 0 else 5) gf _ h7 (enters_of Tryz.func82 (by kernel_rfl) rfl) (fun W k => eform1_ok m gm W hr (k.bk h10)) (enters_of Tryz.func83 (by kernel_rfl) rfl) (fun W k => eform2_ok m gm W hr (k.bk h10))).mono ?_)
  rintro e V13 ⟨rfl, kV13⟩
  refine ⟨_, rfl, ?_⟩
  have K16 := K11.nn kV13
  have z17 := kV13.size
  refine pkq (.int .i64 (firstE [m.chk, if m.k = 8 then 0 else 5])) <| ps_end <| then_n <| sy_ret (by kernel_rfl) <| sy_out (.int .i64 (firstE [m.chk, if m.k = 8 then 0 else 5])) rfl (by kernel_rfl) ?_
  exact ⟨by rw [evi_first], K16⟩
noncomputable def qc77_11 (n : Nat) : Code := partOf Tryz.f53 n
theorem eclash_ok (m : Msg) (w : World) (ho : m.Ok) :
    Calls Tryz.prog 53 #[.agg (Msg.c m)] w (fun e w' => e = .returned (.bool m.cla) ∧ Keeps Nob w w') := by
  have hr := ho.R
  have K0 : Keeps Nob w w := Keeps.refl _ _
  refine sy_enter (qc77_11 1) ⟨#[.agg (Msg.c m), ud, ud, ud, ud, ud, ud, ud, ud, ud, ud, ud, ud, ud, ud, ud, ud, ud, ud, ud, ud, ud, ud, ud], []⟩ Tryz.func53 (by kernel_rfl) (by kernel_rfl) <| sy_sq (qc77_11 2) (qc77_11 3) <| sy_reg <| rg_q 0 [0, 1] ?_
  obtain ⟨V1, eV1, gm, egm, h2, kV1⟩ := alloc_step w ((Msg.c m)) 38
  have n3 : w.heap.size ≤ gm := egm ▸ K0.size
  refine prq (pT gm 0) (w' := V1) (by rw [← eV1, ← egm]; exact exec_box 38 (.tmp 0) (by kernel_rfl) (.agg (Msg.c m)) (by kernel_rfl)) ?_
  clear eV1
  have K4 := K0.nn kV1
  have z5 := kV1.size
  refine pkq (.bool false) <| ps_end <| then_n <| sy_sq (qc77_11 6) (qc77_11 7) <| sy_sq (qc77_11 12) (qc77_11 13) <| sy_reg <| rg_q 1 [0, 1] <| pkq (pT gm 11) <| ppq (.int .i64 m.pf) (exec_ld 3 (.tmp 3) gm 11 Tryz.underlying3 (rc (h2) (Msg.get_n hr NF.pf))) <| ps_end <| then_n <| sy_bk 0 (qc77_11 26) <| sy_sq (qc77_11 52) (qc77_11 53) <| sy_reg ?_
  refine rg_q 2 [0, 1] ?_
  by_cases c0 : m.pf = 1
  · refine ppq (.bool true) (eqt ((m.pf) : Int) ((1) : Int) (by omega)) <| pkq (.bool true) <| ps_end <| then_n <| sy_ys (.tmp 5) (qc77_11 106) (qc77_11 107) <| sy_sq (qc77_11 212) (qc77_11 213) <| sy_reg <| rg_q 3 [0, 1, 2, 3, 4, 5] <| pkq (pT gm 12) <| ppq (.agg (Att.c m.a)) (exec_load_seg 26 (.tmp 7) (by kernel_rfl) gm 12 (by kernel_rfl) (Att.c m.a).toList _ _ _ h2 (Msg.seg_A hr) Tryz.underlying26 rfl (by rw [Att.tl hr.a]; kernel_rfl)) <| pkq (pT gm 48) <| ppq (.agg (Att.c m.b)) (exec_load_seg 26 (.tmp 9) (by kernel_rfl) gm 48 (by kernel_rfl) (Att.c m.b).toList _ _ _ h2 (Msg.seg_B hr) Tryz.underlying26 rfl (by rw [Att.tl hr.b]; kernel_rfl)) ?_
    refine pcq 32 #[.agg (Att.c m.a), .agg (Att.c m.b)] Tryz.func32 ((vDoubles_ok m.a m.b _ ho.a ho.b).mono ?_)
    rintro e V6 ⟨rfl, kV6⟩
    refine ⟨_, rfl, ?_⟩
    have K8 := K4.nn kV6
    have z9 := kV6.size
    refine pkq (.bool (doub m.a m.b)) <| ps_end <| then_n <| sy_ret (by kernel_rfl) <| blk_r <| then_r <| sy_out (.bool (doub m.a m.b)) rfl (by kernel_rfl) ?_
    exact ⟨by unfold Msg.cla; rw [if_pos c0], K8⟩
  · refine ppq (.bool false) (eqf ((m.pf) : Int) ((1) : Int) (by omega)) <| pkq (.bool false) <| ps_end <| then_n <| sy_n (.tmp 5) (qc77_11 106) (qc77_11 107) <| sy_sq (qc77_11 214) (qc77_11 215) <| sy_reg <| rg_q 4 [0, 1] ?_
    by_cases c1 : m.pf = 2
    · refine ppq (.bool true) (eqt ((m.pf) : Int) ((2) : Int) (by omega)) <| pkq (.bool true) <| ps_end <| then_n <| sy_ys (.tmp 12) (qc77_11 430) (qc77_11 431) <| sy_sq (qc77_11 860) (qc77_11 861) <| sy_reg <| rg_q 5 [0, 1, 2, 3, 4, 5] <| pkq (pT gm 12) <| ppq (.agg (Att.c m.a)) (exec_load_seg 26 (.tmp 14) (by kernel_rfl) gm 12 (by kernel_rfl) (Att.c m.a).toList _ _ _ h2 (Msg.seg_A hr) Tryz.underlying26 rfl (by rw [Att.tl hr.a]; kernel_rfl)) <| pkq (pT gm 48) <| ppq (.agg (Att.c m.b)) (exec_load_seg 26 (.tmp 16) (by kernel_rfl) gm 48 (by kernel_rfl) (Att.c m.b).toList _ _ _ h2 (Msg.seg_B hr) Tryz.underlying26 rfl (by rw [Att.tl hr.b]; kernel_rfl)) ?_
      refine pcq 33 #[.agg (Att.c m.a), .agg (Att.c m.b)] Tryz.func33 ((vSurrounds_ok m.a m.b _ ho.a ho.b).mono ?_)
      rintro e V10 ⟨rfl, kV10⟩
      refine ⟨_, rfl, ?_⟩
      have K12 := K4.nn kV10
      have z13 := kV10.size
      refine pkq (.bool (surr m.a m.b)) <| ps_end <| then_n <| sy_ret (by kernel_rfl) <| blk_r <| then_r <| sy_out (.bool (surr m.a m.b)) rfl (by kernel_rfl) ?_
      exact ⟨by unfold Msg.cla; rw [if_neg c0, if_pos c1], K12⟩
    · refine ppq (.bool false) (eqf ((m.pf) : Int) ((2) : Int) (by omega)) <| pkq (.bool false) <| ps_end <| then_n <| sy_n (.tmp 12) (qc77_11 430) (qc77_11 431) <| sy_sk <| blk_n <| then_n <| sy_sq (qc77_11 14) (qc77_11 15) <| sy_reg <| rg_q 6 [0, 1, 2, 3, 4, 5] <| pkq (pT gm 84) <| ppq (.agg (Pro.c m.p)) (exec_load_seg 28 (.tmp 19) (by kernel_rfl) gm 84 (by kernel_rfl) (Pro.c m.p).toList _ _ _ h2 (Msg.seg_P hr) Tryz.underlying28 rfl (by rw [Pro.tl hr.p]; kernel_rfl)) <| pkq (pT gm 119) ?_
      refine ppq (.agg (Pro.c m.q)) (exec_load_seg 28 (.tmp 21) (by kernel_rfl) gm 119 (by kernel_rfl) (Pro.c m.q).toList _ _ _ h2 (Msg.seg_Q hr) Tryz.underlying28 rfl (by rw [Pro.tl hr.q]; kernel_rfl)) ?_
      refine pcq 35 #[.agg (Pro.c m.p), .agg (Pro.c m.q)] Tryz.func35 ((vDoublesBlock_ok m.p m.q _ ho.p ho.q).mono ?_)
      rintro e V14 ⟨rfl, kV14⟩
      refine ⟨_, rfl, ?_⟩
      have K16 := K4.nn kV14
      have z17 := kV14.size
      refine pkq (.bool (doubP m.p m.q)) <| ps_end <| then_n <| sy_ret (by kernel_rfl) <| sy_out (.bool (doubP m.p m.q)) rfl (by kernel_rfl) ?_
      exact ⟨by unfold Msg.cla; rw [if_neg c0, if_neg c1], K16⟩
noncomputable def qc77_7 (n : Nat) : Code := partOf Tryz.f54 n
theorem eheight_ok (p : Par) (m : Msg) (w : World) (hp : p.Ok) (ho : m.Ok) :
    Calls Tryz.prog 54 #[.agg p.cells, .agg (Msg.c m)] w (fun e w' => e = .returned (.tuple #[.int .i64 (hgt p m).1, .int .i64 (hgt p m).2]) ∧ Keeps Nob w w') := by
  have hr := ho.R
  have hmx : i64ok (max m.a.t m.b.t) := by have h1 := ho.a.t; have h2 := ho.b.t; unfold i64ok; unfold i64b at h1 h2; omega
  have K0 : Keeps Nob w w := Keeps.refl _ _
  refine sy_enter (qc77_7 1) ⟨#[.agg p.cells, .agg (Msg.c m), ud, ud, ud, ud, ud, ud, ud, ud, ud, ud, ud, ud, ud, ud, ud, ud, ud, ud, ud, ud, ud, ud, ud, ud], []⟩ Tryz.func54 (by kernel_rfl) (by kernel_rfl) <| sy_sq (qc77_7 2) (qc77_7 3) <| sy_reg <| rg_q 0 [0, 1, 2, 3] ?_
  obtain ⟨V1, eV1, gp, egp, h2, kV1⟩ := alloc_step w p.cells 45
  have n3 : w.heap.size ≤ gp := egp ▸ K0.size
  refine prq (pT gp 0) (w' := V1) (by rw [← eV1, ← egp]; exact exec_box 45 (.tmp 0) (by kernel_rfl) (.agg p.cells) (by kernel_rfl)) ?_
  clear eV1
  have K4 := K0.nn kV1
  have z5 := kV1.size
  obtain ⟨V6, eV6, gm, egm, h7, kV6⟩ := alloc_step V1 ((Msg.c m)) 38
  have n8 : gp < gm := egm ▸ lt_of_block h2
  have n9 : w.heap.size ≤ gm := egm ▸ K4.size
  refine prq (pT gm 0) (w' := V6) (by rw [← eV6, ← egm]; exact exec_box 38 (.tmp 1) (by kernel_rfl) (.agg (Msg.c m)) (by kernel_rfl)) ?_
  clear eV6
  have h10 := kV6.bk h2
  have K11 := K4.nn kV6
  have z12 := kV6.size
  refine pkq (.int .i64 0) <| pkq (.int .i64 0) <| ps_end <| then_n <| sy_sq (qc77_7 6) (qc77_7 7) <| sy_sq (qc77_7 12) (qc77_7 13) <| sy_reg <| rg_q 1 [0, 1] <| pkq (pT gm 11) <| ppq (.int .i64 m.pf) (exec_ld 3 (.tmp 6) gm 11 Tryz.underlying3 (rc (h7) (Msg.get_n hr NF.pf))) <| ps_end <| then_n <| sy_bk 0 (qc77_7 26) <| sy_sq (qc77_7 52) (qc77_7 53) ?_
  refine sy_bk 2 (qc77_7 104) <| sy_bk 1 (qc77_7 208) <| sy_sq (qc77_7 416) (qc77_7 417) <| sy_sq (qc77_7 832) (qc77_7 833) <| sy_sq (qc77_7 1664) (qc77_7 1665) <| sy_reg <| rg_q 2 [0, 1] ?_
  by_cases c0 : m.pf = 1
  · refine ppq (.bool true) (eqt ((m.pf) : Int) ((1) : Int) (by omega)) <| pkq (.bool true) <| ps_end <| then_n <| sy_ys (.tmp 8) (qc77_7 3330) (qc77_7 3331) <| sy_exit 1 (by kernel_rfl) <| then_e <| then_e <| blk_e <| blk_n <| then_n <| sy_sq (qc77_7 106) (qc77_7 107) <| sy_sq (qc77_7 212) (qc77_7 213) <| sy_reg ?_
    refine rg_q 4 [0, 1, 2, 3, 4, 5, 6, 7, 8, 9, 10, 11, 12] <| ppq (.agg (p.cells)) (exec_load_row 45 (.tmp 2) (by kernel_rfl) gp (by kernel_rfl) _ _ (0, 0) _ (h10) Tryz.underlying45 rfl (by kernel_rfl)) <| pkq (pT gm 12) <| pkq (pT gm 14) <| ppq (.int .i64 m.a.t) (exec_ld 3 (.tmp 14) gm 14 Tryz.underlying3 (rc (h7) (Msg.get_n hr NF.at_))) <| pkq (pT gm 48) <| pkq (pT gm 50) <| ppq (.int .i64 m.b.t) (exec_ld 3 (.tmp 17) gm 50 Tryz.underlying3 (rc (h7) (Msg.get_n hr NF.bt))) <| ppq (.int .i64 (max m.a.t m.b.t)) (exec_max (.tmp 15) (.tmp 18) #[3, 3] (by kernel_rfl) .i64 m.a.t m.b.t (by kernel_rfl) (by kernel_rfl)) ?_
    refine pcq 34 #[.agg (p.cells), .int .i64 (max m.a.t m.b.t)] Tryz.func34 ((pFirst_ok p hp (max m.a.t m.b.t) hmx _).mono ?_)
    rintro e V13 ⟨rfl, kV13⟩
    refine ⟨_, rfl, ?_⟩
    have K16 := K11.nn kV13
    have z17 := kV13.size
    refine pkq (.int .i64 (p.first (max m.a.t m.b.t)).1) <| pkq (.int .i64 (p.first (max m.a.t m.b.t)).2) <| pkq (.int .i64 (p.first (max m.a.t m.b.t)).1) <| pkq (.int .i64 (p.first (max m.a.t m.b.t)).2) <| ps_end <| then_n <| sy_ret (by kernel_rfl) <| then_r <| blk_r <| then_r <| sy_out (.tuple #[.int .i64 (p.first (max m.a.t m.b.t)).1, .int .i64 (p.first (max m.a.t m.b.t)).2]) rfl (by kernel_rfl) ?_
    exact ⟨by rw [hgt, if_pos (.inl c0)], K16⟩
  · refine ppq (.bool false) (eqf ((m.pf) : Int) ((1) : Int) (by omega)) <| pkq (.bool false) <| ps_end <| then_n <| sy_n (.tmp 8) (qc77_7 3330) (qc77_7 3331) <| sy_sk <| then_n <| sy_sq (qc77_7 1666) (qc77_7 1667) <| sy_reg <| rg_q 3 [0, 1] ?_
    by_cases c1 : m.pf = 2
    · refine ppq (.bool true) (eqt ((m.pf) : Int) ((2) : Int) (by omega)) <| pkq (.bool true) <| ps_end <| then_n <| sy_ys (.tmp 10) (qc77_7 3334) (qc77_7 3335) <| sy_exit 2 (by kernel_rfl) <| then_e <| blk_p (by decide) <| blk_e <| then_n <| sy_sq (qc77_7 106) (qc77_7 107) <| sy_sq (qc77_7 212) (qc77_7 213) <| sy_reg <| rg_q 4 [0, 1, 2, 3, 4, 5, 6, 7, 8, 9, 10, 11, 12] ?_
      refine ppq (.agg (p.cells)) (exec_load_row 45 (.tmp 2) (by kernel_rfl) gp (by kernel_rfl) _ _ (0, 0) _ (h10) Tryz.underlying45 rfl (by kernel_rfl)) <| pkq (pT gm 12) <| pkq (pT gm 14) <| ppq (.int .i64 m.a.t) (exec_ld 3 (.tmp 14) gm 14 Tryz.underlying3 (rc (h7) (Msg.get_n hr NF.at_))) <| pkq (pT gm 48) <| pkq (pT gm 50) <| ppq (.int .i64 m.b.t) (exec_ld 3 (.tmp 17) gm 50 Tryz.underlying3 (rc (h7) (Msg.get_n hr NF.bt))) <| ppq (.int .i64 (max m.a.t m.b.t)) (exec_max (.tmp 15) (.tmp 18) #[3, 3] (by kernel_rfl) .i64 m.a.t m.b.t (by kernel_rfl) (by kernel_rfl)) ?_
      refine pcq 34 #[.agg (p.cells), .int .i64 (max m.a.t m.b.t)] Tryz.func34 ((pFirst_ok p hp (max m.a.t m.b.t) hmx _).mono ?_)
      rintro e V18 ⟨rfl, kV18⟩
      refine ⟨_, rfl, ?_⟩
      have K21 := K11.nn kV18
      have z22 := kV18.size
      refine pkq (.int .i64 (p.first (max m.a.t m.b.t)).1) <| pkq (.int .i64 (p.first (max m.a.t m.b.t)).2) <| pkq (.int .i64 (p.first (max m.a.t m.b.t)).1) <| pkq (.int .i64 (p.first (max m.a.t m.b.t)).2) <| ps_end <| then_n <| sy_ret (by kernel_rfl) <| then_r <| blk_r <| then_r <| sy_out (.tuple #[.int .i64 (p.first (max m.a.t m.b.t)).1, .int .i64 (p.first (max m.a.t m.b.t)).2]) rfl (by kernel_rfl) ?_
      exact ⟨by rw [hgt, if_pos (.inr c1)], K21⟩
    · refine ppq (.bool false) (eqf ((m.pf) : Int) ((2) : Int) (by omega)) <| pkq (.bool false) <| ps_end <| then_n <| sy_n (.tmp 10) (qc77_7 3334) (qc77_7 3335) <| sy_sk <| then_n <| sy_exit 0 (by kernel_rfl) <| blk_p (by decide) <| blk_p (by decide) <| then_e <| blk_e <| then_n <| sy_sq (qc77_7 14) (qc77_7 15) ?_
      refine sy_reg <| rg_q 5 [0, 1, 2, 3, 4] <| pkq (pT gm 84) <| pkq (pT gm 85) <| ppq (.int .i64 m.p.h) (exec_ld 3 (.tmp 24) gm 85 Tryz.underlying3 (rc (h7) (Msg.get_n hr NF.ph))) <| pkq (.int .i64 m.p.h) <| pkq (.int .i64 0) <| ps_end <| then_n <| sy_ret (by kernel_rfl) <| sy_out (.tuple #[.int .i64 m.p.h, .int .i64 0]) rfl (by kernel_rfl) ?_
      exact ⟨by rw [hgt, if_neg (not_or.2 ⟨c0, c1⟩)], K11⟩
noncomputable def qc77_2 (n : Nat) : Code := partOf Tryz.f49 n
theorem eOffence1_ok (p : Par) (g : Nat) (w : World) (hp : p.Ok) (hb : w.heap[g]? = some (.cells p.cells 45 (0, 0))) :
    Calls Tryz.prog 49 #[.pointer (some ⟨g, 0, none⟩)] w (fun e w' => e = .returned (.int .i64 p.check.1) ∧ Keeps Nob w w') := by
  have K0 : Keeps Nob w w := Keeps.refl _ _
  refine sy_enter (qc77_2 1) ⟨#[pT g 0, ud, ud, ud, ud, ud, ud, ud, ud, ud], []⟩ Tryz.func49 (by kernel_rfl) (by kernel_rfl) <| sy_sq (qc77_2 2) (qc77_2 3) <| sy_reg <| rg_q 0 [0] <| pkq (.int .i64 0) <| ps_end <| then_n <| sy_sq (qc77_2 6) (qc77_2 7) <| sy_reg <| rg_q 1 [0, 1, 2, 3, 4, 5, 6] <| ppq (.agg (p.cells)) (exec_load_row 45 (.tmp 0) (by kernel_rfl) g (by kernel_rfl) _ _ (0, 0) _ (hb) Tryz.underlying45 rfl (by kernel_rfl)) ?_
  refine pcq 31 #[.agg (p.cells)] Tryz.func31 ((pCheck_ok p hp _).mono ?_)
  rintro e V1 ⟨rfl, kV1⟩
  refine ⟨_, rfl, ?_⟩
  have K3 := K0.nn kV1
  have z4 := kV1.size
  refine pkq (.tuple #[.int .i64 p.check.1, .int .i64 p.check.2]) <| pkq (.int .i64 p.check.1) <| pkq (.int .i64 p.check.2) <| pkq (.int .i64 p.check.1) <| pkq (.int .i64 p.check.2) <| ps_end <| then_n <| sy_sq (qc77_2 14) (qc77_2 15) <| sy_reg <| rg_q 2 [0, 1] <| pkq (.int .i64 p.check.1) <| pkq (.int .i64 p.check.1) <| ps_end <| then_n ?_
  refine sy_ret (by kernel_rfl) <| sy_out (.int .i64 p.check.1) rfl (by kernel_rfl) ?_
  exact ⟨rfl, K3⟩
noncomputable def qc77_3 (n : Nat) : Code := partOf Tryz.f50 n
theorem eOffence2_ok (m : Msg) (g : Nat) (w : World) (hr : m.R) (hb : w.heap[g]? = some (.cells (Msg.c m) 38 (0, 0))) :
    Calls Tryz.prog 50 #[.pointer (some ⟨g, 0, none⟩)] w (fun e w' => e = .returned (.int .i64 m.evi) ∧ Keeps Nob w w') := by
  have K0 : Keeps Nob w w := Keeps.refl _ _
  refine sy_enter (qc77_3 1) ⟨#[pT g 0, ud, ud, ud], []⟩ Tryz.func50 (by kernel_rfl) (by kernel_rfl) <| sy_sq (qc77_3 2) (qc77_3 3) <| sy_reg <| rg_q 0 [0] <| pkq (.int .i64 0) <| ps_end <| then_n <| sy_sq (qc77_3 6) (qc77_3 7) <| sy_reg <| rg_q 1 [0, 1, 2] <| ppq (.agg (Msg.c m)) (exec_load_row 38 (.tmp 0) (by kernel_rfl) g (by kernel_rfl) _ _ (0, 0) _ (hb) Tryz.underlying38 rfl (by rw [Msg.c_size hr]; kernel_rfl)) ?_
  refine pcq 51 #[.agg (Msg.c m)] Tryz.func51 ((eform_ok m _ hr).mono ?_)
  rintro e V1 ⟨rfl, kV1⟩
  refine ⟨_, rfl, ?_⟩
  have K3 := K0.nn kV1
  have z4 := kV1.size
  refine pkq (.int .i64 m.evi) <| ps_end <| then_n <| sy_ret (by kernel_rfl) <| sy_out (.int .i64 m.evi) rfl (by kernel_rfl) ?_
  exact ⟨rfl, K3⟩
noncomputable def qc77_4 (n : Nat) : Code := partOf Tryz.f59 n
theorem eSigned1_ok (m : Msg) (g : Nat) (w : World) (hr : m.R) (hb : w.heap[g]? = some (.cells (Msg.c m) 38 (0, 0))) :
    Calls Tryz.prog 59 #[.pointer (some ⟨g, 0, none⟩)] w (fun e w' => e = .returned (.int .i64 m.evi) ∧ Keeps Nob w w') := by
  have K0 : Keeps Nob w w := Keeps.refl _ _
  refine sy_enter (qc77_4 1) ⟨#[pT g 0, ud, ud, ud], []⟩ Tryz.func59 (by kernel_rfl) (by kernel_rfl) <| sy_sq (qc77_4 2) (qc77_4 3) <| sy_reg <| rg_q 0 [0] <| pkq (.int .i64 0) <| ps_end <| then_n <| sy_sq (qc77_4 6) (qc77_4 7) <| sy_reg <| rg_q 1 [0, 1, 2] <| ppq (.agg (Msg.c m)) (exec_load_row 38 (.tmp 0) (by kernel_rfl) g (by kernel_rfl) _ _ (0, 0) _ (hb) Tryz.underlying38 rfl (by rw [Msg.c_size hr]; kernel_rfl)) ?_
  refine pcq 51 #[.agg (Msg.c m)] Tryz.func51 ((eform_ok m _ hr).mono ?_)
  rintro e V1 ⟨rfl, kV1⟩
  refine ⟨_, rfl, ?_⟩
  have K3 := K0.nn kV1
  have z4 := kV1.size
  refine pkq (.int .i64 m.evi) <| ps_end <| then_n <| sy_ret (by kernel_rfl) <| sy_out (.int .i64 m.evi) rfl (by kernel_rfl) ?_
  exact ⟨rfl, K3⟩
theorem eclash_is {m : Msg} {r : Bool} (w : World) (ho : m.Ok) (h : m.cla = r) : Calls Tryz.prog 53 #[.agg (Msg.c m)] w fun e w' => e = .returned (.bool r) ∧ Keeps Nob w w' := by subst h; exact eclash_ok m w ho
noncomputable def qc77_1 (n : Nat) : Code := partOf Tryz.f52 n
theorem eOffence3_ok (m : Msg) (g : Nat) (w : World) (ho : m.Ok) (hb : w.heap[g]? = some (.cells (Msg.c m) 38 (0, 0))) :
    Calls Tryz.prog 52 #[.pointer (some ⟨g, 0, none⟩)] w (fun e w' => e = .returned (.int .i64 (if m.cla = true then 0 else 18)) ∧ Keeps Nob w w') := by
  have hr := ho.R
  have K0 : Keeps Nob w w := Keeps.refl _ _
  refine sy_enter (qc77_1 1) ⟨#[pT g 0, ud, ud, ud, ud], []⟩ Tryz.func52 (by kernel_rfl) (by kernel_rfl) <| sy_sq (qc77_1 2) (qc77_1 3) <| sy_reg <| rg_q 0 [0] <| pkq (.int .i64 0) <| ps_end <| then_n <| sy_sq (qc77_1 6) (qc77_1 7) <| sy_sq (qc77_1 12) (qc77_1 13) <| sy_reg <| rg_q 1 [0, 1, 2] ?_
  by_cases c0 : m.cla = true
  · refine ppq (.agg (Msg.c m)) (exec_load_row 38 (.tmp 0) (by kernel_rfl) g (by kernel_rfl) _ _ (0, 0) _ (hb) Tryz.underlying38 rfl (by rw [Msg.c_size hr]; kernel_rfl)) ?_
    refine pcq 53 #[.agg (Msg.c m)] Tryz.func53 ((eclash_is _ ho c0).mono ?_)
    rintro e V1 ⟨rfl, kV1⟩
    refine ⟨_, rfl, ?_⟩
    have K3 := K0.nn kV1
    have z4 := kV1.size
    refine pkq (.bool false) <| ps_end <| then_n <| sy_n (.tmp 4) (qc77_1 26) (qc77_1 27) <| sy_sk <| then_n <| sy_sq (qc77_1 14) (qc77_1 15) <| sy_reg <| rg_q 3 [0] <| pkq (.int .i64 0) <| ps_end <| then_n <| sy_ret (by kernel_rfl) <| sy_out (.int .i64 0) rfl (by kernel_rfl) ?_
    exact ⟨by simp [c0], K3⟩
  · have c1 := bnot c0
    refine ppq (.agg (Msg.c m)) (exec_load_row 38 (.tmp 0) (by kernel_rfl) g (by kernel_rfl) _ _ (0, 0) _ (hb) Tryz.underlying38 rfl (by rw [Msg.c_size hr]; kernel_rfl)) ?_
    refine pcq 53 #[.agg (Msg.c m)] Tryz.func53 ((eclash_is _ ho c1).mono ?_)
    rintro e V5 ⟨rfl, kV5⟩
    refine ⟨_, rfl, ?_⟩
    have K7 := K0.nn kV5
    have z8 := kV5.size
    refine pkq (.bool true) <| ps_end <| then_n <| sy_ys (.tmp 4) (qc77_1 26) (qc77_1 27) <| sy_sq (qc77_1 52) (qc77_1 53) <| sy_reg <| rg_q 2 [0] <| pkq (.int .i64 18) <| ps_end <| then_n <| sy_ret (by kernel_rfl) <| then_r <| sy_out (.int .i64 18) rfl (by kernel_rfl) ?_
    exact ⟨by simp [c0], K7⟩
noncomputable def qc77_5 (n : Nat) : Code := partOf Tryz.f18 n
theorem eOffence_ok (p : Par) (m : Msg) (w : World) (hp : p.Ok) (ho : m.Ok) :
    Calls Tryz.prog 18 #[.agg p.cells, .agg (Msg.c m)] w (fun e w' => e = .returned (.tuple #[.agg (offe p m).1.cs, .int .i64 (offe p m).2]) ∧ Keeps Nob w w') := by
  have hr := ho.R
  have K0 : Keeps Nob w w := Keeps.refl _ _
  refine sy_enter (qc77_5 1) ⟨#[.agg p.cells, .agg (Msg.c m), ud, ud, ud, ud, ud, ud, ud, ud, ud, ud, ud, ud, ud, ud, ud, ud, ud, ud, ud, ud, ud, ud, ud, ud, ud, ud, ud, ud, ud, ud, ud, ud, ud, ud, ud, ud, ud, ud], []⟩ Tryz.func18 (by kernel_rfl) (by kernel_rfl) <| sy_sq (qc77_5 2) (qc77_5 3) <| sy_reg <| rg_q 0 [0, 1, 2, 3] ?_
  obtain ⟨V1, eV1, gp, egp, h2, kV1⟩ := alloc_step w p.cells 45
  have n3 : w.heap.size ≤ gp := egp ▸ K0.size
  refine prq (pT gp 0) (w' := V1) (by rw [← eV1, ← egp]; exact exec_box 45 (.tmp 0) (by kernel_rfl) (.agg p.cells) (by kernel_rfl)) ?_
  clear eV1
  have K4 := K0.nn kV1
  have z5 := kV1.size
  obtain ⟨V6, eV6, gm, egm, h7, kV6⟩ := alloc_step V1 ((Msg.c m)) 38
  have n8 : gp < gm := egm ▸ lt_of_block h2
  have n9 : w.heap.size ≤ gm := egm ▸ K4.size
  refine prq (pT gm 0) (w' := V6) (by rw [← eV6, ← egm]; exact exec_box 38 (.tmp 1) (by kernel_rfl) (.agg (Msg.c m)) (by kernel_rfl)) ?_
  clear eV6
  have h10 := kV6.bk h2
  have K11 := K4.nn kV6
  have z12 := kV6.size
  obtain ⟨V13, eV13, go, ego, h14, kV13⟩ := alloc_step V6 (#[.int .i64 0, .int .i64 0, .int .i64 0]) 49
  have n15 : gp < go := ego ▸ lt_of_block h10
  have n16 : gm < go := ego ▸ lt_of_block h7
  have n17 : w.heap.size ≤ go := ego ▸ K11.size
  refine prq (pT go 0) (w' := V13) (by rw [← eV13, ← ego]; exact exec_alloc0 49 (by kernel_rfl) (.agg (#[.int .i64 0, .int .i64 0, .int .i64 0])) (by kernel_rfl)) ?_
  clear eV13
  have h18 := kV13.bk h10
  have h19 := kV13.bk h7
  have K20 := K11.nn kV13
  have z21 := kV13.size
  refine pkq (.int .i64 0) <| ps_end <| then_n <| sy_sq (qc77_5 6) (qc77_5 7) <| sy_reg <| rg_q 1 [0, 1, 2, 3, 4, 5] <| pkq (.func (.func 49) #[] #[pT gp 0]) <| pkq (.func (.func 50) #[] #[pT gm 0]) <| pkq (.func (.func 52) #[] #[pT gm 0]) ?_
  obtain ⟨V22, eV22, gf, egf, h23, kV22⟩ := alloc_step V13 (#[.func (.func 49) #[] #[.pointer (some ⟨gp, 0, none⟩)], .func (.func 50) #[] #[.pointer (some ⟨gm, 0, none⟩)], .func (.func 52) #[] #[.pointer (some ⟨gm, 0, none⟩)]]) 80
  have n24 : gp < gf := egf ▸ lt_of_block h18
  have n25 : gm < gf := egf ▸ lt_of_block h19
  have n26 : go < gf := egf ▸ lt_of_block h14
  have n27 : w.heap.size ≤ gf := egf ▸ K20.size
  refine prq (.slice (some ⟨gf, 0, none⟩) 3 3) (w' := V22) (by rw [← eV22, ← egf]; kernel_rfl) ?_
  have h28 := kV22.bk h18
  have h29 := kV22.bk h19
  have h30 := kV22.bk h14
  have K31 := K20.nn kV22
  have z32 := kV22.size
  refine pcq 48 #[.slice (some ⟨gf, 0, none⟩) 3 3] Tryz.func48 ((efirst_aaa 49 (pT gp 0) p.check.1 50 (pT gm 0) m.evi 52 (pT gm 0) (if m.cla = true then 0 else 18) gf _ h23 (enters_of Tryz.func49 (by kernel_rfl) rfl) (fun W k => eOffence1_ok p gp W hp (k.bk h28)) (enters_of Tryz.func50 (by kernel_rfl) rfl) (fun W k => eOffence2_ok m gm W hr (k.bk h29)) (enters_of Tryz.func52 (by kernel_rfl) rfl) (fun W k => eOffence3_ok m gm W ho (k.bk h29))).mono ?_)
  rintro e V33 ⟨rfl, kV33⟩
  refine ⟨_, rfl, ?_⟩
  have h34 := kV33.bk h28
  have h35 := kV33.bk h29
  have h36 := kV33.bk h30
  have K38 := K31.nn kV33
  have z39 := kV33.size
  refine pkq (.int .i64 (offE p m)) <| ps_end <| then_n <| sy_sq (qc77_5 14) (qc77_5 15) <| sy_sq (qc77_5 28) (qc77_5 29) <| sy_reg <| rg_q 2 [0, 1] ?_
  by_cases c0 : offE p m = 0
  · refine pkq (.int .i64 (offE p m)) <| ppq (.bool false) (nqf ((offE p m) : Int) ((0) : Int) (by omega)) <| ps_end <| then_n <| sy_n (.tmp 14) (qc77_5 58) (qc77_5 59) <| sy_sk <| then_n <| sy_sq (qc77_5 30) (qc77_5 31) <| sy_reg <| rg_q 4 [0, 1, 2, 3, 4, 5, 6, 7] <| ppq (.agg (p.cells)) (exec_load_row 45 (.tmp 2) (by kernel_rfl) gp (by kernel_rfl) _ _ (0, 0) _ (h34) Tryz.underlying45 rfl (by kernel_rfl)) <| ppq (.agg (Msg.c m)) (exec_load_row 38 (.tmp 3) (by kernel_rfl) gm (by kernel_rfl) _ _ (0, 0) _ (h35) Tryz.underlying38 rfl (by rw [Msg.c_size hr]; kernel_rfl)) ?_
    refine pcq 54 #[.agg (p.cells), .agg (Msg.c m)] Tryz.func54 ((eheight_ok p m _ hp ho).mono ?_)
    rintro e V40 ⟨rfl, kV40⟩
    refine ⟨_, rfl, ?_⟩
    have h42 := kV40.bk h35
    have h43 := kV40.bk h36
    have K45 := K38.nn kV40
    have z46 := kV40.size
    refine pkq (.tuple #[.int .i64 (hgt p m).1, .int .i64 (hgt p m).2]) <| pkq (.int .i64 (hgt p m).1) <| pkq (.int .i64 (hgt p m).2) <| pkq (.int .i64 (hgt p m).1) <| pkq (.int .i64 (hgt p m).2) <| ps_end <| then_n <| sy_sq (qc77_5 62) (qc77_5 63) <| sy_sq (qc77_5 124) (qc77_5 125) <| sy_reg <| rg_q 5 [0, 1] ?_
    by_cases c1 : (hgt p m).2 = 0
    · refine pkq (.int .i64 (hgt p m).2) <| ppq (.bool false) (nqf (((hgt p m).2) : Int) ((0) : Int) (by omega)) <| ps_end <| then_n <| sy_n (.tmp 24) (qc77_5 250) (qc77_5 251) <| sy_sk <| then_n <| sy_sq (qc77_5 126) (qc77_5 127) <| sy_sq (qc77_5 252) (qc77_5 253) <| sy_reg <| rg_q 7 [0, 1, 2] ?_
      by_cases c2 : m.pf = 3
      · refine pkq (pT gm 11) <| ppq (.int .i64 m.pf) (exec_ld 3 (.tmp 27) gm 11 Tryz.underlying3 (rc (h42) (Msg.get_n hr NF.pf))) <| ppq (.bool true) (eqt ((m.pf) : Int) ((3) : Int) (by omega)) <| ps_end <| sy_a ⟨#[.agg p.cells, .agg (Msg.c m), pT gp 0, pT gm 0, pT go 0, .int .i64 0, .int .i64 (hgt p m).2, .int .i64 (hgt p m).1, .func (.func 49) #[] #[pT gp 0], .func (.func 50) #[] #[pT gm 0], .func (.func 52) #[] #[pT gm 0], .slice (some ⟨gf, 0, none⟩) 3 3, .int .i64 (offE p m), .int .i64 (offE p m), .bool false, ud, ud, .tuple #[.int .i64 (hgt p m).1, .int .i64 (hgt p m).2], .agg (p.cells), .agg (Msg.c m), .tuple #[.int .i64 (hgt p m).1, .int .i64 (hgt p m).2], .int .i64 (hgt p m).1, .int .i64 (hgt p m).2, .int .i64 (hgt p m).2, .bool false, ud, ud, pT gm 11, .int .i64 m.pf, .bool true, ud, ud, ud, ud, ud, ud, ud, ud, ud, ud], []⟩ <| then_n <| sy_ys (.tmp 29) (qc77_5 506) (qc77_5 507) <| sy_sq (qc77_5 1012) (qc77_5 1013) <| sy_reg <| rg_q 8 [0, 1, 2, 3, 4, 5, 6] <| pkq (pT gm 84) <| pkq (pT gm 84) <| ppq (.int .i64 m.p.v) (exec_ld 3 (.tmp 31) gm 84 Tryz.underlying3 (rc (h42) (Msg.get_n hr NF.pv))) <| pkq (.int .i64 (hgt p m).1) ?_
        refine pkq (.agg #[.int .i64 m.p.v, .int .i64 2, .int .i64 (hgt p m).1]) ?_
        obtain ⟨V47, eV47, kV47⟩ := rowset_step V40 go (#[.int .i64 m.p.v, .int .i64 2, .int .i64 (hgt p m).1])
        have h48 : V47.heap[go]? = some (.cells (#[.int .i64 m.p.v, .int .i64 2, .int .i64 (hgt p m).1]) 49 (0, 0)) := eV47 ▸ setRow_heap _ _ _ _ _ _ h43
        refine pzq (w' := V47) (by rw [← eV47]; exact exec_store_row 49 (.tmp 4) (.tmp 34) (by kernel_rfl) go (#[.int .i64 m.p.v, .int .i64 2, .int .i64 (hgt p m).1]) (by kernel_rfl) (by kernel_rfl) 49 (#[.int .i64 0, .int .i64 0, .int .i64 0]) h43 (by kernel_rfl) rfl (by kernel_rfl)) ?_
        clear eV47
        have K52 := K45.no kV47 (by omega)
        have z53 := kV47.size
        refine pkq (.int .i64 0) <| ps_end <| then_n <| sy_ret (by kernel_rfl) <| then_r <| sy_out (.tuple #[.agg (#[.int .i64 m.p.v, .int .i64 2, .int .i64 (hgt p m).1]), .int .i64 0]) rfl (results_row_tmp (p := 4) (q := 5) (ty := 49) (by kernel_rfl) _ _ go 49 (#[.int .i64 m.p.v, .int .i64 2, .int .i64 (hgt p m).1]) (0, 0) _ (.int .i64 0) (by kernel_rfl) h48 Tryz.underlying49 rfl (by kernel_rfl) (by kernel_rfl)) ?_
        exact ⟨by rw [offe, if_pos c0, if_pos c1, if_pos c2]; (try rfl), K52⟩
      · refine pkq (pT gm 11) <| ppq (.int .i64 m.pf) (exec_ld 3 (.tmp 27) gm 11 Tryz.underlying3 (rc (h42) (Msg.get_n hr NF.pf))) <| ppq (.bool false) (eqf ((m.pf) : Int) ((3) : Int) (by omega)) <| ps_end <| sy_a ⟨#[.agg p.cells, .agg (Msg.c m), pT gp 0, pT gm 0, pT go 0, .int .i64 0, .int .i64 (hgt p m).2, .int .i64 (hgt p m).1, .func (.func 49) #[] #[pT gp 0], .func (.func 50) #[] #[pT gm 0], .func (.func 52) #[] #[pT gm 0], .slice (some ⟨gf, 0, none⟩) 3 3, .int .i64 (offE p m), .int .i64 (offE p m), .bool false, ud, ud, .tuple #[.int .i64 (hgt p m).1, .int .i64 (hgt p m).2], .agg (p.cells), .agg (Msg.c m), .tuple #[.int .i64 (hgt p m).1, .int .i64 (hgt p m).2], .int .i64 (hgt p m).1, .int .i64 (hgt p m).2, .int .i64 (hgt p m).2, .bool false, ud, ud, pT gm 11, .int .i64 m.pf, .bool false, ud, ud, ud, ud, ud, ud, ud, ud, ud, ud], []⟩ <| then_n <| sy_n (.tmp 29) (qc77_5 506) (qc77_5 507) <| sy_sk <| then_n <| sy_sq (qc77_5 254) (qc77_5 255) <| sy_reg <| rg_q 9 [0, 1, 2, 3, 4, 5, 6] <| pkq (pT gm 12) <| pkq (pT gm 12) ?_
        refine ppq (.int .i64 m.a.v) (exec_ld 3 (.tmp 36) gm 12 Tryz.underlying3 (rc (h42) (Msg.get_n hr NF.av))) <| pkq (.int .i64 (hgt p m).1) <| pkq (.agg #[.int .i64 m.a.v, .int .i64 1, .int .i64 (hgt p m).1]) ?_
        obtain ⟨V54, eV54, kV54⟩ := rowset_step V40 go (#[.int .i64 m.a.v, .int .i64 1, .int .i64 (hgt p m).1])
        have h55 : V54.heap[go]? = some (.cells (#[.int .i64 m.a.v, .int .i64 1, .int .i64 (hgt p m).1]) 49 (0, 0)) := eV54 ▸ setRow_heap _ _ _ _ _ _ h43
        refine pzq (w' := V54) (by rw [← eV54]; exact exec_store_row 49 (.tmp 4) (.tmp 39) (by kernel_rfl) go (#[.int .i64 m.a.v, .int .i64 1, .int .i64 (hgt p m).1]) (by kernel_rfl) (by kernel_rfl) 49 (#[.int .i64 0, .int .i64 0, .int .i64 0]) h43 (by kernel_rfl) rfl (by kernel_rfl)) ?_
        clear eV54
        have K59 := K45.no kV54 (by omega)
        have z60 := kV54.size
        refine pkq (.int .i64 0) <| ps_end <| then_n <| sy_ret (by kernel_rfl) <| sy_out (.tuple #[.agg (#[.int .i64 m.a.v, .int .i64 1, .int .i64 (hgt p m).1]), .int .i64 0]) rfl (results_row_tmp (p := 4) (q := 5) (ty := 49) (by kernel_rfl) _ _ go 49 (#[.int .i64 m.a.v, .int .i64 1, .int .i64 (hgt p m).1]) (0, 0) _ (.int .i64 0) (by kernel_rfl) h55 Tryz.underlying49 rfl (by kernel_rfl) (by kernel_rfl)) ?_
        exact ⟨by rw [offe, if_pos c0, if_pos c1, if_neg c2]; (try rfl), K59⟩
    · refine pkq (.int .i64 (hgt p m).2) <| ppq (.bool true) (nqt (((hgt p m).2) : Int) ((0) : Int) (by omega)) <| ps_end <| then_n <| sy_ys (.tmp 24) (qc77_5 250) (qc77_5 251) <| sy_sq (qc77_5 500) (qc77_5 501) <| sy_reg <| rg_q 6 [0, 1, 2, 3] <| pkq (.agg #[.int .i64 0, .int .i64 0, .int .i64 0]) <| pkq (.int .i64 (hgt p m).2) ?_
      obtain ⟨V61, eV61, kV61⟩ := rowset_step V40 go (#[.int .i64 0, .int .i64 0, .int .i64 0])
      have h62 : V61.heap[go]? = some (.cells (#[.int .i64 0, .int .i64 0, .int .i64 0]) 49 (0, 0)) := eV61 ▸ setRow_heap _ _ _ _ _ _ h43
      refine pzq (w' := V61) (by rw [← eV61]; exact exec_store_row 49 (.tmp 4) (.tmp 25) (by kernel_rfl) go (#[.int .i64 0, .int .i64 0, .int .i64 0]) (by kernel_rfl) (by kernel_rfl) 49 (#[.int .i64 0, .int .i64 0, .int .i64 0]) h43 (by kernel_rfl) rfl (by kernel_rfl)) ?_
      clear eV61
      have K66 := K45.no kV61 (by omega)
      have z67 := kV61.size
      refine pkq (.int .i64 (hgt p m).2) <| ps_end <| sy_a ⟨#[.agg p.cells, .agg (Msg.c m), pT gp 0, pT gm 0, pT go 0, .int .i64 (hgt p m).2, .int .i64 (hgt p m).2, .int .i64 (hgt p m).1, .func (.func 49) #[] #[pT gp 0], .func (.func 50) #[] #[pT gm 0], .func (.func 52) #[] #[pT gm 0], .slice (some ⟨gf, 0, none⟩) 3 3, .int .i64 (offE p m), .int .i64 (offE p m), .bool false, ud, ud, .tuple #[.int .i64 (hgt p m).1, .int .i64 (hgt p m).2], .agg (p.cells), .agg (Msg.c m), .tuple #[.int .i64 (hgt p m).1, .int .i64 (hgt p m).2], .int .i64 (hgt p m).1, .int .i64 (hgt p m).2, .int .i64 (hgt p m).2, .bool true, .agg #[.int .i64 0, .int .i64 0, .int .i64 0], .int .i64 (hgt p m).2, ud, ud, ud, ud, ud, ud, ud, ud, ud, ud, ud, ud, ud], []⟩ <| then_n <| sy_ret (by kernel_rfl) <| then_r <| sy_out (.tuple #[.agg (#[.int .i64 0, .int .i64 0, .int .i64 0]), .int .i64 (hgt p m).2]) rfl (results_row_tmp (p := 4) (q := 5) (ty := 49) (by kernel_rfl) _ _ go 49 (#[.int .i64 0, .int .i64 0, .int .i64 0]) (0, 0) _ (.int .i64 (hgt p m).2) (by kernel_rfl) h62 Tryz.underlying49 rfl (by kernel_rfl) (by kernel_rfl)) ?_
      exact ⟨by rw [offe, if_pos c0, if_neg c1]; (try rfl), K66⟩
  · refine pkq (.int .i64 (offE p m)) <| ppq (.bool true) (nqt ((offE p m) : Int) ((0) : Int) (by omega)) <| ps_end <| then_n <| sy_ys (.tmp 14) (qc77_5 58) (qc77_5 59) <| sy_sq (qc77_5 116) (qc77_5 117) <| sy_reg <| rg_q 3 [0, 1, 2, 3] <| pkq (.agg #[.int .i64 0, .int .i64 0, .int .i64 0]) <| pkq (.int .i64 (offE p m)) ?_
    obtain ⟨V68, eV68, kV68⟩ := rowset_step V33 go (#[.int .i64 0, .int .i64 0, .int .i64 0])
    have h69 : V68.heap[go]? = some (.cells (#[.int .i64 0, .int .i64 0, .int .i64 0]) 49 (0, 0)) := eV68 ▸ setRow_heap _ _ _ _ _ _ h36
    refine pzq (w' := V68) (by rw [← eV68]; exact exec_store_row 49 (.tmp 4) (.tmp 15) (by kernel_rfl) go (#[.int .i64 0, .int .i64 0, .int .i64 0]) (by kernel_rfl) (by kernel_rfl) 49 (#[.int .i64 0, .int .i64 0, .int .i64 0]) h36 (by kernel_rfl) rfl (by kernel_rfl)) ?_
    clear eV68
    have K73 := K38.no kV68 (by omega)
    have z74 := kV68.size
    refine pkq (.int .i64 (offE p m)) <| ps_end <| then_n <| sy_ret (by kernel_rfl) <| then_r <| sy_out (.tuple #[.agg (#[.int .i64 0, .int .i64 0, .int .i64 0]), .int .i64 (offE p m)]) rfl (results_row_tmp (p := 4) (q := 5) (ty := 49) (by kernel_rfl) _ _ go 49 (#[.int .i64 0, .int .i64 0, .int .i64 0]) (0, 0) _ (.int .i64 (offE p m)) (by kernel_rfl) h69 Tryz.underlying49 rfl (by kernel_rfl) (by kernel_rfl)) ?_
    exact ⟨by rw [offe, if_neg c0]; (try rfl), K73⟩
noncomputable def qc77_9 (n : Nat) : Code := partOf Tryz.f61 n
theorem eseals_ok (m : Msg) (w : World) (ho : m.Ok) :
    Calls Tryz.prog 61 #[.agg (Msg.c m)] w (fun e w' => ∃ g, e = .returned (.slice (some ⟨g, 0, none⟩) 2 2) ∧ w'.heap[g]? = some (.cells (List.flatMap Sel.cl m.sls).toArray 30 (0, 0)) ∧ w.heap.size ≤ g ∧ Keeps Nob w w') := by
  have hr := ho.R
  obtain ⟨i0, hi0, hz0, hz1, _⟩ := info_parts sel_info0
  have K0 : Keeps Nob w w := Keeps.refl _ _
  refine sy_enter (qc77_9 1) ⟨#[.agg (Msg.c m), ud, ud, ud, ud, ud, ud, ud, ud, ud, ud, ud, ud, ud, ud, ud, ud, ud, ud, ud, ud, ud, ud, ud, ud, ud, ud, ud, ud, ud, ud, ud, ud, ud, ud, ud, ud, ud, ud, ud, ud, ud, ud, ud], []⟩ Tryz.func61 (by kernel_rfl) (by kernel_rfl) <| sy_sq (qc77_9 2) (qc77_9 3) <| sy_reg <| rg_q 0 [0, 1] ?_
  obtain ⟨V1, eV1, gm, egm, h2, kV1⟩ := alloc_step w ((Msg.c m)) 38
  have n3 : w.heap.size ≤ gm := egm ▸ K0.size
  refine prq (pT gm 0) (w' := V1) (by rw [← eV1, ← egm]; exact exec_box 38 (.tmp 0) (by kernel_rfl) (.agg (Msg.c m)) (by kernel_rfl)) ?_
  clear eV1
  have K4 := K0.nn kV1
  have z5 := kV1.size
  refine pkq (.slice none 0 0) <| ps_end <| then_n <| sy_sq (qc77_9 6) (qc77_9 7) <| sy_sq (qc77_9 12) (qc77_9 13) <| sy_reg <| rg_q 1 [0, 1, 2] ?_
  by_cases c0 : m.pf = 3
  · refine pkq (pT gm 11) <| ppq (.int .i64 m.pf) (exec_ld 3 (.tmp 11) gm 11 Tryz.underlying3 (rc (h2) (Msg.get_n hr NF.pf))) <| ppq (.bool true) (eqt ((m.pf) : Int) ((3) : Int) (by omega)) <| ps_end <| then_n <| sy_ys (.tmp 13) (qc77_9 26) (qc77_9 27) <| sy_sq (qc77_9 52) (qc77_9 53) <| sy_reg <| rg_q 2 [0, 1, 2, 3, 4, 5, 6, 7, 8] <| pkq (pT gm 84) <| ppq (.agg (Pro.c m.p)) (exec_load_seg 28 (.tmp 15) (by kernel_rfl) gm 84 (by kernel_rfl) (Pro.c m.p).toList _ _ _ h2 (Msg.seg_P hr) Tryz.underlying28 rfl (by rw [Pro.tl hr.p]; kernel_rfl)) ?_
    refine pcq 10 #[.agg (Pro.c m.p)] Tryz.func10 ((eSealBlock_ok m.p _ ho.p).mono ?_)
    rintro e V6 ⟨rfl, kV6⟩
    refine ⟨_, rfl, ?_⟩
    have h7 := kV6.bk h2
    have K8 := K4.nn kV6
    have z9 := kV6.size
    refine pkq (.tuple #[.agg (Sel.c m.p.sel), .int .i64 m.p.err]) <| pkq (.agg (Sel.c m.p.sel)) <| pkq (.int .i64 m.p.err) ?_
    obtain ⟨V10, eV10, gs2, egs2, h11, kV10⟩ := alloc_step V6 ((Sel.c selZ)) 30
    have n12 : gm < gs2 := egs2 ▸ lt_of_block h7
    have n13 : w.heap.size ≤ gs2 := egs2 ▸ K8.size
    refine prq (pT gs2 0) (w' := V10) (by rw [← eV10, ← egs2]; exact exec_alloc0 30 (by kernel_rfl) (.agg ((Sel.c selZ))) (by kernel_rfl)) ?_
    clear eV10
    have h14 := kV10.bk h7
    have K15 := K8.nn kV10
    have z16 := kV10.size
    obtain ⟨V17, eV17, kV17⟩ := rowset_step V10 gs2 ((Sel.c m.p.sel))
    have h18 : V17.heap[gs2]? = some (.cells (Sel.c m.p.sel) 30 (0, 0)) := eV17 ▸ setRow_heap _ _ _ _ _ _ h11
    refine pzq (w' := V17) (by rw [← eV17]; exact exec_store_row 30 (.tmp 3) (.tmp 18) (by kernel_rfl) gs2 ((Sel.c m.p.sel)) (by kernel_rfl) (by kernel_rfl) 30 ((Sel.c selZ)) h11 (by rw [Sel.c_size _ m.p.sel_r]; kernel_rfl) (by rw [Sel.c_size _ m.p.sel_r]; rfl) (Sel.c_one _)) ?_
    clear eV17
    have h19 := kV17.bo h14 (by omega)
    have K20 := K15.no kV17 (by omega)
    have z21 := kV17.size
    refine pkq (.int .i64 m.p.err) <| ps_end <| then_n <| sy_sq (qc77_9 106) (qc77_9 107) <| sy_reg <| rg_q 3 [0, 1, 2, 3, 4, 5, 6, 7, 8] <| pkq (pT gm 119) <| ppq (.agg (Pro.c m.q)) (exec_load_seg 28 (.tmp 21) (by kernel_rfl) gm 119 (by kernel_rfl) (Pro.c m.q).toList _ _ _ h19 (Msg.seg_Q hr) Tryz.underlying28 rfl (by rw [Pro.tl hr.q]; kernel_rfl)) ?_
    refine pcq 10 #[.agg (Pro.c m.q)] Tryz.func10 ((eSealBlock_ok m.q _ ho.q).mono ?_)
    rintro e V22 ⟨rfl, kV22⟩
    refine ⟨_, rfl, ?_⟩
    have h23 := kV22.bk h19
    have h24 := kV22.bk h18
    have K25 := K20.nn kV22
    have z26 := kV22.size
    refine pkq (.tuple #[.agg (Sel.c m.q.sel), .int .i64 m.q.err]) <| pkq (.agg (Sel.c m.q.sel)) <| pkq (.int .i64 m.q.err) ?_
    obtain ⟨V27, eV27, gs3, egs3, h28, kV27⟩ := alloc_step V22 ((Sel.c selZ)) 30
    have n29 : gm < gs3 := egs3 ▸ lt_of_block h23
    have n30 : gs2 < gs3 := egs3 ▸ lt_of_block h24
    have n31 : w.heap.size ≤ gs3 := egs3 ▸ K25.size
    refine prq (pT gs3 0) (w' := V27) (by rw [← eV27, ← egs3]; exact exec_alloc0 30 (by kernel_rfl) (.agg ((Sel.c selZ))) (by kernel_rfl)) ?_
    clear eV27
    have h32 := kV27.bk h23
    have h33 := kV27.bk h24
    have K34 := K25.nn kV27
    have z35 := kV27.size
    obtain ⟨V36, eV36, kV36⟩ := rowset_step V27 gs3 ((Sel.c m.q.sel))
    have h37 : V36.heap[gs3]? = some (.cells (Sel.c m.q.sel) 30 (0, 0)) := eV36 ▸ setRow_heap _ _ _ _ _ _ h28
    refine pzq (w' := V36) (by rw [← eV36]; exact exec_store_row 30 (.tmp 5) (.tmp 24) (by kernel_rfl) gs3 ((Sel.c m.q.sel)) (by kernel_rfl) (by kernel_rfl) 30 ((Sel.c selZ)) h28 (by rw [Sel.c_size _ m.q.sel_r]; kernel_rfl) (by rw [Sel.c_size _ m.q.sel_r]; rfl) (Sel.c_one _)) ?_
    clear eV36
    have h38 := kV36.bo h32 (by omega)
    have h39 := kV36.bo h33 (by omega)
    have K40 := K34.no kV36 (by omega)
    have z41 := kV36.size
    refine pkq (.int .i64 m.q.err) <| ps_end <| then_n <| sy_sq (qc77_9 214) (qc77_9 215) <| sy_reg <| rg_q 4 [0, 1, 2, 3] <| ppq (.agg (Sel.c m.p.sel)) (exec_load_row 30 (.tmp 3) (by kernel_rfl) gs2 (by kernel_rfl) _ _ (0, 0) _ (h39) Tryz.underlying30 rfl (by rw [Sel.c_size _ m.p.sel_r]; kernel_rfl)) <| ppq (.agg (Sel.c m.q.sel)) (exec_load_row 30 (.tmp 5) (by kernel_rfl) gs3 (by kernel_rfl) _ _ (0, 0) _ (h37) Tryz.underlying30 rfl (by rw [Sel.c_size _ m.q.sel_r]; kernel_rfl)) ?_
    obtain ⟨V42, eV42, gq, egq, h43, kV42⟩ := alloc_step V36 (([.agg (Sel.c m.p.sel), .agg (Sel.c m.q.sel)] : List Value).flatMap fun v => v.cells.toList).toArray 30
    have n44 : gm < gq := egq ▸ lt_of_block h38
    have n45 : gs2 < gq := egq ▸ lt_of_block h39
    have n46 : gs3 < gq := egq ▸ lt_of_block h37
    have n47 : w.heap.size ≤ gq := egq ▸ K40.size
    refine prq (.slice (some ⟨gq, 0, none⟩) 2 2) (w' := V42) (by rw [← eV42, ← egq]; exact exec_buildAll 46 30 2 #[(0, .tmp 26), (1, .tmp 27)] (by kernel_rfl) [.agg (Sel.c m.p.sel), .agg (Sel.c m.q.sel)] (by kernel_rfl) i0 _ Tryz.underlying46 hi0 hz0 34 hz1 (by decide) rfl (by decide) (by decide) (fun u hu => by simp only [List.mem_cons, List.not_mem_nil, or_false] at hu; rcases hu with rfl | rfl; exact Sel.c_size _ m.p.sel_r; exact Sel.c_size _ m.q.sel_r)) ?_
    clear eV42
    have h48 : V42.heap[gq]? = some (.cells ((List.flatMap Sel.cl [m.p.sel, m.q.sel]).toArray) 30 (0, 0)) := h43
    have K52 := K40.nn kV42
    have z53 := kV42.size
    refine pkq (.slice (some ⟨gq, 0, none⟩) 2 2) <| ps_end <| sy_a ⟨#[.agg (Msg.c m), pT gm 0, .slice (some ⟨gq, 0, none⟩) 2 2, pT gs2 0, .int .i64 m.p.err, pT gs3 0, .int .i64 m.q.err, ud, ud, ud, ud, pT gm 11, .int .i64 m.pf, .bool true, .tuple #[.agg (Sel.c m.p.sel), .int .i64 m.p.err], pT gm 84, .agg (Pro.c m.p), .tuple #[.agg (Sel.c m.p.sel), .int .i64 m.p.err], .agg (Sel.c m.p.sel), .int .i64 m.p.err, .tuple #[.agg (Sel.c m.q.sel), .int .i64 m.q.err], pT gm 119, .agg (Pro.c m.q), .tuple #[.agg (Sel.c m.q.sel), .int .i64 m.q.err], .agg (Sel.c m.q.sel), .int .i64 m.q.err, .agg (Sel.c m.p.sel), .agg (Sel.c m.q.sel), .slice (some ⟨gq, 0, none⟩) 2 2, ud, ud, ud, ud, ud, ud, ud, ud, ud, ud, ud, ud, ud, ud, ud], []⟩ <| then_n <| sy_ret (by kernel_rfl) <| then_r <| sy_out (.slice (some ⟨gq, 0, none⟩) 2 2) rfl (by kernel_rfl) ?_
    exact ⟨gq, rfl, by rw [Msg.sls, if_pos c0]; exact h48, by omega, K52⟩
  · refine pkq (pT gm 11) <| ppq (.int .i64 m.pf) (exec_ld 3 (.tmp 11) gm 11 Tryz.underlying3 (rc (h2) (Msg.get_n hr NF.pf))) <| ppq (.bool false) (eqf ((m.pf) : Int) ((3) : Int) (by omega)) <| ps_end <| then_n <| sy_n (.tmp 13) (qc77_9 26) (qc77_9 27) <| sy_sk <| then_n <| sy_sq (qc77_9 14) (qc77_9 15) <| sy_reg <| rg_q 5 [0, 1, 2, 3, 4, 5, 6, 7, 8] <| pkq (pT gm 12) <| ppq (.agg (Att.c m.a)) (exec_load_seg 26 (.tmp 30) (by kernel_rfl) gm 12 (by kernel_rfl) (Att.c m.a).toList _ _ _ h2 (Msg.seg_A hr) Tryz.underlying26 rfl (by rw [Att.tl hr.a]; kernel_rfl)) ?_
    refine pcq 8 #[.agg (Att.c m.a)] Tryz.func8 ((eSeal_ok m.a _ ho.a).mono ?_)
    rintro e V54 ⟨rfl, kV54⟩
    refine ⟨_, rfl, ?_⟩
    have h55 := kV54.bk h2
    have K56 := K4.nn kV54
    have z57 := kV54.size
    refine pkq (.tuple #[.agg (Sel.c m.a.sel), .int .i64 m.a.err]) <| pkq (.agg (Sel.c m.a.sel)) <| pkq (.int .i64 m.a.err) ?_
    obtain ⟨V58, eV58, gs5, egs5, h59, kV58⟩ := alloc_step V54 ((Sel.c selZ)) 30
    have n60 : gm < gs5 := egs5 ▸ lt_of_block h55
    have n61 : w.heap.size ≤ gs5 := egs5 ▸ K56.size
    refine prq (pT gs5 0) (w' := V58) (by rw [← eV58, ← egs5]; exact exec_alloc0 30 (by kernel_rfl) (.agg ((Sel.c selZ))) (by kernel_rfl)) ?_
    clear eV58
    have h62 := kV58.bk h55
    have K63 := K56.nn kV58
    have z64 := kV58.size
    obtain ⟨V65, eV65, kV65⟩ := rowset_step V58 gs5 ((Sel.c m.a.sel))
    have h66 : V65.heap[gs5]? = some (.cells (Sel.c m.a.sel) 30 (0, 0)) := eV65 ▸ setRow_heap _ _ _ _ _ _ h59
    refine pzq (w' := V65) (by rw [← eV65]; exact exec_store_row 30 (.tmp 7) (.tmp 33) (by kernel_rfl) gs5 ((Sel.c m.a.sel)) (by kernel_rfl) (by kernel_rfl) 30 ((Sel.c selZ)) h59 (by rw [Sel.c_size _ m.a.sel_r]; kernel_rfl) (by rw [Sel.c_size _ m.a.sel_r]; rfl) (Sel.c_one _)) ?_
    clear eV65
    have h67 := kV65.bo h62 (by omega)
    have K68 := K63.no kV65 (by omega)
    have z69 := kV65.size
    refine pkq (.int .i64 m.a.err) <| ps_end <| then_n <| sy_sq (qc77_9 30) (qc77_9 31) <| sy_reg <| rg_q 6 [0, 1, 2, 3, 4, 5, 6, 7, 8] <| pkq (pT gm 48) <| ppq (.agg (Att.c m.b)) (exec_load_seg 26 (.tmp 36) (by kernel_rfl) gm 48 (by kernel_rfl) (Att.c m.b).toList _ _ _ h67 (Msg.seg_B hr) Tryz.underlying26 rfl (by rw [Att.tl hr.b]; kernel_rfl)) ?_
    refine pcq 8 #[.agg (Att.c m.b)] Tryz.func8 ((eSeal_ok m.b _ ho.b).mono ?_)
    rintro e V70 ⟨rfl, kV70⟩
    refine ⟨_, rfl, ?_⟩
    have h71 := kV70.bk h67
    have h72 := kV70.bk h66
    have K73 := K68.nn kV70
    have z74 := kV70.size
    refine pkq (.tuple #[.agg (Sel.c m.b.sel), .int .i64 m.b.err]) <| pkq (.agg (Sel.c m.b.sel)) <| pkq (.int .i64 m.b.err) ?_
    obtain ⟨V75, eV75, gs6, egs6, h76, kV75⟩ := alloc_step V70 ((Sel.c selZ)) 30
    have n77 : gm < gs6 := egs6 ▸ lt_of_block h71
    have n78 : gs5 < gs6 := egs6 ▸ lt_of_block h72
    have n79 : w.heap.size ≤ gs6 := egs6 ▸ K73.size
    refine prq (pT gs6 0) (w' := V75) (by rw [← eV75, ← egs6]; exact exec_alloc0 30 (by kernel_rfl) (.agg ((Sel.c selZ))) (by kernel_rfl)) ?_
    clear eV75
    have h80 := kV75.bk h71
    have h81 := kV75.bk h72
    have K82 := K73.nn kV75
    have z83 := kV75.size
    obtain ⟨V84, eV84, kV84⟩ := rowset_step V75 gs6 ((Sel.c m.b.sel))
    have h85 : V84.heap[gs6]? = some (.cells (Sel.c m.b.sel) 30 (0, 0)) := eV84 ▸ setRow_heap _ _ _ _ _ _ h76
    refine pzq (w' := V84) (by rw [← eV84]; exact exec_store_row 30 (.tmp 9) (.tmp 39) (by kernel_rfl) gs6 ((Sel.c m.b.sel)) (by kernel_rfl) (by kernel_rfl) 30 ((Sel.c selZ)) h76 (by rw [Sel.c_size _ m.b.sel_r]; kernel_rfl) (by rw [Sel.c_size _ m.b.sel_r]; rfl) (Sel.c_one _)) ?_
    clear eV84
    have h86 := kV84.bo h80 (by omega)
    have h87 := kV84.bo h81 (by omega)
    have K88 := K82.no kV84 (by omega)
    have z89 := kV84.size
    refine pkq (.int .i64 m.b.err) <| ps_end <| then_n <| sy_sq (qc77_9 62) (qc77_9 63) <| sy_reg <| rg_q 7 [0, 1, 2, 3] <| ppq (.agg (Sel.c m.a.sel)) (exec_load_row 30 (.tmp 7) (by kernel_rfl) gs5 (by kernel_rfl) _ _ (0, 0) _ (h87) Tryz.underlying30 rfl (by rw [Sel.c_size _ m.a.sel_r]; kernel_rfl)) <| ppq (.agg (Sel.c m.b.sel)) (exec_load_row 30 (.tmp 9) (by kernel_rfl) gs6 (by kernel_rfl) _ _ (0, 0) _ (h85) Tryz.underlying30 rfl (by rw [Sel.c_size _ m.b.sel_r]; kernel_rfl)) ?_
    obtain ⟨V90, eV90, gq, egq, h91, kV90⟩ := alloc_step V84 (([.agg (Sel.c m.a.sel), .agg (Sel.c m.b.sel)] : List Value).flatMap fun v => v.cells.toList).toArray 30
    have n92 : gm < gq := egq ▸ lt_of_block h86
    have n93 : gs5 < gq := egq ▸ lt_of_block h87
    have n94 : gs6 < gq := egq ▸ lt_of_block h85
    have n95 : w.heap.size ≤ gq := egq ▸ K88.size
    refine prq (.slice (some ⟨gq, 0, none⟩) 2 2) (w' := V90) (by rw [← eV90, ← egq]; exact exec_buildAll 46 30 2 #[(0, .tmp 41), (1, .tmp 42)] (by kernel_rfl) [.agg (Sel.c m.a.sel), .agg (Sel.c m.b.sel)] (by kernel_rfl) i0 _ Tryz.underlying46 hi0 hz0 34 hz1 (by decide) rfl (by decide) (by decide) (fun u hu => by simp only [List.mem_cons, List.not_mem_nil, or_false] at hu; rcases hu with rfl | rfl; exact Sel.c_size _ m.a.sel_r; exact Sel.c_size _ m.b.sel_r)) ?_
    clear eV90
    have h96 : V90.heap[gq]? = some (.cells ((List.flatMap Sel.cl [m.a.sel, m.b.sel]).toArray) 30 (0, 0)) := h91
    have K100 := K88.nn kV90
    have z101 := kV90.size
    refine pkq (.slice (some ⟨gq, 0, none⟩) 2 2) <| ps_end <| sy_a ⟨#[.agg (Msg.c m), pT gm 0, .slice (some ⟨gq, 0, none⟩) 2 2, ud, ud, ud, ud, pT gs5 0, .int .i64 m.a.err, pT gs6 0, .int .i64 m.b.err, pT gm 11, .int .i64 m.pf, .bool false, ud, ud, ud, ud, ud, ud, ud, ud, ud, ud, ud, ud, ud, ud, ud, .tuple #[.agg (Sel.c m.a.sel), .int .i64 m.a.err], pT gm 12, .agg (Att.c m.a), .tuple #[.agg (Sel.c m.a.sel), .int .i64 m.a.err], .agg (Sel.c m.a.sel), .int .i64 m.a.err, .tuple #[.agg (Sel.c m.b.sel), .int .i64 m.b.err], pT gm 48, .agg (Att.c m.b), .tuple #[.agg (Sel.c m.b.sel), .int .i64 m.b.err], .agg (Sel.c m.b.sel), .int .i64 m.b.err, .agg (Sel.c m.a.sel), .agg (Sel.c m.b.sel), .slice (some ⟨gq, 0, none⟩) 2 2], []⟩ <| then_n <| sy_ret (by kernel_rfl) <| sy_out (.slice (some ⟨gq, 0, none⟩) 2 2) rfl (by kernel_rfl) ?_
    exact ⟨gq, rfl, by rw [Msg.sls, if_neg c0]; exact h96, by omega, K100⟩
noncomputable def qc77_6 (n : Nat) : Code := partOf Tryz.f60 n
theorem eSigned2_ok (A0 : Option Addr) (cap0 : Nat) (l : List Sel) (m : Msg) (g gl : Nat) (w : World) (ho : m.Ok) (hl : SelsAt w (.slice A0 l.length cap0) l) (hlr : ∀ y ∈ l, y.r.length = 32) (hb : w.heap[g]? = some (.cells (Msg.c m) 38 (0, 0))) (hc : w.heap[gl]? = some (.cells #[.slice A0 l.length cap0] 46 (0, 0))) :
    Calls Tryz.prog 60 #[.pointer (some ⟨g, 0, none⟩), .pointer (some ⟨gl, 0, none⟩)] w (fun e w' => e = .returned (.int .i64 (hasE l m.sls)) ∧ Keeps Nob w w') := by
  have hr := ho.R
  obtain ⟨s0, s1, hsl, hs0, hs1⟩ : ∃ s0 s1, m.sls = [s0, s1] ∧ s0.r.length = 32 ∧ s1.r.length = 32 := by unfold Msg.sls; split; exact ⟨_, _, rfl, m.p.sel_r, m.q.sel_r⟩; exact ⟨_, _, rfl, m.a.sel_r, m.b.sel_r⟩
  have hfl : ∀ x ∈ [s0, s1], (Sel.cl x).length = 34 := fun x hx => by simp only [List.mem_cons, List.not_mem_nil, or_false] at hx; rcases hx with rfl | rfl; exact Sel.cl_len hs0; exact Sel.cl_len hs1
  have K0 : Keeps Nob w w := Keeps.refl _ _
  refine sy_enter (qc77_6 1) ⟨#[pT g 0, pT gl 0, ud, ud, ud, ud, ud, ud, ud, ud, ud, ud, ud, ud, ud, ud, ud], []⟩ Tryz.func60 (by kernel_rfl) (by kernel_rfl) <| sy_sq (qc77_6 2) (qc77_6 3) <| sy_reg <| rg_q 0 [0] <| pkq (.int .i64 0) <| ps_end <| then_n <| sy_sq (qc77_6 6) (qc77_6 7) <| sy_sq (qc77_6 12) (qc77_6 13) <| sy_reg <| rg_q 1 [0, 1, 2, 3] <| ppq (.agg (Msg.c m)) (exec_load_row 38 (.tmp 0) (by kernel_rfl) g (by kernel_rfl) _ _ (0, 0) _ (hb) Tryz.underlying38 rfl (by rw [Msg.c_size hr]; kernel_rfl)) ?_
  refine pcq 61 #[.agg (Msg.c m)] Tryz.func61 ((eseals_ok m _ ho).mono ?_)
  rintro e V1 ⟨gq, rfl, hq, hqw, kV1⟩
  rw [hsl] at hq
  refine ⟨_, rfl, ?_⟩
  have h2 := kV1.bk hb
  have h3 := kV1.bk hc
  have h4 : SelsAt V1 (.slice A0 l.length cap0) l := hl.keepsN kV1
  have K5 := K0.nn kV1
  have z6 := kV1.size
  refine ppq (.int .i64 2) (exec_len (.tmp 6) 46 _ (by kernel_rfl) Tryz.underlying46 (some ⟨gq, 0, none⟩) 2 2 (by kernel_rfl)) <| pkq (.int .i64 0) <| ps_end <| then_n <| sy_bk 0 (qc77_6 26) <| sy_rounds 3 (qc77_6 52) (by kernel_rfl) <| rd_step <| sy_sq (qc77_6 104) (qc77_6 105) <| sy_reg <| rg_q 2 [0] <| pkq (.bool true) <| ps_end <| then_n <| sy_sq (qc77_6 210) (qc77_6 211) ?_
  refine sy_ys (.tmp 9) (qc77_6 420) (qc77_6 421) <| sy_sk <| then_n <| sy_sq (qc77_6 422) (qc77_6 423) <| sy_bk 1 (qc77_6 844) <| sy_sq (qc77_6 1688) (qc77_6 1689) <| sy_reg <| rg_q 3 [0, 1, 2, 3] <| ppq (pT gq 0) (exec_cast (v := pT gq (0 + 0 * 34)) (by simp) (exec_indexAt_slice 46 (.tmp 6) (.tmp 8) (by kernel_rfl) gq 0 2 2 (by kernel_rfl) .i64 0 (by kernel_rfl) _ 34 Tryz.underlying46 (by kernel_rfl) (by omega))) ?_
  refine ppq (.agg (Sel.c s0)) (exec_load_seg 30 (.tmp 10) (by kernel_rfl) gq 0 (by kernel_rfl) (Sel.cl s0) _ _ _ hq (fun j u hj => by rw [List.getElem?_toArray]; exact flat_get (s := 34) hfl 0 s0 rfl j u hj) Tryz.underlying30 rfl (by rw [Sel.cl_len hs0]; kernel_rfl)) ?_
  obtain ⟨V7, eV7, ge0, ege0, h8, kV7⟩ := alloc_step V1 ((Sel.c selZ)) 30
  have n9 : g < ge0 := ege0 ▸ lt_of_block h2
  have n10 : gl < ge0 := ege0 ▸ lt_of_block h3
  have n11 : gq < ge0 := ege0 ▸ lt_of_block hq
  have n12 : w.heap.size ≤ ge0 := ege0 ▸ K5.size
  refine prq (pT ge0 0) (w' := V7) (by rw [← eV7, ← ege0]; exact exec_alloc0 30 (by kernel_rfl) (.agg ((Sel.c selZ))) (by kernel_rfl)) ?_
  clear eV7
  have h13 := kV7.bk h2
  have h14 := kV7.bk h3
  have h15 : SelsAt V7 (.slice A0 l.length cap0) l := h4.keepsN kV7
  have h16 := kV7.bk hq
  have K17 := K5.nn kV7
  have z18 := kV7.size
  obtain ⟨V19, eV19, kV19⟩ := rowset_step V7 ge0 ((Sel.c s0))
  have h20 : V19.heap[ge0]? = some (.cells (Sel.c s0) 30 (0, 0)) := eV19 ▸ setRow_heap _ _ _ _ _ _ h8
  refine pzq (w' := V19) (by rw [← eV19]; exact exec_store_row 30 (.tmp 4) (.tmp 11) (by kernel_rfl) ge0 ((Sel.c s0)) (by kernel_rfl) (by kernel_rfl) 30 ((Sel.c selZ)) h8 (by rw [Sel.c_size _ hs0]; kernel_rfl) (by rw [Sel.c_size _ hs0]; rfl) (Sel.c_one _)) ?_
  clear eV19
  have h21 := kV19.bo h13 (by omega)
  have h22 := kV19.bo h14 (by omega)
  have h23 : SelsAt V19 (.slice A0 l.length cap0) l := Sl.keepsB hl h15 kV19 (fun j e => by first | (unfold Own.One at e; omega) | omega)
  have h24 := kV19.bo h16 (by omega)
  have K25 := K17.no kV19 (by omega)
  have z26 := kV19.size
  refine ps_end <| then_n <| sy_sq (qc77_6 3378) (qc77_6 3379) <| sy_reg <| rg_q 4 [0, 1, 2, 3] ?_
  by_cases c0 : s0 ∈ l
  · refine ppq (.slice A0 l.length cap0) (exec_ld 46 (.tmp 1) gl 0 Tryz.underlying46 (rc (h22) (by kernel_rfl))) <| ppq (.agg (Sel.c s0)) (exec_load_row 30 (.tmp 4) (by kernel_rfl) ge0 (by kernel_rfl) _ _ (0, 0) _ (h20) Tryz.underlying30 rfl (by rw [Sel.c_size _ hs0]; kernel_rfl)) ?_
    refine pcq 62 #[.slice A0 l.length cap0, .agg (Sel.c s0)] Tryz.func62 ((sHas_is _ h23 hlr hs0 (decide_eq_true c0)).mono ?_)
    rintro e V27 ⟨rfl, kV27⟩
    refine ⟨_, rfl, ?_⟩
    have h28 := kV27.bk h21
    have h29 := kV27.bk h22
    have h30 : SelsAt V27 (.slice A0 l.length cap0) l := h23.keepsN kV27
    have h31 := kV27.bk h24
    have h32 := kV27.bk h20
    have K33 := K25.nn kV27
    have z34 := kV27.size
    refine pkq (.bool false) <| ps_end <| then_n <| sy_n (.tmp 15) (qc77_6 6758) (qc77_6 6759) <| sy_sk <| blk_n <| then_n <| sy_reg <| rg_q 6 [0, 1] <| pkq (.int .i64 1) <| pkq (.int .i64 1) <| ps_end <| then_n <| rd_step ?_
    refine sy_sq (qc77_6 104) (qc77_6 105) <| sy_reg <| rg_q 2 [0] <| pkq (.bool true) <| ps_end <| then_n <| sy_sq (qc77_6 210) (qc77_6 211) <| sy_ys (.tmp 9) (qc77_6 420) (qc77_6 421) <| sy_sk <| then_n <| sy_sq (qc77_6 422) (qc77_6 423) <| sy_bk 1 (qc77_6 844) <| sy_sq (qc77_6 1688) (qc77_6 1689) <| sy_reg ?_
    refine rg_q 3 [0, 1, 2, 3] <| ppq (pT gq 34) (exec_cast (v := pT gq (0 + 1 * 34)) (by simp) (exec_indexAt_slice 46 (.tmp 6) (.tmp 8) (by kernel_rfl) gq 0 2 2 (by kernel_rfl) .i64 1 (by kernel_rfl) _ 34 Tryz.underlying46 (by kernel_rfl) (by omega))) ?_
    refine ppq (.agg (Sel.c s1)) (exec_load_seg 30 (.tmp 10) (by kernel_rfl) gq 34 (by kernel_rfl) (Sel.cl s1) _ _ _ h31 (fun j u hj => by rw [List.getElem?_toArray]; exact flat_get (s := 34) hfl 1 s1 rfl j u hj) Tryz.underlying30 rfl (by rw [Sel.cl_len hs1]; kernel_rfl)) ?_
    obtain ⟨V35, eV35, ge1, ege1, h36, kV35⟩ := alloc_step V27 ((Sel.c selZ)) 30
    have n37 : g < ge1 := ege1 ▸ lt_of_block h28
    have n38 : gl < ge1 := ege1 ▸ lt_of_block h29
    have n39 : gq < ge1 := ege1 ▸ lt_of_block h31
    have n40 : ge0 < ge1 := ege1 ▸ lt_of_block h32
    have n41 : w.heap.size ≤ ge1 := ege1 ▸ K33.size
    refine prq (pT ge1 0) (w' := V35) (by rw [← eV35, ← ege1]; exact exec_alloc0 30 (by kernel_rfl) (.agg ((Sel.c selZ))) (by kernel_rfl)) ?_
    clear eV35
    have h43 := kV35.bk h29
    have h44 : SelsAt V35 (.slice A0 l.length cap0) l := h30.keepsN kV35
    have K47 := K33.nn kV35
    have z48 := kV35.size
    obtain ⟨V49, eV49, kV49⟩ := rowset_step V35 ge1 ((Sel.c s1))
    have h50 : V49.heap[ge1]? = some (.cells (Sel.c s1) 30 (0, 0)) := eV49 ▸ setRow_heap _ _ _ _ _ _ h36
    refine pzq (w' := V49) (by rw [← eV49]; exact exec_store_row 30 (.tmp 4) (.tmp 11) (by kernel_rfl) ge1 ((Sel.c s1)) (by kernel_rfl) (by kernel_rfl) 30 ((Sel.c selZ)) h36 (by rw [Sel.c_size _ hs1]; kernel_rfl) (by rw [Sel.c_size _ hs1]; rfl) (Sel.c_one _)) ?_
    clear eV49
    have h52 := kV49.bo h43 (by omega)
    have h53 : SelsAt V49 (.slice A0 l.length cap0) l := Sl.keepsB hl h44 kV49 (fun j e => by first | (unfold Own.One at e; omega) | omega)
    have K56 := K47.no kV49 (by omega)
    have z57 := kV49.size
    refine ps_end <| then_n <| sy_sq (qc77_6 3378) (qc77_6 3379) <| sy_reg <| rg_q 4 [0, 1, 2, 3] ?_
    by_cases c1 : s1 ∈ l
    · refine ppq (.slice A0 l.length cap0) (exec_ld 46 (.tmp 1) gl 0 Tryz.underlying46 (rc (h52) (by kernel_rfl))) <| ppq (.agg (Sel.c s1)) (exec_load_row 30 (.tmp 4) (by kernel_rfl) ge1 (by kernel_rfl) _ _ (0, 0) _ (h50) Tryz.underlying30 rfl (by rw [Sel.c_size _ hs1]; kernel_rfl)) ?_
      refine pcq 62 #[.slice A0 l.length cap0, .agg (Sel.c s1)] Tryz.func62 ((sHas_is _ h53 hlr hs1 (decide_eq_true c1)).mono ?_)
      rintro e V58 ⟨rfl, kV58⟩
      refine ⟨_, rfl, ?_⟩
      have K65 := K56.nn kV58
      have z66 := kV58.size
      refine pkq (.bool false) <| ps_end <| sy_a ⟨#[pT g 0, pT gl 0, .int .i64 0, ud, pT ge1 0, .agg (Msg.c m), .slice (some ⟨gq, 0, none⟩) 2 2, .int .i64 2, .int .i64 1, .bool true, pT gq 34, .agg (Sel.c s1), .slice A0 l.length cap0, .agg (Sel.c s1), .bool true, .bool false, .int .i64 1], []⟩ <| then_n <| sy_n (.tmp 15) (qc77_6 6758) (qc77_6 6759) <| sy_sk <| blk_n <| then_n <| sy_reg <| rg_q 6 [0, 1] <| pkq (.int .i64 2) <| pkq (.int .i64 2) <| ps_end <| then_n ?_
      refine rd_step <| sy_sq (qc77_6 104) (qc77_6 105) <| sy_reg <| rg_q 2 [0] <| pkq (.bool false) <| ps_end <| then_n <| sy_sq (qc77_6 210) (qc77_6 211) <| sy_n (.tmp 9) (qc77_6 420) (qc77_6 421) <| sy_exit 0 (by kernel_rfl) <| then_e <| then_e <| blk_e <| then_n ?_
      refine sy_sq (qc77_6 14) (qc77_6 15) <| sy_reg <| rg_q 7 [0] <| pkq (.int .i64 0) <| ps_end <| then_n <| sy_ret (by kernel_rfl) <| sy_out (.int .i64 0) rfl (by kernel_rfl) ?_
      exact ⟨by rw [hsl, hasE_pair]; simp [c0, c1], K65⟩
    · refine ppq (.slice A0 l.length cap0) (exec_ld 46 (.tmp 1) gl 0 Tryz.underlying46 (rc (h52) (by kernel_rfl))) <| ppq (.agg (Sel.c s1)) (exec_load_row 30 (.tmp 4) (by kernel_rfl) ge1 (by kernel_rfl) _ _ (0, 0) _ (h50) Tryz.underlying30 rfl (by rw [Sel.c_size _ hs1]; kernel_rfl)) ?_
      refine pcq 62 #[.slice A0 l.length cap0, .agg (Sel.c s1)] Tryz.func62 ((sHas_is _ h53 hlr hs1 (decide_eq_false c1)).mono ?_)
      rintro e V67 ⟨rfl, kV67⟩
      refine ⟨_, rfl, ?_⟩
      have K74 := K56.nn kV67
      have z75 := kV67.size
      refine pkq (.bool true) <| ps_end <| sy_a ⟨#[pT g 0, pT gl 0, .int .i64 0, ud, pT ge1 0, .agg (Msg.c m), .slice (some ⟨gq, 0, none⟩) 2 2, .int .i64 2, .int .i64 1, .bool true, pT gq 34, .agg (Sel.c s1), .slice A0 l.length cap0, .agg (Sel.c s1), .bool false, .bool true, .int .i64 1], []⟩ <| then_n <| sy_ys (.tmp 15) (qc77_6 6758) (qc77_6 6759) <| sy_sq (qc77_6 13516) (qc77_6 13517) <| sy_reg <| rg_q 5 [0] <| pkq (.int .i64 15) <| ps_end <| then_n <| sy_ret (by kernel_rfl) <| blk_r <| then_r ?_
      refine then_r <| blk_r <| then_r <| sy_out (.int .i64 15) rfl (by kernel_rfl) ?_
      exact ⟨by rw [hsl, hasE_pair]; simp [c0, c1], K74⟩
  · refine ppq (.slice A0 l.length cap0) (exec_ld 46 (.tmp 1) gl 0 Tryz.underlying46 (rc (h22) (by kernel_rfl))) <| ppq (.agg (Sel.c s0)) (exec_load_row 30 (.tmp 4) (by kernel_rfl) ge0 (by kernel_rfl) _ _ (0, 0) _ (h20) Tryz.underlying30 rfl (by rw [Sel.c_size _ hs0]; kernel_rfl)) ?_
    refine pcq 62 #[.slice A0 l.length cap0, .agg (Sel.c s0)] Tryz.func62 ((sHas_is _ h23 hlr hs0 (decide_eq_false c0)).mono ?_)
    rintro e V76 ⟨rfl, kV76⟩
    refine ⟨_, rfl, ?_⟩
    have K82 := K25.nn kV76
    have z83 := kV76.size
    refine pkq (.bool true) <| ps_end <| then_n <| sy_ys (.tmp 15) (qc77_6 6758) (qc77_6 6759) <| sy_sq (qc77_6 13516) (qc77_6 13517) <| sy_reg <| rg_q 5 [0] <| pkq (.int .i64 15) <| ps_end <| then_n <| sy_ret (by kernel_rfl) <| blk_r <| then_r <| then_r ?_
    refine blk_r <| then_r <| sy_out (.int .i64 15) rfl (by kernel_rfl) ?_
    exact ⟨by rw [hsl, hasE_pair]; simp [c0], K82⟩
noncomputable def qc77_8 (n : Nat) : Code := partOf Tryz.f22 n
theorem eSigned_ok (A0 : Option Addr) (cap0 : Nat) (l : List Sel) (m : Msg) (w : World) (ho : m.Ok) (hl : SelsAt w (.slice A0 l.length cap0) l) (hlr : ∀ y ∈ l, y.r.length = 32) :
    Calls Tryz.prog 22 #[.slice A0 l.length cap0, .agg (Msg.c m)] w (fun e w' => e = .returned (.int .i64 (sgnd l m)) ∧ Keeps Nob w w') := by
  have hr := ho.R
  have K0 : Keeps Nob w w := Keeps.refl _ _
  refine sy_enter (qc77_8 1) ⟨#[.slice A0 l.length cap0, .agg (Msg.c m), ud, ud, ud, ud, ud, ud, ud], []⟩ Tryz.func22 (by kernel_rfl) (by kernel_rfl) <| sy_sq (qc77_8 2) (qc77_8 3) <| sy_reg <| rg_q 0 [0, 1, 2] ?_
  obtain ⟨V1, eV1, gl, egl, h2, kV1⟩ := alloc_step w (#[.slice A0 l.length cap0]) 46
  have n3 : w.heap.size ≤ gl := egl ▸ K0.size
  refine prq (pT gl 0) (w' := V1) (by rw [← eV1, ← egl]; exact exec_box 46 (.tmp 0) (by kernel_rfl) (.slice A0 l.length cap0) (by kernel_rfl)) ?_
  clear eV1
  have h4 : SelsAt V1 (.slice A0 l.length cap0) l := hl.keepsN kV1
  have K5 := K0.nn kV1
  have z6 := kV1.size
  obtain ⟨V7, eV7, gm, egm, h8, kV7⟩ := alloc_step V1 ((Msg.c m)) 38
  have n9 : gl < gm := egm ▸ lt_of_block h2
  have n10 : w.heap.size ≤ gm := egm ▸ K5.size
  refine prq (pT gm 0) (w' := V7) (by rw [← eV7, ← egm]; exact exec_box 38 (.tmp 1) (by kernel_rfl) (.agg (Msg.c m)) (by kernel_rfl)) ?_
  clear eV7
  have h11 : SelsAt V7 (.slice A0 l.length cap0) l := h4.keepsN kV7
  have h12 := kV7.bk h2
  have K13 := K5.nn kV7
  have z14 := kV7.size
  refine pkq (.int .i64 0) <| ps_end <| then_n <| sy_sq (qc77_8 6) (qc77_8 7) <| sy_reg <| rg_q 1 [0, 1, 2, 3, 4] <| pkq (.func (.func 59) #[] #[pT gm 0]) <| pkq (.func (.func 60) #[] #[pT gm 0, pT gl 0]) ?_
  obtain ⟨V15, eV15, gf, egf, h16, kV15⟩ := alloc_step V7 (#[.func (.func 59) #[] #[.pointer (some ⟨gm, 0, none⟩)], .func (.func 60) #[] #[.pointer (some ⟨gm, 0, none⟩), .pointer (some ⟨gl, 0, none⟩)]]) 80
  have n17 : gl < gf := egf ▸ lt_of_block h12
  have n18 : gm < gf := egf ▸ lt_of_block h8
  have n19 : w.heap.size ≤ gf := egf ▸ K13.size
  refine prq (.slice (some ⟨gf, 0, none⟩) 2 2) (w' := V15) (by rw [← eV15, ← egf]; kernel_rfl) ?_
  have h20 : SelsAt V15 (.slice A0 l.length cap0) l := h11.keepsN kV15
  have h21 := kV15.bk h12
  have h22 := kV15.bk h8
  have K23 := K13.nn kV15
  have z24 := kV15.size
  refine pcq 48 #[.slice (some ⟨gf, 0, none⟩) 2 2] Tryz.func48 ((efirst_ab 59 (pT gm 0) m.evi 60 (pT gm 0) (pT gl 0) (hasE l m.sls) gf _ h16 (enters_of Tryz.func59 (by kernel_rfl) rfl) (fun W k => eSigned1_ok m gm W hr (k.bk h22)) (enters_of Tryz.func60 (by kernel_rfl) rfl) (fun W k => eSigned2_ok A0 cap0 l m gm gl W ho (h20.keepsN k) hlr (k.bk h22) (k.bk h21))).mono ?_)
  rintro e V25 ⟨rfl, kV25⟩
  refine ⟨_, rfl, ?_⟩
  have K30 := K23.nn kV25
  have z31 := kV25.size
  refine pkq (.int .i64 (sgnd l m)) <| ps_end <| then_n <| sy_ret (by kernel_rfl) <| sy_out (.int .i64 (sgnd l m)) rfl (by kernel_rfl) ?_
  exact ⟨rfl, K30⟩
noncomputable def qc77_12 (n : Nat) : Code := partOf Tryz.f12 n
theorem eProve_ok (a b : Att) (w : World) (ha : a.Ok) (hb : b.Ok) :
    Calls Tryz.prog 12 #[.agg (Att.c a), .agg (Att.c b)] w (fun e w' => e = .returned (.tuple #[.agg (Msg.c (proves a b).1), .bool (proves a b).2]) ∧ Keeps Nob w w') := by
  have hr := ha.r
  have hs := hb.r
  have K0 : Keeps Nob w w := Keeps.refl _ _
  refine sy_enter (qc77_12 1) ⟨#[.agg (Att.c a), .agg (Att.c b), ud, ud, ud, ud, ud, ud, ud, ud, ud, ud, ud, ud, ud, ud, ud, ud, ud, ud, ud, ud, ud, ud, ud, ud, ud, ud, ud, ud, ud], []⟩ Tryz.func12 (by kernel_rfl) (by kernel_rfl) <| sy_sq (qc77_12 2) (qc77_12 3) <| sy_reg <| rg_q 0 [0, 1, 2, 3] ?_
  obtain ⟨V1, eV1, ga, ega, h2, kV1⟩ := alloc_step w ((Att.c a)) 26
  have n3 : w.heap.size ≤ ga := ega ▸ K0.size
  refine prq (pT ga 0) (w' := V1) (by rw [← eV1, ← ega]; exact exec_box 26 (.tmp 0) (by kernel_rfl) (.agg (Att.c a)) (by kernel_rfl)) ?_
  clear eV1
  have K4 := K0.nn kV1
  have z5 := kV1.size
  obtain ⟨V6, eV6, gb, egb, h7, kV6⟩ := alloc_step V1 ((Att.c b)) 26
  have n8 : ga < gb := egb ▸ lt_of_block h2
  have n9 : w.heap.size ≤ gb := egb ▸ K4.size
  refine prq (pT gb 0) (w' := V6) (by rw [← eV6, ← egb]; exact exec_box 26 (.tmp 1) (by kernel_rfl) (.agg (Att.c b)) (by kernel_rfl)) ?_
  clear eV6
  have h10 := kV6.bk h2
  have K11 := K4.nn kV6
  have z12 := kV6.size
  obtain ⟨V13, eV13, gr, egr, h14, kV13⟩ := alloc_step V6 ((Msg.c msgZ)) 38
  have n15 : ga < gr := egr ▸ lt_of_block h10
  have n16 : gb < gr := egr ▸ lt_of_block h7
  have n17 : w.heap.size ≤ gr := egr ▸ K11.size
  refine prq (pT gr 0) (w' := V13) (by rw [← eV13, ← egr]; exact exec_alloc0 38 (by kernel_rfl) (.agg ((Msg.c msgZ))) (by kernel_rfl)) ?_
  clear eV13
  have h18 := kV13.bk h10
  have h19 := kV13.bk h7
  have K20 := K11.nn kV13
  have z21 := kV13.size
  refine pkq (.bool false) <| ps_end <| then_n <| sy_sq (qc77_12 6) (qc77_12 7) <| sy_reg <| rg_q 1 [0, 1, 2, 3, 4] <| ppq (.agg (Att.c a)) (exec_load_row 26 (.tmp 2) (by kernel_rfl) ga (by kernel_rfl) _ _ (0, 0) _ (h18) Tryz.underlying26 rfl (by rw [Att.c_size _ hr]; kernel_rfl)) <| ppq (.agg (Att.c b)) (exec_load_row 26 (.tmp 3) (by kernel_rfl) gb (by kernel_rfl) _ _ (0, 0) _ (h19) Tryz.underlying26 rfl (by rw [Att.c_size _ hs]; kernel_rfl)) <| ppq (.agg (Msg.c (evMs 0 a b))) (exec_build_fill 38 #[(0, .const (.int .i64 8)), (9, .tmp 7), (10, .tmp 8)] (by kernel_rfl) [(0, .int .i64 8), (9, .agg (Att.c a)), (10, .agg (Att.c b))] (by kernel_rfl) _ Tryz.underlying38 (.agg msgZ.c) (fun _ => by kernel_rfl) #[(0, 1), (1, 1), (2, 1), (3, 1), (4, 1), (5, 1), (6, 4), (10, 1), (11, 1), (12, 36), (48, 36), (84, 35), (119, 35)] (fun _ => by kernel_rfl) _ (fill_ab a b hr hs)) ?_
  obtain ⟨V22, eV22, gm, egm, h23, kV22⟩ := alloc_step V13 ((Msg.c msgZ)) 38
  have n24 : ga < gm := egm ▸ lt_of_block h18
  have n25 : gb < gm := egm ▸ lt_of_block h19
  have n26 : gr < gm := egm ▸ lt_of_block h14
  have n27 : w.heap.size ≤ gm := egm ▸ K20.size
  refine prq (pT gm 0) (w' := V22) (by rw [← eV22, ← egm]; exact exec_alloc0 38 (by kernel_rfl) (.agg ((Msg.c msgZ))) (by kernel_rfl)) ?_
  clear eV22
  have h28 := kV22.bk h18
  have h29 := kV22.bk h19
  have h30 := kV22.bk h14
  have K31 := K20.nn kV22
  have z32 := kV22.size
  obtain ⟨V33, eV33, kV33⟩ := rowset_step V22 gm ((Msg.c (evMs 0 a b)))
  have h34 : V33.heap[gm]? = some (.cells (Msg.c ((evMs 0 a b))) 38 (0, 0)) := eV33 ▸ setRow_heap _ _ _ _ _ _ h23
  refine pzq (w' := V33) (by rw [← eV33]; exact exec_store_row 38 (.tmp 6) (.tmp 9) (by kernel_rfl) gm ((Msg.c (evMs 0 a b))) (by kernel_rfl) (by kernel_rfl) 38 ((Msg.c msgZ)) h23 (by rw [Msg.c_size (evMs_R hr hs)]; kernel_rfl) (by rw [Msg.c_size (evMs_R hr hs)]; exact (Msg.c_size msgZ_R).symm) (Msg.c_one _)) ?_
  clear eV33
  have h35 := kV33.bo h28 (by omega)
  have h36 := kV33.bo h29 (by omega)
  have h37 := kV33.bo h30 (by omega)
  have K38 := K31.no kV33 (by omega)
  have z39 := kV33.size
  refine ps_end <| then_n <| sy_sq (qc77_12 14) (qc77_12 15) <| sy_bk 0 (qc77_12 28) <| sy_sq (qc77_12 56) (qc77_12 57) <| sy_reg <| rg_q 3 [0, 1, 2, 3] ?_
  by_cases c0 : doub a b = true
  · refine ppq (.agg (Att.c a)) (exec_load_row 26 (.tmp 2) (by kernel_rfl) ga (by kernel_rfl) _ _ (0, 0) _ (h35) Tryz.underlying26 rfl (by rw [Att.c_size _ hr]; kernel_rfl)) <| ppq (.agg (Att.c b)) (exec_load_row 26 (.tmp 3) (by kernel_rfl) gb (by kernel_rfl) _ _ (0, 0) _ (h36) Tryz.underlying26 rfl (by rw [Att.c_size _ hs]; kernel_rfl)) ?_
    refine pcq 32 #[.agg (Att.c a), .agg (Att.c b)] Tryz.func32 ((doubV _ ha hb c0).mono ?_)
    rintro e V40 ⟨rfl, kV40⟩
    refine ⟨_, rfl, ?_⟩
    have h43 := kV40.bk h37
    have h44 := kV40.bk h34
    have K45 := K38.nn kV40
    have z46 := kV40.size
    refine pkq (.bool true) <| ps_end <| then_n <| sy_ys (.tmp 11) (qc77_12 114) (qc77_12 115) <| sy_reg <| rg_q 4 [0, 1] <| pkq (pT gm 11) ?_
    obtain ⟨V47, eV47, kV47⟩ := cell_step V40 gm 11 (.int .i64 1)
    have h48 : V47.heap[gm]? = some (.cells (Msg.c (NF.set ((evMs 0 a b)) 1 .pf)) 38 (0, 0)) := eV47 ▸ ((heap_setCell_same _ gm 11 _ _ (.int .i64 1) h44).trans (congrArg (fun c => some (Obj.cells c 38 (0, 0))) (show (Msg.c ((evMs 0 a b)) : Array Value).setIfInBounds 11 (.int .i64 1) = Msg.c (NF.set ((evMs 0 a b)) 1 .pf) from Msg.set_n (evMs_R hr hs) NF.pf _)))
    refine pzq (w' := V47) (by rw [← eV47]; exact exec_store_cell 3 (.tmp 15) (.const (.int .i64 1)) (by kernel_rfl) gm 11 (by kernel_rfl) (.int .i64 1) (by kernel_rfl) (by kernel_rfl) (by kernel_rfl) (.int .i64 (((evMs 0 a b)).pf)) (rc (h44) (Msg.get_n (evMs_R hr hs) NF.pf)) (frozen_of_row _ _ _ _ _ h44) (by kernel_rfl)) ?_
    clear eV47
    have h51 := kV47.bo h43 (by omega)
    have K52 := K45.no kV47 (by omega)
    have z53 := kV47.size
    refine ps_end <| blk_n <| then_n <| sy_sq (qc77_12 30) (qc77_12 31) <| sy_reg <| rg_q 9 [0, 1, 2] <| ppq (.agg (Msg.c (NF.set ((evMs 0 a b)) 1 .pf))) (exec_load_row 38 (.tmp 6) (by kernel_rfl) gm (by kernel_rfl) _ _ (0, 0) _ (h48) Tryz.underlying38 rfl (by rw [Msg.c_size (NF.R (evMs_R hr hs))]; kernel_rfl)) ?_
    obtain ⟨V54, eV54, kV54⟩ := rowset_step V47 gr ((Msg.c (NF.set ((evMs 0 a b)) 1 .pf)))
    have h55 : V54.heap[gr]? = some (.cells (Msg.c (NF.set ((evMs 0 a b)) 1 .pf)) 38 (0, 0)) := eV54 ▸ setRow_heap _ _ _ _ _ _ h51
    refine pzq (w' := V54) (by rw [← eV54]; exact exec_store_row 38 (.tmp 4) (.tmp 30) (by kernel_rfl) gr ((Msg.c (NF.set ((evMs 0 a b)) 1 .pf))) (by kernel_rfl) (by kernel_rfl) 38 ((Msg.c msgZ)) h51 (by rw [Msg.c_size (NF.R (evMs_R hr hs))]; kernel_rfl) (by rw [Msg.c_size (NF.R (evMs_R hr hs))]; exact (Msg.c_size msgZ_R).symm) (Msg.c_one _)) ?_
    clear eV54
    have K59 := K52.no kV54 (by omega)
    have z60 := kV54.size
    refine pkq (.bool true) <| ps_end <| then_n <| sy_ret (by kernel_rfl) <| sy_out (.tuple #[.agg (Msg.c (NF.set ((evMs 0 a b)) 1 .pf)), .bool true]) rfl (results_row_tmp (p := 4) (q := 5) (ty := 38) (by kernel_rfl) _ _ gr 38 (Msg.c (NF.set ((evMs 0 a b)) 1 .pf)) (0, 0) _ (.bool true) (by kernel_rfl) h55 Tryz.underlying38 rfl (by rw [Msg.c_size (NF.R (evMs_R hr hs))]; kernel_rfl) (by kernel_rfl)) ?_
    exact ⟨by rw [proves, if_pos c0]; (try rfl), K59⟩
  · have c0' := bnot c0
    refine ppq (.agg (Att.c a)) (exec_load_row 26 (.tmp 2) (by kernel_rfl) ga (by kernel_rfl) _ _ (0, 0) _ (h35) Tryz.underlying26 rfl (by rw [Att.c_size _ hr]; kernel_rfl)) <| ppq (.agg (Att.c b)) (exec_load_row 26 (.tmp 3) (by kernel_rfl) gb (by kernel_rfl) _ _ (0, 0) _ (h36) Tryz.underlying26 rfl (by rw [Att.c_size _ hs]; kernel_rfl)) ?_
    refine pcq 32 #[.agg (Att.c a), .agg (Att.c b)] Tryz.func32 ((doubV _ ha hb c0').mono ?_)
    rintro e V61 ⟨rfl, kV61⟩
    refine ⟨_, rfl, ?_⟩
    have h62 := kV61.bk h35
    have h63 := kV61.bk h36
    have h64 := kV61.bk h37
    have h65 := kV61.bk h34
    have K66 := K38.nn kV61
    have z67 := kV61.size
    refine pkq (.bool false) <| ps_end <| then_n <| sy_n (.tmp 11) (qc77_12 114) (qc77_12 115) <| sy_sq (qc77_12 230) (qc77_12 231) <| sy_reg <| rg_q 5 [0, 1, 2, 3] ?_
    by_cases c1 : surr a b = true
    · refine ppq (.agg (Att.c a)) (exec_load_row 26 (.tmp 2) (by kernel_rfl) ga (by kernel_rfl) _ _ (0, 0) _ (h62) Tryz.underlying26 rfl (by rw [Att.c_size _ hr]; kernel_rfl)) <| ppq (.agg (Att.c b)) (exec_load_row 26 (.tmp 3) (by kernel_rfl) gb (by kernel_rfl) _ _ (0, 0) _ (h63) Tryz.underlying26 rfl (by rw [Att.c_size _ hs]; kernel_rfl)) ?_
      refine pcq 33 #[.agg (Att.c a), .agg (Att.c b)] Tryz.func33 ((surrV _ ha hb c1).mono ?_)
      rintro e V68 ⟨rfl, kV68⟩
      refine ⟨_, rfl, ?_⟩
      have h71 := kV68.bk h64
      have h72 := kV68.bk h65
      have K73 := K66.nn kV68
      have z74 := kV68.size
      refine pkq (.bool true) <| ps_end <| then_n <| sy_ys (.tmp 16) (qc77_12 462) (qc77_12 463) <| sy_reg <| rg_q 6 [0, 1] <| pkq (pT gm 11) ?_
      obtain ⟨V75, eV75, kV75⟩ := cell_step V68 gm 11 (.int .i64 2)
      have h76 : V75.heap[gm]? = some (.cells (Msg.c (NF.set ((evMs 0 a b)) 2 .pf)) 38 (0, 0)) := eV75 ▸ ((heap_setCell_same _ gm 11 _ _ (.int .i64 2) h72).trans (congrArg (fun c => some (Obj.cells c 38 (0, 0))) (show (Msg.c ((evMs 0 a b)) : Array Value).setIfInBounds 11 (.int .i64 2) = Msg.c (NF.set ((evMs 0 a b)) 2 .pf) from Msg.set_n (evMs_R hr hs) NF.pf _)))
      refine pzq (w' := V75) (by rw [← eV75]; exact exec_store_cell 3 (.tmp 20) (.const (.int .i64 2)) (by kernel_rfl) gm 11 (by kernel_rfl) (.int .i64 2) (by kernel_rfl) (by kernel_rfl) (by kernel_rfl) (.int .i64 (((evMs 0 a b)).pf)) (rc (h72) (Msg.get_n (evMs_R hr hs) NF.pf)) (frozen_of_row _ _ _ _ _ h72) (by kernel_rfl)) ?_
      clear eV75
      have h79 := kV75.bo h71 (by omega)
      have K80 := K73.no kV75 (by omega)
      have z81 := kV75.size
      refine ps_end <| blk_n <| then_n <| sy_sq (qc77_12 30) (qc77_12 31) <| sy_reg <| rg_q 9 [0, 1, 2] <| ppq (.agg (Msg.c (NF.set ((evMs 0 a b)) 2 .pf))) (exec_load_row 38 (.tmp 6) (by kernel_rfl) gm (by kernel_rfl) _ _ (0, 0) _ (h76) Tryz.underlying38 rfl (by rw [Msg.c_size (NF.R (evMs_R hr hs))]; kernel_rfl)) ?_
      obtain ⟨V82, eV82, kV82⟩ := rowset_step V75 gr ((Msg.c (NF.set ((evMs 0 a b)) 2 .pf)))
      have h83 : V82.heap[gr]? = some (.cells (Msg.c (NF.set ((evMs 0 a b)) 2 .pf)) 38 (0, 0)) := eV82 ▸ setRow_heap _ _ _ _ _ _ h79
      refine pzq (w' := V82) (by rw [← eV82]; exact exec_store_row 38 (.tmp 4) (.tmp 30) (by kernel_rfl) gr ((Msg.c (NF.set ((evMs 0 a b)) 2 .pf))) (by kernel_rfl) (by kernel_rfl) 38 ((Msg.c msgZ)) h79 (by rw [Msg.c_size (NF.R (evMs_R hr hs))]; kernel_rfl) (by rw [Msg.c_size (NF.R (evMs_R hr hs))]; exact (Msg.c_size msgZ_R).symm) (Msg.c_one _)) ?_
      clear eV82
      have K87 := K80.no kV82 (by omega)
      have z88 := kV82.size
      refine pkq (.bool true) <| ps_end <| then_n <| sy_ret (by kernel_rfl) <| sy_out (.tuple #[.agg (Msg.c (NF.set ((evMs 0 a b)) 2 .pf)), .bool true]) rfl (results_row_tmp (p := 4) (q := 5) (ty := 38) (by kernel_rfl) _ _ gr 38 (Msg.c (NF.set ((evMs 0 a b)) 2 .pf)) (0, 0) _ (.bool true) (by kernel_rfl) h83 Tryz.underlying38 rfl (by rw [Msg.c_size (NF.R (evMs_R hr hs))]; kernel_rfl) (by kernel_rfl)) ?_
      exact ⟨by rw [proves, if_neg c0, if_pos c1]; (try rfl), K87⟩
    · have c1' := bnot c1
      refine ppq (.agg (Att.c a)) (exec_load_row 26 (.tmp 2) (by kernel_rfl) ga (by kernel_rfl) _ _ (0, 0) _ (h62) Tryz.underlying26 rfl (by rw [Att.c_size _ hr]; kernel_rfl)) <| ppq (.agg (Att.c b)) (exec_load_row 26 (.tmp 3) (by kernel_rfl) gb (by kernel_rfl) _ _ (0, 0) _ (h63) Tryz.underlying26 rfl (by rw [Att.c_size _ hs]; kernel_rfl)) ?_
      refine pcq 33 #[.agg (Att.c a), .agg (Att.c b)] Tryz.func33 ((surrV _ ha hb c1').mono ?_)
      rintro e V89 ⟨rfl, kV89⟩
      refine ⟨_, rfl, ?_⟩
      have h90 := kV89.bk h62
      have h91 := kV89.bk h63
      have h92 := kV89.bk h64
      have h93 := kV89.bk h65
      have K94 := K66.nn kV89
      have z95 := kV89.size
      refine pkq (.bool false) <| ps_end <| then_n <| sy_n (.tmp 16) (qc77_12 462) (qc77_12 463) <| sy_sq (qc77_12 926) (qc77_12 927) <| sy_reg <| rg_q 7 [0, 1, 2, 3] ?_
      by_cases c2 : surr b a = true
      · refine ppq (.agg (Att.c b)) (exec_load_row 26 (.tmp 3) (by kernel_rfl) gb (by kernel_rfl) _ _ (0, 0) _ (h91) Tryz.underlying26 rfl (by rw [Att.c_size _ hs]; kernel_rfl)) <| ppq (.agg (Att.c a)) (exec_load_row 26 (.tmp 2) (by kernel_rfl) ga (by kernel_rfl) _ _ (0, 0) _ (h90) Tryz.underlying26 rfl (by rw [Att.c_size _ hr]; kernel_rfl)) ?_
        refine pcq 33 #[.agg (Att.c b), .agg (Att.c a)] Tryz.func33 ((surrV _ hb ha c2).mono ?_)
        rintro e V96 ⟨rfl, kV96⟩
        refine ⟨_, rfl, ?_⟩
        have h97 := kV96.bk h90
        have h98 := kV96.bk h91
        have h99 := kV96.bk h92
        have h100 := kV96.bk h93
        have K101 := K94.nn kV96
        have z102 := kV96.size
        refine pkq (.bool true) <| ps_end <| then_n <| sy_ys (.tmp 21) (qc77_12 1854) (qc77_12 1855) <| sy_np <| sy_reg <| an_begin 8 8 (opsAt (qc77_12 1854)) (fun W => (W.heap[ga]? = some (.cells (Att.c a) 26 (0, 0))) ∧ (W.heap[gb]? = some (.cells (Att.c b) 26 (0, 0)))) #[false, false, false, false, false, false, false, false] (by kernel_rfl) (by kernel_rfl) (by kernel_rfl) (by kernel_rfl) ?_
        obtain ⟨V103, eV103, kV103⟩ := drew_step V96
        rw [eV103]
        clear eV103
        have h104 := kV103.bk h97
        have h105 := kV103.bk h98
        have h106 := kV103.bk h99
        have h107 := kV103.bk h100
        have K108 := K101.nn kV103
        have z109 := kV103.size
        refine avq 0 (.agg (Att.c b)) (fun W hS => exec_load_row 26 (.tmp 3) (by kernel_rfl) gb (by kernel_rfl) _ _ (0, 0) _ (hS.2) Tryz.underlying26 rfl (by rw [Att.c_size _ hs]; kernel_rfl)) ⟨h104, h105⟩ <| avq 1 (.agg (Att.c a)) (fun W hS => exec_load_row 26 (.tmp 2) (by kernel_rfl) ga (by kernel_rfl) _ _ (0, 0) _ (hS.1) Tryz.underlying26 rfl (by rw [Att.c_size _ hr]; kernel_rfl)) ⟨h104, h105⟩ <| akq 2 (pT gm 11) ⟨h104, h105⟩ <| an_o 3 ?_
        obtain ⟨V110, eV110, kV110⟩ := cell_step V103 gm 11 (.int .i64 2)
        have h111 : V110.heap[gm]? = some (.cells (Msg.c (NF.set ((evMs 0 a b)) 2 .pf)) 38 (0, 0)) := eV110 ▸ ((heap_setCell_same _ gm 11 _ _ (.int .i64 2) h107).trans (congrArg (fun c => some (Obj.cells c 38 (0, 0))) (show (Msg.c ((evMs 0 a b)) : Array Value).setIfInBounds 11 (.int .i64 2) = Msg.c (NF.set ((evMs 0 a b)) 2 .pf) from Msg.set_n (evMs_R hr hs) NF.pf _)))
        refine nzq (w' := V110) (by rw [← eV110]; exact exec_store_cell 3 (.tmp 27) (.const (.int .i64 2)) (by kernel_rfl) gm 11 (by kernel_rfl) (.int .i64 2) (by kernel_rfl) (by kernel_rfl) (by kernel_rfl) (.int .i64 (((evMs 0 a b)).pf)) (rc (h107) (Msg.get_n (evMs_R hr hs) NF.pf)) (frozen_of_row _ _ _ _ _ h107) (by kernel_rfl)) ?_
        clear eV110
        have h112 := kV110.bo h104 (by omega)
        have h113 := kV110.bo h105 (by omega)
        have h114 := kV110.bo h106 (by omega)
        have K115 := K108.no kV110 (by omega)
        have z116 := kV110.size
        refine ⟨⟨h112, h113⟩, ?_⟩
        refine akq 4 (pT gm 12) ⟨h112, h113⟩ <| an_o 5 ?_
        obtain ⟨V117, eV117⟩ : ∃ V, V110.setCells gm 12 (Att.c b).toList = V := ⟨_, rfl⟩
        have kV117 : Keeps (One gm) V110 V117 := eV117 ▸ Keeps.setCells _ _ _ _
        have h118 : V117.heap[gm]? = some (.cells (Msg.c (putA (NF.set ((evMs 0 a b)) 2 .pf) b)) 38 (0, 0)) := eV117 ▸ (heap_setCells gm _ _ 12 _ _ h111 (show 12 + (Att.c b).toList.length ≤ _ by rw [(show (Att.c b).toList.length = 36 from Att.tl hs), Msg.c_size (NF.R (evMs_R hr hs))]; decide)).trans (congrArg (fun c => some (Obj.cells c 38 (0, 0))) (Msg.set_A (NF.R (evMs_R hr hs)) _ hs))
        refine nzq (w' := V117) (by rw [← eV117]; exact exec_store_mid 26 (.tmp 28) (.tmp 25) (by kernel_rfl) gm 12 (by kernel_rfl) (Att.c b) (by kernel_rfl) _ _ h111 (show 12 + (Att.c b).toList.length ≤ _ by rw [(show (Att.c b).toList.length = 36 from Att.tl hs), Msg.c_size (NF.R (evMs_R hr hs))]; decide) (by rw [Att.c_size _ hs]; kernel_rfl) (Att.c_one _)) ?_
        clear eV117
        have h119 := kV117.bo h112 (by omega)
        have h120 := kV117.bo h113 (by omega)
        have h121 := kV117.bo h114 (by omega)
        have K122 := K115.no kV117 (by omega)
        have z123 := kV117.size
        refine ⟨⟨h119, h120⟩, ?_⟩
        refine akq 6 (pT gm 48) ⟨h119, h120⟩ <| an_o 7 ?_
        obtain ⟨V124, eV124⟩ : ∃ V, V117.setCells gm 48 (Att.c a).toList = V := ⟨_, rfl⟩
        have kV124 : Keeps (One gm) V117 V124 := eV124 ▸ Keeps.setCells _ _ _ _
        have h125 : V124.heap[gm]? = some (.cells (Msg.c (putB (putA (NF.set ((evMs 0 a b)) 2 .pf) b) a)) 38 (0, 0)) := eV124 ▸ (heap_setCells gm _ _ 48 _ _ h118 (show 48 + (Att.c a).toList.length ≤ _ by rw [(show (Att.c a).toList.length = 36 from Att.tl hr), Msg.c_size (putA_R (NF.R (evMs_R hr hs)) hs)]; decide)).trans (congrArg (fun c => some (Obj.cells c 38 (0, 0))) (Msg.set_B (putA_R (NF.R (evMs_R hr hs)) hs) _ hr))
        refine nzq (w' := V124) (by rw [← eV124]; exact exec_store_mid 26 (.tmp 29) (.tmp 26) (by kernel_rfl) gm 48 (by kernel_rfl) (Att.c a) (by kernel_rfl) _ _ h118 (show 48 + (Att.c a).toList.length ≤ _ by rw [(show (Att.c a).toList.length = 36 from Att.tl hr), Msg.c_size (putA_R (NF.R (evMs_R hr hs)) hs)]; decide) (by rw [Att.c_size _ hr]; kernel_rfl) (Att.c_one _)) ?_
        clear eV124
        have h126 := kV124.bo h119 (by omega)
        have h127 := kV124.bo h120 (by omega)
        have h128 := kV124.bo h121 (by omega)
        have K129 := K122.no kV124 (by omega)
        have z130 := kV124.size
        refine ⟨⟨h126, h127⟩, ?_⟩
        refine an_end (by kernel_rfl) <| sy_a ⟨#[.agg (Att.c a), .agg (Att.c b), pT ga 0, pT gb 0, pT gr 0, .bool false, pT gm 0, .agg (Att.c a), .agg (Att.c b), .agg (Msg.c (evMs 0 a b)), ud, .bool false, .agg (Att.c a), .agg (Att.c b), .bool false, ud, .bool false, .agg (Att.c a), .agg (Att.c b), .bool false, ud, .bool true, .agg (Att.c b), .agg (Att.c a), .bool true, .agg (Att.c b), .agg (Att.c a), pT gm 11, pT gm 12, pT gm 48, ud], []⟩ <| blk_n <| then_n <| sy_sq (qc77_12 30) (qc77_12 31) <| sy_reg <| rg_q 9 [0, 1, 2] <| ppq (.agg (Msg.c (putB (putA (NF.set ((evMs 0 a b)) 2 .pf) b) a))) (exec_load_row 38 (.tmp 6) (by kernel_rfl) gm (by kernel_rfl) _ _ (0, 0) _ (h125) Tryz.underlying38 rfl (by rw [Msg.c_size (putB_R (putA_R (NF.R (evMs_R hr hs)) hs) hr)]; kernel_rfl)) ?_
        obtain ⟨V131, eV131, kV131⟩ := rowset_step V124 gr ((Msg.c (putB (putA (NF.set ((evMs 0 a b)) 2 .pf) b) a)))
        have h132 : V131.heap[gr]? = some (.cells (Msg.c (putB (putA (NF.set ((evMs 0 a b)) 2 .pf) b) a)) 38 (0, 0)) := eV131 ▸ setRow_heap _ _ _ _ _ _ h128
        refine pzq (w' := V131) (by rw [← eV131]; exact exec_store_row 38 (.tmp 4) (.tmp 30) (by kernel_rfl) gr ((Msg.c (putB (putA (NF.set ((evMs 0 a b)) 2 .pf) b) a))) (by kernel_rfl) (by kernel_rfl) 38 ((Msg.c msgZ)) h128 (by rw [Msg.c_size (putB_R (putA_R (NF.R (evMs_R hr hs)) hs) hr)]; kernel_rfl) (by rw [Msg.c_size (putB_R (putA_R (NF.R (evMs_R hr hs)) hs) hr)]; exact (Msg.c_size msgZ_R).symm) (Msg.c_one _)) ?_
        clear eV131
        have K136 := K129.no kV131 (by omega)
        have z137 := kV131.size
        refine pkq (.bool true) <| ps_end <| then_n <| sy_ret (by kernel_rfl) <| sy_out (.tuple #[.agg (Msg.c (putB (putA (NF.set ((evMs 0 a b)) 2 .pf) b) a)), .bool true]) rfl (results_row_tmp (p := 4) (q := 5) (ty := 38) (by kernel_rfl) _ _ gr 38 (Msg.c (putB (putA (NF.set ((evMs 0 a b)) 2 .pf) b) a)) (0, 0) _ (.bool true) (by kernel_rfl) h132 Tryz.underlying38 rfl (by rw [Msg.c_size (putB_R (putA_R (NF.R (evMs_R hr hs)) hs) hr)]; kernel_rfl) (by kernel_rfl)) ?_
        exact ⟨by rw [proves, if_neg c0, if_neg c1, if_pos c2]; (try rfl), K136⟩
      · have c2' := bnot c2
        refine ppq (.agg (Att.c b)) (exec_load_row 26 (.tmp 3) (by kernel_rfl) gb (by kernel_rfl) _ _ (0, 0) _ (h91) Tryz.underlying26 rfl (by rw [Att.c_size _ hs]; kernel_rfl)) <| ppq (.agg (Att.c a)) (exec_load_row 26 (.tmp 2) (by kernel_rfl) ga (by kernel_rfl) _ _ (0, 0) _ (h90) Tryz.underlying26 rfl (by rw [Att.c_size _ hr]; kernel_rfl)) ?_
        refine pcq 33 #[.agg (Att.c b), .agg (Att.c a)] Tryz.func33 ((surrV _ hb ha c2').mono ?_)
        rintro e V138 ⟨rfl, kV138⟩
        refine ⟨_, rfl, ?_⟩
        have h141 := kV138.bk h92
        have K143 := K94.nn kV138
        have z144 := kV138.size
        refine pkq (.bool false) <| ps_end <| then_n <| sy_n (.tmp 21) (qc77_12 1854) (qc77_12 1855) <| sy_sq (qc77_12 3710) (qc77_12 3711) <| sy_reg <| rg_q 2 [0, 1, 2] <| pkq (.agg (Msg.c msgZ)) ?_
        obtain ⟨V145, eV145, kV145⟩ := rowset_step V138 gr ((Msg.c msgZ))
        have h146 : V145.heap[gr]? = some (.cells (Msg.c msgZ) 38 (0, 0)) := eV145 ▸ setRow_heap _ _ _ _ _ _ h141
        refine pzq (w' := V145) (by rw [← eV145]; exact exec_store_row 38 (.tmp 4) (.tmp 10) (by kernel_rfl) gr ((Msg.c msgZ)) (by kernel_rfl) (by kernel_rfl) 38 ((Msg.c msgZ)) h141 (by rw [Msg.c_size msgZ_R]; kernel_rfl) rfl (Msg.c_one _)) ?_
        clear eV145
        have K150 := K143.no kV145 (by omega)
        have z151 := kV145.size
        refine pkq (.bool false) <| ps_end <| sy_a ⟨#[.agg (Att.c a), .agg (Att.c b), pT ga 0, pT gb 0, pT gr 0, .bool false, pT gm 0, .agg (Att.c a), .agg (Att.c b), .agg (Msg.c (evMs 0 a b)), .agg (Msg.c msgZ), .bool false, .agg (Att.c a), .agg (Att.c b), .bool false, ud, .bool false, .agg (Att.c a), .agg (Att.c b), .bool false, ud, .bool false, .agg (Att.c b), .agg (Att.c a), .bool false, ud, ud, ud, ud, ud, ud], []⟩ <| then_n <| sy_ret (by kernel_rfl) <| blk_r <| then_r <| sy_out (.tuple #[.agg (Msg.c msgZ), .bool false]) rfl (results_row_tmp (p := 4) (q := 5) (ty := 38) (by kernel_rfl) _ _ gr 38 (Msg.c msgZ) (0, 0) _ (.bool false) (by kernel_rfl) h146 Tryz.underlying38 rfl (by rw [Msg.c_size msgZ_R]; kernel_rfl) (by kernel_rfl)) ?_
        exact ⟨by rw [proves, if_neg c0, if_neg c1, if_neg c2]; (try rfl), K150⟩
noncomputable def qc77_0 (n : Nat) : Code := partOf Tryz.f14 n
theorem eProveBlock_ok (p q : Pro) (w : World) (ha : p.Ok) (hb : q.Ok) :
    Calls Tryz.prog 14 #[.agg (Pro.c p), .agg (Pro.c q)] w (fun e w' => e = .returned (.tuple #[.agg (Msg.c (provesP p q).1), .bool (provesP p q).2]) ∧ Keeps Nob w w') := by
  have hr := ha.r
  have hs := hb.r
  have K0 : Keeps Nob w w := Keeps.refl _ _
  refine sy_enter (qc77_0 1) ⟨#[.agg (Pro.c p), .agg (Pro.c q), ud, ud, ud, ud, ud, ud, ud, ud, ud, ud, ud, ud], []⟩ Tryz.func14 (by kernel_rfl) (by kernel_rfl) <| sy_sq (qc77_0 2) (qc77_0 3) <| sy_reg <| rg_q 0 [0, 1, 2, 3] ?_
  obtain ⟨V1, eV1, ga, ega, h2, kV1⟩ := alloc_step w ((Pro.c p)) 28
  have n3 : w.heap.size ≤ ga := ega ▸ K0.size
  refine prq (pT ga 0) (w' := V1) (by rw [← eV1, ← ega]; exact exec_box 28 (.tmp 0) (by kernel_rfl) (.agg (Pro.c p)) (by kernel_rfl)) ?_
  clear eV1
  have K4 := K0.nn kV1
  have z5 := kV1.size
  obtain ⟨V6, eV6, gb, egb, h7, kV6⟩ := alloc_step V1 ((Pro.c q)) 28
  have n8 : ga < gb := egb ▸ lt_of_block h2
  have n9 : w.heap.size ≤ gb := egb ▸ K4.size
  refine prq (pT gb 0) (w' := V6) (by rw [← eV6, ← egb]; exact exec_box 28 (.tmp 1) (by kernel_rfl) (.agg (Pro.c q)) (by kernel_rfl)) ?_
  clear eV6
  have h10 := kV6.bk h2
  have K11 := K4.nn kV6
  have z12 := kV6.size
  obtain ⟨V13, eV13, gr, egr, h14, kV13⟩ := alloc_step V6 ((Msg.c msgZ)) 38
  have n15 : ga < gr := egr ▸ lt_of_block h10
  have n16 : gb < gr := egr ▸ lt_of_block h7
  have n17 : w.heap.size ≤ gr := egr ▸ K11.size
  refine prq (pT gr 0) (w' := V13) (by rw [← eV13, ← egr]; exact exec_alloc0 38 (by kernel_rfl) (.agg ((Msg.c msgZ))) (by kernel_rfl)) ?_
  clear eV13
  have h18 := kV13.bk h10
  have h19 := kV13.bk h7
  have K20 := K11.nn kV13
  have z21 := kV13.size
  refine pkq (.bool false) <| ps_end <| then_n <| sy_sq (qc77_0 6) (qc77_0 7) <| sy_sq (qc77_0 12) (qc77_0 13) <| sy_reg <| rg_q 1 [0, 1, 2, 3] ?_
  by_cases c0 : doubP p q = true
  · refine ppq (.agg (Pro.c p)) (exec_load_row 28 (.tmp 2) (by kernel_rfl) ga (by kernel_rfl) _ _ (0, 0) _ (h18) Tryz.underlying28 rfl (by rw [Pro.c_size _ hr]; kernel_rfl)) <| ppq (.agg (Pro.c q)) (exec_load_row 28 (.tmp 3) (by kernel_rfl) gb (by kernel_rfl) _ _ (0, 0) _ (h19) Tryz.underlying28 rfl (by rw [Pro.c_size _ hs]; kernel_rfl)) ?_
    refine pcq 35 #[.agg (Pro.c p), .agg (Pro.c q)] Tryz.func35 ((doubPV _ ha hb c0).mono ?_)
    rintro e V22 ⟨rfl, kV22⟩
    refine ⟨_, rfl, ?_⟩
    have h23 := kV22.bk h18
    have h24 := kV22.bk h19
    have h25 := kV22.bk h14
    have K26 := K20.nn kV22
    have z27 := kV22.size
    refine pkq (.bool false) <| ps_end <| then_n <| sy_n (.tmp 9) (qc77_0 26) (qc77_0 27) <| sy_sk <| then_n <| sy_sq (qc77_0 14) (qc77_0 15) <| sy_reg <| rg_q 3 [0, 1, 2, 3, 4] <| ppq (.agg (Pro.c p)) (exec_load_row 28 (.tmp 2) (by kernel_rfl) ga (by kernel_rfl) _ _ (0, 0) _ (h23) Tryz.underlying28 rfl (by rw [Pro.c_size _ hr]; kernel_rfl)) <| ppq (.agg (Pro.c q)) (exec_load_row 28 (.tmp 3) (by kernel_rfl) gb (by kernel_rfl) _ _ (0, 0) _ (h24) Tryz.underlying28 rfl (by rw [Pro.c_size _ hs]; kernel_rfl)) <| ppq (.agg (Msg.c (evP p q))) (exec_build_fill 38 #[(0, .const (.int .i64 8)), (8, .const (.int .i64 3)), (11, .tmp 11), (12, .tmp 12)] (by kernel_rfl) [(0, .int .i64 8), (8, .int .i64 3), (11, .agg (Pro.c p)), (12, .agg (Pro.c q))] (by kernel_rfl) _ Tryz.underlying38 (.agg msgZ.c) (fun _ => by kernel_rfl) #[(0, 1), (1, 1), (2, 1), (3, 1), (4, 1), (5, 1), (6, 4), (10, 1), (11, 1), (12, 36), (48, 36), (84, 35), (119, 35)] (fun _ => by kernel_rfl) _ (fill_pq p q hr hs)) ?_
    obtain ⟨V28, eV28, kV28⟩ := rowset_step V22 gr ((Msg.c (evP p q)))
    have h29 : V28.heap[gr]? = some (.cells (Msg.c ((evP p q))) 38 (0, 0)) := eV28 ▸ setRow_heap _ _ _ _ _ _ h25
    refine pzq (w' := V28) (by rw [← eV28]; exact exec_store_row 38 (.tmp 4) (.tmp 13) (by kernel_rfl) gr ((Msg.c (evP p q))) (by kernel_rfl) (by kernel_rfl) 38 ((Msg.c msgZ)) h25 (by rw [Msg.c_size (evP_R hr hs)]; kernel_rfl) (by rw [Msg.c_size (evP_R hr hs)]; exact (Msg.c_size msgZ_R).symm) (Msg.c_one _)) ?_
    clear eV28
    have K32 := K26.no kV28 (by omega)
    have z33 := kV28.size
    refine pkq (.bool true) <| ps_end <| then_n <| sy_ret (by kernel_rfl) <| sy_out (.tuple #[.agg (Msg.c ((evP p q))), .bool true]) rfl (results_row_tmp (p := 4) (q := 5) (ty := 38) (by kernel_rfl) _ _ gr 38 (Msg.c ((evP p q))) (0, 0) _ (.bool true) (by kernel_rfl) h29 Tryz.underlying38 rfl (by rw [Msg.c_size (evP_R hr hs)]; kernel_rfl) (by kernel_rfl)) ?_
    exact ⟨by rw [provesP, if_pos c0]; (try rfl), K32⟩
  · have c0' := bnot c0
    refine ppq (.agg (Pro.c p)) (exec_load_row 28 (.tmp 2) (by kernel_rfl) ga (by kernel_rfl) _ _ (0, 0) _ (h18) Tryz.underlying28 rfl (by rw [Pro.c_size _ hr]; kernel_rfl)) <| ppq (.agg (Pro.c q)) (exec_load_row 28 (.tmp 3) (by kernel_rfl) gb (by kernel_rfl) _ _ (0, 0) _ (h19) Tryz.underlying28 rfl (by rw [Pro.c_size _ hs]; kernel_rfl)) ?_
    refine pcq 35 #[.agg (Pro.c p), .agg (Pro.c q)] Tryz.func35 ((doubPV _ ha hb c0').mono ?_)
    rintro e V34 ⟨rfl, kV34⟩
    refine ⟨_, rfl, ?_⟩
    have h37 := kV34.bk h14
    have K38 := K20.nn kV34
    have z39 := kV34.size
    refine pkq (.bool true) <| ps_end <| then_n <| sy_ys (.tmp 9) (qc77_0 26) (qc77_0 27) <| sy_sq (qc77_0 52) (qc77_0 53) <| sy_reg <| rg_q 2 [0, 1, 2] <| pkq (.agg (Msg.c msgZ)) ?_
    obtain ⟨V40, eV40, kV40⟩ := rowset_step V34 gr ((Msg.c msgZ))
    have h41 : V40.heap[gr]? = some (.cells (Msg.c msgZ) 38 (0, 0)) := eV40 ▸ setRow_heap _ _ _ _ _ _ h37
    refine pzq (w' := V40) (by rw [← eV40]; exact exec_store_row 38 (.tmp 4) (.tmp 10) (by kernel_rfl) gr ((Msg.c msgZ)) (by kernel_rfl) (by kernel_rfl) 38 ((Msg.c msgZ)) h37 (by rw [Msg.c_size msgZ_R]; kernel_rfl) rfl (Msg.c_one _)) ?_
    clear eV40
    have K44 := K38.no kV40 (by omega)
    have z45 := kV40.size
    refine pkq (.bool false) <| ps_end <| then_n <| sy_ret (by kernel_rfl) <| then_r <| sy_out (.tuple #[.agg (Msg.c msgZ), .bool false]) rfl (results_row_tmp (p := 4) (q := 5) (ty := 38) (by kernel_rfl) _ _ gr 38 (Msg.c msgZ) (0, 0) _ (.bool false) (by kernel_rfl) h41 Tryz.underlying38 rfl (by rw [Msg.c_size msgZ_R]; kernel_rfl) (by kernel_rfl)) ?_
    exact ⟨by rw [provesP, if_neg c0]; (try rfl), K44⟩
end Go.Proofs.YtcbfnflnokoacaaGreat
namespace Go.Kec
set_option maxRecDepth 100000
set_option maxHeartbeats 4000000
def frc {α : Type} (x : Nat) (k : Nat → α) : α := Nat.rec (k 0) (fun n _ => k (Nat.succ n)) x
theorem frc_eq {α : Type} (x : Nat) (k : Nat → α) : frc x k = k x := by cases x <;> rfl
def frcL {α : Type} : List Nat → (List Nat → α) → α
  | [], k => k []
  | x :: r, k => frc x fun y => frcL r fun s => k (y :: s)
theorem frcL_eq {α : Type} (l : List Nat) (k : List Nat → α) : frcL l k = k l := by
  induction l generalizing k with
  | nil => rfl
  | cons x r ih => rw [frcL, frc_eq, ih]
def roundF {α : Type} (s : List Nat) (k : Nat) (c : List Nat → α) : α := frcL (columns s) fun a => frcL (moves a) fun b => frcL (mixes b) fun d => frcL (iota k d) c
theorem roundF_eq {α : Type} (s : List Nat) (k : Nat) (c : List Nat → α) : roundF s k c = c (round s k) := by simp only [roundF, frcL_eq]; rfl
def permF : List Nat → List Nat → List Nat
  | [], s => s
  | k :: r, s => roundF s k (permF r)
theorem permF_fold (l s : List Nat) : permF l s = l.foldl round s := by
  induction l generalizing s with
  | nil => rfl
  | cons k r ih => rw [permF, roundF_eq, ih]; rfl
theorem permF_eq (s : List Nat) : permF K s = perm s := permF_fold K s
end Go.Kec
namespace Go.Kec
set_option maxRecDepth 100000
set_option maxHeartbeats 4000000
theorem vote_one_p : perm [50462977, 0, 0, 0, 25769803776, 0, 0, 0, 0, 0, 0, 0, 0, 0, 0, 0, 9223372036854775808, 0, 0, 0, 0, 0, 0, 0, 0] = [16245493090752251077, 5317474693821651561, 11391869435923382831, 1177409735059797304, 6471790110808795169, 22975100334389075, 11618367326262577202, 2622276388299019195, 6020288525035422481, 5585398269194204248, 2998783168477571212, 2386240496570250823, 1487428597011492745, 2257054657724283516, 8884791250743104546, 12144257696813921918, 1514490699907962, 125065349427378253, 675734249579899971, 3131052237640124669, 2435136619821686349, 17110531364303804265, 14781712178505009804, 15239907632861048336, 9863921109811272620] := by
  rw [← permF_eq]; decide +kernel
theorem vote_one : sum [1, 1, 2, 3, 0, 0, 0, 0, 0, 0, 0, 0, 0, 0, 0, 0, 0, 0, 0, 0, 0, 0, 0, 0, 0, 0, 0, 0, 0, 0, 0, 0, 0, 0, 0, 0] = [197, 196, 89, 203, 228, 149, 115, 225, 105, 90, 94, 147, 15, 119, 203, 73, 47, 194, 215, 47, 229, 12, 24, 158, 56, 117, 83, 117, 234, 255, 86, 16] := by
  unfold sum takes
  rw [show mixin (stateOf [1, 1, 2, 3, 0, 0, 0, 0, 0, 0, 0, 0, 0, 0, 0, 0, 0, 0, 0, 0, 0, 0, 0, 0, 0, 0, 0, 0, 0, 0, 0, 0, 0, 0, 0, 0]) (lastBlock (restOf [1, 1, 2, 3, 0, 0, 0, 0, 0, 0, 0, 0, 0, 0, 0, 0, 0, 0, 0, 0, 0, 0, 0, 0, 0, 0, 0, 0, 0, 0, 0, 0, 0, 0, 0, 0])) = [50462977, 0, 0, 0, 25769803776, 0, 0, 0, 0, 0, 0, 0, 0, 0, 0, 0, 9223372036854775808, 0, 0, 0, 0, 0, 0, 0, 0] by decide +kernel, vote_one_p]
  decide +kernel
theorem vote_other_p : perm [50397441, 0, 0, 0, 25769803776, 0, 0, 0, 0, 0, 0, 0, 0, 0, 0, 0, 9223372036854775808, 0, 0, 0, 0, 0, 0, 0, 0] = [10278817104298907784, 14134970630840752888, 17363985685164303104, 18389485117995911768, 16872467568207025606, 9880550185199613785, 8702172063674108429, 13316258402160285168, 10236985223849689404, 5860379226928172647, 15829787594177647871, 6462967174338455390, 18021331280727149677, 15916898099768558152, 3679637874036185435, 12387242279299914377, 4235371239492183536, 5733416220640983090, 9353649997158515924, 3421662946199531572, 13558299609658487161, 9262926056336788377, 191223070837001956, 5369682799525405547, 5690039844963607325] := by
  rw [← permF_eq]; decide +kernel
theorem vote_other : sum [1, 1, 1, 3, 0, 0, 0, 0, 0, 0, 0, 0, 0, 0, 0, 0, 0, 0, 0, 0, 0, 0, 0, 0, 0, 0, 0, 0, 0, 0, 0, 0, 0, 0, 0, 0] = [136, 24, 242, 100, 178, 177, 165, 142, 248, 154, 215, 1, 230, 128, 41, 196, 0, 163, 47, 121, 251, 68, 249, 240, 88, 138, 122, 124, 72, 147, 52, 255] := by
  unfold sum takes
  rw [show mixin (stateOf [1, 1, 1, 3, 0, 0, 0, 0, 0, 0, 0, 0, 0, 0, 0, 0, 0, 0, 0, 0, 0, 0, 0, 0, 0, 0, 0, 0, 0, 0, 0, 0, 0, 0, 0, 0]) (lastBlock (restOf [1, 1, 1, 3, 0, 0, 0, 0, 0, 0, 0, 0, 0, 0, 0, 0, 0, 0, 0, 0, 0, 0, 0, 0, 0, 0, 0, 0, 0, 0, 0, 0, 0, 0, 0, 0])) = [50397441, 0, 0, 0, 25769803776, 0, 0, 0, 0, 0, 0, 0, 0, 0, 0, 0, 9223372036854775808, 0, 0, 0, 0, 0, 0, 0, 0] by decide +kernel, vote_other_p]
  decide +kernel
end Go.Kec
namespace Go.Proofs.YtcbfnflnokoacaaGreat
set_option maxRecDepth 100000
set_option maxHeartbeats 4000000
open Go Go.RowKit Go.Own Go.Shelf
def one (s t : Int) (g : Nat) : Att := ⟨1, s, t, zhash, g⟩
def chPar : Par := ⟨100, 100, 10, 8, 7, 8, 20, 50000000, 3, 50, 100000000⟩
theorem chPar_ok : chPar.Ok := by constructor <;> exact ⟨by decide, by decide⟩
theorem one_r (s t : Int) (g : Nat) : (one s t g).r.length = 32 := rfl
theorem i64b_0 : i64b 0 := by decide
theorem i64b_1 : i64b 1 := by decide
theorem i64b_3 : i64b 3 := by decide
theorem i64b_8 : i64b 8 := by decide
theorem u64_0 : 0 < 2 ^ 64 := by decide
theorem attZ_ok : msgZ.a.Ok := ⟨i64b_0, i64b_0, i64b_0, rfl, u64_0⟩
theorem proZ_ok : msgZ.p.Ok := ⟨i64b_0, i64b_0, rfl, u64_0⟩
theorem one_Ok {s t : Int} {g : Nat} (hs : i64b s) (ht : i64b t) (hg : g < 2 ^ 64) : (one s t g).Ok := ⟨i64b_1, hs, ht, rfl, hg⟩
theorem dig23 : (one 2 3 5).dig = Kec.sum [1, 1, 2, 3, 0, 0, 0, 0, 0, 0, 0, 0, 0, 0, 0, 0, 0, 0, 0, 0, 0, 0, 0, 0, 0, 0, 0, 0, 0, 0, 0, 0, 0, 0, 0, 0] := congrArg Kec.sum (show (one 2 3 5).bare = _ by kernel_rfl)
theorem dig13 : (one 1 3 6).dig = Kec.sum [1, 1, 1, 3, 0, 0, 0, 0, 0, 0, 0, 0, 0, 0, 0, 0, 0, 0, 0, 0, 0, 0, 0, 0, 0, 0, 0, 0, 0, 0, 0, 0, 0, 0, 0, 0] := congrArg Kec.sum (show (one 1 3 6).bare = _ by kernel_rfl)
theorem digs23 : ¬ (one 2 3 5).dig = (one 1 3 6).dig := by rw [dig23, dig13, Kec.vote_one, Kec.vote_other]; decide
theorem doub_ab : doub (one 2 3 5) (one 1 3 6) = true := decide_eq_true ⟨by decide, by decide, rfl, rfl, digs23⟩
theorem doub_aw : doub (one 2 3 5) (one 1 4 7) = false := decide_eq_false fun h => absurd h.2.2.2.1 (by decide)
theorem proves_ab : proves (one 2 3 5) (one 1 3 6) = (evMs 1 (one 2 3 5) (one 1 3 6), true) := by rw [proves, doub_ab]; rfl
theorem proves_aw : proves (one 2 3 5) (one 1 4 7) = (evMs 2 (one 1 4 7) (one 2 3 5), true) := by
  rw [proves, doub_aw, show surr (one 2 3 5) (one 1 4 7) = false by decide, show surr (one 1 4 7) (one 2 3 5) = true by decide]; rfl
theorem evMs_Ok {pf : Int} {a b : Att} (hp : i64b pf) (ha : a.Ok) (hb : b.Ok) : (evMs pf a b).Ok := ⟨i64b_8, i64b_0, i64b_0, i64b_0, u64_0, u64_0, i64b_0, i64b_0, i64b_0, i64b_0, i64b_0, hp, ha, hb, proZ_ok, proZ_ok⟩
theorem evP_Ok {p q : Pro} (ha : p.Ok) (hb : q.Ok) : (evP p q).Ok := ⟨i64b_8, i64b_0, i64b_0, i64b_0, u64_0, u64_0, i64b_0, i64b_0, i64b_0, i64b_0, i64b_0, i64b_3, attZ_ok, attZ_ok, ha, hb⟩
theorem a_Ok : (one 2 3 5).Ok := one_Ok (by decide) (by decide) (by decide)
theorem b_Ok : (one 1 3 6).Ok := one_Ok (by decide) (by decide) (by decide)
theorem w_Ok : (one 1 4 7).Ok := one_Ok (by decide) (by decide) (by decide)
def exD : Msg := evMs 1 (one 2 3 5) (one 1 3 6)
def exW : Msg := evMs 2 (one 1 4 7) (one 2 3 5)
theorem exD_Ok : exD.Ok := evMs_Ok (by decide) a_Ok b_Ok
theorem exW_Ok : exW.Ok := evMs_Ok (by decide) w_Ok a_Ok
theorem chP_check : chPar.check = (0, 0) := by decide +kernel
theorem exD_chk : exD.chk = 0 := by kernel_rfl
theorem exW_chk : exW.chk = 0 := by kernel_rfl
theorem exD_evi : exD.evi = 0 := by rw [Msg.evi, exD_chk]; rfl
theorem exW_evi : exW.evi = 0 := by rw [Msg.evi, exW_chk]; rfl
theorem exD_cla : exD.cla = true := by show (if (1 : Int) = 1 then doub (one 2 3 5) (one 1 3 6) else _) = true; rw [if_pos rfl, doub_ab]
theorem exW_cla : exW.cla = true := by show (if (2 : Int) = 1 then _ else if (2 : Int) = 2 then surr (one 1 4 7) (one 2 3 5) else _) = true; rw [if_neg (by decide), if_pos rfl]; decide
theorem offE_of {p : Par} {m : Msg} (h1 : p.check.1 = 0) (h2 : m.evi = 0) (h3 : m.cla = true) : offE p m = 0 := by rw [offE, h1, h2, h3]; rfl
theorem exD_off : offe chPar exD = (⟨1, 1, 31⟩, 0) := by
  rw [offe, if_pos (offE_of (by rw [chP_check]) exD_evi exD_cla), show hgt chPar exD = (31, 0) by decide +kernel]; rfl
theorem exW_off : offe chPar exW = (⟨1, 1, 41⟩, 0) := by
  rw [offe, if_pos (offE_of (by rw [chP_check]) exW_evi exW_cla), show hgt chPar exW = (41, 0) by decide +kernel]; rfl
theorem exD_sg : sgnd [] exD = 15 := by rw [sgnd, exD_evi]; rfl
theorem off_guard : Tryz.prog.eqGuardType Tryz.prog.depth 49 = false := by kernel_rfl
theorem off_equal (a b : Off) (w : World) : (Op.equalIn 10000 49 (.agg a.cs) (.agg b.cs)).run Tryz.prog w = .ok (decide (a = b)) w := by
  rw [run_equalIn_struct w 9999 49 _ _ (by kernel_rfl) (by kernel_rfl)]
  simp only [Program.fieldsOf, Tryz.underlying49]
  rw [eqF_int (d := 9998) (k := .i64) (a := a.v) (b := b.v) w (by decide) Tryz.underlying3 (by kernel_rfl) rfl rfl, eqF_int (d := 9998) (k := .i64) (a := a.c) (b := b.c) w (by decide) Tryz.underlying3 (by kernel_rfl) rfl rfl, eqF_int (d := 9998) (k := .i64) (a := a.h) (b := b.h) w (by decide) Tryz.underlying3 (by kernel_rfl) rfl rfl]
  simp only [Op.eqFields, Sem.run_pure]
  obtain ⟨v, c, h⟩ := a
  obtain ⟨v', c', h'⟩ := b
  simp only [Off.mk.injEq]
  by_cases h1 : v = v' <;> by_cases h2 : c = c' <;> by_cases h3 : h = h' <;> simp [h1, h2, h3]
theorem off_eq (a b : Off) (w : World) : (binOp .eql 49 (.agg a.cs) (.agg b.cs)).run Tryz.prog w = .ok (.bool (decide (a = b))) w := by rw [run_eql_struct, off_equal a b]; rfl
theorem eProve_is {a b : Att} {m : Msg} {r : Bool} (w : World) (ha : a.Ok) (hb : b.Ok) (h : proves a b = (m, r)) : Calls Tryz.prog 12 #[.agg (Att.c a), .agg (Att.c b)] w fun e w' => e = .returned (.tuple #[.agg (Msg.c m), .bool r]) ∧ Keeps Nob w w' := by
  have := eProve_ok a b w ha hb; rw [h] at this; exact this
theorem eOffence_is {p : Par} {m : Msg} {o : Off} {x : Int} (w : World) (hp : p.Ok) (ho : m.Ok) (h : offe p m = (o, x)) : Calls Tryz.prog 18 #[.agg p.cells, .agg (Msg.c m)] w fun e w' => e = .returned (.tuple #[.agg o.cs, .int .i64 x]) ∧ Keeps Nob w w' := by
  have := eOffence_ok p m w hp ho; rw [h] at this; exact this
theorem eSigned_nil {m : Msg} {x : Int} (w : World) (ho : m.Ok) (h : sgnd [] m = x) : Calls Tryz.prog 22 #[.slice none 0 0, .agg (Msg.c m)] w fun e w' => e = .returned (.int .i64 x) ∧ Keeps Nob w w' := by
  subst h; exact eSigned_ok none 0 [] m w ho (Sl.nil _ _ _) (fun y hy => by cases hy)
noncomputable def qc80_4 (n : Nat) : Code := partOf Tryz.f25 n
theorem leone_ok (s t : Int) (g : Nat) (w : World) :
    Calls Tryz.prog 25 #[.int .i64 s, .int .i64 t, .int .u64 ((g : Nat) : Int)] w (fun e w' => e = .returned (.agg (Att.c (one s t g))) ∧ Keeps Nob w w') := by
  have K0 : Keeps Nob w w := Keeps.refl _ _
  refine sy_enter (qc80_4 1) ⟨#[.int .i64 s, .int .i64 t, uN g, ud, ud, ud, ud, ud, ud, ud, ud], []⟩ Tryz.func25 (by kernel_rfl) (by kernel_rfl) <| sy_sq (qc80_4 2) (qc80_4 3) <| sy_reg <| rg_q 0 [0] ?_
  obtain ⟨V1, eV1, gr, egr, h2, kV1⟩ := alloc_step w (#[.int .i64 0, .int .i64 0, .int .i64 0, .int .u8 0, .int .u8 0, .int .u8 0, .int .u8 0, .int .u8 0, .int .u8 0, .int .u8 0, .int .u8 0, .int .u8 0, .int .u8 0, .int .u8 0, .int .u8 0, .int .u8 0, .int .u8 0, .int .u8 0, .int .u8 0, .int .u8 0, .int .u8 0, .int .u8 0, .int .u8 0, .int .u8 0, .int .u8 0, .int .u8 0, .int .u8 0, .int .u8 0, .int .u8 0, .int .u8 0, .int .u8 0, .int .u8 0, .int .u8 0, .int .u8 0, .int .u8 0, .int .u64 0]) 26
  have n3 : w.heap.size ≤ gr := egr ▸ K0.size
  refine prq (pT gr 0) (w' := V1) (by rw [← eV1, ← egr]; exact exec_alloc0 26 (by kernel_rfl) (.agg (#[.int .i64 0, .int .i64 0, .int .i64 0, .int .u8 0, .int .u8 0, .int .u8 0, .int .u8 0, .int .u8 0, .int .u8 0, .int .u8 0, .int .u8 0, .int .u8 0, .int .u8 0, .int .u8 0, .int .u8 0, .int .u8 0, .int .u8 0, .int .u8 0, .int .u8 0, .int .u8 0, .int .u8 0, .int .u8 0, .int .u8 0, .int .u8 0, .int .u8 0, .int .u8 0, .int .u8 0, .int .u8 0, .int .u8 0, .int .u8 0, .int .u8 0, .int .u8 0, .int .u8 0, .int .u8 0, .int .u8 0, .int .u64 0])) (by kernel_rfl)) ?_
  clear eV1
  have K4 := K0.nn kV1
  have z5 := kV1.size
  refine ps_end <| then_n <| sy_sq (qc80_4 6) (qc80_4 7) <| sy_reg <| rg_q 1 [0, 1, 2, 3, 4] <| pkq (.int .i64 s) <| pkq (.int .i64 t) <| pkq (uN g) <| pkq (.agg (Att.c (one s t g))) ?_
  obtain ⟨V6, eV6, kV6⟩ := rowset_step V1 gr ((Att.c (one s t g)))
  have h7 : V6.heap[gr]? = some (.cells (Att.c (one s t g)) 26 (0, 0)) := eV6 ▸ setRow_heap _ _ _ _ _ _ h2
  refine pzq (w' := V6) (by rw [← eV6]; exact exec_store_row 26 (.tmp 6) (.tmp 10) (by kernel_rfl) gr ((Att.c (one s t g))) (by kernel_rfl) (by kernel_rfl) 26 (#[.int .i64 0, .int .i64 0, .int .i64 0, .int .u8 0, .int .u8 0, .int .u8 0, .int .u8 0, .int .u8 0, .int .u8 0, .int .u8 0, .int .u8 0, .int .u8 0, .int .u8 0, .int .u8 0, .int .u8 0, .int .u8 0, .int .u8 0, .int .u8 0, .int .u8 0, .int .u8 0, .int .u8 0, .int .u8 0, .int .u8 0, .int .u8 0, .int .u8 0, .int .u8 0, .int .u8 0, .int .u8 0, .int .u8 0, .int .u8 0, .int .u8 0, .int .u8 0, .int .u8 0, .int .u8 0, .int .u8 0, .int .u64 0]) h2 (by kernel_rfl) (by kernel_rfl) (Att.c_one _)) ?_
  clear eV6
  have K8 := K4.no kV6 (by omega)
  have z9 := kV6.size
  refine ps_end <| then_n <| sy_ret (by kernel_rfl) <| sy_out (.agg (Att.c (one s t g))) rfl (results_cell_row (p := 6) (ty := 26) (by kernel_rfl) _ _ gr 26 (Att.c (one s t g)) (0, 0) _ (by kernel_rfl) h7 Tryz.underlying26 rfl (by rw [Att.c_size _ (one_r s t g)]; kernel_rfl)) ?_
  exact ⟨rfl, K8⟩
noncomputable def qc80_0 (n : Nat) : Code := partOf Tryz.f30 n
theorem lechapter_ok (w : World) :
    Calls Tryz.prog 30 #[] w (fun e w' => e = .returned (.agg chPar.cells) ∧ Keeps Nob w w') := by
  have K0 : Keeps Nob w w := Keeps.refl _ _
  refine sy_enter (qc80_0 1) ⟨#[ud, ud], []⟩ Tryz.func30 (by kernel_rfl) (by kernel_rfl) <| sy_sq (qc80_0 2) (qc80_0 3) <| sy_reg <| rg_q 0 [0] ?_
  obtain ⟨V1, eV1, gr, egr, h2, kV1⟩ := alloc_step w (#[.int .i64 0, .int .i64 0, .int .i64 0, .int .i64 0, .int .i64 0, .int .i64 0, .int .i64 0, .int .u64 0, .int .u64 0, .int .i64 0, .int .u64 0]) 45
  have n3 : w.heap.size ≤ gr := egr ▸ K0.size
  refine prq (pT gr 0) (w' := V1) (by rw [← eV1, ← egr]; exact exec_alloc0 45 (by kernel_rfl) (.agg (#[.int .i64 0, .int .i64 0, .int .i64 0, .int .i64 0, .int .i64 0, .int .i64 0, .int .i64 0, .int .u64 0, .int .u64 0, .int .i64 0, .int .u64 0])) (by kernel_rfl)) ?_
  clear eV1
  have K4 := K0.nn kV1
  have z5 := kV1.size
  refine ps_end <| then_n <| sy_sq (qc80_0 6) (qc80_0 7) <| sy_reg <| rg_q 1 [0, 1] <| pkq (.agg chPar.cells) ?_
  obtain ⟨V6, eV6, kV6⟩ := rowset_step V1 gr chPar.cells
  have h7 : V6.heap[gr]? = some (.cells chPar.cells 45 (0, 0)) := eV6 ▸ setRow_heap _ _ _ _ _ _ h2
  refine pzq (w' := V6) (by rw [← eV6]; exact exec_store_row 45 (.tmp 0) (.tmp 1) (by kernel_rfl) gr chPar.cells (by kernel_rfl) (by kernel_rfl) 45 (#[.int .i64 0, .int .i64 0, .int .i64 0, .int .i64 0, .int .i64 0, .int .i64 0, .int .i64 0, .int .u64 0, .int .u64 0, .int .i64 0, .int .u64 0]) h2 (by kernel_rfl) (by kernel_rfl) (by kernel_rfl)) ?_
  clear eV6
  have K8 := K4.no kV6 (by omega)
  have z9 := kV6.size
  refine ps_end <| then_n <| sy_ret (by kernel_rfl) <| sy_out (.agg chPar.cells) rfl (results_cell_row (p := 0) (ty := 45) (by kernel_rfl) _ _ gr 45 chPar.cells (0, 0) _ (by kernel_rfl) h7 Tryz.underlying45 rfl (by kernel_rfl)) ?_
  exact ⟨rfl, K8⟩
noncomputable def qc80_5 (n : Nat) : Code := partOf Tryz.f28 n
theorem leis_ok (m : Msg) (c h : Int) (w : World) (ho : m.Ok) (hoff : offe chPar m = (⟨1, c, h⟩, 0)) :
    Calls Tryz.prog 28 #[.agg (Msg.c m), .int .i64 c, .int .i64 h] w (fun e w' => e = .returned (.bool true) ∧ Keeps Nob w w') := by
  have hr := ho.R
  have K0 : Keeps Nob w w := Keeps.refl _ _
  refine sy_enter (qc80_5 1) ⟨#[.agg (Msg.c m), .int .i64 c, .int .i64 h, ud, ud, ud, ud, ud, ud, ud, ud, ud, ud, ud, ud, ud, ud, ud, ud, ud, ud, ud, ud, ud], []⟩ Tryz.func28 (by kernel_rfl) (by kernel_rfl) <| sy_sq (qc80_5 2) (qc80_5 3) <| sy_reg <| rg_q 0 [0, 1] ?_
  obtain ⟨V1, eV1, gm, egm, h2, kV1⟩ := alloc_step w ((Msg.c m)) 38
  have n3 : w.heap.size ≤ gm := egm ▸ K0.size
  refine prq (pT gm 0) (w' := V1) (by rw [← eV1, ← egm]; exact exec_box 38 (.tmp 0) (by kernel_rfl) (.agg (Msg.c m)) (by kernel_rfl)) ?_
  clear eV1
  have K4 := K0.nn kV1
  have z5 := kV1.size
  refine pkq (.bool false) <| ps_end <| then_n <| sy_sq (qc80_5 6) (qc80_5 7) ?_
  refine sy_cut (fun aQ VQ => ∃ (go : Nat), (aQ = ⟨#[.agg (Msg.c m), .int .i64 c, .int .i64 h, .pointer (some ⟨gm, 0, none⟩), ud, ud, .bool false, .pointer (some ⟨go, 0, none⟩), .int .i64 0, .tuple #[.agg (Off.cs ⟨1, c, h⟩), .int .i64 0], .agg chPar.cells, .agg (Msg.c m), .tuple #[.agg (Off.cs ⟨1, c, h⟩), .int .i64 0], .agg (Off.cs ⟨1, c, h⟩), .int .i64 0, ud, ud, ud, ud, ud, ud, ud, ud, ud], []⟩) ∧ (VQ.heap[gm]? = some (.cells (Msg.c m) 38 (0, 0))) ∧ (VQ.heap[go]? = some (.cells (Off.cs (⟨1, c, h⟩)) 49 (0, 0))) ∧ (go ≠ gm ∧ w.heap.size ≤ go ∧ V1.heap.size ≤ go) ∧ (Keeps Nob w VQ)) ?_ ?_
  · refine sy_np <| sy_reg <| an_begin 1 9 (opsAt (qc80_5 6)) (fun W => (W.heap[gm]? = some (.cells (Msg.c m) 38 (0, 0)))) #[false, false, false, false, false, false, false, false, false] (by kernel_rfl) (by kernel_rfl) (by kernel_rfl) (by kernel_rfl) ?_
    obtain ⟨V6, eV6, kV6⟩ := drew_step V1
    rw [eV6]
    clear eV6
    have h7 := kV6.bk h2
    have K8 := K4.nn kV6
    have z9 := kV6.size
    refine avq 1 (.agg (Msg.c m)) (fun W hS => exec_load_row 38 (.tmp 3) (by kernel_rfl) gm (by kernel_rfl) _ _ (0, 0) _ (hS) Tryz.underlying38 rfl (by rw [Msg.c_size hr]; kernel_rfl)) h7 ?_
    refine an_two 0 6 (by kernel_rfl) ?_ ?_
    · refine ncq 30 #[] Tryz.func30 ((lechapter_ok _).mono ?_)
      rintro e V10 ⟨rfl, kV10⟩
      refine ⟨_, rfl, ?_⟩
      have h11 := kV10.bk h7
      have K12 := K8.nn kV10
      have z13 := kV10.size
      refine ⟨h11, ?_⟩
      refine an_two 2 6 (by kernel_rfl) ?_ ?_
      · refine ncq 18 #[.agg chPar.cells, .agg (Msg.c m)] Tryz.func18 ((eOffence_is _ chPar_ok ho hoff).mono ?_)
        rintro e V14 ⟨rfl, kV14⟩
        refine ⟨_, rfl, ?_⟩
        have h15 := kV14.bk h11
        have K16 := K12.nn kV14
        have z17 := kV14.size
        refine ⟨h15, ?_⟩
        refine akq 3 (.tuple #[.agg (Off.cs ⟨1, c, h⟩), .int .i64 0]) h15 <| akq 4 (.agg (Off.cs ⟨1, c, h⟩)) h15 <| akq 5 (.int .i64 0) h15 <| an_o 6 ?_
        obtain ⟨V18, eV18, go, ego, h19, kV18⟩ := alloc_step V14 (#[.int .i64 0, .int .i64 0, .int .i64 0]) 49
        have n20 : gm < go := ego ▸ lt_of_block h15
        have n21 : w.heap.size ≤ go := ego ▸ K16.size
        refine nrq (pT go 0) (w' := V18) (by rw [← eV18, ← ego]; exact exec_alloc0 49 (by kernel_rfl) (.agg (#[.int .i64 0, .int .i64 0, .int .i64 0])) (by kernel_rfl)) ?_
        clear eV18
        have h22 := kV18.bk h15
        have K23 := K16.nn kV18
        have z24 := kV18.size
        refine ⟨h22, ?_⟩
        refine an_o 7 ?_
        obtain ⟨V25, eV25, kV25⟩ := rowset_step V18 go ((Off.cs ⟨1, c, h⟩))
        have h26 : V25.heap[go]? = some (.cells (Off.cs (⟨1, c, h⟩)) 49 (0, 0)) := eV25 ▸ setRow_heap _ _ _ _ _ _ h19
        refine nzq (w' := V25) (by rw [← eV25]; exact exec_store_row 49 (.tmp 7) (.tmp 13) (by kernel_rfl) go ((Off.cs ⟨1, c, h⟩)) (by kernel_rfl) (by kernel_rfl) 49 (#[.int .i64 0, .int .i64 0, .int .i64 0]) h19 (by kernel_rfl) rfl (by kernel_rfl)) ?_
        clear eV25
        have h27 := kV25.bo h22 (by omega)
        have K28 := K23.no kV25 (by omega)
        have z29 := kV25.size
        refine ⟨h27, ?_⟩
        refine an_o 8 <| nrq (.int .i64 0) (w' := V25) (by kernel_rfl) ?_
        refine ⟨h27, ?_⟩
        refine an_end (by kernel_rfl) ?_
        exact ⟨rfl, go, by kernel_rfl, h27, h26, by omega, K28⟩
      · obtain ⟨V30, eV30, go, ego, h31, kV30⟩ := alloc_step V10 (#[.int .i64 0, .int .i64 0, .int .i64 0]) 49
        have n32 : gm < go := ego ▸ lt_of_block h11
        have n33 : w.heap.size ≤ go := ego ▸ K12.size
        refine nrq (pT go 0) (w' := V30) (by rw [← eV30, ← ego]; exact exec_alloc0 49 (by kernel_rfl) (.agg (#[.int .i64 0, .int .i64 0, .int .i64 0])) (by kernel_rfl)) ?_
        clear eV30
        have h34 := kV30.bk h11
        have K35 := K12.nn kV30
        have z36 := kV30.size
        refine ⟨h34, ?_⟩
        refine an_o 2 ?_
        refine ncq 18 #[.agg chPar.cells, .agg (Msg.c m)] Tryz.func18 ((eOffence_is _ chPar_ok ho hoff).mono ?_)
        rintro e V37 ⟨rfl, kV37⟩
        refine ⟨_, rfl, ?_⟩
        have h38 := kV37.bk h34
        have h39 := kV37.bk h31
        have K40 := K35.nn kV37
        have z41 := kV37.size
        refine ⟨h38, ?_⟩
        refine akq 3 (.tuple #[.agg (Off.cs ⟨1, c, h⟩), .int .i64 0]) h38 <| akq 4 (.agg (Off.cs ⟨1, c, h⟩)) h38 <| akq 5 (.int .i64 0) h38 <| an_o 7 ?_
        obtain ⟨V42, eV42, kV42⟩ := rowset_step V37 go ((Off.cs ⟨1, c, h⟩))
        have h43 : V42.heap[go]? = some (.cells (Off.cs (⟨1, c, h⟩)) 49 (0, 0)) := eV42 ▸ setRow_heap _ _ _ _ _ _ h39
        refine nzq (w' := V42) (by rw [← eV42]; exact exec_store_row 49 (.tmp 7) (.tmp 13) (by kernel_rfl) go ((Off.cs ⟨1, c, h⟩)) (by kernel_rfl) (by kernel_rfl) 49 (#[.int .i64 0, .int .i64 0, .int .i64 0]) h39 (by kernel_rfl) rfl (by kernel_rfl)) ?_
        clear eV42
        have h44 := kV42.bo h38 (by omega)
        have K45 := K40.no kV42 (by omega)
        have z46 := kV42.size
        refine ⟨h44, ?_⟩
        refine an_o 8 <| nrq (.int .i64 0) (w' := V42) (by kernel_rfl) ?_
        refine ⟨h44, ?_⟩
        refine an_end (by kernel_rfl) ?_
        exact ⟨rfl, go, by kernel_rfl, h44, h43, by omega, K45⟩
    · obtain ⟨V47, eV47, go, ego, h48, kV47⟩ := alloc_step V6 (#[.int .i64 0, .int .i64 0, .int .i64 0]) 49
      have n49 : gm < go := ego ▸ lt_of_block h7
      have n50 : w.heap.size ≤ go := ego ▸ K8.size
      refine nrq (pT go 0) (w' := V47) (by rw [← eV47, ← ego]; exact exec_alloc0 49 (by kernel_rfl) (.agg (#[.int .i64 0, .int .i64 0, .int .i64 0])) (by kernel_rfl)) ?_
      clear eV47
      have h51 := kV47.bk h7
      have K52 := K8.nn kV47
      have z53 := kV47.size
      refine ⟨h51, ?_⟩
      refine an_o 0 ?_
      refine ncq 30 #[] Tryz.func30 ((lechapter_ok _).mono ?_)
      rintro e V54 ⟨rfl, kV54⟩
      refine ⟨_, rfl, ?_⟩
      have h55 := kV54.bk h51
      have h56 := kV54.bk h48
      have K57 := K52.nn kV54
      have z58 := kV54.size
      refine ⟨h55, ?_⟩
      refine an_o 2 ?_
      refine ncq 18 #[.agg chPar.cells, .agg (Msg.c m)] Tryz.func18 ((eOffence_is _ chPar_ok ho hoff).mono ?_)
      rintro e V59 ⟨rfl, kV59⟩
      refine ⟨_, rfl, ?_⟩
      have h60 := kV59.bk h55
      have h61 := kV59.bk h56
      have K62 := K57.nn kV59
      have z63 := kV59.size
      refine ⟨h60, ?_⟩
      refine akq 3 (.tuple #[.agg (Off.cs ⟨1, c, h⟩), .int .i64 0]) h60 <| akq 4 (.agg (Off.cs ⟨1, c, h⟩)) h60 <| akq 5 (.int .i64 0) h60 <| an_o 7 ?_
      obtain ⟨V64, eV64, kV64⟩ := rowset_step V59 go ((Off.cs ⟨1, c, h⟩))
      have h65 : V64.heap[go]? = some (.cells (Off.cs (⟨1, c, h⟩)) 49 (0, 0)) := eV64 ▸ setRow_heap _ _ _ _ _ _ h61
      refine nzq (w' := V64) (by rw [← eV64]; exact exec_store_row 49 (.tmp 7) (.tmp 13) (by kernel_rfl) go ((Off.cs ⟨1, c, h⟩)) (by kernel_rfl) (by kernel_rfl) 49 (#[.int .i64 0, .int .i64 0, .int .i64 0]) h61 (by kernel_rfl) rfl (by kernel_rfl)) ?_
      clear eV64
      have h66 := kV64.bo h60 (by omega)
      have K67 := K62.no kV64 (by omega)
      have z68 := kV64.size
      refine ⟨h66, ?_⟩
      refine an_o 8 <| nrq (.int .i64 0) (w' := V64) (by kernel_rfl) ?_
      refine ⟨h66, ?_⟩
      refine an_end (by kernel_rfl) ?_
      exact ⟨rfl, go, by kernel_rfl, h66, h65, by omega, K67⟩
  rintro aQ V69 ⟨go, rfl, h70, h71, hd72, K73⟩
  have z74 := lt_of_block h71
  refine then_n <| sy_sq (qc80_5 14) (qc80_5 15) <| sy_reg <| rg_q 2 [0, 1, 2, 3, 4, 5, 6, 7, 8, 9] <| pkq (.int .i64 0) <| pkq (.bool true) <| pkq (.bool true) <| ppq (.agg (Off.cs (⟨1, c, h⟩))) (exec_load_row 49 (.tmp 7) (by kernel_rfl) go (by kernel_rfl) _ _ (0, 0) _ (h71) Tryz.underlying49 rfl (by kernel_rfl)) <| pkq (.int .i64 c) <| pkq (.int .i64 h) <| pkq (.agg (Off.cs ⟨1, c, h⟩)) <| ppq (.bool true) (exec_cast (congrArg Value.bool (by simp)) (exec_binop .eql 49 49 (.tmp 18) (.tmp 21) (by kernel_rfl) (.agg (Off.cs ⟨1, c, h⟩)) (.agg (Off.cs ⟨1, c, h⟩)) _ (by kernel_rfl) (by kernel_rfl) (run_eqGuard_agg _ _ _ _ _ _ _ off_guard) (off_eq _ _ _))) <| pkq (.bool true) <| pkq (.bool true) ?_
  refine ps_end <| then_n <| sy_ret (by kernel_rfl) <| sy_out (.bool true) rfl (by kernel_rfl) ?_
  exact ⟨rfl, K73⟩
noncomputable def qc80_2 (n : Nat) : Code := partOf Tryz.f16 n
theorem leawake_ok (w : World) :
    Calls Tryz.prog 16 #[] w (fun e w' => e = .returned (.bool true) ∧ Keeps Nob w w') := by
  have K0 : Keeps Nob w w := Keeps.refl _ _
  refine sy_enter (qc80_2 1) ⟨#[ud, ud, ud, ud, ud, ud, ud, ud, ud, ud, ud, ud, ud, ud, ud, ud, ud, ud, ud, ud, ud, ud, ud, ud, ud, ud, ud, ud, ud, ud, ud, ud, ud, ud, ud, ud, ud, ud, ud, ud], []⟩ Tryz.func16 (by kernel_rfl) (by kernel_rfl) <| sy_sq (qc80_2 2) (qc80_2 3) <| sy_reg <| rg_q 0 [0] <| pkq (.bool false) <| ps_end <| then_n <| sy_sq (qc80_2 6) (qc80_2 7) <| sy_reg <| rg_q 1 [0, 1, 2, 3, 4, 5, 6, 7, 8] ?_
  refine pcq 25 #[.int .i64 2, .int .i64 3, .int .u64 5] Tryz.func25 ((leone_ok 2 3 5 _).mono ?_)
  rintro e V1 ⟨rfl, kV1⟩
  refine ⟨_, rfl, ?_⟩
  have K2 := K0.nn kV1
  have z3 := kV1.size
  refine pcq 25 #[.int .i64 1, .int .i64 3, .int .u64 6] Tryz.func25 ((leone_ok 1 3 6 _).mono ?_)
  rintro e V4 ⟨rfl, kV4⟩
  refine ⟨_, rfl, ?_⟩
  have K5 := K2.nn kV4
  have z6 := kV4.size
  refine pcq 12 #[.agg (Att.c (one 2 3 5)), .agg (Att.c (one 1 3 6))] Tryz.func12 ((eProve_is _ a_Ok b_Ok proves_ab).mono ?_)
  rintro e V7 ⟨rfl, kV7⟩
  refine ⟨_, rfl, ?_⟩
  have K8 := K5.nn kV7
  have z9 := kV7.size
  refine pkq (.tuple #[.agg (Msg.c exD), .bool true]) <| pkq (.agg (Msg.c exD)) <| pkq (.bool true) ?_
  obtain ⟨V10, eV10, gd, egd, h11, kV10⟩ := alloc_step V7 ((Msg.c msgZ)) 38
  have n12 : w.heap.size ≤ gd := egd ▸ K8.size
  refine prq (pT gd 0) (w' := V10) (by rw [← eV10, ← egd]; exact exec_alloc0 38 (by kernel_rfl) (.agg ((Msg.c msgZ))) (by kernel_rfl)) ?_
  clear eV10
  have K13 := K8.nn kV10
  have z14 := kV10.size
  obtain ⟨V15, eV15, kV15⟩ := rowset_step V10 gd ((Msg.c exD))
  have h16 : V15.heap[gd]? = some (.cells (Msg.c exD) 38 (0, 0)) := eV15 ▸ setRow_heap _ _ _ _ _ _ h11
  refine pzq (w' := V15) (by rw [← eV15]; exact exec_store_row 38 (.tmp 1) (.tmp 9) (by kernel_rfl) gd ((Msg.c exD)) (by kernel_rfl) (by kernel_rfl) 38 ((Msg.c msgZ)) h11 (by kernel_rfl) (by kernel_rfl) (Msg.c_one _)) ?_
  clear eV15
  have K17 := K13.no kV15 (by omega)
  have z18 := kV15.size
  refine pkq (.bool true) <| ps_end <| then_n <| sy_sq (qc80_2 14) (qc80_2 15) <| sy_reg <| rg_q 2 [0, 1, 2, 3, 4, 5, 6, 7, 8] ?_
  refine pcq 25 #[.int .i64 2, .int .i64 3, .int .u64 5] Tryz.func25 ((leone_ok 2 3 5 _).mono ?_)
  rintro e V19 ⟨rfl, kV19⟩
  refine ⟨_, rfl, ?_⟩
  have h20 := kV19.bk h16
  have K21 := K17.nn kV19
  have z22 := kV19.size
  refine pcq 25 #[.int .i64 1, .int .i64 4, .int .u64 7] Tryz.func25 ((leone_ok 1 4 7 _).mono ?_)
  rintro e V23 ⟨rfl, kV23⟩
  refine ⟨_, rfl, ?_⟩
  have h24 := kV23.bk h20
  have K25 := K21.nn kV23
  have z26 := kV23.size
  refine pcq 12 #[.agg (Att.c (one 2 3 5)), .agg (Att.c (one 1 4 7))] Tryz.func12 ((eProve_is _ a_Ok w_Ok proves_aw).mono ?_)
  rintro e V27 ⟨rfl, kV27⟩
  refine ⟨_, rfl, ?_⟩
  have h28 := kV27.bk h24
  have K29 := K25.nn kV27
  have z30 := kV27.size
  refine pkq (.tuple #[.agg (Msg.c exW), .bool true]) <| pkq (.agg (Msg.c exW)) <| pkq (.bool true) ?_
  obtain ⟨V31, eV31, gw, egw, h32, kV31⟩ := alloc_step V27 ((Msg.c msgZ)) 38
  have n33 : gd < gw := egw ▸ lt_of_block h28
  have n34 : w.heap.size ≤ gw := egw ▸ K29.size
  refine prq (pT gw 0) (w' := V31) (by rw [← eV31, ← egw]; exact exec_alloc0 38 (by kernel_rfl) (.agg ((Msg.c msgZ))) (by kernel_rfl)) ?_
  clear eV31
  have h35 := kV31.bk h28
  have K36 := K29.nn kV31
  have z37 := kV31.size
  obtain ⟨V38, eV38, kV38⟩ := rowset_step V31 gw ((Msg.c exW))
  have h39 : V38.heap[gw]? = some (.cells (Msg.c exW) 38 (0, 0)) := eV38 ▸ setRow_heap _ _ _ _ _ _ h32
  refine pzq (w' := V38) (by rw [← eV38]; exact exec_store_row 38 (.tmp 3) (.tmp 15) (by kernel_rfl) gw ((Msg.c exW)) (by kernel_rfl) (by kernel_rfl) 38 ((Msg.c msgZ)) h32 (by kernel_rfl) (by kernel_rfl) (Msg.c_one _)) ?_
  clear eV38
  have h40 := kV38.bo h35 (by omega)
  have K41 := K36.no kV38 (by omega)
  have z42 := kV38.size
  refine pkq (.bool true) <| ps_end <| then_n <| sy_sq (qc80_2 30) (qc80_2 31) <| sy_np <| sy_reg <| an_begin 3 24 (opsAt (qc80_2 30)) (fun W => (W.heap[gd]? = some (.cells (Msg.c exD) 38 (0, 0))) ∧ (W.heap[gw]? = some (.cells (Msg.c exW) 38 (0, 0)))) #[false, false, false, false, false, false, false, false, false, false, false, false, false, false, false, false, false, false, false, false, false, false, false, false] (by kernel_rfl) (by kernel_rfl) (by kernel_rfl) (by kernel_rfl) ?_
  obtain ⟨V43, eV43, kV43⟩ := drew_step V38
  rw [eV43]
  clear eV43
  have h44 := kV43.bk h40
  have h45 := kV43.bk h39
  have K46 := K41.nn kV43
  have z47 := kV43.size
  refine akq 0 (.bool true) ⟨h44, h45⟩ <| akq 1 (.bool true) ⟨h44, h45⟩ <| akq 2 (.bool true) ⟨h44, h45⟩ <| akq 3 (.bool true) ⟨h44, h45⟩ <| akq 4 (.bool true) ⟨h44, h45⟩ <| akq 5 (pT gw 12) ⟨h44, h45⟩ <| avq 6 (.agg (Att.c (one 1 4 7))) (fun W hS => exec_load_seg 26 (.tmp 22) (by kernel_rfl) gw 12 (by kernel_rfl) (Att.c exW.a).toList _ _ _ hS.2 (Msg.seg_A exW_Ok.R) Tryz.underlying26 rfl (by kernel_rfl)) ⟨h44, h45⟩ <| an_o 7 ?_
  refine ncq 25 #[.int .i64 1, .int .i64 4, .int .u64 7] Tryz.func25 ((leone_ok 1 4 7 _).mono ?_)
  rintro e V48 ⟨rfl, kV48⟩
  refine ⟨_, rfl, ?_⟩
  have h49 := kV48.bk h44
  have h50 := kV48.bk h45
  have K51 := K46.nn kV48
  have z52 := kV48.size
  refine ⟨⟨h49, h50⟩, ?_⟩
  refine avq 8 (.bool true) (fun W hS => exec_cast (congrArg Value.bool (by simp)) (exec_binop .eql 26 26 (.tmp 23) (.tmp 24) (by kernel_rfl) (.agg (Att.c (one 1 4 7))) (.agg (Att.c (one 1 4 7))) _ (by kernel_rfl) (by kernel_rfl) (run_eqGuard_agg _ _ _ _ _ _ _ att_guard) (att_eq (one 1 4 7) (one 1 4 7) rfl rfl _))) ⟨h49, h50⟩ <| akq 9 (.bool true) ⟨h49, h50⟩ <| akq 10 (.bool true) ⟨h49, h50⟩ <| avq 11 (.agg (Msg.c exD)) (fun W hS => exec_load_row 38 (.tmp 1) (by kernel_rfl) gd (by kernel_rfl) _ _ (0, 0) _ (hS.1) Tryz.underlying38 rfl (by rw [Msg.c_size exD_Ok.R]; kernel_rfl)) ⟨h49, h50⟩ <| an_o 12 ?_
  refine ncq 28 #[.agg (Msg.c exD), .int .i64 1, .int .i64 31] Tryz.func28 ((leis_ok exD 1 31 _ exD_Ok exD_off).mono ?_)
  rintro e V53 ⟨rfl, kV53⟩
  refine ⟨_, rfl, ?_⟩
  have h54 := kV53.bk h49
  have h55 := kV53.bk h50
  have K56 := K51.nn kV53
  have z57 := kV53.size
  refine ⟨⟨h54, h55⟩, ?_⟩
  refine akq 13 (.bool true) ⟨h54, h55⟩ <| akq 14 (.bool true) ⟨h54, h55⟩ <| avq 15 (.agg (Msg.c exW)) (fun W hS => exec_load_row 38 (.tmp 3) (by kernel_rfl) gw (by kernel_rfl) _ _ (0, 0) _ (hS.2) Tryz.underlying38 rfl (by rw [Msg.c_size exW_Ok.R]; kernel_rfl)) ⟨h54, h55⟩ <| an_o 16 ?_
  refine ncq 28 #[.agg (Msg.c exW), .int .i64 1, .int .i64 41] Tryz.func28 ((leis_ok exW 1 41 _ exW_Ok exW_off).mono ?_)
  rintro e V58 ⟨rfl, kV58⟩
  refine ⟨_, rfl, ?_⟩
  have h59 := kV58.bk h54
  have h60 := kV58.bk h55
  have K61 := K56.nn kV58
  have z62 := kV58.size
  refine ⟨⟨h59, h60⟩, ?_⟩
  refine akq 17 (.bool true) ⟨h59, h60⟩ <| akq 18 (.bool true) ⟨h59, h60⟩ <| avq 19 (.agg (Msg.c exD)) (fun W hS => exec_load_row 38 (.tmp 1) (by kernel_rfl) gd (by kernel_rfl) _ _ (0, 0) _ (hS.1) Tryz.underlying38 rfl (by rw [Msg.c_size exD_Ok.R]; kernel_rfl)) ⟨h59, h60⟩ <| an_o 20 ?_
  refine ncq 22 #[.slice none 0 0, .agg (Msg.c exD)] Tryz.func22 ((eSigned_nil _ exD_Ok exD_sg).mono ?_)
  rintro e V63 ⟨rfl, kV63⟩
  refine ⟨_, rfl, ?_⟩
  have h64 := kV63.bk h59
  have h65 := kV63.bk h60
  have K66 := K61.nn kV63
  have z67 := kV63.size
  refine ⟨⟨h64, h65⟩, ?_⟩
  refine akq 21 (.bool true) ⟨h64, h65⟩ <| akq 22 (.bool true) ⟨h64, h65⟩ <| an_o 23 <| nrq (.bool true) (w' := V63) (by kernel_rfl) ?_
  refine ⟨⟨h64, h65⟩, ?_⟩
  refine an_end (by kernel_rfl) <| sy_a ⟨#[.bool true, pT gd 0, .bool true, pT gw 0, .bool true, .tuple #[.agg (Msg.c exD), .bool true], .agg (Att.c (one 2 3 5)), .agg (Att.c (one 1 3 6)), .tuple #[.agg (Msg.c exD), .bool true], .agg (Msg.c exD), .bool true, .tuple #[.agg (Msg.c exW), .bool true], .agg (Att.c (one 2 3 5)), .agg (Att.c (one 1 4 7)), .tuple #[.agg (Msg.c exW), .bool true], .agg (Msg.c exW), .bool true, .bool true, .bool true, .bool true, .bool true, .bool true, pT gw 12, .agg (Att.c (one 1 4 7)), .agg (Att.c (one 1 4 7)), .bool true, .bool true, .bool true, .agg (Msg.c exD), .bool true, .bool true, .bool true, .agg (Msg.c exW), .bool true, .bool true, .bool true, .agg (Msg.c exD), .int .i64 15, .bool true, .bool true], []⟩ <| then_n <| sy_ret (by kernel_rfl) <| sy_out (.bool true) rfl (by kernel_rfl) ?_
  exact ⟨rfl, K66⟩
end Go.Proofs.YtcbfnflnokoacaaGreat
namespace Go.Proofs.YtcbfnflnokoacaaGreat
set_option maxRecDepth 100000
set_option maxHeartbeats 4000000
open Go Go.RowKit Go.Own Go.Shelf
def Att.cl (a : Att) : List Value := a.c.toList
def Pro.cl (a : Pro) : List Value := a.c.toList
theorem Att.cl_len {a : Att} (h : a.Ok) : a.cl.length = 36 := by have := Att.c_size a h.r; simpa [Att.cl] using this
theorem Pro.cl_len {a : Pro} (h : a.Ok) : a.cl.length = 35 := by have := Pro.c_size a h.r; simpa [Pro.cl] using this
end Go.Proofs.YtcbfnflnokoacaaGreat
namespace Go.Kec
set_option maxRecDepth 100000
set_option maxHeartbeats 4000000
end Go.Kec
namespace Go.Proofs.YtcbfnflnokoacaaGreat
set_option maxRecDepth 100000
set_option maxHeartbeats 4000000
open Go Go.RowKit Go.Own Go.Shelf
theorem fill_pf (pf : Int) (a b : Att) (ha : a.r.length = 32) (hb : b.r.length = 32) : Instr.fill ((#[(0, 1), (1, 1), (2, 1), (3, 1), (4, 1), (5, 1), (6, 4), (10, 1), (11, 1), (12, 36), (48, 36), (84, 35), (119, 35)] : Array (Nat × Nat))[·]?) msgZ.c [(0, .int .i64 8), (8, .int .i64 pf), (9, .agg (Att.c a)), (10, .agg (Att.c b))] = some (Msg.c (evMs pf a b)) := by
  refine fill_seg (ds := Msg.c (onlyK 8)) rfl rfl (by decide) (by kernel_rfl) ?_
  have h1 := NF.R (onlyK_R 8) (x := .pf) (v := pf)
  refine fill_seg (ds := Msg.c (NF.set (onlyK 8) pf .pf)) rfl rfl (by rw [Msg.c_size (onlyK_R 8)]; decide) (by kernel_rfl) <| fill_seg (ds := Msg.c (putA (NF.set (onlyK 8) pf .pf) a)) rfl (Att.c_size a ha) (by rw [Msg.c_size h1]; decide) (Msg.set_A h1 a ha) ?_
  exact fill_seg (ds := Msg.c (putB (putA (NF.set (onlyK 8) pf .pf) a) b)) rfl (Att.c_size b hb) (by rw [Msg.c_size (putA_R h1 ha)]; decide) (Msg.set_B (putA_R h1 ha) b hb) rfl
theorem i64b_2 : i64b 2 := by decide
end Go.Proofs.YtcbfnflnokoacaaGreat
namespace Go.Proofs.YtcbfnflnokoacaaGreat
set_option maxRecDepth 100000
set_option maxHeartbeats 4000000
open Go Go.RowKit Go.Own Go.Shelf
def In (ns : List Int) : List Value := ns.map fun x => .int .i64 x
theorem In_get {ns : List Int} {i : Nat} {x : Int} (h : ns[i]? = some x) : (In ns).toArray[i]? = some (.int .i64 x) := by simp [In, h]
def nT (ns : List Int) : List Thg := ns.map .n
theorem nT_get {ns : List Int} {i : Nat} {x : Int} (h : ns[i]? = some x) : (nT ns)[i]? = some (.n x) := by simp [nT, h]
theorem wrapNat {x : Int} (h0 : 0 ≤ x) (h1 : x ≤ 9223372036854775807) : IntKind.u64.wrap x = ((x.toNat : Nat) : Int) := by
  have e : x = ((x.toNat : Nat) : Int) := (Int.toNat_of_nonneg h0).symm
  have := wrapU x.toNat (by omega)
  rwa [← e] at this ⊢
theorem att_bare (a : Att) : allb (nT [1, a.v, a.s, a.t]) ++ a.r = a.bare := by simp [Att.bare, attT, nT, allb, Thg.by]
theorem pro_bare (a : Pro) : allb (nT [2, a.v, a.h]) ++ a.r = a.bare := by simp [Pro.bare, proT, nT, allb, Thg.by]
theorem Att.split (a : Att) : a.bytes = a.bare ++ Cod.enc a.g := by simp [Att.bytes, Att.bare, allb, Thg.by]
theorem Pro.split (a : Pro) : a.bytes = a.bare ++ Cod.enc a.g := by simp [Pro.bytes, Pro.bare, allb, Thg.by]
theorem byt_nT (ns : List Int) : byt (nT ns) ns.length = allb (nT ns) := by rw [← byt_all, nT, List.length_map]
theorem nT_len (ns : List Int) (i : Nat) : (byt (nT ns) i).length ≤ (allb (nT ns)).length := byt_le _ _
noncomputable def qc84_1 (n : Nat) : Code := partOf Tryz.f104 n
noncomputable abbrev qo84_1 (n k : Nat) : Oper := (opsAt (qc84_1 n)).getD k default
theorem rnumbers_ok (r : List UInt8) (g : Nat) (ns : List Int) (w : World) (h0 : w.heap[g]? = some (.cells (In ns).toArray 3 (0, 0))) (hr : r.length = 32) (hns : ∀ (k : Nat) (x : Int), ns[k]? = some x → 0 ≤ x ∧ x ≤ 9223372036854775807) (hl : (allb (nT ns)).length ≤ 1000) (hmax : ns.length ≤ 1000) :
    Calls Tryz.prog 104 #[.agg (B r).toArray, .slice (some ⟨g, 0, none⟩) ns.length ns.length] w (fun e w' => ∃ X, e = .returned X ∧ Row w' 5 1 X (allb (nT ns) ++ r).length (B (allb (nT ns) ++ r)) ∧ NewFrom w.heap.size X ∧ Keeps Nob w w') := by
  obtain ⟨i0, hi0, hz0, hz1, hz2⟩ := info_parts u8_info0
  have r0 : Row w 5 1 (.slice none 0 0) (byt (nT ns) 0).length (B (byt (nT ns) 0)) := World.ownsRow_nil _ _ _ _
  have K0 : Keeps Nob w w := Keeps.refl _ _
  refine sy_enter (qc84_1 1) ⟨#[.agg (B r).toArray, .slice (some ⟨g, 0, none⟩) ns.length ns.length, ud, ud, ud, ud, ud, ud, ud, ud, ud, ud, ud, ud, ud, ud, ud, ud, ud, ud, ud, ud, ud, ud], []⟩ Tryz.func104 (by kernel_rfl) (by kernel_rfl) <| sy_sq (qc84_1 2) (qc84_1 3) <| sy_reg <| rg_q 0 [0, 1] ?_
  obtain ⟨V1, eV1, gh, egh, h2, kV1⟩ := alloc_step w ((B r).toArray) 23
  have n3 : w.heap.size ≤ gh := egh ▸ K0.size
  refine prq (pT gh 0) (w' := V1) (by rw [← eV1, ← egh]; exact exec_box 23 (.tmp 0) (by kernel_rfl) (.agg (B r).toArray) (by kernel_rfl)) ?_
  clear eV1
  have h4 : Row V1 5 1 (.slice none 0 0) ((byt (nT ns) 0).length) (B (byt (nT ns) 0)) := r0.keeps kV1 (fun _ _ x => x)
  have K5 := K0.nn kV1
  have z6 := kV1.size
  refine pkq (.slice none 0 0) <| ps_end <| then_n <| sy_sq (qc84_1 6) (qc84_1 7) <| sy_reg <| rg_q 1 [0] <| pkq (.slice none 0 0) <| ps_end <| then_n <| sy_sq (qc84_1 14) (qc84_1 15) <| sy_sq (qc84_1 28) (qc84_1 29) <| sy_reg <| rg_q 2 [0] <| pkq (.int .i64 0) ?_
  refine ps_end <| then_n <| sy_bk 0 (qc84_1 58) ?_
  refine sy_loop (qc84_1 116) (fun a V => ∃ (i : Nat) (v : Value) (u7 u8 u9 u10 u11 u12 u13 u14 u15 u16 u17 u18 u19 u20 : Value), (a = ⟨#[.agg (B r).toArray, .slice (some ⟨g, 0, none⟩) ns.length ns.length, pT gh 0, ud, .slice none 0 0, v, iN i, u7, u8, u9, u10, u11, u12, u13, u14, u15, u16, u17, u18, u19, u20, ud, ud, ud], []⟩) ∧ (i ≤ ns.length) ∧ (Row V 5 1 v ((byt (nT ns) i).length) (B (byt (nT ns) i))) ∧ (V.heap[gh]? = some (.cells ((B r).toArray) 23 (0, 0))) ∧ (Keeps Nob w V) ∧ (NewFrom (gh + 1) v)) (fun a _ => ns.length - (intOf (a.tmps.getD 6 undef)).toNat) (by kernel_rfl) ?_ ?_
  · exact ⟨0, .slice none 0 0, undef, undef, undef, undef, undef, undef, undef, undef, undef, undef, undef, undef, undef, undef, by kernel_rfl, by omega, h4, h2, K5, NewFrom.nil _⟩
  · rintro a V7 ⟨i, v, u7, u8, u9, u10, u11, u12, u13, u14, u15, u16, u17, u18, u19, u20, rfl, hi, h8, h9, K10, hnw⟩
    by_cases lt_i : i < ns.length
    · obtain ⟨x, hx⟩ : ∃ x, ns[i]? = some x := ⟨_, List.getElem?_eq_getElem lt_i⟩
      have hx0 := hns i x hx
      have hbl := nT_len ns i
      have hen := Cod.enc_length x.toNat
      refine sy_sq (qc84_1 232) (qc84_1 233) <| sy_sq (qc84_1 464) (qc84_1 465) <| sy_reg <| rg_q 3 [0, 1, 2, 3] <| pkq (iN i) <| pkq (.slice (some ⟨g, 0, none⟩) ns.length ns.length) <| ppq (iN ns.length) (exec_len (.tmp 8) 121 _ (by kernel_rfl) Tryz.underlying121 (some ⟨g, 0, none⟩) ns.length ns.length (by kernel_rfl)) <| ppq (.bool true) (dct ((((i : Nat) : Int)) < (((ns.length : Nat) : Int))) (by omega)) <| ps_end <| then_n <| sy_ys (.tmp 10) (qc84_1 930) (qc84_1 931) <| sy_sk <| then_n <| sy_sq (qc84_1 466) (qc84_1 467) ?_
      refine sy_bk 1 (qc84_1 932) <| sy_reg <| rg_q 5 [0, 1, 2, 3, 4, 5, 6, 7, 8] <| pkq (v) <| pkq (.slice (some ⟨g, 0, none⟩) ns.length ns.length) <| pkq (iN i) <| ppq (pT g i) (exec_cast (v := pT g (0 + i * 1)) (by simp) (exec_indexAt_slice 121 (.tmp 14) (.tmp 15) (by kernel_rfl) g 0 ns.length ns.length (by kernel_rfl) .i64 i (by kernel_rfl) _ 1 Tryz.underlying121 (by kernel_rfl) (by omega))) <| ppq (.int .i64 x) (exec_ld 3 (.tmp 16) g i Tryz.underlying3 ((cell_of_row _ _ _ _ _ _ ((K10.block g (lt_of_block h0) (fun x => x)).trans h0)).trans (In_get hx))) <| ppq (uN x.toNat) (exec_cast (congrArg (Value.int .u64) (wrapNat hx0.1 hx0.2)) (by kernel_rfl)) ?_
      refine pcq 138 #[uN x.toNat] Tryz.func138 ((rPut_ok x.toNat (by omega) _).mono ?_)
      rintro e V11 ⟨v8, rfl, hV11, hn8, hz8, kV11⟩
      refine ⟨_, rfl, ?_⟩
      have h12 : Row V11 5 1 v ((byt (nT ns) i).length) (B (byt (nT ns) i)) := h8.keeps kV11 (fun _ _ x => x)
      have h13 := kV11.bk h9
      have K14 := K10.nn kV11
      have z15 := kV11.size
      obtain ⟨v16, V17, hr18, h19, hg20, hn21, ha22⟩ := run_append_any (P := Tryz.prog) (w := V11) 114 (Oper.type (qo84_1 932 7)) 5 i0 (.int .u8 0) 1 1 Tryz.underlying114 hi0 hz0 hz1 hz2 rfl (by decide) v ((byt (nT ns) i).length) (B (byt (nT ns) i)) h12 v8 ((Cod.enc x.toNat).length) (B (Cod.enc x.toNat)) (Row.src hV11 (B_one _)) (by unfold maxLen; omega) (by omega)
      have kV17 : Keeps (fun j => v.ownBlock = some j) V11 V17 := Keeps.rowAdd hg20
      have hw23 : NewFrom (gh + 1) v16 := hnw.next (lt_of_block h13) ha22
      refine prq v16 (w' := V17) (exec_append (.tmp 13) (.tmp 19) 114 (by kernel_rfl) v v8 (by kernel_rfl) (by kernel_rfl) hr18) ?_
      have h24 : Row V17 5 1 v16 ((byt (nT ns) (i + 1)).length) (B (byt (nT ns) (i + 1))) := row_cast h19 (byt_succ (nT_get hx)).symm (by rw [byt_succ (nT_get hx), List.length_append]; rfl)
      have h25 : V17.heap[gh]? = some (.cells ((B r).toArray) 23 (0, 0)) := (kV17.block gh (lt_of_block h13) (fun e => by have := hnw _ e; omega)).trans h13
      have K26 : Keeps Nob w V17 := K14.then kV17 (fun i hi hm => absurd hi (by have := hnw i hm; omega))
      have z27 := kV17.size
      refine pkq (v16) <| ps_end <| blk_n <| then_n <| sy_reg <| rg_q 4 [0, 1, 2] <| pkq (iN i) <| ppq (iN (i + 1)) (exec_cast (congrArg (Value.int .i64) (wrapN (i + 1) (by omega))) (by kernel_rfl)) <| pkq (iN (i + 1)) <| ps_end <| then_n ?_
      refine ⟨⟨i + 1, v16, (iN i), (.slice (some ⟨g, 0, none⟩) ns.length ns.length), (iN ns.length), (.bool true), (iN i), (iN (i + 1)), v, (.slice (some ⟨g, 0, none⟩) ns.length ns.length), (iN i), (pT g i), (.int .i64 x), (uN x.toNat), v8, v16, by kernel_rfl, by omega, h24, h25, K26, hw23⟩, ?_⟩
      exact lt_meas (x := ns.length - (i + 1)) (y := ns.length - i) (by kernel_rfl) (by kernel_rfl) (by omega)
    · have eq_i : i = ns.length := by omega
      have hbl := nT_len ns i
      refine sy_sq (qc84_1 232) (qc84_1 233) <| sy_sq (qc84_1 464) (qc84_1 465) <| sy_reg <| rg_q 3 [0, 1, 2, 3] <| pkq (iN i) <| pkq (.slice (some ⟨g, 0, none⟩) ns.length ns.length) <| ppq (iN ns.length) (exec_len (.tmp 8) 121 _ (by kernel_rfl) Tryz.underlying121 (some ⟨g, 0, none⟩) ns.length ns.length (by kernel_rfl)) <| ppq (.bool false) (dcf ((((i : Nat) : Int)) < (((ns.length : Nat) : Int))) (by omega)) <| ps_end <| then_n <| sy_n (.tmp 10) (qc84_1 930) (qc84_1 931) <| sy_exit 0 (by kernel_rfl) <| then_e <| then_e ?_
      refine blk_e <| then_n <| sy_sq (qc84_1 30) (qc84_1 31) <| sy_reg <| rg_q 6 [0, 1, 2, 3] <| pkq (v) <| ppq (.slice (some ⟨gh, 0, none⟩) 32 32) (exec_slice_all 23 (.tmp 2) (by kernel_rfl) gh 0 (by kernel_rfl) 32 5 Tryz.underlying23 (by kernel_rfl)) ?_
      obtain ⟨v28, V29, hr30, h31, hg32, hn33, ha34⟩ := run_append_any (P := Tryz.prog) (w := V7) 114 (Oper.type (qo84_1 30 2)) 5 i0 (.int .u8 0) 1 1 Tryz.underlying114 hi0 hz0 hz1 hz2 rfl (by decide) v ((byt (nT ns) i).length) (B (byt (nT ns) i)) h8 (.slice (some ⟨gh, 0, none⟩) 32 32) 32 (B r) (src_block h9 1 32 (by simp [B_length, hr]) (by simpa using List.all_eq_true.2 (B_one r))) (by unfold maxLen; omega) (by omega)
      have kV29 : Keeps (fun j => v.ownBlock = some j) V7 V29 := Keeps.rowAdd hg32
      have hw35 : NewFrom (gh + 1) v28 := hnw.next (lt_of_block h9) ha34
      refine prq v28 (w' := V29) (exec_append (.tmp 21) (.tmp 22) 114 (by kernel_rfl) v (.slice (some ⟨gh, 0, none⟩) 32 32) (by kernel_rfl) (by kernel_rfl) hr30) ?_
      have h36 : Row V29 5 1 v28 ((allb (nT ns) ++ r).length) (B (allb (nT ns) ++ r)) := row_cast h31 (by rw [eq_i, byt_nT]) (by rw [eq_i, byt_nT, List.length_append, hr])
      have K38 : Keeps Nob w V29 := K10.then kV29 (fun i hi hm => absurd hi (by have := hnw i hm; omega))
      have z39 := kV29.size
      refine pkq (v28) <| ps_end <| then_n <| sy_ret (by kernel_rfl) <| sy_out (v28) rfl (by kernel_rfl) ?_
      exact ⟨_, rfl, h36, fun j hj => by have := hw35 j hj; omega, K38⟩
theorem numbers_Att (a : Att) {g : Nat} (w : World) (h0 : w.heap[g]? = some (.cells (In [1, a.v, a.s, a.t]).toArray 3 (0, 0))) (ha : a.Ok) (hf : a.fine) : Calls Tryz.prog 104 #[.agg (B a.r).toArray, .slice (some ⟨g, 0, none⟩) 4 4] w fun e w' => ∃ X, e = .returned X ∧ Row w' 5 1 X a.bare.length (B a.bare) ∧ NewFrom w.heap.size X ∧ Keeps Nob w w' := by
  have hl := (att_len ha.r).2
  rw [← att_bare, List.length_append, ha.r] at hl
  have := rnumbers_ok a.r g [1, a.v, a.s, a.t] w h0 ha.r (fun k x hx => att_okT ha hf k (.n x) (by match k, hx with | 0, hx => cases hx; rfl | 1, hx => cases hx; rfl | 2, hx => cases hx; rfl | 3, hx => cases hx; rfl | k + 4, hx => cases hx)) (by omega) (by simp)
  rwa [att_bare] at this
noncomputable def qc84_2 (n : Nat) : Code := partOf Tryz.f79 n
theorem rbare_ok (a : Att) (w : World) (ha : a.Ok) (hf : a.fine) :
    Calls Tryz.prog 79 #[.agg (Att.c a)] w (fun e w' => ∃ X, e = .returned X ∧ Row w' 5 1 X a.bare.length (B a.bare) ∧ NewFrom w.heap.size X ∧ Keeps Nob w w') := by
  have hr := ha.r
  have K0 : Keeps Nob w w := Keeps.refl _ _
  refine sy_enter (qc84_2 1) ⟨#[.agg (Att.c a), ud, ud, ud, ud, ud, ud, ud, ud, ud, ud, ud, ud], []⟩ Tryz.func79 (by kernel_rfl) (by kernel_rfl) <| sy_sq (qc84_2 2) (qc84_2 3) <| sy_reg <| rg_q 0 [0, 1] ?_
  obtain ⟨V1, eV1, ga, ega, h2, kV1⟩ := alloc_step w ((Att.c a)) 26
  have n3 : w.heap.size ≤ ga := ega ▸ K0.size
  refine prq (pT ga 0) (w' := V1) (by rw [← eV1, ← ega]; exact exec_box 26 (.tmp 0) (by kernel_rfl) (.agg (Att.c a)) (by kernel_rfl)) ?_
  clear eV1
  have K4 := K0.nn kV1
  have z5 := kV1.size
  refine pkq (.slice none 0 0) <| ps_end <| then_n <| sy_sq (qc84_2 6) (qc84_2 7) <| sy_reg <| rg_q 1 [0, 1, 2, 3, 4, 5, 6, 7, 8, 9, 10] <| pkq (pT ga 3) <| ppq (.agg (B a.r).toArray) (exec_load_seg 23 (.tmp 3) (by kernel_rfl) ga 3 (by kernel_rfl) (B a.r) _ _ _ h2 (Att.c_seg _) Tryz.underlying23 rfl (by rw [B_length, hr]; kernel_rfl)) <| pkq (pT ga 0) <| ppq (.int .i64 a.v) (exec_ld 3 (.tmp 5) ga 0 Tryz.underlying3 (rc (h2) (Att.c_0 _))) <| pkq (pT ga 1) <| ppq (.int .i64 a.s) (exec_ld 3 (.tmp 7) ga 1 Tryz.underlying3 (rc (h2) (Att.c_1 _))) <| pkq (pT ga 2) <| ppq (.int .i64 a.t) (exec_ld 3 (.tmp 9) ga 2 Tryz.underlying3 (rc (h2) (Att.c_2 _))) ?_
  obtain ⟨V6, eV6, gl, egl, h7, kV6⟩ := alloc_step V1 (#[.int .i64 1, .int .i64 a.v, .int .i64 a.s, .int .i64 a.t]) 3
  have n8 : ga < gl := egl ▸ lt_of_block h2
  have n9 : w.heap.size ≤ gl := egl ▸ K4.size
  refine prq (.slice (some ⟨gl, 0, none⟩) 4 4) (w' := V6) (by rw [← eV6, ← egl]; kernel_rfl) ?_
  have K11 := K4.nn kV6
  have z12 := kV6.size
  refine pcq 104 #[.agg (B a.r).toArray, .slice (some ⟨gl, 0, none⟩) 4 4] Tryz.func104 ((numbers_Att a _ h7 ha hf).mono ?_)
  rintro e V13 ⟨X, rfl, hX, hnX, kV13⟩
  refine ⟨_, rfl, ?_⟩
  have K16 := K11.nn kV13
  have z17 := kV13.size
  refine pkq (X) <| ps_end <| then_n <| sy_ret (by kernel_rfl) <| sy_out (X) rfl (by kernel_rfl) ?_
  exact ⟨X, rfl, hX, fun j hj => by have := hnX j hj; omega, K16⟩
theorem rvCheck_is (a : Att) {x : Int} (w : World) (hr : a.r.length = 32) (hx : a.err = x) : Calls Tryz.prog 77 #[.agg (Att.c a)] w fun e w' => e = .returned (.int .i64 x) ∧ Keeps Nob w w' := by
  subst hx; exact rvCheck_ok a w hr
theorem numbers_Pro (a : Pro) {g : Nat} (w : World) (h0 : w.heap[g]? = some (.cells (In [2, a.v, a.h]).toArray 3 (0, 0))) (ha : a.Ok) (hf : a.fine) : Calls Tryz.prog 104 #[.agg (B a.r).toArray, .slice (some ⟨g, 0, none⟩) 3 3] w fun e w' => ∃ X, e = .returned X ∧ Row w' 5 1 X a.bare.length (B a.bare) ∧ NewFrom w.heap.size X ∧ Keeps Nob w w' := by
  have hl := (pro_len ha.r).2
  rw [← pro_bare, List.length_append, ha.r] at hl
  have := rnumbers_ok a.r g [2, a.v, a.h] w h0 ha.r (fun k x hx => pro_okT ha hf k (.n x) (by match k, hx with | 0, hx => cases hx; rfl | 1, hx => cases hx; rfl | 2, hx => cases hx; rfl | k + 3, hx => cases hx)) (by omega) (by simp)
  rwa [pro_bare] at this
noncomputable def qc84_0 (n : Nat) : Code := partOf Tryz.f81 n
theorem rbareBlock_ok (a : Pro) (w : World) (ha : a.Ok) (hf : a.fine) :
    Calls Tryz.prog 81 #[.agg (Pro.c a)] w (fun e w' => ∃ X, e = .returned X ∧ Row w' 5 1 X a.bare.length (B a.bare) ∧ NewFrom w.heap.size X ∧ Keeps Nob w w') := by
  have hr := ha.r
  have K0 : Keeps Nob w w := Keeps.refl _ _
  refine sy_enter (qc84_0 1) ⟨#[.agg (Pro.c a), ud, ud, ud, ud, ud, ud, ud, ud, ud, ud], []⟩ Tryz.func81 (by kernel_rfl) (by kernel_rfl) <| sy_sq (qc84_0 2) (qc84_0 3) <| sy_reg <| rg_q 0 [0, 1] ?_
  obtain ⟨V1, eV1, ga, ega, h2, kV1⟩ := alloc_step w ((Pro.c a)) 28
  have n3 : w.heap.size ≤ ga := ega ▸ K0.size
  refine prq (pT ga 0) (w' := V1) (by rw [← eV1, ← ega]; exact exec_box 28 (.tmp 0) (by kernel_rfl) (.agg (Pro.c a)) (by kernel_rfl)) ?_
  clear eV1
  have K4 := K0.nn kV1
  have z5 := kV1.size
  refine pkq (.slice none 0 0) <| ps_end <| then_n <| sy_sq (qc84_0 6) (qc84_0 7) <| sy_reg <| rg_q 1 [0, 1, 2, 3, 4, 5, 6, 7, 8] <| pkq (pT ga 2) <| ppq (.agg (B a.r).toArray) (exec_load_seg 23 (.tmp 3) (by kernel_rfl) ga 2 (by kernel_rfl) (B a.r) _ _ _ h2 (Pro.c_seg _) Tryz.underlying23 rfl (by rw [B_length, hr]; kernel_rfl)) <| pkq (pT ga 0) <| ppq (.int .i64 a.v) (exec_ld 3 (.tmp 5) ga 0 Tryz.underlying3 (rc (h2) (Pro.c_0 _))) <| pkq (pT ga 1) <| ppq (.int .i64 a.h) (exec_ld 3 (.tmp 7) ga 1 Tryz.underlying3 (rc (h2) (Pro.c_1 _))) ?_
  obtain ⟨V6, eV6, gl, egl, h7, kV6⟩ := alloc_step V1 (#[.int .i64 2, .int .i64 a.v, .int .i64 a.h]) 3
  have n8 : ga < gl := egl ▸ lt_of_block h2
  have n9 : w.heap.size ≤ gl := egl ▸ K4.size
  refine prq (.slice (some ⟨gl, 0, none⟩) 3 3) (w' := V6) (by rw [← eV6, ← egl]; kernel_rfl) ?_
  have K11 := K4.nn kV6
  have z12 := kV6.size
  refine pcq 104 #[.agg (B a.r).toArray, .slice (some ⟨gl, 0, none⟩) 3 3] Tryz.func104 ((numbers_Pro a _ h7 ha hf).mono ?_)
  rintro e V13 ⟨X, rfl, hX, hnX, kV13⟩
  refine ⟨_, rfl, ?_⟩
  have K16 := K11.nn kV13
  have z17 := kV13.size
  refine pkq (X) <| ps_end <| then_n <| sy_ret (by kernel_rfl) <| sy_out (X) rfl (by kernel_rfl) ?_
  exact ⟨X, rfl, hX, fun j hj => by have := hnX j hj; omega, K16⟩
theorem rvCheckBlock_is (a : Pro) {x : Int} (w : World) (hr : a.r.length = 32) (hx : a.err = x) : Calls Tryz.prog 80 #[.agg (Pro.c a)] w fun e w' => e = .returned (.int .i64 x) ∧ Keeps Nob w w' := by
  subst hx; exact rvCheckBlock_ok a w hr
end Go.Proofs.YtcbfnflnokoacaaGreat
