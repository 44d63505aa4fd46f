/-
  Params: lists of texts, what must be awake, ParamsTell (printed by par6.py). Conditions: none.
-/
import Derived.Test.YtpflmldmbpnllaaDoorPmE
import Derived.Test.YtpflmldmbpnllaaDoorSlb
import Derived.Test.YtpflmldmbpnllaaDoorSym2
namespace Go.Proofs.YtpflmldmbpnllaaDoor
open Go Go.RowKit Go.Own Go.Shelf
instance : DecidableEq Par := fun p q => if h : p.l = q.l then .isTrue (by
  simp only [Par.l, List.cons.injEq, and_true] at h
  obtain ⟨a0, a1, a2, a3, a4, a5, a6, a7, a8, a9, a10⟩ := p
  obtain ⟨b0, b1, b2, b3, b4, b5, b6, b7, b8, b9, b10⟩ := q
  simp only at h
  obtain ⟨rfl, rfl, rfl, rfl, rfl, rfl, rfl, rfl, rfl, rfl, rfl⟩ := h
  rfl) else .isFalse (fun e => h (by rw [e]))
def Scl (x : ByteArray) : List Value := [.string x]
theorem Scl_0 {x : ByteArray} : (Scl x)[0]? = some (.string x) := rfl
theorem Tx_flat (l : List ByteArray) : Tx l = l.flatMap Scl := by induction l with | nil => rfl | cons x r ih => rw [List.flatMap_cons, ← ih]; rfl
theorem row_texts {w : World} {v : Value} {n : Nat} {l : List ByteArray} (h : Row w 9 1 v n (Tx l)) (hn : n = l.length) : Sl w 1 Scl v l := Row.sl (Tx_flat l ▸ h) hn (fun _ _ => rfl)
theorem sl_texts {w : World} {g n cap : Nat} {T : TypeId} {l : List ByteArray} (h : w.heap[g]? = some (.cells (Tx l).toArray T (0, 0))) (hn : l.length = n) (hcap : n ≤ cap) (hm : cap ≤ 1000) : Sl w 1 Scl (.slice (some ⟨g, 0, none⟩) n cap) l := by
  subst hn
  exact ⟨⟨_, _, rfl, hcap, by unfold maxLen; omega, fun h => by cases h⟩, fun k x hx => ⟨g, 0, cap, rfl, lt_of_block h, fun j u hj => by
    rw [Nat.zero_add]
    exact (cell_of_row _ _ _ _ _ _ h).trans (by rw [List.getElem?_toArray, Tx_flat]; exact flat_get (s := 1) (fun _ _ => rfl) k x hx j u hj)⟩⟩
theorem eq_strB (a : ByteArray) (w : World) : (binOp .eql 9 (.string a) (.string a)).run Tryd.prog w = .ok (.bool true) w := by rw [str_eql]; simp
theorem feq_int {d : Nat} {f : Field} {fs : List Field} {xs ys : Array Value} {k : IntKind} {a b : Int} (w : World) (hf : f.name ≠ "_") (ht : Tryd.prog.underlying f.type = some (.int k)) (hp : Tryd.prog.plainKey f.type = true) (hx : xs[f.offset]? = some (.int k a)) (hy : ys[f.offset]? = some (.int k b)) :
    (Op.eqFields (d + 1) xs ys (f :: fs)).run Tryd.prog w = if a = b then (Op.eqFields (d + 1) xs ys fs).run Tryd.prog w else .ok false w := by
  conv => lhs; unfold Op.eqFields
  rw [if_pos hf]
  simp only [Sem.run_bind, run_part_plain w hp hx, run_part_plain w hp hy, Result.andThen_ok, run_equalIn_int w d f.type k k a b ht]
  by_cases h : a = b
  · simp [h]
  · simp [h]
theorem par_guard : Tryd.prog.eqGuardType Tryd.prog.depth 24 = false := by kernel_rfl
set_option maxRecDepth 100000 in
theorem par_equal (p q : Par) (w : World) : (Op.equalIn 10000 24 (.agg p.cells) (.agg q.cells)).run Tryd.prog w = .ok (decide (p = q)) w := by
  rw [run_equalIn_struct w 9999 24 _ _ (by kernel_rfl) (by kernel_rfl)]
  simp only [Program.fieldsOf, Tryd.underlying24]
  rw [feq_int (d := 9998) (k := .i64) (a := p.unb) (b := q.unb) w (by decide) Tryd.underlying3 (by kernel_rfl) rfl rfl, feq_int (d := 9998) (k := .i64) (a := p.mage) (b := q.mage) w (by decide) Tryd.underlying3 (by kernel_rfl) rfl rfl, feq_int (d := 9998) (k := .i64) (a := p.elen) (b := q.elen) w (by decide) Tryd.underlying3 (by kernel_rfl) rfl rfl, feq_int (d := 9998) (k := .i64) (a := p.win) (b := q.win) w (by decide) Tryd.underlying3 (by kernel_rfl) rfl rfl, feq_int (d := 9998) (k := .i64) (a := p.ent) (b := q.ent) w (by decide) Tryd.underlying3 (by kernel_rfl) rfl rfl, feq_int (d := 9998) (k := .i64) (a := p.act) (b := q.act) w (by decide) Tryd.underlying3 (by kernel_rfl) rfl rfl, feq_int (d := 9998) (k := .i64) (a := p.jail) (b := q.jail) w (by decide) Tryd.underlying3 (by kernel_rfl) rfl rfl, feq_int (d := 9998) (k := .u64) (a := p.base) (b := q.base) w (by decide) Tryd.underlying22 (by kernel_rfl) rfl rfl, feq_int (d := 9998) (k := .u64) (a := p.mult) (b := q.mult) w (by decide) Tryd.underlying22 (by kernel_rfl) rfl rfl, feq_int (d := 9998) (k := .i64) (a := p.corr) (b := q.corr) w (by decide) Tryd.underlying3 (by kernel_rfl) rfl rfl, feq_int (d := 9998) (k := .u64) (a := p.rew) (b := q.rew) w (by decide) Tryd.underlying22 (by kernel_rfl) rfl rfl]
  simp only [Op.eqFields, Sem.run_pure]
  obtain ⟨a0, a1, a2, a3, a4, a5, a6, a7, a8, a9, a10⟩ := p
  obtain ⟨b0, b1, b2, b3, b4, b5, b6, b7, b8, b9, b10⟩ := q
  simp only [Par.mk.injEq]
  by_cases h0 : a0 = b0
  · by_cases h1 : a1 = b1
    · by_cases h2 : a2 = b2
      · by_cases h3 : a3 = b3
        · by_cases h4 : a4 = b4
          · by_cases h5 : a5 = b5
            · by_cases h6 : a6 = b6
              · by_cases h7 : a7 = b7
                · by_cases h8 : a8 = b8
                  · by_cases h9 : a9 = b9
                    · by_cases h10 : a10 = b10 <;> simp [h0, h1, h2, h3, h4, h5, h6, h7, h8, h9, h10]
                    · simp [h9]
                  · simp [h8]
                · simp [h7]
              · simp [h6]
            · simp [h5]
          · simp [h4]
        · simp [h3]
      · simp [h2]
    · simp [h1]
  · simp [h0]
theorem par_eq (p q : Par) (w : World) : (binOp .eql 24 (.agg p.cells) (.agg q.cells)).run Tryd.prog w = .ok (.bool (decide (p = q))) w := by rw [run_eql_struct, par_equal]; rfl
theorem par_ne (p q : Par) (w : World) : (binOp .neq 24 (.agg p.cells) (.agg q.cells)).run Tryd.prog w = .ok (.bool (!decide (p = q))) w := by rw [run_neq_struct, par_equal]; rfl
theorem parDef_Ok : parDef.Ok := by constructor <;> (simp only [parDef, i64ok, u64ok]; omega)
theorem parZ_Ok : parZ.Ok := by constructor <;> (simp only [parZ, i64ok, u64ok]; omega)
theorem parDef_c : parDef.check = (0, 0) := by kernel_rfl
theorem parZ_c : parZ.check = (3, 0) := by kernel_rfl
theorem parDef_g : pget parDef ⟨#[98, 97, 115, 101]⟩ = (50000000, 0) := by kernel_rfl
theorem parDef_t : (ptold parDef).1.length = 17 ∧ (ptold parDef).2 = 0 := by constructor <;> kernel_rfl
theorem parDef_x : (ptx parDef).size = 132 := by decide +kernel
theorem pGet_is (p : Par) (s : ByteArray) (x y : Int) (w : World) (hp : p.Ok) (h : pget p s = (x, y)) : Calls Tryd.prog 11 #[.agg p.cells, .string s] w (fun e w' => e = .returned (.tuple #[.int .u64 x, .int .i64 y]) ∧ Keeps Nob w w') := by
  have := pGet_ok p s w hp
  rw [h] at this; exact this
theorem pBytes_def (w : World) : Calls Tryd.prog 23 #[.agg parDef.cells] w (fun e w' => ∃ g cap, e = .returned (.tuple #[.slice (some ⟨g, 0, none⟩) 17 cap, .int .i64 0]) ∧ Keeps Nob w w') :=
  (pBytes_ok parDef w parDef_Ok (by rw [parDef_c])).mono fun e w' ⟨X, h1, h2, h3, h4⟩ => by
    obtain ⟨g, cap, e2, _⟩ := Row.spell h2 (by rw [parDef_t.1]; omega)
    rw [parDef_t.1] at e2
    exact ⟨g, cap, by rw [h1, parDef_t.2, e2], h4⟩

noncomputable def part_kSameTexts (n : Nat) : Code := partOf Tryd.f16 n
set_option maxRecDepth 100000 in
set_option maxHeartbeats 4000000 in
theorem kSameTexts_ok (va vb : Value) (l : List ByteArray) (w : World) (Ha : Sl w 1 Scl va l) (Hb : Sl w 1 Scl vb l) :
    Calls Tryd.prog 16 #[va, vb] w (fun e w' => e = .returned (.bool true) ∧ Keeps Nob w w') := by
  have hll := Ha.len_le
  have K0 : Keeps Nob w w := Keeps.refl _ _
  refine sy_enter (part_kSameTexts 1) ⟨#[va, vb, undef, undef, undef, undef, undef, undef, undef, undef, undef, undef, undef, undef, undef, undef, undef, undef, undef, undef, undef, undef, undef, undef, undef, undef, undef, undef, undef, undef, undef], []⟩ Tryd.func16 (by kernel_rfl) (by kernel_rfl) ?_
  refine sy_seq (part_kSameTexts 2) (part_kSameTexts 3) (by kernel_rfl) ?_
  refine sy_reg ?_
  refine rg_plain 0 (opsAt (part_kSameTexts 2)) [0] (by kernel_rfl) (by kernel_rfl) ?_
  refine ps_run ((opsAt (part_kSameTexts 2)).getD 0 default) (.bool false) (w' := w) (by kernel_rfl) (by kernel_rfl) (by kernel_rfl) ?_
  refine ps_end ?_
  refine then_n ?_
  refine sy_seq (part_kSameTexts 6) (part_kSameTexts 7) (by kernel_rfl) ?_
  refine sy_reg ?_
  refine rg_plain 1 (opsAt (part_kSameTexts 6)) [0, 1, 2, 3, 4, 5] (by kernel_rfl) (by kernel_rfl) ?_
  refine ps_run ((opsAt (part_kSameTexts 6)).getD 0 default) (va) (w' := w) (by kernel_rfl) (by kernel_rfl) (by kernel_rfl) ?_
  refine ps_run ((opsAt (part_kSameTexts 6)).getD 1 default) (.int .i64 ((l.length : Nat) : Int)) (w' := w) (by kernel_rfl) (by kernel_rfl) (exec_len_sl (.tmp 7) 33 9 (by kernel_rfl) Tryd.underlying33 (by kernel_rfl) Ha) ?_
  refine ps_run ((opsAt (part_kSameTexts 6)).getD 2 default) (vb) (w' := w) (by kernel_rfl) (by kernel_rfl) (by kernel_rfl) ?_
  refine ps_run ((opsAt (part_kSameTexts 6)).getD 3 default) (.int .i64 ((l.length : Nat) : Int)) (w' := w) (by kernel_rfl) (by kernel_rfl) (exec_len_sl (.tmp 9) 33 9 (by kernel_rfl) Tryd.underlying33 (by kernel_rfl) Hb) ?_
  refine ps_run ((opsAt (part_kSameTexts 6)).getD 4 default) (.bool true) (w' := w) (by kernel_rfl) (by kernel_rfl) (exec_cast (congrArg Value.bool (show (((((l.length : Nat) : Int)) == (((l.length : Nat) : Int)))) = true from by simp)) (by kernel_rfl)) ?_
  refine ps_run ((opsAt (part_kSameTexts 6)).getD 5 default) (.bool true) (w' := w) (by kernel_rfl) (by kernel_rfl) (by kernel_rfl) ?_
  refine ps_end ?_
  refine then_n ?_
  refine sy_seq (part_kSameTexts 14) (part_kSameTexts 15) (by kernel_rfl) ?_
  refine sy_seq (part_kSameTexts 28) (part_kSameTexts 29) (by kernel_rfl) ?_
  refine sy_reg ?_
  refine rg_plain 2 (opsAt (part_kSameTexts 28)) [0] (by kernel_rfl) (by kernel_rfl) ?_
  refine ps_run ((opsAt (part_kSameTexts 28)).getD 0 default) (.int .i64 0) (w' := w) (by kernel_rfl) (by kernel_rfl) (by kernel_rfl) ?_
  refine ps_end ?_
  refine then_n ?_
  refine sy_block 0 (part_kSameTexts 58) (by kernel_rfl) ?_
  refine sy_loop (part_kSameTexts 116) (fun a V => ∃ (k : Nat) (u12 u13 u14 u15 u16 u17 u18 u19 u20 u21 u22 u23 u24 u25 u26 u27 u28 u29 : Value), (a = ⟨#[va, vb, undef, undef, .bool false, .bool true, .int .i64 ((k : Nat) : Int), va, .int .i64 ((l.length : Nat) : Int), vb, .int .i64 ((l.length : Nat) : Int), .bool true, u12, u13, u14, u15, u16, u17, u18, u19, u20, u21, u22, u23, u24, u25, u26, u27, u28, u29, undef], []⟩) ∧ (k ≤ l.length) ∧ (Sl V 1 Scl va l) ∧ (Sl V 1 Scl vb l) ∧ (Keeps Nob w V)) (fun a _ => l.length - (intOf (a.tmps.getD 6 undef)).toNat) (by kernel_rfl) ?_ ?_
  · exact ⟨0, undef, undef, undef, undef, undef, undef, undef, undef, undef, undef, undef, undef, undef, undef, undef, undef, undef, undef, by kernel_rfl, Nat.zero_le _, Ha, Hb, K0⟩
  · rintro a V1 ⟨k, u12, u13, u14, u15, u16, u17, u18, u19, u20, u21, u22, u23, u24, u25, u26, u27, u28, u29, rfl, hk, h2, h3, K4⟩
    by_cases lt_k : k < l.length
    · obtain ⟨x, hx⟩ : ∃ x, l[k]? = some x := ⟨_, List.getElem?_eq_getElem lt_k⟩
      obtain ⟨b_a, o_a, c_a, hv_a, hb_a, _⟩ := (h2).at_ k _ hx
      obtain ⟨b_b, o_b, c_b, hv_b, hb_b, _⟩ := (h3).at_ k _ hx
      refine sy_seq (part_kSameTexts 232) (part_kSameTexts 233) (by kernel_rfl) ?_
      refine sy_seq (part_kSameTexts 464) (part_kSameTexts 465) (by kernel_rfl) ?_
      refine sy_reg ?_
      refine rg_plain 3 (opsAt (part_kSameTexts 464)) [0, 1, 2, 3, 4, 5, 6] (by kernel_rfl) (by kernel_rfl) ?_
      refine ps_run ((opsAt (part_kSameTexts 464)).getD 0 default) (.bool true) (w' := V1) (by kernel_rfl) (by kernel_rfl) (by kernel_rfl) ?_
      refine ps_run ((opsAt (part_kSameTexts 464)).getD 1 default) (.bool true) (w' := V1) (by kernel_rfl) (by kernel_rfl) (by kernel_rfl) ?_
      refine ps_run ((opsAt (part_kSameTexts 464)).getD 2 default) (.int .i64 ((k : Nat) : Int)) (w' := V1) (by kernel_rfl) (by kernel_rfl) (by kernel_rfl) ?_
      refine ps_run ((opsAt (part_kSameTexts 464)).getD 3 default) (va) (w' := V1) (by kernel_rfl) (by kernel_rfl) (by kernel_rfl) ?_
      refine ps_run ((opsAt (part_kSameTexts 464)).getD 4 default) (.int .i64 ((l.length : Nat) : Int)) (w' := V1) (by kernel_rfl) (by kernel_rfl) (exec_len_sl (.tmp 15) 33 9 (by kernel_rfl) Tryd.underlying33 (by kernel_rfl) h2) ?_
      refine ps_run ((opsAt (part_kSameTexts 464)).getD 5 default) (.bool true) (w' := V1) (by kernel_rfl) (by kernel_rfl) (dct ((((k : Nat) : Int)) < (((l.length : Nat) : Int))) (by omega)) ?_
      refine ps_run ((opsAt (part_kSameTexts 464)).getD 6 default) (.bool true) (w' := V1) (by kernel_rfl) (by kernel_rfl) (by kernel_rfl) ?_
      refine ps_end ?_
      refine then_n ?_
      refine sy_yes (.tmp 18) (part_kSameTexts 930) (part_kSameTexts 931) (by kernel_rfl) (by kernel_rfl) ?_
      refine sy_skip (by kernel_rfl) ?_
      refine then_n ?_
      refine sy_seq (part_kSameTexts 466) (part_kSameTexts 467) (by kernel_rfl) ?_
      refine sy_block 1 (part_kSameTexts 932) (by kernel_rfl) ?_
      refine sy_reg ?_
      refine rg_still 5 9 (opsAt (part_kSameTexts 932)) [(opsAt (part_kSameTexts 932)).getD 0 default, (opsAt (part_kSameTexts 932)).getD 1 default, (opsAt (part_kSameTexts 932)).getD 2 default, (opsAt (part_kSameTexts 932)).getD 3 default, (opsAt (part_kSameTexts 932)).getD 4 default, (opsAt (part_kSameTexts 932)).getD 5 default, (opsAt (part_kSameTexts 932)).getD 6 default, (opsAt (part_kSameTexts 932)).getD 7 default, (opsAt (part_kSameTexts 932)).getD 8 default] [(opsAt (part_kSameTexts 932)).getD 9 default] (by kernel_rfl) (by kernel_rfl) (by kernel_rfl) (by kernel_rfl) (by kernel_rfl) ?_
      obtain ⟨V6, eV6, kV6⟩ := drew_step V1
      rw [eV6]
      clear eV6
      have h7 : Sl V6 1 Scl va l := h2.keepsN kV6
      have h8 : Sl V6 1 Scl vb l := h3.keepsN kV6
      have K9 := K4.nn kV6
      refine st_run ((opsAt (part_kSameTexts 932)).getD 0 default) (va) (by kernel_rfl) (by kernel_rfl) ?_
      refine st_run ((opsAt (part_kSameTexts 932)).getD 1 default) (.int .i64 ((k : Nat) : Int)) (by kernel_rfl) (by kernel_rfl) ?_
      refine st_run ((opsAt (part_kSameTexts 932)).getD 2 default) (.pointer (some ⟨b_a, o_a + k * 1, none⟩)) (by kernel_rfl) (exec_indexAt_slice 33 (.tmp 21) (.tmp 22) (by kernel_rfl) b_a o_a l.length c_a (Eq.trans (b := va) (by kernel_rfl) hv_a) .i64 k (by kernel_rfl) _ 1 Tryd.underlying33 (by kernel_rfl) (by omega)) ?_
      refine st_run ((opsAt (part_kSameTexts 932)).getD 3 default) (.string x) (by kernel_rfl) (exec_load_cell 9 (.tmp 23) (by kernel_rfl) ⟨b_a, o_a + k * 1, none⟩ (by kernel_rfl) _ _ Tryd.underlying9 rfl (Sl.cell h7 hx hv_a (j := 0) Scl_0)) ?_
      refine st_run ((opsAt (part_kSameTexts 932)).getD 4 default) (vb) (by kernel_rfl) (by kernel_rfl) ?_
      refine st_run ((opsAt (part_kSameTexts 932)).getD 5 default) (.int .i64 ((k : Nat) : Int)) (by kernel_rfl) (by kernel_rfl) ?_
      refine st_run ((opsAt (part_kSameTexts 932)).getD 6 default) (.pointer (some ⟨b_b, o_b + k * 1, none⟩)) (by kernel_rfl) (exec_indexAt_slice 33 (.tmp 25) (.tmp 26) (by kernel_rfl) b_b o_b l.length c_b (Eq.trans (b := vb) (by kernel_rfl) hv_b) .i64 k (by kernel_rfl) _ 1 Tryd.underlying33 (by kernel_rfl) (by omega)) ?_
      refine st_run ((opsAt (part_kSameTexts 932)).getD 7 default) (.string x) (by kernel_rfl) (exec_load_cell 9 (.tmp 27) (by kernel_rfl) ⟨b_b, o_b + k * 1, none⟩ (by kernel_rfl) _ _ Tryd.underlying9 rfl (Sl.cell h8 hx hv_b (j := 0) Scl_0)) ?_
      refine st_run ((opsAt (part_kSameTexts 932)).getD 8 default) (.bool true) (by kernel_rfl) (exec_binop .eql 9 9 (.tmp 24) (.tmp 28) (by kernel_rfl) (.string x) (.string x) _ (by kernel_rfl) (by kernel_rfl) (by kernel_rfl) (eq_strB x _)) ?_
      refine st_end ?_
      refine ls_run ((opsAt (part_kSameTexts 932)).getD 9 default) (.bool true) (w' := V6) (by kernel_rfl) (by kernel_rfl) ?_
      refine ls_end ?_
      refine blk_n ?_
      refine then_n ?_
      refine sy_reg ?_
      refine rg_plain 4 (opsAt (part_kSameTexts 467)) [0, 1, 2] (by kernel_rfl) (by kernel_rfl) ?_
      refine ps_run ((opsAt (part_kSameTexts 467)).getD 0 default) (.int .i64 ((k : Nat) : Int)) (w' := V6) (by kernel_rfl) (by kernel_rfl) (by kernel_rfl) ?_
      refine ps_run ((opsAt (part_kSameTexts 467)).getD 1 default) (.int .i64 ((k + 1 : Nat) : Int)) (w' := V6) (by kernel_rfl) (by kernel_rfl) (exec_cast (congrArg (Value.int .i64) (wrapN (k + 1) (by omega))) (by kernel_rfl)) ?_
      refine ps_run ((opsAt (part_kSameTexts 467)).getD 2 default) (.int .i64 ((k + 1 : Nat) : Int)) (w' := V6) (by kernel_rfl) (by kernel_rfl) (by kernel_rfl) ?_
      refine ps_end ?_
      refine then_n ?_
      refine ⟨⟨k + 1, (.bool true), (.bool true), (.int .i64 ((k : Nat) : Int)), va, (.int .i64 ((l.length : Nat) : Int)), (.bool true), (.bool true), (.int .i64 ((k : Nat) : Int)), (.int .i64 ((k + 1 : Nat) : Int)), va, (.int .i64 ((k : Nat) : Int)), (.pointer (some ⟨b_a, o_a + k * 1, none⟩)), (.string x), vb, (.int .i64 ((k : Nat) : Int)), (.pointer (some ⟨b_b, o_b + k * 1, none⟩)), (.string x), (.bool true), by kernel_rfl, by omega, h7, h8, K9⟩, ?_⟩
      exact lt_meas (x := l.length - (k + 1)) (y := l.length - k) (by kernel_rfl) (by kernel_rfl) (by omega)
    · skip
      refine sy_seq (part_kSameTexts 232) (part_kSameTexts 233) (by kernel_rfl) ?_
      refine sy_seq (part_kSameTexts 464) (part_kSameTexts 465) (by kernel_rfl) ?_
      refine sy_reg ?_
      refine rg_plain 3 (opsAt (part_kSameTexts 464)) [0, 1, 2, 3, 4, 5, 6] (by kernel_rfl) (by kernel_rfl) ?_
      refine ps_run ((opsAt (part_kSameTexts 464)).getD 0 default) (.bool true) (w' := V1) (by kernel_rfl) (by kernel_rfl) (by kernel_rfl) ?_
      refine ps_run ((opsAt (part_kSameTexts 464)).getD 1 default) (.bool true) (w' := V1) (by kernel_rfl) (by kernel_rfl) (by kernel_rfl) ?_
      refine ps_run ((opsAt (part_kSameTexts 464)).getD 2 default) (.int .i64 ((k : Nat) : Int)) (w' := V1) (by kernel_rfl) (by kernel_rfl) (by kernel_rfl) ?_
      refine ps_run ((opsAt (part_kSameTexts 464)).getD 3 default) (va) (w' := V1) (by kernel_rfl) (by kernel_rfl) (by kernel_rfl) ?_
      refine ps_run ((opsAt (part_kSameTexts 464)).getD 4 default) (.int .i64 ((l.length : Nat) : Int)) (w' := V1) (by kernel_rfl) (by kernel_rfl) (exec_len_sl (.tmp 15) 33 9 (by kernel_rfl) Tryd.underlying33 (by kernel_rfl) h2) ?_
      refine ps_run ((opsAt (part_kSameTexts 464)).getD 5 default) (.bool false) (w' := V1) (by kernel_rfl) (by kernel_rfl) (dcf ((((k : Nat) : Int)) < (((l.length : Nat) : Int))) (by omega)) ?_
      refine ps_run ((opsAt (part_kSameTexts 464)).getD 6 default) (.bool false) (w' := V1) (by kernel_rfl) (by kernel_rfl) (by kernel_rfl) ?_
      refine ps_end ?_
      refine then_n ?_
      refine sy_no (.tmp 18) (part_kSameTexts 930) (part_kSameTexts 931) (by kernel_rfl) (by kernel_rfl) ?_
      refine sy_exit 0 (by kernel_rfl) ?_
      refine then_e ?_
      refine then_e ?_
      refine blk_e ?_
      refine then_n ?_
      refine sy_seq (part_kSameTexts 30) (part_kSameTexts 31) (by kernel_rfl) ?_
      refine sy_reg ?_
      refine rg_plain 6 (opsAt (part_kSameTexts 30)) [0, 1] (by kernel_rfl) (by kernel_rfl) ?_
      refine ps_run ((opsAt (part_kSameTexts 30)).getD 0 default) (.bool true) (w' := V1) (by kernel_rfl) (by kernel_rfl) (by kernel_rfl) ?_
      refine ps_run ((opsAt (part_kSameTexts 30)).getD 1 default) (.bool true) (w' := V1) (by kernel_rfl) (by kernel_rfl) (by kernel_rfl) ?_
      refine ps_end ?_
      refine then_n ?_
      refine sy_ret (by kernel_rfl) ?_
      refine sy_out (.bool true) rfl (by kernel_rfl) ?_
      exact ⟨rfl, K4⟩
noncomputable def part_kOverTexts (n : Nat) : Code := partOf Tryd.f20 n
set_option maxRecDepth 100000 in
set_option maxHeartbeats 4000000 in
theorem kOverTexts_ok (g n cap : Nat) (cs : Array Value) (w : World) (h0 : w.heap[g]? = some (.cells cs 9 (0, 0))) (hn : n ≤ cs.size) (hl : n ≤ 1000) :
    Calls Tryd.prog 20 #[.slice (some ⟨g, 0, none⟩) n cap] w (fun e w' => e = .returned (.tuple #[]) ∧ Keeps (One g) w w') := by
  have K0 : Keeps (One g) w w := Keeps.refl _ _
  refine sy_enter (part_kOverTexts 1) ⟨#[.slice (some ⟨g, 0, none⟩) n cap, undef, undef, undef, undef, undef, undef, undef, undef, undef, undef, undef], []⟩ Tryd.func20 (by kernel_rfl) (by kernel_rfl) ?_
  refine sy_seq (part_kOverTexts 2) (part_kOverTexts 3) (by kernel_rfl) ?_
  refine sy_reg ?_
  refine rg_plain 0 (opsAt (part_kOverTexts 2)) [0] (by kernel_rfl) (by kernel_rfl) ?_
  refine ps_run ((opsAt (part_kOverTexts 2)).getD 0 default) (.int .i64 0) (w' := w) (by kernel_rfl) (by kernel_rfl) (by kernel_rfl) ?_
  refine ps_end ?_
  refine then_n ?_
  refine sy_block 0 (part_kOverTexts 6) (by kernel_rfl) ?_
  refine sy_loop (part_kOverTexts 12) (fun a V => ∃ (i : Nat) (ys : Array Value) (u3 u4 u5 u6 u7 u8 u9 u10 u11 : Value), (a = ⟨#[.slice (some ⟨g, 0, none⟩) n cap, undef, .int .i64 ((i : Nat) : Int), u3, u4, u5, u6, u7, u8, u9, u10, u11], []⟩) ∧ (i ≤ n) ∧ (n ≤ ys.size) ∧ (V.heap[g]? = some (.cells ys 9 (0, 0))) ∧ (Keeps (One g) w V)) (fun a _ => n - (intOf (a.tmps.getD 2 undef)).toNat) (by kernel_rfl) ?_ ?_
  · exact ⟨0, cs, undef, undef, undef, undef, undef, undef, undef, undef, undef, by kernel_rfl, Nat.zero_le _, hn, h0, K0⟩
  · rintro a V1 ⟨i, ys, u3, u4, u5, u6, u7, u8, u9, u10, u11, rfl, hi, hy, h2, K3⟩
    by_cases lt_i : i < n
    · obtain ⟨x, hx⟩ : ∃ x, ys[i]? = some x := ⟨_, Array.getElem?_eq_getElem (by omega)⟩
      refine sy_seq (part_kOverTexts 24) (part_kOverTexts 25) (by kernel_rfl) ?_
      refine sy_seq (part_kOverTexts 48) (part_kOverTexts 49) (by kernel_rfl) ?_
      refine sy_reg ?_
      refine rg_plain 1 (opsAt (part_kOverTexts 48)) [0, 1, 2, 3] (by kernel_rfl) (by kernel_rfl) ?_
      refine ps_run ((opsAt (part_kOverTexts 48)).getD 0 default) (.int .i64 ((i : Nat) : Int)) (w' := V1) (by kernel_rfl) (by kernel_rfl) (by kernel_rfl) ?_
      refine ps_run ((opsAt (part_kOverTexts 48)).getD 1 default) (.slice (some ⟨g, 0, none⟩) n cap) (w' := V1) (by kernel_rfl) (by kernel_rfl) (by kernel_rfl) ?_
      refine ps_run ((opsAt (part_kOverTexts 48)).getD 2 default) (.int .i64 ((n : Nat) : Int)) (w' := V1) (by kernel_rfl) (by kernel_rfl) (exec_len (.tmp 4) 33 _ (by kernel_rfl) Tryd.underlying33 (some ⟨g, 0, none⟩) n cap (by kernel_rfl)) ?_
      refine ps_run ((opsAt (part_kOverTexts 48)).getD 3 default) (.bool true) (w' := V1) (by kernel_rfl) (by kernel_rfl) (dct ((((i : Nat) : Int)) < (((n : Nat) : Int))) (by omega)) ?_
      refine ps_end ?_
      refine then_n ?_
      refine sy_yes (.tmp 6) (part_kOverTexts 98) (part_kOverTexts 99) (by kernel_rfl) (by kernel_rfl) ?_
      refine sy_skip (by kernel_rfl) ?_
      refine then_n ?_
      refine sy_seq (part_kOverTexts 50) (part_kOverTexts 51) (by kernel_rfl) ?_
      refine sy_block 1 (part_kOverTexts 100) (by kernel_rfl) ?_
      refine sy_reg ?_
      refine rg_plain 3 (opsAt (part_kOverTexts 100)) [0, 1, 2, 3] (by kernel_rfl) (by kernel_rfl) ?_
      refine ps_run ((opsAt (part_kOverTexts 100)).getD 0 default) (.slice (some ⟨g, 0, none⟩) n cap) (w' := V1) (by kernel_rfl) (by kernel_rfl) (by kernel_rfl) ?_
      refine ps_run ((opsAt (part_kOverTexts 100)).getD 1 default) (.int .i64 ((i : Nat) : Int)) (w' := V1) (by kernel_rfl) (by kernel_rfl) (by kernel_rfl) ?_
      refine ps_run ((opsAt (part_kOverTexts 100)).getD 2 default) (.pointer (some ⟨g, i, none⟩)) (w' := V1) (by kernel_rfl) (by kernel_rfl) (exec_cast (v := .pointer (some ⟨g, 0 + i * 1, none⟩)) (by simp) (exec_indexAt_slice 33 (.tmp 9) (.tmp 10) (by kernel_rfl) g 0 n cap (by kernel_rfl) .i64 i (by kernel_rfl) _ 1 Tryd.underlying33 (by kernel_rfl) (by omega))) ?_
      obtain ⟨V4, eV4, kV4⟩ := cell_step V1 g i (.string { data := #[111, 118, 101, 114] })
      have h5 : V4.heap[g]? = some (.cells (ys.setIfInBounds i (.string { data := #[111, 118, 101, 114] })) 9 (0, 0)) := eV4 ▸ ((heap_setCell_same _ g i _ _ (.string { data := #[111, 118, 101, 114] }) h2).trans (congrArg (fun c => some (Obj.cells c 9 (0, 0))) (show (ys : Array Value).setIfInBounds i (.string { data := #[111, 118, 101, 114] }) = ys.setIfInBounds i (.string { data := #[111, 118, 101, 114] }) from rfl)))
      refine ps_skip ((opsAt (part_kOverTexts 100)).getD 3 default) (w' := V4) (by kernel_rfl) (by kernel_rfl) (by rw [← eV4]; exact exec_store_cell 9 (.tmp 11) (.const (.string { data := #[111, 118, 101, 114] })) (by kernel_rfl) g i (by kernel_rfl) (.string { data := #[111, 118, 101, 114] }) (by kernel_rfl) (by kernel_rfl) (by kernel_rfl) x ((cell_of_row _ _ _ _ _ _ (h2)).trans (hx)) (frozen_of_row _ _ _ _ _ h2) (by kernel_rfl)) ?_
      clear eV4
      have K6 : Keeps (One g) w V4 := K3.then kV4 (fun i hi hm => by unfold Own.One at hm; subst hm; exact rfl)
      have z7 := kV4.size
      refine ps_end ?_
      refine blk_n ?_
      refine then_n ?_
      refine sy_reg ?_
      refine rg_plain 2 (opsAt (part_kOverTexts 51)) [0, 1, 2] (by kernel_rfl) (by kernel_rfl) ?_
      refine ps_run ((opsAt (part_kOverTexts 51)).getD 0 default) (.int .i64 ((i : Nat) : Int)) (w' := V4) (by kernel_rfl) (by kernel_rfl) (by kernel_rfl) ?_
      refine ps_run ((opsAt (part_kOverTexts 51)).getD 1 default) (.int .i64 ((i + 1 : Nat) : Int)) (w' := V4) (by kernel_rfl) (by kernel_rfl) (exec_cast (congrArg (Value.int .i64) (wrapN (i + 1) (by omega))) (by kernel_rfl)) ?_
      refine ps_run ((opsAt (part_kOverTexts 51)).getD 2 default) (.int .i64 ((i + 1 : Nat) : Int)) (w' := V4) (by kernel_rfl) (by kernel_rfl) (by kernel_rfl) ?_
      refine ps_end ?_
      refine then_n ?_
      refine ⟨⟨i + 1, ys.setIfInBounds i (.string { data := #[111, 118, 101, 114] }), (.int .i64 ((i : Nat) : Int)), (.slice (some ⟨g, 0, none⟩) n cap), (.int .i64 ((n : Nat) : Int)), (.bool true), (.int .i64 ((i : Nat) : Int)), (.int .i64 ((i + 1 : Nat) : Int)), (.slice (some ⟨g, 0, none⟩) n cap), (.int .i64 ((i : Nat) : Int)), (.pointer (some ⟨g, i, none⟩)), by kernel_rfl, by omega, by simpa using hy, h5, K6⟩, ?_⟩
      exact lt_meas (x := n - (i + 1)) (y := n - i) (by kernel_rfl) (by kernel_rfl) (by omega)
    · skip
      refine sy_seq (part_kOverTexts 24) (part_kOverTexts 25) (by kernel_rfl) ?_
      refine sy_seq (part_kOverTexts 48) (part_kOverTexts 49) (by kernel_rfl) ?_
      refine sy_reg ?_
      refine rg_plain 1 (opsAt (part_kOverTexts 48)) [0, 1, 2, 3] (by kernel_rfl) (by kernel_rfl) ?_
      refine ps_run ((opsAt (part_kOverTexts 48)).getD 0 default) (.int .i64 ((i : Nat) : Int)) (w' := V1) (by kernel_rfl) (by kernel_rfl) (by kernel_rfl) ?_
      refine ps_run ((opsAt (part_kOverTexts 48)).getD 1 default) (.slice (some ⟨g, 0, none⟩) n cap) (w' := V1) (by kernel_rfl) (by kernel_rfl) (by kernel_rfl) ?_
      refine ps_run ((opsAt (part_kOverTexts 48)).getD 2 default) (.int .i64 ((n : Nat) : Int)) (w' := V1) (by kernel_rfl) (by kernel_rfl) (exec_len (.tmp 4) 33 _ (by kernel_rfl) Tryd.underlying33 (some ⟨g, 0, none⟩) n cap (by kernel_rfl)) ?_
      refine ps_run ((opsAt (part_kOverTexts 48)).getD 3 default) (.bool false) (w' := V1) (by kernel_rfl) (by kernel_rfl) (dcf ((((i : Nat) : Int)) < (((n : Nat) : Int))) (by omega)) ?_
      refine ps_end ?_
      refine then_n ?_
      refine sy_no (.tmp 6) (part_kOverTexts 98) (part_kOverTexts 99) (by kernel_rfl) (by kernel_rfl) ?_
      refine sy_exit 0 (by kernel_rfl) ?_
      refine then_e ?_
      refine then_e ?_
      refine blk_e ?_
      refine sy_fall (.tuple #[]) rfl (by kernel_rfl) ?_
      exact ⟨rfl, K3⟩
noncomputable def part_lpawake (n : Nat) : Code := partOf Tryd.f8 n
set_option maxRecDepth 100000 in
set_option maxHeartbeats 4000000 in
theorem lpawake_ok (w : World) (htab : PowTab w) :
    Calls Tryd.prog 8 #[] w (fun e w' => e = .returned (.bool true) ∧ Keeps Nob w w') := by
  obtain ⟨tx, htx⟩ : ∃ t, ptx parDef = t := ⟨_, rfl⟩
  have htz : ((tx.size : Nat) : Int) = 132 := by rw [← htx, parDef_x]; rfl
  have K0 : Keeps Nob w w := Keeps.refl _ _
  refine sy_enter (part_lpawake 1) ⟨#[undef, undef, undef, undef, undef, undef, undef, undef, undef, undef, undef, undef, undef, undef, undef, undef, undef, undef, undef, undef, undef, undef, undef, undef, undef, undef, undef, undef, undef, undef, undef, undef, undef, undef, undef, undef, undef, undef, undef, undef, undef, undef, undef, undef, undef, undef, undef, undef, undef, undef, undef, undef, undef, undef, undef, undef, undef, undef, undef, undef, undef], []⟩ Tryd.func8 (by kernel_rfl) (by kernel_rfl) ?_
  refine sy_seq (part_lpawake 2) (part_lpawake 3) (by kernel_rfl) ?_
  refine sy_reg ?_
  refine rg_plain 0 (opsAt (part_lpawake 2)) [0] (by kernel_rfl) (by kernel_rfl) ?_
  refine ps_run ((opsAt (part_lpawake 2)).getD 0 default) (.bool false) (w' := w) (by kernel_rfl) (by kernel_rfl) (by kernel_rfl) ?_
  refine ps_end ?_
  refine then_n ?_
  refine sy_seq (part_lpawake 6) (part_lpawake 7) (by kernel_rfl) ?_
  refine sy_reg ?_
  refine rg_plain 1 (opsAt (part_lpawake 6)) [0, 1, 2] (by kernel_rfl) (by kernel_rfl) ?_
  refine ps_call ((opsAt (part_lpawake 6)).getD 0 default) 18 #[] (by kernel_rfl) (by kernel_rfl) (by kernel_rfl) (by kernel_rfl) (enters_of Tryd.func18 (by kernel_rfl) rfl) ((pDefault_ok _).mono ?_)
  rintro e V1 ⟨rfl, kV1⟩
  refine ⟨_, rfl, ?_⟩
  have K2 := K0.nn kV1
  have z3 := kV1.size
  obtain ⟨V4, eV4, gp, egp, h5, kV4⟩ := alloc_step V1 (#[.int .i64 0, .int .i64 0, .int .i64 0, .int .i64 0, .int .i64 0, .int .i64 0, .int .i64 0, .int .u64 0, .int .u64 0, .int .i64 0, .int .u64 0]) 24
  have n6 : w.heap.size ≤ gp := egp ▸ K2.size
  refine ps_run ((opsAt (part_lpawake 6)).getD 1 default) (.pointer (some ⟨gp, 0, none⟩)) (w' := V4) (by kernel_rfl) (by kernel_rfl) (by rw [← eV4, ← egp]; exact exec_alloc0 24 (by kernel_rfl) (.agg (#[.int .i64 0, .int .i64 0, .int .i64 0, .int .i64 0, .int .i64 0, .int .i64 0, .int .i64 0, .int .u64 0, .int .u64 0, .int .i64 0, .int .u64 0])) (by kernel_rfl)) ?_
  clear eV4
  have K7 := K2.nn kV4
  have z8 := kV4.size
  obtain ⟨V9, eV9, kV9⟩ := rowset_step V4 gp parDef.cells
  have h10 : V9.heap[gp]? = some (.cells parDef.cells 24 (0, 0)) := eV9 ▸ setRow_heap _ _ _ _ _ _ h5
  refine ps_skip ((opsAt (part_lpawake 6)).getD 2 default) (w' := V9) (by kernel_rfl) (by kernel_rfl) (by rw [← eV9]; exact exec_store_row 24 (.tmp 1) (.tmp 8) (by kernel_rfl) gp parDef.cells (by kernel_rfl) (by kernel_rfl) 24 (#[.int .i64 0, .int .i64 0, .int .i64 0, .int .i64 0, .int .i64 0, .int .i64 0, .int .i64 0, .int .u64 0, .int .u64 0, .int .i64 0, .int .u64 0]) h5 (by kernel_rfl) rfl (by kernel_rfl)) ?_
  clear eV9
  have K11 := K7.no kV9 (by omega)
  have z12 := kV9.size
  refine ps_end ?_
  refine then_n ?_
  refine sy_seq (part_lpawake 14) (part_lpawake 15) (by kernel_rfl) ?_
  refine sy_reg ?_
  refine rg_plain 2 (opsAt (part_lpawake 14)) [0, 1, 2, 3, 4, 5, 6] (by kernel_rfl) (by kernel_rfl) ?_
  refine ps_run ((opsAt (part_lpawake 14)).getD 0 default) (.agg (parDef.cells)) (w' := V9) (by kernel_rfl) (by kernel_rfl) (exec_load_row 24 (.tmp 1) (by kernel_rfl) gp (by kernel_rfl) _ _ (0, 0) _ (h10) Tryd.underlying24 rfl (by kernel_rfl)) ?_
  refine ps_call ((opsAt (part_lpawake 14)).getD 1 default) 11 #[.agg (parDef.cells), .string { data := #[98, 97, 115, 101] }] (by kernel_rfl) (by kernel_rfl) (by kernel_rfl) (by kernel_rfl) (enters_of Tryd.func11 (by kernel_rfl) rfl) ((pGet_is parDef _ _ _ _ parDef_Ok parDef_g).mono ?_)
  rintro e V13 ⟨rfl, kV13⟩
  refine ⟨_, rfl, ?_⟩
  have h14 := kV13.bk h10
  have K15 := K11.nn kV13
  have z16 := kV13.size
  refine ps_run ((opsAt (part_lpawake 14)).getD 2 default) (.tuple #[.int .u64 50000000, .int .i64 0]) (w' := V13) (by kernel_rfl) (by kernel_rfl) (by kernel_rfl) ?_
  refine ps_run ((opsAt (part_lpawake 14)).getD 3 default) (.int .u64 50000000) (w' := V13) (by kernel_rfl) (by kernel_rfl) (by kernel_rfl) ?_
  refine ps_run ((opsAt (part_lpawake 14)).getD 4 default) (.int .i64 0) (w' := V13) (by kernel_rfl) (by kernel_rfl) (by kernel_rfl) ?_
  refine ps_run ((opsAt (part_lpawake 14)).getD 5 default) (.int .u64 50000000) (w' := V13) (by kernel_rfl) (by kernel_rfl) (by kernel_rfl) ?_
  refine ps_run ((opsAt (part_lpawake 14)).getD 6 default) (.int .i64 0) (w' := V13) (by kernel_rfl) (by kernel_rfl) (by kernel_rfl) ?_
  refine ps_end ?_
  refine then_n ?_
  refine sy_seq (part_lpawake 30) (part_lpawake 31) (by kernel_rfl) ?_
  refine sy_reg ?_
  refine rg_plain 3 (opsAt (part_lpawake 30)) [0, 1, 2, 3, 4, 5, 6] (by kernel_rfl) (by kernel_rfl) ?_
  refine ps_run ((opsAt (part_lpawake 30)).getD 0 default) (.agg (parDef.cells)) (w' := V13) (by kernel_rfl) (by kernel_rfl) (exec_load_row 24 (.tmp 1) (by kernel_rfl) gp (by kernel_rfl) _ _ (0, 0) _ (h14) Tryd.underlying24 rfl (by kernel_rfl)) ?_
  refine ps_call ((opsAt (part_lpawake 30)).getD 1 default) 21 #[.agg (parDef.cells)] (by kernel_rfl) (by kernel_rfl) (by kernel_rfl) (by kernel_rfl) (enters_of Tryd.func21 (by kernel_rfl) rfl) ((htx ▸ pText_ok parDef _ parDef_Ok (by rw [parDef_c]) (PowTab.keeps htab K15)).mono ?_)
  rintro e V17 ⟨rfl, kV17⟩
  refine ⟨_, rfl, ?_⟩
  have h18 := kV17.bk h14
  have K19 := K15.nn kV17
  have z20 := kV17.size
  refine ps_run ((opsAt (part_lpawake 30)).getD 2 default) (.tuple #[.string tx, .int .i64 0]) (w' := V17) (by kernel_rfl) (by kernel_rfl) (by kernel_rfl) ?_
  refine ps_run ((opsAt (part_lpawake 30)).getD 3 default) (.string tx) (w' := V17) (by kernel_rfl) (by kernel_rfl) (by kernel_rfl) ?_
  refine ps_run ((opsAt (part_lpawake 30)).getD 4 default) (.int .i64 0) (w' := V17) (by kernel_rfl) (by kernel_rfl) (by kernel_rfl) ?_
  refine ps_run ((opsAt (part_lpawake 30)).getD 5 default) (.string tx) (w' := V17) (by kernel_rfl) (by kernel_rfl) (by kernel_rfl) ?_
  refine ps_run ((opsAt (part_lpawake 30)).getD 6 default) (.int .i64 0) (w' := V17) (by kernel_rfl) (by kernel_rfl) (by kernel_rfl) ?_
  refine ps_end ?_
  refine then_n ?_
  refine sy_seq (part_lpawake 62) (part_lpawake 63) (by kernel_rfl) ?_
  refine sy_reg ?_
  refine rg_plain 4 (opsAt (part_lpawake 62)) [0, 1, 2, 3, 4, 5, 6] (by kernel_rfl) (by kernel_rfl) ?_
  refine ps_run ((opsAt (part_lpawake 62)).getD 0 default) (.agg (parDef.cells)) (w' := V17) (by kernel_rfl) (by kernel_rfl) (exec_load_row 24 (.tmp 1) (by kernel_rfl) gp (by kernel_rfl) _ _ (0, 0) _ (h18) Tryd.underlying24 rfl (by kernel_rfl)) ?_
  refine ps_call ((opsAt (part_lpawake 62)).getD 1 default) 23 #[.agg (parDef.cells)] (by kernel_rfl) (by kernel_rfl) (by kernel_rfl) (by kernel_rfl) (enters_of Tryd.func23 (by kernel_rfl) rfl) ((pBytes_def _).mono ?_)
  rintro e V21 ⟨gb, capb, rfl, kV21⟩
  refine ⟨_, rfl, ?_⟩
  have h22 := kV21.bk h18
  have K23 := K19.nn kV21
  have z24 := kV21.size
  refine ps_run ((opsAt (part_lpawake 62)).getD 2 default) (.tuple #[.slice (some ⟨gb, 0, none⟩) 17 capb, .int .i64 0]) (w' := V21) (by kernel_rfl) (by kernel_rfl) (by kernel_rfl) ?_
  refine ps_run ((opsAt (part_lpawake 62)).getD 3 default) (.slice (some ⟨gb, 0, none⟩) 17 capb) (w' := V21) (by kernel_rfl) (by kernel_rfl) (by kernel_rfl) ?_
  refine ps_run ((opsAt (part_lpawake 62)).getD 4 default) (.int .i64 0) (w' := V21) (by kernel_rfl) (by kernel_rfl) (by kernel_rfl) ?_
  refine ps_run ((opsAt (part_lpawake 62)).getD 5 default) (.slice (some ⟨gb, 0, none⟩) 17 capb) (w' := V21) (by kernel_rfl) (by kernel_rfl) (by kernel_rfl) ?_
  refine ps_run ((opsAt (part_lpawake 62)).getD 6 default) (.int .i64 0) (w' := V21) (by kernel_rfl) (by kernel_rfl) (by kernel_rfl) ?_
  refine ps_end ?_
  refine sy_act ⟨#[.bool false, .pointer (some ⟨gp, 0, none⟩), .int .u64 50000000, .int .i64 0, .string tx, .int .i64 0, .slice (some ⟨gb, 0, none⟩) 17 capb, .int .i64 0, .agg parDef.cells, .tuple #[.int .u64 50000000, .int .i64 0], .agg (parDef.cells), .tuple #[.int .u64 50000000, .int .i64 0], .int .u64 50000000, .int .i64 0, .tuple #[.string tx, .int .i64 0], .agg (parDef.cells), .tuple #[.string tx, .int .i64 0], .string tx, .int .i64 0, .tuple #[.slice (some ⟨gb, 0, none⟩) 17 capb, .int .i64 0], .agg (parDef.cells), .tuple #[.slice (some ⟨gb, 0, none⟩) 17 capb, .int .i64 0], .slice (some ⟨gb, 0, none⟩) 17 capb, .int .i64 0, undef, undef, undef, undef, undef, undef, undef, undef, undef, undef, undef, undef, undef, undef, undef, undef, undef, undef, undef, undef, undef, undef, undef, undef, undef, undef, undef, undef, undef, undef, undef, undef, undef, undef, undef, undef, undef], []⟩ (by kernel_rfl) ?_
  refine then_n ?_
  refine sy_seq (part_lpawake 126) (part_lpawake 127) (by kernel_rfl) ?_
  refine sy_reg ?_
  refine rg_plain 5 (opsAt (part_lpawake 126)) [0, 1, 2, 3, 4, 5, 6, 7, 8, 9, 10, 11, 12, 13, 14, 15, 16, 17, 18, 19, 20, 21, 22, 23, 24, 25, 26, 27, 28, 29, 30, 31, 32, 33, 34, 35, 36, 37] (by kernel_rfl) (by kernel_rfl) ?_
  refine ps_run ((opsAt (part_lpawake 126)).getD 0 default) (.agg (parDef.cells)) (w' := V21) (by kernel_rfl) (by kernel_rfl) (exec_load_row 24 (.tmp 1) (by kernel_rfl) gp (by kernel_rfl) _ _ (0, 0) _ (h22) Tryd.underlying24 rfl (by kernel_rfl)) ?_
  refine ps_call ((opsAt (part_lpawake 126)).getD 1 default) 31 #[.agg (parDef.cells), .int .i64 0, .int .i64 0] (by kernel_rfl) (by kernel_rfl) (by kernel_rfl) (by kernel_rfl) (enters_of Tryd.func31 (by kernel_rfl) rfl) ((lpchecks_ok parDef 0 0 _ parDef_Ok (by rw [parDef_c]) (by rw [parDef_c])).mono ?_)
  rintro e V25 ⟨rfl, kV25⟩
  refine ⟨_, rfl, ?_⟩
  have h26 := kV25.bk h22
  have K27 := K23.nn kV25
  have z28 := kV25.size
  refine ps_run ((opsAt (part_lpawake 126)).getD 2 default) (.bool true) (w' := V25) (by kernel_rfl) (by kernel_rfl) (by kernel_rfl) ?_
  refine ps_run ((opsAt (part_lpawake 126)).getD 3 default) (.int .u64 50000000) (w' := V25) (by kernel_rfl) (by kernel_rfl) (by kernel_rfl) ?_
  refine ps_run ((opsAt (part_lpawake 126)).getD 4 default) (.bool true) (w' := V25) (by kernel_rfl) (by kernel_rfl) (by kernel_rfl) ?_
  refine ps_run ((opsAt (part_lpawake 126)).getD 5 default) (.bool true) (w' := V25) (by kernel_rfl) (by kernel_rfl) (by kernel_rfl) ?_
  refine ps_run ((opsAt (part_lpawake 126)).getD 6 default) (.bool true) (w' := V25) (by kernel_rfl) (by kernel_rfl) (by kernel_rfl) ?_
  refine ps_run ((opsAt (part_lpawake 126)).getD 7 default) (.int .i64 0) (w' := V25) (by kernel_rfl) (by kernel_rfl) (by kernel_rfl) ?_
  refine ps_run ((opsAt (part_lpawake 126)).getD 8 default) (.bool true) (w' := V25) (by kernel_rfl) (by kernel_rfl) (by kernel_rfl) ?_
  refine ps_run ((opsAt (part_lpawake 126)).getD 9 default) (.bool true) (w' := V25) (by kernel_rfl) (by kernel_rfl) (by kernel_rfl) ?_
  refine ps_run ((opsAt (part_lpawake 126)).getD 10 default) (.bool true) (w' := V25) (by kernel_rfl) (by kernel_rfl) (by kernel_rfl) ?_
  refine ps_run ((opsAt (part_lpawake 126)).getD 11 default) (.string tx) (w' := V25) (by kernel_rfl) (by kernel_rfl) (by kernel_rfl) ?_
  refine ps_run ((opsAt (part_lpawake 126)).getD 12 default) (.int .i64 132) (w' := V25) (by kernel_rfl) (by kernel_rfl) (exec_cast (congrArg (Value.int .i64) htz) (exec_len_str (.tmp 35) 9 (by kernel_rfl) Tryd.underlying9 tx (by kernel_rfl))) ?_
  refine ps_run ((opsAt (part_lpawake 126)).getD 13 default) (.bool true) (w' := V25) (by kernel_rfl) (by kernel_rfl) (by kernel_rfl) ?_
  refine ps_run ((opsAt (part_lpawake 126)).getD 14 default) (.bool true) (w' := V25) (by kernel_rfl) (by kernel_rfl) (by kernel_rfl) ?_
  refine ps_run ((opsAt (part_lpawake 126)).getD 15 default) (.bool true) (w' := V25) (by kernel_rfl) (by kernel_rfl) (by kernel_rfl) ?_
  refine ps_run ((opsAt (part_lpawake 126)).getD 16 default) (.int .i64 0) (w' := V25) (by kernel_rfl) (by kernel_rfl) (by kernel_rfl) ?_
  refine ps_run ((opsAt (part_lpawake 126)).getD 17 default) (.bool true) (w' := V25) (by kernel_rfl) (by kernel_rfl) (by kernel_rfl) ?_
  refine ps_run ((opsAt (part_lpawake 126)).getD 18 default) (.bool true) (w' := V25) (by kernel_rfl) (by kernel_rfl) (by kernel_rfl) ?_
  refine ps_run ((opsAt (part_lpawake 126)).getD 19 default) (.bool true) (w' := V25) (by kernel_rfl) (by kernel_rfl) (by kernel_rfl) ?_
  refine ps_run ((opsAt (part_lpawake 126)).getD 20 default) (.slice (some ⟨gb, 0, none⟩) 17 capb) (w' := V25) (by kernel_rfl) (by kernel_rfl) (by kernel_rfl) ?_
  refine ps_run ((opsAt (part_lpawake 126)).getD 21 default) (.int .i64 17) (w' := V25) (by kernel_rfl) (by kernel_rfl) (exec_len (.tmp 44) 39 _ (by kernel_rfl) Tryd.underlying39 (some ⟨gb, 0, none⟩) 17 capb (by kernel_rfl)) ?_
  refine ps_run ((opsAt (part_lpawake 126)).getD 22 default) (.bool true) (w' := V25) (by kernel_rfl) (by kernel_rfl) (by kernel_rfl) ?_
  refine ps_run ((opsAt (part_lpawake 126)).getD 23 default) (.bool true) (w' := V25) (by kernel_rfl) (by kernel_rfl) (by kernel_rfl) ?_
  refine ps_run ((opsAt (part_lpawake 126)).getD 24 default) (.bool true) (w' := V25) (by kernel_rfl) (by kernel_rfl) (by kernel_rfl) ?_
  refine ps_run ((opsAt (part_lpawake 126)).getD 25 default) (.int .i64 0) (w' := V25) (by kernel_rfl) (by kernel_rfl) (by kernel_rfl) ?_
  refine ps_run ((opsAt (part_lpawake 126)).getD 26 default) (.bool true) (w' := V25) (by kernel_rfl) (by kernel_rfl) (by kernel_rfl) ?_
  refine ps_run ((opsAt (part_lpawake 126)).getD 27 default) (.bool true) (w' := V25) (by kernel_rfl) (by kernel_rfl) (by kernel_rfl) ?_
  refine ps_run ((opsAt (part_lpawake 126)).getD 28 default) (.bool true) (w' := V25) (by kernel_rfl) (by kernel_rfl) (by kernel_rfl) ?_
  refine ps_run ((opsAt (part_lpawake 126)).getD 29 default) (.pointer (some ⟨gp, 0, none⟩)) (w' := V25) (by kernel_rfl) (by kernel_rfl) (by kernel_rfl) ?_
  refine ps_run ((opsAt (part_lpawake 126)).getD 30 default) (.int .i64 100) (w' := V25) (by kernel_rfl) (by kernel_rfl) (exec_load_cell 3 (.tmp 53) (by kernel_rfl) ⟨gp, 0, none⟩ (by kernel_rfl) _ _ Tryd.underlying3 rfl ((cell_of_row _ _ _ _ _ _ (h26)).trans (rfl))) ?_
  refine ps_run ((opsAt (part_lpawake 126)).getD 31 default) (.bool true) (w' := V25) (by kernel_rfl) (by kernel_rfl) (by kernel_rfl) ?_
  refine ps_run ((opsAt (part_lpawake 126)).getD 32 default) (.bool true) (w' := V25) (by kernel_rfl) (by kernel_rfl) (by kernel_rfl) ?_
  refine ps_run ((opsAt (part_lpawake 126)).getD 33 default) (.bool true) (w' := V25) (by kernel_rfl) (by kernel_rfl) (by kernel_rfl) ?_
  refine ps_run ((opsAt (part_lpawake 126)).getD 34 default) (.agg parZ.cells) (w' := V25) (by kernel_rfl) (by kernel_rfl) (by kernel_rfl) ?_
  refine ps_call ((opsAt (part_lpawake 126)).getD 35 default) 31 #[.agg parZ.cells, .int .i64 3, .int .i64 0] (by kernel_rfl) (by kernel_rfl) (by kernel_rfl) (by kernel_rfl) (enters_of Tryd.func31 (by kernel_rfl) rfl) ((lpchecks_ok parZ 3 0 _ parZ_Ok (by rw [parZ_c]) (by rw [parZ_c])).mono ?_)
  rintro e V29 ⟨rfl, kV29⟩
  refine ⟨_, rfl, ?_⟩
  have h30 := kV29.bk h26
  have K31 := K27.nn kV29
  have z32 := kV29.size
  refine ps_run ((opsAt (part_lpawake 126)).getD 36 default) (.bool true) (w' := V29) (by kernel_rfl) (by kernel_rfl) (by kernel_rfl) ?_
  refine ps_run ((opsAt (part_lpawake 126)).getD 37 default) (.bool true) (w' := V29) (by kernel_rfl) (by kernel_rfl) (by kernel_rfl) ?_
  refine ps_end ?_
  refine sy_act ⟨#[.bool true, .pointer (some ⟨gp, 0, none⟩), .int .u64 50000000, .int .i64 0, .string tx, .int .i64 0, .slice (some ⟨gb, 0, none⟩) 17 capb, .int .i64 0, .agg parDef.cells, .tuple #[.int .u64 50000000, .int .i64 0], .agg (parDef.cells), .tuple #[.int .u64 50000000, .int .i64 0], .int .u64 50000000, .int .i64 0, .tuple #[.string tx, .int .i64 0], .agg (parDef.cells), .tuple #[.string tx, .int .i64 0], .string tx, .int .i64 0, .tuple #[.slice (some ⟨gb, 0, none⟩) 17 capb, .int .i64 0], .agg (parDef.cells), .tuple #[.slice (some ⟨gb, 0, none⟩) 17 capb, .int .i64 0], .slice (some ⟨gb, 0, none⟩) 17 capb, .int .i64 0, .agg (parDef.cells), .bool true, .bool true, .int .u64 50000000, .bool true, .bool true, .bool true, .int .i64 0, .bool true, .bool true, .bool true, .string tx, .int .i64 132, .bool true, .bool true, .bool true, .int .i64 0, .bool true, .bool true, .bool true, .slice (some ⟨gb, 0, none⟩) 17 capb, .int .i64 17, .bool true, .bool true, .bool true, .int .i64 0, .bool true, .bool true, .bool true, .pointer (some ⟨gp, 0, none⟩), .int .i64 100, .bool true, .bool true, .bool true, .agg parZ.cells, .bool true, .bool true], []⟩ (by kernel_rfl) ?_
  refine then_n ?_
  refine sy_ret (by kernel_rfl) ?_
  refine sy_out (.bool true) rfl (by kernel_rfl) ?_
  exact ⟨rfl, K31⟩
theorem row_size {w : World} {T : TypeId} {n m g cap : Nat} {xs : List Value} {cs : Array Value} (h : Row w T 1 (.slice (some ⟨g, 0, none⟩) n cap) m xs) (hc : w.heap[g]? = some (.cells cs T (0, 0))) : n ≤ cs.size := by
  rcases h.2 with ⟨e, _⟩ | ⟨g', cap', cur, e, hb, hg, h1, h2, h3, h4⟩
  · cases e
  · simp only [Value.slice.injEq, Option.some.injEq, Addr.mk.injEq, and_true] at e
    obtain ⟨rfl, rfl, rfl⟩ := e
    rw [hc] at hg
    simp only [Option.some.injEq, Obj.cells.injEq, and_true] at hg
    subst hg; omega
noncomputable def part_ParamsTell (n : Nat) : Code := partOf Tryd.f3 n
set_option maxRecDepth 100000 in
set_option maxHeartbeats 4000000 in
theorem tell_long (p : Par) (s : ByteArray) (n : Nat) (w : World) (hp : p.Ok) (hs : 40 < s.size) (htab : PowTab w) :
    Calls Tryd.prog 3 #[.agg p.cells, .string s, .int .u64 ((n : Nat) : Int)] w (fun e w' => e = .returned (.bool true) ∧ Keeps Nob w w') := by
  have K0 : Keeps Nob w w := Keeps.refl _ _
  refine sy_enter (part_ParamsTell 1) ⟨#[.agg p.cells, .string s, .int .u64 ((n : Nat) : Int), undef, undef, undef, undef, undef, undef, undef, undef, undef, undef, undef, undef, undef, undef, undef, undef, undef, undef, undef, undef, undef, undef, undef, undef, undef, undef, undef, undef, undef, undef, undef, undef, undef, undef, undef, undef, undef, undef, undef, undef, undef, undef, undef, undef, undef, undef, undef, undef, undef, undef, undef, undef, undef, undef, undef, undef, undef, undef, undef, undef, undef, undef, undef, undef, undef, undef, undef, undef, undef, undef, undef, undef, undef, undef, undef, undef, undef, undef, undef, undef, undef, undef, undef, undef, undef, undef, undef, undef, undef, undef, undef, undef, undef, undef, undef, undef, undef, undef, undef, undef, undef, undef, undef, undef, undef, undef, undef, undef], []⟩ Tryd.func3 (by kernel_rfl) (by kernel_rfl) ?_
  refine sy_seq (part_ParamsTell 2) (part_ParamsTell 3) (by kernel_rfl) ?_
  refine sy_reg ?_
  refine rg_plain 0 (opsAt (part_ParamsTell 2)) [0, 1] (by kernel_rfl) (by kernel_rfl) ?_
  obtain ⟨V1, eV1, gp, egp, h2, kV1⟩ := alloc_step w p.cells 24
  have n3 : w.heap.size ≤ gp := egp ▸ K0.size
  refine ps_run ((opsAt (part_ParamsTell 2)).getD 0 default) (.pointer (some ⟨gp, 0, none⟩)) (w' := V1) (by kernel_rfl) (by kernel_rfl) (by rw [← eV1, ← egp]; exact exec_box 24 (.tmp 0) (by kernel_rfl) (.agg p.cells) (by kernel_rfl)) ?_
  clear eV1
  have K4 := K0.nn kV1
  have z5 := kV1.size
  refine ps_run ((opsAt (part_ParamsTell 2)).getD 1 default) (.bool false) (w' := V1) (by kernel_rfl) (by kernel_rfl) (by kernel_rfl) ?_
  refine ps_end ?_
  refine then_n ?_
  refine sy_seq (part_ParamsTell 6) (part_ParamsTell 7) (by kernel_rfl) ?_
  refine sy_seq (part_ParamsTell 12) (part_ParamsTell 13) (by kernel_rfl) ?_
  refine sy_reg ?_
  refine rg_plain 1 (opsAt (part_ParamsTell 12)) [0, 1, 2] (by kernel_rfl) (by kernel_rfl) ?_
  refine ps_run ((opsAt (part_ParamsTell 12)).getD 0 default) (.string s) (w' := V1) (by kernel_rfl) (by kernel_rfl) (by kernel_rfl) ?_
  refine ps_run ((opsAt (part_ParamsTell 12)).getD 1 default) (.int .i64 ((s.size : Nat) : Int)) (w' := V1) (by kernel_rfl) (by kernel_rfl) (exec_len_str (.tmp 21) 9 (by kernel_rfl) Tryd.underlying9 s (by kernel_rfl)) ?_
  refine ps_run ((opsAt (part_ParamsTell 12)).getD 2 default) (.bool true) (w' := V1) (by kernel_rfl) (by kernel_rfl) (dct ((((s.size : Nat) : Int)) > ((40) : Int)) (by omega)) ?_
  refine ps_end ?_
  refine then_n ?_
  refine sy_yes (.tmp 23) (part_ParamsTell 26) (part_ParamsTell 27) (by kernel_rfl) (by kernel_rfl) ?_
  refine sy_seq (part_ParamsTell 52) (part_ParamsTell 53) (by kernel_rfl) ?_
  refine sy_reg ?_
  refine rg_plain 2 (opsAt (part_ParamsTell 52)) [0, 1] (by kernel_rfl) (by kernel_rfl) ?_
  refine ps_call ((opsAt (part_ParamsTell 52)).getD 0 default) 8 #[] (by kernel_rfl) (by kernel_rfl) (by kernel_rfl) (by kernel_rfl) (enters_of Tryd.func8 (by kernel_rfl) rfl) ((lpawake_ok _ (PowTab.keeps htab K4)).mono ?_)
  rintro e V6 ⟨rfl, kV6⟩
  refine ⟨_, rfl, ?_⟩
  have h7 := kV6.bk h2
  have K8 := K4.nn kV6
  have z9 := kV6.size
  refine ps_run ((opsAt (part_ParamsTell 52)).getD 1 default) (.bool true) (w' := V6) (by kernel_rfl) (by kernel_rfl) (by kernel_rfl) ?_
  refine ps_end ?_
  refine then_n ?_
  refine sy_ret (by kernel_rfl) ?_
  refine then_r ?_
  refine sy_out (.bool true) rfl (by kernel_rfl) ?_
  exact ⟨rfl, K8⟩
set_option maxRecDepth 100000 in
set_option maxHeartbeats 4000000 in
theorem tell_short (p : Par) (s : ByteArray) (n : Nat) (w : World) (hp : p.Ok) (hs : s.size ≤ 40) (htab : PowTab w) :
    Calls Tryd.prog 3 #[.agg p.cells, .string s, .int .u64 ((n : Nat) : Int)] w (fun e w' => e = .returned (.bool true) ∧ Keeps Nob w w') := by
  obtain ⟨ps, hps⟩ : ∃ x, pset p s n = x := ⟨_, rfl⟩
  have K0 : Keeps Nob w w := Keeps.refl _ _
  refine sy_enter (part_ParamsTell 1) ⟨#[.agg p.cells, .string s, .int .u64 ((n : Nat) : Int), undef, undef, undef, undef, undef, undef, undef, undef, undef, undef, undef, undef, undef, undef, undef, undef, undef, undef, undef, undef, undef, undef, undef, undef, undef, undef, undef, undef, undef, undef, undef, undef, undef, undef, undef, undef, undef, undef, undef, undef, undef, undef, undef, undef, undef, undef, undef, undef, undef, undef, undef, undef, undef, undef, undef, undef, undef, undef, undef, undef, undef, undef, undef, undef, undef, undef, undef, undef, undef, undef, undef, undef, undef, undef, undef, undef, undef, undef, undef, undef, undef, undef, undef, undef, undef, undef, undef, undef, undef, undef, undef, undef, undef, undef, undef, undef, undef, undef, undef, undef, undef, undef, undef, undef, undef, undef, undef, undef], []⟩ Tryd.func3 (by kernel_rfl) (by kernel_rfl) ?_
  refine sy_seq (part_ParamsTell 2) (part_ParamsTell 3) (by kernel_rfl) ?_
  refine sy_reg ?_
  refine rg_plain 0 (opsAt (part_ParamsTell 2)) [0, 1] (by kernel_rfl) (by kernel_rfl) ?_
  obtain ⟨V1, eV1, gp, egp, h2, kV1⟩ := alloc_step w p.cells 24
  have n3 : w.heap.size ≤ gp := egp ▸ K0.size
  refine ps_run ((opsAt (part_ParamsTell 2)).getD 0 default) (.pointer (some ⟨gp, 0, none⟩)) (w' := V1) (by kernel_rfl) (by kernel_rfl) (by rw [← eV1, ← egp]; exact exec_box 24 (.tmp 0) (by kernel_rfl) (.agg p.cells) (by kernel_rfl)) ?_
  clear eV1
  have K4 := K0.nn kV1
  have z5 := kV1.size
  refine ps_run ((opsAt (part_ParamsTell 2)).getD 1 default) (.bool false) (w' := V1) (by kernel_rfl) (by kernel_rfl) (by kernel_rfl) ?_
  refine ps_end ?_
  refine then_n ?_
  refine sy_seq (part_ParamsTell 6) (part_ParamsTell 7) (by kernel_rfl) ?_
  refine sy_seq (part_ParamsTell 12) (part_ParamsTell 13) (by kernel_rfl) ?_
  refine sy_reg ?_
  refine rg_plain 1 (opsAt (part_ParamsTell 12)) [0, 1, 2] (by kernel_rfl) (by kernel_rfl) ?_
  refine ps_run ((opsAt (part_ParamsTell 12)).getD 0 default) (.string s) (w' := V1) (by kernel_rfl) (by kernel_rfl) (by kernel_rfl) ?_
  refine ps_run ((opsAt (part_ParamsTell 12)).getD 1 default) (.int .i64 ((s.size : Nat) : Int)) (w' := V1) (by kernel_rfl) (by kernel_rfl) (exec_len_str (.tmp 21) 9 (by kernel_rfl) Tryd.underlying9 s (by kernel_rfl)) ?_
  refine ps_run ((opsAt (part_ParamsTell 12)).getD 2 default) (.bool false) (w' := V1) (by kernel_rfl) (by kernel_rfl) (dcf ((((s.size : Nat) : Int)) > ((40) : Int)) (by omega)) ?_
  refine ps_end ?_
  refine then_n ?_
  refine sy_no (.tmp 23) (part_ParamsTell 26) (part_ParamsTell 27) (by kernel_rfl) (by kernel_rfl) ?_
  refine sy_skip (by kernel_rfl) ?_
  refine then_n ?_
  refine sy_seq (part_ParamsTell 14) (part_ParamsTell 15) (by kernel_rfl) ?_
  refine sy_reg ?_
  refine rg_plain 3 (opsAt (part_ParamsTell 14)) [0, 1, 2, 3, 4, 5, 6] (by kernel_rfl) (by kernel_rfl) ?_
  refine ps_run ((opsAt (part_ParamsTell 14)).getD 0 default) (.agg (p.cells)) (w' := V1) (by kernel_rfl) (by kernel_rfl) (exec_load_row 24 (.tmp 3) (by kernel_rfl) gp (by kernel_rfl) _ _ (0, 0) _ (h2) Tryd.underlying24 rfl (by kernel_rfl)) ?_
  refine ps_call ((opsAt (part_ParamsTell 14)).getD 1 default) 9 #[.agg (p.cells)] (by kernel_rfl) (by kernel_rfl) (by kernel_rfl) (by kernel_rfl) (enters_of Tryd.func9 (by kernel_rfl) rfl) ((pCheck_is p _ _ hp rfl).mono ?_)
  rintro e V6 ⟨rfl, kV6⟩
  refine ⟨_, rfl, ?_⟩
  have h7 := kV6.bk h2
  have K8 := K4.nn kV6
  have z9 := kV6.size
  refine ps_run ((opsAt (part_ParamsTell 14)).getD 2 default) (.tuple #[.int .i64 p.check.1, .int .i64 p.check.2]) (w' := V6) (by kernel_rfl) (by kernel_rfl) (by kernel_rfl) ?_
  refine ps_run ((opsAt (part_ParamsTell 14)).getD 3 default) (.int .i64 p.check.1) (w' := V6) (by kernel_rfl) (by kernel_rfl) (by kernel_rfl) ?_
  refine ps_run ((opsAt (part_ParamsTell 14)).getD 4 default) (.int .i64 p.check.2) (w' := V6) (by kernel_rfl) (by kernel_rfl) (by kernel_rfl) ?_
  refine ps_run ((opsAt (part_ParamsTell 14)).getD 5 default) (.int .i64 p.check.1) (w' := V6) (by kernel_rfl) (by kernel_rfl) (by kernel_rfl) ?_
  refine ps_run ((opsAt (part_ParamsTell 14)).getD 6 default) (.int .i64 p.check.2) (w' := V6) (by kernel_rfl) (by kernel_rfl) (by kernel_rfl) ?_
  refine ps_end ?_
  refine then_n ?_
  refine sy_seq (part_ParamsTell 30) (part_ParamsTell 31) (by kernel_rfl) ?_
  refine sy_reg ?_
  refine rg_plain 4 (opsAt (part_ParamsTell 30)) [0, 1, 2, 3, 4, 5, 6] (by kernel_rfl) (by kernel_rfl) ?_
  refine ps_run ((opsAt (part_ParamsTell 30)).getD 0 default) (.agg (p.cells)) (w' := V6) (by kernel_rfl) (by kernel_rfl) (exec_load_row 24 (.tmp 3) (by kernel_rfl) gp (by kernel_rfl) _ _ (0, 0) _ (h7) Tryd.underlying24 rfl (by kernel_rfl)) ?_
  refine ps_call ((opsAt (part_ParamsTell 30)).getD 1 default) 10 #[.agg (p.cells)] (by kernel_rfl) (by kernel_rfl) (by kernel_rfl) (by kernel_rfl) (enters_of Tryd.func10 (by kernel_rfl) rfl) ((r7Check_is p _ _ hp rfl).mono ?_)
  rintro e V10 ⟨rfl, kV10⟩
  refine ⟨_, rfl, ?_⟩
  have h11 := kV10.bk h7
  have K12 := K8.nn kV10
  have z13 := kV10.size
  refine ps_run ((opsAt (part_ParamsTell 30)).getD 2 default) (.tuple #[.int .i64 p.check.1, .int .i64 p.check.2]) (w' := V10) (by kernel_rfl) (by kernel_rfl) (by kernel_rfl) ?_
  refine ps_run ((opsAt (part_ParamsTell 30)).getD 3 default) (.int .i64 p.check.1) (w' := V10) (by kernel_rfl) (by kernel_rfl) (by kernel_rfl) ?_
  refine ps_run ((opsAt (part_ParamsTell 30)).getD 4 default) (.int .i64 p.check.2) (w' := V10) (by kernel_rfl) (by kernel_rfl) (by kernel_rfl) ?_
  refine ps_run ((opsAt (part_ParamsTell 30)).getD 5 default) (.int .i64 p.check.1) (w' := V10) (by kernel_rfl) (by kernel_rfl) (by kernel_rfl) ?_
  refine ps_run ((opsAt (part_ParamsTell 30)).getD 6 default) (.int .i64 p.check.2) (w' := V10) (by kernel_rfl) (by kernel_rfl) (by kernel_rfl) ?_
  refine ps_end ?_
  refine then_n ?_
  refine sy_seq (part_ParamsTell 62) (part_ParamsTell 63) (by kernel_rfl) ?_
  refine sy_reg ?_
  refine rg_plain 5 (opsAt (part_ParamsTell 62)) [0, 1, 2, 3, 4, 5, 6, 7] (by kernel_rfl) (by kernel_rfl) ?_
  refine ps_run ((opsAt (part_ParamsTell 62)).getD 0 default) (.agg (p.cells)) (w' := V10) (by kernel_rfl) (by kernel_rfl) (exec_load_row 24 (.tmp 3) (by kernel_rfl) gp (by kernel_rfl) _ _ (0, 0) _ (h11) Tryd.underlying24 rfl (by kernel_rfl)) ?_
  refine ps_run ((opsAt (part_ParamsTell 62)).getD 1 default) (.string s) (w' := V10) (by kernel_rfl) (by kernel_rfl) (by kernel_rfl) ?_
  refine ps_call ((opsAt (part_ParamsTell 62)).getD 2 default) 11 #[.agg (p.cells), .string s] (by kernel_rfl) (by kernel_rfl) (by kernel_rfl) (by kernel_rfl) (enters_of Tryd.func11 (by kernel_rfl) rfl) ((pGet_ok p s _ hp).mono ?_)
  rintro e V14 ⟨rfl, kV14⟩
  refine ⟨_, rfl, ?_⟩
  have h15 := kV14.bk h11
  have K16 := K12.nn kV14
  have z17 := kV14.size
  refine ps_run ((opsAt (part_ParamsTell 62)).getD 3 default) (.tuple #[.int .u64 (pget p s).1, .int .i64 (pget p s).2]) (w' := V14) (by kernel_rfl) (by kernel_rfl) (by kernel_rfl) ?_
  refine ps_run ((opsAt (part_ParamsTell 62)).getD 4 default) (.int .u64 (pget p s).1) (w' := V14) (by kernel_rfl) (by kernel_rfl) (by kernel_rfl) ?_
  refine ps_run ((opsAt (part_ParamsTell 62)).getD 5 default) (.int .i64 (pget p s).2) (w' := V14) (by kernel_rfl) (by kernel_rfl) (by kernel_rfl) ?_
  refine ps_run ((opsAt (part_ParamsTell 62)).getD 6 default) (.int .u64 (pget p s).1) (w' := V14) (by kernel_rfl) (by kernel_rfl) (by kernel_rfl) ?_
  refine ps_run ((opsAt (part_ParamsTell 62)).getD 7 default) (.int .i64 (pget p s).2) (w' := V14) (by kernel_rfl) (by kernel_rfl) (by kernel_rfl) ?_
  refine ps_end ?_
  refine sy_act ⟨#[.agg p.cells, .string s, .int .u64 ((n : Nat) : Int), .pointer (some ⟨gp, 0, none⟩), undef, undef, .bool false, .int .i64 p.check.1, .int .i64 p.check.2, .int .i64 p.check.1, .int .i64 p.check.2, .int .u64 (pget p s).1, .int .i64 (pget p s).2, undef, undef, undef, undef, undef, undef, undef, undef, .string s, .int .i64 ((s.size : Nat) : Int), .bool false, undef, .tuple #[.int .i64 p.check.1, .int .i64 p.check.2], .agg (p.cells), .tuple #[.int .i64 p.check.1, .int .i64 p.check.2], .int .i64 p.check.1, .int .i64 p.check.2, .tuple #[.int .i64 p.check.1, .int .i64 p.check.2], .agg (p.cells), .tuple #[.int .i64 p.check.1, .int .i64 p.check.2], .int .i64 p.check.1, .int .i64 p.check.2, .tuple #[.int .u64 (pget p s).1, .int .i64 (pget p s).2], .agg (p.cells), .string s, .tuple #[.int .u64 (pget p s).1, .int .i64 (pget p s).2], .int .u64 (pget p s).1, .int .i64 (pget p s).2, undef, undef, undef, undef, undef, undef, undef, undef, undef, undef, undef, undef, undef, undef, undef, undef, undef, undef, undef, undef, undef, undef, undef, undef, undef, undef, undef, undef, undef, undef, undef, undef, undef, undef, undef, undef, undef, undef, undef, undef, undef, undef, undef, undef, undef, undef, undef, undef, undef, undef, undef, undef, undef, undef, undef, undef, undef, undef, undef, undef, undef, undef, undef, undef, undef, undef, undef, undef, undef, undef], []⟩ (by kernel_rfl) ?_
  refine then_n ?_
  refine sy_seq (part_ParamsTell 126) (part_ParamsTell 127) (by kernel_rfl) ?_
  refine sy_reg ?_
  refine rg_plain 6 (opsAt (part_ParamsTell 126)) [0, 1, 2, 3, 4, 5, 6, 7] (by kernel_rfl) (by kernel_rfl) ?_
  refine ps_run ((opsAt (part_ParamsTell 126)).getD 0 default) (.agg (p.cells)) (w' := V14) (by kernel_rfl) (by kernel_rfl) (exec_load_row 24 (.tmp 3) (by kernel_rfl) gp (by kernel_rfl) _ _ (0, 0) _ (h15) Tryd.underlying24 rfl (by kernel_rfl)) ?_
  refine ps_run ((opsAt (part_ParamsTell 126)).getD 1 default) (.string s) (w' := V14) (by kernel_rfl) (by kernel_rfl) (by kernel_rfl) ?_
  refine ps_call ((opsAt (part_ParamsTell 126)).getD 2 default) 12 #[.agg (p.cells), .string s] (by kernel_rfl) (by kernel_rfl) (by kernel_rfl) (by kernel_rfl) (enters_of Tryd.func12 (by kernel_rfl) rfl) ((r7Get_ok p s _ hp).mono ?_)
  rintro e V18 ⟨rfl, kV18⟩
  refine ⟨_, rfl, ?_⟩
  have h19 := kV18.bk h15
  have K20 := K16.nn kV18
  have z21 := kV18.size
  refine ps_run ((opsAt (part_ParamsTell 126)).getD 3 default) (.tuple #[.int .u64 (pget p s).1, .int .i64 (pget p s).2]) (w' := V18) (by kernel_rfl) (by kernel_rfl) (by kernel_rfl) ?_
  refine ps_run ((opsAt (part_ParamsTell 126)).getD 4 default) (.int .u64 (pget p s).1) (w' := V18) (by kernel_rfl) (by kernel_rfl) (by kernel_rfl) ?_
  refine ps_run ((opsAt (part_ParamsTell 126)).getD 5 default) (.int .i64 (pget p s).2) (w' := V18) (by kernel_rfl) (by kernel_rfl) (by kernel_rfl) ?_
  refine ps_run ((opsAt (part_ParamsTell 126)).getD 6 default) (.int .u64 (pget p s).1) (w' := V18) (by kernel_rfl) (by kernel_rfl) (by kernel_rfl) ?_
  refine ps_run ((opsAt (part_ParamsTell 126)).getD 7 default) (.int .i64 (pget p s).2) (w' := V18) (by kernel_rfl) (by kernel_rfl) (by kernel_rfl) ?_
  refine ps_end ?_
  refine then_n ?_
  refine sy_seq (part_ParamsTell 254) (part_ParamsTell 255) (by kernel_rfl) ?_
  refine sy_reg ?_
  refine rg_plain 7 (opsAt (part_ParamsTell 254)) [0, 1, 2, 3, 4, 5, 6, 7, 8, 9] (by kernel_rfl) (by kernel_rfl) ?_
  refine ps_run ((opsAt (part_ParamsTell 254)).getD 0 default) (.agg (p.cells)) (w' := V18) (by kernel_rfl) (by kernel_rfl) (exec_load_row 24 (.tmp 3) (by kernel_rfl) gp (by kernel_rfl) _ _ (0, 0) _ (h19) Tryd.underlying24 rfl (by kernel_rfl)) ?_
  refine ps_run ((opsAt (part_ParamsTell 254)).getD 1 default) (.string s) (w' := V18) (by kernel_rfl) (by kernel_rfl) (by kernel_rfl) ?_
  refine ps_run ((opsAt (part_ParamsTell 254)).getD 2 default) (.int .u64 ((n : Nat) : Int)) (w' := V18) (by kernel_rfl) (by kernel_rfl) (by kernel_rfl) ?_
  refine ps_call ((opsAt (part_ParamsTell 254)).getD 3 default) 13 #[.agg (p.cells), .string s, .int .u64 ((n : Nat) : Int)] (by kernel_rfl) (by kernel_rfl) (by kernel_rfl) (by kernel_rfl) (enters_of Tryd.func13 (by kernel_rfl) rfl) ((hps ▸ pSet_ok p s n _ hp).mono ?_)
  rintro e V22 ⟨rfl, kV22⟩
  refine ⟨_, rfl, ?_⟩
  have h23 := kV22.bk h19
  have K24 := K20.nn kV22
  have z25 := kV22.size
  refine ps_run ((opsAt (part_ParamsTell 254)).getD 4 default) (.tuple #[.agg ps.1.cells, .int .i64 ps.2]) (w' := V22) (by kernel_rfl) (by kernel_rfl) (by kernel_rfl) ?_
  refine ps_run ((opsAt (part_ParamsTell 254)).getD 5 default) (.agg ps.1.cells) (w' := V22) (by kernel_rfl) (by kernel_rfl) (by kernel_rfl) ?_
  refine ps_run ((opsAt (part_ParamsTell 254)).getD 6 default) (.int .i64 ps.2) (w' := V22) (by kernel_rfl) (by kernel_rfl) (by kernel_rfl) ?_
  obtain ⟨V26, eV26, ga, ega, h27, kV26⟩ := alloc_step V22 (#[.int .i64 0, .int .i64 0, .int .i64 0, .int .i64 0, .int .i64 0, .int .i64 0, .int .i64 0, .int .u64 0, .int .u64 0, .int .i64 0, .int .u64 0]) 24
  have n28 : gp < ga := ega ▸ lt_of_block h23
  have n29 : w.heap.size ≤ ga := ega ▸ K24.size
  refine ps_run ((opsAt (part_ParamsTell 254)).getD 7 default) (.pointer (some ⟨ga, 0, none⟩)) (w' := V26) (by kernel_rfl) (by kernel_rfl) (by rw [← eV26, ← ega]; exact exec_alloc0 24 (by kernel_rfl) (.agg (#[.int .i64 0, .int .i64 0, .int .i64 0, .int .i64 0, .int .i64 0, .int .i64 0, .int .i64 0, .int .u64 0, .int .u64 0, .int .i64 0, .int .u64 0])) (by kernel_rfl)) ?_
  clear eV26
  have h30 := kV26.bk h23
  have K31 := K24.nn kV26
  have z32 := kV26.size
  obtain ⟨V33, eV33, kV33⟩ := rowset_step V26 ga ps.1.cells
  have h34 : V33.heap[ga]? = some (.cells ps.1.cells 24 (0, 0)) := eV33 ▸ setRow_heap _ _ _ _ _ _ h27
  refine ps_skip ((opsAt (part_ParamsTell 254)).getD 8 default) (w' := V33) (by kernel_rfl) (by kernel_rfl) (by rw [← eV33]; exact exec_store_row 24 (.tmp 15) (.tmp 52) (by kernel_rfl) ga ps.1.cells (by kernel_rfl) (by kernel_rfl) 24 (#[.int .i64 0, .int .i64 0, .int .i64 0, .int .i64 0, .int .i64 0, .int .i64 0, .int .i64 0, .int .u64 0, .int .u64 0, .int .i64 0, .int .u64 0]) h27 (by kernel_rfl) rfl (by kernel_rfl)) ?_
  clear eV33
  have h35 := kV33.bo h30 (by omega)
  have K36 := K31.no kV33 (by omega)
  have z37 := kV33.size
  refine ps_run ((opsAt (part_ParamsTell 254)).getD 9 default) (.int .i64 ps.2) (w' := V33) (by kernel_rfl) (by kernel_rfl) (by kernel_rfl) ?_
  refine ps_end ?_
  refine then_n ?_
  refine sy_seq (part_ParamsTell 510) (part_ParamsTell 511) (by kernel_rfl) ?_
  refine sy_reg ?_
  refine rg_plain 8 (opsAt (part_ParamsTell 510)) [0, 1, 2, 3, 4, 5, 6, 7, 8, 9] (by kernel_rfl) (by kernel_rfl) ?_
  refine ps_run ((opsAt (part_ParamsTell 510)).getD 0 default) (.agg (p.cells)) (w' := V33) (by kernel_rfl) (by kernel_rfl) (exec_load_row 24 (.tmp 3) (by kernel_rfl) gp (by kernel_rfl) _ _ (0, 0) _ (h35) Tryd.underlying24 rfl (by kernel_rfl)) ?_
  refine ps_run ((opsAt (part_ParamsTell 510)).getD 1 default) (.string s) (w' := V33) (by kernel_rfl) (by kernel_rfl) (by kernel_rfl) ?_
  refine ps_run ((opsAt (part_ParamsTell 510)).getD 2 default) (.int .u64 ((n : Nat) : Int)) (w' := V33) (by kernel_rfl) (by kernel_rfl) (by kernel_rfl) ?_
  refine ps_call ((opsAt (part_ParamsTell 510)).getD 3 default) 14 #[.agg (p.cells), .string s, .int .u64 ((n : Nat) : Int)] (by kernel_rfl) (by kernel_rfl) (by kernel_rfl) (by kernel_rfl) (enters_of Tryd.func14 (by kernel_rfl) rfl) ((hps ▸ r7Set_ok p s n _ hp).mono ?_)
  rintro e V38 ⟨rfl, kV38⟩
  refine ⟨_, rfl, ?_⟩
  have h39 := kV38.bk h35
  have h40 := kV38.bk h34
  have K41 := K36.nn kV38
  have z42 := kV38.size
  refine ps_run ((opsAt (part_ParamsTell 510)).getD 4 default) (.tuple #[.agg ps.1.cells, .int .i64 ps.2]) (w' := V38) (by kernel_rfl) (by kernel_rfl) (by kernel_rfl) ?_
  refine ps_run ((opsAt (part_ParamsTell 510)).getD 5 default) (.agg ps.1.cells) (w' := V38) (by kernel_rfl) (by kernel_rfl) (by kernel_rfl) ?_
  refine ps_run ((opsAt (part_ParamsTell 510)).getD 6 default) (.int .i64 ps.2) (w' := V38) (by kernel_rfl) (by kernel_rfl) (by kernel_rfl) ?_
  obtain ⟨V43, eV43, gb, egb, h44, kV43⟩ := alloc_step V38 (#[.int .i64 0, .int .i64 0, .int .i64 0, .int .i64 0, .int .i64 0, .int .i64 0, .int .i64 0, .int .u64 0, .int .u64 0, .int .i64 0, .int .u64 0]) 24
  have n45 : gp < gb := egb ▸ lt_of_block h39
  have n46 : ga < gb := egb ▸ lt_of_block h40
  have n47 : w.heap.size ≤ gb := egb ▸ K41.size
  refine ps_run ((opsAt (part_ParamsTell 510)).getD 7 default) (.pointer (some ⟨gb, 0, none⟩)) (w' := V43) (by kernel_rfl) (by kernel_rfl) (by rw [← eV43, ← egb]; exact exec_alloc0 24 (by kernel_rfl) (.agg (#[.int .i64 0, .int .i64 0, .int .i64 0, .int .i64 0, .int .i64 0, .int .i64 0, .int .i64 0, .int .u64 0, .int .u64 0, .int .i64 0, .int .u64 0])) (by kernel_rfl)) ?_
  clear eV43
  have h48 := kV43.bk h39
  have h49 := kV43.bk h40
  have K50 := K41.nn kV43
  have z51 := kV43.size
  obtain ⟨V52, eV52, kV52⟩ := rowset_step V43 gb ps.1.cells
  have h53 : V52.heap[gb]? = some (.cells ps.1.cells 24 (0, 0)) := eV52 ▸ setRow_heap _ _ _ _ _ _ h44
  refine ps_skip ((opsAt (part_ParamsTell 510)).getD 8 default) (w' := V52) (by kernel_rfl) (by kernel_rfl) (by rw [← eV52]; exact exec_store_row 24 (.tmp 17) (.tmp 59) (by kernel_rfl) gb ps.1.cells (by kernel_rfl) (by kernel_rfl) 24 (#[.int .i64 0, .int .i64 0, .int .i64 0, .int .i64 0, .int .i64 0, .int .i64 0, .int .i64 0, .int .u64 0, .int .u64 0, .int .i64 0, .int .u64 0]) h44 (by kernel_rfl) rfl (by kernel_rfl)) ?_
  clear eV52
  have h54 := kV52.bo h48 (by omega)
  have h55 := kV52.bo h49 (by omega)
  have K56 := K50.no kV52 (by omega)
  have z57 := kV52.size
  refine ps_run ((opsAt (part_ParamsTell 510)).getD 9 default) (.int .i64 ps.2) (w' := V52) (by kernel_rfl) (by kernel_rfl) (by kernel_rfl) ?_
  refine ps_end ?_
  refine sy_act ⟨#[.agg p.cells, .string s, .int .u64 ((n : Nat) : Int), .pointer (some ⟨gp, 0, none⟩), undef, undef, .bool false, .int .i64 p.check.1, .int .i64 p.check.2, .int .i64 p.check.1, .int .i64 p.check.2, .int .u64 (pget p s).1, .int .i64 (pget p s).2, .int .u64 (pget p s).1, .int .i64 (pget p s).2, .pointer (some ⟨ga, 0, none⟩), .int .i64 ps.2, .pointer (some ⟨gb, 0, none⟩), .int .i64 ps.2, undef, undef, .string s, .int .i64 ((s.size : Nat) : Int), .bool false, undef, .tuple #[.int .i64 p.check.1, .int .i64 p.check.2], .agg (p.cells), .tuple #[.int .i64 p.check.1, .int .i64 p.check.2], .int .i64 p.check.1, .int .i64 p.check.2, .tuple #[.int .i64 p.check.1, .int .i64 p.check.2], .agg (p.cells), .tuple #[.int .i64 p.check.1, .int .i64 p.check.2], .int .i64 p.check.1, .int .i64 p.check.2, .tuple #[.int .u64 (pget p s).1, .int .i64 (pget p s).2], .agg (p.cells), .string s, .tuple #[.int .u64 (pget p s).1, .int .i64 (pget p s).2], .int .u64 (pget p s).1, .int .i64 (pget p s).2, .tuple #[.int .u64 (pget p s).1, .int .i64 (pget p s).2], .agg (p.cells), .string s, .tuple #[.int .u64 (pget p s).1, .int .i64 (pget p s).2], .int .u64 (pget p s).1, .int .i64 (pget p s).2, .tuple #[.agg ps.1.cells, .int .i64 ps.2], .agg (p.cells), .string s, .int .u64 ((n : Nat) : Int), .tuple #[.agg ps.1.cells, .int .i64 ps.2], .agg ps.1.cells, .int .i64 ps.2, .tuple #[.agg ps.1.cells, .int .i64 ps.2], .agg (p.cells), .string s, .int .u64 ((n : Nat) : Int), .tuple #[.agg ps.1.cells, .int .i64 ps.2], .agg ps.1.cells, .int .i64 ps.2, undef, undef, undef, undef, undef, undef, undef, undef, undef, undef, undef, undef, undef, undef, undef, undef, undef, undef, undef, undef, undef, undef, undef, undef, undef, undef, undef, undef, undef, undef, undef, undef, undef, undef, undef, undef, undef, undef, undef, undef, undef, undef, undef, undef, undef, undef, undef, undef, undef, undef], []⟩ (by kernel_rfl) ?_
  refine then_n ?_
  refine sy_seq (part_ParamsTell 1022) (part_ParamsTell 1023) (by kernel_rfl) ?_
  refine sy_reg ?_
  refine rg_plain 9 (opsAt (part_ParamsTell 1022)) [0, 1] (by kernel_rfl) (by kernel_rfl) ?_
  refine ps_call ((opsAt (part_ParamsTell 1022)).getD 0 default) 15 #[] (by kernel_rfl) (by kernel_rfl) (by kernel_rfl) (by kernel_rfl) (enters_of Tryd.func15 (by kernel_rfl) rfl) ((pNames_ok _).mono ?_)
  rintro e V58 ⟨vn1, he1, hN1, hw1, kV58⟩
  have hgbl := lt_of_block h53
  obtain ⟨gn, capn, rfl, hgn⟩ := Row.spell hN1 (by omega)
  subst he1
  obtain ⟨csn, hcn⟩ := Row.elem hN1 (k := gn) rfl
  have hgw := hw1 gn rfl
  have hsn := row_size hN1 hcn
  refine ⟨_, rfl, ?_⟩
  have h59 := kV58.bk h54
  have h60 := kV58.bk h55
  have h61 := kV58.bk h53
  have K62 := K56.nn kV58
  have z63 := kV58.size
  refine ps_run ((opsAt (part_ParamsTell 1022)).getD 1 default) (.slice (some ⟨gn, 0, none⟩) 11 capn) (w' := V58) (by kernel_rfl) (by kernel_rfl) (by kernel_rfl) ?_
  refine ps_end ?_
  refine then_n ?_
  refine sy_seq (part_ParamsTell 2046) (part_ParamsTell 2047) (by kernel_rfl) ?_
  refine sy_reg ?_
  refine rg_plain 10 (opsAt (part_ParamsTell 2046)) [0, 1, 2, 3, 4, 5, 6, 7, 8] (by kernel_rfl) (by kernel_rfl) ?_
  refine ps_run ((opsAt (part_ParamsTell 2046)).getD 0 default) (.slice (some ⟨gn, 0, none⟩) 11 capn) (w' := V58) (by kernel_rfl) (by kernel_rfl) (by kernel_rfl) ?_
  refine ps_call ((opsAt (part_ParamsTell 2046)).getD 1 default) 17 #[] (by kernel_rfl) (by kernel_rfl) (by kernel_rfl) (by kernel_rfl) (enters_of Tryd.func17 (by kernel_rfl) rfl) ((r7Names_ok _).mono ?_)
  rintro e V64 ⟨gr1, rfl, hR1, hrw1, kV64⟩
  refine ⟨_, rfl, ?_⟩
  have h65 := kV64.bk h59
  have h66 := kV64.bk h60
  have h67 := kV64.bk h61
  have h68 := kV64.bk hcn
  have h69 : Sl V64 1 Scl (.slice (some ⟨gn, 0, none⟩) 11 capn) parName := (row_texts hN1 rfl).keepsN kV64
  have K70 := K62.nn kV64
  have z71 := kV64.size
  refine ps_call ((opsAt (part_ParamsTell 2046)).getD 2 default) 16 #[.slice (some ⟨gn, 0, none⟩) 11 capn, .slice (some ⟨gr1, 0, none⟩) 11 11] (by kernel_rfl) (by kernel_rfl) (by kernel_rfl) (by kernel_rfl) (enters_of Tryd.func16 (by kernel_rfl) rfl) ((kSameTexts_ok _ _ parName _ h69 (sl_texts hR1 rfl (by decide) (by decide))).mono ?_)
  rintro e V72 ⟨rfl, kV72⟩
  refine ⟨_, rfl, ?_⟩
  have h73 := kV72.bk h65
  have h74 := kV72.bk h66
  have h75 := kV72.bk h67
  have h76 := kV72.bk h68
  have h77 : Sl V72 1 Scl (.slice (some ⟨gn, 0, none⟩) 11 capn) parName := h69.keepsN kV72
  have h78 := kV72.bk hR1
  have K79 := K70.nn kV72
  have z80 := kV72.size
  refine ps_run ((opsAt (part_ParamsTell 2046)).getD 3 default) (.bool true) (w' := V72) (by kernel_rfl) (by kernel_rfl) (by kernel_rfl) ?_
  refine ps_call ((opsAt (part_ParamsTell 2046)).getD 4 default) 18 #[] (by kernel_rfl) (by kernel_rfl) (by kernel_rfl) (by kernel_rfl) (enters_of Tryd.func18 (by kernel_rfl) rfl) ((pDefault_ok _).mono ?_)
  rintro e V81 ⟨rfl, kV81⟩
  refine ⟨_, rfl, ?_⟩
  have h82 := kV81.bk h73
  have h83 := kV81.bk h74
  have h84 := kV81.bk h75
  have h85 := kV81.bk h76
  have h86 : Sl V81 1 Scl (.slice (some ⟨gn, 0, none⟩) 11 capn) parName := h77.keepsN kV81
  have h87 := kV81.bk h78
  have K88 := K79.nn kV81
  have z89 := kV81.size
  refine ps_call ((opsAt (part_ParamsTell 2046)).getD 5 default) 19 #[] (by kernel_rfl) (by kernel_rfl) (by kernel_rfl) (by kernel_rfl) (enters_of Tryd.func19 (by kernel_rfl) rfl) ((r7Default_ok _).mono ?_)
  rintro e V90 ⟨rfl, kV90⟩
  refine ⟨_, rfl, ?_⟩
  have h91 := kV90.bk h82
  have h92 := kV90.bk h83
  have h93 := kV90.bk h84
  have h94 := kV90.bk h85
  have h95 : Sl V90 1 Scl (.slice (some ⟨gn, 0, none⟩) 11 capn) parName := h86.keepsN kV90
  have h96 := kV90.bk h87
  have K97 := K88.nn kV90
  have z98 := kV90.size
  refine ps_run ((opsAt (part_ParamsTell 2046)).getD 6 default) (.bool true) (w' := V90) (by kernel_rfl) (by kernel_rfl) (exec_cast (congrArg Value.bool (by simp)) (exec_binop .eql 24 24 (.tmp 66) (.tmp 67) (by kernel_rfl) (.agg parDef.cells) (.agg parDef.cells) _ (by kernel_rfl) (by kernel_rfl) (run_eqGuard_agg _ _ _ _ _ _ _ par_guard) (par_eq _ _ _))) ?_
  refine ps_run ((opsAt (part_ParamsTell 2046)).getD 7 default) (.bool true) (w' := V90) (by kernel_rfl) (by kernel_rfl) (by kernel_rfl) ?_
  refine ps_run ((opsAt (part_ParamsTell 2046)).getD 8 default) (.bool true) (w' := V90) (by kernel_rfl) (by kernel_rfl) (by kernel_rfl) ?_
  refine ps_end ?_
  refine then_n ?_
  refine sy_seq (part_ParamsTell 4094) (part_ParamsTell 4095) (by kernel_rfl) ?_
  refine sy_reg ?_
  refine rg_plain 11 (opsAt (part_ParamsTell 4094)) [0, 1] (by kernel_rfl) (by kernel_rfl) ?_
  refine ps_run ((opsAt (part_ParamsTell 4094)).getD 0 default) (.slice (some ⟨gn, 0, none⟩) 11 capn) (w' := V90) (by kernel_rfl) (by kernel_rfl) (by kernel_rfl) ?_
  refine ps_call ((opsAt (part_ParamsTell 4094)).getD 1 default) 20 #[.slice (some ⟨gn, 0, none⟩) 11 capn] (by kernel_rfl) (by kernel_rfl) (by kernel_rfl) (by kernel_rfl) (enters_of Tryd.func20 (by kernel_rfl) rfl) ((kOverTexts_ok gn 11 capn csn _ h94 hsn (by omega)).mono ?_)
  rintro e V99 ⟨rfl, kV99⟩
  refine ⟨_, rfl, ?_⟩
  have h100 := kV99.bo h91 (by omega)
  have h101 := kV99.bo h92 (by omega)
  have h102 := kV99.bo h93 (by omega)
  have K103 := K97.no kV99 (by omega)
  have z104 := kV99.size
  refine ps_end ?_
  refine then_n ?_
  refine sy_seq (part_ParamsTell 8190) (part_ParamsTell 8191) (by kernel_rfl) ?_
  refine sy_reg ?_
  refine rg_plain 12 (opsAt (part_ParamsTell 8190)) [0, 1, 2, 3, 4, 5, 6, 7, 8, 9, 10, 11, 12, 13, 14, 15, 16, 17, 18, 19, 20, 21, 22, 23, 24, 25, 26, 27, 28, 29, 30, 31, 32, 33, 34, 35, 36, 37, 38, 39] (by kernel_rfl) (by kernel_rfl) ?_
  refine ps_run ((opsAt (part_ParamsTell 8190)).getD 0 default) (.bool true) (w' := V99) (by kernel_rfl) (by kernel_rfl) (by kernel_rfl) ?_
  refine ps_run ((opsAt (part_ParamsTell 8190)).getD 1 default) (.bool true) (w' := V99) (by kernel_rfl) (by kernel_rfl) (by kernel_rfl) ?_
  refine ps_call ((opsAt (part_ParamsTell 8190)).getD 2 default) 15 #[] (by kernel_rfl) (by kernel_rfl) (by kernel_rfl) (by kernel_rfl) (enters_of Tryd.func15 (by kernel_rfl) rfl) ((pNames_ok _).mono ?_)
  rintro e V105 ⟨vn2, rfl, hN2, hw2, kV105⟩
  refine ⟨_, rfl, ?_⟩
  have h106 := kV105.bk h100
  have h107 := kV105.bk h101
  have h108 := kV105.bk h102
  have K109 := K103.nn kV105
  have z110 := kV105.size
  refine ps_call ((opsAt (part_ParamsTell 8190)).getD 3 default) 17 #[] (by kernel_rfl) (by kernel_rfl) (by kernel_rfl) (by kernel_rfl) (enters_of Tryd.func17 (by kernel_rfl) rfl) ((r7Names_ok _).mono ?_)
  rintro e V111 ⟨gr2, rfl, hR2, hrw2, kV111⟩
  refine ⟨_, rfl, ?_⟩
  have h112 := kV111.bk h106
  have h113 := kV111.bk h107
  have h114 := kV111.bk h108
  have h115 : Sl V111 1 Scl vn2 parName := (row_texts hN2 rfl).keepsN kV111
  have K116 := K109.nn kV111
  have z117 := kV111.size
  refine ps_call ((opsAt (part_ParamsTell 8190)).getD 4 default) 16 #[vn2, .slice (some ⟨gr2, 0, none⟩) 11 11] (by kernel_rfl) (by kernel_rfl) (by kernel_rfl) (by kernel_rfl) (enters_of Tryd.func16 (by kernel_rfl) rfl) ((kSameTexts_ok _ _ parName _ h115 (sl_texts hR2 rfl (by decide) (by decide))).mono ?_)
  rintro e V118 ⟨rfl, kV118⟩
  refine ⟨_, rfl, ?_⟩
  have h119 := kV118.bk h112
  have h120 := kV118.bk h113
  have h121 := kV118.bk h114
  have h122 : Sl V118 1 Scl vn2 parName := h115.keepsN kV118
  have h123 := kV118.bk hR2
  have K124 := K116.nn kV118
  have z125 := kV118.size
  refine ps_run ((opsAt (part_ParamsTell 8190)).getD 5 default) (.bool true) (w' := V118) (by kernel_rfl) (by kernel_rfl) (by kernel_rfl) ?_
  refine ps_run ((opsAt (part_ParamsTell 8190)).getD 6 default) (.bool true) (w' := V118) (by kernel_rfl) (by kernel_rfl) (by kernel_rfl) ?_
  refine ps_run ((opsAt (part_ParamsTell 8190)).getD 7 default) (.int .i64 p.check.1) (w' := V118) (by kernel_rfl) (by kernel_rfl) (by kernel_rfl) ?_
  refine ps_run ((opsAt (part_ParamsTell 8190)).getD 8 default) (.int .i64 p.check.1) (w' := V118) (by kernel_rfl) (by kernel_rfl) (by kernel_rfl) ?_
  refine ps_run ((opsAt (part_ParamsTell 8190)).getD 9 default) (.bool true) (w' := V118) (by kernel_rfl) (by kernel_rfl) (exec_cast (congrArg Value.bool (show ((((p.check.1) : Int) == ((p.check.1) : Int))) = true from by simp)) (by kernel_rfl)) ?_
  refine ps_run ((opsAt (part_ParamsTell 8190)).getD 10 default) (.bool true) (w' := V118) (by kernel_rfl) (by kernel_rfl) (by kernel_rfl) ?_
  refine ps_run ((opsAt (part_ParamsTell 8190)).getD 11 default) (.bool true) (w' := V118) (by kernel_rfl) (by kernel_rfl) (by kernel_rfl) ?_
  refine ps_run ((opsAt (part_ParamsTell 8190)).getD 12 default) (.int .i64 p.check.2) (w' := V118) (by kernel_rfl) (by kernel_rfl) (by kernel_rfl) ?_
  refine ps_run ((opsAt (part_ParamsTell 8190)).getD 13 default) (.int .i64 p.check.2) (w' := V118) (by kernel_rfl) (by kernel_rfl) (by kernel_rfl) ?_
  refine ps_run ((opsAt (part_ParamsTell 8190)).getD 14 default) (.bool true) (w' := V118) (by kernel_rfl) (by kernel_rfl) (exec_cast (congrArg Value.bool (show ((((p.check.2) : Int) == ((p.check.2) : Int))) = true from by simp)) (by kernel_rfl)) ?_
  refine ps_run ((opsAt (part_ParamsTell 8190)).getD 15 default) (.bool true) (w' := V118) (by kernel_rfl) (by kernel_rfl) (by kernel_rfl) ?_
  refine ps_run ((opsAt (part_ParamsTell 8190)).getD 16 default) (.bool true) (w' := V118) (by kernel_rfl) (by kernel_rfl) (by kernel_rfl) ?_
  refine ps_run ((opsAt (part_ParamsTell 8190)).getD 17 default) (.int .u64 (pget p s).1) (w' := V118) (by kernel_rfl) (by kernel_rfl) (by kernel_rfl) ?_
  refine ps_run ((opsAt (part_ParamsTell 8190)).getD 18 default) (.int .u64 (pget p s).1) (w' := V118) (by kernel_rfl) (by kernel_rfl) (by kernel_rfl) ?_
  refine ps_run ((opsAt (part_ParamsTell 8190)).getD 19 default) (.bool true) (w' := V118) (by kernel_rfl) (by kernel_rfl) (exec_cast (congrArg Value.bool (show (((((pget p s).1) : Int) == (((pget p s).1) : Int))) = true from by simp)) (by kernel_rfl)) ?_
  refine ps_run ((opsAt (part_ParamsTell 8190)).getD 20 default) (.bool true) (w' := V118) (by kernel_rfl) (by kernel_rfl) (by kernel_rfl) ?_
  refine ps_run ((opsAt (part_ParamsTell 8190)).getD 21 default) (.bool true) (w' := V118) (by kernel_rfl) (by kernel_rfl) (by kernel_rfl) ?_
  refine ps_run ((opsAt (part_ParamsTell 8190)).getD 22 default) (.int .i64 (pget p s).2) (w' := V118) (by kernel_rfl) (by kernel_rfl) (by kernel_rfl) ?_
  refine ps_run ((opsAt (part_ParamsTell 8190)).getD 23 default) (.int .i64 (pget p s).2) (w' := V118) (by kernel_rfl) (by kernel_rfl) (by kernel_rfl) ?_
  refine ps_run ((opsAt (part_ParamsTell 8190)).getD 24 default) (.bool true) (w' := V118) (by kernel_rfl) (by kernel_rfl) (exec_cast (congrArg Value.bool (show (((((pget p s).2) : Int) == (((pget p s).2) : Int))) = true from by simp)) (by kernel_rfl)) ?_
  refine ps_run ((opsAt (part_ParamsTell 8190)).getD 25 default) (.bool true) (w' := V118) (by kernel_rfl) (by kernel_rfl) (by kernel_rfl) ?_
  refine ps_run ((opsAt (part_ParamsTell 8190)).getD 26 default) (.bool true) (w' := V118) (by kernel_rfl) (by kernel_rfl) (by kernel_rfl) ?_
  refine ps_run ((opsAt (part_ParamsTell 8190)).getD 27 default) (.agg (ps.1.cells)) (w' := V118) (by kernel_rfl) (by kernel_rfl) (exec_load_row 24 (.tmp 15) (by kernel_rfl) ga (by kernel_rfl) _ _ (0, 0) _ (h120) Tryd.underlying24 rfl (by kernel_rfl)) ?_
  refine ps_run ((opsAt (part_ParamsTell 8190)).getD 28 default) (.agg (ps.1.cells)) (w' := V118) (by kernel_rfl) (by kernel_rfl) (exec_load_row 24 (.tmp 17) (by kernel_rfl) gb (by kernel_rfl) _ _ (0, 0) _ (h121) Tryd.underlying24 rfl (by kernel_rfl)) ?_
  refine ps_run ((opsAt (part_ParamsTell 8190)).getD 29 default) (.bool true) (w' := V118) (by kernel_rfl) (by kernel_rfl) (exec_cast (congrArg Value.bool (by simp)) (exec_binop .eql 24 24 (.tmp 99) (.tmp 100) (by kernel_rfl) (.agg ps.1.cells) (.agg ps.1.cells) _ (by kernel_rfl) (by kernel_rfl) (run_eqGuard_agg _ _ _ _ _ _ _ par_guard) (par_eq _ _ _))) ?_
  refine ps_run ((opsAt (part_ParamsTell 8190)).getD 30 default) (.bool true) (w' := V118) (by kernel_rfl) (by kernel_rfl) (by kernel_rfl) ?_
  refine ps_run ((opsAt (part_ParamsTell 8190)).getD 31 default) (.bool true) (w' := V118) (by kernel_rfl) (by kernel_rfl) (by kernel_rfl) ?_
  refine ps_run ((opsAt (part_ParamsTell 8190)).getD 32 default) (.int .i64 ps.2) (w' := V118) (by kernel_rfl) (by kernel_rfl) (by kernel_rfl) ?_
  refine ps_run ((opsAt (part_ParamsTell 8190)).getD 33 default) (.int .i64 ps.2) (w' := V118) (by kernel_rfl) (by kernel_rfl) (by kernel_rfl) ?_
  refine ps_run ((opsAt (part_ParamsTell 8190)).getD 34 default) (.bool true) (w' := V118) (by kernel_rfl) (by kernel_rfl) (exec_cast (congrArg Value.bool (show ((((ps.2) : Int) == ((ps.2) : Int))) = true from by simp)) (by kernel_rfl)) ?_
  refine ps_run ((opsAt (part_ParamsTell 8190)).getD 35 default) (.bool true) (w' := V118) (by kernel_rfl) (by kernel_rfl) (by kernel_rfl) ?_
  refine ps_run ((opsAt (part_ParamsTell 8190)).getD 36 default) (.bool true) (w' := V118) (by kernel_rfl) (by kernel_rfl) (by kernel_rfl) ?_
  refine ps_call ((opsAt (part_ParamsTell 8190)).getD 37 default) 8 #[] (by kernel_rfl) (by kernel_rfl) (by kernel_rfl) (by kernel_rfl) (enters_of Tryd.func8 (by kernel_rfl) rfl) ((lpawake_ok _ (PowTab.keeps htab K124)).mono ?_)
  rintro e V126 ⟨rfl, kV126⟩
  refine ⟨_, rfl, ?_⟩
  have h127 := kV126.bk h119
  have h128 := kV126.bk h120
  have h129 := kV126.bk h121
  have h130 : Sl V126 1 Scl vn2 parName := h122.keepsN kV126
  have h131 := kV126.bk h123
  have K132 := K124.nn kV126
  have z133 := kV126.size
  refine ps_run ((opsAt (part_ParamsTell 8190)).getD 38 default) (.bool true) (w' := V126) (by kernel_rfl) (by kernel_rfl) (by kernel_rfl) ?_
  refine ps_run ((opsAt (part_ParamsTell 8190)).getD 39 default) (.bool true) (w' := V126) (by kernel_rfl) (by kernel_rfl) (by kernel_rfl) ?_
  refine ps_end ?_
  refine sy_act ⟨#[.agg p.cells, .string s, .int .u64 ((n : Nat) : Int), .pointer (some ⟨gp, 0, none⟩), undef, undef, .bool true, .int .i64 p.check.1, .int .i64 p.check.2, .int .i64 p.check.1, .int .i64 p.check.2, .int .u64 (pget p s).1, .int .i64 (pget p s).2, .int .u64 (pget p s).1, .int .i64 (pget p s).2, .pointer (some ⟨ga, 0, none⟩), .int .i64 ps.2, .pointer (some ⟨gb, 0, none⟩), .int .i64 ps.2, .slice (some ⟨gn, 0, none⟩) 11 capn, .bool true, .string s, .int .i64 ((s.size : Nat) : Int), .bool false, undef, .tuple #[.int .i64 p.check.1, .int .i64 p.check.2], .agg (p.cells), .tuple #[.int .i64 p.check.1, .int .i64 p.check.2], .int .i64 p.check.1, .int .i64 p.check.2, .tuple #[.int .i64 p.check.1, .int .i64 p.check.2], .agg (p.cells), .tuple #[.int .i64 p.check.1, .int .i64 p.check.2], .int .i64 p.check.1, .int .i64 p.check.2, .tuple #[.int .u64 (pget p s).1, .int .i64 (pget p s).2], .agg (p.cells), .string s, .tuple #[.int .u64 (pget p s).1, .int .i64 (pget p s).2], .int .u64 (pget p s).1, .int .i64 (pget p s).2, .tuple #[.int .u64 (pget p s).1, .int .i64 (pget p s).2], .agg (p.cells), .string s, .tuple #[.int .u64 (pget p s).1, .int .i64 (pget p s).2], .int .u64 (pget p s).1, .int .i64 (pget p s).2, .tuple #[.agg ps.1.cells, .int .i64 ps.2], .agg (p.cells), .string s, .int .u64 ((n : Nat) : Int), .tuple #[.agg ps.1.cells, .int .i64 ps.2], .agg ps.1.cells, .int .i64 ps.2, .tuple #[.agg ps.1.cells, .int .i64 ps.2], .agg (p.cells), .string s, .int .u64 ((n : Nat) : Int), .tuple #[.agg ps.1.cells, .int .i64 ps.2], .agg ps.1.cells, .int .i64 ps.2, .slice (some ⟨gn, 0, none⟩) 11 capn, .slice (some ⟨gn, 0, none⟩) 11 capn, .slice (some ⟨gr1, 0, none⟩) 11 11, .bool true, .bool true, .agg parDef.cells, .agg parDef.cells, .bool true, .bool true, .slice (some ⟨gn, 0, none⟩) 11 capn, .tuple #[], .bool true, .bool true, vn2, .slice (some ⟨gr2, 0, none⟩) 11 11, .bool true, .bool true, .bool true, .int .i64 p.check.1, .int .i64 p.check.1, .bool true, .bool true, .bool true, .int .i64 p.check.2, .int .i64 p.check.2, .bool true, .bool true, .bool true, .int .u64 (pget p s).1, .int .u64 (pget p s).1, .bool true, .bool true, .bool true, .int .i64 (pget p s).2, .int .i64 (pget p s).2, .bool true, .bool true, .bool true, .agg (ps.1.cells), .agg (ps.1.cells), .bool true, .bool true, .bool true, .int .i64 ps.2, .int .i64 ps.2, .bool true, .bool true, .bool true, .bool true, .bool true], []⟩ (by kernel_rfl) ?_
  refine then_n ?_
  refine sy_ret (by kernel_rfl) ?_
  refine sy_out (.bool true) rfl (by kernel_rfl) ?_
  exact ⟨rfl, K132⟩
theorem tell_ok (p : Par) (s : ByteArray) (n : Nat) (w : World) (hp : p.Ok) (htab : PowTab w) : Calls Tryd.prog 3 #[.agg p.cells, .string s, .int .u64 ((n : Nat) : Int)] w (fun e w' => e = .returned (.bool true) ∧ Keeps Nob w w') := by
  by_cases hs : 40 < s.size
  · exact tell_long p s n w hp hs htab
  · exact tell_short p s n w hp (by omega) htab
end Go.Proofs.YtpflmldmbpnllaaDoor
