/-
  Params: a builder of texts, digits of numbers (printed by par4.py). Conditions: none.
-/
import Derived.Test.YtpflmldmbpnllaaDoorPmC
import Derived.Test.YtpflmldmbpnllaaDoorPmShelf
import Derived.Lib.AppendStr
import Derived.Lib.Builder
import Derived.Lib.ItoaMem
import Derived.Laws.IdiomStrings
namespace Go.Own
open Go Go.RowKit Go.Shelf
section
variable {P : Program} {o : Oper} {ρ : Operand → Value} {w : World}
theorem exec_extern (f : FuncId) (x : Operand) (ts : Array TypeId) (ho : o.op = .call { callee := .value (.func f), args := #[x], argTypes := ts }) (v r : Value) (hx : ρ x = v) (hf : ρ (.func f) = .func (.func f) #[] #[]) (hr : (callFunc f #[v]).run P w = .ok (.value r) w) : (execOp ρ o).run P w = .ok (.value r) w := by
  unfold execOp
  simp only [ho, resolve, List.map_toArray, List.map_cons, List.map_nil, hx, hf, Sem.run_bind, Deferred.ofValue, Sem.run_pure, Result.andThen_ok, invoke, Array.append_empty, Array.empty_append, hr]
theorem exec_slice_arrh (t : TypeId) (x y : Operand) (ho : o.op = .slice t x none (some y) none) (b of : Nat) (hx : ρ x = .pointer (some ⟨b, of, none⟩)) (kd : IntKind) (k : Nat) (hy : ρ y = .int kd (k : Int)) (n : Nat) (e : TypeId) (hu : P.underlying t = some (.array n e))
    (hs : (P.info? e).map (·.size) = some 1) (hk : k ≤ n) (hk0 : 0 < n) : (execOp ρ o).run P w = .ok (.value (.slice (some ⟨b, of, none⟩) k n)) w := by
  obtain ⟨i, hi, h1⟩ := Option.map_eq_some_iff.1 hs
  have h2 : (0 : Int) ≤ (k : Int) ∧ (k : Int) ≤ (n : Int) := by omega
  unfold execOp
  simp only [ho, hx, hy, Option.map_some, Option.map_none, Instr.sliceAt, Sem.run_bind, run_underlying hu, Instr.sureAddr, Instr.sliceBounds, Instr.sliceBound, asIntOf, Sem.run_pure, Result.andThen_ok, if_pos h2]
  rw [show (sizeOf e).run P w = .ok 1 w by simp [go_sem, sizeOf, typeInfo, hi, h1]]
  simp only [Result.andThen_ok, Int.toNat_natCast, Nat.mul_one]
  rw [if_neg (by omega)]
  simp [Addr.add_lit]
end
theorem keeps_putRow {α : Type} [Inhabited α] (enc : α → Value) (w : World) (blk off : Nat) (d : Array α) : Keeps (One blk) w (Sort.putRow enc w blk off d) := by
  refine ⟨rfl, rfl, rfl, by simp [Sort.putRow, Sort.mapBlock], fun k hk hm => ?_⟩
  simp only [Sort.putRow, Sort.mapBlock]
  rw [Array.getElem?_modify, if_neg (fun e => hm e.symm)]
end Go.Own
namespace Go.Proofs.YtpflmldmbpnllaaDoor
open Go Go.RowKit Go.Own Go.Shelf
theorem strCells_B (s : ByteArray) : Lib.strCells s = B s.data.toList := rfl
theorem bd_info0 : (Tryd.prog.info? 74).map (·.size) = some 2 := by kernel_rfl
theorem bd_lies : liesAt Tryd.prog Tryd.prog.depth 74 (2 / Tryd.prog.cellsOf 74) 0 74 1 = true := by kernel_rfl
theorem bd_shape {w : World} {b : Nat} {a v : Value} (h : w.heap[b]? = some (.cells #[a, v] 74 (0, 0))) : w.shape? b = some (74, 2) := by simp [World.shape?, h]
theorem noEsc_run (v : Value) (w : World) : (callFunc 86 #[v]).run Tryd.prog w = .ok (.value v) w := by
  rw [run_callFunc_extern Tryd.func86 (by kernel_rfl) (by kernel_rfl) (by kernel_rfl) (e := Extern.AbiNoEscape.same) (by kernel_rfl), Lib.run_noEscape]; rfl
theorem u8_info0d : (Tryd.prog.info? 5).map (fun i => (i.zero, i.size, i.bytes)) = some (some (.int .u8 0), 1, 1) := by kernel_rfl
abbrev z24 : Array Value := #[.int .u8 0, .int .u8 0, .int .u8 0, .int .u8 0, .int .u8 0, .int .u8 0, .int .u8 0, .int .u8 0, .int .u8 0, .int .u8 0, .int .u8 0, .int .u8 0, .int .u8 0, .int .u8 0, .int .u8 0, .int .u8 0, .int .u8 0, .int .u8 0, .int .u8 0, .int .u8 0, .int .u8 0, .int .u8 0, .int .u8 0, .int .u8 0]
theorem holds_24 {w : World} {g nd : Nat} (h : w.heap[g]? = some (.cells z24 124 (0, 0))) (hn : nd ≤ 24) : Sort.Holds (fun (b : UInt8) => Value.int .u8 (b.toNat : Int)) w g 0 (Array.replicate nd 0) := by
  intro j hj
  rw [Array.size_replicate] at hj
  have hj24 : j < 24 := by omega
  refine ⟨?_, frozen_of_row _ _ _ _ _ h⟩
  rw [Nat.zero_add]
  have e : (Array.replicate nd (0 : UInt8))[j]! = 0 := by rw [getElem!_pos _ j (by simpa using hj)]; simp
  rw [e]
  refine (cell_of_row _ _ _ _ _ _ h).trans ?_
  have hz : z24 = Array.replicate 24 (Value.int .u8 0) := rfl
  rw [hz, Array.getElem?_replicate, if_pos hj24]; rfl
/-- The digits are written into a row of noughts. -/
theorem isFB_ok (g u : Nat) (w : World) (h : w.heap[g]? = some (.cells z24 124 (0, 0))) (h1 : 1 ≤ u) (h2 : u < 18446744073709551616) (hn : Lib.nDigits u ≤ 20) :
    Calls Tryd.prog 89 #[.slice (some ⟨g, 0, none⟩) (Lib.nDigits u) 24, .int .u64 ((u : Nat) : Int)] w fun e w' => e = .returned (.tuple #[]) ∧ (∀ j (hj : j < (Lib.decDigits u).length), w'.cell? ⟨g, 0 + j, none⟩ = some (.int .u8 ((Lib.decDigits u)[j].toNat : Int))) ∧ Keeps (One g) w w' := by
  have hH := holds_24 (nd := Lib.nDigits u) h (by omega)
  have hc := Tryd.internal_strconv_formatBase10 g 0 24 u (Array.replicate (Lib.nDigits u) 0) w hH (by rw [Array.size_replicate]; exact Lib.lt_pow_nDigits u) h2 (by rw [Array.size_replicate]; omega)
  rw [Array.size_replicate] at hc
  refine hc.mono ?_
  rintro e w' ⟨rfl, n, v', dk, rfl, hF⟩
  refine ⟨rfl, fun j hj => ?_, ?_⟩
  · rw [Lib.row_is_numeral hF j hj, World.cell?_drewN]
    exact Sort.cell?_putRow (fun (b : UInt8) => Value.int .u8 (b.toNat : Int)) _ g 0 _ dk hH (by rw [hF.size, Array.size_replicate]) j (by rw [hF.size]; rw [Lib.decDigits_length] at hj; exact hj)
  · exact (keeps_putRow _ _ _ _ _).drewN n
theorem dig_conv {w : World} {g u : Nat} (h : ∀ j (hj : j < (Lib.decDigits u).length), w.cell? ⟨g, 0 + j, none⟩ = some (.int .u8 ((Lib.decDigits u)[j].toNat : Int))) : (convert 39 9 (.slice (some ⟨g, 0, none⟩) (Lib.nDigits u) 24)).run Tryd.prog w = .ok (.string ⟨(Lib.decDigits u).toArray⟩) w := by
  have := run_convert_bytes_back (P := Tryd.prog) w 39 9 5 ⟨g, 0, none⟩ 24 (Lib.decDigits u) Tryd.underlying39 Tryd.underlying5 Tryd.underlying9 (fun j hj => by rw [Lib.add_plain]; exact h j hj)
  rw [Lib.decDigits_length] at this
  exact this
abbrev PowTab (w : World) : Prop := Lib.TabIs Tryd.prog w "internal/strconv.uint64pow10" .u64 Lib.pow10Tab
theorem u64_i64 {n : Nat} (h : n < 100) (w : World) : (convert 22 3 (.int .u64 ((n : Nat) : Int))).run Tryd.prog w = .ok (.int .i64 ((n : Nat) : Int)) w := conv_u64 _ _ (by omega) (by omega)

noncomputable def part_bdCC (n : Nat) : Code := partOf Tryd.f67 n
noncomputable abbrev o_bdCC (n k : Nat) : Oper := (opsAt (part_bdCC n)).getD k default
set_option maxRecDepth 100000 in
set_option maxHeartbeats 4000000 in
theorem bdCC_fresh (b : Nat) (v : Value) (w : World) (hb : w.heap[b]? = some (.cells #[.pointer none, v] 74 (0, 0))) :
    Calls Tryd.prog 67 #[.pointer (some ⟨b, 0, none⟩)] w (fun e w' => e = .returned (.tuple #[]) ∧ w'.heap[b]? = some (.cells #[.pointer (some ⟨b, 0, none⟩), v] 74 (0, 0)) ∧ Keeps (One b) w w') := by
  obtain ⟨j, hj, hj2⟩ := Option.map_eq_some_iff.1 bd_info0
  have K0 : Keeps ((One b)) w w := Keeps.refl _ _
  refine sy_enter (part_bdCC 1) ⟨#[pT b 0, undef, undef, undef, undef, undef, undef, undef, undef, undef, undef, undef, undef, undef, undef, undef, undef, undef, undef, undef], []⟩ Tryd.func67 (by kernel_rfl) (by kernel_rfl) ?_
  refine sy_sq (part_bdCC 2) (part_bdCC 3) ?_
  refine sy_reg ?_
  refine rg_plain 0 (opsAt (part_bdCC 2)) [0, 1, 2, 3, 4] (by kernel_rfl) (by kernel_rfl) ?_
  refine ps_k (o_bdCC 2 0) (pT b 0) ?_
  refine ps_k (o_bdCC 2 1) (pT b 0) ?_
  refine ps_k (o_bdCC 2 2) (pT b 0) ?_
  refine ps_p (o_bdCC 2 3) (.pointer none) (exec_ld 72 (.tmp 4) b 0 Tryd.underlying72 (rc (hb) (by kernel_rfl))) ?_
  refine ps_k (o_bdCC 2 4) (.bool true) ?_
  refine ps_end ?_
  refine then_n ?_
  refine sy_ys (.tmp 6) (part_bdCC 6) (part_bdCC 7) ?_
  refine sy_reg ?_
  refine rg_plain 1 (opsAt (part_bdCC 6)) [0, 1, 2, 3, 4, 5, 6, 7] (by kernel_rfl) (by kernel_rfl) ?_
  refine ps_k (o_bdCC 6 0) (pT b 0) ?_
  refine ps_k (o_bdCC 6 1) (pT b 0) ?_
  refine ps_r (o_bdCC 6 2) (pT b 0) (w' := w) (exec_convert 72 122 (.tmp 8) (by kernel_rfl) _ (by kernel_rfl) (Lib.run_to_unsafe _ ⟨b, 0, none⟩ Tryd.underlying72 Tryd.underlying122 hj (by rw [hj2]; decide) (bd_shape hb) (Nat.zero_lt_succ 1))) ?_
  refine ps_p (o_bdCC 6 3) (pT b 0) (exec_extern 86 (.tmp 9) #[122] (by kernel_rfl) (pT b 0) (pT b 0) (by kernel_rfl) (by kernel_rfl) (noEsc_run _ _)) ?_
  refine ps_r (o_bdCC 6 4) (pT b 0) (w' := w) (exec_convert 122 72 (.tmp 10) (by kernel_rfl) _ (by kernel_rfl) (Lib.run_from_unsafe _ ⟨b, 0, none⟩ Tryd.underlying122 Tryd.underlying72 hj (bd_shape hb) bd_lies)) ?_
  refine ps_k (o_bdCC 6 5) (pT b 0) ?_
  refine ps_k (o_bdCC 6 6) (pT b 0) ?_
  obtain ⟨V1, eV1, kV1⟩ := cell_step w b 0 (.pointer (some ⟨b, 0, none⟩))
  have h2 : V1.heap[b]? = some (.cells (#[.pointer (some ⟨b, 0, none⟩), v]) 74 (0, 0)) := eV1 ▸ ((heap_setCell_same _ b 0 _ _ (.pointer (some ⟨b, 0, none⟩)) hb).trans (congrArg (fun c => some (Obj.cells c 74 (0, 0))) (show (#[.pointer none, v] : Array Value).setIfInBounds 0 (.pointer (some ⟨b, 0, none⟩)) = #[.pointer (some ⟨b, 0, none⟩), v] from by kernel_rfl)))
  refine ps_s (o_bdCC 6 7) (w' := V1) (by rw [← eV1]; exact exec_store_cell 72 (.tmp 13) (.tmp 11) (by kernel_rfl) b 0 (by kernel_rfl) (pT b 0) (by kernel_rfl) (by kernel_rfl) (by kernel_rfl) (.pointer none) (rc (hb) (by kernel_rfl)) (frozen_of_row _ _ _ _ _ hb) (by kernel_rfl)) ?_
  clear eV1
  have K3 : Keeps ((One b)) w V1 := K0.then kV1 (fun i hi hm => by unfold Own.One at hm; subst hm; exact rfl)
  have z4 := kV1.size
  refine ps_end ?_
  refine sy_fall (.tuple #[]) rfl (by kernel_rfl) ?_
  exact ⟨rfl, h2, K3⟩
set_option maxRecDepth 100000 in
set_option maxHeartbeats 4000000 in
theorem bdCC_used (b : Nat) (v : Value) (w : World) (hb : w.heap[b]? = some (.cells #[.pointer (some ⟨b, 0, none⟩), v] 74 (0, 0))) :
    Calls Tryd.prog 67 #[.pointer (some ⟨b, 0, none⟩)] w (fun e w' => e = .returned (.tuple #[]) ∧ w'.heap[b]? = some (.cells #[.pointer (some ⟨b, 0, none⟩), v] 74 (0, 0)) ∧ Keeps (One b) w w') := by
  obtain ⟨j, hj, hj2⟩ := Option.map_eq_some_iff.1 bd_info0
  have K0 : Keeps ((One b)) w w := Keeps.refl _ _
  refine sy_enter (part_bdCC 1) ⟨#[pT b 0, undef, undef, undef, undef, undef, undef, undef, undef, undef, undef, undef, undef, undef, undef, undef, undef, undef, undef, undef], []⟩ Tryd.func67 (by kernel_rfl) (by kernel_rfl) ?_
  refine sy_sq (part_bdCC 2) (part_bdCC 3) ?_
  refine sy_reg ?_
  refine rg_plain 0 (opsAt (part_bdCC 2)) [0, 1, 2, 3, 4] (by kernel_rfl) (by kernel_rfl) ?_
  refine ps_k (o_bdCC 2 0) (pT b 0) ?_
  refine ps_k (o_bdCC 2 1) (pT b 0) ?_
  refine ps_k (o_bdCC 2 2) (pT b 0) ?_
  refine ps_p (o_bdCC 2 3) (pT b 0) (exec_ld 72 (.tmp 4) b 0 Tryd.underlying72 (rc (hb) (by kernel_rfl))) ?_
  refine ps_k (o_bdCC 2 4) (.bool false) ?_
  refine ps_end ?_
  refine then_n ?_
  refine sy_n (.tmp 6) (part_bdCC 6) (part_bdCC 7) ?_
  refine sy_sq (part_bdCC 14) (part_bdCC 15) ?_
  refine sy_reg ?_
  refine rg_plain 2 (opsAt (part_bdCC 14)) [0, 1, 2, 3, 4, 5] (by kernel_rfl) (by kernel_rfl) ?_
  refine ps_k (o_bdCC 14 0) (pT b 0) ?_
  refine ps_k (o_bdCC 14 1) (pT b 0) ?_
  refine ps_k (o_bdCC 14 2) (pT b 0) ?_
  refine ps_p (o_bdCC 14 3) (pT b 0) (exec_ld 72 (.tmp 16) b 0 Tryd.underlying72 (rc (hb) (by kernel_rfl))) ?_
  refine ps_k (o_bdCC 14 4) (pT b 0) ?_
  refine ps_p (o_bdCC 14 5) (.bool false) (exec_binop .neq 72 72 (.tmp 17) (.tmp 18) (by kernel_rfl) (pT b 0) (pT b 0) _ (by kernel_rfl) (by kernel_rfl) (by kernel_rfl) (Lib.run_neq_ptr_same _ ⟨b, 0, none⟩ Tryd.underlying72 hj)) ?_
  refine ps_end ?_
  refine then_n ?_
  refine sy_n (.tmp 19) (part_bdCC 30) (part_bdCC 31) ?_
  refine sy_sk ?_
  refine sy_fall (.tuple #[]) rfl (by kernel_rfl) ?_
  exact ⟨rfl, hb, K0⟩
theorem bdCC_ok (b : Nat) (a v : Value) (w : World) (hb : w.heap[b]? = some (.cells #[a, v] 74 (0, 0))) (ha : a = .pointer none ∨ a = .pointer (some ⟨b, 0, none⟩)) : Calls Tryd.prog 67 #[.pointer (some ⟨b, 0, none⟩)] w (fun e w' => e = .returned (.tuple #[]) ∧ w'.heap[b]? = some (.cells #[.pointer (some ⟨b, 0, none⟩), v] 74 (0, 0)) ∧ Keeps (One b) w w') := by
  rcases ha with rfl | rfl
  · exact bdCC_fresh b v w hb
  · exact bdCC_used b v w hb
theorem exec_app2 {P : Program} {o : Oper} {ρ : Operand → Value} {w : World} (s x : Operand) (t tn : TypeId) (ho : o.op = .call { callee := .builtin .append, args := #[s, x], argTypes := #[t, tn] }) (vs vx : Value) (hs : ρ s = vs) (hx : ρ x = vx) {v' : Value} {w' : World}
    (hr : (Builtin.append_ #[t, tn] o.type #[vs, vx]).run P w = .ok v' w') : (execOp ρ o).run P w = .ok (.value v') w' := by
  unfold execOp
  simp only [ho, resolve, invoke, builtin, Sem.run_bind, Sem.run_pure, Result.andThen_ok, List.map_toArray, List.map_cons, List.map_nil, hs, hx, hr]
/-- Where the new row lies: in the old one's block, or above. -/
theorem app_at {w w' : World} {t u ty e : TypeId} {i : TypeInfo} {v v' : Value} {n : Nat} {xs : List Value} {s : ByteArray} (hown : Row w e 1 v n xs) (hr : (Builtin.append_ #[t, u] ty #[v, .string s]).run Tryd.prog w = .ok v' w') (ht : Tryd.prog.underlying t = some (.slice e)) (hu : Tryd.prog.underlying u = some .string) (hi : Tryd.prog.info? e = some i) (hz : i.zero = some (.int .u8 0)) (hsize : i.size = 1) (hby : i.bytes = 1) (h63 : n + s.size ≤ maxLen) (hbytes : n + s.size ≤ 140737488355328) :
    ∀ j, v'.ownBlock = some j → v.ownBlock = some j ∨ w.heap.size ≤ j := by
  intro j hj
  by_cases hv : v.ownBlock = some j
  · exact .inl hv
  · refine .inr (Nat.le_of_not_lt fun hlt => ?_)
    -- the row taken from its own block's number, or from the world's size
    rcases hown.2 with ⟨rfl, h0⟩ | ⟨g, cap, cur, rfl, hb, hg, h1, h2, h3, h4⟩
    · obtain ⟨v2, w2, hr2, ho2, _, _⟩ := Lib.run_append_own_string (P := Tryd.prog) (w := w) w.heap.size t u ty e i ht hu hi hz hsize hby (.slice none 0 0) n xs ⟨hown.1, .inl ⟨rfl, h0⟩⟩ s h63 hbytes (Nat.le_refl _)
      rw [hr] at hr2
      simp only [Result.ok.injEq] at hr2
      obtain ⟨rfl, rfl⟩ := hr2
      rcases ho2.2 with ⟨rfl, _⟩ | ⟨g2, _, _, rfl, hb2, _⟩
      · cases hj
      · have e : g2 = j := Option.some.inj hj
        omega
    · by_cases hroom : n + s.size ≤ cap
      · have hr2 := Lib.run_append_room_string (P := Tryd.prog) w t u ty e i ht hu hi hsize g n cap cur hg s hroom (by omega)
        rw [hr] at hr2
        simp only [Result.ok.injEq] at hr2
        obtain ⟨rfl, _⟩ := hr2
        exact hv hj
      · have hr2 := Lib.run_append_grow_string (P := Tryd.prog) w t u ty e i (.int .u8 0) ht hu hi hz ⟨g, 0, none⟩ n cap xs (by rw [hsize]; simpa using hown.1) (fun j u hj => World.ownsRow.cells hown (g := g) rfl j u hj) s (by omega) (by unfold maxLen at h63; omega) (by rw [hby]; exact growslice_fits (by omega) (by omega))
        rw [hr] at hr2
        simp only [Result.ok.injEq] at hr2
        obtain ⟨rfl, _⟩ := hr2
        have e : w.heap.size = j := Option.some.inj hj
        omega
noncomputable def part_bdWS (n : Nat) : Code := partOf Tryd.f42 n
noncomputable abbrev o_bdWS (n k : Nat) : Oper := (opsAt (part_bdWS n)).getD k default
set_option maxRecDepth 100000 in
set_option maxHeartbeats 4000000 in
theorem bdWS_ok (b B1 : Nat) (a v : Value) (l : List UInt8) (s : ByteArray) (w : World) (hb : w.heap[b]? = some (.cells #[a, v] 74 (0, 0))) (ha : a = .pointer none ∨ a = .pointer (some ⟨b, 0, none⟩)) (hrow : Row w 5 1 v l.length (B l)) (hnew : NewFrom B1 v) (hB1 : B1 ≤ w.heap.size) (hlen : l.length + s.size ≤ 100000) :
    Calls Tryd.prog 42 #[.pointer (some ⟨b, 0, none⟩), .string s] w (fun e w' => ∃ v', e = .returned (.tuple #[.int .i64 (s.size : Int), .nilIface]) ∧ w'.heap[b]? = some (.cells #[.pointer (some ⟨b, 0, none⟩), v'] 74 (0, 0)) ∧ Row w' 5 1 v' (l.length + s.size) (B l ++ Lib.strCells s) ∧ NewFrom B1 v' ∧ Keeps (fun j => j = b ∨ B1 ≤ j) w w') := by
  obtain ⟨i0, hi0, hz0, hz1, hz2⟩ := info_parts u8_info0d
  have K0 : Keeps ((fun j => j = b ∨ B1 ≤ j)) w w := Keeps.refl _ _
  refine sy_enter (part_bdWS 1) ⟨#[pT b 0, .string s, undef, undef, undef, undef, undef, undef, undef, undef, undef, undef, undef, undef, undef, undef, undef, undef, undef], []⟩ Tryd.func42 (by kernel_rfl) (by kernel_rfl) ?_
  refine sy_sq (part_bdWS 2) (part_bdWS 3) ?_
  refine sy_reg ?_
  refine rg_plain 0 (opsAt (part_bdWS 2)) [0, 1] (by kernel_rfl) (by kernel_rfl) ?_
  refine ps_k (o_bdWS 2 0) (.int .i64 0) ?_
  refine ps_k (o_bdWS 2 1) (.nilIface) ?_
  refine ps_end ?_
  refine then_n ?_
  refine sy_sq (part_bdWS 6) (part_bdWS 7) ?_
  refine sy_reg ?_
  refine rg_plain 1 (opsAt (part_bdWS 6)) [0, 1] (by kernel_rfl) (by kernel_rfl) ?_
  refine ps_k (o_bdWS 6 0) (pT b 0) ?_
  refine ps_c (o_bdWS 6 1) 67 #[pT b 0] Tryd.func67 ((bdCC_ok b a v _ hb ha).mono ?_)
  rintro e V1 ⟨rfl, h2, kV1⟩
  refine ⟨_, rfl, ?_⟩
  have h3 : Row V1 5 1 v l.length (B l) := hrow.keeps kV1 (fun j hj e => Row.ne hrow hb (by decide) ((show j = b from e) ▸ hj))
  have K4 : Keeps ((fun j => j = b ∨ B1 ≤ j)) w V1 := K0.then kV1 (fun i hi hm => by unfold Own.One at hm; subst hm; exact (.inl rfl))
  have z5 := kV1.size
  refine ps_end ?_
  refine then_n ?_
  refine sy_sq (part_bdWS 14) (part_bdWS 15) ?_
  refine sy_reg ?_
  refine rg_plain 2 (opsAt (part_bdWS 14)) [0, 1, 2, 3, 4, 5, 6, 7, 8, 9] (by kernel_rfl) (by kernel_rfl) ?_
  refine ps_k (o_bdWS 14 0) (pT b 0) ?_
  refine ps_k (o_bdWS 14 1) (pT b 0) ?_
  refine ps_k (o_bdWS 14 2) (pT b 0) ?_
  refine ps_k (o_bdWS 14 3) (pT b 1) ?_
  refine ps_p (o_bdWS 14 4) (v) (exec_ld 39 (.tmp 11) b 1 Tryd.underlying39 (rc (h2) (by kernel_rfl))) ?_
  refine ps_k (o_bdWS 14 5) (.string s) ?_
  obtain ⟨v6, V7, hr8, h9, hg10, hn11⟩ := Lib.run_append_own_string (P := Tryd.prog) (w := V1) 0 39 9 (Oper.type (o_bdWS 14 6)) 5 i0 Tryd.underlying39 Tryd.underlying9 hi0 hz0 hz1 hz2 v l.length (B l) h3 s (by unfold maxLen; omega) (by omega) (Nat.zero_le _)
  have kV7 : Keeps (fun j => v.ownBlock = some j) V1 V7 := Keeps.rowAdd hg10
  have ha12 : ∀ j, v6.ownBlock = some j → v.ownBlock = some j ∨ V1.heap.size ≤ j := app_at h3 hr8 Tryd.underlying39 Tryd.underlying9 hi0 hz0 hz1 hz2 (by unfold maxLen; omega) (by omega)
  refine ps_r (o_bdWS 14 6) v6 (w' := V7) (exec_app2 (.tmp 12) (.tmp 13) 39 9 (by kernel_rfl) v (.string s) (by kernel_rfl) (by kernel_rfl) hr8) ?_
  have hw13 : NewFrom B1 v6 := fun j hj => (ha12 j hj).elim (hnew j) (fun h => Nat.le_trans hB1 (Nat.le_trans K4.size h))
  have h14 : Row V7 5 1 v6 (l.length + s.size) (B l ++ Lib.strCells s) := h9
  have h15 : V7.heap[b]? = some (.cells (#[.pointer (some ⟨b, 0, none⟩), v]) 74 (0, 0)) := (kV7.block b (lt_of_block h2) (fun e => Row.ne h3 h2 (by decide) e)).trans h2
  have K16 : Keeps ((fun j => j = b ∨ B1 ≤ j)) w V7 := K4.then kV7 (fun i hi hm => .inr (hnew i hm))
  have z17 := kV7.size
  refine ps_k (o_bdWS 14 7) (pT b 0) ?_
  refine ps_k (o_bdWS 14 8) (pT b 1) ?_
  obtain ⟨V18, eV18, kV18⟩ := cell_step V7 b 1 v6
  have h19 : V18.heap[b]? = some (.cells (#[.pointer (some ⟨b, 0, none⟩), v6]) 74 (0, 0)) := eV18 ▸ ((heap_setCell_same _ b 1 _ _ v6 h15).trans (congrArg (fun c => some (Obj.cells c 74 (0, 0))) (show (#[.pointer (some ⟨b, 0, none⟩), v] : Array Value).setIfInBounds 1 v6 = #[.pointer (some ⟨b, 0, none⟩), v6] from by kernel_rfl)))
  refine ps_s (o_bdWS 14 9) (w' := V18) (by rw [← eV18]; exact exec_store_cell 39 (.tmp 16) (.tmp 14) (by kernel_rfl) b 1 (by kernel_rfl) v6 (by kernel_rfl) (by kernel_rfl) (Row.cells1 h14) v (rc (h15) (by kernel_rfl)) (frozen_of_row _ _ _ _ _ h15) (Row.one h14)) ?_
  clear eV18
  have h20 : Row V18 5 1 v6 (l.length + s.size) (B l ++ Lib.strCells s) := h14.keeps kV18 (fun j hj e => Row.ne h14 h15 (by decide) ((show j = b from e) ▸ hj))
  have K21 : Keeps ((fun j => j = b ∨ B1 ≤ j)) w V18 := K16.then kV18 (fun i hi hm => by unfold Own.One at hm; subst hm; exact (.inl rfl))
  have z22 := kV18.size
  refine ps_end ?_
  refine then_n ?_
  refine sy_sq (part_bdWS 30) (part_bdWS 31) ?_
  refine sy_reg ?_
  refine rg_plain 3 (opsAt (part_bdWS 30)) [0, 1, 2, 3] (by kernel_rfl) (by kernel_rfl) ?_
  refine ps_k (o_bdWS 30 0) (.string s) ?_
  refine ps_p (o_bdWS 30 1) (.int .i64 (s.size : Int)) (exec_len_str (.tmp 17) 9 (by kernel_rfl) Tryd.underlying9 s (by kernel_rfl)) ?_
  refine ps_k (o_bdWS 30 2) (.int .i64 (s.size : Int)) ?_
  refine ps_k (o_bdWS 30 3) (.nilIface) ?_
  refine ps_end ?_
  refine then_n ?_
  refine sy_ret (by kernel_rfl) ?_
  refine sy_out (.tuple #[.int .i64 (s.size : Int), .nilIface]) rfl (by kernel_rfl) ?_
  exact ⟨v6, rfl, h19, h20, hw13, K21⟩
noncomputable def part_bdWB (n : Nat) : Code := partOf Tryd.f43 n
noncomputable abbrev o_bdWB (n k : Nat) : Oper := (opsAt (part_bdWB n)).getD k default
set_option maxRecDepth 100000 in
set_option maxHeartbeats 4000000 in
theorem bdWB_ok (b B1 : Nat) (a v : Value) (l : List UInt8) (c : UInt8) (w : World) (hb : w.heap[b]? = some (.cells #[a, v] 74 (0, 0))) (ha : a = .pointer none ∨ a = .pointer (some ⟨b, 0, none⟩)) (hrow : Row w 5 1 v l.length (B l)) (hnew : NewFrom B1 v) (hB1 : B1 ≤ w.heap.size) (hlen : l.length + 1 ≤ 100000) :
    Calls Tryd.prog 43 #[.pointer (some ⟨b, 0, none⟩), .int .u8 ((c.toNat : Nat) : Int)] w (fun e w' => ∃ v', e = .returned (.nilIface) ∧ w'.heap[b]? = some (.cells #[.pointer (some ⟨b, 0, none⟩), v'] 74 (0, 0)) ∧ Row w' 5 1 v' (l.length + 1) (B l ++ B [c]) ∧ NewFrom B1 v' ∧ Keeps (fun j => j = b ∨ B1 ≤ j) w w') := by
  obtain ⟨i0, hi0, hz0, hz1, hz2⟩ := info_parts u8_info0d
  have K0 : Keeps ((fun j => j = b ∨ B1 ≤ j)) w w := Keeps.refl _ _
  refine sy_enter (part_bdWB 1) ⟨#[pT b 0, cN c.toNat, undef, undef, undef, undef, undef, undef, undef, undef, undef, undef, undef, undef, undef, undef, undef], []⟩ Tryd.func43 (by kernel_rfl) (by kernel_rfl) ?_
  refine sy_sq (part_bdWB 2) (part_bdWB 3) ?_
  refine sy_reg ?_
  refine rg_plain 0 (opsAt (part_bdWB 2)) [0] (by kernel_rfl) (by kernel_rfl) ?_
  refine ps_k (o_bdWB 2 0) (.nilIface) ?_
  refine ps_end ?_
  refine then_n ?_
  refine sy_sq (part_bdWB 6) (part_bdWB 7) ?_
  refine sy_reg ?_
  refine rg_plain 1 (opsAt (part_bdWB 6)) [0, 1] (by kernel_rfl) (by kernel_rfl) ?_
  refine ps_k (o_bdWB 6 0) (pT b 0) ?_
  refine ps_c (o_bdWB 6 1) 67 #[pT b 0] Tryd.func67 ((bdCC_ok b a v _ hb ha).mono ?_)
  rintro e V1 ⟨rfl, h2, kV1⟩
  refine ⟨_, rfl, ?_⟩
  have h3 : Row V1 5 1 v l.length (B l) := hrow.keeps kV1 (fun j hj e => Row.ne hrow hb (by decide) ((show j = b from e) ▸ hj))
  have K4 : Keeps ((fun j => j = b ∨ B1 ≤ j)) w V1 := K0.then kV1 (fun i hi hm => by unfold Own.One at hm; subst hm; exact (.inl rfl))
  have z5 := kV1.size
  refine ps_end ?_
  refine then_n ?_
  refine sy_sq (part_bdWB 14) (part_bdWB 15) ?_
  refine sy_reg ?_
  refine rg_plain 2 (opsAt (part_bdWB 14)) [0, 1, 2, 3, 4, 5, 6, 7, 8, 9, 10] (by kernel_rfl) (by kernel_rfl) ?_
  refine ps_k (o_bdWB 14 0) (pT b 0) ?_
  refine ps_k (o_bdWB 14 1) (pT b 0) ?_
  refine ps_k (o_bdWB 14 2) (pT b 0) ?_
  refine ps_k (o_bdWB 14 3) (pT b 1) ?_
  refine ps_p (o_bdWB 14 4) (v) (exec_ld 39 (.tmp 10) b 1 Tryd.underlying39 (rc (h2) (by kernel_rfl))) ?_
  refine ps_k (o_bdWB 14 5) (cN c.toNat) ?_
  obtain ⟨V6, eV6, gl, egl, h7, kV6⟩ := alloc_step V1 (#[.int .u8 ((c.toNat : Nat) : Int)]) 5
  have n8 : b < gl := egl ▸ lt_of_block h2
  have n9 : w.heap.size ≤ gl := egl ▸ K4.size
  refine ps_r (o_bdWB 14 6) (.slice (some ⟨gl, 0, none⟩) 1 1) (w' := V6) (by rw [← eV6, ← egl]; kernel_rfl) ?_
  have h10 : Row V6 5 1 v l.length (B l) := h3.keeps kV6 (fun _ _ x => x)
  have h11 := kV6.bk h2
  have K12 := K4.nn kV6
  have z13 := kV6.size
  obtain ⟨v14, V15, hr16, h17, hg18, hn19, ha20⟩ := run_append_any (P := Tryd.prog) (w := V6) 39 (Oper.type (o_bdWB 14 7)) 5 i0 (.int .u8 0) 1 1 Tryd.underlying39 hi0 hz0 hz1 hz2 rfl (by decide) v l.length (B l) h10 (.slice (some ⟨gl, 0, none⟩) 1 1) 1 (B [c]) (src_block h7 1 1 rfl (by rfl)) (by unfold maxLen; omega) (by omega)
  have kV15 : Keeps (fun j => v.ownBlock = some j) V6 V15 := Keeps.rowAdd hg18
  have hw21 : NewFrom B1 v14 := hnew.next (Nat.le_trans hB1 K12.size) ha20
  refine ps_r (o_bdWB 14 7) v14 (w' := V15) (exec_append (.tmp 11) (.tmp 13) 39 (by kernel_rfl) v (.slice (some ⟨gl, 0, none⟩) 1 1) (by kernel_rfl) (by kernel_rfl) hr16) ?_
  have h22 : Row V15 5 1 v14 (l.length + 1) (B l ++ B [c]) := h17
  have h23 : V15.heap[b]? = some (.cells (#[.pointer (some ⟨b, 0, none⟩), v]) 74 (0, 0)) := (kV15.block b (lt_of_block h11) (fun e => Row.ne h10 h11 (by decide) e)).trans h11
  have K24 : Keeps ((fun j => j = b ∨ B1 ≤ j)) w V15 := K12.then kV15 (fun i hi hm => .inr (hnew i hm))
  have z25 := kV15.size
  refine ps_k (o_bdWB 14 8) (pT b 0) ?_
  refine ps_k (o_bdWB 14 9) (pT b 1) ?_
  obtain ⟨V26, eV26, kV26⟩ := cell_step V15 b 1 v14
  have h27 : V26.heap[b]? = some (.cells (#[.pointer (some ⟨b, 0, none⟩), v14]) 74 (0, 0)) := eV26 ▸ ((heap_setCell_same _ b 1 _ _ v14 h23).trans (congrArg (fun c => some (Obj.cells c 74 (0, 0))) (show (#[.pointer (some ⟨b, 0, none⟩), v] : Array Value).setIfInBounds 1 v14 = #[.pointer (some ⟨b, 0, none⟩), v14] from by kernel_rfl)))
  refine ps_s (o_bdWB 14 10) (w' := V26) (by rw [← eV26]; exact exec_store_cell 39 (.tmp 16) (.tmp 14) (by kernel_rfl) b 1 (by kernel_rfl) v14 (by kernel_rfl) (by kernel_rfl) (Row.cells1 h22) v (rc (h23) (by kernel_rfl)) (frozen_of_row _ _ _ _ _ h23) (Row.one h22)) ?_
  clear eV26
  have h28 : Row V26 5 1 v14 (l.length + 1) (B l ++ B [c]) := h22.keeps kV26 (fun j hj e => Row.ne h22 h23 (by decide) ((show j = b from e) ▸ hj))
  have K29 : Keeps ((fun j => j = b ∨ B1 ≤ j)) w V26 := K24.then kV26 (fun i hi hm => by unfold Own.One at hm; subst hm; exact (.inl rfl))
  have z30 := kV26.size
  refine ps_end ?_
  refine then_n ?_
  refine sy_sq (part_bdWB 30) (part_bdWB 31) ?_
  refine sy_reg ?_
  refine rg_plain 3 (opsAt (part_bdWB 30)) [0] (by kernel_rfl) (by kernel_rfl) ?_
  refine ps_k (o_bdWB 30 0) (.nilIface) ?_
  refine ps_end ?_
  refine then_n ?_
  refine sy_ret (by kernel_rfl) ?_
  refine sy_out (.nilIface) rfl (by kernel_rfl) ?_
  exact ⟨v14, rfl, h27, h28, hw21, K29⟩
theorem isSmall_ok (n : Nat) (h : n < 100) (w : World) : Calls Tryd.prog 87 #[.int .i64 ((n : Nat) : Int)] w fun e w' => e = .returned (.string ⟨(Lib.decDigits n).toArray⟩) ∧ w = w' := (Tryd.internal_strconv_small n h w).mono fun e w' h => ⟨h.1, h.2.symm⟩
theorem isND_ok (n : Nat) (h1 : 1 ≤ n) (h2 : n < 18446744073709551616) (w : World) (ht : Lib.TabIs Tryd.prog w "internal/strconv.uint64pow10" .u64 Lib.pow10Tab) : Calls Tryd.prog 88 #[.int .u64 ((n : Nat) : Int)] w fun e w' => e = .returned (.int .i64 ((Lib.nDigits n : Nat) : Int)) ∧ w = w' := (Tryd.internal_strconv_numDigits n h1 h2 w ht).mono fun e w' h => ⟨h.1, h.2.symm⟩
theorem PowTab.keeps {w w' : World} (h : PowTab w) (k : Keeps Nob w w') : PowTab w' := by
  unfold PowTab Lib.TabIs World.var? at *
  cases hg : Tryd.prog.globalNamed "internal/strconv.uint64pow10" with
  | none => simp [hg] at h
  | some g =>
    simp only [hg, Option.bind_some] at h ⊢
    have hlt : g < w.heap.size := by
      rcases Nat.lt_or_ge g w.heap.size with h' | h'
      · exact h'
      · rw [Array.getElem?_eq_none h'] at h; simp at h
    rw [k.block g hlt (fun x => x)]
    exact h
noncomputable def part_ifmtU (n : Nat) : Code := partOf Tryd.f68 n
noncomputable abbrev o_ifmtU (n k : Nat) : Oper := (opsAt (part_ifmtU n)).getD k default
set_option maxRecDepth 100000 in
set_option maxHeartbeats 4000000 in
theorem ifmtU_ok (n : Nat) (w : World) (hn : n < 18446744073709551616) (htab : PowTab w) :
    Calls Tryd.prog 68 #[.int .u64 ((n : Nat) : Int), .int .i64 10] w (fun e w' => e = .returned (.string ⟨(Lib.decDigits n).toArray⟩) ∧ Keeps Nob w w') := by
  have K0 : Keeps Nob w w := Keeps.refl _ _
  refine sy_enter (part_ifmtU 1) ⟨#[uN n, .int .i64 10, undef, undef, undef, undef, undef, undef, undef, undef, undef, undef, undef, undef, undef, undef, undef, undef, undef, undef, undef, undef, undef, undef, undef, undef, undef, undef, undef, undef, undef, undef], []⟩ Tryd.func68 (by kernel_rfl) (by kernel_rfl) ?_
  refine sy_sq (part_ifmtU 2) (part_ifmtU 3) ?_
  refine sy_reg ?_
  refine rg_plain 0 (opsAt (part_ifmtU 2)) [0] (by kernel_rfl) (by kernel_rfl) ?_
  refine ps_k (o_ifmtU 2 0) (.string { data := #[] }) ?_
  refine ps_end ?_
  refine then_n ?_
  refine sy_sq (part_ifmtU 6) (part_ifmtU 7) ?_
  refine sy_sq (part_ifmtU 12) (part_ifmtU 13) ?_
  refine sy_reg ?_
  refine rg_plain 1 (opsAt (part_ifmtU 12)) [0, 1] (by kernel_rfl) (by kernel_rfl) ?_
  refine ps_k (o_ifmtU 12 0) (.int .i64 10) ?_
  refine ps_k (o_ifmtU 12 1) (.bool true) ?_
  refine ps_end ?_
  refine then_n ?_
  refine sy_ys (.tmp 10) (part_ifmtU 26) (part_ifmtU 27) ?_
  refine sy_sq (part_ifmtU 52) (part_ifmtU 53) ?_
  refine sy_sq (part_ifmtU 104) (part_ifmtU 105) ?_
  refine sy_reg ?_
  refine rg_plain 2 (opsAt (part_ifmtU 104)) [0, 1] (by kernel_rfl) (by kernel_rfl) ?_
  refine ps_k (o_ifmtU 104 0) (uN n) ?_
  by_cases c0 : n < 100
  · refine ps_p (o_ifmtU 104 1) (.bool true) (exec_cast (congrArg Value.bool (show decide (((n : Nat) : Int) < (100 : Int)) = true from decide_eq_true (by omega))) (by kernel_rfl)) ?_
    refine ps_end ?_
    refine then_n ?_
    refine sy_ys (.tmp 12) (part_ifmtU 210) (part_ifmtU 211) ?_
    refine sy_sq (part_ifmtU 420) (part_ifmtU 421) ?_
    refine sy_reg ?_
    refine rg_plain 3 (opsAt (part_ifmtU 420)) [0, 1, 2, 3] (by kernel_rfl) (by kernel_rfl) ?_
    refine ps_k (o_ifmtU 420 0) (uN n) ?_
    refine ps_r (o_ifmtU 420 1) (iN n) (w' := w) (exec_convert 22 3 (.tmp 13) (by kernel_rfl) _ (by kernel_rfl) (u64_i64 c0 _)) ?_
    refine ps_c (o_ifmtU 420 2) 87 #[iN n] Tryd.func87 ((isSmall_ok n c0 _).mono ?_)
    rintro e w1 ⟨rfl, rfl⟩
    refine ⟨_, rfl, ?_⟩
    refine ps_k (o_ifmtU 420 3) (.string ⟨(Lib.decDigits n).toArray⟩) ?_
    refine ps_end ?_
    refine then_n ?_
    refine sy_ret (by kernel_rfl) ?_
    refine then_r ?_
    refine then_r ?_
    refine sy_out (.string ⟨(Lib.decDigits n).toArray⟩) rfl (by kernel_rfl) ?_
    exact ⟨rfl, K0⟩
  · have hnd : Lib.nDigits n ≤ 20 := by have := Lib.numDigits_eq n (by omega) hn; split at this <;> omega
    refine ps_p (o_ifmtU 104 1) (.bool false) (exec_cast (congrArg Value.bool (show decide (((n : Nat) : Int) < (100 : Int)) = false from decide_eq_false (by omega))) (by kernel_rfl)) ?_
    refine ps_end ?_
    refine then_n ?_
    refine sy_n (.tmp 12) (part_ifmtU 210) (part_ifmtU 211) ?_
    refine sy_sk ?_
    refine then_n ?_
    refine sy_sq (part_ifmtU 106) (part_ifmtU 107) ?_
    refine sy_reg ?_
    refine rg_plain 4 (opsAt (part_ifmtU 106)) [0] (by kernel_rfl) (by kernel_rfl) ?_
    obtain ⟨V1, eV1, ga, ega, h2, kV1⟩ := alloc_step w (#[.int .u8 0, .int .u8 0, .int .u8 0, .int .u8 0, .int .u8 0, .int .u8 0, .int .u8 0, .int .u8 0, .int .u8 0, .int .u8 0, .int .u8 0, .int .u8 0, .int .u8 0, .int .u8 0, .int .u8 0, .int .u8 0, .int .u8 0, .int .u8 0, .int .u8 0, .int .u8 0, .int .u8 0, .int .u8 0, .int .u8 0, .int .u8 0]) 124
    have n3 : w.heap.size ≤ ga := ega ▸ K0.size
    refine ps_r (o_ifmtU 106 0) (pT ga 0) (w' := V1) (by rw [← eV1, ← ega]; exact exec_alloc0 124 (by kernel_rfl) (.agg (#[.int .u8 0, .int .u8 0, .int .u8 0, .int .u8 0, .int .u8 0, .int .u8 0, .int .u8 0, .int .u8 0, .int .u8 0, .int .u8 0, .int .u8 0, .int .u8 0, .int .u8 0, .int .u8 0, .int .u8 0, .int .u8 0, .int .u8 0, .int .u8 0, .int .u8 0, .int .u8 0, .int .u8 0, .int .u8 0, .int .u8 0, .int .u8 0])) (by kernel_rfl)) ?_
    clear eV1
    have K4 := K0.nn kV1
    have z5 := kV1.size
    refine ps_end ?_
    refine then_n ?_
    refine sy_sq (part_ifmtU 214) (part_ifmtU 215) ?_
    refine sy_reg ?_
    refine rg_plain 5 (opsAt (part_ifmtU 214)) [0, 1, 2] (by kernel_rfl) (by kernel_rfl) ?_
    refine ps_k (o_ifmtU 214 0) (uN n) ?_
    refine ps_c (o_ifmtU 214 1) 88 #[uN n] Tryd.func88 ((isND_ok n (by omega) hn _ (PowTab.keeps htab K4)).mono ?_)
    rintro e w1 ⟨rfl, rfl⟩
    refine ⟨_, rfl, ?_⟩
    refine ps_k (o_ifmtU 214 2) (iN (Lib.nDigits n)) ?_
    refine ps_end ?_
    refine then_n ?_
    refine sy_sq (part_ifmtU 430) (part_ifmtU 431) ?_
    refine sy_reg ?_
    refine rg_plain 6 (opsAt (part_ifmtU 430)) [0, 1, 2, 3] (by kernel_rfl) (by kernel_rfl) ?_
    refine ps_k (o_ifmtU 430 0) (iN (Lib.nDigits n)) ?_
    refine ps_p (o_ifmtU 430 1) (.slice (some ⟨ga, 0, none⟩) (Lib.nDigits n) 24) (exec_slice_arrh 124 (.tmp 5) (.tmp 18) (by kernel_rfl) ga 0 (by kernel_rfl) .i64 (Lib.nDigits n) (by kernel_rfl) 24 5 Tryd.underlying124 (by kernel_rfl) (by omega) (by decide)) ?_
    refine ps_k (o_ifmtU 430 2) (uN n) ?_
    refine ps_c (o_ifmtU 430 3) 89 #[.slice (some ⟨ga, 0, none⟩) (Lib.nDigits n) 24, uN n] Tryd.func89 ((isFB_ok ga n _ h2 (by omega) hn hnd).mono ?_)
    rintro e V6 ⟨rfl, hdig, kV6⟩
    refine ⟨_, rfl, ?_⟩
    have K7 := K4.no kV6 (by omega)
    have z8 := kV6.size
    refine ps_end ?_
    refine then_n ?_
    refine sy_sq (part_ifmtU 862) (part_ifmtU 863) ?_
    refine sy_reg ?_
    refine rg_plain 7 (opsAt (part_ifmtU 862)) [0, 1, 2, 3] (by kernel_rfl) (by kernel_rfl) ?_
    refine ps_k (o_ifmtU 862 0) (iN (Lib.nDigits n)) ?_
    refine ps_p (o_ifmtU 862 1) (.slice (some ⟨ga, 0, none⟩) (Lib.nDigits n) 24) (exec_slice_arrh 124 (.tmp 5) (.tmp 22) (by kernel_rfl) ga 0 (by kernel_rfl) .i64 (Lib.nDigits n) (by kernel_rfl) 24 5 Tryd.underlying124 (by kernel_rfl) (by omega) (by decide)) ?_
    refine ps_r (o_ifmtU 862 2) (.string ⟨(Lib.decDigits n).toArray⟩) (w' := V6) (exec_convert 39 9 (.tmp 23) (by kernel_rfl) _ (by kernel_rfl) (dig_conv hdig)) ?_
    refine ps_k (o_ifmtU 862 3) (.string ⟨(Lib.decDigits n).toArray⟩) ?_
    refine ps_end ?_
    refine then_n ?_
    refine sy_ret (by kernel_rfl) ?_
    refine then_r ?_
    refine sy_out (.string ⟨(Lib.decDigits n).toArray⟩) rfl (by kernel_rfl) ?_
    exact ⟨rfl, K7⟩
noncomputable def part_fmtU (n : Nat) : Code := partOf Tryd.f44 n
noncomputable abbrev o_fmtU (n k : Nat) : Oper := (opsAt (part_fmtU n)).getD k default
set_option maxRecDepth 100000 in
set_option maxHeartbeats 4000000 in
theorem fmtU_ok (n : Nat) (w : World) (hn : n < 18446744073709551616) (htab : PowTab w) :
    Calls Tryd.prog 44 #[.int .u64 ((n : Nat) : Int), .int .i64 10] w (fun e w' => e = .returned (.string ⟨(Lib.decDigits n).toArray⟩) ∧ Keeps Nob w w') := by
  have K0 : Keeps Nob w w := Keeps.refl _ _
  refine sy_enter (part_fmtU 1) ⟨#[uN n, .int .i64 10, undef, undef, undef, undef, undef, undef], []⟩ Tryd.func44 (by kernel_rfl) (by kernel_rfl) ?_
  refine sy_sq (part_fmtU 2) (part_fmtU 3) ?_
  refine sy_reg ?_
  refine rg_plain 0 (opsAt (part_fmtU 2)) [0] (by kernel_rfl) (by kernel_rfl) ?_
  refine ps_k (o_fmtU 2 0) (.string { data := #[] }) ?_
  refine ps_end ?_
  refine then_n ?_
  refine sy_sq (part_fmtU 6) (part_fmtU 7) ?_
  refine sy_reg ?_
  refine rg_plain 1 (opsAt (part_fmtU 6)) [0, 1, 2, 3] (by kernel_rfl) (by kernel_rfl) ?_
  refine ps_k (o_fmtU 6 0) (uN n) ?_
  refine ps_k (o_fmtU 6 1) (.int .i64 10) ?_
  refine ps_c (o_fmtU 6 2) 68 #[uN n, .int .i64 10] Tryd.func68 ((ifmtU_ok n _ hn htab).mono ?_)
  rintro e V1 ⟨rfl, kV1⟩
  refine ⟨_, rfl, ?_⟩
  have K2 := K0.nn kV1
  have z3 := kV1.size
  refine ps_k (o_fmtU 6 3) (.string ⟨(Lib.decDigits n).toArray⟩) ?_
  refine ps_end ?_
  refine then_n ?_
  refine sy_ret (by kernel_rfl) ?_
  refine sy_out (.string ⟨(Lib.decDigits n).toArray⟩) rfl (by kernel_rfl) ?_
  exact ⟨rfl, K2⟩
end Go.Proofs.YtpflmldmbpnllaaDoor
