/-
  Votes: read, by the program (printed by vote9.py). Conditions: none.
-/
import Derived.Test.YtenaakldccjnbaaVoteA
import Derived.Test.YtenaakldccjnbaaCodSp
namespace Go.Proofs.Ytenaakldccjnbaa
open Go Go.RowKit Go.Own Go.Shelf
def aS1 (l : List UInt8) : RS := (rdN l ⟨0, 0⟩ 1 1).2
def aV (l : List UInt8) : Int × RS := rdN l (aS1 l) 0 31
def aS (l : List UInt8) : Int × RS := rdN l (aV l).2 0 4294967296
def aT (l : List UInt8) : Int × RS := rdN l (aS l).2 0 4294967296
def aR (l : List UInt8) : List UInt8 × RS := rdH l (aT l).2
def aG (l : List UInt8) : Int × RS := rdU l (aR l).2
def aF (l : List UInt8) : Int × Int := (aG l).2.fin l
def aAtt (l : List UInt8) : Att := ⟨(aV l).1, (aS l).1, (aT l).1, (aR l).1, (aG l).1.toNat⟩
def attZero : Att := ⟨0, 0, 0, List.replicate 32 0, 0⟩
def aRes (l : List UInt8) : Att := if (aF l).1 = 0 then aAtt l else attZero
def pS1 (l : List UInt8) : RS := (rdN l ⟨0, 0⟩ 2 2).2
def pV (l : List UInt8) : Int × RS := rdN l (pS1 l) 0 31
def pH (l : List UInt8) : Int × RS := rdN l (pV l).2 1 4294967296
def pR (l : List UInt8) : List UInt8 × RS := rdH l (pH l).2
def pG (l : List UInt8) : Int × RS := rdU l (pR l).2
def pF (l : List UInt8) : Int × Int := (pG l).2.fin l
def pPro (l : List UInt8) : Pro := ⟨(pV l).1, (pH l).1, (pR l).1, (pG l).1.toNat⟩
def proZero : Pro := ⟨0, 0, List.replicate 32 0, 0⟩
def pRes (l : List UInt8) : Pro := if (pF l).1 = 0 then pPro l else proZero
theorem rdH_len (l : List UInt8) (s : RS) : (rdH l s).1.length = 32 := by unfold rdH; simp only; split; exact hashOf_length _; simp
theorem rdU_nn (l : List UInt8) (s : RS) : (rdU l s).1 = (((rdU l s).1.toNat : Nat) : Int) := by unfold rdU; simp only; split <;> simp
theorem aR_len (l : List UInt8) : (aR l).1.length = 32 := rdH_len _ _
theorem pR_len (l : List UInt8) : (pR l).1.length = 32 := rdH_len _ _
theorem aRes_len (l : List UInt8) : (aRes l).r.length = 32 := by unfold aRes; split; exact aR_len l; rfl
theorem pRes_len (l : List UInt8) : (pRes l).r.length = 32 := by unfold pRes; split; exact pR_len l; rfl
theorem Rd.u' {w : World} {F : Nat → Prop} {b : Nat} {l : List UInt8} {s : RS} (h : Rd w F b l s) : Calls Try.prog 47 #[.pointer (some ⟨b, 0, none⟩)] w (RPost w F b l (.int .u64 (((rdU l s).1.toNat : Nat) : Int)) (rdU l s).2) := by
  rw [← rdU_nn]; exact h.u

noncomputable def part_vRead1 (n : Nat) : Code := partOf Try.f43 n
noncomputable abbrev o_vRead1 (n k : Nat) : Oper := (opsAt (part_vRead1 n)).getD k default
set_option maxRecDepth 100000 in
set_option maxHeartbeats 4000000 in
theorem vRead1_ok (b gr gf ga : Nat) (F0 : Nat → Prop) (l : List UInt8) (s : RS) (e0 e1 : Int) (a : Att) (w : World) (hr : w.heap[gr]? = some (.cells #[.pointer (some ⟨b, 0, none⟩)] 62 (0, 0))) (hR : Rd w F0 b l s) (hf : w.heap[gf]? = some (.cells #[.int .i64 e0, .int .i64 e1] 32 (0, 0))) (ha : w.heap[ga]? = some (.cells (Att.c a) 29 (0, 0))) (hrl : a.r.length = 32) (hd1 : ga ≠ gf) (hd2 : gr ≠ gf) (hd3 : gr ≠ ga) (hz : (s.fin l).1 = 0) :
    CallsD Try.prog 43 #[.pointer (some ⟨gr, 0, none⟩), .pointer (some ⟨gf, 0, none⟩), .pointer (some ⟨ga, 0, none⟩)] .returning w (fun e u' w' => u' = .returning ∧ (fun e w' => e = .returned (.tuple #[]) ∧ w'.heap[gf]? = some (.cells #[.int .i64 (s.fin l).1, .int .i64 (s.fin l).2] 32 (0, 0)) ∧ w'.heap[ga]? = some (.cells (Att.c (if (s.fin l).1 = 0 then a else attZero)) 29 (0, 0)) ∧ Keeps (fun j => j = gf ∨ j = ga) w w') e w') := by
  have K0 : Keeps ((fun j => j = gf ∨ j = ga)) w w := Keeps.refl _ _
  refine sy_enterC (part_vRead1 1) ⟨#[pT gr 0, pT gf 0, pT ga 0, undef, undef, undef, undef, undef, undef], []⟩ Try.func43 (by kernel_rfl) (by kernel_rfl) ?_
  refine sy_sq (part_vRead1 2) (part_vRead1 3) ?_
  refine sy_reg ?_
  refine rg_plain 0 (opsAt (part_vRead1 2)) [0, 1, 2] (by kernel_rfl) (by kernel_rfl) ?_
  refine ps_p (o_vRead1 2 0) (pT b 0) (exec_ld 62 (.tmp 0) gr 0 Try.underlying62 (rc (hr) (by kernel_rfl))) ?_
  refine ps_c (o_vRead1 2 1) 44 #[pT b 0] Try.func44 ((Rd.fin hR).mono ?_)
  rintro e V1 ⟨rfl, kV1⟩
  refine ⟨_, rfl, ?_⟩
  have h2 := kV1.bk hr
  have h3 := kV1.bk hf
  have h4 := kV1.bk ha
  have K5 := K0.nn kV1
  have z6 := kV1.size
  obtain ⟨V7, eV7, kV7⟩ := rowset_step V1 gf (#[.int .i64 (s.fin l).1, .int .i64 (s.fin l).2])
  have h8 : V7.heap[gf]? = some (.cells (#[.int .i64 (s.fin l).1, .int .i64 (s.fin l).2]) 32 (0, 0)) := eV7 ▸ setRow_heap _ _ _ _ _ _ h3
  refine ps_s (o_vRead1 2 2) (w' := V7) (by rw [← eV7]; exact exec_store_row 32 (.tmp 1) (.tmp 4) (by kernel_rfl) gf (#[.int .i64 (s.fin l).1, .int .i64 (s.fin l).2]) (by kernel_rfl) (by kernel_rfl) 32 (#[.int .i64 e0, .int .i64 e1]) h3 (by kernel_rfl) rfl (by kernel_rfl)) ?_
  clear eV7
  have h9 := kV7.bo h2 (by omega)
  have h10 := kV7.bo h4 (by omega)
  have K11 : Keeps ((fun j => j = gf ∨ j = ga)) w V7 := K5.then kV7 (fun i hi hm => by unfold Own.One at hm; subst hm; exact (Or.inl rfl))
  have z12 := kV7.size
  refine ps_end ?_
  refine then_n ?_
  refine sy_sq (part_vRead1 6) (part_vRead1 7) ?_
  refine sy_reg ?_
  refine rg_plain 1 (opsAt (part_vRead1 6)) [0, 1, 2] (by kernel_rfl) (by kernel_rfl) ?_
  refine ps_k (o_vRead1 6 0) (pT gf 0) ?_
  refine ps_p (o_vRead1 6 1) (.int .i64 (s.fin l).1) (exec_ld 30 (.tmp 5) gf 0 Try.underlying30 (rc (h8) (by kernel_rfl))) ?_
  refine ps_p (o_vRead1 6 2) (.bool false) (nqf (((s.fin l).1) : Int) ((0) : Int) (by omega)) ?_
  refine ps_end ?_
  refine then_n ?_
  refine sy_n (.tmp 7) (part_vRead1 14) (part_vRead1 15) ?_
  refine sy_sk ?_
  refine sy_fall (.tuple #[]) rfl (by kernel_rfl) ?_
  exact ⟨rfl, h8, by rw [if_pos hz]; exact h10, K11⟩
set_option maxRecDepth 100000 in
set_option maxHeartbeats 4000000 in
theorem vRead1_no (b gr gf ga : Nat) (F0 : Nat → Prop) (l : List UInt8) (s : RS) (e0 e1 : Int) (a : Att) (w : World) (hr : w.heap[gr]? = some (.cells #[.pointer (some ⟨b, 0, none⟩)] 62 (0, 0))) (hR : Rd w F0 b l s) (hf : w.heap[gf]? = some (.cells #[.int .i64 e0, .int .i64 e1] 32 (0, 0))) (ha : w.heap[ga]? = some (.cells (Att.c a) 29 (0, 0))) (hrl : a.r.length = 32) (hd1 : ga ≠ gf) (hd2 : gr ≠ gf) (hd3 : gr ≠ ga) (hz : ¬ (s.fin l).1 = 0) :
    CallsD Try.prog 43 #[.pointer (some ⟨gr, 0, none⟩), .pointer (some ⟨gf, 0, none⟩), .pointer (some ⟨ga, 0, none⟩)] .returning w (fun e u' w' => u' = .returning ∧ (fun e w' => e = .returned (.tuple #[]) ∧ w'.heap[gf]? = some (.cells #[.int .i64 (s.fin l).1, .int .i64 (s.fin l).2] 32 (0, 0)) ∧ w'.heap[ga]? = some (.cells (Att.c (if (s.fin l).1 = 0 then a else attZero)) 29 (0, 0)) ∧ Keeps (fun j => j = gf ∨ j = ga) w w') e w') := by
  have K0 : Keeps ((fun j => j = gf ∨ j = ga)) w w := Keeps.refl _ _
  refine sy_enterC (part_vRead1 1) ⟨#[pT gr 0, pT gf 0, pT ga 0, undef, undef, undef, undef, undef, undef], []⟩ Try.func43 (by kernel_rfl) (by kernel_rfl) ?_
  refine sy_sq (part_vRead1 2) (part_vRead1 3) ?_
  refine sy_reg ?_
  refine rg_plain 0 (opsAt (part_vRead1 2)) [0, 1, 2] (by kernel_rfl) (by kernel_rfl) ?_
  refine ps_p (o_vRead1 2 0) (pT b 0) (exec_ld 62 (.tmp 0) gr 0 Try.underlying62 (rc (hr) (by kernel_rfl))) ?_
  refine ps_c (o_vRead1 2 1) 44 #[pT b 0] Try.func44 ((Rd.fin hR).mono ?_)
  rintro e V1 ⟨rfl, kV1⟩
  refine ⟨_, rfl, ?_⟩
  have h2 := kV1.bk hr
  have h3 := kV1.bk hf
  have h4 := kV1.bk ha
  have K5 := K0.nn kV1
  have z6 := kV1.size
  obtain ⟨V7, eV7, kV7⟩ := rowset_step V1 gf (#[.int .i64 (s.fin l).1, .int .i64 (s.fin l).2])
  have h8 : V7.heap[gf]? = some (.cells (#[.int .i64 (s.fin l).1, .int .i64 (s.fin l).2]) 32 (0, 0)) := eV7 ▸ setRow_heap _ _ _ _ _ _ h3
  refine ps_s (o_vRead1 2 2) (w' := V7) (by rw [← eV7]; exact exec_store_row 32 (.tmp 1) (.tmp 4) (by kernel_rfl) gf (#[.int .i64 (s.fin l).1, .int .i64 (s.fin l).2]) (by kernel_rfl) (by kernel_rfl) 32 (#[.int .i64 e0, .int .i64 e1]) h3 (by kernel_rfl) rfl (by kernel_rfl)) ?_
  clear eV7
  have h9 := kV7.bo h2 (by omega)
  have h10 := kV7.bo h4 (by omega)
  have K11 : Keeps ((fun j => j = gf ∨ j = ga)) w V7 := K5.then kV7 (fun i hi hm => by unfold Own.One at hm; subst hm; exact (Or.inl rfl))
  have z12 := kV7.size
  refine ps_end ?_
  refine then_n ?_
  refine sy_sq (part_vRead1 6) (part_vRead1 7) ?_
  refine sy_reg ?_
  refine rg_plain 1 (opsAt (part_vRead1 6)) [0, 1, 2] (by kernel_rfl) (by kernel_rfl) ?_
  refine ps_k (o_vRead1 6 0) (pT gf 0) ?_
  refine ps_p (o_vRead1 6 1) (.int .i64 (s.fin l).1) (exec_ld 30 (.tmp 5) gf 0 Try.underlying30 (rc (h8) (by kernel_rfl))) ?_
  refine ps_p (o_vRead1 6 2) (.bool true) (nqt (((s.fin l).1) : Int) ((0) : Int) (by omega)) ?_
  refine ps_end ?_
  refine then_n ?_
  refine sy_ys (.tmp 7) (part_vRead1 14) (part_vRead1 15) ?_
  refine sy_reg ?_
  refine rg_plain 2 (opsAt (part_vRead1 14)) [0, 1] (by kernel_rfl) (by kernel_rfl) ?_
  refine ps_k (o_vRead1 14 0) (.agg (Att.c attZero)) ?_
  obtain ⟨V13, eV13, kV13⟩ := rowset_step V7 ga ((Att.c attZero))
  have h14 : V13.heap[ga]? = some (.cells (Att.c attZero) 29 (0, 0)) := eV13 ▸ setRow_heap _ _ _ _ _ _ h10
  refine ps_s (o_vRead1 14 1) (w' := V13) (by rw [← eV13]; exact exec_store_row 29 (.tmp 2) (.tmp 8) (by kernel_rfl) ga ((Att.c attZero)) (by kernel_rfl) (by kernel_rfl) 29 (Att.c a) h10 (by rw [Att.c_size _ (show attZero.r.length = 32 from rfl)]; kernel_rfl) (by rw [Att.c_size _ (show attZero.r.length = 32 from rfl), Att.c_size _ hrl]) (Att.c_one _)) ?_
  clear eV13
  have h15 := kV13.bo h9 (by omega)
  have h16 := kV13.bo h8 (by omega)
  have K17 : Keeps ((fun j => j = gf ∨ j = ga)) w V13 := K11.then kV13 (fun i hi hm => by unfold Own.One at hm; subst hm; exact (Or.inr rfl))
  have z18 := kV13.size
  refine ps_end ?_
  refine sy_fall (.tuple #[]) rfl (by kernel_rfl) ?_
  exact ⟨rfl, h16, by rw [if_neg hz]; exact h14, K17⟩
theorem vRead1_any (b gr gf ga : Nat) (F0 : Nat → Prop) (l : List UInt8) (s : RS) (e0 e1 : Int) (a : Att) (w : World) (hr : w.heap[gr]? = some (.cells #[.pointer (some ⟨b, 0, none⟩)] 62 (0, 0))) (hR : Rd w F0 b l s) (hf : w.heap[gf]? = some (.cells #[.int .i64 e0, .int .i64 e1] 32 (0, 0))) (ha : w.heap[ga]? = some (.cells (Att.c a) 29 (0, 0))) (hrl : a.r.length = 32) (hd1 : ga ≠ gf) (hd2 : gr ≠ gf) (hd3 : gr ≠ ga) : CallsD Try.prog 43 #[.pointer (some ⟨gr, 0, none⟩), .pointer (some ⟨gf, 0, none⟩), .pointer (some ⟨ga, 0, none⟩)] .returning w (fun e u' w' => u' = .returning ∧ (fun e w' => e = .returned (.tuple #[]) ∧ w'.heap[gf]? = some (.cells #[.int .i64 (s.fin l).1, .int .i64 (s.fin l).2] 32 (0, 0)) ∧ w'.heap[ga]? = some (.cells (Att.c (if (s.fin l).1 = 0 then a else attZero)) 29 (0, 0)) ∧ Keeps (fun j => j = gf ∨ j = ga) w w') e w') := by
  by_cases hz : (s.fin l).1 = 0
  · exact vRead1_ok b gr gf ga F0 l s e0 e1 a w hr hR hf ha hrl hd1 hd2 hd3 hz
  · exact vRead1_no b gr gf ga F0 l s e0 e1 a w hr hR hf ha hrl hd1 hd2 hd3 hz
noncomputable def part_vRead (n : Nat) : Code := partOf Try.f11 n
noncomputable abbrev o_vRead (n k : Nat) : Oper := (opsAt (part_vRead n)).getD k default
set_option maxRecDepth 100000 in
set_option maxHeartbeats 4000000 in
theorem vRead_ok (v0 : Value) (l : List UInt8) (w : World) (hx : BytesAt w v0 l) (hl : l.length ≤ 100000000) :
    Calls Try.prog 11 #[v0] w (fun e w' => e = .returned (.tuple #[.agg (Att.c (aRes l)), .agg #[.int .i64 (aF l).1, .int .i64 (aF l).2]]) ∧ Keeps Nob w w') := by
  have K0 : Keeps Nob w w := Keeps.refl _ _
  refine sy_enterD (part_vRead 1) ⟨#[v0, undef, undef, undef, undef, undef, undef, undef, undef, undef, undef, undef, undef, undef, undef, undef, undef, undef, undef, undef, undef, undef, undef, undef, undef, undef, undef], []⟩ Try.func11 (by kernel_rfl) (by kernel_rfl) ?_
  refine sy_sq (part_vRead 2) (part_vRead 3) ?_
  refine sy_reg ?_
  refine rg_plain 0 (opsAt (part_vRead 2)) [0, 1] (by kernel_rfl) (by kernel_rfl) ?_
  obtain ⟨V1, eV1, ga, ega, h2, kV1⟩ := alloc_step w (#[.int .i64 0, .int .i64 0, .int .i64 0, .int .u8 0, .int .u8 0, .int .u8 0, .int .u8 0, .int .u8 0, .int .u8 0, .int .u8 0, .int .u8 0, .int .u8 0, .int .u8 0, .int .u8 0, .int .u8 0, .int .u8 0, .int .u8 0, .int .u8 0, .int .u8 0, .int .u8 0, .int .u8 0, .int .u8 0, .int .u8 0, .int .u8 0, .int .u8 0, .int .u8 0, .int .u8 0, .int .u8 0, .int .u8 0, .int .u8 0, .int .u8 0, .int .u8 0, .int .u8 0, .int .u8 0, .int .u8 0, .int .u64 0]) 29
  have n3 : w.heap.size ≤ ga := ega ▸ K0.size
  refine ps_r (o_vRead 2 0) (pT ga 0) (w' := V1) (by rw [← eV1, ← ega]; exact exec_alloc0 29 (by kernel_rfl) (.agg (#[.int .i64 0, .int .i64 0, .int .i64 0, .int .u8 0, .int .u8 0, .int .u8 0, .int .u8 0, .int .u8 0, .int .u8 0, .int .u8 0, .int .u8 0, .int .u8 0, .int .u8 0, .int .u8 0, .int .u8 0, .int .u8 0, .int .u8 0, .int .u8 0, .int .u8 0, .int .u8 0, .int .u8 0, .int .u8 0, .int .u8 0, .int .u8 0, .int .u8 0, .int .u8 0, .int .u8 0, .int .u8 0, .int .u8 0, .int .u8 0, .int .u8 0, .int .u8 0, .int .u8 0, .int .u8 0, .int .u8 0, .int .u64 0])) (by kernel_rfl)) ?_
  clear eV1
  have K4 := K0.nn kV1
  have z5 := kV1.size
  obtain ⟨V6, eV6, gf, egf, h7, kV6⟩ := alloc_step V1 (#[.int .i64 0, .int .i64 0]) 32
  have n8 : ga < gf := egf ▸ lt_of_block h2
  have n9 : w.heap.size ≤ gf := egf ▸ K4.size
  refine ps_r (o_vRead 2 1) (pT gf 0) (w' := V6) (by rw [← eV6, ← egf]; exact exec_alloc0 32 (by kernel_rfl) (.agg (#[.int .i64 0, .int .i64 0])) (by kernel_rfl)) ?_
  clear eV6
  have h10 := kV6.bk h2
  have K11 := K4.nn kV6
  have z12 := kV6.size
  refine ps_end ?_
  refine then_n ?_
  refine sy_sq (part_vRead 6) (part_vRead 7) ?_
  refine sy_reg ?_
  refine rg_plain 1 (opsAt (part_vRead 6)) [0, 1, 2, 3] (by kernel_rfl) (by kernel_rfl) ?_
  refine ps_k (o_vRead 6 0) (v0) ?_
  have h14 : V6.heap[ga]? = some (.cells (Att.c attZero) 29 (0, 0)) := h10.trans (by kernel_rfl)
  have hlg := lt_of_block h14
  have hlf := lt_of_block h7
  have hKs := K11.size
  refine ps_c (o_vRead 6 1) 42 #[v0] Try.func42 ((rd_new v0 l _ (hx.keepsN K11) hl).mono ?_)
  rintro e V13 ⟨b, F0, rfl, hR0, hge0, kV13⟩
  have hlt0 := hR0.lt
  refine ⟨_, rfl, ?_⟩
  have h15 := kV13.bk h7
  have h16 := kV13.bk h14
  have K17 := K11.nn kV13
  have z18 := kV13.size
  obtain ⟨V19, eV19, gr, egr, h20, kV19⟩ := alloc_step V13 (#[.pointer none]) 62
  have n21 : gf < gr := egr ▸ lt_of_block h15
  have n22 : ga < gr := egr ▸ lt_of_block h16
  have n23 : w.heap.size ≤ gr := egr ▸ K17.size
  refine ps_r (o_vRead 6 2) (pT gr 0) (w' := V19) (by rw [← eV19, ← egr]; exact exec_alloc0 62 (by kernel_rfl) (.pointer none) (by kernel_rfl)) ?_
  clear eV19
  have h24 := kV19.bk h15
  have h25 := kV19.bk h16
  have h26 : Rd V19 F0 b l ⟨0, 0⟩ := hR0.keepsN kV19
  have K27 := K17.nn kV19
  have z28 := kV19.size
  obtain ⟨V29, eV29, kV29⟩ := cell_step V19 gr 0 (.pointer (some ⟨b, 0, none⟩))
  have h30 : V29.heap[gr]? = some (.cells (#[.pointer (some ⟨b, 0, none⟩)]) 62 (0, 0)) := eV29 ▸ ((heap_setCell_same _ gr 0 _ _ (.pointer (some ⟨b, 0, none⟩)) h20).trans (congrArg (fun c => some (Obj.cells c 62 (0, 0))) (show (#[.pointer none] : Array Value).setIfInBounds 0 (.pointer (some ⟨b, 0, none⟩)) = #[.pointer (some ⟨b, 0, none⟩)] from by kernel_rfl)))
  refine ps_s (o_vRead 6 3) (w' := V29) (by rw [← eV29]; exact exec_store_cell 62 (.tmp 4) (.tmp 6) (by kernel_rfl) gr 0 (by kernel_rfl) (pT b 0) (by kernel_rfl) (by kernel_rfl) (by kernel_rfl) (.pointer none) (rc (h20) (by kernel_rfl)) (frozen_of_row _ _ _ _ _ h20) (by kernel_rfl)) ?_
  clear eV29
  have h31 := kV29.bo h24 (by omega)
  have h32 := kV29.bo h25 (by omega)
  have h33 : Rd V29 F0 b l ⟨0, 0⟩ := h26.keeps kV29 (fun j hj e => by have := hlt0 j hj; unfold Own.One at e; omega)
  have K34 := K27.no kV29 (by omega)
  have z35 := kV29.size
  refine ps_end ?_
  refine then_n ?_
  refine sy_sq (part_vRead 14) (part_vRead 15) ?_
  refine sy_reg ?_
  refine rg_plain 2 (opsAt (part_vRead 14)) [0, 1] (by kernel_rfl) (by kernel_rfl) ?_
  refine ps_k (o_vRead 14 0) (.func (.func 43) #[] #[pT gr 0, pT gf 0, pT ga 0]) ?_
  refine ps_defer (o_vRead 14 1) ⟨.fn (.func 43) #[.pointer (some ⟨gr, 0, none⟩), .pointer (some ⟨gf, 0, none⟩), .pointer (some ⟨ga, 0, none⟩)], #[]⟩ (by kernel_rfl) (by kernel_rfl) (by kernel_rfl) ?_
  refine ps_end ?_
  refine then_n ?_
  refine sy_sq (part_vRead 30) (part_vRead 31) ?_
  refine sy_reg ?_
  refine rg_plain 3 (opsAt (part_vRead 30)) [0, 1] (by kernel_rfl) (by kernel_rfl) ?_
  refine ps_p (o_vRead 30 0) (pT b 0) (exec_ld 62 (.tmp 4) gr 0 Try.underlying62 (rc (h30) (by kernel_rfl))) ?_
  have d0 : ∀ j, F0 j → w.heap.size ≤ j ∧ j ≠ ga ∧ j ≠ gf ∧ j ≠ gr := fun j h => by have := hge0 j h; have := hlt0 j h; omega
  refine ps_c (o_vRead 30 1) 45 #[pT b 0, .int .i64 1, .int .i64 1] Try.func45 ((Rd.n h33 1 1 (by decide) (by decide)).mono ?_)
  rintro e V36 ⟨rfl, F1, hV36, hSV36⟩
  have hR1 : Rd V36 F1 b l (aS1 l) := hV36
  have d1 : ∀ j, F1 j → w.heap.size ≤ j ∧ j ≠ ga ∧ j ≠ gf ∧ j ≠ gr := fun j h => (hSV36.2 j h).elim (d0 j) (fun h => by have := lt_of_block h32; have := lt_of_block h31; have := lt_of_block h30; have := K34.size; omega)
  refine ⟨_, rfl, ?_⟩
  have h37 : V36.heap[gf]? = some (.cells (#[.int .i64 0, .int .i64 0]) 32 (0, 0)) := (hSV36.1.block gf (lt_of_block h31) (fun e => by have := d0 _ e; omega)).trans h31
  have h38 : V36.heap[ga]? = some (.cells (Att.c attZero) 29 (0, 0)) := (hSV36.1.block ga (lt_of_block h32) (fun e => by have := d0 _ e; omega)).trans h32
  have h39 : V36.heap[gr]? = some (.cells (#[.pointer (some ⟨b, 0, none⟩)]) 62 (0, 0)) := (hSV36.1.block gr (lt_of_block h30) (fun e => by have := d0 _ e; omega)).trans h30
  have K40 : Keeps Nob w V36 := K34.then hSV36.1 (fun i hi hm => absurd hi (by have := d0 i hm; omega))
  have z41 := hSV36.1.size
  refine ps_end ?_
  refine then_n ?_
  refine sy_sq (part_vRead 62) (part_vRead 63) ?_
  refine sy_reg ?_
  refine rg_plain 4 (opsAt (part_vRead 62)) [0, 1, 2, 3] (by kernel_rfl) (by kernel_rfl) ?_
  refine ps_p (o_vRead 62 0) (pT b 0) (exec_ld 62 (.tmp 4) gr 0 Try.underlying62 (rc (h39) (by kernel_rfl))) ?_
  refine ps_c (o_vRead 62 1) 45 #[pT b 0, .int .i64 0, .int .i64 31] Try.func45 ((Rd.n hR1 0 31 (by decide) (by decide)).mono ?_)
  rintro e V42 ⟨rfl, F2, hV42, hSV42⟩
  have hR2 : Rd V42 F2 b l (aV l).2 := hV42
  have d2 : ∀ j, F2 j → w.heap.size ≤ j ∧ j ≠ ga ∧ j ≠ gf ∧ j ≠ gr := fun j h => (hSV42.2 j h).elim (d1 j) (fun h => by have := lt_of_block h38; have := lt_of_block h37; have := lt_of_block h39; have := K40.size; omega)
  refine ⟨_, rfl, ?_⟩
  have h43 : V42.heap[gf]? = some (.cells (#[.int .i64 0, .int .i64 0]) 32 (0, 0)) := (hSV42.1.block gf (lt_of_block h37) (fun e => by have := d1 _ e; omega)).trans h37
  have h44 : V42.heap[ga]? = some (.cells (Att.c attZero) 29 (0, 0)) := (hSV42.1.block ga (lt_of_block h38) (fun e => by have := d1 _ e; omega)).trans h38
  have h45 : V42.heap[gr]? = some (.cells (#[.pointer (some ⟨b, 0, none⟩)]) 62 (0, 0)) := (hSV42.1.block gr (lt_of_block h39) (fun e => by have := d1 _ e; omega)).trans h39
  have K46 : Keeps Nob w V42 := K40.then hSV42.1 (fun i hi hm => absurd hi (by have := d1 i hm; omega))
  have z47 := hSV42.1.size
  refine ps_k (o_vRead 62 2) (pT ga 0) ?_
  obtain ⟨V48, eV48, kV48⟩ := cell_step V42 ga 0 (.int .i64 (aV l).1)
  have h49 : V48.heap[ga]? = some (.cells (Att.c ⟨(aV l).1, attZero.s, attZero.t, attZero.r, attZero.g⟩) 29 (0, 0)) := eV48 ▸ ((heap_setCell_same _ ga 0 _ _ (.int .i64 (aV l).1) h44).trans (congrArg (fun c => some (Obj.cells c 29 (0, 0))) (show (Att.c attZero : Array Value).setIfInBounds 0 (.int .i64 (aV l).1) = Att.c ⟨(aV l).1, attZero.s, attZero.t, attZero.r, attZero.g⟩ from Att.c_set0 _ _)))
  refine ps_s (o_vRead 62 3) (w' := V48) (by rw [← eV48]; exact exec_store_cell 3 (.tmp 12) (.tmp 11) (by kernel_rfl) ga 0 (by kernel_rfl) (.int .i64 (aV l).1) (by kernel_rfl) (by kernel_rfl) (by kernel_rfl) (.int .i64 attZero.v) (rc (h44) (Att.c_0 _)) (frozen_of_row _ _ _ _ _ h44) (by kernel_rfl)) ?_
  clear eV48
  have h50 := kV48.bo h43 (by omega)
  have h51 := kV48.bo h45 (by omega)
  have h52 : Rd V48 F2 b l (aV l).2 := hR2.keeps kV48 (fun j hj e => by have := d2 j hj; unfold Own.One at e; omega)
  have K53 := K46.no kV48 (by omega)
  have z54 := kV48.size
  refine ps_end ?_
  refine then_n ?_
  refine sy_sq (part_vRead 126) (part_vRead 127) ?_
  refine sy_reg ?_
  refine rg_plain 5 (opsAt (part_vRead 126)) [0, 1, 2, 3] (by kernel_rfl) (by kernel_rfl) ?_
  refine ps_p (o_vRead 126 0) (pT b 0) (exec_ld 62 (.tmp 4) gr 0 Try.underlying62 (rc (h51) (by kernel_rfl))) ?_
  refine ps_c (o_vRead 126 1) 45 #[pT b 0, .int .i64 0, .int .i64 4294967296] Try.func45 ((Rd.n h52 0 4294967296 (by decide) (by decide)).mono ?_)
  rintro e V55 ⟨rfl, F3, hV55, hSV55⟩
  have hR3 : Rd V55 F3 b l (aS l).2 := hV55
  have d3 : ∀ j, F3 j → w.heap.size ≤ j ∧ j ≠ ga ∧ j ≠ gf ∧ j ≠ gr := fun j h => (hSV55.2 j h).elim (d2 j) (fun h => by have := lt_of_block h49; have := lt_of_block h50; have := lt_of_block h51; have := K53.size; omega)
  refine ⟨_, rfl, ?_⟩
  have h56 : V55.heap[gf]? = some (.cells (#[.int .i64 0, .int .i64 0]) 32 (0, 0)) := (hSV55.1.block gf (lt_of_block h50) (fun e => by have := d2 _ e; omega)).trans h50
  have h57 : V55.heap[gr]? = some (.cells (#[.pointer (some ⟨b, 0, none⟩)]) 62 (0, 0)) := (hSV55.1.block gr (lt_of_block h51) (fun e => by have := d2 _ e; omega)).trans h51
  have h58 : V55.heap[ga]? = some (.cells (Att.c ⟨(aV l).1, attZero.s, attZero.t, attZero.r, attZero.g⟩) 29 (0, 0)) := (hSV55.1.block ga (lt_of_block h49) (fun e => by have := d2 _ e; omega)).trans h49
  have K59 : Keeps Nob w V55 := K53.then hSV55.1 (fun i hi hm => absurd hi (by have := d2 i hm; omega))
  have z60 := hSV55.1.size
  refine ps_k (o_vRead 126 2) (pT ga 1) ?_
  obtain ⟨V61, eV61, kV61⟩ := cell_step V55 ga 1 (.int .i64 (aS l).1)
  have h62 : V61.heap[ga]? = some (.cells (Att.c ⟨(aV l).1, (aS l).1, attZero.t, attZero.r, attZero.g⟩) 29 (0, 0)) := eV61 ▸ ((heap_setCell_same _ ga 1 _ _ (.int .i64 (aS l).1) h58).trans (congrArg (fun c => some (Obj.cells c 29 (0, 0))) (show (Att.c ⟨(aV l).1, attZero.s, attZero.t, attZero.r, attZero.g⟩ : Array Value).setIfInBounds 1 (.int .i64 (aS l).1) = Att.c ⟨(aV l).1, (aS l).1, attZero.t, attZero.r, attZero.g⟩ from Att.c_set1 _ _)))
  refine ps_s (o_vRead 126 3) (w' := V61) (by rw [← eV61]; exact exec_store_cell 3 (.tmp 15) (.tmp 14) (by kernel_rfl) ga 1 (by kernel_rfl) (.int .i64 (aS l).1) (by kernel_rfl) (by kernel_rfl) (by kernel_rfl) (.int .i64 attZero.s) (rc (h58) (Att.c_1 _)) (frozen_of_row _ _ _ _ _ h58) (by kernel_rfl)) ?_
  clear eV61
  have h63 := kV61.bo h56 (by omega)
  have h64 := kV61.bo h57 (by omega)
  have h65 : Rd V61 F3 b l (aS l).2 := hR3.keeps kV61 (fun j hj e => by have := d3 j hj; unfold Own.One at e; omega)
  have K66 := K59.no kV61 (by omega)
  have z67 := kV61.size
  refine ps_end ?_
  refine then_n ?_
  refine sy_sq (part_vRead 254) (part_vRead 255) ?_
  refine sy_reg ?_
  refine rg_plain 6 (opsAt (part_vRead 254)) [0, 1, 2, 3] (by kernel_rfl) (by kernel_rfl) ?_
  refine ps_p (o_vRead 254 0) (pT b 0) (exec_ld 62 (.tmp 4) gr 0 Try.underlying62 (rc (h64) (by kernel_rfl))) ?_
  refine ps_c (o_vRead 254 1) 45 #[pT b 0, .int .i64 0, .int .i64 4294967296] Try.func45 ((Rd.n h65 0 4294967296 (by decide) (by decide)).mono ?_)
  rintro e V68 ⟨rfl, F4, hV68, hSV68⟩
  have hR4 : Rd V68 F4 b l (aT l).2 := hV68
  have d4 : ∀ j, F4 j → w.heap.size ≤ j ∧ j ≠ ga ∧ j ≠ gf ∧ j ≠ gr := fun j h => (hSV68.2 j h).elim (d3 j) (fun h => by have := lt_of_block h62; have := lt_of_block h63; have := lt_of_block h64; have := K66.size; omega)
  refine ⟨_, rfl, ?_⟩
  have h69 : V68.heap[gf]? = some (.cells (#[.int .i64 0, .int .i64 0]) 32 (0, 0)) := (hSV68.1.block gf (lt_of_block h63) (fun e => by have := d3 _ e; omega)).trans h63
  have h70 : V68.heap[gr]? = some (.cells (#[.pointer (some ⟨b, 0, none⟩)]) 62 (0, 0)) := (hSV68.1.block gr (lt_of_block h64) (fun e => by have := d3 _ e; omega)).trans h64
  have h71 : V68.heap[ga]? = some (.cells (Att.c ⟨(aV l).1, (aS l).1, attZero.t, attZero.r, attZero.g⟩) 29 (0, 0)) := (hSV68.1.block ga (lt_of_block h62) (fun e => by have := d3 _ e; omega)).trans h62
  have K72 : Keeps Nob w V68 := K66.then hSV68.1 (fun i hi hm => absurd hi (by have := d3 i hm; omega))
  have z73 := hSV68.1.size
  refine ps_k (o_vRead 254 2) (pT ga 2) ?_
  obtain ⟨V74, eV74, kV74⟩ := cell_step V68 ga 2 (.int .i64 (aT l).1)
  have h75 : V74.heap[ga]? = some (.cells (Att.c ⟨(aV l).1, (aS l).1, (aT l).1, attZero.r, attZero.g⟩) 29 (0, 0)) := eV74 ▸ ((heap_setCell_same _ ga 2 _ _ (.int .i64 (aT l).1) h71).trans (congrArg (fun c => some (Obj.cells c 29 (0, 0))) (show (Att.c ⟨(aV l).1, (aS l).1, attZero.t, attZero.r, attZero.g⟩ : Array Value).setIfInBounds 2 (.int .i64 (aT l).1) = Att.c ⟨(aV l).1, (aS l).1, (aT l).1, attZero.r, attZero.g⟩ from Att.c_set2 _ _)))
  refine ps_s (o_vRead 254 3) (w' := V74) (by rw [← eV74]; exact exec_store_cell 3 (.tmp 18) (.tmp 17) (by kernel_rfl) ga 2 (by kernel_rfl) (.int .i64 (aT l).1) (by kernel_rfl) (by kernel_rfl) (by kernel_rfl) (.int .i64 attZero.t) (rc (h71) (Att.c_2 _)) (frozen_of_row _ _ _ _ _ h71) (by kernel_rfl)) ?_
  clear eV74
  have h76 := kV74.bo h69 (by omega)
  have h77 := kV74.bo h70 (by omega)
  have h78 : Rd V74 F4 b l (aT l).2 := hR4.keeps kV74 (fun j hj e => by have := d4 j hj; unfold Own.One at e; omega)
  have K79 := K72.no kV74 (by omega)
  have z80 := kV74.size
  refine ps_end ?_
  refine then_n ?_
  refine sy_sq (part_vRead 510) (part_vRead 511) ?_
  refine sy_reg ?_
  refine rg_plain 7 (opsAt (part_vRead 510)) [0, 1, 2, 3] (by kernel_rfl) (by kernel_rfl) ?_
  refine ps_p (o_vRead 510 0) (pT b 0) (exec_ld 62 (.tmp 4) gr 0 Try.underlying62 (rc (h77) (by kernel_rfl))) ?_
  refine ps_c (o_vRead 510 1) 46 #[pT b 0] Try.func46 ((Rd.hash h78 hl).mono ?_)
  rintro e V81 ⟨rfl, F5, hV81, hSV81⟩
  have hR5 : Rd V81 F5 b l (aR l).2 := hV81
  have d5 : ∀ j, F5 j → w.heap.size ≤ j ∧ j ≠ ga ∧ j ≠ gf ∧ j ≠ gr := fun j h => (hSV81.2 j h).elim (d4 j) (fun h => by have := lt_of_block h75; have := lt_of_block h76; have := lt_of_block h77; have := K79.size; omega)
  refine ⟨_, rfl, ?_⟩
  have h82 : V81.heap[gf]? = some (.cells (#[.int .i64 0, .int .i64 0]) 32 (0, 0)) := (hSV81.1.block gf (lt_of_block h76) (fun e => by have := d4 _ e; omega)).trans h76
  have h83 : V81.heap[gr]? = some (.cells (#[.pointer (some ⟨b, 0, none⟩)]) 62 (0, 0)) := (hSV81.1.block gr (lt_of_block h77) (fun e => by have := d4 _ e; omega)).trans h77
  have h84 : V81.heap[ga]? = some (.cells (Att.c ⟨(aV l).1, (aS l).1, (aT l).1, attZero.r, attZero.g⟩) 29 (0, 0)) := (hSV81.1.block ga (lt_of_block h75) (fun e => by have := d4 _ e; omega)).trans h75
  have K85 : Keeps Nob w V81 := K79.then hSV81.1 (fun i hi hm => absurd hi (by have := d4 i hm; omega))
  have z86 := hSV81.1.size
  refine ps_k (o_vRead 510 2) (pT ga 3) ?_
  obtain ⟨V87, eV87⟩ : ∃ V, V81.setCells ga 3 (B (aR l).1).toArray.toList = V := ⟨_, rfl⟩
  have kV87 : Keeps (One ga) V81 V87 := eV87 ▸ Keeps.setCells _ _ _ _
  have h88 : V87.heap[ga]? = some (.cells (Att.c ⟨(aV l).1, (aS l).1, (aT l).1, (aR l).1, attZero.g⟩) 29 (0, 0)) := eV87 ▸ (heap_setCells ga _ _ 3 _ _ h84 (by rw [Att.c_size _ rfl]; simp [B_length, (aR_len l)])).trans (congrArg (fun c => some (Obj.cells c 29 (0, 0))) (Att.c_seth _ (aR l).1 rfl (aR_len l)))
  refine ps_s (o_vRead 510 3) (w' := V87) (by rw [← eV87]; exact exec_store_mid 26 (.tmp 21) (.tmp 20) (by kernel_rfl) ga 3 (by kernel_rfl) (B (aR l).1).toArray (by kernel_rfl) _ _ h84 (by rw [Att.c_size _ rfl]; simp [B_length, (aR_len l)]) (by rw [Bz_size, (aR_len l)]; kernel_rfl) (by rw [List.all_toArray]; exact List.all_eq_true.2 (B_one _))) ?_
  clear eV87
  have h89 := kV87.bo h82 (by omega)
  have h90 := kV87.bo h83 (by omega)
  have h91 : Rd V87 F5 b l (aR l).2 := hR5.keeps kV87 (fun j hj e => by have := d5 j hj; unfold Own.One at e; omega)
  have K92 := K85.no kV87 (by omega)
  have z93 := kV87.size
  refine ps_end ?_
  refine sy_a ⟨#[v0, undef, pT ga 0, pT gf 0, pT gr 0, v0, pT b 0, .func (.func 43) #[] #[pT gr 0, pT gf 0, pT ga 0], pT b 0, .int .i64 (rdN l ⟨0, 0⟩ 1 1).1, pT b 0, .int .i64 (aV l).1, pT ga 0, pT b 0, .int .i64 (aS l).1, pT ga 1, pT b 0, .int .i64 (aT l).1, pT ga 2, pT b 0, .agg (B (aR l).1).toArray, pT ga 3, undef, undef, undef, undef, undef], [⟨.fn (.func 43) #[pT gr 0, pT gf 0, pT ga 0], #[]⟩]⟩ ?_
  refine then_n ?_
  refine sy_sq (part_vRead 1022) (part_vRead 1023) ?_
  refine sy_reg ?_
  refine rg_plain 8 (opsAt (part_vRead 1022)) [0, 1, 2, 3] (by kernel_rfl) (by kernel_rfl) ?_
  refine ps_p (o_vRead 1022 0) (pT b 0) (exec_ld 62 (.tmp 4) gr 0 Try.underlying62 (rc (h90) (by kernel_rfl))) ?_
  refine ps_c (o_vRead 1022 1) 47 #[pT b 0] Try.func47 ((Rd.u' h91).mono ?_)
  rintro e V94 ⟨rfl, F6, hV94, hSV94⟩
  have hR6 : Rd V94 F6 b l (aG l).2 := hV94
  have d6 : ∀ j, F6 j → w.heap.size ≤ j ∧ j ≠ ga ∧ j ≠ gf ∧ j ≠ gr := fun j h => (hSV94.2 j h).elim (d5 j) (fun h => by have := lt_of_block h88; have := lt_of_block h89; have := lt_of_block h90; have := K92.size; omega)
  refine ⟨_, rfl, ?_⟩
  have h95 : V94.heap[gf]? = some (.cells (#[.int .i64 0, .int .i64 0]) 32 (0, 0)) := (hSV94.1.block gf (lt_of_block h89) (fun e => by have := d5 _ e; omega)).trans h89
  have h96 : V94.heap[gr]? = some (.cells (#[.pointer (some ⟨b, 0, none⟩)]) 62 (0, 0)) := (hSV94.1.block gr (lt_of_block h90) (fun e => by have := d5 _ e; omega)).trans h90
  have h97 : V94.heap[ga]? = some (.cells (Att.c ⟨(aV l).1, (aS l).1, (aT l).1, (aR l).1, attZero.g⟩) 29 (0, 0)) := (hSV94.1.block ga (lt_of_block h88) (fun e => by have := d5 _ e; omega)).trans h88
  have K98 : Keeps Nob w V94 := K92.then hSV94.1 (fun i hi hm => absurd hi (by have := d5 i hm; omega))
  have z99 := hSV94.1.size
  refine ps_k (o_vRead 1022 2) (pT ga 35) ?_
  obtain ⟨V100, eV100, kV100⟩ := cell_step V94 ga 35 (.int .u64 (((aG l).1.toNat : Nat) : Int))
  have h101 : V100.heap[ga]? = some (.cells (Att.c ⟨(aV l).1, (aS l).1, (aT l).1, (aR l).1, (aG l).1.toNat⟩) 29 (0, 0)) := eV100 ▸ ((heap_setCell_same _ ga 35 _ _ (.int .u64 (((aG l).1.toNat : Nat) : Int)) h97).trans (congrArg (fun c => some (Obj.cells c 29 (0, 0))) (show (Att.c ⟨(aV l).1, (aS l).1, (aT l).1, (aR l).1, attZero.g⟩ : Array Value).setIfInBounds 35 (.int .u64 (((aG l).1.toNat : Nat) : Int)) = Att.c ⟨(aV l).1, (aS l).1, (aT l).1, (aR l).1, (aG l).1.toNat⟩ from Att.c_settag _ _ (aR_len l))))
  refine ps_s (o_vRead 1022 3) (w' := V100) (by rw [← eV100]; exact exec_store_cell 27 (.tmp 24) (.tmp 23) (by kernel_rfl) ga 35 (by kernel_rfl) (uN ((aG l).1.toNat)) (by kernel_rfl) (by kernel_rfl) (by kernel_rfl) (uN attZero.g) (rc (h97) (Att.c_tag _ (aR_len l))) (frozen_of_row _ _ _ _ _ h97) (by kernel_rfl)) ?_
  clear eV100
  have h102 := kV100.bo h95 (by omega)
  have h103 := kV100.bo h96 (by omega)
  have h104 : Rd V100 F6 b l (aG l).2 := hR6.keeps kV100 (fun j hj e => by have := d6 j hj; unfold Own.One at e; omega)
  have K105 := K98.no kV100 (by omega)
  have z106 := kV100.size
  refine ps_end ?_
  refine then_n ?_
  refine sy_sq (part_vRead 2046) (part_vRead 2047) ?_
  refine sy_np ?_
  refine sy_reg ?_
  refine an_begin 9 4 (opsAt (part_vRead 2046)) (fun W => (W.heap[ga]? = some (.cells (Att.c ⟨(aV l).1, (aS l).1, (aT l).1, (aR l).1, (aG l).1.toNat⟩) 29 (0, 0))) ∧ (W.heap[gf]? = some (.cells (#[.int .i64 0, .int .i64 0]) 32 (0, 0)))) #[false, false, false, false] (by kernel_rfl) (by kernel_rfl) (by kernel_rfl) (by kernel_rfl) ?_
  obtain ⟨V107, eV107, kV107⟩ := drew_step V100
  rw [eV107]
  clear eV107
  have h108 := kV107.bk h102
  have h109 := kV107.bk h103
  have h110 : Rd V107 F6 b l (aG l).2 := h104.keepsN kV107
  have h111 := kV107.bk h101
  have K112 := K105.nn kV107
  have z113 := kV107.size
  refine an_v 0 (o_vRead 2046 0) (.agg (Att.c ⟨(aV l).1, (aS l).1, (aT l).1, (aR l).1, (aG l).1.toNat⟩)) (fun W hS => exec_load_row 29 (.tmp 2) (by kernel_rfl) ga (by kernel_rfl) _ _ (0, 0) _ (hS.1) Try.underlying29 rfl (by rw [Att.c_size _ (aR_len l)]; kernel_rfl)) ⟨h111, h108⟩ ?_
  refine an_v 1 (o_vRead 2046 1) (.agg #[.int .i64 0, .int .i64 0]) (fun W hS => exec_load_row 32 (.tmp 3) (by kernel_rfl) gf (by kernel_rfl) _ _ (0, 0) _ (hS.2) Try.underlying32 rfl (by kernel_rfl)) ⟨h111, h108⟩ ?_
  refine an_o 2 ?_
  obtain ⟨V114, eV114, kV114⟩ := rowset_step V107 ga ((Att.c ⟨(aV l).1, (aS l).1, (aT l).1, (aR l).1, (aG l).1.toNat⟩))
  have h115 : V114.heap[ga]? = some (.cells (Att.c ⟨(aV l).1, (aS l).1, (aT l).1, (aR l).1, (aG l).1.toNat⟩) 29 (0, 0)) := eV114 ▸ setRow_heap _ _ _ _ _ _ h111
  refine on_s (o_vRead 2046 2) (w' := V114) (by rw [← eV114]; exact exec_store_row 29 (.tmp 2) (.tmp 25) (by kernel_rfl) ga ((Att.c ⟨(aV l).1, (aS l).1, (aT l).1, (aR l).1, (aG l).1.toNat⟩)) (by kernel_rfl) (by kernel_rfl) 29 (Att.c ⟨(aV l).1, (aS l).1, (aT l).1, (aR l).1, (aG l).1.toNat⟩) h111 (by rw [Att.c_size _ (aR_len l)]; kernel_rfl) rfl (Att.c_one _)) ?_
  clear eV114
  have h116 := kV114.bo h108 (by omega)
  have h117 := kV114.bo h109 (by omega)
  have h118 : Rd V114 F6 b l (aG l).2 := h110.keeps kV114 (fun j hj e => by have := d6 j hj; unfold Own.One at e; omega)
  have K119 := K112.no kV114 (by omega)
  have z120 := kV114.size
  refine ⟨⟨h115, h116⟩, ?_⟩
  refine an_o 3 ?_
  obtain ⟨V121, eV121, kV121⟩ := rowset_step V114 gf (#[.int .i64 0, .int .i64 0])
  have h122 : V121.heap[gf]? = some (.cells (#[.int .i64 0, .int .i64 0]) 32 (0, 0)) := eV121 ▸ setRow_heap _ _ _ _ _ _ h116
  refine on_s (o_vRead 2046 3) (w' := V121) (by rw [← eV121]; exact exec_store_row 32 (.tmp 3) (.tmp 26) (by kernel_rfl) gf (#[.int .i64 0, .int .i64 0]) (by kernel_rfl) (by kernel_rfl) 32 (#[.int .i64 0, .int .i64 0]) h116 (by kernel_rfl) rfl (by kernel_rfl)) ?_
  clear eV121
  have h123 := kV121.bo h117 (by omega)
  have h124 : Rd V121 F6 b l (aG l).2 := h118.keeps kV121 (fun j hj e => by have := d6 j hj; unfold Own.One at e; omega)
  have h125 := kV121.bo h115 (by omega)
  have K126 := K119.no kV121 (by omega)
  have z127 := kV121.size
  refine ⟨⟨h125, h122⟩, ?_⟩
  refine an_end (by kernel_rfl) ?_
  refine then_n ?_
  refine sy_ret (by kernel_rfl) ?_
  refine sy_outD 43 #[.pointer (some ⟨gr, 0, none⟩), .pointer (some ⟨gf, 0, none⟩), .pointer (some ⟨ga, 0, none⟩)] rfl (fun _ => enters_of Try.func43 (by kernel_rfl) rfl _ _) ((vRead1_any b gr gf ga _ l (aG l).2 0 0 (aAtt l) _ h123 h124 h122 h125 (aR_len l) (by omega) (by omega) (by omega)).mono ?_)
  rintro e u V128 ⟨rfl, rfl, hgf, hga, kV128⟩
  have hG : ∀ j, (j = gf ∨ j = ga) → w.heap.size ≤ j := fun j h => by omega
  have K129 : Keeps Nob w V128 := K126.then kV128 (fun i hi hm => absurd hi (by have := hG i hm; omega))
  have z130 := kV128.size
  refine ⟨rfl, _, rfl, .tuple #[.agg (Att.c (aRes l)), .agg #[.int .i64 (aF l).1, .int .i64 (aF l).2]], results_rows2 (p := 2) (q := 3) (ty := 29) (tz := 32) (by kernel_rfl) _ _ ga gf 29 32 (Att.c (aRes l)) (#[.int .i64 (aF l).1, .int .i64 (aF l).2]) (0, 0) (0, 0) _ _ (by kernel_rfl) hga Try.underlying29 rfl (by rw [Att.c_size _ (aRes_len l)]; kernel_rfl) (by kernel_rfl) hgf Try.underlying32 rfl (by kernel_rfl), ?_⟩
  exact ⟨rfl, K129⟩
noncomputable def part_vReadBlock1 (n : Nat) : Code := partOf Try.f53 n
noncomputable abbrev o_vReadBlock1 (n k : Nat) : Oper := (opsAt (part_vReadBlock1 n)).getD k default
set_option maxRecDepth 100000 in
set_option maxHeartbeats 4000000 in
theorem vReadBlock1_ok (b gr gf ga : Nat) (F0 : Nat → Prop) (l : List UInt8) (s : RS) (e0 e1 : Int) (a : Pro) (w : World) (hr : w.heap[gr]? = some (.cells #[.pointer (some ⟨b, 0, none⟩)] 62 (0, 0))) (hR : Rd w F0 b l s) (hf : w.heap[gf]? = some (.cells #[.int .i64 e0, .int .i64 e1] 32 (0, 0))) (ha : w.heap[ga]? = some (.cells (Pro.c a) 36 (0, 0))) (hrl : a.r.length = 32) (hd1 : ga ≠ gf) (hd2 : gr ≠ gf) (hd3 : gr ≠ ga) (hz : (s.fin l).1 = 0) :
    CallsD Try.prog 53 #[.pointer (some ⟨gr, 0, none⟩), .pointer (some ⟨gf, 0, none⟩), .pointer (some ⟨ga, 0, none⟩)] .returning w (fun e u' w' => u' = .returning ∧ (fun e w' => e = .returned (.tuple #[]) ∧ w'.heap[gf]? = some (.cells #[.int .i64 (s.fin l).1, .int .i64 (s.fin l).2] 32 (0, 0)) ∧ w'.heap[ga]? = some (.cells (Pro.c (if (s.fin l).1 = 0 then a else proZero)) 36 (0, 0)) ∧ Keeps (fun j => j = gf ∨ j = ga) w w') e w') := by
  have K0 : Keeps ((fun j => j = gf ∨ j = ga)) w w := Keeps.refl _ _
  refine sy_enterC (part_vReadBlock1 1) ⟨#[pT gr 0, pT gf 0, pT ga 0, undef, undef, undef, undef, undef, undef], []⟩ Try.func53 (by kernel_rfl) (by kernel_rfl) ?_
  refine sy_sq (part_vReadBlock1 2) (part_vReadBlock1 3) ?_
  refine sy_reg ?_
  refine rg_plain 0 (opsAt (part_vReadBlock1 2)) [0, 1, 2] (by kernel_rfl) (by kernel_rfl) ?_
  refine ps_p (o_vReadBlock1 2 0) (pT b 0) (exec_ld 62 (.tmp 0) gr 0 Try.underlying62 (rc (hr) (by kernel_rfl))) ?_
  refine ps_c (o_vReadBlock1 2 1) 44 #[pT b 0] Try.func44 ((Rd.fin hR).mono ?_)
  rintro e V1 ⟨rfl, kV1⟩
  refine ⟨_, rfl, ?_⟩
  have h2 := kV1.bk hr
  have h3 := kV1.bk hf
  have h4 := kV1.bk ha
  have K5 := K0.nn kV1
  have z6 := kV1.size
  obtain ⟨V7, eV7, kV7⟩ := rowset_step V1 gf (#[.int .i64 (s.fin l).1, .int .i64 (s.fin l).2])
  have h8 : V7.heap[gf]? = some (.cells (#[.int .i64 (s.fin l).1, .int .i64 (s.fin l).2]) 32 (0, 0)) := eV7 ▸ setRow_heap _ _ _ _ _ _ h3
  refine ps_s (o_vReadBlock1 2 2) (w' := V7) (by rw [← eV7]; exact exec_store_row 32 (.tmp 1) (.tmp 4) (by kernel_rfl) gf (#[.int .i64 (s.fin l).1, .int .i64 (s.fin l).2]) (by kernel_rfl) (by kernel_rfl) 32 (#[.int .i64 e0, .int .i64 e1]) h3 (by kernel_rfl) rfl (by kernel_rfl)) ?_
  clear eV7
  have h9 := kV7.bo h2 (by omega)
  have h10 := kV7.bo h4 (by omega)
  have K11 : Keeps ((fun j => j = gf ∨ j = ga)) w V7 := K5.then kV7 (fun i hi hm => by unfold Own.One at hm; subst hm; exact (Or.inl rfl))
  have z12 := kV7.size
  refine ps_end ?_
  refine then_n ?_
  refine sy_sq (part_vReadBlock1 6) (part_vReadBlock1 7) ?_
  refine sy_reg ?_
  refine rg_plain 1 (opsAt (part_vReadBlock1 6)) [0, 1, 2] (by kernel_rfl) (by kernel_rfl) ?_
  refine ps_k (o_vReadBlock1 6 0) (pT gf 0) ?_
  refine ps_p (o_vReadBlock1 6 1) (.int .i64 (s.fin l).1) (exec_ld 30 (.tmp 5) gf 0 Try.underlying30 (rc (h8) (by kernel_rfl))) ?_
  refine ps_p (o_vReadBlock1 6 2) (.bool false) (nqf (((s.fin l).1) : Int) ((0) : Int) (by omega)) ?_
  refine ps_end ?_
  refine then_n ?_
  refine sy_n (.tmp 7) (part_vReadBlock1 14) (part_vReadBlock1 15) ?_
  refine sy_sk ?_
  refine sy_fall (.tuple #[]) rfl (by kernel_rfl) ?_
  exact ⟨rfl, h8, by rw [if_pos hz]; exact h10, K11⟩
set_option maxRecDepth 100000 in
set_option maxHeartbeats 4000000 in
theorem vReadBlock1_no (b gr gf ga : Nat) (F0 : Nat → Prop) (l : List UInt8) (s : RS) (e0 e1 : Int) (a : Pro) (w : World) (hr : w.heap[gr]? = some (.cells #[.pointer (some ⟨b, 0, none⟩)] 62 (0, 0))) (hR : Rd w F0 b l s) (hf : w.heap[gf]? = some (.cells #[.int .i64 e0, .int .i64 e1] 32 (0, 0))) (ha : w.heap[ga]? = some (.cells (Pro.c a) 36 (0, 0))) (hrl : a.r.length = 32) (hd1 : ga ≠ gf) (hd2 : gr ≠ gf) (hd3 : gr ≠ ga) (hz : ¬ (s.fin l).1 = 0) :
    CallsD Try.prog 53 #[.pointer (some ⟨gr, 0, none⟩), .pointer (some ⟨gf, 0, none⟩), .pointer (some ⟨ga, 0, none⟩)] .returning w (fun e u' w' => u' = .returning ∧ (fun e w' => e = .returned (.tuple #[]) ∧ w'.heap[gf]? = some (.cells #[.int .i64 (s.fin l).1, .int .i64 (s.fin l).2] 32 (0, 0)) ∧ w'.heap[ga]? = some (.cells (Pro.c (if (s.fin l).1 = 0 then a else proZero)) 36 (0, 0)) ∧ Keeps (fun j => j = gf ∨ j = ga) w w') e w') := by
  have K0 : Keeps ((fun j => j = gf ∨ j = ga)) w w := Keeps.refl _ _
  refine sy_enterC (part_vReadBlock1 1) ⟨#[pT gr 0, pT gf 0, pT ga 0, undef, undef, undef, undef, undef, undef], []⟩ Try.func53 (by kernel_rfl) (by kernel_rfl) ?_
  refine sy_sq (part_vReadBlock1 2) (part_vReadBlock1 3) ?_
  refine sy_reg ?_
  refine rg_plain 0 (opsAt (part_vReadBlock1 2)) [0, 1, 2] (by kernel_rfl) (by kernel_rfl) ?_
  refine ps_p (o_vReadBlock1 2 0) (pT b 0) (exec_ld 62 (.tmp 0) gr 0 Try.underlying62 (rc (hr) (by kernel_rfl))) ?_
  refine ps_c (o_vReadBlock1 2 1) 44 #[pT b 0] Try.func44 ((Rd.fin hR).mono ?_)
  rintro e V1 ⟨rfl, kV1⟩
  refine ⟨_, rfl, ?_⟩
  have h2 := kV1.bk hr
  have h3 := kV1.bk hf
  have h4 := kV1.bk ha
  have K5 := K0.nn kV1
  have z6 := kV1.size
  obtain ⟨V7, eV7, kV7⟩ := rowset_step V1 gf (#[.int .i64 (s.fin l).1, .int .i64 (s.fin l).2])
  have h8 : V7.heap[gf]? = some (.cells (#[.int .i64 (s.fin l).1, .int .i64 (s.fin l).2]) 32 (0, 0)) := eV7 ▸ setRow_heap _ _ _ _ _ _ h3
  refine ps_s (o_vReadBlock1 2 2) (w' := V7) (by rw [← eV7]; exact exec_store_row 32 (.tmp 1) (.tmp 4) (by kernel_rfl) gf (#[.int .i64 (s.fin l).1, .int .i64 (s.fin l).2]) (by kernel_rfl) (by kernel_rfl) 32 (#[.int .i64 e0, .int .i64 e1]) h3 (by kernel_rfl) rfl (by kernel_rfl)) ?_
  clear eV7
  have h9 := kV7.bo h2 (by omega)
  have h10 := kV7.bo h4 (by omega)
  have K11 : Keeps ((fun j => j = gf ∨ j = ga)) w V7 := K5.then kV7 (fun i hi hm => by unfold Own.One at hm; subst hm; exact (Or.inl rfl))
  have z12 := kV7.size
  refine ps_end ?_
  refine then_n ?_
  refine sy_sq (part_vReadBlock1 6) (part_vReadBlock1 7) ?_
  refine sy_reg ?_
  refine rg_plain 1 (opsAt (part_vReadBlock1 6)) [0, 1, 2] (by kernel_rfl) (by kernel_rfl) ?_
  refine ps_k (o_vReadBlock1 6 0) (pT gf 0) ?_
  refine ps_p (o_vReadBlock1 6 1) (.int .i64 (s.fin l).1) (exec_ld 30 (.tmp 5) gf 0 Try.underlying30 (rc (h8) (by kernel_rfl))) ?_
  refine ps_p (o_vReadBlock1 6 2) (.bool true) (nqt (((s.fin l).1) : Int) ((0) : Int) (by omega)) ?_
  refine ps_end ?_
  refine then_n ?_
  refine sy_ys (.tmp 7) (part_vReadBlock1 14) (part_vReadBlock1 15) ?_
  refine sy_reg ?_
  refine rg_plain 2 (opsAt (part_vReadBlock1 14)) [0, 1] (by kernel_rfl) (by kernel_rfl) ?_
  refine ps_k (o_vReadBlock1 14 0) (.agg (Pro.c proZero)) ?_
  obtain ⟨V13, eV13, kV13⟩ := rowset_step V7 ga ((Pro.c proZero))
  have h14 : V13.heap[ga]? = some (.cells (Pro.c proZero) 36 (0, 0)) := eV13 ▸ setRow_heap _ _ _ _ _ _ h10
  refine ps_s (o_vReadBlock1 14 1) (w' := V13) (by rw [← eV13]; exact exec_store_row 36 (.tmp 2) (.tmp 8) (by kernel_rfl) ga ((Pro.c proZero)) (by kernel_rfl) (by kernel_rfl) 36 (Pro.c a) h10 (by rw [Pro.c_size _ (show proZero.r.length = 32 from rfl)]; kernel_rfl) (by rw [Pro.c_size _ (show proZero.r.length = 32 from rfl), Pro.c_size _ hrl]) (Pro.c_one _)) ?_
  clear eV13
  have h15 := kV13.bo h9 (by omega)
  have h16 := kV13.bo h8 (by omega)
  have K17 : Keeps ((fun j => j = gf ∨ j = ga)) w V13 := K11.then kV13 (fun i hi hm => by unfold Own.One at hm; subst hm; exact (Or.inr rfl))
  have z18 := kV13.size
  refine ps_end ?_
  refine sy_fall (.tuple #[]) rfl (by kernel_rfl) ?_
  exact ⟨rfl, h16, by rw [if_neg hz]; exact h14, K17⟩
theorem vReadBlock1_any (b gr gf ga : Nat) (F0 : Nat → Prop) (l : List UInt8) (s : RS) (e0 e1 : Int) (a : Pro) (w : World) (hr : w.heap[gr]? = some (.cells #[.pointer (some ⟨b, 0, none⟩)] 62 (0, 0))) (hR : Rd w F0 b l s) (hf : w.heap[gf]? = some (.cells #[.int .i64 e0, .int .i64 e1] 32 (0, 0))) (ha : w.heap[ga]? = some (.cells (Pro.c a) 36 (0, 0))) (hrl : a.r.length = 32) (hd1 : ga ≠ gf) (hd2 : gr ≠ gf) (hd3 : gr ≠ ga) : CallsD Try.prog 53 #[.pointer (some ⟨gr, 0, none⟩), .pointer (some ⟨gf, 0, none⟩), .pointer (some ⟨ga, 0, none⟩)] .returning w (fun e u' w' => u' = .returning ∧ (fun e w' => e = .returned (.tuple #[]) ∧ w'.heap[gf]? = some (.cells #[.int .i64 (s.fin l).1, .int .i64 (s.fin l).2] 32 (0, 0)) ∧ w'.heap[ga]? = some (.cells (Pro.c (if (s.fin l).1 = 0 then a else proZero)) 36 (0, 0)) ∧ Keeps (fun j => j = gf ∨ j = ga) w w') e w') := by
  by_cases hz : (s.fin l).1 = 0
  · exact vReadBlock1_ok b gr gf ga F0 l s e0 e1 a w hr hR hf ha hrl hd1 hd2 hd3 hz
  · exact vReadBlock1_no b gr gf ga F0 l s e0 e1 a w hr hR hf ha hrl hd1 hd2 hd3 hz
noncomputable def part_vReadBlock (n : Nat) : Code := partOf Try.f13 n
noncomputable abbrev o_vReadBlock (n k : Nat) : Oper := (opsAt (part_vReadBlock n)).getD k default
set_option maxRecDepth 100000 in
set_option maxHeartbeats 4000000 in
theorem vReadBlock_ok (v0 : Value) (l : List UInt8) (w : World) (hx : BytesAt w v0 l) (hl : l.length ≤ 100000000) :
    Calls Try.prog 13 #[v0] w (fun e w' => e = .returned (.tuple #[.agg (Pro.c (pRes l)), .agg #[.int .i64 (pF l).1, .int .i64 (pF l).2]]) ∧ Keeps Nob w w') := by
  have K0 : Keeps Nob w w := Keeps.refl _ _
  refine sy_enterD (part_vReadBlock 1) ⟨#[v0, undef, undef, undef, undef, undef, undef, undef, undef, undef, undef, undef, undef, undef, undef, undef, undef, undef, undef, undef, undef, undef, undef, undef], []⟩ Try.func13 (by kernel_rfl) (by kernel_rfl) ?_
  refine sy_sq (part_vReadBlock 2) (part_vReadBlock 3) ?_
  refine sy_reg ?_
  refine rg_plain 0 (opsAt (part_vReadBlock 2)) [0, 1] (by kernel_rfl) (by kernel_rfl) ?_
  obtain ⟨V1, eV1, ga, ega, h2, kV1⟩ := alloc_step w (#[.int .i64 0, .int .i64 0, .int .u8 0, .int .u8 0, .int .u8 0, .int .u8 0, .int .u8 0, .int .u8 0, .int .u8 0, .int .u8 0, .int .u8 0, .int .u8 0, .int .u8 0, .int .u8 0, .int .u8 0, .int .u8 0, .int .u8 0, .int .u8 0, .int .u8 0, .int .u8 0, .int .u8 0, .int .u8 0, .int .u8 0, .int .u8 0, .int .u8 0, .int .u8 0, .int .u8 0, .int .u8 0, .int .u8 0, .int .u8 0, .int .u8 0, .int .u8 0, .int .u8 0, .int .u8 0, .int .u64 0]) 36
  have n3 : w.heap.size ≤ ga := ega ▸ K0.size
  refine ps_r (o_vReadBlock 2 0) (pT ga 0) (w' := V1) (by rw [← eV1, ← ega]; exact exec_alloc0 36 (by kernel_rfl) (.agg (#[.int .i64 0, .int .i64 0, .int .u8 0, .int .u8 0, .int .u8 0, .int .u8 0, .int .u8 0, .int .u8 0, .int .u8 0, .int .u8 0, .int .u8 0, .int .u8 0, .int .u8 0, .int .u8 0, .int .u8 0, .int .u8 0, .int .u8 0, .int .u8 0, .int .u8 0, .int .u8 0, .int .u8 0, .int .u8 0, .int .u8 0, .int .u8 0, .int .u8 0, .int .u8 0, .int .u8 0, .int .u8 0, .int .u8 0, .int .u8 0, .int .u8 0, .int .u8 0, .int .u8 0, .int .u8 0, .int .u64 0])) (by kernel_rfl)) ?_
  clear eV1
  have K4 := K0.nn kV1
  have z5 := kV1.size
  obtain ⟨V6, eV6, gf, egf, h7, kV6⟩ := alloc_step V1 (#[.int .i64 0, .int .i64 0]) 32
  have n8 : ga < gf := egf ▸ lt_of_block h2
  have n9 : w.heap.size ≤ gf := egf ▸ K4.size
  refine ps_r (o_vReadBlock 2 1) (pT gf 0) (w' := V6) (by rw [← eV6, ← egf]; exact exec_alloc0 32 (by kernel_rfl) (.agg (#[.int .i64 0, .int .i64 0])) (by kernel_rfl)) ?_
  clear eV6
  have h10 := kV6.bk h2
  have K11 := K4.nn kV6
  have z12 := kV6.size
  refine ps_end ?_
  refine then_n ?_
  refine sy_sq (part_vReadBlock 6) (part_vReadBlock 7) ?_
  refine sy_reg ?_
  refine rg_plain 1 (opsAt (part_vReadBlock 6)) [0, 1, 2, 3] (by kernel_rfl) (by kernel_rfl) ?_
  refine ps_k (o_vReadBlock 6 0) (v0) ?_
  have h14 : V6.heap[ga]? = some (.cells (Pro.c proZero) 36 (0, 0)) := h10.trans (by kernel_rfl)
  have hlg := lt_of_block h14
  have hlf := lt_of_block h7
  have hKs := K11.size
  refine ps_c (o_vReadBlock 6 1) 42 #[v0] Try.func42 ((rd_new v0 l _ (hx.keepsN K11) hl).mono ?_)
  rintro e V13 ⟨b, F0, rfl, hR0, hge0, kV13⟩
  have hlt0 := hR0.lt
  refine ⟨_, rfl, ?_⟩
  have h15 := kV13.bk h7
  have h16 := kV13.bk h14
  have K17 := K11.nn kV13
  have z18 := kV13.size
  obtain ⟨V19, eV19, gr, egr, h20, kV19⟩ := alloc_step V13 (#[.pointer none]) 62
  have n21 : gf < gr := egr ▸ lt_of_block h15
  have n22 : ga < gr := egr ▸ lt_of_block h16
  have n23 : w.heap.size ≤ gr := egr ▸ K17.size
  refine ps_r (o_vReadBlock 6 2) (pT gr 0) (w' := V19) (by rw [← eV19, ← egr]; exact exec_alloc0 62 (by kernel_rfl) (.pointer none) (by kernel_rfl)) ?_
  clear eV19
  have h24 := kV19.bk h15
  have h25 := kV19.bk h16
  have h26 : Rd V19 F0 b l ⟨0, 0⟩ := hR0.keepsN kV19
  have K27 := K17.nn kV19
  have z28 := kV19.size
  obtain ⟨V29, eV29, kV29⟩ := cell_step V19 gr 0 (.pointer (some ⟨b, 0, none⟩))
  have h30 : V29.heap[gr]? = some (.cells (#[.pointer (some ⟨b, 0, none⟩)]) 62 (0, 0)) := eV29 ▸ ((heap_setCell_same _ gr 0 _ _ (.pointer (some ⟨b, 0, none⟩)) h20).trans (congrArg (fun c => some (Obj.cells c 62 (0, 0))) (show (#[.pointer none] : Array Value).setIfInBounds 0 (.pointer (some ⟨b, 0, none⟩)) = #[.pointer (some ⟨b, 0, none⟩)] from by kernel_rfl)))
  refine ps_s (o_vReadBlock 6 3) (w' := V29) (by rw [← eV29]; exact exec_store_cell 62 (.tmp 4) (.tmp 6) (by kernel_rfl) gr 0 (by kernel_rfl) (pT b 0) (by kernel_rfl) (by kernel_rfl) (by kernel_rfl) (.pointer none) (rc (h20) (by kernel_rfl)) (frozen_of_row _ _ _ _ _ h20) (by kernel_rfl)) ?_
  clear eV29
  have h31 := kV29.bo h24 (by omega)
  have h32 := kV29.bo h25 (by omega)
  have h33 : Rd V29 F0 b l ⟨0, 0⟩ := h26.keeps kV29 (fun j hj e => by have := hlt0 j hj; unfold Own.One at e; omega)
  have K34 := K27.no kV29 (by omega)
  have z35 := kV29.size
  refine ps_end ?_
  refine then_n ?_
  refine sy_sq (part_vReadBlock 14) (part_vReadBlock 15) ?_
  refine sy_reg ?_
  refine rg_plain 2 (opsAt (part_vReadBlock 14)) [0, 1] (by kernel_rfl) (by kernel_rfl) ?_
  refine ps_k (o_vReadBlock 14 0) (.func (.func 53) #[] #[pT gr 0, pT gf 0, pT ga 0]) ?_
  refine ps_defer (o_vReadBlock 14 1) ⟨.fn (.func 53) #[.pointer (some ⟨gr, 0, none⟩), .pointer (some ⟨gf, 0, none⟩), .pointer (some ⟨ga, 0, none⟩)], #[]⟩ (by kernel_rfl) (by kernel_rfl) (by kernel_rfl) ?_
  refine ps_end ?_
  refine then_n ?_
  refine sy_sq (part_vReadBlock 30) (part_vReadBlock 31) ?_
  refine sy_reg ?_
  refine rg_plain 3 (opsAt (part_vReadBlock 30)) [0, 1] (by kernel_rfl) (by kernel_rfl) ?_
  refine ps_p (o_vReadBlock 30 0) (pT b 0) (exec_ld 62 (.tmp 4) gr 0 Try.underlying62 (rc (h30) (by kernel_rfl))) ?_
  have d0 : ∀ j, F0 j → w.heap.size ≤ j ∧ j ≠ ga ∧ j ≠ gf ∧ j ≠ gr := fun j h => by have := hge0 j h; have := hlt0 j h; omega
  refine ps_c (o_vReadBlock 30 1) 45 #[pT b 0, .int .i64 2, .int .i64 2] Try.func45 ((Rd.n h33 2 2 (by decide) (by decide)).mono ?_)
  rintro e V36 ⟨rfl, F1, hV36, hSV36⟩
  have hR1 : Rd V36 F1 b l (pS1 l) := hV36
  have d1 : ∀ j, F1 j → w.heap.size ≤ j ∧ j ≠ ga ∧ j ≠ gf ∧ j ≠ gr := fun j h => (hSV36.2 j h).elim (d0 j) (fun h => by have := lt_of_block h32; have := lt_of_block h31; have := lt_of_block h30; have := K34.size; omega)
  refine ⟨_, rfl, ?_⟩
  have h37 : V36.heap[gf]? = some (.cells (#[.int .i64 0, .int .i64 0]) 32 (0, 0)) := (hSV36.1.block gf (lt_of_block h31) (fun e => by have := d0 _ e; omega)).trans h31
  have h38 : V36.heap[ga]? = some (.cells (Pro.c proZero) 36 (0, 0)) := (hSV36.1.block ga (lt_of_block h32) (fun e => by have := d0 _ e; omega)).trans h32
  have h39 : V36.heap[gr]? = some (.cells (#[.pointer (some ⟨b, 0, none⟩)]) 62 (0, 0)) := (hSV36.1.block gr (lt_of_block h30) (fun e => by have := d0 _ e; omega)).trans h30
  have K40 : Keeps Nob w V36 := K34.then hSV36.1 (fun i hi hm => absurd hi (by have := d0 i hm; omega))
  have z41 := hSV36.1.size
  refine ps_end ?_
  refine then_n ?_
  refine sy_sq (part_vReadBlock 62) (part_vReadBlock 63) ?_
  refine sy_reg ?_
  refine rg_plain 4 (opsAt (part_vReadBlock 62)) [0, 1, 2, 3] (by kernel_rfl) (by kernel_rfl) ?_
  refine ps_p (o_vReadBlock 62 0) (pT b 0) (exec_ld 62 (.tmp 4) gr 0 Try.underlying62 (rc (h39) (by kernel_rfl))) ?_
  refine ps_c (o_vReadBlock 62 1) 45 #[pT b 0, .int .i64 0, .int .i64 31] Try.func45 ((Rd.n hR1 0 31 (by decide) (by decide)).mono ?_)
  rintro e V42 ⟨rfl, F2, hV42, hSV42⟩
  have hR2 : Rd V42 F2 b l (pV l).2 := hV42
  have d2 : ∀ j, F2 j → w.heap.size ≤ j ∧ j ≠ ga ∧ j ≠ gf ∧ j ≠ gr := fun j h => (hSV42.2 j h).elim (d1 j) (fun h => by have := lt_of_block h38; have := lt_of_block h37; have := lt_of_block h39; have := K40.size; omega)
  refine ⟨_, rfl, ?_⟩
  have h43 : V42.heap[gf]? = some (.cells (#[.int .i64 0, .int .i64 0]) 32 (0, 0)) := (hSV42.1.block gf (lt_of_block h37) (fun e => by have := d1 _ e; omega)).trans h37
  have h44 : V42.heap[ga]? = some (.cells (Pro.c proZero) 36 (0, 0)) := (hSV42.1.block ga (lt_of_block h38) (fun e => by have := d1 _ e; omega)).trans h38
  have h45 : V42.heap[gr]? = some (.cells (#[.pointer (some ⟨b, 0, none⟩)]) 62 (0, 0)) := (hSV42.1.block gr (lt_of_block h39) (fun e => by have := d1 _ e; omega)).trans h39
  have K46 : Keeps Nob w V42 := K40.then hSV42.1 (fun i hi hm => absurd hi (by have := d1 i hm; omega))
  have z47 := hSV42.1.size
  refine ps_k (o_vReadBlock 62 2) (pT ga 0) ?_
  obtain ⟨V48, eV48, kV48⟩ := cell_step V42 ga 0 (.int .i64 (pV l).1)
  have h49 : V48.heap[ga]? = some (.cells (Pro.c ⟨(pV l).1, proZero.h, proZero.r, proZero.g⟩) 36 (0, 0)) := eV48 ▸ ((heap_setCell_same _ ga 0 _ _ (.int .i64 (pV l).1) h44).trans (congrArg (fun c => some (Obj.cells c 36 (0, 0))) (show (Pro.c proZero : Array Value).setIfInBounds 0 (.int .i64 (pV l).1) = Pro.c ⟨(pV l).1, proZero.h, proZero.r, proZero.g⟩ from Pro.c_set0 _ _)))
  refine ps_s (o_vReadBlock 62 3) (w' := V48) (by rw [← eV48]; exact exec_store_cell 3 (.tmp 12) (.tmp 11) (by kernel_rfl) ga 0 (by kernel_rfl) (.int .i64 (pV l).1) (by kernel_rfl) (by kernel_rfl) (by kernel_rfl) (.int .i64 proZero.v) (rc (h44) (Pro.c_0 _)) (frozen_of_row _ _ _ _ _ h44) (by kernel_rfl)) ?_
  clear eV48
  have h50 := kV48.bo h43 (by omega)
  have h51 := kV48.bo h45 (by omega)
  have h52 : Rd V48 F2 b l (pV l).2 := hR2.keeps kV48 (fun j hj e => by have := d2 j hj; unfold Own.One at e; omega)
  have K53 := K46.no kV48 (by omega)
  have z54 := kV48.size
  refine ps_end ?_
  refine then_n ?_
  refine sy_sq (part_vReadBlock 126) (part_vReadBlock 127) ?_
  refine sy_reg ?_
  refine rg_plain 5 (opsAt (part_vReadBlock 126)) [0, 1, 2, 3] (by kernel_rfl) (by kernel_rfl) ?_
  refine ps_p (o_vReadBlock 126 0) (pT b 0) (exec_ld 62 (.tmp 4) gr 0 Try.underlying62 (rc (h51) (by kernel_rfl))) ?_
  refine ps_c (o_vReadBlock 126 1) 45 #[pT b 0, .int .i64 1, .int .i64 4294967296] Try.func45 ((Rd.n h52 1 4294967296 (by decide) (by decide)).mono ?_)
  rintro e V55 ⟨rfl, F3, hV55, hSV55⟩
  have hR3 : Rd V55 F3 b l (pH l).2 := hV55
  have d3 : ∀ j, F3 j → w.heap.size ≤ j ∧ j ≠ ga ∧ j ≠ gf ∧ j ≠ gr := fun j h => (hSV55.2 j h).elim (d2 j) (fun h => by have := lt_of_block h49; have := lt_of_block h50; have := lt_of_block h51; have := K53.size; omega)
  refine ⟨_, rfl, ?_⟩
  have h56 : V55.heap[gf]? = some (.cells (#[.int .i64 0, .int .i64 0]) 32 (0, 0)) := (hSV55.1.block gf (lt_of_block h50) (fun e => by have := d2 _ e; omega)).trans h50
  have h57 : V55.heap[gr]? = some (.cells (#[.pointer (some ⟨b, 0, none⟩)]) 62 (0, 0)) := (hSV55.1.block gr (lt_of_block h51) (fun e => by have := d2 _ e; omega)).trans h51
  have h58 : V55.heap[ga]? = some (.cells (Pro.c ⟨(pV l).1, proZero.h, proZero.r, proZero.g⟩) 36 (0, 0)) := (hSV55.1.block ga (lt_of_block h49) (fun e => by have := d2 _ e; omega)).trans h49
  have K59 : Keeps Nob w V55 := K53.then hSV55.1 (fun i hi hm => absurd hi (by have := d2 i hm; omega))
  have z60 := hSV55.1.size
  refine ps_k (o_vReadBlock 126 2) (pT ga 1) ?_
  obtain ⟨V61, eV61, kV61⟩ := cell_step V55 ga 1 (.int .i64 (pH l).1)
  have h62 : V61.heap[ga]? = some (.cells (Pro.c ⟨(pV l).1, (pH l).1, proZero.r, proZero.g⟩) 36 (0, 0)) := eV61 ▸ ((heap_setCell_same _ ga 1 _ _ (.int .i64 (pH l).1) h58).trans (congrArg (fun c => some (Obj.cells c 36 (0, 0))) (show (Pro.c ⟨(pV l).1, proZero.h, proZero.r, proZero.g⟩ : Array Value).setIfInBounds 1 (.int .i64 (pH l).1) = Pro.c ⟨(pV l).1, (pH l).1, proZero.r, proZero.g⟩ from Pro.c_set1 _ _)))
  refine ps_s (o_vReadBlock 126 3) (w' := V61) (by rw [← eV61]; exact exec_store_cell 3 (.tmp 15) (.tmp 14) (by kernel_rfl) ga 1 (by kernel_rfl) (.int .i64 (pH l).1) (by kernel_rfl) (by kernel_rfl) (by kernel_rfl) (.int .i64 proZero.h) (rc (h58) (Pro.c_1 _)) (frozen_of_row _ _ _ _ _ h58) (by kernel_rfl)) ?_
  clear eV61
  have h63 := kV61.bo h56 (by omega)
  have h64 := kV61.bo h57 (by omega)
  have h65 : Rd V61 F3 b l (pH l).2 := hR3.keeps kV61 (fun j hj e => by have := d3 j hj; unfold Own.One at e; omega)
  have K66 := K59.no kV61 (by omega)
  have z67 := kV61.size
  refine ps_end ?_
  refine then_n ?_
  refine sy_sq (part_vReadBlock 254) (part_vReadBlock 255) ?_
  refine sy_reg ?_
  refine rg_plain 6 (opsAt (part_vReadBlock 254)) [0, 1, 2, 3] (by kernel_rfl) (by kernel_rfl) ?_
  refine ps_p (o_vReadBlock 254 0) (pT b 0) (exec_ld 62 (.tmp 4) gr 0 Try.underlying62 (rc (h64) (by kernel_rfl))) ?_
  refine ps_c (o_vReadBlock 254 1) 46 #[pT b 0] Try.func46 ((Rd.hash h65 hl).mono ?_)
  rintro e V68 ⟨rfl, F4, hV68, hSV68⟩
  have hR4 : Rd V68 F4 b l (pR l).2 := hV68
  have d4 : ∀ j, F4 j → w.heap.size ≤ j ∧ j ≠ ga ∧ j ≠ gf ∧ j ≠ gr := fun j h => (hSV68.2 j h).elim (d3 j) (fun h => by have := lt_of_block h62; have := lt_of_block h63; have := lt_of_block h64; have := K66.size; omega)
  refine ⟨_, rfl, ?_⟩
  have h69 : V68.heap[gf]? = some (.cells (#[.int .i64 0, .int .i64 0]) 32 (0, 0)) := (hSV68.1.block gf (lt_of_block h63) (fun e => by have := d3 _ e; omega)).trans h63
  have h70 : V68.heap[gr]? = some (.cells (#[.pointer (some ⟨b, 0, none⟩)]) 62 (0, 0)) := (hSV68.1.block gr (lt_of_block h64) (fun e => by have := d3 _ e; omega)).trans h64
  have h71 : V68.heap[ga]? = some (.cells (Pro.c ⟨(pV l).1, (pH l).1, proZero.r, proZero.g⟩) 36 (0, 0)) := (hSV68.1.block ga (lt_of_block h62) (fun e => by have := d3 _ e; omega)).trans h62
  have K72 : Keeps Nob w V68 := K66.then hSV68.1 (fun i hi hm => absurd hi (by have := d3 i hm; omega))
  have z73 := hSV68.1.size
  refine ps_k (o_vReadBlock 254 2) (pT ga 2) ?_
  obtain ⟨V74, eV74⟩ : ∃ V, V68.setCells ga 2 (B (pR l).1).toArray.toList = V := ⟨_, rfl⟩
  have kV74 : Keeps (One ga) V68 V74 := eV74 ▸ Keeps.setCells _ _ _ _
  have h75 : V74.heap[ga]? = some (.cells (Pro.c ⟨(pV l).1, (pH l).1, (pR l).1, proZero.g⟩) 36 (0, 0)) := eV74 ▸ (heap_setCells ga _ _ 2 _ _ h71 (by rw [Pro.c_size _ rfl]; simp [B_length, (pR_len l)])).trans (congrArg (fun c => some (Obj.cells c 36 (0, 0))) (Pro.c_seth _ (pR l).1 rfl (pR_len l)))
  refine ps_s (o_vReadBlock 254 3) (w' := V74) (by rw [← eV74]; exact exec_store_mid 26 (.tmp 18) (.tmp 17) (by kernel_rfl) ga 2 (by kernel_rfl) (B (pR l).1).toArray (by kernel_rfl) _ _ h71 (by rw [Pro.c_size _ rfl]; simp [B_length, (pR_len l)]) (by rw [Bz_size, (pR_len l)]; kernel_rfl) (by rw [List.all_toArray]; exact List.all_eq_true.2 (B_one _))) ?_
  clear eV74
  have h76 := kV74.bo h69 (by omega)
  have h77 := kV74.bo h70 (by omega)
  have h78 : Rd V74 F4 b l (pR l).2 := hR4.keeps kV74 (fun j hj e => by have := d4 j hj; unfold Own.One at e; omega)
  have K79 := K72.no kV74 (by omega)
  have z80 := kV74.size
  refine ps_end ?_
  refine then_n ?_
  refine sy_sq (part_vReadBlock 510) (part_vReadBlock 511) ?_
  refine sy_reg ?_
  refine rg_plain 7 (opsAt (part_vReadBlock 510)) [0, 1, 2, 3] (by kernel_rfl) (by kernel_rfl) ?_
  refine ps_p (o_vReadBlock 510 0) (pT b 0) (exec_ld 62 (.tmp 4) gr 0 Try.underlying62 (rc (h77) (by kernel_rfl))) ?_
  refine ps_c (o_vReadBlock 510 1) 47 #[pT b 0] Try.func47 ((Rd.u' h78).mono ?_)
  rintro e V81 ⟨rfl, F5, hV81, hSV81⟩
  have hR5 : Rd V81 F5 b l (pG l).2 := hV81
  have d5 : ∀ j, F5 j → w.heap.size ≤ j ∧ j ≠ ga ∧ j ≠ gf ∧ j ≠ gr := fun j h => (hSV81.2 j h).elim (d4 j) (fun h => by have := lt_of_block h75; have := lt_of_block h76; have := lt_of_block h77; have := K79.size; omega)
  refine ⟨_, rfl, ?_⟩
  have h82 : V81.heap[gf]? = some (.cells (#[.int .i64 0, .int .i64 0]) 32 (0, 0)) := (hSV81.1.block gf (lt_of_block h76) (fun e => by have := d4 _ e; omega)).trans h76
  have h83 : V81.heap[gr]? = some (.cells (#[.pointer (some ⟨b, 0, none⟩)]) 62 (0, 0)) := (hSV81.1.block gr (lt_of_block h77) (fun e => by have := d4 _ e; omega)).trans h77
  have h84 : V81.heap[ga]? = some (.cells (Pro.c ⟨(pV l).1, (pH l).1, (pR l).1, proZero.g⟩) 36 (0, 0)) := (hSV81.1.block ga (lt_of_block h75) (fun e => by have := d4 _ e; omega)).trans h75
  have K85 : Keeps Nob w V81 := K79.then hSV81.1 (fun i hi hm => absurd hi (by have := d4 i hm; omega))
  have z86 := hSV81.1.size
  refine ps_k (o_vReadBlock 510 2) (pT ga 34) ?_
  obtain ⟨V87, eV87, kV87⟩ := cell_step V81 ga 34 (.int .u64 (((pG l).1.toNat : Nat) : Int))
  have h88 : V87.heap[ga]? = some (.cells (Pro.c ⟨(pV l).1, (pH l).1, (pR l).1, (pG l).1.toNat⟩) 36 (0, 0)) := eV87 ▸ ((heap_setCell_same _ ga 34 _ _ (.int .u64 (((pG l).1.toNat : Nat) : Int)) h84).trans (congrArg (fun c => some (Obj.cells c 36 (0, 0))) (show (Pro.c ⟨(pV l).1, (pH l).1, (pR l).1, proZero.g⟩ : Array Value).setIfInBounds 34 (.int .u64 (((pG l).1.toNat : Nat) : Int)) = Pro.c ⟨(pV l).1, (pH l).1, (pR l).1, (pG l).1.toNat⟩ from Pro.c_settag _ _ (pR_len l))))
  refine ps_s (o_vReadBlock 510 3) (w' := V87) (by rw [← eV87]; exact exec_store_cell 27 (.tmp 21) (.tmp 20) (by kernel_rfl) ga 34 (by kernel_rfl) (uN ((pG l).1.toNat)) (by kernel_rfl) (by kernel_rfl) (by kernel_rfl) (uN proZero.g) (rc (h84) (Pro.c_tag _ (pR_len l))) (frozen_of_row _ _ _ _ _ h84) (by kernel_rfl)) ?_
  clear eV87
  have h89 := kV87.bo h82 (by omega)
  have h90 := kV87.bo h83 (by omega)
  have h91 : Rd V87 F5 b l (pG l).2 := hR5.keeps kV87 (fun j hj e => by have := d5 j hj; unfold Own.One at e; omega)
  have K92 := K85.no kV87 (by omega)
  have z93 := kV87.size
  refine ps_end ?_
  refine sy_a ⟨#[v0, undef, pT ga 0, pT gf 0, pT gr 0, v0, pT b 0, .func (.func 53) #[] #[pT gr 0, pT gf 0, pT ga 0], pT b 0, .int .i64 (rdN l ⟨0, 0⟩ 2 2).1, pT b 0, .int .i64 (pV l).1, pT ga 0, pT b 0, .int .i64 (pH l).1, pT ga 1, pT b 0, .agg (B (pR l).1).toArray, pT ga 2, pT b 0, uN ((pG l).1.toNat), pT ga 34, undef, undef], [⟨.fn (.func 53) #[pT gr 0, pT gf 0, pT ga 0], #[]⟩]⟩ ?_
  refine then_n ?_
  refine sy_sq (part_vReadBlock 1022) (part_vReadBlock 1023) ?_
  refine sy_np ?_
  refine sy_reg ?_
  refine an_begin 8 4 (opsAt (part_vReadBlock 1022)) (fun W => (W.heap[ga]? = some (.cells (Pro.c ⟨(pV l).1, (pH l).1, (pR l).1, (pG l).1.toNat⟩) 36 (0, 0))) ∧ (W.heap[gf]? = some (.cells (#[.int .i64 0, .int .i64 0]) 32 (0, 0)))) #[false, false, false, false] (by kernel_rfl) (by kernel_rfl) (by kernel_rfl) (by kernel_rfl) ?_
  obtain ⟨V94, eV94, kV94⟩ := drew_step V87
  rw [eV94]
  clear eV94
  have h95 := kV94.bk h89
  have h96 := kV94.bk h90
  have h97 : Rd V94 F5 b l (pG l).2 := h91.keepsN kV94
  have h98 := kV94.bk h88
  have K99 := K92.nn kV94
  have z100 := kV94.size
  refine an_v 0 (o_vReadBlock 1022 0) (.agg (Pro.c ⟨(pV l).1, (pH l).1, (pR l).1, (pG l).1.toNat⟩)) (fun W hS => exec_load_row 36 (.tmp 2) (by kernel_rfl) ga (by kernel_rfl) _ _ (0, 0) _ (hS.1) Try.underlying36 rfl (by rw [Pro.c_size _ (pR_len l)]; kernel_rfl)) ⟨h98, h95⟩ ?_
  refine an_v 1 (o_vReadBlock 1022 1) (.agg #[.int .i64 0, .int .i64 0]) (fun W hS => exec_load_row 32 (.tmp 3) (by kernel_rfl) gf (by kernel_rfl) _ _ (0, 0) _ (hS.2) Try.underlying32 rfl (by kernel_rfl)) ⟨h98, h95⟩ ?_
  refine an_o 2 ?_
  obtain ⟨V101, eV101, kV101⟩ := rowset_step V94 ga ((Pro.c ⟨(pV l).1, (pH l).1, (pR l).1, (pG l).1.toNat⟩))
  have h102 : V101.heap[ga]? = some (.cells (Pro.c ⟨(pV l).1, (pH l).1, (pR l).1, (pG l).1.toNat⟩) 36 (0, 0)) := eV101 ▸ setRow_heap _ _ _ _ _ _ h98
  refine on_s (o_vReadBlock 1022 2) (w' := V101) (by rw [← eV101]; exact exec_store_row 36 (.tmp 2) (.tmp 22) (by kernel_rfl) ga ((Pro.c ⟨(pV l).1, (pH l).1, (pR l).1, (pG l).1.toNat⟩)) (by kernel_rfl) (by kernel_rfl) 36 (Pro.c ⟨(pV l).1, (pH l).1, (pR l).1, (pG l).1.toNat⟩) h98 (by rw [Pro.c_size _ (pR_len l)]; kernel_rfl) rfl (Pro.c_one _)) ?_
  clear eV101
  have h103 := kV101.bo h95 (by omega)
  have h104 := kV101.bo h96 (by omega)
  have h105 : Rd V101 F5 b l (pG l).2 := h97.keeps kV101 (fun j hj e => by have := d5 j hj; unfold Own.One at e; omega)
  have K106 := K99.no kV101 (by omega)
  have z107 := kV101.size
  refine ⟨⟨h102, h103⟩, ?_⟩
  refine an_o 3 ?_
  obtain ⟨V108, eV108, kV108⟩ := rowset_step V101 gf (#[.int .i64 0, .int .i64 0])
  have h109 : V108.heap[gf]? = some (.cells (#[.int .i64 0, .int .i64 0]) 32 (0, 0)) := eV108 ▸ setRow_heap _ _ _ _ _ _ h103
  refine on_s (o_vReadBlock 1022 3) (w' := V108) (by rw [← eV108]; exact exec_store_row 32 (.tmp 3) (.tmp 23) (by kernel_rfl) gf (#[.int .i64 0, .int .i64 0]) (by kernel_rfl) (by kernel_rfl) 32 (#[.int .i64 0, .int .i64 0]) h103 (by kernel_rfl) rfl (by kernel_rfl)) ?_
  clear eV108
  have h110 := kV108.bo h104 (by omega)
  have h111 : Rd V108 F5 b l (pG l).2 := h105.keeps kV108 (fun j hj e => by have := d5 j hj; unfold Own.One at e; omega)
  have h112 := kV108.bo h102 (by omega)
  have K113 := K106.no kV108 (by omega)
  have z114 := kV108.size
  refine ⟨⟨h112, h109⟩, ?_⟩
  refine an_end (by kernel_rfl) ?_
  refine then_n ?_
  refine sy_ret (by kernel_rfl) ?_
  refine sy_outD 53 #[.pointer (some ⟨gr, 0, none⟩), .pointer (some ⟨gf, 0, none⟩), .pointer (some ⟨ga, 0, none⟩)] rfl (fun _ => enters_of Try.func53 (by kernel_rfl) rfl _ _) ((vReadBlock1_any b gr gf ga _ l (pG l).2 0 0 (pPro l) _ h110 h111 h109 h112 (pR_len l) (by omega) (by omega) (by omega)).mono ?_)
  rintro e u V115 ⟨rfl, rfl, hgf, hga, kV115⟩
  have hG : ∀ j, (j = gf ∨ j = ga) → w.heap.size ≤ j := fun j h => by omega
  have K116 : Keeps Nob w V115 := K113.then kV115 (fun i hi hm => absurd hi (by have := hG i hm; omega))
  have z117 := kV115.size
  refine ⟨rfl, _, rfl, .tuple #[.agg (Pro.c (pRes l)), .agg #[.int .i64 (pF l).1, .int .i64 (pF l).2]], results_rows2 (p := 2) (q := 3) (ty := 36) (tz := 32) (by kernel_rfl) _ _ ga gf 36 32 (Pro.c (pRes l)) (#[.int .i64 (pF l).1, .int .i64 (pF l).2]) (0, 0) (0, 0) _ _ (by kernel_rfl) hga Try.underlying36 rfl (by rw [Pro.c_size _ (pRes_len l)]; kernel_rfl) (by kernel_rfl) hgf Try.underlying32 rfl (by kernel_rfl), ?_⟩
  exact ⟨rfl, K116⟩
end Go.Proofs.Ytenaakldccjnbaa
