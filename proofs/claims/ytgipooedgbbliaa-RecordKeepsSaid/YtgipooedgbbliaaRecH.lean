/-
  Records: all that is in a ring, in new memory (printed by rec4.py). Conditions: none.
-/
import Derived.Test.YtgipooedgbbliaaRecG
namespace Go.Proofs.Ytgipooedgbbliaa
open Go Go.RowKit Go.Own Go.Shelf
theorem att_info0 : (Try.prog.info? 28).map (fun i => (i.zero, i.size, i.bytes)) = some (some (.agg zAtt.c), 36, 64) := by kernel_rfl
theorem pro_info0 : (Try.prog.info? 35).map (fun i => (i.zero, i.size, i.bytes)) = some (some (.agg zPro.c), 35, 56) := by kernel_rfl
theorem items_ok {α : Type} {ix : FuncId} {tr tp te : TypeId} {enc : α → Array Value} {key : α → Int} {ok : α → Prop} {w : World} {d : RD α} (h : Ring ix tr tp te enc key ok w d) : ∀ x ∈ items d.V d.low d.n, ok x := fun x hx => by
  obtain ⟨k, _, hv⟩ := mem_items.1 hx
  exact (h.out _ _ hv).2.2.2
theorem flat_take {α : Type} (c : α → List Value) (xs : List α) (k : Nat) (x : α) (h : xs[k]? = some x) : (xs.take (k + 1)).flatMap c = (xs.take k).flatMap c ++ c x := by
  rw [List.take_add_one, h, List.flatMap_append]; simp
theorem src_att {w : World} {g : Nat} {x : Att} {T : TypeId} (ha : x.Ok) (h : w.heap[g]? = some (.cells x.c T (0, 0))) : Src w 36 (.slice (some ⟨g, 0, none⟩) 1 1) 1 x.cl :=
  ⟨by rw [Att.cl_len ha], Att.cl_one, .inr ⟨_, _, rfl, fun j u hj => by simp only [Addr.add_lit, Nat.zero_add]; exact rc h (by simpa [Att.cl] using hj)⟩⟩
theorem src_pro {w : World} {g : Nat} {x : Pro} {T : TypeId} (ha : x.Ok) (h : w.heap[g]? = some (.cells x.c T (0, 0))) : Src w 35 (.slice (some ⟨g, 0, none⟩) 1 1) 1 x.cl :=
  ⟨by rw [Pro.cl_len ha], Pro.cl_one, .inr ⟨_, _, rfl, fun j u hj => by simp only [Addr.add_lit, Nat.zero_add]; exact rc h (by simpa [Pro.cl] using hj)⟩⟩

noncomputable def part_qAll (n : Nat) : Code := partOf Try.f24 n
noncomputable abbrev o_qAll (n k : Nat) : Oper := (opsAt (part_qAll n)).getD k default
set_option maxRecDepth 100000 in
set_option maxHeartbeats 4000000 in
theorem qAll_assign {l N : Nat} {u0 u1 u2 u3 u4 u5 u6 u7 u8 u9 u10 u11 u12 u14 u15 u16 u17 u18 : Value} (x : Att) (hx : x.Ok) (w : World) (Q : Exit → Act → World → Prop) (hL : ¬ LetsOut Q) (hQ : ∀ (b : Nat) (W : World), W.heap[b]? = some (.cells (Att.c x) 28 (0, 0)) → w.heap.size ≤ b → Keeps Nob w W → Q .normal ⟨#[u0, u1, u2, u3, .pointer (some ⟨b, 0, none⟩), u5, u6, u7, u8, u9, u10, u11, u12, .agg (Att.c x), u14, u15, u16, u17, u18], []⟩ W) :
    (part_qAll 244).wpIn (Fence.wide.inRound l) N Try.prog Q ⟨#[u0, u1, u2, u3, u4, u5, u6, u7, u8, u9, u10, u11, u12, .agg (Att.c x), u14, u15, u16, u17, u18], []⟩ w := by
  have K0 : Keeps Nob w w := Keeps.refl _ _
  refine syI_reg (by kernel_rfl) (fun ⟨a, w, h⟩ => hL ⟨a, w, h⟩) ?_
  refine rg_plain 5 (opsAt (part_qAll 244)) [0, 1] (by kernel_rfl) (by kernel_rfl) ?_
  obtain ⟨V1, eV1, b, eb, h2, kV1⟩ := alloc_step w (#[.int .i64 0, .int .i64 0, .int .i64 0, .int .u8 0, .int .u8 0, .int .u8 0, .int .u8 0, .int .u8 0, .int .u8 0, .int .u8 0, .int .u8 0, .int .u8 0, .int .u8 0, .int .u8 0, .int .u8 0, .int .u8 0, .int .u8 0, .int .u8 0, .int .u8 0, .int .u8 0, .int .u8 0, .int .u8 0, .int .u8 0, .int .u8 0, .int .u8 0, .int .u8 0, .int .u8 0, .int .u8 0, .int .u8 0, .int .u8 0, .int .u8 0, .int .u8 0, .int .u8 0, .int .u8 0, .int .u8 0, .int .u64 0]) 28
  have n3 : w.heap.size ≤ b := eb ▸ K0.size
  refine ps_r (o_qAll 244 0) (pT b 0) (w' := V1) (by rw [← eV1, ← eb]; exact exec_alloc0 28 (by kernel_rfl) (.agg (#[.int .i64 0, .int .i64 0, .int .i64 0, .int .u8 0, .int .u8 0, .int .u8 0, .int .u8 0, .int .u8 0, .int .u8 0, .int .u8 0, .int .u8 0, .int .u8 0, .int .u8 0, .int .u8 0, .int .u8 0, .int .u8 0, .int .u8 0, .int .u8 0, .int .u8 0, .int .u8 0, .int .u8 0, .int .u8 0, .int .u8 0, .int .u8 0, .int .u8 0, .int .u8 0, .int .u8 0, .int .u8 0, .int .u8 0, .int .u8 0, .int .u8 0, .int .u8 0, .int .u8 0, .int .u8 0, .int .u8 0, .int .u64 0])) (by kernel_rfl)) ?_
  clear eV1
  have K4 := K0.nn kV1
  have z5 := kV1.size
  obtain ⟨V6, eV6, kV6⟩ := rowset_step V1 b ((Att.c x))
  have h7 : V6.heap[b]? = some (.cells (Att.c x) 28 (0, 0)) := eV6 ▸ setRow_heap _ _ _ _ _ _ h2
  refine ps_s (o_qAll 244 1) (w' := V6) (by rw [← eV6]; exact exec_store_row 28 (.tmp 4) (.tmp 13) (by kernel_rfl) b ((Att.c x)) (by kernel_rfl) (by kernel_rfl) 28 (#[.int .i64 0, .int .i64 0, .int .i64 0, .int .u8 0, .int .u8 0, .int .u8 0, .int .u8 0, .int .u8 0, .int .u8 0, .int .u8 0, .int .u8 0, .int .u8 0, .int .u8 0, .int .u8 0, .int .u8 0, .int .u8 0, .int .u8 0, .int .u8 0, .int .u8 0, .int .u8 0, .int .u8 0, .int .u8 0, .int .u8 0, .int .u8 0, .int .u8 0, .int .u8 0, .int .u8 0, .int .u8 0, .int .u8 0, .int .u8 0, .int .u8 0, .int .u8 0, .int .u8 0, .int .u8 0, .int .u8 0, .int .u64 0]) h2 (by rw [Att.c_size _ hx.r]; kernel_rfl) (by rw [Att.c_size _ hx.r]; rfl) (Att.c_one _)) ?_
  clear eV6
  have K8 := K4.no kV6 (by omega)
  have z9 := kV6.size
  refine ps_end ?_
  refine sy_a ⟨#[u0, u1, u2, u3, pT b 0, u5, u6, u7, u8, u9, u10, u11, u12, .agg (Att.c x), u14, u15, u16, u17, u18], []⟩ ?_
  exact hQ b _ h7 (by omega) K8
set_option maxRecDepth 100000 in
set_option maxHeartbeats 4000000 in
theorem qAll_body {l N : Nat} {u0 u1 u2 u5 u6 u7 u8 u9 u10 u11 u12 u13 u14 u15 u16 u17 u18 : Value} (x : Att) (hx : x.Ok) (o b k B0 : Nat) (v : Value) (xs : List Value) (hk : k ≤ 256000) (w : World) (Q : Exit → Act → World → Prop) (hL : ¬ LetsOut Q) (ho : w.heap[o]? = some (.cells #[v] 59 (0, 0))) (hb : w.heap[b]? = some (.cells (Att.c x) 28 (0, 0))) (hrow : Row w 28 36 v k xs) (hnew : NewFrom B0 v) (hB0 : B0 ≤ w.heap.size) (hQ : ∀ (a : Act) (W : World) (v' : Value), W.heap[o]? = some (.cells #[v'] 59 (0, 0)) → Row W 28 36 v' (k + 1) (xs ++ Att.cl x) → NewFrom B0 v' → KeepsOthers w W → Keeps (fun j => j = o ∨ Value.ownBlock v = some j) w W → Q .normal a W) :
    (part_qAll 245).wpIn (Fence.wide.inRound l) N Try.prog Q ⟨#[u0, u1, u2, .pointer (some ⟨o, 0, none⟩), .pointer (some ⟨b, 0, none⟩), u5, u6, u7, u8, u9, u10, u11, u12, u13, u14, u15, u16, u17, u18], []⟩ w := by
  obtain ⟨i0, hi0, hz0, hz1, hz2⟩ := info_parts att_info0
  have lto := lt_of_block ho
  have ltb := lt_of_block hb
  have hnro := Row.ne hrow ho (by decide)
  have K0 : Keeps ((fun j => j = o ∨ Value.ownBlock v = some j)) w w := Keeps.refl _ _
  refine syI_block 1 (part_qAll 490) (by kernel_rfl) ?_
  refine syI_reg (by kernel_rfl) (fun ⟨a, w, h⟩ => hL ⟨a, w, h⟩) ?_
  refine rg_plain 6 (opsAt (part_qAll 490)) [0, 1, 2, 3, 4] (by kernel_rfl) (by kernel_rfl) ?_
  refine ps_p (o_qAll 490 0) (v) (exec_ld 59 (.tmp 3) o 0 Try.underlying59 (rc (ho) (by kernel_rfl))) ?_
  refine ps_p (o_qAll 490 1) (.agg (Att.c x)) (exec_load_row 28 (.tmp 4) (by kernel_rfl) b (by kernel_rfl) _ _ (0, 0) _ (hb) Try.underlying28 rfl (by rw [Att.c_size _ hx.r]; kernel_rfl)) ?_
  obtain ⟨V10, eV10, lit, elit, h11, kV10⟩ := alloc_step w (Att.c x) 28
  refine ps_r (o_qAll 490 2) (.slice (some ⟨lit, 0, none⟩) 1 1) (w' := V10) (by rw [← eV10, ← elit]; exact exec_build1 59 28 (.tmp 15) (by kernel_rfl) (.agg (Att.c x)) (by kernel_rfl) i0 _ Try.underlying59 hi0 hz0 36 hz1 (by decide) (by decide) (Att.c_size x hx.r)) ?_
  clear eV10
  have h12 := kV10.bk ho
  have h13 := kV10.bk hb
  have h14 : Row V10 28 36 v k xs := hrow.keeps kV10 (fun _ _ x => x)
  have h15 : KeepsOthers w V10 := (KeepsOthers.refl w).trans kV10.others0
  have K16 := K0.nn kV10
  have z17 := kV10.size
  obtain ⟨v18, V19, hr20, h21, hg22, hn23, ha24⟩ := run_append_any (P := Try.prog) (w := V10) 59 (Oper.type (o_qAll 490 3)) 28 i0 (.agg zAtt.c) 36 64 Try.underlying59 hi0 hz0 hz1 hz2 rfl (by decide) v k xs h14 (.slice (some ⟨lit, 0, none⟩) 1 1) 1 (Att.cl x) (src_att hx h11) (by unfold maxLen; omega) (by omega)
  obtain ⟨gS, cS, rfl, _⟩ := Row.spell h21 (by omega)
  have kV19 : Keeps (fun j => v.ownBlock = some j) V10 V19 := Keeps.rowAdd hg22
  have hw25 : NewFrom B0 (.slice (some ⟨gS, 0, none⟩) (k + 1) cS) := hnew.next (Nat.le_trans hB0 K16.size) ha24
  refine ps_r (o_qAll 490 3) (.slice (some ⟨gS, 0, none⟩) (k + 1) cS) (w' := V19) (exec_append (.tmp 14) (.tmp 16) 59 (by kernel_rfl) v (.slice (some ⟨lit, 0, none⟩) 1 1) (by kernel_rfl) (by kernel_rfl) hr20) ?_
  have h26 : Row V19 28 36 (.slice (some ⟨gS, 0, none⟩) (k + 1) cS) (k + 1) (xs ++ (Att.cl x)) := h21
  have h27 : V19.heap[o]? = some (.cells #[v] 59 (0, 0)) := (kV19.block o (lt_of_block h12) (fun e => Row.ne h14 h12 (by decide) e)).trans h12
  have h28 : KeepsOthers w V19 := h15.trans (kV19.othersR h14)
  have K29 : Keeps ((fun j => j = o ∨ Value.ownBlock v = some j)) w V19 := K16.then kV19 (fun i hi hm => .inr hm)
  have z30 := kV19.size
  obtain ⟨V31, eV31, kV31⟩ := cell_step V19 o 0 (.slice (some ⟨gS, 0, none⟩) (k + 1) cS)
  have h32 : V31.heap[o]? = some (.cells (#[.slice (some ⟨gS, 0, none⟩) (k + 1) cS]) 59 (0, 0)) := eV31 ▸ ((heap_setCell_same _ o 0 _ _ (.slice (some ⟨gS, 0, none⟩) (k + 1) cS) h27).trans (congrArg (fun c => some (Obj.cells c 59 (0, 0))) (show (#[v] : Array Value).setIfInBounds 0 (.slice (some ⟨gS, 0, none⟩) (k + 1) cS) = #[.slice (some ⟨gS, 0, none⟩) (k + 1) cS] from by kernel_rfl)))
  refine ps_s (o_qAll 490 4) (w' := V31) (by rw [← eV31]; exact exec_store_cell 59 (.tmp 3) (.tmp 17) (by kernel_rfl) o 0 (by kernel_rfl) (.slice (some ⟨gS, 0, none⟩) (k + 1) cS) (by kernel_rfl) (by kernel_rfl) (by kernel_rfl) v (rc (h27) (by kernel_rfl)) (frozen_of_row _ _ _ _ _ h27) (by kernel_rfl)) ?_
  clear eV31
  have h33 : KeepsOthers w V31 := h28.trans (kV31.others1 h27)
  have h34 : Row V31 28 36 (.slice (some ⟨gS, 0, none⟩) (k + 1) cS) (k + 1) (xs ++ (Att.cl x)) := h26.keeps kV31 (fun j hj e => Row.ne h26 h27 (by decide) ((show j = o from e) ▸ hj))
  have K35 : Keeps ((fun j => j = o ∨ Value.ownBlock v = some j)) w V31 := K29.then kV31 (fun i hi hm => .inl hm)
  have z36 := kV31.size
  refine ps_end ?_
  refine sy_a ⟨#[u0, u1, u2, pT o 0, pT b 0, u5, u6, u7, u8, u9, u10, u11, u12, u13, v, .agg (Att.c x), .slice (some ⟨lit, 0, none⟩) 1 1, .slice (some ⟨gS, 0, none⟩) (k + 1) cS, u18], []⟩ ?_
  refine blk_n ?_
  exact hQ _ _ _ h32 h34 hw25 h33 K35
set_option maxRecDepth 100000 in
set_option maxHeartbeats 4000000 in
theorem qAll_ok (r : Nat) (v : Int) (A : RD Att) (B : RD Pro) (w : World) (H : RecAt w r v A B) :
    Calls Try.prog 24 #[.pointer (some ⟨r, 0, none⟩)] w (fun e w' => ∃ v, e = .returned v ∧ Row w' 28 36 v (items A.V A.low A.n).length ((items A.V A.low A.n).flatMap Att.cl) ∧ NewFrom w.heap.size v ∧ Keeps Nob w w') := by
  have K0 : Keeps Nob w w := Keeps.refl _ _
  refine calls_marks 3 (c := (part_qAll 1)) Try.func24 (by kernel_rfl) ?_
  refine sy_frame ⟨#[pT r 0, undef, undef, undef, undef, undef, undef, undef, undef, undef, undef, undef, undef, undef, undef, undef, undef, undef, undef], []⟩ (by kernel_rfl) ?_
  refine sy_sq (part_qAll 2) (part_qAll 3) ?_
  refine sy_reg ?_
  refine rg_plain 0 (opsAt (part_qAll 2)) [0] (by kernel_rfl) (by kernel_rfl) ?_
  refine ps_k (o_qAll 2 0) (.slice none 0 0) ?_
  refine ps_end ?_
  refine sy_a ⟨#[pT r 0, undef, .slice none 0 0, undef, undef, undef, undef, undef, undef, undef, undef, undef, undef, undef, undef, undef, undef, undef, undef], []⟩ ?_
  refine then_n ?_
  refine sy_sq (part_qAll 6) (part_qAll 7) ?_
  refine sy_reg ?_
  refine rg_plain 1 (opsAt (part_qAll 6)) [0] (by kernel_rfl) (by kernel_rfl) ?_
  obtain ⟨V37, eV37, o, eo, h38, kV37⟩ := alloc_step w (#[.slice none 0 0]) 59
  have n39 : r < o := eo ▸ lt_of_block H.rec_
  have n40 : w.heap.size ≤ o := eo ▸ K0.size
  refine ps_r (o_qAll 6 0) (pT o 0) (w' := V37) (by rw [← eV37, ← eo]; exact exec_alloc0 59 (by kernel_rfl) (.slice none 0 0) (by kernel_rfl)) ?_
  clear eV37
  have h41 := kV37.bk H.rec_
  have K42 := K0.nn kV37
  have z43 := kV37.size
  refine ps_end ?_
  refine sy_a ⟨#[pT r 0, undef, .slice none 0 0, pT o 0, undef, undef, undef, undef, undef, undef, undef, undef, undef, undef, undef, undef, undef, undef, undef], []⟩ ?_
  refine then_n ?_
  refine sy_sq (part_qAll 14) (part_qAll 15) ?_
  refine sy_sq (part_qAll 28) (part_qAll 29) ?_
  refine sy_reg ?_
  refine rg_plain 2 (opsAt (part_qAll 28)) [0, 1] (by kernel_rfl) (by kernel_rfl) ?_
  refine ps_k (o_qAll 28 0) (pT r 0) ?_
  refine ps_c (o_qAll 28 1) 30 #[pT r 0] Try.func30 ((qnone_rec r v A B _ (H.keepsN K42)).mono ?_)
  rintro e w1 ⟨rfl, rfl⟩
  refine ⟨_, rfl, ?_⟩
  refine ps_end ?_
  refine sy_a ⟨#[pT r 0, undef, .slice none 0 0, pT o 0, undef, pT r 0, .bool false, undef, undef, undef, undef, undef, undef, undef, undef, undef, undef, undef, undef], []⟩ ?_
  refine then_n ?_
  refine sy_n (.tmp 6) (part_qAll 58) (part_qAll 59) ?_
  refine sy_sk ?_
  refine then_n ?_
  refine sy_sq (part_qAll 30) (part_qAll 31) ?_
  refine sy_sq (part_qAll 60) (part_qAll 61) ?_
  refine sy_reg ?_
  refine rg_plain 4 (opsAt (part_qAll 60)) [0, 1, 2, 3, 4] (by kernel_rfl) (by kernel_rfl) ?_
  refine ps_k (o_qAll 60 0) (pT r 0) ?_
  refine ps_k (o_qAll 60 1) (pT r 0) ?_
  refine ps_k (o_qAll 60 2) (pT r 1) ?_
  refine ps_p (o_qAll 60 3) (.pointer (some ⟨A.g, 0, none⟩)) (exec_ld 54 (.tmp 10) r 1 Try.underlying54 (rc (h41) (by kernel_rfl))) ?_
  have lo_ := lt_of_block h38
  refine ps_c (o_qAll 60 4) 56 #[.pointer (some ⟨A.g, 0, none⟩)] Try.func56 ((gall_ok A.g _).mono ?_)
  rintro e V44 ⟨bx, rfl, hbx, nbx, kV44⟩
  refine ⟨_, rfl, ?_⟩
  have h45 := kV44.bk h41
  have h46 := kV44.bk h38
  have K47 := K42.nn kV44
  have z48 := kV44.size
  refine ps_end ?_
  refine sy_a ⟨#[pT r 0, undef, .slice none 0 0, pT o 0, undef, pT r 0, .bool false, undef, pT r 0, pT r 0, pT r 1, .pointer (some ⟨A.g, 0, none⟩), .func (.func 65) #[] #[pT bx 0], undef, undef, undef, undef, undef, undef], []⟩ ?_
  refine then_n ?_
  refine sy_bk 0 (part_qAll 122) ?_
  have hbxo : bx ≠ o := by omega
  have szW : w.heap.size ≤ V44.heap.size := K47.size
  have lto := lt_of_block h46
  have ltbx := lt_of_block hbx
  have hn2 := H.a.n2
  have hxl : (items A.V A.low A.n).length ≤ 256000 := Nat.le_trans (items_len _ _ _) hn2
  refine sy_part (.rangeFunc (.tmp 12) #[13] (part_qAll 244) (part_qAll 245)) (by kernel_rfl) ?_
  refine wp_range 3 (gf := 65) (lb := #[.pointer (some ⟨bx, 0, none⟩)]) (by kernel_rfl) (enters_of Try.func65 (by kernel_rfl) rfl) (encs := fun x : Att => #[.agg x.c]) (fun _ => rfl) (xs := (items A.V A.low A.n)) (Mi := Nob) (S := fun _ => gall1S bx A) (fun _ h => h.elim) (gall1_seq bx A 5) (fun _ _ _ h t => h.turn t) ⟨hbx, H.a.keepsN K47⟩
    (fun k V => k ≤ (items A.V A.low A.n).length ∧ ∃ v, V.heap[o]? = some (.cells #[v] 59 (0, 0)) ∧ Row V 28 36 v k (((items A.V A.low A.n).take k).flatMap Att.cl) ∧ NewFrom w.heap.size v ∧ Keeps Nob w V) (fun _ _ => False) ?hI (fun _ _ _ h => h.elim) ?h0 (fun _ x a' V => ∃ b, a' = ⟨#[.pointer (some ⟨r, 0, none⟩), undef, .slice none 0 0, .pointer (some ⟨o, 0, none⟩), .pointer (some ⟨b, 0, none⟩), .pointer (some ⟨r, 0, none⟩), .bool false, undef, .pointer (some ⟨r, 0, none⟩), .pointer (some ⟨r, 0, none⟩), .pointer (some ⟨r, 1, none⟩), .pointer (some ⟨A.g, 0, none⟩), .func (.func 65) #[] #[.pointer (some ⟨bx, 0, none⟩)], .agg (Att.c x), undef, undef, undef, undef, undef], []⟩ ∧ V.heap[b]? = some (.cells (Att.c x) 28 (0, 0))) ?hAx ?assign ?body ?done (fun _ _ _ _ h => h.elim)
  case h0 => exact ⟨Nat.zero_le _, .slice none 0 0, h46, ⟨rfl, .inl ⟨rfl, rfl⟩⟩, NewFrom.nil _, K47⟩
  case hI =>
    rintro k A V ⟨q1, v, q2, q3, q4, q5⟩ t
    refine ⟨q1, v, t.same _ _ q2 (fun x => x) (.inr rfl), q3.heap fun j hj => ?_, q4, t.keepsN q5 szW⟩
    obtain ⟨cs, hcs⟩ := q3.elem hj
    rw [hcs]; exact t.same _ _ hcs (fun x => x) (.inr rfl)
  case hAx =>
    rintro k x a' A V ⟨b, rfl, q1⟩ t
    exact ⟨b, rfl, t.same _ _ q1 (fun x => x) (.inr rfl)⟩
  case assign =>
    intro l k x V K hx hi hs hK
    have hxo : x.Ok := items_ok H.a x (List.mem_of_getElem? hx)
    refine syI_frame ⟨#[.pointer (some ⟨r, 0, none⟩), undef, .slice none 0 0, .pointer (some ⟨o, 0, none⟩), undef, .pointer (some ⟨r, 0, none⟩), .bool false, undef, .pointer (some ⟨r, 0, none⟩), .pointer (some ⟨r, 0, none⟩), .pointer (some ⟨r, 1, none⟩), .pointer (some ⟨A.g, 0, none⟩), .func (.func 65) #[] #[.pointer (some ⟨bx, 0, none⟩)], .agg (Att.c x), undef, undef, undef, undef, undef], []⟩ (by kernel_rfl) ?_
    refine qAll_assign x hxo V _ ?_ ?_
    · exact fun h => h.elim fun _ h => h.elim fun _ h => h
    · intro b Wb q1 q2 q3
      obtain ⟨hk, v, r1, r2, r3, r4⟩ := hi
      exact hK _ _ (q3.from (fun _ h => h.elim)) ⟨hk, v, q3.bk r1, r2.keeps q3 (fun _ _ x => x), r3, r4.then q3 (fun _ _ x => x.elim)⟩ ⟨q3.bk hs.1, hs.2.keepsN q3⟩ ⟨b, rfl, q1⟩
  case body =>
    rintro l k x a' V hl hr hx ⟨hk, v, r1, r2, r3, r4⟩ hs ⟨b, rfl, hb⟩
    have hxo : x.Ok := items_ok H.a x (List.mem_of_getElem? hx)
    have hlt : k < (items A.V A.low A.n).length := (List.getElem?_eq_some_iff.1 hx).1
    refine qAll_body x hxo o b k w.heap.size v _ (by omega) V _ (fun h => h.elim fun _ h => h.elim fun _ h => h) r1 hb r2 r3 r4.size (fun a Wq v' g1 g2 g3 g4 g5 => ?_)
    have hK : Keeps Nob w Wq := r4.then g5 (fun i hi hm => by
      rcases hm with hm | hm
      · omega
      · have := r3 i hm; omega)
    refine ⟨g4.from _, ⟨by omega, v', g1, ?_, g3, hK⟩, ?_, H.a.keepsN hK⟩
    · rw [flat_take _ _ _ x hx]; exact g2
    · exact (g5.block bx (lt_of_block hs.1) (fun hm => by
        rcases hm with hm | hm
        · exact hbxo hm
        · exact Row.ne r2 hs.1 (by decide) hm)).trans hs.1
  case done =>
    rintro D Vz hD ⟨_, v, r1, r2, r3, r4⟩ hK
    have hDs : V44.heap.size ≤ D := hD
    rw [List.take_of_length_le (Nat.le_refl _)] at r2
    refine blk_n ?_
    refine then_n ?_
    refine sy_sq (part_qAll 62) (part_qAll 63) ?_
    refine sy_reg ?_
    refine rg_plain 7 (opsAt (part_qAll 62)) [0, 1] (by kernel_rfl) (by kernel_rfl) ?_
    refine ps_p (o_qAll 62 0) (v) (exec_ld 59 (.tmp 3) o 0 Try.underlying59 (rc (r1) (by kernel_rfl))) ?_
    refine ps_k (o_qAll 62 1) (v) ?_
    refine ps_end ?_
    refine sy_a ⟨#[pT r 0, undef, v, pT o 0, undef, pT r 0, .bool false, undef, pT r 0, pT r 0, pT r 1, .pointer (some ⟨A.g, 0, none⟩), .func (.func 65) #[] #[pT bx 0], undef, undef, undef, undef, undef, v], [{ target := .collected D, args := #[] }]⟩ ?_
    refine then_n ?_
    refine sy_ret (by kernel_rfl) ?_
    obtain ⟨V49, eV49⟩ : ∃ V, Vz.putObj D (.deferred none) = V := ⟨_, rfl⟩
    have tV49 : Turn V44.heap.size Nob Vz V49 := eV49 ▸ Turn.put _ _ _ _ hDs hK rfl
    have h50 : V49.heap[o]? = some (.cells #[v] 59 (0, 0)) := tV49.same _ _ r1 (fun x => x) (.inr rfl)
    have h51 : Row V49 28 36 v (items A.V A.low A.n).length ((items A.V A.low A.n).flatMap Att.cl) := r2.heap (fun j hj => by obtain ⟨cs, hcs⟩ := Row.elem r2 hj; rw [hcs]; exact tV49.same _ _ hcs (fun x => x) (.inr rfl))
    have K52 : Keeps Nob w V49 := tV49.keepsN r4 (by omega)
    refine marks_ret hK (v := v) (by rw [eV49]; kernel_rfl) ?_
    rw [eV49]
    exact ⟨v, rfl, h51, r3, K52⟩
noncomputable def part_appendSeqB (n : Nat) : Code := partOf Try.f66 n
noncomputable abbrev o_appendSeqB (n k : Nat) : Oper := (opsAt (part_appendSeqB n)).getD k default
set_option maxRecDepth 100000 in
set_option maxHeartbeats 4000000 in
theorem appendSeqB_assign {l N : Nat} {u0 u1 u2 u3 u4 u5 u6 u8 u9 u10 u11 u12 : Value} (x : Pro) (hx : x.Ok) (w : World) (Q : Exit → Act → World → Prop) (hL : ¬ LetsOut Q) (hQ : ∀ (b : Nat) (W : World), W.heap[b]? = some (.cells (Pro.c x) 35 (0, 0)) → w.heap.size ≤ b → Keeps Nob w W → Q .normal ⟨#[u0, u1, u2, u3, u4, .pointer (some ⟨b, 0, none⟩), u6, .agg (Pro.c x), u8, u9, u10, u11, u12], []⟩ W) :
    (part_appendSeqB 52).wpIn (Fence.wide.inRound l) N Try.prog Q ⟨#[u0, u1, u2, u3, u4, u5, u6, .agg (Pro.c x), u8, u9, u10, u11, u12], []⟩ w := by
  have K0 : Keeps Nob w w := Keeps.refl _ _
  refine syI_reg (by kernel_rfl) (fun ⟨a, w, h⟩ => hL ⟨a, w, h⟩) ?_
  refine rg_plain 2 (opsAt (part_appendSeqB 52)) [0, 1] (by kernel_rfl) (by kernel_rfl) ?_
  obtain ⟨V1, eV1, b, eb, h2, kV1⟩ := alloc_step w (#[.int .i64 0, .int .i64 0, .int .u8 0, .int .u8 0, .int .u8 0, .int .u8 0, .int .u8 0, .int .u8 0, .int .u8 0, .int .u8 0, .int .u8 0, .int .u8 0, .int .u8 0, .int .u8 0, .int .u8 0, .int .u8 0, .int .u8 0, .int .u8 0, .int .u8 0, .int .u8 0, .int .u8 0, .int .u8 0, .int .u8 0, .int .u8 0, .int .u8 0, .int .u8 0, .int .u8 0, .int .u8 0, .int .u8 0, .int .u8 0, .int .u8 0, .int .u8 0, .int .u8 0, .int .u8 0, .int .u64 0]) 35
  have n3 : w.heap.size ≤ b := eb ▸ K0.size
  refine ps_r (o_appendSeqB 52 0) (pT b 0) (w' := V1) (by rw [← eV1, ← eb]; exact exec_alloc0 35 (by kernel_rfl) (.agg (#[.int .i64 0, .int .i64 0, .int .u8 0, .int .u8 0, .int .u8 0, .int .u8 0, .int .u8 0, .int .u8 0, .int .u8 0, .int .u8 0, .int .u8 0, .int .u8 0, .int .u8 0, .int .u8 0, .int .u8 0, .int .u8 0, .int .u8 0, .int .u8 0, .int .u8 0, .int .u8 0, .int .u8 0, .int .u8 0, .int .u8 0, .int .u8 0, .int .u8 0, .int .u8 0, .int .u8 0, .int .u8 0, .int .u8 0, .int .u8 0, .int .u8 0, .int .u8 0, .int .u8 0, .int .u8 0, .int .u64 0])) (by kernel_rfl)) ?_
  clear eV1
  have K4 := K0.nn kV1
  have z5 := kV1.size
  obtain ⟨V6, eV6, kV6⟩ := rowset_step V1 b ((Pro.c x))
  have h7 : V6.heap[b]? = some (.cells (Pro.c x) 35 (0, 0)) := eV6 ▸ setRow_heap _ _ _ _ _ _ h2
  refine ps_s (o_appendSeqB 52 1) (w' := V6) (by rw [← eV6]; exact exec_store_row 35 (.tmp 5) (.tmp 7) (by kernel_rfl) b ((Pro.c x)) (by kernel_rfl) (by kernel_rfl) 35 (#[.int .i64 0, .int .i64 0, .int .u8 0, .int .u8 0, .int .u8 0, .int .u8 0, .int .u8 0, .int .u8 0, .int .u8 0, .int .u8 0, .int .u8 0, .int .u8 0, .int .u8 0, .int .u8 0, .int .u8 0, .int .u8 0, .int .u8 0, .int .u8 0, .int .u8 0, .int .u8 0, .int .u8 0, .int .u8 0, .int .u8 0, .int .u8 0, .int .u8 0, .int .u8 0, .int .u8 0, .int .u8 0, .int .u8 0, .int .u8 0, .int .u8 0, .int .u8 0, .int .u8 0, .int .u8 0, .int .u64 0]) h2 (by rw [Pro.c_size _ hx.r]; kernel_rfl) (by rw [Pro.c_size _ hx.r]; rfl) (Pro.c_one _)) ?_
  clear eV6
  have K8 := K4.no kV6 (by omega)
  have z9 := kV6.size
  refine ps_end ?_
  refine sy_a ⟨#[u0, u1, u2, u3, u4, pT b 0, u6, .agg (Pro.c x), u8, u9, u10, u11, u12], []⟩ ?_
  exact hQ b _ h7 (by omega) K8
set_option maxRecDepth 100000 in
set_option maxHeartbeats 4000000 in
theorem appendSeqB_body {l N : Nat} {u0 u1 u3 u4 u6 u7 u8 u9 u10 u11 u12 : Value} (x : Pro) (hx : x.Ok) (o b k B0 : Nat) (v : Value) (xs : List Value) (hk : k ≤ 256000) (w : World) (Q : Exit → Act → World → Prop) (hL : ¬ LetsOut Q) (ho : w.heap[o]? = some (.cells #[v] 61 (0, 0))) (hb : w.heap[b]? = some (.cells (Pro.c x) 35 (0, 0))) (hrow : Row w 35 35 v k xs) (hnew : NewFrom B0 v) (hB0 : B0 ≤ w.heap.size) (hQ : ∀ (a : Act) (W : World) (v' : Value), W.heap[o]? = some (.cells #[v'] 61 (0, 0)) → Row W 35 35 v' (k + 1) (xs ++ Pro.cl x) → NewFrom B0 v' → KeepsOthers w W → Keeps (fun j => j = o ∨ Value.ownBlock v = some j) w W → Q .normal a W) :
    (part_appendSeqB 53).wpIn (Fence.wide.inRound l) N Try.prog Q ⟨#[u0, u1, .pointer (some ⟨o, 0, none⟩), u3, u4, .pointer (some ⟨b, 0, none⟩), u6, u7, u8, u9, u10, u11, u12], []⟩ w := by
  obtain ⟨i0, hi0, hz0, hz1, hz2⟩ := info_parts pro_info0
  have lto := lt_of_block ho
  have ltb := lt_of_block hb
  have hnro := Row.ne hrow ho (by decide)
  have K0 : Keeps ((fun j => j = o ∨ Value.ownBlock v = some j)) w w := Keeps.refl _ _
  refine syI_block 1 (part_appendSeqB 106) (by kernel_rfl) ?_
  refine syI_reg (by kernel_rfl) (fun ⟨a, w, h⟩ => hL ⟨a, w, h⟩) ?_
  refine rg_plain 3 (opsAt (part_appendSeqB 106)) [0, 1, 2, 3, 4] (by kernel_rfl) (by kernel_rfl) ?_
  refine ps_p (o_appendSeqB 106 0) (v) (exec_ld 61 (.tmp 2) o 0 Try.underlying61 (rc (ho) (by kernel_rfl))) ?_
  refine ps_p (o_appendSeqB 106 1) (.agg (Pro.c x)) (exec_load_row 35 (.tmp 5) (by kernel_rfl) b (by kernel_rfl) _ _ (0, 0) _ (hb) Try.underlying35 rfl (by rw [Pro.c_size _ hx.r]; kernel_rfl)) ?_
  obtain ⟨V10, eV10, lit, elit, h11, kV10⟩ := alloc_step w (Pro.c x) 35
  refine ps_r (o_appendSeqB 106 2) (.slice (some ⟨lit, 0, none⟩) 1 1) (w' := V10) (by rw [← eV10, ← elit]; exact exec_build1 61 35 (.tmp 9) (by kernel_rfl) (.agg (Pro.c x)) (by kernel_rfl) i0 _ Try.underlying61 hi0 hz0 35 hz1 (by decide) (by decide) (Pro.c_size x hx.r)) ?_
  clear eV10
  have h12 := kV10.bk ho
  have h13 := kV10.bk hb
  have h14 : Row V10 35 35 v k xs := hrow.keeps kV10 (fun _ _ x => x)
  have h15 : KeepsOthers w V10 := (KeepsOthers.refl w).trans kV10.others0
  have K16 := K0.nn kV10
  have z17 := kV10.size
  obtain ⟨v18, V19, hr20, h21, hg22, hn23, ha24⟩ := run_append_any (P := Try.prog) (w := V10) 61 (Oper.type (o_appendSeqB 106 3)) 35 i0 (.agg zPro.c) 35 56 Try.underlying61 hi0 hz0 hz1 hz2 rfl (by decide) v k xs h14 (.slice (some ⟨lit, 0, none⟩) 1 1) 1 (Pro.cl x) (src_pro hx h11) (by unfold maxLen; omega) (by omega)
  obtain ⟨gS, cS, rfl, _⟩ := Row.spell h21 (by omega)
  have kV19 : Keeps (fun j => v.ownBlock = some j) V10 V19 := Keeps.rowAdd hg22
  have hw25 : NewFrom B0 (.slice (some ⟨gS, 0, none⟩) (k + 1) cS) := hnew.next (Nat.le_trans hB0 K16.size) ha24
  refine ps_r (o_appendSeqB 106 3) (.slice (some ⟨gS, 0, none⟩) (k + 1) cS) (w' := V19) (exec_append (.tmp 8) (.tmp 10) 61 (by kernel_rfl) v (.slice (some ⟨lit, 0, none⟩) 1 1) (by kernel_rfl) (by kernel_rfl) hr20) ?_
  have h26 : Row V19 35 35 (.slice (some ⟨gS, 0, none⟩) (k + 1) cS) (k + 1) (xs ++ (Pro.cl x)) := h21
  have h27 : V19.heap[o]? = some (.cells #[v] 61 (0, 0)) := (kV19.block o (lt_of_block h12) (fun e => Row.ne h14 h12 (by decide) e)).trans h12
  have h28 : KeepsOthers w V19 := h15.trans (kV19.othersR h14)
  have K29 : Keeps ((fun j => j = o ∨ Value.ownBlock v = some j)) w V19 := K16.then kV19 (fun i hi hm => .inr hm)
  have z30 := kV19.size
  obtain ⟨V31, eV31, kV31⟩ := cell_step V19 o 0 (.slice (some ⟨gS, 0, none⟩) (k + 1) cS)
  have h32 : V31.heap[o]? = some (.cells (#[.slice (some ⟨gS, 0, none⟩) (k + 1) cS]) 61 (0, 0)) := eV31 ▸ ((heap_setCell_same _ o 0 _ _ (.slice (some ⟨gS, 0, none⟩) (k + 1) cS) h27).trans (congrArg (fun c => some (Obj.cells c 61 (0, 0))) (show (#[v] : Array Value).setIfInBounds 0 (.slice (some ⟨gS, 0, none⟩) (k + 1) cS) = #[.slice (some ⟨gS, 0, none⟩) (k + 1) cS] from by kernel_rfl)))
  refine ps_s (o_appendSeqB 106 4) (w' := V31) (by rw [← eV31]; exact exec_store_cell 61 (.tmp 2) (.tmp 11) (by kernel_rfl) o 0 (by kernel_rfl) (.slice (some ⟨gS, 0, none⟩) (k + 1) cS) (by kernel_rfl) (by kernel_rfl) (by kernel_rfl) v (rc (h27) (by kernel_rfl)) (frozen_of_row _ _ _ _ _ h27) (by kernel_rfl)) ?_
  clear eV31
  have h33 : KeepsOthers w V31 := h28.trans (kV31.others1 h27)
  have h34 : Row V31 35 35 (.slice (some ⟨gS, 0, none⟩) (k + 1) cS) (k + 1) (xs ++ (Pro.cl x)) := h26.keeps kV31 (fun j hj e => Row.ne h26 h27 (by decide) ((show j = o from e) ▸ hj))
  have K35 : Keeps ((fun j => j = o ∨ Value.ownBlock v = some j)) w V31 := K29.then kV31 (fun i hi hm => .inl hm)
  have z36 := kV31.size
  refine ps_end ?_
  refine sy_a ⟨#[u0, u1, pT o 0, u3, u4, pT b 0, u6, u7, v, .agg (Pro.c x), .slice (some ⟨lit, 0, none⟩) 1 1, .slice (some ⟨gS, 0, none⟩) (k + 1) cS, u12], []⟩ ?_
  refine blk_n ?_
  exact hQ _ _ _ h32 h34 hw25 h33 K35
set_option maxRecDepth 100000 in
set_option maxHeartbeats 4000000 in
theorem appendSeqB_ok (bx : Nat) (d : RD Pro) (w : World) (hS0 : gall1BS bx d w) :
    Calls Try.prog 66 #[.slice none 0 0, .func (.func 67) #[] #[.pointer (some ⟨bx, 0, none⟩)]] w (fun e w' => ∃ v, e = .returned v ∧ Row w' 35 35 v (items d.V d.low d.n).length ((items d.V d.low d.n).flatMap Pro.cl) ∧ NewFrom w.heap.size v ∧ Keeps Nob w w') := by
  have ltb0 := lt_of_block hS0.1
  have K0 : Keeps Nob w w := Keeps.refl _ _
  refine calls_marks 3 (c := (part_appendSeqB 1)) Try.func66 (by kernel_rfl) ?_
  refine sy_frame ⟨#[.slice none 0 0, .func (.func 67) #[] #[pT bx 0], undef, undef, undef, undef, undef, undef, undef, undef, undef, undef, undef], []⟩ (by kernel_rfl) ?_
  refine sy_sq (part_appendSeqB 2) (part_appendSeqB 3) ?_
  refine sy_reg ?_
  refine rg_plain 0 (opsAt (part_appendSeqB 2)) [0, 1] (by kernel_rfl) (by kernel_rfl) ?_
  obtain ⟨V37, eV37, o, eo, h38, kV37⟩ := alloc_step w (#[.slice none 0 0]) 61
  have n39 : bx < o := eo ▸ lt_of_block hS0.1
  have n40 : w.heap.size ≤ o := eo ▸ K0.size
  refine ps_r (o_appendSeqB 2 0) (pT o 0) (w' := V37) (by rw [← eV37, ← eo]; exact exec_box 61 (.tmp 0) (by kernel_rfl) (.slice none 0 0) (by kernel_rfl)) ?_
  clear eV37
  have h41 := kV37.bk hS0.1
  have K42 := K0.nn kV37
  have z43 := kV37.size
  refine ps_k (o_appendSeqB 2 1) (.slice none 0 0) ?_
  refine ps_end ?_
  refine sy_a ⟨#[.slice none 0 0, .func (.func 67) #[] #[pT bx 0], pT o 0, undef, .slice none 0 0, undef, undef, undef, undef, undef, undef, undef, undef], []⟩ ?_
  refine then_n ?_
  refine sy_sq (part_appendSeqB 6) (part_appendSeqB 7) ?_
  refine sy_sq (part_appendSeqB 12) (part_appendSeqB 13) ?_
  refine sy_reg ?_
  refine rg_plain 1 (opsAt (part_appendSeqB 12)) [0] (by kernel_rfl) (by kernel_rfl) ?_
  refine ps_k (o_appendSeqB 12 0) (.func (.func 67) #[] #[pT bx 0]) ?_
  refine ps_end ?_
  refine sy_a ⟨#[.slice none 0 0, .func (.func 67) #[] #[pT bx 0], pT o 0, undef, .slice none 0 0, undef, .func (.func 67) #[] #[pT bx 0], undef, undef, undef, undef, undef, undef], []⟩ ?_
  refine then_n ?_
  refine sy_bk 0 (part_appendSeqB 26) ?_
  have hbxo : bx ≠ o := by omega
  have szW : w.heap.size ≤ V37.heap.size := K42.size
  have lto := lt_of_block h38
  have ltbx := lt_of_block h41
  have hn2 := hS0.2.n2
  have hxl : (items d.V d.low d.n).length ≤ 256000 := Nat.le_trans (items_len _ _ _) hn2
  refine sy_part (.rangeFunc (.tmp 6) #[7] (part_appendSeqB 52) (part_appendSeqB 53)) (by kernel_rfl) ?_
  refine wp_range 3 (gf := 67) (lb := #[.pointer (some ⟨bx, 0, none⟩)]) (by kernel_rfl) (enters_of Try.func67 (by kernel_rfl) rfl) (encs := fun x : Pro => #[.agg x.c]) (fun _ => rfl) (xs := (items d.V d.low d.n)) (Mi := Nob) (S := fun _ => gall1BS bx d) (fun _ h => h.elim) (gall1B_seq bx d 5) (fun _ _ _ h t => h.turn t) ⟨h41, hS0.2.keepsN K42⟩
    (fun k V => k ≤ (items d.V d.low d.n).length ∧ ∃ v, V.heap[o]? = some (.cells #[v] 61 (0, 0)) ∧ Row V 35 35 v k (((items d.V d.low d.n).take k).flatMap Pro.cl) ∧ NewFrom w.heap.size v ∧ Keeps Nob w V) (fun _ _ => False) ?hI (fun _ _ _ h => h.elim) ?h0 (fun _ x a' V => ∃ b, a' = ⟨#[.slice none 0 0, .func (.func 67) #[] #[.pointer (some ⟨bx, 0, none⟩)], .pointer (some ⟨o, 0, none⟩), undef, .slice none 0 0, .pointer (some ⟨b, 0, none⟩), .func (.func 67) #[] #[.pointer (some ⟨bx, 0, none⟩)], .agg (Pro.c x), undef, undef, undef, undef, undef], []⟩ ∧ V.heap[b]? = some (.cells (Pro.c x) 35 (0, 0))) ?hAx ?assign ?body ?done (fun _ _ _ _ h => h.elim)
  case h0 => exact ⟨Nat.zero_le _, .slice none 0 0, h38, ⟨rfl, .inl ⟨rfl, rfl⟩⟩, NewFrom.nil _, K42⟩
  case hI =>
    rintro k A V ⟨q1, v, q2, q3, q4, q5⟩ t
    refine ⟨q1, v, t.same _ _ q2 (fun x => x) (.inr rfl), q3.heap fun j hj => ?_, q4, t.keepsN q5 szW⟩
    obtain ⟨cs, hcs⟩ := q3.elem hj
    rw [hcs]; exact t.same _ _ hcs (fun x => x) (.inr rfl)
  case hAx =>
    rintro k x a' A V ⟨b, rfl, q1⟩ t
    exact ⟨b, rfl, t.same _ _ q1 (fun x => x) (.inr rfl)⟩
  case assign =>
    intro l k x V K hx hi hs hK
    have hxo : x.Ok := items_ok hS0.2 x (List.mem_of_getElem? hx)
    refine syI_frame ⟨#[.slice none 0 0, .func (.func 67) #[] #[.pointer (some ⟨bx, 0, none⟩)], .pointer (some ⟨o, 0, none⟩), undef, .slice none 0 0, undef, .func (.func 67) #[] #[.pointer (some ⟨bx, 0, none⟩)], .agg (Pro.c x), undef, undef, undef, undef, undef], []⟩ (by kernel_rfl) ?_
    refine appendSeqB_assign x hxo V _ ?_ ?_
    · exact fun h => h.elim fun _ h => h.elim fun _ h => h
    · intro b Wb q1 q2 q3
      obtain ⟨hk, v, r1, r2, r3, r4⟩ := hi
      exact hK _ _ (q3.from (fun _ h => h.elim)) ⟨hk, v, q3.bk r1, r2.keeps q3 (fun _ _ x => x), r3, r4.then q3 (fun _ _ x => x.elim)⟩ ⟨q3.bk hs.1, hs.2.keepsN q3⟩ ⟨b, rfl, q1⟩
  case body =>
    rintro l k x a' V hl hr hx ⟨hk, v, r1, r2, r3, r4⟩ hs ⟨b, rfl, hb⟩
    have hxo : x.Ok := items_ok hS0.2 x (List.mem_of_getElem? hx)
    have hlt : k < (items d.V d.low d.n).length := (List.getElem?_eq_some_iff.1 hx).1
    refine appendSeqB_body x hxo o b k w.heap.size v _ (by omega) V _ (fun h => h.elim fun _ h => h.elim fun _ h => h) r1 hb r2 r3 r4.size (fun a Wq v' g1 g2 g3 g4 g5 => ?_)
    have hK : Keeps Nob w Wq := r4.then g5 (fun i hi hm => by
      rcases hm with hm | hm
      · omega
      · have := r3 i hm; omega)
    refine ⟨g4.from _, ⟨by omega, v', g1, ?_, g3, hK⟩, ?_, hS0.2.keepsN hK⟩
    · rw [flat_take _ _ _ x hx]; exact g2
    · exact (g5.block bx (lt_of_block hs.1) (fun hm => by
        rcases hm with hm | hm
        · exact hbxo hm
        · exact Row.ne r2 hs.1 (by decide) hm)).trans hs.1
  case done =>
    rintro D Vz hD ⟨_, v, r1, r2, r3, r4⟩ hK
    have hDs : V37.heap.size ≤ D := hD
    rw [List.take_of_length_le (Nat.le_refl _)] at r2
    refine blk_n ?_
    refine then_n ?_
    refine sy_sq (part_appendSeqB 14) (part_appendSeqB 15) ?_
    refine sy_reg ?_
    refine rg_plain 4 (opsAt (part_appendSeqB 14)) [0, 1] (by kernel_rfl) (by kernel_rfl) ?_
    refine ps_p (o_appendSeqB 14 0) (v) (exec_ld 61 (.tmp 2) o 0 Try.underlying61 (rc (r1) (by kernel_rfl))) ?_
    refine ps_k (o_appendSeqB 14 1) (v) ?_
    refine ps_end ?_
    refine sy_a ⟨#[.slice none 0 0, .func (.func 67) #[] #[pT bx 0], pT o 0, undef, v, undef, .func (.func 67) #[] #[pT bx 0], undef, undef, undef, undef, undef, v], [{ target := .collected D, args := #[] }]⟩ ?_
    refine then_n ?_
    refine sy_ret (by kernel_rfl) ?_
    obtain ⟨V44, eV44⟩ : ∃ V, Vz.putObj D (.deferred none) = V := ⟨_, rfl⟩
    have tV44 : Turn V37.heap.size Nob Vz V44 := eV44 ▸ Turn.put _ _ _ _ hDs hK rfl
    have h45 : V44.heap[o]? = some (.cells #[v] 61 (0, 0)) := tV44.same _ _ r1 (fun x => x) (.inr rfl)
    have h46 : Row V44 35 35 v (items d.V d.low d.n).length ((items d.V d.low d.n).flatMap Pro.cl) := r2.heap (fun j hj => by obtain ⟨cs, hcs⟩ := Row.elem r2 hj; rw [hcs]; exact tV44.same _ _ hcs (fun x => x) (.inr rfl))
    have K47 : Keeps Nob w V44 := tV44.keepsN r4 (by omega)
    refine marks_ret hK (v := v) (by rw [eV44]; kernel_rfl) ?_
    rw [eV44]
    exact ⟨v, rfl, h46, r3, K47⟩
noncomputable def part_collectB (n : Nat) : Code := partOf Try.f57 n
noncomputable abbrev o_collectB (n k : Nat) : Oper := (opsAt (part_collectB n)).getD k default
set_option maxRecDepth 100000 in
set_option maxHeartbeats 4000000 in
theorem collectB_ok (bx : Nat) (d : RD Pro) (w : World) (hS0 : gall1BS bx d w) :
    Calls Try.prog 57 #[.func (.func 67) #[] #[.pointer (some ⟨bx, 0, none⟩)]] w (fun e w' => ∃ v, e = .returned v ∧ Row w' 35 35 v (items d.V d.low d.n).length ((items d.V d.low d.n).flatMap Pro.cl) ∧ NewFrom w.heap.size v ∧ Keeps Nob w w') := by
  have K0 : Keeps Nob w w := Keeps.refl _ _
  refine sy_enter (part_collectB 1) ⟨#[.func (.func 67) #[] #[pT bx 0], undef, undef, undef, undef], []⟩ Try.func57 (by kernel_rfl) (by kernel_rfl) ?_
  refine sy_sq (part_collectB 2) (part_collectB 3) ?_
  refine sy_reg ?_
  refine rg_plain 0 (opsAt (part_collectB 2)) [0] (by kernel_rfl) (by kernel_rfl) ?_
  refine ps_k (o_collectB 2 0) (.slice none 0 0) ?_
  refine ps_end ?_
  refine then_n ?_
  refine sy_sq (part_collectB 6) (part_collectB 7) ?_
  refine sy_reg ?_
  refine rg_plain 1 (opsAt (part_collectB 6)) [0, 1, 2] (by kernel_rfl) (by kernel_rfl) ?_
  refine ps_k (o_collectB 6 0) (.func (.func 67) #[] #[pT bx 0]) ?_
  refine ps_c (o_collectB 6 1) 66 #[.slice none 0 0, .func (.func 67) #[] #[pT bx 0]] Try.func66 ((appendSeqB_ok bx d _ hS0).mono ?_)
  rintro e V1 ⟨vz, rfl, hz, nz, kV1⟩
  have nz2 : NewFrom w.heap.size vz := fun j hj => Nat.le_trans K0.size (nz j hj)
  refine ⟨_, rfl, ?_⟩
  have K2 := K0.nn kV1
  have z3 := kV1.size
  refine ps_k (o_collectB 6 2) (vz) ?_
  refine ps_end ?_
  refine then_n ?_
  refine sy_ret (by kernel_rfl) ?_
  refine sy_out (vz) rfl (by kernel_rfl) ?_
  exact ⟨vz, rfl, hz, nz2, K2⟩
noncomputable def part_qBlocks (n : Nat) : Code := partOf Try.f25 n
noncomputable abbrev o_qBlocks (n k : Nat) : Oper := (opsAt (part_qBlocks n)).getD k default
set_option maxRecDepth 100000 in
set_option maxHeartbeats 4000000 in
theorem qBlocks_ok (r : Nat) (v : Int) (A : RD Att) (B : RD Pro) (w : World) (H : RecAt w r v A B) :
    Calls Try.prog 25 #[.pointer (some ⟨r, 0, none⟩)] w (fun e w' => ∃ v, e = .returned v ∧ Row w' 35 35 v (items B.V B.low B.n).length ((items B.V B.low B.n).flatMap Pro.cl) ∧ NewFrom w.heap.size v ∧ Keeps Nob w w') := by
  have K0 : Keeps Nob w w := Keeps.refl _ _
  refine sy_enter (part_qBlocks 1) ⟨#[pT r 0, undef, undef, undef, undef, undef, undef, undef, undef, undef, undef], []⟩ Try.func25 (by kernel_rfl) (by kernel_rfl) ?_
  refine sy_sq (part_qBlocks 2) (part_qBlocks 3) ?_
  refine sy_reg ?_
  refine rg_plain 0 (opsAt (part_qBlocks 2)) [0] (by kernel_rfl) (by kernel_rfl) ?_
  refine ps_k (o_qBlocks 2 0) (.slice none 0 0) ?_
  refine ps_end ?_
  refine then_n ?_
  refine sy_sq (part_qBlocks 6) (part_qBlocks 7) ?_
  refine sy_sq (part_qBlocks 12) (part_qBlocks 13) ?_
  refine sy_reg ?_
  refine rg_plain 1 (opsAt (part_qBlocks 12)) [0, 1] (by kernel_rfl) (by kernel_rfl) ?_
  refine ps_k (o_qBlocks 12 0) (pT r 0) ?_
  refine ps_c (o_qBlocks 12 1) 30 #[pT r 0] Try.func30 ((qnone_rec r v A B _ H).mono ?_)
  rintro e w1 ⟨rfl, rfl⟩
  refine ⟨_, rfl, ?_⟩
  refine ps_end ?_
  refine then_n ?_
  refine sy_n (.tmp 4) (part_qBlocks 26) (part_qBlocks 27) ?_
  refine sy_sk ?_
  refine then_n ?_
  refine sy_sq (part_qBlocks 14) (part_qBlocks 15) ?_
  refine sy_reg ?_
  refine rg_plain 3 (opsAt (part_qBlocks 14)) [0, 1, 2, 3, 4, 5, 6] (by kernel_rfl) (by kernel_rfl) ?_
  refine ps_k (o_qBlocks 14 0) (pT r 0) ?_
  refine ps_k (o_qBlocks 14 1) (pT r 0) ?_
  refine ps_k (o_qBlocks 14 2) (pT r 2) ?_
  refine ps_p (o_qBlocks 14 3) (.pointer (some ⟨B.g, 0, none⟩)) (exec_ld 55 (.tmp 7) r 2 Try.underlying55 (rc (H.rec_) (by kernel_rfl))) ?_
  refine ps_c (o_qBlocks 14 4) 58 #[.pointer (some ⟨B.g, 0, none⟩)] Try.func58 ((gallB_ok B.g _).mono ?_)
  rintro e V1 ⟨bx, rfl, hbx, nbx, kV1⟩
  refine ⟨_, rfl, ?_⟩
  have h2 := kV1.bk H.rec_
  have K3 := K0.nn kV1
  have z4 := kV1.size
  refine ps_c (o_qBlocks 14 5) 57 #[.func (.func 67) #[] #[pT bx 0]] Try.func57 ((collectB_ok bx B _ ⟨hbx, (H.keepsN K3).b⟩).mono ?_)
  rintro e V5 ⟨vz, rfl, hz, nz, kV5⟩
  have nz2 : NewFrom w.heap.size vz := fun j hj => Nat.le_trans K3.size (nz j hj)
  refine ⟨_, rfl, ?_⟩
  have h6 := kV5.bk h2
  have h7 := kV5.bk hbx
  have K8 := K3.nn kV5
  have z9 := kV5.size
  refine ps_k (o_qBlocks 14 6) (vz) ?_
  refine ps_end ?_
  refine then_n ?_
  refine sy_ret (by kernel_rfl) ?_
  refine sy_out (vz) rfl (by kernel_rfl) ?_
  exact ⟨vz, rfl, hz, nz2, K8⟩
set_option maxRecDepth 100000 in
set_option maxHeartbeats 4000000 in
theorem qAll_none (u : Value) (w : World) (H : NoRec w u) :
    Calls Try.prog 24 #[u] w (fun e w' => e = .returned (.slice none 0 0) ∧ Keeps Nob w w') := by
  have K0 : Keeps Nob w w := Keeps.refl _ _
  refine sy_enter (part_qAll 1) ⟨#[u, undef, undef, undef, undef, undef, undef, undef, undef, undef, undef, undef, undef, undef, undef, undef, undef, undef, undef], []⟩ Try.func24 (by kernel_rfl) (by kernel_rfl) ?_
  refine sy_sq (part_qAll 2) (part_qAll 3) ?_
  refine sy_reg ?_
  refine rg_plain 0 (opsAt (part_qAll 2)) [0] (by kernel_rfl) (by kernel_rfl) ?_
  refine ps_k (o_qAll 2 0) (.slice none 0 0) ?_
  refine ps_end ?_
  refine then_n ?_
  refine sy_sq (part_qAll 6) (part_qAll 7) ?_
  refine sy_reg ?_
  refine rg_plain 1 (opsAt (part_qAll 6)) [0] (by kernel_rfl) (by kernel_rfl) ?_
  obtain ⟨V1, eV1, o, eo, h2, kV1⟩ := alloc_step w (#[.slice none 0 0]) 59
  have n3 : w.heap.size ≤ o := eo ▸ K0.size
  refine ps_r (o_qAll 6 0) (pT o 0) (w' := V1) (by rw [← eV1, ← eo]; exact exec_alloc0 59 (by kernel_rfl) (.slice none 0 0) (by kernel_rfl)) ?_
  clear eV1
  have K4 := K0.nn kV1
  have z5 := kV1.size
  refine ps_end ?_
  refine then_n ?_
  refine sy_sq (part_qAll 14) (part_qAll 15) ?_
  refine sy_sq (part_qAll 28) (part_qAll 29) ?_
  refine sy_reg ?_
  refine rg_plain 2 (opsAt (part_qAll 28)) [0, 1] (by kernel_rfl) (by kernel_rfl) ?_
  refine ps_k (o_qAll 28 0) (u) ?_
  refine ps_c (o_qAll 28 1) 30 #[u] Try.func30 ((qnone_none u _ (H.keepsN K4)).mono ?_)
  rintro e w1 ⟨rfl, rfl⟩
  refine ⟨_, rfl, ?_⟩
  refine ps_end ?_
  refine then_n ?_
  refine sy_ys (.tmp 6) (part_qAll 58) (part_qAll 59) ?_
  refine sy_sq (part_qAll 116) (part_qAll 117) ?_
  refine sy_reg ?_
  refine rg_plain 3 (opsAt (part_qAll 116)) [0, 1] (by kernel_rfl) (by kernel_rfl) ?_
  refine ps_p (o_qAll 116 0) (.slice none 0 0) (exec_ld 59 (.tmp 3) o 0 Try.underlying59 (rc (h2) (by kernel_rfl))) ?_
  refine ps_k (o_qAll 116 1) (.slice none 0 0) ?_
  refine ps_end ?_
  refine then_n ?_
  refine sy_ret (by kernel_rfl) ?_
  refine then_r ?_
  refine sy_out (.slice none 0 0) rfl (by kernel_rfl) ?_
  exact ⟨rfl, K4⟩
set_option maxRecDepth 100000 in
set_option maxHeartbeats 4000000 in
theorem qBlocks_none (u : Value) (w : World) (H : NoRec w u) :
    Calls Try.prog 25 #[u] w (fun e w' => e = .returned (.slice none 0 0) ∧ Keeps Nob w w') := by
  have K0 : Keeps Nob w w := Keeps.refl _ _
  refine sy_enter (part_qBlocks 1) ⟨#[u, undef, undef, undef, undef, undef, undef, undef, undef, undef, undef], []⟩ Try.func25 (by kernel_rfl) (by kernel_rfl) ?_
  refine sy_sq (part_qBlocks 2) (part_qBlocks 3) ?_
  refine sy_reg ?_
  refine rg_plain 0 (opsAt (part_qBlocks 2)) [0] (by kernel_rfl) (by kernel_rfl) ?_
  refine ps_k (o_qBlocks 2 0) (.slice none 0 0) ?_
  refine ps_end ?_
  refine then_n ?_
  refine sy_sq (part_qBlocks 6) (part_qBlocks 7) ?_
  refine sy_sq (part_qBlocks 12) (part_qBlocks 13) ?_
  refine sy_reg ?_
  refine rg_plain 1 (opsAt (part_qBlocks 12)) [0, 1] (by kernel_rfl) (by kernel_rfl) ?_
  refine ps_k (o_qBlocks 12 0) (u) ?_
  refine ps_c (o_qBlocks 12 1) 30 #[u] Try.func30 ((qnone_none u _ H).mono ?_)
  rintro e w1 ⟨rfl, rfl⟩
  refine ⟨_, rfl, ?_⟩
  refine ps_end ?_
  refine then_n ?_
  refine sy_ys (.tmp 4) (part_qBlocks 26) (part_qBlocks 27) ?_
  refine sy_sq (part_qBlocks 52) (part_qBlocks 53) ?_
  refine sy_reg ?_
  refine rg_plain 2 (opsAt (part_qBlocks 52)) [0] (by kernel_rfl) (by kernel_rfl) ?_
  refine ps_k (o_qBlocks 52 0) (.slice none 0 0) ?_
  refine ps_end ?_
  refine then_n ?_
  refine sy_ret (by kernel_rfl) ?_
  refine then_r ?_
  refine sy_out (.slice none 0 0) rfl (by kernel_rfl) ?_
  exact ⟨rfl, K0⟩
end Go.Proofs.Ytgipooedgbbliaa
