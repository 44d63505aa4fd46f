/-
  Records: an act on both records; do both stand alike (printed by rec8.py). Conditions: none.
-/
import Derived.Test.YtgipooedgbbliaaRecN
namespace Go.Proofs.Ytgipooedgbbliaa
open Go Go.RowKit Go.Own Go.Shelf
theorem Two.put {w0 w w1 w2 : World} {r q : Nat} {v : Int} {A : RD Att} {B : RD Pro} {d : DRec} (T : Two w0 w r q v A B d) (hv : 0 ≤ v ∧ v ≤ 31) {a : Att} (hb : qPutErr v A a ≠ 0 → RecAt w1 r v A B) (hg : qPutErr v A a = 0 → ∃ S', RecAt w1 r v { A with V := upV A.V a.t a, S := S' } B) (k1 : Keeps (One A.s) w w1)
    (h2 : RefAt w2 q w0.heap.size (if qrPutErr d a = 0 then { d with a := insK (·.t) d.a a } else d)) (k2 : Keeps (One q) w1 w2) : Both w0 w2 r q v := by
  have k1' : Keeps (FR A B) w w1 := k1.mono (fun j _ (e : j = A.s) => .inr (.inl e))
  rw [← putErrA hv T.rec_ T.same] at h2
  by_cases h0 : qPutErr v A a = 0
  · obtain ⟨S', hr⟩ := hg h0
    rw [if_pos h0] at h2
    exact ⟨hv, _, _, _, (T.step hr (fun j => Iff.rfl) k1' (fun _ => h2) k2 (Alike.putA T.rec_ T.same h0)).1⟩
  · rw [if_neg h0] at h2
    exact ⟨hv, _, _, _, (T.step (hb h0) (fun j => Iff.rfl) k1' (fun _ => h2) k2 T.same).1⟩
theorem Two.putB {w0 w w1 w2 : World} {r q : Nat} {v : Int} {A : RD Att} {B : RD Pro} {d : DRec} (T : Two w0 w r q v A B d) (hv : 0 ≤ v ∧ v ≤ 31) {a : Pro} (hb : qPutBlockErr v B a ≠ 0 → RecAt w1 r v A B) (hg : qPutBlockErr v B a = 0 → ∃ S', RecAt w1 r v A { B with V := upV B.V a.h a, S := S' }) (k1 : Keeps (One B.s) w w1)
    (h2 : RefAt w2 q w0.heap.size (if qrPutBlockErr d a = 0 then { d with b := insK (·.h) d.b a } else d)) (k2 : Keeps (One q) w1 w2) : Both w0 w2 r q v := by
  have k1' : Keeps (FR A B) w w1 := k1.mono (fun j _ (e : j = B.s) => .inr (.inr (.inr e)))
  rw [← putErrB hv T.rec_ T.same] at h2
  by_cases h0 : qPutBlockErr v B a = 0
  · obtain ⟨S', hr⟩ := hg h0
    rw [if_pos h0] at h2
    exact ⟨hv, _, _, _, (T.step hr (fun j => Iff.rfl) k1' (fun _ => h2) k2 (Alike.putB T.rec_ T.same h0)).1⟩
  · rw [if_neg h0] at h2
    exact ⟨hv, _, _, _, (T.step (hb h0) (fun j => Iff.rfl) k1' (fun _ => h2) k2 T.same).1⟩
theorem Two.move {w0 w w1 w2 : World} {r q : Nat} {v : Int} {A : RD Att} {B : RD Pro} {d : DRec} (T : Two w0 w r q v A B d) (hv : 0 ≤ v ∧ v ≤ 31) {l f : Int} (hb : qMoveErr A B l f ≠ 0 → RecAt w1 r v A B) (hg : qMoveErr A B l f = 0 → ∃ S1 S2, RecAt w1 r v { A with low := l.toNat, V := mvV A.V l, S := S1 } { B with low := f.toNat, V := mvV B.V f, S := S2 }) (k1 : Keeps (FR A B) w w1)
    (h2 : RefAt w2 q w0.heap.size (if qrMoveErr d l f = 0 then { d with l := l, f := f, a := d.a.filter (geA l), b := d.b.filter (geB f) } else d)) (k2 : Keeps (One q) w1 w2) : Both w0 w2 r q v := by
  rw [← moveErr T.same] at h2
  by_cases h0 : qMoveErr A B l f = 0
  · obtain ⟨S1, S2, hr⟩ := hg h0
    rw [if_pos h0] at h2
    exact ⟨hv, _, _, _, (T.step hr (fun j => Iff.rfl) k1 (fun _ => h2) k2 (Alike.move T.rec_ T.same h0)).1⟩
  · rw [if_neg h0] at h2
    exact ⟨hv, _, _, _, (T.step (hb h0) (fun j => Iff.rfl) k1 (fun _ => h2) k2 T.same).1⟩

noncomputable def part_ldoes (n : Nat) : Code := partOf Try.f22 n
noncomputable abbrev o_ldoes (n k : Nat) : Oper := (opsAt (part_ldoes n)).getD k default
set_option maxRecDepth 100000 in
set_option maxHeartbeats 4000000 in
theorem ldoes_0 (w0 : World) (r q : Nat) (v : Int) (x : RAct) (w : World) (hB : Both w0 w r q v) (hx : x.Ok) (g0 : x.k = 0) :
    Calls Try.prog 22 #[.pointer (some ⟨r, 0, none⟩), .pointer (some ⟨q, 0, none⟩), .agg (RAct.c x)] w (fun e w' => e = .returned (.bool true) ∧ Both w0 w' r q v ∧ Keeps (fun j => w0.heap.size ≤ j) w w') := by
  obtain ⟨hv, A, B, d, T⟩ := hB
  have K0 : Keeps ((fun j => w0.heap.size ≤ j)) w w := Keeps.refl _ _
  refine sy_enter (part_ldoes 1) ⟨#[pT r 0, pT q 0, .agg (RAct.c x), undef, undef, undef, undef, undef, undef, undef, undef, undef, undef, undef, undef, undef, undef, undef, undef, undef, undef, undef, undef, undef, undef, undef, undef, undef, undef, undef, undef, undef, undef, undef, undef, undef, undef, undef, undef, undef, undef, undef, undef, undef, undef, undef], []⟩ Try.func22 (by kernel_rfl) (by kernel_rfl) ?_
  refine sy_sq (part_ldoes 2) (part_ldoes 3) ?_
  refine sy_reg ?_
  refine rg_plain 0 (opsAt (part_ldoes 2)) [0, 1] (by kernel_rfl) (by kernel_rfl) ?_
  obtain ⟨V1, eV1, p, ep, h2, kV1⟩ := alloc_step w ((RAct.c x)) 51
  have n3 : w.heap.size ≤ p := ep ▸ K0.size
  refine ps_r (o_ldoes 2 0) (pT p 0) (w' := V1) (by rw [← eV1, ← ep]; exact exec_box 51 (.tmp 2) (by kernel_rfl) (.agg (RAct.c x)) (by kernel_rfl)) ?_
  clear eV1
  have h4 : Two w0 V1 r q v A B d := T.keepsN kV1
  have K5 := K0.nn kV1
  refine ps_k (o_ldoes 2 1) (.bool false) ?_
  refine ps_end ?_
  refine then_n ?_
  refine sy_sq (part_ldoes 6) (part_ldoes 7) ?_
  refine sy_sq (part_ldoes 12) (part_ldoes 13) ?_
  refine sy_reg ?_
  refine rg_plain 1 (opsAt (part_ldoes 12)) [0, 1] (by kernel_rfl) (by kernel_rfl) ?_
  refine ps_k (o_ldoes 12 0) (pT p 0) ?_
  refine ps_p (o_ldoes 12 1) (.int .i64 x.k) (exec_ld 3 (.tmp 7) p 0 Try.underlying3 (rc (h2) (RAct.c_0 _))) ?_
  refine ps_end ?_
  refine then_n ?_
  refine sy_bk 0 (part_ldoes 26) ?_
  refine sy_sq (part_ldoes 52) (part_ldoes 53) ?_
  refine sy_reg ?_
  refine rg_plain 2 (opsAt (part_ldoes 52)) [0, 1] (by kernel_rfl) (by kernel_rfl) ?_
  refine ps_p (o_ldoes 52 0) (.bool true) (eqt ((x.k) : Int) ((0) : Int) (by omega)) ?_
  refine ps_k (o_ldoes 52 1) (.bool true) ?_
  refine ps_end ?_
  refine then_n ?_
  refine sy_ys (.tmp 9) (part_ldoes 106) (part_ldoes 107) ?_
  refine sy_sq (part_ldoes 212) (part_ldoes 213) ?_
  refine sy_np ?_
  refine sy_reg ?_
  refine an_begin 3 10 (opsAt (part_ldoes 212)) (fun W => (W.heap[p]? = some (.cells (RAct.c x) 51 (0, 0)))) #[false, false, false, false, false, false, false, false, false, false] (by kernel_rfl) (by kernel_rfl) (by kernel_rfl) (by kernel_rfl) ?_
  obtain ⟨V6, eV6, kV6⟩ := drew_step V1
  rw [eV6]
  clear eV6
  have h7 : Two w0 V6 r q v A B d := h4.keepsN kV6
  have h8 := kV6.bk h2
  have K9 := K5.nn kV6
  refine an_k 0 (o_ldoes 212 0) (pT r 0) h8 ?_
  refine an_k 1 (o_ldoes 212 1) (pT p 5) h8 ?_
  refine an_v 2 (o_ldoes 212 2) (.agg (Att.c x.a)) (fun W hS => exec_load_seg 28 (.tmp 12) (by kernel_rfl) p 5 (by kernel_rfl) (Att.cl x.a) _ _ _ hS (RAct.c_a x) Try.underlying28 rfl (by rw [Att.cl_len hx.a]; kernel_rfl)) h8 ?_
  refine an_k 4 (o_ldoes 212 4) (pT q 0) h8 ?_
  refine an_k 5 (o_ldoes 212 5) (pT p 5) h8 ?_
  refine an_v 6 (o_ldoes 212 6) (.agg (Att.c x.a)) (fun W hS => exec_load_seg 28 (.tmp 16) (by kernel_rfl) p 5 (by kernel_rfl) (Att.cl x.a) _ _ _ hS (RAct.c_a x) Try.underlying28 rfl (by rw [Att.cl_len hx.a]; kernel_rfl)) h8 ?_
  refine an_o 3 ?_
  have T1 := h7
  have np_ : p ≠ A.s := fun e => Odd.one T1.rec_.a.slots (by decide) _ _ _ e h8
  refine on_c (o_ldoes 212 3) 9 #[pT r 0, .agg (Att.c x.a)] Try.func9 ((qPut_ok r v A B x.a _ T1.rec_ hx.a).mono ?_)
  rintro e V10 ⟨rfl, hb1, hg1, kV10⟩
  have k1_ := kV10
  have hr1 := T1.ref.byRec T1.rec_ (k1_.mono (fun j _ (e : j = A.s) => .inr (.inl e)))
  have hsz_ := k1_.size
  have hk0_ := T1.keeps.size
  refine ⟨_, rfl, ?_⟩
  have h11 := kV10.bo h8 (by omega)
  have K12 : Keeps ((fun j => w0.heap.size ≤ j)) w V10 := K9.then kV10 (fun i hi hm => by unfold Own.One at hm; subst hm; exact (T.new _ (.inr (.inl rfl))))
  refine ⟨h11, ?_⟩
  refine an_o 7 ?_
  have npq_ : p ≠ q := fun e => hr1.odd (by decide) _ _ _ e h11
  refine on_c (o_ldoes 212 7) 47 #[pT q 0, .agg (Att.c x.a)] Try.func47 ((qrPut_ok q w0.heap.size d x.a _ hr1 hx.a T1.ba (Nat.le_trans hk0_ hsz_) T1.la).mono ?_)
  rintro e V13 ⟨rfl, h2_, kV13⟩
  have k2_ := kV13
  refine ⟨_, rfl, ?_⟩
  have h14 := kV13.bo h11 (by omega)
  have K15 : Keeps ((fun j => w0.heap.size ≤ j)) w V13 := K12.then kV13 (fun i hi hm => by unfold Own.One at hm; subst hm; exact T.newq)
  refine ⟨h14, ?_⟩
  refine an_v 8 (o_ldoes 212 8) (.bool true) (fun W hS => exec_cast (congrArg Value.bool (show ((((qPutErr v A x.a) : Int) == ((qrPutErr d x.a) : Int))) = true from beq_iff_eq.2 (putErrA hv T.rec_ T.same x.a))) (by kernel_rfl)) h14 ?_
  refine an_o 9 ?_
  refine on_r (o_ldoes 212 9) (.bool true) (w' := V13) (by kernel_rfl) ?_
  refine ⟨h14, ?_⟩
  refine an_end (by kernel_rfl) ?_
  refine then_n ?_
  refine sy_ret (by kernel_rfl) ?_
  refine blk_r ?_
  refine then_r ?_
  refine sy_out (.bool true) rfl (by kernel_rfl) ?_
  exact ⟨rfl, T1.put hv hb1 hg1 k1_ h2_ k2_, K15⟩
set_option maxRecDepth 100000 in
set_option maxHeartbeats 4000000 in
theorem ldoes_1 (w0 : World) (r q : Nat) (v : Int) (x : RAct) (w : World) (hB : Both w0 w r q v) (hx : x.Ok) (g0 : x.k = 1) :
    Calls Try.prog 22 #[.pointer (some ⟨r, 0, none⟩), .pointer (some ⟨q, 0, none⟩), .agg (RAct.c x)] w (fun e w' => e = .returned (.bool true) ∧ Both w0 w' r q v ∧ Keeps (fun j => w0.heap.size ≤ j) w w') := by
  obtain ⟨hv, A, B, d, T⟩ := hB
  have K0 : Keeps ((fun j => w0.heap.size ≤ j)) w w := Keeps.refl _ _
  refine sy_enter (part_ldoes 1) ⟨#[pT r 0, pT q 0, .agg (RAct.c x), undef, undef, undef, undef, undef, undef, undef, undef, undef, undef, undef, undef, undef, undef, undef, undef, undef, undef, undef, undef, undef, undef, undef, undef, undef, undef, undef, undef, undef, undef, undef, undef, undef, undef, undef, undef, undef, undef, undef, undef, undef, undef, undef], []⟩ Try.func22 (by kernel_rfl) (by kernel_rfl) ?_
  refine sy_sq (part_ldoes 2) (part_ldoes 3) ?_
  refine sy_reg ?_
  refine rg_plain 0 (opsAt (part_ldoes 2)) [0, 1] (by kernel_rfl) (by kernel_rfl) ?_
  obtain ⟨V16, eV16, p, ep, h17, kV16⟩ := alloc_step w ((RAct.c x)) 51
  have n18 : w.heap.size ≤ p := ep ▸ K0.size
  refine ps_r (o_ldoes 2 0) (pT p 0) (w' := V16) (by rw [← eV16, ← ep]; exact exec_box 51 (.tmp 2) (by kernel_rfl) (.agg (RAct.c x)) (by kernel_rfl)) ?_
  clear eV16
  have h19 : Two w0 V16 r q v A B d := T.keepsN kV16
  have K20 := K0.nn kV16
  refine ps_k (o_ldoes 2 1) (.bool false) ?_
  refine ps_end ?_
  refine then_n ?_
  refine sy_sq (part_ldoes 6) (part_ldoes 7) ?_
  refine sy_sq (part_ldoes 12) (part_ldoes 13) ?_
  refine sy_reg ?_
  refine rg_plain 1 (opsAt (part_ldoes 12)) [0, 1] (by kernel_rfl) (by kernel_rfl) ?_
  refine ps_k (o_ldoes 12 0) (pT p 0) ?_
  refine ps_p (o_ldoes 12 1) (.int .i64 x.k) (exec_ld 3 (.tmp 7) p 0 Try.underlying3 (rc (h17) (RAct.c_0 _))) ?_
  refine ps_end ?_
  refine then_n ?_
  refine sy_bk 0 (part_ldoes 26) ?_
  refine sy_sq (part_ldoes 52) (part_ldoes 53) ?_
  refine sy_reg ?_
  refine rg_plain 2 (opsAt (part_ldoes 52)) [0, 1] (by kernel_rfl) (by kernel_rfl) ?_
  refine ps_p (o_ldoes 52 0) (.bool false) (eqf ((x.k) : Int) ((0) : Int) (by omega)) ?_
  refine ps_k (o_ldoes 52 1) (.bool false) ?_
  refine ps_end ?_
  refine then_n ?_
  refine sy_n (.tmp 9) (part_ldoes 106) (part_ldoes 107) ?_
  refine sy_sq (part_ldoes 214) (part_ldoes 215) ?_
  refine sy_reg ?_
  refine rg_plain 4 (opsAt (part_ldoes 214)) [0, 1] (by kernel_rfl) (by kernel_rfl) ?_
  refine ps_p (o_ldoes 214 0) (.bool true) (eqt ((x.k) : Int) ((1) : Int) (by omega)) ?_
  refine ps_k (o_ldoes 214 1) (.bool true) ?_
  refine ps_end ?_
  refine then_n ?_
  refine sy_ys (.tmp 20) (part_ldoes 430) (part_ldoes 431) ?_
  refine sy_sq (part_ldoes 860) (part_ldoes 861) ?_
  refine sy_np ?_
  refine sy_reg ?_
  refine an_begin 5 10 (opsAt (part_ldoes 860)) (fun W => (W.heap[p]? = some (.cells (RAct.c x) 51 (0, 0)))) #[false, false, false, false, false, false, false, false, false, false] (by kernel_rfl) (by kernel_rfl) (by kernel_rfl) (by kernel_rfl) ?_
  obtain ⟨V21, eV21, kV21⟩ := drew_step V16
  rw [eV21]
  clear eV21
  have h22 : Two w0 V21 r q v A B d := h19.keepsN kV21
  have h23 := kV21.bk h17
  have K24 := K20.nn kV21
  refine an_k 0 (o_ldoes 860 0) (pT r 0) h23 ?_
  refine an_k 1 (o_ldoes 860 1) (pT p 41) h23 ?_
  refine an_v 2 (o_ldoes 860 2) (.agg (Pro.c x.p)) (fun W hS => exec_load_seg 35 (.tmp 23) (by kernel_rfl) p 41 (by kernel_rfl) (Pro.cl x.p) _ _ _ hS (RAct.c_p x hx) Try.underlying35 rfl (by rw [Pro.cl_len hx.p]; kernel_rfl)) h23 ?_
  refine an_k 4 (o_ldoes 860 4) (pT q 0) h23 ?_
  refine an_k 5 (o_ldoes 860 5) (pT p 41) h23 ?_
  refine an_v 6 (o_ldoes 860 6) (.agg (Pro.c x.p)) (fun W hS => exec_load_seg 35 (.tmp 27) (by kernel_rfl) p 41 (by kernel_rfl) (Pro.cl x.p) _ _ _ hS (RAct.c_p x hx) Try.underlying35 rfl (by rw [Pro.cl_len hx.p]; kernel_rfl)) h23 ?_
  refine an_o 3 ?_
  have T1 := h22
  have np_ : p ≠ B.s := fun e => Odd.one T1.rec_.b.slots (by decide) _ _ _ e h23
  refine on_c (o_ldoes 860 3) 12 #[pT r 0, .agg (Pro.c x.p)] Try.func12 ((qPutBlock_ok r v A B x.p _ T1.rec_ hx.p).mono ?_)
  rintro e V25 ⟨rfl, hb1, hg1, kV25⟩
  have k1_ := kV25
  have hr1 := T1.ref.byRec T1.rec_ (k1_.mono (fun j _ (e : j = B.s) => .inr (.inr (.inr e))))
  have hsz_ := k1_.size
  have hk0_ := T1.keeps.size
  refine ⟨_, rfl, ?_⟩
  have h26 := kV25.bo h23 (by omega)
  have K27 : Keeps ((fun j => w0.heap.size ≤ j)) w V25 := K24.then kV25 (fun i hi hm => by unfold Own.One at hm; subst hm; exact (T.new _ (.inr (.inr (.inr rfl)))))
  refine ⟨h26, ?_⟩
  refine an_o 7 ?_
  have npq_ : p ≠ q := fun e => hr1.odd (by decide) _ _ _ e h26
  refine on_c (o_ldoes 860 7) 48 #[pT q 0, .agg (Pro.c x.p)] Try.func48 ((qrPutBlock_ok q w0.heap.size d x.p _ hr1 hx.p T1.bb (Nat.le_trans hk0_ hsz_) T1.lb).mono ?_)
  rintro e V28 ⟨rfl, h2_, kV28⟩
  have k2_ := kV28
  refine ⟨_, rfl, ?_⟩
  have h29 := kV28.bo h26 (by omega)
  have K30 : Keeps ((fun j => w0.heap.size ≤ j)) w V28 := K27.then kV28 (fun i hi hm => by unfold Own.One at hm; subst hm; exact T.newq)
  refine ⟨h29, ?_⟩
  refine an_v 8 (o_ldoes 860 8) (.bool true) (fun W hS => exec_cast (congrArg Value.bool (show ((((qPutBlockErr v B x.p) : Int) == ((qrPutBlockErr d x.p) : Int))) = true from beq_iff_eq.2 (putErrB hv T.rec_ T.same x.p))) (by kernel_rfl)) h29 ?_
  refine an_o 9 ?_
  refine on_r (o_ldoes 860 9) (.bool true) (w' := V28) (by kernel_rfl) ?_
  refine ⟨h29, ?_⟩
  refine an_end (by kernel_rfl) ?_
  refine then_n ?_
  refine sy_ret (by kernel_rfl) ?_
  refine blk_r ?_
  refine then_r ?_
  refine sy_out (.bool true) rfl (by kernel_rfl) ?_
  exact ⟨rfl, T1.putB hv hb1 hg1 k1_ h2_ k2_, K30⟩
set_option maxRecDepth 100000 in
set_option maxHeartbeats 4000000 in
theorem ldoes_2 (w0 : World) (r q : Nat) (v : Int) (x : RAct) (w : World) (hB : Both w0 w r q v) (hx : x.Ok) (g0 : x.k = 2) :
    Calls Try.prog 22 #[.pointer (some ⟨r, 0, none⟩), .pointer (some ⟨q, 0, none⟩), .agg (RAct.c x)] w (fun e w' => e = .returned (.bool true) ∧ Both w0 w' r q v ∧ Keeps (fun j => w0.heap.size ≤ j) w w') := by
  obtain ⟨hv, A, B, d, T⟩ := hB
  have K0 : Keeps ((fun j => w0.heap.size ≤ j)) w w := Keeps.refl _ _
  refine sy_enter (part_ldoes 1) ⟨#[pT r 0, pT q 0, .agg (RAct.c x), undef, undef, undef, undef, undef, undef, undef, undef, undef, undef, undef, undef, undef, undef, undef, undef, undef, undef, undef, undef, undef, undef, undef, undef, undef, undef, undef, undef, undef, undef, undef, undef, undef, undef, undef, undef, undef, undef, undef, undef, undef, undef, undef], []⟩ Try.func22 (by kernel_rfl) (by kernel_rfl) ?_
  refine sy_sq (part_ldoes 2) (part_ldoes 3) ?_
  refine sy_reg ?_
  refine rg_plain 0 (opsAt (part_ldoes 2)) [0, 1] (by kernel_rfl) (by kernel_rfl) ?_
  obtain ⟨V31, eV31, p, ep, h32, kV31⟩ := alloc_step w ((RAct.c x)) 51
  have n33 : w.heap.size ≤ p := ep ▸ K0.size
  refine ps_r (o_ldoes 2 0) (pT p 0) (w' := V31) (by rw [← eV31, ← ep]; exact exec_box 51 (.tmp 2) (by kernel_rfl) (.agg (RAct.c x)) (by kernel_rfl)) ?_
  clear eV31
  have h34 : Two w0 V31 r q v A B d := T.keepsN kV31
  have K35 := K0.nn kV31
  refine ps_k (o_ldoes 2 1) (.bool false) ?_
  refine ps_end ?_
  refine then_n ?_
  refine sy_sq (part_ldoes 6) (part_ldoes 7) ?_
  refine sy_sq (part_ldoes 12) (part_ldoes 13) ?_
  refine sy_reg ?_
  refine rg_plain 1 (opsAt (part_ldoes 12)) [0, 1] (by kernel_rfl) (by kernel_rfl) ?_
  refine ps_k (o_ldoes 12 0) (pT p 0) ?_
  refine ps_p (o_ldoes 12 1) (.int .i64 x.k) (exec_ld 3 (.tmp 7) p 0 Try.underlying3 (rc (h32) (RAct.c_0 _))) ?_
  refine ps_end ?_
  refine then_n ?_
  refine sy_bk 0 (part_ldoes 26) ?_
  refine sy_sq (part_ldoes 52) (part_ldoes 53) ?_
  refine sy_reg ?_
  refine rg_plain 2 (opsAt (part_ldoes 52)) [0, 1] (by kernel_rfl) (by kernel_rfl) ?_
  refine ps_p (o_ldoes 52 0) (.bool false) (eqf ((x.k) : Int) ((0) : Int) (by omega)) ?_
  refine ps_k (o_ldoes 52 1) (.bool false) ?_
  refine ps_end ?_
  refine then_n ?_
  refine sy_n (.tmp 9) (part_ldoes 106) (part_ldoes 107) ?_
  refine sy_sq (part_ldoes 214) (part_ldoes 215) ?_
  refine sy_reg ?_
  refine rg_plain 4 (opsAt (part_ldoes 214)) [0, 1] (by kernel_rfl) (by kernel_rfl) ?_
  refine ps_p (o_ldoes 214 0) (.bool false) (eqf ((x.k) : Int) ((1) : Int) (by omega)) ?_
  refine ps_k (o_ldoes 214 1) (.bool false) ?_
  refine ps_end ?_
  refine then_n ?_
  refine sy_n (.tmp 20) (part_ldoes 430) (part_ldoes 431) ?_
  refine sy_sq (part_ldoes 862) (part_ldoes 863) ?_
  refine sy_reg ?_
  refine rg_plain 6 (opsAt (part_ldoes 862)) [0, 1] (by kernel_rfl) (by kernel_rfl) ?_
  refine ps_p (o_ldoes 862 0) (.bool true) (eqt ((x.k) : Int) ((2) : Int) (by omega)) ?_
  refine ps_k (o_ldoes 862 1) (.bool true) ?_
  refine ps_end ?_
  refine then_n ?_
  refine sy_ys (.tmp 31) (part_ldoes 1726) (part_ldoes 1727) ?_
  refine sy_sq (part_ldoes 3452) (part_ldoes 3453) ?_
  refine sy_np ?_
  refine sy_reg ?_
  refine an_begin 7 14 (opsAt (part_ldoes 3452)) (fun W => (W.heap[p]? = some (.cells (RAct.c x) 51 (0, 0)))) #[false, false, false, false, false, false, false, false, false, false, false, false, false, false] (by kernel_rfl) (by kernel_rfl) (by kernel_rfl) (by kernel_rfl) ?_
  obtain ⟨V36, eV36, kV36⟩ := drew_step V31
  rw [eV36]
  clear eV36
  have h37 : Two w0 V36 r q v A B d := h34.keepsN kV36
  have h38 := kV36.bk h32
  have K39 := K35.nn kV36
  refine an_k 0 (o_ldoes 3452 0) (pT r 0) h38 ?_
  refine an_k 1 (o_ldoes 3452 1) (pT p 1) h38 ?_
  refine an_v 2 (o_ldoes 3452 2) (.int .i64 x.l) (fun W hS => exec_ld 3 (.tmp 34) p 1 Try.underlying3 (rc (hS) (RAct.c_1 _))) h38 ?_
  refine an_k 3 (o_ldoes 3452 3) (pT p 2) h38 ?_
  refine an_v 4 (o_ldoes 3452 4) (.int .i64 x.f) (fun W hS => exec_ld 3 (.tmp 36) p 2 Try.underlying3 (rc (hS) (RAct.c_2 _))) h38 ?_
  refine an_k 6 (o_ldoes 3452 6) (pT q 0) h38 ?_
  refine an_k 7 (o_ldoes 3452 7) (pT p 1) h38 ?_
  refine an_v 8 (o_ldoes 3452 8) (.int .i64 x.l) (fun W hS => exec_ld 3 (.tmp 40) p 1 Try.underlying3 (rc (hS) (RAct.c_1 _))) h38 ?_
  refine an_k 9 (o_ldoes 3452 9) (pT p 2) h38 ?_
  refine an_v 10 (o_ldoes 3452 10) (.int .i64 x.f) (fun W hS => exec_ld 3 (.tmp 42) p 2 Try.underlying3 (rc (hS) (RAct.c_2 _))) h38 ?_
  refine an_o 5 ?_
  have T1 := h37
  have np_ : ¬ FR A B p := fun e => T1.rec_.odd (by decide) (by decide) (by decide) (by decide) _ _ _ e h38
  refine on_c (o_ldoes 3452 5) 14 #[pT r 0, .int .i64 x.l, .int .i64 x.f] Try.func14 ((qMove_ok r v A B x.l x.f _ T1.rec_).mono ?_)
  rintro e V40 ⟨rfl, hb1, hg1, kV40⟩
  have k1_ := kV40
  have hr1 := T1.ref.byRec T1.rec_ k1_
  have hsz_ := k1_.size
  have hk0_ := T1.keeps.size
  refine ⟨_, rfl, ?_⟩
  have h41 : V40.heap[p]? = some (.cells (RAct.c x) 51 (0, 0)) := (kV40.block p (lt_of_block h38) (fun e => np_ e)).trans h38
  have K42 : Keeps ((fun j => w0.heap.size ≤ j)) w V40 := K39.then kV40 (fun i hi hm => T.new i hm)
  refine ⟨h41, ?_⟩
  refine an_o 11 ?_
  have npq_ : p ≠ q := fun e => hr1.odd (by decide) _ _ _ e h41
  refine on_c (o_ldoes 3452 11) 49 #[pT q 0, .int .i64 x.l, .int .i64 x.f] Try.func49 ((qrMove_ok q w0.heap.size d x.l x.f _ hr1 (Nat.le_trans hk0_ hsz_) T1.la T1.lb).mono ?_)
  rintro e V43 ⟨rfl, h2_, kV43⟩
  have k2_ := kV43
  refine ⟨_, rfl, ?_⟩
  have h44 := kV43.bo h41 (by omega)
  have K45 : Keeps ((fun j => w0.heap.size ≤ j)) w V43 := K42.then kV43 (fun i hi hm => by unfold Own.One at hm; subst hm; exact T.newq)
  refine ⟨h44, ?_⟩
  refine an_v 12 (o_ldoes 3452 12) (.bool true) (fun W hS => exec_cast (congrArg Value.bool (show ((((qMoveErr A B x.l x.f) : Int) == ((qrMoveErr d x.l x.f) : Int))) = true from beq_iff_eq.2 (moveErr T.same x.l x.f))) (by kernel_rfl)) h44 ?_
  refine an_o 13 ?_
  refine on_r (o_ldoes 3452 13) (.bool true) (w' := V43) (by kernel_rfl) ?_
  refine ⟨h44, ?_⟩
  refine an_end (by kernel_rfl) ?_
  refine sy_a ⟨#[pT r 0, pT q 0, .agg (RAct.c x), undef, undef, pT p 0, .bool true, pT p 0, .int .i64 x.k, .bool false, .bool false, undef, undef, undef, undef, undef, undef, undef, undef, undef, .bool false, .bool false, undef, undef, undef, undef, undef, undef, undef, undef, undef, .bool true, .bool true, pT r 0, pT p 1, .int .i64 x.l, pT p 2, .int .i64 x.f, .int .i64 (qMoveErr A B x.l x.f), pT q 0, pT p 1, .int .i64 x.l, pT p 2, .int .i64 x.f, .int .i64 (qrMoveErr d x.l x.f), .bool true], []⟩ ?_
  refine then_n ?_
  refine sy_ret (by kernel_rfl) ?_
  refine blk_r ?_
  refine then_r ?_
  refine sy_out (.bool true) rfl (by kernel_rfl) ?_
  exact ⟨rfl, T1.move hv hb1 hg1 k1_ h2_ k2_, K45⟩
set_option maxRecDepth 100000 in
set_option maxHeartbeats 4000000 in
theorem ldoes_3 (w0 : World) (r q : Nat) (v : Int) (x : RAct) (w : World) (hB : Both w0 w r q v) (hx : x.Ok) (g0 : x.k ≠ 0) (g1 : x.k ≠ 1) (g2 : x.k ≠ 2) :
    Calls Try.prog 22 #[.pointer (some ⟨r, 0, none⟩), .pointer (some ⟨q, 0, none⟩), .agg (RAct.c x)] w (fun e w' => e = .returned (.bool true) ∧ Both w0 w' r q v ∧ Keeps (fun j => w0.heap.size ≤ j) w w') := by
  obtain ⟨hv, A, B, d, T⟩ := hB
  have K0 : Keeps ((fun j => w0.heap.size ≤ j)) w w := Keeps.refl _ _
  refine sy_enter (part_ldoes 1) ⟨#[pT r 0, pT q 0, .agg (RAct.c x), undef, undef, undef, undef, undef, undef, undef, undef, undef, undef, undef, undef, undef, undef, undef, undef, undef, undef, undef, undef, undef, undef, undef, undef, undef, undef, undef, undef, undef, undef, undef, undef, undef, undef, undef, undef, undef, undef, undef, undef, undef, undef, undef], []⟩ Try.func22 (by kernel_rfl) (by kernel_rfl) ?_
  refine sy_sq (part_ldoes 2) (part_ldoes 3) ?_
  refine sy_reg ?_
  refine rg_plain 0 (opsAt (part_ldoes 2)) [0, 1] (by kernel_rfl) (by kernel_rfl) ?_
  obtain ⟨V46, eV46, p, ep, h47, kV46⟩ := alloc_step w ((RAct.c x)) 51
  have n48 : w.heap.size ≤ p := ep ▸ K0.size
  refine ps_r (o_ldoes 2 0) (pT p 0) (w' := V46) (by rw [← eV46, ← ep]; exact exec_box 51 (.tmp 2) (by kernel_rfl) (.agg (RAct.c x)) (by kernel_rfl)) ?_
  clear eV46
  have h49 : Two w0 V46 r q v A B d := T.keepsN kV46
  have K50 := K0.nn kV46
  refine ps_k (o_ldoes 2 1) (.bool false) ?_
  refine ps_end ?_
  refine then_n ?_
  refine sy_sq (part_ldoes 6) (part_ldoes 7) ?_
  refine sy_sq (part_ldoes 12) (part_ldoes 13) ?_
  refine sy_reg ?_
  refine rg_plain 1 (opsAt (part_ldoes 12)) [0, 1] (by kernel_rfl) (by kernel_rfl) ?_
  refine ps_k (o_ldoes 12 0) (pT p 0) ?_
  refine ps_p (o_ldoes 12 1) (.int .i64 x.k) (exec_ld 3 (.tmp 7) p 0 Try.underlying3 (rc (h47) (RAct.c_0 _))) ?_
  refine ps_end ?_
  refine then_n ?_
  refine sy_bk 0 (part_ldoes 26) ?_
  refine sy_sq (part_ldoes 52) (part_ldoes 53) ?_
  refine sy_reg ?_
  refine rg_plain 2 (opsAt (part_ldoes 52)) [0, 1] (by kernel_rfl) (by kernel_rfl) ?_
  refine ps_p (o_ldoes 52 0) (.bool false) (eqf ((x.k) : Int) ((0) : Int) (by omega)) ?_
  refine ps_k (o_ldoes 52 1) (.bool false) ?_
  refine ps_end ?_
  refine then_n ?_
  refine sy_n (.tmp 9) (part_ldoes 106) (part_ldoes 107) ?_
  refine sy_sq (part_ldoes 214) (part_ldoes 215) ?_
  refine sy_reg ?_
  refine rg_plain 4 (opsAt (part_ldoes 214)) [0, 1] (by kernel_rfl) (by kernel_rfl) ?_
  refine ps_p (o_ldoes 214 0) (.bool false) (eqf ((x.k) : Int) ((1) : Int) (by omega)) ?_
  refine ps_k (o_ldoes 214 1) (.bool false) ?_
  refine ps_end ?_
  refine then_n ?_
  refine sy_n (.tmp 20) (part_ldoes 430) (part_ldoes 431) ?_
  refine sy_sq (part_ldoes 862) (part_ldoes 863) ?_
  refine sy_reg ?_
  refine rg_plain 6 (opsAt (part_ldoes 862)) [0, 1] (by kernel_rfl) (by kernel_rfl) ?_
  refine ps_p (o_ldoes 862 0) (.bool false) (eqf ((x.k) : Int) ((2) : Int) (by omega)) ?_
  refine ps_k (o_ldoes 862 1) (.bool false) ?_
  refine ps_end ?_
  refine then_n ?_
  refine sy_n (.tmp 31) (part_ldoes 1726) (part_ldoes 1727) ?_
  refine sy_sk ?_
  refine blk_n ?_
  refine then_n ?_
  refine sy_sq (part_ldoes 14) (part_ldoes 15) ?_
  refine sy_reg ?_
  refine rg_plain 8 (opsAt (part_ldoes 14)) [0] (by kernel_rfl) (by kernel_rfl) ?_
  refine ps_k (o_ldoes 14 0) (.bool true) ?_
  refine ps_end ?_
  refine then_n ?_
  refine sy_ret (by kernel_rfl) ?_
  refine sy_out (.bool true) rfl (by kernel_rfl) ?_
  exact ⟨rfl, ⟨hv, A, B, d, h49⟩, K50⟩
theorem ldoes_ok (w0 : World) (r q : Nat) (v : Int) (x : RAct) (w : World) (hB : Both w0 w r q v) (hx : x.Ok) : Calls Try.prog 22 #[.pointer (some ⟨r, 0, none⟩), .pointer (some ⟨q, 0, none⟩), .agg (RAct.c x)] w (fun e w' => e = .returned (.bool true) ∧ Both w0 w' r q v ∧ Keeps (fun j => w0.heap.size ≤ j) w w') := by
  by_cases g0 : x.k = 0
  · exact ldoes_0 w0 r q v x w hB hx g0
  by_cases g1 : x.k = 1
  · exact ldoes_1 w0 r q v x w hB hx g1
  by_cases g2 : x.k = 2
  · exact ldoes_2 w0 r q v x w hB hx g2
  exact ldoes_3 w0 r q v x w hB hx g0 g1 g2
noncomputable def part_lalike (n : Nat) : Code := partOf Try.f23 n
noncomputable abbrev o_lalike (n k : Nat) : Oper := (opsAt (part_lalike n)).getD k default
set_option maxRecDepth 100000 in
set_option maxHeartbeats 4000000 in
theorem lalike_ok (w0 : World) (r q : Nat) (v : Int) (x : RAct) (w : World) (hB : Both w0 w r q v) (hx : x.Ok) :
    Calls Try.prog 23 #[.pointer (some ⟨r, 0, none⟩), .pointer (some ⟨q, 0, none⟩), .agg (RAct.c x)] w (fun e w' => e = .returned (.bool true) ∧ Keeps Nob w w') := by
  obtain ⟨hv, A, B, d, T⟩ := hB
  have hfa : findK (·.t) d.a x.at_ = A.V x.at_ := by rw [T.same.a]; exact items_find T.rec_.a.held _
  have hfb : findK (·.h) d.b x.of_ = B.V x.of_ := by rw [T.same.b]; exact items_find T.rec_.b.held _
  obtain ⟨ba, hba⟩ : ∃ b, (A.V x.at_).isSome = b := ⟨_, rfl⟩
  obtain ⟨bb, hbb⟩ : ∃ b, (B.V x.of_).isSome = b := ⟨_, rfl⟩
  have hoa : Att.Ok ((A.V x.at_).getD zAtt) := by cases hz : A.V x.at_ with
      | none => exact zAtt_ok
      | some y => exact (T.rec_.a.out _ _ hz).2.2.2
  have hob : Pro.Ok ((B.V x.of_).getD zPro) := by cases hz : B.V x.of_ with
      | none => exact zPro_ok
      | some y => exact (T.rec_.b.out _ _ hz).2.2.2
  have oia := items_ok T.rec_.a
  have oib := items_ok T.rec_.b
  have hda := T.same.a.symm
  have hdb := T.same.b.symm
  have hl_ := T.same.l
  have hf_ := T.same.f
  have hil := items_len A.V A.low A.n
  have hil2 := items_len B.V B.low B.n
  have hn2 := T.rec_.a.n2
  have hm2 := T.rec_.b.n2
  obtain ⟨⟨xa, xb, hq, hxa, hnxa, hxb, hnxb⟩, hoda, hodb⟩ := T.ref
  have sxa : AttsAt w xa d.a := Row.sl hxa rfl (fun x hx => Att.cl_len (hoda x hx))
  have sxb : ProsAt w xb d.b := Row.sl hxb rfl (fun x hx => Pro.cl_len (hodb x hx))
  have K0 : Keeps Nob w w := Keeps.refl _ _
  refine sy_enter (part_lalike 1) ⟨#[pT r 0, pT q 0, .agg (RAct.c x), undef, undef, undef, undef, undef, undef, undef, undef, undef, undef, undef, undef, undef, undef, undef, undef, undef, undef, undef, undef, undef, undef, undef, undef, undef, undef, undef, undef, undef, undef, undef, undef, undef, undef, undef, undef, undef, undef, undef, undef, undef, undef, undef, undef, undef, undef, undef, undef, undef, undef, undef, undef, undef, undef, undef, undef, undef, undef, undef, undef, undef, undef, undef, undef, undef, undef, undef, undef, undef, undef, undef, undef, undef, undef, undef, undef, undef, undef, undef, undef, undef, undef, undef, undef, undef, undef, undef, undef, undef, undef, undef, undef, undef, undef, undef, undef, undef, undef, undef, undef], []⟩ Try.func23 (by kernel_rfl) (by kernel_rfl) ?_
  refine sy_sq (part_lalike 2) (part_lalike 3) ?_
  refine sy_reg ?_
  refine rg_plain 0 (opsAt (part_lalike 2)) [0, 1] (by kernel_rfl) (by kernel_rfl) ?_
  obtain ⟨V1, eV1, p, ep, h2, kV1⟩ := alloc_step w ((RAct.c x)) 51
  have n3 : q < p := ep ▸ lt_of_block hq
  have n4 : w.heap.size ≤ p := ep ▸ K0.size
  refine ps_r (o_lalike 2 0) (pT p 0) (w' := V1) (by rw [← eV1, ← ep]; exact exec_box 51 (.tmp 2) (by kernel_rfl) (.agg (RAct.c x)) (by kernel_rfl)) ?_
  clear eV1
  have h5 := kV1.bk hq
  have K6 := K0.nn kV1
  refine ps_k (o_lalike 2 1) (.bool false) ?_
  refine ps_end ?_
  refine then_n ?_
  refine sy_sq (part_lalike 6) (part_lalike 7) ?_
  refine sy_reg ?_
  refine rg_plain 1 (opsAt (part_lalike 6)) [0, 1, 2, 3, 4, 5, 6, 7, 8, 9] (by kernel_rfl) (by kernel_rfl) ?_
  refine ps_k (o_lalike 6 0) (pT r 0) ?_
  refine ps_k (o_lalike 6 1) (pT p 3) ?_
  refine ps_p (o_lalike 6 2) (.int .i64 x.at_) (exec_ld 3 (.tmp 20) p 3 Try.underlying3 (rc (h2) (RAct.c_3 _))) ?_
  refine ps_c (o_lalike 6 3) 8 #[pT r 0, .int .i64 x.at_] Try.func8 (((show Calls Try.prog 8 #[pT r 0, .int .i64 x.at_] V1 (fun e w' => e = .returned (.tuple #[.agg (Att.c ((A.V x.at_).getD zAtt)), .bool ba]) ∧ Keeps Nob V1 w') from (by have h := qAt_ok r v A B x.at_ _ (T.keepsN K6).rec_; rw [hba] at h; exact h))).mono ?_)
  rintro e V7 ⟨rfl, kV7⟩
  refine ⟨_, rfl, ?_⟩
  have h8 := kV7.bk h5
  have h9 := kV7.bk h2
  have K10 := K6.nn kV7
  refine ps_k (o_lalike 6 4) (.tuple #[.agg (Att.c ((A.V x.at_).getD zAtt)), .bool ba]) ?_
  refine ps_k (o_lalike 6 5) (.agg (Att.c ((A.V x.at_).getD zAtt))) ?_
  refine ps_k (o_lalike 6 6) (.bool ba) ?_
  obtain ⟨V11, eV11, z1, ez1, h12, kV11⟩ := alloc_step V7 (#[.int .i64 0, .int .i64 0, .int .i64 0, .int .u8 0, .int .u8 0, .int .u8 0, .int .u8 0, .int .u8 0, .int .u8 0, .int .u8 0, .int .u8 0, .int .u8 0, .int .u8 0, .int .u8 0, .int .u8 0, .int .u8 0, .int .u8 0, .int .u8 0, .int .u8 0, .int .u8 0, .int .u8 0, .int .u8 0, .int .u8 0, .int .u8 0, .int .u8 0, .int .u8 0, .int .u8 0, .int .u8 0, .int .u8 0, .int .u8 0, .int .u8 0, .int .u8 0, .int .u8 0, .int .u8 0, .int .u8 0, .int .u64 0]) 28
  have n13 : q < z1 := ez1 ▸ lt_of_block h8
  have n14 : p < z1 := ez1 ▸ lt_of_block h9
  have n15 : w.heap.size ≤ z1 := ez1 ▸ K10.size
  refine ps_r (o_lalike 6 7) (pT z1 0) (w' := V11) (by rw [← eV11, ← ez1]; exact exec_alloc0 28 (by kernel_rfl) (.agg (#[.int .i64 0, .int .i64 0, .int .i64 0, .int .u8 0, .int .u8 0, .int .u8 0, .int .u8 0, .int .u8 0, .int .u8 0, .int .u8 0, .int .u8 0, .int .u8 0, .int .u8 0, .int .u8 0, .int .u8 0, .int .u8 0, .int .u8 0, .int .u8 0, .int .u8 0, .int .u8 0, .int .u8 0, .int .u8 0, .int .u8 0, .int .u8 0, .int .u8 0, .int .u8 0, .int .u8 0, .int .u8 0, .int .u8 0, .int .u8 0, .int .u8 0, .int .u8 0, .int .u8 0, .int .u8 0, .int .u8 0, .int .u64 0])) (by kernel_rfl)) ?_
  clear eV11
  have h16 := kV11.bk h8
  have h17 := kV11.bk h9
  have K18 := K10.nn kV11
  obtain ⟨V19, eV19, kV19⟩ := rowset_step V11 z1 ((Att.c ((A.V x.at_).getD zAtt)))
  have h20 : V19.heap[z1]? = some (.cells (Att.c ((A.V x.at_).getD zAtt)) 28 (0, 0)) := eV19 ▸ setRow_heap _ _ _ _ _ _ h12
  refine ps_s (o_lalike 6 8) (w' := V19) (by rw [← eV19]; exact exec_store_row 28 (.tmp 7) (.tmp 23) (by kernel_rfl) z1 ((Att.c ((A.V x.at_).getD zAtt))) (by kernel_rfl) (by kernel_rfl) 28 (#[.int .i64 0, .int .i64 0, .int .i64 0, .int .u8 0, .int .u8 0, .int .u8 0, .int .u8 0, .int .u8 0, .int .u8 0, .int .u8 0, .int .u8 0, .int .u8 0, .int .u8 0, .int .u8 0, .int .u8 0, .int .u8 0, .int .u8 0, .int .u8 0, .int .u8 0, .int .u8 0, .int .u8 0, .int .u8 0, .int .u8 0, .int .u8 0, .int .u8 0, .int .u8 0, .int .u8 0, .int .u8 0, .int .u8 0, .int .u8 0, .int .u8 0, .int .u8 0, .int .u8 0, .int .u8 0, .int .u8 0, .int .u64 0]) h12 (by rw [Att.c_size _ hoa.r]; kernel_rfl) (by rw [Att.c_size _ hoa.r]; rfl) (Att.c_one _)) ?_
  clear eV19
  have h21 := kV19.bo h16 (by omega)
  have h22 := kV19.bo h17 (by omega)
  have K23 := K18.no kV19 (by omega)
  refine ps_k (o_lalike 6 9) (.bool ba) ?_
  refine ps_end ?_
  refine then_n ?_
  refine sy_sq (part_lalike 14) (part_lalike 15) ?_
  refine sy_reg ?_
  refine rg_plain 2 (opsAt (part_lalike 14)) [0, 1, 2, 3, 4, 5, 6, 7, 8, 9] (by kernel_rfl) (by kernel_rfl) ?_
  refine ps_k (o_lalike 14 0) (pT q 0) ?_
  refine ps_k (o_lalike 14 1) (pT p 3) ?_
  refine ps_p (o_lalike 14 2) (.int .i64 x.at_) (exec_ld 3 (.tmp 27) p 3 Try.underlying3 (rc (h22) (RAct.c_3 _))) ?_
  refine ps_c (o_lalike 14 3) 50 #[pT q 0, .int .i64 x.at_] Try.func50 (((show Calls Try.prog 50 #[pT q 0, .int .i64 x.at_] V19 (fun e w' => e = .returned (.tuple #[.agg (Att.c ((A.V x.at_).getD zAtt)), .bool ba]) ∧ Keeps Nob V19 w') from (by have h := qrAt_ok q w0.heap.size d x.at_ _ (T.keepsN K23).ref; rw [hfa, hba] at h; exact h))).mono ?_)
  rintro e V24 ⟨rfl, kV24⟩
  refine ⟨_, rfl, ?_⟩
  have h25 := kV24.bk h21
  have h26 := kV24.bk h22
  have h27 := kV24.bk h20
  have K28 := K23.nn kV24
  refine ps_k (o_lalike 14 4) (.tuple #[.agg (Att.c ((A.V x.at_).getD zAtt)), .bool ba]) ?_
  refine ps_k (o_lalike 14 5) (.agg (Att.c ((A.V x.at_).getD zAtt))) ?_
  refine ps_k (o_lalike 14 6) (.bool ba) ?_
  obtain ⟨V29, eV29, z2, ez2, h30, kV29⟩ := alloc_step V24 (#[.int .i64 0, .int .i64 0, .int .i64 0, .int .u8 0, .int .u8 0, .int .u8 0, .int .u8 0, .int .u8 0, .int .u8 0, .int .u8 0, .int .u8 0, .int .u8 0, .int .u8 0, .int .u8 0, .int .u8 0, .int .u8 0, .int .u8 0, .int .u8 0, .int .u8 0, .int .u8 0, .int .u8 0, .int .u8 0, .int .u8 0, .int .u8 0, .int .u8 0, .int .u8 0, .int .u8 0, .int .u8 0, .int .u8 0, .int .u8 0, .int .u8 0, .int .u8 0, .int .u8 0, .int .u8 0, .int .u8 0, .int .u64 0]) 28
  have n31 : q < z2 := ez2 ▸ lt_of_block h25
  have n32 : p < z2 := ez2 ▸ lt_of_block h26
  have n33 : z1 < z2 := ez2 ▸ lt_of_block h27
  have n34 : w.heap.size ≤ z2 := ez2 ▸ K28.size
  refine ps_r (o_lalike 14 7) (pT z2 0) (w' := V29) (by rw [← eV29, ← ez2]; exact exec_alloc0 28 (by kernel_rfl) (.agg (#[.int .i64 0, .int .i64 0, .int .i64 0, .int .u8 0, .int .u8 0, .int .u8 0, .int .u8 0, .int .u8 0, .int .u8 0, .int .u8 0, .int .u8 0, .int .u8 0, .int .u8 0, .int .u8 0, .int .u8 0, .int .u8 0, .int .u8 0, .int .u8 0, .int .u8 0, .int .u8 0, .int .u8 0, .int .u8 0, .int .u8 0, .int .u8 0, .int .u8 0, .int .u8 0, .int .u8 0, .int .u8 0, .int .u8 0, .int .u8 0, .int .u8 0, .int .u8 0, .int .u8 0, .int .u8 0, .int .u8 0, .int .u64 0])) (by kernel_rfl)) ?_
  clear eV29
  have h35 := kV29.bk h25
  have h36 := kV29.bk h26
  have h37 := kV29.bk h27
  have K38 := K28.nn kV29
  obtain ⟨V39, eV39, kV39⟩ := rowset_step V29 z2 ((Att.c ((A.V x.at_).getD zAtt)))
  have h40 : V39.heap[z2]? = some (.cells (Att.c ((A.V x.at_).getD zAtt)) 28 (0, 0)) := eV39 ▸ setRow_heap _ _ _ _ _ _ h30
  refine ps_s (o_lalike 14 8) (w' := V39) (by rw [← eV39]; exact exec_store_row 28 (.tmp 9) (.tmp 30) (by kernel_rfl) z2 ((Att.c ((A.V x.at_).getD zAtt))) (by kernel_rfl) (by kernel_rfl) 28 (#[.int .i64 0, .int .i64 0, .int .i64 0, .int .u8 0, .int .u8 0, .int .u8 0, .int .u8 0, .int .u8 0, .int .u8 0, .int .u8 0, .int .u8 0, .int .u8 0, .int .u8 0, .int .u8 0, .int .u8 0, .int .u8 0, .int .u8 0, .int .u8 0, .int .u8 0, .int .u8 0, .int .u8 0, .int .u8 0, .int .u8 0, .int .u8 0, .int .u8 0, .int .u8 0, .int .u8 0, .int .u8 0, .int .u8 0, .int .u8 0, .int .u8 0, .int .u8 0, .int .u8 0, .int .u8 0, .int .u8 0, .int .u64 0]) h30 (by rw [Att.c_size _ hoa.r]; kernel_rfl) (by rw [Att.c_size _ hoa.r]; rfl) (Att.c_one _)) ?_
  clear eV39
  have h41 := kV39.bo h35 (by omega)
  have h42 := kV39.bo h36 (by omega)
  have h43 := kV39.bo h37 (by omega)
  have K44 := K38.no kV39 (by omega)
  refine ps_k (o_lalike 14 9) (.bool ba) ?_
  refine ps_end ?_
  refine then_n ?_
  refine sy_sq (part_lalike 30) (part_lalike 31) ?_
  refine sy_reg ?_
  refine rg_plain 3 (opsAt (part_lalike 30)) [0, 1, 2, 3, 4, 5, 6, 7, 8, 9] (by kernel_rfl) (by kernel_rfl) ?_
  refine ps_k (o_lalike 30 0) (pT r 0) ?_
  refine ps_k (o_lalike 30 1) (pT p 4) ?_
  refine ps_p (o_lalike 30 2) (.int .i64 x.of_) (exec_ld 3 (.tmp 34) p 4 Try.underlying3 (rc (h42) (RAct.c_4 _))) ?_
  refine ps_c (o_lalike 30 3) 11 #[pT r 0, .int .i64 x.of_] Try.func11 (((show Calls Try.prog 11 #[pT r 0, .int .i64 x.of_] V39 (fun e w' => e = .returned (.tuple #[.agg (Pro.c ((B.V x.of_).getD zPro)), .bool bb]) ∧ Keeps Nob V39 w') from (by have h := qBlock_ok r v A B x.of_ _ (T.keepsN K44).rec_; rw [hbb] at h; exact h))).mono ?_)
  rintro e V45 ⟨rfl, kV45⟩
  refine ⟨_, rfl, ?_⟩
  have h46 := kV45.bk h41
  have h47 := kV45.bk h42
  have h48 := kV45.bk h43
  have h49 := kV45.bk h40
  have K50 := K44.nn kV45
  refine ps_k (o_lalike 30 4) (.tuple #[.agg (Pro.c ((B.V x.of_).getD zPro)), .bool bb]) ?_
  refine ps_k (o_lalike 30 5) (.agg (Pro.c ((B.V x.of_).getD zPro))) ?_
  refine ps_k (o_lalike 30 6) (.bool bb) ?_
  obtain ⟨V51, eV51, z3, ez3, h52, kV51⟩ := alloc_step V45 (#[.int .i64 0, .int .i64 0, .int .u8 0, .int .u8 0, .int .u8 0, .int .u8 0, .int .u8 0, .int .u8 0, .int .u8 0, .int .u8 0, .int .u8 0, .int .u8 0, .int .u8 0, .int .u8 0, .int .u8 0, .int .u8 0, .int .u8 0, .int .u8 0, .int .u8 0, .int .u8 0, .int .u8 0, .int .u8 0, .int .u8 0, .int .u8 0, .int .u8 0, .int .u8 0, .int .u8 0, .int .u8 0, .int .u8 0, .int .u8 0, .int .u8 0, .int .u8 0, .int .u8 0, .int .u8 0, .int .u64 0]) 35
  have n53 : q < z3 := ez3 ▸ lt_of_block h46
  have n54 : p < z3 := ez3 ▸ lt_of_block h47
  have n55 : z1 < z3 := ez3 ▸ lt_of_block h48
  have n56 : z2 < z3 := ez3 ▸ lt_of_block h49
  have n57 : w.heap.size ≤ z3 := ez3 ▸ K50.size
  refine ps_r (o_lalike 30 7) (pT z3 0) (w' := V51) (by rw [← eV51, ← ez3]; exact exec_alloc0 35 (by kernel_rfl) (.agg (#[.int .i64 0, .int .i64 0, .int .u8 0, .int .u8 0, .int .u8 0, .int .u8 0, .int .u8 0, .int .u8 0, .int .u8 0, .int .u8 0, .int .u8 0, .int .u8 0, .int .u8 0, .int .u8 0, .int .u8 0, .int .u8 0, .int .u8 0, .int .u8 0, .int .u8 0, .int .u8 0, .int .u8 0, .int .u8 0, .int .u8 0, .int .u8 0, .int .u8 0, .int .u8 0, .int .u8 0, .int .u8 0, .int .u8 0, .int .u8 0, .int .u8 0, .int .u8 0, .int .u8 0, .int .u8 0, .int .u64 0])) (by kernel_rfl)) ?_
  clear eV51
  have h58 := kV51.bk h46
  have h59 := kV51.bk h47
  have h60 := kV51.bk h48
  have h61 := kV51.bk h49
  have K62 := K50.nn kV51
  obtain ⟨V63, eV63, kV63⟩ := rowset_step V51 z3 ((Pro.c ((B.V x.of_).getD zPro)))
  have h64 : V63.heap[z3]? = some (.cells (Pro.c ((B.V x.of_).getD zPro)) 35 (0, 0)) := eV63 ▸ setRow_heap _ _ _ _ _ _ h52
  refine ps_s (o_lalike 30 8) (w' := V63) (by rw [← eV63]; exact exec_store_row 35 (.tmp 11) (.tmp 37) (by kernel_rfl) z3 ((Pro.c ((B.V x.of_).getD zPro))) (by kernel_rfl) (by kernel_rfl) 35 (#[.int .i64 0, .int .i64 0, .int .u8 0, .int .u8 0, .int .u8 0, .int .u8 0, .int .u8 0, .int .u8 0, .int .u8 0, .int .u8 0, .int .u8 0, .int .u8 0, .int .u8 0, .int .u8 0, .int .u8 0, .int .u8 0, .int .u8 0, .int .u8 0, .int .u8 0, .int .u8 0, .int .u8 0, .int .u8 0, .int .u8 0, .int .u8 0, .int .u8 0, .int .u8 0, .int .u8 0, .int .u8 0, .int .u8 0, .int .u8 0, .int .u8 0, .int .u8 0, .int .u8 0, .int .u8 0, .int .u64 0]) h52 (by rw [Pro.c_size _ hob.r]; kernel_rfl) (by rw [Pro.c_size _ hob.r]; rfl) (Pro.c_one _)) ?_
  clear eV63
  have h65 := kV63.bo h58 (by omega)
  have h66 := kV63.bo h59 (by omega)
  have h67 := kV63.bo h60 (by omega)
  have h68 := kV63.bo h61 (by omega)
  have K69 := K62.no kV63 (by omega)
  refine ps_k (o_lalike 30 9) (.bool bb) ?_
  refine ps_end ?_
  refine sy_a ⟨#[pT r 0, pT q 0, .agg (RAct.c x), undef, undef, pT p 0, .bool false, pT z1 0, .bool ba, pT z2 0, .bool ba, pT z3 0, .bool bb, undef, undef, undef, undef, undef, .tuple #[.agg (Att.c ((A.V x.at_).getD zAtt)), .bool ba], pT r 0, pT p 3, .int .i64 x.at_, .tuple #[.agg (Att.c ((A.V x.at_).getD zAtt)), .bool ba], .agg (Att.c ((A.V x.at_).getD zAtt)), .bool ba, .tuple #[.agg (Att.c ((A.V x.at_).getD zAtt)), .bool ba], pT q 0, pT p 3, .int .i64 x.at_, .tuple #[.agg (Att.c ((A.V x.at_).getD zAtt)), .bool ba], .agg (Att.c ((A.V x.at_).getD zAtt)), .bool ba, .tuple #[.agg (Pro.c ((B.V x.of_).getD zPro)), .bool bb], pT r 0, pT p 4, .int .i64 x.of_, .tuple #[.agg (Pro.c ((B.V x.of_).getD zPro)), .bool bb], .agg (Pro.c ((B.V x.of_).getD zPro)), .bool bb, undef, undef, undef, undef, undef, undef, undef, undef, undef, undef, undef, undef, undef, undef, undef, undef, undef, undef, undef, undef, undef, undef, undef, undef, undef, undef, undef, undef, undef, undef, undef, undef, undef, undef, undef, undef, undef, undef, undef, undef, undef, undef, undef, undef, undef, undef, undef, undef, undef, undef, undef, undef, undef, undef, undef, undef, undef, undef, undef, undef, undef, undef, undef, undef], []⟩ ?_
  refine then_n ?_
  refine sy_sq (part_lalike 62) (part_lalike 63) ?_
  refine sy_reg ?_
  refine rg_plain 4 (opsAt (part_lalike 62)) [0, 1, 2, 3, 4, 5, 6, 7, 8, 9] (by kernel_rfl) (by kernel_rfl) ?_
  refine ps_k (o_lalike 62 0) (pT q 0) ?_
  refine ps_k (o_lalike 62 1) (pT p 4) ?_
  refine ps_p (o_lalike 62 2) (.int .i64 x.of_) (exec_ld 3 (.tmp 41) p 4 Try.underlying3 (rc (h66) (RAct.c_4 _))) ?_
  refine ps_c (o_lalike 62 3) 51 #[pT q 0, .int .i64 x.of_] Try.func51 (((show Calls Try.prog 51 #[pT q 0, .int .i64 x.of_] V63 (fun e w' => e = .returned (.tuple #[.agg (Pro.c ((B.V x.of_).getD zPro)), .bool bb]) ∧ Keeps Nob V63 w') from (by have h := qrBlock_ok q w0.heap.size d x.of_ _ (T.keepsN K69).ref; rw [hfb, hbb] at h; exact h))).mono ?_)
  rintro e V70 ⟨rfl, kV70⟩
  refine ⟨_, rfl, ?_⟩
  have h71 := kV70.bk h65
  have h72 := kV70.bk h66
  have h73 := kV70.bk h67
  have h74 := kV70.bk h68
  have h75 := kV70.bk h64
  have K76 := K69.nn kV70
  refine ps_k (o_lalike 62 4) (.tuple #[.agg (Pro.c ((B.V x.of_).getD zPro)), .bool bb]) ?_
  refine ps_k (o_lalike 62 5) (.agg (Pro.c ((B.V x.of_).getD zPro))) ?_
  refine ps_k (o_lalike 62 6) (.bool bb) ?_
  obtain ⟨V77, eV77, z4, ez4, h78, kV77⟩ := alloc_step V70 (#[.int .i64 0, .int .i64 0, .int .u8 0, .int .u8 0, .int .u8 0, .int .u8 0, .int .u8 0, .int .u8 0, .int .u8 0, .int .u8 0, .int .u8 0, .int .u8 0, .int .u8 0, .int .u8 0, .int .u8 0, .int .u8 0, .int .u8 0, .int .u8 0, .int .u8 0, .int .u8 0, .int .u8 0, .int .u8 0, .int .u8 0, .int .u8 0, .int .u8 0, .int .u8 0, .int .u8 0, .int .u8 0, .int .u8 0, .int .u8 0, .int .u8 0, .int .u8 0, .int .u8 0, .int .u8 0, .int .u64 0]) 35
  have n79 : q < z4 := ez4 ▸ lt_of_block h71
  have n80 : p < z4 := ez4 ▸ lt_of_block h72
  have n81 : z1 < z4 := ez4 ▸ lt_of_block h73
  have n82 : z2 < z4 := ez4 ▸ lt_of_block h74
  have n83 : z3 < z4 := ez4 ▸ lt_of_block h75
  have n84 : w.heap.size ≤ z4 := ez4 ▸ K76.size
  refine ps_r (o_lalike 62 7) (pT z4 0) (w' := V77) (by rw [← eV77, ← ez4]; exact exec_alloc0 35 (by kernel_rfl) (.agg (#[.int .i64 0, .int .i64 0, .int .u8 0, .int .u8 0, .int .u8 0, .int .u8 0, .int .u8 0, .int .u8 0, .int .u8 0, .int .u8 0, .int .u8 0, .int .u8 0, .int .u8 0, .int .u8 0, .int .u8 0, .int .u8 0, .int .u8 0, .int .u8 0, .int .u8 0, .int .u8 0, .int .u8 0, .int .u8 0, .int .u8 0, .int .u8 0, .int .u8 0, .int .u8 0, .int .u8 0, .int .u8 0, .int .u8 0, .int .u8 0, .int .u8 0, .int .u8 0, .int .u8 0, .int .u8 0, .int .u64 0])) (by kernel_rfl)) ?_
  clear eV77
  have h85 := kV77.bk h71
  have h86 := kV77.bk h72
  have h87 := kV77.bk h73
  have h88 := kV77.bk h74
  have h89 := kV77.bk h75
  have K90 := K76.nn kV77
  obtain ⟨V91, eV91, kV91⟩ := rowset_step V77 z4 ((Pro.c ((B.V x.of_).getD zPro)))
  have h92 : V91.heap[z4]? = some (.cells (Pro.c ((B.V x.of_).getD zPro)) 35 (0, 0)) := eV91 ▸ setRow_heap _ _ _ _ _ _ h78
  refine ps_s (o_lalike 62 8) (w' := V91) (by rw [← eV91]; exact exec_store_row 35 (.tmp 13) (.tmp 44) (by kernel_rfl) z4 ((Pro.c ((B.V x.of_).getD zPro))) (by kernel_rfl) (by kernel_rfl) 35 (#[.int .i64 0, .int .i64 0, .int .u8 0, .int .u8 0, .int .u8 0, .int .u8 0, .int .u8 0, .int .u8 0, .int .u8 0, .int .u8 0, .int .u8 0, .int .u8 0, .int .u8 0, .int .u8 0, .int .u8 0, .int .u8 0, .int .u8 0, .int .u8 0, .int .u8 0, .int .u8 0, .int .u8 0, .int .u8 0, .int .u8 0, .int .u8 0, .int .u8 0, .int .u8 0, .int .u8 0, .int .u8 0, .int .u8 0, .int .u8 0, .int .u8 0, .int .u8 0, .int .u8 0, .int .u8 0, .int .u64 0]) h78 (by rw [Pro.c_size _ hob.r]; kernel_rfl) (by rw [Pro.c_size _ hob.r]; rfl) (Pro.c_one _)) ?_
  clear eV91
  have h93 := kV91.bo h85 (by omega)
  have h94 := kV91.bo h86 (by omega)
  have h95 := kV91.bo h87 (by omega)
  have h96 := kV91.bo h88 (by omega)
  have h97 := kV91.bo h89 (by omega)
  have K98 := K90.no kV91 (by omega)
  refine ps_k (o_lalike 62 9) (.bool bb) ?_
  refine ps_end ?_
  refine then_n ?_
  refine sy_sq (part_lalike 126) (part_lalike 127) ?_
  refine sy_reg ?_
  refine rg_plain 5 (opsAt (part_lalike 126)) [0, 1, 2, 3, 4, 5] (by kernel_rfl) (by kernel_rfl) ?_
  refine ps_k (o_lalike 126 0) (pT r 0) ?_
  refine ps_c (o_lalike 126 1) 24 #[pT r 0] Try.func24 ((qAll_ok r v A B _ (T.keepsN K98).rec_).mono ?_)
  rintro e V99 ⟨va, rfl, hva, nva, kV99⟩
  have nwa : NewFrom w.heap.size va := fun j hj => Nat.le_trans K98.size (nva j hj)
  refine ⟨_, rfl, ?_⟩
  have h101 := kV99.bk h93
  have h102 := kV99.bk h94
  have h103 := kV99.bk h95
  have h104 := kV99.bk h96
  have h105 := kV99.bk h97
  have h106 := kV99.bk h92
  have K107 := K98.nn kV99
  refine ps_k (o_lalike 126 2) (pT r 0) ?_
  refine ps_c (o_lalike 126 3) 25 #[pT r 0] Try.func25 ((qBlocks_ok r v A B _ (T.keepsN K107).rec_).mono ?_)
  rintro e V108 ⟨vb, rfl, hvb, nvb, kV108⟩
  have nwb : NewFrom w.heap.size vb := fun j hj => Nat.le_trans K107.size (nvb j hj)
  refine ⟨_, rfl, ?_⟩
  have h110 := kV108.bk h101
  have h111 := kV108.bk h102
  have h112 := kV108.bk h103
  have h113 := kV108.bk h104
  have h114 := kV108.bk h105
  have h115 := kV108.bk h106
  have h116 : Row V108 28 36 va (items A.V A.low A.n).length ((items A.V A.low A.n).flatMap Att.cl) := (hva).keeps kV108 (fun _ _ x => x)
  have K117 := K107.nn kV108
  refine ps_k (o_lalike 126 4) (va) ?_
  refine ps_k (o_lalike 126 5) (vb) ?_
  refine ps_end ?_
  refine then_n ?_
  refine sy_sq (part_lalike 254) (part_lalike 255) ?_
  refine sy_reg ?_
  refine rg_plain 6 (opsAt (part_lalike 254)) [0, 1, 2, 3, 4, 5, 6, 7, 8, 9, 10, 11, 12, 13, 14, 15, 16, 17, 18, 19, 20, 21, 22, 23, 24, 25, 26, 27, 28, 29, 30, 31, 32, 33, 34, 35, 36, 37, 38, 39, 40, 41, 42, 43, 44, 45, 46, 47, 48] (by kernel_rfl) (by kernel_rfl) ?_
  refine ps_p (o_lalike 254 0) (.agg (Att.c ((A.V x.at_).getD zAtt))) (exec_load_row 28 (.tmp 7) (by kernel_rfl) z1 (by kernel_rfl) _ _ (0, 0) _ (h112) Try.underlying28 rfl (by rw [Att.c_size _ hoa.r]; kernel_rfl)) ?_
  refine ps_p (o_lalike 254 1) (.agg (Att.c ((A.V x.at_).getD zAtt))) (exec_load_row 28 (.tmp 9) (by kernel_rfl) z2 (by kernel_rfl) _ _ (0, 0) _ (h113) Try.underlying28 rfl (by rw [Att.c_size _ hoa.r]; kernel_rfl)) ?_
  refine ps_p (o_lalike 254 2) (.bool true) (exec_cast (congrArg Value.bool (decide_eq_true rfl)) (exec_binop .eql 28 28 (.tmp 50) (.tmp 51) (by kernel_rfl) (.agg (Att.c ((A.V x.at_).getD zAtt))) (.agg (Att.c ((A.V x.at_).getD zAtt))) _ (by kernel_rfl) (by kernel_rfl) (run_eqGuard_agg _ _ _ _ _ _ _ att_guard) (att_eq _ _ hoa.r hoa.r _))) ?_
  refine ps_k (o_lalike 254 3) (.bool true) ?_
  refine ps_k (o_lalike 254 4) (.bool ba) ?_
  refine ps_k (o_lalike 254 5) (.bool ba) ?_
  refine ps_p (o_lalike 254 6) (.bool true) (exec_cast (congrArg Value.bool (show (ba == ba) = true by simp)) (by kernel_rfl)) ?_
  refine ps_k (o_lalike 254 7) (.bool true) ?_
  refine ps_k (o_lalike 254 8) (.bool true) ?_
  refine ps_p (o_lalike 254 9) (.agg (Pro.c ((B.V x.of_).getD zPro))) (exec_load_row 35 (.tmp 11) (by kernel_rfl) z3 (by kernel_rfl) _ _ (0, 0) _ (h114) Try.underlying35 rfl (by rw [Pro.c_size _ hob.r]; kernel_rfl)) ?_
  refine ps_p (o_lalike 254 10) (.agg (Pro.c ((B.V x.of_).getD zPro))) (exec_load_row 35 (.tmp 13) (by kernel_rfl) z4 (by kernel_rfl) _ _ (0, 0) _ (h115) Try.underlying35 rfl (by rw [Pro.c_size _ hob.r]; kernel_rfl)) ?_
  refine ps_p (o_lalike 254 11) (.bool true) (exec_cast (congrArg Value.bool (decide_eq_true rfl)) (exec_binop .eql 35 35 (.tmp 59) (.tmp 60) (by kernel_rfl) (.agg (Pro.c ((B.V x.of_).getD zPro))) (.agg (Pro.c ((B.V x.of_).getD zPro))) _ (by kernel_rfl) (by kernel_rfl) (run_eqGuard_agg _ _ _ _ _ _ _ pro_guard) (pro_eq _ _ hob.r hob.r _))) ?_
  refine ps_k (o_lalike 254 12) (.bool true) ?_
  refine ps_k (o_lalike 254 13) (.bool true) ?_
  refine ps_k (o_lalike 254 14) (.bool bb) ?_
  refine ps_k (o_lalike 254 15) (.bool bb) ?_
  refine ps_p (o_lalike 254 16) (.bool true) (exec_cast (congrArg Value.bool (show (bb == bb) = true by simp)) (by kernel_rfl)) ?_
  refine ps_k (o_lalike 254 17) (.bool true) ?_
  refine ps_k (o_lalike 254 18) (.bool true) ?_
  refine ps_k (o_lalike 254 19) (va) ?_
  refine ps_k (o_lalike 254 20) (pT q 0) ?_
  refine ps_k (o_lalike 254 21) (pT q 0) ?_
  refine ps_k (o_lalike 254 22) (pT q 5) ?_
  refine ps_p (o_lalike 254 23) (xa) (exec_ld 59 (.tmp 72) q 5 Try.underlying59 (rc (h110) (by kernel_rfl))) ?_
  refine ps_c (o_lalike 254 24) 27 #[va, xa] Try.func27 (((show Calls Try.prog 27 #[va, xa] V108 (fun e w' => e = .returned (.bool true) ∧ Keeps Nob V108 w') from (by have h := kSameVotes_ok va xa _ _ _ (Row.sl h116 rfl (fun y hy => Att.cl_len (oia y hy))) (sxa.keepsN K117) oia hoda; rw [decide_eq_true hda] at h; exact h))).mono ?_)
  rintro e V118 ⟨rfl, kV118⟩
  refine ⟨_, rfl, ?_⟩
  have h119 := kV118.bk h110
  have h120 := kV118.bk h111
  have h121 := kV118.bk h112
  have h122 := kV118.bk h113
  have h123 := kV118.bk h114
  have h124 := kV118.bk h115
  have h125 : Row V118 28 36 va (items A.V A.low A.n).length ((items A.V A.low A.n).flatMap Att.cl) := (h116).keeps kV118 (fun _ _ x => x)
  have h126 : Row V118 35 35 vb (items B.V B.low B.n).length ((items B.V B.low B.n).flatMap Pro.cl) := (hvb).keeps kV118 (fun _ _ x => x)
  have K127 := K117.nn kV118
  refine ps_k (o_lalike 254 25) (.bool true) ?_
  refine ps_k (o_lalike 254 26) (.bool true) ?_
  refine ps_k (o_lalike 254 27) (vb) ?_
  refine ps_k (o_lalike 254 28) (pT q 0) ?_
  refine ps_k (o_lalike 254 29) (pT q 0) ?_
  refine ps_k (o_lalike 254 30) (pT q 6) ?_
  refine ps_p (o_lalike 254 31) (xb) (exec_ld 61 (.tmp 80) q 6 Try.underlying61 (rc (h119) (by kernel_rfl))) ?_
  refine ps_c (o_lalike 254 32) 28 #[vb, xb] Try.func28 (((show Calls Try.prog 28 #[vb, xb] V118 (fun e w' => e = .returned (.bool true) ∧ Keeps Nob V118 w') from (by have h := kSameBlocks_ok vb xb _ _ _ (Row.sl h126 rfl (fun y hy => Pro.cl_len (oib y hy))) (sxb.keepsN K127) oib hodb; rw [decide_eq_true hdb] at h; exact h))).mono ?_)
  rintro e V128 ⟨rfl, kV128⟩
  refine ⟨_, rfl, ?_⟩
  have h129 := kV128.bk h119
  have h130 := kV128.bk h120
  have h131 := kV128.bk h121
  have h132 := kV128.bk h122
  have h133 := kV128.bk h123
  have h134 := kV128.bk h124
  have h135 : Row V128 28 36 va (items A.V A.low A.n).length ((items A.V A.low A.n).flatMap Att.cl) := (h125).keeps kV128 (fun _ _ x => x)
  have h136 : Row V128 35 35 vb (items B.V B.low B.n).length ((items B.V B.low B.n).flatMap Pro.cl) := (h126).keeps kV128 (fun _ _ x => x)
  have K137 := K127.nn kV128
  refine ps_k (o_lalike 254 33) (.bool true) ?_
  refine ps_k (o_lalike 254 34) (.bool true) ?_
  refine ps_k (o_lalike 254 35) (pT r 0) ?_
  refine ps_c (o_lalike 254 36) 15 #[pT r 0] Try.func15 ((qLow_ok r v A B _ (T.keepsN K137).rec_).mono ?_)
  rintro e w1 ⟨rfl, rfl⟩
  refine ⟨_, rfl, ?_⟩
  refine ps_k (o_lalike 254 37) (pT q 0) ?_
  refine ps_c (o_lalike 254 38) 52 #[pT q 0] Try.func52 ((qrLow_ok q w0.heap.size d _ (T.keepsN K137).ref).mono ?_)
  rintro e w1 ⟨rfl, rfl⟩
  refine ⟨_, rfl, ?_⟩
  refine ps_p (o_lalike 254 39) (.bool true) (eqt (((A.low : Nat) : Int)) ((d.l) : Int) (by omega)) ?_
  refine ps_k (o_lalike 254 40) (.bool true) ?_
  refine ps_k (o_lalike 254 41) (.bool true) ?_
  refine ps_k (o_lalike 254 42) (pT r 0) ?_
  refine ps_c (o_lalike 254 43) 16 #[pT r 0] Try.func16 ((qFloor_ok r v A B _ (T.keepsN K137).rec_).mono ?_)
  rintro e w1 ⟨rfl, rfl⟩
  refine ⟨_, rfl, ?_⟩
  refine ps_k (o_lalike 254 44) (pT q 0) ?_
  refine ps_c (o_lalike 254 45) 53 #[pT q 0] Try.func53 ((qrFloor_ok q w0.heap.size d _ (T.keepsN K137).ref).mono ?_)
  rintro e w1 ⟨rfl, rfl⟩
  refine ⟨_, rfl, ?_⟩
  refine ps_p (o_lalike 254 46) (.bool true) (eqt (((B.low : Nat) : Int)) ((d.f) : Int) (by omega)) ?_
  refine ps_k (o_lalike 254 47) (.bool true) ?_
  refine ps_k (o_lalike 254 48) (.bool true) ?_
  refine ps_end ?_
  refine sy_a ⟨#[pT r 0, pT q 0, .agg (RAct.c x), undef, undef, pT p 0, .bool false, pT z1 0, .bool ba, pT z2 0, .bool ba, pT z3 0, .bool bb, pT z4 0, .bool bb, va, vb, .bool true, .tuple #[.agg (Att.c ((A.V x.at_).getD zAtt)), .bool ba], pT r 0, pT p 3, .int .i64 x.at_, .tuple #[.agg (Att.c ((A.V x.at_).getD zAtt)), .bool ba], .agg (Att.c ((A.V x.at_).getD zAtt)), .bool ba, .tuple #[.agg (Att.c ((A.V x.at_).getD zAtt)), .bool ba], pT q 0, pT p 3, .int .i64 x.at_, .tuple #[.agg (Att.c ((A.V x.at_).getD zAtt)), .bool ba], .agg (Att.c ((A.V x.at_).getD zAtt)), .bool ba, .tuple #[.agg (Pro.c ((B.V x.of_).getD zPro)), .bool bb], pT r 0, pT p 4, .int .i64 x.of_, .tuple #[.agg (Pro.c ((B.V x.of_).getD zPro)), .bool bb], .agg (Pro.c ((B.V x.of_).getD zPro)), .bool bb, .tuple #[.agg (Pro.c ((B.V x.of_).getD zPro)), .bool bb], pT q 0, pT p 4, .int .i64 x.of_, .tuple #[.agg (Pro.c ((B.V x.of_).getD zPro)), .bool bb], .agg (Pro.c ((B.V x.of_).getD zPro)), .bool bb, pT r 0, va, pT r 0, vb, .agg (Att.c ((A.V x.at_).getD zAtt)), .agg (Att.c ((A.V x.at_).getD zAtt)), .bool true, .bool true, .bool ba, .bool ba, .bool true, .bool true, .bool true, .agg (Pro.c ((B.V x.of_).getD zPro)), .agg (Pro.c ((B.V x.of_).getD zPro)), .bool true, .bool true, .bool true, .bool bb, .bool bb, .bool true, .bool true, .bool true, va, pT q 0, pT q 0, pT q 5, xa, .bool true, .bool true, .bool true, vb, pT q 0, pT q 0, pT q 6, xb, .bool true, .bool true, .bool true, pT r 0, iN A.low, pT q 0, .int .i64 d.l, .bool true, .bool true, .bool true, pT r 0, iN B.low, pT q 0, .int .i64 d.f, .bool true, .bool true, undef, undef, undef, undef, undef], []⟩ ?_
  refine then_n ?_
  refine sy_sq (part_lalike 510) (part_lalike 511) ?_
  refine sy_reg ?_
  refine rg_plain 7 (opsAt (part_lalike 510)) [0, 1] (by kernel_rfl) (by kernel_rfl) ?_
  refine ps_k (o_lalike 510 0) (va) ?_
  refine ps_c (o_lalike 510 1) 54 #[va] Try.func54 ((kOverVotes_ok va _ _ _ h135 (by omega)).mono ?_)
  rintro e V138 ⟨rfl, kV138⟩
  refine ⟨_, rfl, ?_⟩
  have h139 : Row V138 35 35 vb (items B.V B.low B.n).length ((items B.V B.low B.n).flatMap Pro.cl) := (h136).keeps kV138 (Row.apart h136 h135 (by decide))
  have K140 : Keeps Nob w V138 := K137.then kV138 (fun i hi hm => absurd hi (by have := nwa i hm; omega))
  refine ps_end ?_
  refine then_n ?_
  refine sy_sq (part_lalike 1022) (part_lalike 1023) ?_
  refine sy_reg ?_
  refine rg_plain 8 (opsAt (part_lalike 1022)) [0, 1] (by kernel_rfl) (by kernel_rfl) ?_
  refine ps_k (o_lalike 1022 0) (vb) ?_
  refine ps_c (o_lalike 1022 1) 55 #[vb] Try.func55 ((kOverBlocks_ok vb _ _ _ h139 (by omega)).mono ?_)
  rintro e V141 ⟨rfl, kV141⟩
  refine ⟨_, rfl, ?_⟩
  have K142 : Keeps Nob w V141 := K140.then kV141 (fun i hi hm => absurd hi (by have := nwb i hm; omega))
  refine ps_end ?_
  refine then_n ?_
  refine sy_sq (part_lalike 2046) (part_lalike 2047) ?_
  refine sy_reg ?_
  refine rg_plain 9 (opsAt (part_lalike 2046)) [0, 1] (by kernel_rfl) (by kernel_rfl) ?_
  refine ps_k (o_lalike 2046 0) (.bool true) ?_
  refine ps_k (o_lalike 2046 1) (.bool true) ?_
  refine ps_end ?_
  refine then_n ?_
  refine sy_ret (by kernel_rfl) ?_
  refine sy_out (.bool true) rfl (by kernel_rfl) ?_
  exact ⟨rfl, K142⟩
end Go.Proofs.Ytgipooedgbbliaa
