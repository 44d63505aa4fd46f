/-
  DetectFinds proved: for every input the law returns true, and each argument reads as it did. Conditions: none.
-/
import Derived.Test.YthmclmbeflbhhaaGreatDetectFindsP6
set_option maxRecDepth 100000
set_option maxHeartbeats 4000000
namespace Go.Proofs.YthmclmbeflbhhaaGreat
section
open Go Go.RowKit Go.Own Go.Shelf
theorem known_ok (w : World) : Calls Tryz.prog 3 #[] w fun e w' => e = .returned (.bool true) ∧ Keeps Nob w w' := known_all w
theorem clear_is {B d : Nat} {p : Par} {h : Int} {A : List Att} {Q : List Pro} {w : World} (D0 : Det1 B w d p h A Q) (n : NoSur A) (v : Int) : Calls Tryz.prog 32 #[pT d 0, .int .i64 v] w fun e w' => e = .returned (.bool true) ∧ Keeps Nob w w' :=
 ltclear_ok B d p h A Q v w D0 _ rfl _ rfl (fun x hx => (D0.inv.a x (mem_votes.1 hx).1).1) (fun x hx => (D0.inv.q x (mem_blocks.1 hx).1).1) (clear_of D0.inv n v)
theorem dfirst_is {p : Par} {e f : Int} (hp : p.Ok) (he : i64ok e) (hf : (p.first e).1 = f) (w : World) : Calls Tryz.prog 29 #[.agg p.cells, .int .i64 e] w fun x w' => x = .returned (.tuple #[.int .i64 f, .int .i64 (p.first e).2]) ∧ Keeps Nob w w' := hf ▸ pFirst_ok p hp e he w
theorem rowOk {p : Par} {h : Int} {A : List Att} {Q : List Pro} (i : DInv p h A Q) (v : Int) : ∀ x ∈ votesOf p h A v, x.Ok := fun x hx => (i.a x (mem_votes.1 hx).1).1
theorem rowOkB {p : Par} {h : Int} {A : List Att} {Q : List Pro} (i : DInv p h A Q) (v : Int) : ∀ x ∈ blocksOf p h Q v, x.Ok := fun x hx => (i.q x (mem_blocks.1 hx).1).1
noncomputable def qc127_0 (n : Nat) : Code := partOf Tryz.f5 n
theorem finds_all (ep : Int) (hep : i64b ep) (wn : Int) (hwn : i64b wn) (lv : Value) (l : List DAct) (w : World) (hl : Sl w 73 DAct.cl lv l ∧ ∀ x ∈ l, x.Ok) :
  Calls Tryz.prog 5 #[.int .i64 ep, .int .i64 wn, lv] w (fun e w' => e = .returned (.bool true) ∧ Keeps Nob w w') := by
 have t0 := Turns.refl w.heap.size w
 obtain ⟨hs, hok⟩ := hl
 have hll := hs.len_le
 obtain ⟨ne, hne⟩ : ∃ y, ep % 3 = y := ⟨_, rfl⟩
 have bne : 0 ≤ ne ∧ ne < 3 := ⟨hne ▸ Int.emod_nonneg _ (by omega), hne ▸ Int.emod_lt_of_pos _ (by omega)⟩
 obtain ⟨nw, hnw⟩ : ∃ y, wn % 6 = y := ⟨_, rfl⟩
 have bnw : 0 ≤ nw ∧ nw < 6 := ⟨hnw ▸ Int.emod_nonneg _ (by omega), hnw ▸ Int.emod_lt_of_pos _ (by omega)⟩
 have hpc : (ofP (1 + ne) (1 + nw)).check = (0, 0) := ofP_check bne.1 bne.2 bnw.1 bnw.2
 have hpo : Par.Ok (ofP (1 + ne) (1 + nw)) := ofP_ok (by unfold i64ok; omega) (by unfold i64ok; omega)
 have K0 : Keeps ((fun j => w.heap.size ≤ j)) w w := Keeps.refl _ _
 refine se_ (qc127_0 1) ⟨fr [.int .i64 ep, .int .i64 wn, lv] 173, []⟩ Tryz.func5 <| qr_ [0] <| kk 1 <| eqr_ [0, 1] ?_
 refine pcr 3 #[] Tryz.func3 (known_ok _) fun V1 kV1 => ?_
 have h2 := Turns.nn t0 kV1
 have K3 := K0.nn kV1
 have z4 := kV1.size
 refine kk 1 <| eq_ <| q_ ?_
 by_cases h40 : l.length > 40
 ·refine r_ [0, 1, 2] <| kk 1 <| ppq (iN l.length) (exec_len_sl (.tmp 24) 49 54 (by kernel_rfl) Tryz.underlying49 (by kernel_rfl) (hs.keeps K3 (fun j _ hl hm => by omega))) <| ppq _ (dct ((((l.length : Nat) : Int)) > ((40) : Int)) (by omega)) <| ey_ <| qr_ [0, 1] <| kk 2 <| eu_ <| then_r <| so_ (.bool true) ?_
  exact ⟨rfl, h2.keeps (Keeps.refl Nob w) (Nat.le_refl _)⟩
 ·refine r_ [0, 1, 2] <| kk 1 <| ppq (iN l.length) (exec_len_sl (.tmp 24) 49 54 (by kernel_rfl) Tryz.underlying49 (by kernel_rfl) (hs.keeps K3 (fun j _ hl hm => by omega))) <| ppq _ (dcf ((((l.length : Nat) : Int)) > ((40) : Int)) (by omega)) <| en_ <| s_ <| tqr_ nl9_ <| kk 1 ?_
  refine pcq 22 #[.int .i64 ep, .int .i64 3] Tryz.func22 ((pick_as ep 3 ne _ hep (by omega) (by omega) hne).mono ?_)
  rintro e w1 ⟨rfl, rfl⟩
  refine ⟨_, rfl, ?_⟩
  refine ppq _ (cwI (x := 1 + ne)) <| kk 1 ?_
  refine pcq 22 #[.int .i64 wn, .int .i64 6] Tryz.func22 ((pick_as wn 6 nw _ hwn (by omega) (by omega) hnw).mono ?_)
  rintro e w1 ⟨rfl, rfl⟩
  refine ⟨_, rfl, ?_⟩
  refine ppq _ (cwI (x := 1 + nw)) ?_
  refine pcr 21 #[.int .i64 (1 + ne), .int .i64 (1 + nw)] Tryz.func21 (ltof_ok (1 + ne) (1 + nw) _) fun V5 kV5 => ?_
  have h6 := Turns.nn h2 kV5
  have K7 := K3.nn kV5
  have z8 := kV5.size
  refine pal 47 (#[.int .i64 0, .int .i64 0, .int .i64 0, .int .i64 0, .int .i64 0, .int .i64 0, .int .i64 0, .int .u64 0, .int .u64 0, .int .i64 0, .int .u64 0]) (.agg (#[.int .i64 0, .int .i64 0, .int .i64 0, .int .i64 0, .int .i64 0, .int .i64 0, .int .i64 0, .int .u64 0, .int .u64 0, .int .i64 0, .int .u64 0])) fun V9 gp egp h10 kV9 => ?_
  have n11 := nk egp K7
  have h12 := Turns.nn h6 kV9
  have K13 := K7.nn kV9
  have z14 := kV9.size
  obtain ⟨V15, eV15, kV15⟩ := rowset_step V9 gp ((ofP (1 + ne) (1 + nw)).cells)
  have h16 : HP V15 gp (Par.cells (ofP (1 + ne) (1 + nw))) 47 := eV15 ▸ setRow_heap _ _ _ _ _ _ h10
  refine pzq (w' := V15) (by rw [← eV15]; exact exec_store_row 47 (.tmp 8) (.tmp 34) (by kernel_rfl) gp ((ofP (1 + ne) (1 + nw)).cells) (by kernel_rfl) (by kernel_rfl) 47 (#[.int .i64 0, .int .i64 0, .int .i64 0, .int .i64 0, .int .i64 0, .int .i64 0, .int .i64 0, .int .u64 0, .int .u64 0, .int .i64 0, .int .u64 0]) h10 (by kernel_rfl) (by kernel_rfl) (by kernel_rfl)) ?_
  clear eV15
  have h17 : Turns w.heap.size w V15 := Turns.no h12 kV15 (by omega)
  have K18 := K13.nO kV15
  have z19 := kV15.size
  refine eqr_ nl7_ <| ppq (.agg (ofP (1 + ne) (1 + nw)).cells) (exec_load_row 47 (.tmp 8) (by kernel_rfl) _ (by kernel_rfl) 47 (Par.cells (ofP (1 + ne) (1 + nw))) (0, 0) _ h16 Tryz.underlying47 rfl (by kernel_rfl)) ?_
  refine pcq 19 #[.agg (ofP (1 + ne) (1 + nw)).cells] Tryz.func19 ((det_new (ofP (1 + ne) (1 + nw)) hpo 0 hpc _).mono ?_)
  rintro e V20 ⟨d, rfl, hDV20, hdwV20, kV20⟩
  have hLV20 := hDV20.lower K18.size
  refine ⟨_, rfl, ?_⟩
  have h21 := Turns.nn h17 kV20
  have ⟨K23, z24, h22⟩ := kV20.z1 K18 h16
  refine kk 5 <| eq_ <| qr_ nl6_ <| kk 6 <| ps_end ?_
  refine then_n <| n_ <| s_ <| tq_ <| qr_ [0] <| kk 1 <| et_ <| bl_ 0 ?_
  refine sy_loop (qc127_0 2036) (fun a V => ∃ (i : Nat) (h : Int) (A : List Att) (Q : List Pro) (uu : Nat → Value), (a = ⟨fs [[.int .i64 ep, .int .i64 wn, lv, ud, ud, ud, uu 0, .bool true, pT gp 0, pT d 0, .int .i64 0, iN i], us uu 1 11, [.bool true, lv, iN l.length, .bool false, ud, .int .i64 ep, .int .i64 ne, .int .i64 (1 + ne), .int .i64 wn, .int .i64 nw, .int .i64 (1 + nw), .agg (ofP (1 + ne) (1 + nw)).cells, .tuple #[pT d 0, .int .i64 0], .agg (ofP (1 + ne) (1 + nw)).cells, .tuple #[pT d 0, .int .i64 0], pT d 0, .int .i64 0, .int .i64 0, .bool false, .bool false, pT d 0, .bool false, .bool false], us uu 12 129, [ud]], []⟩) ∧ (i ≤ l.length) ∧ (h ≤ 5000) ∧ (NoSur A) ∧ (Turns w.heap.size w V) ∧ (HP V gp (Par.cells (ofP (1 + ne) (1 + nw))) 47) ∧ (Det1 w.heap.size V d ((ofP (1 + ne) (1 + nw))) h A Q) ∧ (Keeps ((fun j => w.heap.size ≤ j)) w V)) (fun a _ => l.length - (intOf (a.tmps.getD 11 undef)).toNat) (by kernel_rfl) ?_ ?_
  ·exact ⟨0, 1, [], [], (kz_ [.bool false]), by kernel_rfl, Nat.zero_le _, by omega, (fun _ h => by cases h), h21, h22, hLV20, K23⟩
  ·rintro a V25 ⟨i, h, A, Q, uu, rfl, hi, hh5, hns, h26, h27, h28, K29⟩
   by_cases lt_i : i < l.length
   ·obtain ⟨x0, hx⟩ : ∃ x, l[i]? = some x := ⟨_, List.getElem?_eq_getElem lt_i⟩
    have hxo := hok x0 (List.mem_of_getElem? hx)
    obtain ⟨b_x, o_x, c_x, hv_x, hb_x, _⟩ := ((hs.keeps K29 (fun j _ hl hm => by omega))).at_ i _ hx
    have inv := h28.inv
    obtain ⟨x, hnear⟩ : ∃ x, nearAct (ofP (1 + ne) (1 + nw)) h x0 = x := ⟨_, rfl⟩
    obtain ⟨com, comq, bk, bmv, hx1⟩ := near_comes inv hxo
    rw [hnear] at com comq bk bmv hx1
    obtain ⟨hmv, bh5⟩ := bmv hh5
    have hh6 : fH h x ≤ 5000 := by unfold fH; split; exact hh5; split; exact hh5; rw [movH_is hmv]; exact bh5
    have hns2 : NoSur (fA (ofP (1 + ne) (1 + nw)) h A x) := fA_sur inv hns
    refine q_ <| qr_ [0, 1, 2, 3] <| kk 2 <| ppq (iN l.length) (exec_len_sl (.tmp 47) 49 54 (by kernel_rfl) Tryz.underlying49 (by kernel_rfl) (hs.keeps K29 (fun j _ hl hm => by omega))) <| ppq _ (dct ((((i : Nat) : Int)) < (((l.length : Nat) : Int))) (by omega)) <| ey_ <| s_ <| tq_ <| bl_ 1 <| q_ ?_
    refine sy_cut (fun aQ VQ => ∃ (gy : Nat), (aQ = ⟨fs [[.int .i64 ep, .int .i64 wn, lv, ud, ud, ud, uu 0, .bool true, pT gp 0, pT d 0, .int .i64 0, .int .i64 ((i : Nat) : Int), pT gy 0], us uu 2 10, [.bool true, lv, .int .i64 ((l.length : Nat) : Int), .bool false, ud, .int .i64 ep, .int .i64 ne, .int .i64 (1 + ne), .int .i64 wn, .int .i64 nw, .int .i64 (1 + nw), .agg (ofP (1 + ne) (1 + nw)).cells, .tuple #[pT d 0, .int .i64 0], .agg (ofP (1 + ne) (1 + nw)).cells, .tuple #[pT d 0, .int .i64 0], pT d 0, .int .i64 0, .int .i64 0, .bool false, .bool false, pT d 0, .bool false, .bool false, .int .i64 ((i : Nat) : Int), lv, .int .i64 ((l.length : Nat) : Int), .bool true, uu 16, uu 17, .agg (ofP (1 + ne) (1 + nw)).cells, pT d 0, lv, .int .i64 ((i : Nat) : Int), pT b_x (o_x + i * 73), .agg (DAct.c x0), .agg (DAct.c x)], us uu 25 116, [ud]], []⟩) ∧ (Turns w.heap.size w VQ) ∧ (HP VQ gp (Par.cells (ofP (1 + ne) (1 + nw))) 47) ∧ (Det1 w.heap.size VQ d ((ofP (1 + ne) (1 + nw))) h A Q) ∧ (HP VQ gy (DAct.c x) 54) ∧ (gy ≠ gp ∧ w.heap.size ≤ gy ∧ V25.heap.size ≤ gy) ∧ (Keeps ((fun j => w.heap.size ≤ j)) w VQ)) ?_ ?_
    ·refine sy_np <| sy_reg <| anb 9 (fun W => (HP W gp (Par.cells (ofP (1 + ne) (1 + nw))) 47) ∧ (Sl W 73 DAct.cl lv l)) #[false, false, false, false, false, false, false, false, false] ?_
     obtain ⟨V30, eV30, kV30⟩ := drew_step V25
     rw [eV30]
     clear eV30
     have h31 := Turns.nn h26 kV30
     have h32 := kV30.bk h27
     have kb33 := (Keeps.refl Nob V25).nn kV30
     have K34 := K29.nn kV30
     have z35 := kV30.size
     refine avq 0 (.agg (ofP (1 + ne) (1 + nw)).cells) (fun W hS => exec_load_row 47 (.tmp 8) (by kernel_rfl) _ (by kernel_rfl) 47 (Par.cells (ofP (1 + ne) (1 + nw))) (0, 0) _ hS.1 Tryz.underlying47 rfl (by kernel_rfl)) ⟨h32, (hs.keeps K34 (fun j _ hl hm => by omega))⟩ <| ka [1, 2, 3] ⟨h32, (hs.keeps K34 (fun j _ hl hm => by omega))⟩ <| avq 4 _ (fun W hS => ixs b_x o_x l.length c_x .i64 i 73 Tryz.underlying49 (by omega) (hx := Eq.trans (b := lv) (by kernel_rfl) hv_x)) ⟨h32, (hs.keeps K34 (fun j _ hl hm => by omega))⟩ <| avq 5 (.agg (DAct.c x0)) (fun W hS => exec_load_mid 54 (.tmp 56) (by kernel_rfl) b_x (o_x + i * 73) (by kernel_rfl) (DAct.cl x0) _ (Sl.range hS.2 hx hv_x) Tryz.underlying54 rfl (by rw [DAct.cl_len hxo]; kernel_rfl)) ⟨h32, (hs.keeps K34 (fun j _ hl hm => by omega))⟩ ?_
     refine an_two 6 7 (by kernel_rfl) ?_ ?_
     ·refine ncr 23 #[.agg (ofP (1 + ne) (1 + nw)).cells, pT d 0, .agg (DAct.c x0)] Tryz.func23 ((hnear ▸ ltnear_ok _ d _ _ _ _ x0 _ (h28.keepsN kb33) hxo)) fun V36 kV36 => ?_
      have h37 := Turns.nn h31 kV36
      have h38 := kV36.bk h32
      have kb39 := kb33.nn kV36
      have K40 := K34.nn kV36
      have z41 := kV36.size
      refine ⟨⟨h38, (hs.keeps K40 (fun j _ hl hm => by omega))⟩, ?_⟩
      refine an_o 7 <| nal 54 (vdC 0 attZ proZ 0) (.agg (vdC 0 attZ proZ 0)) fun V42 gy egy h43 kV42 => ?_
      have n44 := nl egy h38
      have n45 := nk egy K40
      have h46 := Turns.nn h37 kV42
      have h47 := kV42.bk h38
      have kb48 := kb39.nn kV42
      have K49 := K40.nn kV42
      have z50 := kV42.size
      refine ⟨⟨h47, (hs.keeps K49 (fun j _ hl hm => by omega))⟩, ?_⟩
      refine an_o 8 <| nst 54 gy ((DAct.c x)) h43 (by rw [DAct.c_size hx1]; kernel_rfl) (by rw [DAct.c_size hx1]; kernel_rfl) DAct.c_one fun V51 h52 kV51 => ?_
      have h53 : Turns w.heap.size w V51 := Turns.no h46 kV51 (by omega)
      have h54 := kV51.bO h47
      have kb55 : Keeps Nob V25 V51 := kb48.nO kV51
      have K56 := K49.nO kV51
      have z57 := kV51.size
      refine ⟨⟨h54, (hs.keeps K56 (fun j _ hl hm => by omega))⟩, ?_⟩
      refine ane ?_
      exact ⟨rfl, gy, by kernel_rfl, h53, h54, (h28.keepsN kb55), h52, by omega, K56⟩
     ·refine nal 54 (vdC 0 attZ proZ 0) (.agg (vdC 0 attZ proZ 0)) fun V58 gy egy h59 kV58 => ?_
      have n60 := nl egy h32
      have n61 := nk egy K34
      have h62 := Turns.nn h31 kV58
      have h63 := kV58.bk h32
      have kb64 := kb33.nn kV58
      have K65 := K34.nn kV58
      have z66 := kV58.size
      refine ⟨⟨h63, (hs.keeps K65 (fun j _ hl hm => by omega))⟩, ?_⟩
      refine an_o 6 ?_
      refine ncr 23 #[.agg (ofP (1 + ne) (1 + nw)).cells, pT d 0, .agg (DAct.c x0)] Tryz.func23 ((hnear ▸ ltnear_ok _ d _ _ _ _ x0 _ (h28.keepsN kb64) hxo)) fun V67 kV67 => ?_
      have h68 := Turns.nn h62 kV67
      have h69 := kV67.bk h63
      have kb70 := kb64.nn kV67
      have ⟨K72, z73, h71⟩ := kV67.z1 K65 h59
      refine ⟨⟨h69, (hs.keeps K72 (fun j _ hl hm => by omega))⟩, ?_⟩
      refine an_o 8 <| nst 54 gy ((DAct.c x)) h71 (by rw [DAct.c_size hx1]; kernel_rfl) (by rw [DAct.c_size hx1]; kernel_rfl) DAct.c_one fun V74 h75 kV74 => ?_
      have h76 : Turns w.heap.size w V74 := Turns.no h68 kV74 (by omega)
      have h77 := kV74.bO h69
      have kb78 : Keeps Nob V25 V74 := kb70.nO kV74
      have K79 := K72.nO kV74
      have z80 := kV74.size
      refine ⟨⟨h77, (hs.keeps K79 (fun j _ hl hm => by omega))⟩, ?_⟩
      refine ane ?_
      exact ⟨rfl, gy, by kernel_rfl, h76, h77, (h28.keepsN kb78), h75, by omega, K79⟩
    rintro aQ V81 ⟨gy, rfl, h82, h83, h84, h85, hd86, K87⟩
    have z88 := lt_of_block h85
    refine tqr_ [0] <| kk 1 <| eq_ <| qr_ [0, 1] <| kk 1 <| ppq _ (lc (h85) (DAct.c_0)) <| et_ ?_
    refine sy_cut (fun aQ VQ => ∃ (uu11_ : Nat → Value), (aQ = ⟨fs [[.int .i64 ep, .int .i64 wn, lv, ud, ud, ud, uu 0, .bool true, pT gp 0, pT d 0, .int .i64 0, .int .i64 ((i : Nat) : Int), pT gy 0, .bool true], us uu11_ 0 9, [.bool true, lv, .int .i64 ((l.length : Nat) : Int), .bool false, ud, .int .i64 ep, .int .i64 ne, .int .i64 (1 + ne), .int .i64 wn, .int .i64 nw, .int .i64 (1 + nw), .agg (ofP (1 + ne) (1 + nw)).cells, .tuple #[pT d 0, .int .i64 0], .agg (ofP (1 + ne) (1 + nw)).cells, .tuple #[pT d 0, .int .i64 0], pT d 0, .int .i64 0, .int .i64 0, .bool false, .bool false, pT d 0, .bool false, .bool false, .int .i64 ((i : Nat) : Int), lv, .int .i64 ((l.length : Nat) : Int), .bool true, uu 16, uu 17, .agg (ofP (1 + ne) (1 + nw)).cells, pT d 0, lv, .int .i64 ((i : Nat) : Int), pT b_x (o_x + i * 73), .agg (DAct.c x0), .agg (DAct.c x), pT gy 0, .int .i64 x.k], us uu11_ 9 96, us uu 123 18, [ud]], []⟩) ∧ (Turns w.heap.size w VQ) ∧ (HP VQ gp (Par.cells (ofP (1 + ne) (1 + nw))) 47) ∧ (HP VQ gy (DAct.c x) 54) ∧ (Det1 w.heap.size VQ d ((ofP (1 + ne) (1 + nw))) ((fH h x)) ((fA (ofP (1 + ne) (1 + nw)) h A x)) ((fQ (ofP (1 + ne) (1 + nw)) h Q x))) ∧ (V81.heap.size ≤ VQ.heap.size) ∧ (Keeps ((fun j => w.heap.size ≤ j)) w VQ)) ?_ ?_
    ·rcases (show x.k = 0 ∨ x.k = 1 ∨ (¬ x.k = 0 ∧ ¬ x.k = 1) by omega) with hk | hk | ⟨hk0, hk1⟩
     ·skip
      obtain ⟨y, hy⟩ : ∃ y, dJudge (ofP (1 + ne) (1 + nw)) (votesOf (ofP (1 + ne) (1 + nw)) h A x.a.v) x.a = y := ⟨_, rfl⟩
      have hyv := (att_yes com.err hy).1
      have hyo : VdOk y := hyv ▸ attVd_ok inv
      obtain ⟨hvf, hle, hyw⟩ := verd_f inv com hy
      have hjb : judgedB (votesOf (ofP (1 + ne) (1 + nw)) h A x.a.v) x.a y = true := hy ▸ judged_is inv com
      have inv2 := inv.att hx1.a
      have hlen0 := votes_len inv hx1.a com hy
      obtain ⟨yf, hyf⟩ : ∃ f, y.f = f := ⟨_, rfl⟩
      rw [hyf] at hvf hle
      obtain ⟨mo, hmo⟩ : ∃ m : Int, (if y.k = 0 then 1 else 0) = m := ⟨_, rfl⟩
      rw [hmo] at hlen0
      have hlen := hlen0
      have hmx : i64ok (max x.a.t y.a.t) := by have := hx1.a.t; have := hyw.t; unfold i64ok; omega
      have bmo : 0 ≤ mo ∧ mo ≤ 1 := by rw [← hmo]; split <;> omega
      refine bl_ 2 <| qr_ [0, 1] <| ppq (.bool true) (cbo (show ((((x.k) : Int) == ((0) : Int))) = true from by rw [hk]; rfl)) <| kk 1 <| ey_ <| qr_ nl6_ <| kk 3 <| ppq _ (lc (h85) (DAct.c_a (j := 0) Att.cl_0)) ?_
      refine pcq 11 #[pT d 0, .int .i64 x.a.v] Tryz.func11 ((Det1.votes h84 x.a.v).mono ?_)
      rintro e V89 ⟨vla, rfl, hrV89, hnV89, kV89⟩
      refine ⟨_, rfl, ?_⟩
      have h90 := Turns.nn h82 kV89
      have h91 := kV89.bk h83
      have kb92 := (Keeps.refl Nob V81).nn kV89
      have ⟨K94, z95, h93⟩ := kV89.z1 K87 h85
      refine kk 1 <| eqr_ nl10_ <| kk 2 <| ppq (.agg (Att.c x.a)) (exec_load_seg 28 (.tmp 75) (by kernel_rfl) gy 1 (by kernel_rfl) (Att.cl x.a) _ _ _ h93 (fun j u h => DAct.c_a h) Tryz.underlying28 rfl (by rw [Att.cl_len hx1.a]; kernel_rfl)) ?_
      refine pcq 24 #[pT d 0, .agg (Att.c x.a)] Tryz.func24 ((Det1.is_attest (h84.keepsN kb92) K94.size hx1.a com.err hyv rfl).mono ?_)
      rintro e V96 ⟨rfl, hDV96, MV96, hMV96, kV96⟩
      refine ⟨_, rfl, ?_⟩
      have h97 : Turns w.heap.size w V96 := Turns.trans h90 ⟨MV96, hMV96, kV96⟩
      have h98 : HP V96 gp (Par.cells (ofP (1 + ne) (1 + nw))) 47 := (kV96.block gp (lt_of_block h91) (fun e => hMV96.no h91 e)).trans h91
      have h99 : HP V96 gy (DAct.c x) 54 := (kV96.block gy (lt_of_block h93) (fun e => hMV96.no h93 e)).trans h93
      have h100 : Row V96 28 36 vla (votesOf (ofP (1 + ne) (1 + nw)) h A x.a.v).length ((votesOf (ofP (1 + ne) (1 + nw)) h A x.a.v).flatMap Att.cl) := Turns.row ⟨MV96, hMV96, kV96⟩ hrV89
      have K101 : Keeps ((fun j => w.heap.size ≤ j)) w V96 := K94.then kV96 (fun i hi hm => Nat.le_of_not_lt (fun h => hMV96.sub i h hm))
      have z102 := kV96.size
      have hs103 : AttsAt V96 vla (votesOf (ofP (1 + ne) (1 + nw)) h A x.a.v) := Row.sl h100 rfl (fun x hx => Att.cl_len ((rowOk inv _) x hx))
      have lnla := hs103.len_le
      refine kk 3 <| pal 57 (vdC 0 attZ proZ 0) (.agg (vdC 0 attZ proZ 0)) fun V104 gv egv h105 kV104 => ?_
      have n106 := nl egv h98
      have n107 := nl egv h99
      have n108 := nk egv K101
      have h109 := Turns.nn h97 kV104
      have ⟨h110, h111⟩ := kV104.k2 h98 h99
      have kb112 := (Keeps.refl Nob V96).nn kV104
      have h113 : AttsAt V104 vla ((votesOf (ofP (1 + ne) (1 + nw)) h A x.a.v)) := hs103.keepsN kV104
      have K114 := K101.nn kV104
      have z115 := kV104.size
      refine pst 57 gv (Vd.c y) h105 (by rw [Vd.c_size hyo]; kernel_rfl) (vd_sizes (Vd.c_size hyo) (by kernel_rfl)) Vd.c_one fun V116 h117 kV116 => ?_
      have h118 : Turns w.heap.size w V116 := Turns.no h109 kV116 (by omega)
      have ⟨h119, h120⟩ := kV116.ko2 h110 h111
      have kb121 : Keeps Nob V96 V116 := kb112.nO kV116
      have h122 : AttsAt V116 vla ((votesOf (ofP (1 + ne) (1 + nw)) h A x.a.v)) := Sl.keepsB hs103 h113 kV116 (fun j e => by first | (unfold Own.One at e; omega) | omega)
      have K123 := K114.nO kV116
      have z124 := kV116.size
      refine kk 1 <| eqr_ [0] <| kk 1 <| eq_ ?_
      refine sy_cut (fun aQ VQ => ∃ (u15_80 u15_81 u15_82 u15_83 u15_84 u15_85 u15_86 u15_87 u15_88 u15_89 u15_90 u15_91 u15_92 u15_93 u15_94 : Value), (aQ = ⟨fs [[.int .i64 ep, .int .i64 wn, lv, ud, ud, ud, uu 0, .bool true, pT gp 0, pT d 0, .int .i64 0, .int .i64 ((i : Nat) : Int), pT gy 0, .bool true, vla, pT gv 0, .int .i64 0, .int .i64 yf], us uu 7 5, [.bool true, lv, .int .i64 ((l.length : Nat) : Int), .bool false, ud, .int .i64 ep, .int .i64 ne, .int .i64 (1 + ne), .int .i64 wn, .int .i64 nw, .int .i64 (1 + nw), .agg (ofP (1 + ne) (1 + nw)).cells, .tuple #[pT d 0, .int .i64 0], .agg (ofP (1 + ne) (1 + nw)).cells, .tuple #[pT d 0, .int .i64 0], pT d 0, .int .i64 0, .int .i64 0, .bool false, .bool false, pT d 0, .bool false, .bool false, .int .i64 ((i : Nat) : Int), lv, .int .i64 ((l.length : Nat) : Int), .bool true, uu 16, uu 17, .agg (ofP (1 + ne) (1 + nw)).cells, pT d 0, lv, .int .i64 ((i : Nat) : Int), pT b_x (o_x + i * 73), .agg (DAct.c x0), .agg (DAct.c x), pT gy 0, .int .i64 x.k], us uu 27 5, [.bool true, .bool true, pT d 0, pT gy 1, pT gy 1, .int .i64 x.a.v, vla, .tuple #[.agg (Vd.c y), .int .i64 0], pT d 0, pT gy 1, .agg (Att.c x.a), .tuple #[.agg (Vd.c y), .int .i64 0], .agg (Vd.c y), .int .i64 0, u15_80, u15_81, u15_82, u15_83, u15_84, u15_85, u15_86, u15_87, u15_88, u15_89, u15_90, u15_91, u15_92, u15_93, u15_94], us uu 61 80, [ud]], []⟩) ∧ (Turns w.heap.size w VQ) ∧ (HP VQ gp (Par.cells (ofP (1 + ne) (1 + nw))) 47) ∧ (HP VQ gy (DAct.c x) 54) ∧ (Det1 w.heap.size VQ d ((ofP (1 + ne) (1 + nw))) h ((attNew (ofP (1 + ne) (1 + nw)) h A x.a)) Q) ∧ (AttsAt VQ vla ((votesOf (ofP (1 + ne) (1 + nw)) h A x.a.v))) ∧ (HP VQ gv (Vd.c y) 57) ∧ (V116.heap.size ≤ VQ.heap.size) ∧ (Keeps ((fun j => w.heap.size ≤ j)) w VQ)) ?_ ?_
      ·by_cases hkg : y.k > 1
       ·have hfi : (Par.first (ofP (1 + ne) (1 + nw)) (max x.a.t y.a.t)).1 = yf := by rw [hvf, if_pos hkg]
        refine qr_ [0, 1, 2] <| kk 1 <| ppq (.int .i64 y.k) (lc (h117) (rfl) (k := 0)) <| ppq _ (dct (((y.k) : Int) > ((1) : Int)) (by omega)) <| ey_ <| r_ nl13_ <| ppq (.agg (ofP (1 + ne) (1 + nw)).cells) (exec_load_row 47 (.tmp 8) (by kernel_rfl) _ (by kernel_rfl) 47 (Par.cells (ofP (1 + ne) (1 + nw))) (0, 0) _ h119 Tryz.underlying47 rfl (by kernel_rfl)) <| kk 2 <| ppq _ (lc (h120) (DAct.c_a (j := 2) Att.cl_2)) <| kk 2 <| ppq _ (lc (h117) (Vd.c_a (j := 2) Att.cl_2)) <| ppq (.int .i64 (max x.a.t y.a.t)) (exec_max (.tmp 87) (.tmp 90) #[3, 3] (by kernel_rfl) .i64 x.a.t y.a.t (by kernel_rfl) (by kernel_rfl)) ?_
        refine pcr 29 #[.agg (ofP (1 + ne) (1 + nw)).cells, .int .i64 (max x.a.t y.a.t)] Tryz.func29 (dfirst_is hpo hmx hfi _) fun V125 kV125 => ?_
        have h126 := Turns.nn h118 kV125
        have ⟨h127, h128⟩ := kV125.k2 h119 h120
        have kb129 := kb121.nn kV125
        have h130 : AttsAt V125 vla ((votesOf (ofP (1 + ne) (1 + nw)) h A x.a.v)) := h122.keepsN kV125
        have ⟨K132, z133, h131⟩ := kV125.z1 K123 h117
        refine kk 4 <| ps_end ?_
        exact ⟨rfl, pT gv 0, .int .i64 y.k, .bool true, .tuple #[.int .i64 yf, .int .i64 (Par.first (ofP (1 + ne) (1 + nw)) (max x.a.t y.a.t)).2], .agg (ofP (1 + ne) (1 + nw)).cells, pT gy 1, pT gy 3, .int .i64 x.a.t, pT gv 1, pT gv 3, .int .i64 y.a.t, .int .i64 (max x.a.t y.a.t), .tuple #[.int .i64 yf, .int .i64 (Par.first (ofP (1 + ne) (1 + nw)) (max x.a.t y.a.t)).2], .int .i64 yf, .int .i64 (Par.first (ofP (1 + ne) (1 + nw)) (max x.a.t y.a.t)).2, by kernel_rfl, h126, h127, h128, (hDV96.keepsN kb129), h130, h131, by omega, K132⟩
       ·rw [if_neg hkg] at hvf
        subst hvf
        refine qr_ [0, 1, 2] <| kk 1 <| ppq (.int .i64 y.k) (lc (h117) (rfl) (k := 0)) <| ppq _ (dcf (((y.k) : Int) > ((1) : Int)) (by omega)) <| en_ <| s_ ?_
        exact ⟨rfl, pT gv 0, .int .i64 y.k, .bool false, uu 49, uu 50, uu 51, uu 52, uu 53, uu 54, uu 55, uu 56, uu 57, uu 58, uu 59, uu 60, by kernel_rfl, h118, h119, h120, (hDV96.keepsN kb121), h122, h117, by omega, K123⟩
      rintro aQ V134 ⟨u15_80, u15_81, u15_82, u15_83, u15_84, u15_85, u15_86, u15_87, u15_88, u15_89, u15_90, u15_91, u15_92, u15_93, u15_94, rfl, h135, h136, h137, h138, h139, h140, z141, K142⟩
      refine tqr_ nl6_ <| kk 3 <| ppq _ (lc (h137) (DAct.c_a (j := 0) Att.cl_0)) ?_
      refine pcq 11 #[pT d 0, .int .i64 x.a.v] Tryz.func11 ((Det1.votes h138 x.a.v).mono ?_)
      rintro e V143 ⟨vln, rfl, hrV143, hnV143, kV143⟩
      have hsV143 : AttsAt V143 vln (votesOf (ofP (1 + ne) (1 + nw)) h (attNew (ofP (1 + ne) (1 + nw)) h A x.a) x.a.v) := Row.sl hrV143 rfl (fun x hx => Att.cl_len ((rowOk inv2 _) x hx))
      have lnln := hsV143.len_le
      refine ⟨_, rfl, ?_⟩
      have h144 := Turns.nn h135 kV143
      have ⟨h145, h146⟩ := kV143.k2 h136 h137
      have kb147 := (Keeps.refl Nob V134).nn kV143
      have h148 : AttsAt V143 vla ((votesOf (ofP (1 + ne) (1 + nw)) h A x.a.v)) := h139.keepsN kV143
      have ⟨K150, z151, h149⟩ := kV143.z1 K142 h140
      refine kk 1 <| eqr_ [0] <| kk 1 <| eq_ ?_
      refine sy_cut (fun aQ VQ => ∃ (u18_100 u18_101 u18_102 : Value), (aQ = ⟨fs [[.int .i64 ep, .int .i64 wn, lv, ud, ud, ud, uu 0, .bool true, pT gp 0, pT d 0, .int .i64 0, .int .i64 ((i : Nat) : Int), pT gy 0, .bool true, vla, pT gv 0, .int .i64 0, .int .i64 yf, vln, .int .i64 mo, uu 9, uu 10, uu 11, .bool true, lv, .int .i64 ((l.length : Nat) : Int), .bool false, ud, .int .i64 ep, .int .i64 ne, .int .i64 (1 + ne), .int .i64 wn, .int .i64 nw, .int .i64 (1 + nw), .agg (ofP (1 + ne) (1 + nw)).cells, .tuple #[pT d 0, .int .i64 0], .agg (ofP (1 + ne) (1 + nw)).cells, .tuple #[pT d 0, .int .i64 0], pT d 0, .int .i64 0, .int .i64 0, .bool false, .bool false, pT d 0, .bool false, .bool false, .int .i64 ((i : Nat) : Int), lv, .int .i64 ((l.length : Nat) : Int), .bool true, uu 16, uu 17, .agg (ofP (1 + ne) (1 + nw)).cells, pT d 0, lv, .int .i64 ((i : Nat) : Int), pT b_x (o_x + i * 73), .agg (DAct.c x0), .agg (DAct.c x), pT gy 0, .int .i64 x.k], us uu 27 5, [.bool true, .bool true, pT d 0, pT gy 1, pT gy 1, .int .i64 x.a.v, vla, .tuple #[.agg (Vd.c y), .int .i64 0], pT d 0, pT gy 1, .agg (Att.c x.a), .tuple #[.agg (Vd.c y), .int .i64 0], .agg (Vd.c y), .int .i64 0, u15_80, u15_81, u15_82, u15_83, u15_84, u15_85, u15_86, u15_87, u15_88, u15_89, u15_90, u15_91, u15_92, u15_93, u15_94, pT d 0, pT gy 1, pT gy 1, .int .i64 x.a.v, vln, u18_100, u18_101, u18_102], us uu 69 72, [ud]], []⟩) ∧ (Turns w.heap.size w VQ) ∧ (HP VQ gp (Par.cells (ofP (1 + ne) (1 + nw))) 47) ∧ (HP VQ gy (DAct.c x) 54) ∧ (Det1 w.heap.size VQ d ((ofP (1 + ne) (1 + nw))) h ((attNew (ofP (1 + ne) (1 + nw)) h A x.a)) Q) ∧ (AttsAt VQ vla ((votesOf (ofP (1 + ne) (1 + nw)) h A x.a.v))) ∧ (HP VQ gv (Vd.c y) 57) ∧ (AttsAt VQ vln ((votesOf (ofP (1 + ne) (1 + nw)) h (attNew (ofP (1 + ne) (1 + nw)) h A x.a) x.a.v))) ∧ (V143.heap.size ≤ VQ.heap.size) ∧ (Keeps ((fun j => w.heap.size ≤ j)) w VQ)) ?_ ?_
      ·by_cases hkz : y.k = 0
       ·rw [if_pos hkz] at hmo
        subst hmo
        refine qr_ [0, 1, 2] <| kk 1 <| ppq (.int .i64 y.k) (lc (h149) (rfl) (k := 0)) <| ppq (.bool true) (cbo (show ((((y.k) : Int) == ((0) : Int))) = true from by rw [hkz]; rfl)) <| ey_ <| r_ [0] <| kk 1 <| ps_end ?_
        exact ⟨rfl, pT gv 0, .int .i64 y.k, .bool true, by kernel_rfl, h144, h145, h146, (h138.keepsN kb147), h148, h149, hsV143, by omega, K150⟩
       ·rw [if_neg hkz] at hmo
        subst hmo
        refine qr_ [0, 1, 2] <| kk 1 <| ppq (.int .i64 y.k) (lc (h149) (rfl) (k := 0)) <| ppq (.bool false) (cbo (show ((((y.k) : Int) == ((0) : Int))) = false from by simpa using hkz)) <| en_ <| s_ ?_
        exact ⟨rfl, pT gv 0, .int .i64 y.k, .bool false, by kernel_rfl, h144, h145, h146, (h138.keepsN kb147), h148, h149, hsV143, by omega, K150⟩
      rintro aQ V152 ⟨u18_100, u18_101, u18_102, rfl, h153, h154, h155, h156, h157, h158, h159, z160, K161⟩
      refine then_n <| sy_np <| sy_reg <| anb 32 (fun W => (HP W gy (DAct.c x) 54) ∧ (HP W gv (Vd.c y) 57)) #[false, false, false, false, false, false, false, false, false, false, false, false, false, false, false, false, false, false, false, false, false, false, false, false, false, false, false, false, false, false, false, false] ?_
      obtain ⟨V162, eV162, kV162⟩ := drew_step V152
      rw [eV162]
      clear eV162
      have h163 := Turns.nn h153 kV162
      have ⟨h164, h165⟩ := kV162.k2 h154 h155
      have kb166 := (Keeps.refl Nob V152).nn kV162
      have h167 : AttsAt V162 vla ((votesOf (ofP (1 + ne) (1 + nw)) h A x.a.v)) := h157.keepsN kV162
      have h168 := kV162.bk h158
      have h169 : AttsAt V162 vln ((votesOf (ofP (1 + ne) (1 + nw)) h (attNew (ofP (1 + ne) (1 + nw)) h A x.a) x.a.v)) := h159.keepsN kV162
      have K170 := K161.nn kV162
      have z171 := kV162.size
      refine ka [0, 1, 2, 3, 4] ⟨h165, h168⟩ <| avq 5 (.agg (Att.c x.a)) (fun W hS => exec_load_seg 28 (.tmp 107) (by kernel_rfl) gy 1 (by kernel_rfl) (Att.cl x.a) _ _ _ hS.1 (fun j u h => DAct.c_a h) Tryz.underlying28 rfl (by rw [Att.cl_len hx1.a]; kernel_rfl)) ⟨h165, h168⟩ <| avq 6 _ (fun W hS => ldr 57 gv (hS.2) (by rw [Vd.c_size hyo]; kernel_rfl)) ⟨h165, h168⟩ <| an_o 7 ?_
      refine ncr 30 #[vla, .agg (Att.c x.a), .agg (Vd.c y)] Tryz.func30 (ltjudged_ok _ _ x.a y _ h167 (rowOk inv _) hx1.a hx1.a.r hyo hyw hjb) fun V172 kV172 => ?_
      have h173 := Turns.nn h163 kV172
      have ⟨h174, h175⟩ := kV172.k2 h164 h165
      have kb176 := kb166.nn kV172
      have h177 : AttsAt V172 vla ((votesOf (ofP (1 + ne) (1 + nw)) h A x.a.v)) := h167.keepsN kV172
      have h178 := kV172.bk h168
      have h179 : AttsAt V172 vln ((votesOf (ofP (1 + ne) (1 + nw)) h (attNew (ofP (1 + ne) (1 + nw)) h A x.a) x.a.v)) := h169.keepsN kV172
      have K180 := K170.nn kV172
      have z181 := kV172.size
      refine ⟨⟨h175, h178⟩, ?_⟩
      refine ka [8, 9, 10] ⟨h175, h178⟩ <| avq 11 _ (fun W hS => lc (hS.2) (vdC_first (Att.tl hyo.a) (Pro.tl hyo.b))) ⟨h175, h178⟩ <| ka [12] ⟨h175, h178⟩ <| avq 13 (.bool true) (fun W hS => cbo (show ((((y.f) : Int) == ((yf) : Int))) = true from by rw [hyf]; simp)) ⟨h175, h178⟩ <| ka [14, 15, 16] ⟨h175, h178⟩ <| avq 17 _ (fun W hS => lc (hS.2) (vdC_first (Att.tl hyo.a) (Pro.tl hyo.b))) ⟨h175, h178⟩ <| ka [18] ⟨h175, h178⟩ <| an_o 19 ?_
      refine ncq 12 #[pT d 0] Tryz.func12 ((Det1.height (h156.keepsN kb176)).mono ?_)
      rintro e w1 ⟨rfl, rfl⟩
      refine ⟨_, rfl, ?_⟩
      refine ⟨⟨h175, h178⟩, ?_⟩
      refine avq 20 (.bool true) (fun W hS => cbo (show (decide (((y.f) : Int) ≤ ((h) : Int))) = true from by rw [hyf]; exact decide_eq_true hle)) ⟨h175, h178⟩ <| ka [21, 22, 23, 25, 27] ⟨h175, h178⟩ ?_
      refine an_two 24 26 (by kernel_rfl) ?_ ?_
      ·refine nrq (iN (((votesOf (ofP (1 + ne) (1 + nw)) h (attNew (ofP (1 + ne) (1 + nw)) h A x.a) x.a.v)).length)) (w' := V172) (exec_len_sl (.tmp 126) 32 28 (by kernel_rfl) Tryz.underlying32 (by kernel_rfl) h179) ?_
       refine ⟨⟨h175, h178⟩, ?_⟩
       refine an_o 26 <| nrq (iN (((votesOf (ofP (1 + ne) (1 + nw)) h A x.a.v)).length)) (w' := V172) (exec_len_sl (.tmp 128) 32 28 (by kernel_rfl) Tryz.underlying32 (by kernel_rfl) h177) ?_
       refine ⟨⟨h175, h178⟩, ?_⟩
       refine avq 28 _ (fun W hS => cwI (x := ((votesOf (ofP (1 + ne) (1 + nw)) h A x.a.v).length : Int) + mo)) ⟨h175, h178⟩ <| avq 29 (.bool true) (fun W hS => cbo (show (((((((votesOf (ofP (1 + ne) (1 + nw)) h (attNew (ofP (1 + ne) (1 + nw)) h A x.a) x.a.v)).length : Nat) : Int)) == (((((votesOf (ofP (1 + ne) (1 + nw)) h A x.a.v).length : Int) + mo)) : Int))) = true from by simpa using hlen)) ⟨h175, h178⟩ <| ka [30] ⟨h175, h178⟩ <| an_o 31 <| nrq (.bool true) (w' := V172) (by kernel_rfl) ?_
       refine ⟨⟨h175, h178⟩, ?_⟩
       refine ane <| blk_n ?_
       have hD182 : Det1 w.heap.size V172 d ((ofP (1 + ne) (1 + nw))) ((fH h x)) ((fA (ofP (1 + ne) (1 + nw)) h A x)) ((fQ (ofP (1 + ne) (1 + nw)) h Q x)) := fin_0 hk (h156.keepsN kb176)
       exact ⟨rfl, (kz_ [vla, pT gv 0, .int .i64 0, .int .i64 yf, vln, .int .i64 mo, uu 9, uu 10, uu 11, uu 27, uu 28, uu 29, uu 30, uu 31, .bool true, .bool true, pT d 0, pT gy 1, pT gy 1, .int .i64 x.a.v, vla, .tuple #[.agg (Vd.c y), .int .i64 0], pT d 0, pT gy 1, .agg (Att.c x.a), .tuple #[.agg (Vd.c y), .int .i64 0], .agg (Vd.c y), .int .i64 0, u15_80, u15_81, u15_82, u15_83, u15_84, u15_85, u15_86, u15_87, u15_88, u15_89, u15_90, u15_91, u15_92, u15_93, u15_94, pT d 0, pT gy 1, pT gy 1, .int .i64 x.a.v, vln, u18_100, u18_101, u18_102, .int .i64 0, .bool true, .bool true, vla, pT gy 1, .agg (Att.c x.a), .agg (Vd.c y), .bool true, .bool true, .bool true, pT gv 72, .int .i64 y.f, .int .i64 yf, .bool true, .bool true, .bool true, pT gv 72, .int .i64 y.f, pT d 0, .int .i64 h, .bool true, .bool true, .bool true, vln, .int .i64 ((((votesOf (ofP (1 + ne) (1 + nw)) h (attNew (ofP (1 + ne) (1 + nw)) h A x.a) x.a.v)).length : Nat) : Int), vla, .int .i64 ((((votesOf (ofP (1 + ne) (1 + nw)) h A x.a.v)).length : Nat) : Int), .int .i64 mo, .int .i64 (((votesOf (ofP (1 + ne) (1 + nw)) h A x.a.v).length : Int) + mo), .bool true, .bool true, uu 100, uu 101, uu 102, uu 103, uu 104, uu 105, uu 106, uu 107, uu 108, uu 109, uu 110, uu 111, uu 112, uu 113, uu 114, uu 115, uu 116, uu 117, uu 118, uu 119, uu 120, uu 121, uu 122]), by kernel_rfl, h173, h174, h175, hD182, by omega, K180⟩
      ·refine nrq (iN (((votesOf (ofP (1 + ne) (1 + nw)) h A x.a.v)).length)) (w' := V172) (exec_len_sl (.tmp 128) 32 28 (by kernel_rfl) Tryz.underlying32 (by kernel_rfl) h177) ?_
       refine ⟨⟨h175, h178⟩, ?_⟩
       refine avq 28 _ (fun W hS => cwI (x := ((votesOf (ofP (1 + ne) (1 + nw)) h A x.a.v).length : Int) + mo)) ⟨h175, h178⟩ <| an_o 24 <| nrq (iN (((votesOf (ofP (1 + ne) (1 + nw)) h (attNew (ofP (1 + ne) (1 + nw)) h A x.a) x.a.v)).length)) (w' := V172) (exec_len_sl (.tmp 126) 32 28 (by kernel_rfl) Tryz.underlying32 (by kernel_rfl) h179) ?_
       refine ⟨⟨h175, h178⟩, ?_⟩
       refine avq 29 (.bool true) (fun W hS => cbo (show (((((((votesOf (ofP (1 + ne) (1 + nw)) h (attNew (ofP (1 + ne) (1 + nw)) h A x.a) x.a.v)).length : Nat) : Int)) == (((((votesOf (ofP (1 + ne) (1 + nw)) h A x.a.v).length : Int) + mo)) : Int))) = true from by simpa using hlen)) ⟨h175, h178⟩ <| ka [30] ⟨h175, h178⟩ <| an_o 31 <| nrq (.bool true) (w' := V172) (by kernel_rfl) ?_
       refine ⟨⟨h175, h178⟩, ?_⟩
       refine ane <| blk_n ?_
       have hD183 : Det1 w.heap.size V172 d ((ofP (1 + ne) (1 + nw))) ((fH h x)) ((fA (ofP (1 + ne) (1 + nw)) h A x)) ((fQ (ofP (1 + ne) (1 + nw)) h Q x)) := fin_0 hk (h156.keepsN kb176)
       exact ⟨rfl, (kz_ [vla, pT gv 0, .int .i64 0, .int .i64 yf, vln, .int .i64 mo, uu 9, uu 10, uu 11, uu 27, uu 28, uu 29, uu 30, uu 31, .bool true, .bool true, pT d 0, pT gy 1, pT gy 1, .int .i64 x.a.v, vla, .tuple #[.agg (Vd.c y), .int .i64 0], pT d 0, pT gy 1, .agg (Att.c x.a), .tuple #[.agg (Vd.c y), .int .i64 0], .agg (Vd.c y), .int .i64 0, u15_80, u15_81, u15_82, u15_83, u15_84, u15_85, u15_86, u15_87, u15_88, u15_89, u15_90, u15_91, u15_92, u15_93, u15_94, pT d 0, pT gy 1, pT gy 1, .int .i64 x.a.v, vln, u18_100, u18_101, u18_102, .int .i64 0, .bool true, .bool true, vla, pT gy 1, .agg (Att.c x.a), .agg (Vd.c y), .bool true, .bool true, .bool true, pT gv 72, .int .i64 y.f, .int .i64 yf, .bool true, .bool true, .bool true, pT gv 72, .int .i64 y.f, pT d 0, .int .i64 h, .bool true, .bool true, .bool true, vln, .int .i64 ((((votesOf (ofP (1 + ne) (1 + nw)) h (attNew (ofP (1 + ne) (1 + nw)) h A x.a) x.a.v)).length : Nat) : Int), vla, .int .i64 ((((votesOf (ofP (1 + ne) (1 + nw)) h A x.a.v)).length : Nat) : Int), .int .i64 mo, .int .i64 (((votesOf (ofP (1 + ne) (1 + nw)) h A x.a.v).length : Int) + mo), .bool true, .bool true, uu 100, uu 101, uu 102, uu 103, uu 104, uu 105, uu 106, uu 107, uu 108, uu 109, uu 110, uu 111, uu 112, uu 113, uu 114, uu 115, uu 116, uu 117, uu 118, uu 119, uu 120, uu 121, uu 122]), by kernel_rfl, h173, h174, h175, hD183, by omega, K180⟩
     ·skip
      obtain ⟨z, hz⟩ : ∃ z, dPro (blocksOf (ofP (1 + ne) (1 + nw)) h Q x.q.v) x.q = z := ⟨_, rfl⟩
      have hzv := (pro_yes comq.err hz).1
      have hzo : VdOk z := hzv ▸ proVd_ok inv
      have hzb := hz
      refine bl_ 2 <| qr_ [0, 1] <| ppq (.bool false) (cbo (show ((((x.k) : Int) == ((0) : Int))) = false from by rw [hk]; rfl)) <| kk 1 <| en_ <| qr_ [0, 1] <| ppq (.bool true) (cbo (show ((((x.k) : Int) == ((1) : Int))) = true from by rw [hk]; rfl)) <| kk 1 <| ey_ <| qr_ nl6_ <| kk 3 <| ppq _ (lc (h85) (DAct.c_q (j := 0) hx1 Pro.cl_0)) ?_
      refine pcq 16 #[pT d 0, .int .i64 x.q.v] Tryz.func16 ((Det1.blocks h84 x.q.v).mono ?_)
      rintro e V184 ⟨vlb, rfl, hrV184, hnV184, kV184⟩
      refine ⟨_, rfl, ?_⟩
      have h185 := Turns.nn h82 kV184
      have h186 := kV184.bk h83
      have kb187 := (Keeps.refl Nob V81).nn kV184
      have ⟨K189, z190, h188⟩ := kV184.z1 K87 h85
      refine kk 1 <| eqr_ nl10_ <| kk 2 <| ppq (.agg (Pro.c x.q)) (exec_load_seg 37 (.tmp 143) (by kernel_rfl) gy 37 (by kernel_rfl) (Pro.cl x.q) _ _ _ h188 (fun j u h => DAct.c_q hx1 h) Tryz.underlying37 rfl (by rw [Pro.cl_len hx1.q]; kernel_rfl)) ?_
      refine pcq 25 #[pT d 0, .agg (Pro.c x.q)] Tryz.func25 ((Det1.is_propose (h84.keepsN kb187) K189.size hx1.q comq.err hzv rfl).mono ?_)
      rintro e V191 ⟨rfl, hDV191, MV191, hMV191, kV191⟩
      refine ⟨_, rfl, ?_⟩
      have h192 : Turns w.heap.size w V191 := Turns.trans h185 ⟨MV191, hMV191, kV191⟩
      have h193 : HP V191 gp (Par.cells (ofP (1 + ne) (1 + nw))) 47 := (kV191.block gp (lt_of_block h186) (fun e => hMV191.no h186 e)).trans h186
      have h194 : HP V191 gy (DAct.c x) 54 := (kV191.block gy (lt_of_block h188) (fun e => hMV191.no h188 e)).trans h188
      have h195 : Row V191 37 35 vlb (blocksOf (ofP (1 + ne) (1 + nw)) h Q x.q.v).length ((blocksOf (ofP (1 + ne) (1 + nw)) h Q x.q.v).flatMap Pro.cl) := Turns.row ⟨MV191, hMV191, kV191⟩ hrV184
      have K196 : Keeps ((fun j => w.heap.size ≤ j)) w V191 := K189.then kV191 (fun i hi hm => Nat.le_of_not_lt (fun h => hMV191.sub i h hm))
      have z197 := kV191.size
      have hs198 : ProsAt V191 vlb (blocksOf (ofP (1 + ne) (1 + nw)) h Q x.q.v) := Row.sl h195 rfl (fun x hx => Pro.cl_len ((rowOkB inv _) x hx))
      have lnlb := hs198.len_le
      refine kk 3 <| pal 57 (vdC 0 attZ proZ 0) (.agg (vdC 0 attZ proZ 0)) fun V199 gz egz h200 kV199 => ?_
      have n201 := nl egz h193
      have n202 := nl egz h194
      have n203 := nk egz K196
      have h204 := Turns.nn h192 kV199
      have ⟨h205, h206⟩ := kV199.k2 h193 h194
      have kb207 := (Keeps.refl Nob V191).nn kV199
      have h208 : ProsAt V199 vlb ((blocksOf (ofP (1 + ne) (1 + nw)) h Q x.q.v)) := hs198.keepsN kV199
      have K209 := K196.nn kV199
      have z210 := kV199.size
      refine pst 57 gz (Vd.c z) h200 (by rw [Vd.c_size hzo]; kernel_rfl) (vd_sizes (Vd.c_size hzo) (by kernel_rfl)) Vd.c_one fun V211 h212 kV211 => ?_
      have h213 : Turns w.heap.size w V211 := Turns.no h204 kV211 (by omega)
      have ⟨h214, h215⟩ := kV211.ko2 h205 h206
      have kb216 : Keeps Nob V191 V211 := kb207.nO kV211
      have h217 : ProsAt V211 vlb ((blocksOf (ofP (1 + ne) (1 + nw)) h Q x.q.v)) := Sl.keepsB hs198 h208 kV211 (fun j e => by first | (unfold Own.One at e; omega) | omega)
      have K218 := K209.nO kV211
      have z219 := kV211.size
      refine kk 1 <| er_ nl10_ <| kk 5 <| ppq (.agg (Pro.c x.q)) (exec_load_seg 37 (.tmp 152) (by kernel_rfl) gy 37 (by kernel_rfl) (Pro.cl x.q) _ _ _ h215 (fun j u h => DAct.c_q hx1 h) Tryz.underlying37 rfl (by rw [Pro.cl_len hx1.q]; kernel_rfl)) <| ppq _ (ldr 57 gz (h212) (by rw [Vd.c_size hzo]; kernel_rfl)) ?_
      refine pcr 31 #[vlb, .agg (Pro.c x.q), .agg (Vd.c z)] Tryz.func31 (ltblocked_ok _ _ x.q z _ h217 (rowOkB inv _) hx1.q hx1.q.r hzo hzb) fun V220 kV220 => ?_
      have h221 := Turns.nn h213 kV220
      have ⟨h222, h223⟩ := kV220.k2 h214 h215
      have kb224 := kb216.nn kV220
      have K227 := K218.nn kV220
      have z228 := kV220.size
      refine kk 2 <| ps_end <| blk_n ?_
      have hD229 : Det1 w.heap.size V220 d ((ofP (1 + ne) (1 + nw))) ((fH h x)) ((fA (ofP (1 + ne) (1 + nw)) h A x)) ((fQ (ofP (1 + ne) (1 + nw)) h Q x)) := fin_1 hk (hDV191.keepsN kb224)
      exact ⟨rfl, (kz_ [uu 3, uu 4, uu 5, uu 6, uu 7, uu 8, vlb, pT gz 0, .int .i64 0, uu 27, uu 28, uu 29, uu 30, uu 31, .bool false, .bool false, uu 34, uu 35, uu 36, uu 37, uu 38, uu 39, uu 40, uu 41, uu 42, uu 43, uu 44, uu 45, uu 46, uu 47, uu 48, uu 49, uu 50, uu 51, uu 52, uu 53, uu 54, uu 55, uu 56, uu 57, uu 58, uu 59, uu 60, uu 61, uu 62, uu 63, uu 64, uu 65, uu 66, uu 67, uu 68, uu 69, uu 70, uu 71, uu 72, uu 73, uu 74, uu 75, uu 76, uu 77, uu 78, uu 79, uu 80, uu 81, uu 82, uu 83, uu 84, uu 85, uu 86, uu 87, uu 88, uu 89, uu 90, uu 91, uu 92, uu 93, uu 94, uu 95, uu 96, uu 97, uu 98, uu 99, .bool true, .bool true, pT d 0, pT gy 37, pT gy 37, .int .i64 x.q.v, vlb, .tuple #[.agg (Vd.c z), .int .i64 0], pT d 0, pT gy 37, .agg (Pro.c x.q), .tuple #[.agg (Vd.c z), .int .i64 0], .agg (Vd.c z), .int .i64 0, .int .i64 0, .bool true, .bool true, vlb, pT gy 37, .agg (Pro.c x.q), .agg (Vd.c z), .bool true, .bool true]), by kernel_rfl, h221, h222, h223, hD229, by omega, K227⟩
     ·skip
      refine bl_ 2 <| qr_ [0, 1] <| ppq (.bool false) (cbo (show ((((x.k) : Int) == ((0) : Int))) = false from by simpa using hk0)) <| kk 1 <| en_ <| qr_ [0, 1] <| ppq (.bool false) (cbo (show ((((x.k) : Int) == ((1) : Int))) = false from by simpa using hk1)) <| kk 1 <| en_ <| r_ nl6_ <| kk 2 <| ppq _ (lc (h85) (DAct.c_h hx1)) ?_
      refine pcq 17 #[pT d 0, .int .i64 x.h] Tryz.func17 ((Det1.is_move h84 K87.size hmv rfl).mono ?_)
      rintro e V230 ⟨rfl, hDV230, MV230, hMV230, kV230⟩
      refine ⟨_, rfl, ?_⟩
      have h231 : Turns w.heap.size w V230 := Turns.trans h82 ⟨MV230, hMV230, kV230⟩
      have h232 : HP V230 gp (Par.cells (ofP (1 + ne) (1 + nw))) 47 := (kV230.block gp (lt_of_block h83) (fun e => hMV230.no h83 e)).trans h83
      have h233 : HP V230 gy (DAct.c x) 54 := (kV230.block gy (lt_of_block h85) (fun e => hMV230.no h85 e)).trans h85
      have K234 : Keeps ((fun j => w.heap.size ≤ j)) w V230 := K87.then kV230 (fun i hi hm => Nat.le_of_not_lt (fun h => hMV230.sub i h hm))
      have z235 := kV230.size
      refine kk 2 <| ps_end <| blk_n ?_
      have hD236 : Det1 w.heap.size V230 d ((ofP (1 + ne) (1 + nw))) ((fH h x)) ((fA (ofP (1 + ne) (1 + nw)) h A x)) ((fQ (ofP (1 + ne) (1 + nw)) h Q x)) := fin_2 hk0 hk1 hDV230
      exact ⟨rfl, (kz_ [uu 3, uu 4, uu 5, uu 6, uu 7, uu 8, uu 9, uu 10, uu 11, pT d 0, pT gy 72, .int .i64 x.h, .int .i64 0, .bool true, .bool false, .bool false, uu 34, uu 35, uu 36, uu 37, uu 38, uu 39, uu 40, uu 41, uu 42, uu 43, uu 44, uu 45, uu 46, uu 47, uu 48, uu 49, uu 50, uu 51, uu 52, uu 53, uu 54, uu 55, uu 56, uu 57, uu 58, uu 59, uu 60, uu 61, uu 62, uu 63, uu 64, uu 65, uu 66, uu 67, uu 68, uu 69, uu 70, uu 71, uu 72, uu 73, uu 74, uu 75, uu 76, uu 77, uu 78, uu 79, uu 80, uu 81, uu 82, uu 83, uu 84, uu 85, uu 86, uu 87, uu 88, uu 89, uu 90, uu 91, uu 92, uu 93, uu 94, uu 95, uu 96, uu 97, uu 98, uu 99, .bool false, .bool false, uu 102, uu 103, uu 104, uu 105, uu 106, uu 107, uu 108, uu 109, uu 110, uu 111, uu 112, uu 113, uu 114, uu 115, uu 116, uu 117, uu 118, uu 119, uu 120, uu 121, uu 122]), by kernel_rfl, h231, h232, h233, hD236, by omega, K234⟩
    rintro aQ V237 ⟨uu11_, rfl, h238, h239, h240, h241, z242, K243⟩
    refine tqr_ nl18_ <| kk 6 <| ppq _ (lc (h240) (DAct.c_a (j := 0) Att.cl_0)) ?_
    refine pcr 32 #[pT d 0, .int .i64 x.a.v] Tryz.func32 (clear_is h241 hns2 _) fun V244 kV244 => ?_
    have h245 := Turns.nn h238 kV244
    have ⟨h246, h247⟩ := kV244.k2 h239 h240
    have kb248 := (Keeps.refl Nob V237).nn kV244
    have K249 := K243.nn kV244
    have z250 := kV244.size
    refine kk 6 <| ppq _ (lc (h247) (DAct.c_q (j := 0) hx1 Pro.cl_0)) ?_
    refine pcr 32 #[pT d 0, .int .i64 x.q.v] Tryz.func32 (clear_is (h241.keepsN kb248) hns2 _) fun V251 kV251 => ?_
    have h252 := Turns.nn h245 kV251
    have h253 := kV251.bk h246
    have kb255 := kb248.nn kV251
    have K256 := K249.nn kV251
    have z257 := kV251.size
    refine kk 2 <| en_ <| s_ <| blk_n <| tr_ [0, 1, 2] <| kk 1 <| ppq _ (cwN (n := i + 1)) <| kk 1 <| et_ ?_
    refine ⟨⟨i + 1, fH h x, fA (ofP (1 + ne) (1 + nw)) h A x, fQ (ofP (1 + ne) (1 + nw)) h Q x, (kz_ [uu 0, pT gy 0, .bool true, uu11_ 0, uu11_ 1, uu11_ 2, uu11_ 3, uu11_ 4, uu11_ 5, uu11_ 6, uu11_ 7, uu11_ 8, iN i, lv, iN l.length, .bool true, iN i, iN (i + 1), .agg (ofP (1 + ne) (1 + nw)).cells, pT d 0, lv, iN i, pT b_x (o_x + i * 73), .agg (DAct.c x0), .agg (DAct.c x), pT gy 0, .int .i64 x.k, uu11_ 9, uu11_ 10, uu11_ 11, uu11_ 12, uu11_ 13, uu11_ 14, uu11_ 15, uu11_ 16, uu11_ 17, uu11_ 18, uu11_ 19, uu11_ 20, uu11_ 21, uu11_ 22, uu11_ 23, uu11_ 24, uu11_ 25, uu11_ 26, uu11_ 27, uu11_ 28, uu11_ 29, uu11_ 30, uu11_ 31, uu11_ 32, uu11_ 33, uu11_ 34, uu11_ 35, uu11_ 36, uu11_ 37, uu11_ 38, uu11_ 39, uu11_ 40, uu11_ 41, uu11_ 42, uu11_ 43, uu11_ 44, uu11_ 45, uu11_ 46, uu11_ 47, uu11_ 48, uu11_ 49, uu11_ 50, uu11_ 51, uu11_ 52, uu11_ 53, uu11_ 54, uu11_ 55, uu11_ 56, uu11_ 57, uu11_ 58, uu11_ 59, uu11_ 60, uu11_ 61, uu11_ 62, uu11_ 63, uu11_ 64, uu11_ 65, uu11_ 66, uu11_ 67, uu11_ 68, uu11_ 69, uu11_ 70, uu11_ 71, uu11_ 72, uu11_ 73, uu11_ 74, uu11_ 75, uu11_ 76, uu11_ 77, uu11_ 78, uu11_ 79, uu11_ 80, uu11_ 81, uu11_ 82, uu11_ 83, uu11_ 84, uu11_ 85, uu11_ 86, uu11_ 87, uu11_ 88, uu11_ 89, uu11_ 90, uu11_ 91, uu11_ 92, uu11_ 93, uu11_ 94, uu11_ 95, uu11_ 96, uu11_ 97, uu11_ 98, uu11_ 99, uu11_ 100, uu11_ 101, uu11_ 102, uu11_ 103, uu11_ 104, .bool true, .bool false, .bool false, pT d 0, pT gy 1, pT gy 1, .int .i64 x.a.v, .bool true, .bool false, .bool false, .bool false, pT d 0, pT gy 37, pT gy 37, .int .i64 x.q.v, .bool true, .bool false, .bool false]), by kernel_rfl, by omega, hh6, hns2, h252, h253, (h241.keepsN kb255), K256⟩, ?_⟩
    exact lt_meas (x := l.length - (i + 1)) (y := l.length - i) (by kernel_rfl) (by kernel_rfl) (by omega)
   ·show _
    refine q_ <| qr_ [0, 1, 2, 3] <| kk 2 <| ppq (iN l.length) (exec_len_sl (.tmp 47) 49 54 (by kernel_rfl) Tryz.underlying49 (by kernel_rfl) (hs.keeps K29 (fun j _ hl hm => by omega))) <| ppq _ (dcf ((((i : Nat) : Int)) < (((l.length : Nat) : Int))) (by omega)) <| en_ <| sy_exit 0 (by kernel_rfl) <| then_e <| then_e <| blk_e <| tqr_ [0, 1] <| kk 2 ?_
    refine eu_ <| so_ (.bool true) ?_
    exact ⟨rfl, h26.keeps (Keeps.refl Nob w) (Nat.le_refl _)⟩
end
end Go.Proofs.YthmclmbeflbhhaaGreat
namespace Go.Proofs.YthmclmbeflbhhaaGreat.detectFinds
open Go.ChangeShapes Go.WideShapes Go.ChangeAt Go.RowKit Go.Own
open Go.ChangeMaps (open_string shut_string)
theorem own : ownKnob Tryz.prog.godebug = none := by kernel_rfl
theorem laid : laidOutB Tryz.prog = true := by kernel_rfl
set_option maxRecDepth 100000 in
theorem lifted (os : Os) (started : os.Started) (H : Type) (enc : TypeId × Value → H) :
    ReturnsInHanded {} Tryz.checked os 5 .any (Rows.detectFindsSpec.pre6 enc Tryz.prog Tryz.f5 Rows.detectFindsRow.domain false) (Rows.detectFindsSpec.post enc Tryz.prog Tryz.f5 false true false false) := by
  refine returnsInHanded_of_change (C := Tryz.checked) own started (by kernel_rfl) Tryz.func5
    (ChangeSpec.witness6 (enc := enc) (C := Tryz.checked) false ⟨#[], #[.int .i64 0, .int .i64 0, .slice none 0 0], []⟩ 8 (by kernel_rfl) (by kernel_rfl) (by kernel_rfl) (by kernel_rfl)) ?_
  intro W base args ds gs before hval0 hW hcnd _
  have hval : ∀ (j : Nat) t v, Tryz.f5.params[j]? = some t → args[j]? = some v → Value.okWide Tryz.prog W .any base t v := hval0
  have hW' := hW
  obtain ⟨p, q, hA0, hV, rfl, hfz, hnd⟩ := hW
  have hA : DataW.TrodAll enc Tryz.prog W 0 (fun _ => true) true Tryz.f5.params.toList args.toList ds p := hA0
  rw [Tryz.params5] at hA hval
  obtain ⟨v0, vs0, d0, ds0, p0, q0, hargs, rfl, rfl, h0, r0⟩ := trodAll_cons hA
  obtain ⟨v1, vs1, d1, ds1, p1, q1, rfl, rfl, rfl, h1, r1⟩ := trodAll_cons r0
  obtain ⟨v2, vs2, d2, ds2, p2, q2, rfl, rfl, rfl, h2, r2⟩ := trodAll_cons r1
  obtain ⟨rfl, rfl, rfl⟩ := trodAll_nil r2
  obtain rfl : args = #[v0, v1, v2] := by cases args; simp_all
  obtain ⟨rfl, rfl⟩ := trodVars_none hV
  obtain ⟨a0, rfl, rfl, rfl, w0⟩ := open_int Tryz.underlying3 (hval 0 3 v0 rfl rfl) h0
  obtain ⟨a1, rfl, rfl, rfl, w1⟩ := open_int Tryz.underlying3 (hval 1 3 v1 rfl rfl) h1
  obtain ⟨l2, hl2⟩ := open_dacts h2 (okWide_slice Tryz.underlying49 (hval 2 49 v2 rfl rfl))
  clear hA0 hval0
  refine (finds_all a0 (bounds_i64 w0) a1 (bounds_i64 w1) v2 l2 W hl2).mono fun e W' ⟨he, hg⟩ => ?_
  subst he
  exact ⟨_, rfl, law_post laid (by kernel_rfl) rfl Tryz.underlying4 rfl rfl hW' (hg.below (Nat.le_refl _) (fun _ _ x => x))⟩
theorem proved : Rows.DetectFindsSaid :=
  OpenClaim.holds_of_wide 5 Tryz.f5 rfl rfl rfl rfl rfl rfl rfl ⟨rfl, rfl, rfl, rfl, rfl⟩ rfl rfl rfl rfl rfl (by kernel_rfl) Tryz.func5 (by kernel_rfl)
    (of_decide_eq_true (by kernel_rfl)) (by unfold Func.isWrapper; first | (rw [if_pos (by decide +kernel)]; kernel_rfl) | (rw [if_neg (by decide +kernel)]; exact ⟨rfl, rfl⟩))
    (fun os started H enc _ => lifted os started H enc)
end Go.Proofs.YthmclmbeflbhhaaGreat.detectFinds
