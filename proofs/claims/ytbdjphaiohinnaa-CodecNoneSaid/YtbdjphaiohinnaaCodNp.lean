/-
  Codec: the walk of CodecNone. Conditions: none.
-/
import Derived.Test.YtbdjphaiohinnaaCodNo
import Derived.Test.YtbdjphaiohinnaaCodV
import Derived.Test.YtbdjphaiohinnaaCodH
import Derived.Test.YtbdjphaiohinnaaArr
import Derived.Test.YtbdjphaiohinnaaMore
import Derived.Deep.MidRow
namespace Go.Proofs.Ytbdjphaiohinnaa
open Go Go.RowKit Go.Own Go.Shelf Go.ChangeShapes Go.WideShapes Go.ChangeAt Go.WideElems

/-- The fields of a thing that lies in a block of its own. -/
structure ThAt (W0 W : World) (bx : Nat) (x : Th) : Prop where
  blk : W.heap[bx]? = some (.cells x.cs.toArray 46 (0, 0))
  bytes : BytesAt W x.bv x.bytes
theorem ThAt.c (j : Nat) {W0 W : World} {bx : Nat} {x : Th} {u : Value} (h : ThAt W0 W bx x) (hu : x.cs[j]? = some u) : W.cell? ⟨bx, j, none⟩ = some u := (cell_of_row W bx j _ _ _ h.blk).trans (by simpa using hu)
theorem ThAt.hash {W0 W : World} {bx : Nat} {x : Th} (h : ThAt W0 W bx x) (hx : x.Ok) : W.rangeAt bx 4 (B x.hash) := fun j v hj => by
  have hlt : j < 32 := by have := (List.getElem?_eq_some_iff.1 hj).1; rw [B_length, hx.hl] at this; exact this
  rw [← hx.hash, List.getElem?_take_of_lt hlt, List.getElem?_drop] at hj
  exact h.c (4 + j) hj
theorem ThAt.keeps {W0 W W' : World} {bx : Nat} {x : Th} (h : ThAt W0 W bx x) (k : Keeps Nob W W') : ThAt W0 W' bx x := ⟨(k.block bx (lt_of_block h.blk) (fun x => x)).trans h.blk, h.bytes.keepsN k⟩

theorem two_ptrs (W : World) (cs : Array Value) (T PT : TypeId) (n : Nat) (hn : W.heap.size = n) :
    ((W.alloc (.cells cs T)).alloc (.cells #[.pointer none, .pointer (some ⟨n, 0, none⟩)] PT)).heap[n]? = some (.cells cs T (0, 0)) ∧
    ((W.alloc (.cells cs T)).alloc (.cells #[.pointer none, .pointer (some ⟨n, 0, none⟩)] PT)).heap[n + 1]? = some (.cells #[.pointer none, .pointer (some ⟨n, 0, none⟩)] PT (0, 0)) := by
  subst hn
  refine ⟨(Below.heap_alloc _ _ _ (by simp)).trans (heap_alloc_new _ _), ?_⟩
  have := heap_alloc_new (W.alloc (.cells cs T)) (.cells #[.pointer none, .pointer (some ⟨W.heap.size, 0, none⟩)] PT)
  rwa [World.size_alloc] at this

theorem hash_build2 (w : World) : (Instr.build 44 #[]).run Try.prog w = .ok (.agg hashZ) w := hash_build w
theorem hash_eqZ (w : World) : (Op.equalIn 10000 44 (.agg hashZ) (.agg #[.int .u8 0, .int .u8 0, .int .u8 0, .int .u8 0, .int .u8 0, .int .u8 0, .int .u8 0, .int .u8 0, .int .u8 0, .int .u8 0, .int .u8 0, .int .u8 0, .int .u8 0, .int .u8 0, .int .u8 0, .int .u8 0, .int .u8 0, .int .u8 0, .int .u8 0, .int .u8 0, .int .u8 0, .int .u8 0, .int .u8 0, .int .u8 0, .int .u8 0, .int .u8 0, .int .u8 0, .int .u8 0, .int .u8 0, .int .u8 0, .int .u8 0, .int .u8 0])).run Try.prog w = .ok true w := by
  obtain ⟨i0, hi, _, _, _⟩ := info_parts u8_info0
  have := run_equalIn_bytes (P := Try.prog) (t := 44) (e := 5) (n := 32) Try.underlying44 hi (by kernel_rfl) Try.underlying5 (by kernel_rfl) 9998 (List.replicate 32 0) (List.replicate 32 0) w rfl rfl
  rw [beq_self_eq_true] at this
  exact this

set_option maxRecDepth 100000 in
set_option maxHeartbeats 8000000 in
theorem codecNone_ok (x : Th) (w : World) (hx : x.Ok) (hb : BytesAt w x.bv x.bytes) :
    Calls Try.prog 6 #[.agg x.cs.toArray] w fun e w' => e = .returned (.bool true) ∧ Keeps Nob w w' := by
  have k0 : Keeps Nob w (w.alloc (.cells x.cs.toArray 46)) := (Keeps.refl _ _).alloc _
  have hT : ThAt w (w.alloc (.cells x.cs.toArray 46)) w.heap.size x := ⟨heap_alloc_new _ _, hb.keepsN k0⟩
  have HAH := Lib.hid (fun W => awake_ok W)
  obtain ⟨A, cap, hbv⟩ := hb.len
  have q36 := hT.c 36 hx.c36
  rw [hbv] at q36
  have HX := Lib.hid hx
  have HT := Lib.hid hT
  have HBV := Lib.hid hbv
  have K0 := Lib.hid k0
  have hle := hb.length_le
  clear hx hT hbv k0 hb
  by_cases g1 : 200 < x.bytes.length
  · have d1 : decide ((200 : Int) < (x.bytes.length : Int)) = true := by simp; omega
    clear g1
    go_enter Try.func6, Try.ntmps6
    go_wp2_with (go_at_call 9; refine (HAH.out _).mono ?_; rintro e w1 ⟨rfl, hk⟩)
    go_ret
    exact ⟨rfl, K0.out.trans hk⟩
  · have d1 : decide ((200 : Int) < (x.bytes.length : Int)) = false := by simp; omega
    go_enter Try.func6, Try.ntmps6
    go_wp2
    obtain ⟨f1, f2⟩ := two_ptrs (w.alloc (.cells x.cs.toArray 46)) #[.slice none 0 0, .int .i64 0, .bool false, .int .i64 0] 64 52 (w.heap.size + 1) (by simp)
    have K1 : Hid (Keeps Nob w (((w.alloc (.cells x.cs.toArray 46)).alloc (.cells #[.slice none 0 0, .int .i64 0, .bool false, .int .i64 0] 64)).alloc (.cells #[.pointer none, .pointer (some ⟨w.heap.size + 1, 0, none⟩)] 52))) := Lib.hid ((K0.out.alloc _).alloc _)
    have T1 : Hid (ThAt w (((w.alloc (.cells x.cs.toArray 46)).alloc (.cells #[.slice none 0 0, .int .i64 0, .bool false, .int .i64 0] 64)).alloc (.cells #[.pointer none, .pointer (some ⟨w.heap.size + 1, 0, none⟩)] 52)) w.heap.size x) := Lib.hid (HT.out.keeps (((Keeps.refl _ _).alloc _).alloc _))
    clear HT K0 q36
    generalize (((w.alloc (.cells x.cs.toArray 46)).alloc (.cells #[.slice none 0 0, .int .i64 0, .bool false, .int .i64 0] 64)).alloc (.cells #[.pointer none, .pointer (some ⟨w.heap.size + 1, 0, none⟩)] 52)) = W1 at *
    have F1 := Lib.hid f1
    have F2 := Lib.hid f2
    clear f1 f2
    go_loopw [4] (fun i V => ∃ k : Nat, k ≤ 2 ∧ i = .int .i64 k ∧ Hid (Keeps Nob W1 V)) (fun i _ => 2 - (intOf i).toNat)
    case atStart => exact ⟨0, by omega, rfl, Lib.hid (Keeps.refl _ _)⟩
    case round =>
      obtain ⟨k, hk, rfl, HK⟩ := hrel
      by_cases hlt : k < 2
      · obtain ⟨p, hp, hno⟩ : ∃ p, wr.cell? ⟨w.heap.size + 1 + 1, k, none⟩ = some p ∧ NoW wr p := by
          have h2 := (HK.out.block _ (lt_of_block F2.out) (fun x => x)).trans F2.out
          have h1 := (HK.out.block _ (lt_of_block F1.out) (fun x => x)).trans F1.out
          rcases (show k = 0 ∨ k = 1 by omega) with rfl | rfl
          · exact ⟨_, (cell_of_row wr _ 0 _ _ _ h2).trans rfl, .inl rfl⟩
          · exact ⟨_, (cell_of_row wr _ 1 _ _ _ h2).trans rfl, .inr ⟨_, rfl, h1⟩⟩
        have hTH := T1.out.keeps HK.out
        have q3 := hTH.c 3 HX.out.c3
        have HN := Lib.hid hno
        have TH := Lib.hid hTH
        have hd : decide ((k : Int) < 2) = true := by simp; omega
        have b1 : (0 : Int) ≤ (k : Int) := by omega
        have b2 : (k : Int) < 2 := by omega
        clear hno hTH
        go_wp2_with (first
          | (go_at_call 35; refine (no_wDone p _ HN.out).mono ?_; rintro e w1 ⟨rfl, rfl⟩)
          | (go_at_call 34; refine (no_wU p x.n _ HN.out HX.out.bn).mono ?_; rintro e w2 ⟨rfl, hk2⟩; have K2 := Lib.hid hk2; have N2 := Lib.hid (HN.out.keeps hk2); have T2 := Lib.hid (TH.out.keeps hk2); have q1 := T2.out.c 1 HX.out.c1; clear hk2)
          | (go_at_call 32; refine (no_wN p x.int _ N2.out HX.out.bi).mono ?_; rintro e w3 ⟨rfl, hk3⟩; have K3 := Lib.hid hk3; have N3 := Lib.hid (N2.out.keeps hk3); have T3 := Lib.hid (T2.out.keeps hk3); clear hk3)
          | (refine own_run_w _ (by kernel_rfl) (exec_load_mid 44 _ rfl w.heap.size 4 rfl (B x.hash) _ (T3.out.hash HX.out) Try.underlying44 rfl (by rw [B_length, HX.out.hl]; exact hash_info)) ?_)
          | (go_at_call 39; refine (no_wHash p x.hash _ N3.out).mono ?_; rintro e w4 ⟨rfl, hk4⟩; have K4 := Lib.hid hk4; have N4 := Lib.hid (N3.out.keeps hk4); have T4 := Lib.hid (T3.out.keeps hk4); have q5 := (T4.out.c 36 HX.out.c36).trans (congrArg some HBV.out); clear hk4)
          | (go_at_call 33; refine (no_wBlob p _ x.bytes _ N4.out (HBV.out ▸ T4.out.bytes) (by omega)).mono ?_; rintro e w5 ⟨rfl, hk5⟩; have K5 := Lib.hid hk5; clear hk5))
        go_roundw
        case rel => exact ⟨k + 1, by omega, by go_num, Lib.hid (((((HK.out.trans K2.out).trans K3.out).trans K4.out)).trans K5.out)⟩
        case measure => simp [intOf]; omega
      · rw [show (k : Int) = 2 by omega]
        have T2 := Lib.hid (T1.out.keeps HK.out)
        have KW := Lib.hid (K1.out.trans HK.out)
        clear F1 F2 HK K1 T1
        obtain ⟨wo, rfl⟩ : ∃ wo : World, wo = wr := ⟨_, rfl⟩
        have hz := hash_eqZ
        go_wp2
        obtain ⟨f1, f2⟩ := two_ptrs wo #[.slice none 0 0, .int .i64 0, .bool false, .pointer none] 69 38 wo.heap.size rfl
        have K3 : Hid (Keeps Nob w ((wo.alloc (.cells #[.slice none 0 0, .int .i64 0, .bool false, .pointer none] 69)).alloc (.cells #[.pointer none, .pointer (some ⟨wo.heap.size, 0, none⟩)] 38))) := Lib.hid ((KW.out.alloc _).alloc _)
        have T3 : Hid (ThAt w ((wo.alloc (.cells #[.slice none 0 0, .int .i64 0, .bool false, .pointer none] 69)).alloc (.cells #[.pointer none, .pointer (some ⟨wo.heap.size, 0, none⟩)] 38)) w.heap.size x) := Lib.hid (T2.out.keeps (((Keeps.refl _ _).alloc _).alloc _))
        clear T2 KW
        generalize ((wo.alloc (.cells #[.slice none 0 0, .int .i64 0, .bool false, .pointer none] 69)).alloc (.cells #[.pointer none, .pointer (some ⟨wo.heap.size, 0, none⟩)] 38)) = W3 at *
        generalize wo.heap.size = gz at *
        have F1 := Lib.hid f1
        have F2 := Lib.hid f2
        clear f1 f2
        go_loopw [9] (fun i V => ∃ k : Nat, k ≤ 2 ∧ i = .int .i64 k ∧ Hid (Keeps Nob W3 V)) (fun i _ => 2 - (intOf i).toNat)
        case atStart => exact ⟨0, by omega, rfl, Lib.hid (Keeps.refl _ _)⟩
        case round =>
          obtain ⟨k, hk, rfl, HK⟩ := hrel
          by_cases hlt : k < 2
          · obtain ⟨p, hp, hno⟩ : ∃ p, wr.cell? ⟨gz + 1, k, none⟩ = some p ∧ NoR wr p := by
              have h2 := (HK.out.block _ (lt_of_block F2.out) (fun x => x)).trans F2.out
              have h1 := (HK.out.block _ (lt_of_block F1.out) (fun x => x)).trans F1.out
              rcases (show k = 0 ∨ k = 1 by omega) with rfl | rfl
              · exact ⟨_, (cell_of_row wr _ 0 _ _ _ h2).trans rfl, .inl rfl⟩
              · exact ⟨_, (cell_of_row wr _ 1 _ _ _ h2).trans rfl, .inr ⟨_, rfl, h1⟩⟩
            have hTH := T3.out.keeps HK.out
            have q1 := hTH.c 1 HX.out.c1
            have q6 := hTH.c 37 HX.out.c37
            have HN := Lib.hid hno
            have TH := Lib.hid hTH
            have hd : decide ((k : Int) < 2) = true := by simp; omega
            have b1 : (0 : Int) ≤ (k : Int) := by omega
            have b2 : (k : Int) < 2 := by omega
            clear hno hTH
            go_wp2_with (first
              | (go_at_call 40; refine (no_rFail p x.errno x.int _ HN.out).mono ?_; rintro e w1 ⟨⟨r, rfl⟩, rfl⟩)
              | (go_at_call 38; refine (no_rU p _ HN.out).mono ?_; rintro e w1 ⟨rfl, rfl⟩)
              | (go_at_call 36; refine (no_rN p 0 x.int _ HN.out).mono ?_; rintro e w2 ⟨rfl, hk2⟩; have K2 := Lib.hid hk2; have N2 := Lib.hid (HN.out.keeps hk2); have T2 := Lib.hid (TH.out.keeps hk2); clear hk2)
              | (go_at_call 41; refine (no_rHash p _ N2.out).mono ?_; rintro e w3 ⟨rfl, hk3⟩; have K4 := Lib.hid hk3; have N3 := Lib.hid (N2.out.keeps hk3); have T4 := Lib.hid (T2.out.keeps hk3); have q7 := T4.out.c 1 HX.out.c1; clear hk3)
              | (go_at_call 37; refine (no_rBlob p x.int _ N3.out).mono ?_; rintro e w4 ⟨rfl, hk4⟩; have K5 := Lib.hid hk4; have N4 := Lib.hid (N3.out.keeps hk4); clear hk4)
              | (go_at_call 23; refine (no_rAt p _ N4.out).mono ?_; rintro e w5 ⟨rfl, rfl⟩)
              | (go_at_call 25; refine (no_rLeft p _ N4.out).mono ?_; rintro e w5 ⟨rfl, rfl⟩)
              | (go_at_call 27; refine (no_rEnd p _ N4.out).mono ?_; rintro e w5 ⟨rfl, hk5⟩; have K6 := Lib.hid hk5; clear hk5))
            go_roundw
            case rel => exact ⟨k + 1, by omega, by go_num, Lib.hid ((((HK.out.trans K2.out).trans K4.out).trans K5.out).trans K6.out)⟩
            case measure => simp [intOf]; omega
          · have hd : decide ((k : Int) < 2) = false := by simp; omega
            go_wp2_with (go_at_call 9; refine (HAH.out _).mono ?_; rintro e w1 ⟨rfl, hk⟩)
            go_ret
            exact ⟨rfl, (K3.out.trans HK.out).trans hk⟩

set_option maxRecDepth 100000 in
theorem open_thing {H : Type} {enc : TypeId × Value → H} {W : World} {sp : Nat → Bool} {held : Bool} {v : Value} {d : DataW H} {ps : List MemPlace} {R : Reach} {base : Nat} (h : DataW.Trod enc Try.prog W 0 sp held 46 v d ps) (hv : Value.okWide Try.prog W R base 46 v) :
    ∃ x : Th, v = .agg x.cs.toArray ∧ x.Ok ∧ BytesAt W x.bv x.bytes := by
  obtain ⟨cs, rfl, hsz⟩ := Go.WideShapes.okWide_struct Try.underlying46 hv
  have hC : Try.prog.cellsOf 46 = 38 := by kernel_rfl
  have hi : Try.prog.cellsOf 3 = 1 := by kernel_rfl
  have hu : Try.prog.cellsOf 22 = 1 := by kernel_rfl
  have he : Try.prog.cellsOf 27 = 1 := by kernel_rfl
  rw [hC] at hsz
  obtain ⟨fuel, ht⟩ := h
  have ht : DataW.trod enc Try.prog W 0 sp held fuel 46 cs.toList = some (d, ps) := ht
  obtain ⟨xs, n', _, _, _, hxl, hf⟩ := DataW.trod_struct Try.underlying46 ht
  obtain ⟨q0, e0, f0⟩ := field_int Try.underlying3 hi (hf 0 _ rfl) (List.getElem?_eq_getElem (by rw [hxl]; decide))
  obtain ⟨q1, e1, f1⟩ := field_int Try.underlying3 hi (hf 1 _ rfl) (List.getElem?_eq_getElem (by rw [hxl]; decide))
  obtain ⟨q2, e2, f2⟩ := field_int Try.underlying3 hi (hf 2 _ rfl) (List.getElem?_eq_getElem (by rw [hxl]; decide))
  obtain ⟨q3, e3, f3⟩ := field_int Try.underlying22 hu (hf 3 _ rfl) (List.getElem?_eq_getElem (by rw [hxl]; decide))
  obtain ⟨q6, e6, f6⟩ := field_int Try.underlying27 he (hf 6 _ rfl) (List.getElem?_eq_getElem (by rw [hxl]; decide))
  have hcl : cs.toList.length = 38 := by simpa using hsz
  obtain ⟨hs, hs1, hs2⟩ := open_hash_cells (off := 4) (by omega) (hf 4 _ rfl) (List.getElem?_eq_getElem (by rw [hxl]; decide))
  obtain ⟨bv, bl, e5, b2⟩ := open_bytes_cells (off := 36) (hf 5 _ rfl) (List.getElem?_eq_getElem (by rw [hxl]; decide))
  obtain ⟨qn, hn, rfl⟩ := u64_nat f3
  exact ⟨⟨cs.toList, q0, q1, q2, qn, hs, bv, bl, q6⟩, by simp, ⟨hcl, e0, e1, e2, e3, hs2, e5, e6, bounds_i64 f1, bounds_i64 f2, hn, hs1⟩, b2⟩
end Go.Proofs.Ytbdjphaiohinnaa
