/-
  MessageScripts (printed by msg17.py). Conditions: none.
-/
import Derived.Test.YtmapcghgdbfmhaaMsgOv
import Derived.Test.YtmapcghgdbfmhaaMsgV
import Derived.Test.YtmapcghgdbfmhaaMsgW
import Derived.Test.YtmapcghgdbfmhaaPickOk
namespace Go.Proofs.Ytmapcghgdbfmhaa
open Go Go.RowKit Go.Own Go.Shelf
theorem lent_lt {w : World} {v : Value} {l : List UInt8} (h : Lent w v l) {j : Nat} (hj : v.ownBlock = some j) : j < w.heap.size := by
  obtain ⟨g, cap, rfl, hr⟩ := h
  exact hr.lt (by simpa [Value.ownBlock] using hj)
theorem wp_act {P : Program} {c : Code} {Q : Exit → Act → World → Prop} {a : Act} {w : World} (b : Act) (h : a = b) (hq : c.wp P Q b w) : c.wp P Q a w := h ▸ hq
theorem made_B (n : Nat) : madeCells (Value.int .u8 0).cells (n * 1) = (B (List.replicate n 0)).toArray := by
  rw [show (Value.int .u8 0).cells = #[.int .u8 0] from rfl]
  unfold madeCells
  apply Array.ext
  · simp [B]
  · intro i h1 h2; simp [B, Nat.mod_one]
theorem long_cast {w : World} {v : Value} {t : Nat} {l : List UInt8} (h : Row w 5 1 v (t + l.length) (B (List.replicate t 0) ++ B l)) : Row w 5 1 v (List.replicate t 0 ++ l).length (B (List.replicate t 0 ++ l)) := by
  rw [List.length_append, List.length_replicate]
  have e : B (List.replicate t 0 ++ l) = B (List.replicate t 0) ++ B l := by simp [B]
  rw [e]; exact h
theorem repl_cast {w : World} {T : TypeId} {v x : Value} {n i : Nat} {xs : List Value} (h : Row w T 1 v (n + i + 1) ((xs ++ List.replicate i x) ++ [x])) : Row w T 1 v (n + (i + 1)) (xs ++ List.replicate (i + 1) x) := by
  rw [List.append_assoc, ← List.replicate_succ'] at h; exact h
theorem all_lists {w : World} {v x : Value} {N t : Nat} {xs : List Value} {ls : List (List UInt8)} {m : List UInt8} (hr : Row w 22 1 v (ls.length + t) (xs ++ List.replicate t x)) (hc : Copied w N xs ls) (hl : xs.length = ls.length) (hx : BytesAt w x m) : ListsAt w v (xs ++ List.replicate t x) (ls ++ List.replicate t m) :=
  row_lists hr (by simp) fun k u y hu hy => by
    by_cases hk : k < ls.length
    · rw [List.getElem?_append_left (by omega)] at hu
      rw [List.getElem?_append_left hk] at hy
      obtain ⟨y', e, h1, _⟩ := hc k u hu
      rw [hy] at e; cases e
      exact Row.bytes h1
    · rw [List.getElem?_append_right (by omega)] at hu
      rw [List.getElem?_append_right (by omega)] at hy
      rw [List.getElem?_replicate] at hu hy
      split at hu
      · split at hy
        · cases hu; cases hy; exact hx
        · cases hy
      · cases hu
theorem pick_is (x : Int) (n t : Nat) (w : World) (hx : i64b x) (h0 : 0 < n) (hn : n ≤ 9223372036854775807) (ht : (t : Int) = x % (n : Int)) : Calls Try.prog 28 #[.int .i64 x, .int .i64 (n : Int)] w fun e w' => e = .returned (.int .i64 ((t : Nat) : Int)) ∧ w = w' :=
  (pick_ok x (n : Int) w ⟨by have := hx.1; omega, by have := hx.2; omega⟩ (by omega)).mono fun e w' ⟨h1, h2⟩ => by
    rw [if_neg (by omega)] at h1
    exact ⟨by rw [h1, ht], h2⟩
theorem pick_ex (x : Int) (n : Nat) (h0 : 0 < n) : ∃ t : Nat, t < n ∧ (t : Int) = x % (n : Int) := by
  have h3 := Int.emod_nonneg x (show (n : Int) ≠ 0 by omega)
  have h4 := Int.emod_lt_of_pos x (show (0 : Int) < (n : Int) by omega)
  exact ⟨(x % (n : Int)).toNat, by omega, by omega⟩
theorem pick4101 (x : Int) (t : Nat) (w : World) (hx : i64b x) (ht : (t : Int) = x % ((4101 : Nat) : Int)) : Calls Try.prog 28 #[.int .i64 x, .int .i64 4101] w fun e w' => e = .returned (.int .i64 ((t : Nat) : Int)) ∧ w = w' := pick_is x 4101 t w hx (by decide) (by decide) ht
theorem pick1010 (x : Int) (t : Nat) (w : World) (hx : i64b x) (ht : (t : Int) = x % ((1010 : Nat) : Int)) : Calls Try.prog 28 #[.int .i64 x, .int .i64 1010] w fun e w' => e = .returned (.int .i64 ((t : Nat) : Int)) ∧ w = w' := pick_is x 1010 t w hx (by decide) (by decide) ht
theorem big_mem {ls : List (List UInt8)} {m : List UInt8} {t : Nat} (hs : ∀ l ∈ ls, l.length ≤ 200) (hm : m.length ≤ 100000) : ∀ (k : Nat) (l : List UInt8), (ls ++ List.replicate t m)[k]? = some l → l.length ≤ 100000 := fun k l h => by
  rcases List.mem_append.1 (List.mem_of_getElem? h) with h | h
  · have := hs l h; omega
  · rw [List.eq_of_mem_replicate h]; exact hm
theorem mPack_row (v : Value) (us : List Value) (ls : List (List UInt8)) (w : World) (h0 : ListsAt w v us ls) : Calls Try.prog 29 #[v] w (fun e w' => ∃ X, e = .returned (.tuple #[X, .int .i64 (packR ls).2]) ∧ Row w' 5 1 X (packR ls).1.length (B (packR ls).1) ∧ NewFrom w.heap.size X ∧ Keeps Nob w w') := by
  obtain ⟨A, cap, rfl, _⟩ := h0.form
  exact mPack_any A cap us ls w h0 (fun _ _ h => ListsAt.sizes h0 h)
theorem rmPack_row (v : Value) (us : List Value) (ls : List (List UInt8)) (w : World) (h0 : ListsAt w v us ls) : Calls Try.prog 30 #[v] w (fun e w' => ∃ X, e = .returned (.tuple #[X, .int .i64 (packR ls).2]) ∧ Row w' 5 1 X (packR ls).1.length (B (packR ls).1) ∧ NewFrom w.heap.size X ∧ Keeps Nob w w') := by
  obtain ⟨A, cap, rfl, _⟩ := h0.form
  exact rmPack_any A cap us ls w h0 (fun _ _ h => ListsAt.sizes h0 h)

noncomputable def part_MessageScripts (n : Nat) : Code := partOf Try.f5 n
noncomputable abbrev o_MessageScripts (n k : Nat) : Oper := (opsAt (part_MessageScripts n)).getD k default
set_option maxRecDepth 100000 in
set_option maxHeartbeats 4000000 in
theorem mscr_two {u0 u1 u2 u4 u5 u6 u7 u8 u10 u11 u12 u13 u14 u15 u16 u17 u18 u19 u20 u21 u22 u23 u24 u25 u26 u27 u28 u29 u30 u31 u32 u33 u34 u35 u36 u37 u38 u39 u40 u41 u42 u43 u44 u45 u46 u47 u48 u49 u50 u51 u52 u53 u54 u55 u56 : Value} (A2 : Option Addr) (cap2 : Nat) (us2 : List Value) (ls2 : List (List UInt8)) (A0 : Option Addr) (cap0 : Nat) (l : List UInt8) (wb w : World) (hk0 : Keeps Nob wb w) (hL2 : ListsAt w (.slice A2 ls2.length cap2) us2 ls2) (hx : BytesAt w (.slice A0 l.length cap0) l) (hl : l.length ≤ 600) (hB2 : ∀ (k : Nat) (l : List UInt8), ls2[k]? = some l → l.length ≤ 100000) (hn2 : ls2.length ≤ 100000) :
    Code.wp Try.prog (part_MessageScripts 31) (bodyPost Try.prog Try.f5 (fun e w' => e = .returned (.bool true) ∧ Keeps Nob wb w')) ⟨#[u0, u1, u2, .slice A0 l.length cap0, u4, u5, u6, u7, u8, .slice A2 ls2.length cap2, u10, u11, u12, u13, u14, u15, u16, u17, u18, u19, u20, u21, u22, u23, u24, u25, u26, u27, u28, u29, u30, u31, u32, u33, u34, u35, u36, u37, u38, u39, u40, u41, u42, u43, u44, u45, u46, u47, u48, u49, u50, u51, u52, u53, u54, u55, u56, undef, undef, undef, undef, undef, undef, undef, undef, undef, undef, undef, undef, undef, undef, undef, undef, undef, undef, undef, undef, undef, undef, undef, undef, undef, undef, undef, undef, undef, undef, undef, undef, undef, undef, undef, undef, undef, undef, undef, undef, undef, undef, undef, undef, undef, undef, undef, undef, undef, undef, undef, undef, undef, undef, undef, undef, undef, undef, undef, undef, undef, undef, undef, undef, undef], []⟩ w := by
  have K0 : Keeps Nob w w := Keeps.refl _ _
  refine sy_sq (part_MessageScripts 62) (part_MessageScripts 63) ?_
  refine sy_reg ?_
  refine rg_plain 10 (opsAt (part_MessageScripts 62)) [0, 1, 2] (by kernel_rfl) (by kernel_rfl) ?_
  refine ps_k (o_MessageScripts 62 0) (.slice A2 ls2.length cap2) ?_
  refine ps_c (o_MessageScripts 62 1) 27 #[.slice A2 ls2.length cap2] Try.func27 ((kCopyLists_ok A2 cap2 us2 ls2 _ hL2 hB2 hn2).mono ?_)
  rintro e V1 ⟨vi, xsi, rfl, hri, hni, hci, kV1⟩
  obtain ⟨A4, c4, rfl⟩ := row_form hri
  have hLi := hci.lists hri
  refine ⟨_, rfl, ?_⟩
  have h2 : ListsAt V1 (.slice A2 ls2.length cap2) us2 ls2 := hL2.keepsN kV1
  have K3 := K0.nn kV1
  have z4 := kV1.size
  refine ps_k (o_MessageScripts 62 2) (.slice A4 ls2.length c4) ?_
  refine ps_end ?_
  refine then_n ?_
  refine sy_sq (part_MessageScripts 126) (part_MessageScripts 127) ?_
  refine sy_reg ?_
  refine rg_plain 11 (opsAt (part_MessageScripts 126)) [0, 1, 2, 3, 4, 5, 6] (by kernel_rfl) (by kernel_rfl) ?_
  refine ps_k (o_MessageScripts 126 0) (.slice A4 ls2.length c4) ?_
  refine ps_c (o_MessageScripts 126 1) 29 #[.slice A4 ls2.length c4] Try.func29 ((mPack_row _ _ ls2 _ hLi).mono ?_)
  rintro e V5 ⟨X, rfl, hX, nX, kV5⟩
  have lX : ∀ j, X.ownBlock = some j → j < V5.heap.size := fun j hj => hX.lt hj
  refine ⟨_, rfl, ?_⟩
  have h6 : ListsAt V5 (.slice A2 ls2.length cap2) us2 ls2 := h2.keepsN kV5
  have h7 : ListsAt V5 (.slice A4 ls2.length c4) xsi ls2 := hLi.keepsN kV5
  have K8 := K3.nn kV5
  have z9 := kV5.size
  refine ps_k (o_MessageScripts 126 2) (.tuple #[X, .int .i64 (packR ls2).2]) ?_
  refine ps_k (o_MessageScripts 126 3) (X) ?_
  refine ps_k (o_MessageScripts 126 4) (.int .i64 (packR ls2).2) ?_
  refine ps_k (o_MessageScripts 126 5) (X) ?_
  refine ps_k (o_MessageScripts 126 6) (.int .i64 (packR ls2).2) ?_
  refine ps_end ?_
  refine then_n ?_
  refine sy_sq (part_MessageScripts 254) (part_MessageScripts 255) ?_
  refine sy_reg ?_
  refine rg_plain 12 (opsAt (part_MessageScripts 254)) [0, 1, 2, 3, 4, 5, 6] (by kernel_rfl) (by kernel_rfl) ?_
  refine ps_k (o_MessageScripts 254 0) (.slice A2 ls2.length cap2) ?_
  refine ps_c (o_MessageScripts 254 1) 30 #[.slice A2 ls2.length cap2] Try.func30 ((rmPack_row _ _ ls2 _ h6).mono ?_)
  rintro e V10 ⟨Y, rfl, hY, nY, kV10⟩
  have lY : ∀ j, Y.ownBlock = some j → j < V10.heap.size := fun j hj => hY.lt hj
  refine ⟨_, rfl, ?_⟩
  have h11 : ListsAt V10 (.slice A2 ls2.length cap2) us2 ls2 := h6.keepsN kV10
  have h12 : ListsAt V10 (.slice A4 ls2.length c4) xsi ls2 := h7.keepsN kV10
  have h13 : Row V10 5 1 X (packR ls2).1.length (B (packR ls2).1) := hX.keeps kV10 (fun _ _ x => x)
  have K14 := K8.nn kV10
  have z15 := kV10.size
  refine ps_k (o_MessageScripts 254 2) (.tuple #[Y, .int .i64 (packR ls2).2]) ?_
  refine ps_k (o_MessageScripts 254 3) (Y) ?_
  refine ps_k (o_MessageScripts 254 4) (.int .i64 (packR ls2).2) ?_
  refine ps_k (o_MessageScripts 254 5) (Y) ?_
  refine ps_k (o_MessageScripts 254 6) (.int .i64 (packR ls2).2) ?_
  refine ps_end ?_
  refine then_n ?_
  refine sy_sq (part_MessageScripts 510) (part_MessageScripts 511) ?_
  refine sy_sq (part_MessageScripts 1020) (part_MessageScripts 1021) ?_
  refine sy_reg ?_
  refine rg_plain 13 (opsAt (part_MessageScripts 1020)) [0, 1, 2, 3, 4, 5, 6, 7, 8, 9, 10, 11, 12, 13, 14] (by kernel_rfl) (by kernel_rfl) ?_
  refine ps_k (o_MessageScripts 1020 0) (X) ?_
  refine ps_k (o_MessageScripts 1020 1) (Y) ?_
  refine ps_c (o_MessageScripts 1020 2) 16 #[X, Y] Try.func16 ((mSameBytes (Row.bytes h13) (Row.bytes hY) rfl).mono ?_)
  rintro e w1 ⟨rfl, rfl⟩
  refine ⟨_, rfl, ?_⟩
  refine ps_k (o_MessageScripts 1020 3) (.bool false) ?_
  refine ps_k (o_MessageScripts 1020 4) (.bool false) ?_
  refine ps_k (o_MessageScripts 1020 5) (.int .i64 (packR ls2).2) ?_
  refine ps_k (o_MessageScripts 1020 6) (.int .i64 (packR ls2).2) ?_
  refine ps_p (o_MessageScripts 1020 7) (.bool false) (exec_cast (congrArg Value.bool (show (((((packR ls2).2) : Int) != (((packR ls2).2) : Int))) = false from by simp)) (by kernel_rfl)) ?_
  refine ps_k (o_MessageScripts 1020 8) (.bool false) ?_
  refine ps_k (o_MessageScripts 1020 9) (.bool false) ?_
  refine ps_k (o_MessageScripts 1020 10) (.slice A4 ls2.length c4) ?_
  refine ps_k (o_MessageScripts 1020 11) (.slice A2 ls2.length cap2) ?_
  refine ps_c (o_MessageScripts 1020 12) 31 #[.slice A4 ls2.length c4, .slice A2 ls2.length cap2] Try.func31 ((kSameLists_ok A4 A2 c4 cap2 xsi us2 ls2 _ h12 h11).mono ?_)
  rintro e V16 ⟨rfl, kV16⟩
  refine ⟨_, rfl, ?_⟩
  have h17 : ListsAt V16 (.slice A2 ls2.length cap2) us2 ls2 := h11.keepsN kV16
  have h18 : ListsAt V16 (.slice A4 ls2.length c4) xsi ls2 := h12.keepsN kV16
  have h19 : Row V16 5 1 X (packR ls2).1.length (B (packR ls2).1) := h13.keeps kV16 (fun _ _ x => x)
  have h20 : Row V16 5 1 Y (packR ls2).1.length (B (packR ls2).1) := hY.keeps kV16 (fun _ _ x => x)
  have K21 := K14.nn kV16
  have z22 := kV16.size
  refine ps_k (o_MessageScripts 1020 13) (.bool false) ?_
  refine ps_k (o_MessageScripts 1020 14) (.bool false) ?_
  refine ps_end ?_
  refine sy_a ⟨#[u0, u1, u2, .slice A0 l.length cap0, u4, u5, u6, u7, u8, .slice A2 ls2.length cap2, u10, u11, .slice A4 ls2.length c4, X, .int .i64 (packR ls2).2, Y, .int .i64 (packR ls2).2, u17, u18, u19, u20, u21, u22, u23, u24, u25, u26, u27, u28, u29, u30, u31, u32, u33, u34, u35, u36, u37, u38, u39, u40, u41, u42, u43, u44, u45, u46, u47, u48, u49, u50, u51, u52, u53, u54, u55, u56, .slice A2 ls2.length cap2, .slice A4 ls2.length c4, .tuple #[X, .int .i64 (packR ls2).2], .slice A4 ls2.length c4, .tuple #[X, .int .i64 (packR ls2).2], X, .int .i64 (packR ls2).2, .tuple #[Y, .int .i64 (packR ls2).2], .slice A2 ls2.length cap2, .tuple #[Y, .int .i64 (packR ls2).2], Y, .int .i64 (packR ls2).2, X, Y, .bool true, .bool false, .bool false, .int .i64 (packR ls2).2, .int .i64 (packR ls2).2, .bool false, .bool false, .bool false, .slice A4 ls2.length c4, .slice A2 ls2.length cap2, .bool true, .bool false, .bool false, undef, undef, undef, undef, undef, undef, undef, undef, undef, undef, undef, undef, undef, undef, undef, undef, undef, undef, undef, undef, undef, undef, undef, undef, undef, undef, undef, undef, undef, undef, undef, undef, undef, undef, undef, undef, undef, undef], []⟩ ?_
  refine then_n ?_
  refine sy_n (.tmp 83) (part_MessageScripts 2042) (part_MessageScripts 2043) ?_
  refine sy_sk ?_
  refine then_n ?_
  refine sy_sq (part_MessageScripts 1022) (part_MessageScripts 1023) ?_
  refine sy_reg ?_
  refine rg_plain 15 (opsAt (part_MessageScripts 1022)) [0, 1, 2] (by kernel_rfl) (by kernel_rfl) ?_
  refine ps_k (o_MessageScripts 1022 0) (.slice A0 l.length cap0) ?_
  refine ps_c (o_MessageScripts 1022 1) 10 #[.slice A0 l.length cap0] Try.func10 ((lentBytes_ok _ l _ (hx.keepsN K21) (by omega)).mono ?_)
  rintro e V23 ⟨lv, rfl, hL, hnL, kV23⟩
  have hlt : ∀ j, lv.ownBlock = some j → j < V23.heap.size := fun j hj => lent_lt hL hj
  refine ⟨_, rfl, ?_⟩
  have h24 : ListsAt V23 (.slice A2 ls2.length cap2) us2 ls2 := h17.keepsN kV23
  have h25 : ListsAt V23 (.slice A4 ls2.length c4) xsi ls2 := h18.keepsN kV23
  have h26 : Row V23 5 1 X (packR ls2).1.length (B (packR ls2).1) := h19.keeps kV23 (fun _ _ x => x)
  have h27 : Row V23 5 1 Y (packR ls2).1.length (B (packR ls2).1) := h20.keeps kV23 (fun _ _ x => x)
  have K28 := K21.nn kV23
  have z29 := kV23.size
  refine ps_k (o_MessageScripts 1022 2) (lv) ?_
  refine ps_end ?_
  refine then_n ?_
  refine sy_sq (part_MessageScripts 2046) (part_MessageScripts 2047) ?_
  refine sy_reg ?_
  refine rg_plain 16 (opsAt (part_MessageScripts 2046)) [0, 1, 2, 3, 4, 5, 6, 7] (by kernel_rfl) (by kernel_rfl) ?_
  refine ps_k (o_MessageScripts 2046 0) (lv) ?_
  have hl6 := (BytesAt.length_le (hx.keepsN K28))
  obtain ⟨N6, hN6⟩ : ∃ n, V23.heap.size = n := ⟨_, rfl⟩
  refine ps_c (o_MessageScripts 2046 1) 32 #[lv] Try.func32 ((mUnpack_any _ l _ (Lent.bytes hL) hl6).mono ?_)
  rintro e V30 ⟨Xu, xu, rfl, hru, hnu, hcu, hau, kV30⟩
  obtain ⟨A5, c5, rfl⟩ := row_form hru
  rw [hN6] at hnu hcu
  refine ⟨_, rfl, ?_⟩
  have h31 : ListsAt V30 (.slice A2 ls2.length cap2) us2 ls2 := h24.keepsN kV30
  have h32 : ListsAt V30 (.slice A4 ls2.length c4) xsi ls2 := h25.keepsN kV30
  have h33 : Row V30 5 1 X (packR ls2).1.length (B (packR ls2).1) := h26.keeps kV30 (fun _ _ x => x)
  have h34 : Row V30 5 1 Y (packR ls2).1.length (B (packR ls2).1) := h27.keeps kV30 (fun _ _ x => x)
  have h35 : Lent V30 lv l := hL.keeps kV30 (fun _ _ x => x)
  have K36 := K28.nn kV30
  have z37 := kV30.size
  refine ps_k (o_MessageScripts 2046 2) (.tuple #[.slice A5 (unR l).1.length c5, .agg #[.int .i64 (unR l).2.1, .int .i64 (unR l).2.2]]) ?_
  refine ps_k (o_MessageScripts 2046 3) (.slice A5 (unR l).1.length c5) ?_
  refine ps_k (o_MessageScripts 2046 4) (.agg #[.int .i64 (unR l).2.1, .int .i64 (unR l).2.2]) ?_
  obtain ⟨V38, eV38, g19, eg19, h39, kV38⟩ := alloc_step V30 (#[.int .i64 0, .int .i64 0]) 38
  have n40 : w.heap.size ≤ g19 := eg19 ▸ K36.size
  refine ps_r (o_MessageScripts 2046 5) (pT g19 0) (w' := V38) (by rw [← eV38, ← eg19]; exact exec_alloc0 38 (by kernel_rfl) (.agg (#[.int .i64 0, .int .i64 0])) (by kernel_rfl)) ?_
  clear eV38
  have h41 : ListsAt V38 (.slice A2 ls2.length cap2) us2 ls2 := h31.keepsN kV38
  have h42 : ListsAt V38 (.slice A4 ls2.length c4) xsi ls2 := h32.keepsN kV38
  have h43 : Row V38 5 1 X (packR ls2).1.length (B (packR ls2).1) := h33.keeps kV38 (fun _ _ x => x)
  have h44 : Row V38 5 1 Y (packR ls2).1.length (B (packR ls2).1) := h34.keeps kV38 (fun _ _ x => x)
  have h45 : Lent V38 lv l := h35.keeps kV38 (fun _ _ x => x)
  have h46 : Row V38 22 1 (.slice A5 (unR l).1.length c5) (unR l).1.length xu := hru.keeps kV38 (fun _ _ x => x)
  have h47 : Copied V38 N6 xu (unR l).1 := hcu.keepsN kV38
  have K48 := K36.nn kV38
  have z49 := kV38.size
  refine ps_k (o_MessageScripts 2046 6) (.slice A5 (unR l).1.length c5) ?_
  obtain ⟨V50, eV50, kV50⟩ := rowset_step V38 g19 (#[.int .i64 (unR l).2.1, .int .i64 (unR l).2.2])
  have h51 : V50.heap[g19]? = some (.cells (#[.int .i64 (unR l).2.1, .int .i64 (unR l).2.2]) 38 (0, 0)) := eV50 ▸ setRow_heap _ _ _ _ _ _ h39
  refine ps_s (o_MessageScripts 2046 7) (w' := V50) (by rw [← eV50]; exact exec_store_row 38 (.tmp 19) (.tmp 90) (by kernel_rfl) g19 (#[.int .i64 (unR l).2.1, .int .i64 (unR l).2.2]) (by kernel_rfl) (by kernel_rfl) 38 (#[.int .i64 0, .int .i64 0]) h39 (by kernel_rfl) rfl (by kernel_rfl)) ?_
  clear eV50
  have h52 : ListsAt V50 (.slice A2 ls2.length cap2) us2 ls2 := ListsAt.keepsB hL2 h41 kV50 (fun j hj e => by unfold Own.One at e; omega)
  have h53 : ListsAt V50 (.slice A4 ls2.length c4) xsi ls2 := ListsAt.keepsB hLi h42 kV50 (fun j hj e => by unfold Own.One at e; omega)
  have h54 : Row V50 5 1 X (packR ls2).1.length (B (packR ls2).1) := h43.keeps kV50 (fun j hj e => by have := lX j hj; unfold Own.One at e; omega)
  have h55 : Row V50 5 1 Y (packR ls2).1.length (B (packR ls2).1) := h44.keeps kV50 (fun j hj e => by have := lY j hj; unfold Own.One at e; omega)
  have h56 : Lent V50 lv l := h45.keeps kV50 (fun j hj e => by have := hlt j hj; unfold Own.One at e; omega)
  have h57 : Row V50 22 1 (.slice A5 (unR l).1.length c5) (unR l).1.length xu := h46.keeps kV50 (fun j hj e => Row.ne h46 h39 (by decide) ((show j = g19 from e) ▸ hj))
  have h58 : Copied V50 N6 xu (unR l).1 := h47.keepsT kV50 h39 (by decide)
  have K59 := K48.no kV50 (by omega)
  have z60 := kV50.size
  refine ps_end ?_
  refine then_n ?_
  refine sy_sq (part_MessageScripts 4094) (part_MessageScripts 4095) ?_
  refine sy_reg ?_
  refine rg_plain 17 (opsAt (part_MessageScripts 4094)) [0, 1, 2, 3, 4, 5, 6, 7] (by kernel_rfl) (by kernel_rfl) ?_
  refine ps_k (o_MessageScripts 4094 0) (.slice A0 l.length cap0) ?_
  have hl6 := (BytesAt.length_le (hx.keepsN K59))
  refine ps_c (o_MessageScripts 4094 1) 33 #[.slice A0 l.length cap0] Try.func33 ((rmUnpack_any _ l _ (hx.keepsN K59) hl6).mono ?_)
  rintro e V61 ⟨Xw, xw, rfl, hrw, hnw, hcw, haw, kV61⟩
  obtain ⟨A6, c6, rfl⟩ := row_form hrw
  refine ⟨_, rfl, ?_⟩
  have h62 : ListsAt V61 (.slice A2 ls2.length cap2) us2 ls2 := h52.keepsN kV61
  have h63 : ListsAt V61 (.slice A4 ls2.length c4) xsi ls2 := h53.keepsN kV61
  have h64 : Row V61 5 1 X (packR ls2).1.length (B (packR ls2).1) := h54.keeps kV61 (fun _ _ x => x)
  have h65 : Row V61 5 1 Y (packR ls2).1.length (B (packR ls2).1) := h55.keeps kV61 (fun _ _ x => x)
  have h66 : Lent V61 lv l := h56.keeps kV61 (fun _ _ x => x)
  have h67 : Row V61 22 1 (.slice A5 (unR l).1.length c5) (unR l).1.length xu := h57.keeps kV61 (fun _ _ x => x)
  have h68 : Copied V61 N6 xu (unR l).1 := h58.keepsN kV61
  have h69 := kV61.bk h51
  have K70 := K59.nn kV61
  have z71 := kV61.size
  refine ps_k (o_MessageScripts 4094 2) (.tuple #[.slice A6 (unR l).1.length c6, .agg #[.int .i64 (unR l).2.1, .int .i64 (unR l).2.2]]) ?_
  refine ps_k (o_MessageScripts 4094 3) (.slice A6 (unR l).1.length c6) ?_
  refine ps_k (o_MessageScripts 4094 4) (.agg #[.int .i64 (unR l).2.1, .int .i64 (unR l).2.2]) ?_
  obtain ⟨V72, eV72, g21, eg21, h73, kV72⟩ := alloc_step V61 (#[.int .i64 0, .int .i64 0]) 38
  have n74 : g19 < g21 := eg21 ▸ lt_of_block h69
  have n75 : w.heap.size ≤ g21 := eg21 ▸ K70.size
  refine ps_r (o_MessageScripts 4094 5) (pT g21 0) (w' := V72) (by rw [← eV72, ← eg21]; exact exec_alloc0 38 (by kernel_rfl) (.agg (#[.int .i64 0, .int .i64 0])) (by kernel_rfl)) ?_
  clear eV72
  have h76 : ListsAt V72 (.slice A2 ls2.length cap2) us2 ls2 := h62.keepsN kV72
  have h77 : ListsAt V72 (.slice A4 ls2.length c4) xsi ls2 := h63.keepsN kV72
  have h78 : Row V72 5 1 X (packR ls2).1.length (B (packR ls2).1) := h64.keeps kV72 (fun _ _ x => x)
  have h79 : Row V72 5 1 Y (packR ls2).1.length (B (packR ls2).1) := h65.keeps kV72 (fun _ _ x => x)
  have h80 : Lent V72 lv l := h66.keeps kV72 (fun _ _ x => x)
  have h81 : Row V72 22 1 (.slice A5 (unR l).1.length c5) (unR l).1.length xu := h67.keeps kV72 (fun _ _ x => x)
  have h82 : Copied V72 N6 xu (unR l).1 := h68.keepsN kV72
  have h83 := kV72.bk h69
  have h84 : Row V72 22 1 (.slice A6 (unR l).1.length c6) (unR l).1.length xw := hrw.keeps kV72 (fun _ _ x => x)
  have h85 : Copied V72 V50.heap.size xw (unR l).1 := hcw.keepsN kV72
  have K86 := K70.nn kV72
  have z87 := kV72.size
  refine ps_k (o_MessageScripts 4094 6) (.slice A6 (unR l).1.length c6) ?_
  obtain ⟨V88, eV88, kV88⟩ := rowset_step V72 g21 (#[.int .i64 (unR l).2.1, .int .i64 (unR l).2.2])
  have h89 : V88.heap[g21]? = some (.cells (#[.int .i64 (unR l).2.1, .int .i64 (unR l).2.2]) 38 (0, 0)) := eV88 ▸ setRow_heap _ _ _ _ _ _ h73
  refine ps_s (o_MessageScripts 4094 7) (w' := V88) (by rw [← eV88]; exact exec_store_row 38 (.tmp 21) (.tmp 95) (by kernel_rfl) g21 (#[.int .i64 (unR l).2.1, .int .i64 (unR l).2.2]) (by kernel_rfl) (by kernel_rfl) 38 (#[.int .i64 0, .int .i64 0]) h73 (by kernel_rfl) rfl (by kernel_rfl)) ?_
  clear eV88
  have h90 : ListsAt V88 (.slice A2 ls2.length cap2) us2 ls2 := ListsAt.keepsB hL2 h76 kV88 (fun j hj e => by unfold Own.One at e; omega)
  have h91 : ListsAt V88 (.slice A4 ls2.length c4) xsi ls2 := ListsAt.keepsB hLi h77 kV88 (fun j hj e => by unfold Own.One at e; omega)
  have h92 : Row V88 5 1 X (packR ls2).1.length (B (packR ls2).1) := h78.keeps kV88 (fun j hj e => by have := lX j hj; unfold Own.One at e; omega)
  have h93 : Row V88 5 1 Y (packR ls2).1.length (B (packR ls2).1) := h79.keeps kV88 (fun j hj e => by have := lY j hj; unfold Own.One at e; omega)
  have h94 : Lent V88 lv l := h80.keeps kV88 (fun j hj e => by have := hlt j hj; unfold Own.One at e; omega)
  have h95 : Row V88 22 1 (.slice A5 (unR l).1.length c5) (unR l).1.length xu := h81.keeps kV88 (fun j hj e => Row.ne h81 h73 (by decide) ((show j = g21 from e) ▸ hj))
  have h96 : Copied V88 N6 xu (unR l).1 := h82.keepsT kV88 h73 (by decide)
  have h97 := kV88.bo h83 (by omega)
  have h98 : Row V88 22 1 (.slice A6 (unR l).1.length c6) (unR l).1.length xw := h84.keeps kV88 (fun j hj e => Row.ne h84 h73 (by decide) ((show j = g21 from e) ▸ hj))
  have h99 : Copied V88 V50.heap.size xw (unR l).1 := h85.keepsT kV88 h73 (by decide)
  have K100 := K86.no kV88 (by omega)
  have z101 := kV88.size
  refine ps_end ?_
  refine then_n ?_
  refine sy_sq (part_MessageScripts 8190) (part_MessageScripts 8191) ?_
  refine sy_reg ?_
  refine rg_plain 18 (opsAt (part_MessageScripts 8190)) [0, 1, 2, 3, 4, 5, 6, 7, 8] (by kernel_rfl) (by kernel_rfl) ?_
  refine ps_k (o_MessageScripts 8190 0) (.slice A5 (unR l).1.length c5) ?_
  refine ps_k (o_MessageScripts 8190 1) (.slice A6 (unR l).1.length c6) ?_
  refine ps_c (o_MessageScripts 8190 2) 31 #[.slice A5 (unR l).1.length c5, .slice A6 (unR l).1.length c6] Try.func31 ((kSameLists_ok A5 A6 c5 c6 xu xw (unR l).1 _ (h96.lists h95) (h99.lists h98)).mono ?_)
  rintro e V102 ⟨rfl, kV102⟩
  refine ⟨_, rfl, ?_⟩
  have h103 : ListsAt V102 (.slice A2 ls2.length cap2) us2 ls2 := h90.keepsN kV102
  have h104 : ListsAt V102 (.slice A4 ls2.length c4) xsi ls2 := h91.keepsN kV102
  have h105 : Row V102 5 1 X (packR ls2).1.length (B (packR ls2).1) := h92.keeps kV102 (fun _ _ x => x)
  have h106 : Row V102 5 1 Y (packR ls2).1.length (B (packR ls2).1) := h93.keeps kV102 (fun _ _ x => x)
  have h107 : Lent V102 lv l := h94.keeps kV102 (fun _ _ x => x)
  have h108 : Row V102 22 1 (.slice A5 (unR l).1.length c5) (unR l).1.length xu := h95.keeps kV102 (fun _ _ x => x)
  have h109 : Copied V102 N6 xu (unR l).1 := h96.keepsN kV102
  have h110 := kV102.bk h97
  have h111 : Row V102 22 1 (.slice A6 (unR l).1.length c6) (unR l).1.length xw := h98.keeps kV102 (fun _ _ x => x)
  have h112 : Copied V102 V50.heap.size xw (unR l).1 := h99.keepsN kV102
  have h113 := kV102.bk h89
  have K114 := K100.nn kV102
  have z115 := kV102.size
  refine ps_k (o_MessageScripts 8190 3) (.bool true) ?_
  refine ps_p (o_MessageScripts 8190 4) (.agg #[.int .i64 (unR l).2.1, .int .i64 (unR l).2.2]) (exec_load_row 38 (.tmp 19) (by kernel_rfl) g19 (by kernel_rfl) _ _ (0, 0) _ (h110) Try.underlying38 rfl (by kernel_rfl)) ?_
  refine ps_p (o_MessageScripts 8190 5) (.agg #[.int .i64 (unR l).2.1, .int .i64 (unR l).2.2]) (exec_load_row 38 (.tmp 21) (by kernel_rfl) g21 (by kernel_rfl) _ _ (0, 0) _ (h113) Try.underlying38 rfl (by kernel_rfl)) ?_
  refine ps_p (o_MessageScripts 8190 6) (.bool true) (exec_cast (congrArg Value.bool (by simp)) (exec_binop .eql 38 38 (.tmp 100) (.tmp 101) (by kernel_rfl) (.agg #[.int .i64 (unR l).2.1, .int .i64 (unR l).2.2]) (.agg #[.int .i64 (unR l).2.1, .int .i64 (unR l).2.2]) _ (by kernel_rfl) (by kernel_rfl) (run_eqGuard_agg _ _ _ _ _ _ _ fault_guard) (fault_eq _ _ _ _ _))) ?_
  refine ps_k (o_MessageScripts 8190 7) (.bool true) ?_
  refine ps_k (o_MessageScripts 8190 8) (.bool true) ?_
  refine ps_end ?_
  refine sy_a ⟨#[u0, u1, u2, .slice A0 l.length cap0, u4, u5, u6, u7, u8, .slice A2 ls2.length cap2, u10, u11, .slice A4 ls2.length c4, X, .int .i64 (packR ls2).2, Y, .int .i64 (packR ls2).2, lv, .slice A5 (unR l).1.length c5, pT g19 0, .slice A6 (unR l).1.length c6, pT g21 0, .bool true, u23, u24, u25, u26, u27, u28, u29, u30, u31, u32, u33, u34, u35, u36, u37, u38, u39, u40, u41, u42, u43, u44, u45, u46, u47, u48, u49, u50, u51, u52, u53, u54, u55, u56, .slice A2 ls2.length cap2, .slice A4 ls2.length c4, .tuple #[X, .int .i64 (packR ls2).2], .slice A4 ls2.length c4, .tuple #[X, .int .i64 (packR ls2).2], X, .int .i64 (packR ls2).2, .tuple #[Y, .int .i64 (packR ls2).2], .slice A2 ls2.length cap2, .tuple #[Y, .int .i64 (packR ls2).2], Y, .int .i64 (packR ls2).2, X, Y, .bool true, .bool false, .bool false, .int .i64 (packR ls2).2, .int .i64 (packR ls2).2, .bool false, .bool false, .bool false, .slice A4 ls2.length c4, .slice A2 ls2.length cap2, .bool true, .bool false, .bool false, .slice A0 l.length cap0, lv, .tuple #[.slice A5 (unR l).1.length c5, .agg #[.int .i64 (unR l).2.1, .int .i64 (unR l).2.2]], lv, .tuple #[.slice A5 (unR l).1.length c5, .agg #[.int .i64 (unR l).2.1, .int .i64 (unR l).2.2]], .slice A5 (unR l).1.length c5, .agg #[.int .i64 (unR l).2.1, .int .i64 (unR l).2.2], .tuple #[.slice A6 (unR l).1.length c6, .agg #[.int .i64 (unR l).2.1, .int .i64 (unR l).2.2]], .slice A0 l.length cap0, .tuple #[.slice A6 (unR l).1.length c6, .agg #[.int .i64 (unR l).2.1, .int .i64 (unR l).2.2]], .slice A6 (unR l).1.length c6, .agg #[.int .i64 (unR l).2.1, .int .i64 (unR l).2.2], .slice A5 (unR l).1.length c5, .slice A6 (unR l).1.length c6, .bool true, .bool true, .agg #[.int .i64 (unR l).2.1, .int .i64 (unR l).2.2], .agg #[.int .i64 (unR l).2.1, .int .i64 (unR l).2.2], .bool true, .bool true, undef, undef, undef, undef, undef, undef, undef, undef, undef, undef, undef, undef, undef, undef, undef, undef, undef, undef], []⟩ ?_
  refine then_n ?_
  refine sy_sq (part_MessageScripts 16382) (part_MessageScripts 16383) ?_
  refine sy_reg ?_
  refine rg_plain 19 (opsAt (part_MessageScripts 16382)) [0, 1] (by kernel_rfl) (by kernel_rfl) ?_
  refine ps_k (o_MessageScripts 16382 0) (.slice A5 (unR l).1.length c5) ?_
  have hK6 := K114.size
  refine ps_c (o_MessageScripts 16382 1) 34 #[.slice A5 (unR l).1.length c5] Try.func34 ((kOverLists_ok _ _ N6 xu (unR l).1 _ h108 hnu h109 hau).mono ?_)
  rintro e V116 ⟨⟨ro, rfl⟩, kV116⟩
  refine ⟨_, rfl, ?_⟩
  have h117 : ListsAt V116 (.slice A2 ls2.length cap2) us2 ls2 := ListsAt.keepsB hL2 h103 kV116 (fun j hj e => by have e2 : N6 ≤ j := e; omega)
  have h118 : ListsAt V116 (.slice A4 ls2.length c4) xsi ls2 := ListsAt.keepsB hLi h104 kV116 (fun j hj e => by have e2 : N6 ≤ j := e; omega)
  have h119 : Row V116 5 1 X (packR ls2).1.length (B (packR ls2).1) := h105.keeps kV116 (fun j hj e => by have := lX j hj; have e2 : N6 ≤ j := e; omega)
  have h120 : Lent V116 lv l := h107.keeps kV116 (fun j hj e => by have := hlt j hj; have e2 : N6 ≤ j := e; omega)
  have K121 : Keeps Nob w V116 := K114.then kV116 (fun i hi hm => absurd hi (by have e2 : N6 ≤ i := hm; omega))
  have z122 := kV116.size
  refine ps_end ?_
  refine then_n ?_
  refine sy_sq (part_MessageScripts 32766) (part_MessageScripts 32767) ?_
  refine sy_reg ?_
  refine rg_plain 20 (opsAt (part_MessageScripts 32766)) [0, 1] (by kernel_rfl) (by kernel_rfl) ?_
  refine ps_k (o_MessageScripts 32766 0) (X) ?_
  refine ps_c (o_MessageScripts 32766 1) 19 #[X] Try.func19 ((overBytes_ok _ _ _ h119).mono ?_)
  rintro e V123 ⟨⟨rx, rfl⟩, kV123⟩
  refine ⟨_, rfl, ?_⟩
  have h124 : ListsAt V123 (.slice A2 ls2.length cap2) us2 ls2 := ListsAt.keepsB hL2 h117 kV123 (fun j hj e => by have := nX j e; omega)
  have h125 : ListsAt V123 (.slice A4 ls2.length c4) xsi ls2 := ListsAt.keepsB hLi h118 kV123 (fun j hj e => by have := nX j e; omega)
  have h126 : Lent V123 lv l := h120.keeps kV123 (fun j hj e => by have := hnL j hj; have := lX j e; omega)
  have K127 : Keeps Nob w V123 := K121.then kV123 (fun i hi hm => absurd hi (by have := nX i hm; omega))
  have z128 := kV123.size
  refine ps_end ?_
  refine then_n ?_
  refine sy_sq (part_MessageScripts 65534) (part_MessageScripts 65535) ?_
  refine sy_reg ?_
  refine rg_plain 21 (opsAt (part_MessageScripts 65534)) [0, 1, 2, 3, 4, 5, 6, 7, 8, 9, 10, 11, 12, 13, 14] (by kernel_rfl) (by kernel_rfl) ?_
  refine ps_k (o_MessageScripts 65534 0) (.bool true) ?_
  refine ps_k (o_MessageScripts 65534 1) (.bool true) ?_
  refine ps_k (o_MessageScripts 65534 2) (lv) ?_
  refine ps_k (o_MessageScripts 65534 3) (.slice A0 l.length cap0) ?_
  refine ps_c (o_MessageScripts 65534 4) 13 #[lv, .slice A0 l.length cap0] Try.func13 ((keptBytes_ok _ _ l _ h126 (hx.keepsN K127) (by omega)).mono ?_)
  rintro e V129 ⟨rfl, kV129⟩
  refine ⟨_, rfl, ?_⟩
  have h130 : ListsAt V129 (.slice A2 ls2.length cap2) us2 ls2 := h124.keepsN kV129
  have h131 : ListsAt V129 (.slice A4 ls2.length c4) xsi ls2 := h125.keepsN kV129
  have h132 : Lent V129 lv l := h126.keeps kV129 (fun _ _ x => x)
  have K133 := K127.nn kV129
  have z134 := kV129.size
  refine ps_k (o_MessageScripts 65534 5) (.bool true) ?_
  refine ps_k (o_MessageScripts 65534 6) (.bool true) ?_
  refine ps_k (o_MessageScripts 65534 7) (.slice A4 ls2.length c4) ?_
  refine ps_k (o_MessageScripts 65534 8) (.slice A2 ls2.length cap2) ?_
  refine ps_c (o_MessageScripts 65534 9) 31 #[.slice A4 ls2.length c4, .slice A2 ls2.length cap2] Try.func31 ((kSameLists_ok A4 A2 c4 cap2 xsi us2 ls2 _ h131 h130).mono ?_)
  rintro e V135 ⟨rfl, kV135⟩
  refine ⟨_, rfl, ?_⟩
  have h136 : ListsAt V135 (.slice A2 ls2.length cap2) us2 ls2 := h130.keepsN kV135
  have h137 : ListsAt V135 (.slice A4 ls2.length c4) xsi ls2 := h131.keepsN kV135
  have h138 : Lent V135 lv l := h132.keeps kV135 (fun _ _ x => x)
  have K139 := K133.nn kV135
  have z140 := kV135.size
  refine ps_k (o_MessageScripts 65534 10) (.bool true) ?_
  refine ps_k (o_MessageScripts 65534 11) (.bool true) ?_
  refine ps_c (o_MessageScripts 65534 12) 9 #[] Try.func9 ((lmawake_ok _).mono ?_)
  rintro e V141 ⟨rfl, kV141⟩
  refine ⟨_, rfl, ?_⟩
  have h142 : ListsAt V141 (.slice A2 ls2.length cap2) us2 ls2 := h136.keepsN kV141
  have h143 : ListsAt V141 (.slice A4 ls2.length c4) xsi ls2 := h137.keepsN kV141
  have h144 : Lent V141 lv l := h138.keeps kV141 (fun _ _ x => x)
  have K145 := K139.nn kV141
  have z146 := kV141.size
  refine ps_k (o_MessageScripts 65534 13) (.bool true) ?_
  refine ps_k (o_MessageScripts 65534 14) (.bool true) ?_
  refine ps_end ?_
  refine then_n ?_
  refine sy_ret (by kernel_rfl) ?_
  refine sy_out (.bool true) rfl (by kernel_rfl) ?_
  exact ⟨rfl, hk0.nn K145⟩
set_option maxRecDepth 100000 in
set_option maxHeartbeats 4000000 in
theorem mscr_long (A : Option Addr) (cap : Nat) (us : List Value) (ls : List (List UInt8)) (many more : Int) (A0 : Option Addr) (cap0 : Nat) (l : List UInt8) (w : World) (hmany : i64b many) (hmore : i64b more) (h0 : ListsAt w (.slice A ls.length cap) us ls) (hx : BytesAt w (.slice A0 l.length cap0) l) (hlg : lngL ls 30 200 = true) :
    Calls Try.prog 5 #[.slice A ls.length cap, .int .i64 many, .int .i64 more, .slice A0 l.length cap0] w (fun e w' => e = .returned (.bool true) ∧ Keeps Nob w w') := by
  have K0 : Keeps Nob w w := Keeps.refl _ _
  refine sy_enter (part_MessageScripts 1) ⟨#[.slice A ls.length cap, .int .i64 many, .int .i64 more, .slice A0 l.length cap0, undef, undef, undef, undef, undef, undef, undef, undef, undef, undef, undef, undef, undef, undef, undef, undef, undef, undef, undef, undef, undef, undef, undef, undef, undef, undef, undef, undef, undef, undef, undef, undef, undef, undef, undef, undef, undef, undef, undef, undef, undef, undef, undef, undef, undef, undef, undef, undef, undef, undef, undef, undef, undef, undef, undef, undef, undef, undef, undef, undef, undef, undef, undef, undef, undef, undef, undef, undef, undef, undef, undef, undef, undef, undef, undef, undef, undef, undef, undef, undef, undef, undef, undef, undef, undef, undef, undef, undef, undef, undef, undef, undef, undef, undef, undef, undef, undef, undef, undef, undef, undef, undef, undef, undef, undef, undef, undef, undef, undef, undef, undef, undef, undef, undef, undef, undef, undef, undef], []⟩ Try.func5 (by kernel_rfl) (by kernel_rfl) ?_
  refine sy_sq (part_MessageScripts 2) (part_MessageScripts 3) ?_
  refine sy_reg ?_
  refine rg_plain 0 (opsAt (part_MessageScripts 2)) [0] (by kernel_rfl) (by kernel_rfl) ?_
  refine ps_k (o_MessageScripts 2 0) (.bool false) ?_
  refine ps_end ?_
  refine then_n ?_
  refine sy_sq (part_MessageScripts 6) (part_MessageScripts 7) ?_
  refine sy_sq (part_MessageScripts 12) (part_MessageScripts 13) ?_
  refine sy_reg ?_
  refine rg_plain 1 (opsAt (part_MessageScripts 12)) [0, 1, 2, 3, 4, 5, 6] (by kernel_rfl) (by kernel_rfl) ?_
  refine ps_k (o_MessageScripts 12 0) (.slice A ls.length cap) ?_
  refine ps_c (o_MessageScripts 12 1) 26 #[.slice A ls.length cap, .int .i64 30, .int .i64 200] Try.func26 (((hlg ▸ kLongLists_ok A cap us ls 30 200 _ h0 (fun _ _ h => ListsAt.sizes h0 h) (by decide) (by decide))).mono ?_)
  rintro e w1 ⟨rfl, rfl⟩
  refine ⟨_, rfl, ?_⟩
  refine ps_k (o_MessageScripts 12 2) (.bool true) ?_
  refine ps_n (o_MessageScripts 12 3) ?_
  refine ps_n (o_MessageScripts 12 4) ?_
  refine ps_n (o_MessageScripts 12 5) ?_
  refine ps_k (o_MessageScripts 12 6) (.bool true) ?_
  refine ps_end ?_
  refine then_n ?_
  refine sy_ys (.tmp 29) (part_MessageScripts 26) (part_MessageScripts 27) ?_
  refine sy_sq (part_MessageScripts 52) (part_MessageScripts 53) ?_
  refine sy_reg ?_
  refine rg_plain 2 (opsAt (part_MessageScripts 52)) [0, 1] (by kernel_rfl) (by kernel_rfl) ?_
  refine ps_c (o_MessageScripts 52 0) 9 #[] Try.func9 ((lmawake_ok _).mono ?_)
  rintro e V1 ⟨rfl, kV1⟩
  refine ⟨_, rfl, ?_⟩
  have K2 := K0.nn kV1
  have z3 := kV1.size
  refine ps_k (o_MessageScripts 52 1) (.bool true) ?_
  refine ps_end ?_
  refine then_n ?_
  refine sy_ret (by kernel_rfl) ?_
  refine then_r ?_
  refine sy_out (.bool true) rfl (by kernel_rfl) ?_
  exact ⟨rfl, K2⟩
set_option maxRecDepth 100000 in
set_option maxHeartbeats 4000000 in
theorem mscr_big (A : Option Addr) (cap : Nat) (us : List Value) (ls : List (List UInt8)) (many more : Int) (A0 : Option Addr) (cap0 : Nat) (l : List UInt8) (w : World) (hmany : i64b many) (hmore : i64b more) (h0 : ListsAt w (.slice A ls.length cap) us ls) (hx : BytesAt w (.slice A0 l.length cap0) l) (hlg : lngL ls 30 200 = false) (hl : 600 < l.length) :
    Calls Try.prog 5 #[.slice A ls.length cap, .int .i64 many, .int .i64 more, .slice A0 l.length cap0] w (fun e w' => e = .returned (.bool true) ∧ Keeps Nob w w') := by
  have hs := lngL_small hlg
  obtain ⟨i0, hi0, hz0, hz1, hz2⟩ := info_parts bytes_info0
  obtain ⟨i8, hi8, hz80, hz81, hz82⟩ := info_parts u8_info0
  have K0 : Keeps Nob w w := Keeps.refl _ _
  refine sy_enter (part_MessageScripts 1) ⟨#[.slice A ls.length cap, .int .i64 many, .int .i64 more, .slice A0 l.length cap0, undef, undef, undef, undef, undef, undef, undef, undef, undef, undef, undef, undef, undef, undef, undef, undef, undef, undef, undef, undef, undef, undef, undef, undef, undef, undef, undef, undef, undef, undef, undef, undef, undef, undef, undef, undef, undef, undef, undef, undef, undef, undef, undef, undef, undef, undef, undef, undef, undef, undef, undef, undef, undef, undef, undef, undef, undef, undef, undef, undef, undef, undef, undef, undef, undef, undef, undef, undef, undef, undef, undef, undef, undef, undef, undef, undef, undef, undef, undef, undef, undef, undef, undef, undef, undef, undef, undef, undef, undef, undef, undef, undef, undef, undef, undef, undef, undef, undef, undef, undef, undef, undef, undef, undef, undef, undef, undef, undef, undef, undef, undef, undef, undef, undef, undef, undef, undef, undef], []⟩ Try.func5 (by kernel_rfl) (by kernel_rfl) ?_
  refine sy_sq (part_MessageScripts 2) (part_MessageScripts 3) ?_
  refine sy_reg ?_
  refine rg_plain 0 (opsAt (part_MessageScripts 2)) [0] (by kernel_rfl) (by kernel_rfl) ?_
  refine ps_k (o_MessageScripts 2 0) (.bool false) ?_
  refine ps_end ?_
  refine then_n ?_
  refine sy_sq (part_MessageScripts 6) (part_MessageScripts 7) ?_
  refine sy_sq (part_MessageScripts 12) (part_MessageScripts 13) ?_
  refine sy_reg ?_
  refine rg_plain 1 (opsAt (part_MessageScripts 12)) [0, 1, 2, 3, 4, 5, 6] (by kernel_rfl) (by kernel_rfl) ?_
  refine ps_k (o_MessageScripts 12 0) (.slice A ls.length cap) ?_
  refine ps_c (o_MessageScripts 12 1) 26 #[.slice A ls.length cap, .int .i64 30, .int .i64 200] Try.func26 (((hlg ▸ kLongLists_ok A cap us ls 30 200 _ h0 (fun _ _ h => ListsAt.sizes h0 h) (by decide) (by decide))).mono ?_)
  rintro e w1 ⟨rfl, rfl⟩
  refine ⟨_, rfl, ?_⟩
  refine ps_k (o_MessageScripts 12 2) (.bool false) ?_
  refine ps_k (o_MessageScripts 12 3) (.slice A0 l.length cap0) ?_
  refine ps_p (o_MessageScripts 12 4) (iN l.length) (exec_len (.tmp 26) 22 _ (by kernel_rfl) Try.underlying22 A0 l.length cap0 (by kernel_rfl)) ?_
  refine ps_p (o_MessageScripts 12 5) (.bool true) (dct ((((l.length : Nat) : Int)) > ((600) : Int)) (by omega)) ?_
  refine ps_k (o_MessageScripts 12 6) (.bool true) ?_
  refine ps_end ?_
  refine then_n ?_
  refine sy_ys (.tmp 29) (part_MessageScripts 26) (part_MessageScripts 27) ?_
  refine sy_sq (part_MessageScripts 52) (part_MessageScripts 53) ?_
  refine sy_reg ?_
  refine rg_plain 2 (opsAt (part_MessageScripts 52)) [0, 1] (by kernel_rfl) (by kernel_rfl) ?_
  refine ps_c (o_MessageScripts 52 0) 9 #[] Try.func9 ((lmawake_ok _).mono ?_)
  rintro e V1 ⟨rfl, kV1⟩
  refine ⟨_, rfl, ?_⟩
  have K2 := K0.nn kV1
  have z3 := kV1.size
  refine ps_k (o_MessageScripts 52 1) (.bool true) ?_
  refine ps_end ?_
  refine then_n ?_
  refine sy_ret (by kernel_rfl) ?_
  refine then_r ?_
  refine sy_out (.bool true) rfl (by kernel_rfl) ?_
  exact ⟨rfl, K2⟩
set_option maxRecDepth 100000 in
set_option maxHeartbeats 4000000 in
theorem mscr_main (A : Option Addr) (cap : Nat) (us : List Value) (ls : List (List UInt8)) (many more : Int) (A0 : Option Addr) (cap0 : Nat) (l : List UInt8) (w : World) (hmany : i64b many) (hmore : i64b more) (h0 : ListsAt w (.slice A ls.length cap) us ls) (hx : BytesAt w (.slice A0 l.length cap0) l) (hlg : lngL ls 30 200 = false) (hl : l.length ≤ 600) :
    Calls Try.prog 5 #[.slice A ls.length cap, .int .i64 many, .int .i64 more, .slice A0 l.length cap0] w (fun e w' => e = .returned (.bool true) ∧ Keeps Nob w w') := by
  have hs := lngL_small hlg
  obtain ⟨i0, hi0, hz0, hz1, hz2⟩ := info_parts bytes_info0
  obtain ⟨i8, hi8, hz80, hz81, hz82⟩ := info_parts u8_info0
  have K0 : Keeps Nob w w := Keeps.refl _ _
  refine sy_enter (part_MessageScripts 1) ⟨#[.slice A ls.length cap, .int .i64 many, .int .i64 more, .slice A0 l.length cap0, undef, undef, undef, undef, undef, undef, undef, undef, undef, undef, undef, undef, undef, undef, undef, undef, undef, undef, undef, undef, undef, undef, undef, undef, undef, undef, undef, undef, undef, undef, undef, undef, undef, undef, undef, undef, undef, undef, undef, undef, undef, undef, undef, undef, undef, undef, undef, undef, undef, undef, undef, undef, undef, undef, undef, undef, undef, undef, undef, undef, undef, undef, undef, undef, undef, undef, undef, undef, undef, undef, undef, undef, undef, undef, undef, undef, undef, undef, undef, undef, undef, undef, undef, undef, undef, undef, undef, undef, undef, undef, undef, undef, undef, undef, undef, undef, undef, undef, undef, undef, undef, undef, undef, undef, undef, undef, undef, undef, undef, undef, undef, undef, undef, undef, undef, undef, undef, undef], []⟩ Try.func5 (by kernel_rfl) (by kernel_rfl) ?_
  refine sy_sq (part_MessageScripts 2) (part_MessageScripts 3) ?_
  refine sy_reg ?_
  refine rg_plain 0 (opsAt (part_MessageScripts 2)) [0] (by kernel_rfl) (by kernel_rfl) ?_
  refine ps_k (o_MessageScripts 2 0) (.bool false) ?_
  refine ps_end ?_
  refine then_n ?_
  refine sy_sq (part_MessageScripts 6) (part_MessageScripts 7) ?_
  refine sy_sq (part_MessageScripts 12) (part_MessageScripts 13) ?_
  refine sy_reg ?_
  refine rg_plain 1 (opsAt (part_MessageScripts 12)) [0, 1, 2, 3, 4, 5, 6] (by kernel_rfl) (by kernel_rfl) ?_
  refine ps_k (o_MessageScripts 12 0) (.slice A ls.length cap) ?_
  refine ps_c (o_MessageScripts 12 1) 26 #[.slice A ls.length cap, .int .i64 30, .int .i64 200] Try.func26 (((hlg ▸ kLongLists_ok A cap us ls 30 200 _ h0 (fun _ _ h => ListsAt.sizes h0 h) (by decide) (by decide))).mono ?_)
  rintro e w1 ⟨rfl, rfl⟩
  refine ⟨_, rfl, ?_⟩
  refine ps_k (o_MessageScripts 12 2) (.bool false) ?_
  refine ps_k (o_MessageScripts 12 3) (.slice A0 l.length cap0) ?_
  refine ps_p (o_MessageScripts 12 4) (iN l.length) (exec_len (.tmp 26) 22 _ (by kernel_rfl) Try.underlying22 A0 l.length cap0 (by kernel_rfl)) ?_
  refine ps_p (o_MessageScripts 12 5) (.bool false) (dcf ((((l.length : Nat) : Int)) > ((600) : Int)) (by omega)) ?_
  refine ps_k (o_MessageScripts 12 6) (.bool false) ?_
  refine ps_end ?_
  refine then_n ?_
  refine sy_n (.tmp 29) (part_MessageScripts 26) (part_MessageScripts 27) ?_
  refine sy_sk ?_
  refine then_n ?_
  refine sy_sq (part_MessageScripts 14) (part_MessageScripts 15) ?_
  refine sy_reg ?_
  refine rg_plain 3 (opsAt (part_MessageScripts 14)) [0, 1, 2] (by kernel_rfl) (by kernel_rfl) ?_
  refine ps_k (o_MessageScripts 14 0) (.slice A ls.length cap) ?_
  obtain ⟨NB, hNB⟩ : ∃ n, w.heap.size = n := ⟨_, rfl⟩
  have hNBw : w.heap.size ≤ NB := hNB ▸ K0.size
  refine ps_c (o_MessageScripts 14 1) 27 #[.slice A ls.length cap] Try.func27 ((kCopyLists_ok A cap us ls _ h0 (fun k l' h => by have := hs.2 l' (List.mem_of_getElem? h); omega) (by omega)).mono ?_)
  rintro e V1 ⟨va, xa, rfl, hra, hna, hca, kV1⟩
  rw [hNB] at hna hca
  have hclA := hca.ltOld
  have hNV : NB ≤ V1.heap.size := hNB ▸ kV1.size
  have hxl : xa.length = ls.length := by have := hra.1; omega
  refine ⟨_, rfl, ?_⟩
  have K2 := K0.nn kV1
  have z3 := kV1.size
  refine ps_k (o_MessageScripts 14 2) (va) ?_
  refine ps_end ?_
  refine then_n ?_
  refine sy_sq (part_MessageScripts 30) (part_MessageScripts 31) ?_
  rcases (show ls.length = 0 ∨ (0 < ls.length ∧ many ≤ 0) ∨ (0 < ls.length ∧ 0 < many) by omega) with hc1 | ⟨hc1, hc2⟩ | ⟨hc1, hc2⟩
  · refine sy_sq (part_MessageScripts 60) (part_MessageScripts 61) ?_
    refine sy_reg ?_
    refine rg_plain 4 (opsAt (part_MessageScripts 60)) [0, 1, 2, 3, 4, 5, 6] (by kernel_rfl) (by kernel_rfl) ?_
    refine ps_k (o_MessageScripts 60 0) (.slice A ls.length cap) ?_
    refine ps_p (o_MessageScripts 60 1) (iN ls.length) (exec_len (.tmp 33) 54 _ (by kernel_rfl) Try.underlying54 A ls.length cap (by kernel_rfl)) ?_
    refine ps_p (o_MessageScripts 60 2) (.bool false) (dcf ((((ls.length : Nat) : Int)) > ((0) : Int)) (by omega)) ?_
    refine ps_k (o_MessageScripts 60 3) (.bool false) ?_
    refine ps_n (o_MessageScripts 60 4) ?_
    refine ps_n (o_MessageScripts 60 5) ?_
    refine ps_k (o_MessageScripts 60 6) (.bool false) ?_
    refine ps_end ?_
    refine then_n ?_
    refine sy_n (.tmp 39) (part_MessageScripts 122) (part_MessageScripts 123) ?_
    refine sy_sk ?_
    refine then_n ?_
    have L4 := hca.lists hra
    obtain ⟨A2, cap2, hv2, _⟩ := L4.form
    subst hv2
    refine wp_act ⟨#[.slice A ls.length cap, .int .i64 many, .int .i64 more, .slice A0 l.length cap0, undef, undef, undef, undef, .bool false, .slice A2 ls.length cap2, undef, undef, undef, undef, undef, undef, undef, undef, undef, undef, undef, undef, undef, .slice A ls.length cap, .bool false, .bool false, .slice A0 l.length cap0, .int .i64 ((l.length : Nat) : Int), .bool false, .bool false, undef, .slice A ls.length cap, .slice A2 ls.length cap2, .slice A ls.length cap, .int .i64 ((ls.length : Nat) : Int), .bool false, .bool false, undef, undef, .bool false, undef, undef, undef, undef, undef, undef, undef, undef, undef, undef, undef, undef, undef, undef, undef, undef, undef, undef, undef, undef, undef, undef, undef, undef, undef, undef, undef, undef, undef, undef, undef, undef, undef, undef, undef, undef, undef, undef, undef, undef, undef, undef, undef, undef, undef, undef, undef, undef, undef, undef, undef, undef, undef, undef, undef, undef, undef, undef, undef, undef, undef, undef, undef, undef, undef, undef, undef, undef, undef, undef, undef, undef, undef, undef, undef, undef, undef, undef, undef, undef, undef, undef], []⟩ (by kernel_rfl) ?_
    exact mscr_two A2 cap2 xa ls A0 cap0 l w V1 K2 L4 (hx.keepsN K2) hl (fun k l' h => by have := hs.2 l' (List.mem_of_getElem? h); omega) (by omega)
  · refine sy_sq (part_MessageScripts 60) (part_MessageScripts 61) ?_
    refine sy_reg ?_
    refine rg_plain 4 (opsAt (part_MessageScripts 60)) [0, 1, 2, 3, 4, 5, 6] (by kernel_rfl) (by kernel_rfl) ?_
    refine ps_k (o_MessageScripts 60 0) (.slice A ls.length cap) ?_
    refine ps_p (o_MessageScripts 60 1) (iN ls.length) (exec_len (.tmp 33) 54 _ (by kernel_rfl) Try.underlying54 A ls.length cap (by kernel_rfl)) ?_
    refine ps_p (o_MessageScripts 60 2) (.bool true) (dct ((((ls.length : Nat) : Int)) > ((0) : Int)) (by omega)) ?_
    refine ps_k (o_MessageScripts 60 3) (.bool true) ?_
    refine ps_k (o_MessageScripts 60 4) (.int .i64 many) ?_
    refine ps_p (o_MessageScripts 60 5) (.bool false) (dcf (((many) : Int) > ((0) : Int)) (by omega)) ?_
    refine ps_k (o_MessageScripts 60 6) (.bool false) ?_
    refine ps_end ?_
    refine then_n ?_
    refine sy_n (.tmp 39) (part_MessageScripts 122) (part_MessageScripts 123) ?_
    refine sy_sk ?_
    refine then_n ?_
    have L5 := hca.lists hra
    obtain ⟨A2, cap2, hv2, _⟩ := L5.form
    subst hv2
    refine wp_act ⟨#[.slice A ls.length cap, .int .i64 many, .int .i64 more, .slice A0 l.length cap0, undef, undef, undef, undef, .bool false, .slice A2 ls.length cap2, undef, undef, undef, undef, undef, undef, undef, undef, undef, undef, undef, undef, undef, .slice A ls.length cap, .bool false, .bool false, .slice A0 l.length cap0, .int .i64 ((l.length : Nat) : Int), .bool false, .bool false, undef, .slice A ls.length cap, .slice A2 ls.length cap2, .slice A ls.length cap, .int .i64 ((ls.length : Nat) : Int), .bool true, .bool true, .int .i64 many, .bool false, .bool false, undef, undef, undef, undef, undef, undef, undef, undef, undef, undef, undef, undef, undef, undef, undef, undef, undef, undef, undef, undef, undef, undef, undef, undef, undef, undef, undef, undef, undef, undef, undef, undef, undef, undef, undef, undef, undef, undef, undef, undef, undef, undef, undef, undef, undef, undef, undef, undef, undef, undef, undef, undef, undef, undef, undef, undef, undef, undef, undef, undef, undef, undef, undef, undef, undef, undef, undef, undef, undef, undef, undef, undef, undef, undef, undef, undef, undef, undef, undef, undef, undef, undef], []⟩ (by kernel_rfl) ?_
    exact mscr_two A2 cap2 xa ls A0 cap0 l w V1 K2 L5 (hx.keepsN K2) hl (fun k l' h => by have := hs.2 l' (List.mem_of_getElem? h); omega) (by omega)
  · obtain ⟨uz, lz, b_z, o_z, c_z, huz, hlz, hvz⟩ := h0.open_ 0 hc1
    have hzl := hs.2 lz (List.mem_of_getElem? hlz)
    obtain ⟨tk, htk, etk⟩ := pick_ex more 4101 (by decide)
    obtain ⟨tm, htm, etm⟩ := pick_ex many 1010 (by decide)
    refine sy_sq (part_MessageScripts 60) (part_MessageScripts 61) ?_
    refine sy_reg ?_
    refine rg_plain 4 (opsAt (part_MessageScripts 60)) [0, 1, 2, 3, 4, 5, 6] (by kernel_rfl) (by kernel_rfl) ?_
    refine ps_k (o_MessageScripts 60 0) (.slice A ls.length cap) ?_
    refine ps_p (o_MessageScripts 60 1) (iN ls.length) (exec_len (.tmp 33) 54 _ (by kernel_rfl) Try.underlying54 A ls.length cap (by kernel_rfl)) ?_
    refine ps_p (o_MessageScripts 60 2) (.bool true) (dct ((((ls.length : Nat) : Int)) > ((0) : Int)) (by omega)) ?_
    refine ps_k (o_MessageScripts 60 3) (.bool true) ?_
    refine ps_k (o_MessageScripts 60 4) (.int .i64 many) ?_
    refine ps_p (o_MessageScripts 60 5) (.bool true) (dct (((many) : Int) > ((0) : Int)) (by omega)) ?_
    refine ps_k (o_MessageScripts 60 6) (.bool true) ?_
    refine ps_end ?_
    refine then_n ?_
    refine sy_ys (.tmp 39) (part_MessageScripts 122) (part_MessageScripts 123) ?_
    refine sy_sq (part_MessageScripts 244) (part_MessageScripts 245) ?_
    refine sy_np ?_
    refine sy_reg ?_
    refine an_begin 5 8 (opsAt (part_MessageScripts 244)) (fun W => (ListsAt W (.slice A ls.length cap) us ls)) #[false, false, false, false, false, false, false, false] (by kernel_rfl) (by kernel_rfl) (by kernel_rfl) (by kernel_rfl) ?_
    obtain ⟨V6, eV6, kV6⟩ := drew_step V1
    rw [eV6]
    clear eV6
    have h7 : Row V6 22 1 va ls.length xa := hra.keeps kV6 (fun _ _ x => x)
    have h8 : Copied V6 NB xa ls := hca.keepsN kV6
    have K9 := K2.nn kV6
    have z10 := kV6.size
    refine an_k 0 (o_MessageScripts 244 0) (.int .i64 more) (h0.keepsN K9) ?_
    refine an_k 3 (o_MessageScripts 244 3) (.slice A ls.length cap) (h0.keepsN K9) ?_
    refine an_v 4 (o_MessageScripts 244 4) (pT b_z (o_z + 0)) (fun W hS => exec_cast (v := pT b_z (o_z + 0 * 1)) (by simp) (exec_indexAt_slice 54 (.tmp 43) (.const (.int .i64 0)) (by kernel_rfl) b_z o_z ls.length c_z (Eq.trans (b := .slice A ls.length cap) (by kernel_rfl) hvz) .i64 0 (by kernel_rfl) _ 1 Try.underlying54 (by kernel_rfl) (by omega))) (h0.keepsN K9) ?_
    refine an_v 5 (o_MessageScripts 244 5) (uz) (fun W hS => exec_ld 22 (.tmp 44) b_z (o_z + 0) Try.underlying22 (ListsAt.cell hS huz hvz)) (h0.keepsN K9) ?_
    refine an_o 1 ?_
    refine on_c (o_MessageScripts 244 1) 28 #[.int .i64 more, .int .i64 4101] Try.func28 ((pick4101 more tk _ hmore etk).mono ?_)
    rintro e w1 ⟨rfl, rfl⟩
    refine ⟨_, rfl, ?_⟩
    refine ⟨(h0.keepsN K9), ?_⟩
    refine an_o 2 ?_
    obtain ⟨V11, eV11, s, es, h12, kV11⟩ := alloc_step V6 (madeCells (Value.int .u8 0).cells (tk * i8.size)) 5
    have h13 : Row V11 5 1 (.slice (some ⟨s, 0, none⟩) tk tk) tk (B (List.replicate tk 0)) := row_of_block (h12.trans (by rw [hz81]; exact congrArg (fun c => some (Obj.cells c 5 (0, 0))) (made_B tk))) (by simp) (by unfold maxLen; omega)
    refine on_r (o_MessageScripts 244 2) (.slice (some ⟨s, 0, none⟩) tk tk) (w' := V11) (by rw [← eV11, ← es]; exact exec_makeSlice 22 (.tmp 41) (.tmp 41) (by kernel_rfl) 5 i8 (.int .u8 0) Try.underlying22 hi8 hz80 tk (by kernel_rfl) (by kernel_rfl) (by rw [hz82]; omega) (by omega)) ?_
    clear eV11
    have nsW : V6.heap.size ≤ s := es ▸ Nat.le_refl _
    have nsw : NewFrom V6.heap.size (.slice (some ⟨s, 0, none⟩) tk tk) := NewFrom.ptr nsW _ _
    have h14 : Row V11 22 1 va ls.length xa := h7.keeps kV11 (fun _ _ x => x)
    have h15 : Copied V11 NB xa ls := h8.keepsN kV11
    have K16 := K9.nn kV11
    have z17 := kV11.size
    refine ⟨(h0.keepsN K16), ?_⟩
    refine an_o 6 ?_
    obtain ⟨v18, V19, hr20, h21, hg22, hn23, ha24⟩ := run_append_any (P := Try.prog) (w := V11) 22 (Oper.type (o_MessageScripts 244 6)) 5 i8 (.int .u8 0) 1 1 Try.underlying22 hi8 hz80 hz81 hz82 rfl (by decide) (.slice (some ⟨s, 0, none⟩) tk tk) tk (B (List.replicate tk 0)) h13 uz lz.length (B lz) (BytesAt.src (ListsAt.bytes (h0.keepsN K16) _ _ _ huz hlz)) (by unfold maxLen; omega) (by omega)
    have kV19 : Keeps (fun j => (.slice (some ⟨s, 0, none⟩) tk tk : Value).ownBlock = some j) V11 V19 := Keeps.rowAdd hg22
    have hw25 : NewFrom V6.heap.size v18 := nsw.next kV11.size ha24
    refine on_r (o_MessageScripts 244 6) v18 (w' := V19) (exec_append (.tmp 42) (.tmp 45) 22 (by kernel_rfl) (.slice (some ⟨s, 0, none⟩) tk tk) uz (by kernel_rfl) (by kernel_rfl) hr20) ?_
    have h26 : Row V19 5 1 v18 ((List.replicate tk 0 ++ lz).length) (B (List.replicate tk 0 ++ lz)) := (long_cast h21)
    have h27 : Row V19 22 1 va ls.length xa := h14.keeps kV19 (Row.apart h14 h13 (by decide))
    have h28 : Copied V19 NB xa ls := h15.keepsF kV19 (fun u hu j hj e => by have := hclA u hu j hj; have := nsw j e; omega)
    have K29 : Keeps Nob w V19 := K16.then kV19 (fun i hi hm => absurd hi (by have := nsw i hm; omega))
    have z30 := kV19.size
    refine ⟨(h0.keepsN K29), ?_⟩
    refine an_o 7 ?_
    refine on_r (o_MessageScripts 244 7) (v18) (w' := V19) (by kernel_rfl) ?_
    refine ⟨(h0.keepsN K29), ?_⟩
    refine an_end (by kernel_rfl) ?_
    refine sy_a ⟨#[.slice A ls.length cap, .int .i64 many, .int .i64 more, .slice A0 l.length cap0, undef, undef, undef, undef, .bool false, va, v18, undef, undef, undef, undef, undef, undef, undef, undef, undef, undef, undef, undef, .slice A ls.length cap, .bool false, .bool false, .slice A0 l.length cap0, iN l.length, .bool false, .bool false, undef, .slice A ls.length cap, va, .slice A ls.length cap, iN ls.length, .bool true, .bool true, .int .i64 many, .bool true, .bool true, .int .i64 more, iN tk, .slice (some ⟨s, 0, none⟩) tk tk, .slice A ls.length cap, pT b_z (o_z + 0), uz, v18, undef, undef, undef, undef, undef, undef, undef, undef, undef, undef, undef, undef, undef, undef, undef, undef, undef, undef, undef, undef, undef, undef, undef, undef, undef, undef, undef, undef, undef, undef, undef, undef, undef, undef, undef, undef, undef, undef, undef, undef, undef, undef, undef, undef, undef, undef, undef, undef, undef, undef, undef, undef, undef, undef, undef, undef, undef, undef, undef, undef, undef, undef, undef, undef, undef, undef, undef, undef, undef, undef, undef, undef, undef, undef, undef], []⟩ ?_
    refine then_n ?_
    refine sy_sq (part_MessageScripts 490) (part_MessageScripts 491) ?_
    have hra0 : Row V19 22 1 va (ls.length + 0) (xa ++ List.replicate 0 v18) := by rw [List.replicate_zero, List.append_nil]; exact h27
    have one' := (h26).one
    have hna' : NewFrom w.heap.size va := fun j hj => Nat.le_trans hNBw (hna j hj)
    refine sy_reg ?_
    refine rg_plain 6 (opsAt (part_MessageScripts 490)) [0] (by kernel_rfl) (by kernel_rfl) ?_
    refine ps_k (o_MessageScripts 490 0) (.int .i64 0) ?_
    refine ps_end ?_
    refine then_n ?_
    refine sy_bk 0 (part_MessageScripts 982) ?_
    refine sy_loop (part_MessageScripts 1964) (fun a V => ∃ (i : Nat) (v : Value) (u47 u48 u49 u50 u51 u52 u53 u54 u55 u56 : Value), (a = ⟨#[.slice A ls.length cap, .int .i64 many, .int .i64 more, .slice A0 l.length cap0, undef, undef, undef, undef, .bool false, v, v18, iN i, undef, undef, undef, undef, undef, undef, undef, undef, undef, undef, undef, .slice A ls.length cap, .bool false, .bool false, .slice A0 l.length cap0, iN l.length, .bool false, .bool false, undef, .slice A ls.length cap, va, .slice A ls.length cap, iN ls.length, .bool true, .bool true, .int .i64 many, .bool true, .bool true, .int .i64 more, iN tk, .slice (some ⟨s, 0, none⟩) tk tk, .slice A ls.length cap, pT b_z (o_z + 0), uz, v18, u47, u48, u49, u50, u51, u52, u53, u54, u55, u56, undef, undef, undef, undef, undef, undef, undef, undef, undef, undef, undef, undef, undef, undef, undef, undef, undef, undef, undef, undef, undef, undef, undef, undef, undef, undef, undef, undef, undef, undef, undef, undef, undef, undef, undef, undef, undef, undef, undef, undef, undef, undef, undef, undef, undef, undef, undef, undef, undef, undef, undef, undef, undef, undef, undef, undef, undef, undef, undef, undef, undef, undef, undef, undef, undef], []⟩) ∧ (i ≤ tm) ∧ (Copied V NB xa ls) ∧ (Row V 22 1 v (ls.length + i) (xa ++ List.replicate i v18)) ∧ (Row V 5 1 v18 (List.replicate tk 0 ++ lz).length (B (List.replicate tk 0 ++ lz))) ∧ (Keeps Nob w V) ∧ (NewFrom w.heap.size v)) (fun a _ => tm - (intOf (a.tmps.getD 11 undef)).toNat) (by kernel_rfl) ?_ ?_
    · exact ⟨0, va, undef, undef, undef, undef, undef, undef, undef, undef, undef, undef, by kernel_rfl, Nat.zero_le _, h28, hra0, h26, K29, hna'⟩
    · rintro a V31 ⟨i, v, u47, u48, u49, u50, u51, u52, u53, u54, u55, u56, rfl, hi, h32, h33, h34, K35, hnw⟩
      by_cases lt_i : i < tm
      · skip
        refine sy_sq (part_MessageScripts 3928) (part_MessageScripts 3929) ?_
        refine sy_sq (part_MessageScripts 7856) (part_MessageScripts 7857) ?_
        refine sy_reg ?_
        refine rg_plain 7 (opsAt (part_MessageScripts 7856)) [0, 1, 2, 3] (by kernel_rfl) (by kernel_rfl) ?_
        refine ps_k (o_MessageScripts 7856 0) (iN i) ?_
        refine ps_k (o_MessageScripts 7856 1) (.int .i64 many) ?_
        refine ps_c (o_MessageScripts 7856 2) 28 #[.int .i64 many, .int .i64 1010] Try.func28 ((pick1010 many tm _ hmany etm).mono ?_)
        rintro e w1 ⟨rfl, rfl⟩
        refine ⟨_, rfl, ?_⟩
        refine ps_p (o_MessageScripts 7856 3) (.bool true) (dct ((((i : Nat) : Int)) < (((tm : Nat) : Int))) (by omega)) ?_
        refine ps_end ?_
        refine then_n ?_
        refine sy_ys (.tmp 50) (part_MessageScripts 15714) (part_MessageScripts 15715) ?_
        refine sy_sk ?_
        refine then_n ?_
        refine sy_sq (part_MessageScripts 7858) (part_MessageScripts 7859) ?_
        refine sy_bk 1 (part_MessageScripts 15716) ?_
        refine sy_reg ?_
        refine rg_plain 9 (opsAt (part_MessageScripts 15716)) [0, 1, 2, 3, 4] (by kernel_rfl) (by kernel_rfl) ?_
        refine ps_k (o_MessageScripts 15716 0) (v) ?_
        refine ps_k (o_MessageScripts 15716 1) (v18) ?_
        obtain ⟨V36, eV36, gl, egl, h37, kV36⟩ := alloc_step V31 (#[v18]) 22
        have n38 : w.heap.size ≤ gl := egl ▸ K35.size
        refine ps_r (o_MessageScripts 15716 2) (.slice (some ⟨gl, 0, none⟩) 1 1) (w' := V36) (by rw [← eV36, ← egl, ← Row.cells1 h34]; exact exec_build1 54 22 (.tmp 54) (by kernel_rfl) v18 (by kernel_rfl) i0 _ Try.underlying54 hi0 hz0 1 hz1 (by decide) (by decide) (by rw [Row.cells1 h34]; rfl)) ?_
        clear eV36
        have h39 : Copied V36 NB xa ls := h32.keepsN kV36
        have h40 : Row V36 22 1 v (ls.length + i) (xa ++ List.replicate i v18) := h33.keeps kV36 (fun _ _ x => x)
        have h41 : Row V36 5 1 v18 (List.replicate tk 0 ++ lz).length (B (List.replicate tk 0 ++ lz)) := h34.keeps kV36 (fun _ _ x => x)
        have K42 := K35.nn kV36
        have z43 := kV36.size
        obtain ⟨v44, V45, hr46, h47, hg48, hn49, ha50⟩ := run_append_any (P := Try.prog) (w := V36) 54 (Oper.type (o_MessageScripts 15716 3)) 22 i0 (.slice none 0 0) 1 24 Try.underlying54 hi0 hz0 hz1 hz2 rfl (by decide) v (ls.length + i) (xa ++ List.replicate i v18) h40 (.slice (some ⟨gl, 0, none⟩) 1 1) 1 [v18] (src_block h37 1 1 rfl (by simp [one'])) (by unfold maxLen; omega) (by omega)
        have kV45 : Keeps (fun j => v.ownBlock = some j) V36 V45 := Keeps.rowAdd hg48
        have hw51 : NewFrom w.heap.size v44 := hnw.next K42.size ha50
        refine ps_r (o_MessageScripts 15716 3) v44 (w' := V45) (exec_append (.tmp 53) (.tmp 55) 54 (by kernel_rfl) v (.slice (some ⟨gl, 0, none⟩) 1 1) (by kernel_rfl) (by kernel_rfl) hr46) ?_
        have h52 : Row V45 22 1 v44 (ls.length + (i + 1)) (xa ++ List.replicate (i + 1) v18) := (repl_cast h47)
        have h53 : Copied V45 NB xa ls := h39.keepsRow kV45 h40
        have h54 : Row V45 5 1 v18 (List.replicate tk 0 ++ lz).length (B (List.replicate tk 0 ++ lz)) := row_other h41 kV45 h40 (by decide)
        have K55 : Keeps Nob w V45 := K42.then kV45 (fun i hi hm => absurd hi (by have := hnw i hm; omega))
        have z56 := kV45.size
        refine ps_k (o_MessageScripts 15716 4) (v44) ?_
        refine ps_end ?_
        refine blk_n ?_
        refine then_n ?_
        refine sy_reg ?_
        refine rg_plain 8 (opsAt (part_MessageScripts 7859)) [0, 1, 2] (by kernel_rfl) (by kernel_rfl) ?_
        refine ps_k (o_MessageScripts 7859 0) (iN i) ?_
        refine ps_p (o_MessageScripts 7859 1) (iN (i + 1)) (exec_cast (congrArg (Value.int .i64) (wrapN (i + 1) (by omega))) (by kernel_rfl)) ?_
        refine ps_k (o_MessageScripts 7859 2) (iN (i + 1)) ?_
        refine ps_end ?_
        refine then_n ?_
        refine ⟨⟨i + 1, v44, (iN i), (.int .i64 many), (iN tm), (.bool true), (iN i), (iN (i + 1)), v, v18, (.slice (some ⟨gl, 0, none⟩) 1 1), v44, by kernel_rfl, by omega, h53, h52, h54, K55, hw51⟩, ?_⟩
        exact lt_meas (x := tm - (i + 1)) (y := tm - i) (by kernel_rfl) (by kernel_rfl) (by omega)
      · have eq_i : i = tm := by omega
        refine sy_sq (part_MessageScripts 3928) (part_MessageScripts 3929) ?_
        refine sy_sq (part_MessageScripts 7856) (part_MessageScripts 7857) ?_
        refine sy_reg ?_
        refine rg_plain 7 (opsAt (part_MessageScripts 7856)) [0, 1, 2, 3] (by kernel_rfl) (by kernel_rfl) ?_
        refine ps_k (o_MessageScripts 7856 0) (iN i) ?_
        refine ps_k (o_MessageScripts 7856 1) (.int .i64 many) ?_
        refine ps_c (o_MessageScripts 7856 2) 28 #[.int .i64 many, .int .i64 1010] Try.func28 ((pick1010 many tm _ hmany etm).mono ?_)
        rintro e w1 ⟨rfl, rfl⟩
        refine ⟨_, rfl, ?_⟩
        refine ps_p (o_MessageScripts 7856 3) (.bool false) (dcf ((((i : Nat) : Int)) < (((tm : Nat) : Int))) (by omega)) ?_
        refine ps_end ?_
        refine then_n ?_
        refine sy_n (.tmp 50) (part_MessageScripts 15714) (part_MessageScripts 15715) ?_
        refine sy_exit 0 (by kernel_rfl) ?_
        refine then_e ?_
        refine then_e ?_
        refine blk_e ?_
        refine then_n ?_
        have L57 := all_lists (eq_i ▸ h33) h32 hxl (Row.bytes h34)
        obtain ⟨A2, cap2, hv2, _⟩ := L57.form
        subst hv2
        refine wp_act ⟨#[.slice A ls.length cap, .int .i64 many, .int .i64 more, .slice A0 l.length cap0, undef, undef, undef, undef, .bool false, .slice A2 (ls ++ List.replicate tm (List.replicate tk 0 ++ lz)).length cap2, v18, .int .i64 ((i : Nat) : Int), undef, undef, undef, undef, undef, undef, undef, undef, undef, undef, undef, .slice A ls.length cap, .bool false, .bool false, .slice A0 l.length cap0, .int .i64 ((l.length : Nat) : Int), .bool false, .bool false, undef, .slice A ls.length cap, va, .slice A ls.length cap, .int .i64 ((ls.length : Nat) : Int), .bool true, .bool true, .int .i64 many, .bool true, .bool true, .int .i64 more, .int .i64 ((tk : Nat) : Int), .slice (some ⟨s, 0, none⟩) tk tk, .slice A ls.length cap, .pointer (some ⟨b_z, o_z + 0, none⟩), uz, v18, .int .i64 ((i : Nat) : Int), .int .i64 many, .int .i64 ((tm : Nat) : Int), .bool false, u51, u52, u53, u54, u55, u56, undef, undef, undef, undef, undef, undef, undef, undef, undef, undef, undef, undef, undef, undef, undef, undef, undef, undef, undef, undef, undef, undef, undef, undef, undef, undef, undef, undef, undef, undef, undef, undef, undef, undef, undef, undef, undef, undef, undef, undef, undef, undef, undef, undef, undef, undef, undef, undef, undef, undef, undef, undef, undef, undef, undef, undef, undef, undef, undef, undef, undef, undef, undef, undef, undef], []⟩ (by kernel_rfl) ?_
        exact mscr_two A2 cap2 (xa ++ List.replicate tm v18) (ls ++ List.replicate tm (List.replicate tk 0 ++ lz)) A0 cap0 l w V31 K35 L57 (hx.keepsN K35) hl (big_mem hs.2 (by rw [List.length_append, List.length_replicate]; omega)) (by rw [List.length_append, List.length_replicate]; omega)
theorem mscr_ok (v : Value) (us : List Value) (ls : List (List UInt8)) (many : Int) (hmany : i64b many) (more : Int) (hmore : i64b more) (v0 : Value) (l : List UInt8) (w : World) (h0 : ListsAt w v us ls) (hx : BytesAt w v0 l) : Calls Try.prog 5 #[v, .int .i64 many, .int .i64 more, v0] w fun e w' => e = .returned (.bool true) ∧ Keeps Nob w w' := by
  obtain ⟨A0, cap0, rfl⟩ := hx.len
  obtain ⟨A, cap, rfl, _⟩ := h0.form
  cases hlg : lngL ls 30 200 with
  | true => exact mscr_long A cap us ls many more A0 cap0 l w hmany hmore h0 hx hlg
  | false =>
    by_cases hl : 600 < l.length
    · exact mscr_big A cap us ls many more A0 cap0 l w hmany hmore h0 hx hlg hl
    · exact mscr_main A cap us ls many more A0 cap0 l w hmany hmore h0 hx hlg (by omega)
end Go.Proofs.Ytmapcghgdbfmhaa
