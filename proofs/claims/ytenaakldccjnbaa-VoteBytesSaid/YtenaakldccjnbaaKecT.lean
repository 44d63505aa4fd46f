/-
  Keccak: the document's Sum, walked (printed by kec14.py). Conditions: none.
-/
import Derived.Test.YtenaakldccjnbaaKecS
import Derived.Test.YtenaakldccjnbaaKecD
namespace Go.Proofs.Ytenaakldccjnbaa
open Go Go.RowKit Go.Own Go.Shelf
theorem rb_get (X : List UInt8) (rest : List Value) (k : Nat) (h : k < X.length) : (B X ++ rest).toArray[k]? = some (.int .u8 (((X.getD k 0).toNat : Nat) : Int)) := by
  have := Bz_get X k h
  rw [List.getElem?_toArray] at this ⊢
  rw [List.getElem?_append_left (by rw [B_length]; exact h)]; exact this
theorem rb_set (X : List UInt8) (rest : List Value) (k : Nat) (x : UInt8) (h : k < X.length) : (B X ++ rest).toArray.setIfInBounds k (.int .u8 ((x.toNat : Nat) : Int)) = (B (X.set k x) ++ rest).toArray := by
  have := congrArg Array.toList (Bz_set X k x)
  rw [List.setIfInBounds_toArray] at this ⊢
  rw [List.set_append, if_pos (by rw [B_length]; exact h)]
  have e : (B X).set k (.int .u8 ((x.toNat : Nat) : Int)) = B (X.set k x) := by simpa using this
  rw [e]
theorem bytes_at {w : World} {g cap n : Nat} {X : List UInt8} {rest : List Value} {T : TypeId} (h : w.heap[g]? = some (.cells (B X ++ rest).toArray T (0, 0))) (hn : X.length = n) (k : Nat) (hk : k ≤ n) (hc : n ≤ cap) (hm : cap ≤ maxLen) : BytesAt w (.slice (some ⟨g, k, none⟩) (n - k) (cap - k)) (X.drop k) := by
  subst hn
  refine ⟨⟨_, _, by rw [List.length_drop], by rw [List.length_drop]; omega, by omega, fun h => by cases h⟩, fun i x hi => ⟨g, k, _, by rw [List.length_drop], lt_of_block h, ?_⟩⟩
  rw [List.getElem?_drop] at hi
  obtain ⟨h1, h2⟩ := List.getElem?_eq_some_iff.1 hi
  refine rc h ((rb_get X rest (k + i) h1).trans ?_)
  rw [List.getD_eq_getElem?_getD, hi]; rfl
theorem cut_at (g n cap k : Nat) (h : k < cap) : cutV (some ⟨g, 0, none⟩) n cap k = .slice (some ⟨g, k, none⟩) (n - k) (cap - k) := by
  unfold cutV
  rw [if_neg (by omega)]
  show Value.slice (some ((⟨g, 0, none⟩ : Addr).add k)) _ _ = _
  rw [Addr.add_lit, Nat.zero_add]
theorem xor128 (c : UInt8) : Value.int .u8 (bits .xor .u8 ((c.toNat : Nat) : Int) 128) = .int .u8 (((c ^^^ 128).toNat : Nat) : Int) := by
  have : ∀ j : Fin 256, bits .xor .u8 ((j.val : Nat) : Int) 128 = (((UInt8.ofNat j.val ^^^ 128).toNat : Nat) : Int) := by decide +kernel
  have h := this ⟨c.toNat, c.toNat_lt⟩
  rw [show UInt8.ofNat (⟨c.toNat, c.toNat_lt⟩ : Fin 256).val = c by simp] at h
  exact congrArg _ h
theorem pad_step (x : List UInt8) (p : Nat) : B (x ++ 6 :: List.replicate (p + 1) 0) = B (x ++ 6 :: List.replicate p 0) ++ [.int .u8 0] := by
  rw [List.replicate_succ', ← List.cons_append, ← List.append_assoc, B_append]; rfl
theorem pad_all (x Y : List UInt8) (p n : Nat) (hY : x ++ 6 :: List.replicate p 0 = Y) (hp : p = 135 - x.length % 136) (hn : Y.length = n) : Y.set (n - 1) (Y.getD (n - 1) 0 ^^^ 128) = Kec.padded x := by
  subst hn; subst hY; subst hp; rfl
/-- The state behind so many blocks. -/
def ab (Z : List UInt8) (q : Nat) : List Nat := Kec.absorb q Kec.zero Z
theorem ab_len (Z : List UInt8) (q : Nat) : (ab Z q).length = 25 := Kec.len_absorb _ _ _ (by simp [Kec.zero])
theorem ab_ws (Z : List UInt8) (q : Nat) : Kec.Ws (ab Z q) := Kec.ws_absorb _ _ _ Kec.ws_zero
def mx (Z : List UInt8) (q : Nat) : List Nat := Kec.mixin (ab Z q) ((Z.drop (136 * q)).take 136)
theorem ab_succ (Z : List UInt8) (q : Nat) : Kec.perm (mx Z q) = ab Z (q + 1) := by
  unfold ab mx
  rw [Kec.absorb_add, Nat.mul_comm q 136]
  rfl
def mxf (Z : List UInt8) (q i : Nat) : Nat := Kec.g (ab Z q) i ^^^ Kec.word ((Z.drop (136 * q + 8 * i)).take 8)
theorem mx_all (Z : List UInt8) (q : Nat) : stp (mxf Z q) 17 (ab Z q) = mx Z q := by
  have hl := ab_len Z q
  apply List.ext_getElem (by rw [stp_len, hl, mx, Kec.len_mixin])
  intro i h1 h2
  rw [stp_len, hl] at h1
  have e := stp_get (mxf Z q) 17 (ab Z q) i (by omega)
  have f : Kec.g (mx Z q) i = if i < 17 then Kec.g (ab Z q) i ^^^ Kec.wordAt ((Z.drop (136 * q)).take 136) i else Kec.g (ab Z q) i := by
    unfold mx Kec.mixin; rw [Kec.g_map _ _ h1]
  have k : Kec.g (stp (mxf Z q) 17 (ab Z q)) i = Kec.g (mx Z q) i := by
    rw [e, f]
    by_cases h : i < 17
    · rw [if_pos h, if_pos h]
      unfold mxf Kec.wordAt
      rw [List.drop_take, List.take_take, List.drop_drop, show min 8 (136 - 8 * i) = 8 by omega]
    · rw [if_neg h, if_neg h]
  unfold Kec.g at k
  rw [List.getD_eq_getElem?_getD, List.getD_eq_getElem?_getD, List.getElem?_eq_getElem (by rw [stp_len, hl]; exact h1), List.getElem?_eq_getElem h2] at k
  exact k
theorem mx_len (Z : List UInt8) (q : Nat) : (mx Z q).length = 25 := Kec.len_mixin _ _
theorem mx_ws (Z : List UInt8) (q : Nat) : Kec.Ws (mx Z q) := Kec.ws_mixin (ab_ws Z q) _
theorem hPermute_as (Z : List UInt8) (q : Nat) (w : World) : Calls Try.prog 89 #[.agg (Wz (mx Z q))] w fun e w' => e = .returned (.agg (Wz (ab Z (q + 1)))) ∧ Keeps Nob w w' := by
  rw [← ab_succ]; exact hPermute_ok (mx Z q) w (mx_len Z q) (mx_ws Z q)
/-- What is squeezed out, byte by byte. -/
def sqf (s : List Nat) (k : Nat) : UInt8 := (Kec.squeeze s).getD k 0
theorem eight_getD (a e : Nat) (h : e < 8) : (Kec.eight a).getD e 0 = UInt8.ofNat (a / 256 ^ e) := by
  unfold Kec.eight; rw [List.getD_eq_getElem?_getD, List.getElem?_map, List.getElem?_range h]; rfl
theorem sq_get (s : List Nat) (c e : Nat) (hc : c < 4) (he : e < 8) : (Kec.eight (Kec.g s c)).getD e 0 = sqf s (8 * c + e) := by
  have l8 : ∀ a, (Kec.eight a).length = 8 := fun a => by simp [Kec.eight]
  rcases (by omega : c = 0 ∨ c = 1 ∨ c = 2 ∨ c = 3) with rfl | rfl | rfl | rfl
  · unfold sqf Kec.squeeze; rw [List.append_assoc, List.append_assoc, List.getD_eq_getElem?_getD, List.getD_eq_getElem?_getD, List.getElem?_append_left (by simp only [l8]; omega)]; simp
  · unfold sqf Kec.squeeze; rw [List.append_assoc, List.append_assoc, List.getD_eq_getElem?_getD, List.getD_eq_getElem?_getD, List.getElem?_append_right (by simp only [l8]; omega), List.getElem?_append_left (by simp only [l8]; omega), l8]; congr 2; omega
  · unfold sqf Kec.squeeze; rw [List.append_assoc, List.append_assoc, List.getD_eq_getElem?_getD, List.getD_eq_getElem?_getD, List.getElem?_append_right (by simp only [l8]; omega), List.getElem?_append_right (by simp only [l8]; omega), List.getElem?_append_left (by simp only [l8]; omega), l8, l8]; congr 2; omega
  · unfold sqf Kec.squeeze; rw [List.append_assoc, List.append_assoc, List.getD_eq_getElem?_getD, List.getD_eq_getElem?_getD, List.getElem?_append_right (by simp only [l8]; omega), List.getElem?_append_right (by simp only [l8]; omega), List.getElem?_append_right (by simp only [l8]; omega), l8, l8, l8]; congr 2; omega
theorem sq_all (x : List UInt8) (nq : Nat) (h : nq = x.length / 136 + 1) (s : List UInt8) (hs : s.length = 32) : stpB (sqf (ab (Kec.padded x) nq)) 32 s = Kec.sum x := by
  rw [stpB_all _ _ 32 hs, Kec.sum_padded, Kec.padded_len, Nat.mul_div_cancel _ (by decide), ← h]
  refine List.ext_getElem (by simp [Kec.squeeze_len]) fun i h1 h2 => ?_
  simp only [List.getElem_map, List.getElem_range]
  unfold sqf ab
  rw [List.getD_eq_getElem?_getD, List.getElem?_eq_getElem h2]; rfl

noncomputable def part_hSum (n : Nat) : Code := partOf Try.f65 n
noncomputable abbrev o_hSum (n k : Nat) : Oper := (opsAt (part_hSum n)).getD k default
set_option maxRecDepth 100000 in
set_option maxHeartbeats 4000000 in
theorem hSum_ok (x : List UInt8) (v0 : Value) (w : World) (hx : BytesAt w v0 x) (hl : x.length ≤ 1000000) :
    Calls Try.prog 65 #[v0] w (fun e w' => e = .returned (.agg (B (Kec.sum x)).toArray) ∧ Keeps Nob w w') := by
  obtain ⟨i0, hi, hz0, hz1, hz2⟩ := info_parts u8_infoK
  obtain ⟨P, hP⟩ : ∃ P, 135 - x.length % 136 = P := ⟨_, rfl⟩
  have hW : Kec.W = 18446744073709551616 := rfl
  have K0 : Keeps Nob w w := Keeps.refl _ _
  refine sy_enter (part_hSum 1) ⟨#[v0, undef, undef, undef, undef, undef, undef, undef, undef, undef, undef, undef, undef, undef, undef, undef, undef, undef, undef, undef, undef, undef, undef, undef, undef, undef, undef, undef, undef, undef, undef, undef, undef, undef, undef, undef, undef, undef, undef, undef, undef, undef, undef, undef, undef, undef, undef, undef, undef, undef, undef, undef, undef, undef, undef, undef, undef, undef, undef, undef, undef, undef, undef, undef, undef, undef, undef, undef, undef, undef, undef, undef, undef, undef, undef, undef, undef, undef, undef, undef, undef, undef], []⟩ Try.func65 (by kernel_rfl) (by kernel_rfl) ?_
  refine sy_sq (part_hSum 2) (part_hSum 3) ?_
  refine sy_reg ?_
  refine rg_plain 0 (opsAt (part_hSum 2)) [0] (by kernel_rfl) (by kernel_rfl) ?_
  obtain ⟨V1, eV1, gr, egr, h2, kV1⟩ := alloc_step w (zr_u8_32) 26
  have n3 : w.heap.size ≤ gr := egr ▸ K0.size
  refine ps_r (o_hSum 2 0) (pT gr 0) (w' := V1) (by rw [← eV1, ← egr]; exact exec_alloc0 26 (by kernel_rfl) (.agg (zr_u8_32)) (by kernel_rfl)) ?_
  clear eV1
  have h4 : BytesAt V1 v0 x := hx.keepsN kV1
  have K5 := K0.nn kV1
  have z6 := kV1.size
  refine ps_end ?_
  refine then_n ?_
  refine sy_sq (part_hSum 6) (part_hSum 7) ?_
  refine sy_reg ?_
  refine rg_plain 1 (opsAt (part_hSum 6)) [0, 1, 2, 3, 4, 5] (by kernel_rfl) (by kernel_rfl) ?_
  obtain ⟨V7, eV7, g0, eg0, h8, kV7⟩ := alloc_step V1 #[] 5
  have n9 : gr < g0 := eg0 ▸ lt_of_block h2
  have n10 : w.heap.size ≤ g0 := eg0 ▸ K5.size
  refine ps_r (o_hSum 6 0) (.slice (some ⟨g0, 0, none⟩) 0 0) (w' := V7) (by rw [← eV7, ← eg0]; kernel_rfl) ?_
  have h11 : BytesAt V7 v0 x := h4.keepsN kV7
  have h12 := kV7.bk h2
  have K13 := K5.nn kV7
  have z14 := kV7.size
  refine ps_k (o_hSum 6 1) (v0) ?_
  have h15 : Row V7 5 1 (.slice (some ⟨g0, 0, none⟩) 0 0) 0 [] := row_of_block h8 rfl (by decide)
  have hw16 : NewFrom (gr + 1) (.slice (some ⟨g0, 0, none⟩) 0 0) := NewFrom.ptr (by omega) _ _
  obtain ⟨v17, V18, hr19, h20, hg21, hn22, ha23⟩ := run_append_any (P := Try.prog) (w := V7) 22 (Oper.type (o_hSum 6 2)) 5 i0 (.int .u8 0) 1 1 Try.underlying22 hi hz0 hz1 hz2 rfl (by decide) (.slice (some ⟨g0, 0, none⟩) 0 0) 0 [] h15 v0 x.length (B x) (h11.src) (by unfold maxLen; omega) (by omega)
  have kV18 : Keeps (fun j => (.slice (some ⟨g0, 0, none⟩) 0 0 : Value).ownBlock = some j) V7 V18 := Keeps.rowAdd hg21
  have hw24 : NewFrom (gr + 1) v17 := hw16.next (lt_of_block h12) ha23
  refine ps_r (o_hSum 6 2) v17 (w' := V18) (exec_append (.tmp 11) (.tmp 12) 22 (by kernel_rfl) (.slice (some ⟨g0, 0, none⟩) 0 0) v0 (by kernel_rfl) (by kernel_rfl) hr19) ?_
  have h25 : Row V18 5 1 v17 x.length (B x) := (by have e := h20; rwa [Nat.zero_add, List.nil_append] at e)
  have h26 : V18.heap[gr]? = some (.cells (zr_u8_32) 26 (0, 0)) := (kV18.block gr (lt_of_block h12) (fun e => by have := hw16 _ e; omega)).trans h12
  have K27 : Keeps Nob w V18 := K13.then kV18 (fun i hi hm => absurd hi (by have := hw16 i hm; omega))
  have z28 := kV18.size
  obtain ⟨V29, eV29, g6, eg6, h30, kV29⟩ := alloc_step V18 (#[.int .u8 6]) 5
  have n31 : gr < g6 := eg6 ▸ lt_of_block h26
  have n32 : w.heap.size ≤ g6 := eg6 ▸ K27.size
  refine ps_r (o_hSum 6 3) (.slice (some ⟨g6, 0, none⟩) 1 1) (w' := V29) (by rw [← eV29, ← eg6]; kernel_rfl) ?_
  have h33 := kV29.bk h26
  have h34 : Row V29 5 1 v17 x.length (B x) := h25.keeps kV29 (fun _ _ x => x)
  have K35 := K27.nn kV29
  have z36 := kV29.size
  obtain ⟨v37, V38, hr39, h40, hg41, hn42, ha43⟩ := run_append_any (P := Try.prog) (w := V29) 22 (Oper.type (o_hSum 6 4)) 5 i0 (.int .u8 0) 1 1 Try.underlying22 hi hz0 hz1 hz2 rfl (by decide) v17 x.length (B x) h34 (.slice (some ⟨g6, 0, none⟩) 1 1) 1 (#[.int .u8 6].toList) (src_block h30 1 1 rfl (by kernel_rfl)) (by unfold maxLen; omega) (by omega)
  have kV38 : Keeps (fun j => v17.ownBlock = some j) V29 V38 := Keeps.rowAdd hg41
  have hw44 : NewFrom (gr + 1) v37 := hw24.next (lt_of_block h33) ha43
  refine ps_r (o_hSum 6 4) v37 (w' := V38) (exec_append (.tmp 13) (.tmp 14) 22 (by kernel_rfl) v17 (.slice (some ⟨g6, 0, none⟩) 1 1) (by kernel_rfl) (by kernel_rfl) hr39) ?_
  have h45 : Row V38 5 1 v37 (x.length + 1) (B (x ++ [6])) := (by rw [B_append]; exact h40)
  have h46 : V38.heap[gr]? = some (.cells (zr_u8_32) 26 (0, 0)) := (kV38.block gr (lt_of_block h33) (fun e => by have := hw24 _ e; omega)).trans h33
  have K47 : Keeps Nob w V38 := K35.then kV38 (fun i hi hm => absurd hi (by have := hw24 i hm; omega))
  have z48 := kV38.size
  refine ps_k (o_hSum 6 5) (v37) ?_
  refine ps_end ?_
  refine then_n ?_
  refine sy_sq (part_hSum 14) (part_hSum 15) ?_
  refine sy_bk 0 (part_hSum 28) ?_
  refine sy_loop (part_hSum 56) (fun a V => ∃ (p : Nat) (v : Value) (u16 u17 u18 u19 u20 u21 u22 : Value), (a = ⟨#[v0, undef, pT gr 0, v, undef, undef, undef, undef, undef, undef, undef, .slice (some ⟨g0, 0, none⟩) 0 0, v0, v17, .slice (some ⟨g6, 0, none⟩) 1 1, v37, u16, u17, u18, u19, u20, u21, u22, undef, undef, undef, undef, undef, undef, undef, undef, undef, undef, undef, undef, undef, undef, undef, undef, undef, undef, undef, undef, undef, undef, undef, undef, undef, undef, undef, undef, undef, undef, undef, undef, undef, undef, undef, undef, undef, undef, undef, undef, undef, undef, undef, undef, undef, undef, undef, undef, undef, undef, undef, undef, undef, undef, undef, undef, undef, undef, undef], []⟩) ∧ (p ≤ P) ∧ (V.heap[gr]? = some (.cells (zr_u8_32) 26 (0, 0))) ∧ (Row V 5 1 v (x.length + 1 + p) (B (x ++ 6 :: List.replicate p 0))) ∧ (Keeps Nob w V) ∧ (NewFrom (gr + 1) v)) (fun a _ => (x.length + 200) - lenOf (a.tmps.getD 3 undef)) (by kernel_rfl) ?_ ?_
  · exact ⟨0, v37, undef, undef, undef, undef, undef, undef, undef, by kernel_rfl, by omega, h46, h45, K47, hw44⟩
  · rintro a V49 ⟨p, v, u16, u17, u18, u19, u20, u21, u22, rfl, hp, h50, h51, K52, hnw⟩
    by_cases lt_p : p < P
    · show _
      refine sy_sq (part_hSum 112) (part_hSum 113) ?_
      refine sy_sq (part_hSum 224) (part_hSum 225) ?_
      refine sy_reg ?_
      refine rg_plain 2 (opsAt (part_hSum 224)) [0, 1, 2, 3] (by kernel_rfl) (by kernel_rfl) ?_
      refine ps_k (o_hSum 224 0) (v) ?_
      refine ps_p (o_hSum 224 1) (iN (x.length + 1 + p)) (exec_len_row (.tmp 16) 22 5 (by kernel_rfl) Try.underlying22 (by kernel_rfl) h51) ?_
      refine ps_k (o_hSum 224 2) (iN ((x.length + 1 + p) % 136)) ?_
      refine ps_p (o_hSum 224 3) (.bool true) (nqt ((((x.length + 1 + p) % 136 : Nat) : Int)) ((0) : Int) (by omega)) ?_
      refine ps_end ?_
      refine then_n ?_
      refine sy_ys (.tmp 19) (part_hSum 450) (part_hSum 451) ?_
      refine sy_sk ?_
      refine then_n ?_
      refine sy_bk 1 (part_hSum 226) ?_
      refine sy_reg ?_
      refine rg_plain 3 (opsAt (part_hSum 226)) [0, 1, 2, 3] (by kernel_rfl) (by kernel_rfl) ?_
      refine ps_k (o_hSum 226 0) (v) ?_
      obtain ⟨V53, eV53, gz, egz, h54, kV53⟩ := alloc_step V49 (#[.int .u8 0]) 5
      have n55 : gr < gz := egz ▸ lt_of_block h50
      have n56 : w.heap.size ≤ gz := egz ▸ K52.size
      refine ps_r (o_hSum 226 1) (.slice (some ⟨gz, 0, none⟩) 1 1) (w' := V53) (by rw [← eV53, ← egz]; kernel_rfl) ?_
      have h57 := kV53.bk h50
      have h58 : Row V53 5 1 v (x.length + 1 + p) (B (x ++ 6 :: List.replicate p 0)) := h51.keeps kV53 (fun _ _ x => x)
      have K59 := K52.nn kV53
      have z60 := kV53.size
      obtain ⟨v61, V62, hr63, h64, hg65, hn66, ha67⟩ := run_append_any (P := Try.prog) (w := V53) 22 (Oper.type (o_hSum 226 2)) 5 i0 (.int .u8 0) 1 1 Try.underlying22 hi hz0 hz1 hz2 rfl (by decide) v (x.length + 1 + p) (B (x ++ 6 :: List.replicate p 0)) h58 (.slice (some ⟨gz, 0, none⟩) 1 1) 1 (#[.int .u8 0].toList) (src_block h54 1 1 rfl (by kernel_rfl)) (by unfold maxLen; omega) (by omega)
      have kV62 : Keeps (fun j => v.ownBlock = some j) V53 V62 := Keeps.rowAdd hg65
      have hw68 : NewFrom (gr + 1) v61 := hnw.next (lt_of_block h57) ha67
      refine ps_r (o_hSum 226 2) v61 (w' := V62) (exec_append (.tmp 20) (.tmp 21) 22 (by kernel_rfl) v (.slice (some ⟨gz, 0, none⟩) 1 1) (by kernel_rfl) (by kernel_rfl) hr63) ?_
      have h69 : Row V62 5 1 v61 (x.length + 1 + (p + 1)) (B (x ++ 6 :: List.replicate (p + 1) 0)) := (by rw [pad_step]; exact h64)
      have h70 : V62.heap[gr]? = some (.cells (zr_u8_32) 26 (0, 0)) := (kV62.block gr (lt_of_block h57) (fun e => by have := hnw _ e; omega)).trans h57
      have K71 : Keeps Nob w V62 := K59.then kV62 (fun i hi hm => absurd hi (by have := hnw i hm; omega))
      have z72 := kV62.size
      refine ps_k (o_hSum 226 3) (v61) ?_
      refine ps_end ?_
      refine blk_n ?_
      refine then_n ?_
      refine ⟨⟨p + 1, v61, v, (iN (x.length + 1 + p)), (iN ((x.length + 1 + p) % 136)), (.bool true), v, (.slice (some ⟨gz, 0, none⟩) 1 1), v61, by kernel_rfl, by omega, h70, h69, K71, hw68⟩, ?_⟩
      exact lt_meas (x := (x.length + 200) - lenOf v61) (y := (x.length + 200) - lenOf v) (by kernel_rfl) (by kernel_rfl) (by rw [row_len h69, row_len h51]; omega)
    · have eq_p : p = P := by omega
      refine sy_sq (part_hSum 112) (part_hSum 113) ?_
      refine sy_sq (part_hSum 224) (part_hSum 225) ?_
      refine sy_reg ?_
      refine rg_plain 2 (opsAt (part_hSum 224)) [0, 1, 2, 3] (by kernel_rfl) (by kernel_rfl) ?_
      refine ps_k (o_hSum 224 0) (v) ?_
      refine ps_p (o_hSum 224 1) (iN (x.length + 1 + p)) (exec_len_row (.tmp 16) 22 5 (by kernel_rfl) Try.underlying22 (by kernel_rfl) h51) ?_
      refine ps_k (o_hSum 224 2) (iN ((x.length + 1 + p) % 136)) ?_
      refine ps_p (o_hSum 224 3) (.bool false) (nqf ((((x.length + 1 + p) % 136 : Nat) : Int)) ((0) : Int) (by omega)) ?_
      refine ps_end ?_
      refine then_n ?_
      refine sy_n (.tmp 19) (part_hSum 450) (part_hSum 451) ?_
      refine sy_exit 0 (by kernel_rfl) ?_
      refine then_e ?_
      refine then_e ?_
      refine blk_e ?_
      refine then_n ?_
      refine sy_sq (part_hSum 30) (part_hSum 31) ?_
      obtain ⟨n, hn0⟩ : ∃ n, x.length + 1 + p = n := ⟨_, rfl⟩
      obtain ⟨Y, hY⟩ : ∃ Y, x ++ 6 :: List.replicate p 0 = Y := ⟨_, rfl⟩
      have hYl : Y.length = n := by rw [← hY, ← hn0]; simp; omega
      have hrw : Row V49 5 1 v n (B Y) := by rw [← hn0, ← hY]; exact h51
      obtain ⟨g, cap, rest, rfl, hg, hcap, hmax⟩ := row_open hrw (by omega)
      have hgw : gr + 1 ≤ g := hnw g rfl
      have hglt := lt_of_block hg
      obtain ⟨Z, hZ⟩ : ∃ Z, Kec.padded x = Z := ⟨_, rfl⟩
      obtain ⟨nq, hnq⟩ : ∃ nq, x.length / 136 + 1 = nq := ⟨_, rfl⟩
      have hnn : n = 136 * nq := by omega
      have hZl : Z.length = n := by rw [← hZ, Kec.padded_len, hnn, ← hnq]; omega
      refine sy_reg ?_
      refine rg_plain 4 (opsAt (part_hSum 30)) [0, 1, 2, 3, 4, 5, 6, 7, 8, 9, 10, 11, 12] (by kernel_rfl) (by kernel_rfl) ?_
      refine ps_k (o_hSum 30 0) (.slice (some ⟨g, 0, none⟩) n cap) ?_
      refine ps_k (o_hSum 30 1) (.slice (some ⟨g, 0, none⟩) n cap) ?_
      refine ps_p (o_hSum 30 2) (iN n) (exec_len (.tmp 24) 22 _ (by kernel_rfl) Try.underlying22 (some ⟨g, 0, none⟩) n cap (by kernel_rfl)) ?_
      refine ps_p (o_hSum 30 3) (iN (n - 1)) (exec_cast (congrArg (Value.int .i64) (wrapI (((n : Nat) : Int) - ((1 : Nat) : Int)) _ (by omega) (by omega) (by omega))) (by kernel_rfl)) ?_
      refine ps_k (o_hSum 30 4) (.slice (some ⟨g, 0, none⟩) n cap) ?_
      refine ps_k (o_hSum 30 5) (.slice (some ⟨g, 0, none⟩) n cap) ?_
      refine ps_p (o_hSum 30 6) (iN n) (exec_len (.tmp 28) 22 _ (by kernel_rfl) Try.underlying22 (some ⟨g, 0, none⟩) n cap (by kernel_rfl)) ?_
      refine ps_p (o_hSum 30 7) (iN (n - 1)) (exec_cast (congrArg (Value.int .i64) (wrapI (((n : Nat) : Int) - ((1 : Nat) : Int)) _ (by omega) (by omega) (by omega))) (by kernel_rfl)) ?_
      refine ps_p (o_hSum 30 8) (.pointer (some ⟨g, n - 1, none⟩)) (exec_cast (v := .pointer (some ⟨g, 0 + (n - 1) * 1, none⟩)) (by simp) (exec_indexAt_slice 22 (.tmp 27) (.tmp 30) (by kernel_rfl) g 0 n cap (by kernel_rfl) .i64 (n - 1) (by kernel_rfl) _ 1 Try.underlying22 (by kernel_rfl) (by omega))) ?_
      refine ps_p (o_hSum 30 9) (cN ((Y.getD (n - 1) 0).toNat)) (exec_ld 5 (.tmp 31) g (n - 1) Try.underlying5 (rc (hg) (rb_get _ _ (n - 1) (by rw [hYl]; omega)))) ?_
      refine ps_p (o_hSum 30 10) (cN ((Y.getD (n - 1) 0 ^^^ 128).toNat)) (exec_cast (xor128 (Y.getD (n - 1) 0)) (by kernel_rfl)) ?_
      refine ps_p (o_hSum 30 11) (.pointer (some ⟨g, n - 1, none⟩)) (exec_cast (v := .pointer (some ⟨g, 0 + (n - 1) * 1, none⟩)) (by simp) (exec_indexAt_slice 22 (.tmp 23) (.tmp 26) (by kernel_rfl) g 0 n cap (by kernel_rfl) .i64 (n - 1) (by kernel_rfl) _ 1 Try.underlying22 (by kernel_rfl) (by omega))) ?_
      obtain ⟨V73, eV73, kV73⟩ := cell_step V49 g (n - 1) (.int .u8 (((Y.getD (n - 1) 0 ^^^ 128).toNat : Nat) : Int))
      have h74 : V73.heap[g]? = some (.cells ((B Z ++ rest).toArray) 5 (0, 0)) := eV73 ▸ ((heap_setCell_same _ g (n - 1) _ _ (.int .u8 (((Y.getD (n - 1) 0 ^^^ 128).toNat : Nat) : Int)) hg).trans (congrArg (fun c => some (Obj.cells c 5 (0, 0))) (show ((B Y ++ rest).toArray : Array Value).setIfInBounds (n - 1) (.int .u8 (((Y.getD (n - 1) 0 ^^^ 128).toNat : Nat) : Int)) = (B Z ++ rest).toArray from (rb_set _ _ (n - 1) ((Y.getD (n - 1) 0 ^^^ 128)) (by rw [hYl]; omega)).trans (congrArg (fun l => (B l ++ rest).toArray) ((pad_all x Y p n hY (by omega) hYl).trans hZ)))))
      refine ps_s (o_hSum 30 12) (w' := V73) (by rw [← eV73]; exact exec_store_cell 5 (.tmp 34) (.tmp 33) (by kernel_rfl) g (n - 1) (by kernel_rfl) (cN ((Y.getD (n - 1) 0 ^^^ 128).toNat)) (by kernel_rfl) (by kernel_rfl) (by kernel_rfl) (cN ((Y.getD (n - 1) 0).toNat)) (rc (hg) (rb_get _ _ (n - 1) (by rw [hYl]; omega))) (frozen_of_row _ _ _ _ _ hg) (by kernel_rfl)) ?_
      clear eV73
      have h75 := kV73.bo h50 (by omega)
      have K76 := K52.no kV73 (by omega)
      have z77 := kV73.size
      refine ps_end ?_
      refine then_n ?_
      refine sy_sq (part_hSum 62) (part_hSum 63) ?_
      refine sy_reg ?_
      refine rg_plain 5 (opsAt (part_hSum 62)) [0] (by kernel_rfl) (by kernel_rfl) ?_
      obtain ⟨V78, eV78, gs, egs, h79, kV78⟩ := alloc_step V73 (zr_u64_25) 86
      have n80 : gr < gs := egs ▸ lt_of_block h75
      have n81 : g < gs := egs ▸ lt_of_block h74
      have n82 : w.heap.size ≤ gs := egs ▸ K76.size
      refine ps_r (o_hSum 62 0) (pT gs 0) (w' := V78) (by rw [← eV78, ← egs]; exact exec_alloc0 86 (by kernel_rfl) (.agg (zr_u64_25)) (by kernel_rfl)) ?_
      clear eV78
      have h83 := kV78.bk h75
      have h84 := kV78.bk h74
      have K85 := K76.nn kV78
      have z86 := kV78.size
      refine ps_end ?_
      refine then_n ?_
      refine sy_sq (part_hSum 126) (part_hSum 127) ?_
      refine sy_sq (part_hSum 252) (part_hSum 253) ?_
      refine sy_reg ?_
      refine rg_plain 6 (opsAt (part_hSum 252)) [0] (by kernel_rfl) (by kernel_rfl) ?_
      refine ps_k (o_hSum 252 0) (.int .i64 0) ?_
      refine ps_end ?_
      refine then_n ?_
      refine sy_bk 2 (part_hSum 506) ?_
      refine sy_loop (part_hSum 1012) (fun a V => ∃ (q : Nat) (u6 u35 u36 u37 u38 u39 u40 u41 u42 u43 u44 u45 u46 u47 u48 u49 u50 u51 u52 u53 u54 u55 u56 u57 u58 u59 : Value), (a = ⟨#[v0, undef, pT gr 0, .slice (some ⟨g, 0, none⟩) n cap, pT gs 0, iN (136 * q), u6, undef, undef, undef, undef, .slice (some ⟨g0, 0, none⟩) 0 0, v0, v17, .slice (some ⟨g6, 0, none⟩) 1 1, v37, .slice (some ⟨g, 0, none⟩) n cap, iN (x.length + 1 + p), iN ((x.length + 1 + p) % 136), .bool false, u20, u21, u22, .slice (some ⟨g, 0, none⟩) n cap, .slice (some ⟨g, 0, none⟩) n cap, iN n, iN (n - 1), .slice (some ⟨g, 0, none⟩) n cap, .slice (some ⟨g, 0, none⟩) n cap, iN n, iN (n - 1), .pointer (some ⟨g, n - 1, none⟩), cN ((Y.getD (n - 1) 0).toNat), cN ((Y.getD (n - 1) 0 ^^^ 128).toNat), .pointer (some ⟨g, n - 1, none⟩), u35, u36, u37, u38, u39, u40, u41, u42, u43, u44, u45, u46, u47, u48, u49, u50, u51, u52, u53, u54, u55, u56, u57, u58, u59, undef, undef, undef, undef, undef, undef, undef, undef, undef, undef, undef, undef, undef, undef, undef, undef, undef, undef, undef, undef, undef, undef], []⟩) ∧ (q ≤ nq) ∧ (V.heap[gr]? = some (.cells (zr_u8_32) 26 (0, 0))) ∧ (V.heap[g]? = some (.cells ((B Z ++ rest).toArray) 5 (0, 0))) ∧ (V.heap[gs]? = some (.cells (Wz (ab Z q)) 86 (0, 0))) ∧ (Keeps Nob w V)) (fun a _ => 136 * nq - (intOf (a.tmps.getD 5 undef)).toNat) (by kernel_rfl) ?_ ?_
      · exact ⟨0, undef, undef, undef, undef, undef, undef, undef, undef, undef, undef, undef, undef, undef, undef, undef, undef, undef, undef, undef, undef, undef, undef, undef, undef, undef, undef, by kernel_rfl, by omega, h83, h84, h79.trans (by kernel_rfl), K85⟩
      · rintro a V87 ⟨q, u6, u35, u36, u37, u38, u39, u40, u41, u42, u43, u44, u45, u46, u47, u48, u49, u50, u51, u52, u53, u54, u55, u56, u57, u58, u59, rfl, hq, h88, h89, h90, K91⟩
        by_cases lt_q : q < nq
        · show _
          refine sy_sq (part_hSum 2024) (part_hSum 2025) ?_
          refine sy_sq (part_hSum 4048) (part_hSum 4049) ?_
          refine sy_reg ?_
          refine rg_plain 7 (opsAt (part_hSum 4048)) [0, 1, 2, 3] (by kernel_rfl) (by kernel_rfl) ?_
          refine ps_k (o_hSum 4048 0) (iN (136 * q)) ?_
          refine ps_k (o_hSum 4048 1) (.slice (some ⟨g, 0, none⟩) n cap) ?_
          refine ps_p (o_hSum 4048 2) (iN n) (exec_len (.tmp 36) 22 _ (by kernel_rfl) Try.underlying22 (some ⟨g, 0, none⟩) n cap (by kernel_rfl)) ?_
          refine ps_p (o_hSum 4048 3) (.bool true) (dct ((((136 * q : Nat) : Int)) < (((n : Nat) : Int))) (by omega)) ?_
          refine ps_end ?_
          refine then_n ?_
          refine sy_ys (.tmp 38) (part_hSum 8098) (part_hSum 8099) ?_
          refine sy_sk ?_
          refine then_n ?_
          refine sy_sq (part_hSum 4050) (part_hSum 4051) ?_
          refine sy_bk 3 (part_hSum 8100) ?_
          refine sy_sq (part_hSum 16200) (part_hSum 16201) ?_
          refine sy_sq (part_hSum 32400) (part_hSum 32401) ?_
          refine sy_reg ?_
          refine rg_plain 9 (opsAt (part_hSum 32400)) [0] (by kernel_rfl) (by kernel_rfl) ?_
          refine ps_k (o_hSum 32400 0) (.int .i64 0) ?_
          refine ps_end ?_
          refine then_n ?_
          refine sy_bk 4 (part_hSum 64802) ?_
          refine sy_loop (part_hSum 129604) (fun a V => ∃ (i : Nat) (u41 u42 u43 u44 u45 u46 u47 u48 u49 u50 u51 u52 u53 u54 u55 u56 u57 : Value), (a = ⟨#[v0, undef, pT gr 0, .slice (some ⟨g, 0, none⟩) n cap, pT gs 0, iN (136 * q), iN i, undef, undef, undef, undef, .slice (some ⟨g0, 0, none⟩) 0 0, v0, v17, .slice (some ⟨g6, 0, none⟩) 1 1, v37, .slice (some ⟨g, 0, none⟩) n cap, iN (x.length + 1 + p), iN ((x.length + 1 + p) % 136), .bool false, u20, u21, u22, .slice (some ⟨g, 0, none⟩) n cap, .slice (some ⟨g, 0, none⟩) n cap, iN n, iN (n - 1), .slice (some ⟨g, 0, none⟩) n cap, .slice (some ⟨g, 0, none⟩) n cap, iN n, iN (n - 1), .pointer (some ⟨g, n - 1, none⟩), cN ((Y.getD (n - 1) 0).toNat), cN ((Y.getD (n - 1) 0 ^^^ 128).toNat), .pointer (some ⟨g, n - 1, none⟩), iN (136 * q), .slice (some ⟨g, 0, none⟩) n cap, iN n, .bool true, u39, u40, u41, u42, u43, u44, u45, u46, u47, u48, u49, u50, u51, u52, u53, u54, u55, u56, u57, u58, u59, undef, undef, undef, undef, undef, undef, undef, undef, undef, undef, undef, undef, undef, undef, undef, undef, undef, undef, undef, undef, undef, undef], []⟩) ∧ (i ≤ 17) ∧ (V.heap[gr]? = some (.cells (zr_u8_32) 26 (0, 0))) ∧ (V.heap[g]? = some (.cells ((B Z ++ rest).toArray) 5 (0, 0))) ∧ (V.heap[gs]? = some (.cells (Wz (stp (mxf Z q) i (ab Z q))) 86 (0, 0))) ∧ (Keeps Nob w V)) (fun a _ => 17 - (intOf (a.tmps.getD 6 undef)).toNat) (by kernel_rfl) ?_ ?_
          · exact ⟨0, u41, u42, u43, u44, u45, u46, u47, u48, u49, u50, u51, u52, u53, u54, u55, u56, u57, by kernel_rfl, by omega, h88, h89, h90, K91⟩
          · rintro a V92 ⟨i, u41, u42, u43, u44, u45, u46, u47, u48, u49, u50, u51, u52, u53, u54, u55, u56, u57, rfl, hi, h93, h94, h95, K96⟩
            by_cases lt_i : i < 17
            · show _
              refine sy_sq (part_hSum 259208) (part_hSum 259209) ?_
              refine sy_sq (part_hSum 518416) (part_hSum 518417) ?_
              refine sy_reg ?_
              refine rg_plain 10 (opsAt (part_hSum 518416)) [0, 1] (by kernel_rfl) (by kernel_rfl) ?_
              refine ps_k (o_hSum 518416 0) (iN i) ?_
              refine ps_p (o_hSum 518416 1) (.bool true) (dct ((((i : Nat) : Int)) < ((17) : Int)) (by omega)) ?_
              refine ps_end ?_
              refine then_n ?_
              refine sy_ys (.tmp 42) (part_hSum 1036834) (part_hSum 1036835) ?_
              refine sy_sk ?_
              refine then_n ?_
              refine sy_sq (part_hSum 518418) (part_hSum 518419) ?_
              refine sy_bk 5 (part_hSum 1036836) ?_
              refine sy_reg ?_
              refine rg_still 12 13 (opsAt (part_hSum 1036836)) [o_hSum 1036836 0, o_hSum 1036836 1, o_hSum 1036836 2, o_hSum 1036836 3, o_hSum 1036836 4, o_hSum 1036836 5, o_hSum 1036836 6, o_hSum 1036836 7, o_hSum 1036836 8, o_hSum 1036836 9, o_hSum 1036836 10, o_hSum 1036836 11, o_hSum 1036836 12] [o_hSum 1036836 13] (by kernel_rfl) (by kernel_rfl) (by kernel_rfl) (by kernel_rfl) (by kernel_rfl) ?_
              obtain ⟨V98, eV98, kV98⟩ := drew_step V92
              rw [eV98]
              clear eV98
              have h99 := kV98.bk h93
              have h100 := kV98.bk h94
              have h101 := kV98.bk h95
              have K102 := K96.nn kV98
              have z103 := kV98.size
              refine st_k (o_hSum 1036836 0) (iN i) ?_
              refine st_k (o_hSum 1036836 1) (iN i) ?_
              refine st_p (o_hSum 1036836 2) (pT gs i) (exec_cast (v := pT gs (0 + i * 1)) (by simp) (exec_indexAt_arr 86 (.tmp 4) (.tmp 46) (by kernel_rfl) gs 0 (by kernel_rfl) .i64 i (by kernel_rfl) _ _ 1 Try.underlying86 (by kernel_rfl) (by omega))) ?_
              refine st_p (o_hSum 1036836 3) (uN (Kec.g (ab Z q) i)) (exec_ld 27 (.tmp 47) gs i Try.underlying27 (rc (h101) (Wz_get' _ i _ (by rw [stp_len, ab_len]; omega) (by rw [stp_get _ _ _ _ (by rw [ab_len]; omega), if_neg (by omega)])))) ?_
              refine st_k (o_hSum 1036836 4) (.slice (some ⟨g, 0, none⟩) n cap) ?_
              refine st_k (o_hSum 1036836 5) (iN (136 * q)) ?_
              refine st_k (o_hSum 1036836 6) (iN i) ?_
              refine st_p (o_hSum 1036836 7) (iN (8 * i)) (exec_cast (congrArg (Value.int .i64) (wrapN (8 * i) (by omega))) (by kernel_rfl)) ?_
              refine st_p (o_hSum 1036836 8) (iN ((136 * q) + (8 * i))) (exec_cast (congrArg (Value.int .i64) (wrapN ((136 * q) + (8 * i)) (by omega))) (by kernel_rfl)) ?_
              refine st_p (o_hSum 1036836 9) (.slice (some ⟨g, (136 * q + 8 * i), none⟩) (n - (136 * q + 8 * i)) (cap - (136 * q + 8 * i))) (exec_cast (cut_at g n cap (136 * q + 8 * i) (by omega)) (exec_slice_from 22 (.tmp 49) (.tmp 53) (by kernel_rfl) (some ⟨g, 0, none⟩) n cap (by kernel_rfl) .i64 (136 * q + 8 * i) (by kernel_rfl) 5 Try.underlying22 (by kernel_rfl) (by omega))) ?_
              refine st_c (o_hSum 1036836 10) 88 #[.slice (some ⟨g, (136 * q + 8 * i), none⟩) (n - (136 * q + 8 * i)) (cap - (136 * q + 8 * i))] (uN (Kec.word ((Z.drop (136 * q + 8 * i)).take 8))) Try.func88 (hword_ok g (136 * q + 8 * i) (n - (136 * q + 8 * i)) (cap - (136 * q + 8 * i)) (Z.drop (136 * q + 8 * i)) _ (by rw [List.length_drop, hZl]) (by omega) (by omega) (bytes_at h100 hZl (136 * q + 8 * i) (by omega) hcap hmax)) ?_
              refine st_p (o_hSum 1036836 11) (uN ((Kec.g (ab Z q) i) ^^^ (Kec.word ((Z.drop (136 * q + 8 * i)).take 8)))) (exec_cast (xorU (Kec.g (ab Z q) i) (Kec.word ((Z.drop (136 * q + 8 * i)).take 8)) (ab_ws _ _ _) (word_take_lt _ 8 (by omega))) (by kernel_rfl)) ?_
              refine st_p (o_hSum 1036836 12) (pT gs i) (exec_cast (v := pT gs (0 + i * 1)) (by simp) (exec_indexAt_arr 86 (.tmp 4) (.tmp 45) (by kernel_rfl) gs 0 (by kernel_rfl) .i64 i (by kernel_rfl) _ _ 1 Try.underlying86 (by kernel_rfl) (by omega))) ?_
              refine st_end ?_
              obtain ⟨V104, eV104, kV104⟩ := cell_step V98 gs i (.int .u64 (((Kec.g (ab Z q) i) ^^^ (Kec.word ((Z.drop (136 * q + 8 * i)).take 8)) : Nat) : Int))
              have h105 : V104.heap[gs]? = some (.cells (Wz (stp (mxf Z q) (i + 1) (ab Z q))) 86 (0, 0)) := eV104 ▸ ((heap_setCell_same _ gs i _ _ (.int .u64 (((Kec.g (ab Z q) i) ^^^ (Kec.word ((Z.drop (136 * q + 8 * i)).take 8)) : Nat) : Int)) h101).trans (congrArg (fun c => some (Obj.cells c 86 (0, 0))) (show (Wz (stp (mxf Z q) i (ab Z q)) : Array Value).setIfInBounds i (.int .u64 (((Kec.g (ab Z q) i) ^^^ (Kec.word ((Z.drop (136 * q + 8 * i)).take 8)) : Nat) : Int)) = Wz (stp (mxf Z q) (i + 1) (ab Z q)) from by rw [Wz_set]; exact congrArg Wz (by rw [stp_succ] <;> rfl))))
              refine ls_skip (o_hSum 1036836 13) (w' := V104) (by kernel_rfl) (by rw [← eV104]; exact exec_store_cell 27 (.tmp 57) (.tmp 56) (by kernel_rfl) gs i (by kernel_rfl) (.int .u64 (((Kec.g (ab Z q) i) ^^^ (Kec.word ((Z.drop (136 * q + 8 * i)).take 8)) : Nat) : Int)) (by kernel_rfl) (by kernel_rfl) (by kernel_rfl) (.int .u64 ((Kec.g (ab Z q) i : Nat) : Int)) (rc (h101) (Wz_get' _ i _ (by rw [stp_len, ab_len]; omega) (by rw [stp_get _ _ _ _ (by rw [ab_len]; omega), if_neg (by omega)]))) (frozen_of_row _ _ _ _ _ h101) (by kernel_rfl)) ?_
              clear eV104
              have h106 := kV104.bo h99 (by omega)
              have h107 := kV104.bo h100 (by omega)
              have K108 := K102.no kV104 (by omega)
              have z109 := kV104.size
              refine ls_end ?_
              refine blk_n ?_
              refine then_n ?_
              refine sy_reg ?_
              refine rg_plain 11 (opsAt (part_hSum 518419)) [0, 1, 2] (by kernel_rfl) (by kernel_rfl) ?_
              refine ps_k (o_hSum 518419 0) (iN i) ?_
              refine ps_p (o_hSum 518419 1) (iN (i + 1)) (exec_cast (congrArg (Value.int .i64) (wrapN (i + 1) (by omega))) (by kernel_rfl)) ?_
              refine ps_k (o_hSum 518419 2) (iN (i + 1)) ?_
              refine ps_end ?_
              refine then_n ?_
              refine ⟨⟨i + 1, (iN i), (.bool true), (iN i), (iN (i + 1)), (iN i), (iN i), (pT gs i), (uN (Kec.g (ab Z q) i)), (.slice (some ⟨g, 0, none⟩) n cap), (iN (136 * q)), (iN i), (iN (8 * i)), (iN ((136 * q) + (8 * i))), (.slice (some ⟨g, (136 * q + 8 * i), none⟩) (n - (136 * q + 8 * i)) (cap - (136 * q + 8 * i))), (uN (Kec.word ((Z.drop (136 * q + 8 * i)).take 8))), (uN ((Kec.g (ab Z q) i) ^^^ (Kec.word ((Z.drop (136 * q + 8 * i)).take 8)))), (pT gs i), by kernel_rfl, by omega, h106, h107, h105, K108⟩, ?_⟩
              exact lt_meas (x := 17 - (i + 1)) (y := 17 - i) (by kernel_rfl) (by kernel_rfl) (by omega)
            · have eq_i : i = 17 := by omega
              have h110 : V92.heap[gs]? = some (.cells (Wz (mx Z q)) 86 (0, 0)) := h95.trans (by rw [eq_i, mx_all])
              refine sy_sq (part_hSum 259208) (part_hSum 259209) ?_
              refine sy_sq (part_hSum 518416) (part_hSum 518417) ?_
              refine sy_reg ?_
              refine rg_plain 10 (opsAt (part_hSum 518416)) [0, 1] (by kernel_rfl) (by kernel_rfl) ?_
              refine ps_k (o_hSum 518416 0) (iN i) ?_
              refine ps_p (o_hSum 518416 1) (.bool false) (dcf ((((i : Nat) : Int)) < ((17) : Int)) (by omega)) ?_
              refine ps_end ?_
              refine then_n ?_
              refine sy_n (.tmp 42) (part_hSum 1036834) (part_hSum 1036835) ?_
              refine sy_exit 4 (by kernel_rfl) ?_
              refine then_e ?_
              refine then_e ?_
              refine blk_e ?_
              refine then_n ?_
              refine sy_reg ?_
              refine rg_plain 13 (opsAt (part_hSum 16201)) [0, 1, 2] (by kernel_rfl) (by kernel_rfl) ?_
              refine ps_p (o_hSum 16201 0) (.agg (Wz (mx Z q))) (exec_load_row 86 (.tmp 4) (by kernel_rfl) gs (by kernel_rfl) _ _ (0, 0) _ (h110) Try.underlying86 rfl (by rw [Wz_size, mx_len]; kernel_rfl)) ?_
              refine ps_c (o_hSum 16201 1) 89 #[.agg (Wz (mx Z q))] Try.func89 ((hPermute_as Z q _).mono ?_)
              rintro e V111 ⟨rfl, kV111⟩
              refine ⟨_, rfl, ?_⟩
              have h112 := kV111.bk h93
              have h113 := kV111.bk h94
              have h114 := kV111.bk h110
              have K115 := K96.nn kV111
              have z116 := kV111.size
              obtain ⟨V117, eV117, kV117⟩ := rowset_step V111 gs ((Wz (ab Z (q + 1))))
              have h118 : V117.heap[gs]? = some (.cells (Wz (ab Z (q + 1))) 86 (0, 0)) := eV117 ▸ setRow_heap _ _ _ _ _ _ h114
              refine ps_s (o_hSum 16201 2) (w' := V117) (by rw [← eV117]; exact exec_store_row 86 (.tmp 4) (.tmp 59) (by kernel_rfl) gs ((Wz (ab Z (q + 1)))) (by kernel_rfl) (by kernel_rfl) 86 (Wz (mx Z q)) h114 (by rw [Wz_size, ab_len]; kernel_rfl) (by rw [Wz_size, Wz_size, mx_len, ab_len]) (Wz_one _)) ?_
              clear eV117
              have h119 := kV117.bo h112 (by omega)
              have h120 := kV117.bo h113 (by omega)
              have K121 := K115.no kV117 (by omega)
              have z122 := kV117.size
              refine ps_end ?_
              refine blk_n ?_
              refine then_n ?_
              refine sy_reg ?_
              refine rg_plain 8 (opsAt (part_hSum 4051)) [0, 1, 2] (by kernel_rfl) (by kernel_rfl) ?_
              refine ps_k (o_hSum 4051 0) (iN (136 * q)) ?_
              refine ps_p (o_hSum 4051 1) (iN ((136 * q) + 136)) (exec_cast (congrArg (Value.int .i64) (wrapN ((136 * q) + 136) (by omega))) (by kernel_rfl)) ?_
              refine ps_k (o_hSum 4051 2) (iN ((136 * q) + 136)) ?_
              refine ps_end ?_
              refine then_n ?_
              refine ⟨⟨q + 1, (iN i), (iN (136 * q)), (.slice (some ⟨g, 0, none⟩) n cap), (iN n), (.bool true), (iN (136 * q)), (iN ((136 * q) + 136)), (iN i), (.bool false), u43, u44, u45, u46, u47, u48, u49, u50, u51, u52, u53, u54, u55, u56, u57, (.agg (Wz (mx Z q))), (.agg (Wz (ab Z (q + 1)))), by kernel_rfl, by omega, h119, h120, h118, K121⟩, ?_⟩
              exact lt_meas (x := 136 * nq - 136 * (q + 1)) (y := 136 * nq - 136 * q) (by kernel_rfl) (by kernel_rfl) (by omega)
        · have eq_q : q = nq := by omega
          have h123 : V87.heap[gs]? = some (.cells (Wz (ab Z nq)) 86 (0, 0)) := h90.trans (by rw [eq_q])
          refine sy_sq (part_hSum 2024) (part_hSum 2025) ?_
          refine sy_sq (part_hSum 4048) (part_hSum 4049) ?_
          refine sy_reg ?_
          refine rg_plain 7 (opsAt (part_hSum 4048)) [0, 1, 2, 3] (by kernel_rfl) (by kernel_rfl) ?_
          refine ps_k (o_hSum 4048 0) (iN (136 * q)) ?_
          refine ps_k (o_hSum 4048 1) (.slice (some ⟨g, 0, none⟩) n cap) ?_
          refine ps_p (o_hSum 4048 2) (iN n) (exec_len (.tmp 36) 22 _ (by kernel_rfl) Try.underlying22 (some ⟨g, 0, none⟩) n cap (by kernel_rfl)) ?_
          refine ps_p (o_hSum 4048 3) (.bool false) (dcf ((((136 * q : Nat) : Int)) < (((n : Nat) : Int))) (by omega)) ?_
          refine ps_end ?_
          refine then_n ?_
          refine sy_n (.tmp 38) (part_hSum 8098) (part_hSum 8099) ?_
          refine sy_exit 2 (by kernel_rfl) ?_
          refine then_e ?_
          refine then_e ?_
          refine blk_e ?_
          refine then_n ?_
          refine sy_sq (part_hSum 254) (part_hSum 255) ?_
          refine sy_reg ?_
          refine rg_plain 14 (opsAt (part_hSum 254)) [0] (by kernel_rfl) (by kernel_rfl) ?_
          obtain ⟨V124, eV124, go, ego, h125, kV124⟩ := alloc_step V87 (zr_u8_32) 26
          have n126 : gr < go := ego ▸ lt_of_block h88
          have n127 : g < go := ego ▸ lt_of_block h89
          have n128 : gs < go := ego ▸ lt_of_block h123
          have n129 : w.heap.size ≤ go := ego ▸ K91.size
          refine ps_r (o_hSum 254 0) (pT go 0) (w' := V124) (by rw [← eV124, ← ego]; exact exec_alloc0 26 (by kernel_rfl) (.agg (zr_u8_32)) (by kernel_rfl)) ?_
          clear eV124
          have h130 := kV124.bk h88
          have h131 := kV124.bk h89
          have h132 := kV124.bk h123
          have K133 := K91.nn kV124
          have z134 := kV124.size
          refine ps_end ?_
          refine then_n ?_
          refine sy_sq (part_hSum 510) (part_hSum 511) ?_
          refine sy_sq (part_hSum 1020) (part_hSum 1021) ?_
          refine sy_reg ?_
          refine rg_plain 15 (opsAt (part_hSum 1020)) [0] (by kernel_rfl) (by kernel_rfl) ?_
          refine ps_k (o_hSum 1020 0) (.int .i64 0) ?_
          refine ps_end ?_
          refine then_n ?_
          refine sy_bk 6 (part_hSum 2042) ?_
          refine sy_loop (part_hSum 4084) (fun a V => ∃ (c : Nat) (u9 u10 u60 u61 u62 u63 u64 u65 u66 u67 u68 u69 u70 u71 u72 u73 u74 u75 u76 u77 u78 u79 u80 : Value), (a = ⟨#[v0, undef, pT gr 0, .slice (some ⟨g, 0, none⟩) n cap, pT gs 0, iN (136 * q), u6, pT go 0, iN c, u9, u10, .slice (some ⟨g0, 0, none⟩) 0 0, v0, v17, .slice (some ⟨g6, 0, none⟩) 1 1, v37, .slice (some ⟨g, 0, none⟩) n cap, iN (x.length + 1 + p), iN ((x.length + 1 + p) % 136), .bool false, u20, u21, u22, .slice (some ⟨g, 0, none⟩) n cap, .slice (some ⟨g, 0, none⟩) n cap, iN n, iN (n - 1), .slice (some ⟨g, 0, none⟩) n cap, .slice (some ⟨g, 0, none⟩) n cap, iN n, iN (n - 1), .pointer (some ⟨g, n - 1, none⟩), cN ((Y.getD (n - 1) 0).toNat), cN ((Y.getD (n - 1) 0 ^^^ 128).toNat), .pointer (some ⟨g, n - 1, none⟩), iN (136 * q), .slice (some ⟨g, 0, none⟩) n cap, iN n, .bool false, u39, u40, u41, u42, u43, u44, u45, u46, u47, u48, u49, u50, u51, u52, u53, u54, u55, u56, u57, u58, u59, u60, u61, u62, u63, u64, u65, u66, u67, u68, u69, u70, u71, u72, u73, u74, u75, u76, u77, u78, u79, u80, undef], []⟩) ∧ (c ≤ 4) ∧ (V.heap[gr]? = some (.cells (zr_u8_32) 26 (0, 0))) ∧ (V.heap[g]? = some (.cells ((B Z ++ rest).toArray) 5 (0, 0))) ∧ (V.heap[gs]? = some (.cells (Wz (ab Z nq)) 86 (0, 0))) ∧ (V.heap[go]? = some (.cells ((B (stpB (sqf (ab Z nq)) (8 * c) (List.replicate 32 0))).toArray) 26 (0, 0))) ∧ (Keeps Nob w V)) (fun a _ => 4 - (intOf (a.tmps.getD 8 undef)).toNat) (by kernel_rfl) ?_ ?_
          · exact ⟨0, undef, undef, undef, undef, undef, undef, undef, undef, undef, undef, undef, undef, undef, undef, undef, undef, undef, undef, undef, undef, undef, undef, undef, by kernel_rfl, by omega, h130, h131, h132, h125.trans (by kernel_rfl), K133⟩
          · rintro a V135 ⟨c, u9, u10, u60, u61, u62, u63, u64, u65, u66, u67, u68, u69, u70, u71, u72, u73, u74, u75, u76, u77, u78, u79, u80, rfl, hc, h136, h137, h138, h139, K140⟩
            by_cases lt_c : c < 4
            · show _
              refine sy_sq (part_hSum 8168) (part_hSum 8169) ?_
              refine sy_sq (part_hSum 16336) (part_hSum 16337) ?_
              refine sy_reg ?_
              refine rg_plain 16 (opsAt (part_hSum 16336)) [0, 1] (by kernel_rfl) (by kernel_rfl) ?_
              refine ps_k (o_hSum 16336 0) (iN c) ?_
              refine ps_p (o_hSum 16336 1) (.bool true) (dct ((((c : Nat) : Int)) < ((4) : Int)) (by omega)) ?_
              refine ps_end ?_
              refine then_n ?_
              refine sy_ys (.tmp 61) (part_hSum 32674) (part_hSum 32675) ?_
              refine sy_sk ?_
              refine then_n ?_
              refine sy_sq (part_hSum 16338) (part_hSum 16339) ?_
              refine sy_bk 7 (part_hSum 32676) ?_
              refine sy_sq (part_hSum 65352) (part_hSum 65353) ?_
              refine sy_reg ?_
              refine rg_plain 18 (opsAt (part_hSum 65352)) [0, 1, 2, 3, 4] (by kernel_rfl) (by kernel_rfl) ?_
              refine ps_k (o_hSum 65352 0) (iN c) ?_
              refine ps_p (o_hSum 65352 1) (pT gs c) (exec_cast (v := pT gs (0 + c * 1)) (by simp) (exec_indexAt_arr 86 (.tmp 4) (.tmp 64) (by kernel_rfl) gs 0 (by kernel_rfl) .i64 c (by kernel_rfl) _ _ 1 Try.underlying86 (by kernel_rfl) (by omega))) ?_
              refine ps_p (o_hSum 65352 2) (uN (Kec.g (ab Z nq) c)) (exec_ld 27 (.tmp 65) gs c Try.underlying27 (rc (h138) (Wz_get _ c (by rw [ab_len]; omega)))) ?_
              have hgo8 := lt_of_block h139
              refine ps_c (o_hSum 65352 3) 90 #[uN (Kec.g (ab Z nq) c)] Try.func90 ((hbytes_ok (Kec.g (ab Z nq) c) _ (ab_ws _ _ _)).mono ?_)
              rintro e V141 ⟨v8, rfl, hrow8, hnew8, kV141⟩
              obtain ⟨g8, cap8, rest8, rfl, hg8, hcap8, hmax8⟩ := row_open hrow8 (by omega)
              have hge8 := hnew8 g8 rfl
              have hlt8 := lt_of_block hg8
              refine ⟨_, rfl, ?_⟩
              have h142 := kV141.bk h136
              have h143 := kV141.bk h137
              have h144 := kV141.bk h138
              have h145 := kV141.bk h139
              have K146 := K140.nn kV141
              have z147 := kV141.size
              refine ps_k (o_hSum 65352 4) (.slice (some ⟨g8, 0, none⟩) 8 cap8) ?_
              refine ps_end ?_
              refine then_n ?_
              refine sy_sq (part_hSum 130706) (part_hSum 130707) ?_
              refine sy_reg ?_
              refine rg_plain 19 (opsAt (part_hSum 130706)) [0] (by kernel_rfl) (by kernel_rfl) ?_
              refine ps_k (o_hSum 130706 0) (.int .i64 0) ?_
              refine ps_end ?_
              refine then_n ?_
              refine sy_bk 8 (part_hSum 261414) ?_
              refine sy_loop (part_hSum 522828) (fun a V => ∃ (e : Nat) (u68 u69 u70 u71 u72 u73 u74 u75 u76 u77 u78 u79 u80 : Value), (a = ⟨#[v0, undef, pT gr 0, .slice (some ⟨g, 0, none⟩) n cap, pT gs 0, iN (136 * q), u6, pT go 0, iN c, .slice (some ⟨g8, 0, none⟩) 8 cap8, iN e, .slice (some ⟨g0, 0, none⟩) 0 0, v0, v17, .slice (some ⟨g6, 0, none⟩) 1 1, v37, .slice (some ⟨g, 0, none⟩) n cap, iN (x.length + 1 + p), iN ((x.length + 1 + p) % 136), .bool false, u20, u21, u22, .slice (some ⟨g, 0, none⟩) n cap, .slice (some ⟨g, 0, none⟩) n cap, iN n, iN (n - 1), .slice (some ⟨g, 0, none⟩) n cap, .slice (some ⟨g, 0, none⟩) n cap, iN n, iN (n - 1), .pointer (some ⟨g, n - 1, none⟩), cN ((Y.getD (n - 1) 0).toNat), cN ((Y.getD (n - 1) 0 ^^^ 128).toNat), .pointer (some ⟨g, n - 1, none⟩), iN (136 * q), .slice (some ⟨g, 0, none⟩) n cap, iN n, .bool false, u39, u40, u41, u42, u43, u44, u45, u46, u47, u48, u49, u50, u51, u52, u53, u54, u55, u56, u57, u58, u59, iN c, .bool true, u62, u63, iN c, pT gs c, uN (Kec.g (ab Z nq) c), .slice (some ⟨g8, 0, none⟩) 8 cap8, u68, u69, u70, u71, u72, u73, u74, u75, u76, u77, u78, u79, u80, undef], []⟩) ∧ (e ≤ 8) ∧ (V.heap[gr]? = some (.cells (zr_u8_32) 26 (0, 0))) ∧ (V.heap[g]? = some (.cells ((B Z ++ rest).toArray) 5 (0, 0))) ∧ (V.heap[gs]? = some (.cells (Wz (ab Z nq)) 86 (0, 0))) ∧ (V.heap[go]? = some (.cells ((B (stpB (sqf (ab Z nq)) (8 * c + e) (List.replicate 32 0))).toArray) 26 (0, 0))) ∧ (V.heap[g8]? = some (.cells ((B (Kec.eight (Kec.g (ab Z nq) c)) ++ rest8).toArray) 5 (0, 0))) ∧ (Keeps Nob w V)) (fun a _ => 8 - (intOf (a.tmps.getD 10 undef)).toNat) (by kernel_rfl) ?_ ?_
              · exact ⟨0, u68, u69, u70, u71, u72, u73, u74, u75, u76, u77, u78, u79, u80, by kernel_rfl, by omega, h142, h143, h144, h145, hg8, K146⟩
              · rintro a V148 ⟨e, u68, u69, u70, u71, u72, u73, u74, u75, u76, u77, u78, u79, u80, rfl, he, h149, h150, h151, h152, h153, K154⟩
                by_cases lt_e : e < 8
                · show _
                  refine sy_sq (part_hSum 1045656) (part_hSum 1045657) ?_
                  refine sy_sq (part_hSum 2091312) (part_hSum 2091313) ?_
                  refine sy_reg ?_
                  refine rg_plain 20 (opsAt (part_hSum 2091312)) [0, 1] (by kernel_rfl) (by kernel_rfl) ?_
                  refine ps_k (o_hSum 2091312 0) (iN e) ?_
                  refine ps_p (o_hSum 2091312 1) (.bool true) (dct ((((e : Nat) : Int)) < ((8) : Int)) (by omega)) ?_
                  refine ps_end ?_
                  refine then_n ?_
                  refine sy_ys (.tmp 69) (part_hSum 4182626) (part_hSum 4182627) ?_
                  refine sy_sk ?_
                  refine then_n ?_
                  refine sy_sq (part_hSum 2091314) (part_hSum 2091315) ?_
                  refine sy_bk 9 (part_hSum 4182628) ?_
                  refine sy_reg ?_
                  refine rg_plain 22 (opsAt (part_hSum 4182628)) [0, 1, 2, 3, 4, 5, 6, 7, 8, 9] (by kernel_rfl) (by kernel_rfl) ?_
                  refine ps_k (o_hSum 4182628 0) (iN c) ?_
                  refine ps_p (o_hSum 4182628 1) (iN (8 * c)) (exec_cast (congrArg (Value.int .i64) (wrapN (8 * c) (by omega))) (by kernel_rfl)) ?_
                  refine ps_k (o_hSum 4182628 2) (iN e) ?_
                  refine ps_p (o_hSum 4182628 3) (iN ((8 * c) + e)) (exec_cast (congrArg (Value.int .i64) (wrapN ((8 * c) + e) (by omega))) (by kernel_rfl)) ?_
                  refine ps_k (o_hSum 4182628 4) (.slice (some ⟨g8, 0, none⟩) 8 cap8) ?_
                  refine ps_k (o_hSum 4182628 5) (iN e) ?_
                  refine ps_p (o_hSum 4182628 6) (pT g8 e) (exec_cast (v := pT g8 (0 + e * 1)) (by simp) (exec_indexAt_slice 22 (.tmp 76) (.tmp 77) (by kernel_rfl) g8 0 8 cap8 (by kernel_rfl) .i64 e (by kernel_rfl) _ 1 Try.underlying22 (by kernel_rfl) (by omega))) ?_
                  refine ps_p (o_hSum 4182628 7) (cN (((Kec.eight (Kec.g (ab Z nq) c)).getD e 0).toNat)) (exec_ld 5 (.tmp 78) g8 e Try.underlying5 (rc (h153) (rb_get _ _ e (by rw [eight_len]; omega)))) ?_
                  refine ps_p (o_hSum 4182628 8) (.pointer (some ⟨go, (8 * c) + e, none⟩)) (exec_cast (v := .pointer (some ⟨go, 0 + ((8 * c) + e) * 1, none⟩)) (by simp) (exec_indexAt_arr 26 (.tmp 7) (.tmp 75) (by kernel_rfl) go 0 (by kernel_rfl) .i64 ((8 * c) + e) (by kernel_rfl) _ _ 1 Try.underlying26 (by kernel_rfl) (by omega))) ?_
                  obtain ⟨V155, eV155, kV155⟩ := cell_step V148 go ((8 * c) + e) (.int .u8 ((((Kec.eight (Kec.g (ab Z nq) c)).getD e 0).toNat : Nat) : Int))
                  have h156 : V155.heap[go]? = some (.cells ((B (stpB (sqf (ab Z nq)) (8 * c + (e + 1)) (List.replicate 32 0))).toArray) 26 (0, 0)) := eV155 ▸ ((heap_setCell_same _ go ((8 * c) + e) _ _ (.int .u8 ((((Kec.eight (Kec.g (ab Z nq) c)).getD e 0).toNat : Nat) : Int)) h152).trans (congrArg (fun c => some (Obj.cells c 26 (0, 0))) (show ((B (stpB (sqf (ab Z nq)) (8 * c + e) (List.replicate 32 0))).toArray : Array Value).setIfInBounds ((8 * c) + e) (.int .u8 ((((Kec.eight (Kec.g (ab Z nq) c)).getD e 0).toNat : Nat) : Int)) = (B (stpB (sqf (ab Z nq)) (8 * c + (e + 1)) (List.replicate 32 0))).toArray from by rw [Bz_set]; exact congrArg (fun l => (B l).toArray) (by rw [sq_get _ _ _ (by omega) (by omega)]; exact (stpB_succ (sqf (ab Z nq)) (8 * c + e) (List.replicate 32 0)).symm))))
                  refine ps_s (o_hSum 4182628 9) (w' := V155) (by rw [← eV155]; exact exec_store_cell 5 (.tmp 80) (.tmp 79) (by kernel_rfl) go ((8 * c) + e) (by kernel_rfl) (cN (((Kec.eight (Kec.g (ab Z nq) c)).getD e 0).toNat)) (by kernel_rfl) (by kernel_rfl) (by kernel_rfl) (cN (((stpB (sqf (ab Z nq)) (8 * c + e) (List.replicate 32 0)).getD ((8 * c) + e) 0).toNat)) (rc (h152) (Bz_get _ ((8 * c) + e) (by rw [stpB_len, List.length_replicate]; omega))) (frozen_of_row _ _ _ _ _ h152) (by kernel_rfl)) ?_
                  clear eV155
                  have h157 := kV155.bo h149 (by omega)
                  have h158 := kV155.bo h150 (by omega)
                  have h159 := kV155.bo h151 (by omega)
                  have h160 := kV155.bo h153 (by omega)
                  have K161 := K154.no kV155 (by omega)
                  have z162 := kV155.size
                  refine ps_end ?_
                  refine blk_n ?_
                  refine then_n ?_
                  refine sy_reg ?_
                  refine rg_plain 21 (opsAt (part_hSum 2091315)) [0, 1, 2] (by kernel_rfl) (by kernel_rfl) ?_
                  refine ps_k (o_hSum 2091315 0) (iN e) ?_
                  refine ps_p (o_hSum 2091315 1) (iN (e + 1)) (exec_cast (congrArg (Value.int .i64) (wrapN (e + 1) (by omega))) (by kernel_rfl)) ?_
                  refine ps_k (o_hSum 2091315 2) (iN (e + 1)) ?_
                  refine ps_end ?_
                  refine then_n ?_
                  refine ⟨⟨e + 1, (iN e), (.bool true), (iN e), (iN (e + 1)), (iN c), (iN (8 * c)), (iN e), (iN ((8 * c) + e)), (.slice (some ⟨g8, 0, none⟩) 8 cap8), (iN e), (pT g8 e), (cN (((Kec.eight (Kec.g (ab Z nq) c)).getD e 0).toNat)), (.pointer (some ⟨go, (8 * c) + e, none⟩)), by kernel_rfl, by omega, h157, h158, h159, h156, h160, K161⟩, ?_⟩
                  exact lt_meas (x := 8 - (e + 1)) (y := 8 - e) (by kernel_rfl) (by kernel_rfl) (by omega)
                · have eq_e : e = 8 := by omega
                  refine sy_sq (part_hSum 1045656) (part_hSum 1045657) ?_
                  refine sy_sq (part_hSum 2091312) (part_hSum 2091313) ?_
                  refine sy_reg ?_
                  refine rg_plain 20 (opsAt (part_hSum 2091312)) [0, 1] (by kernel_rfl) (by kernel_rfl) ?_
                  refine ps_k (o_hSum 2091312 0) (iN e) ?_
                  refine ps_p (o_hSum 2091312 1) (.bool false) (dcf ((((e : Nat) : Int)) < ((8) : Int)) (by omega)) ?_
                  refine ps_end ?_
                  refine then_n ?_
                  refine sy_n (.tmp 69) (part_hSum 4182626) (part_hSum 4182627) ?_
                  refine sy_exit 8 (by kernel_rfl) ?_
                  refine then_e ?_
                  refine then_e ?_
                  refine blk_e ?_
                  refine blk_n ?_
                  refine then_n ?_
                  refine sy_reg ?_
                  refine rg_plain 17 (opsAt (part_hSum 16339)) [0, 1, 2] (by kernel_rfl) (by kernel_rfl) ?_
                  refine ps_k (o_hSum 16339 0) (iN c) ?_
                  refine ps_p (o_hSum 16339 1) (iN (c + 1)) (exec_cast (congrArg (Value.int .i64) (wrapN (c + 1) (by omega))) (by kernel_rfl)) ?_
                  refine ps_k (o_hSum 16339 2) (iN (c + 1)) ?_
                  refine ps_end ?_
                  refine then_n ?_
                  refine ⟨⟨c + 1, (.slice (some ⟨g8, 0, none⟩) 8 cap8), (iN e), (iN c), (.bool true), (iN c), (iN (c + 1)), (iN c), (pT gs c), (uN (Kec.g (ab Z nq) c)), (.slice (some ⟨g8, 0, none⟩) 8 cap8), (iN e), (.bool false), u70, u71, u72, u73, u74, u75, u76, u77, u78, u79, u80, by kernel_rfl, by omega, h149, h150, h151, h152.trans (congrArg (fun t => some (Obj.cells (B (stpB (sqf (ab Z nq)) t (List.replicate 32 0))).toArray 26 (0, 0))) (show 8 * c + e = 8 * (c + 1) by omega)), K154⟩, ?_⟩
                  exact lt_meas (x := 4 - (c + 1)) (y := 4 - c) (by kernel_rfl) (by kernel_rfl) (by omega)
            · have eq_c : c = 4 := by omega
              have h163 : V135.heap[go]? = some (.cells ((B (Kec.sum x)).toArray) 26 (0, 0)) := h139.trans (congrArg (fun l => some (Obj.cells (B l).toArray 26 (0, 0))) (by subst eq_c; rw [← hZ]; exact sq_all x nq hnq.symm _ (by simp)))
              refine sy_sq (part_hSum 8168) (part_hSum 8169) ?_
              refine sy_sq (part_hSum 16336) (part_hSum 16337) ?_
              refine sy_reg ?_
              refine rg_plain 16 (opsAt (part_hSum 16336)) [0, 1] (by kernel_rfl) (by kernel_rfl) ?_
              refine ps_k (o_hSum 16336 0) (iN c) ?_
              refine ps_p (o_hSum 16336 1) (.bool false) (dcf ((((c : Nat) : Int)) < ((4) : Int)) (by omega)) ?_
              refine ps_end ?_
              refine then_n ?_
              refine sy_n (.tmp 61) (part_hSum 32674) (part_hSum 32675) ?_
              refine sy_exit 6 (by kernel_rfl) ?_
              refine then_e ?_
              refine then_e ?_
              refine blk_e ?_
              refine then_n ?_
              refine sy_sq (part_hSum 1022) (part_hSum 1023) ?_
              refine sy_reg ?_
              refine rg_plain 23 (opsAt (part_hSum 1022)) [0, 1] (by kernel_rfl) (by kernel_rfl) ?_
              refine ps_p (o_hSum 1022 0) (.agg ((B (Kec.sum x)).toArray)) (exec_load_row 26 (.tmp 7) (by kernel_rfl) go (by kernel_rfl) _ _ (0, 0) _ (h163) Try.underlying26 rfl (by rw [Bz_size, Kec.sum_len]; kernel_rfl)) ?_
              obtain ⟨V164, eV164, kV164⟩ := rowset_step V135 gr (((B (Kec.sum x)).toArray))
              have h165 : V164.heap[gr]? = some (.cells ((B (Kec.sum x)).toArray) 26 (0, 0)) := eV164 ▸ setRow_heap _ _ _ _ _ _ h136
              refine ps_s (o_hSum 1022 1) (w' := V164) (by rw [← eV164]; exact exec_store_row 26 (.tmp 2) (.tmp 81) (by kernel_rfl) gr (((B (Kec.sum x)).toArray)) (by kernel_rfl) (by kernel_rfl) 26 (zr_u8_32) h136 (by rw [Bz_size, Kec.sum_len]; kernel_rfl) (by rw [Bz_size, Kec.sum_len]; rfl) (by rw [List.all_toArray]; exact List.all_eq_true.2 (B_one _))) ?_
              clear eV164
              have h166 := kV164.bo h137 (by omega)
              have h167 := kV164.bo h138 (by omega)
              have h168 := kV164.bo h163 (by omega)
              have K169 := K140.no kV164 (by omega)
              have z170 := kV164.size
              refine ps_end ?_
              refine then_n ?_
              refine sy_ret (by kernel_rfl) ?_
              refine sy_out (.agg ((B (Kec.sum x)).toArray)) rfl (results_cell_row (p := 2) (ty := 26) (by kernel_rfl) _ _ gr 26 ((B (Kec.sum x)).toArray) (0, 0) _ (by kernel_rfl) h165 Try.underlying26 rfl (by rw [Bz_size, Kec.sum_len]; kernel_rfl)) ?_
              exact ⟨rfl, K169⟩
end Go.Proofs.Ytenaakldccjnbaa
