import Derived.Test.YtcbfnflnokoacaaGreatEvidenceJudgesP5
namespace Go.Proofs.YtcbfnflnokoacaaGreat
set_option maxRecDepth 100000
set_option maxHeartbeats 4000000
open Go Go.RowKit Go.Own Go.Shelf
theorem rb_get (X : List UInt8) (rest : List Value) (k : Nat) (h : k < X.length) : (B X ++ rest).toArray[k]? = some (.int .u8 (((X.getD k 0).toNat : Nat) : Int)) := by
  have := Bz_get X k h
  rw [List.getElem?_toArray] at this ⊢
  rw [List.getElem?_append_left (by rw [B_length]; exact h)]; exact this
theorem rb_set (X : List UInt8) (rest : List Value) (k : Nat) (x : UInt8) (h : k < X.length) : (B X ++ rest).toArray.setIfInBounds k (.int .u8 ((x.toNat : Nat) : Int)) = (B (X.set k x) ++ rest).toArray := by
  have := congrArg Array.toList (Bz_set X k x)
  rw [List.setIfInBounds_toArray] at this ⊢
  rw [List.set_append, if_pos (by rw [B_length]; exact h)]
  have e : (B X).set k (.int .u8 ((x.toNat : Nat) : Int)) = B (X.set k x) := by simpa using this
  rw [e]
theorem bytes_at {w : World} {g cap n : Nat} {X : List UInt8} {rest : List Value} {T : TypeId} (h : w.heap[g]? = some (.cells (B X ++ rest).toArray T (0, 0))) (hn : X.length = n) (k : Nat) (hk : k ≤ n) (hc : n ≤ cap) (hm : cap ≤ maxLen) : BytesAt w (.slice (some ⟨g, k, none⟩) (n - k) (cap - k)) (X.drop k) := by
  subst hn
  refine ⟨⟨_, _, by rw [List.length_drop], by rw [List.length_drop]; omega, by omega, fun h => by cases h⟩, fun i x hi => ⟨g, k, _, by rw [List.length_drop], lt_of_block h, ?_⟩⟩
  rw [List.getElem?_drop] at hi
  obtain ⟨h1, h2⟩ := List.getElem?_eq_some_iff.1 hi
  refine rc h ((rb_get X rest (k + i) h1).trans ?_)
  rw [List.getD_eq_getElem?_getD, hi]; rfl
theorem cut_at (g n cap k : Nat) (h : k < cap) : cutV (some ⟨g, 0, none⟩) n cap k = .slice (some ⟨g, k, none⟩) (n - k) (cap - k) := by
  unfold cutV
  rw [if_neg (by omega)]
  show Value.slice (some ((⟨g, 0, none⟩ : Addr).add k)) _ _ = _
  rw [Addr.add_lit, Nat.zero_add]
theorem xor128 (c : UInt8) : Value.int .u8 (bits .xor .u8 ((c.toNat : Nat) : Int) 128) = .int .u8 (((c ^^^ 128).toNat : Nat) : Int) := by
  have : ∀ j : Fin 256, bits .xor .u8 ((j.val : Nat) : Int) 128 = (((UInt8.ofNat j.val ^^^ 128).toNat : Nat) : Int) := by decide +kernel
  have h := this ⟨c.toNat, c.toNat_lt⟩
  rw [show UInt8.ofNat (⟨c.toNat, c.toNat_lt⟩ : Fin 256).val = c by simp] at h
  exact congrArg _ h
theorem pad_step (x : List UInt8) (p : Nat) : B (x ++ 6 :: List.replicate (p + 1) 0) = B (x ++ 6 :: List.replicate p 0) ++ [.int .u8 0] := by
  rw [List.replicate_succ', ← List.cons_append, ← List.append_assoc, B_append]; rfl
theorem pad_all (x Y : List UInt8) (p n : Nat) (hY : x ++ 6 :: List.replicate p 0 = Y) (hp : p = 135 - x.length % 136) (hn : Y.length = n) : Y.set (n - 1) (Y.getD (n - 1) 0 ^^^ 128) = Kec.padded x := by
  subst hn; subst hY; subst hp; rfl
/-- The state behind so many blocks. -/
def ab (Z : List UInt8) (q : Nat) : List Nat := Kec.absorb q Kec.zero Z
theorem ab_len (Z : List UInt8) (q : Nat) : (ab Z q).length = 25 := Kec.len_absorb _ _ _ (by simp [Kec.zero])
theorem ab_ws (Z : List UInt8) (q : Nat) : Kec.Ws (ab Z q) := Kec.ws_absorb _ _ _ Kec.ws_zero
def mx (Z : List UInt8) (q : Nat) : List Nat := Kec.mixin (ab Z q) ((Z.drop (136 * q)).take 136)
theorem ab_succ (Z : List UInt8) (q : Nat) : Kec.perm (mx Z q) = ab Z (q + 1) := by
  unfold ab mx
  rw [Kec.absorb_add, Nat.mul_comm q 136]
  rfl
def mxf (Z : List UInt8) (q i : Nat) : Nat := Kec.g (ab Z q) i ^^^ Kec.word ((Z.drop (136 * q + 8 * i)).take 8)
theorem mx_all (Z : List UInt8) (q : Nat) : stp (mxf Z q) 17 (ab Z q) = mx Z q := by
  have hl := ab_len Z q
  apply List.ext_getElem (by rw [stp_len, hl, mx, Kec.len_mixin])
  intro i h1 h2
  rw [stp_len, hl] at h1
  have e := stp_get (mxf Z q) 17 (ab Z q) i (by omega)
  have f : Kec.g (mx Z q) i = if i < 17 then Kec.g (ab Z q) i ^^^ Kec.wordAt ((Z.drop (136 * q)).take 136) i else Kec.g (ab Z q) i := by
    unfold mx Kec.mixin; rw [Kec.g_map _ _ h1]
  have k : Kec.g (stp (mxf Z q) 17 (ab Z q)) i = Kec.g (mx Z q) i := by
    rw [e, f]
    by_cases h : i < 17
    · rw [if_pos h, if_pos h]
      unfold mxf Kec.wordAt
      rw [List.drop_take, List.take_take, List.drop_drop, show min 8 (136 - 8 * i) = 8 by omega]
    · rw [if_neg h, if_neg h]
  unfold Kec.g at k
  rw [List.getD_eq_getElem?_getD, List.getD_eq_getElem?_getD, List.getElem?_eq_getElem (by rw [stp_len, hl]; exact h1), List.getElem?_eq_getElem h2] at k
  exact k
theorem mx_len (Z : List UInt8) (q : Nat) : (mx Z q).length = 25 := Kec.len_mixin _ _
theorem mx_ws (Z : List UInt8) (q : Nat) : Kec.Ws (mx Z q) := Kec.ws_mixin (ab_ws Z q) _
theorem hPermute_as (Z : List UInt8) (q : Nat) (w : World) : Calls Tryz.prog 102 #[.agg (Wz (mx Z q))] w fun e w' => e = .returned (.agg (Wz (ab Z (q + 1)))) ∧ Keeps Nob w w' := by
  rw [← ab_succ]; exact hPermute_ok (mx Z q) w (mx_len Z q) (mx_ws Z q)
/-- What is squeezed out, byte by byte. -/
def sqf (s : List Nat) (k : Nat) : UInt8 := (Kec.squeeze s).getD k 0
theorem sq_get (s : List Nat) (c e : Nat) (hc : c < 4) (he : e < 8) : (Kec.eight (Kec.g s c)).getD e 0 = sqf s (8 * c + e) := by
  have l8 : ∀ a, (Kec.eight a).length = 8 := fun a => by simp [Kec.eight]
  rcases (by omega : c = 0 ∨ c = 1 ∨ c = 2 ∨ c = 3) with rfl | rfl | rfl | rfl
  · unfold sqf Kec.squeeze; rw [List.append_assoc, List.append_assoc, List.getD_eq_getElem?_getD, List.getD_eq_getElem?_getD, List.getElem?_append_left (by simp only [l8]; omega)]; simp
  · unfold sqf Kec.squeeze; rw [List.append_assoc, List.append_assoc, List.getD_eq_getElem?_getD, List.getD_eq_getElem?_getD, List.getElem?_append_right (by simp only [l8]; omega), List.getElem?_append_left (by simp only [l8]; omega), l8]; congr 2; omega
  · unfold sqf Kec.squeeze; rw [List.append_assoc, List.append_assoc, List.getD_eq_getElem?_getD, List.getD_eq_getElem?_getD, List.getElem?_append_right (by simp only [l8]; omega), List.getElem?_append_right (by simp only [l8]; omega), List.getElem?_append_left (by simp only [l8]; omega), l8, l8]; congr 2; omega
  · unfold sqf Kec.squeeze; rw [List.append_assoc, List.append_assoc, List.getD_eq_getElem?_getD, List.getD_eq_getElem?_getD, List.getElem?_append_right (by simp only [l8]; omega), List.getElem?_append_right (by simp only [l8]; omega), List.getElem?_append_right (by simp only [l8]; omega), l8, l8, l8]; congr 2; omega
theorem sq_all (x : List UInt8) (nq : Nat) (h : nq = x.length / 136 + 1) (s : List UInt8) (hs : s.length = 32) : stpB (sqf (ab (Kec.padded x) nq)) 32 s = Kec.sum x := by
  rw [stpB_all _ _ 32 hs, Kec.sum_padded, Kec.padded_len, Nat.mul_div_cancel _ (by decide), ← h]
  refine List.ext_getElem (by simp [Kec.squeeze_len]) fun i h1 h2 => ?_
  simp only [List.getElem_map, List.getElem_range]
  unfold sqf ab
  rw [List.getD_eq_getElem?_getD, List.getElem?_eq_getElem h2]; rfl
noncomputable def qc88_0 (n : Nat) : Code := partOf Tryz.f78 n
noncomputable abbrev qo88_0 (n k : Nat) : Oper := (opsAt (qc88_0 n)).getD k default
theorem hSum_ok (x : List UInt8) (v0 : Value) (w : World) (hx : BytesAt w v0 x) (hl : x.length ≤ 1000000) :
    Calls Tryz.prog 78 #[v0] w (fun e w' => e = .returned (.agg (B (Kec.sum x)).toArray) ∧ Keeps Nob w w') := by
  obtain ⟨i0, hi, hz0, hz1, hz2⟩ := info_parts u8_infoK
  obtain ⟨P, hP⟩ : ∃ P, 135 - x.length % 136 = P := ⟨_, rfl⟩
  have hW : Kec.W = 18446744073709551616 := rfl
  have K0 : Keeps Nob w w := Keeps.refl _ _
  refine sy_enter (qc88_0 1) ⟨#[v0, ud, ud, ud, ud, ud, ud, ud, ud, ud, ud, ud, ud, ud, ud, ud, ud, ud, ud, ud, ud, ud, ud, ud, ud, ud, ud, ud, ud, ud, ud, ud, ud, ud, ud, ud, ud, ud, ud, ud, ud, ud, ud, ud, ud, ud, ud, ud, ud, ud, ud, ud, ud, ud, ud, ud, ud, ud, ud, ud, ud, ud, ud, ud, ud, ud, ud, ud, ud, ud, ud, ud, ud, ud, ud, ud, ud, ud, ud, ud, ud, ud], []⟩ Tryz.func78 (by kernel_rfl) (by kernel_rfl) <| qr_ [0] <| pal 23 (zr_u8_32) (.agg (zr_u8_32)) fun V1 gr egr h2 kV1 => ?_
  have n3 : w.heap.size ≤ gr := egr ▸ K0.size
  have h4 : BytesAt V1 v0 x := hx.keepsN kV1
  have K5 := K0.nn kV1
  have z6 := kV1.size
  refine eqr_ [0, 1, 2, 3, 4, 5] ?_
  obtain ⟨V7, eV7, g0, eg0, h8, kV7⟩ := alloc_step V1 #[] 5
  have n9 : gr < g0 := eg0 ▸ lt_of_block h2
  have n10 : w.heap.size ≤ g0 := eg0 ▸ K5.size
  refine prq (.slice (some ⟨g0, 0, none⟩) 0 0) (w' := V7) (by rw [← eV7, ← eg0]; kernel_rfl) ?_
  have h11 : BytesAt V7 v0 x := h4.keepsN kV7
  have h12 := kV7.bk h2
  have K13 := K5.nn kV7
  have z14 := kV7.size
  refine pkq (v0) ?_
  have h15 : Row V7 5 1 (.slice (some ⟨g0, 0, none⟩) 0 0) 0 [] := row_of_block h8 rfl (by decide)
  have hw16 : NewFrom (gr + 1) (.slice (some ⟨g0, 0, none⟩) 0 0) := NewFrom.ptr (by omega) _ _
  obtain ⟨v17, V18, hr19, h20, hg21, hn22, ha23⟩ := run_append_any (P := Tryz.prog) (w := V7) 114 (Oper.type (qo88_0 6 2)) 5 i0 (.int .u8 0) 1 1 Tryz.underlying114 hi hz0 hz1 hz2 rfl (by decide) (.slice (some ⟨g0, 0, none⟩) 0 0) 0 [] h15 v0 x.length (B x) (h11.src) (by unfold maxLen; omega) (by omega)
  have kV18 : Keeps (fun j => (.slice (some ⟨g0, 0, none⟩) 0 0 : Value).ownBlock = some j) V7 V18 := Keeps.rowAdd hg21
  have hw24 : NewFrom (gr + 1) v17 := hw16.next (lt_of_block h12) ha23
  refine prq v17 (w' := V18) (exec_append (.tmp 11) (.tmp 12) 114 (by kernel_rfl) (.slice (some ⟨g0, 0, none⟩) 0 0) v0 (by kernel_rfl) (by kernel_rfl) hr19) ?_
  have h25 : Row V18 5 1 v17 x.length (B x) := (by have e := h20; rwa [Nat.zero_add, List.nil_append] at e)
  have h26 : V18.heap[gr]? = some (.cells (zr_u8_32) 23 (0, 0)) := (kV18.block gr (lt_of_block h12) (fun e => by have := hw16 _ e; omega)).trans h12
  have K27 : Keeps Nob w V18 := K13.then kV18 (fun i hi hm => absurd hi (by have := hw16 i hm; omega))
  have z28 := kV18.size
  obtain ⟨V29, eV29, g6, eg6, h30, kV29⟩ := alloc_step V18 (#[.int .u8 6]) 5
  have n31 : gr < g6 := eg6 ▸ lt_of_block h26
  have n32 : w.heap.size ≤ g6 := eg6 ▸ K27.size
  refine prq (.slice (some ⟨g6, 0, none⟩) 1 1) (w' := V29) (by rw [← eV29, ← eg6]; kernel_rfl) ?_
  have h33 := kV29.bk h26
  have h34 : Row V29 5 1 v17 x.length (B x) := h25.keeps kV29 (fun _ _ x => x)
  have K35 := K27.nn kV29
  have z36 := kV29.size
  obtain ⟨v37, V38, hr39, h40, hg41, hn42, ha43⟩ := run_append_any (P := Tryz.prog) (w := V29) 114 (Oper.type (qo88_0 6 4)) 5 i0 (.int .u8 0) 1 1 Tryz.underlying114 hi hz0 hz1 hz2 rfl (by decide) v17 x.length (B x) h34 (.slice (some ⟨g6, 0, none⟩) 1 1) 1 (#[.int .u8 6].toList) (src_block h30 1 1 rfl (by kernel_rfl)) (by unfold maxLen; omega) (by omega)
  have kV38 : Keeps (fun j => v17.ownBlock = some j) V29 V38 := Keeps.rowAdd hg41
  have hw44 : NewFrom (gr + 1) v37 := hw24.next (lt_of_block h33) ha43
  refine prq v37 (w' := V38) (exec_append (.tmp 13) (.tmp 14) 114 (by kernel_rfl) v17 (.slice (some ⟨g6, 0, none⟩) 1 1) (by kernel_rfl) (by kernel_rfl) hr39) ?_
  have h45 : Row V38 5 1 v37 (x.length + 1) (B (x ++ [6])) := (by rw [B_append]; exact h40)
  have h46 : V38.heap[gr]? = some (.cells (zr_u8_32) 23 (0, 0)) := (kV38.block gr (lt_of_block h33) (fun e => by have := hw24 _ e; omega)).trans h33
  have K47 : Keeps Nob w V38 := K35.then kV38 (fun i hi hm => absurd hi (by have := hw24 i hm; omega))
  have z48 := kV38.size
  refine pkq (v37) <| eq_ <| b_ 0 ?_
  refine sy_loop (qc88_0 56) (fun a V => ∃ (p : Nat) (v : Value) (u16 u17 u18 u19 u20 u21 u22 : Value), (a = ⟨#[v0, ud, pT gr 0, v, ud, ud, ud, ud, ud, ud, ud, .slice (some ⟨g0, 0, none⟩) 0 0, v0, v17, .slice (some ⟨g6, 0, none⟩) 1 1, v37, u16, u17, u18, u19, u20, u21, u22, ud, ud, ud, ud, ud, ud, ud, ud, ud, ud, ud, ud, ud, ud, ud, ud, ud, ud, ud, ud, ud, ud, ud, ud, ud, ud, ud, ud, ud, ud, ud, ud, ud, ud, ud, ud, ud, ud, ud, ud, ud, ud, ud, ud, ud, ud, ud, ud, ud, ud, ud, ud, ud, ud, ud, ud, ud, ud, ud], []⟩) ∧ (p ≤ P) ∧ (V.heap[gr]? = some (.cells (zr_u8_32) 23 (0, 0))) ∧ (Row V 5 1 v (x.length + 1 + p) (B (x ++ 6 :: List.replicate p 0))) ∧ (Keeps Nob w V) ∧ (NewFrom (gr + 1) v)) (fun a _ => (x.length + 200) - lenOf (a.tmps.getD 3 undef)) (by kernel_rfl) ?_ ?_
  · exact ⟨0, v37, undef, undef, undef, undef, undef, undef, undef, by kernel_rfl, by omega, h46, h45, K47, hw44⟩
  · rintro a V49 ⟨p, v, u16, u17, u18, u19, u20, u21, u22, rfl, hp, h50, h51, K52, hnw⟩
    by_cases lt_p : p < P
    · show _
      refine q_ <| qr_ [0, 1, 2, 3] <| pkq (v) <| ppq (iN (x.length + 1 + p)) (exec_len_row (.tmp 16) 114 5 (by kernel_rfl) Tryz.underlying114 (by kernel_rfl) h51) <| pkq (iN ((x.length + 1 + p) % 136)) <| ppq (.bool true) (nqt ((((x.length + 1 + p) % 136 : Nat) : Int)) ((0) : Int) (by omega)) <| ey_ <| s_ <| then_n <| b_ 1 <| r_ [0, 1, 2, 3] <| pkq (v) ?_
      obtain ⟨V53, eV53, gz, egz, h54, kV53⟩ := alloc_step V49 (#[.int .u8 0]) 5
      have n55 : gr < gz := egz ▸ lt_of_block h50
      have n56 : w.heap.size ≤ gz := egz ▸ K52.size
      refine prq (.slice (some ⟨gz, 0, none⟩) 1 1) (w' := V53) (by rw [← eV53, ← egz]; kernel_rfl) ?_
      have h57 := kV53.bk h50
      have h58 : Row V53 5 1 v (x.length + 1 + p) (B (x ++ 6 :: List.replicate p 0)) := h51.keeps kV53 (fun _ _ x => x)
      have K59 := K52.nn kV53
      have z60 := kV53.size
      obtain ⟨v61, V62, hr63, h64, hg65, hn66, ha67⟩ := run_append_any (P := Tryz.prog) (w := V53) 114 (Oper.type (qo88_0 226 2)) 5 i0 (.int .u8 0) 1 1 Tryz.underlying114 hi hz0 hz1 hz2 rfl (by decide) v (x.length + 1 + p) (B (x ++ 6 :: List.replicate p 0)) h58 (.slice (some ⟨gz, 0, none⟩) 1 1) 1 (#[.int .u8 0].toList) (src_block h54 1 1 rfl (by kernel_rfl)) (by unfold maxLen; omega) (by omega)
      have kV62 : Keeps (fun j => v.ownBlock = some j) V53 V62 := Keeps.rowAdd hg65
      have hw68 : NewFrom (gr + 1) v61 := hnw.next (lt_of_block h57) ha67
      refine prq v61 (w' := V62) (exec_append (.tmp 20) (.tmp 21) 114 (by kernel_rfl) v (.slice (some ⟨gz, 0, none⟩) 1 1) (by kernel_rfl) (by kernel_rfl) hr63) ?_
      have h69 : Row V62 5 1 v61 (x.length + 1 + (p + 1)) (B (x ++ 6 :: List.replicate (p + 1) 0)) := (by rw [pad_step]; exact h64)
      have h70 : V62.heap[gr]? = some (.cells (zr_u8_32) 23 (0, 0)) := (kV62.block gr (lt_of_block h57) (fun e => by have := hnw _ e; omega)).trans h57
      have K71 : Keeps Nob w V62 := K59.then kV62 (fun i hi hm => absurd hi (by have := hnw i hm; omega))
      have z72 := kV62.size
      refine pkq (v61) <| ps_end <| blk_n <| then_n ?_
      refine ⟨⟨p + 1, v61, v, (iN (x.length + 1 + p)), (iN ((x.length + 1 + p) % 136)), (.bool true), v, (.slice (some ⟨gz, 0, none⟩) 1 1), v61, by kernel_rfl, by omega, h70, h69, K71, hw68⟩, ?_⟩
      exact lt_meas (x := (x.length + 200) - lenOf v61) (y := (x.length + 200) - lenOf v) (by kernel_rfl) (by kernel_rfl) (by rw [row_len h69, row_len h51]; omega)
    · have eq_p : p = P := by omega
      refine q_ <| qr_ [0, 1, 2, 3] <| pkq (v) <| ppq (iN (x.length + 1 + p)) (exec_len_row (.tmp 16) 114 5 (by kernel_rfl) Tryz.underlying114 (by kernel_rfl) h51) <| pkq (iN ((x.length + 1 + p) % 136)) <| ppq (.bool false) (nqf ((((x.length + 1 + p) % 136 : Nat) : Int)) ((0) : Int) (by omega)) <| en_ <| sy_exit 0 (by kernel_rfl) <| then_e <| then_e <| blk_e <| tq_ ?_
      obtain ⟨n, hn0⟩ : ∃ n, x.length + 1 + p = n := ⟨_, rfl⟩
      obtain ⟨Y, hY⟩ : ∃ Y, x ++ 6 :: List.replicate p 0 = Y := ⟨_, rfl⟩
      have hYl : Y.length = n := by rw [← hY, ← hn0]; simp; omega
      have hrw : Row V49 5 1 v n (B Y) := by rw [← hn0, ← hY]; exact h51
      obtain ⟨g, cap, rest, rfl, hg, hcap, hmax⟩ := row_open hrw (by omega)
      have hgw : gr + 1 ≤ g := hnw g rfl
      have hglt := lt_of_block hg
      obtain ⟨Z, hZ⟩ : ∃ Z, Kec.padded x = Z := ⟨_, rfl⟩
      obtain ⟨nq, hnq⟩ : ∃ nq, x.length / 136 + 1 = nq := ⟨_, rfl⟩
      have hnn : n = 136 * nq := by omega
      have hZl : Z.length = n := by rw [← hZ, Kec.padded_len, hnn, ← hnq]; omega
      refine r_ [0, 1, 2, 3, 4, 5, 6, 7, 8, 9, 10, 11, 12] <| pkq (.slice (some ⟨g, 0, none⟩) n cap) <| pkq (.slice (some ⟨g, 0, none⟩) n cap) <| ppq (iN n) (exec_len (.tmp 24) 114 _ (by kernel_rfl) Tryz.underlying114 (some ⟨g, 0, none⟩) n cap (by kernel_rfl)) <| ppq (iN (n - 1)) (exec_cast (congrArg (Value.int .i64) (wrapI (((n : Nat) : Int) - ((1 : Nat) : Int)) _ (by omega) (by omega) (by omega))) (by kernel_rfl)) <| pkq (.slice (some ⟨g, 0, none⟩) n cap) <| pkq (.slice (some ⟨g, 0, none⟩) n cap) <| ppq (iN n) (exec_len (.tmp 28) 114 _ (by kernel_rfl) Tryz.underlying114 (some ⟨g, 0, none⟩) n cap (by kernel_rfl)) <| ppq (iN (n - 1)) (exec_cast (congrArg (Value.int .i64) (wrapI (((n : Nat) : Int) - ((1 : Nat) : Int)) _ (by omega) (by omega) (by omega))) (by kernel_rfl)) <| ppq (.pointer (some ⟨g, n - 1, none⟩)) (exec_cast (v := .pointer (some ⟨g, 0 + (n - 1) * 1, none⟩)) (by simp) (exec_indexAt_slice 114 (.tmp 27) (.tmp 30) (by kernel_rfl) g 0 n cap (by kernel_rfl) .i64 (n - 1) (by kernel_rfl) _ 1 Tryz.underlying114 (by kernel_rfl) (by omega))) <| ppq (cN ((Y.getD (n - 1) 0).toNat)) (ldc 5 g (n - 1) (rc (hg) (rb_get _ _ (n - 1) (by rw [hYl]; omega)))) <| ppq (cN ((Y.getD (n - 1) 0 ^^^ 128).toNat)) (exec_cast (xor128 (Y.getD (n - 1) 0)) (by kernel_rfl)) <| ppq (.pointer (some ⟨g, n - 1, none⟩)) (exec_cast (v := .pointer (some ⟨g, 0 + (n - 1) * 1, none⟩)) (by simp) (exec_indexAt_slice 114 (.tmp 23) (.tmp 26) (by kernel_rfl) g 0 n cap (by kernel_rfl) .i64 (n - 1) (by kernel_rfl) _ 1 Tryz.underlying114 (by kernel_rfl) (by omega))) ?_
      refine pce 5 g (n - 1) (cN ((Y.getD (n - 1) 0 ^^^ 128).toNat)) ((B Z ++ rest).toArray) hg (rc (hg) (rb_get _ _ (n - 1) (by rw [hYl]; omega))) ((rb_set _ _ (n - 1) ((Y.getD (n - 1) 0 ^^^ 128)) (by rw [hYl]; omega)).trans (congrArg (fun l => (B l ++ rest).toArray) ((pad_all x Y p n hY (by omega) hYl).trans hZ))) fun V73 h74 kV73 => ?_
      have h75 := kV73.bO h50
      have K76 := K52.nO kV73
      have z77 := kV73.size
      refine eqr_ [0] <| pal 148 (zr_u64_25) (.agg (zr_u64_25)) fun V78 gs egs h79 kV78 => ?_
      have n80 : gr < gs := egs ▸ lt_of_block h75
      have n81 : g < gs := egs ▸ lt_of_block h74
      have n82 : w.heap.size ≤ gs := egs ▸ K76.size
      have h83 := kV78.bk h75
      have h84 := kV78.bk h74
      have K85 := K76.nn kV78
      have z86 := kV78.size
      refine eq_ <| qr_ [0] <| pkq (.int .i64 0) <| et_ <| b_ 2 ?_
      refine sy_loop (qc88_0 1012) (fun a V => ∃ (q : Nat) (u6 u35 u36 u37 u38 u39 u40 u41 u42 u43 u44 u45 u46 u47 u48 u49 u50 u51 u52 u53 u54 u55 u56 u57 u58 u59 : Value), (a = ⟨#[v0, ud, pT gr 0, .slice (some ⟨g, 0, none⟩) n cap, pT gs 0, iN (136 * q), u6, ud, ud, ud, ud, .slice (some ⟨g0, 0, none⟩) 0 0, v0, v17, .slice (some ⟨g6, 0, none⟩) 1 1, v37, .slice (some ⟨g, 0, none⟩) n cap, iN (x.length + 1 + p), iN ((x.length + 1 + p) % 136), .bool false, u20, u21, u22, .slice (some ⟨g, 0, none⟩) n cap, .slice (some ⟨g, 0, none⟩) n cap, iN n, iN (n - 1), .slice (some ⟨g, 0, none⟩) n cap, .slice (some ⟨g, 0, none⟩) n cap, iN n, iN (n - 1), .pointer (some ⟨g, n - 1, none⟩), cN ((Y.getD (n - 1) 0).toNat), cN ((Y.getD (n - 1) 0 ^^^ 128).toNat), .pointer (some ⟨g, n - 1, none⟩), u35, u36, u37, u38, u39, u40, u41, u42, u43, u44, u45, u46, u47, u48, u49, u50, u51, u52, u53, u54, u55, u56, u57, u58, u59, ud, ud, ud, ud, ud, ud, ud, ud, ud, ud, ud, ud, ud, ud, ud, ud, ud, ud, ud, ud, ud, ud], []⟩) ∧ (q ≤ nq) ∧ (V.heap[gr]? = some (.cells (zr_u8_32) 23 (0, 0))) ∧ (V.heap[g]? = some (.cells ((B Z ++ rest).toArray) 5 (0, 0))) ∧ (V.heap[gs]? = some (.cells (Wz (ab Z q)) 148 (0, 0))) ∧ (Keeps Nob w V)) (fun a _ => 136 * nq - (intOf (a.tmps.getD 5 undef)).toNat) (by kernel_rfl) ?_ ?_
      · exact ⟨0, undef, undef, undef, undef, undef, undef, undef, undef, undef, undef, undef, undef, undef, undef, undef, undef, undef, undef, undef, undef, undef, undef, undef, undef, undef, undef, by kernel_rfl, by omega, h83, h84, h79.trans (by kernel_rfl), K85⟩
      · rintro a V87 ⟨q, u6, u35, u36, u37, u38, u39, u40, u41, u42, u43, u44, u45, u46, u47, u48, u49, u50, u51, u52, u53, u54, u55, u56, u57, u58, u59, rfl, hq, h88, h89, h90, K91⟩
        by_cases lt_q : q < nq
        · show _
          refine q_ <| qr_ [0, 1, 2, 3] <| pkq (iN (136 * q)) <| pkq (.slice (some ⟨g, 0, none⟩) n cap) <| ppq (iN n) (exec_len (.tmp 36) 114 _ (by kernel_rfl) Tryz.underlying114 (some ⟨g, 0, none⟩) n cap (by kernel_rfl)) <| ppq (.bool true) (dct ((((136 * q : Nat) : Int)) < (((n : Nat) : Int))) (by omega)) <| ey_ <| s_ <| tq_ <| b_ 3 <| q_ <| qr_ [0] <| pkq (.int .i64 0) <| et_ ?_
          refine b_ 4 ?_
          refine sy_loop (qc88_0 129604) (fun a V => ∃ (i : Nat) (u41 u42 u43 u44 u45 u46 u47 u48 u49 u50 u51 u52 u53 u54 u55 u56 u57 : Value), (a = ⟨#[v0, ud, pT gr 0, .slice (some ⟨g, 0, none⟩) n cap, pT gs 0, iN (136 * q), iN i, ud, ud, ud, ud, .slice (some ⟨g0, 0, none⟩) 0 0, v0, v17, .slice (some ⟨g6, 0, none⟩) 1 1, v37, .slice (some ⟨g, 0, none⟩) n cap, iN (x.length + 1 + p), iN ((x.length + 1 + p) % 136), .bool false, u20, u21, u22, .slice (some ⟨g, 0, none⟩) n cap, .slice (some ⟨g, 0, none⟩) n cap, iN n, iN (n - 1), .slice (some ⟨g, 0, none⟩) n cap, .slice (some ⟨g, 0, none⟩) n cap, iN n, iN (n - 1), .pointer (some ⟨g, n - 1, none⟩), cN ((Y.getD (n - 1) 0).toNat), cN ((Y.getD (n - 1) 0 ^^^ 128).toNat), .pointer (some ⟨g, n - 1, none⟩), iN (136 * q), .slice (some ⟨g, 0, none⟩) n cap, iN n, .bool true, u39, u40, u41, u42, u43, u44, u45, u46, u47, u48, u49, u50, u51, u52, u53, u54, u55, u56, u57, u58, u59, ud, ud, ud, ud, ud, ud, ud, ud, ud, ud, ud, ud, ud, ud, ud, ud, ud, ud, ud, ud, ud, ud], []⟩) ∧ (i ≤ 17) ∧ (V.heap[gr]? = some (.cells (zr_u8_32) 23 (0, 0))) ∧ (V.heap[g]? = some (.cells ((B Z ++ rest).toArray) 5 (0, 0))) ∧ (V.heap[gs]? = some (.cells (Wz (stp (mxf Z q) i (ab Z q))) 148 (0, 0))) ∧ (Keeps Nob w V)) (fun a _ => 17 - (intOf (a.tmps.getD 6 undef)).toNat) (by kernel_rfl) ?_ ?_
          · exact ⟨0, u41, u42, u43, u44, u45, u46, u47, u48, u49, u50, u51, u52, u53, u54, u55, u56, u57, by kernel_rfl, by omega, h88, h89, h90, K91⟩
          · rintro a V92 ⟨i, u41, u42, u43, u44, u45, u46, u47, u48, u49, u50, u51, u52, u53, u54, u55, u56, u57, rfl, hi, h93, h94, h95, K96⟩
            by_cases lt_i : i < 17
            · show _
              refine q_ <| qr_ [0, 1] <| pkq (iN i) <| ppq (.bool true) (dct ((((i : Nat) : Int)) < ((17) : Int)) (by omega)) <| ey_ <| s_ <| tq_ <| b_ 5 <| sy_reg <| rg_still 12 13 (opsAt (qc88_0 1036836)) [qo88_0 1036836 0, qo88_0 1036836 1, qo88_0 1036836 2, qo88_0 1036836 3, qo88_0 1036836 4, qo88_0 1036836 5, qo88_0 1036836 6, qo88_0 1036836 7, qo88_0 1036836 8, qo88_0 1036836 9, qo88_0 1036836 10, qo88_0 1036836 11, qo88_0 1036836 12] [qo88_0 1036836 13] (by kernel_rfl) (by kernel_rfl) (by kernel_rfl) (by kernel_rfl) (by kernel_rfl) ?_
              obtain ⟨V98, eV98, kV98⟩ := drew_step V92
              rw [eV98]
              clear eV98
              have h99 := kV98.bk h93
              have h100 := kV98.bk h94
              have h101 := kV98.bk h95
              have K102 := K96.nn kV98
              have z103 := kV98.size
              refine skq (iN i) <| skq (iN i) <| spq (pT gs i) (exec_cast (v := pT gs (0 + i * 1)) (by simp) (exec_indexAt_arr 148 (.tmp 4) (.tmp 46) (by kernel_rfl) gs 0 (by kernel_rfl) .i64 i (by kernel_rfl) _ _ 1 Tryz.underlying148 (by kernel_rfl) (by omega))) <| spq (uN (Kec.g (ab Z q) i)) (ldc 24 gs i (rc (h101) (Wz_get' _ i _ (by rw [stp_len, ab_len]; omega) (by rw [stp_get _ _ _ _ (by rw [ab_len]; omega), if_neg (by omega)])))) <| skq (.slice (some ⟨g, 0, none⟩) n cap) <| skq (iN (136 * q)) <| skq (iN i) <| spq (iN (8 * i)) (exec_cast (congrArg (Value.int .i64) (wrapN (8 * i) (by omega))) (by kernel_rfl)) <| spq (iN ((136 * q) + (8 * i))) (exec_cast (congrArg (Value.int .i64) (wrapN ((136 * q) + (8 * i)) (by omega))) (by kernel_rfl)) <| spq (.slice (some ⟨g, (136 * q + 8 * i), none⟩) (n - (136 * q + 8 * i)) (cap - (136 * q + 8 * i))) (exec_cast (cut_at g n cap (136 * q + 8 * i) (by omega)) (exec_slice_from 114 (.tmp 49) (.tmp 53) (by kernel_rfl) (some ⟨g, 0, none⟩) n cap (by kernel_rfl) .i64 (136 * q + 8 * i) (by kernel_rfl) 5 Tryz.underlying114 (by kernel_rfl) (by omega))) <| scq 101 #[.slice (some ⟨g, (136 * q + 8 * i), none⟩) (n - (136 * q + 8 * i)) (cap - (136 * q + 8 * i))] (uN (Kec.word ((Z.drop (136 * q + 8 * i)).take 8))) Tryz.func101 (hword_ok g (136 * q + 8 * i) (n - (136 * q + 8 * i)) (cap - (136 * q + 8 * i)) (Z.drop (136 * q + 8 * i)) _ (by rw [List.length_drop, hZl]) (by omega) (by omega) (bytes_at h100 hZl (136 * q + 8 * i) (by omega) hcap hmax)) <| spq (uN ((Kec.g (ab Z q) i) ^^^ (Kec.word ((Z.drop (136 * q + 8 * i)).take 8)))) (exec_cast (xorU (Kec.g (ab Z q) i) (Kec.word ((Z.drop (136 * q + 8 * i)).take 8)) (ab_ws _ _ _) (word_take_lt _ 8 (by omega))) (by kernel_rfl)) <| spq (pT gs i) (exec_cast (v := pT gs (0 + i * 1)) (by simp) (exec_indexAt_arr 148 (.tmp 4) (.tmp 45) (by kernel_rfl) gs 0 (by kernel_rfl) .i64 i (by kernel_rfl) _ _ 1 Tryz.underlying148 (by kernel_rfl) (by omega))) <| st_end ?_
              obtain ⟨V104, eV104, kV104⟩ := cell_step V98 gs i (.int .u64 (((Kec.g (ab Z q) i) ^^^ (Kec.word ((Z.drop (136 * q + 8 * i)).take 8)) : Nat) : Int))
              have h105 : V104.heap[gs]? = some (.cells (Wz (stp (mxf Z q) (i + 1) (ab Z q))) 148 (0, 0)) := eV104 ▸ ((heap_setCell_same _ gs i _ _ (.int .u64 (((Kec.g (ab Z q) i) ^^^ (Kec.word ((Z.drop (136 * q + 8 * i)).take 8)) : Nat) : Int)) h101).trans (congrArg (fun c => some (Obj.cells c 148 (0, 0))) (show (Wz (stp (mxf Z q) i (ab Z q)) : Array Value).setIfInBounds i (.int .u64 (((Kec.g (ab Z q) i) ^^^ (Kec.word ((Z.drop (136 * q + 8 * i)).take 8)) : Nat) : Int)) = Wz (stp (mxf Z q) (i + 1) (ab Z q)) from by rw [Wz_set]; exact congrArg Wz (by rw [stp_succ] <;> rfl))))
              refine ls_skip (qo88_0 1036836 13) (w' := V104) (by kernel_rfl) (by rw [← eV104]; exact exec_store_cell 24 (.tmp 57) (.tmp 56) (by kernel_rfl) gs i (by kernel_rfl) (.int .u64 (((Kec.g (ab Z q) i) ^^^ (Kec.word ((Z.drop (136 * q + 8 * i)).take 8)) : Nat) : Int)) (by kernel_rfl) (by kernel_rfl) (by kernel_rfl) (.int .u64 ((Kec.g (ab Z q) i : Nat) : Int)) (rc (h101) (Wz_get' _ i _ (by rw [stp_len, ab_len]; omega) (by rw [stp_get _ _ _ _ (by rw [ab_len]; omega), if_neg (by omega)]))) (frozen_of_row _ _ _ _ _ h101) (by kernel_rfl)) ?_
              clear eV104
              have h106 := kV104.bO h99
              have h107 := kV104.bO h100
              have K108 := K102.nO kV104
              have z109 := kV104.size
              refine ls_end <| blk_n <| tr_ [0, 1, 2] <| pkq (iN i) <| ppq (iN (i + 1)) (exec_cast (congrArg (Value.int .i64) (wrapN (i + 1) (by omega))) (by kernel_rfl)) <| pkq (iN (i + 1)) <| et_ ?_
              refine ⟨⟨i + 1, (iN i), (.bool true), (iN i), (iN (i + 1)), (iN i), (iN i), (pT gs i), (uN (Kec.g (ab Z q) i)), (.slice (some ⟨g, 0, none⟩) n cap), (iN (136 * q)), (iN i), (iN (8 * i)), (iN ((136 * q) + (8 * i))), (.slice (some ⟨g, (136 * q + 8 * i), none⟩) (n - (136 * q + 8 * i)) (cap - (136 * q + 8 * i))), (uN (Kec.word ((Z.drop (136 * q + 8 * i)).take 8))), (uN ((Kec.g (ab Z q) i) ^^^ (Kec.word ((Z.drop (136 * q + 8 * i)).take 8)))), (pT gs i), by kernel_rfl, by omega, h106, h107, h105, K108⟩, ?_⟩
              exact lt_meas (x := 17 - (i + 1)) (y := 17 - i) (by kernel_rfl) (by kernel_rfl) (by omega)
            · have eq_i : i = 17 := by omega
              have h110 : V92.heap[gs]? = some (.cells (Wz (mx Z q)) 148 (0, 0)) := h95.trans (by rw [eq_i, mx_all])
              refine q_ <| qr_ [0, 1] <| pkq (iN i) <| ppq (.bool false) (dcf ((((i : Nat) : Int)) < ((17) : Int)) (by omega)) <| en_ <| sy_exit 4 (by kernel_rfl) <| then_e <| then_e <| blk_e <| tr_ [0, 1, 2] <| ppq (.agg (Wz (mx Z q))) (ldr 148 gs (h110) (by rw [Wz_size, mx_len]; kernel_rfl)) ?_
              refine pcq 102 #[.agg (Wz (mx Z q))] Tryz.func102 ((hPermute_as Z q _).mono ?_)
              rintro e V111 ⟨rfl, kV111⟩
              refine ⟨_, rfl, ?_⟩
              have h112 := kV111.bk h93
              have h113 := kV111.bk h94
              have h114 := kV111.bk h110
              have K115 := K96.nn kV111
              have z116 := kV111.size
              refine pst 148 gs ((Wz (ab Z (q + 1)))) h114 (by rw [Wz_size, ab_len]; kernel_rfl) (by rw [Wz_size, Wz_size, mx_len, ab_len]) (Wz_one _) fun V117 h118 kV117 => ?_
              have h119 := kV117.bO h112
              have h120 := kV117.bO h113
              have K121 := K115.nO kV117
              have z122 := kV117.size
              refine ps_end <| blk_n <| tr_ [0, 1, 2] <| pkq (iN (136 * q)) <| ppq (iN ((136 * q) + 136)) (exec_cast (congrArg (Value.int .i64) (wrapN ((136 * q) + 136) (by omega))) (by kernel_rfl)) <| pkq (iN ((136 * q) + 136)) <| et_ ?_
              refine ⟨⟨q + 1, (iN i), (iN (136 * q)), (.slice (some ⟨g, 0, none⟩) n cap), (iN n), (.bool true), (iN (136 * q)), (iN ((136 * q) + 136)), (iN i), (.bool false), u43, u44, u45, u46, u47, u48, u49, u50, u51, u52, u53, u54, u55, u56, u57, (.agg (Wz (mx Z q))), (.agg (Wz (ab Z (q + 1)))), by kernel_rfl, by omega, h119, h120, h118, K121⟩, ?_⟩
              exact lt_meas (x := 136 * nq - 136 * (q + 1)) (y := 136 * nq - 136 * q) (by kernel_rfl) (by kernel_rfl) (by omega)
        · have eq_q : q = nq := by omega
          have h123 : V87.heap[gs]? = some (.cells (Wz (ab Z nq)) 148 (0, 0)) := h90.trans (by rw [eq_q])
          refine q_ <| qr_ [0, 1, 2, 3] <| pkq (iN (136 * q)) <| pkq (.slice (some ⟨g, 0, none⟩) n cap) <| ppq (iN n) (exec_len (.tmp 36) 114 _ (by kernel_rfl) Tryz.underlying114 (some ⟨g, 0, none⟩) n cap (by kernel_rfl)) <| ppq (.bool false) (dcf ((((136 * q : Nat) : Int)) < (((n : Nat) : Int))) (by omega)) <| en_ <| sy_exit 2 (by kernel_rfl) <| then_e <| then_e <| blk_e <| tqr_ [0] <| pal 23 (zr_u8_32) (.agg (zr_u8_32)) fun V124 go ego h125 kV124 => ?_
          have n126 : gr < go := ego ▸ lt_of_block h88
          have n127 : g < go := ego ▸ lt_of_block h89
          have n128 : gs < go := ego ▸ lt_of_block h123
          have n129 : w.heap.size ≤ go := ego ▸ K91.size
          have h130 := kV124.bk h88
          have h131 := kV124.bk h89
          have h132 := kV124.bk h123
          have K133 := K91.nn kV124
          have z134 := kV124.size
          refine eq_ <| qr_ [0] <| pkq (.int .i64 0) <| et_ <| b_ 6 ?_
          refine sy_loop (qc88_0 4084) (fun a V => ∃ (c : Nat) (u9 u10 u60 u61 u62 u63 u64 u65 u66 u67 u68 u69 u70 u71 u72 u73 u74 u75 u76 u77 u78 u79 u80 : Value), (a = ⟨#[v0, ud, pT gr 0, .slice (some ⟨g, 0, none⟩) n cap, pT gs 0, iN (136 * q), u6, pT go 0, iN c, u9, u10, .slice (some ⟨g0, 0, none⟩) 0 0, v0, v17, .slice (some ⟨g6, 0, none⟩) 1 1, v37, .slice (some ⟨g, 0, none⟩) n cap, iN (x.length + 1 + p), iN ((x.length + 1 + p) % 136), .bool false, u20, u21, u22, .slice (some ⟨g, 0, none⟩) n cap, .slice (some ⟨g, 0, none⟩) n cap, iN n, iN (n - 1), .slice (some ⟨g, 0, none⟩) n cap, .slice (some ⟨g, 0, none⟩) n cap, iN n, iN (n - 1), .pointer (some ⟨g, n - 1, none⟩), cN ((Y.getD (n - 1) 0).toNat), cN ((Y.getD (n - 1) 0 ^^^ 128).toNat), .pointer (some ⟨g, n - 1, none⟩), iN (136 * q), .slice (some ⟨g, 0, none⟩) n cap, iN n, .bool false, u39, u40, u41, u42, u43, u44, u45, u46, u47, u48, u49, u50, u51, u52, u53, u54, u55, u56, u57, u58, u59, u60, u61, u62, u63, u64, u65, u66, u67, u68, u69, u70, u71, u72, u73, u74, u75, u76, u77, u78, u79, u80, ud], []⟩) ∧ (c ≤ 4) ∧ (V.heap[gr]? = some (.cells (zr_u8_32) 23 (0, 0))) ∧ (V.heap[g]? = some (.cells ((B Z ++ rest).toArray) 5 (0, 0))) ∧ (V.heap[gs]? = some (.cells (Wz (ab Z nq)) 148 (0, 0))) ∧ (V.heap[go]? = some (.cells ((B (stpB (sqf (ab Z nq)) (8 * c) (List.replicate 32 0))).toArray) 23 (0, 0))) ∧ (Keeps Nob w V)) (fun a _ => 4 - (intOf (a.tmps.getD 8 undef)).toNat) (by kernel_rfl) ?_ ?_
          · exact ⟨0, undef, undef, undef, undef, undef, undef, undef, undef, undef, undef, undef, undef, undef, undef, undef, undef, undef, undef, undef, undef, undef, undef, undef, by kernel_rfl, by omega, h130, h131, h132, h125.trans (by kernel_rfl), K133⟩
          · rintro a V135 ⟨c, u9, u10, u60, u61, u62, u63, u64, u65, u66, u67, u68, u69, u70, u71, u72, u73, u74, u75, u76, u77, u78, u79, u80, rfl, hc, h136, h137, h138, h139, K140⟩
            by_cases lt_c : c < 4
            · show _
              refine q_ <| qr_ [0, 1] <| pkq (iN c) <| ppq (.bool true) (dct ((((c : Nat) : Int)) < ((4) : Int)) (by omega)) <| ey_ <| s_ <| tq_ <| b_ 7 <| qr_ [0, 1, 2, 3, 4] <| pkq (iN c) <| ppq (pT gs c) (exec_cast (v := pT gs (0 + c * 1)) (by simp) (exec_indexAt_arr 148 (.tmp 4) (.tmp 64) (by kernel_rfl) gs 0 (by kernel_rfl) .i64 c (by kernel_rfl) _ _ 1 Tryz.underlying148 (by kernel_rfl) (by omega))) <| ppq (uN (Kec.g (ab Z nq) c)) (ldc 24 gs c (rc (h138) (Wz_get _ c (by rw [ab_len]; omega)))) ?_
              have hgo8 := lt_of_block h139
              refine pcq 103 #[uN (Kec.g (ab Z nq) c)] Tryz.func103 ((hbytes_ok (Kec.g (ab Z nq) c) _ (ab_ws _ _ _)).mono ?_)
              rintro e V141 ⟨v8, rfl, hrow8, hnew8, kV141⟩
              obtain ⟨g8, cap8, rest8, rfl, hg8, hcap8, hmax8⟩ := row_open hrow8 (by omega)
              have hge8 := hnew8 g8 rfl
              have hlt8 := lt_of_block hg8
              refine ⟨_, rfl, ?_⟩
              have h142 := kV141.bk h136
              have h143 := kV141.bk h137
              have h144 := kV141.bk h138
              have h145 := kV141.bk h139
              have K146 := K140.nn kV141
              have z147 := kV141.size
              refine pkq (.slice (some ⟨g8, 0, none⟩) 8 cap8) <| eqr_ [0] <| pkq (.int .i64 0) <| et_ <| b_ 8 ?_
              refine sy_loop (qc88_0 522828) (fun a V => ∃ (e : Nat) (u68 u69 u70 u71 u72 u73 u74 u75 u76 u77 u78 u79 u80 : Value), (a = ⟨#[v0, ud, pT gr 0, .slice (some ⟨g, 0, none⟩) n cap, pT gs 0, iN (136 * q), u6, pT go 0, iN c, .slice (some ⟨g8, 0, none⟩) 8 cap8, iN e, .slice (some ⟨g0, 0, none⟩) 0 0, v0, v17, .slice (some ⟨g6, 0, none⟩) 1 1, v37, .slice (some ⟨g, 0, none⟩) n cap, iN (x.length + 1 + p), iN ((x.length + 1 + p) % 136), .bool false, u20, u21, u22, .slice (some ⟨g, 0, none⟩) n cap, .slice (some ⟨g, 0, none⟩) n cap, iN n, iN (n - 1), .slice (some ⟨g, 0, none⟩) n cap, .slice (some ⟨g, 0, none⟩) n cap, iN n, iN (n - 1), .pointer (some ⟨g, n - 1, none⟩), cN ((Y.getD (n - 1) 0).toNat), cN ((Y.getD (n - 1) 0 ^^^ 128).toNat), .pointer (some ⟨g, n - 1, none⟩), iN (136 * q), .slice (some ⟨g, 0, none⟩) n cap, iN n, .bool false, u39, u40, u41, u42, u43, u44, u45, u46, u47, u48, u49, u50, u51, u52, u53, u54, u55, u56, u57, u58, u59, iN c, .bool true, u62, u63, iN c, pT gs c, uN (Kec.g (ab Z nq) c), .slice (some ⟨g8, 0, none⟩) 8 cap8, u68, u69, u70, u71, u72, u73, u74, u75, u76, u77, u78, u79, u80, ud], []⟩) ∧ (e ≤ 8) ∧ (V.heap[gr]? = some (.cells (zr_u8_32) 23 (0, 0))) ∧ (V.heap[g]? = some (.cells ((B Z ++ rest).toArray) 5 (0, 0))) ∧ (V.heap[gs]? = some (.cells (Wz (ab Z nq)) 148 (0, 0))) ∧ (V.heap[go]? = some (.cells ((B (stpB (sqf (ab Z nq)) (8 * c + e) (List.replicate 32 0))).toArray) 23 (0, 0))) ∧ (V.heap[g8]? = some (.cells ((B (Kec.eight (Kec.g (ab Z nq) c)) ++ rest8).toArray) 5 (0, 0))) ∧ (Keeps Nob w V)) (fun a _ => 8 - (intOf (a.tmps.getD 10 undef)).toNat) (by kernel_rfl) ?_ ?_
              · exact ⟨0, u68, u69, u70, u71, u72, u73, u74, u75, u76, u77, u78, u79, u80, by kernel_rfl, by omega, h142, h143, h144, h145, hg8, K146⟩
              · rintro a V148 ⟨e, u68, u69, u70, u71, u72, u73, u74, u75, u76, u77, u78, u79, u80, rfl, he, h149, h150, h151, h152, h153, K154⟩
                by_cases lt_e : e < 8
                · show _
                  refine q_ <| qr_ [0, 1] <| pkq (iN e) <| ppq (.bool true) (dct ((((e : Nat) : Int)) < ((8) : Int)) (by omega)) <| ey_ <| s_ <| tq_ <| b_ 9 <| r_ [0, 1, 2, 3, 4, 5, 6, 7, 8, 9] <| pkq (iN c) <| ppq (iN (8 * c)) (exec_cast (congrArg (Value.int .i64) (wrapN (8 * c) (by omega))) (by kernel_rfl)) <| pkq (iN e) <| ppq (iN ((8 * c) + e)) (exec_cast (congrArg (Value.int .i64) (wrapN ((8 * c) + e) (by omega))) (by kernel_rfl)) <| pkq (.slice (some ⟨g8, 0, none⟩) 8 cap8) ?_
                  refine pkq (iN e) <| ppq (pT g8 e) (exec_cast (v := pT g8 (0 + e * 1)) (by simp) (exec_indexAt_slice 114 (.tmp 76) (.tmp 77) (by kernel_rfl) g8 0 8 cap8 (by kernel_rfl) .i64 e (by kernel_rfl) _ 1 Tryz.underlying114 (by kernel_rfl) (by omega))) <| ppq (cN (((Kec.eight (Kec.g (ab Z nq) c)).getD e 0).toNat)) (ldc 5 g8 e (rc (h153) (rb_get _ _ e (by rw [eight_len]; omega)))) <| ppq (.pointer (some ⟨go, (8 * c) + e, none⟩)) (exec_cast (v := .pointer (some ⟨go, 0 + ((8 * c) + e) * 1, none⟩)) (by simp) (exec_indexAt_arr 23 (.tmp 7) (.tmp 75) (by kernel_rfl) go 0 (by kernel_rfl) .i64 ((8 * c) + e) (by kernel_rfl) _ _ 1 Tryz.underlying23 (by kernel_rfl) (by omega))) ?_
                  refine pce 5 go ((8 * c) + e) (cN (((Kec.eight (Kec.g (ab Z nq) c)).getD e 0).toNat)) ((B (stpB (sqf (ab Z nq)) (8 * c + (e + 1)) (List.replicate 32 0))).toArray) h152 (rc (h152) (Bz_get _ ((8 * c) + e) (by rw [stpB_len, List.length_replicate]; omega))) (by rw [Bz_set]; exact congrArg (fun l => (B l).toArray) (by rw [sq_get _ _ _ (by omega) (by omega)]; exact (stpB_succ (sqf (ab Z nq)) (8 * c + e) (List.replicate 32 0)).symm)) fun V155 h156 kV155 => ?_
                  have h157 := kV155.bO h149
                  have h158 := kV155.bO h150
                  have h159 := kV155.bO h151
                  have h160 := kV155.bO h153
                  have K161 := K154.nO kV155
                  have z162 := kV155.size
                  refine ps_end <| blk_n <| tr_ [0, 1, 2] <| pkq (iN e) <| ppq (iN (e + 1)) (exec_cast (congrArg (Value.int .i64) (wrapN (e + 1) (by omega))) (by kernel_rfl)) <| pkq (iN (e + 1)) <| et_ ?_
                  refine ⟨⟨e + 1, (iN e), (.bool true), (iN e), (iN (e + 1)), (iN c), (iN (8 * c)), (iN e), (iN ((8 * c) + e)), (.slice (some ⟨g8, 0, none⟩) 8 cap8), (iN e), (pT g8 e), (cN (((Kec.eight (Kec.g (ab Z nq) c)).getD e 0).toNat)), (.pointer (some ⟨go, (8 * c) + e, none⟩)), by kernel_rfl, by omega, h157, h158, h159, h156, h160, K161⟩, ?_⟩
                  exact lt_meas (x := 8 - (e + 1)) (y := 8 - e) (by kernel_rfl) (by kernel_rfl) (by omega)
                · have eq_e : e = 8 := by omega
                  refine q_ <| qr_ [0, 1] <| pkq (iN e) <| ppq (.bool false) (dcf ((((e : Nat) : Int)) < ((8) : Int)) (by omega)) <| en_ <| sy_exit 8 (by kernel_rfl) <| then_e <| then_e <| blk_e <| blk_n <| tr_ [0, 1, 2] <| pkq (iN c) <| ppq (iN (c + 1)) (exec_cast (congrArg (Value.int .i64) (wrapN (c + 1) (by omega))) (by kernel_rfl)) <| pkq (iN (c + 1)) ?_
                  refine et_ ?_
                  refine ⟨⟨c + 1, (.slice (some ⟨g8, 0, none⟩) 8 cap8), (iN e), (iN c), (.bool true), (iN c), (iN (c + 1)), (iN c), (pT gs c), (uN (Kec.g (ab Z nq) c)), (.slice (some ⟨g8, 0, none⟩) 8 cap8), (iN e), (.bool false), u70, u71, u72, u73, u74, u75, u76, u77, u78, u79, u80, by kernel_rfl, by omega, h149, h150, h151, h152.trans (congrArg (fun t => some (Obj.cells (B (stpB (sqf (ab Z nq)) t (List.replicate 32 0))).toArray 23 (0, 0))) (show 8 * c + e = 8 * (c + 1) by omega)), K154⟩, ?_⟩
                  exact lt_meas (x := 4 - (c + 1)) (y := 4 - c) (by kernel_rfl) (by kernel_rfl) (by omega)
            · have eq_c : c = 4 := by omega
              have h163 : V135.heap[go]? = some (.cells ((B (Kec.sum x)).toArray) 23 (0, 0)) := h139.trans (congrArg (fun l => some (Obj.cells (B l).toArray 23 (0, 0))) (by subst eq_c; rw [← hZ]; exact sq_all x nq hnq.symm _ (by simp)))
              refine q_ <| qr_ [0, 1] <| pkq (iN c) <| ppq (.bool false) (dcf ((((c : Nat) : Int)) < ((4) : Int)) (by omega)) <| en_ <| sy_exit 6 (by kernel_rfl) <| then_e <| then_e <| blk_e <| tqr_ [0, 1] <| ppq (.agg ((B (Kec.sum x)).toArray)) (ldr 23 go (h163) (by rw [Bz_size, Kec.sum_len]; kernel_rfl)) <| pst 23 gr (((B (Kec.sum x)).toArray)) h136 (by rw [Bz_size, Kec.sum_len]; kernel_rfl) (by rw [Bz_size, Kec.sum_len]; rfl) (by rw [List.all_toArray]; exact List.all_eq_true.2 (B_one _)) fun V164 h165 kV164 => ?_
              have K169 := K140.nO kV164
              have z170 := kV164.size
              refine eu_ <| sy_out (.agg ((B (Kec.sum x)).toArray)) rfl (results_cell_row (p := 2) (ty := 23) (by kernel_rfl) _ _ gr 23 ((B (Kec.sum x)).toArray) (0, 0) _ (by kernel_rfl) h165 Tryz.underlying23 rfl (by rw [Bz_size, Kec.sum_len]; kernel_rfl)) ?_
              exact ⟨rfl, K169⟩
end Go.Proofs.YtcbfnflnokoacaaGreat
namespace Go.Proofs.YtcbfnflnokoacaaGreat
set_option maxRecDepth 100000
set_option maxHeartbeats 4000000
open Go Go.RowKit Go.Own Go.Shelf
noncomputable def qc89_1 (n : Nat) : Code := partOf Tryz.f42 n
theorem rvDigest_bad (a : Att) (w : World) (ha : a.Ok) (hf : ¬ a.fine) :
    Calls Tryz.prog 42 #[.agg (Att.c a)] w (fun e w' => e = .returned (.tuple #[.agg (B zhash).toArray, .int .i64 3]) ∧ Keeps Nob w w') := by
  have hr := ha.r
  have hlen := att_len hr
  have K0 : Keeps Nob w w := Keeps.refl _ _
  refine sy_enter (qc89_1 1) ⟨#[.agg (Att.c a), ud, ud, ud, ud, ud, ud, ud, ud, ud, ud, ud, ud, ud], []⟩ Tryz.func42 (by kernel_rfl) (by kernel_rfl) <| qr_ [0, 1, 2] <| pbx 26 ((Att.c a)) (.agg (Att.c a)) fun V1 ga ega h2 kV1 => ?_
  have n3 : w.heap.size ≤ ga := ega ▸ K0.size
  have K4 := K0.nn kV1
  have z5 := kV1.size
  refine pal 23 (zr_u8_32) (.agg (zr_u8_32)) fun V6 gr egr h7 kV6 => ?_
  have n8 : ga < gr := egr ▸ lt_of_block h2
  have n9 : w.heap.size ≤ gr := egr ▸ K4.size
  have h10 := kV6.bk h2
  have K11 := K4.nn kV6
  have z12 := kV6.size
  refine pkq (.int .i64 0) <| eq_ <| qr_ [0, 1, 2] <| ppq (.agg (Att.c a)) (ldr 26 ga (h10) (by rw [Att.c_size _ hr]; kernel_rfl)) ?_
  refine pcq 77 #[.agg (Att.c a)] Tryz.func77 ((rvCheck_is a _ hr (Att.err_no hf)).mono ?_)
  rintro e V13 ⟨rfl, kV13⟩
  refine ⟨_, rfl, ?_⟩
  have h15 := kV13.bk h7
  have K16 := K11.nn kV13
  have z17 := kV13.size
  refine pkq (.int .i64 3) <| eqr_ [0, 1] <| pkq (.int .i64 3) <| pkq (.bool true) <| ey_ <| qr_ [0, 1, 2, 3] <| pkq (.agg (B zhash).toArray) <| pkq (.int .i64 3) <| pst 23 gr ((B zhash).toArray) h15 (by rw [Bz_size, show (zhash).length = 32 from zhash_len]; kernel_rfl) (by rw [Bz_size, show (zhash).length = 32 from zhash_len]; rfl) (by rw [List.all_toArray]; exact List.all_eq_true.2 (B_one _)) fun V18 h19 kV18 => ?_
  have K21 := K16.nO kV18
  have z22 := kV18.size
  refine pkq (.int .i64 3) <| eu_ <| then_r <| sy_out (.tuple #[.agg ((B zhash).toArray), .int .i64 3]) rfl (results_row_tmp (p := 2) (q := 3) (ty := 23) (by kernel_rfl) _ _ gr 23 ((B zhash).toArray) (0, 0) _ (.int .i64 3) (by kernel_rfl) h19 Tryz.underlying23 rfl (by rw [Bz_size, zhash_len]; kernel_rfl) (by kernel_rfl)) ?_
  exact ⟨rfl, K21⟩
theorem rvDigest_ok (a : Att) (w : World) (ha : a.Ok) (hf : a.fine) :
    Calls Tryz.prog 42 #[.agg (Att.c a)] w (fun e w' => e = .returned (.tuple #[.agg (B a.dig).toArray, .int .i64 0]) ∧ Keeps Nob w w') := by
  have hr := ha.r
  have hlen := att_len hr
  have K0 : Keeps Nob w w := Keeps.refl _ _
  refine sy_enter (qc89_1 1) ⟨#[.agg (Att.c a), ud, ud, ud, ud, ud, ud, ud, ud, ud, ud, ud, ud, ud], []⟩ Tryz.func42 (by kernel_rfl) (by kernel_rfl) <| qr_ [0, 1, 2] <| pbx 26 ((Att.c a)) (.agg (Att.c a)) fun V1 ga ega h2 kV1 => ?_
  have n3 : w.heap.size ≤ ga := ega ▸ K0.size
  have K4 := K0.nn kV1
  have z5 := kV1.size
  refine pal 23 (zr_u8_32) (.agg (zr_u8_32)) fun V6 gr egr h7 kV6 => ?_
  have n8 : ga < gr := egr ▸ lt_of_block h2
  have n9 : w.heap.size ≤ gr := egr ▸ K4.size
  have h10 := kV6.bk h2
  have K11 := K4.nn kV6
  have z12 := kV6.size
  refine pkq (.int .i64 0) <| eq_ <| qr_ [0, 1, 2] <| ppq (.agg (Att.c a)) (ldr 26 ga (h10) (by rw [Att.c_size _ hr]; kernel_rfl)) ?_
  refine pcq 77 #[.agg (Att.c a)] Tryz.func77 ((rvCheck_is a _ hr (Att.err_ok hf)).mono ?_)
  rintro e V13 ⟨rfl, kV13⟩
  refine ⟨_, rfl, ?_⟩
  have h14 := kV13.bk h10
  have h15 := kV13.bk h7
  have K16 := K11.nn kV13
  have z17 := kV13.size
  refine pkq (.int .i64 0) <| eqr_ [0, 1] <| pkq (.int .i64 0) <| pkq (.bool false) <| en_ <| s_ <| tqr_ [0, 1, 2, 3, 4] <| ppq (.agg (Att.c a)) (ldr 26 ga (h14) (by rw [Att.c_size _ hr]; kernel_rfl)) ?_
  refine pcq 79 #[.agg (Att.c a)] Tryz.func79 ((rbare_ok a _ ha hf).mono ?_)
  rintro e V18 ⟨X, rfl, hX, hnX, kV18⟩
  refine ⟨_, rfl, ?_⟩
  have h20 := kV18.bk h15
  have K21 := K16.nn kV18
  have z22 := kV18.size
  refine pcq 78 #[X] Tryz.func78 ((hSum_ok a.bare _ _ (Row.bytes hX) (by omega)).mono ?_)
  rintro e V23 ⟨rfl, kV23⟩
  refine ⟨_, rfl, ?_⟩
  have h25 := kV23.bk h20
  have K26 := K21.nn kV23
  have z27 := kV23.size
  refine pst 23 gr ((B a.dig).toArray) h25 (by rw [Bz_size, show (a.dig).length = 32 from (Att.dig_len a)]; kernel_rfl) (by rw [Bz_size, show (a.dig).length = 32 from (Att.dig_len a)]; rfl) (by rw [List.all_toArray]; exact List.all_eq_true.2 (B_one _)) fun V28 h29 kV28 => ?_
  have K31 := K26.nO kV28
  have z32 := kV28.size
  refine pkq (.int .i64 0) <| eu_ <| sy_out (.tuple #[.agg ((B a.dig).toArray), .int .i64 0]) rfl (results_row_tmp (p := 2) (q := 3) (ty := 23) (by kernel_rfl) _ _ gr 23 ((B a.dig).toArray) (0, 0) _ (.int .i64 0) (by kernel_rfl) h29 Tryz.underlying23 rfl (by rw [Bz_size, (Att.dig_len a)]; kernel_rfl) (by kernel_rfl)) ?_
  exact ⟨rfl, K31⟩
noncomputable def qc89_0 (n : Nat) : Code := partOf Tryz.f44 n
theorem rvDigestBlock_bad (a : Pro) (w : World) (ha : a.Ok) (hf : ¬ a.fine) :
    Calls Tryz.prog 44 #[.agg (Pro.c a)] w (fun e w' => e = .returned (.tuple #[.agg (B zhash).toArray, .int .i64 3]) ∧ Keeps Nob w w') := by
  have hr := ha.r
  have hlen := pro_len hr
  have K0 : Keeps Nob w w := Keeps.refl _ _
  refine sy_enter (qc89_0 1) ⟨#[.agg (Pro.c a), ud, ud, ud, ud, ud, ud, ud, ud, ud, ud, ud, ud, ud], []⟩ Tryz.func44 (by kernel_rfl) (by kernel_rfl) <| qr_ [0, 1, 2] <| pbx 28 ((Pro.c a)) (.agg (Pro.c a)) fun V1 ga ega h2 kV1 => ?_
  have n3 : w.heap.size ≤ ga := ega ▸ K0.size
  have K4 := K0.nn kV1
  have z5 := kV1.size
  refine pal 23 (zr_u8_32) (.agg (zr_u8_32)) fun V6 gr egr h7 kV6 => ?_
  have n8 : ga < gr := egr ▸ lt_of_block h2
  have n9 : w.heap.size ≤ gr := egr ▸ K4.size
  have h10 := kV6.bk h2
  have K11 := K4.nn kV6
  have z12 := kV6.size
  refine pkq (.int .i64 0) <| eq_ <| qr_ [0, 1, 2] <| ppq (.agg (Pro.c a)) (ldr 28 ga (h10) (by rw [Pro.c_size _ hr]; kernel_rfl)) ?_
  refine pcq 80 #[.agg (Pro.c a)] Tryz.func80 ((rvCheckBlock_is a _ hr (Pro.err_no hf)).mono ?_)
  rintro e V13 ⟨rfl, kV13⟩
  refine ⟨_, rfl, ?_⟩
  have h15 := kV13.bk h7
  have K16 := K11.nn kV13
  have z17 := kV13.size
  refine pkq (.int .i64 3) <| eqr_ [0, 1] <| pkq (.int .i64 3) <| pkq (.bool true) <| ey_ <| qr_ [0, 1, 2, 3] <| pkq (.agg (B zhash).toArray) <| pkq (.int .i64 3) <| pst 23 gr ((B zhash).toArray) h15 (by rw [Bz_size, show (zhash).length = 32 from zhash_len]; kernel_rfl) (by rw [Bz_size, show (zhash).length = 32 from zhash_len]; rfl) (by rw [List.all_toArray]; exact List.all_eq_true.2 (B_one _)) fun V18 h19 kV18 => ?_
  have K21 := K16.nO kV18
  have z22 := kV18.size
  refine pkq (.int .i64 3) <| eu_ <| then_r <| sy_out (.tuple #[.agg ((B zhash).toArray), .int .i64 3]) rfl (results_row_tmp (p := 2) (q := 3) (ty := 23) (by kernel_rfl) _ _ gr 23 ((B zhash).toArray) (0, 0) _ (.int .i64 3) (by kernel_rfl) h19 Tryz.underlying23 rfl (by rw [Bz_size, zhash_len]; kernel_rfl) (by kernel_rfl)) ?_
  exact ⟨rfl, K21⟩
theorem rvDigestBlock_ok (a : Pro) (w : World) (ha : a.Ok) (hf : a.fine) :
    Calls Tryz.prog 44 #[.agg (Pro.c a)] w (fun e w' => e = .returned (.tuple #[.agg (B a.dig).toArray, .int .i64 0]) ∧ Keeps Nob w w') := by
  have hr := ha.r
  have hlen := pro_len hr
  have K0 : Keeps Nob w w := Keeps.refl _ _
  refine sy_enter (qc89_0 1) ⟨#[.agg (Pro.c a), ud, ud, ud, ud, ud, ud, ud, ud, ud, ud, ud, ud, ud], []⟩ Tryz.func44 (by kernel_rfl) (by kernel_rfl) <| qr_ [0, 1, 2] <| pbx 28 ((Pro.c a)) (.agg (Pro.c a)) fun V1 ga ega h2 kV1 => ?_
  have n3 : w.heap.size ≤ ga := ega ▸ K0.size
  have K4 := K0.nn kV1
  have z5 := kV1.size
  refine pal 23 (zr_u8_32) (.agg (zr_u8_32)) fun V6 gr egr h7 kV6 => ?_
  have n8 : ga < gr := egr ▸ lt_of_block h2
  have n9 : w.heap.size ≤ gr := egr ▸ K4.size
  have h10 := kV6.bk h2
  have K11 := K4.nn kV6
  have z12 := kV6.size
  refine pkq (.int .i64 0) <| eq_ <| qr_ [0, 1, 2] <| ppq (.agg (Pro.c a)) (ldr 28 ga (h10) (by rw [Pro.c_size _ hr]; kernel_rfl)) ?_
  refine pcq 80 #[.agg (Pro.c a)] Tryz.func80 ((rvCheckBlock_is a _ hr (Pro.err_ok hf)).mono ?_)
  rintro e V13 ⟨rfl, kV13⟩
  refine ⟨_, rfl, ?_⟩
  have h14 := kV13.bk h10
  have h15 := kV13.bk h7
  have K16 := K11.nn kV13
  have z17 := kV13.size
  refine pkq (.int .i64 0) <| eqr_ [0, 1] <| pkq (.int .i64 0) <| pkq (.bool false) <| en_ <| s_ <| tqr_ [0, 1, 2, 3, 4] <| ppq (.agg (Pro.c a)) (ldr 28 ga (h14) (by rw [Pro.c_size _ hr]; kernel_rfl)) ?_
  refine pcq 81 #[.agg (Pro.c a)] Tryz.func81 ((rbareBlock_ok a _ ha hf).mono ?_)
  rintro e V18 ⟨X, rfl, hX, hnX, kV18⟩
  refine ⟨_, rfl, ?_⟩
  have h20 := kV18.bk h15
  have K21 := K16.nn kV18
  have z22 := kV18.size
  refine pcq 78 #[X] Tryz.func78 ((hSum_ok a.bare _ _ (Row.bytes hX) (by omega)).mono ?_)
  rintro e V23 ⟨rfl, kV23⟩
  refine ⟨_, rfl, ?_⟩
  have h25 := kV23.bk h20
  have K26 := K21.nn kV23
  have z27 := kV23.size
  refine pst 23 gr ((B a.dig).toArray) h25 (by rw [Bz_size, show (a.dig).length = 32 from (Pro.dig_len a)]; kernel_rfl) (by rw [Bz_size, show (a.dig).length = 32 from (Pro.dig_len a)]; rfl) (by rw [List.all_toArray]; exact List.all_eq_true.2 (B_one _)) fun V28 h29 kV28 => ?_
  have K31 := K26.nO kV28
  have z32 := kV28.size
  refine pkq (.int .i64 0) <| eu_ <| sy_out (.tuple #[.agg ((B a.dig).toArray), .int .i64 0]) rfl (results_row_tmp (p := 2) (q := 3) (ty := 23) (by kernel_rfl) _ _ gr 23 ((B a.dig).toArray) (0, 0) _ (.int .i64 0) (by kernel_rfl) h29 Tryz.underlying23 rfl (by rw [Bz_size, (Pro.dig_len a)]; kernel_rfl) (by kernel_rfl)) ?_
  exact ⟨rfl, K31⟩
end Go.Proofs.YtcbfnflnokoacaaGreat
namespace Go.Proofs.YtcbfnflnokoacaaGreat
set_option maxRecDepth 100000
set_option maxHeartbeats 4000000
open Go Go.RowKit Go.Own Go.Shelf
theorem rvDigest_any (a : Att) (w : World) (ha : a.Ok) : Calls Tryz.prog 42 #[.agg (Att.c a)] w fun e w' => e = .returned (.tuple #[.agg (B a.dg).toArray, .int .i64 a.err]) ∧ Keeps Nob w w' := by
  by_cases hf : a.fine
  · rw [Att.err_ok hf, Att.dg, if_pos hf]; exact rvDigest_ok a w ha hf
  · rw [Att.err_no hf, Att.dg, if_neg hf]; exact rvDigest_bad a w ha hf
noncomputable def qc90_1 (n : Nat) : Code := partOf Tryz.f45 n
theorem rvDoubles_ok (a b : Att) (w : World) (ha : a.Ok) (hb : b.Ok) :
    Calls Tryz.prog 45 #[.agg (Att.c a), .agg (Att.c b)] w (fun e w' => e = .returned (.bool (doub a b)) ∧ Keeps Nob w w') := by
  have hr := ha.r
  have hs := hb.r
  have K0 : Keeps Nob w w := Keeps.refl _ _
  refine sy_enter (qc90_1 1) ⟨#[.agg (Att.c a), .agg (Att.c b), ud, ud, ud, ud, ud, ud, ud, ud, ud, ud, ud, ud, ud, ud, ud, ud, ud, ud, ud, ud, ud, ud, ud, ud, ud, ud, ud, ud, ud, ud, ud, ud, ud, ud, ud, ud, ud, ud, ud, ud, ud, ud], []⟩ Tryz.func45 (by kernel_rfl) (by kernel_rfl) <| qr_ [0, 1, 2] <| pbx 26 ((Att.c a)) (.agg (Att.c a)) fun V1 ga ega h2 kV1 => ?_
  have n3 : w.heap.size ≤ ga := ega ▸ K0.size
  have K4 := K0.nn kV1
  have z5 := kV1.size
  refine pbx 26 ((Att.c b)) (.agg (Att.c b)) fun V6 gb egb h7 kV6 => ?_
  have n8 : ga < gb := egb ▸ lt_of_block h2
  have n9 : w.heap.size ≤ gb := egb ▸ K4.size
  have h10 := kV6.bk h2
  have K11 := K4.nn kV6
  have z12 := kV6.size
  refine pkq (.bool false) <| eqr_ [0, 1, 2, 3, 4, 5, 6, 7] <| ppq (.agg (Att.c a)) (ldr 26 ga (h10) (by rw [Att.c_size _ hr]; kernel_rfl)) ?_
  refine pcq 42 #[.agg (Att.c a)] Tryz.func42 ((rvDigest_any a _ ha).mono ?_)
  rintro e V13 ⟨rfl, kV13⟩
  refine ⟨_, rfl, ?_⟩
  have h14 := kV13.bk h10
  have h15 := kV13.bk h7
  have K16 := K11.nn kV13
  have z17 := kV13.size
  refine pkq (.tuple #[.agg (B a.dg).toArray, .int .i64 a.err]) <| pkq (.agg (B a.dg).toArray) <| pkq (.int .i64 a.err) <| pal 23 (zr_u8_32) (.agg (zr_u8_32)) fun V18 gx egx h19 kV18 => ?_
  have n20 : ga < gx := egx ▸ lt_of_block h14
  have n21 : gb < gx := egx ▸ lt_of_block h15
  have n22 : w.heap.size ≤ gx := egx ▸ K16.size
  have h23 := kV18.bk h14
  have h24 := kV18.bk h15
  have K25 := K16.nn kV18
  have z26 := kV18.size
  refine pst 23 gx ((B a.dg).toArray) h19 (by rw [Bz_size, Att.dg_len]; kernel_rfl) (by rw [Bz_size, Att.dg_len]; rfl) (by rw [List.all_toArray]; exact List.all_eq_true.2 (B_one _)) fun V27 h28 kV27 => ?_
  have h29 := kV27.bO h23
  have h30 := kV27.bO h24
  have K31 := K25.nO kV27
  have z32 := kV27.size
  refine pkq (.int .i64 a.err) <| eqr_ [0, 1, 2, 3, 4, 5, 6, 7] <| ppq (.agg (Att.c b)) (ldr 26 gb (h30) (by rw [Att.c_size _ hs]; kernel_rfl)) ?_
  refine pcq 42 #[.agg (Att.c b)] Tryz.func42 ((rvDigest_any b _ hb).mono ?_)
  rintro e V33 ⟨rfl, kV33⟩
  refine ⟨_, rfl, ?_⟩
  have h34 := kV33.bk h29
  have h35 := kV33.bk h30
  have h36 := kV33.bk h28
  have K37 := K31.nn kV33
  have z38 := kV33.size
  refine pkq (.tuple #[.agg (B b.dg).toArray, .int .i64 b.err]) <| pkq (.agg (B b.dg).toArray) <| pkq (.int .i64 b.err) <| pal 23 (zr_u8_32) (.agg (zr_u8_32)) fun V39 gy egy h40 kV39 => ?_
  have n41 : ga < gy := egy ▸ lt_of_block h34
  have n42 : gb < gy := egy ▸ lt_of_block h35
  have n43 : gx < gy := egy ▸ lt_of_block h36
  have n44 : w.heap.size ≤ gy := egy ▸ K37.size
  have h45 := kV39.bk h34
  have h46 := kV39.bk h35
  have h47 := kV39.bk h36
  have K48 := K37.nn kV39
  have z49 := kV39.size
  refine pst 23 gy ((B b.dg).toArray) h40 (by rw [Bz_size, Att.dg_len]; kernel_rfl) (by rw [Bz_size, Att.dg_len]; rfl) (by rw [List.all_toArray]; exact List.all_eq_true.2 (B_one _)) fun V50 h51 kV50 => ?_
  have h52 := kV50.bO h45
  have h53 := kV50.bO h46
  have h54 := kV50.bO h47
  have K55 := K48.nO kV50
  have z56 := kV50.size
  refine pkq (.int .i64 b.err) <| eqr_ [0, 1, 2, 3, 4, 5, 6, 7, 8, 9, 10, 11, 12, 13, 14, 15, 16, 17, 18, 19, 20, 21, 22, 23, 24, 25] <| pkq (.int .i64 a.err) ?_
  by_cases c0 : a.fine
  · have e0 := Att.err_ok c0
    refine ppq (.bool true) (eqt ((a.err) : Int) ((0) : Int) (by omega)) <| pkq (.bool true) <| pkq (.int .i64 b.err) ?_
    by_cases c1 : b.fine
    · have e1 := Att.err_ok c1
      refine ppq (.bool true) (eqt ((b.err) : Int) ((0) : Int) (by omega)) <| pkq (.bool true) <| pkq (.bool true) <| pkq (pT ga 0) <| ppq (.int .i64 a.v) (ldc 3 ga 0 (rc (h52) (Att.c_0 _))) <| pkq (pT gb 0) <| ppq (.int .i64 b.v) (ldc 3 gb 0 (rc (h53) (Att.c_0 _))) ?_
      by_cases c2 : a.v = b.v
      · have e2 := c2
        refine ppq (.bool true) (eqt ((a.v) : Int) ((b.v) : Int) (by omega)) <| pkq (.bool true) <| pkq (.bool true) <| pkq (pT ga 2) <| ppq (.int .i64 a.t) (ldc 3 ga 2 (rc (h52) (Att.c_2 _))) <| pkq (pT gb 2) <| ppq (.int .i64 b.t) (ldc 3 gb 2 (rc (h53) (Att.c_2 _))) ?_
        by_cases c3 : a.t = b.t
        · have e3 := c3
          refine ppq (.bool true) (eqt ((a.t) : Int) ((b.t) : Int) (by omega)) <| pkq (.bool true) <| pkq (.bool true) <| ppq (.agg ((B a.dg).toArray)) (ldr 23 gx (h54) (by rw [Bz_size, (Att.dg_len a)]; kernel_rfl)) <| ppq (.agg ((B b.dg).toArray)) (ldr 23 gy (h51) (by rw [Bz_size, (Att.dg_len b)]; kernel_rfl)) <| ppq (.bool (!(a.dg == b.dg))) (exec_binop .neq 23 23 (.tmp 40) (.tmp 41) (by kernel_rfl) (.agg (B a.dg).toArray) (.agg (B b.dg).toArray) _ (by kernel_rfl) (by kernel_rfl) (run_eqGuard_agg _ _ _ _ _ _ _ hash_guard) (hash_ne _ _ (Att.dg_len a) (Att.dg_len b) _)) <| pkq (.bool (!(a.dg == b.dg))) <| pkq (.bool (!(a.dg == b.dg))) <| ps_end <| sy_a ⟨#[.agg (Att.c a), .agg (Att.c b), pT ga 0, pT gb 0, .bool (!(a.dg == b.dg)), pT gx 0, .int .i64 a.err, pT gy 0, .int .i64 b.err, .tuple #[.agg (B a.dg).toArray, .int .i64 a.err], .agg (Att.c a), .tuple #[.agg (B a.dg).toArray, .int .i64 a.err], .agg (B a.dg).toArray, .int .i64 a.err, .tuple #[.agg (B b.dg).toArray, .int .i64 b.err], .agg (Att.c b), .tuple #[.agg (B b.dg).toArray, .int .i64 b.err], .agg (B b.dg).toArray, .int .i64 b.err, .int .i64 a.err, .bool true, .bool true, .int .i64 b.err, .bool true, .bool true, .bool true, pT ga 0, .int .i64 a.v, pT gb 0, .int .i64 b.v, .bool true, .bool true, .bool true, pT ga 2, .int .i64 a.t, pT gb 2, .int .i64 b.t, .bool true, .bool true, .bool true, .agg ((B a.dg).toArray), .agg ((B b.dg).toArray), .bool (!(a.dg == b.dg)), .bool (!(a.dg == b.dg))], []⟩ <| then_n <| u_ <| so_ (.bool (!(a.dg == b.dg))) ?_
          exact ⟨by rw [ne_dec, Att.dg, Att.dg, if_pos c0, if_pos c1]; unfold doub; simp [c0, c1, c2, c3], K55⟩
        · have e3 := c3
          refine ppq (.bool false) (eqf ((a.t) : Int) ((b.t) : Int) (by omega)) <| pkq (.bool false) <| pkq (.bool false) <| pnq <| pnq <| pnq <| pkq (.bool false) <| pkq (.bool false) <| ps_end <| sy_a ⟨#[.agg (Att.c a), .agg (Att.c b), pT ga 0, pT gb 0, .bool false, pT gx 0, .int .i64 a.err, pT gy 0, .int .i64 b.err, .tuple #[.agg (B a.dg).toArray, .int .i64 a.err], .agg (Att.c a), .tuple #[.agg (B a.dg).toArray, .int .i64 a.err], .agg (B a.dg).toArray, .int .i64 a.err, .tuple #[.agg (B b.dg).toArray, .int .i64 b.err], .agg (Att.c b), .tuple #[.agg (B b.dg).toArray, .int .i64 b.err], .agg (B b.dg).toArray, .int .i64 b.err, .int .i64 a.err, .bool true, .bool true, .int .i64 b.err, .bool true, .bool true, .bool true, pT ga 0, .int .i64 a.v, pT gb 0, .int .i64 b.v, .bool true, .bool true, .bool true, pT ga 2, .int .i64 a.t, pT gb 2, .int .i64 b.t, .bool false, .bool false, .bool false, ud, ud, ud, .bool false], []⟩ <| then_n <| u_ <| so_ (.bool false) ?_
          exact ⟨by unfold doub; simp [c0, c1, c2, c3], K55⟩
      · have e2 := c2
        refine ppq (.bool false) (eqf ((a.v) : Int) ((b.v) : Int) (by omega)) <| pkq (.bool false) <| pkq (.bool false) <| pnq <| pnq <| pnq <| pnq <| pnq <| pkq (.bool false) <| pkq (.bool false) <| pnq <| pnq <| pnq <| pkq (.bool false) ?_
        refine pkq (.bool false) <| ps_end <| sy_a ⟨#[.agg (Att.c a), .agg (Att.c b), pT ga 0, pT gb 0, .bool false, pT gx 0, .int .i64 a.err, pT gy 0, .int .i64 b.err, .tuple #[.agg (B a.dg).toArray, .int .i64 a.err], .agg (Att.c a), .tuple #[.agg (B a.dg).toArray, .int .i64 a.err], .agg (B a.dg).toArray, .int .i64 a.err, .tuple #[.agg (B b.dg).toArray, .int .i64 b.err], .agg (Att.c b), .tuple #[.agg (B b.dg).toArray, .int .i64 b.err], .agg (B b.dg).toArray, .int .i64 b.err, .int .i64 a.err, .bool true, .bool true, .int .i64 b.err, .bool true, .bool true, .bool true, pT ga 0, .int .i64 a.v, pT gb 0, .int .i64 b.v, .bool false, .bool false, .bool false, ud, ud, ud, ud, ud, .bool false, .bool false, ud, ud, ud, .bool false], []⟩ <| then_n <| u_ <| so_ (.bool false) ?_
        exact ⟨by unfold doub; simp [c0, c1, c2], K55⟩
    · have e1 := Att.err_no c1
      refine ppq (.bool false) (eqf ((b.err) : Int) ((0) : Int) (by omega)) <| pkq (.bool false) <| pkq (.bool false) <| pnq <| pnq <| pnq <| pnq <| pnq <| pkq (.bool false) <| pkq (.bool false) <| pnq <| pnq <| pnq <| pnq ?_
      refine pnq <| pkq (.bool false) <| pkq (.bool false) <| pnq <| pnq <| pnq <| pkq (.bool false) <| pkq (.bool false) <| ps_end <| sy_a ⟨#[.agg (Att.c a), .agg (Att.c b), pT ga 0, pT gb 0, .bool false, pT gx 0, .int .i64 a.err, pT gy 0, .int .i64 b.err, .tuple #[.agg (B a.dg).toArray, .int .i64 a.err], .agg (Att.c a), .tuple #[.agg (B a.dg).toArray, .int .i64 a.err], .agg (B a.dg).toArray, .int .i64 a.err, .tuple #[.agg (B b.dg).toArray, .int .i64 b.err], .agg (Att.c b), .tuple #[.agg (B b.dg).toArray, .int .i64 b.err], .agg (B b.dg).toArray, .int .i64 b.err, .int .i64 a.err, .bool true, .bool true, .int .i64 b.err, .bool false, .bool false, .bool false, ud, ud, ud, ud, ud, .bool false, .bool false, ud, ud, ud, ud, ud, .bool false, .bool false, ud, ud, ud, .bool false], []⟩ <| then_n <| u_ <| so_ (.bool false) ?_
      exact ⟨by unfold doub; simp [c0, c1], K55⟩
  · have e0 := Att.err_no c0
    refine ppq (.bool false) (eqf ((a.err) : Int) ((0) : Int) (by omega)) <| pkq (.bool false) <| pnq <| pnq <| pkq (.bool false) <| pkq (.bool false) <| pnq <| pnq <| pnq <| pnq <| pnq <| pkq (.bool false) <| pkq (.bool false) <| pnq ?_
    refine pnq <| pnq <| pnq <| pnq <| pkq (.bool false) <| pkq (.bool false) <| pnq <| pnq <| pnq <| pkq (.bool false) <| pkq (.bool false) <| ps_end <| sy_a ⟨#[.agg (Att.c a), .agg (Att.c b), pT ga 0, pT gb 0, .bool false, pT gx 0, .int .i64 a.err, pT gy 0, .int .i64 b.err, .tuple #[.agg (B a.dg).toArray, .int .i64 a.err], .agg (Att.c a), .tuple #[.agg (B a.dg).toArray, .int .i64 a.err], .agg (B a.dg).toArray, .int .i64 a.err, .tuple #[.agg (B b.dg).toArray, .int .i64 b.err], .agg (Att.c b), .tuple #[.agg (B b.dg).toArray, .int .i64 b.err], .agg (B b.dg).toArray, .int .i64 b.err, .int .i64 a.err, .bool false, .bool false, ud, ud, .bool false, .bool false, ud, ud, ud, ud, ud, .bool false, .bool false, ud, ud, ud, ud, ud, .bool false, .bool false, ud, ud, ud, .bool false], []⟩ <| then_n ?_
    refine u_ <| so_ (.bool false) ?_
    exact ⟨by unfold doub; simp [c0], K55⟩
theorem rvDigestBlock_any (a : Pro) (w : World) (ha : a.Ok) : Calls Tryz.prog 44 #[.agg (Pro.c a)] w fun e w' => e = .returned (.tuple #[.agg (B a.dg).toArray, .int .i64 a.err]) ∧ Keeps Nob w w' := by
  by_cases hf : a.fine
  · rw [Pro.err_ok hf, Pro.dg, if_pos hf]; exact rvDigestBlock_ok a w ha hf
  · rw [Pro.err_no hf, Pro.dg, if_neg hf]; exact rvDigestBlock_bad a w ha hf
noncomputable def qc90_0 (n : Nat) : Code := partOf Tryz.f47 n
theorem rvDoublesBlock_ok (a b : Pro) (w : World) (ha : a.Ok) (hb : b.Ok) :
    Calls Tryz.prog 47 #[.agg (Pro.c a), .agg (Pro.c b)] w (fun e w' => e = .returned (.bool (doubP a b)) ∧ Keeps Nob w w') := by
  have hr := ha.r
  have hs := hb.r
  have K0 : Keeps Nob w w := Keeps.refl _ _
  refine sy_enter (qc90_0 1) ⟨#[.agg (Pro.c a), .agg (Pro.c b), ud, ud, ud, ud, ud, ud, ud, ud, ud, ud, ud, ud, ud, ud, ud, ud, ud, ud, ud, ud, ud, ud, ud, ud, ud, ud, ud, ud, ud, ud, ud, ud, ud, ud, ud, ud, ud, ud, ud, ud, ud, ud], []⟩ Tryz.func47 (by kernel_rfl) (by kernel_rfl) <| qr_ [0, 1, 2] <| pbx 28 ((Pro.c a)) (.agg (Pro.c a)) fun V1 ga ega h2 kV1 => ?_
  have n3 : w.heap.size ≤ ga := ega ▸ K0.size
  have K4 := K0.nn kV1
  have z5 := kV1.size
  refine pbx 28 ((Pro.c b)) (.agg (Pro.c b)) fun V6 gb egb h7 kV6 => ?_
  have n8 : ga < gb := egb ▸ lt_of_block h2
  have n9 : w.heap.size ≤ gb := egb ▸ K4.size
  have h10 := kV6.bk h2
  have K11 := K4.nn kV6
  have z12 := kV6.size
  refine pkq (.bool false) <| eqr_ [0, 1, 2, 3, 4, 5, 6, 7] <| ppq (.agg (Pro.c a)) (ldr 28 ga (h10) (by rw [Pro.c_size _ hr]; kernel_rfl)) ?_
  refine pcq 44 #[.agg (Pro.c a)] Tryz.func44 ((rvDigestBlock_any a _ ha).mono ?_)
  rintro e V13 ⟨rfl, kV13⟩
  refine ⟨_, rfl, ?_⟩
  have h14 := kV13.bk h10
  have h15 := kV13.bk h7
  have K16 := K11.nn kV13
  have z17 := kV13.size
  refine pkq (.tuple #[.agg (B a.dg).toArray, .int .i64 a.err]) <| pkq (.agg (B a.dg).toArray) <| pkq (.int .i64 a.err) <| pal 23 (zr_u8_32) (.agg (zr_u8_32)) fun V18 gx egx h19 kV18 => ?_
  have n20 : ga < gx := egx ▸ lt_of_block h14
  have n21 : gb < gx := egx ▸ lt_of_block h15
  have n22 : w.heap.size ≤ gx := egx ▸ K16.size
  have h23 := kV18.bk h14
  have h24 := kV18.bk h15
  have K25 := K16.nn kV18
  have z26 := kV18.size
  refine pst 23 gx ((B a.dg).toArray) h19 (by rw [Bz_size, Pro.dg_len]; kernel_rfl) (by rw [Bz_size, Pro.dg_len]; rfl) (by rw [List.all_toArray]; exact List.all_eq_true.2 (B_one _)) fun V27 h28 kV27 => ?_
  have h29 := kV27.bO h23
  have h30 := kV27.bO h24
  have K31 := K25.nO kV27
  have z32 := kV27.size
  refine pkq (.int .i64 a.err) <| eqr_ [0, 1, 2, 3, 4, 5, 6, 7] <| ppq (.agg (Pro.c b)) (ldr 28 gb (h30) (by rw [Pro.c_size _ hs]; kernel_rfl)) ?_
  refine pcq 44 #[.agg (Pro.c b)] Tryz.func44 ((rvDigestBlock_any b _ hb).mono ?_)
  rintro e V33 ⟨rfl, kV33⟩
  refine ⟨_, rfl, ?_⟩
  have h34 := kV33.bk h29
  have h35 := kV33.bk h30
  have h36 := kV33.bk h28
  have K37 := K31.nn kV33
  have z38 := kV33.size
  refine pkq (.tuple #[.agg (B b.dg).toArray, .int .i64 b.err]) <| pkq (.agg (B b.dg).toArray) <| pkq (.int .i64 b.err) <| pal 23 (zr_u8_32) (.agg (zr_u8_32)) fun V39 gy egy h40 kV39 => ?_
  have n41 : ga < gy := egy ▸ lt_of_block h34
  have n42 : gb < gy := egy ▸ lt_of_block h35
  have n43 : gx < gy := egy ▸ lt_of_block h36
  have n44 : w.heap.size ≤ gy := egy ▸ K37.size
  have h45 := kV39.bk h34
  have h46 := kV39.bk h35
  have h47 := kV39.bk h36
  have K48 := K37.nn kV39
  have z49 := kV39.size
  refine pst 23 gy ((B b.dg).toArray) h40 (by rw [Bz_size, Pro.dg_len]; kernel_rfl) (by rw [Bz_size, Pro.dg_len]; rfl) (by rw [List.all_toArray]; exact List.all_eq_true.2 (B_one _)) fun V50 h51 kV50 => ?_
  have h52 := kV50.bO h45
  have h53 := kV50.bO h46
  have h54 := kV50.bO h47
  have K55 := K48.nO kV50
  have z56 := kV50.size
  refine pkq (.int .i64 b.err) <| eqr_ [0, 1, 2, 3, 4, 5, 6, 7, 8, 9, 10, 11, 12, 13, 14, 15, 16, 17, 18, 19, 20, 21, 22, 23, 24, 25] <| pkq (.int .i64 a.err) ?_
  by_cases c0 : a.fine
  · have e0 := Pro.err_ok c0
    refine ppq (.bool true) (eqt ((a.err) : Int) ((0) : Int) (by omega)) <| pkq (.bool true) <| pkq (.int .i64 b.err) ?_
    by_cases c1 : b.fine
    · have e1 := Pro.err_ok c1
      refine ppq (.bool true) (eqt ((b.err) : Int) ((0) : Int) (by omega)) <| pkq (.bool true) <| pkq (.bool true) <| pkq (pT ga 0) <| ppq (.int .i64 a.v) (ldc 3 ga 0 (rc (h52) (Pro.c_0 _))) <| pkq (pT gb 0) <| ppq (.int .i64 b.v) (ldc 3 gb 0 (rc (h53) (Pro.c_0 _))) ?_
      by_cases c2 : a.v = b.v
      · have e2 := c2
        refine ppq (.bool true) (eqt ((a.v) : Int) ((b.v) : Int) (by omega)) <| pkq (.bool true) <| pkq (.bool true) <| pkq (pT ga 1) <| ppq (.int .i64 a.h) (ldc 3 ga 1 (rc (h52) (Pro.c_1 _))) <| pkq (pT gb 1) <| ppq (.int .i64 b.h) (ldc 3 gb 1 (rc (h53) (Pro.c_1 _))) ?_
        by_cases c3 : a.h = b.h
        · have e3 := c3
          refine ppq (.bool true) (eqt ((a.h) : Int) ((b.h) : Int) (by omega)) <| pkq (.bool true) <| pkq (.bool true) <| ppq (.agg ((B a.dg).toArray)) (ldr 23 gx (h54) (by rw [Bz_size, (Pro.dg_len a)]; kernel_rfl)) <| ppq (.agg ((B b.dg).toArray)) (ldr 23 gy (h51) (by rw [Bz_size, (Pro.dg_len b)]; kernel_rfl)) <| ppq (.bool (!(a.dg == b.dg))) (exec_binop .neq 23 23 (.tmp 40) (.tmp 41) (by kernel_rfl) (.agg (B a.dg).toArray) (.agg (B b.dg).toArray) _ (by kernel_rfl) (by kernel_rfl) (run_eqGuard_agg _ _ _ _ _ _ _ hash_guard) (hash_ne _ _ (Pro.dg_len a) (Pro.dg_len b) _)) <| pkq (.bool (!(a.dg == b.dg))) <| pkq (.bool (!(a.dg == b.dg))) <| ps_end <| sy_a ⟨#[.agg (Pro.c a), .agg (Pro.c b), pT ga 0, pT gb 0, .bool (!(a.dg == b.dg)), pT gx 0, .int .i64 a.err, pT gy 0, .int .i64 b.err, .tuple #[.agg (B a.dg).toArray, .int .i64 a.err], .agg (Pro.c a), .tuple #[.agg (B a.dg).toArray, .int .i64 a.err], .agg (B a.dg).toArray, .int .i64 a.err, .tuple #[.agg (B b.dg).toArray, .int .i64 b.err], .agg (Pro.c b), .tuple #[.agg (B b.dg).toArray, .int .i64 b.err], .agg (B b.dg).toArray, .int .i64 b.err, .int .i64 a.err, .bool true, .bool true, .int .i64 b.err, .bool true, .bool true, .bool true, pT ga 0, .int .i64 a.v, pT gb 0, .int .i64 b.v, .bool true, .bool true, .bool true, pT ga 1, .int .i64 a.h, pT gb 1, .int .i64 b.h, .bool true, .bool true, .bool true, .agg ((B a.dg).toArray), .agg ((B b.dg).toArray), .bool (!(a.dg == b.dg)), .bool (!(a.dg == b.dg))], []⟩ <| then_n <| u_ <| so_ (.bool (!(a.dg == b.dg))) ?_
          exact ⟨by rw [ne_dec, Pro.dg, Pro.dg, if_pos c0, if_pos c1]; unfold doubP; simp [c0, c1, c2, c3], K55⟩
        · have e3 := c3
          refine ppq (.bool false) (eqf ((a.h) : Int) ((b.h) : Int) (by omega)) <| pkq (.bool false) <| pkq (.bool false) <| pnq <| pnq <| pnq <| pkq (.bool false) <| pkq (.bool false) <| ps_end <| sy_a ⟨#[.agg (Pro.c a), .agg (Pro.c b), pT ga 0, pT gb 0, .bool false, pT gx 0, .int .i64 a.err, pT gy 0, .int .i64 b.err, .tuple #[.agg (B a.dg).toArray, .int .i64 a.err], .agg (Pro.c a), .tuple #[.agg (B a.dg).toArray, .int .i64 a.err], .agg (B a.dg).toArray, .int .i64 a.err, .tuple #[.agg (B b.dg).toArray, .int .i64 b.err], .agg (Pro.c b), .tuple #[.agg (B b.dg).toArray, .int .i64 b.err], .agg (B b.dg).toArray, .int .i64 b.err, .int .i64 a.err, .bool true, .bool true, .int .i64 b.err, .bool true, .bool true, .bool true, pT ga 0, .int .i64 a.v, pT gb 0, .int .i64 b.v, .bool true, .bool true, .bool true, pT ga 1, .int .i64 a.h, pT gb 1, .int .i64 b.h, .bool false, .bool false, .bool false, ud, ud, ud, .bool false], []⟩ <| then_n <| u_ <| so_ (.bool false) ?_
          exact ⟨by unfold doubP; simp [c0, c1, c2, c3], K55⟩
      · have e2 := c2
        refine ppq (.bool false) (eqf ((a.v) : Int) ((b.v) : Int) (by omega)) <| pkq (.bool false) <| pkq (.bool false) <| pnq <| pnq <| pnq <| pnq <| pnq <| pkq (.bool false) <| pkq (.bool false) <| pnq <| pnq <| pnq <| pkq (.bool false) ?_
        refine pkq (.bool false) <| ps_end <| sy_a ⟨#[.agg (Pro.c a), .agg (Pro.c b), pT ga 0, pT gb 0, .bool false, pT gx 0, .int .i64 a.err, pT gy 0, .int .i64 b.err, .tuple #[.agg (B a.dg).toArray, .int .i64 a.err], .agg (Pro.c a), .tuple #[.agg (B a.dg).toArray, .int .i64 a.err], .agg (B a.dg).toArray, .int .i64 a.err, .tuple #[.agg (B b.dg).toArray, .int .i64 b.err], .agg (Pro.c b), .tuple #[.agg (B b.dg).toArray, .int .i64 b.err], .agg (B b.dg).toArray, .int .i64 b.err, .int .i64 a.err, .bool true, .bool true, .int .i64 b.err, .bool true, .bool true, .bool true, pT ga 0, .int .i64 a.v, pT gb 0, .int .i64 b.v, .bool false, .bool false, .bool false, ud, ud, ud, ud, ud, .bool false, .bool false, ud, ud, ud, .bool false], []⟩ <| then_n <| u_ <| so_ (.bool false) ?_
        exact ⟨by unfold doubP; simp [c0, c1, c2], K55⟩
    · have e1 := Pro.err_no c1
      refine ppq (.bool false) (eqf ((b.err) : Int) ((0) : Int) (by omega)) <| pkq (.bool false) <| pkq (.bool false) <| pnq <| pnq <| pnq <| pnq <| pnq <| pkq (.bool false) <| pkq (.bool false) <| pnq <| pnq <| pnq <| pnq ?_
      refine pnq <| pkq (.bool false) <| pkq (.bool false) <| pnq <| pnq <| pnq <| pkq (.bool false) <| pkq (.bool false) <| ps_end <| sy_a ⟨#[.agg (Pro.c a), .agg (Pro.c b), pT ga 0, pT gb 0, .bool false, pT gx 0, .int .i64 a.err, pT gy 0, .int .i64 b.err, .tuple #[.agg (B a.dg).toArray, .int .i64 a.err], .agg (Pro.c a), .tuple #[.agg (B a.dg).toArray, .int .i64 a.err], .agg (B a.dg).toArray, .int .i64 a.err, .tuple #[.agg (B b.dg).toArray, .int .i64 b.err], .agg (Pro.c b), .tuple #[.agg (B b.dg).toArray, .int .i64 b.err], .agg (B b.dg).toArray, .int .i64 b.err, .int .i64 a.err, .bool true, .bool true, .int .i64 b.err, .bool false, .bool false, .bool false, ud, ud, ud, ud, ud, .bool false, .bool false, ud, ud, ud, ud, ud, .bool false, .bool false, ud, ud, ud, .bool false], []⟩ <| then_n <| u_ <| so_ (.bool false) ?_
      exact ⟨by unfold doubP; simp [c0, c1], K55⟩
  · have e0 := Pro.err_no c0
    refine ppq (.bool false) (eqf ((a.err) : Int) ((0) : Int) (by omega)) <| pkq (.bool false) <| pnq <| pnq <| pkq (.bool false) <| pkq (.bool false) <| pnq <| pnq <| pnq <| pnq <| pnq <| pkq (.bool false) <| pkq (.bool false) <| pnq ?_
    refine pnq <| pnq <| pnq <| pnq <| pkq (.bool false) <| pkq (.bool false) <| pnq <| pnq <| pnq <| pkq (.bool false) <| pkq (.bool false) <| ps_end <| sy_a ⟨#[.agg (Pro.c a), .agg (Pro.c b), pT ga 0, pT gb 0, .bool false, pT gx 0, .int .i64 a.err, pT gy 0, .int .i64 b.err, .tuple #[.agg (B a.dg).toArray, .int .i64 a.err], .agg (Pro.c a), .tuple #[.agg (B a.dg).toArray, .int .i64 a.err], .agg (B a.dg).toArray, .int .i64 a.err, .tuple #[.agg (B b.dg).toArray, .int .i64 b.err], .agg (Pro.c b), .tuple #[.agg (B b.dg).toArray, .int .i64 b.err], .agg (B b.dg).toArray, .int .i64 b.err, .int .i64 a.err, .bool false, .bool false, ud, ud, .bool false, .bool false, ud, ud, ud, ud, ud, .bool false, .bool false, ud, ud, ud, ud, ud, .bool false, .bool false, ud, ud, ud, .bool false], []⟩ <| then_n ?_
    refine u_ <| so_ (.bool false) ?_
    exact ⟨by unfold doubP; simp [c0], K55⟩
end Go.Proofs.YtcbfnflnokoacaaGreat
namespace Go.Proofs.YtcbfnflnokoacaaGreat
set_option maxRecDepth 100000
set_option maxHeartbeats 4000000
open Go Go.RowKit Go.Own Go.Shelf
noncomputable def qc91_3 (n : Nat) : Code := partOf Tryz.f9 n
theorem reSeal_ok (a : Att) (w : World) (ha : a.Ok) :
    Calls Tryz.prog 9 #[.agg (Att.c a)] w (fun e w' => e = .returned (.tuple #[.agg (Sel.c a.sel), .int .i64 a.err]) ∧ Keeps Nob w w') := by
  have hr := ha.r
  have K0 : Keeps Nob w w := Keeps.refl _ _
  refine sy_enter (qc91_3 1) ⟨#[.agg (Att.c a), ud, ud, ud, ud, ud, ud, ud, ud, ud, ud, ud, ud, ud, ud, ud, ud, ud, ud, ud, ud], []⟩ Tryz.func9 (by kernel_rfl) (by kernel_rfl) <| qr_ [0, 1, 2] <| pbx 26 ((Att.c a)) (.agg (Att.c a)) fun V1 ga ega h2 kV1 => ?_
  have n3 : w.heap.size ≤ ga := ega ▸ K0.size
  have K4 := K0.nn kV1
  have z5 := kV1.size
  refine pal 30 ((Sel.c selZ)) (.agg ((Sel.c selZ))) fun V6 gs egs h7 kV6 => ?_
  have n8 : ga < gs := egs ▸ lt_of_block h2
  have n9 : w.heap.size ≤ gs := egs ▸ K4.size
  have h10 := kV6.bk h2
  have K11 := K4.nn kV6
  have z12 := kV6.size
  refine pkq (.int .i64 0) <| eqr_ [0, 1, 2, 3, 4, 5, 6, 7] <| ppq (.agg (Att.c a)) (ldr 26 ga (h10) (by rw [Att.c_size _ hr]; kernel_rfl)) ?_
  refine pcq 42 #[.agg (Att.c a)] Tryz.func42 ((rvDigest_any a _ ha).mono ?_)
  rintro e V13 ⟨rfl, kV13⟩
  refine ⟨_, rfl, ?_⟩
  have h14 := kV13.bk h10
  have h15 := kV13.bk h7
  have K16 := K11.nn kV13
  have z17 := kV13.size
  refine pkq (.tuple #[.agg (B a.dg).toArray, .int .i64 a.err]) <| pkq (.agg (B a.dg).toArray) <| pkq (.int .i64 a.err) <| pal 23 (zr_u8_32) (.agg (zr_u8_32)) fun V18 gx egx h19 kV18 => ?_
  have n20 : ga < gx := egx ▸ lt_of_block h14
  have n21 : gs < gx := egx ▸ lt_of_block h15
  have n22 : w.heap.size ≤ gx := egx ▸ K16.size
  have h23 := kV18.bk h14
  have h24 := kV18.bk h15
  have K25 := K16.nn kV18
  have z26 := kV18.size
  refine pst 23 gx ((B a.dg).toArray) h19 (by rw [Bz_size, Att.dg_len]; kernel_rfl) (by rw [Bz_size, Att.dg_len]; rfl) (by rw [List.all_toArray]; exact List.all_eq_true.2 (B_one _)) fun V27 h28 kV27 => ?_
  have h29 := kV27.bO h23
  have h30 := kV27.bO h24
  have K31 := K25.nO kV27
  have z32 := kV27.size
  refine pkq (.int .i64 a.err) <| eq_ <| qr_ [0, 1] ?_
  by_cases c0 : a.fine
  · have e0 := Att.err_ok c0
    refine pkq (.int .i64 a.err) <| ppq (.bool false) (nqf ((a.err) : Int) ((0) : Int) (by omega)) <| en_ <| s_ <| tqr_ [0, 1, 2, 3, 4, 5, 6, 7] <| pkq (pT ga 0) <| ppq (.int .i64 a.v) (ldc 3 ga 0 (rc (h29) (Att.c_0 _))) <| ppq (.agg ((B a.dg).toArray)) (ldr 23 gx (h28) (by rw [Bz_size, (Att.dg_len a)]; kernel_rfl)) <| pkq (pT ga 35) <| ppq (uN a.g) (ldc 24 ga 35 (rc (h29) (Att.c_tag _ hr))) <| ppq (.agg (Sel.c ⟨a.v, a.dg, a.g⟩)) (exec_build_fill 30 #[(0, .tmp 16), (1, .tmp 17), (2, .tmp 19)] (by kernel_rfl) [(0, .int .i64 a.v), (1, .agg ((B a.dg).toArray)), (2, uN a.g)] (by kernel_rfl) _ Tryz.underlying30 (.agg selZ.c) (fun _ => by kernel_rfl) #[(0, 1), (1, 32), (33, 1)] (fun _ => by kernel_rfl) _ (fill_sel a.v a.dg a.g a.dg_len)) <| pst 30 gs ((Sel.c ⟨a.v, a.dg, a.g⟩)) h30 (by rw [Sel.c_size _ (show (⟨a.v, a.dg, a.g⟩ : Sel).r.length = 32 from a.dg_len)]; kernel_rfl) (by rw [Sel.c_size _ (show (⟨a.v, a.dg, a.g⟩ : Sel).r.length = 32 from a.dg_len)]; rfl) (Sel.c_one _) fun V33 h34 kV33 => ?_
    have K37 := K31.nO kV33
    have z38 := kV33.size
    refine pkq (.int .i64 0) <| eu_ <| sy_out (.tuple #[.agg (Sel.c ⟨a.v, a.dg, a.g⟩), .int .i64 0]) rfl (results_row_tmp (p := 2) (q := 3) (ty := 30) (by kernel_rfl) _ _ gs 30 (Sel.c ⟨a.v, a.dg, a.g⟩) (0, 0) _ (.int .i64 0) (by kernel_rfl) h34 Tryz.underlying30 rfl (by rw [Sel.c_size _ (show (⟨a.v, a.dg, a.g⟩ : Sel).r.length = 32 from a.dg_len)]; kernel_rfl) (by kernel_rfl)) ?_
    exact ⟨by simp only [Att.sel_ok c0, e0], K37⟩
  · have e0 := Att.err_no c0
    refine pkq (.int .i64 a.err) <| ppq (.bool true) (nqt ((a.err) : Int) ((0) : Int) (by omega)) <| ey_ <| qr_ [0, 1, 2, 3] <| pkq (.agg (Sel.c selZ)) <| pkq (.int .i64 a.err) <| pst 30 gs ((Sel.c selZ)) h30 (by rw [Sel.c_size _ selZ_r]; kernel_rfl) rfl (Sel.c_one _) fun V39 h40 kV39 => ?_
    have K43 := K31.nO kV39
    have z44 := kV39.size
    refine pkq (.int .i64 a.err) <| eu_ <| then_r <| sy_out (.tuple #[.agg (Sel.c selZ), .int .i64 a.err]) rfl (results_row_tmp (p := 2) (q := 3) (ty := 30) (by kernel_rfl) _ _ gs 30 (Sel.c selZ) (0, 0) _ (.int .i64 a.err) (by kernel_rfl) h40 Tryz.underlying30 rfl (by rw [Sel.c_size _ selZ_r]; kernel_rfl) (by kernel_rfl)) ?_
    exact ⟨by simp only [Att.sel_no c0], K43⟩
noncomputable def qc91_1 (n : Nat) : Code := partOf Tryz.f11 n
theorem reSealBlock_ok (a : Pro) (w : World) (ha : a.Ok) :
    Calls Tryz.prog 11 #[.agg (Pro.c a)] w (fun e w' => e = .returned (.tuple #[.agg (Sel.c a.sel), .int .i64 a.err]) ∧ Keeps Nob w w') := by
  have hr := ha.r
  have K0 : Keeps Nob w w := Keeps.refl _ _
  refine sy_enter (qc91_1 1) ⟨#[.agg (Pro.c a), ud, ud, ud, ud, ud, ud, ud, ud, ud, ud, ud, ud, ud, ud, ud, ud, ud, ud, ud, ud], []⟩ Tryz.func11 (by kernel_rfl) (by kernel_rfl) <| qr_ [0, 1, 2] <| pbx 28 ((Pro.c a)) (.agg (Pro.c a)) fun V1 ga ega h2 kV1 => ?_
  have n3 : w.heap.size ≤ ga := ega ▸ K0.size
  have K4 := K0.nn kV1
  have z5 := kV1.size
  refine pal 30 ((Sel.c selZ)) (.agg ((Sel.c selZ))) fun V6 gs egs h7 kV6 => ?_
  have n8 : ga < gs := egs ▸ lt_of_block h2
  have n9 : w.heap.size ≤ gs := egs ▸ K4.size
  have h10 := kV6.bk h2
  have K11 := K4.nn kV6
  have z12 := kV6.size
  refine pkq (.int .i64 0) <| eqr_ [0, 1, 2, 3, 4, 5, 6, 7] <| ppq (.agg (Pro.c a)) (ldr 28 ga (h10) (by rw [Pro.c_size _ hr]; kernel_rfl)) ?_
  refine pcq 44 #[.agg (Pro.c a)] Tryz.func44 ((rvDigestBlock_any a _ ha).mono ?_)
  rintro e V13 ⟨rfl, kV13⟩
  refine ⟨_, rfl, ?_⟩
  have h14 := kV13.bk h10
  have h15 := kV13.bk h7
  have K16 := K11.nn kV13
  have z17 := kV13.size
  refine pkq (.tuple #[.agg (B a.dg).toArray, .int .i64 a.err]) <| pkq (.agg (B a.dg).toArray) <| pkq (.int .i64 a.err) <| pal 23 (zr_u8_32) (.agg (zr_u8_32)) fun V18 gx egx h19 kV18 => ?_
  have n20 : ga < gx := egx ▸ lt_of_block h14
  have n21 : gs < gx := egx ▸ lt_of_block h15
  have n22 : w.heap.size ≤ gx := egx ▸ K16.size
  have h23 := kV18.bk h14
  have h24 := kV18.bk h15
  have K25 := K16.nn kV18
  have z26 := kV18.size
  refine pst 23 gx ((B a.dg).toArray) h19 (by rw [Bz_size, Pro.dg_len]; kernel_rfl) (by rw [Bz_size, Pro.dg_len]; rfl) (by rw [List.all_toArray]; exact List.all_eq_true.2 (B_one _)) fun V27 h28 kV27 => ?_
  have h29 := kV27.bO h23
  have h30 := kV27.bO h24
  have K31 := K25.nO kV27
  have z32 := kV27.size
  refine pkq (.int .i64 a.err) <| eq_ <| qr_ [0, 1] ?_
  by_cases c0 : a.fine
  · have e0 := Pro.err_ok c0
    refine pkq (.int .i64 a.err) <| ppq (.bool false) (nqf ((a.err) : Int) ((0) : Int) (by omega)) <| en_ <| s_ <| tqr_ [0, 1, 2, 3, 4, 5, 6, 7] <| pkq (pT ga 0) <| ppq (.int .i64 a.v) (ldc 3 ga 0 (rc (h29) (Pro.c_0 _))) <| ppq (.agg ((B a.dg).toArray)) (ldr 23 gx (h28) (by rw [Bz_size, (Pro.dg_len a)]; kernel_rfl)) <| pkq (pT ga 34) <| ppq (uN a.g) (ldc 24 ga 34 (rc (h29) (Pro.c_tag _ hr))) <| ppq (.agg (Sel.c ⟨a.v, a.dg, a.g⟩)) (exec_build_fill 30 #[(0, .tmp 16), (1, .tmp 17), (2, .tmp 19)] (by kernel_rfl) [(0, .int .i64 a.v), (1, .agg ((B a.dg).toArray)), (2, uN a.g)] (by kernel_rfl) _ Tryz.underlying30 (.agg selZ.c) (fun _ => by kernel_rfl) #[(0, 1), (1, 32), (33, 1)] (fun _ => by kernel_rfl) _ (fill_sel a.v a.dg a.g a.dg_len)) <| pst 30 gs ((Sel.c ⟨a.v, a.dg, a.g⟩)) h30 (by rw [Sel.c_size _ (show (⟨a.v, a.dg, a.g⟩ : Sel).r.length = 32 from a.dg_len)]; kernel_rfl) (by rw [Sel.c_size _ (show (⟨a.v, a.dg, a.g⟩ : Sel).r.length = 32 from a.dg_len)]; rfl) (Sel.c_one _) fun V33 h34 kV33 => ?_
    have K37 := K31.nO kV33
    have z38 := kV33.size
    refine pkq (.int .i64 0) <| eu_ <| sy_out (.tuple #[.agg (Sel.c ⟨a.v, a.dg, a.g⟩), .int .i64 0]) rfl (results_row_tmp (p := 2) (q := 3) (ty := 30) (by kernel_rfl) _ _ gs 30 (Sel.c ⟨a.v, a.dg, a.g⟩) (0, 0) _ (.int .i64 0) (by kernel_rfl) h34 Tryz.underlying30 rfl (by rw [Sel.c_size _ (show (⟨a.v, a.dg, a.g⟩ : Sel).r.length = 32 from a.dg_len)]; kernel_rfl) (by kernel_rfl)) ?_
    exact ⟨by simp only [Pro.sel_ok c0, e0], K37⟩
  · have e0 := Pro.err_no c0
    refine pkq (.int .i64 a.err) <| ppq (.bool true) (nqt ((a.err) : Int) ((0) : Int) (by omega)) <| ey_ <| qr_ [0, 1, 2, 3] <| pkq (.agg (Sel.c selZ)) <| pkq (.int .i64 a.err) <| pst 30 gs ((Sel.c selZ)) h30 (by rw [Sel.c_size _ selZ_r]; kernel_rfl) rfl (Sel.c_one _) fun V39 h40 kV39 => ?_
    have K43 := K31.nO kV39
    have z44 := kV39.size
    refine pkq (.int .i64 a.err) <| eu_ <| then_r <| sy_out (.tuple #[.agg (Sel.c selZ), .int .i64 a.err]) rfl (results_row_tmp (p := 2) (q := 3) (ty := 30) (by kernel_rfl) _ _ gs 30 (Sel.c selZ) (0, 0) _ (.int .i64 a.err) (by kernel_rfl) h40 Tryz.underlying30 rfl (by rw [Sel.c_size _ selZ_r]; kernel_rfl) (by kernel_rfl)) ?_
    exact ⟨by simp only [Pro.sel_no c0], K43⟩
end Go.Proofs.YtcbfnflnokoacaaGreat
namespace Go.Proofs.YtcbfnflnokoacaaGreat
set_option maxRecDepth 100000
set_option maxHeartbeats 4000000
open Go Go.RowKit Go.Own Go.Shelf
theorem evi_0 {m : Msg} (h : m.evi = 0) : m.chk = 0 ∧ m.k = 8 := by
  unfold Msg.evi at h
  by_cases h1 : m.chk = 0
  · rw [if_pos h1] at h
    by_cases h2 : m.k = 8
    · exact ⟨h1, h2⟩
    · rw [if_neg h2] at h; omega
  · rw [if_neg h1] at h; exact absurd h h1
theorem pf_of {m : Msg} (h : m.chk = 0) (hk : m.k = 8) : m.pf = 1 ∨ m.pf = 2 ∨ m.pf = 3 := by
  unfold Msg.chk at h
  by_cases hf : m.form
  · have := hf.2 hk; omega
  · rw [if_neg hf] at h; omega
end Go.Proofs.YtcbfnflnokoacaaGreat
namespace Go.Proofs.YtcbfnflnokoacaaGreat
set_option maxRecDepth 100000
set_option maxHeartbeats 4000000
open Go Go.RowKit Go.Own Go.Shelf
theorem erow_empty {w : World} {g size : Nat} {T : TypeId} (h : w.heap[g]? = some (.cells #[] T (0, 0))) (_ : (#[] : Array Value).size = 0) (_ : 0 ≤ maxLen) : Row w T size (.slice (some ⟨g, 0, none⟩) 0 0) 0 [] :=
  ⟨by simp, .inr ⟨g, 0, #[], rfl, Nat.zero_le _, h, Nat.le_refl _, Nat.zero_le _, by simp, by simp⟩⟩
noncomputable def qc93_0 (n : Nat) : Code := partOf Tryz.f17 n
noncomputable abbrev qo93_0 (n k : Nat) : Oper := (opsAt (qc93_0 n)).getD k default
theorem kCopySeals_ok (v : Value) (l : List Sel) (w : World) (hl : SelsAt w v l) (hlr : ∀ z ∈ l, z.r.length = 32) (hlen : l.length ≤ 100) :
    Calls Tryz.prog 17 #[v] w (fun e w' => ∃ g cap, e = .returned (.slice (some ⟨g, 0, none⟩) l.length cap) ∧ Row w' 30 34 (.slice (some ⟨g, 0, none⟩) l.length cap) l.length (l.flatMap Sel.cl) ∧ w.heap.size ≤ g ∧ Keeps Nob w w') := by
  obtain ⟨i2, hi2, hs0, hs1, hs2⟩ := info_parts sel_info0
  have K0 : Keeps Nob w w := Keeps.refl _ _
  refine sy_enter (qc93_0 1) ⟨#[v, ud, ud, ud, ud, ud], []⟩ Tryz.func17 (by kernel_rfl) (by kernel_rfl) <| qr_ [0] <| pkq (.slice none 0 0) <| eqr_ [0, 1, 2, 3] ?_
  obtain ⟨V1, eV1, g0, eg0, h2, kV1⟩ := alloc_step w #[] 30
  have n3 : w.heap.size ≤ g0 := eg0 ▸ K0.size
  refine prq (.slice (some ⟨g0, 0, none⟩) 0 0) (w' := V1) (by rw [← eV1, ← eg0]; kernel_rfl) ?_
  have h4 : SelsAt V1 v l := hl.keepsN kV1
  have K5 := K0.nn kV1
  have z6 := kV1.size
  refine pkq (v) ?_
  have h7 : Row V1 30 34 (.slice (some ⟨g0, 0, none⟩) 0 0) 0 [] := erow_empty h2 rfl (by decide)
  have hw8 : NewFrom w.heap.size (.slice (some ⟨g0, 0, none⟩) 0 0) := NewFrom.ptr (by omega) _ _
  obtain ⟨lv, V9, hr10, h11, hg12, hn13, ha14⟩ := run_append_any (P := Tryz.prog) (w := V1) 46 (Oper.type (qo93_0 6 2)) 30 i2 (.agg selZ.c) 34 48 Tryz.underlying46 hi2 hs0 hs1 hs2 rfl (by decide) (.slice (some ⟨g0, 0, none⟩) 0 0) 0 [] h7 v l.length (l.flatMap Sel.cl) (Sl.src h4 (fun z hz => Sel.cl_len (hlr z hz)) (by decide) (fun z _ => Sel.cl_one z)) (by unfold maxLen; omega) (by omega)
  have kV9 : Keeps (fun j => (.slice (some ⟨g0, 0, none⟩) 0 0 : Value).ownBlock = some j) V1 V9 := Keeps.rowAdd hg12
  have hw15 : NewFrom w.heap.size lv := hw8.next K5.size ha14
  refine prq lv (w' := V9) (exec_append (.tmp 3) (.tmp 4) 46 (by kernel_rfl) (.slice (some ⟨g0, 0, none⟩) 0 0) v (by kernel_rfl) (by kernel_rfl) hr10) ?_
  have h16 : Row V9 30 34 lv l.length (l.flatMap Sel.cl) := (by rw [Nat.zero_add, List.nil_append] at h11; exact h11)
  have hnn : lv ≠ .slice none 0 0 := fun e => by cases (hn13.1 e).1
  have K18 : Keeps Nob w V9 := K5.then kV9 (fun i hi hm => absurd hi (by have := hw8 i hm; omega))
  have z19 := kV9.size
  refine pkq (lv) <| eu_ <| so_ (lv) ?_
  exact Exists.elim (Row.slice h16 hnn) fun cg ⟨cc, e⟩ => by subst e; exact ⟨cg, cc, rfl, h16, hw15 cg rfl, K18⟩
end Go.Proofs.YtcbfnflnokoacaaGreat
namespace Go.Proofs.YtcbfnflnokoacaaGreat
set_option maxRecDepth 100000
set_option maxHeartbeats 4000000
open Go Go.RowKit Go.Own Go.Shelf
end Go.Proofs.YtcbfnflnokoacaaGreat
namespace Go.Proofs.YtcbfnflnokoacaaGreat
set_option maxRecDepth 100000
set_option maxHeartbeats 4000000
open Go Go.RowKit Go.Own Go.Shelf
/-- The bytes of a thing. -/
def itB (m : Msg) : MIt → List UInt8
  | .n x lo _ => Cod.enc (x.get m - min lo 0).toNat | .a x => Cod.enc (x.get m) | .h x => x.get m | .k x => Cod.enc x.toNat
def Msg.by (m : Msg) : List UInt8 := Cod.enc m.k.toNat ++ m.items.flatMap (itB m)
theorem Msg.Ok.am' {m : Msg} (h : m.Ok) : Am m := by
  intro x; cases x
  · exact h.am
  · exact h.mn
  · exact h.a.g
  · exact h.b.g
  · exact h.p.g
  · exact h.q.g
end Go.Proofs.YtcbfnflnokoacaaGreat
namespace Go.Proofs.YtcbfnflnokoacaaGreat
set_option maxRecDepth 100000
set_option maxHeartbeats 4000000
open Go Go.RowKit Go.Own Go.Shelf
abbrev inB (n lo hi : Int) : Bool := decide (lo ≤ n ∧ n ≤ hi)
def stampB (m : Msg) : Bool := inB m.sv 0 31 && inB m.ss 1 4294967296 && inB m.sp (-1) 31 && inB m.sf 0 4294967296
def votesB (m : Msg) : Bool := if m.k = 6 then decide m.a.fine else if m.k = 7 then decide m.p.fine else if m.pf = 3 then decide m.p.fine && decide m.q.fine else decide m.a.fine && decide m.b.fine
theorem att_errB (a : Att) : (a.err == 0) = decide a.fine := by unfold Att.err; split <;> simp [*]
theorem pro_errB (a : Pro) : (a.err == 0) = decide a.fine := by unfold Pro.err; split <;> simp [*]
noncomputable def qc96_2 (n : Nat) : Code := partOf Tryz.f107 n
theorem rmwithin_a (n lo hi : Int) (w : World) (h : ¬ lo ≤ n) :
    Calls Tryz.prog 107 #[.int .i64 n, .int .i64 lo, .int .i64 hi] w (fun e w' => e = .returned (.bool false) ∧ w = w') := by
  have K0 : Keeps Nob w w := Keeps.refl _ _
  refine sy_enter (qc96_2 1) ⟨#[.int .i64 n, .int .i64 lo, .int .i64 hi, ud, ud, ud, ud, ud, ud, ud, ud, ud, ud, ud, ud], []⟩ Tryz.func107 (by kernel_rfl) (by kernel_rfl) <| qr_ [0] <| pkq (.bool false) <| eqr_ [0, 1, 2, 3, 4, 5, 6, 7, 8] <| pkq (.int .i64 n) <| pkq (.int .i64 lo) <| ppq (.bool false) (dcf (((n) : Int) ≥ ((lo) : Int)) (by omega)) <| pkq (.bool false) <| pnq <| pnq <| pnq <| pkq (.bool false) <| pkq (.bool false) <| eu_ ?_
  refine so_ (.bool false) ?_
  exact ⟨rfl, rfl⟩
theorem rmwithin_b (n lo hi : Int) (w : World) (h : lo ≤ n) (h2 : ¬ n ≤ hi) :
    Calls Tryz.prog 107 #[.int .i64 n, .int .i64 lo, .int .i64 hi] w (fun e w' => e = .returned (.bool false) ∧ w = w') := by
  have K0 : Keeps Nob w w := Keeps.refl _ _
  refine sy_enter (qc96_2 1) ⟨#[.int .i64 n, .int .i64 lo, .int .i64 hi, ud, ud, ud, ud, ud, ud, ud, ud, ud, ud, ud, ud], []⟩ Tryz.func107 (by kernel_rfl) (by kernel_rfl) <| qr_ [0] <| pkq (.bool false) <| eqr_ [0, 1, 2, 3, 4, 5, 6, 7, 8] <| pkq (.int .i64 n) <| pkq (.int .i64 lo) <| ppq (.bool true) (dct (((n) : Int) ≥ ((lo) : Int)) (by omega)) <| pkq (.bool true) <| pkq (.int .i64 n) <| pkq (.int .i64 hi) <| ppq (.bool false) (dcf (((n) : Int) ≤ ((hi) : Int)) (by omega)) <| pkq (.bool false) <| pkq (.bool false) <| eu_ ?_
  refine so_ (.bool false) ?_
  exact ⟨rfl, rfl⟩
theorem rmwithin_c (n lo hi : Int) (w : World) (h : lo ≤ n) (h2 : n ≤ hi) :
    Calls Tryz.prog 107 #[.int .i64 n, .int .i64 lo, .int .i64 hi] w (fun e w' => e = .returned (.bool true) ∧ w = w') := by
  have K0 : Keeps Nob w w := Keeps.refl _ _
  refine sy_enter (qc96_2 1) ⟨#[.int .i64 n, .int .i64 lo, .int .i64 hi, ud, ud, ud, ud, ud, ud, ud, ud, ud, ud, ud, ud], []⟩ Tryz.func107 (by kernel_rfl) (by kernel_rfl) <| qr_ [0] <| pkq (.bool false) <| eqr_ [0, 1, 2, 3, 4, 5, 6, 7, 8] <| pkq (.int .i64 n) <| pkq (.int .i64 lo) <| ppq (.bool true) (dct (((n) : Int) ≥ ((lo) : Int)) (by omega)) <| pkq (.bool true) <| pkq (.int .i64 n) <| pkq (.int .i64 hi) <| ppq (.bool true) (dct (((n) : Int) ≤ ((hi) : Int)) (by omega)) <| pkq (.bool true) <| pkq (.bool true) <| eu_ ?_
  refine so_ (.bool true) ?_
  exact ⟨rfl, rfl⟩
theorem rmwithin_ok (n lo hi : Int) (w : World) : Calls Tryz.prog 107 #[.int .i64 n, .int .i64 lo, .int .i64 hi] w (fun e w' => e = .returned (.bool (inB n lo hi)) ∧ w = w') := by
  by_cases h : lo ≤ n
  · by_cases h2 : n ≤ hi
    · rw [inB, decide_eq_true ⟨h, h2⟩]; exact rmwithin_c n lo hi w h h2
    · rw [inB, decide_eq_false (fun x => h2 x.2)]; exact rmwithin_b n lo hi w h h2
  · rw [inB, decide_eq_false (fun x => h x.1)]; exact rmwithin_a n lo hi w h
theorem rmwithin_is {b : Bool} (n lo hi : Int) (w : World) (h : inB n lo hi = b) : Calls Tryz.prog 107 #[.int .i64 n, .int .i64 lo, .int .i64 hi] w (fun e w' => e = .returned (.bool b) ∧ w = w') := h ▸ rmwithin_ok n lo hi w
noncomputable def qc96_1 (n : Nat) : Code := partOf Tryz.f139 n
theorem rmaccount_ok (n : Int) (w : World) :
    Calls Tryz.prog 139 #[.int .i64 n] w (fun e w' => e = .returned (.bool (inB n 0 63)) ∧ w = w') := by
  have K0 : Keeps Nob w w := Keeps.refl _ _
  refine sy_enter (qc96_1 1) ⟨#[.int .i64 n, ud, ud, ud, ud], []⟩ Tryz.func139 (by kernel_rfl) (by kernel_rfl) <| qr_ [0] <| pkq (.bool false) <| eqr_ [0, 1, 2] <| pkq (.int .i64 n) ?_
  refine pcq 107 #[.int .i64 n, .int .i64 0, .int .i64 63] Tryz.func107 ((rmwithin_ok n 0 63 _).mono ?_)
  rintro e w1 ⟨rfl, rfl⟩
  refine ⟨_, rfl, ?_⟩
  refine pkq (.bool (inB n 0 63)) <| eu_ <| so_ (.bool (inB n 0 63)) ?_
  exact ⟨rfl, rfl⟩
theorem rmaccount_is {b : Bool} (n : Int) (w : World) (h : inB n 0 63 = b) : Calls Tryz.prog 139 #[.int .i64 n] w (fun e w' => e = .returned (.bool b) ∧ w = w') := h ▸ rmaccount_ok n w
noncomputable def qc96_0 (n : Nat) : Code := partOf Tryz.f140 n
theorem rmvalidator_ok (n : Int) (w : World) :
    Calls Tryz.prog 140 #[.int .i64 n] w (fun e w' => e = .returned (.bool (inB n 0 31)) ∧ w = w') := by
  have K0 : Keeps Nob w w := Keeps.refl _ _
  refine sy_enter (qc96_0 1) ⟨#[.int .i64 n, ud, ud, ud, ud], []⟩ Tryz.func140 (by kernel_rfl) (by kernel_rfl) <| qr_ [0] <| pkq (.bool false) <| eqr_ [0, 1, 2] <| pkq (.int .i64 n) ?_
  refine pcq 107 #[.int .i64 n, .int .i64 0, .int .i64 31] Tryz.func107 ((rmwithin_ok n 0 31 _).mono ?_)
  rintro e w1 ⟨rfl, rfl⟩
  refine ⟨_, rfl, ?_⟩
  refine pkq (.bool (inB n 0 31)) <| eu_ <| so_ (.bool (inB n 0 31)) ?_
  exact ⟨rfl, rfl⟩
theorem rmvalidator_is {b : Bool} (n : Int) (w : World) (h : inB n 0 31 = b) : Calls Tryz.prog 140 #[.int .i64 n] w (fun e w' => e = .returned (.bool b) ∧ w = w') := h ▸ rmvalidator_ok n w
noncomputable def qc96_3 (n : Nat) : Code := partOf Tryz.f141 n
theorem rmstamp_0 (m : Msg) (w : World) (c0 : inB m.sv 0 31 = false) :
    Calls Tryz.prog 141 #[.agg #[.int .i64 m.sv, .int .i64 m.ss, .int .i64 m.sp, .int .i64 m.sf]] w (fun e w' => e = .returned (.bool false) ∧ Keeps Nob w w') := by
  have K0 : Keeps Nob w w := Keeps.refl _ _
  refine sy_enter (qc96_3 1) ⟨#[.agg #[.int .i64 m.sv, .int .i64 m.ss, .int .i64 m.sp, .int .i64 m.sf], ud, ud, ud, ud, ud, ud, ud, ud, ud, ud, ud, ud, ud, ud, ud, ud, ud, ud, ud, ud], []⟩ Tryz.func141 (by kernel_rfl) (by kernel_rfl) <| qr_ [0, 1] <| pbx 36 (#[.int .i64 m.sv, .int .i64 m.ss, .int .i64 m.sp, .int .i64 m.sf]) (.agg #[.int .i64 m.sv, .int .i64 m.ss, .int .i64 m.sp, .int .i64 m.sf]) fun V1 gs egs h2 kV1 => ?_
  have n3 : w.heap.size ≤ gs := egs ▸ K0.size
  have K4 := K0.nn kV1
  refine pkq (.bool false) <| eqr_ [0, 1, 2, 3, 4, 5, 6, 7, 8, 9, 10, 11, 12, 13, 14, 15, 16, 17, 18] <| pkq (pT gs 0) <| ppq (.int .i64 m.sv) (ldk 3 gs 0 h2) ?_
  refine pcq 140 #[.int .i64 m.sv] Tryz.func140 ((rmvalidator_is m.sv _ c0).mono ?_)
  rintro e w1 ⟨rfl, rfl⟩
  refine ⟨_, rfl, ?_⟩
  refine pkq (.bool false) <| pnq <| pnq <| pnq <| pkq (.bool false) <| pkq (.bool false) <| pnq <| pnq <| pnq <| pkq (.bool false) <| pkq (.bool false) <| pnq <| pnq <| pnq ?_
  refine pkq (.bool false) <| pkq (.bool false) <| eu_ <| so_ (.bool false) ?_
  exact ⟨rfl, K4⟩
theorem rmstamp_1 (m : Msg) (w : World) (c0 : inB m.sv 0 31 = true) (c1 : inB m.ss 1 4294967296 = false) :
    Calls Tryz.prog 141 #[.agg #[.int .i64 m.sv, .int .i64 m.ss, .int .i64 m.sp, .int .i64 m.sf]] w (fun e w' => e = .returned (.bool false) ∧ Keeps Nob w w') := by
  have K0 : Keeps Nob w w := Keeps.refl _ _
  refine sy_enter (qc96_3 1) ⟨#[.agg #[.int .i64 m.sv, .int .i64 m.ss, .int .i64 m.sp, .int .i64 m.sf], ud, ud, ud, ud, ud, ud, ud, ud, ud, ud, ud, ud, ud, ud, ud, ud, ud, ud, ud, ud], []⟩ Tryz.func141 (by kernel_rfl) (by kernel_rfl) <| qr_ [0, 1] <| pbx 36 (#[.int .i64 m.sv, .int .i64 m.ss, .int .i64 m.sp, .int .i64 m.sf]) (.agg #[.int .i64 m.sv, .int .i64 m.ss, .int .i64 m.sp, .int .i64 m.sf]) fun V1 gs egs h2 kV1 => ?_
  have n3 : w.heap.size ≤ gs := egs ▸ K0.size
  have K4 := K0.nn kV1
  refine pkq (.bool false) <| eqr_ [0, 1, 2, 3, 4, 5, 6, 7, 8, 9, 10, 11, 12, 13, 14, 15, 16, 17, 18] <| pkq (pT gs 0) <| ppq (.int .i64 m.sv) (ldk 3 gs 0 h2) ?_
  refine pcq 140 #[.int .i64 m.sv] Tryz.func140 ((rmvalidator_is m.sv _ c0).mono ?_)
  rintro e w1 ⟨rfl, rfl⟩
  refine ⟨_, rfl, ?_⟩
  refine pkq (.bool true) <| pkq (pT gs 1) <| ppq (.int .i64 m.ss) (ldk 3 gs 1 h2) ?_
  refine pcq 107 #[.int .i64 m.ss, .int .i64 1, .int .i64 4294967296] Tryz.func107 ((rmwithin_is m.ss 1 4294967296 _ c1).mono ?_)
  rintro e w1 ⟨rfl, rfl⟩
  refine ⟨_, rfl, ?_⟩
  refine pkq (.bool false) <| pkq (.bool false) <| pnq <| pnq <| pnq <| pkq (.bool false) <| pkq (.bool false) <| pnq <| pnq <| pnq <| pkq (.bool false) <| pkq (.bool false) <| eu_ <| so_ (.bool false) ?_
  exact ⟨rfl, K4⟩
theorem rmstamp_2 (m : Msg) (w : World) (c0 : inB m.sv 0 31 = true) (c1 : inB m.ss 1 4294967296 = true) (c2 : inB m.sp (-1) 31 = false) :
    Calls Tryz.prog 141 #[.agg #[.int .i64 m.sv, .int .i64 m.ss, .int .i64 m.sp, .int .i64 m.sf]] w (fun e w' => e = .returned (.bool false) ∧ Keeps Nob w w') := by
  have K0 : Keeps Nob w w := Keeps.refl _ _
  refine sy_enter (qc96_3 1) ⟨#[.agg #[.int .i64 m.sv, .int .i64 m.ss, .int .i64 m.sp, .int .i64 m.sf], ud, ud, ud, ud, ud, ud, ud, ud, ud, ud, ud, ud, ud, ud, ud, ud, ud, ud, ud, ud], []⟩ Tryz.func141 (by kernel_rfl) (by kernel_rfl) <| qr_ [0, 1] <| pbx 36 (#[.int .i64 m.sv, .int .i64 m.ss, .int .i64 m.sp, .int .i64 m.sf]) (.agg #[.int .i64 m.sv, .int .i64 m.ss, .int .i64 m.sp, .int .i64 m.sf]) fun V1 gs egs h2 kV1 => ?_
  have n3 : w.heap.size ≤ gs := egs ▸ K0.size
  have K4 := K0.nn kV1
  refine pkq (.bool false) <| eqr_ [0, 1, 2, 3, 4, 5, 6, 7, 8, 9, 10, 11, 12, 13, 14, 15, 16, 17, 18] <| pkq (pT gs 0) <| ppq (.int .i64 m.sv) (ldk 3 gs 0 h2) ?_
  refine pcq 140 #[.int .i64 m.sv] Tryz.func140 ((rmvalidator_is m.sv _ c0).mono ?_)
  rintro e w1 ⟨rfl, rfl⟩
  refine ⟨_, rfl, ?_⟩
  refine pkq (.bool true) <| pkq (pT gs 1) <| ppq (.int .i64 m.ss) (ldk 3 gs 1 h2) ?_
  refine pcq 107 #[.int .i64 m.ss, .int .i64 1, .int .i64 4294967296] Tryz.func107 ((rmwithin_is m.ss 1 4294967296 _ c1).mono ?_)
  rintro e w1 ⟨rfl, rfl⟩
  refine ⟨_, rfl, ?_⟩
  refine pkq (.bool true) <| pkq (.bool true) <| pkq (pT gs 2) <| ppq (.int .i64 m.sp) (ldk 3 gs 2 h2) ?_
  refine pcq 107 #[.int .i64 m.sp, .int .i64 (-1), .int .i64 31] Tryz.func107 ((rmwithin_is m.sp (-1) 31 _ c2).mono ?_)
  rintro e w1 ⟨rfl, rfl⟩
  refine ⟨_, rfl, ?_⟩
  refine pkq (.bool false) <| pkq (.bool false) <| pnq <| pnq <| pnq <| pkq (.bool false) <| pkq (.bool false) <| eu_ <| so_ (.bool false) ?_
  exact ⟨rfl, K4⟩
theorem rmstamp_3 (m : Msg) (w : World) (c0 : inB m.sv 0 31 = true) (c1 : inB m.ss 1 4294967296 = true) (c2 : inB m.sp (-1) 31 = true) :
    Calls Tryz.prog 141 #[.agg #[.int .i64 m.sv, .int .i64 m.ss, .int .i64 m.sp, .int .i64 m.sf]] w (fun e w' => e = .returned (.bool (inB m.sf 0 4294967296)) ∧ Keeps Nob w w') := by
  have K0 : Keeps Nob w w := Keeps.refl _ _
  refine sy_enter (qc96_3 1) ⟨#[.agg #[.int .i64 m.sv, .int .i64 m.ss, .int .i64 m.sp, .int .i64 m.sf], ud, ud, ud, ud, ud, ud, ud, ud, ud, ud, ud, ud, ud, ud, ud, ud, ud, ud, ud, ud], []⟩ Tryz.func141 (by kernel_rfl) (by kernel_rfl) <| qr_ [0, 1] <| pbx 36 (#[.int .i64 m.sv, .int .i64 m.ss, .int .i64 m.sp, .int .i64 m.sf]) (.agg #[.int .i64 m.sv, .int .i64 m.ss, .int .i64 m.sp, .int .i64 m.sf]) fun V1 gs egs h2 kV1 => ?_
  have n3 : w.heap.size ≤ gs := egs ▸ K0.size
  have K4 := K0.nn kV1
  refine pkq (.bool false) <| eqr_ [0, 1, 2, 3, 4, 5, 6, 7, 8, 9, 10, 11, 12, 13, 14, 15, 16, 17, 18] <| pkq (pT gs 0) <| ppq (.int .i64 m.sv) (ldk 3 gs 0 h2) ?_
  refine pcq 140 #[.int .i64 m.sv] Tryz.func140 ((rmvalidator_is m.sv _ c0).mono ?_)
  rintro e w1 ⟨rfl, rfl⟩
  refine ⟨_, rfl, ?_⟩
  refine pkq (.bool true) <| pkq (pT gs 1) <| ppq (.int .i64 m.ss) (ldk 3 gs 1 h2) ?_
  refine pcq 107 #[.int .i64 m.ss, .int .i64 1, .int .i64 4294967296] Tryz.func107 ((rmwithin_is m.ss 1 4294967296 _ c1).mono ?_)
  rintro e w1 ⟨rfl, rfl⟩
  refine ⟨_, rfl, ?_⟩
  refine pkq (.bool true) <| pkq (.bool true) <| pkq (pT gs 2) <| ppq (.int .i64 m.sp) (ldk 3 gs 2 h2) ?_
  refine pcq 107 #[.int .i64 m.sp, .int .i64 (-1), .int .i64 31] Tryz.func107 ((rmwithin_is m.sp (-1) 31 _ c2).mono ?_)
  rintro e w1 ⟨rfl, rfl⟩
  refine ⟨_, rfl, ?_⟩
  refine pkq (.bool true) <| pkq (.bool true) <| pkq (pT gs 3) <| ppq (.int .i64 m.sf) (ldk 3 gs 3 h2) ?_
  refine pcq 107 #[.int .i64 m.sf, .int .i64 0, .int .i64 4294967296] Tryz.func107 ((rmwithin_ok m.sf 0 4294967296 _).mono ?_)
  rintro e w1 ⟨rfl, rfl⟩
  refine ⟨_, rfl, ?_⟩
  refine pkq (.bool (inB m.sf 0 4294967296)) <| pkq (.bool (inB m.sf 0 4294967296)) <| eu_ <| so_ (.bool (inB m.sf 0 4294967296)) ?_
  exact ⟨rfl, K4⟩
theorem rmstamp_ok (m : Msg) (w : World) : Calls Tryz.prog 141 #[.agg #[.int .i64 m.sv, .int .i64 m.ss, .int .i64 m.sp, .int .i64 m.sf]] w (fun e w' => e = .returned (.bool (stampB m)) ∧ Keeps Nob w w') := by
  unfold stampB
  cases h0 : inB m.sv 0 31 with
  | false => exact rmstamp_0 m w h0
  | true =>
    cases h1 : inB m.ss 1 4294967296 with
    | false => exact rmstamp_1 m w h0 h1
    | true =>
      cases h2 : inB m.sp (-1) 31 with
      | false => exact rmstamp_2 m w h0 h1 h2
      | true => exact rmstamp_3 m w h0 h1 h2
theorem rmstamp_is {b : Bool} (m : Msg) (w : World) (h : stampB m = b) : Calls Tryz.prog 141 #[.agg (Msg.st m)] w (fun e w' => e = .returned (.bool b) ∧ Keeps Nob w w') := h ▸ rmstamp_ok m w
noncomputable def qc96_4 (n : Nat) : Code := partOf Tryz.f142 n
theorem rmvotes_6 (m : Msg) (w : World) (hr : m.R) (h6 : m.k = 6) :
    Calls Tryz.prog 142 #[.agg (Msg.c m)] w (fun e w' => e = .returned (.bool (decide m.a.fine)) ∧ Keeps Nob w w') := by
  have K0 : Keeps Nob w w := Keeps.refl _ _
  refine sy_enter (qc96_4 1) ⟨#[.agg (Msg.c m), ud, ud, ud, ud, ud, ud, ud, ud, ud, ud, ud, ud, ud, ud, ud, ud, ud, ud, ud, ud, ud, ud, ud, ud, ud, ud, ud, ud, ud, ud, ud, ud, ud, ud, ud, ud, ud, ud, ud, ud, ud, ud], []⟩ Tryz.func142 (by kernel_rfl) (by kernel_rfl) <| qr_ [0, 1] <| pbx 38 ((Msg.c m)) (.agg (Msg.c m)) fun V1 gm egm h2 kV1 => ?_
  have n3 : w.heap.size ≤ gm := egm ▸ K0.size
  have K4 := K0.nn kV1
  refine pkq (.bool false) <| eq_ <| b_ 0 <| qr_ [0, 1, 2, 3] <| pkq (pT gm 0) <| ppq (.int .i64 m.k) (ldc 3 gm 0 (rc (h2) (Msg.get_n hr NF.k))) <| ppq (.bool true) (eqt ((m.k) : Int) ((6) : Int) (by omega)) <| pkq (.bool true) <| ey_ <| qr_ [0, 1, 2, 3, 4] <| pkq (pT gm 12) <| ppq (.agg (Att.c m.a)) (exec_load_seg 26 (.tmp 7) (by kernel_rfl) gm 12 (by kernel_rfl) (Att.c m.a).toList _ _ _ h2 (Msg.seg_A hr) Tryz.underlying26 rfl (by rw [Att.tl hr.a]; kernel_rfl)) ?_
  refine pcq 77 #[.agg (Att.c m.a)] Tryz.func77 ((rvCheck_ok m.a _ hr.a).mono ?_)
  rintro e V5 ⟨rfl, kV5⟩
  refine ⟨_, rfl, ?_⟩
  have h6 := kV5.bk h2
  have K7 := K4.nn kV5
  refine pkq (.bool ((((m.a.err) : Int) == ((0) : Int)))) <| pkq (.bool ((((m.a.err) : Int) == ((0) : Int)))) <| eu_ <| blk_r <| then_r <| so_ (.bool ((((m.a.err) : Int) == ((0) : Int)))) ?_
  exact ⟨congrArg (fun b => Ending.returned (Value.bool b)) (att_errB m.a), K7⟩
theorem rmvotes_7 (m : Msg) (w : World) (hr : m.R) (h7 : m.k = 7) :
    Calls Tryz.prog 142 #[.agg (Msg.c m)] w (fun e w' => e = .returned (.bool (decide m.p.fine)) ∧ Keeps Nob w w') := by
  have K0 : Keeps Nob w w := Keeps.refl _ _
  refine sy_enter (qc96_4 1) ⟨#[.agg (Msg.c m), ud, ud, ud, ud, ud, ud, ud, ud, ud, ud, ud, ud, ud, ud, ud, ud, ud, ud, ud, ud, ud, ud, ud, ud, ud, ud, ud, ud, ud, ud, ud, ud, ud, ud, ud, ud, ud, ud, ud, ud, ud, ud], []⟩ Tryz.func142 (by kernel_rfl) (by kernel_rfl) <| qr_ [0, 1] <| pbx 38 ((Msg.c m)) (.agg (Msg.c m)) fun V1 gm egm h2 kV1 => ?_
  have n3 : w.heap.size ≤ gm := egm ▸ K0.size
  have K4 := K0.nn kV1
  refine pkq (.bool false) <| eq_ <| b_ 0 <| qr_ [0, 1, 2, 3] <| pkq (pT gm 0) <| ppq (.int .i64 m.k) (ldc 3 gm 0 (rc (h2) (Msg.get_n hr NF.k))) <| ppq (.bool false) (eqf ((m.k) : Int) ((6) : Int) (by omega)) <| pkq (.bool false) <| en_ <| qr_ [0, 1, 2, 3] <| pkq (pT gm 0) <| ppq (.int .i64 m.k) (ldc 3 gm 0 (rc (h2) (Msg.get_n hr NF.k))) <| ppq (.bool true) (eqt ((m.k) : Int) ((7) : Int) (by omega)) <| pkq (.bool true) ?_
  refine ey_ <| qr_ [0, 1, 2, 3, 4] <| pkq (pT gm 84) <| ppq (.agg (Pro.c m.p)) (exec_load_seg 28 (.tmp 15) (by kernel_rfl) gm 84 (by kernel_rfl) (Pro.c m.p).toList _ _ _ h2 (Msg.seg_P hr) Tryz.underlying28 rfl (by rw [Pro.tl hr.p]; kernel_rfl)) ?_
  refine pcq 80 #[.agg (Pro.c m.p)] Tryz.func80 ((rvCheckBlock_ok m.p _ hr.p).mono ?_)
  rintro e V5 ⟨rfl, kV5⟩
  refine ⟨_, rfl, ?_⟩
  have K7 := K4.nn kV5
  refine pkq (.bool ((((m.p.err) : Int) == ((0) : Int)))) <| pkq (.bool ((((m.p.err) : Int) == ((0) : Int)))) <| eu_ <| blk_r <| then_r <| so_ (.bool ((((m.p.err) : Int) == ((0) : Int)))) ?_
  exact ⟨congrArg (fun b => Ending.returned (Value.bool b)) (pro_errB m.p), K7⟩
theorem rmvotes_8pn (m : Msg) (w : World) (hr : m.R) (h8 : m.k = 8) (hp : m.pf = 3) (hx1 : ¬ m.p.fine) :
    Calls Tryz.prog 142 #[.agg (Msg.c m)] w (fun e w' => e = .returned (.bool (false)) ∧ Keeps Nob w w') := by
  have K0 : Keeps Nob w w := Keeps.refl _ _
  refine sy_enter (qc96_4 1) ⟨#[.agg (Msg.c m), ud, ud, ud, ud, ud, ud, ud, ud, ud, ud, ud, ud, ud, ud, ud, ud, ud, ud, ud, ud, ud, ud, ud, ud, ud, ud, ud, ud, ud, ud, ud, ud, ud, ud, ud, ud, ud, ud, ud, ud, ud, ud], []⟩ Tryz.func142 (by kernel_rfl) (by kernel_rfl) <| qr_ [0, 1] <| pbx 38 ((Msg.c m)) (.agg (Msg.c m)) fun V1 gm egm h2 kV1 => ?_
  have n3 : w.heap.size ≤ gm := egm ▸ K0.size
  have K4 := K0.nn kV1
  refine pkq (.bool false) <| eq_ <| b_ 0 <| qr_ [0, 1, 2, 3] <| pkq (pT gm 0) <| ppq (.int .i64 m.k) (ldc 3 gm 0 (rc (h2) (Msg.get_n hr NF.k))) <| ppq (.bool false) (eqf ((m.k) : Int) ((6) : Int) (by omega)) <| pkq (.bool false) <| en_ <| qr_ [0, 1, 2, 3] <| pkq (pT gm 0) <| ppq (.int .i64 m.k) (ldc 3 gm 0 (rc (h2) (Msg.get_n hr NF.k))) <| ppq (.bool false) (eqf ((m.k) : Int) ((7) : Int) (by omega)) <| pkq (.bool false) ?_
  refine en_ <| qr_ [0, 1, 2, 3] <| pkq (pT gm 11) <| ppq (.int .i64 m.pf) (ldc 3 gm 11 (rc (h2) (Msg.get_n hr NF.pf))) <| ppq (.bool true) (eqt ((m.pf) : Int) ((3) : Int) (by omega)) <| pkq (.bool true) <| ey_ <| qr_ [0, 1, 2, 3, 4, 5, 6, 7, 8, 9, 10] <| pkq (pT gm 84) <| ppq (.agg (Pro.c m.p)) (exec_load_seg 28 (.tmp 23) (by kernel_rfl) gm 84 (by kernel_rfl) (Pro.c m.p).toList _ _ _ h2 (Msg.seg_P hr) Tryz.underlying28 rfl (by rw [Pro.tl hr.p]; kernel_rfl)) ?_
  refine pcq 80 #[.agg (Pro.c m.p)] Tryz.func80 ((rvCheckBlock_ok m.p _ hr.p).mono ?_)
  rintro e V5 ⟨rfl, kV5⟩
  refine ⟨_, rfl, ?_⟩
  have K7 := K4.nn kV5
  refine ppq (.bool false) (exec_cast (congrArg Value.bool (show ((((m.p.err) : Int) == ((0) : Int))) = false from (pro_errB m.p).trans (decide_eq_false hx1))) (by kernel_rfl)) <| pkq (.bool false) <| pnq <| pnq <| pnq <| pnq <| pkq (.bool false) <| pkq (.bool false) <| ps_end <| sy_a ⟨#[.agg (Msg.c m), pT gm 0, .bool false, .bool false, pT gm 0, .int .i64 m.k, .bool false, ud, ud, ud, ud, .bool false, pT gm 0, .int .i64 m.k, .bool false, ud, ud, ud, ud, .bool true, pT gm 11, .int .i64 m.pf, .bool true, pT gm 84, .agg (Pro.c m.p), .int .i64 m.p.err, .bool false, .bool false, ud, ud, ud, ud, .bool false, ud, ud, ud, ud, ud, ud, ud, ud, ud, ud], []⟩ <| then_n <| u_ <| blk_r <| then_r ?_
  refine so_ (.bool false) ?_
  exact ⟨rfl, K7⟩
theorem rmvotes_8py (m : Msg) (w : World) (hr : m.R) (h8 : m.k = 8) (hp : m.pf = 3) (hx1 : m.p.fine) :
    Calls Tryz.prog 142 #[.agg (Msg.c m)] w (fun e w' => e = .returned (.bool (decide m.q.fine)) ∧ Keeps Nob w w') := by
  have K0 : Keeps Nob w w := Keeps.refl _ _
  refine sy_enter (qc96_4 1) ⟨#[.agg (Msg.c m), ud, ud, ud, ud, ud, ud, ud, ud, ud, ud, ud, ud, ud, ud, ud, ud, ud, ud, ud, ud, ud, ud, ud, ud, ud, ud, ud, ud, ud, ud, ud, ud, ud, ud, ud, ud, ud, ud, ud, ud, ud, ud], []⟩ Tryz.func142 (by kernel_rfl) (by kernel_rfl) <| qr_ [0, 1] <| pbx 38 ((Msg.c m)) (.agg (Msg.c m)) fun V1 gm egm h2 kV1 => ?_
  have n3 : w.heap.size ≤ gm := egm ▸ K0.size
  have K4 := K0.nn kV1
  refine pkq (.bool false) <| eq_ <| b_ 0 <| qr_ [0, 1, 2, 3] <| pkq (pT gm 0) <| ppq (.int .i64 m.k) (ldc 3 gm 0 (rc (h2) (Msg.get_n hr NF.k))) <| ppq (.bool false) (eqf ((m.k) : Int) ((6) : Int) (by omega)) <| pkq (.bool false) <| en_ <| qr_ [0, 1, 2, 3] <| pkq (pT gm 0) <| ppq (.int .i64 m.k) (ldc 3 gm 0 (rc (h2) (Msg.get_n hr NF.k))) <| ppq (.bool false) (eqf ((m.k) : Int) ((7) : Int) (by omega)) <| pkq (.bool false) ?_
  refine en_ <| qr_ [0, 1, 2, 3] <| pkq (pT gm 11) <| ppq (.int .i64 m.pf) (ldc 3 gm 11 (rc (h2) (Msg.get_n hr NF.pf))) <| ppq (.bool true) (eqt ((m.pf) : Int) ((3) : Int) (by omega)) <| pkq (.bool true) <| ey_ <| qr_ [0, 1, 2, 3, 4, 5, 6, 7, 8, 9, 10] <| pkq (pT gm 84) <| ppq (.agg (Pro.c m.p)) (exec_load_seg 28 (.tmp 23) (by kernel_rfl) gm 84 (by kernel_rfl) (Pro.c m.p).toList _ _ _ h2 (Msg.seg_P hr) Tryz.underlying28 rfl (by rw [Pro.tl hr.p]; kernel_rfl)) ?_
  refine pcq 80 #[.agg (Pro.c m.p)] Tryz.func80 ((rvCheckBlock_ok m.p _ hr.p).mono ?_)
  rintro e V5 ⟨rfl, kV5⟩
  refine ⟨_, rfl, ?_⟩
  have h6 := kV5.bk h2
  have K7 := K4.nn kV5
  refine ppq (.bool true) (exec_cast (congrArg Value.bool (show ((((m.p.err) : Int) == ((0) : Int))) = true from (pro_errB m.p).trans (decide_eq_true hx1))) (by kernel_rfl)) <| pkq (.bool true) <| pkq (pT gm 119) <| ppq (.agg (Pro.c m.q)) (exec_load_seg 28 (.tmp 28) (by kernel_rfl) gm 119 (by kernel_rfl) (Pro.c m.q).toList _ _ _ h6 (Msg.seg_Q hr) Tryz.underlying28 rfl (by rw [Pro.tl hr.q]; kernel_rfl)) ?_
  refine pcq 80 #[.agg (Pro.c m.q)] Tryz.func80 ((rvCheckBlock_ok m.q _ hr.q).mono ?_)
  rintro e V8 ⟨rfl, kV8⟩
  refine ⟨_, rfl, ?_⟩
  have K10 := K7.nn kV8
  refine pkq (.bool ((((m.q.err) : Int) == ((0) : Int)))) <| pkq (.bool ((((m.q.err) : Int) == ((0) : Int)))) <| pkq (.bool ((((m.q.err) : Int) == ((0) : Int)))) <| ps_end <| sy_a ⟨#[.agg (Msg.c m), pT gm 0, .bool ((((m.q.err) : Int) == ((0) : Int))), .bool false, pT gm 0, .int .i64 m.k, .bool false, ud, ud, ud, ud, .bool false, pT gm 0, .int .i64 m.k, .bool false, ud, ud, ud, ud, .bool true, pT gm 11, .int .i64 m.pf, .bool true, pT gm 84, .agg (Pro.c m.p), .int .i64 m.p.err, .bool true, .bool true, pT gm 119, .agg (Pro.c m.q), .int .i64 m.q.err, .bool ((((m.q.err) : Int) == ((0) : Int))), .bool ((((m.q.err) : Int) == ((0) : Int))), ud, ud, ud, ud, ud, ud, ud, ud, ud, ud], []⟩ <| then_n <| u_ <| blk_r <| then_r <| so_ (.bool ((((m.q.err) : Int) == ((0) : Int)))) ?_
  exact ⟨congrArg (fun b => Ending.returned (Value.bool b)) (pro_errB m.q), K10⟩
theorem rmvotes_8an (m : Msg) (w : World) (hr : m.R) (h8 : m.k = 8) (hp : ¬ m.pf = 3) (hx1 : ¬ m.a.fine) :
    Calls Tryz.prog 142 #[.agg (Msg.c m)] w (fun e w' => e = .returned (.bool (false)) ∧ Keeps Nob w w') := by
  have K0 : Keeps Nob w w := Keeps.refl _ _
  refine sy_enter (qc96_4 1) ⟨#[.agg (Msg.c m), ud, ud, ud, ud, ud, ud, ud, ud, ud, ud, ud, ud, ud, ud, ud, ud, ud, ud, ud, ud, ud, ud, ud, ud, ud, ud, ud, ud, ud, ud, ud, ud, ud, ud, ud, ud, ud, ud, ud, ud, ud, ud], []⟩ Tryz.func142 (by kernel_rfl) (by kernel_rfl) <| qr_ [0, 1] <| pbx 38 ((Msg.c m)) (.agg (Msg.c m)) fun V1 gm egm h2 kV1 => ?_
  have n3 : w.heap.size ≤ gm := egm ▸ K0.size
  have K4 := K0.nn kV1
  refine pkq (.bool false) <| eq_ <| b_ 0 <| qr_ [0, 1, 2, 3] <| pkq (pT gm 0) <| ppq (.int .i64 m.k) (ldc 3 gm 0 (rc (h2) (Msg.get_n hr NF.k))) <| ppq (.bool false) (eqf ((m.k) : Int) ((6) : Int) (by omega)) <| pkq (.bool false) <| en_ <| qr_ [0, 1, 2, 3] <| pkq (pT gm 0) <| ppq (.int .i64 m.k) (ldc 3 gm 0 (rc (h2) (Msg.get_n hr NF.k))) <| ppq (.bool false) (eqf ((m.k) : Int) ((7) : Int) (by omega)) <| pkq (.bool false) ?_
  refine en_ <| qr_ [0, 1, 2, 3] <| pkq (pT gm 11) <| ppq (.int .i64 m.pf) (ldc 3 gm 11 (rc (h2) (Msg.get_n hr NF.pf))) <| ppq (.bool false) (eqf ((m.pf) : Int) ((3) : Int) (by omega)) <| pkq (.bool false) <| en_ <| s_ <| blk_n <| tqr_ [0, 1, 2, 3, 4, 5, 6, 7, 8, 9, 10] <| pkq (pT gm 12) <| ppq (.agg (Att.c m.a)) (exec_load_seg 26 (.tmp 33) (by kernel_rfl) gm 12 (by kernel_rfl) (Att.c m.a).toList _ _ _ h2 (Msg.seg_A hr) Tryz.underlying26 rfl (by rw [Att.tl hr.a]; kernel_rfl)) ?_
  refine pcq 77 #[.agg (Att.c m.a)] Tryz.func77 ((rvCheck_ok m.a _ hr.a).mono ?_)
  rintro e V5 ⟨rfl, kV5⟩
  refine ⟨_, rfl, ?_⟩
  have K7 := K4.nn kV5
  refine ppq (.bool false) (exec_cast (congrArg Value.bool (show ((((m.a.err) : Int) == ((0) : Int))) = false from (att_errB m.a).trans (decide_eq_false hx1))) (by kernel_rfl)) <| pkq (.bool false) <| pnq <| pnq <| pnq <| pnq <| pkq (.bool false) <| pkq (.bool false) <| ps_end <| sy_a ⟨#[.agg (Msg.c m), pT gm 0, .bool false, .bool false, pT gm 0, .int .i64 m.k, .bool false, ud, ud, ud, ud, .bool false, pT gm 0, .int .i64 m.k, .bool false, ud, ud, ud, ud, .bool false, pT gm 11, .int .i64 m.pf, .bool false, ud, ud, ud, ud, ud, ud, ud, ud, ud, ud, pT gm 12, .agg (Att.c m.a), .int .i64 m.a.err, .bool false, .bool false, ud, ud, ud, ud, .bool false], []⟩ <| then_n <| u_ <| so_ (.bool false) ?_
  exact ⟨rfl, K7⟩
theorem rmvotes_8ay (m : Msg) (w : World) (hr : m.R) (h8 : m.k = 8) (hp : ¬ m.pf = 3) (hx1 : m.a.fine) :
    Calls Tryz.prog 142 #[.agg (Msg.c m)] w (fun e w' => e = .returned (.bool (decide m.b.fine)) ∧ Keeps Nob w w') := by
  have K0 : Keeps Nob w w := Keeps.refl _ _
  refine sy_enter (qc96_4 1) ⟨#[.agg (Msg.c m), ud, ud, ud, ud, ud, ud, ud, ud, ud, ud, ud, ud, ud, ud, ud, ud, ud, ud, ud, ud, ud, ud, ud, ud, ud, ud, ud, ud, ud, ud, ud, ud, ud, ud, ud, ud, ud, ud, ud, ud, ud, ud], []⟩ Tryz.func142 (by kernel_rfl) (by kernel_rfl) <| qr_ [0, 1] <| pbx 38 ((Msg.c m)) (.agg (Msg.c m)) fun V1 gm egm h2 kV1 => ?_
  have n3 : w.heap.size ≤ gm := egm ▸ K0.size
  have K4 := K0.nn kV1
  refine pkq (.bool false) <| eq_ <| b_ 0 <| qr_ [0, 1, 2, 3] <| pkq (pT gm 0) <| ppq (.int .i64 m.k) (ldc 3 gm 0 (rc (h2) (Msg.get_n hr NF.k))) <| ppq (.bool false) (eqf ((m.k) : Int) ((6) : Int) (by omega)) <| pkq (.bool false) <| en_ <| qr_ [0, 1, 2, 3] <| pkq (pT gm 0) <| ppq (.int .i64 m.k) (ldc 3 gm 0 (rc (h2) (Msg.get_n hr NF.k))) <| ppq (.bool false) (eqf ((m.k) : Int) ((7) : Int) (by omega)) <| pkq (.bool false) ?_
  refine en_ <| qr_ [0, 1, 2, 3] <| pkq (pT gm 11) <| ppq (.int .i64 m.pf) (ldc 3 gm 11 (rc (h2) (Msg.get_n hr NF.pf))) <| ppq (.bool false) (eqf ((m.pf) : Int) ((3) : Int) (by omega)) <| pkq (.bool false) <| en_ <| s_ <| blk_n <| tqr_ [0, 1, 2, 3, 4, 5, 6, 7, 8, 9, 10] <| pkq (pT gm 12) <| ppq (.agg (Att.c m.a)) (exec_load_seg 26 (.tmp 33) (by kernel_rfl) gm 12 (by kernel_rfl) (Att.c m.a).toList _ _ _ h2 (Msg.seg_A hr) Tryz.underlying26 rfl (by rw [Att.tl hr.a]; kernel_rfl)) ?_
  refine pcq 77 #[.agg (Att.c m.a)] Tryz.func77 ((rvCheck_ok m.a _ hr.a).mono ?_)
  rintro e V5 ⟨rfl, kV5⟩
  refine ⟨_, rfl, ?_⟩
  have h6 := kV5.bk h2
  have K7 := K4.nn kV5
  refine ppq (.bool true) (exec_cast (congrArg Value.bool (show ((((m.a.err) : Int) == ((0) : Int))) = true from (att_errB m.a).trans (decide_eq_true hx1))) (by kernel_rfl)) <| pkq (.bool true) <| pkq (pT gm 48) <| ppq (.agg (Att.c m.b)) (exec_load_seg 26 (.tmp 38) (by kernel_rfl) gm 48 (by kernel_rfl) (Att.c m.b).toList _ _ _ h6 (Msg.seg_B hr) Tryz.underlying26 rfl (by rw [Att.tl hr.b]; kernel_rfl)) ?_
  refine pcq 77 #[.agg (Att.c m.b)] Tryz.func77 ((rvCheck_ok m.b _ hr.b).mono ?_)
  rintro e V8 ⟨rfl, kV8⟩
  refine ⟨_, rfl, ?_⟩
  have K10 := K7.nn kV8
  refine pkq (.bool ((((m.b.err) : Int) == ((0) : Int)))) <| pkq (.bool ((((m.b.err) : Int) == ((0) : Int)))) <| pkq (.bool ((((m.b.err) : Int) == ((0) : Int)))) <| ps_end <| sy_a ⟨#[.agg (Msg.c m), pT gm 0, .bool ((((m.b.err) : Int) == ((0) : Int))), .bool false, pT gm 0, .int .i64 m.k, .bool false, ud, ud, ud, ud, .bool false, pT gm 0, .int .i64 m.k, .bool false, ud, ud, ud, ud, .bool false, pT gm 11, .int .i64 m.pf, .bool false, ud, ud, ud, ud, ud, ud, ud, ud, ud, ud, pT gm 12, .agg (Att.c m.a), .int .i64 m.a.err, .bool true, .bool true, pT gm 48, .agg (Att.c m.b), .int .i64 m.b.err, .bool ((((m.b.err) : Int) == ((0) : Int))), .bool ((((m.b.err) : Int) == ((0) : Int)))], []⟩ <| then_n <| u_ <| so_ (.bool ((((m.b.err) : Int) == ((0) : Int)))) ?_
  exact ⟨congrArg (fun b => Ending.returned (Value.bool b)) (att_errB m.b), K10⟩
theorem rmvotes_ok (m : Msg) (w : World) (hr : m.R) (hk : m.k = 6 ∨ m.k = 7 ∨ m.k = 8) : Calls Tryz.prog 142 #[.agg (Msg.c m)] w (fun e w' => e = .returned (.bool (votesB m)) ∧ Keeps Nob w w') := by
  unfold votesB
  rcases hk with h | h | h
  · rw [if_pos h]; exact rmvotes_6 m w hr h
  · rw [if_neg (by omega), if_pos h]; exact rmvotes_7 m w hr h
  · rw [if_neg (by omega), if_neg (by omega)]
    by_cases hp : m.pf = 3
    · rw [if_pos hp]
      by_cases h1 : m.p.fine
      · rw [decide_eq_true h1, Bool.true_and]; exact rmvotes_8py m w hr h hp h1
      · rw [decide_eq_false h1, Bool.false_and]; exact rmvotes_8pn m w hr h hp h1
    · rw [if_neg hp]
      by_cases h1 : m.a.fine
      · rw [decide_eq_true h1, Bool.true_and]; exact rmvotes_8ay m w hr h hp h1
      · rw [decide_eq_false h1, Bool.false_and]; exact rmvotes_8an m w hr h hp h1
noncomputable def qc96_5 (n : Nat) : Code := partOf Tryz.f108 n
theorem rmfine_no (m : Msg) (w : World) (hr : m.R) (hk : ¬ m.k = 11) (hf : inB m.f 0 63 = false) :
    Calls Tryz.prog 108 #[.agg (Msg.c m)] w (fun e w' => e = .returned (.bool false) ∧ Keeps Nob w w') := by
  have K0 : Keeps Nob w w := Keeps.refl _ _
  refine sy_enter (qc96_5 1) ⟨#[.agg (Msg.c m), ud, ud, ud, ud, ud, ud, ud, ud, ud, ud, ud, ud, ud, ud, ud, ud, ud, ud, ud, ud, ud, ud, ud, ud, ud, ud, ud, ud, ud, ud, ud, ud, ud, ud, ud, ud, ud, ud, ud, ud, ud, ud, ud, ud, ud, ud], []⟩ Tryz.func108 (by kernel_rfl) (by kernel_rfl) <| qr_ [0, 1] <| pbx 38 ((Msg.c m)) (.agg (Msg.c m)) fun V1 gm egm h2 kV1 => ?_
  have n3 : w.heap.size ≤ gm := egm ▸ K0.size
  have K4 := K0.nn kV1
  refine pkq (.bool false) <| eq_ <| qr_ [0, 1, 2] <| pkq (pT gm 0) <| ppq (.int .i64 m.k) (ldc 3 gm 0 (rc (h2) (Msg.get_n hr NF.k))) <| ppq (.bool false) (eqf ((m.k) : Int) ((11) : Int) (by omega)) <| en_ <| s_ <| tq_ <| qr_ [0, 1, 2, 3] <| pkq (pT gm 1) <| ppq (.int .i64 m.f) (ldc 3 gm 1 (rc (h2) (Msg.get_n hr NF.f))) ?_
  refine pcq 139 #[.int .i64 m.f] Tryz.func139 ((rmaccount_is m.f _ hf).mono ?_)
  rintro e w1 ⟨rfl, rfl⟩
  refine ⟨_, rfl, ?_⟩
  refine pkq (.bool true) <| ey_ <| qr_ [0] <| pkq (.bool false) <| eu_ <| then_r <| so_ (.bool false) ?_
  exact ⟨rfl, K4⟩
theorem rmfine_1 (m : Msg) (w : World) (hr : m.R) (hk : m.k = 1) (hf : inB m.f 0 63 = true) :
    Calls Tryz.prog 108 #[.agg (Msg.c m)] w (fun e w' => e = .returned (.bool (inB m.t 0 63)) ∧ Keeps Nob w w') := by
  have K0 : Keeps Nob w w := Keeps.refl _ _
  refine sy_enter (qc96_5 1) ⟨#[.agg (Msg.c m), ud, ud, ud, ud, ud, ud, ud, ud, ud, ud, ud, ud, ud, ud, ud, ud, ud, ud, ud, ud, ud, ud, ud, ud, ud, ud, ud, ud, ud, ud, ud, ud, ud, ud, ud, ud, ud, ud, ud, ud, ud, ud, ud, ud, ud, ud], []⟩ Tryz.func108 (by kernel_rfl) (by kernel_rfl) <| qr_ [0, 1] <| pbx 38 ((Msg.c m)) (.agg (Msg.c m)) fun V1 gm egm h2 kV1 => ?_
  have n3 : w.heap.size ≤ gm := egm ▸ K0.size
  have K4 := K0.nn kV1
  refine pkq (.bool false) <| eq_ <| qr_ [0, 1, 2] <| pkq (pT gm 0) <| ppq (.int .i64 m.k) (ldc 3 gm 0 (rc (h2) (Msg.get_n hr NF.k))) <| ppq (.bool false) (eqf ((m.k) : Int) ((11) : Int) (by omega)) <| en_ <| s_ <| tq_ <| qr_ [0, 1, 2, 3] <| pkq (pT gm 1) <| ppq (.int .i64 m.f) (ldc 3 gm 1 (rc (h2) (Msg.get_n hr NF.f))) ?_
  refine pcq 139 #[.int .i64 m.f] Tryz.func139 ((rmaccount_is m.f _ hf).mono ?_)
  rintro e w1 ⟨rfl, rfl⟩
  refine ⟨_, rfl, ?_⟩
  refine pkq (.bool false) <| en_ <| s_ <| tq_ <| qr_ [0, 1] <| pkq (pT gm 0) <| ppq (.int .i64 m.k) (ldc 3 gm 0 (rc (h2) (Msg.get_n hr NF.k))) <| et_ <| b_ 0 <| qr_ [0, 1] <| ppq (.bool true) (eqt ((m.k) : Int) ((1) : Int) (by omega)) <| pkq (.bool true) <| ey_ <| qr_ [0, 1, 2, 3] ?_
  refine pkq (pT gm 3) <| ppq (.int .i64 m.t) (ldc 3 gm 3 (rc (h2) (Msg.get_n hr NF.t))) ?_
  refine pcq 139 #[.int .i64 m.t] Tryz.func139 ((rmaccount_ok m.t _).mono ?_)
  rintro e w1 ⟨rfl, rfl⟩
  refine ⟨_, rfl, ?_⟩
  refine pkq (.bool (inB m.t 0 63)) <| eu_ <| blk_r <| then_r <| so_ (.bool (inB m.t 0 63)) ?_
  exact ⟨rfl, K4⟩
theorem rmfine_2 (m : Msg) (w : World) (hr : m.R) (hk : m.k = 2) (hf : inB m.f 0 63 = true) :
    Calls Tryz.prog 108 #[.agg (Msg.c m)] w (fun e w' => e = .returned (.bool (true)) ∧ Keeps Nob w w') := by
  have K0 : Keeps Nob w w := Keeps.refl _ _
  refine sy_enter (qc96_5 1) ⟨#[.agg (Msg.c m), ud, ud, ud, ud, ud, ud, ud, ud, ud, ud, ud, ud, ud, ud, ud, ud, ud, ud, ud, ud, ud, ud, ud, ud, ud, ud, ud, ud, ud, ud, ud, ud, ud, ud, ud, ud, ud, ud, ud, ud, ud, ud, ud, ud, ud, ud], []⟩ Tryz.func108 (by kernel_rfl) (by kernel_rfl) <| qr_ [0, 1] <| pbx 38 ((Msg.c m)) (.agg (Msg.c m)) fun V1 gm egm h2 kV1 => ?_
  have n3 : w.heap.size ≤ gm := egm ▸ K0.size
  have K4 := K0.nn kV1
  refine pkq (.bool false) <| eq_ <| qr_ [0, 1, 2] <| pkq (pT gm 0) <| ppq (.int .i64 m.k) (ldc 3 gm 0 (rc (h2) (Msg.get_n hr NF.k))) <| ppq (.bool false) (eqf ((m.k) : Int) ((11) : Int) (by omega)) <| en_ <| s_ <| tq_ <| qr_ [0, 1, 2, 3] <| pkq (pT gm 1) <| ppq (.int .i64 m.f) (ldc 3 gm 1 (rc (h2) (Msg.get_n hr NF.f))) ?_
  refine pcq 139 #[.int .i64 m.f] Tryz.func139 ((rmaccount_is m.f _ hf).mono ?_)
  rintro e w1 ⟨rfl, rfl⟩
  refine ⟨_, rfl, ?_⟩
  refine pkq (.bool false) <| en_ <| s_ <| tq_ <| qr_ [0, 1] <| pkq (pT gm 0) <| ppq (.int .i64 m.k) (ldc 3 gm 0 (rc (h2) (Msg.get_n hr NF.k))) <| et_ <| b_ 0 <| qr_ [0, 1] <| ppq (.bool false) (eqf ((m.k) : Int) ((1) : Int) (by omega)) <| pkq (.bool false) <| en_ <| q_ ?_
  refine qr_ [0, 1] <| ppq (.bool false) (eqf ((m.k) : Int) ((3) : Int) (by omega)) <| pkq (.bool false) <| en_ <| r_ [0, 1] <| ppq (.bool false) (eqf ((m.k) : Int) ((9) : Int) (by omega)) <| pkq (.bool false) <| en_ <| qr_ [0, 1] <| ppq (.bool false) (eqf ((m.k) : Int) ((4) : Int) (by omega)) <| pkq (.bool false) <| en_ <| qr_ [0, 1] <| ppq (.bool false) (eqf ((m.k) : Int) ((5) : Int) (by omega)) ?_
  refine pkq (.bool false) <| en_ <| q_ <| qr_ [0, 1] <| ppq (.bool false) (eqf ((m.k) : Int) ((6) : Int) (by omega)) <| pkq (.bool false) <| en_ <| qr_ [0, 1] <| ppq (.bool false) (eqf ((m.k) : Int) ((7) : Int) (by omega)) <| pkq (.bool false) <| ps_end <| sy_a ⟨#[.agg (Msg.c m), pT gm 0, .bool false, pT gm 0, .int .i64 m.k, .bool false, ud, ud, ud, pT gm 1, .int .i64 m.f, .bool true, .bool false, pT gm 0, .int .i64 m.k, .bool false, .bool false, ud, ud, ud, .bool false, .bool false, .bool false, ud, ud, ud, .bool false, .bool false, ud, ud, ud, .bool false, .bool false, ud, ud, ud, ud, ud, ud, ud, ud, .bool false, .bool false, .bool false, ud, ud, ud], []⟩ <| then_n <| n_ ?_
  refine r_ [0, 1] <| ppq (.bool false) (eqf ((m.k) : Int) ((8) : Int) (by omega)) <| pkq (.bool false) <| en_ <| s_ <| blk_n <| tqr_ [0] <| pkq (.bool true) <| eu_ <| so_ (.bool true) ?_
  exact ⟨rfl, K4⟩
theorem rmfine_3 (m : Msg) (w : World) (hr : m.R) (hk : m.k = 3) (hf : inB m.f 0 63 = true) :
    Calls Tryz.prog 108 #[.agg (Msg.c m)] w (fun e w' => e = .returned (.bool (inB m.vl 0 31)) ∧ Keeps Nob w w') := by
  have K0 : Keeps Nob w w := Keeps.refl _ _
  refine sy_enter (qc96_5 1) ⟨#[.agg (Msg.c m), ud, ud, ud, ud, ud, ud, ud, ud, ud, ud, ud, ud, ud, ud, ud, ud, ud, ud, ud, ud, ud, ud, ud, ud, ud, ud, ud, ud, ud, ud, ud, ud, ud, ud, ud, ud, ud, ud, ud, ud, ud, ud, ud, ud, ud, ud], []⟩ Tryz.func108 (by kernel_rfl) (by kernel_rfl) <| qr_ [0, 1] <| pbx 38 ((Msg.c m)) (.agg (Msg.c m)) fun V1 gm egm h2 kV1 => ?_
  have n3 : w.heap.size ≤ gm := egm ▸ K0.size
  have K4 := K0.nn kV1
  refine pkq (.bool false) <| eq_ <| qr_ [0, 1, 2] <| pkq (pT gm 0) <| ppq (.int .i64 m.k) (ldc 3 gm 0 (rc (h2) (Msg.get_n hr NF.k))) <| ppq (.bool false) (eqf ((m.k) : Int) ((11) : Int) (by omega)) <| en_ <| s_ <| tq_ <| qr_ [0, 1, 2, 3] <| pkq (pT gm 1) <| ppq (.int .i64 m.f) (ldc 3 gm 1 (rc (h2) (Msg.get_n hr NF.f))) ?_
  refine pcq 139 #[.int .i64 m.f] Tryz.func139 ((rmaccount_is m.f _ hf).mono ?_)
  rintro e w1 ⟨rfl, rfl⟩
  refine ⟨_, rfl, ?_⟩
  refine pkq (.bool false) <| en_ <| s_ <| tq_ <| qr_ [0, 1] <| pkq (pT gm 0) <| ppq (.int .i64 m.k) (ldc 3 gm 0 (rc (h2) (Msg.get_n hr NF.k))) <| et_ <| b_ 0 <| qr_ [0, 1] <| ppq (.bool false) (eqf ((m.k) : Int) ((1) : Int) (by omega)) <| pkq (.bool false) <| en_ <| q_ ?_
  refine qr_ [0, 1] <| ppq (.bool true) (eqt ((m.k) : Int) ((3) : Int) (by omega)) <| pkq (.bool true) <| ey_ <| s_ <| then_n <| y_ <| qr_ [0, 1, 2, 3] <| pkq (pT gm 2) <| ppq (.int .i64 m.vl) (ldc 3 gm 2 (rc (h2) (Msg.get_n hr NF.vl))) ?_
  refine pcq 140 #[.int .i64 m.vl] Tryz.func140 ((rmvalidator_ok m.vl _).mono ?_)
  rintro e w1 ⟨rfl, rfl⟩
  refine ⟨_, rfl, ?_⟩
  refine pkq (.bool (inB m.vl 0 31)) <| eu_ <| blk_r <| then_r <| so_ (.bool (inB m.vl 0 31)) ?_
  exact ⟨rfl, K4⟩
theorem rmfine_4 (m : Msg) (w : World) (hr : m.R) (hk : m.k = 4) (hf : inB m.f 0 63 = true) :
    Calls Tryz.prog 108 #[.agg (Msg.c m)] w (fun e w' => e = .returned (.bool (stampB m)) ∧ Keeps Nob w w') := by
  have K0 : Keeps Nob w w := Keeps.refl _ _
  refine sy_enter (qc96_5 1) ⟨#[.agg (Msg.c m), ud, ud, ud, ud, ud, ud, ud, ud, ud, ud, ud, ud, ud, ud, ud, ud, ud, ud, ud, ud, ud, ud, ud, ud, ud, ud, ud, ud, ud, ud, ud, ud, ud, ud, ud, ud, ud, ud, ud, ud, ud, ud, ud, ud, ud, ud], []⟩ Tryz.func108 (by kernel_rfl) (by kernel_rfl) <| qr_ [0, 1] <| pbx 38 ((Msg.c m)) (.agg (Msg.c m)) fun V1 gm egm h2 kV1 => ?_
  have n3 : w.heap.size ≤ gm := egm ▸ K0.size
  have K4 := K0.nn kV1
  refine pkq (.bool false) <| eq_ <| qr_ [0, 1, 2] <| pkq (pT gm 0) <| ppq (.int .i64 m.k) (ldc 3 gm 0 (rc (h2) (Msg.get_n hr NF.k))) <| ppq (.bool false) (eqf ((m.k) : Int) ((11) : Int) (by omega)) <| en_ <| s_ <| tq_ <| qr_ [0, 1, 2, 3] <| pkq (pT gm 1) <| ppq (.int .i64 m.f) (ldc 3 gm 1 (rc (h2) (Msg.get_n hr NF.f))) ?_
  refine pcq 139 #[.int .i64 m.f] Tryz.func139 ((rmaccount_is m.f _ hf).mono ?_)
  rintro e w1 ⟨rfl, rfl⟩
  refine ⟨_, rfl, ?_⟩
  refine pkq (.bool false) <| en_ <| s_ <| tq_ <| qr_ [0, 1] <| pkq (pT gm 0) <| ppq (.int .i64 m.k) (ldc 3 gm 0 (rc (h2) (Msg.get_n hr NF.k))) <| et_ <| b_ 0 <| qr_ [0, 1] <| ppq (.bool false) (eqf ((m.k) : Int) ((1) : Int) (by omega)) <| pkq (.bool false) <| en_ <| q_ ?_
  refine qr_ [0, 1] <| ppq (.bool false) (eqf ((m.k) : Int) ((3) : Int) (by omega)) <| pkq (.bool false) <| en_ <| r_ [0, 1] <| ppq (.bool false) (eqf ((m.k) : Int) ((9) : Int) (by omega)) <| pkq (.bool false) <| en_ <| qr_ [0, 1] <| ppq (.bool true) (eqt ((m.k) : Int) ((4) : Int) (by omega)) <| pkq (.bool true) <| ey_ <| qr_ [0, 1, 2, 3] <| pkq (pT gm 6) ?_
  refine ppq (.agg (Msg.st m)) (exec_load_seg 36 (.tmp 28) (by kernel_rfl) gm 6 (by kernel_rfl) (Msg.st m).toList _ _ _ h2 (Msg.seg_S _) Tryz.underlying36 rfl (by kernel_rfl)) ?_
  refine pcq 141 #[.agg (Msg.st m)] Tryz.func141 ((rmstamp_ok m _).mono ?_)
  rintro e V5 ⟨rfl, kV5⟩
  refine ⟨_, rfl, ?_⟩
  have K7 := K4.nn kV5
  refine pkq (.bool (stampB m)) <| eu_ <| blk_r <| then_r <| so_ (.bool (stampB m)) ?_
  exact ⟨rfl, K7⟩
theorem rmfine_5t (m : Msg) (w : World) (hr : m.R) (hk : m.k = 5) (hf : inB m.f 0 63 = true) (hs : stampB m = true) :
    Calls Tryz.prog 108 #[.agg (Msg.c m)] w (fun e w' => e = .returned (.bool (inB m.t 0 31)) ∧ Keeps Nob w w') := by
  have K0 : Keeps Nob w w := Keeps.refl _ _
  refine sy_enter (qc96_5 1) ⟨#[.agg (Msg.c m), ud, ud, ud, ud, ud, ud, ud, ud, ud, ud, ud, ud, ud, ud, ud, ud, ud, ud, ud, ud, ud, ud, ud, ud, ud, ud, ud, ud, ud, ud, ud, ud, ud, ud, ud, ud, ud, ud, ud, ud, ud, ud, ud, ud, ud, ud], []⟩ Tryz.func108 (by kernel_rfl) (by kernel_rfl) <| qr_ [0, 1] <| pbx 38 ((Msg.c m)) (.agg (Msg.c m)) fun V1 gm egm h2 kV1 => ?_
  have n3 : w.heap.size ≤ gm := egm ▸ K0.size
  have K4 := K0.nn kV1
  refine pkq (.bool false) <| eq_ <| qr_ [0, 1, 2] <| pkq (pT gm 0) <| ppq (.int .i64 m.k) (ldc 3 gm 0 (rc (h2) (Msg.get_n hr NF.k))) <| ppq (.bool false) (eqf ((m.k) : Int) ((11) : Int) (by omega)) <| en_ <| s_ <| tq_ <| qr_ [0, 1, 2, 3] <| pkq (pT gm 1) <| ppq (.int .i64 m.f) (ldc 3 gm 1 (rc (h2) (Msg.get_n hr NF.f))) ?_
  refine pcq 139 #[.int .i64 m.f] Tryz.func139 ((rmaccount_is m.f _ hf).mono ?_)
  rintro e w1 ⟨rfl, rfl⟩
  refine ⟨_, rfl, ?_⟩
  refine pkq (.bool false) <| en_ <| s_ <| tq_ <| qr_ [0, 1] <| pkq (pT gm 0) <| ppq (.int .i64 m.k) (ldc 3 gm 0 (rc (h2) (Msg.get_n hr NF.k))) <| et_ <| b_ 0 <| qr_ [0, 1] <| ppq (.bool false) (eqf ((m.k) : Int) ((1) : Int) (by omega)) <| pkq (.bool false) <| en_ <| q_ ?_
  refine qr_ [0, 1] <| ppq (.bool false) (eqf ((m.k) : Int) ((3) : Int) (by omega)) <| pkq (.bool false) <| en_ <| r_ [0, 1] <| ppq (.bool false) (eqf ((m.k) : Int) ((9) : Int) (by omega)) <| pkq (.bool false) <| en_ <| qr_ [0, 1] <| ppq (.bool false) (eqf ((m.k) : Int) ((4) : Int) (by omega)) <| pkq (.bool false) <| en_ <| qr_ [0, 1] <| ppq (.bool true) (eqt ((m.k) : Int) ((5) : Int) (by omega)) ?_
  refine pkq (.bool true) <| ey_ <| qr_ [0, 1, 2, 3, 4, 5, 6, 7, 8] <| pkq (pT gm 6) <| ppq (.agg (Msg.st m)) (exec_load_seg 36 (.tmp 33) (by kernel_rfl) gm 6 (by kernel_rfl) (Msg.st m).toList _ _ _ h2 (Msg.seg_S _) Tryz.underlying36 rfl (by kernel_rfl)) ?_
  refine pcq 141 #[.agg (Msg.st m)] Tryz.func141 ((rmstamp_is m _ hs).mono ?_)
  rintro e V5 ⟨rfl, kV5⟩
  refine ⟨_, rfl, ?_⟩
  have h6 := kV5.bk h2
  have K7 := K4.nn kV5
  refine pkq (.bool true) <| pkq (pT gm 3) <| ppq (.int .i64 m.t) (ldc 3 gm 3 (rc (h6) (Msg.get_n hr NF.t))) ?_
  refine pcq 140 #[.int .i64 m.t] Tryz.func140 ((rmvalidator_ok m.t _).mono ?_)
  rintro e w1 ⟨rfl, rfl⟩
  refine ⟨_, rfl, ?_⟩
  refine pkq (.bool (inB m.t 0 31)) <| pkq (.bool (inB m.t 0 31)) <| ps_end <| sy_a ⟨#[.agg (Msg.c m), pT gm 0, .bool (inB m.t 0 31), pT gm 0, .int .i64 m.k, .bool false, ud, ud, ud, pT gm 1, .int .i64 m.f, .bool true, .bool false, pT gm 0, .int .i64 m.k, .bool false, .bool false, ud, ud, ud, .bool false, .bool false, .bool false, ud, ud, ud, .bool false, .bool false, ud, ud, ud, .bool true, .bool true, pT gm 6, .agg (Msg.st m), .bool true, .bool true, pT gm 3, .int .i64 m.t, .bool (inB m.t 0 31), .bool (inB m.t 0 31), ud, ud, ud, ud, ud, ud], []⟩ <| then_n <| u_ <| blk_r <| then_r <| so_ (.bool (inB m.t 0 31)) ?_
  exact ⟨rfl, K7⟩
theorem rmfine_5f (m : Msg) (w : World) (hr : m.R) (hk : m.k = 5) (hf : inB m.f 0 63 = true) (hs : stampB m = false) :
    Calls Tryz.prog 108 #[.agg (Msg.c m)] w (fun e w' => e = .returned (.bool false) ∧ Keeps Nob w w') := by
  have K0 : Keeps Nob w w := Keeps.refl _ _
  refine sy_enter (qc96_5 1) ⟨#[.agg (Msg.c m), ud, ud, ud, ud, ud, ud, ud, ud, ud, ud, ud, ud, ud, ud, ud, ud, ud, ud, ud, ud, ud, ud, ud, ud, ud, ud, ud, ud, ud, ud, ud, ud, ud, ud, ud, ud, ud, ud, ud, ud, ud, ud, ud, ud, ud, ud], []⟩ Tryz.func108 (by kernel_rfl) (by kernel_rfl) <| qr_ [0, 1] <| pbx 38 ((Msg.c m)) (.agg (Msg.c m)) fun V1 gm egm h2 kV1 => ?_
  have n3 : w.heap.size ≤ gm := egm ▸ K0.size
  have K4 := K0.nn kV1
  refine pkq (.bool false) <| eq_ <| qr_ [0, 1, 2] <| pkq (pT gm 0) <| ppq (.int .i64 m.k) (ldc 3 gm 0 (rc (h2) (Msg.get_n hr NF.k))) <| ppq (.bool false) (eqf ((m.k) : Int) ((11) : Int) (by omega)) <| en_ <| s_ <| tq_ <| qr_ [0, 1, 2, 3] <| pkq (pT gm 1) <| ppq (.int .i64 m.f) (ldc 3 gm 1 (rc (h2) (Msg.get_n hr NF.f))) ?_
  refine pcq 139 #[.int .i64 m.f] Tryz.func139 ((rmaccount_is m.f _ hf).mono ?_)
  rintro e w1 ⟨rfl, rfl⟩
  refine ⟨_, rfl, ?_⟩
  refine pkq (.bool false) <| en_ <| s_ <| tq_ <| qr_ [0, 1] <| pkq (pT gm 0) <| ppq (.int .i64 m.k) (ldc 3 gm 0 (rc (h2) (Msg.get_n hr NF.k))) <| et_ <| b_ 0 <| qr_ [0, 1] <| ppq (.bool false) (eqf ((m.k) : Int) ((1) : Int) (by omega)) <| pkq (.bool false) <| en_ <| q_ ?_
  refine qr_ [0, 1] <| ppq (.bool false) (eqf ((m.k) : Int) ((3) : Int) (by omega)) <| pkq (.bool false) <| en_ <| r_ [0, 1] <| ppq (.bool false) (eqf ((m.k) : Int) ((9) : Int) (by omega)) <| pkq (.bool false) <| en_ <| qr_ [0, 1] <| ppq (.bool false) (eqf ((m.k) : Int) ((4) : Int) (by omega)) <| pkq (.bool false) <| en_ <| qr_ [0, 1] <| ppq (.bool true) (eqt ((m.k) : Int) ((5) : Int) (by omega)) ?_
  refine pkq (.bool true) <| ey_ <| qr_ [0, 1, 2, 3, 4, 5, 6, 7, 8] <| pkq (pT gm 6) <| ppq (.agg (Msg.st m)) (exec_load_seg 36 (.tmp 33) (by kernel_rfl) gm 6 (by kernel_rfl) (Msg.st m).toList _ _ _ h2 (Msg.seg_S _) Tryz.underlying36 rfl (by kernel_rfl)) ?_
  refine pcq 141 #[.agg (Msg.st m)] Tryz.func141 ((rmstamp_is m _ hs).mono ?_)
  rintro e V5 ⟨rfl, kV5⟩
  refine ⟨_, rfl, ?_⟩
  have K7 := K4.nn kV5
  refine pkq (.bool false) <| pnq <| pnq <| pnq <| pkq (.bool false) <| pkq (.bool false) <| ps_end <| sy_a ⟨#[.agg (Msg.c m), pT gm 0, .bool false, pT gm 0, .int .i64 m.k, .bool false, ud, ud, ud, pT gm 1, .int .i64 m.f, .bool true, .bool false, pT gm 0, .int .i64 m.k, .bool false, .bool false, ud, ud, ud, .bool false, .bool false, .bool false, ud, ud, ud, .bool false, .bool false, ud, ud, ud, .bool true, .bool true, pT gm 6, .agg (Msg.st m), .bool false, .bool false, ud, ud, ud, .bool false, ud, ud, ud, ud, ud, ud], []⟩ <| then_n <| u_ <| blk_r <| then_r <| so_ (.bool false) ?_
  exact ⟨rfl, K7⟩
theorem rmfine_6 (m : Msg) (w : World) (hr : m.R) (hk : m.k = 6) (hf : inB m.f 0 63 = true) :
    Calls Tryz.prog 108 #[.agg (Msg.c m)] w (fun e w' => e = .returned (.bool (votesB m)) ∧ Keeps Nob w w') := by
  have K0 : Keeps Nob w w := Keeps.refl _ _
  refine sy_enter (qc96_5 1) ⟨#[.agg (Msg.c m), ud, ud, ud, ud, ud, ud, ud, ud, ud, ud, ud, ud, ud, ud, ud, ud, ud, ud, ud, ud, ud, ud, ud, ud, ud, ud, ud, ud, ud, ud, ud, ud, ud, ud, ud, ud, ud, ud, ud, ud, ud, ud, ud, ud, ud, ud], []⟩ Tryz.func108 (by kernel_rfl) (by kernel_rfl) <| qr_ [0, 1] <| pbx 38 ((Msg.c m)) (.agg (Msg.c m)) fun V1 gm egm h2 kV1 => ?_
  have n3 : w.heap.size ≤ gm := egm ▸ K0.size
  have K4 := K0.nn kV1
  refine pkq (.bool false) <| eq_ <| qr_ [0, 1, 2] <| pkq (pT gm 0) <| ppq (.int .i64 m.k) (ldc 3 gm 0 (rc (h2) (Msg.get_n hr NF.k))) <| ppq (.bool false) (eqf ((m.k) : Int) ((11) : Int) (by omega)) <| en_ <| s_ <| tq_ <| qr_ [0, 1, 2, 3] <| pkq (pT gm 1) <| ppq (.int .i64 m.f) (ldc 3 gm 1 (rc (h2) (Msg.get_n hr NF.f))) ?_
  refine pcq 139 #[.int .i64 m.f] Tryz.func139 ((rmaccount_is m.f _ hf).mono ?_)
  rintro e w1 ⟨rfl, rfl⟩
  refine ⟨_, rfl, ?_⟩
  refine pkq (.bool false) <| en_ <| s_ <| tq_ <| qr_ [0, 1] <| pkq (pT gm 0) <| ppq (.int .i64 m.k) (ldc 3 gm 0 (rc (h2) (Msg.get_n hr NF.k))) <| et_ <| b_ 0 <| qr_ [0, 1] <| ppq (.bool false) (eqf ((m.k) : Int) ((1) : Int) (by omega)) <| pkq (.bool false) <| en_ <| q_ ?_
  refine qr_ [0, 1] <| ppq (.bool false) (eqf ((m.k) : Int) ((3) : Int) (by omega)) <| pkq (.bool false) <| en_ <| r_ [0, 1] <| ppq (.bool false) (eqf ((m.k) : Int) ((9) : Int) (by omega)) <| pkq (.bool false) <| en_ <| qr_ [0, 1] <| ppq (.bool false) (eqf ((m.k) : Int) ((4) : Int) (by omega)) <| pkq (.bool false) <| en_ <| qr_ [0, 1] <| ppq (.bool false) (eqf ((m.k) : Int) ((5) : Int) (by omega)) ?_
  refine pkq (.bool false) <| en_ <| q_ <| qr_ [0, 1] <| ppq (.bool true) (eqt ((m.k) : Int) ((6) : Int) (by omega)) <| pkq (.bool true) <| ey_ <| s_ <| then_n <| y_ <| qr_ [0, 1, 2] <| ppq (.agg (Msg.c m)) (ldr 38 gm (h2) (by rw [Msg.c_size hr]; kernel_rfl)) ?_
  refine pcq 142 #[.agg (Msg.c m)] Tryz.func142 ((rmvotes_ok m _ hr (by omega)).mono ?_)
  rintro e V5 ⟨rfl, kV5⟩
  refine ⟨_, rfl, ?_⟩
  have K7 := K4.nn kV5
  refine pkq (.bool (votesB m)) <| ps_end <| sy_a ⟨#[.agg (Msg.c m), pT gm 0, .bool (votesB m), pT gm 0, .int .i64 m.k, .bool false, ud, ud, ud, pT gm 1, .int .i64 m.f, .bool true, .bool false, pT gm 0, .int .i64 m.k, .bool false, .bool false, ud, ud, ud, .bool false, .bool false, .bool false, ud, ud, ud, .bool false, .bool false, ud, ud, ud, .bool false, .bool false, ud, ud, ud, ud, ud, ud, ud, ud, .bool true, .bool true, ud, ud, .agg (Msg.c m), .bool (votesB m)], []⟩ <| then_n <| u_ <| blk_r <| then_r <| so_ (.bool (votesB m)) ?_
  exact ⟨rfl, K7⟩
theorem rmfine_7 (m : Msg) (w : World) (hr : m.R) (hk : m.k = 7) (hf : inB m.f 0 63 = true) :
    Calls Tryz.prog 108 #[.agg (Msg.c m)] w (fun e w' => e = .returned (.bool (votesB m)) ∧ Keeps Nob w w') := by
  have K0 : Keeps Nob w w := Keeps.refl _ _
  refine sy_enter (qc96_5 1) ⟨#[.agg (Msg.c m), ud, ud, ud, ud, ud, ud, ud, ud, ud, ud, ud, ud, ud, ud, ud, ud, ud, ud, ud, ud, ud, ud, ud, ud, ud, ud, ud, ud, ud, ud, ud, ud, ud, ud, ud, ud, ud, ud, ud, ud, ud, ud, ud, ud, ud, ud], []⟩ Tryz.func108 (by kernel_rfl) (by kernel_rfl) <| qr_ [0, 1] <| pbx 38 ((Msg.c m)) (.agg (Msg.c m)) fun V1 gm egm h2 kV1 => ?_
  have n3 : w.heap.size ≤ gm := egm ▸ K0.size
  have K4 := K0.nn kV1
  refine pkq (.bool false) <| eq_ <| qr_ [0, 1, 2] <| pkq (pT gm 0) <| ppq (.int .i64 m.k) (ldc 3 gm 0 (rc (h2) (Msg.get_n hr NF.k))) <| ppq (.bool false) (eqf ((m.k) : Int) ((11) : Int) (by omega)) <| en_ <| s_ <| tq_ <| qr_ [0, 1, 2, 3] <| pkq (pT gm 1) <| ppq (.int .i64 m.f) (ldc 3 gm 1 (rc (h2) (Msg.get_n hr NF.f))) ?_
  refine pcq 139 #[.int .i64 m.f] Tryz.func139 ((rmaccount_is m.f _ hf).mono ?_)
  rintro e w1 ⟨rfl, rfl⟩
  refine ⟨_, rfl, ?_⟩
  refine pkq (.bool false) <| en_ <| s_ <| tq_ <| qr_ [0, 1] <| pkq (pT gm 0) <| ppq (.int .i64 m.k) (ldc 3 gm 0 (rc (h2) (Msg.get_n hr NF.k))) <| et_ <| b_ 0 <| qr_ [0, 1] <| ppq (.bool false) (eqf ((m.k) : Int) ((1) : Int) (by omega)) <| pkq (.bool false) <| en_ <| q_ ?_
  refine qr_ [0, 1] <| ppq (.bool false) (eqf ((m.k) : Int) ((3) : Int) (by omega)) <| pkq (.bool false) <| en_ <| r_ [0, 1] <| ppq (.bool false) (eqf ((m.k) : Int) ((9) : Int) (by omega)) <| pkq (.bool false) <| en_ <| qr_ [0, 1] <| ppq (.bool false) (eqf ((m.k) : Int) ((4) : Int) (by omega)) <| pkq (.bool false) <| en_ <| qr_ [0, 1] <| ppq (.bool false) (eqf ((m.k) : Int) ((5) : Int) (by omega)) ?_
  refine pkq (.bool false) <| en_ <| q_ <| qr_ [0, 1] <| ppq (.bool false) (eqf ((m.k) : Int) ((6) : Int) (by omega)) <| pkq (.bool false) <| en_ <| qr_ [0, 1] <| ppq (.bool true) (eqt ((m.k) : Int) ((7) : Int) (by omega)) <| pkq (.bool true) <| ps_end <| sy_a ⟨#[.agg (Msg.c m), pT gm 0, .bool false, pT gm 0, .int .i64 m.k, .bool false, ud, ud, ud, pT gm 1, .int .i64 m.f, .bool true, .bool false, pT gm 0, .int .i64 m.k, .bool false, .bool false, ud, ud, ud, .bool false, .bool false, .bool false, ud, ud, ud, .bool false, .bool false, ud, ud, ud, .bool false, .bool false, ud, ud, ud, ud, ud, ud, ud, ud, .bool true, .bool false, .bool true, ud, ud, ud], []⟩ <| then_n <| y_ ?_
  refine s_ <| then_n <| y_ <| qr_ [0, 1, 2] <| ppq (.agg (Msg.c m)) (ldr 38 gm (h2) (by rw [Msg.c_size hr]; kernel_rfl)) ?_
  refine pcq 142 #[.agg (Msg.c m)] Tryz.func142 ((rmvotes_ok m _ hr (by omega)).mono ?_)
  rintro e V5 ⟨rfl, kV5⟩
  refine ⟨_, rfl, ?_⟩
  have K7 := K4.nn kV5
  refine pkq (.bool (votesB m)) <| eu_ <| blk_r <| then_r <| so_ (.bool (votesB m)) ?_
  exact ⟨rfl, K7⟩
theorem rmfine_8 (m : Msg) (w : World) (hr : m.R) (hk : m.k = 8) (hf : inB m.f 0 63 = true) :
    Calls Tryz.prog 108 #[.agg (Msg.c m)] w (fun e w' => e = .returned (.bool (votesB m)) ∧ Keeps Nob w w') := by
  have K0 : Keeps Nob w w := Keeps.refl _ _
  refine sy_enter (qc96_5 1) ⟨#[.agg (Msg.c m), ud, ud, ud, ud, ud, ud, ud, ud, ud, ud, ud, ud, ud, ud, ud, ud, ud, ud, ud, ud, ud, ud, ud, ud, ud, ud, ud, ud, ud, ud, ud, ud, ud, ud, ud, ud, ud, ud, ud, ud, ud, ud, ud, ud, ud, ud], []⟩ Tryz.func108 (by kernel_rfl) (by kernel_rfl) <| qr_ [0, 1] <| pbx 38 ((Msg.c m)) (.agg (Msg.c m)) fun V1 gm egm h2 kV1 => ?_
  have n3 : w.heap.size ≤ gm := egm ▸ K0.size
  have K4 := K0.nn kV1
  refine pkq (.bool false) <| eq_ <| qr_ [0, 1, 2] <| pkq (pT gm 0) <| ppq (.int .i64 m.k) (ldc 3 gm 0 (rc (h2) (Msg.get_n hr NF.k))) <| ppq (.bool false) (eqf ((m.k) : Int) ((11) : Int) (by omega)) <| en_ <| s_ <| tq_ <| qr_ [0, 1, 2, 3] <| pkq (pT gm 1) <| ppq (.int .i64 m.f) (ldc 3 gm 1 (rc (h2) (Msg.get_n hr NF.f))) ?_
  refine pcq 139 #[.int .i64 m.f] Tryz.func139 ((rmaccount_is m.f _ hf).mono ?_)
  rintro e w1 ⟨rfl, rfl⟩
  refine ⟨_, rfl, ?_⟩
  refine pkq (.bool false) <| en_ <| s_ <| tq_ <| qr_ [0, 1] <| pkq (pT gm 0) <| ppq (.int .i64 m.k) (ldc 3 gm 0 (rc (h2) (Msg.get_n hr NF.k))) <| et_ <| b_ 0 <| qr_ [0, 1] <| ppq (.bool false) (eqf ((m.k) : Int) ((1) : Int) (by omega)) <| pkq (.bool false) <| en_ <| q_ ?_
  refine qr_ [0, 1] <| ppq (.bool false) (eqf ((m.k) : Int) ((3) : Int) (by omega)) <| pkq (.bool false) <| en_ <| r_ [0, 1] <| ppq (.bool false) (eqf ((m.k) : Int) ((9) : Int) (by omega)) <| pkq (.bool false) <| en_ <| qr_ [0, 1] <| ppq (.bool false) (eqf ((m.k) : Int) ((4) : Int) (by omega)) <| pkq (.bool false) <| en_ <| qr_ [0, 1] <| ppq (.bool false) (eqf ((m.k) : Int) ((5) : Int) (by omega)) ?_
  refine pkq (.bool false) <| en_ <| q_ <| qr_ [0, 1] <| ppq (.bool false) (eqf ((m.k) : Int) ((6) : Int) (by omega)) <| pkq (.bool false) <| en_ <| qr_ [0, 1] <| ppq (.bool false) (eqf ((m.k) : Int) ((7) : Int) (by omega)) <| pkq (.bool false) <| ps_end <| sy_a ⟨#[.agg (Msg.c m), pT gm 0, .bool false, pT gm 0, .int .i64 m.k, .bool false, ud, ud, ud, pT gm 1, .int .i64 m.f, .bool true, .bool false, pT gm 0, .int .i64 m.k, .bool false, .bool false, ud, ud, ud, .bool false, .bool false, .bool false, ud, ud, ud, .bool false, .bool false, ud, ud, ud, .bool false, .bool false, ud, ud, ud, ud, ud, ud, ud, ud, .bool false, .bool false, .bool false, ud, ud, ud], []⟩ <| then_n <| n_ ?_
  refine r_ [0, 1] <| ppq (.bool true) (eqt ((m.k) : Int) ((8) : Int) (by omega)) <| pkq (.bool true) <| ey_ <| qr_ [0, 1, 2] <| ppq (.agg (Msg.c m)) (ldr 38 gm (h2) (by rw [Msg.c_size hr]; kernel_rfl)) ?_
  refine pcq 142 #[.agg (Msg.c m)] Tryz.func142 ((rmvotes_ok m _ hr (by omega)).mono ?_)
  rintro e V5 ⟨rfl, kV5⟩
  refine ⟨_, rfl, ?_⟩
  have K7 := K4.nn kV5
  refine pkq (.bool (votesB m)) <| eu_ <| blk_r <| then_r <| so_ (.bool (votesB m)) ?_
  exact ⟨rfl, K7⟩
theorem rmfine_9 (m : Msg) (w : World) (hr : m.R) (hk : m.k = 9) (hf : inB m.f 0 63 = true) :
    Calls Tryz.prog 108 #[.agg (Msg.c m)] w (fun e w' => e = .returned (.bool (inB m.vl 0 31)) ∧ Keeps Nob w w') := by
  have K0 : Keeps Nob w w := Keeps.refl _ _
  refine sy_enter (qc96_5 1) ⟨#[.agg (Msg.c m), ud, ud, ud, ud, ud, ud, ud, ud, ud, ud, ud, ud, ud, ud, ud, ud, ud, ud, ud, ud, ud, ud, ud, ud, ud, ud, ud, ud, ud, ud, ud, ud, ud, ud, ud, ud, ud, ud, ud, ud, ud, ud, ud, ud, ud, ud], []⟩ Tryz.func108 (by kernel_rfl) (by kernel_rfl) <| qr_ [0, 1] <| pbx 38 ((Msg.c m)) (.agg (Msg.c m)) fun V1 gm egm h2 kV1 => ?_
  have n3 : w.heap.size ≤ gm := egm ▸ K0.size
  have K4 := K0.nn kV1
  refine pkq (.bool false) <| eq_ <| qr_ [0, 1, 2] <| pkq (pT gm 0) <| ppq (.int .i64 m.k) (ldc 3 gm 0 (rc (h2) (Msg.get_n hr NF.k))) <| ppq (.bool false) (eqf ((m.k) : Int) ((11) : Int) (by omega)) <| en_ <| s_ <| tq_ <| qr_ [0, 1, 2, 3] <| pkq (pT gm 1) <| ppq (.int .i64 m.f) (ldc 3 gm 1 (rc (h2) (Msg.get_n hr NF.f))) ?_
  refine pcq 139 #[.int .i64 m.f] Tryz.func139 ((rmaccount_is m.f _ hf).mono ?_)
  rintro e w1 ⟨rfl, rfl⟩
  refine ⟨_, rfl, ?_⟩
  refine pkq (.bool false) <| en_ <| s_ <| tq_ <| qr_ [0, 1] <| pkq (pT gm 0) <| ppq (.int .i64 m.k) (ldc 3 gm 0 (rc (h2) (Msg.get_n hr NF.k))) <| et_ <| b_ 0 <| qr_ [0, 1] <| ppq (.bool false) (eqf ((m.k) : Int) ((1) : Int) (by omega)) <| pkq (.bool false) <| en_ <| q_ ?_
  refine qr_ [0, 1] <| ppq (.bool false) (eqf ((m.k) : Int) ((3) : Int) (by omega)) <| pkq (.bool false) <| en_ <| r_ [0, 1] <| ppq (.bool true) (eqt ((m.k) : Int) ((9) : Int) (by omega)) <| pkq (.bool true) <| ey_ <| qr_ [0, 1, 2, 3] <| pkq (pT gm 2) <| ppq (.int .i64 m.vl) (ldc 3 gm 2 (rc (h2) (Msg.get_n hr NF.vl))) ?_
  refine pcq 140 #[.int .i64 m.vl] Tryz.func140 ((rmvalidator_ok m.vl _).mono ?_)
  rintro e w1 ⟨rfl, rfl⟩
  refine ⟨_, rfl, ?_⟩
  refine pkq (.bool (inB m.vl 0 31)) <| eu_ <| blk_r <| then_r <| so_ (.bool (inB m.vl 0 31)) ?_
  exact ⟨rfl, K4⟩
theorem rmfine_10 (m : Msg) (w : World) (hr : m.R) (hk : m.k = 10) (hf : inB m.f 0 63 = true) :
    Calls Tryz.prog 108 #[.agg (Msg.c m)] w (fun e w' => e = .returned (.bool (true)) ∧ Keeps Nob w w') := by
  have K0 : Keeps Nob w w := Keeps.refl _ _
  refine sy_enter (qc96_5 1) ⟨#[.agg (Msg.c m), ud, ud, ud, ud, ud, ud, ud, ud, ud, ud, ud, ud, ud, ud, ud, ud, ud, ud, ud, ud, ud, ud, ud, ud, ud, ud, ud, ud, ud, ud, ud, ud, ud, ud, ud, ud, ud, ud, ud, ud, ud, ud, ud, ud, ud, ud], []⟩ Tryz.func108 (by kernel_rfl) (by kernel_rfl) <| qr_ [0, 1] <| pbx 38 ((Msg.c m)) (.agg (Msg.c m)) fun V1 gm egm h2 kV1 => ?_
  have n3 : w.heap.size ≤ gm := egm ▸ K0.size
  have K4 := K0.nn kV1
  refine pkq (.bool false) <| eq_ <| qr_ [0, 1, 2] <| pkq (pT gm 0) <| ppq (.int .i64 m.k) (ldc 3 gm 0 (rc (h2) (Msg.get_n hr NF.k))) <| ppq (.bool false) (eqf ((m.k) : Int) ((11) : Int) (by omega)) <| en_ <| s_ <| tq_ <| qr_ [0, 1, 2, 3] <| pkq (pT gm 1) <| ppq (.int .i64 m.f) (ldc 3 gm 1 (rc (h2) (Msg.get_n hr NF.f))) ?_
  refine pcq 139 #[.int .i64 m.f] Tryz.func139 ((rmaccount_is m.f _ hf).mono ?_)
  rintro e w1 ⟨rfl, rfl⟩
  refine ⟨_, rfl, ?_⟩
  refine pkq (.bool false) <| en_ <| s_ <| tq_ <| qr_ [0, 1] <| pkq (pT gm 0) <| ppq (.int .i64 m.k) (ldc 3 gm 0 (rc (h2) (Msg.get_n hr NF.k))) <| et_ <| b_ 0 <| qr_ [0, 1] <| ppq (.bool false) (eqf ((m.k) : Int) ((1) : Int) (by omega)) <| pkq (.bool false) <| en_ <| q_ ?_
  refine qr_ [0, 1] <| ppq (.bool false) (eqf ((m.k) : Int) ((3) : Int) (by omega)) <| pkq (.bool false) <| en_ <| r_ [0, 1] <| ppq (.bool false) (eqf ((m.k) : Int) ((9) : Int) (by omega)) <| pkq (.bool false) <| en_ <| qr_ [0, 1] <| ppq (.bool false) (eqf ((m.k) : Int) ((4) : Int) (by omega)) <| pkq (.bool false) <| en_ <| qr_ [0, 1] <| ppq (.bool false) (eqf ((m.k) : Int) ((5) : Int) (by omega)) ?_
  refine pkq (.bool false) <| en_ <| q_ <| qr_ [0, 1] <| ppq (.bool false) (eqf ((m.k) : Int) ((6) : Int) (by omega)) <| pkq (.bool false) <| en_ <| qr_ [0, 1] <| ppq (.bool false) (eqf ((m.k) : Int) ((7) : Int) (by omega)) <| pkq (.bool false) <| ps_end <| sy_a ⟨#[.agg (Msg.c m), pT gm 0, .bool false, pT gm 0, .int .i64 m.k, .bool false, ud, ud, ud, pT gm 1, .int .i64 m.f, .bool true, .bool false, pT gm 0, .int .i64 m.k, .bool false, .bool false, ud, ud, ud, .bool false, .bool false, .bool false, ud, ud, ud, .bool false, .bool false, ud, ud, ud, .bool false, .bool false, ud, ud, ud, ud, ud, ud, ud, ud, .bool false, .bool false, .bool false, ud, ud, ud], []⟩ <| then_n <| n_ ?_
  refine r_ [0, 1] <| ppq (.bool false) (eqf ((m.k) : Int) ((8) : Int) (by omega)) <| pkq (.bool false) <| en_ <| s_ <| blk_n <| tqr_ [0] <| pkq (.bool true) <| eu_ <| so_ (.bool true) ?_
  exact ⟨rfl, K4⟩
theorem rmfine_11 (m : Msg) (w : World) (hr : m.R) (hk : m.k = 11) :
    Calls Tryz.prog 108 #[.agg (Msg.c m)] w (fun e w' => e = .returned (.bool (inB m.n 1 1000)) ∧ Keeps Nob w w') := by
  have K0 : Keeps Nob w w := Keeps.refl _ _
  refine sy_enter (qc96_5 1) ⟨#[.agg (Msg.c m), ud, ud, ud, ud, ud, ud, ud, ud, ud, ud, ud, ud, ud, ud, ud, ud, ud, ud, ud, ud, ud, ud, ud, ud, ud, ud, ud, ud, ud, ud, ud, ud, ud, ud, ud, ud, ud, ud, ud, ud, ud, ud, ud, ud, ud, ud], []⟩ Tryz.func108 (by kernel_rfl) (by kernel_rfl) <| qr_ [0, 1] <| pbx 38 ((Msg.c m)) (.agg (Msg.c m)) fun V1 gm egm h2 kV1 => ?_
  have n3 : w.heap.size ≤ gm := egm ▸ K0.size
  have K4 := K0.nn kV1
  refine pkq (.bool false) <| eq_ <| qr_ [0, 1, 2] <| pkq (pT gm 0) <| ppq (.int .i64 m.k) (ldc 3 gm 0 (rc (h2) (Msg.get_n hr NF.k))) <| ppq (.bool true) (eqt ((m.k) : Int) ((11) : Int) (by omega)) <| ey_ <| qr_ [0, 1, 2, 3] <| pkq (pT gm 10) <| ppq (.int .i64 m.n) (ldc 3 gm 10 (rc (h2) (Msg.get_n hr NF.n))) ?_
  refine pcq 107 #[.int .i64 m.n, .int .i64 1, .int .i64 1000] Tryz.func107 ((rmwithin_ok m.n 1 1000 _).mono ?_)
  rintro e w1 ⟨rfl, rfl⟩
  refine ⟨_, rfl, ?_⟩
  refine pkq (.bool (inB m.n 1 1000)) <| eu_ <| then_r <| so_ (.bool (inB m.n 1 1000)) ?_
  exact ⟨rfl, K4⟩
theorem chk_n (m : Msg) (x : NF) (lo hi : Int) : (chkIt m (.n x lo hi) = true) = (lo ≤ x.get m ∧ x.get m ≤ hi) := decide_eq_true_eq
theorem chk_a (m : Msg) (x : AF) : chkIt m (.a x) = true := rfl
theorem chk_h (m : Msg) (x : HF) : chkIt m (.h x) = true := rfl
theorem chk_k (m : Msg) (x : Int) : chkIt m (.k x) = true := rfl
theorem lotB (m : Msg) : lotM.all (chkIt m) = stampB m := by rw [Bool.eq_iff_iff]; simp [lotM, chk_n, chk_a, chk_h, chk_k, NF.get, stampB, inB, and_assoc]
theorem attA (m : Msg) : (voteM .av .as_ .at_ .ar .ag).all (chkIt m) = decide m.a.fine := by rw [Bool.eq_iff_iff, decide_eq_true_eq]; simp [voteM, chk_n, chk_a, chk_h, chk_k, NF.get, Att.fine, and_assoc]
theorem attB (m : Msg) : (voteM .bv .bs .bt .br .bg).all (chkIt m) = decide m.b.fine := by rw [Bool.eq_iff_iff, decide_eq_true_eq]; simp [voteM, chk_n, chk_a, chk_h, chk_k, NF.get, Att.fine, and_assoc]
theorem proP (m : Msg) : (blockM .pv .ph .pr .pg).all (chkIt m) = decide m.p.fine := by rw [Bool.eq_iff_iff, decide_eq_true_eq]; simp [blockM, chk_n, chk_a, chk_h, chk_k, NF.get, Pro.fine, and_assoc]
theorem proQ (m : Msg) : (blockM .qv .qh .qr .qg).all (chkIt m) = decide m.q.fine := by rw [Bool.eq_iff_iff, decide_eq_true_eq]; simp [blockM, chk_n, chk_a, chk_h, chk_k, NF.get, Pro.fine, and_assoc]
theorem evB (m : Msg) (h8 : m.k = 8) : (evM m.pf).all (chkIt m) = votesB m := by
  unfold votesB evM
  rw [if_neg (show ¬ m.k = 6 by omega), if_neg (show ¬ m.k = 7 by omega)]
  by_cases hp : m.pf = 3
  · rw [if_pos hp, if_pos hp, List.all_append, proP, proQ]
  · rw [if_neg hp, if_neg hp, List.all_append, attA, attB]
theorem items_1 (m : Msg) (hk : m.k = 1) : m.items.all (chkIt m) = (inB m.f 0 63 && inB m.t 0 63) := by
  rw [Msg.itemsk (k := 1) hk (by decide)]
  rw [Bool.eq_iff_iff]; simp [kM, chk_n, chk_a, chk_h, chk_k, NF.get, inB]
theorem items_2 (m : Msg) (hk : m.k = 2) : m.items.all (chkIt m) = (inB m.f 0 63 && true) := by
  rw [Msg.itemsk (k := 2) hk (by decide)]
  rw [Bool.eq_iff_iff]; simp [kM, chk_n, chk_a, chk_h, chk_k, NF.get, inB]
theorem items_3 (m : Msg) (hk : m.k = 3) : m.items.all (chkIt m) = (inB m.f 0 63 && inB m.vl 0 31) := by
  rw [Msg.itemsk (k := 3) hk (by decide)]
  rw [Bool.eq_iff_iff]; simp [kM, chk_n, chk_a, chk_h, chk_k, NF.get, inB]
theorem items_4 (m : Msg) (hk : m.k = 4) : m.items.all (chkIt m) = (inB m.f 0 63 && stampB m) := by
  rw [Msg.itemsk (k := 4) hk (by decide)]
  simp only [kM, List.all_append, lotB]; rw [Bool.eq_iff_iff]; simp [chk_n, chk_a, chk_h, chk_k, NF.get, inB, and_assoc]
theorem items_5 (m : Msg) (hk : m.k = 5) : m.items.all (chkIt m) = (inB m.f 0 63 && (stampB m && inB m.t 0 31)) := by
  rw [Msg.itemsk (k := 5) hk (by decide)]
  simp only [kM, List.all_append, lotB]; rw [Bool.eq_iff_iff]; simp [chk_n, chk_a, chk_h, chk_k, NF.get, inB, and_assoc]
theorem items_6 (m : Msg) (hk : m.k = 6) : m.items.all (chkIt m) = (inB m.f 0 63 && votesB m) := by
  rw [Msg.itemsk (k := 6) hk (by decide)]
  simp only [kM, List.all_append, attA]; rw [Bool.eq_iff_iff]; simp [chk_n, chk_a, chk_h, chk_k, NF.get, inB, and_assoc, votesB, hk]
theorem items_7 (m : Msg) (hk : m.k = 7) : m.items.all (chkIt m) = (inB m.f 0 63 && votesB m) := by
  rw [Msg.itemsk (k := 7) hk (by decide)]
  simp only [kM, List.all_append, proP]; rw [Bool.eq_iff_iff]; simp [chk_n, chk_a, chk_h, chk_k, NF.get, inB, and_assoc, votesB, hk]
theorem items_8 (m : Msg) (hk : m.k = 8) (hp : 1 ≤ m.pf ∧ m.pf ≤ 3) : m.items.all (chkIt m) = (inB m.f 0 63 && votesB m) := by
  rw [Msg.items8 hk, List.all_append, List.all_append, evB m hk]
  rw [Bool.eq_iff_iff]; simp [chk_n, chk_a, chk_h, chk_k, NF.get, inB, hp.1, hp.2]
theorem items_9 (m : Msg) (hk : m.k = 9) : m.items.all (chkIt m) = (inB m.f 0 63 && inB m.vl 0 31) := by
  rw [Msg.itemsk (k := 9) hk (by decide)]
  rw [Bool.eq_iff_iff]; simp [kM, chk_n, chk_a, chk_h, chk_k, NF.get, inB]
theorem items_10 (m : Msg) (hk : m.k = 10) : m.items.all (chkIt m) = (inB m.f 0 63 && true) := by
  rw [Msg.itemsk (k := 10) hk (by decide)]
  rw [Bool.eq_iff_iff]; simp [kM, chk_n, chk_a, chk_h, chk_k, NF.get, inB]
theorem items_11 (m : Msg) (hk : m.k = 11) : m.items.all (chkIt m) = (inB m.n 1 1000) := by
  rw [Msg.itemsk (k := 11) hk (by decide)]
  rw [Bool.eq_iff_iff]; simp [kM, chk_n, chk_a, chk_h, chk_k, NF.get, inB]
theorem rmfine_ok (m : Msg) (w : World) (hr : m.R) (hf : m.form) : Calls Tryz.prog 108 #[.agg (Msg.c m)] w (fun e w' => e = .returned (.bool (m.items.all (chkIt m))) ∧ Keeps Nob w w') := by
  have hk := hf.1
  rcases (show m.k = 1 ∨ m.k = 2 ∨ m.k = 3 ∨ m.k = 4 ∨ m.k = 5 ∨ m.k = 6 ∨ m.k = 7 ∨ m.k = 8 ∨ m.k = 9 ∨ m.k = 10 ∨ m.k = 11 by omega) with h | h | h | h | h | h | h | h | h | h | h
  · rw [items_1 m h]
    cases hb : inB m.f 0 63 with
    | false => exact rmfine_no m w hr (by omega) hb
    | true =>
      rw [Bool.true_and]
      exact rmfine_1 m w hr h hb
  · rw [items_2 m h]
    cases hb : inB m.f 0 63 with
    | false => exact rmfine_no m w hr (by omega) hb
    | true =>
      rw [Bool.true_and]
      exact rmfine_2 m w hr h hb
  · rw [items_3 m h]
    cases hb : inB m.f 0 63 with
    | false => exact rmfine_no m w hr (by omega) hb
    | true =>
      rw [Bool.true_and]
      exact rmfine_3 m w hr h hb
  · rw [items_4 m h]
    cases hb : inB m.f 0 63 with
    | false => exact rmfine_no m w hr (by omega) hb
    | true =>
      rw [Bool.true_and]
      exact rmfine_4 m w hr h hb
  · rw [items_5 m h]
    cases hb : inB m.f 0 63 with
    | false => exact rmfine_no m w hr (by omega) hb
    | true =>
      rw [Bool.true_and]
      cases hs : stampB m with
      | false => exact rmfine_5f m w hr h hb hs
      | true => rw [Bool.true_and]; exact rmfine_5t m w hr h hb hs
  · rw [items_6 m h]
    cases hb : inB m.f 0 63 with
    | false => exact rmfine_no m w hr (by omega) hb
    | true =>
      rw [Bool.true_and]
      exact rmfine_6 m w hr h hb
  · rw [items_7 m h]
    cases hb : inB m.f 0 63 with
    | false => exact rmfine_no m w hr (by omega) hb
    | true =>
      rw [Bool.true_and]
      exact rmfine_7 m w hr h hb
  · rw [items_8 m h (hf.2 h)]
    cases hb : inB m.f 0 63 with
    | false => exact rmfine_no m w hr (by omega) hb
    | true =>
      rw [Bool.true_and]
      exact rmfine_8 m w hr h hb
  · rw [items_9 m h]
    cases hb : inB m.f 0 63 with
    | false => exact rmfine_no m w hr (by omega) hb
    | true =>
      rw [Bool.true_and]
      exact rmfine_9 m w hr h hb
  · rw [items_10 m h]
    cases hb : inB m.f 0 63 with
    | false => exact rmfine_no m w hr (by omega) hb
    | true =>
      rw [Bool.true_and]
      exact rmfine_10 m w hr h hb
  · rw [items_11 m h]
    exact rmfine_11 m w hr h
end Go.Proofs.YtcbfnflnokoacaaGreat
