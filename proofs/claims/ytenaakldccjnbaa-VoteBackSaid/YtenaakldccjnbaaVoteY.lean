/-
  Votes: back (printed by vote13.py). Conditions: none.
-/
import Derived.Test.YtenaakldccjnbaaVoteX
import Derived.Test.YtenaakldccjnbaaVoteU
namespace Go.Proofs.Ytenaakldccjnbaa
open Go Go.RowKit Go.Own Go.Shelf
theorem fin0 {s : RS} {l : List UInt8} (h : (s.fin l).1 = 0) : (s.fin l).2 = 0 := by
  unfold RS.fin at h ⊢
  by_cases h0 : s.err = 0
  · rw [if_pos h0] at h ⊢
    by_cases h1 : s.pos < l.length
    · rw [if_pos h1] at h; cases h
    · rw [if_neg h1]
  · rw [if_neg h0] at h; exact absurd h h0
theorem Att.split' (a : Att) : a.bytes = a.bare ++ Cod.enc a.g := by simp [Att.bytes, Att.bare, allb, Thg.by]
theorem Pro.split' (a : Pro) : a.bytes = a.bare ++ Cod.enc a.g := by simp [Pro.bytes, Pro.bare, allb, Thg.by]
theorem fault_off {e p : Int} (h : ¬ e = 0) : decide (e = 0 ∧ p = 0) = false := decide_eq_false fun x => h x.1

theorem vBytes_lit (a : Att) (w : World) (ha : a.Ok) (hf : a.fine) : Calls Try.prog 16 #[.agg (Att.c a)] w fun e w' => ∃ A cap, e = .returned (.tuple #[.slice A a.bytes.length cap, .int .i64 0]) ∧ BytesAt w' (.slice A a.bytes.length cap) a.bytes ∧ a.bytes.length ≤ cap ∧ (∀ j, (Value.slice A a.bytes.length cap).ownBlock = some j → j < w'.heap.size) ∧ Keeps Nob w w' := by
  refine (vBytes_ok a w ha hf).mono ?_
  rintro e w' ⟨X, he, hr, hn, hk⟩
  obtain ⟨A, cap, hX, hc, _⟩ := hr.bytes.form
  subst hX
  exact ⟨A, cap, he, hr.bytes, hc, fun j hj => hr.lt hj, hk⟩
theorem ksum_att {A : Option Addr} {cap : Nat} (a : Att) (w : World) (ha : a.Ok) (h : BytesAt w (.slice A a.bytes.length cap) a.bytes) : Calls Try.prog 38 #[.slice A a.bare.length cap] w fun e w' => e = .returned (.agg (B a.dig).toArray) ∧ Keeps Nob w w' := by
  have hl := (att_len ha.r).2
  have hs : a.bytes.length = a.bare.length + (Cod.enc a.g).length := by rw [Att.split', List.length_append]
  have hb : a.bytes.take a.bare.length = a.bare := by rw [Att.split', List.take_left]
  have := ksum_any (.slice A a.bare.length cap) (a.bytes.take a.bare.length) w (h.take a.bare.length (by omega) A a.bytes.length cap rfl) (by rw [hb]; omega)
  rw [hb] at this; exact this
theorem aRes_back {a : Att} (h : a.Ok) (hf : a.fine) : aRes a.bytes = a := by
  obtain ⟨h1, h2⟩ := att_read h hf
  rw [aRes, if_pos (by rw [h1]), h2]
theorem aRes_is {l : List UInt8} (h : (aF l).1 = 0) : aRes l = aAtt l := if_pos h
theorem aRes_no {l : List UInt8} (h : ¬ (aF l).1 = 0) : aRes l = attZero := if_neg h
theorem vDigest_tagged (a : Att) (g : Nat) (w : World) (ha : a.Ok) (hf : a.fine) (hg : g < 18446744073709551616) : Calls Try.prog 26 #[.agg (Att.c ⟨a.v, a.s, a.t, a.r, g⟩)] w fun e w' => e = .returned (.tuple #[.agg (B a.dig).toArray, .int .i64 0]) ∧ Keeps Nob w w' :=
  vDigest_ok ⟨a.v, a.s, a.t, a.r, g⟩ w ⟨ha.v, ha.s, ha.t, ha.r, hg⟩ hf
theorem vRead_fin {v : Value} {a : Att} {l : List UInt8} {x y : Int} (w : World) (hx : BytesAt w v l) (hl : l.length ≤ 1000) (ha : aRes l = a) (hf : aF l = (x, y)) : Calls Try.prog 11 #[v] w fun e w' => e = .returned (.tuple #[.agg (Att.c a), .agg #[.int .i64 x, .int .i64 y]]) ∧ Keeps Nob w w' :=
  vRead_as v l a x y w hx hl ha hf
theorem vBytesBlock_lit (a : Pro) (w : World) (ha : a.Ok) (hf : a.fine) : Calls Try.prog 18 #[.agg (Pro.c a)] w fun e w' => ∃ A cap, e = .returned (.tuple #[.slice A a.bytes.length cap, .int .i64 0]) ∧ BytesAt w' (.slice A a.bytes.length cap) a.bytes ∧ a.bytes.length ≤ cap ∧ (∀ j, (Value.slice A a.bytes.length cap).ownBlock = some j → j < w'.heap.size) ∧ Keeps Nob w w' := by
  refine (vBytesBlock_ok a w ha hf).mono ?_
  rintro e w' ⟨X, he, hr, hn, hk⟩
  obtain ⟨A, cap, hX, hc, _⟩ := hr.bytes.form
  subst hX
  exact ⟨A, cap, he, hr.bytes, hc, fun j hj => hr.lt hj, hk⟩
theorem ksum_pro {A : Option Addr} {cap : Nat} (a : Pro) (w : World) (ha : a.Ok) (h : BytesAt w (.slice A a.bytes.length cap) a.bytes) : Calls Try.prog 38 #[.slice A a.bare.length cap] w fun e w' => e = .returned (.agg (B a.dig).toArray) ∧ Keeps Nob w w' := by
  have hl := (pro_len ha.r).2
  have hs : a.bytes.length = a.bare.length + (Cod.enc a.g).length := by rw [Pro.split', List.length_append]
  have hb : a.bytes.take a.bare.length = a.bare := by rw [Pro.split', List.take_left]
  have := ksum_any (.slice A a.bare.length cap) (a.bytes.take a.bare.length) w (h.take a.bare.length (by omega) A a.bytes.length cap rfl) (by rw [hb]; omega)
  rw [hb] at this; exact this
theorem pRes_back {a : Pro} (h : a.Ok) (hf : a.fine) : pRes a.bytes = a := by
  obtain ⟨h1, h2⟩ := pro_read h hf
  rw [pRes, if_pos (by rw [h1]), h2]
theorem pRes_is {l : List UInt8} (h : (pF l).1 = 0) : pRes l = pPro l := if_pos h
theorem pRes_no {l : List UInt8} (h : ¬ (pF l).1 = 0) : pRes l = proZero := if_neg h
theorem vDigestBlock_tagged (a : Pro) (g : Nat) (w : World) (ha : a.Ok) (hf : a.fine) (hg : g < 18446744073709551616) : Calls Try.prog 28 #[.agg (Pro.c ⟨a.v, a.h, a.r, g⟩)] w fun e w' => e = .returned (.tuple #[.agg (B a.dig).toArray, .int .i64 0]) ∧ Keeps Nob w w' :=
  vDigestBlock_ok ⟨a.v, a.h, a.r, g⟩ w ⟨ha.v, ha.h, ha.r, hg⟩ hf
theorem vReadBlock_fin {v : Value} {a : Pro} {l : List UInt8} {x y : Int} (w : World) (hx : BytesAt w v l) (hl : l.length ≤ 1000) (ha : pRes l = a) (hf : pF l = (x, y)) : Calls Try.prog 13 #[v] w fun e w' => e = .returned (.tuple #[.agg (Pro.c a), .agg #[.int .i64 x, .int .i64 y]]) ∧ Keeps Nob w w' :=
  vReadBlock_as v l a x y w hx hl ha hf
noncomputable def part_VoteBack (n : Nat) : Code := partOf Try.f8 n
noncomputable abbrev o_VoteBack (n k : Nat) : Oper := (opsAt (part_VoteBack n)).getD k default
set_option maxRecDepth 100000 in
set_option maxHeartbeats 4000000 in
theorem back_main (a : Att) (p : Pro) (A0 : Option Addr) (cap0 : Nat) (l : List UInt8) (tag : Nat) (ht : tag < 18446744073709551616) (w : World) (ha : a.Ok) (hp : p.Ok) (hx : BytesAt w (.slice A0 l.length cap0) l) :
    Calls Try.prog 8 #[.agg (Att.c a), .agg (Pro.c p), .slice A0 l.length cap0, .int .u64 ((tag : Nat) : Int)] w (fun e w' => e = .returned (.bool true) ∧ Keeps Nob w w') := by
  have K0 : Keeps Nob w w := Keeps.refl _ _
  refine sy_enter (part_VoteBack 1) ⟨#[.agg (Att.c a), .agg (Pro.c p), .slice A0 l.length cap0, uN tag, undef, undef, undef, undef, undef, undef, undef, undef, undef, undef, undef, undef, undef, undef, undef, undef, undef, undef, undef, undef, undef, undef, undef, undef, undef, undef, undef, undef, undef, undef, undef, undef, undef, undef, undef, undef, undef, undef, undef, undef, undef, undef, undef, undef, undef, undef, undef, undef, undef, undef, undef, undef, undef, undef, undef, undef, undef, undef, undef, undef, undef, undef, undef, undef, undef, undef, undef, undef, undef, undef, undef, undef, undef, undef, undef, undef, undef, undef, undef, undef, undef, undef, undef, undef, undef, undef, undef, undef, undef, undef, undef, undef, undef, undef, undef, undef, undef, undef, undef, undef, undef, undef, undef, undef, undef, undef, undef, undef, undef, undef, undef, undef, undef, undef, undef, undef, undef, undef, undef, undef, undef, undef, undef, undef, undef, undef, undef, undef, undef, undef, undef, undef, undef, undef, undef, undef, undef, undef, undef, undef, undef, undef, undef, undef, undef, undef, undef, undef, undef, undef, undef, undef, undef, undef, undef, undef, undef, undef, undef, undef, undef, undef, undef, undef, undef, undef, undef, undef, undef, undef, undef, undef, undef, undef, undef, undef, undef, undef, undef, undef, undef, undef, undef, undef, undef, undef, undef, undef, undef, undef, undef, undef, undef, undef, undef, undef, undef, undef, undef, undef, undef, undef, undef, undef, undef, undef, undef, undef, undef, undef, undef, undef, undef, undef, undef, undef, undef, undef], []⟩ Try.func8 (by kernel_rfl) (by kernel_rfl) ?_
  refine sy_sq (part_VoteBack 2) (part_VoteBack 3) ?_
  refine sy_reg ?_
  refine rg_plain 0 (opsAt (part_VoteBack 2)) [0, 1, 2] (by kernel_rfl) (by kernel_rfl) ?_
  obtain ⟨V1, eV1, g4, eg4, h2, kV1⟩ := alloc_step w ((Att.c a)) 29
  have n3 : w.heap.size ≤ g4 := eg4 ▸ K0.size
  refine ps_r (o_VoteBack 2 0) (pT g4 0) (w' := V1) (by rw [← eV1, ← eg4]; exact exec_box 29 (.tmp 0) (by kernel_rfl) (.agg (Att.c a)) (by kernel_rfl)) ?_
  clear eV1
  have K4 := K0.nn kV1
  have z5 := kV1.size
  obtain ⟨V6, eV6, g5, eg5, h7, kV6⟩ := alloc_step V1 ((Pro.c p)) 36
  have n8 : g4 < g5 := eg5 ▸ lt_of_block h2
  have n9 : w.heap.size ≤ g5 := eg5 ▸ K4.size
  refine ps_r (o_VoteBack 2 1) (pT g5 0) (w' := V6) (by rw [← eV6, ← eg5]; exact exec_box 36 (.tmp 1) (by kernel_rfl) (.agg (Pro.c p)) (by kernel_rfl)) ?_
  clear eV6
  have h10 := kV6.bk h2
  have K11 := K4.nn kV6
  have z12 := kV6.size
  refine ps_k (o_VoteBack 2 2) (.bool false) ?_
  refine ps_end ?_
  refine then_n ?_
  refine sy_sq (part_VoteBack 6) (part_VoteBack 7) ?_
  refine sy_reg ?_
  refine rg_plain 1 (opsAt (part_VoteBack 6)) [0, 1] (by kernel_rfl) (by kernel_rfl) ?_
  refine ps_c (o_VoteBack 6 0) 6 #[] Try.func6 ((voteKnown_ok _).mono ?_)
  rintro e V13 ⟨rfl, kV13⟩
  refine ⟨_, rfl, ?_⟩
  have h14 := kV13.bk h10
  have h15 := kV13.bk h7
  have K16 := K11.nn kV13
  have z17 := kV13.size
  refine ps_k (o_VoteBack 6 1) (.bool true) ?_
  refine ps_end ?_
  refine then_n ?_
  refine sy_sq (part_VoteBack 14) (part_VoteBack 15) ?_
  refine sy_cut (fun aQ VQ => ∃ (u2_10 u2_11 u2_12 u2_13 u2_14 u2_15 u2_16 u2_17 u2_18 u2_19 u2_20 u2_21 u2_43 u2_44 u2_45 u2_46 u2_47 u2_48 u2_49 u2_50 u2_51 u2_52 u2_53 u2_54 u2_55 u2_56 u2_57 u2_58 u2_59 u2_60 u2_61 u2_62 u2_63 u2_64 u2_65 u2_66 u2_67 u2_68 u2_69 u2_70 u2_71 u2_72 u2_73 u2_74 u2_75 u2_76 u2_77 u2_78 u2_79 u2_80 u2_81 u2_82 u2_83 u2_84 u2_85 u2_86 u2_87 u2_88 u2_89 u2_90 u2_91 u2_92 u2_93 u2_94 u2_95 u2_96 u2_97 u2_98 u2_99 u2_100 u2_101 u2_102 u2_103 u2_104 u2_105 u2_106 u2_107 u2_108 : Value), (aQ = ⟨#[.agg (Att.c a), .agg (Pro.c p), .slice A0 l.length cap0, .int .u64 ((tag : Nat) : Int), .pointer (some ⟨g4, 0, none⟩), .pointer (some ⟨g5, 0, none⟩), undef, undef, .bool false, .bool true, u2_10, u2_11, u2_12, u2_13, u2_14, u2_15, u2_16, u2_17, u2_18, u2_19, u2_20, u2_21, undef, undef, undef, undef, undef, undef, undef, undef, undef, undef, undef, undef, undef, undef, undef, undef, undef, undef, undef, undef, .bool true, u2_43, u2_44, u2_45, u2_46, u2_47, u2_48, u2_49, u2_50, u2_51, u2_52, u2_53, u2_54, u2_55, u2_56, u2_57, u2_58, u2_59, u2_60, u2_61, u2_62, u2_63, u2_64, u2_65, u2_66, u2_67, u2_68, u2_69, u2_70, u2_71, u2_72, u2_73, u2_74, u2_75, u2_76, u2_77, u2_78, u2_79, u2_80, u2_81, u2_82, u2_83, u2_84, u2_85, u2_86, u2_87, u2_88, u2_89, u2_90, u2_91, u2_92, u2_93, u2_94, u2_95, u2_96, u2_97, u2_98, u2_99, u2_100, u2_101, u2_102, u2_103, u2_104, u2_105, u2_106, u2_107, u2_108, undef, undef, undef, undef, undef, undef, undef, undef, undef, undef, undef, undef, undef, undef, undef, undef, undef, undef, undef, undef, undef, undef, undef, undef, undef, undef, undef, undef, undef, undef, undef, undef, undef, undef, undef, undef, undef, undef, undef, undef, undef, undef, undef, undef, undef, undef, undef, undef, undef, undef, undef, undef, undef, undef, undef, undef, undef, undef, undef, undef, undef, undef, undef, undef, undef, undef, undef, undef, undef, undef, undef, undef, undef, undef, undef, undef, undef, undef, undef, undef, undef, undef, undef, undef, undef, undef, undef, undef, undef, undef, undef, undef, undef, undef, undef, undef, undef, undef, undef, undef, undef, undef, undef, undef, undef, undef, undef, undef, undef, undef, undef, undef, undef], []⟩) ∧ (VQ.heap[g4]? = some (.cells (Att.c a) 29 (0, 0))) ∧ (VQ.heap[g5]? = some (.cells (Pro.c p) 36 (0, 0))) ∧ (V13.heap.size ≤ VQ.heap.size) ∧ (Keeps Nob w VQ)) ?_ ?_
  · by_cases hfa : a.fine
    · refine sy_sq (part_VoteBack 28) (part_VoteBack 29) ?_
      refine sy_reg ?_
      refine rg_plain 2 (opsAt (part_VoteBack 28)) [0, 1, 2, 3, 4, 5, 6] (by kernel_rfl) (by kernel_rfl) ?_
      refine ps_p (o_VoteBack 28 0) (.agg (Att.c a)) (exec_load_row 29 (.tmp 4) (by kernel_rfl) g4 (by kernel_rfl) _ _ (0, 0) _ (h14) Try.underlying29 rfl (by rw [Att.c_size _ ha.r]; kernel_rfl)) ?_
      refine ps_c (o_VoteBack 28 1) 16 #[.agg (Att.c a)] Try.func16 ((vBytes_lit a _ ha hfa).mono ?_)
      rintro e V18 ⟨Aa, capa, rfl, hXa, hca, hlta, kV18⟩
      have hlena := (att_len ha.r).1
      have hsa : a.bytes.length = a.bare.length + (Cod.enc a.g).length := by rw [Att.split', List.length_append]
      refine ⟨_, rfl, ?_⟩
      have h19 := kV18.bk h14
      have h20 := kV18.bk h15
      have K21 := K16.nn kV18
      have z22 := kV18.size
      refine ps_k (o_VoteBack 28 2) (.tuple #[.slice Aa a.bytes.length capa, .int .i64 0]) ?_
      refine ps_k (o_VoteBack 28 3) (.slice Aa a.bytes.length capa) ?_
      refine ps_k (o_VoteBack 28 4) (.int .i64 0) ?_
      refine ps_k (o_VoteBack 28 5) (.slice Aa a.bytes.length capa) ?_
      refine ps_k (o_VoteBack 28 6) (.int .i64 0) ?_
      refine ps_end ?_
      refine then_n ?_
      refine sy_sq (part_VoteBack 58) (part_VoteBack 59) ?_
      refine sy_reg ?_
      refine rg_plain 3 (opsAt (part_VoteBack 58)) [0, 1] (by kernel_rfl) (by kernel_rfl) ?_
      refine ps_k (o_VoteBack 58 0) (.int .i64 0) ?_
      refine ps_k (o_VoteBack 58 1) (.bool true) ?_
      refine ps_end ?_
      refine then_n ?_
      refine sy_ys (.tmp 49) (part_VoteBack 118) (part_VoteBack 119) ?_
      refine sy_sq (part_VoteBack 236) (part_VoteBack 237) ?_
      refine sy_reg ?_
      refine rg_plain 4 (opsAt (part_VoteBack 236)) [0, 1, 2, 3, 4, 5, 6, 7, 8] (by kernel_rfl) (by kernel_rfl) ?_
      refine ps_k (o_VoteBack 236 0) (.slice Aa a.bytes.length capa) ?_
      refine ps_c (o_VoteBack 236 1) 11 #[.slice Aa a.bytes.length capa] Try.func11 ((vRead_fin _ hXa (by omega) (aRes_back ha hfa) (att_read ha hfa).1).mono ?_)
      rintro e V23 ⟨rfl, kV23⟩
      refine ⟨_, rfl, ?_⟩
      have h24 := kV23.bk h19
      have h25 := kV23.bk h20
      have h26 : BytesAt V23 (.slice Aa a.bytes.length capa) a.bytes := hXa.keepsN kV23
      have K27 := K21.nn kV23
      have z28 := kV23.size
      refine ps_k (o_VoteBack 236 2) (.tuple #[.agg (Att.c a), .agg #[.int .i64 0, .int .i64 0]]) ?_
      refine ps_k (o_VoteBack 236 3) (.agg (Att.c a)) ?_
      refine ps_k (o_VoteBack 236 4) (.agg #[.int .i64 0, .int .i64 0]) ?_
      obtain ⟨V29, eV29, g12, eg12, h30, kV29⟩ := alloc_step V23 (#[.int .i64 0, .int .i64 0, .int .i64 0, .int .u8 0, .int .u8 0, .int .u8 0, .int .u8 0, .int .u8 0, .int .u8 0, .int .u8 0, .int .u8 0, .int .u8 0, .int .u8 0, .int .u8 0, .int .u8 0, .int .u8 0, .int .u8 0, .int .u8 0, .int .u8 0, .int .u8 0, .int .u8 0, .int .u8 0, .int .u8 0, .int .u8 0, .int .u8 0, .int .u8 0, .int .u8 0, .int .u8 0, .int .u8 0, .int .u8 0, .int .u8 0, .int .u8 0, .int .u8 0, .int .u8 0, .int .u8 0, .int .u64 0]) 29
      have n31 : g4 < g12 := eg12 ▸ lt_of_block h24
      have n32 : g5 < g12 := eg12 ▸ lt_of_block h25
      have n33 : w.heap.size ≤ g12 := eg12 ▸ K27.size
      refine ps_r (o_VoteBack 236 5) (pT g12 0) (w' := V29) (by rw [← eV29, ← eg12]; exact exec_alloc0 29 (by kernel_rfl) (.agg (#[.int .i64 0, .int .i64 0, .int .i64 0, .int .u8 0, .int .u8 0, .int .u8 0, .int .u8 0, .int .u8 0, .int .u8 0, .int .u8 0, .int .u8 0, .int .u8 0, .int .u8 0, .int .u8 0, .int .u8 0, .int .u8 0, .int .u8 0, .int .u8 0, .int .u8 0, .int .u8 0, .int .u8 0, .int .u8 0, .int .u8 0, .int .u8 0, .int .u8 0, .int .u8 0, .int .u8 0, .int .u8 0, .int .u8 0, .int .u8 0, .int .u8 0, .int .u8 0, .int .u8 0, .int .u8 0, .int .u8 0, .int .u64 0])) (by kernel_rfl)) ?_
      clear eV29
      have h34 := kV29.bk h24
      have h35 := kV29.bk h25
      have h36 : BytesAt V29 (.slice Aa a.bytes.length capa) a.bytes := h26.keepsN kV29
      have K37 := K27.nn kV29
      have z38 := kV29.size
      obtain ⟨V39, eV39, g13, eg13, h40, kV39⟩ := alloc_step V29 (#[.int .i64 0, .int .i64 0]) 32
      have n41 : g4 < g13 := eg13 ▸ lt_of_block h34
      have n42 : g5 < g13 := eg13 ▸ lt_of_block h35
      have n43 : g12 < g13 := eg13 ▸ lt_of_block h30
      have n44 : w.heap.size ≤ g13 := eg13 ▸ K37.size
      refine ps_r (o_VoteBack 236 6) (pT g13 0) (w' := V39) (by rw [← eV39, ← eg13]; exact exec_alloc0 32 (by kernel_rfl) (.agg (#[.int .i64 0, .int .i64 0])) (by kernel_rfl)) ?_
      clear eV39
      have h45 := kV39.bk h34
      have h46 := kV39.bk h35
      have h47 : BytesAt V39 (.slice Aa a.bytes.length capa) a.bytes := h36.keepsN kV39
      have h48 := kV39.bk h30
      have K49 := K37.nn kV39
      have z50 := kV39.size
      obtain ⟨V51, eV51, kV51⟩ := rowset_step V39 g12 ((Att.c a))
      have h52 : V51.heap[g12]? = some (.cells (Att.c a) 29 (0, 0)) := eV51 ▸ setRow_heap _ _ _ _ _ _ h48
      refine ps_s (o_VoteBack 236 7) (w' := V51) (by rw [← eV51]; exact exec_store_row 29 (.tmp 12) (.tmp 53) (by kernel_rfl) g12 ((Att.c a)) (by kernel_rfl) (by kernel_rfl) 29 (#[.int .i64 0, .int .i64 0, .int .i64 0, .int .u8 0, .int .u8 0, .int .u8 0, .int .u8 0, .int .u8 0, .int .u8 0, .int .u8 0, .int .u8 0, .int .u8 0, .int .u8 0, .int .u8 0, .int .u8 0, .int .u8 0, .int .u8 0, .int .u8 0, .int .u8 0, .int .u8 0, .int .u8 0, .int .u8 0, .int .u8 0, .int .u8 0, .int .u8 0, .int .u8 0, .int .u8 0, .int .u8 0, .int .u8 0, .int .u8 0, .int .u8 0, .int .u8 0, .int .u8 0, .int .u8 0, .int .u8 0, .int .u64 0]) h48 (by first | (rw [Att.c_size _ ha.r]; kernel_rfl) | (rw [Att.c_size _ (show attZero.r.length = 32 from rfl)]; kernel_rfl) | (rw [Att.c_size _ (aRes_len l)]; kernel_rfl)) (by first | (rw [Att.c_size _ ha.r]; rfl) | (rw [Att.c_size _ (show attZero.r.length = 32 from rfl)]; rfl) | (rw [Att.c_size _ (aRes_len l)]; rfl)) (Att.c_one _)) ?_
      clear eV51
      have h53 := kV51.bo h45 (by omega)
      have h54 := kV51.bo h46 (by omega)
      have h55 : BytesAt V51 (.slice Aa a.bytes.length capa) a.bytes := h47.keeps kV51 (fun j hj e => by have := hlta j hj; unfold Own.One at e; omega)
      have h56 := kV51.bo h40 (by omega)
      have K57 := K49.no kV51 (by omega)
      have z58 := kV51.size
      obtain ⟨V59, eV59, kV59⟩ := rowset_step V51 g13 (#[.int .i64 0, .int .i64 0])
      have h60 : V59.heap[g13]? = some (.cells (#[.int .i64 0, .int .i64 0]) 32 (0, 0)) := eV59 ▸ setRow_heap _ _ _ _ _ _ h56
      refine ps_s (o_VoteBack 236 8) (w' := V59) (by rw [← eV59]; exact exec_store_row 32 (.tmp 13) (.tmp 54) (by kernel_rfl) g13 (#[.int .i64 0, .int .i64 0]) (by kernel_rfl) (by kernel_rfl) 32 (#[.int .i64 0, .int .i64 0]) h56 (by kernel_rfl) rfl (by kernel_rfl)) ?_
      clear eV59
      have h61 := kV59.bo h53 (by omega)
      have h62 := kV59.bo h54 (by omega)
      have h63 : BytesAt V59 (.slice Aa a.bytes.length capa) a.bytes := h55.keeps kV59 (fun j hj e => by have := hlta j hj; unfold Own.One at e; omega)
      have h64 := kV59.bo h52 (by omega)
      have K65 := K57.no kV59 (by omega)
      have z66 := kV59.size
      refine ps_end ?_
      refine then_n ?_
      refine sy_sq (part_VoteBack 474) (part_VoteBack 475) ?_
      refine sy_reg ?_
      refine rg_plain 5 (opsAt (part_VoteBack 474)) [0, 1, 2, 3, 4, 5, 6, 7, 8] (by kernel_rfl) (by kernel_rfl) ?_
      refine ps_k (o_VoteBack 474 0) (.slice Aa a.bytes.length capa) ?_
      refine ps_c (o_VoteBack 474 1) 13 #[.slice Aa a.bytes.length capa] Try.func13 ((vReadBlock_fin _ h63 (by omega) (pRes_no att_nopro) rfl).mono ?_)
      rintro e V67 ⟨rfl, kV67⟩
      refine ⟨_, rfl, ?_⟩
      have h68 := kV67.bk h61
      have h69 := kV67.bk h62
      have h70 : BytesAt V67 (.slice Aa a.bytes.length capa) a.bytes := h63.keepsN kV67
      have h71 := kV67.bk h64
      have h72 := kV67.bk h60
      have K73 := K65.nn kV67
      have z74 := kV67.size
      refine ps_k (o_VoteBack 474 2) (.tuple #[.agg (Pro.c proZero), .agg #[.int .i64 (pF a.bytes).1, .int .i64 (pF a.bytes).2]]) ?_
      refine ps_k (o_VoteBack 474 3) (.agg (Pro.c proZero)) ?_
      refine ps_k (o_VoteBack 474 4) (.agg #[.int .i64 (pF a.bytes).1, .int .i64 (pF a.bytes).2]) ?_
      obtain ⟨V75, eV75, g14, eg14, h76, kV75⟩ := alloc_step V67 (#[.int .i64 0, .int .i64 0, .int .u8 0, .int .u8 0, .int .u8 0, .int .u8 0, .int .u8 0, .int .u8 0, .int .u8 0, .int .u8 0, .int .u8 0, .int .u8 0, .int .u8 0, .int .u8 0, .int .u8 0, .int .u8 0, .int .u8 0, .int .u8 0, .int .u8 0, .int .u8 0, .int .u8 0, .int .u8 0, .int .u8 0, .int .u8 0, .int .u8 0, .int .u8 0, .int .u8 0, .int .u8 0, .int .u8 0, .int .u8 0, .int .u8 0, .int .u8 0, .int .u8 0, .int .u8 0, .int .u64 0]) 36
      have n77 : g4 < g14 := eg14 ▸ lt_of_block h68
      have n78 : g5 < g14 := eg14 ▸ lt_of_block h69
      have n79 : g12 < g14 := eg14 ▸ lt_of_block h71
      have n80 : g13 < g14 := eg14 ▸ lt_of_block h72
      have n81 : w.heap.size ≤ g14 := eg14 ▸ K73.size
      refine ps_r (o_VoteBack 474 5) (pT g14 0) (w' := V75) (by rw [← eV75, ← eg14]; exact exec_alloc0 36 (by kernel_rfl) (.agg (#[.int .i64 0, .int .i64 0, .int .u8 0, .int .u8 0, .int .u8 0, .int .u8 0, .int .u8 0, .int .u8 0, .int .u8 0, .int .u8 0, .int .u8 0, .int .u8 0, .int .u8 0, .int .u8 0, .int .u8 0, .int .u8 0, .int .u8 0, .int .u8 0, .int .u8 0, .int .u8 0, .int .u8 0, .int .u8 0, .int .u8 0, .int .u8 0, .int .u8 0, .int .u8 0, .int .u8 0, .int .u8 0, .int .u8 0, .int .u8 0, .int .u8 0, .int .u8 0, .int .u8 0, .int .u8 0, .int .u64 0])) (by kernel_rfl)) ?_
      clear eV75
      have h82 := kV75.bk h68
      have h83 := kV75.bk h69
      have h84 : BytesAt V75 (.slice Aa a.bytes.length capa) a.bytes := h70.keepsN kV75
      have h85 := kV75.bk h71
      have h86 := kV75.bk h72
      have K87 := K73.nn kV75
      have z88 := kV75.size
      obtain ⟨V89, eV89, g15, eg15, h90, kV89⟩ := alloc_step V75 (#[.int .i64 0, .int .i64 0]) 32
      have n91 : g4 < g15 := eg15 ▸ lt_of_block h82
      have n92 : g5 < g15 := eg15 ▸ lt_of_block h83
      have n93 : g12 < g15 := eg15 ▸ lt_of_block h85
      have n94 : g13 < g15 := eg15 ▸ lt_of_block h86
      have n95 : g14 < g15 := eg15 ▸ lt_of_block h76
      have n96 : w.heap.size ≤ g15 := eg15 ▸ K87.size
      refine ps_r (o_VoteBack 474 6) (pT g15 0) (w' := V89) (by rw [← eV89, ← eg15]; exact exec_alloc0 32 (by kernel_rfl) (.agg (#[.int .i64 0, .int .i64 0])) (by kernel_rfl)) ?_
      clear eV89
      have h97 := kV89.bk h82
      have h98 := kV89.bk h83
      have h99 : BytesAt V89 (.slice Aa a.bytes.length capa) a.bytes := h84.keepsN kV89
      have h100 := kV89.bk h85
      have h101 := kV89.bk h86
      have h102 := kV89.bk h76
      have K103 := K87.nn kV89
      have z104 := kV89.size
      obtain ⟨V105, eV105, kV105⟩ := rowset_step V89 g14 ((Pro.c proZero))
      have h106 : V105.heap[g14]? = some (.cells (Pro.c proZero) 36 (0, 0)) := eV105 ▸ setRow_heap _ _ _ _ _ _ h102
      refine ps_s (o_VoteBack 474 7) (w' := V105) (by rw [← eV105]; exact exec_store_row 36 (.tmp 14) (.tmp 58) (by kernel_rfl) g14 ((Pro.c proZero)) (by kernel_rfl) (by kernel_rfl) 36 (#[.int .i64 0, .int .i64 0, .int .u8 0, .int .u8 0, .int .u8 0, .int .u8 0, .int .u8 0, .int .u8 0, .int .u8 0, .int .u8 0, .int .u8 0, .int .u8 0, .int .u8 0, .int .u8 0, .int .u8 0, .int .u8 0, .int .u8 0, .int .u8 0, .int .u8 0, .int .u8 0, .int .u8 0, .int .u8 0, .int .u8 0, .int .u8 0, .int .u8 0, .int .u8 0, .int .u8 0, .int .u8 0, .int .u8 0, .int .u8 0, .int .u8 0, .int .u8 0, .int .u8 0, .int .u8 0, .int .u64 0]) h102 (by first | (rw [Pro.c_size _ hp.r]; kernel_rfl) | (rw [Pro.c_size _ (show proZero.r.length = 32 from rfl)]; kernel_rfl) | (rw [Pro.c_size _ (pRes_len l)]; kernel_rfl)) (by first | (rw [Pro.c_size _ hp.r]; rfl) | (rw [Pro.c_size _ (show proZero.r.length = 32 from rfl)]; rfl) | (rw [Pro.c_size _ (pRes_len l)]; rfl)) (Pro.c_one _)) ?_
      clear eV105
      have h107 := kV105.bo h97 (by omega)
      have h108 := kV105.bo h98 (by omega)
      have h109 : BytesAt V105 (.slice Aa a.bytes.length capa) a.bytes := h99.keeps kV105 (fun j hj e => by have := hlta j hj; unfold Own.One at e; omega)
      have h110 := kV105.bo h100 (by omega)
      have h111 := kV105.bo h101 (by omega)
      have h112 := kV105.bo h90 (by omega)
      have K113 := K103.no kV105 (by omega)
      have z114 := kV105.size
      obtain ⟨V115, eV115, kV115⟩ := rowset_step V105 g15 (#[.int .i64 (pF a.bytes).1, .int .i64 (pF a.bytes).2])
      have h116 : V115.heap[g15]? = some (.cells (#[.int .i64 (pF a.bytes).1, .int .i64 (pF a.bytes).2]) 32 (0, 0)) := eV115 ▸ setRow_heap _ _ _ _ _ _ h112
      refine ps_s (o_VoteBack 474 8) (w' := V115) (by rw [← eV115]; exact exec_store_row 32 (.tmp 15) (.tmp 59) (by kernel_rfl) g15 (#[.int .i64 (pF a.bytes).1, .int .i64 (pF a.bytes).2]) (by kernel_rfl) (by kernel_rfl) 32 (#[.int .i64 0, .int .i64 0]) h112 (by kernel_rfl) rfl (by kernel_rfl)) ?_
      clear eV115
      have h117 := kV115.bo h107 (by omega)
      have h118 := kV115.bo h108 (by omega)
      have h119 : BytesAt V115 (.slice Aa a.bytes.length capa) a.bytes := h109.keeps kV115 (fun j hj e => by have := hlta j hj; unfold Own.One at e; omega)
      have h120 := kV115.bo h110 (by omega)
      have h121 := kV115.bo h111 (by omega)
      have h122 := kV115.bo h106 (by omega)
      have K123 := K113.no kV115 (by omega)
      have z124 := kV115.size
      refine ps_end ?_
      refine sy_a ⟨#[.agg (Att.c a), .agg (Pro.c p), .slice A0 l.length cap0, uN tag, pT g4 0, pT g5 0, undef, undef, .bool false, .bool true, .slice Aa a.bytes.length capa, .int .i64 0, pT g12 0, pT g13 0, pT g14 0, pT g15 0, undef, undef, undef, undef, undef, undef, undef, undef, undef, undef, undef, undef, undef, undef, undef, undef, undef, undef, undef, undef, undef, undef, undef, undef, undef, undef, .bool true, .tuple #[.slice Aa a.bytes.length capa, .int .i64 0], .agg (Att.c a), .tuple #[.slice Aa a.bytes.length capa, .int .i64 0], .slice Aa a.bytes.length capa, .int .i64 0, .int .i64 0, .bool true, .tuple #[.agg (Att.c a), .agg #[.int .i64 0, .int .i64 0]], .slice Aa a.bytes.length capa, .tuple #[.agg (Att.c a), .agg #[.int .i64 0, .int .i64 0]], .agg (Att.c a), .agg #[.int .i64 0, .int .i64 0], .tuple #[.agg (Pro.c proZero), .agg #[.int .i64 (pF a.bytes).1, .int .i64 (pF a.bytes).2]], .slice Aa a.bytes.length capa, .tuple #[.agg (Pro.c proZero), .agg #[.int .i64 (pF a.bytes).1, .int .i64 (pF a.bytes).2]], .agg (Pro.c proZero), .agg #[.int .i64 (pF a.bytes).1, .int .i64 (pF a.bytes).2], undef, undef, undef, undef, undef, undef, undef, undef, undef, undef, undef, undef, undef, undef, undef, undef, undef, undef, undef, undef, undef, undef, undef, undef, undef, undef, undef, undef, undef, undef, undef, undef, undef, undef, undef, undef, undef, undef, undef, undef, undef, undef, undef, undef, undef, undef, undef, undef, undef, undef, undef, undef, undef, undef, undef, undef, undef, undef, undef, undef, undef, undef, undef, undef, undef, undef, undef, undef, undef, undef, undef, undef, undef, undef, undef, undef, undef, undef, undef, undef, undef, undef, undef, undef, undef, undef, undef, undef, undef, undef, undef, undef, undef, undef, undef, undef, undef, undef, undef, undef, undef, undef, undef, undef, undef, undef, undef, undef, undef, undef, undef, undef, undef, undef, undef, undef, undef, undef, undef, undef, undef, undef, undef, undef, undef, undef, undef, undef, undef, undef, undef, undef, undef, undef, undef, undef, undef, undef, undef, undef, undef, undef, undef, undef, undef, undef, undef, undef, undef, undef, undef, undef, undef, undef, undef, undef, undef, undef, undef, undef, undef, undef], []⟩ ?_
      refine then_n ?_
      refine sy_sq (part_VoteBack 950) (part_VoteBack 951) ?_
      refine sy_reg ?_
      refine rg_plain 6 (opsAt (part_VoteBack 950)) [0, 1, 2] (by kernel_rfl) (by kernel_rfl) ?_
      refine ps_p (o_VoteBack 950 0) (.agg (Att.c a)) (exec_load_row 29 (.tmp 4) (by kernel_rfl) g4 (by kernel_rfl) _ _ (0, 0) _ (h117) Try.underlying29 rfl (by rw [Att.c_size _ ha.r]; kernel_rfl)) ?_
      obtain ⟨V125, eV125, g16, eg16, h126, kV125⟩ := alloc_step V115 (#[.int .i64 0, .int .i64 0, .int .i64 0, .int .u8 0, .int .u8 0, .int .u8 0, .int .u8 0, .int .u8 0, .int .u8 0, .int .u8 0, .int .u8 0, .int .u8 0, .int .u8 0, .int .u8 0, .int .u8 0, .int .u8 0, .int .u8 0, .int .u8 0, .int .u8 0, .int .u8 0, .int .u8 0, .int .u8 0, .int .u8 0, .int .u8 0, .int .u8 0, .int .u8 0, .int .u8 0, .int .u8 0, .int .u8 0, .int .u8 0, .int .u8 0, .int .u8 0, .int .u8 0, .int .u8 0, .int .u8 0, .int .u64 0]) 29
      have n127 : g4 < g16 := eg16 ▸ lt_of_block h117
      have n128 : g5 < g16 := eg16 ▸ lt_of_block h118
      have n129 : g12 < g16 := eg16 ▸ lt_of_block h120
      have n130 : g13 < g16 := eg16 ▸ lt_of_block h121
      have n131 : g14 < g16 := eg16 ▸ lt_of_block h122
      have n132 : g15 < g16 := eg16 ▸ lt_of_block h116
      have n133 : w.heap.size ≤ g16 := eg16 ▸ K123.size
      refine ps_r (o_VoteBack 950 1) (pT g16 0) (w' := V125) (by rw [← eV125, ← eg16]; exact exec_alloc0 29 (by kernel_rfl) (.agg (#[.int .i64 0, .int .i64 0, .int .i64 0, .int .u8 0, .int .u8 0, .int .u8 0, .int .u8 0, .int .u8 0, .int .u8 0, .int .u8 0, .int .u8 0, .int .u8 0, .int .u8 0, .int .u8 0, .int .u8 0, .int .u8 0, .int .u8 0, .int .u8 0, .int .u8 0, .int .u8 0, .int .u8 0, .int .u8 0, .int .u8 0, .int .u8 0, .int .u8 0, .int .u8 0, .int .u8 0, .int .u8 0, .int .u8 0, .int .u8 0, .int .u8 0, .int .u8 0, .int .u8 0, .int .u8 0, .int .u8 0, .int .u64 0])) (by kernel_rfl)) ?_
      clear eV125
      have h134 := kV125.bk h117
      have h135 := kV125.bk h118
      have h136 : BytesAt V125 (.slice Aa a.bytes.length capa) a.bytes := h119.keepsN kV125
      have h137 := kV125.bk h120
      have h138 := kV125.bk h121
      have h139 := kV125.bk h122
      have h140 := kV125.bk h116
      have K141 := K123.nn kV125
      have z142 := kV125.size
      obtain ⟨V143, eV143, kV143⟩ := rowset_step V125 g16 ((Att.c a))
      have h144 : V143.heap[g16]? = some (.cells (Att.c a) 29 (0, 0)) := eV143 ▸ setRow_heap _ _ _ _ _ _ h126
      refine ps_s (o_VoteBack 950 2) (w' := V143) (by rw [← eV143]; exact exec_store_row 29 (.tmp 16) (.tmp 60) (by kernel_rfl) g16 ((Att.c a)) (by kernel_rfl) (by kernel_rfl) 29 (#[.int .i64 0, .int .i64 0, .int .i64 0, .int .u8 0, .int .u8 0, .int .u8 0, .int .u8 0, .int .u8 0, .int .u8 0, .int .u8 0, .int .u8 0, .int .u8 0, .int .u8 0, .int .u8 0, .int .u8 0, .int .u8 0, .int .u8 0, .int .u8 0, .int .u8 0, .int .u8 0, .int .u8 0, .int .u8 0, .int .u8 0, .int .u8 0, .int .u8 0, .int .u8 0, .int .u8 0, .int .u8 0, .int .u8 0, .int .u8 0, .int .u8 0, .int .u8 0, .int .u8 0, .int .u8 0, .int .u8 0, .int .u64 0]) h126 (by first | (rw [Att.c_size _ ha.r]; kernel_rfl) | (rw [Att.c_size _ (show attZero.r.length = 32 from rfl)]; kernel_rfl) | (rw [Att.c_size _ (aRes_len l)]; kernel_rfl)) (by first | (rw [Att.c_size _ ha.r]; rfl) | (rw [Att.c_size _ (show attZero.r.length = 32 from rfl)]; rfl) | (rw [Att.c_size _ (aRes_len l)]; rfl)) (Att.c_one _)) ?_
      clear eV143
      have h145 := kV143.bo h134 (by omega)
      have h146 := kV143.bo h135 (by omega)
      have h147 : BytesAt V143 (.slice Aa a.bytes.length capa) a.bytes := h136.keeps kV143 (fun j hj e => by have := hlta j hj; unfold Own.One at e; omega)
      have h148 := kV143.bo h137 (by omega)
      have h149 := kV143.bo h138 (by omega)
      have h150 := kV143.bo h139 (by omega)
      have h151 := kV143.bo h140 (by omega)
      have K152 := K141.no kV143 (by omega)
      have z153 := kV143.size
      refine ps_end ?_
      refine then_n ?_
      refine sy_sq (part_VoteBack 1902) (part_VoteBack 1903) ?_
      refine sy_reg ?_
      refine rg_plain 7 (opsAt (part_VoteBack 1902)) [0, 1, 2] (by kernel_rfl) (by kernel_rfl) ?_
      refine ps_k (o_VoteBack 1902 0) (uN tag) ?_
      refine ps_k (o_VoteBack 1902 1) (pT g16 35) ?_
      obtain ⟨V154, eV154, kV154⟩ := cell_step V143 g16 35 (.int .u64 ((tag : Nat) : Int))
      have h155 : V154.heap[g16]? = some (.cells (Att.c ⟨a.v, a.s, a.t, a.r, tag⟩) 29 (0, 0)) := eV154 ▸ ((heap_setCell_same _ g16 35 _ _ (.int .u64 ((tag : Nat) : Int)) h144).trans (congrArg (fun c => some (Obj.cells c 29 (0, 0))) (show (Att.c a : Array Value).setIfInBounds 35 (.int .u64 ((tag : Nat) : Int)) = Att.c ⟨a.v, a.s, a.t, a.r, tag⟩ from Att.c_settag _ _ ha.r)))
      refine ps_s (o_VoteBack 1902 2) (w' := V154) (by rw [← eV154]; exact exec_store_cell 27 (.tmp 62) (.tmp 61) (by kernel_rfl) g16 35 (by kernel_rfl) (uN tag) (by kernel_rfl) (by kernel_rfl) (by kernel_rfl) (uN a.g) (rc (h144) (Att.c_tag _ ha.r)) (frozen_of_row _ _ _ _ _ h144) (by kernel_rfl)) ?_
      clear eV154
      have h156 := kV154.bo h145 (by omega)
      have h157 := kV154.bo h146 (by omega)
      have h158 : BytesAt V154 (.slice Aa a.bytes.length capa) a.bytes := h147.keeps kV154 (fun j hj e => by have := hlta j hj; unfold Own.One at e; omega)
      have h159 := kV154.bo h148 (by omega)
      have h160 := kV154.bo h149 (by omega)
      have h161 := kV154.bo h150 (by omega)
      have h162 := kV154.bo h151 (by omega)
      have K163 := K152.no kV154 (by omega)
      have z164 := kV154.size
      refine ps_end ?_
      refine then_n ?_
      refine sy_sq (part_VoteBack 3806) (part_VoteBack 3807) ?_
      refine sy_reg ?_
      refine rg_plain 8 (opsAt (part_VoteBack 3806)) [0, 1, 2, 3, 4, 5, 6, 7] (by kernel_rfl) (by kernel_rfl) ?_
      refine ps_p (o_VoteBack 3806 0) (.agg (Att.c a)) (exec_load_row 29 (.tmp 4) (by kernel_rfl) g4 (by kernel_rfl) _ _ (0, 0) _ (h156) Try.underlying29 rfl (by rw [Att.c_size _ ha.r]; kernel_rfl)) ?_
      refine ps_c (o_VoteBack 3806 1) 26 #[.agg (Att.c a)] Try.func26 ((vDigest_ok a _ ha hfa).mono ?_)
      rintro e V165 ⟨rfl, kV165⟩
      refine ⟨_, rfl, ?_⟩
      have h166 := kV165.bk h156
      have h167 := kV165.bk h157
      have h168 : BytesAt V165 (.slice Aa a.bytes.length capa) a.bytes := h158.keepsN kV165
      have h169 := kV165.bk h159
      have h170 := kV165.bk h160
      have h171 := kV165.bk h161
      have h172 := kV165.bk h162
      have h173 := kV165.bk h155
      have K174 := K163.nn kV165
      have z175 := kV165.size
      refine ps_k (o_VoteBack 3806 2) (.tuple #[.agg (B a.dig).toArray, .int .i64 0]) ?_
      refine ps_k (o_VoteBack 3806 3) (.agg (B a.dig).toArray) ?_
      refine ps_k (o_VoteBack 3806 4) (.int .i64 0) ?_
      obtain ⟨V176, eV176, d17, ed17, h177, kV176⟩ := alloc_step V165 (zr_u8_32) 26
      have n178 : g4 < d17 := ed17 ▸ lt_of_block h166
      have n179 : g5 < d17 := ed17 ▸ lt_of_block h167
      have n180 : g12 < d17 := ed17 ▸ lt_of_block h169
      have n181 : g13 < d17 := ed17 ▸ lt_of_block h170
      have n182 : g14 < d17 := ed17 ▸ lt_of_block h171
      have n183 : g15 < d17 := ed17 ▸ lt_of_block h172
      have n184 : g16 < d17 := ed17 ▸ lt_of_block h173
      have n185 : w.heap.size ≤ d17 := ed17 ▸ K174.size
      refine ps_r (o_VoteBack 3806 5) (pT d17 0) (w' := V176) (by rw [← eV176, ← ed17]; exact exec_alloc0 26 (by kernel_rfl) (.agg (zr_u8_32)) (by kernel_rfl)) ?_
      clear eV176
      have h186 := kV176.bk h166
      have h187 := kV176.bk h167
      have h188 : BytesAt V176 (.slice Aa a.bytes.length capa) a.bytes := h168.keepsN kV176
      have h189 := kV176.bk h169
      have h190 := kV176.bk h170
      have h191 := kV176.bk h171
      have h192 := kV176.bk h172
      have h193 := kV176.bk h173
      have K194 := K174.nn kV176
      have z195 := kV176.size
      obtain ⟨V196, eV196, kV196⟩ := rowset_step V176 d17 ((B a.dig).toArray)
      have h197 : V196.heap[d17]? = some (.cells ((B a.dig).toArray) 26 (0, 0)) := eV196 ▸ setRow_heap _ _ _ _ _ _ h177
      refine ps_s (o_VoteBack 3806 6) (w' := V196) (by rw [← eV196]; exact exec_store_row 26 (.tmp 17) (.tmp 66) (by kernel_rfl) d17 ((B a.dig).toArray) (by kernel_rfl) (by kernel_rfl) 26 (zr_u8_32) h177 (by rw [Bz_size]; first | (rw [Att.dig_len]; kernel_rfl) | (rw [Pro.dig_len]; kernel_rfl)) (by rw [Bz_size]; first | (rw [Att.dig_len]; rfl) | (rw [Pro.dig_len]; rfl)) (by rw [List.all_toArray]; exact List.all_eq_true.2 (B_one _))) ?_
      clear eV196
      have h198 := kV196.bo h186 (by omega)
      have h199 := kV196.bo h187 (by omega)
      have h200 : BytesAt V196 (.slice Aa a.bytes.length capa) a.bytes := h188.keeps kV196 (fun j hj e => by have := hlta j hj; unfold Own.One at e; omega)
      have h201 := kV196.bo h189 (by omega)
      have h202 := kV196.bo h190 (by omega)
      have h203 := kV196.bo h191 (by omega)
      have h204 := kV196.bo h192 (by omega)
      have h205 := kV196.bo h193 (by omega)
      have K206 := K194.no kV196 (by omega)
      have z207 := kV196.size
      refine ps_k (o_VoteBack 3806 7) (.int .i64 0) ?_
      refine ps_end ?_
      refine then_n ?_
      refine sy_sq (part_VoteBack 7614) (part_VoteBack 7615) ?_
      refine sy_reg ?_
      refine rg_plain 9 (opsAt (part_VoteBack 7614)) [0, 1, 2, 3, 4, 5, 6, 7] (by kernel_rfl) (by kernel_rfl) ?_
      refine ps_p (o_VoteBack 7614 0) (.agg (Att.c ⟨a.v, a.s, a.t, a.r, tag⟩)) (exec_load_row 29 (.tmp 16) (by kernel_rfl) g16 (by kernel_rfl) _ _ (0, 0) _ (h205) Try.underlying29 rfl (by rw [Att.c_size (⟨a.v, a.s, a.t, a.r, tag⟩) ha.r]; kernel_rfl)) ?_
      refine ps_c (o_VoteBack 7614 1) 26 #[.agg (Att.c ⟨a.v, a.s, a.t, a.r, tag⟩)] Try.func26 ((vDigest_tagged a tag _ ha hfa ht).mono ?_)
      rintro e V208 ⟨rfl, kV208⟩
      refine ⟨_, rfl, ?_⟩
      have h209 := kV208.bk h198
      have h210 := kV208.bk h199
      have h211 : BytesAt V208 (.slice Aa a.bytes.length capa) a.bytes := h200.keepsN kV208
      have h212 := kV208.bk h201
      have h213 := kV208.bk h202
      have h214 := kV208.bk h203
      have h215 := kV208.bk h204
      have h216 := kV208.bk h205
      have h217 := kV208.bk h197
      have K218 := K206.nn kV208
      have z219 := kV208.size
      refine ps_k (o_VoteBack 7614 2) (.tuple #[.agg (B a.dig).toArray, .int .i64 0]) ?_
      refine ps_k (o_VoteBack 7614 3) (.agg (B a.dig).toArray) ?_
      refine ps_k (o_VoteBack 7614 4) (.int .i64 0) ?_
      obtain ⟨V220, eV220, d19, ed19, h221, kV220⟩ := alloc_step V208 (zr_u8_32) 26
      have n222 : g4 < d19 := ed19 ▸ lt_of_block h209
      have n223 : g5 < d19 := ed19 ▸ lt_of_block h210
      have n224 : g12 < d19 := ed19 ▸ lt_of_block h212
      have n225 : g13 < d19 := ed19 ▸ lt_of_block h213
      have n226 : g14 < d19 := ed19 ▸ lt_of_block h214
      have n227 : g15 < d19 := ed19 ▸ lt_of_block h215
      have n228 : g16 < d19 := ed19 ▸ lt_of_block h216
      have n229 : d17 < d19 := ed19 ▸ lt_of_block h217
      have n230 : w.heap.size ≤ d19 := ed19 ▸ K218.size
      refine ps_r (o_VoteBack 7614 5) (pT d19 0) (w' := V220) (by rw [← eV220, ← ed19]; exact exec_alloc0 26 (by kernel_rfl) (.agg (zr_u8_32)) (by kernel_rfl)) ?_
      clear eV220
      have h231 := kV220.bk h209
      have h232 := kV220.bk h210
      have h233 : BytesAt V220 (.slice Aa a.bytes.length capa) a.bytes := h211.keepsN kV220
      have h234 := kV220.bk h212
      have h235 := kV220.bk h213
      have h236 := kV220.bk h214
      have h237 := kV220.bk h215
      have h238 := kV220.bk h216
      have h239 := kV220.bk h217
      have K240 := K218.nn kV220
      have z241 := kV220.size
      obtain ⟨V242, eV242, kV242⟩ := rowset_step V220 d19 ((B a.dig).toArray)
      have h243 : V242.heap[d19]? = some (.cells ((B a.dig).toArray) 26 (0, 0)) := eV242 ▸ setRow_heap _ _ _ _ _ _ h221
      refine ps_s (o_VoteBack 7614 6) (w' := V242) (by rw [← eV242]; exact exec_store_row 26 (.tmp 19) (.tmp 71) (by kernel_rfl) d19 ((B a.dig).toArray) (by kernel_rfl) (by kernel_rfl) 26 (zr_u8_32) h221 (by rw [Bz_size]; first | (rw [Att.dig_len]; kernel_rfl) | (rw [Pro.dig_len]; kernel_rfl)) (by rw [Bz_size]; first | (rw [Att.dig_len]; rfl) | (rw [Pro.dig_len]; rfl)) (by rw [List.all_toArray]; exact List.all_eq_true.2 (B_one _))) ?_
      clear eV242
      have h244 := kV242.bo h231 (by omega)
      have h245 := kV242.bo h232 (by omega)
      have h246 : BytesAt V242 (.slice Aa a.bytes.length capa) a.bytes := h233.keeps kV242 (fun j hj e => by have := hlta j hj; unfold Own.One at e; omega)
      have h247 := kV242.bo h234 (by omega)
      have h248 := kV242.bo h235 (by omega)
      have h249 := kV242.bo h236 (by omega)
      have h250 := kV242.bo h237 (by omega)
      have h251 := kV242.bo h238 (by omega)
      have h252 := kV242.bo h239 (by omega)
      have K253 := K240.no kV242 (by omega)
      have z254 := kV242.size
      refine ps_k (o_VoteBack 7614 7) (.int .i64 0) ?_
      refine ps_end ?_
      refine then_n ?_
      refine sy_sq (part_VoteBack 15230) (part_VoteBack 15231) ?_
      refine sy_reg ?_
      refine rg_plain 10 (opsAt (part_VoteBack 15230)) [0, 1, 2, 3, 4, 5, 6] (by kernel_rfl) (by kernel_rfl) ?_
      refine ps_k (o_VoteBack 15230 0) (.slice Aa a.bytes.length capa) ?_
      refine ps_p (o_VoteBack 15230 1) (iN a.bytes.length) (exec_len (.tmp 73) 22 _ (by kernel_rfl) Try.underlying22 Aa a.bytes.length capa (by kernel_rfl)) ?_
      refine ps_k (o_VoteBack 15230 2) (pT g4 35) ?_
      refine ps_p (o_VoteBack 15230 3) (uN a.g) (exec_ld 27 (.tmp 75) g4 35 Try.underlying27 (rc (h244) (Att.c_tag _ ha.r))) ?_
      refine ps_c (o_VoteBack 15230 4) 40 #[uN a.g] Try.func40 ((cSize_ok a.g ha.g _).mono ?_)
      rintro e V255 ⟨rfl, kV255⟩
      refine ⟨_, rfl, ?_⟩
      have h256 := kV255.bk h244
      have h257 := kV255.bk h245
      have h258 : BytesAt V255 (.slice Aa a.bytes.length capa) a.bytes := h246.keepsN kV255
      have h259 := kV255.bk h247
      have h260 := kV255.bk h248
      have h261 := kV255.bk h249
      have h262 := kV255.bk h250
      have h263 := kV255.bk h251
      have h264 := kV255.bk h252
      have h265 := kV255.bk h243
      have K266 := K253.nn kV255
      have z267 := kV255.size
      refine ps_p (o_VoteBack 15230 5) (iN a.bare.length) (exec_cast (congrArg (Value.int .i64) (wrapI (((a.bytes.length : Nat) : Int) - (((Cod.enc a.g).length : Nat) : Int)) _ (by omega) (by omega) (by omega))) (by kernel_rfl)) ?_
      refine ps_k (o_VoteBack 15230 6) (iN a.bare.length) ?_
      refine ps_end ?_
      refine sy_a ⟨#[.agg (Att.c a), .agg (Pro.c p), .slice A0 l.length cap0, uN tag, pT g4 0, pT g5 0, undef, undef, .bool false, .bool true, .slice Aa a.bytes.length capa, .int .i64 0, pT g12 0, pT g13 0, pT g14 0, pT g15 0, pT g16 0, pT d17 0, .int .i64 0, pT d19 0, .int .i64 0, iN a.bare.length, undef, undef, undef, undef, undef, undef, undef, undef, undef, undef, undef, undef, undef, undef, undef, undef, undef, undef, undef, undef, .bool true, .tuple #[.slice Aa a.bytes.length capa, .int .i64 0], .agg (Att.c a), .tuple #[.slice Aa a.bytes.length capa, .int .i64 0], .slice Aa a.bytes.length capa, .int .i64 0, .int .i64 0, .bool true, .tuple #[.agg (Att.c a), .agg #[.int .i64 0, .int .i64 0]], .slice Aa a.bytes.length capa, .tuple #[.agg (Att.c a), .agg #[.int .i64 0, .int .i64 0]], .agg (Att.c a), .agg #[.int .i64 0, .int .i64 0], .tuple #[.agg (Pro.c proZero), .agg #[.int .i64 (pF a.bytes).1, .int .i64 (pF a.bytes).2]], .slice Aa a.bytes.length capa, .tuple #[.agg (Pro.c proZero), .agg #[.int .i64 (pF a.bytes).1, .int .i64 (pF a.bytes).2]], .agg (Pro.c proZero), .agg #[.int .i64 (pF a.bytes).1, .int .i64 (pF a.bytes).2], .agg (Att.c a), uN tag, pT g16 35, .tuple #[.agg (B a.dig).toArray, .int .i64 0], .agg (Att.c a), .tuple #[.agg (B a.dig).toArray, .int .i64 0], .agg (B a.dig).toArray, .int .i64 0, .tuple #[.agg (B a.dig).toArray, .int .i64 0], .agg (Att.c ⟨a.v, a.s, a.t, a.r, tag⟩), .tuple #[.agg (B a.dig).toArray, .int .i64 0], .agg (B a.dig).toArray, .int .i64 0, .slice Aa a.bytes.length capa, iN a.bytes.length, pT g4 35, uN a.g, iN ((Cod.enc a.g).length), iN a.bare.length, undef, undef, undef, undef, undef, undef, undef, undef, undef, undef, undef, undef, undef, undef, undef, undef, undef, undef, undef, undef, undef, undef, undef, undef, undef, undef, undef, undef, undef, undef, undef, undef, undef, undef, undef, undef, undef, undef, undef, undef, undef, undef, undef, undef, undef, undef, undef, undef, undef, undef, undef, undef, undef, undef, undef, undef, undef, undef, undef, undef, undef, undef, undef, undef, undef, undef, undef, undef, undef, undef, undef, undef, undef, undef, undef, undef, undef, undef, undef, undef, undef, undef, undef, undef, undef, undef, undef, undef, undef, undef, undef, undef, undef, undef, undef, undef, undef, undef, undef, undef, undef, undef, undef, undef, undef, undef, undef, undef, undef, undef, undef, undef, undef, undef, undef, undef, undef, undef, undef, undef, undef, undef, undef, undef, undef, undef, undef, undef, undef, undef, undef, undef, undef, undef, undef, undef, undef, undef, undef, undef, undef, undef, undef], []⟩ ?_
      refine then_n ?_
      refine sy_sq (part_VoteBack 30462) (part_VoteBack 30463) ?_
      refine sy_np ?_
      refine sy_reg ?_
      refine an_begin 11 30 (opsAt (part_VoteBack 30462)) (fun W => (W.heap[g12]? = some (.cells (Att.c a) 29 (0, 0))) ∧ (W.heap[g13]? = some (.cells (#[.int .i64 0, .int .i64 0]) 32 (0, 0))) ∧ (W.heap[g15]? = some (.cells (#[.int .i64 (pF a.bytes).1, .int .i64 (pF a.bytes).2]) 32 (0, 0))) ∧ (W.heap[d17]? = some (.cells ((B a.dig).toArray) 26 (0, 0))) ∧ (W.heap[d19]? = some (.cells ((B a.dig).toArray) 26 (0, 0))) ∧ (W.heap[g4]? = some (.cells (Att.c a) 29 (0, 0))) ∧ (BytesAt W (.slice Aa a.bytes.length capa) a.bytes)) #[false, false, false, false, false, false, false, false, false, false, false, false, false, false, false, false, false, false, false, false, false, false, false, false, false, false, false, false, false, false] (by kernel_rfl) (by kernel_rfl) (by kernel_rfl) (by kernel_rfl) ?_
      obtain ⟨V268, eV268, kV268⟩ := drew_step V255
      rw [eV268]
      clear eV268
      have h269 := kV268.bk h256
      have h270 := kV268.bk h257
      have h271 : BytesAt V268 (.slice Aa a.bytes.length capa) a.bytes := h258.keepsN kV268
      have h272 := kV268.bk h259
      have h273 := kV268.bk h260
      have h274 := kV268.bk h261
      have h275 := kV268.bk h262
      have h276 := kV268.bk h263
      have h277 := kV268.bk h264
      have h278 := kV268.bk h265
      have K279 := K266.nn kV268
      have z280 := kV268.size
      refine an_v 0 (o_VoteBack 30462 0) (.agg #[.int .i64 0, .int .i64 0]) (fun W hS => exec_load_row 32 (.tmp 13) (by kernel_rfl) g13 (by kernel_rfl) _ _ (0, 0) _ (hS.2.1) Try.underlying32 rfl (by kernel_rfl)) ⟨h272, h273, h275, h277, h278, h269, h271⟩ ?_
      refine an_k 1 (o_VoteBack 30462 1) (.agg #[.int .i64 0, .int .i64 0]) ⟨h272, h273, h275, h277, h278, h269, h271⟩ ?_
      refine an_v 2 (o_VoteBack 30462 2) (.bool false) (fun W hS => exec_cast (congrArg Value.bool (by simp)) (exec_binop .neq 32 32 (.tmp 79) (.tmp 80) (by kernel_rfl) (.agg #[.int .i64 0, .int .i64 0]) (.agg #[.int .i64 0, .int .i64 0]) _ (by kernel_rfl) (by kernel_rfl) (run_eqGuard_agg _ _ _ _ _ _ _ fault_guard) (fault_ne _ _ _ _ _))) ⟨h272, h273, h275, h277, h278, h269, h271⟩ ?_
      refine an_k 3 (o_VoteBack 30462 3) (.bool false) ⟨h272, h273, h275, h277, h278, h269, h271⟩ ?_
      refine an_v 4 (o_VoteBack 30462 4) (.agg (Att.c a)) (fun W hS => exec_load_row 29 (.tmp 12) (by kernel_rfl) g12 (by kernel_rfl) _ _ (0, 0) _ (hS.1) Try.underlying29 rfl (by rw [Att.c_size _ ha.r]; kernel_rfl)) ⟨h272, h273, h275, h277, h278, h269, h271⟩ ?_
      refine an_v 5 (o_VoteBack 30462 5) (.agg (Att.c a)) (fun W hS => exec_load_row 29 (.tmp 4) (by kernel_rfl) g4 (by kernel_rfl) _ _ (0, 0) _ (hS.2.2.2.2.2.1) Try.underlying29 rfl (by rw [Att.c_size _ ha.r]; kernel_rfl)) ⟨h272, h273, h275, h277, h278, h269, h271⟩ ?_
      refine an_v 6 (o_VoteBack 30462 6) (.bool false) (fun W hS => exec_cast (congrArg Value.bool (by simp)) (exec_binop .neq 29 29 (.tmp 83) (.tmp 84) (by kernel_rfl) (.agg (Att.c a)) (.agg (Att.c a)) _ (by kernel_rfl) (by kernel_rfl) (run_eqGuard_agg _ _ _ _ _ _ _ att_guard) (att_ne _ _ ha.r ha.r _))) ⟨h272, h273, h275, h277, h278, h269, h271⟩ ?_
      refine an_k 7 (o_VoteBack 30462 7) (.bool false) ⟨h272, h273, h275, h277, h278, h269, h271⟩ ?_
      refine an_k 8 (o_VoteBack 30462 8) (.bool false) ⟨h272, h273, h275, h277, h278, h269, h271⟩ ?_
      refine an_v 9 (o_VoteBack 30462 9) (.agg #[.int .i64 (pF a.bytes).1, .int .i64 (pF a.bytes).2]) (fun W hS => exec_load_row 32 (.tmp 15) (by kernel_rfl) g15 (by kernel_rfl) _ _ (0, 0) _ (hS.2.2.1) Try.underlying32 rfl (by kernel_rfl)) ⟨h272, h273, h275, h277, h278, h269, h271⟩ ?_
      refine an_k 10 (o_VoteBack 30462 10) (.agg #[.int .i64 0, .int .i64 0]) ⟨h272, h273, h275, h277, h278, h269, h271⟩ ?_
      refine an_v 11 (o_VoteBack 30462 11) (.bool false) (fun W hS => exec_cast (congrArg Value.bool (fault_off att_nopro)) (exec_binop .eql 32 32 (.tmp 88) (.tmp 89) (by kernel_rfl) (.agg #[.int .i64 (pF a.bytes).1, .int .i64 (pF a.bytes).2]) (.agg #[.int .i64 0, .int .i64 0]) _ (by kernel_rfl) (by kernel_rfl) (run_eqGuard_agg _ _ _ _ _ _ _ fault_guard) (fault_eq _ _ _ _ _))) ⟨h272, h273, h275, h277, h278, h269, h271⟩ ?_
      refine an_k 12 (o_VoteBack 30462 12) (.bool false) ⟨h272, h273, h275, h277, h278, h269, h271⟩ ?_
      refine an_k 13 (o_VoteBack 30462 13) (.bool false) ⟨h272, h273, h275, h277, h278, h269, h271⟩ ?_
      refine an_k 14 (o_VoteBack 30462 14) (iN a.bare.length) ⟨h272, h273, h275, h277, h278, h269, h271⟩ ?_
      refine an_v 15 (o_VoteBack 30462 15) (.bool false) (fun W hS => exec_cast (congrArg Value.bool (show (decide ((((a.bare.length : Nat) : Int)) < ((0) : Int))) = false from decide_eq_false (by omega))) (by kernel_rfl)) ⟨h272, h273, h275, h277, h278, h269, h271⟩ ?_
      refine an_k 16 (o_VoteBack 30462 16) (.bool false) ⟨h272, h273, h275, h277, h278, h269, h271⟩ ?_
      refine an_k 17 (o_VoteBack 30462 17) (.bool false) ⟨h272, h273, h275, h277, h278, h269, h271⟩ ?_
      refine an_v 18 (o_VoteBack 30462 18) (.agg ((B a.dig).toArray)) (fun W hS => exec_load_row 26 (.tmp 17) (by kernel_rfl) d17 (by kernel_rfl) _ _ (0, 0) _ (hS.2.2.2.1) Try.underlying26 rfl (by rw [Bz_size, Att.dig_len a]; kernel_rfl)) ⟨h272, h273, h275, h277, h278, h269, h271⟩ ?_
      refine an_k 19 (o_VoteBack 30462 19) (.slice Aa a.bytes.length capa) ⟨h272, h273, h275, h277, h278, h269, h271⟩ ?_
      refine an_k 20 (o_VoteBack 30462 20) (iN a.bare.length) ⟨h272, h273, h275, h277, h278, h269, h271⟩ ?_
      refine an_v 21 (o_VoteBack 30462 21) (.slice Aa a.bare.length capa) (fun W hS => exec_slice_to 22 (.tmp 98) (.tmp 99) (by kernel_rfl) Aa a.bytes.length capa (by kernel_rfl) .i64 a.bare.length (by kernel_rfl) 5 Try.underlying22 (by kernel_rfl) (by omega)) ⟨h272, h273, h275, h277, h278, h269, h271⟩ ?_
      refine an_o 22 ?_
      refine on_c (o_VoteBack 30462 22) 38 #[.slice Aa a.bare.length capa] Try.func38 ((ksum_att a _ ha h271).mono ?_)
      rintro e V281 ⟨rfl, kV281⟩
      refine ⟨_, rfl, ?_⟩
      have h282 := kV281.bk h269
      have h283 := kV281.bk h270
      have h284 : BytesAt V281 (.slice Aa a.bytes.length capa) a.bytes := h271.keepsN kV281
      have h285 := kV281.bk h272
      have h286 := kV281.bk h273
      have h287 := kV281.bk h274
      have h288 := kV281.bk h275
      have h289 := kV281.bk h276
      have h290 := kV281.bk h277
      have h291 := kV281.bk h278
      have K292 := K279.nn kV281
      have z293 := kV281.size
      refine ⟨⟨h285, h286, h288, h290, h291, h282, h284⟩, ?_⟩
      refine an_v 23 (o_VoteBack 30462 23) (.bool false) (fun W hS => exec_cast (congrArg Value.bool (by simp)) (exec_binop .neq 26 26 (.tmp 97) (.tmp 101) (by kernel_rfl) (.agg (B a.dig).toArray) (.agg (B a.dig).toArray) _ (by kernel_rfl) (by kernel_rfl) (run_eqGuard_agg _ _ _ _ _ _ _ hash_guard) (hash_ne _ _ (Att.dig_len a) (Att.dig_len a) _))) ⟨h285, h286, h288, h290, h291, h282, h284⟩ ?_
      refine an_k 24 (o_VoteBack 30462 24) (.bool false) ⟨h285, h286, h288, h290, h291, h282, h284⟩ ?_
      refine an_k 25 (o_VoteBack 30462 25) (.bool false) ⟨h285, h286, h288, h290, h291, h282, h284⟩ ?_
      refine an_v 26 (o_VoteBack 30462 26) (.agg ((B a.dig).toArray)) (fun W hS => exec_load_row 26 (.tmp 19) (by kernel_rfl) d19 (by kernel_rfl) _ _ (0, 0) _ (hS.2.2.2.2.1) Try.underlying26 rfl (by rw [Bz_size, Att.dig_len a]; kernel_rfl)) ⟨h285, h286, h288, h290, h291, h282, h284⟩ ?_
      refine an_v 27 (o_VoteBack 30462 27) (.agg ((B a.dig).toArray)) (fun W hS => exec_load_row 26 (.tmp 17) (by kernel_rfl) d17 (by kernel_rfl) _ _ (0, 0) _ (hS.2.2.2.1) Try.underlying26 rfl (by rw [Bz_size, Att.dig_len a]; kernel_rfl)) ⟨h285, h286, h288, h290, h291, h282, h284⟩ ?_
      refine an_v 28 (o_VoteBack 30462 28) (.bool false) (fun W hS => exec_cast (congrArg Value.bool (by simp)) (exec_binop .neq 26 26 (.tmp 105) (.tmp 106) (by kernel_rfl) (.agg (B a.dig).toArray) (.agg (B a.dig).toArray) _ (by kernel_rfl) (by kernel_rfl) (run_eqGuard_agg _ _ _ _ _ _ _ hash_guard) (hash_ne _ _ (Att.dig_len a) (Att.dig_len a) _))) ⟨h285, h286, h288, h290, h291, h282, h284⟩ ?_
      refine an_k 29 (o_VoteBack 30462 29) (.bool false) ⟨h285, h286, h288, h290, h291, h282, h284⟩ ?_
      refine an_end (by kernel_rfl) ?_
      refine sy_a ⟨#[.agg (Att.c a), .agg (Pro.c p), .slice A0 l.length cap0, uN tag, pT g4 0, pT g5 0, undef, undef, .bool false, .bool true, .slice Aa a.bytes.length capa, .int .i64 0, pT g12 0, pT g13 0, pT g14 0, pT g15 0, pT g16 0, pT d17 0, .int .i64 0, pT d19 0, .int .i64 0, iN a.bare.length, undef, undef, undef, undef, undef, undef, undef, undef, undef, undef, undef, undef, undef, undef, undef, undef, undef, undef, undef, undef, .bool true, .tuple #[.slice Aa a.bytes.length capa, .int .i64 0], .agg (Att.c a), .tuple #[.slice Aa a.bytes.length capa, .int .i64 0], .slice Aa a.bytes.length capa, .int .i64 0, .int .i64 0, .bool true, .tuple #[.agg (Att.c a), .agg #[.int .i64 0, .int .i64 0]], .slice Aa a.bytes.length capa, .tuple #[.agg (Att.c a), .agg #[.int .i64 0, .int .i64 0]], .agg (Att.c a), .agg #[.int .i64 0, .int .i64 0], .tuple #[.agg (Pro.c proZero), .agg #[.int .i64 (pF a.bytes).1, .int .i64 (pF a.bytes).2]], .slice Aa a.bytes.length capa, .tuple #[.agg (Pro.c proZero), .agg #[.int .i64 (pF a.bytes).1, .int .i64 (pF a.bytes).2]], .agg (Pro.c proZero), .agg #[.int .i64 (pF a.bytes).1, .int .i64 (pF a.bytes).2], .agg (Att.c a), uN tag, pT g16 35, .tuple #[.agg (B a.dig).toArray, .int .i64 0], .agg (Att.c a), .tuple #[.agg (B a.dig).toArray, .int .i64 0], .agg (B a.dig).toArray, .int .i64 0, .tuple #[.agg (B a.dig).toArray, .int .i64 0], .agg (Att.c ⟨a.v, a.s, a.t, a.r, tag⟩), .tuple #[.agg (B a.dig).toArray, .int .i64 0], .agg (B a.dig).toArray, .int .i64 0, .slice Aa a.bytes.length capa, iN a.bytes.length, pT g4 35, uN a.g, iN ((Cod.enc a.g).length), iN a.bare.length, .agg #[.int .i64 0, .int .i64 0], .agg #[.int .i64 0, .int .i64 0], .bool false, .bool false, .agg (Att.c a), .agg (Att.c a), .bool false, .bool false, .bool false, .agg #[.int .i64 (pF a.bytes).1, .int .i64 (pF a.bytes).2], .agg #[.int .i64 0, .int .i64 0], .bool false, .bool false, .bool false, iN a.bare.length, .bool false, .bool false, .bool false, .agg ((B a.dig).toArray), .slice Aa a.bytes.length capa, iN a.bare.length, .slice Aa a.bare.length capa, .agg (B a.dig).toArray, .bool false, .bool false, .bool false, .agg ((B a.dig).toArray), .agg ((B a.dig).toArray), .bool false, .bool false, undef, undef, undef, undef, undef, undef, undef, undef, undef, undef, undef, undef, undef, undef, undef, undef, undef, undef, undef, undef, undef, undef, undef, undef, undef, undef, undef, undef, undef, undef, undef, undef, undef, undef, undef, undef, undef, undef, undef, undef, undef, undef, undef, undef, undef, undef, undef, undef, undef, undef, undef, undef, undef, undef, undef, undef, undef, undef, undef, undef, undef, undef, undef, undef, undef, undef, undef, undef, undef, undef, undef, undef, undef, undef, undef, undef, undef, undef, undef, undef, undef, undef, undef, undef, undef, undef, undef, undef, undef, undef, undef, undef, undef, undef, undef, undef, undef, undef, undef, undef, undef, undef, undef, undef, undef, undef, undef, undef, undef, undef, undef, undef, undef], []⟩ ?_
      refine then_n ?_
      refine sy_n (.tmp 108) (part_VoteBack 60926) (part_VoteBack 60927) ?_
      refine sy_sk ?_
      exact ⟨rfl, .slice Aa a.bytes.length capa, .int .i64 0, .pointer (some ⟨g12, 0, none⟩), .pointer (some ⟨g13, 0, none⟩), .pointer (some ⟨g14, 0, none⟩), .pointer (some ⟨g15, 0, none⟩), .pointer (some ⟨g16, 0, none⟩), .pointer (some ⟨d17, 0, none⟩), .int .i64 0, .pointer (some ⟨d19, 0, none⟩), .int .i64 0, .int .i64 ((a.bare.length : Nat) : Int), .tuple #[.slice Aa a.bytes.length capa, .int .i64 0], .agg (Att.c a), .tuple #[.slice Aa a.bytes.length capa, .int .i64 0], .slice Aa a.bytes.length capa, .int .i64 0, .int .i64 0, .bool true, .tuple #[.agg (Att.c a), .agg #[.int .i64 0, .int .i64 0]], .slice Aa a.bytes.length capa, .tuple #[.agg (Att.c a), .agg #[.int .i64 0, .int .i64 0]], .agg (Att.c a), .agg #[.int .i64 0, .int .i64 0], .tuple #[.agg (Pro.c proZero), .agg #[.int .i64 (pF a.bytes).1, .int .i64 (pF a.bytes).2]], .slice Aa a.bytes.length capa, .tuple #[.agg (Pro.c proZero), .agg #[.int .i64 (pF a.bytes).1, .int .i64 (pF a.bytes).2]], .agg (Pro.c proZero), .agg #[.int .i64 (pF a.bytes).1, .int .i64 (pF a.bytes).2], .agg (Att.c a), .int .u64 ((tag : Nat) : Int), .pointer (some ⟨g16, 35, none⟩), .tuple #[.agg (B a.dig).toArray, .int .i64 0], .agg (Att.c a), .tuple #[.agg (B a.dig).toArray, .int .i64 0], .agg (B a.dig).toArray, .int .i64 0, .tuple #[.agg (B a.dig).toArray, .int .i64 0], .agg (Att.c ⟨a.v, a.s, a.t, a.r, tag⟩), .tuple #[.agg (B a.dig).toArray, .int .i64 0], .agg (B a.dig).toArray, .int .i64 0, .slice Aa a.bytes.length capa, .int .i64 ((a.bytes.length : Nat) : Int), .pointer (some ⟨g4, 35, none⟩), .int .u64 ((a.g : Nat) : Int), .int .i64 (((Cod.enc a.g).length : Nat) : Int), .int .i64 ((a.bare.length : Nat) : Int), .agg #[.int .i64 0, .int .i64 0], .agg #[.int .i64 0, .int .i64 0], .bool false, .bool false, .agg (Att.c a), .agg (Att.c a), .bool false, .bool false, .bool false, .agg #[.int .i64 (pF a.bytes).1, .int .i64 (pF a.bytes).2], .agg #[.int .i64 0, .int .i64 0], .bool false, .bool false, .bool false, .int .i64 ((a.bare.length : Nat) : Int), .bool false, .bool false, .bool false, .agg ((B a.dig).toArray), .slice Aa a.bytes.length capa, .int .i64 ((a.bare.length : Nat) : Int), .slice Aa a.bare.length capa, .agg (B a.dig).toArray, .bool false, .bool false, .bool false, .agg ((B a.dig).toArray), .agg ((B a.dig).toArray), .bool false, .bool false, by kernel_rfl, h282, h283, by omega, K292⟩
    · refine sy_sq (part_VoteBack 28) (part_VoteBack 29) ?_
      refine sy_reg ?_
      refine rg_plain 2 (opsAt (part_VoteBack 28)) [0, 1, 2, 3, 4, 5, 6] (by kernel_rfl) (by kernel_rfl) ?_
      refine ps_p (o_VoteBack 28 0) (.agg (Att.c a)) (exec_load_row 29 (.tmp 4) (by kernel_rfl) g4 (by kernel_rfl) _ _ (0, 0) _ (h14) Try.underlying29 rfl (by rw [Att.c_size _ ha.r]; kernel_rfl)) ?_
      refine ps_c (o_VoteBack 28 1) 16 #[.agg (Att.c a)] Try.func16 ((vBytes_bad a _ ha hfa).mono ?_)
      rintro e V295 ⟨rfl, kV295⟩
      refine ⟨_, rfl, ?_⟩
      have h296 := kV295.bk h14
      have h297 := kV295.bk h15
      have K298 := K16.nn kV295
      have z299 := kV295.size
      refine ps_k (o_VoteBack 28 2) (.tuple #[.slice none 0 0, .int .i64 3]) ?_
      refine ps_k (o_VoteBack 28 3) (.slice none 0 0) ?_
      refine ps_k (o_VoteBack 28 4) (.int .i64 3) ?_
      refine ps_k (o_VoteBack 28 5) (.slice none 0 0) ?_
      refine ps_k (o_VoteBack 28 6) (.int .i64 3) ?_
      refine ps_end ?_
      refine then_n ?_
      refine sy_sq (part_VoteBack 58) (part_VoteBack 59) ?_
      refine sy_reg ?_
      refine rg_plain 3 (opsAt (part_VoteBack 58)) [0, 1] (by kernel_rfl) (by kernel_rfl) ?_
      refine ps_k (o_VoteBack 58 0) (.int .i64 3) ?_
      refine ps_k (o_VoteBack 58 1) (.bool false) ?_
      refine ps_end ?_
      refine then_n ?_
      refine sy_n (.tmp 49) (part_VoteBack 118) (part_VoteBack 119) ?_
      refine sy_sk ?_
      exact ⟨rfl, .slice none 0 0, .int .i64 3, undef, undef, undef, undef, undef, undef, undef, undef, undef, undef, .tuple #[.slice none 0 0, .int .i64 3], .agg (Att.c a), .tuple #[.slice none 0 0, .int .i64 3], .slice none 0 0, .int .i64 3, .int .i64 3, .bool false, undef, undef, undef, undef, undef, undef, undef, undef, undef, undef, undef, undef, undef, undef, undef, undef, undef, undef, undef, undef, undef, undef, undef, undef, undef, undef, undef, undef, undef, undef, undef, undef, undef, undef, undef, undef, undef, undef, undef, undef, undef, undef, undef, undef, undef, undef, undef, undef, undef, undef, undef, undef, undef, undef, undef, undef, undef, undef, undef, by kernel_rfl, h296, h297, by omega, K298⟩
  rintro aQ V300 ⟨u2_10, u2_11, u2_12, u2_13, u2_14, u2_15, u2_16, u2_17, u2_18, u2_19, u2_20, u2_21, u2_43, u2_44, u2_45, u2_46, u2_47, u2_48, u2_49, u2_50, u2_51, u2_52, u2_53, u2_54, u2_55, u2_56, u2_57, u2_58, u2_59, u2_60, u2_61, u2_62, u2_63, u2_64, u2_65, u2_66, u2_67, u2_68, u2_69, u2_70, u2_71, u2_72, u2_73, u2_74, u2_75, u2_76, u2_77, u2_78, u2_79, u2_80, u2_81, u2_82, u2_83, u2_84, u2_85, u2_86, u2_87, u2_88, u2_89, u2_90, u2_91, u2_92, u2_93, u2_94, u2_95, u2_96, u2_97, u2_98, u2_99, u2_100, u2_101, u2_102, u2_103, u2_104, u2_105, u2_106, u2_107, u2_108, rfl, h301, h302, z303, K304⟩
  refine then_n ?_
  refine sy_sq (part_VoteBack 30) (part_VoteBack 31) ?_
  refine sy_cut (fun aQ VQ => ∃ (u3_22 u3_23 u3_24 u3_25 u3_26 u3_27 u3_28 u3_29 u3_30 u3_31 u3_32 u3_33 u3_109 u3_110 u3_111 u3_112 u3_113 u3_114 u3_115 u3_116 u3_117 u3_118 u3_119 u3_120 u3_121 u3_122 u3_123 u3_124 u3_125 u3_126 u3_127 u3_128 u3_129 u3_130 u3_131 u3_132 u3_133 u3_134 u3_135 u3_136 u3_137 u3_138 u3_139 u3_140 u3_141 u3_142 u3_143 u3_144 u3_145 u3_146 u3_147 u3_148 u3_149 u3_150 u3_151 u3_152 u3_153 u3_154 u3_155 u3_156 u3_157 u3_158 u3_159 u3_160 u3_161 u3_162 u3_163 u3_164 u3_165 u3_166 u3_167 u3_168 u3_169 u3_170 u3_171 u3_172 u3_173 u3_174 : Value), (aQ = ⟨#[.agg (Att.c a), .agg (Pro.c p), .slice A0 l.length cap0, .int .u64 ((tag : Nat) : Int), .pointer (some ⟨g4, 0, none⟩), .pointer (some ⟨g5, 0, none⟩), undef, undef, .bool false, .bool true, u2_10, u2_11, u2_12, u2_13, u2_14, u2_15, u2_16, u2_17, u2_18, u2_19, u2_20, u2_21, u3_22, u3_23, u3_24, u3_25, u3_26, u3_27, u3_28, u3_29, u3_30, u3_31, u3_32, u3_33, undef, undef, undef, undef, undef, undef, undef, undef, .bool true, u2_43, u2_44, u2_45, u2_46, u2_47, u2_48, u2_49, u2_50, u2_51, u2_52, u2_53, u2_54, u2_55, u2_56, u2_57, u2_58, u2_59, u2_60, u2_61, u2_62, u2_63, u2_64, u2_65, u2_66, u2_67, u2_68, u2_69, u2_70, u2_71, u2_72, u2_73, u2_74, u2_75, u2_76, u2_77, u2_78, u2_79, u2_80, u2_81, u2_82, u2_83, u2_84, u2_85, u2_86, u2_87, u2_88, u2_89, u2_90, u2_91, u2_92, u2_93, u2_94, u2_95, u2_96, u2_97, u2_98, u2_99, u2_100, u2_101, u2_102, u2_103, u2_104, u2_105, u2_106, u2_107, u2_108, u3_109, u3_110, u3_111, u3_112, u3_113, u3_114, u3_115, u3_116, u3_117, u3_118, u3_119, u3_120, u3_121, u3_122, u3_123, u3_124, u3_125, u3_126, u3_127, u3_128, u3_129, u3_130, u3_131, u3_132, u3_133, u3_134, u3_135, u3_136, u3_137, u3_138, u3_139, u3_140, u3_141, u3_142, u3_143, u3_144, u3_145, u3_146, u3_147, u3_148, u3_149, u3_150, u3_151, u3_152, u3_153, u3_154, u3_155, u3_156, u3_157, u3_158, u3_159, u3_160, u3_161, u3_162, u3_163, u3_164, u3_165, u3_166, u3_167, u3_168, u3_169, u3_170, u3_171, u3_172, u3_173, u3_174, undef, undef, undef, undef, undef, undef, undef, undef, undef, undef, undef, undef, undef, undef, undef, undef, undef, undef, undef, undef, undef, undef, undef, undef, undef, undef, undef, undef, undef, undef, undef, undef, undef, undef, undef, undef, undef, undef, undef, undef, undef, undef, undef, undef, undef, undef, undef], []⟩) ∧ (VQ.heap[g4]? = some (.cells (Att.c a) 29 (0, 0))) ∧ (VQ.heap[g5]? = some (.cells (Pro.c p) 36 (0, 0))) ∧ (V300.heap.size ≤ VQ.heap.size) ∧ (Keeps Nob w VQ)) ?_ ?_
  · by_cases hfp : p.fine
    · refine sy_sq (part_VoteBack 60) (part_VoteBack 61) ?_
      refine sy_reg ?_
      refine rg_plain 13 (opsAt (part_VoteBack 60)) [0, 1, 2, 3, 4, 5, 6] (by kernel_rfl) (by kernel_rfl) ?_
      refine ps_p (o_VoteBack 60 0) (.agg (Pro.c p)) (exec_load_row 36 (.tmp 5) (by kernel_rfl) g5 (by kernel_rfl) _ _ (0, 0) _ (h302) Try.underlying36 rfl (by rw [Pro.c_size _ hp.r]; kernel_rfl)) ?_
      refine ps_c (o_VoteBack 60 1) 18 #[.agg (Pro.c p)] Try.func18 ((vBytesBlock_lit p _ hp hfp).mono ?_)
      rintro e V305 ⟨Ap, capp, rfl, hXp, hcp, hltp, kV305⟩
      have hlenp := (pro_len hp.r).1
      have hsp : p.bytes.length = p.bare.length + (Cod.enc p.g).length := by rw [Pro.split', List.length_append]
      refine ⟨_, rfl, ?_⟩
      have h306 := kV305.bk h301
      have h307 := kV305.bk h302
      have K308 := K304.nn kV305
      have z309 := kV305.size
      refine ps_k (o_VoteBack 60 2) (.tuple #[.slice Ap p.bytes.length capp, .int .i64 0]) ?_
      refine ps_k (o_VoteBack 60 3) (.slice Ap p.bytes.length capp) ?_
      refine ps_k (o_VoteBack 60 4) (.int .i64 0) ?_
      refine ps_k (o_VoteBack 60 5) (.slice Ap p.bytes.length capp) ?_
      refine ps_k (o_VoteBack 60 6) (.int .i64 0) ?_
      refine ps_end ?_
      refine then_n ?_
      refine sy_sq (part_VoteBack 122) (part_VoteBack 123) ?_
      refine sy_reg ?_
      refine rg_plain 14 (opsAt (part_VoteBack 122)) [0, 1] (by kernel_rfl) (by kernel_rfl) ?_
      refine ps_k (o_VoteBack 122 0) (.int .i64 0) ?_
      refine ps_k (o_VoteBack 122 1) (.bool true) ?_
      refine ps_end ?_
      refine then_n ?_
      refine sy_ys (.tmp 115) (part_VoteBack 246) (part_VoteBack 247) ?_
      refine sy_sq (part_VoteBack 492) (part_VoteBack 493) ?_
      refine sy_reg ?_
      refine rg_plain 15 (opsAt (part_VoteBack 492)) [0, 1, 2, 3, 4, 5, 6, 7, 8] (by kernel_rfl) (by kernel_rfl) ?_
      refine ps_k (o_VoteBack 492 0) (.slice Ap p.bytes.length capp) ?_
      refine ps_c (o_VoteBack 492 1) 13 #[.slice Ap p.bytes.length capp] Try.func13 ((vReadBlock_fin _ hXp (by omega) (pRes_back hp hfp) (pro_read hp hfp).1).mono ?_)
      rintro e V310 ⟨rfl, kV310⟩
      refine ⟨_, rfl, ?_⟩
      have h311 := kV310.bk h306
      have h312 := kV310.bk h307
      have h313 : BytesAt V310 (.slice Ap p.bytes.length capp) p.bytes := hXp.keepsN kV310
      have K314 := K308.nn kV310
      have z315 := kV310.size
      refine ps_k (o_VoteBack 492 2) (.tuple #[.agg (Pro.c p), .agg #[.int .i64 0, .int .i64 0]]) ?_
      refine ps_k (o_VoteBack 492 3) (.agg (Pro.c p)) ?_
      refine ps_k (o_VoteBack 492 4) (.agg #[.int .i64 0, .int .i64 0]) ?_
      obtain ⟨V316, eV316, g24, eg24, h317, kV316⟩ := alloc_step V310 (#[.int .i64 0, .int .i64 0, .int .u8 0, .int .u8 0, .int .u8 0, .int .u8 0, .int .u8 0, .int .u8 0, .int .u8 0, .int .u8 0, .int .u8 0, .int .u8 0, .int .u8 0, .int .u8 0, .int .u8 0, .int .u8 0, .int .u8 0, .int .u8 0, .int .u8 0, .int .u8 0, .int .u8 0, .int .u8 0, .int .u8 0, .int .u8 0, .int .u8 0, .int .u8 0, .int .u8 0, .int .u8 0, .int .u8 0, .int .u8 0, .int .u8 0, .int .u8 0, .int .u8 0, .int .u8 0, .int .u64 0]) 36
      have n318 : g4 < g24 := eg24 ▸ lt_of_block h311
      have n319 : g5 < g24 := eg24 ▸ lt_of_block h312
      have n320 : w.heap.size ≤ g24 := eg24 ▸ K314.size
      refine ps_r (o_VoteBack 492 5) (pT g24 0) (w' := V316) (by rw [← eV316, ← eg24]; exact exec_alloc0 36 (by kernel_rfl) (.agg (#[.int .i64 0, .int .i64 0, .int .u8 0, .int .u8 0, .int .u8 0, .int .u8 0, .int .u8 0, .int .u8 0, .int .u8 0, .int .u8 0, .int .u8 0, .int .u8 0, .int .u8 0, .int .u8 0, .int .u8 0, .int .u8 0, .int .u8 0, .int .u8 0, .int .u8 0, .int .u8 0, .int .u8 0, .int .u8 0, .int .u8 0, .int .u8 0, .int .u8 0, .int .u8 0, .int .u8 0, .int .u8 0, .int .u8 0, .int .u8 0, .int .u8 0, .int .u8 0, .int .u8 0, .int .u8 0, .int .u64 0])) (by kernel_rfl)) ?_
      clear eV316
      have h321 := kV316.bk h311
      have h322 := kV316.bk h312
      have h323 : BytesAt V316 (.slice Ap p.bytes.length capp) p.bytes := h313.keepsN kV316
      have K324 := K314.nn kV316
      have z325 := kV316.size
      obtain ⟨V326, eV326, g25, eg25, h327, kV326⟩ := alloc_step V316 (#[.int .i64 0, .int .i64 0]) 32
      have n328 : g4 < g25 := eg25 ▸ lt_of_block h321
      have n329 : g5 < g25 := eg25 ▸ lt_of_block h322
      have n330 : g24 < g25 := eg25 ▸ lt_of_block h317
      have n331 : w.heap.size ≤ g25 := eg25 ▸ K324.size
      refine ps_r (o_VoteBack 492 6) (pT g25 0) (w' := V326) (by rw [← eV326, ← eg25]; exact exec_alloc0 32 (by kernel_rfl) (.agg (#[.int .i64 0, .int .i64 0])) (by kernel_rfl)) ?_
      clear eV326
      have h332 := kV326.bk h321
      have h333 := kV326.bk h322
      have h334 : BytesAt V326 (.slice Ap p.bytes.length capp) p.bytes := h323.keepsN kV326
      have h335 := kV326.bk h317
      have K336 := K324.nn kV326
      have z337 := kV326.size
      obtain ⟨V338, eV338, kV338⟩ := rowset_step V326 g24 ((Pro.c p))
      have h339 : V338.heap[g24]? = some (.cells (Pro.c p) 36 (0, 0)) := eV338 ▸ setRow_heap _ _ _ _ _ _ h335
      refine ps_s (o_VoteBack 492 7) (w' := V338) (by rw [← eV338]; exact exec_store_row 36 (.tmp 24) (.tmp 119) (by kernel_rfl) g24 ((Pro.c p)) (by kernel_rfl) (by kernel_rfl) 36 (#[.int .i64 0, .int .i64 0, .int .u8 0, .int .u8 0, .int .u8 0, .int .u8 0, .int .u8 0, .int .u8 0, .int .u8 0, .int .u8 0, .int .u8 0, .int .u8 0, .int .u8 0, .int .u8 0, .int .u8 0, .int .u8 0, .int .u8 0, .int .u8 0, .int .u8 0, .int .u8 0, .int .u8 0, .int .u8 0, .int .u8 0, .int .u8 0, .int .u8 0, .int .u8 0, .int .u8 0, .int .u8 0, .int .u8 0, .int .u8 0, .int .u8 0, .int .u8 0, .int .u8 0, .int .u8 0, .int .u64 0]) h335 (by first | (rw [Pro.c_size _ hp.r]; kernel_rfl) | (rw [Pro.c_size _ (show proZero.r.length = 32 from rfl)]; kernel_rfl) | (rw [Pro.c_size _ (pRes_len l)]; kernel_rfl)) (by first | (rw [Pro.c_size _ hp.r]; rfl) | (rw [Pro.c_size _ (show proZero.r.length = 32 from rfl)]; rfl) | (rw [Pro.c_size _ (pRes_len l)]; rfl)) (Pro.c_one _)) ?_
      clear eV338
      have h340 := kV338.bo h332 (by omega)
      have h341 := kV338.bo h333 (by omega)
      have h342 : BytesAt V338 (.slice Ap p.bytes.length capp) p.bytes := h334.keeps kV338 (fun j hj e => by have := hltp j hj; unfold Own.One at e; omega)
      have h343 := kV338.bo h327 (by omega)
      have K344 := K336.no kV338 (by omega)
      have z345 := kV338.size
      obtain ⟨V346, eV346, kV346⟩ := rowset_step V338 g25 (#[.int .i64 0, .int .i64 0])
      have h347 : V346.heap[g25]? = some (.cells (#[.int .i64 0, .int .i64 0]) 32 (0, 0)) := eV346 ▸ setRow_heap _ _ _ _ _ _ h343
      refine ps_s (o_VoteBack 492 8) (w' := V346) (by rw [← eV346]; exact exec_store_row 32 (.tmp 25) (.tmp 120) (by kernel_rfl) g25 (#[.int .i64 0, .int .i64 0]) (by kernel_rfl) (by kernel_rfl) 32 (#[.int .i64 0, .int .i64 0]) h343 (by kernel_rfl) rfl (by kernel_rfl)) ?_
      clear eV346
      have h348 := kV346.bo h340 (by omega)
      have h349 := kV346.bo h341 (by omega)
      have h350 : BytesAt V346 (.slice Ap p.bytes.length capp) p.bytes := h342.keeps kV346 (fun j hj e => by have := hltp j hj; unfold Own.One at e; omega)
      have h351 := kV346.bo h339 (by omega)
      have K352 := K344.no kV346 (by omega)
      have z353 := kV346.size
      refine ps_end ?_
      refine then_n ?_
      refine sy_sq (part_VoteBack 986) (part_VoteBack 987) ?_
      refine sy_reg ?_
      refine rg_plain 16 (opsAt (part_VoteBack 986)) [0, 1, 2, 3, 4, 5, 6, 7, 8] (by kernel_rfl) (by kernel_rfl) ?_
      refine ps_k (o_VoteBack 986 0) (.slice Ap p.bytes.length capp) ?_
      refine ps_c (o_VoteBack 986 1) 11 #[.slice Ap p.bytes.length capp] Try.func11 ((vRead_fin _ h350 (by omega) (aRes_no pro_noatt) rfl).mono ?_)
      rintro e V354 ⟨rfl, kV354⟩
      refine ⟨_, rfl, ?_⟩
      have h355 := kV354.bk h348
      have h356 := kV354.bk h349
      have h357 : BytesAt V354 (.slice Ap p.bytes.length capp) p.bytes := h350.keepsN kV354
      have h358 := kV354.bk h351
      have h359 := kV354.bk h347
      have K360 := K352.nn kV354
      have z361 := kV354.size
      refine ps_k (o_VoteBack 986 2) (.tuple #[.agg (Att.c attZero), .agg #[.int .i64 (aF p.bytes).1, .int .i64 (aF p.bytes).2]]) ?_
      refine ps_k (o_VoteBack 986 3) (.agg (Att.c attZero)) ?_
      refine ps_k (o_VoteBack 986 4) (.agg #[.int .i64 (aF p.bytes).1, .int .i64 (aF p.bytes).2]) ?_
      obtain ⟨V362, eV362, g26, eg26, h363, kV362⟩ := alloc_step V354 (#[.int .i64 0, .int .i64 0, .int .i64 0, .int .u8 0, .int .u8 0, .int .u8 0, .int .u8 0, .int .u8 0, .int .u8 0, .int .u8 0, .int .u8 0, .int .u8 0, .int .u8 0, .int .u8 0, .int .u8 0, .int .u8 0, .int .u8 0, .int .u8 0, .int .u8 0, .int .u8 0, .int .u8 0, .int .u8 0, .int .u8 0, .int .u8 0, .int .u8 0, .int .u8 0, .int .u8 0, .int .u8 0, .int .u8 0, .int .u8 0, .int .u8 0, .int .u8 0, .int .u8 0, .int .u8 0, .int .u8 0, .int .u64 0]) 29
      have n364 : g4 < g26 := eg26 ▸ lt_of_block h355
      have n365 : g5 < g26 := eg26 ▸ lt_of_block h356
      have n366 : g24 < g26 := eg26 ▸ lt_of_block h358
      have n367 : g25 < g26 := eg26 ▸ lt_of_block h359
      have n368 : w.heap.size ≤ g26 := eg26 ▸ K360.size
      refine ps_r (o_VoteBack 986 5) (pT g26 0) (w' := V362) (by rw [← eV362, ← eg26]; exact exec_alloc0 29 (by kernel_rfl) (.agg (#[.int .i64 0, .int .i64 0, .int .i64 0, .int .u8 0, .int .u8 0, .int .u8 0, .int .u8 0, .int .u8 0, .int .u8 0, .int .u8 0, .int .u8 0, .int .u8 0, .int .u8 0, .int .u8 0, .int .u8 0, .int .u8 0, .int .u8 0, .int .u8 0, .int .u8 0, .int .u8 0, .int .u8 0, .int .u8 0, .int .u8 0, .int .u8 0, .int .u8 0, .int .u8 0, .int .u8 0, .int .u8 0, .int .u8 0, .int .u8 0, .int .u8 0, .int .u8 0, .int .u8 0, .int .u8 0, .int .u8 0, .int .u64 0])) (by kernel_rfl)) ?_
      clear eV362
      have h369 := kV362.bk h355
      have h370 := kV362.bk h356
      have h371 : BytesAt V362 (.slice Ap p.bytes.length capp) p.bytes := h357.keepsN kV362
      have h372 := kV362.bk h358
      have h373 := kV362.bk h359
      have K374 := K360.nn kV362
      have z375 := kV362.size
      obtain ⟨V376, eV376, g27, eg27, h377, kV376⟩ := alloc_step V362 (#[.int .i64 0, .int .i64 0]) 32
      have n378 : g4 < g27 := eg27 ▸ lt_of_block h369
      have n379 : g5 < g27 := eg27 ▸ lt_of_block h370
      have n380 : g24 < g27 := eg27 ▸ lt_of_block h372
      have n381 : g25 < g27 := eg27 ▸ lt_of_block h373
      have n382 : g26 < g27 := eg27 ▸ lt_of_block h363
      have n383 : w.heap.size ≤ g27 := eg27 ▸ K374.size
      refine ps_r (o_VoteBack 986 6) (pT g27 0) (w' := V376) (by rw [← eV376, ← eg27]; exact exec_alloc0 32 (by kernel_rfl) (.agg (#[.int .i64 0, .int .i64 0])) (by kernel_rfl)) ?_
      clear eV376
      have h384 := kV376.bk h369
      have h385 := kV376.bk h370
      have h386 : BytesAt V376 (.slice Ap p.bytes.length capp) p.bytes := h371.keepsN kV376
      have h387 := kV376.bk h372
      have h388 := kV376.bk h373
      have h389 := kV376.bk h363
      have K390 := K374.nn kV376
      have z391 := kV376.size
      obtain ⟨V392, eV392, kV392⟩ := rowset_step V376 g26 ((Att.c attZero))
      have h393 : V392.heap[g26]? = some (.cells (Att.c attZero) 29 (0, 0)) := eV392 ▸ setRow_heap _ _ _ _ _ _ h389
      refine ps_s (o_VoteBack 986 7) (w' := V392) (by rw [← eV392]; exact exec_store_row 29 (.tmp 26) (.tmp 124) (by kernel_rfl) g26 ((Att.c attZero)) (by kernel_rfl) (by kernel_rfl) 29 (#[.int .i64 0, .int .i64 0, .int .i64 0, .int .u8 0, .int .u8 0, .int .u8 0, .int .u8 0, .int .u8 0, .int .u8 0, .int .u8 0, .int .u8 0, .int .u8 0, .int .u8 0, .int .u8 0, .int .u8 0, .int .u8 0, .int .u8 0, .int .u8 0, .int .u8 0, .int .u8 0, .int .u8 0, .int .u8 0, .int .u8 0, .int .u8 0, .int .u8 0, .int .u8 0, .int .u8 0, .int .u8 0, .int .u8 0, .int .u8 0, .int .u8 0, .int .u8 0, .int .u8 0, .int .u8 0, .int .u8 0, .int .u64 0]) h389 (by first | (rw [Att.c_size _ ha.r]; kernel_rfl) | (rw [Att.c_size _ (show attZero.r.length = 32 from rfl)]; kernel_rfl) | (rw [Att.c_size _ (aRes_len l)]; kernel_rfl)) (by first | (rw [Att.c_size _ ha.r]; rfl) | (rw [Att.c_size _ (show attZero.r.length = 32 from rfl)]; rfl) | (rw [Att.c_size _ (aRes_len l)]; rfl)) (Att.c_one _)) ?_
      clear eV392
      have h394 := kV392.bo h384 (by omega)
      have h395 := kV392.bo h385 (by omega)
      have h396 : BytesAt V392 (.slice Ap p.bytes.length capp) p.bytes := h386.keeps kV392 (fun j hj e => by have := hltp j hj; unfold Own.One at e; omega)
      have h397 := kV392.bo h387 (by omega)
      have h398 := kV392.bo h388 (by omega)
      have h399 := kV392.bo h377 (by omega)
      have K400 := K390.no kV392 (by omega)
      have z401 := kV392.size
      obtain ⟨V402, eV402, kV402⟩ := rowset_step V392 g27 (#[.int .i64 (aF p.bytes).1, .int .i64 (aF p.bytes).2])
      have h403 : V402.heap[g27]? = some (.cells (#[.int .i64 (aF p.bytes).1, .int .i64 (aF p.bytes).2]) 32 (0, 0)) := eV402 ▸ setRow_heap _ _ _ _ _ _ h399
      refine ps_s (o_VoteBack 986 8) (w' := V402) (by rw [← eV402]; exact exec_store_row 32 (.tmp 27) (.tmp 125) (by kernel_rfl) g27 (#[.int .i64 (aF p.bytes).1, .int .i64 (aF p.bytes).2]) (by kernel_rfl) (by kernel_rfl) 32 (#[.int .i64 0, .int .i64 0]) h399 (by kernel_rfl) rfl (by kernel_rfl)) ?_
      clear eV402
      have h404 := kV402.bo h394 (by omega)
      have h405 := kV402.bo h395 (by omega)
      have h406 : BytesAt V402 (.slice Ap p.bytes.length capp) p.bytes := h396.keeps kV402 (fun j hj e => by have := hltp j hj; unfold Own.One at e; omega)
      have h407 := kV402.bo h397 (by omega)
      have h408 := kV402.bo h398 (by omega)
      have h409 := kV402.bo h393 (by omega)
      have K410 := K400.no kV402 (by omega)
      have z411 := kV402.size
      refine ps_end ?_
      refine sy_a ⟨#[.agg (Att.c a), .agg (Pro.c p), .slice A0 l.length cap0, uN tag, pT g4 0, pT g5 0, undef, undef, .bool false, .bool true, u2_10, u2_11, u2_12, u2_13, u2_14, u2_15, u2_16, u2_17, u2_18, u2_19, u2_20, u2_21, .slice Ap p.bytes.length capp, .int .i64 0, pT g24 0, pT g25 0, pT g26 0, pT g27 0, undef, undef, undef, undef, undef, undef, undef, undef, undef, undef, undef, undef, undef, undef, .bool true, u2_43, u2_44, u2_45, u2_46, u2_47, u2_48, u2_49, u2_50, u2_51, u2_52, u2_53, u2_54, u2_55, u2_56, u2_57, u2_58, u2_59, u2_60, u2_61, u2_62, u2_63, u2_64, u2_65, u2_66, u2_67, u2_68, u2_69, u2_70, u2_71, u2_72, u2_73, u2_74, u2_75, u2_76, u2_77, u2_78, u2_79, u2_80, u2_81, u2_82, u2_83, u2_84, u2_85, u2_86, u2_87, u2_88, u2_89, u2_90, u2_91, u2_92, u2_93, u2_94, u2_95, u2_96, u2_97, u2_98, u2_99, u2_100, u2_101, u2_102, u2_103, u2_104, u2_105, u2_106, u2_107, u2_108, .tuple #[.slice Ap p.bytes.length capp, .int .i64 0], .agg (Pro.c p), .tuple #[.slice Ap p.bytes.length capp, .int .i64 0], .slice Ap p.bytes.length capp, .int .i64 0, .int .i64 0, .bool true, .tuple #[.agg (Pro.c p), .agg #[.int .i64 0, .int .i64 0]], .slice Ap p.bytes.length capp, .tuple #[.agg (Pro.c p), .agg #[.int .i64 0, .int .i64 0]], .agg (Pro.c p), .agg #[.int .i64 0, .int .i64 0], .tuple #[.agg (Att.c attZero), .agg #[.int .i64 (aF p.bytes).1, .int .i64 (aF p.bytes).2]], .slice Ap p.bytes.length capp, .tuple #[.agg (Att.c attZero), .agg #[.int .i64 (aF p.bytes).1, .int .i64 (aF p.bytes).2]], .agg (Att.c attZero), .agg #[.int .i64 (aF p.bytes).1, .int .i64 (aF p.bytes).2], undef, undef, undef, undef, undef, undef, undef, undef, undef, undef, undef, undef, undef, undef, undef, undef, undef, undef, undef, undef, undef, undef, undef, undef, undef, undef, undef, undef, undef, undef, undef, undef, undef, undef, undef, undef, undef, undef, undef, undef, undef, undef, undef, undef, undef, undef, undef, undef, undef, undef, undef, undef, undef, undef, undef, undef, undef, undef, undef, undef, undef, undef, undef, undef, undef, undef, undef, undef, undef, undef, undef, undef, undef, undef, undef, undef, undef, undef, undef, undef, undef, undef, undef, undef, undef, undef, undef, undef, undef, undef, undef, undef, undef, undef, undef, undef], []⟩ ?_
      refine then_n ?_
      refine sy_sq (part_VoteBack 1974) (part_VoteBack 1975) ?_
      refine sy_reg ?_
      refine rg_plain 17 (opsAt (part_VoteBack 1974)) [0, 1, 2] (by kernel_rfl) (by kernel_rfl) ?_
      refine ps_p (o_VoteBack 1974 0) (.agg (Pro.c p)) (exec_load_row 36 (.tmp 5) (by kernel_rfl) g5 (by kernel_rfl) _ _ (0, 0) _ (h405) Try.underlying36 rfl (by rw [Pro.c_size _ hp.r]; kernel_rfl)) ?_
      obtain ⟨V412, eV412, g28, eg28, h413, kV412⟩ := alloc_step V402 (#[.int .i64 0, .int .i64 0, .int .u8 0, .int .u8 0, .int .u8 0, .int .u8 0, .int .u8 0, .int .u8 0, .int .u8 0, .int .u8 0, .int .u8 0, .int .u8 0, .int .u8 0, .int .u8 0, .int .u8 0, .int .u8 0, .int .u8 0, .int .u8 0, .int .u8 0, .int .u8 0, .int .u8 0, .int .u8 0, .int .u8 0, .int .u8 0, .int .u8 0, .int .u8 0, .int .u8 0, .int .u8 0, .int .u8 0, .int .u8 0, .int .u8 0, .int .u8 0, .int .u8 0, .int .u8 0, .int .u64 0]) 36
      have n414 : g4 < g28 := eg28 ▸ lt_of_block h404
      have n415 : g5 < g28 := eg28 ▸ lt_of_block h405
      have n416 : g24 < g28 := eg28 ▸ lt_of_block h407
      have n417 : g25 < g28 := eg28 ▸ lt_of_block h408
      have n418 : g26 < g28 := eg28 ▸ lt_of_block h409
      have n419 : g27 < g28 := eg28 ▸ lt_of_block h403
      have n420 : w.heap.size ≤ g28 := eg28 ▸ K410.size
      refine ps_r (o_VoteBack 1974 1) (pT g28 0) (w' := V412) (by rw [← eV412, ← eg28]; exact exec_alloc0 36 (by kernel_rfl) (.agg (#[.int .i64 0, .int .i64 0, .int .u8 0, .int .u8 0, .int .u8 0, .int .u8 0, .int .u8 0, .int .u8 0, .int .u8 0, .int .u8 0, .int .u8 0, .int .u8 0, .int .u8 0, .int .u8 0, .int .u8 0, .int .u8 0, .int .u8 0, .int .u8 0, .int .u8 0, .int .u8 0, .int .u8 0, .int .u8 0, .int .u8 0, .int .u8 0, .int .u8 0, .int .u8 0, .int .u8 0, .int .u8 0, .int .u8 0, .int .u8 0, .int .u8 0, .int .u8 0, .int .u8 0, .int .u8 0, .int .u64 0])) (by kernel_rfl)) ?_
      clear eV412
      have h421 := kV412.bk h404
      have h422 := kV412.bk h405
      have h423 : BytesAt V412 (.slice Ap p.bytes.length capp) p.bytes := h406.keepsN kV412
      have h424 := kV412.bk h407
      have h425 := kV412.bk h408
      have h426 := kV412.bk h409
      have h427 := kV412.bk h403
      have K428 := K410.nn kV412
      have z429 := kV412.size
      obtain ⟨V430, eV430, kV430⟩ := rowset_step V412 g28 ((Pro.c p))
      have h431 : V430.heap[g28]? = some (.cells (Pro.c p) 36 (0, 0)) := eV430 ▸ setRow_heap _ _ _ _ _ _ h413
      refine ps_s (o_VoteBack 1974 2) (w' := V430) (by rw [← eV430]; exact exec_store_row 36 (.tmp 28) (.tmp 126) (by kernel_rfl) g28 ((Pro.c p)) (by kernel_rfl) (by kernel_rfl) 36 (#[.int .i64 0, .int .i64 0, .int .u8 0, .int .u8 0, .int .u8 0, .int .u8 0, .int .u8 0, .int .u8 0, .int .u8 0, .int .u8 0, .int .u8 0, .int .u8 0, .int .u8 0, .int .u8 0, .int .u8 0, .int .u8 0, .int .u8 0, .int .u8 0, .int .u8 0, .int .u8 0, .int .u8 0, .int .u8 0, .int .u8 0, .int .u8 0, .int .u8 0, .int .u8 0, .int .u8 0, .int .u8 0, .int .u8 0, .int .u8 0, .int .u8 0, .int .u8 0, .int .u8 0, .int .u8 0, .int .u64 0]) h413 (by first | (rw [Pro.c_size _ hp.r]; kernel_rfl) | (rw [Pro.c_size _ (show proZero.r.length = 32 from rfl)]; kernel_rfl) | (rw [Pro.c_size _ (pRes_len l)]; kernel_rfl)) (by first | (rw [Pro.c_size _ hp.r]; rfl) | (rw [Pro.c_size _ (show proZero.r.length = 32 from rfl)]; rfl) | (rw [Pro.c_size _ (pRes_len l)]; rfl)) (Pro.c_one _)) ?_
      clear eV430
      have h432 := kV430.bo h421 (by omega)
      have h433 := kV430.bo h422 (by omega)
      have h434 : BytesAt V430 (.slice Ap p.bytes.length capp) p.bytes := h423.keeps kV430 (fun j hj e => by have := hltp j hj; unfold Own.One at e; omega)
      have h435 := kV430.bo h424 (by omega)
      have h436 := kV430.bo h425 (by omega)
      have h437 := kV430.bo h426 (by omega)
      have h438 := kV430.bo h427 (by omega)
      have K439 := K428.no kV430 (by omega)
      have z440 := kV430.size
      refine ps_end ?_
      refine then_n ?_
      refine sy_sq (part_VoteBack 3950) (part_VoteBack 3951) ?_
      refine sy_reg ?_
      refine rg_plain 18 (opsAt (part_VoteBack 3950)) [0, 1, 2] (by kernel_rfl) (by kernel_rfl) ?_
      refine ps_k (o_VoteBack 3950 0) (uN tag) ?_
      refine ps_k (o_VoteBack 3950 1) (pT g28 34) ?_
      obtain ⟨V441, eV441, kV441⟩ := cell_step V430 g28 34 (.int .u64 ((tag : Nat) : Int))
      have h442 : V441.heap[g28]? = some (.cells (Pro.c ⟨p.v, p.h, p.r, tag⟩) 36 (0, 0)) := eV441 ▸ ((heap_setCell_same _ g28 34 _ _ (.int .u64 ((tag : Nat) : Int)) h431).trans (congrArg (fun c => some (Obj.cells c 36 (0, 0))) (show (Pro.c p : Array Value).setIfInBounds 34 (.int .u64 ((tag : Nat) : Int)) = Pro.c ⟨p.v, p.h, p.r, tag⟩ from Pro.c_settag _ _ hp.r)))
      refine ps_s (o_VoteBack 3950 2) (w' := V441) (by rw [← eV441]; exact exec_store_cell 27 (.tmp 128) (.tmp 127) (by kernel_rfl) g28 34 (by kernel_rfl) (uN tag) (by kernel_rfl) (by kernel_rfl) (by kernel_rfl) (uN p.g) (rc (h431) (Pro.c_tag _ hp.r)) (frozen_of_row _ _ _ _ _ h431) (by kernel_rfl)) ?_
      clear eV441
      have h443 := kV441.bo h432 (by omega)
      have h444 := kV441.bo h433 (by omega)
      have h445 : BytesAt V441 (.slice Ap p.bytes.length capp) p.bytes := h434.keeps kV441 (fun j hj e => by have := hltp j hj; unfold Own.One at e; omega)
      have h446 := kV441.bo h435 (by omega)
      have h447 := kV441.bo h436 (by omega)
      have h448 := kV441.bo h437 (by omega)
      have h449 := kV441.bo h438 (by omega)
      have K450 := K439.no kV441 (by omega)
      have z451 := kV441.size
      refine ps_end ?_
      refine then_n ?_
      refine sy_sq (part_VoteBack 7902) (part_VoteBack 7903) ?_
      refine sy_reg ?_
      refine rg_plain 19 (opsAt (part_VoteBack 7902)) [0, 1, 2, 3, 4, 5, 6, 7] (by kernel_rfl) (by kernel_rfl) ?_
      refine ps_p (o_VoteBack 7902 0) (.agg (Pro.c p)) (exec_load_row 36 (.tmp 5) (by kernel_rfl) g5 (by kernel_rfl) _ _ (0, 0) _ (h444) Try.underlying36 rfl (by rw [Pro.c_size _ hp.r]; kernel_rfl)) ?_
      refine ps_c (o_VoteBack 7902 1) 28 #[.agg (Pro.c p)] Try.func28 ((vDigestBlock_ok p _ hp hfp).mono ?_)
      rintro e V452 ⟨rfl, kV452⟩
      refine ⟨_, rfl, ?_⟩
      have h453 := kV452.bk h443
      have h454 := kV452.bk h444
      have h455 : BytesAt V452 (.slice Ap p.bytes.length capp) p.bytes := h445.keepsN kV452
      have h456 := kV452.bk h446
      have h457 := kV452.bk h447
      have h458 := kV452.bk h448
      have h459 := kV452.bk h449
      have h460 := kV452.bk h442
      have K461 := K450.nn kV452
      have z462 := kV452.size
      refine ps_k (o_VoteBack 7902 2) (.tuple #[.agg (B p.dig).toArray, .int .i64 0]) ?_
      refine ps_k (o_VoteBack 7902 3) (.agg (B p.dig).toArray) ?_
      refine ps_k (o_VoteBack 7902 4) (.int .i64 0) ?_
      obtain ⟨V463, eV463, d29, ed29, h464, kV463⟩ := alloc_step V452 (zr_u8_32) 26
      have n465 : g4 < d29 := ed29 ▸ lt_of_block h453
      have n466 : g5 < d29 := ed29 ▸ lt_of_block h454
      have n467 : g24 < d29 := ed29 ▸ lt_of_block h456
      have n468 : g25 < d29 := ed29 ▸ lt_of_block h457
      have n469 : g26 < d29 := ed29 ▸ lt_of_block h458
      have n470 : g27 < d29 := ed29 ▸ lt_of_block h459
      have n471 : g28 < d29 := ed29 ▸ lt_of_block h460
      have n472 : w.heap.size ≤ d29 := ed29 ▸ K461.size
      refine ps_r (o_VoteBack 7902 5) (pT d29 0) (w' := V463) (by rw [← eV463, ← ed29]; exact exec_alloc0 26 (by kernel_rfl) (.agg (zr_u8_32)) (by kernel_rfl)) ?_
      clear eV463
      have h473 := kV463.bk h453
      have h474 := kV463.bk h454
      have h475 : BytesAt V463 (.slice Ap p.bytes.length capp) p.bytes := h455.keepsN kV463
      have h476 := kV463.bk h456
      have h477 := kV463.bk h457
      have h478 := kV463.bk h458
      have h479 := kV463.bk h459
      have h480 := kV463.bk h460
      have K481 := K461.nn kV463
      have z482 := kV463.size
      obtain ⟨V483, eV483, kV483⟩ := rowset_step V463 d29 ((B p.dig).toArray)
      have h484 : V483.heap[d29]? = some (.cells ((B p.dig).toArray) 26 (0, 0)) := eV483 ▸ setRow_heap _ _ _ _ _ _ h464
      refine ps_s (o_VoteBack 7902 6) (w' := V483) (by rw [← eV483]; exact exec_store_row 26 (.tmp 29) (.tmp 132) (by kernel_rfl) d29 ((B p.dig).toArray) (by kernel_rfl) (by kernel_rfl) 26 (zr_u8_32) h464 (by rw [Bz_size]; first | (rw [Att.dig_len]; kernel_rfl) | (rw [Pro.dig_len]; kernel_rfl)) (by rw [Bz_size]; first | (rw [Att.dig_len]; rfl) | (rw [Pro.dig_len]; rfl)) (by rw [List.all_toArray]; exact List.all_eq_true.2 (B_one _))) ?_
      clear eV483
      have h485 := kV483.bo h473 (by omega)
      have h486 := kV483.bo h474 (by omega)
      have h487 : BytesAt V483 (.slice Ap p.bytes.length capp) p.bytes := h475.keeps kV483 (fun j hj e => by have := hltp j hj; unfold Own.One at e; omega)
      have h488 := kV483.bo h476 (by omega)
      have h489 := kV483.bo h477 (by omega)
      have h490 := kV483.bo h478 (by omega)
      have h491 := kV483.bo h479 (by omega)
      have h492 := kV483.bo h480 (by omega)
      have K493 := K481.no kV483 (by omega)
      have z494 := kV483.size
      refine ps_k (o_VoteBack 7902 7) (.int .i64 0) ?_
      refine ps_end ?_
      refine then_n ?_
      refine sy_sq (part_VoteBack 15806) (part_VoteBack 15807) ?_
      refine sy_reg ?_
      refine rg_plain 20 (opsAt (part_VoteBack 15806)) [0, 1, 2, 3, 4, 5, 6, 7] (by kernel_rfl) (by kernel_rfl) ?_
      refine ps_p (o_VoteBack 15806 0) (.agg (Pro.c ⟨p.v, p.h, p.r, tag⟩)) (exec_load_row 36 (.tmp 28) (by kernel_rfl) g28 (by kernel_rfl) _ _ (0, 0) _ (h492) Try.underlying36 rfl (by rw [Pro.c_size (⟨p.v, p.h, p.r, tag⟩) hp.r]; kernel_rfl)) ?_
      refine ps_c (o_VoteBack 15806 1) 28 #[.agg (Pro.c ⟨p.v, p.h, p.r, tag⟩)] Try.func28 ((vDigestBlock_tagged p tag _ hp hfp ht).mono ?_)
      rintro e V495 ⟨rfl, kV495⟩
      refine ⟨_, rfl, ?_⟩
      have h496 := kV495.bk h485
      have h497 := kV495.bk h486
      have h498 : BytesAt V495 (.slice Ap p.bytes.length capp) p.bytes := h487.keepsN kV495
      have h499 := kV495.bk h488
      have h500 := kV495.bk h489
      have h501 := kV495.bk h490
      have h502 := kV495.bk h491
      have h503 := kV495.bk h492
      have h504 := kV495.bk h484
      have K505 := K493.nn kV495
      have z506 := kV495.size
      refine ps_k (o_VoteBack 15806 2) (.tuple #[.agg (B p.dig).toArray, .int .i64 0]) ?_
      refine ps_k (o_VoteBack 15806 3) (.agg (B p.dig).toArray) ?_
      refine ps_k (o_VoteBack 15806 4) (.int .i64 0) ?_
      obtain ⟨V507, eV507, d31, ed31, h508, kV507⟩ := alloc_step V495 (zr_u8_32) 26
      have n509 : g4 < d31 := ed31 ▸ lt_of_block h496
      have n510 : g5 < d31 := ed31 ▸ lt_of_block h497
      have n511 : g24 < d31 := ed31 ▸ lt_of_block h499
      have n512 : g25 < d31 := ed31 ▸ lt_of_block h500
      have n513 : g26 < d31 := ed31 ▸ lt_of_block h501
      have n514 : g27 < d31 := ed31 ▸ lt_of_block h502
      have n515 : g28 < d31 := ed31 ▸ lt_of_block h503
      have n516 : d29 < d31 := ed31 ▸ lt_of_block h504
      have n517 : w.heap.size ≤ d31 := ed31 ▸ K505.size
      refine ps_r (o_VoteBack 15806 5) (pT d31 0) (w' := V507) (by rw [← eV507, ← ed31]; exact exec_alloc0 26 (by kernel_rfl) (.agg (zr_u8_32)) (by kernel_rfl)) ?_
      clear eV507
      have h518 := kV507.bk h496
      have h519 := kV507.bk h497
      have h520 : BytesAt V507 (.slice Ap p.bytes.length capp) p.bytes := h498.keepsN kV507
      have h521 := kV507.bk h499
      have h522 := kV507.bk h500
      have h523 := kV507.bk h501
      have h524 := kV507.bk h502
      have h525 := kV507.bk h503
      have h526 := kV507.bk h504
      have K527 := K505.nn kV507
      have z528 := kV507.size
      obtain ⟨V529, eV529, kV529⟩ := rowset_step V507 d31 ((B p.dig).toArray)
      have h530 : V529.heap[d31]? = some (.cells ((B p.dig).toArray) 26 (0, 0)) := eV529 ▸ setRow_heap _ _ _ _ _ _ h508
      refine ps_s (o_VoteBack 15806 6) (w' := V529) (by rw [← eV529]; exact exec_store_row 26 (.tmp 31) (.tmp 137) (by kernel_rfl) d31 ((B p.dig).toArray) (by kernel_rfl) (by kernel_rfl) 26 (zr_u8_32) h508 (by rw [Bz_size]; first | (rw [Att.dig_len]; kernel_rfl) | (rw [Pro.dig_len]; kernel_rfl)) (by rw [Bz_size]; first | (rw [Att.dig_len]; rfl) | (rw [Pro.dig_len]; rfl)) (by rw [List.all_toArray]; exact List.all_eq_true.2 (B_one _))) ?_
      clear eV529
      have h531 := kV529.bo h518 (by omega)
      have h532 := kV529.bo h519 (by omega)
      have h533 : BytesAt V529 (.slice Ap p.bytes.length capp) p.bytes := h520.keeps kV529 (fun j hj e => by have := hltp j hj; unfold Own.One at e; omega)
      have h534 := kV529.bo h521 (by omega)
      have h535 := kV529.bo h522 (by omega)
      have h536 := kV529.bo h523 (by omega)
      have h537 := kV529.bo h524 (by omega)
      have h538 := kV529.bo h525 (by omega)
      have h539 := kV529.bo h526 (by omega)
      have K540 := K527.no kV529 (by omega)
      have z541 := kV529.size
      refine ps_k (o_VoteBack 15806 7) (.int .i64 0) ?_
      refine ps_end ?_
      refine then_n ?_
      refine sy_sq (part_VoteBack 31614) (part_VoteBack 31615) ?_
      refine sy_reg ?_
      refine rg_plain 21 (opsAt (part_VoteBack 31614)) [0, 1, 2, 3, 4, 5, 6] (by kernel_rfl) (by kernel_rfl) ?_
      refine ps_k (o_VoteBack 31614 0) (.slice Ap p.bytes.length capp) ?_
      refine ps_p (o_VoteBack 31614 1) (iN p.bytes.length) (exec_len (.tmp 139) 22 _ (by kernel_rfl) Try.underlying22 Ap p.bytes.length capp (by kernel_rfl)) ?_
      refine ps_k (o_VoteBack 31614 2) (pT g5 34) ?_
      refine ps_p (o_VoteBack 31614 3) (uN p.g) (exec_ld 27 (.tmp 141) g5 34 Try.underlying27 (rc (h532) (Pro.c_tag _ hp.r))) ?_
      refine ps_c (o_VoteBack 31614 4) 40 #[uN p.g] Try.func40 ((cSize_ok p.g hp.g _).mono ?_)
      rintro e V542 ⟨rfl, kV542⟩
      refine ⟨_, rfl, ?_⟩
      have h543 := kV542.bk h531
      have h544 := kV542.bk h532
      have h545 : BytesAt V542 (.slice Ap p.bytes.length capp) p.bytes := h533.keepsN kV542
      have h546 := kV542.bk h534
      have h547 := kV542.bk h535
      have h548 := kV542.bk h536
      have h549 := kV542.bk h537
      have h550 := kV542.bk h538
      have h551 := kV542.bk h539
      have h552 := kV542.bk h530
      have K553 := K540.nn kV542
      have z554 := kV542.size
      refine ps_p (o_VoteBack 31614 5) (iN p.bare.length) (exec_cast (congrArg (Value.int .i64) (wrapI (((p.bytes.length : Nat) : Int) - (((Cod.enc p.g).length : Nat) : Int)) _ (by omega) (by omega) (by omega))) (by kernel_rfl)) ?_
      refine ps_k (o_VoteBack 31614 6) (iN p.bare.length) ?_
      refine ps_end ?_
      refine sy_a ⟨#[.agg (Att.c a), .agg (Pro.c p), .slice A0 l.length cap0, uN tag, pT g4 0, pT g5 0, undef, undef, .bool false, .bool true, u2_10, u2_11, u2_12, u2_13, u2_14, u2_15, u2_16, u2_17, u2_18, u2_19, u2_20, u2_21, .slice Ap p.bytes.length capp, .int .i64 0, pT g24 0, pT g25 0, pT g26 0, pT g27 0, pT g28 0, pT d29 0, .int .i64 0, pT d31 0, .int .i64 0, iN p.bare.length, undef, undef, undef, undef, undef, undef, undef, undef, .bool true, u2_43, u2_44, u2_45, u2_46, u2_47, u2_48, u2_49, u2_50, u2_51, u2_52, u2_53, u2_54, u2_55, u2_56, u2_57, u2_58, u2_59, u2_60, u2_61, u2_62, u2_63, u2_64, u2_65, u2_66, u2_67, u2_68, u2_69, u2_70, u2_71, u2_72, u2_73, u2_74, u2_75, u2_76, u2_77, u2_78, u2_79, u2_80, u2_81, u2_82, u2_83, u2_84, u2_85, u2_86, u2_87, u2_88, u2_89, u2_90, u2_91, u2_92, u2_93, u2_94, u2_95, u2_96, u2_97, u2_98, u2_99, u2_100, u2_101, u2_102, u2_103, u2_104, u2_105, u2_106, u2_107, u2_108, .tuple #[.slice Ap p.bytes.length capp, .int .i64 0], .agg (Pro.c p), .tuple #[.slice Ap p.bytes.length capp, .int .i64 0], .slice Ap p.bytes.length capp, .int .i64 0, .int .i64 0, .bool true, .tuple #[.agg (Pro.c p), .agg #[.int .i64 0, .int .i64 0]], .slice Ap p.bytes.length capp, .tuple #[.agg (Pro.c p), .agg #[.int .i64 0, .int .i64 0]], .agg (Pro.c p), .agg #[.int .i64 0, .int .i64 0], .tuple #[.agg (Att.c attZero), .agg #[.int .i64 (aF p.bytes).1, .int .i64 (aF p.bytes).2]], .slice Ap p.bytes.length capp, .tuple #[.agg (Att.c attZero), .agg #[.int .i64 (aF p.bytes).1, .int .i64 (aF p.bytes).2]], .agg (Att.c attZero), .agg #[.int .i64 (aF p.bytes).1, .int .i64 (aF p.bytes).2], .agg (Pro.c p), uN tag, pT g28 34, .tuple #[.agg (B p.dig).toArray, .int .i64 0], .agg (Pro.c p), .tuple #[.agg (B p.dig).toArray, .int .i64 0], .agg (B p.dig).toArray, .int .i64 0, .tuple #[.agg (B p.dig).toArray, .int .i64 0], .agg (Pro.c ⟨p.v, p.h, p.r, tag⟩), .tuple #[.agg (B p.dig).toArray, .int .i64 0], .agg (B p.dig).toArray, .int .i64 0, .slice Ap p.bytes.length capp, iN p.bytes.length, pT g5 34, uN p.g, iN ((Cod.enc p.g).length), iN p.bare.length, undef, undef, undef, undef, undef, undef, undef, undef, undef, undef, undef, undef, undef, undef, undef, undef, undef, undef, undef, undef, undef, undef, undef, undef, undef, undef, undef, undef, undef, undef, undef, undef, undef, undef, undef, undef, undef, undef, undef, undef, undef, undef, undef, undef, undef, undef, undef, undef, undef, undef, undef, undef, undef, undef, undef, undef, undef, undef, undef, undef, undef, undef, undef, undef, undef, undef, undef, undef, undef, undef, undef, undef, undef, undef, undef, undef, undef], []⟩ ?_
      refine then_n ?_
      refine sy_sq (part_VoteBack 63230) (part_VoteBack 63231) ?_
      refine sy_np ?_
      refine sy_reg ?_
      refine an_begin 22 30 (opsAt (part_VoteBack 63230)) (fun W => (W.heap[g24]? = some (.cells (Pro.c p) 36 (0, 0))) ∧ (W.heap[g25]? = some (.cells (#[.int .i64 0, .int .i64 0]) 32 (0, 0))) ∧ (W.heap[g27]? = some (.cells (#[.int .i64 (aF p.bytes).1, .int .i64 (aF p.bytes).2]) 32 (0, 0))) ∧ (W.heap[d29]? = some (.cells ((B p.dig).toArray) 26 (0, 0))) ∧ (W.heap[d31]? = some (.cells ((B p.dig).toArray) 26 (0, 0))) ∧ (W.heap[g5]? = some (.cells (Pro.c p) 36 (0, 0))) ∧ (BytesAt W (.slice Ap p.bytes.length capp) p.bytes)) #[false, false, false, false, false, false, false, false, false, false, false, false, false, false, false, false, false, false, false, false, false, false, false, false, false, false, false, false, false, false] (by kernel_rfl) (by kernel_rfl) (by kernel_rfl) (by kernel_rfl) ?_
      obtain ⟨V555, eV555, kV555⟩ := drew_step V542
      rw [eV555]
      clear eV555
      have h556 := kV555.bk h543
      have h557 := kV555.bk h544
      have h558 : BytesAt V555 (.slice Ap p.bytes.length capp) p.bytes := h545.keepsN kV555
      have h559 := kV555.bk h546
      have h560 := kV555.bk h547
      have h561 := kV555.bk h548
      have h562 := kV555.bk h549
      have h563 := kV555.bk h550
      have h564 := kV555.bk h551
      have h565 := kV555.bk h552
      have K566 := K553.nn kV555
      have z567 := kV555.size
      refine an_v 0 (o_VoteBack 63230 0) (.agg #[.int .i64 0, .int .i64 0]) (fun W hS => exec_load_row 32 (.tmp 25) (by kernel_rfl) g25 (by kernel_rfl) _ _ (0, 0) _ (hS.2.1) Try.underlying32 rfl (by kernel_rfl)) ⟨h559, h560, h562, h564, h565, h557, h558⟩ ?_
      refine an_k 1 (o_VoteBack 63230 1) (.agg #[.int .i64 0, .int .i64 0]) ⟨h559, h560, h562, h564, h565, h557, h558⟩ ?_
      refine an_v 2 (o_VoteBack 63230 2) (.bool false) (fun W hS => exec_cast (congrArg Value.bool (by simp)) (exec_binop .neq 32 32 (.tmp 145) (.tmp 146) (by kernel_rfl) (.agg #[.int .i64 0, .int .i64 0]) (.agg #[.int .i64 0, .int .i64 0]) _ (by kernel_rfl) (by kernel_rfl) (run_eqGuard_agg _ _ _ _ _ _ _ fault_guard) (fault_ne _ _ _ _ _))) ⟨h559, h560, h562, h564, h565, h557, h558⟩ ?_
      refine an_k 3 (o_VoteBack 63230 3) (.bool false) ⟨h559, h560, h562, h564, h565, h557, h558⟩ ?_
      refine an_v 4 (o_VoteBack 63230 4) (.agg (Pro.c p)) (fun W hS => exec_load_row 36 (.tmp 24) (by kernel_rfl) g24 (by kernel_rfl) _ _ (0, 0) _ (hS.1) Try.underlying36 rfl (by rw [Pro.c_size _ hp.r]; kernel_rfl)) ⟨h559, h560, h562, h564, h565, h557, h558⟩ ?_
      refine an_v 5 (o_VoteBack 63230 5) (.agg (Pro.c p)) (fun W hS => exec_load_row 36 (.tmp 5) (by kernel_rfl) g5 (by kernel_rfl) _ _ (0, 0) _ (hS.2.2.2.2.2.1) Try.underlying36 rfl (by rw [Pro.c_size _ hp.r]; kernel_rfl)) ⟨h559, h560, h562, h564, h565, h557, h558⟩ ?_
      refine an_v 6 (o_VoteBack 63230 6) (.bool false) (fun W hS => exec_cast (congrArg Value.bool (by simp)) (exec_binop .neq 36 36 (.tmp 149) (.tmp 150) (by kernel_rfl) (.agg (Pro.c p)) (.agg (Pro.c p)) _ (by kernel_rfl) (by kernel_rfl) (run_eqGuard_agg _ _ _ _ _ _ _ pro_guard) (pro_ne _ _ hp.r hp.r _))) ⟨h559, h560, h562, h564, h565, h557, h558⟩ ?_
      refine an_k 7 (o_VoteBack 63230 7) (.bool false) ⟨h559, h560, h562, h564, h565, h557, h558⟩ ?_
      refine an_k 8 (o_VoteBack 63230 8) (.bool false) ⟨h559, h560, h562, h564, h565, h557, h558⟩ ?_
      refine an_v 9 (o_VoteBack 63230 9) (.agg #[.int .i64 (aF p.bytes).1, .int .i64 (aF p.bytes).2]) (fun W hS => exec_load_row 32 (.tmp 27) (by kernel_rfl) g27 (by kernel_rfl) _ _ (0, 0) _ (hS.2.2.1) Try.underlying32 rfl (by kernel_rfl)) ⟨h559, h560, h562, h564, h565, h557, h558⟩ ?_
      refine an_k 10 (o_VoteBack 63230 10) (.agg #[.int .i64 0, .int .i64 0]) ⟨h559, h560, h562, h564, h565, h557, h558⟩ ?_
      refine an_v 11 (o_VoteBack 63230 11) (.bool false) (fun W hS => exec_cast (congrArg Value.bool (fault_off pro_noatt)) (exec_binop .eql 32 32 (.tmp 154) (.tmp 155) (by kernel_rfl) (.agg #[.int .i64 (aF p.bytes).1, .int .i64 (aF p.bytes).2]) (.agg #[.int .i64 0, .int .i64 0]) _ (by kernel_rfl) (by kernel_rfl) (run_eqGuard_agg _ _ _ _ _ _ _ fault_guard) (fault_eq _ _ _ _ _))) ⟨h559, h560, h562, h564, h565, h557, h558⟩ ?_
      refine an_k 12 (o_VoteBack 63230 12) (.bool false) ⟨h559, h560, h562, h564, h565, h557, h558⟩ ?_
      refine an_k 13 (o_VoteBack 63230 13) (.bool false) ⟨h559, h560, h562, h564, h565, h557, h558⟩ ?_
      refine an_k 14 (o_VoteBack 63230 14) (iN p.bare.length) ⟨h559, h560, h562, h564, h565, h557, h558⟩ ?_
      refine an_v 15 (o_VoteBack 63230 15) (.bool false) (fun W hS => exec_cast (congrArg Value.bool (show (decide ((((p.bare.length : Nat) : Int)) < ((0) : Int))) = false from decide_eq_false (by omega))) (by kernel_rfl)) ⟨h559, h560, h562, h564, h565, h557, h558⟩ ?_
      refine an_k 16 (o_VoteBack 63230 16) (.bool false) ⟨h559, h560, h562, h564, h565, h557, h558⟩ ?_
      refine an_k 17 (o_VoteBack 63230 17) (.bool false) ⟨h559, h560, h562, h564, h565, h557, h558⟩ ?_
      refine an_v 18 (o_VoteBack 63230 18) (.agg ((B p.dig).toArray)) (fun W hS => exec_load_row 26 (.tmp 29) (by kernel_rfl) d29 (by kernel_rfl) _ _ (0, 0) _ (hS.2.2.2.1) Try.underlying26 rfl (by rw [Bz_size, Pro.dig_len p]; kernel_rfl)) ⟨h559, h560, h562, h564, h565, h557, h558⟩ ?_
      refine an_k 19 (o_VoteBack 63230 19) (.slice Ap p.bytes.length capp) ⟨h559, h560, h562, h564, h565, h557, h558⟩ ?_
      refine an_k 20 (o_VoteBack 63230 20) (iN p.bare.length) ⟨h559, h560, h562, h564, h565, h557, h558⟩ ?_
      refine an_v 21 (o_VoteBack 63230 21) (.slice Ap p.bare.length capp) (fun W hS => exec_slice_to 22 (.tmp 164) (.tmp 165) (by kernel_rfl) Ap p.bytes.length capp (by kernel_rfl) .i64 p.bare.length (by kernel_rfl) 5 Try.underlying22 (by kernel_rfl) (by omega)) ⟨h559, h560, h562, h564, h565, h557, h558⟩ ?_
      refine an_o 22 ?_
      refine on_c (o_VoteBack 63230 22) 38 #[.slice Ap p.bare.length capp] Try.func38 ((ksum_pro p _ hp h558).mono ?_)
      rintro e V568 ⟨rfl, kV568⟩
      refine ⟨_, rfl, ?_⟩
      have h569 := kV568.bk h556
      have h570 := kV568.bk h557
      have h571 : BytesAt V568 (.slice Ap p.bytes.length capp) p.bytes := h558.keepsN kV568
      have h572 := kV568.bk h559
      have h573 := kV568.bk h560
      have h574 := kV568.bk h561
      have h575 := kV568.bk h562
      have h576 := kV568.bk h563
      have h577 := kV568.bk h564
      have h578 := kV568.bk h565
      have K579 := K566.nn kV568
      have z580 := kV568.size
      refine ⟨⟨h572, h573, h575, h577, h578, h570, h571⟩, ?_⟩
      refine an_v 23 (o_VoteBack 63230 23) (.bool false) (fun W hS => exec_cast (congrArg Value.bool (by simp)) (exec_binop .neq 26 26 (.tmp 163) (.tmp 167) (by kernel_rfl) (.agg (B p.dig).toArray) (.agg (B p.dig).toArray) _ (by kernel_rfl) (by kernel_rfl) (run_eqGuard_agg _ _ _ _ _ _ _ hash_guard) (hash_ne _ _ (Pro.dig_len p) (Pro.dig_len p) _))) ⟨h572, h573, h575, h577, h578, h570, h571⟩ ?_
      refine an_k 24 (o_VoteBack 63230 24) (.bool false) ⟨h572, h573, h575, h577, h578, h570, h571⟩ ?_
      refine an_k 25 (o_VoteBack 63230 25) (.bool false) ⟨h572, h573, h575, h577, h578, h570, h571⟩ ?_
      refine an_v 26 (o_VoteBack 63230 26) (.agg ((B p.dig).toArray)) (fun W hS => exec_load_row 26 (.tmp 31) (by kernel_rfl) d31 (by kernel_rfl) _ _ (0, 0) _ (hS.2.2.2.2.1) Try.underlying26 rfl (by rw [Bz_size, Pro.dig_len p]; kernel_rfl)) ⟨h572, h573, h575, h577, h578, h570, h571⟩ ?_
      refine an_v 27 (o_VoteBack 63230 27) (.agg ((B p.dig).toArray)) (fun W hS => exec_load_row 26 (.tmp 29) (by kernel_rfl) d29 (by kernel_rfl) _ _ (0, 0) _ (hS.2.2.2.1) Try.underlying26 rfl (by rw [Bz_size, Pro.dig_len p]; kernel_rfl)) ⟨h572, h573, h575, h577, h578, h570, h571⟩ ?_
      refine an_v 28 (o_VoteBack 63230 28) (.bool false) (fun W hS => exec_cast (congrArg Value.bool (by simp)) (exec_binop .neq 26 26 (.tmp 171) (.tmp 172) (by kernel_rfl) (.agg (B p.dig).toArray) (.agg (B p.dig).toArray) _ (by kernel_rfl) (by kernel_rfl) (run_eqGuard_agg _ _ _ _ _ _ _ hash_guard) (hash_ne _ _ (Pro.dig_len p) (Pro.dig_len p) _))) ⟨h572, h573, h575, h577, h578, h570, h571⟩ ?_
      refine an_k 29 (o_VoteBack 63230 29) (.bool false) ⟨h572, h573, h575, h577, h578, h570, h571⟩ ?_
      refine an_end (by kernel_rfl) ?_
      refine sy_a ⟨#[.agg (Att.c a), .agg (Pro.c p), .slice A0 l.length cap0, uN tag, pT g4 0, pT g5 0, undef, undef, .bool false, .bool true, u2_10, u2_11, u2_12, u2_13, u2_14, u2_15, u2_16, u2_17, u2_18, u2_19, u2_20, u2_21, .slice Ap p.bytes.length capp, .int .i64 0, pT g24 0, pT g25 0, pT g26 0, pT g27 0, pT g28 0, pT d29 0, .int .i64 0, pT d31 0, .int .i64 0, iN p.bare.length, undef, undef, undef, undef, undef, undef, undef, undef, .bool true, u2_43, u2_44, u2_45, u2_46, u2_47, u2_48, u2_49, u2_50, u2_51, u2_52, u2_53, u2_54, u2_55, u2_56, u2_57, u2_58, u2_59, u2_60, u2_61, u2_62, u2_63, u2_64, u2_65, u2_66, u2_67, u2_68, u2_69, u2_70, u2_71, u2_72, u2_73, u2_74, u2_75, u2_76, u2_77, u2_78, u2_79, u2_80, u2_81, u2_82, u2_83, u2_84, u2_85, u2_86, u2_87, u2_88, u2_89, u2_90, u2_91, u2_92, u2_93, u2_94, u2_95, u2_96, u2_97, u2_98, u2_99, u2_100, u2_101, u2_102, u2_103, u2_104, u2_105, u2_106, u2_107, u2_108, .tuple #[.slice Ap p.bytes.length capp, .int .i64 0], .agg (Pro.c p), .tuple #[.slice Ap p.bytes.length capp, .int .i64 0], .slice Ap p.bytes.length capp, .int .i64 0, .int .i64 0, .bool true, .tuple #[.agg (Pro.c p), .agg #[.int .i64 0, .int .i64 0]], .slice Ap p.bytes.length capp, .tuple #[.agg (Pro.c p), .agg #[.int .i64 0, .int .i64 0]], .agg (Pro.c p), .agg #[.int .i64 0, .int .i64 0], .tuple #[.agg (Att.c attZero), .agg #[.int .i64 (aF p.bytes).1, .int .i64 (aF p.bytes).2]], .slice Ap p.bytes.length capp, .tuple #[.agg (Att.c attZero), .agg #[.int .i64 (aF p.bytes).1, .int .i64 (aF p.bytes).2]], .agg (Att.c attZero), .agg #[.int .i64 (aF p.bytes).1, .int .i64 (aF p.bytes).2], .agg (Pro.c p), uN tag, pT g28 34, .tuple #[.agg (B p.dig).toArray, .int .i64 0], .agg (Pro.c p), .tuple #[.agg (B p.dig).toArray, .int .i64 0], .agg (B p.dig).toArray, .int .i64 0, .tuple #[.agg (B p.dig).toArray, .int .i64 0], .agg (Pro.c ⟨p.v, p.h, p.r, tag⟩), .tuple #[.agg (B p.dig).toArray, .int .i64 0], .agg (B p.dig).toArray, .int .i64 0, .slice Ap p.bytes.length capp, iN p.bytes.length, pT g5 34, uN p.g, iN ((Cod.enc p.g).length), iN p.bare.length, .agg #[.int .i64 0, .int .i64 0], .agg #[.int .i64 0, .int .i64 0], .bool false, .bool false, .agg (Pro.c p), .agg (Pro.c p), .bool false, .bool false, .bool false, .agg #[.int .i64 (aF p.bytes).1, .int .i64 (aF p.bytes).2], .agg #[.int .i64 0, .int .i64 0], .bool false, .bool false, .bool false, iN p.bare.length, .bool false, .bool false, .bool false, .agg ((B p.dig).toArray), .slice Ap p.bytes.length capp, iN p.bare.length, .slice Ap p.bare.length capp, .agg (B p.dig).toArray, .bool false, .bool false, .bool false, .agg ((B p.dig).toArray), .agg ((B p.dig).toArray), .bool false, .bool false, undef, undef, undef, undef, undef, undef, undef, undef, undef, undef, undef, undef, undef, undef, undef, undef, undef, undef, undef, undef, undef, undef, undef, undef, undef, undef, undef, undef, undef, undef, undef, undef, undef, undef, undef, undef, undef, undef, undef, undef, undef, undef, undef, undef, undef, undef, undef], []⟩ ?_
      refine then_n ?_
      refine sy_n (.tmp 174) (part_VoteBack 126462) (part_VoteBack 126463) ?_
      refine sy_sk ?_
      exact ⟨rfl, .slice Ap p.bytes.length capp, .int .i64 0, .pointer (some ⟨g24, 0, none⟩), .pointer (some ⟨g25, 0, none⟩), .pointer (some ⟨g26, 0, none⟩), .pointer (some ⟨g27, 0, none⟩), .pointer (some ⟨g28, 0, none⟩), .pointer (some ⟨d29, 0, none⟩), .int .i64 0, .pointer (some ⟨d31, 0, none⟩), .int .i64 0, .int .i64 ((p.bare.length : Nat) : Int), .tuple #[.slice Ap p.bytes.length capp, .int .i64 0], .agg (Pro.c p), .tuple #[.slice Ap p.bytes.length capp, .int .i64 0], .slice Ap p.bytes.length capp, .int .i64 0, .int .i64 0, .bool true, .tuple #[.agg (Pro.c p), .agg #[.int .i64 0, .int .i64 0]], .slice Ap p.bytes.length capp, .tuple #[.agg (Pro.c p), .agg #[.int .i64 0, .int .i64 0]], .agg (Pro.c p), .agg #[.int .i64 0, .int .i64 0], .tuple #[.agg (Att.c attZero), .agg #[.int .i64 (aF p.bytes).1, .int .i64 (aF p.bytes).2]], .slice Ap p.bytes.length capp, .tuple #[.agg (Att.c attZero), .agg #[.int .i64 (aF p.bytes).1, .int .i64 (aF p.bytes).2]], .agg (Att.c attZero), .agg #[.int .i64 (aF p.bytes).1, .int .i64 (aF p.bytes).2], .agg (Pro.c p), .int .u64 ((tag : Nat) : Int), .pointer (some ⟨g28, 34, none⟩), .tuple #[.agg (B p.dig).toArray, .int .i64 0], .agg (Pro.c p), .tuple #[.agg (B p.dig).toArray, .int .i64 0], .agg (B p.dig).toArray, .int .i64 0, .tuple #[.agg (B p.dig).toArray, .int .i64 0], .agg (Pro.c ⟨p.v, p.h, p.r, tag⟩), .tuple #[.agg (B p.dig).toArray, .int .i64 0], .agg (B p.dig).toArray, .int .i64 0, .slice Ap p.bytes.length capp, .int .i64 ((p.bytes.length : Nat) : Int), .pointer (some ⟨g5, 34, none⟩), .int .u64 ((p.g : Nat) : Int), .int .i64 (((Cod.enc p.g).length : Nat) : Int), .int .i64 ((p.bare.length : Nat) : Int), .agg #[.int .i64 0, .int .i64 0], .agg #[.int .i64 0, .int .i64 0], .bool false, .bool false, .agg (Pro.c p), .agg (Pro.c p), .bool false, .bool false, .bool false, .agg #[.int .i64 (aF p.bytes).1, .int .i64 (aF p.bytes).2], .agg #[.int .i64 0, .int .i64 0], .bool false, .bool false, .bool false, .int .i64 ((p.bare.length : Nat) : Int), .bool false, .bool false, .bool false, .agg ((B p.dig).toArray), .slice Ap p.bytes.length capp, .int .i64 ((p.bare.length : Nat) : Int), .slice Ap p.bare.length capp, .agg (B p.dig).toArray, .bool false, .bool false, .bool false, .agg ((B p.dig).toArray), .agg ((B p.dig).toArray), .bool false, .bool false, by kernel_rfl, h569, h570, by omega, K579⟩
    · refine sy_sq (part_VoteBack 60) (part_VoteBack 61) ?_
      refine sy_reg ?_
      refine rg_plain 13 (opsAt (part_VoteBack 60)) [0, 1, 2, 3, 4, 5, 6] (by kernel_rfl) (by kernel_rfl) ?_
      refine ps_p (o_VoteBack 60 0) (.agg (Pro.c p)) (exec_load_row 36 (.tmp 5) (by kernel_rfl) g5 (by kernel_rfl) _ _ (0, 0) _ (h302) Try.underlying36 rfl (by rw [Pro.c_size _ hp.r]; kernel_rfl)) ?_
      refine ps_c (o_VoteBack 60 1) 18 #[.agg (Pro.c p)] Try.func18 ((vBytesBlock_bad p _ hp hfp).mono ?_)
      rintro e V582 ⟨rfl, kV582⟩
      refine ⟨_, rfl, ?_⟩
      have h583 := kV582.bk h301
      have h584 := kV582.bk h302
      have K585 := K304.nn kV582
      have z586 := kV582.size
      refine ps_k (o_VoteBack 60 2) (.tuple #[.slice none 0 0, .int .i64 3]) ?_
      refine ps_k (o_VoteBack 60 3) (.slice none 0 0) ?_
      refine ps_k (o_VoteBack 60 4) (.int .i64 3) ?_
      refine ps_k (o_VoteBack 60 5) (.slice none 0 0) ?_
      refine ps_k (o_VoteBack 60 6) (.int .i64 3) ?_
      refine ps_end ?_
      refine then_n ?_
      refine sy_sq (part_VoteBack 122) (part_VoteBack 123) ?_
      refine sy_reg ?_
      refine rg_plain 14 (opsAt (part_VoteBack 122)) [0, 1] (by kernel_rfl) (by kernel_rfl) ?_
      refine ps_k (o_VoteBack 122 0) (.int .i64 3) ?_
      refine ps_k (o_VoteBack 122 1) (.bool false) ?_
      refine ps_end ?_
      refine then_n ?_
      refine sy_n (.tmp 115) (part_VoteBack 246) (part_VoteBack 247) ?_
      refine sy_sk ?_
      exact ⟨rfl, .slice none 0 0, .int .i64 3, undef, undef, undef, undef, undef, undef, undef, undef, undef, undef, .tuple #[.slice none 0 0, .int .i64 3], .agg (Pro.c p), .tuple #[.slice none 0 0, .int .i64 3], .slice none 0 0, .int .i64 3, .int .i64 3, .bool false, undef, undef, undef, undef, undef, undef, undef, undef, undef, undef, undef, undef, undef, undef, undef, undef, undef, undef, undef, undef, undef, undef, undef, undef, undef, undef, undef, undef, undef, undef, undef, undef, undef, undef, undef, undef, undef, undef, undef, undef, undef, undef, undef, undef, undef, undef, undef, undef, undef, undef, undef, undef, undef, undef, undef, undef, undef, undef, undef, by kernel_rfl, h583, h584, by omega, K585⟩
  rintro aQ V587 ⟨u3_22, u3_23, u3_24, u3_25, u3_26, u3_27, u3_28, u3_29, u3_30, u3_31, u3_32, u3_33, u3_109, u3_110, u3_111, u3_112, u3_113, u3_114, u3_115, u3_116, u3_117, u3_118, u3_119, u3_120, u3_121, u3_122, u3_123, u3_124, u3_125, u3_126, u3_127, u3_128, u3_129, u3_130, u3_131, u3_132, u3_133, u3_134, u3_135, u3_136, u3_137, u3_138, u3_139, u3_140, u3_141, u3_142, u3_143, u3_144, u3_145, u3_146, u3_147, u3_148, u3_149, u3_150, u3_151, u3_152, u3_153, u3_154, u3_155, u3_156, u3_157, u3_158, u3_159, u3_160, u3_161, u3_162, u3_163, u3_164, u3_165, u3_166, u3_167, u3_168, u3_169, u3_170, u3_171, u3_172, u3_173, u3_174, rfl, h588, h589, z590, K591⟩
  refine then_n ?_
  refine sy_sq (part_VoteBack 62) (part_VoteBack 63) ?_
  refine sy_sq (part_VoteBack 124) (part_VoteBack 125) ?_
  refine sy_reg ?_
  refine rg_plain 24 (opsAt (part_VoteBack 124)) [0, 1, 2] (by kernel_rfl) (by kernel_rfl) ?_
  refine ps_k (o_VoteBack 124 0) (.slice A0 l.length cap0) ?_
  refine ps_p (o_VoteBack 124 1) (iN l.length) (exec_len (.tmp 175) 22 _ (by kernel_rfl) Try.underlying22 A0 l.length cap0 (by kernel_rfl)) ?_
  by_cases hl : 300 < l.length
  · refine ps_p (o_VoteBack 124 2) (.bool true) (exec_cast (congrArg Value.bool (show (decide ((((l.length : Nat) : Int)) > ((300) : Int))) = true from decide_eq_true (by omega))) (by kernel_rfl)) ?_
    refine ps_end ?_
    refine then_n ?_
    refine sy_ys (.tmp 177) (part_VoteBack 250) (part_VoteBack 251) ?_
    refine sy_sq (part_VoteBack 500) (part_VoteBack 501) ?_
    refine sy_reg ?_
    refine rg_plain 25 (opsAt (part_VoteBack 500)) [0, 1] (by kernel_rfl) (by kernel_rfl) ?_
    refine ps_k (o_VoteBack 500 0) (.bool true) ?_
    refine ps_k (o_VoteBack 500 1) (.bool true) ?_
    refine ps_end ?_
    refine then_n ?_
    refine sy_ret (by kernel_rfl) ?_
    refine then_r ?_
    refine sy_out (.bool true) rfl (by kernel_rfl) ?_
    exact ⟨rfl, K591⟩
  · refine ps_p (o_VoteBack 124 2) (.bool false) (exec_cast (congrArg Value.bool (show (decide ((((l.length : Nat) : Int)) > ((300) : Int))) = false from decide_eq_false (by omega))) (by kernel_rfl)) ?_
    refine ps_end ?_
    refine then_n ?_
    refine sy_n (.tmp 177) (part_VoteBack 250) (part_VoteBack 251) ?_
    refine sy_sk ?_
    refine then_n ?_
    refine sy_sq (part_VoteBack 126) (part_VoteBack 127) ?_
    refine sy_cut (fun aQ VQ => ∃ (u5_34 u5_35 u5_36 u5_37 u5_179 u5_180 u5_181 u5_182 u5_183 u5_184 u5_185 u5_186 u5_187 u5_188 u5_189 u5_190 u5_191 u5_192 u5_193 u5_194 u5_195 u5_196 u5_197 u5_198 u5_199 : Value), (aQ = ⟨#[.agg (Att.c a), .agg (Pro.c p), .slice A0 l.length cap0, .int .u64 ((tag : Nat) : Int), .pointer (some ⟨g4, 0, none⟩), .pointer (some ⟨g5, 0, none⟩), undef, undef, .bool false, .bool true, u2_10, u2_11, u2_12, u2_13, u2_14, u2_15, u2_16, u2_17, u2_18, u2_19, u2_20, u2_21, u3_22, u3_23, u3_24, u3_25, u3_26, u3_27, u3_28, u3_29, u3_30, u3_31, u3_32, u3_33, u5_34, u5_35, u5_36, u5_37, undef, undef, undef, undef, .bool true, u2_43, u2_44, u2_45, u2_46, u2_47, u2_48, u2_49, u2_50, u2_51, u2_52, u2_53, u2_54, u2_55, u2_56, u2_57, u2_58, u2_59, u2_60, u2_61, u2_62, u2_63, u2_64, u2_65, u2_66, u2_67, u2_68, u2_69, u2_70, u2_71, u2_72, u2_73, u2_74, u2_75, u2_76, u2_77, u2_78, u2_79, u2_80, u2_81, u2_82, u2_83, u2_84, u2_85, u2_86, u2_87, u2_88, u2_89, u2_90, u2_91, u2_92, u2_93, u2_94, u2_95, u2_96, u2_97, u2_98, u2_99, u2_100, u2_101, u2_102, u2_103, u2_104, u2_105, u2_106, u2_107, u2_108, u3_109, u3_110, u3_111, u3_112, u3_113, u3_114, u3_115, u3_116, u3_117, u3_118, u3_119, u3_120, u3_121, u3_122, u3_123, u3_124, u3_125, u3_126, u3_127, u3_128, u3_129, u3_130, u3_131, u3_132, u3_133, u3_134, u3_135, u3_136, u3_137, u3_138, u3_139, u3_140, u3_141, u3_142, u3_143, u3_144, u3_145, u3_146, u3_147, u3_148, u3_149, u3_150, u3_151, u3_152, u3_153, u3_154, u3_155, u3_156, u3_157, u3_158, u3_159, u3_160, u3_161, u3_162, u3_163, u3_164, u3_165, u3_166, u3_167, u3_168, u3_169, u3_170, u3_171, u3_172, u3_173, u3_174, .slice A0 l.length cap0, .int .i64 ((l.length : Nat) : Int), .bool false, undef, u5_179, u5_180, u5_181, u5_182, u5_183, u5_184, u5_185, u5_186, u5_187, u5_188, u5_189, u5_190, u5_191, u5_192, u5_193, u5_194, u5_195, u5_196, u5_197, u5_198, u5_199, undef, undef, undef, undef, undef, undef, undef, undef, undef, undef, undef, undef, undef, undef, undef, undef, undef, undef, undef, undef, undef, undef], []⟩) ∧ (VQ.heap[g4]? = some (.cells (Att.c a) 29 (0, 0))) ∧ (VQ.heap[g5]? = some (.cells (Pro.c p) 36 (0, 0))) ∧ (V587.heap.size ≤ VQ.heap.size) ∧ (Keeps Nob w VQ)) ?_ ?_
    · by_cases hza : (aF l).1 = 0
      · refine sy_sq (part_VoteBack 252) (part_VoteBack 253) ?_
        refine sy_reg ?_
        refine rg_plain 26 (opsAt (part_VoteBack 252)) [0, 1, 2, 3, 4, 5, 6, 7, 8] (by kernel_rfl) (by kernel_rfl) ?_
        refine ps_k (o_VoteBack 252 0) (.slice A0 l.length cap0) ?_
        refine ps_c (o_VoteBack 252 1) 11 #[.slice A0 l.length cap0] Try.func11 ((vRead_fin _ (hx.keepsN K591) (by omega) rfl rfl).mono ?_)
        rintro e V592 ⟨rfl, kV592⟩
        refine ⟨_, rfl, ?_⟩
        have h593 := kV592.bk h588
        have h594 := kV592.bk h589
        have K595 := K591.nn kV592
        have z596 := kV592.size
        refine ps_k (o_VoteBack 252 2) (.tuple #[.agg (Att.c (aRes l)), .agg #[.int .i64 (aF l).1, .int .i64 (aF l).2]]) ?_
        refine ps_k (o_VoteBack 252 3) (.agg (Att.c (aRes l))) ?_
        refine ps_k (o_VoteBack 252 4) (.agg #[.int .i64 (aF l).1, .int .i64 (aF l).2]) ?_
        obtain ⟨V597, eV597, g34, eg34, h598, kV597⟩ := alloc_step V592 (#[.int .i64 0, .int .i64 0, .int .i64 0, .int .u8 0, .int .u8 0, .int .u8 0, .int .u8 0, .int .u8 0, .int .u8 0, .int .u8 0, .int .u8 0, .int .u8 0, .int .u8 0, .int .u8 0, .int .u8 0, .int .u8 0, .int .u8 0, .int .u8 0, .int .u8 0, .int .u8 0, .int .u8 0, .int .u8 0, .int .u8 0, .int .u8 0, .int .u8 0, .int .u8 0, .int .u8 0, .int .u8 0, .int .u8 0, .int .u8 0, .int .u8 0, .int .u8 0, .int .u8 0, .int .u8 0, .int .u8 0, .int .u64 0]) 29
        have n599 : g4 < g34 := eg34 ▸ lt_of_block h593
        have n600 : g5 < g34 := eg34 ▸ lt_of_block h594
        have n601 : w.heap.size ≤ g34 := eg34 ▸ K595.size
        refine ps_r (o_VoteBack 252 5) (pT g34 0) (w' := V597) (by rw [← eV597, ← eg34]; exact exec_alloc0 29 (by kernel_rfl) (.agg (#[.int .i64 0, .int .i64 0, .int .i64 0, .int .u8 0, .int .u8 0, .int .u8 0, .int .u8 0, .int .u8 0, .int .u8 0, .int .u8 0, .int .u8 0, .int .u8 0, .int .u8 0, .int .u8 0, .int .u8 0, .int .u8 0, .int .u8 0, .int .u8 0, .int .u8 0, .int .u8 0, .int .u8 0, .int .u8 0, .int .u8 0, .int .u8 0, .int .u8 0, .int .u8 0, .int .u8 0, .int .u8 0, .int .u8 0, .int .u8 0, .int .u8 0, .int .u8 0, .int .u8 0, .int .u8 0, .int .u8 0, .int .u64 0])) (by kernel_rfl)) ?_
        clear eV597
        have h602 := kV597.bk h593
        have h603 := kV597.bk h594
        have K604 := K595.nn kV597
        have z605 := kV597.size
        obtain ⟨V606, eV606, g35, eg35, h607, kV606⟩ := alloc_step V597 (#[.int .i64 0, .int .i64 0]) 32
        have n608 : g4 < g35 := eg35 ▸ lt_of_block h602
        have n609 : g5 < g35 := eg35 ▸ lt_of_block h603
        have n610 : g34 < g35 := eg35 ▸ lt_of_block h598
        have n611 : w.heap.size ≤ g35 := eg35 ▸ K604.size
        refine ps_r (o_VoteBack 252 6) (pT g35 0) (w' := V606) (by rw [← eV606, ← eg35]; exact exec_alloc0 32 (by kernel_rfl) (.agg (#[.int .i64 0, .int .i64 0])) (by kernel_rfl)) ?_
        clear eV606
        have h612 := kV606.bk h602
        have h613 := kV606.bk h603
        have h614 := kV606.bk h598
        have K615 := K604.nn kV606
        have z616 := kV606.size
        obtain ⟨V617, eV617, kV617⟩ := rowset_step V606 g34 ((Att.c (aRes l)))
        have h618 : V617.heap[g34]? = some (.cells (Att.c (aRes l)) 29 (0, 0)) := eV617 ▸ setRow_heap _ _ _ _ _ _ h614
        refine ps_s (o_VoteBack 252 7) (w' := V617) (by rw [← eV617]; exact exec_store_row 29 (.tmp 34) (.tmp 182) (by kernel_rfl) g34 ((Att.c (aRes l))) (by kernel_rfl) (by kernel_rfl) 29 (#[.int .i64 0, .int .i64 0, .int .i64 0, .int .u8 0, .int .u8 0, .int .u8 0, .int .u8 0, .int .u8 0, .int .u8 0, .int .u8 0, .int .u8 0, .int .u8 0, .int .u8 0, .int .u8 0, .int .u8 0, .int .u8 0, .int .u8 0, .int .u8 0, .int .u8 0, .int .u8 0, .int .u8 0, .int .u8 0, .int .u8 0, .int .u8 0, .int .u8 0, .int .u8 0, .int .u8 0, .int .u8 0, .int .u8 0, .int .u8 0, .int .u8 0, .int .u8 0, .int .u8 0, .int .u8 0, .int .u8 0, .int .u64 0]) h614 (by first | (rw [Att.c_size _ ha.r]; kernel_rfl) | (rw [Att.c_size _ (show attZero.r.length = 32 from rfl)]; kernel_rfl) | (rw [Att.c_size _ (aRes_len l)]; kernel_rfl)) (by first | (rw [Att.c_size _ ha.r]; rfl) | (rw [Att.c_size _ (show attZero.r.length = 32 from rfl)]; rfl) | (rw [Att.c_size _ (aRes_len l)]; rfl)) (Att.c_one _)) ?_
        clear eV617
        have h619 := kV617.bo h612 (by omega)
        have h620 := kV617.bo h613 (by omega)
        have h621 := kV617.bo h607 (by omega)
        have K622 := K615.no kV617 (by omega)
        have z623 := kV617.size
        obtain ⟨V624, eV624, kV624⟩ := rowset_step V617 g35 (#[.int .i64 (aF l).1, .int .i64 (aF l).2])
        have h625 : V624.heap[g35]? = some (.cells (#[.int .i64 (aF l).1, .int .i64 (aF l).2]) 32 (0, 0)) := eV624 ▸ setRow_heap _ _ _ _ _ _ h621
        refine ps_s (o_VoteBack 252 8) (w' := V624) (by rw [← eV624]; exact exec_store_row 32 (.tmp 35) (.tmp 183) (by kernel_rfl) g35 (#[.int .i64 (aF l).1, .int .i64 (aF l).2]) (by kernel_rfl) (by kernel_rfl) 32 (#[.int .i64 0, .int .i64 0]) h621 (by kernel_rfl) rfl (by kernel_rfl)) ?_
        clear eV624
        have h626 := kV624.bo h619 (by omega)
        have h627 := kV624.bo h620 (by omega)
        have h628 := kV624.bo h618 (by omega)
        have K629 := K622.no kV624 (by omega)
        have z630 := kV624.size
        refine ps_end ?_
        refine then_n ?_
        refine sy_sq (part_VoteBack 506) (part_VoteBack 507) ?_
        refine sy_reg ?_
        refine rg_plain 27 (opsAt (part_VoteBack 506)) [0, 1, 2] (by kernel_rfl) (by kernel_rfl) ?_
        refine ps_p (o_VoteBack 506 0) (.agg #[.int .i64 (aF l).1, .int .i64 (aF l).2]) (exec_load_row 32 (.tmp 35) (by kernel_rfl) g35 (by kernel_rfl) _ _ (0, 0) _ (h625) Try.underlying32 rfl (by kernel_rfl)) ?_
        refine ps_k (o_VoteBack 506 1) (.agg #[.int .i64 0, .int .i64 0]) ?_
        refine ps_p (o_VoteBack 506 2) (.bool true) (exec_cast (congrArg Value.bool (decide_eq_true ⟨hza, fin0 hza⟩)) (exec_binop .eql 32 32 (.tmp 184) (.tmp 185) (by kernel_rfl) (.agg #[.int .i64 (aF l).1, .int .i64 (aF l).2]) (.agg #[.int .i64 0, .int .i64 0]) _ (by kernel_rfl) (by kernel_rfl) (run_eqGuard_agg _ _ _ _ _ _ _ fault_guard) (fault_eq _ _ _ _ _))) ?_
        refine ps_end ?_
        refine then_n ?_
        refine sy_ys (.tmp 186) (part_VoteBack 1014) (part_VoteBack 1015) ?_
        refine sy_sq (part_VoteBack 2028) (part_VoteBack 2029) ?_
        refine sy_reg ?_
        refine rg_plain 28 (opsAt (part_VoteBack 2028)) [0, 1, 2, 3, 4, 5, 6] (by kernel_rfl) (by kernel_rfl) ?_
        refine ps_p (o_VoteBack 2028 0) (.agg (Att.c (aRes l))) (exec_load_row 29 (.tmp 34) (by kernel_rfl) g34 (by kernel_rfl) _ _ (0, 0) _ (h628) Try.underlying29 rfl (by rw [Att.c_size _ (aRes_len l)]; kernel_rfl)) ?_
        obtain ⟨hoa, hfia, hbya⟩ := att_back hza
        rw [← aRes_is hza] at hoa hfia hbya
        refine ps_c (o_VoteBack 2028 1) 16 #[.agg (Att.c (aRes l))] Try.func16 ((vBytes_lit (aRes l) _ hoa hfia).mono ?_)
        rintro e V631 ⟨Ba, capBa, rfl, hYa, _, _, kV631⟩
        refine ⟨_, rfl, ?_⟩
        have h632 := kV631.bk h626
        have h633 := kV631.bk h627
        have h634 := kV631.bk h628
        have h635 := kV631.bk h625
        have K636 := K629.nn kV631
        have z637 := kV631.size
        refine ps_k (o_VoteBack 2028 2) (.tuple #[.slice Ba (aRes l).bytes.length capBa, .int .i64 0]) ?_
        refine ps_k (o_VoteBack 2028 3) (.slice Ba (aRes l).bytes.length capBa) ?_
        refine ps_k (o_VoteBack 2028 4) (.int .i64 0) ?_
        refine ps_k (o_VoteBack 2028 5) (.slice Ba (aRes l).bytes.length capBa) ?_
        refine ps_k (o_VoteBack 2028 6) (.int .i64 0) ?_
        refine ps_end ?_
        refine then_n ?_
        refine sy_sq (part_VoteBack 4058) (part_VoteBack 4059) ?_
        refine sy_reg ?_
        refine rg_plain 29 (opsAt (part_VoteBack 4058)) [0, 1, 2, 3, 4, 5, 6, 7] (by kernel_rfl) (by kernel_rfl) ?_
        refine ps_k (o_VoteBack 4058 0) (.int .i64 0) ?_
        refine ps_k (o_VoteBack 4058 1) (.bool false) ?_
        refine ps_k (o_VoteBack 4058 2) (.bool false) ?_
        refine ps_k (o_VoteBack 4058 3) (.slice Ba (aRes l).bytes.length capBa) ?_
        refine ps_k (o_VoteBack 4058 4) (.slice A0 l.length cap0) ?_
        refine ps_c (o_VoteBack 4058 5) 20 #[.slice Ba (aRes l).bytes.length capBa, .slice A0 l.length cap0] Try.func20 ((sameBytes_same hYa (hx.keepsN K636) hbya).mono ?_)
        rintro e w1 ⟨rfl, rfl⟩
        refine ⟨_, rfl, ?_⟩
        refine ps_k (o_VoteBack 4058 6) (.bool false) ?_
        refine ps_k (o_VoteBack 4058 7) (.bool false) ?_
        refine ps_end ?_
        refine sy_a ⟨#[.agg (Att.c a), .agg (Pro.c p), .slice A0 l.length cap0, uN tag, pT g4 0, pT g5 0, undef, undef, .bool false, .bool true, u2_10, u2_11, u2_12, u2_13, u2_14, u2_15, u2_16, u2_17, u2_18, u2_19, u2_20, u2_21, u3_22, u3_23, u3_24, u3_25, u3_26, u3_27, u3_28, u3_29, u3_30, u3_31, u3_32, u3_33, pT g34 0, pT g35 0, .slice Ba (aRes l).bytes.length capBa, .int .i64 0, undef, undef, undef, undef, .bool true, u2_43, u2_44, u2_45, u2_46, u2_47, u2_48, u2_49, u2_50, u2_51, u2_52, u2_53, u2_54, u2_55, u2_56, u2_57, u2_58, u2_59, u2_60, u2_61, u2_62, u2_63, u2_64, u2_65, u2_66, u2_67, u2_68, u2_69, u2_70, u2_71, u2_72, u2_73, u2_74, u2_75, u2_76, u2_77, u2_78, u2_79, u2_80, u2_81, u2_82, u2_83, u2_84, u2_85, u2_86, u2_87, u2_88, u2_89, u2_90, u2_91, u2_92, u2_93, u2_94, u2_95, u2_96, u2_97, u2_98, u2_99, u2_100, u2_101, u2_102, u2_103, u2_104, u2_105, u2_106, u2_107, u2_108, u3_109, u3_110, u3_111, u3_112, u3_113, u3_114, u3_115, u3_116, u3_117, u3_118, u3_119, u3_120, u3_121, u3_122, u3_123, u3_124, u3_125, u3_126, u3_127, u3_128, u3_129, u3_130, u3_131, u3_132, u3_133, u3_134, u3_135, u3_136, u3_137, u3_138, u3_139, u3_140, u3_141, u3_142, u3_143, u3_144, u3_145, u3_146, u3_147, u3_148, u3_149, u3_150, u3_151, u3_152, u3_153, u3_154, u3_155, u3_156, u3_157, u3_158, u3_159, u3_160, u3_161, u3_162, u3_163, u3_164, u3_165, u3_166, u3_167, u3_168, u3_169, u3_170, u3_171, u3_172, u3_173, u3_174, .slice A0 l.length cap0, iN l.length, .bool false, undef, .tuple #[.agg (Att.c (aRes l)), .agg #[.int .i64 (aF l).1, .int .i64 (aF l).2]], .slice A0 l.length cap0, .tuple #[.agg (Att.c (aRes l)), .agg #[.int .i64 (aF l).1, .int .i64 (aF l).2]], .agg (Att.c (aRes l)), .agg #[.int .i64 (aF l).1, .int .i64 (aF l).2], .agg #[.int .i64 (aF l).1, .int .i64 (aF l).2], .agg #[.int .i64 0, .int .i64 0], .bool true, .tuple #[.slice Ba (aRes l).bytes.length capBa, .int .i64 0], .agg (Att.c (aRes l)), .tuple #[.slice Ba (aRes l).bytes.length capBa, .int .i64 0], .slice Ba (aRes l).bytes.length capBa, .int .i64 0, .int .i64 0, .bool false, .bool false, .slice Ba (aRes l).bytes.length capBa, .slice A0 l.length cap0, .bool true, .bool false, .bool false, undef, undef, undef, undef, undef, undef, undef, undef, undef, undef, undef, undef, undef, undef, undef, undef, undef, undef, undef, undef, undef, undef], []⟩ ?_
        refine then_n ?_
        refine sy_n (.tmp 199) (part_VoteBack 8118) (part_VoteBack 8119) ?_
        refine sy_sk ?_
        exact ⟨rfl, .pointer (some ⟨g34, 0, none⟩), .pointer (some ⟨g35, 0, none⟩), .slice Ba (aRes l).bytes.length capBa, .int .i64 0, .tuple #[.agg (Att.c (aRes l)), .agg #[.int .i64 (aF l).1, .int .i64 (aF l).2]], .slice A0 l.length cap0, .tuple #[.agg (Att.c (aRes l)), .agg #[.int .i64 (aF l).1, .int .i64 (aF l).2]], .agg (Att.c (aRes l)), .agg #[.int .i64 (aF l).1, .int .i64 (aF l).2], .agg #[.int .i64 (aF l).1, .int .i64 (aF l).2], .agg #[.int .i64 0, .int .i64 0], .bool true, .tuple #[.slice Ba (aRes l).bytes.length capBa, .int .i64 0], .agg (Att.c (aRes l)), .tuple #[.slice Ba (aRes l).bytes.length capBa, .int .i64 0], .slice Ba (aRes l).bytes.length capBa, .int .i64 0, .int .i64 0, .bool false, .bool false, .slice Ba (aRes l).bytes.length capBa, .slice A0 l.length cap0, .bool true, .bool false, .bool false, by kernel_rfl, h632, h633, by omega, K636⟩
      · refine sy_sq (part_VoteBack 252) (part_VoteBack 253) ?_
        refine sy_reg ?_
        refine rg_plain 26 (opsAt (part_VoteBack 252)) [0, 1, 2, 3, 4, 5, 6, 7, 8] (by kernel_rfl) (by kernel_rfl) ?_
        refine ps_k (o_VoteBack 252 0) (.slice A0 l.length cap0) ?_
        refine ps_c (o_VoteBack 252 1) 11 #[.slice A0 l.length cap0] Try.func11 ((vRead_fin _ (hx.keepsN K591) (by omega) rfl rfl).mono ?_)
        rintro e V638 ⟨rfl, kV638⟩
        refine ⟨_, rfl, ?_⟩
        have h639 := kV638.bk h588
        have h640 := kV638.bk h589
        have K641 := K591.nn kV638
        have z642 := kV638.size
        refine ps_k (o_VoteBack 252 2) (.tuple #[.agg (Att.c (aRes l)), .agg #[.int .i64 (aF l).1, .int .i64 (aF l).2]]) ?_
        refine ps_k (o_VoteBack 252 3) (.agg (Att.c (aRes l))) ?_
        refine ps_k (o_VoteBack 252 4) (.agg #[.int .i64 (aF l).1, .int .i64 (aF l).2]) ?_
        obtain ⟨V643, eV643, g34, eg34, h644, kV643⟩ := alloc_step V638 (#[.int .i64 0, .int .i64 0, .int .i64 0, .int .u8 0, .int .u8 0, .int .u8 0, .int .u8 0, .int .u8 0, .int .u8 0, .int .u8 0, .int .u8 0, .int .u8 0, .int .u8 0, .int .u8 0, .int .u8 0, .int .u8 0, .int .u8 0, .int .u8 0, .int .u8 0, .int .u8 0, .int .u8 0, .int .u8 0, .int .u8 0, .int .u8 0, .int .u8 0, .int .u8 0, .int .u8 0, .int .u8 0, .int .u8 0, .int .u8 0, .int .u8 0, .int .u8 0, .int .u8 0, .int .u8 0, .int .u8 0, .int .u64 0]) 29
        have n645 : g4 < g34 := eg34 ▸ lt_of_block h639
        have n646 : g5 < g34 := eg34 ▸ lt_of_block h640
        have n647 : w.heap.size ≤ g34 := eg34 ▸ K641.size
        refine ps_r (o_VoteBack 252 5) (pT g34 0) (w' := V643) (by rw [← eV643, ← eg34]; exact exec_alloc0 29 (by kernel_rfl) (.agg (#[.int .i64 0, .int .i64 0, .int .i64 0, .int .u8 0, .int .u8 0, .int .u8 0, .int .u8 0, .int .u8 0, .int .u8 0, .int .u8 0, .int .u8 0, .int .u8 0, .int .u8 0, .int .u8 0, .int .u8 0, .int .u8 0, .int .u8 0, .int .u8 0, .int .u8 0, .int .u8 0, .int .u8 0, .int .u8 0, .int .u8 0, .int .u8 0, .int .u8 0, .int .u8 0, .int .u8 0, .int .u8 0, .int .u8 0, .int .u8 0, .int .u8 0, .int .u8 0, .int .u8 0, .int .u8 0, .int .u8 0, .int .u64 0])) (by kernel_rfl)) ?_
        clear eV643
        have h648 := kV643.bk h639
        have h649 := kV643.bk h640
        have K650 := K641.nn kV643
        have z651 := kV643.size
        obtain ⟨V652, eV652, g35, eg35, h653, kV652⟩ := alloc_step V643 (#[.int .i64 0, .int .i64 0]) 32
        have n654 : g4 < g35 := eg35 ▸ lt_of_block h648
        have n655 : g5 < g35 := eg35 ▸ lt_of_block h649
        have n656 : g34 < g35 := eg35 ▸ lt_of_block h644
        have n657 : w.heap.size ≤ g35 := eg35 ▸ K650.size
        refine ps_r (o_VoteBack 252 6) (pT g35 0) (w' := V652) (by rw [← eV652, ← eg35]; exact exec_alloc0 32 (by kernel_rfl) (.agg (#[.int .i64 0, .int .i64 0])) (by kernel_rfl)) ?_
        clear eV652
        have h658 := kV652.bk h648
        have h659 := kV652.bk h649
        have h660 := kV652.bk h644
        have K661 := K650.nn kV652
        have z662 := kV652.size
        obtain ⟨V663, eV663, kV663⟩ := rowset_step V652 g34 ((Att.c (aRes l)))
        have h664 : V663.heap[g34]? = some (.cells (Att.c (aRes l)) 29 (0, 0)) := eV663 ▸ setRow_heap _ _ _ _ _ _ h660
        refine ps_s (o_VoteBack 252 7) (w' := V663) (by rw [← eV663]; exact exec_store_row 29 (.tmp 34) (.tmp 182) (by kernel_rfl) g34 ((Att.c (aRes l))) (by kernel_rfl) (by kernel_rfl) 29 (#[.int .i64 0, .int .i64 0, .int .i64 0, .int .u8 0, .int .u8 0, .int .u8 0, .int .u8 0, .int .u8 0, .int .u8 0, .int .u8 0, .int .u8 0, .int .u8 0, .int .u8 0, .int .u8 0, .int .u8 0, .int .u8 0, .int .u8 0, .int .u8 0, .int .u8 0, .int .u8 0, .int .u8 0, .int .u8 0, .int .u8 0, .int .u8 0, .int .u8 0, .int .u8 0, .int .u8 0, .int .u8 0, .int .u8 0, .int .u8 0, .int .u8 0, .int .u8 0, .int .u8 0, .int .u8 0, .int .u8 0, .int .u64 0]) h660 (by first | (rw [Att.c_size _ ha.r]; kernel_rfl) | (rw [Att.c_size _ (show attZero.r.length = 32 from rfl)]; kernel_rfl) | (rw [Att.c_size _ (aRes_len l)]; kernel_rfl)) (by first | (rw [Att.c_size _ ha.r]; rfl) | (rw [Att.c_size _ (show attZero.r.length = 32 from rfl)]; rfl) | (rw [Att.c_size _ (aRes_len l)]; rfl)) (Att.c_one _)) ?_
        clear eV663
        have h665 := kV663.bo h658 (by omega)
        have h666 := kV663.bo h659 (by omega)
        have h667 := kV663.bo h653 (by omega)
        have K668 := K661.no kV663 (by omega)
        have z669 := kV663.size
        obtain ⟨V670, eV670, kV670⟩ := rowset_step V663 g35 (#[.int .i64 (aF l).1, .int .i64 (aF l).2])
        have h671 : V670.heap[g35]? = some (.cells (#[.int .i64 (aF l).1, .int .i64 (aF l).2]) 32 (0, 0)) := eV670 ▸ setRow_heap _ _ _ _ _ _ h667
        refine ps_s (o_VoteBack 252 8) (w' := V670) (by rw [← eV670]; exact exec_store_row 32 (.tmp 35) (.tmp 183) (by kernel_rfl) g35 (#[.int .i64 (aF l).1, .int .i64 (aF l).2]) (by kernel_rfl) (by kernel_rfl) 32 (#[.int .i64 0, .int .i64 0]) h667 (by kernel_rfl) rfl (by kernel_rfl)) ?_
        clear eV670
        have h672 := kV670.bo h665 (by omega)
        have h673 := kV670.bo h666 (by omega)
        have h674 := kV670.bo h664 (by omega)
        have K675 := K668.no kV670 (by omega)
        have z676 := kV670.size
        refine ps_end ?_
        refine then_n ?_
        refine sy_sq (part_VoteBack 506) (part_VoteBack 507) ?_
        refine sy_reg ?_
        refine rg_plain 27 (opsAt (part_VoteBack 506)) [0, 1, 2] (by kernel_rfl) (by kernel_rfl) ?_
        refine ps_p (o_VoteBack 506 0) (.agg #[.int .i64 (aF l).1, .int .i64 (aF l).2]) (exec_load_row 32 (.tmp 35) (by kernel_rfl) g35 (by kernel_rfl) _ _ (0, 0) _ (h671) Try.underlying32 rfl (by kernel_rfl)) ?_
        refine ps_k (o_VoteBack 506 1) (.agg #[.int .i64 0, .int .i64 0]) ?_
        refine ps_p (o_VoteBack 506 2) (.bool false) (exec_cast (congrArg Value.bool (fault_off hza)) (exec_binop .eql 32 32 (.tmp 184) (.tmp 185) (by kernel_rfl) (.agg #[.int .i64 (aF l).1, .int .i64 (aF l).2]) (.agg #[.int .i64 0, .int .i64 0]) _ (by kernel_rfl) (by kernel_rfl) (run_eqGuard_agg _ _ _ _ _ _ _ fault_guard) (fault_eq _ _ _ _ _))) ?_
        refine ps_end ?_
        refine then_n ?_
        refine sy_n (.tmp 186) (part_VoteBack 1014) (part_VoteBack 1015) ?_
        refine sy_sk ?_
        exact ⟨rfl, .pointer (some ⟨g34, 0, none⟩), .pointer (some ⟨g35, 0, none⟩), undef, undef, .tuple #[.agg (Att.c (aRes l)), .agg #[.int .i64 (aF l).1, .int .i64 (aF l).2]], .slice A0 l.length cap0, .tuple #[.agg (Att.c (aRes l)), .agg #[.int .i64 (aF l).1, .int .i64 (aF l).2]], .agg (Att.c (aRes l)), .agg #[.int .i64 (aF l).1, .int .i64 (aF l).2], .agg #[.int .i64 (aF l).1, .int .i64 (aF l).2], .agg #[.int .i64 0, .int .i64 0], .bool false, undef, undef, undef, undef, undef, undef, undef, undef, undef, undef, undef, undef, undef, by kernel_rfl, h672, h673, by omega, K675⟩
    rintro aQ V677 ⟨u5_34, u5_35, u5_36, u5_37, u5_179, u5_180, u5_181, u5_182, u5_183, u5_184, u5_185, u5_186, u5_187, u5_188, u5_189, u5_190, u5_191, u5_192, u5_193, u5_194, u5_195, u5_196, u5_197, u5_198, u5_199, rfl, h678, h679, z680, K681⟩
    refine then_n ?_
    refine sy_sq (part_VoteBack 254) (part_VoteBack 255) ?_
    refine sy_cut (fun aQ VQ => ∃ (u6_38 u6_39 u6_40 u6_41 u6_200 u6_201 u6_202 u6_203 u6_204 u6_205 u6_206 u6_207 u6_208 u6_209 u6_210 u6_211 u6_212 u6_213 u6_214 u6_215 u6_216 u6_217 u6_218 u6_219 u6_220 : Value), (aQ = ⟨#[.agg (Att.c a), .agg (Pro.c p), .slice A0 l.length cap0, .int .u64 ((tag : Nat) : Int), .pointer (some ⟨g4, 0, none⟩), .pointer (some ⟨g5, 0, none⟩), undef, undef, .bool false, .bool true, u2_10, u2_11, u2_12, u2_13, u2_14, u2_15, u2_16, u2_17, u2_18, u2_19, u2_20, u2_21, u3_22, u3_23, u3_24, u3_25, u3_26, u3_27, u3_28, u3_29, u3_30, u3_31, u3_32, u3_33, u5_34, u5_35, u5_36, u5_37, u6_38, u6_39, u6_40, u6_41, .bool true, u2_43, u2_44, u2_45, u2_46, u2_47, u2_48, u2_49, u2_50, u2_51, u2_52, u2_53, u2_54, u2_55, u2_56, u2_57, u2_58, u2_59, u2_60, u2_61, u2_62, u2_63, u2_64, u2_65, u2_66, u2_67, u2_68, u2_69, u2_70, u2_71, u2_72, u2_73, u2_74, u2_75, u2_76, u2_77, u2_78, u2_79, u2_80, u2_81, u2_82, u2_83, u2_84, u2_85, u2_86, u2_87, u2_88, u2_89, u2_90, u2_91, u2_92, u2_93, u2_94, u2_95, u2_96, u2_97, u2_98, u2_99, u2_100, u2_101, u2_102, u2_103, u2_104, u2_105, u2_106, u2_107, u2_108, u3_109, u3_110, u3_111, u3_112, u3_113, u3_114, u3_115, u3_116, u3_117, u3_118, u3_119, u3_120, u3_121, u3_122, u3_123, u3_124, u3_125, u3_126, u3_127, u3_128, u3_129, u3_130, u3_131, u3_132, u3_133, u3_134, u3_135, u3_136, u3_137, u3_138, u3_139, u3_140, u3_141, u3_142, u3_143, u3_144, u3_145, u3_146, u3_147, u3_148, u3_149, u3_150, u3_151, u3_152, u3_153, u3_154, u3_155, u3_156, u3_157, u3_158, u3_159, u3_160, u3_161, u3_162, u3_163, u3_164, u3_165, u3_166, u3_167, u3_168, u3_169, u3_170, u3_171, u3_172, u3_173, u3_174, .slice A0 l.length cap0, .int .i64 ((l.length : Nat) : Int), .bool false, undef, u5_179, u5_180, u5_181, u5_182, u5_183, u5_184, u5_185, u5_186, u5_187, u5_188, u5_189, u5_190, u5_191, u5_192, u5_193, u5_194, u5_195, u5_196, u5_197, u5_198, u5_199, u6_200, u6_201, u6_202, u6_203, u6_204, u6_205, u6_206, u6_207, u6_208, u6_209, u6_210, u6_211, u6_212, u6_213, u6_214, u6_215, u6_216, u6_217, u6_218, u6_219, u6_220, undef], []⟩) ∧ (VQ.heap[g4]? = some (.cells (Att.c a) 29 (0, 0))) ∧ (VQ.heap[g5]? = some (.cells (Pro.c p) 36 (0, 0))) ∧ (V677.heap.size ≤ VQ.heap.size) ∧ (Keeps Nob w VQ)) ?_ ?_
    · by_cases hzp : (pF l).1 = 0
      · refine sy_sq (part_VoteBack 508) (part_VoteBack 509) ?_
        refine sy_reg ?_
        refine rg_plain 31 (opsAt (part_VoteBack 508)) [0, 1, 2, 3, 4, 5, 6, 7, 8] (by kernel_rfl) (by kernel_rfl) ?_
        refine ps_k (o_VoteBack 508 0) (.slice A0 l.length cap0) ?_
        refine ps_c (o_VoteBack 508 1) 13 #[.slice A0 l.length cap0] Try.func13 ((vReadBlock_fin _ (hx.keepsN K681) (by omega) rfl rfl).mono ?_)
        rintro e V682 ⟨rfl, kV682⟩
        refine ⟨_, rfl, ?_⟩
        have h683 := kV682.bk h678
        have h684 := kV682.bk h679
        have K685 := K681.nn kV682
        have z686 := kV682.size
        refine ps_k (o_VoteBack 508 2) (.tuple #[.agg (Pro.c (pRes l)), .agg #[.int .i64 (pF l).1, .int .i64 (pF l).2]]) ?_
        refine ps_k (o_VoteBack 508 3) (.agg (Pro.c (pRes l))) ?_
        refine ps_k (o_VoteBack 508 4) (.agg #[.int .i64 (pF l).1, .int .i64 (pF l).2]) ?_
        obtain ⟨V687, eV687, g38, eg38, h688, kV687⟩ := alloc_step V682 (#[.int .i64 0, .int .i64 0, .int .u8 0, .int .u8 0, .int .u8 0, .int .u8 0, .int .u8 0, .int .u8 0, .int .u8 0, .int .u8 0, .int .u8 0, .int .u8 0, .int .u8 0, .int .u8 0, .int .u8 0, .int .u8 0, .int .u8 0, .int .u8 0, .int .u8 0, .int .u8 0, .int .u8 0, .int .u8 0, .int .u8 0, .int .u8 0, .int .u8 0, .int .u8 0, .int .u8 0, .int .u8 0, .int .u8 0, .int .u8 0, .int .u8 0, .int .u8 0, .int .u8 0, .int .u8 0, .int .u64 0]) 36
        have n689 : g4 < g38 := eg38 ▸ lt_of_block h683
        have n690 : g5 < g38 := eg38 ▸ lt_of_block h684
        have n691 : w.heap.size ≤ g38 := eg38 ▸ K685.size
        refine ps_r (o_VoteBack 508 5) (pT g38 0) (w' := V687) (by rw [← eV687, ← eg38]; exact exec_alloc0 36 (by kernel_rfl) (.agg (#[.int .i64 0, .int .i64 0, .int .u8 0, .int .u8 0, .int .u8 0, .int .u8 0, .int .u8 0, .int .u8 0, .int .u8 0, .int .u8 0, .int .u8 0, .int .u8 0, .int .u8 0, .int .u8 0, .int .u8 0, .int .u8 0, .int .u8 0, .int .u8 0, .int .u8 0, .int .u8 0, .int .u8 0, .int .u8 0, .int .u8 0, .int .u8 0, .int .u8 0, .int .u8 0, .int .u8 0, .int .u8 0, .int .u8 0, .int .u8 0, .int .u8 0, .int .u8 0, .int .u8 0, .int .u8 0, .int .u64 0])) (by kernel_rfl)) ?_
        clear eV687
        have h692 := kV687.bk h683
        have h693 := kV687.bk h684
        have K694 := K685.nn kV687
        have z695 := kV687.size
        obtain ⟨V696, eV696, g39, eg39, h697, kV696⟩ := alloc_step V687 (#[.int .i64 0, .int .i64 0]) 32
        have n698 : g4 < g39 := eg39 ▸ lt_of_block h692
        have n699 : g5 < g39 := eg39 ▸ lt_of_block h693
        have n700 : g38 < g39 := eg39 ▸ lt_of_block h688
        have n701 : w.heap.size ≤ g39 := eg39 ▸ K694.size
        refine ps_r (o_VoteBack 508 6) (pT g39 0) (w' := V696) (by rw [← eV696, ← eg39]; exact exec_alloc0 32 (by kernel_rfl) (.agg (#[.int .i64 0, .int .i64 0])) (by kernel_rfl)) ?_
        clear eV696
        have h702 := kV696.bk h692
        have h703 := kV696.bk h693
        have h704 := kV696.bk h688
        have K705 := K694.nn kV696
        have z706 := kV696.size
        obtain ⟨V707, eV707, kV707⟩ := rowset_step V696 g38 ((Pro.c (pRes l)))
        have h708 : V707.heap[g38]? = some (.cells (Pro.c (pRes l)) 36 (0, 0)) := eV707 ▸ setRow_heap _ _ _ _ _ _ h704
        refine ps_s (o_VoteBack 508 7) (w' := V707) (by rw [← eV707]; exact exec_store_row 36 (.tmp 38) (.tmp 203) (by kernel_rfl) g38 ((Pro.c (pRes l))) (by kernel_rfl) (by kernel_rfl) 36 (#[.int .i64 0, .int .i64 0, .int .u8 0, .int .u8 0, .int .u8 0, .int .u8 0, .int .u8 0, .int .u8 0, .int .u8 0, .int .u8 0, .int .u8 0, .int .u8 0, .int .u8 0, .int .u8 0, .int .u8 0, .int .u8 0, .int .u8 0, .int .u8 0, .int .u8 0, .int .u8 0, .int .u8 0, .int .u8 0, .int .u8 0, .int .u8 0, .int .u8 0, .int .u8 0, .int .u8 0, .int .u8 0, .int .u8 0, .int .u8 0, .int .u8 0, .int .u8 0, .int .u8 0, .int .u8 0, .int .u64 0]) h704 (by first | (rw [Pro.c_size _ hp.r]; kernel_rfl) | (rw [Pro.c_size _ (show proZero.r.length = 32 from rfl)]; kernel_rfl) | (rw [Pro.c_size _ (pRes_len l)]; kernel_rfl)) (by first | (rw [Pro.c_size _ hp.r]; rfl) | (rw [Pro.c_size _ (show proZero.r.length = 32 from rfl)]; rfl) | (rw [Pro.c_size _ (pRes_len l)]; rfl)) (Pro.c_one _)) ?_
        clear eV707
        have h709 := kV707.bo h702 (by omega)
        have h710 := kV707.bo h703 (by omega)
        have h711 := kV707.bo h697 (by omega)
        have K712 := K705.no kV707 (by omega)
        have z713 := kV707.size
        obtain ⟨V714, eV714, kV714⟩ := rowset_step V707 g39 (#[.int .i64 (pF l).1, .int .i64 (pF l).2])
        have h715 : V714.heap[g39]? = some (.cells (#[.int .i64 (pF l).1, .int .i64 (pF l).2]) 32 (0, 0)) := eV714 ▸ setRow_heap _ _ _ _ _ _ h711
        refine ps_s (o_VoteBack 508 8) (w' := V714) (by rw [← eV714]; exact exec_store_row 32 (.tmp 39) (.tmp 204) (by kernel_rfl) g39 (#[.int .i64 (pF l).1, .int .i64 (pF l).2]) (by kernel_rfl) (by kernel_rfl) 32 (#[.int .i64 0, .int .i64 0]) h711 (by kernel_rfl) rfl (by kernel_rfl)) ?_
        clear eV714
        have h716 := kV714.bo h709 (by omega)
        have h717 := kV714.bo h710 (by omega)
        have h718 := kV714.bo h708 (by omega)
        have K719 := K712.no kV714 (by omega)
        have z720 := kV714.size
        refine ps_end ?_
        refine then_n ?_
        refine sy_sq (part_VoteBack 1018) (part_VoteBack 1019) ?_
        refine sy_reg ?_
        refine rg_plain 32 (opsAt (part_VoteBack 1018)) [0, 1, 2] (by kernel_rfl) (by kernel_rfl) ?_
        refine ps_p (o_VoteBack 1018 0) (.agg #[.int .i64 (pF l).1, .int .i64 (pF l).2]) (exec_load_row 32 (.tmp 39) (by kernel_rfl) g39 (by kernel_rfl) _ _ (0, 0) _ (h715) Try.underlying32 rfl (by kernel_rfl)) ?_
        refine ps_k (o_VoteBack 1018 1) (.agg #[.int .i64 0, .int .i64 0]) ?_
        refine ps_p (o_VoteBack 1018 2) (.bool true) (exec_cast (congrArg Value.bool (decide_eq_true ⟨hzp, fin0 hzp⟩)) (exec_binop .eql 32 32 (.tmp 205) (.tmp 206) (by kernel_rfl) (.agg #[.int .i64 (pF l).1, .int .i64 (pF l).2]) (.agg #[.int .i64 0, .int .i64 0]) _ (by kernel_rfl) (by kernel_rfl) (run_eqGuard_agg _ _ _ _ _ _ _ fault_guard) (fault_eq _ _ _ _ _))) ?_
        refine ps_end ?_
        refine then_n ?_
        refine sy_ys (.tmp 207) (part_VoteBack 2038) (part_VoteBack 2039) ?_
        refine sy_sq (part_VoteBack 4076) (part_VoteBack 4077) ?_
        refine sy_reg ?_
        refine rg_plain 33 (opsAt (part_VoteBack 4076)) [0, 1, 2, 3, 4, 5, 6] (by kernel_rfl) (by kernel_rfl) ?_
        refine ps_p (o_VoteBack 4076 0) (.agg (Pro.c (pRes l))) (exec_load_row 36 (.tmp 38) (by kernel_rfl) g38 (by kernel_rfl) _ _ (0, 0) _ (h718) Try.underlying36 rfl (by rw [Pro.c_size _ (pRes_len l)]; kernel_rfl)) ?_
        obtain ⟨hop, hfip, hbyp⟩ := pro_back hzp
        rw [← pRes_is hzp] at hop hfip hbyp
        refine ps_c (o_VoteBack 4076 1) 18 #[.agg (Pro.c (pRes l))] Try.func18 ((vBytesBlock_lit (pRes l) _ hop hfip).mono ?_)
        rintro e V721 ⟨Bp, capBp, rfl, hYp, _, _, kV721⟩
        refine ⟨_, rfl, ?_⟩
        have h722 := kV721.bk h716
        have h723 := kV721.bk h717
        have h724 := kV721.bk h718
        have h725 := kV721.bk h715
        have K726 := K719.nn kV721
        have z727 := kV721.size
        refine ps_k (o_VoteBack 4076 2) (.tuple #[.slice Bp (pRes l).bytes.length capBp, .int .i64 0]) ?_
        refine ps_k (o_VoteBack 4076 3) (.slice Bp (pRes l).bytes.length capBp) ?_
        refine ps_k (o_VoteBack 4076 4) (.int .i64 0) ?_
        refine ps_k (o_VoteBack 4076 5) (.slice Bp (pRes l).bytes.length capBp) ?_
        refine ps_k (o_VoteBack 4076 6) (.int .i64 0) ?_
        refine ps_end ?_
        refine then_n ?_
        refine sy_sq (part_VoteBack 8154) (part_VoteBack 8155) ?_
        refine sy_reg ?_
        refine rg_plain 34 (opsAt (part_VoteBack 8154)) [0, 1, 2, 3, 4, 5, 6, 7] (by kernel_rfl) (by kernel_rfl) ?_
        refine ps_k (o_VoteBack 8154 0) (.int .i64 0) ?_
        refine ps_k (o_VoteBack 8154 1) (.bool false) ?_
        refine ps_k (o_VoteBack 8154 2) (.bool false) ?_
        refine ps_k (o_VoteBack 8154 3) (.slice Bp (pRes l).bytes.length capBp) ?_
        refine ps_k (o_VoteBack 8154 4) (.slice A0 l.length cap0) ?_
        refine ps_c (o_VoteBack 8154 5) 20 #[.slice Bp (pRes l).bytes.length capBp, .slice A0 l.length cap0] Try.func20 ((sameBytes_same hYp (hx.keepsN K726) hbyp).mono ?_)
        rintro e w1 ⟨rfl, rfl⟩
        refine ⟨_, rfl, ?_⟩
        refine ps_k (o_VoteBack 8154 6) (.bool false) ?_
        refine ps_k (o_VoteBack 8154 7) (.bool false) ?_
        refine ps_end ?_
        refine sy_a ⟨#[.agg (Att.c a), .agg (Pro.c p), .slice A0 l.length cap0, uN tag, pT g4 0, pT g5 0, undef, undef, .bool false, .bool true, u2_10, u2_11, u2_12, u2_13, u2_14, u2_15, u2_16, u2_17, u2_18, u2_19, u2_20, u2_21, u3_22, u3_23, u3_24, u3_25, u3_26, u3_27, u3_28, u3_29, u3_30, u3_31, u3_32, u3_33, u5_34, u5_35, u5_36, u5_37, pT g38 0, pT g39 0, .slice Bp (pRes l).bytes.length capBp, .int .i64 0, .bool true, u2_43, u2_44, u2_45, u2_46, u2_47, u2_48, u2_49, u2_50, u2_51, u2_52, u2_53, u2_54, u2_55, u2_56, u2_57, u2_58, u2_59, u2_60, u2_61, u2_62, u2_63, u2_64, u2_65, u2_66, u2_67, u2_68, u2_69, u2_70, u2_71, u2_72, u2_73, u2_74, u2_75, u2_76, u2_77, u2_78, u2_79, u2_80, u2_81, u2_82, u2_83, u2_84, u2_85, u2_86, u2_87, u2_88, u2_89, u2_90, u2_91, u2_92, u2_93, u2_94, u2_95, u2_96, u2_97, u2_98, u2_99, u2_100, u2_101, u2_102, u2_103, u2_104, u2_105, u2_106, u2_107, u2_108, u3_109, u3_110, u3_111, u3_112, u3_113, u3_114, u3_115, u3_116, u3_117, u3_118, u3_119, u3_120, u3_121, u3_122, u3_123, u3_124, u3_125, u3_126, u3_127, u3_128, u3_129, u3_130, u3_131, u3_132, u3_133, u3_134, u3_135, u3_136, u3_137, u3_138, u3_139, u3_140, u3_141, u3_142, u3_143, u3_144, u3_145, u3_146, u3_147, u3_148, u3_149, u3_150, u3_151, u3_152, u3_153, u3_154, u3_155, u3_156, u3_157, u3_158, u3_159, u3_160, u3_161, u3_162, u3_163, u3_164, u3_165, u3_166, u3_167, u3_168, u3_169, u3_170, u3_171, u3_172, u3_173, u3_174, .slice A0 l.length cap0, iN l.length, .bool false, undef, u5_179, u5_180, u5_181, u5_182, u5_183, u5_184, u5_185, u5_186, u5_187, u5_188, u5_189, u5_190, u5_191, u5_192, u5_193, u5_194, u5_195, u5_196, u5_197, u5_198, u5_199, .tuple #[.agg (Pro.c (pRes l)), .agg #[.int .i64 (pF l).1, .int .i64 (pF l).2]], .slice A0 l.length cap0, .tuple #[.agg (Pro.c (pRes l)), .agg #[.int .i64 (pF l).1, .int .i64 (pF l).2]], .agg (Pro.c (pRes l)), .agg #[.int .i64 (pF l).1, .int .i64 (pF l).2], .agg #[.int .i64 (pF l).1, .int .i64 (pF l).2], .agg #[.int .i64 0, .int .i64 0], .bool true, .tuple #[.slice Bp (pRes l).bytes.length capBp, .int .i64 0], .agg (Pro.c (pRes l)), .tuple #[.slice Bp (pRes l).bytes.length capBp, .int .i64 0], .slice Bp (pRes l).bytes.length capBp, .int .i64 0, .int .i64 0, .bool false, .bool false, .slice Bp (pRes l).bytes.length capBp, .slice A0 l.length cap0, .bool true, .bool false, .bool false, undef], []⟩ ?_
        refine then_n ?_
        refine sy_n (.tmp 220) (part_VoteBack 16310) (part_VoteBack 16311) ?_
        refine sy_sk ?_
        exact ⟨rfl, .pointer (some ⟨g38, 0, none⟩), .pointer (some ⟨g39, 0, none⟩), .slice Bp (pRes l).bytes.length capBp, .int .i64 0, .tuple #[.agg (Pro.c (pRes l)), .agg #[.int .i64 (pF l).1, .int .i64 (pF l).2]], .slice A0 l.length cap0, .tuple #[.agg (Pro.c (pRes l)), .agg #[.int .i64 (pF l).1, .int .i64 (pF l).2]], .agg (Pro.c (pRes l)), .agg #[.int .i64 (pF l).1, .int .i64 (pF l).2], .agg #[.int .i64 (pF l).1, .int .i64 (pF l).2], .agg #[.int .i64 0, .int .i64 0], .bool true, .tuple #[.slice Bp (pRes l).bytes.length capBp, .int .i64 0], .agg (Pro.c (pRes l)), .tuple #[.slice Bp (pRes l).bytes.length capBp, .int .i64 0], .slice Bp (pRes l).bytes.length capBp, .int .i64 0, .int .i64 0, .bool false, .bool false, .slice Bp (pRes l).bytes.length capBp, .slice A0 l.length cap0, .bool true, .bool false, .bool false, by kernel_rfl, h722, h723, by omega, K726⟩
      · refine sy_sq (part_VoteBack 508) (part_VoteBack 509) ?_
        refine sy_reg ?_
        refine rg_plain 31 (opsAt (part_VoteBack 508)) [0, 1, 2, 3, 4, 5, 6, 7, 8] (by kernel_rfl) (by kernel_rfl) ?_
        refine ps_k (o_VoteBack 508 0) (.slice A0 l.length cap0) ?_
        refine ps_c (o_VoteBack 508 1) 13 #[.slice A0 l.length cap0] Try.func13 ((vReadBlock_fin _ (hx.keepsN K681) (by omega) rfl rfl).mono ?_)
        rintro e V728 ⟨rfl, kV728⟩
        refine ⟨_, rfl, ?_⟩
        have h729 := kV728.bk h678
        have h730 := kV728.bk h679
        have K731 := K681.nn kV728
        have z732 := kV728.size
        refine ps_k (o_VoteBack 508 2) (.tuple #[.agg (Pro.c (pRes l)), .agg #[.int .i64 (pF l).1, .int .i64 (pF l).2]]) ?_
        refine ps_k (o_VoteBack 508 3) (.agg (Pro.c (pRes l))) ?_
        refine ps_k (o_VoteBack 508 4) (.agg #[.int .i64 (pF l).1, .int .i64 (pF l).2]) ?_
        obtain ⟨V733, eV733, g38, eg38, h734, kV733⟩ := alloc_step V728 (#[.int .i64 0, .int .i64 0, .int .u8 0, .int .u8 0, .int .u8 0, .int .u8 0, .int .u8 0, .int .u8 0, .int .u8 0, .int .u8 0, .int .u8 0, .int .u8 0, .int .u8 0, .int .u8 0, .int .u8 0, .int .u8 0, .int .u8 0, .int .u8 0, .int .u8 0, .int .u8 0, .int .u8 0, .int .u8 0, .int .u8 0, .int .u8 0, .int .u8 0, .int .u8 0, .int .u8 0, .int .u8 0, .int .u8 0, .int .u8 0, .int .u8 0, .int .u8 0, .int .u8 0, .int .u8 0, .int .u64 0]) 36
        have n735 : g4 < g38 := eg38 ▸ lt_of_block h729
        have n736 : g5 < g38 := eg38 ▸ lt_of_block h730
        have n737 : w.heap.size ≤ g38 := eg38 ▸ K731.size
        refine ps_r (o_VoteBack 508 5) (pT g38 0) (w' := V733) (by rw [← eV733, ← eg38]; exact exec_alloc0 36 (by kernel_rfl) (.agg (#[.int .i64 0, .int .i64 0, .int .u8 0, .int .u8 0, .int .u8 0, .int .u8 0, .int .u8 0, .int .u8 0, .int .u8 0, .int .u8 0, .int .u8 0, .int .u8 0, .int .u8 0, .int .u8 0, .int .u8 0, .int .u8 0, .int .u8 0, .int .u8 0, .int .u8 0, .int .u8 0, .int .u8 0, .int .u8 0, .int .u8 0, .int .u8 0, .int .u8 0, .int .u8 0, .int .u8 0, .int .u8 0, .int .u8 0, .int .u8 0, .int .u8 0, .int .u8 0, .int .u8 0, .int .u8 0, .int .u64 0])) (by kernel_rfl)) ?_
        clear eV733
        have h738 := kV733.bk h729
        have h739 := kV733.bk h730
        have K740 := K731.nn kV733
        have z741 := kV733.size
        obtain ⟨V742, eV742, g39, eg39, h743, kV742⟩ := alloc_step V733 (#[.int .i64 0, .int .i64 0]) 32
        have n744 : g4 < g39 := eg39 ▸ lt_of_block h738
        have n745 : g5 < g39 := eg39 ▸ lt_of_block h739
        have n746 : g38 < g39 := eg39 ▸ lt_of_block h734
        have n747 : w.heap.size ≤ g39 := eg39 ▸ K740.size
        refine ps_r (o_VoteBack 508 6) (pT g39 0) (w' := V742) (by rw [← eV742, ← eg39]; exact exec_alloc0 32 (by kernel_rfl) (.agg (#[.int .i64 0, .int .i64 0])) (by kernel_rfl)) ?_
        clear eV742
        have h748 := kV742.bk h738
        have h749 := kV742.bk h739
        have h750 := kV742.bk h734
        have K751 := K740.nn kV742
        have z752 := kV742.size
        obtain ⟨V753, eV753, kV753⟩ := rowset_step V742 g38 ((Pro.c (pRes l)))
        have h754 : V753.heap[g38]? = some (.cells (Pro.c (pRes l)) 36 (0, 0)) := eV753 ▸ setRow_heap _ _ _ _ _ _ h750
        refine ps_s (o_VoteBack 508 7) (w' := V753) (by rw [← eV753]; exact exec_store_row 36 (.tmp 38) (.tmp 203) (by kernel_rfl) g38 ((Pro.c (pRes l))) (by kernel_rfl) (by kernel_rfl) 36 (#[.int .i64 0, .int .i64 0, .int .u8 0, .int .u8 0, .int .u8 0, .int .u8 0, .int .u8 0, .int .u8 0, .int .u8 0, .int .u8 0, .int .u8 0, .int .u8 0, .int .u8 0, .int .u8 0, .int .u8 0, .int .u8 0, .int .u8 0, .int .u8 0, .int .u8 0, .int .u8 0, .int .u8 0, .int .u8 0, .int .u8 0, .int .u8 0, .int .u8 0, .int .u8 0, .int .u8 0, .int .u8 0, .int .u8 0, .int .u8 0, .int .u8 0, .int .u8 0, .int .u8 0, .int .u8 0, .int .u64 0]) h750 (by first | (rw [Pro.c_size _ hp.r]; kernel_rfl) | (rw [Pro.c_size _ (show proZero.r.length = 32 from rfl)]; kernel_rfl) | (rw [Pro.c_size _ (pRes_len l)]; kernel_rfl)) (by first | (rw [Pro.c_size _ hp.r]; rfl) | (rw [Pro.c_size _ (show proZero.r.length = 32 from rfl)]; rfl) | (rw [Pro.c_size _ (pRes_len l)]; rfl)) (Pro.c_one _)) ?_
        clear eV753
        have h755 := kV753.bo h748 (by omega)
        have h756 := kV753.bo h749 (by omega)
        have h757 := kV753.bo h743 (by omega)
        have K758 := K751.no kV753 (by omega)
        have z759 := kV753.size
        obtain ⟨V760, eV760, kV760⟩ := rowset_step V753 g39 (#[.int .i64 (pF l).1, .int .i64 (pF l).2])
        have h761 : V760.heap[g39]? = some (.cells (#[.int .i64 (pF l).1, .int .i64 (pF l).2]) 32 (0, 0)) := eV760 ▸ setRow_heap _ _ _ _ _ _ h757
        refine ps_s (o_VoteBack 508 8) (w' := V760) (by rw [← eV760]; exact exec_store_row 32 (.tmp 39) (.tmp 204) (by kernel_rfl) g39 (#[.int .i64 (pF l).1, .int .i64 (pF l).2]) (by kernel_rfl) (by kernel_rfl) 32 (#[.int .i64 0, .int .i64 0]) h757 (by kernel_rfl) rfl (by kernel_rfl)) ?_
        clear eV760
        have h762 := kV760.bo h755 (by omega)
        have h763 := kV760.bo h756 (by omega)
        have h764 := kV760.bo h754 (by omega)
        have K765 := K758.no kV760 (by omega)
        have z766 := kV760.size
        refine ps_end ?_
        refine then_n ?_
        refine sy_sq (part_VoteBack 1018) (part_VoteBack 1019) ?_
        refine sy_reg ?_
        refine rg_plain 32 (opsAt (part_VoteBack 1018)) [0, 1, 2] (by kernel_rfl) (by kernel_rfl) ?_
        refine ps_p (o_VoteBack 1018 0) (.agg #[.int .i64 (pF l).1, .int .i64 (pF l).2]) (exec_load_row 32 (.tmp 39) (by kernel_rfl) g39 (by kernel_rfl) _ _ (0, 0) _ (h761) Try.underlying32 rfl (by kernel_rfl)) ?_
        refine ps_k (o_VoteBack 1018 1) (.agg #[.int .i64 0, .int .i64 0]) ?_
        refine ps_p (o_VoteBack 1018 2) (.bool false) (exec_cast (congrArg Value.bool (fault_off hzp)) (exec_binop .eql 32 32 (.tmp 205) (.tmp 206) (by kernel_rfl) (.agg #[.int .i64 (pF l).1, .int .i64 (pF l).2]) (.agg #[.int .i64 0, .int .i64 0]) _ (by kernel_rfl) (by kernel_rfl) (run_eqGuard_agg _ _ _ _ _ _ _ fault_guard) (fault_eq _ _ _ _ _))) ?_
        refine ps_end ?_
        refine then_n ?_
        refine sy_n (.tmp 207) (part_VoteBack 2038) (part_VoteBack 2039) ?_
        refine sy_sk ?_
        exact ⟨rfl, .pointer (some ⟨g38, 0, none⟩), .pointer (some ⟨g39, 0, none⟩), undef, undef, .tuple #[.agg (Pro.c (pRes l)), .agg #[.int .i64 (pF l).1, .int .i64 (pF l).2]], .slice A0 l.length cap0, .tuple #[.agg (Pro.c (pRes l)), .agg #[.int .i64 (pF l).1, .int .i64 (pF l).2]], .agg (Pro.c (pRes l)), .agg #[.int .i64 (pF l).1, .int .i64 (pF l).2], .agg #[.int .i64 (pF l).1, .int .i64 (pF l).2], .agg #[.int .i64 0, .int .i64 0], .bool false, undef, undef, undef, undef, undef, undef, undef, undef, undef, undef, undef, undef, undef, by kernel_rfl, h762, h763, by omega, K765⟩
    rintro aQ V767 ⟨u6_38, u6_39, u6_40, u6_41, u6_200, u6_201, u6_202, u6_203, u6_204, u6_205, u6_206, u6_207, u6_208, u6_209, u6_210, u6_211, u6_212, u6_213, u6_214, u6_215, u6_216, u6_217, u6_218, u6_219, u6_220, rfl, h768, h769, z770, K771⟩
    refine then_n ?_
    refine sy_sq (part_VoteBack 510) (part_VoteBack 511) ?_
    refine sy_reg ?_
    refine rg_plain 36 (opsAt (part_VoteBack 510)) [0, 1] (by kernel_rfl) (by kernel_rfl) ?_
    refine ps_k (o_VoteBack 510 0) (.bool true) ?_
    refine ps_k (o_VoteBack 510 1) (.bool true) ?_
    refine ps_end ?_
    refine then_n ?_
    refine sy_ret (by kernel_rfl) ?_
    refine sy_out (.bool true) rfl (by kernel_rfl) ?_
    exact ⟨rfl, K771⟩
theorem back_ok (a : Att) (p : Pro) (v0 : Value) (l : List UInt8) (tag : Nat) (ht : tag < 18446744073709551616) (w : World) (ha : a.Ok) (hp : p.Ok) (hx : BytesAt w v0 l) : Calls Try.prog 8 #[.agg (Att.c a), .agg (Pro.c p), v0, .int .u64 ((tag : Nat) : Int)] w fun e w' => e = .returned (.bool true) ∧ Keeps Nob w w' := by
  obtain ⟨A0, cap0, rfl⟩ := hx.len
  exact back_main a p A0 cap0 l tag ht w ha hp hx
end Go.Proofs.Ytenaakldccjnbaa
