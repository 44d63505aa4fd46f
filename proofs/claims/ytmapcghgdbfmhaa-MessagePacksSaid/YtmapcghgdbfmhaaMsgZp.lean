/-
  Scripts: back (printed by msg16.py). Conditions: none.
-/
import Derived.Test.YtmapcghgdbfmhaaMsgY
import Derived.Test.YtmapcghgdbfmhaaMsgW
namespace Go.Proofs.Ytmapcghgdbfmhaa
open Go Go.RowKit Go.Own Go.Shelf
theorem fault_off {e p : Int} (h : ¬ e = 0) : decide (e = 0 ∧ p = 0) = false := decide_eq_false fun x => h x.1

noncomputable def part_MessagePacks (n : Nat) : Code := partOf Try.f8 n
noncomputable abbrev o_MessagePacks (n k : Nat) : Oper := (opsAt (part_MessagePacks n)).getD k default
set_option maxRecDepth 100000 in
set_option maxHeartbeats 4000000 in
theorem mpacks_long (A : Option Addr) (cap : Nat) (us : List Value) (ls : List (List UInt8)) (A0 : Option Addr) (cap0 : Nat) (l : List UInt8) (w : World) (h0 : ListsAt w (.slice A ls.length cap) us ls) (hx : BytesAt w (.slice A0 l.length cap0) l) (hlg : lngL ls 30 200 = true) :
    Calls Try.prog 8 #[.slice A ls.length cap, .slice A0 l.length cap0] w (fun e w' => e = .returned (.bool true) ∧ Keeps Nob w w') := by
  have K0 : Keeps Nob w w := Keeps.refl _ _
  refine sy_enter (part_MessagePacks 1) ⟨#[.slice A ls.length cap, .slice A0 l.length cap0, undef, undef, undef, undef, undef, undef, undef, undef, undef, undef, undef, undef, undef, undef, undef, undef, undef, undef, undef, undef, undef, undef, undef, undef, undef, undef, undef, undef, undef, undef, undef, undef, undef, undef, undef, undef, undef, undef, undef, undef, undef, undef, undef, undef, undef, undef, undef, undef, undef, undef, undef, undef, undef, undef, undef, undef, undef, undef, undef, undef, undef, undef, undef, undef, undef, undef, undef, undef, undef, undef, undef, undef, undef], []⟩ Try.func8 (by kernel_rfl) (by kernel_rfl) ?_
  refine sy_sq (part_MessagePacks 2) (part_MessagePacks 3) ?_
  refine sy_reg ?_
  refine rg_plain 0 (opsAt (part_MessagePacks 2)) [0] (by kernel_rfl) (by kernel_rfl) ?_
  refine ps_k (o_MessagePacks 2 0) (.bool false) ?_
  refine ps_end ?_
  refine then_n ?_
  refine sy_sq (part_MessagePacks 6) (part_MessagePacks 7) ?_
  refine sy_reg ?_
  refine rg_plain 1 (opsAt (part_MessagePacks 6)) [0, 1] (by kernel_rfl) (by kernel_rfl) ?_
  refine ps_c (o_MessagePacks 6 0) 6 #[] Try.func6 ((MessageKnown_ok _).mono ?_)
  rintro e V1 ⟨rfl, kV1⟩
  refine ⟨_, rfl, ?_⟩
  have K2 := K0.nn kV1
  have z3 := kV1.size
  refine ps_k (o_MessagePacks 6 1) (.bool true) ?_
  refine ps_end ?_
  refine then_n ?_
  refine sy_sq (part_MessagePacks 14) (part_MessagePacks 15) ?_
  refine sy_sq (part_MessagePacks 28) (part_MessagePacks 29) ?_
  refine sy_reg ?_
  refine rg_plain 2 (opsAt (part_MessagePacks 28)) [0, 1, 2, 3, 4, 5, 6] (by kernel_rfl) (by kernel_rfl) ?_
  refine ps_k (o_MessagePacks 28 0) (.slice A ls.length cap) ?_
  refine ps_c (o_MessagePacks 28 1) 26 #[.slice A ls.length cap, .int .i64 30, .int .i64 200] Try.func26 (((hlg ▸ kLongLists_ok A cap us ls 30 200 _ (h0.keepsN K2) (fun _ _ h => ListsAt.sizes h0 h) (by decide) (by decide))).mono ?_)
  rintro e w1 ⟨rfl, rfl⟩
  refine ⟨_, rfl, ?_⟩
  refine ps_k (o_MessagePacks 28 2) (.bool true) ?_
  refine ps_n (o_MessagePacks 28 3) ?_
  refine ps_n (o_MessagePacks 28 4) ?_
  refine ps_n (o_MessagePacks 28 5) ?_
  refine ps_k (o_MessagePacks 28 6) (.bool true) ?_
  refine ps_end ?_
  refine then_n ?_
  refine sy_ys (.tmp 21) (part_MessagePacks 58) (part_MessagePacks 59) ?_
  refine sy_sq (part_MessagePacks 116) (part_MessagePacks 117) ?_
  refine sy_reg ?_
  refine rg_plain 3 (opsAt (part_MessagePacks 116)) [0, 1] (by kernel_rfl) (by kernel_rfl) ?_
  refine ps_k (o_MessagePacks 116 0) (.bool true) ?_
  refine ps_k (o_MessagePacks 116 1) (.bool true) ?_
  refine ps_end ?_
  refine then_n ?_
  refine sy_ret (by kernel_rfl) ?_
  refine then_r ?_
  refine sy_out (.bool true) rfl (by kernel_rfl) ?_
  exact ⟨rfl, K2⟩
set_option maxRecDepth 100000 in
set_option maxHeartbeats 4000000 in
theorem mpacks_big (A : Option Addr) (cap : Nat) (us : List Value) (ls : List (List UInt8)) (A0 : Option Addr) (cap0 : Nat) (l : List UInt8) (w : World) (h0 : ListsAt w (.slice A ls.length cap) us ls) (hx : BytesAt w (.slice A0 l.length cap0) l) (hlg : lngL ls 30 200 = false) (hl : 600 < l.length) :
    Calls Try.prog 8 #[.slice A ls.length cap, .slice A0 l.length cap0] w (fun e w' => e = .returned (.bool true) ∧ Keeps Nob w w') := by
  have hs := lngL_small hlg
  have K0 : Keeps Nob w w := Keeps.refl _ _
  refine sy_enter (part_MessagePacks 1) ⟨#[.slice A ls.length cap, .slice A0 l.length cap0, undef, undef, undef, undef, undef, undef, undef, undef, undef, undef, undef, undef, undef, undef, undef, undef, undef, undef, undef, undef, undef, undef, undef, undef, undef, undef, undef, undef, undef, undef, undef, undef, undef, undef, undef, undef, undef, undef, undef, undef, undef, undef, undef, undef, undef, undef, undef, undef, undef, undef, undef, undef, undef, undef, undef, undef, undef, undef, undef, undef, undef, undef, undef, undef, undef, undef, undef, undef, undef, undef, undef, undef, undef], []⟩ Try.func8 (by kernel_rfl) (by kernel_rfl) ?_
  refine sy_sq (part_MessagePacks 2) (part_MessagePacks 3) ?_
  refine sy_reg ?_
  refine rg_plain 0 (opsAt (part_MessagePacks 2)) [0] (by kernel_rfl) (by kernel_rfl) ?_
  refine ps_k (o_MessagePacks 2 0) (.bool false) ?_
  refine ps_end ?_
  refine then_n ?_
  refine sy_sq (part_MessagePacks 6) (part_MessagePacks 7) ?_
  refine sy_reg ?_
  refine rg_plain 1 (opsAt (part_MessagePacks 6)) [0, 1] (by kernel_rfl) (by kernel_rfl) ?_
  refine ps_c (o_MessagePacks 6 0) 6 #[] Try.func6 ((MessageKnown_ok _).mono ?_)
  rintro e V1 ⟨rfl, kV1⟩
  refine ⟨_, rfl, ?_⟩
  have K2 := K0.nn kV1
  have z3 := kV1.size
  refine ps_k (o_MessagePacks 6 1) (.bool true) ?_
  refine ps_end ?_
  refine then_n ?_
  refine sy_sq (part_MessagePacks 14) (part_MessagePacks 15) ?_
  refine sy_sq (part_MessagePacks 28) (part_MessagePacks 29) ?_
  refine sy_reg ?_
  refine rg_plain 2 (opsAt (part_MessagePacks 28)) [0, 1, 2, 3, 4, 5, 6] (by kernel_rfl) (by kernel_rfl) ?_
  refine ps_k (o_MessagePacks 28 0) (.slice A ls.length cap) ?_
  refine ps_c (o_MessagePacks 28 1) 26 #[.slice A ls.length cap, .int .i64 30, .int .i64 200] Try.func26 (((hlg ▸ kLongLists_ok A cap us ls 30 200 _ (h0.keepsN K2) (fun _ _ h => ListsAt.sizes h0 h) (by decide) (by decide))).mono ?_)
  rintro e w1 ⟨rfl, rfl⟩
  refine ⟨_, rfl, ?_⟩
  refine ps_k (o_MessagePacks 28 2) (.bool false) ?_
  refine ps_k (o_MessagePacks 28 3) (.slice A0 l.length cap0) ?_
  refine ps_p (o_MessagePacks 28 4) (iN l.length) (exec_len (.tmp 18) 22 _ (by kernel_rfl) Try.underlying22 A0 l.length cap0 (by kernel_rfl)) ?_
  refine ps_p (o_MessagePacks 28 5) (.bool true) (dct ((((l.length : Nat) : Int)) > ((600) : Int)) (by omega)) ?_
  refine ps_k (o_MessagePacks 28 6) (.bool true) ?_
  refine ps_end ?_
  refine then_n ?_
  refine sy_ys (.tmp 21) (part_MessagePacks 58) (part_MessagePacks 59) ?_
  refine sy_sq (part_MessagePacks 116) (part_MessagePacks 117) ?_
  refine sy_reg ?_
  refine rg_plain 3 (opsAt (part_MessagePacks 116)) [0, 1] (by kernel_rfl) (by kernel_rfl) ?_
  refine ps_k (o_MessagePacks 116 0) (.bool true) ?_
  refine ps_k (o_MessagePacks 116 1) (.bool true) ?_
  refine ps_end ?_
  refine then_n ?_
  refine sy_ret (by kernel_rfl) ?_
  refine then_r ?_
  refine sy_out (.bool true) rfl (by kernel_rfl) ?_
  exact ⟨rfl, K2⟩
set_option maxRecDepth 100000 in
set_option maxHeartbeats 4000000 in
theorem mpacks_main (A : Option Addr) (cap : Nat) (us : List Value) (ls : List (List UInt8)) (A0 : Option Addr) (cap0 : Nat) (l : List UInt8) (w : World) (h0 : ListsAt w (.slice A ls.length cap) us ls) (hx : BytesAt w (.slice A0 l.length cap0) l) (hlg : lngL ls 30 200 = false) (hl : l.length ≤ 600) :
    Calls Try.prog 8 #[.slice A ls.length cap, .slice A0 l.length cap0] w (fun e w' => e = .returned (.bool true) ∧ Keeps Nob w w') := by
  have hs := lngL_small hlg
  have K0 : Keeps Nob w w := Keeps.refl _ _
  refine sy_enter (part_MessagePacks 1) ⟨#[.slice A ls.length cap, .slice A0 l.length cap0, undef, undef, undef, undef, undef, undef, undef, undef, undef, undef, undef, undef, undef, undef, undef, undef, undef, undef, undef, undef, undef, undef, undef, undef, undef, undef, undef, undef, undef, undef, undef, undef, undef, undef, undef, undef, undef, undef, undef, undef, undef, undef, undef, undef, undef, undef, undef, undef, undef, undef, undef, undef, undef, undef, undef, undef, undef, undef, undef, undef, undef, undef, undef, undef, undef, undef, undef, undef, undef, undef, undef, undef, undef], []⟩ Try.func8 (by kernel_rfl) (by kernel_rfl) ?_
  refine sy_sq (part_MessagePacks 2) (part_MessagePacks 3) ?_
  refine sy_reg ?_
  refine rg_plain 0 (opsAt (part_MessagePacks 2)) [0] (by kernel_rfl) (by kernel_rfl) ?_
  refine ps_k (o_MessagePacks 2 0) (.bool false) ?_
  refine ps_end ?_
  refine then_n ?_
  refine sy_sq (part_MessagePacks 6) (part_MessagePacks 7) ?_
  refine sy_reg ?_
  refine rg_plain 1 (opsAt (part_MessagePacks 6)) [0, 1] (by kernel_rfl) (by kernel_rfl) ?_
  refine ps_c (o_MessagePacks 6 0) 6 #[] Try.func6 ((MessageKnown_ok _).mono ?_)
  rintro e V1 ⟨rfl, kV1⟩
  refine ⟨_, rfl, ?_⟩
  have K2 := K0.nn kV1
  have z3 := kV1.size
  refine ps_k (o_MessagePacks 6 1) (.bool true) ?_
  refine ps_end ?_
  refine then_n ?_
  refine sy_sq (part_MessagePacks 14) (part_MessagePacks 15) ?_
  refine sy_sq (part_MessagePacks 28) (part_MessagePacks 29) ?_
  refine sy_reg ?_
  refine rg_plain 2 (opsAt (part_MessagePacks 28)) [0, 1, 2, 3, 4, 5, 6] (by kernel_rfl) (by kernel_rfl) ?_
  refine ps_k (o_MessagePacks 28 0) (.slice A ls.length cap) ?_
  refine ps_c (o_MessagePacks 28 1) 26 #[.slice A ls.length cap, .int .i64 30, .int .i64 200] Try.func26 (((hlg ▸ kLongLists_ok A cap us ls 30 200 _ (h0.keepsN K2) (fun _ _ h => ListsAt.sizes h0 h) (by decide) (by decide))).mono ?_)
  rintro e w1 ⟨rfl, rfl⟩
  refine ⟨_, rfl, ?_⟩
  refine ps_k (o_MessagePacks 28 2) (.bool false) ?_
  refine ps_k (o_MessagePacks 28 3) (.slice A0 l.length cap0) ?_
  refine ps_p (o_MessagePacks 28 4) (iN l.length) (exec_len (.tmp 18) 22 _ (by kernel_rfl) Try.underlying22 A0 l.length cap0 (by kernel_rfl)) ?_
  refine ps_p (o_MessagePacks 28 5) (.bool false) (dcf ((((l.length : Nat) : Int)) > ((600) : Int)) (by omega)) ?_
  refine ps_k (o_MessagePacks 28 6) (.bool false) ?_
  refine ps_end ?_
  refine then_n ?_
  refine sy_n (.tmp 21) (part_MessagePacks 58) (part_MessagePacks 59) ?_
  refine sy_sk ?_
  refine then_n ?_
  refine sy_sq (part_MessagePacks 30) (part_MessagePacks 31) ?_
  refine sy_reg ?_
  refine rg_plain 4 (opsAt (part_MessagePacks 30)) [0, 1, 2, 3, 4, 5, 6] (by kernel_rfl) (by kernel_rfl) ?_
  refine ps_k (o_MessagePacks 30 0) (.slice A ls.length cap) ?_
  refine ps_c (o_MessagePacks 30 1) 29 #[.slice A ls.length cap] Try.func29 ((mPack_is _ us ls (packB ls) 0 _ (h0.keepsN K2) (fun _ _ h => ListsAt.sizes h0 h) (small_pack hs.1 hs.2).1).mono ?_)
  rintro e V4 ⟨X, rfl, hX, hnX, kV4⟩
  refine ⟨_, rfl, ?_⟩
  have K5 := K2.nn kV4
  have z6 := kV4.size
  refine ps_k (o_MessagePacks 30 2) (.tuple #[X, .int .i64 0]) ?_
  refine ps_k (o_MessagePacks 30 3) (X) ?_
  refine ps_k (o_MessagePacks 30 4) (.int .i64 0) ?_
  refine ps_k (o_MessagePacks 30 5) (X) ?_
  refine ps_k (o_MessagePacks 30 6) (.int .i64 0) ?_
  refine ps_end ?_
  refine then_n ?_
  refine sy_sq (part_MessagePacks 62) (part_MessagePacks 63) ?_
  refine sy_reg ?_
  refine rg_plain 5 (opsAt (part_MessagePacks 62)) [0, 1, 2, 3, 4, 5, 6, 7] (by kernel_rfl) (by kernel_rfl) ?_
  refine ps_k (o_MessagePacks 62 0) (X) ?_
  refine ps_c (o_MessagePacks 62 1) 32 #[X] Try.func32 ((mUnpack_is _ _ ls 0 0 _ (Row.bytes hX) (BytesAt.length_le (Row.bytes hX)) (small_pack hs.1 hs.2).2).mono ?_)
  rintro e V7 ⟨A1, c1, xs1, rfl, hL1, kV7⟩
  refine ⟨_, rfl, ?_⟩
  have K8 := K5.nn kV7
  have z9 := kV7.size
  refine ps_k (o_MessagePacks 62 2) (.tuple #[.slice A1 ls.length c1, .agg #[.int .i64 0, .int .i64 0]]) ?_
  refine ps_k (o_MessagePacks 62 3) (.slice A1 ls.length c1) ?_
  refine ps_k (o_MessagePacks 62 4) (.agg #[.int .i64 0, .int .i64 0]) ?_
  obtain ⟨V10, eV10, g9, eg9, h11, kV10⟩ := alloc_step V7 (#[.int .i64 0, .int .i64 0]) 38
  have n12 : w.heap.size ≤ g9 := eg9 ▸ K8.size
  refine ps_r (o_MessagePacks 62 5) (pT g9 0) (w' := V10) (by rw [← eV10, ← eg9]; exact exec_alloc0 38 (by kernel_rfl) (.agg (#[.int .i64 0, .int .i64 0])) (by kernel_rfl)) ?_
  clear eV10
  have h13 : ListsAt V10 (.slice A1 ls.length c1) xs1 ls := hL1.keepsN kV10
  have K14 := K8.nn kV10
  have z15 := kV10.size
  refine ps_k (o_MessagePacks 62 6) (.slice A1 ls.length c1) ?_
  obtain ⟨V16, eV16, kV16⟩ := rowset_step V10 g9 (#[.int .i64 0, .int .i64 0])
  have h17 : V16.heap[g9]? = some (.cells (#[.int .i64 0, .int .i64 0]) 38 (0, 0)) := eV16 ▸ setRow_heap _ _ _ _ _ _ h11
  refine ps_s (o_MessagePacks 62 7) (w' := V16) (by rw [← eV16]; exact exec_store_row 38 (.tmp 9) (.tmp 32) (by kernel_rfl) g9 (#[.int .i64 0, .int .i64 0]) (by kernel_rfl) (by kernel_rfl) 38 (#[.int .i64 0, .int .i64 0]) h11 (by kernel_rfl) rfl (by kernel_rfl)) ?_
  clear eV16
  have h18 : ListsAt V16 (.slice A1 ls.length c1) xs1 ls := ListsAt.keepsB hL1 h13 kV16 (fun j hj e => by first | exact e.elim | (unfold Own.One at e; omega) | omega)
  have K19 := K14.no kV16 (by omega)
  have z20 := kV16.size
  refine ps_end ?_
  refine sy_a ⟨#[.slice A ls.length cap, .slice A0 l.length cap0, undef, undef, .bool false, .bool true, X, .int .i64 0, .slice A1 ls.length c1, pT g9 0, undef, undef, undef, undef, .bool true, .slice A ls.length cap, .bool false, .bool false, .slice A0 l.length cap0, iN l.length, .bool false, .bool false, undef, .tuple #[X, .int .i64 0], .slice A ls.length cap, .tuple #[X, .int .i64 0], X, .int .i64 0, .tuple #[.slice A1 ls.length c1, .agg #[.int .i64 0, .int .i64 0]], X, .tuple #[.slice A1 ls.length c1, .agg #[.int .i64 0, .int .i64 0]], .slice A1 ls.length c1, .agg #[.int .i64 0, .int .i64 0], undef, undef, undef, undef, undef, undef, undef, undef, undef, undef, undef, undef, undef, undef, undef, undef, undef, undef, undef, undef, undef, undef, undef, undef, undef, undef, undef, undef, undef, undef, undef, undef, undef, undef, undef, undef, undef, undef, undef, undef, undef, undef], []⟩ ?_
  refine then_n ?_
  refine sy_sq (part_MessagePacks 126) (part_MessagePacks 127) ?_
  refine sy_sq (part_MessagePacks 252) (part_MessagePacks 253) ?_
  refine sy_reg ?_
  refine rg_plain 6 (opsAt (part_MessagePacks 252)) [0, 1, 2, 3, 4, 5, 6, 7, 8, 9, 10, 11, 12] (by kernel_rfl) (by kernel_rfl) ?_
  refine ps_k (o_MessagePacks 252 0) (.int .i64 0) ?_
  refine ps_k (o_MessagePacks 252 1) (.bool false) ?_
  refine ps_k (o_MessagePacks 252 2) (.bool false) ?_
  refine ps_p (o_MessagePacks 252 3) (.agg #[.int .i64 0, .int .i64 0]) (exec_load_row 38 (.tmp 9) (by kernel_rfl) g9 (by kernel_rfl) _ _ (0, 0) _ (h17) Try.underlying38 rfl (by kernel_rfl)) ?_
  refine ps_k (o_MessagePacks 252 4) (.agg #[.int .i64 0, .int .i64 0]) ?_
  refine ps_p (o_MessagePacks 252 5) (.bool false) (exec_cast (congrArg Value.bool (by simp)) (exec_binop .neq 38 38 (.tmp 36) (.tmp 37) (by kernel_rfl) (.agg #[.int .i64 0, .int .i64 0]) (.agg #[.int .i64 0, .int .i64 0]) _ (by kernel_rfl) (by kernel_rfl) (run_eqGuard_agg _ _ _ _ _ _ _ fault_guard) (fault_ne _ _ _ _ _))) ?_
  refine ps_k (o_MessagePacks 252 6) (.bool false) ?_
  refine ps_k (o_MessagePacks 252 7) (.bool false) ?_
  refine ps_k (o_MessagePacks 252 8) (.slice A1 ls.length c1) ?_
  refine ps_k (o_MessagePacks 252 9) (.slice A ls.length cap) ?_
  refine ps_c (o_MessagePacks 252 10) 31 #[.slice A1 ls.length c1, .slice A ls.length cap] Try.func31 ((kSameLists_ok A1 A c1 cap xs1 us ls _ h18 (h0.keepsN K19)).mono ?_)
  rintro e V21 ⟨rfl, kV21⟩
  refine ⟨_, rfl, ?_⟩
  have h22 : ListsAt V21 (.slice A1 ls.length c1) xs1 ls := h18.keepsN kV21
  have h23 := kV21.bk h17
  have K24 := K19.nn kV21
  have z25 := kV21.size
  refine ps_k (o_MessagePacks 252 11) (.bool false) ?_
  refine ps_k (o_MessagePacks 252 12) (.bool false) ?_
  refine ps_end ?_
  refine then_n ?_
  refine sy_n (.tmp 45) (part_MessagePacks 506) (part_MessagePacks 507) ?_
  refine sy_sk ?_
  refine then_n ?_
  by_cases hz : (unR l).2.1 = 0
  · refine sy_sq (part_MessagePacks 254) (part_MessagePacks 255) ?_
    refine sy_reg ?_
    refine rg_plain 8 (opsAt (part_MessagePacks 254)) [0, 1, 2, 3, 4, 5, 6, 7] (by kernel_rfl) (by kernel_rfl) ?_
    refine ps_k (o_MessagePacks 254 0) (.slice A0 l.length cap0) ?_
    refine ps_c (o_MessagePacks 254 1) 32 #[.slice A0 l.length cap0] Try.func32 ((mUnpack_is _ l (unR l).1 (unR l).2.1 (unR l).2.2 _ (hx.keepsN K24) (BytesAt.length_le (hx.keepsN K24)) rfl).mono ?_)
    rintro e V26 ⟨A2, c2, xs2, rfl, hL2, kV26⟩
    refine ⟨_, rfl, ?_⟩
    have h27 := kV26.bk h23
    have K28 := K24.nn kV26
    have z29 := kV26.size
    refine ps_k (o_MessagePacks 254 2) (.tuple #[.slice A2 (unR l).1.length c2, .agg #[.int .i64 (unR l).2.1, .int .i64 (unR l).2.2]]) ?_
    refine ps_k (o_MessagePacks 254 3) (.slice A2 (unR l).1.length c2) ?_
    refine ps_k (o_MessagePacks 254 4) (.agg #[.int .i64 (unR l).2.1, .int .i64 (unR l).2.2]) ?_
    obtain ⟨V30, eV30, g11, eg11, h31, kV30⟩ := alloc_step V26 (#[.int .i64 0, .int .i64 0]) 38
    have n32 : g9 < g11 := eg11 ▸ lt_of_block h27
    have n33 : w.heap.size ≤ g11 := eg11 ▸ K28.size
    refine ps_r (o_MessagePacks 254 5) (pT g11 0) (w' := V30) (by rw [← eV30, ← eg11]; exact exec_alloc0 38 (by kernel_rfl) (.agg (#[.int .i64 0, .int .i64 0])) (by kernel_rfl)) ?_
    clear eV30
    have h34 := kV30.bk h27
    have h35 : ListsAt V30 (.slice A2 (unR l).1.length c2) xs2 ((unR l).1) := hL2.keepsN kV30
    have K36 := K28.nn kV30
    have z37 := kV30.size
    refine ps_k (o_MessagePacks 254 6) (.slice A2 (unR l).1.length c2) ?_
    obtain ⟨V38, eV38, kV38⟩ := rowset_step V30 g11 (#[.int .i64 (unR l).2.1, .int .i64 (unR l).2.2])
    have h39 : V38.heap[g11]? = some (.cells (#[.int .i64 (unR l).2.1, .int .i64 (unR l).2.2]) 38 (0, 0)) := eV38 ▸ setRow_heap _ _ _ _ _ _ h31
    refine ps_s (o_MessagePacks 254 7) (w' := V38) (by rw [← eV38]; exact exec_store_row 38 (.tmp 11) (.tmp 50) (by kernel_rfl) g11 (#[.int .i64 (unR l).2.1, .int .i64 (unR l).2.2]) (by kernel_rfl) (by kernel_rfl) 38 (#[.int .i64 0, .int .i64 0]) h31 (by kernel_rfl) rfl (by kernel_rfl)) ?_
    clear eV38
    have h40 := kV38.bo h34 (by omega)
    have h41 : ListsAt V38 (.slice A2 (unR l).1.length c2) xs2 ((unR l).1) := ListsAt.keepsB hL2 h35 kV38 (fun j hj e => by first | exact e.elim | (unfold Own.One at e; omega) | omega)
    have K42 := K36.no kV38 (by omega)
    have z43 := kV38.size
    refine ps_end ?_
    refine then_n ?_
    refine sy_sq (part_MessagePacks 510) (part_MessagePacks 511) ?_
    refine sy_sq (part_MessagePacks 1020) (part_MessagePacks 1021) ?_
    refine sy_reg ?_
    refine rg_plain 9 (opsAt (part_MessagePacks 1020)) [0, 1, 2] (by kernel_rfl) (by kernel_rfl) ?_
    refine ps_p (o_MessagePacks 1020 0) (.agg #[.int .i64 (unR l).2.1, .int .i64 (unR l).2.2]) (exec_load_row 38 (.tmp 11) (by kernel_rfl) g11 (by kernel_rfl) _ _ (0, 0) _ (h39) Try.underlying38 rfl (by kernel_rfl)) ?_
    refine ps_k (o_MessagePacks 1020 1) (.agg #[.int .i64 0, .int .i64 0]) ?_
    refine ps_p (o_MessagePacks 1020 2) (.bool false) (exec_cast (congrArg Value.bool (fault_ok ⟨hz, congrArg Prod.snd (unR_back hz).1⟩)) (exec_binop .neq 38 38 (.tmp 51) (.tmp 52) (by kernel_rfl) (.agg #[.int .i64 (unR l).2.1, .int .i64 (unR l).2.2]) (.agg #[.int .i64 0, .int .i64 0]) _ (by kernel_rfl) (by kernel_rfl) (run_eqGuard_agg _ _ _ _ _ _ _ fault_guard) (fault_ne _ _ _ _ _))) ?_
    refine ps_end ?_
    refine sy_a ⟨#[.slice A ls.length cap, .slice A0 l.length cap0, undef, undef, .bool false, .bool true, X, .int .i64 0, .slice A1 ls.length c1, pT g9 0, .slice A2 (unR l).1.length c2, pT g11 0, undef, undef, .bool true, .slice A ls.length cap, .bool false, .bool false, .slice A0 l.length cap0, iN l.length, .bool false, .bool false, undef, .tuple #[X, .int .i64 0], .slice A ls.length cap, .tuple #[X, .int .i64 0], X, .int .i64 0, .tuple #[.slice A1 ls.length c1, .agg #[.int .i64 0, .int .i64 0]], X, .tuple #[.slice A1 ls.length c1, .agg #[.int .i64 0, .int .i64 0]], .slice A1 ls.length c1, .agg #[.int .i64 0, .int .i64 0], .int .i64 0, .bool false, .bool false, .agg #[.int .i64 0, .int .i64 0], .agg #[.int .i64 0, .int .i64 0], .bool false, .bool false, .bool false, .slice A1 ls.length c1, .slice A ls.length cap, .bool true, .bool false, .bool false, .tuple #[.slice A2 (unR l).1.length c2, .agg #[.int .i64 (unR l).2.1, .int .i64 (unR l).2.2]], .slice A0 l.length cap0, .tuple #[.slice A2 (unR l).1.length c2, .agg #[.int .i64 (unR l).2.1, .int .i64 (unR l).2.2]], .slice A2 (unR l).1.length c2, .agg #[.int .i64 (unR l).2.1, .int .i64 (unR l).2.2], .agg #[.int .i64 (unR l).2.1, .int .i64 (unR l).2.2], .agg #[.int .i64 0, .int .i64 0], .bool false, undef, undef, undef, undef, undef, undef, undef, undef, undef, undef, undef, undef, undef, undef, undef, undef, undef, undef, undef, undef, undef], []⟩ ?_
    refine then_n ?_
    refine sy_n (.tmp 53) (part_MessagePacks 2042) (part_MessagePacks 2043) ?_
    refine sy_sk ?_
    refine then_n ?_
    refine sy_sq (part_MessagePacks 1022) (part_MessagePacks 1023) ?_
    refine sy_reg ?_
    refine rg_plain 11 (opsAt (part_MessagePacks 1022)) [0, 1, 2, 3, 4, 5, 6] (by kernel_rfl) (by kernel_rfl) ?_
    refine ps_k (o_MessagePacks 1022 0) (.slice A2 (unR l).1.length c2) ?_
    refine ps_c (o_MessagePacks 1022 1) 29 #[.slice A2 (unR l).1.length c2] Try.func29 ((mPack_is _ xs2 (unR l).1 l 0 _ h41 (fun _ _ h => ListsAt.sizes h41 h) (unR_back hz).2.1).mono ?_)
    rintro e V44 ⟨X2, rfl, hX2, hnX2, kV44⟩
    refine ⟨_, rfl, ?_⟩
    have h45 := kV44.bk h40
    have h46 : ListsAt V44 (.slice A2 (unR l).1.length c2) xs2 ((unR l).1) := h41.keepsN kV44
    have h47 := kV44.bk h39
    have K48 := K42.nn kV44
    have z49 := kV44.size
    refine ps_k (o_MessagePacks 1022 2) (.tuple #[X2, .int .i64 0]) ?_
    refine ps_k (o_MessagePacks 1022 3) (X2) ?_
    refine ps_k (o_MessagePacks 1022 4) (.int .i64 0) ?_
    refine ps_k (o_MessagePacks 1022 5) (X2) ?_
    refine ps_k (o_MessagePacks 1022 6) (.int .i64 0) ?_
    refine ps_end ?_
    refine then_n ?_
    refine sy_sq (part_MessagePacks 2046) (part_MessagePacks 2047) ?_
    refine sy_reg ?_
    refine rg_plain 12 (opsAt (part_MessagePacks 2046)) [0, 1, 2, 3, 4, 5, 6, 7, 8, 9, 10] (by kernel_rfl) (by kernel_rfl) ?_
    refine ps_k (o_MessagePacks 2046 0) (.bool true) ?_
    refine ps_k (o_MessagePacks 2046 1) (.bool true) ?_
    refine ps_k (o_MessagePacks 2046 2) (.int .i64 0) ?_
    refine ps_k (o_MessagePacks 2046 3) (.bool true) ?_
    refine ps_k (o_MessagePacks 2046 4) (.bool true) ?_
    refine ps_k (o_MessagePacks 2046 5) (.bool true) ?_
    refine ps_k (o_MessagePacks 2046 6) (X2) ?_
    refine ps_k (o_MessagePacks 2046 7) (.slice A0 l.length cap0) ?_
    refine ps_c (o_MessagePacks 2046 8) 16 #[X2, .slice A0 l.length cap0] Try.func16 ((mSameBytes (Row.bytes hX2) (hx.keepsN K48) rfl).mono ?_)
    rintro e w1 ⟨rfl, rfl⟩
    refine ⟨_, rfl, ?_⟩
    refine ps_k (o_MessagePacks 2046 9) (.bool true) ?_
    refine ps_k (o_MessagePacks 2046 10) (.bool true) ?_
    refine ps_end ?_
    refine then_n ?_
    refine sy_ret (by kernel_rfl) ?_
    refine sy_out (.bool true) rfl (by kernel_rfl) ?_
    exact ⟨rfl, K48⟩
  · have hl0 : (unR l).1.length = 0 := by rw [unR_bad hz]; rfl
    refine sy_sq (part_MessagePacks 254) (part_MessagePacks 255) ?_
    refine sy_reg ?_
    refine rg_plain 8 (opsAt (part_MessagePacks 254)) [0, 1, 2, 3, 4, 5, 6, 7] (by kernel_rfl) (by kernel_rfl) ?_
    refine ps_k (o_MessagePacks 254 0) (.slice A0 l.length cap0) ?_
    refine ps_c (o_MessagePacks 254 1) 32 #[.slice A0 l.length cap0] Try.func32 ((mUnpack_is _ l (unR l).1 (unR l).2.1 (unR l).2.2 _ (hx.keepsN K24) (BytesAt.length_le (hx.keepsN K24)) rfl).mono ?_)
    rintro e V50 ⟨A2, c2, xs2, rfl, hL2, kV50⟩
    refine ⟨_, rfl, ?_⟩
    have h51 := kV50.bk h23
    have K52 := K24.nn kV50
    have z53 := kV50.size
    refine ps_k (o_MessagePacks 254 2) (.tuple #[.slice A2 (unR l).1.length c2, .agg #[.int .i64 (unR l).2.1, .int .i64 (unR l).2.2]]) ?_
    refine ps_k (o_MessagePacks 254 3) (.slice A2 (unR l).1.length c2) ?_
    refine ps_k (o_MessagePacks 254 4) (.agg #[.int .i64 (unR l).2.1, .int .i64 (unR l).2.2]) ?_
    obtain ⟨V54, eV54, g11, eg11, h55, kV54⟩ := alloc_step V50 (#[.int .i64 0, .int .i64 0]) 38
    have n56 : g9 < g11 := eg11 ▸ lt_of_block h51
    have n57 : w.heap.size ≤ g11 := eg11 ▸ K52.size
    refine ps_r (o_MessagePacks 254 5) (pT g11 0) (w' := V54) (by rw [← eV54, ← eg11]; exact exec_alloc0 38 (by kernel_rfl) (.agg (#[.int .i64 0, .int .i64 0])) (by kernel_rfl)) ?_
    clear eV54
    have h58 := kV54.bk h51
    have h59 : ListsAt V54 (.slice A2 (unR l).1.length c2) xs2 ((unR l).1) := hL2.keepsN kV54
    have K60 := K52.nn kV54
    have z61 := kV54.size
    refine ps_k (o_MessagePacks 254 6) (.slice A2 (unR l).1.length c2) ?_
    obtain ⟨V62, eV62, kV62⟩ := rowset_step V54 g11 (#[.int .i64 (unR l).2.1, .int .i64 (unR l).2.2])
    have h63 : V62.heap[g11]? = some (.cells (#[.int .i64 (unR l).2.1, .int .i64 (unR l).2.2]) 38 (0, 0)) := eV62 ▸ setRow_heap _ _ _ _ _ _ h55
    refine ps_s (o_MessagePacks 254 7) (w' := V62) (by rw [← eV62]; exact exec_store_row 38 (.tmp 11) (.tmp 50) (by kernel_rfl) g11 (#[.int .i64 (unR l).2.1, .int .i64 (unR l).2.2]) (by kernel_rfl) (by kernel_rfl) 38 (#[.int .i64 0, .int .i64 0]) h55 (by kernel_rfl) rfl (by kernel_rfl)) ?_
    clear eV62
    have h64 := kV62.bo h58 (by omega)
    have h65 : ListsAt V62 (.slice A2 (unR l).1.length c2) xs2 ((unR l).1) := ListsAt.keepsB hL2 h59 kV62 (fun j hj e => by first | exact e.elim | (unfold Own.One at e; omega) | omega)
    have K66 := K60.no kV62 (by omega)
    have z67 := kV62.size
    refine ps_end ?_
    refine then_n ?_
    refine sy_sq (part_MessagePacks 510) (part_MessagePacks 511) ?_
    refine sy_sq (part_MessagePacks 1020) (part_MessagePacks 1021) ?_
    refine sy_reg ?_
    refine rg_plain 9 (opsAt (part_MessagePacks 1020)) [0, 1, 2] (by kernel_rfl) (by kernel_rfl) ?_
    refine ps_p (o_MessagePacks 1020 0) (.agg #[.int .i64 (unR l).2.1, .int .i64 (unR l).2.2]) (exec_load_row 38 (.tmp 11) (by kernel_rfl) g11 (by kernel_rfl) _ _ (0, 0) _ (h63) Try.underlying38 rfl (by kernel_rfl)) ?_
    refine ps_k (o_MessagePacks 1020 1) (.agg #[.int .i64 0, .int .i64 0]) ?_
    refine ps_p (o_MessagePacks 1020 2) (.bool true) (exec_cast (congrArg Value.bool (fault_no hz)) (exec_binop .neq 38 38 (.tmp 51) (.tmp 52) (by kernel_rfl) (.agg #[.int .i64 (unR l).2.1, .int .i64 (unR l).2.2]) (.agg #[.int .i64 0, .int .i64 0]) _ (by kernel_rfl) (by kernel_rfl) (run_eqGuard_agg _ _ _ _ _ _ _ fault_guard) (fault_ne _ _ _ _ _))) ?_
    refine ps_end ?_
    refine sy_a ⟨#[.slice A ls.length cap, .slice A0 l.length cap0, undef, undef, .bool false, .bool true, X, .int .i64 0, .slice A1 ls.length c1, pT g9 0, .slice A2 (unR l).1.length c2, pT g11 0, undef, undef, .bool true, .slice A ls.length cap, .bool false, .bool false, .slice A0 l.length cap0, iN l.length, .bool false, .bool false, undef, .tuple #[X, .int .i64 0], .slice A ls.length cap, .tuple #[X, .int .i64 0], X, .int .i64 0, .tuple #[.slice A1 ls.length c1, .agg #[.int .i64 0, .int .i64 0]], X, .tuple #[.slice A1 ls.length c1, .agg #[.int .i64 0, .int .i64 0]], .slice A1 ls.length c1, .agg #[.int .i64 0, .int .i64 0], .int .i64 0, .bool false, .bool false, .agg #[.int .i64 0, .int .i64 0], .agg #[.int .i64 0, .int .i64 0], .bool false, .bool false, .bool false, .slice A1 ls.length c1, .slice A ls.length cap, .bool true, .bool false, .bool false, .tuple #[.slice A2 (unR l).1.length c2, .agg #[.int .i64 (unR l).2.1, .int .i64 (unR l).2.2]], .slice A0 l.length cap0, .tuple #[.slice A2 (unR l).1.length c2, .agg #[.int .i64 (unR l).2.1, .int .i64 (unR l).2.2]], .slice A2 (unR l).1.length c2, .agg #[.int .i64 (unR l).2.1, .int .i64 (unR l).2.2], .agg #[.int .i64 (unR l).2.1, .int .i64 (unR l).2.2], .agg #[.int .i64 0, .int .i64 0], .bool true, undef, undef, undef, undef, undef, undef, undef, undef, undef, undef, undef, undef, undef, undef, undef, undef, undef, undef, undef, undef, undef], []⟩ ?_
    refine then_n ?_
    refine sy_ys (.tmp 53) (part_MessagePacks 2042) (part_MessagePacks 2043) ?_
    refine sy_sq (part_MessagePacks 4084) (part_MessagePacks 4085) ?_
    refine sy_reg ?_
    refine rg_plain 10 (opsAt (part_MessagePacks 4084)) [0, 1, 2, 3, 4, 5, 6] (by kernel_rfl) (by kernel_rfl) ?_
    refine ps_k (o_MessagePacks 4084 0) (.bool true) ?_
    refine ps_k (o_MessagePacks 4084 1) (.bool true) ?_
    refine ps_k (o_MessagePacks 4084 2) (.slice A2 (unR l).1.length c2) ?_
    refine ps_p (o_MessagePacks 4084 3) (iN ((unR l).1.length)) (exec_len (.tmp 56) 54 _ (by kernel_rfl) Try.underlying54 A2 (unR l).1.length c2 (by kernel_rfl)) ?_
    refine ps_p (o_MessagePacks 4084 4) (.bool true) (eqt ((((unR l).1.length : Nat) : Int)) ((0) : Int) (by omega)) ?_
    refine ps_k (o_MessagePacks 4084 5) (.bool true) ?_
    refine ps_k (o_MessagePacks 4084 6) (.bool true) ?_
    refine ps_end ?_
    refine then_n ?_
    refine sy_ret (by kernel_rfl) ?_
    refine then_r ?_
    refine sy_out (.bool true) rfl (by kernel_rfl) ?_
    exact ⟨rfl, K66⟩
theorem mpacks_ok (v : Value) (us : List Value) (ls : List (List UInt8)) (v0 : Value) (l : List UInt8) (w : World) (h0 : ListsAt w v us ls) (hx : BytesAt w v0 l) : Calls Try.prog 8 #[v, v0] w fun e w' => e = .returned (.bool true) ∧ Keeps Nob w w' := by
  obtain ⟨A0, cap0, rfl⟩ := hx.len
  obtain ⟨A, cap, rfl, _⟩ := h0.form
  cases hlg : lngL ls 30 200 with
  | true => exact mpacks_long A cap us ls A0 cap0 l w h0 hx hlg
  | false =>
    by_cases hl : 600 < l.length
    · exact mpacks_big A cap us ls A0 cap0 l w h0 hx hlg hl
    · exact mpacks_main A cap us ls A0 cap0 l w h0 hx hlg (by omega)
end Go.Proofs.Ytmapcghgdbfmhaa
