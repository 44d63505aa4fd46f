/-
  Codec: the document's Get. Conditions: none.
  Codec: regions of the document's reader (printed by codref.py). Conditions: none.
-/
import Derived.Test.YtmapcghgdbfmhaaCodF
import Derived.Test.YtmapcghgdbfmhaaCodN
import Derived.Test.YtmapcghgdbfmhaaRegion2
namespace Go.Proofs.Ytmapcghgdbfmhaa
open Go Go.RowKit Go.Own Go.Shelf

set_option maxRecDepth 100000 in
set_option maxHeartbeats 8000000 in
theorem rGet_ok (v : Value) (l : List UInt8) (at_ : Int) (w : World) (hv : BytesAt w v l) :
    Calls Try.prog 99 #[v, .int .i64 at_] w fun e w' => e = .returned (getV (getAt l at_)) ∧ Keeps Nob w w' := by
  have hlen := hv.length_le
  obtain ⟨A, cap, rfl, hlc, hcm, _⟩ := hv.form
  by_cases h1 : at_ < 0
  · rw [getAt_out _ _ (.inl h1)]
    go_enter Try.func99, Try.ntmps99
    go_wp2
    exact bodyPost_ret (v := getV (0, 0, 3, 0)) (by simp [results, Try.results99, go_sem, getV]) rfl ⟨rfl, (Keeps.refl _ _).alloc _⟩
  · have h1d : decide (at_ < 0) = false := by simpa using h1
    by_cases h2 : (l.length : Int) < at_
    · rw [getAt_out _ _ (.inr h2)]
      go_enter Try.func99, Try.ntmps99
      go_wp2
      exact bodyPost_ret (v := getV (0, 0, 3, 0)) (by simp [results, Try.results99, go_sem, getV]) rfl ⟨rfl, (Keeps.refl _ _).alloc _⟩
    · obtain ⟨a, rfl⟩ : ∃ k : Nat, at_ = k := ⟨at_.toNat, by omega⟩
      have hal : a ≤ l.length := by omega
      have HV := Lib.hid hv
      clear hv
      obtain ⟨gg, hgg⟩ : ∃ g, getAt l a = g := ⟨_, rfl⟩
      rw [hgg]
      have HG := Lib.hid hgg
      clear hgg
      unfold maxLen at hcm
      go_enter Try.func99, Try.ntmps99
      go_wp2_with fail
      go_loop [7, 8] (fun n i => ∃ k m : Nat, a + k ≤ l.length ∧ i = .int .i64 k ∧ n = .int .u64 (m : Int) ∧ Hid (NumAt (l.drop a) k m) ∧ k ≤ 9) (fun _ i => l.length - (intOf i).toNat)
      case atStart => exact ⟨0, 0, by omega, rfl, rfl, Lib.hid (NumAt.zero _), by omega⟩
      case round =>
        obtain ⟨k, m, hk, rfl, rfl, HK, hk9⟩ := hrel
        have hk10 : decide ((k : Int) < 10) = true := by simp; omega
        by_cases hlt : a + k < l.length
        · obtain ⟨c, hc⟩ : ∃ c, l[a + k]? = some c := ⟨_, List.getElem?_eq_getElem hlt⟩
          obtain ⟨b, o, cap', hv, hb, c00⟩ := HV.out.at_ (a + k) c hc
          simp only [Value.slice.injEq, true_and] at hv
          obtain ⟨rfl, rfl⟩ := hv
          have c0 : (w.alloc (.cells #[.int .i64 0, .int .i64 0] 38)).cell? ⟨b, o + (a + k), none⟩ = some (.int .u8 (c.toNat : Int)) := (World.cell?_alloc_lt _ _ _ hb).trans c00
          clear c00
          have HC : Hid ((l.drop a)[k]? = some c) := Lib.hid (by rw [List.getElem?_drop]; exact hc)
          clear hc
          have hc256 : c.toNat < 256 := c.toNat_lt
          obtain ⟨z, hz⟩ : ∃ z, c.toNat = z := ⟨_, rfl⟩
          rw [hz] at c0 hc256
          have HZ := Lib.hid hz; clear hz
          have key : ((k = 9 ∧ 1 < z) ∨ (0 < k ∧ z = 0)) ∨ ¬ ((k = 9 ∧ 1 < z) ∨ (0 < k ∧ z = 0)) := Decidable.em _
          rcases key with hf | hf
          · have hn := HK.out.form HC.out HZ.out hf
            obtain rfl : gg = (0, 0, 5, (a : Int)) := HG.out.symm.trans (by rw [getAt_bad _ _ hal (by rw [hn]; decide), hn])
            have kinds : (((k : Int) == 9) = true ∧ (k == 9) = true ∧ decide (1 < (z : Int)) = true ∧ decide (1 < z) = true) ∨ (((k : Int) == 9) = false ∧ (k == 9) = false ∧ decide (0 < (k : Int)) = true ∧ decide (0 < k) = true ∧ ((z : Int) == 0) = true ∧ (z == 0) = true) ∨ (((k : Int) == 9) = true ∧ (k == 9) = true ∧ decide (1 < (z : Int)) = false ∧ decide (1 < z) = false ∧ decide (0 < (k : Int)) = true ∧ decide (0 < k) = true ∧ ((z : Int) == 0) = true ∧ (z == 0) = true) := by
              simp; omega
            clear hf hn
            rcases kinds with ⟨b0, b1, b2, b3⟩ | ⟨b0, b1, b2, b3, b4, b5⟩ | ⟨b0, b1, b2, b3, b4, b5, b6, b7⟩
            all_goals
              go_wp2_with fail
              exact bodyPost_ret (v := getV (0, 0, 5, (a : Int))) (by simp [results, Try.results99, go_sem, getV]) rfl ⟨rfl, (Keeps.refl _ _).alloc _⟩
          · have h9 : k = 9 → z ≤ 1 := fun h => by omega
            have hacc := acc_mod z m k hk9 h9 HK.out.2.1 (Nat.lt_of_lt_of_le HK.out.2.1 (Nat.le_trans (pow128_le k hk9) (by omega)))
            rw [wrap_u64_nat (z % 128) (by omega)] at hacc
            rw [show (((z % 128 : Nat)) : Int) = (z : Int) % 128 by omega] at hacc
            clear h9
            have kinds : (((k : Int) == 9) = false ∧ (k == 9) = false ∧ decide (0 < (k : Int)) = false ∧ decide (0 < k) = false) ∨ (((k : Int) == 9) = false ∧ (k == 9) = false ∧ decide (0 < (k : Int)) = true ∧ decide (0 < k) = true ∧ ((z : Int) == 0) = false ∧ (z == 0) = false) ∨ (((k : Int) == 9) = true ∧ (k == 9) = true ∧ decide (1 < (z : Int)) = false ∧ decide (1 < z) = false ∧ decide (0 < (k : Int)) = true ∧ decide (0 < k) = true ∧ ((z : Int) == 0) = false ∧ (z == 0) = false) := by
              simp; omega
            by_cases hlt2 : z < 128
            · have hn := HK.out.done HC.out HZ.out hf hlt2
              clear hf
              generalize m + z % 128 * 128 ^ k = m' at hacc hn
              obtain rfl : gg = (m', (a : Int) + ((k + 1 : Nat) : Int), 0, 0) := HG.out.symm.trans (by rw [getAt_ok _ _ hal (by rw [hn]), hn])
              clear hn
              rcases kinds with ⟨b0, b1, b2, b3⟩ | ⟨b0, b1, b2, b3, b4, b5⟩ | ⟨b0, b1, b2, b3, b4, b5, b6, b7⟩
              all_goals
                go_wp2_with fail
                exact bodyPost_ret (v := getV (m', (a : Int) + ((k + 1 : Nat) : Int), 0, 0)) (by simp [results, Try.results99, go_sem, getV]) rfl ⟨rfl, (Keeps.refl _ _).alloc _⟩
            · have HN := Lib.hid (HK.out.more HC.out HZ.out hf hlt2)
              have h91 := HN.out.2.2
              clear hf
              generalize m + z % 128 * 128 ^ k = m' at hacc HN
              rcases kinds with ⟨b0, b1, b2, b3⟩ | ⟨b0, b1, b2, b3, b4, b5⟩ | ⟨b0, b1, b2, b3, b4, b5, b6, b7⟩
              all_goals
                go_wp2_with fail
                go_round
                case rel => exact ⟨k + 1, m', by omega, by go_num, rfl, HN, h91⟩
                case measure => simp [intOf]; omega
        · have hn := HK.out.end_ (by rw [List.length_drop]; omega)
          obtain rfl : gg = (0, 0, 6, (a : Int)) := HG.out.symm.trans (by rw [getAt_bad _ _ hal (by rw [hn]; decide), hn])
          clear hn
          go_wp2_with fail
          exact bodyPost_ret (v := getV (0, 0, 6, (a : Int))) (by simp [results, Try.results99, go_sem, getV]) rfl ⟨rfl, (Keeps.refl _ _).alloc _⟩
end Go.Proofs.Ytmapcghgdbfmhaa
namespace Go.Proofs.Ytmapcghgdbfmhaa
open Go Go.RowKit Go.Own Go.Shelf
theorem fault_zero (w : World) : (zeroValue 38).run Try.prog w = .ok (.agg #[.int .i64 0, .int .i64 0]) w := by kernel_rfl

noncomputable def opsrRU_3 : Array Oper := opsOf Try.f66 3
set_option maxRecDepth 100000 in
set_option maxHeartbeats 2000000 in
theorem refU_region {ops' : Array Oper} (hops : ops' = opsrRU_3) {u1 u2 u3 u4 u5 u6 u7 u8 u9 u10 u11 u12 u13 u14 u15 u16 u17 u18 u19 u20 u21 u22 u23 u24 u25 u26 u27 u28 u29 u30 u31 u32 u33 u34 u35 u36 : Value} (b : Nat) (A : Option Addr) (l : List UInt8) (cap at_ : Nat) (e0 e1 : Int) (W0 : World) (HBK : W0.heap[b]? = some (.cells #[.slice A l.length cap, .int .i64 (at_ : Int), .int .i64 e0, .int .i64 e1] 112 (0, 0))) (n to er bad : Int) (HF : ∀ W, Keeps Nob W0 W → Calls Try.prog 99 #[.slice A l.length cap, .int .i64 (at_ : Int)] W fun e w' => e = .returned (.tuple #[.int .u64 n, .int .i64 to, .agg #[.int .i64 er, .int .i64 bad]]) ∧ Keeps Nob W w') (Q : Exit → Act → World → Prop)
    (hQ : ∀ (gf : Nat) (W : World), Keeps Nob W0 W → W0.heap.size ≤ gf → W.heap[gf]? = some (.cells #[.int .i64 er, .int .i64 bad] 38 (0, 0)) → Q .normal ⟨#[.pointer (some ⟨b, 0, none⟩), u1, u2, .int .u64 n, .int .i64 to, .pointer (some ⟨gf, 0, none⟩), u6, u7, u8, u9, u10, u11, .tuple #[.int .u64 n, .int .i64 to, .agg #[.int .i64 er, .int .i64 bad]], .pointer (some ⟨b, 0, none⟩), .pointer (some ⟨b, 0, none⟩), .pointer (some ⟨b, 0, none⟩), .slice A l.length cap, .pointer (some ⟨b, 0, none⟩), .pointer (some ⟨b, 0, none⟩), .pointer (some ⟨b, 1, none⟩), .int .i64 (at_ : Int), .tuple #[.int .u64 n, .int .i64 to, .agg #[.int .i64 er, .int .i64 bad]], .int .u64 n, .int .i64 to, .agg #[.int .i64 er, .int .i64 bad], u25, u26, u27, u28, u29, u30, u31, u32, u33, u34, u35, u36], []⟩ W) : (Code.region 3 ops' true).wp Try.prog Q ⟨#[.pointer (some ⟨b, 0, none⟩), u1, u2, u3, u4, u5, u6, u7, u8, u9, u10, u11, u12, u13, u14, u15, u16, u17, u18, u19, u20, u21, u22, u23, u24, u25, u26, u27, u28, u29, u30, u31, u32, u33, u34, u35, u36], []⟩ W0 := by
  subst hops
  refine wp_region_noPanic ?_
  have hb0 : b < W0.heap.size := lt_of_block HBK
  have cb : ∀ W, Keeps Nob W0 W → W.heap[b]? = some (.cells #[.slice A l.length cap, .int .i64 (at_ : Int), .int .i64 e0, .int .i64 e1] 112 (0, 0)) := fun W hW => (hW.block b hb0 (fun x => x)).trans HBK
  refine wp_regionH_fuel (fun W => Keeps Nob W0 W) 17 #[false, false, false, false, false, false, false, false, false, false, false, false, false, false, false, false, false] (by kernel_rfl) (by kernel_rfl) rfl ?_
  have S0 : Keeps Nob W0 W0.drew := (Keeps.refl _ _).drew
  refine wpAnyH_val (i := 0) (opsrRU_3.getD 0 default) (.pointer (some ⟨b, 0, none⟩)) (by kernel_rfl) (fun _ _ _ _ _ h => h) (by kernel_rfl) (by kernel_rfl) (by kernel_rfl) (by kernel_rfl) (fun W hW => by kernel_rfl) S0 ?_
  refine wpAnyH_val (i := 1) (opsrRU_3.getD 1 default) (.pointer (some ⟨b, 0, none⟩)) (by kernel_rfl) (fun _ _ _ _ _ h => h) (by kernel_rfl) (by kernel_rfl) (by kernel_rfl) (by kernel_rfl) (fun W hW => by kernel_rfl) S0 ?_
  refine wpAnyH_val (i := 2) (opsrRU_3.getD 2 default) (.pointer (some ⟨b, 0, none⟩)) (by kernel_rfl) (fun _ _ _ _ _ h => h) (by kernel_rfl) (by kernel_rfl) (by kernel_rfl) (by kernel_rfl) (fun W hW => by kernel_rfl) S0 ?_
  refine wpAnyH_val (i := 3) (opsrRU_3.getD 3 default) (.slice A l.length cap) (by kernel_rfl) (fun _ _ _ _ _ h => h) (by kernel_rfl) (by kernel_rfl) (by kernel_rfl) (by kernel_rfl) (fun W hW => exec_load_cell 22 (.tmp 15) (by kernel_rfl) ⟨b, 0, none⟩ (by kernel_rfl) _ _ Try.underlying22 rfl ((cell_of_row W b 0 _ _ _ (cb W hW)).trans rfl)) S0 ?_
  refine wpAnyH_val (i := 4) (opsrRU_3.getD 4 default) (.pointer (some ⟨b, 0, none⟩)) (by kernel_rfl) (fun _ _ _ _ _ h => h) (by kernel_rfl) (by kernel_rfl) (by kernel_rfl) (by kernel_rfl) (fun W hW => by kernel_rfl) S0 ?_
  refine wpAnyH_val (i := 5) (opsrRU_3.getD 5 default) (.pointer (some ⟨b, 0, none⟩)) (by kernel_rfl) (fun _ _ _ _ _ h => h) (by kernel_rfl) (by kernel_rfl) (by kernel_rfl) (by kernel_rfl) (fun W hW => by kernel_rfl) S0 ?_
  refine wpAnyH_val (i := 6) (opsrRU_3.getD 6 default) (.pointer (some ⟨b, 1, none⟩)) (by kernel_rfl) (fun _ _ _ _ _ h => h) (by kernel_rfl) (by kernel_rfl) (by kernel_rfl) (by kernel_rfl) (fun W hW => by kernel_rfl) S0 ?_
  refine wpAnyH_val (i := 7) (opsrRU_3.getD 7 default) (.int .i64 (at_ : Int)) (by kernel_rfl) (fun _ _ _ _ _ h => h) (by kernel_rfl) (by kernel_rfl) (by kernel_rfl) (by kernel_rfl) (fun W hW => exec_load_cell 3 (.tmp 19) (by kernel_rfl) ⟨b, 1, none⟩ (by kernel_rfl) _ _ Try.underlying3 rfl ((cell_of_row W b 1 _ _ _ (cb W hW)).trans rfl)) S0 ?_
  refine anyH_two 8 13 (by kernel_rfl) ?_ ?_
  · refine opH_callF (opsrRU_3.getD 8 default) 99 #[.slice A l.length cap, .int .i64 (at_ : Int)] (by kernel_rfl) (by kernel_rfl) (by kernel_rfl) (by kernel_rfl) (enters_of Try.func99 (by kernel_rfl) rfl) ((HF W0.drew S0).mono ?_)
    rintro e V1 ⟨rfl, hk1⟩
    have SV1 := (S0).trans hk1
    refine ⟨_, rfl, SV1, ?_⟩
    refine wpAnyH_val (i := 9) (opsrRU_3.getD 9 default) (.tuple #[.int .u64 n, .int .i64 to, .agg #[.int .i64 er, .int .i64 bad]]) (by kernel_rfl) (fun _ _ _ _ _ h => h) (by kernel_rfl) (by kernel_rfl) (by kernel_rfl) (by kernel_rfl) (fun W hW => by kernel_rfl) SV1 ?_
    refine wpAnyH_val (i := 10) (opsrRU_3.getD 10 default) (.int .u64 n) (by kernel_rfl) (fun _ _ _ _ _ h => h) (by kernel_rfl) (by kernel_rfl) (by kernel_rfl) (by kernel_rfl) (fun W hW => by kernel_rfl) SV1 ?_
    refine wpAnyH_val (i := 11) (opsrRU_3.getD 11 default) (.int .i64 to) (by kernel_rfl) (fun _ _ _ _ _ h => h) (by kernel_rfl) (by kernel_rfl) (by kernel_rfl) (by kernel_rfl) (fun W hW => by kernel_rfl) SV1 ?_
    refine wpAnyH_val (i := 12) (opsrRU_3.getD 12 default) (.agg #[.int .i64 er, .int .i64 bad]) (by kernel_rfl) (fun _ _ _ _ _ h => h) (by kernel_rfl) (by kernel_rfl) (by kernel_rfl) (by kernel_rfl) (fun W hW => by kernel_rfl) SV1 ?_
    obtain ⟨V2, eV2⟩ : ∃ V, (V1).alloc (.cells #[.int .i64 0, .int .i64 0] 38) = V := ⟨_, rfl⟩
    obtain ⟨gf, egf⟩ : ∃ g, (V1).heap.size = g := ⟨_, rfl⟩
    have SV2 : Keeps Nob W0 V2 := eV2 ▸ (SV1).alloc _
    have row_f_2 : V2.heap[gf]? = some (.cells #[.int .i64 0, .int .i64 0] 38 (0, 0)) := by rw [← eV2, ← egf]; exact heap_alloc_new _ _
    have le_f : W0.heap.size ≤ gf := egf ▸ (SV1).size
    refine wpAnyH_run (i := 13) (opsrRU_3.getD 13 default) (.pointer (some ⟨gf, 0, none⟩)) (w' := V2) (by kernel_rfl) (by kernel_rfl) (by kernel_rfl) (.inl (by rw [← eV2, ← egf]; exact exec_alloc 38 (by kernel_rfl) (fault_zero _))) SV2 ?_
    clear eV2
    refine wpAnyH_run (i := 14) (opsrRU_3.getD 14 default) (.int .u64 n) (w' := V2) (by kernel_rfl) (by kernel_rfl) (by kernel_rfl) (.inl (by kernel_rfl)) SV2 ?_
    refine wpAnyH_run (i := 15) (opsrRU_3.getD 15 default) (.int .i64 to) (w' := V2) (by kernel_rfl) (by kernel_rfl) (by kernel_rfl) (.inl (by kernel_rfl)) SV2 ?_
    obtain ⟨V3, eV3⟩ : ∃ V, (V2).setRow gf #[.int .i64 er, .int .i64 bad] = V := ⟨_, rfl⟩
    have SV3 : Keeps Nob W0 V3 := eV3 ▸ (SV2).setRow (fun x => absurd x (by omega)) _
    have row_f_3 : V3.heap[gf]? = some (.cells #[.int .i64 er, .int .i64 bad] 38 (0, 0)) := by rw [← eV3]; exact setRow_heap _ _ _ _ _ _ row_f_2
    refine wpAnyH_run (i := 16) (opsrRU_3.getD 16 default) undef (w' := V3) (by kernel_rfl) (by kernel_rfl) (by kernel_rfl) (.inr ⟨(by rw [← eV3]; exact exec_store_row 38 (.tmp 5) (.tmp 24) (by kernel_rfl) gf #[.int .i64 er, .int .i64 bad] (by kernel_rfl) (by kernel_rfl) 38 #[.int .i64 0, .int .i64 0] row_f_2 (by kernel_rfl) rfl (by simp [Value.oneCell'])), rfl⟩) SV3 ?_
    clear eV3
    refine wpAnyH_done (by kernel_rfl) ?_ _
    refine NoPanic.normal ?_
    exact state_eq (b := ⟨#[.pointer (some ⟨b, 0, none⟩), u1, u2, .int .u64 n, .int .i64 to, .pointer (some ⟨gf, 0, none⟩), u6, u7, u8, u9, u10, u11, .tuple #[.int .u64 n, .int .i64 to, .agg #[.int .i64 er, .int .i64 bad]], .pointer (some ⟨b, 0, none⟩), .pointer (some ⟨b, 0, none⟩), .pointer (some ⟨b, 0, none⟩), .slice A l.length cap, .pointer (some ⟨b, 0, none⟩), .pointer (some ⟨b, 0, none⟩), .pointer (some ⟨b, 1, none⟩), .int .i64 (at_ : Int), .tuple #[.int .u64 n, .int .i64 to, .agg #[.int .i64 er, .int .i64 bad]], .int .u64 n, .int .i64 to, .agg #[.int .i64 er, .int .i64 bad], u25, u26, u27, u28, u29, u30, u31, u32, u33, u34, u35, u36], []⟩) (by kernel_rfl) (hQ gf V3 SV3 le_f row_f_3)
  · obtain ⟨V1, eV1⟩ : ∃ V, (W0.drew).alloc (.cells #[.int .i64 0, .int .i64 0] 38) = V := ⟨_, rfl⟩
    obtain ⟨gf, egf⟩ : ∃ g, (W0.drew).heap.size = g := ⟨_, rfl⟩
    have SV1 : Keeps Nob W0 V1 := eV1 ▸ (S0).alloc _
    have row_f_1 : V1.heap[gf]? = some (.cells #[.int .i64 0, .int .i64 0] 38 (0, 0)) := by rw [← eV1, ← egf]; exact heap_alloc_new _ _
    have le_f : W0.heap.size ≤ gf := egf ▸ (S0).size
    refine opH_run (opsrRU_3.getD 13 default) (.pointer (some ⟨gf, 0, none⟩)) (w' := V1) (by kernel_rfl) (by kernel_rfl) (by rw [← eV1, ← egf]; exact exec_alloc 38 (by kernel_rfl) (fault_zero _)) ⟨SV1, ?_⟩
    clear eV1
    refine wpAnyH_call (i := 8) (opsrRU_3.getD 8 default) 99 #[.slice A l.length cap, .int .i64 (at_ : Int)] (by kernel_rfl) (by kernel_rfl) (by kernel_rfl) (by kernel_rfl) (by kernel_rfl) (enters_of Try.func99 (by kernel_rfl) rfl) ((HF V1 SV1).mono ?_)
    rintro e V2 ⟨rfl, hk2⟩
    have SV2 := (SV1).trans hk2
    refine ⟨_, rfl, SV2, ?_⟩
    have row_f_2 := (hk2.block gf (lt_of_block row_f_1) (fun x => x)).trans row_f_1
    refine wpAnyH_val (i := 9) (opsrRU_3.getD 9 default) (.tuple #[.int .u64 n, .int .i64 to, .agg #[.int .i64 er, .int .i64 bad]]) (by kernel_rfl) (fun _ _ _ _ _ h => h) (by kernel_rfl) (by kernel_rfl) (by kernel_rfl) (by kernel_rfl) (fun W hW => by kernel_rfl) SV2 ?_
    refine wpAnyH_val (i := 10) (opsrRU_3.getD 10 default) (.int .u64 n) (by kernel_rfl) (fun _ _ _ _ _ h => h) (by kernel_rfl) (by kernel_rfl) (by kernel_rfl) (by kernel_rfl) (fun W hW => by kernel_rfl) SV2 ?_
    refine wpAnyH_val (i := 11) (opsrRU_3.getD 11 default) (.int .i64 to) (by kernel_rfl) (fun _ _ _ _ _ h => h) (by kernel_rfl) (by kernel_rfl) (by kernel_rfl) (by kernel_rfl) (fun W hW => by kernel_rfl) SV2 ?_
    refine wpAnyH_val (i := 12) (opsrRU_3.getD 12 default) (.agg #[.int .i64 er, .int .i64 bad]) (by kernel_rfl) (fun _ _ _ _ _ h => h) (by kernel_rfl) (by kernel_rfl) (by kernel_rfl) (by kernel_rfl) (fun W hW => by kernel_rfl) SV2 ?_
    refine wpAnyH_run (i := 14) (opsrRU_3.getD 14 default) (.int .u64 n) (w' := V2) (by kernel_rfl) (by kernel_rfl) (by kernel_rfl) (.inl (by kernel_rfl)) SV2 ?_
    refine wpAnyH_run (i := 15) (opsrRU_3.getD 15 default) (.int .i64 to) (w' := V2) (by kernel_rfl) (by kernel_rfl) (by kernel_rfl) (.inl (by kernel_rfl)) SV2 ?_
    obtain ⟨V3, eV3⟩ : ∃ V, (V2).setRow gf #[.int .i64 er, .int .i64 bad] = V := ⟨_, rfl⟩
    have SV3 : Keeps Nob W0 V3 := eV3 ▸ (SV2).setRow (fun x => absurd x (by omega)) _
    have row_f_3 : V3.heap[gf]? = some (.cells #[.int .i64 er, .int .i64 bad] 38 (0, 0)) := by rw [← eV3]; exact setRow_heap _ _ _ _ _ _ row_f_2
    refine wpAnyH_run (i := 16) (opsrRU_3.getD 16 default) undef (w' := V3) (by kernel_rfl) (by kernel_rfl) (by kernel_rfl) (.inr ⟨(by rw [← eV3]; exact exec_store_row 38 (.tmp 5) (.tmp 24) (by kernel_rfl) gf #[.int .i64 er, .int .i64 bad] (by kernel_rfl) (by kernel_rfl) 38 #[.int .i64 0, .int .i64 0] row_f_2 (by kernel_rfl) rfl (by simp [Value.oneCell'])), rfl⟩) SV3 ?_
    clear eV3
    refine wpAnyH_done (by kernel_rfl) ?_ _
    refine NoPanic.normal ?_
    exact state_eq (b := ⟨#[.pointer (some ⟨b, 0, none⟩), u1, u2, .int .u64 n, .int .i64 to, .pointer (some ⟨gf, 0, none⟩), u6, u7, u8, u9, u10, u11, .tuple #[.int .u64 n, .int .i64 to, .agg #[.int .i64 er, .int .i64 bad]], .pointer (some ⟨b, 0, none⟩), .pointer (some ⟨b, 0, none⟩), .pointer (some ⟨b, 0, none⟩), .slice A l.length cap, .pointer (some ⟨b, 0, none⟩), .pointer (some ⟨b, 0, none⟩), .pointer (some ⟨b, 1, none⟩), .int .i64 (at_ : Int), .tuple #[.int .u64 n, .int .i64 to, .agg #[.int .i64 er, .int .i64 bad]], .int .u64 n, .int .i64 to, .agg #[.int .i64 er, .int .i64 bad], u25, u26, u27, u28, u29, u30, u31, u32, u33, u34, u35, u36], []⟩) (by kernel_rfl) (hQ gf V3 SV3 le_f row_f_3)

noncomputable def opsrRtake_5 : Array Oper := opsOf Try.f86 5
set_option maxRecDepth 100000 in
set_option maxHeartbeats 2000000 in
theorem refTake_region {ops' : Array Oper} (hops : ops' = opsrRtake_5) {u2 u3 u4 u5 u6 u7 u8 u9 u10 u11 u12 u13 u14 u15 u16 u17 u18 u19 u20 u21 u22 u23 u24 u25 u26 u27 u28 u29 u30 u31 u32 u33 u34 u35 u36 u37 u38 u39 u40 u41 u42 u43 u44 u45 u46 u47 u48 u49 u50 u51 u52 u53 u54 u55 u56 u57 u58 u59 u60 u61 u62 : Value} (b : Nat) (A : Option Addr) (l : List UInt8) (cap at_ : Nat) (e0 e1 : Int) (W0 : World) (HBK : W0.heap[b]? = some (.cells #[.slice A l.length cap, .int .i64 (at_ : Int), .int .i64 e0, .int .i64 e1] 112 (0, 0))) (k : Nat) (cv : Value) (PX : World → Value → Prop) (hwk : IntKind.i64.wrap ((at_ : Int) + (k : Int)) = ((at_ + k : Nat) : Int)) (hcut : ∀ W, (Instr.sliceAt 22 (.slice A l.length cap) (some (.int .i64 (at_ : Int))) (some (.int .i64 ((at_ + k : Nat) : Int))) none).run Try.prog W = .ok cv W) (HF : ∀ W, Keeps Nob W0 W → Calls Try.prog 56 #[cv] W fun e w' => ∃ X, e = .returned X ∧ PX w' X ∧ Keeps Nob W w') (Q : Exit → Act → World → Prop)
    (hQ : ∀ (X : Value) (W : World), Keeps Nob W0 W → PX W X → Q .normal ⟨#[.pointer (some ⟨b, 0, none⟩), .int .i64 (k : Int), u2, u3, u4, u5, u6, X, u8, u9, u10, u11, u12, u13, u14, u15, u16, u17, u18, u19, u20, u21, u22, u23, u24, u25, u26, u27, u28, u29, u30, u31, u32, u33, u34, u35, u36, .pointer (some ⟨b, 0, none⟩), .pointer (some ⟨b, 0, none⟩), .pointer (some ⟨b, 0, none⟩), .slice A l.length cap, .pointer (some ⟨b, 0, none⟩), .pointer (some ⟨b, 0, none⟩), .pointer (some ⟨b, 1, none⟩), .int .i64 (at_ : Int), .pointer (some ⟨b, 0, none⟩), .pointer (some ⟨b, 0, none⟩), .pointer (some ⟨b, 1, none⟩), .int .i64 (at_ : Int), .int .i64 (k : Int), .int .i64 ((at_ + k : Nat) : Int), cv, X, u53, u54, u55, u56, u57, u58, u59, u60, u61, u62], []⟩ W) : (Code.region 5 ops' true).wp Try.prog Q ⟨#[.pointer (some ⟨b, 0, none⟩), .int .i64 (k : Int), u2, u3, u4, u5, u6, u7, u8, u9, u10, u11, u12, u13, u14, u15, u16, u17, u18, u19, u20, u21, u22, u23, u24, u25, u26, u27, u28, u29, u30, u31, u32, u33, u34, u35, u36, u37, u38, u39, u40, u41, u42, u43, u44, u45, u46, u47, u48, u49, u50, u51, u52, u53, u54, u55, u56, u57, u58, u59, u60, u61, u62], []⟩ W0 := by
  subst hops
  refine wp_region_noPanic ?_
  have hb0 : b < W0.heap.size := lt_of_block HBK
  have cb : ∀ W, Keeps Nob W0 W → W.heap[b]? = some (.cells #[.slice A l.length cap, .int .i64 (at_ : Int), .int .i64 e0, .int .i64 e1] 112 (0, 0)) := fun W hW => (hW.block b hb0 (fun x => x)).trans HBK
  refine wp_regionH_fuel (fun W => Keeps Nob W0 W) 17 #[false, false, false, false, false, false, false, false, false, false, false, false, false, false, false, false, false] (by kernel_rfl) (by kernel_rfl) rfl ?_
  have S0 : Keeps Nob W0 W0.drew := (Keeps.refl _ _).drew
  refine wpAnyH_val (i := 0) (opsrRtake_5.getD 0 default) (.pointer (some ⟨b, 0, none⟩)) (by kernel_rfl) (fun _ _ _ _ _ h => h) (by kernel_rfl) (by kernel_rfl) (by kernel_rfl) (by kernel_rfl) (fun W hW => by kernel_rfl) S0 ?_
  refine wpAnyH_val (i := 1) (opsrRtake_5.getD 1 default) (.pointer (some ⟨b, 0, none⟩)) (by kernel_rfl) (fun _ _ _ _ _ h => h) (by kernel_rfl) (by kernel_rfl) (by kernel_rfl) (by kernel_rfl) (fun W hW => by kernel_rfl) S0 ?_
  refine wpAnyH_val (i := 2) (opsrRtake_5.getD 2 default) (.pointer (some ⟨b, 0, none⟩)) (by kernel_rfl) (fun _ _ _ _ _ h => h) (by kernel_rfl) (by kernel_rfl) (by kernel_rfl) (by kernel_rfl) (fun W hW => by kernel_rfl) S0 ?_
  refine wpAnyH_val (i := 3) (opsrRtake_5.getD 3 default) (.slice A l.length cap) (by kernel_rfl) (fun _ _ _ _ _ h => h) (by kernel_rfl) (by kernel_rfl) (by kernel_rfl) (by kernel_rfl) (fun W hW => exec_load_cell 22 (.tmp 39) (by kernel_rfl) ⟨b, 0, none⟩ (by kernel_rfl) _ _ Try.underlying22 rfl ((cell_of_row W b 0 _ _ _ (cb W hW)).trans rfl)) S0 ?_
  refine wpAnyH_val (i := 4) (opsrRtake_5.getD 4 default) (.pointer (some ⟨b, 0, none⟩)) (by kernel_rfl) (fun _ _ _ _ _ h => h) (by kernel_rfl) (by kernel_rfl) (by kernel_rfl) (by kernel_rfl) (fun W hW => by kernel_rfl) S0 ?_
  refine wpAnyH_val (i := 5) (opsrRtake_5.getD 5 default) (.pointer (some ⟨b, 0, none⟩)) (by kernel_rfl) (fun _ _ _ _ _ h => h) (by kernel_rfl) (by kernel_rfl) (by kernel_rfl) (by kernel_rfl) (fun W hW => by kernel_rfl) S0 ?_
  refine wpAnyH_val (i := 6) (opsrRtake_5.getD 6 default) (.pointer (some ⟨b, 1, none⟩)) (by kernel_rfl) (fun _ _ _ _ _ h => h) (by kernel_rfl) (by kernel_rfl) (by kernel_rfl) (by kernel_rfl) (fun W hW => by kernel_rfl) S0 ?_
  refine wpAnyH_val (i := 7) (opsrRtake_5.getD 7 default) (.int .i64 (at_ : Int)) (by kernel_rfl) (fun _ _ _ _ _ h => h) (by kernel_rfl) (by kernel_rfl) (by kernel_rfl) (by kernel_rfl) (fun W hW => exec_load_cell 3 (.tmp 43) (by kernel_rfl) ⟨b, 1, none⟩ (by kernel_rfl) _ _ Try.underlying3 rfl ((cell_of_row W b 1 _ _ _ (cb W hW)).trans rfl)) S0 ?_
  refine wpAnyH_val (i := 8) (opsrRtake_5.getD 8 default) (.pointer (some ⟨b, 0, none⟩)) (by kernel_rfl) (fun _ _ _ _ _ h => h) (by kernel_rfl) (by kernel_rfl) (by kernel_rfl) (by kernel_rfl) (fun W hW => by kernel_rfl) S0 ?_
  refine wpAnyH_val (i := 9) (opsrRtake_5.getD 9 default) (.pointer (some ⟨b, 0, none⟩)) (by kernel_rfl) (fun _ _ _ _ _ h => h) (by kernel_rfl) (by kernel_rfl) (by kernel_rfl) (by kernel_rfl) (fun W hW => by kernel_rfl) S0 ?_
  refine wpAnyH_val (i := 10) (opsrRtake_5.getD 10 default) (.pointer (some ⟨b, 1, none⟩)) (by kernel_rfl) (fun _ _ _ _ _ h => h) (by kernel_rfl) (by kernel_rfl) (by kernel_rfl) (by kernel_rfl) (fun W hW => by kernel_rfl) S0 ?_
  refine wpAnyH_val (i := 11) (opsrRtake_5.getD 11 default) (.int .i64 (at_ : Int)) (by kernel_rfl) (fun _ _ _ _ _ h => h) (by kernel_rfl) (by kernel_rfl) (by kernel_rfl) (by kernel_rfl) (fun W hW => exec_load_cell 3 (.tmp 47) (by kernel_rfl) ⟨b, 1, none⟩ (by kernel_rfl) _ _ Try.underlying3 rfl ((cell_of_row W b 1 _ _ _ (cb W hW)).trans rfl)) S0 ?_
  refine wpAnyH_val (i := 12) (opsrRtake_5.getD 12 default) (.int .i64 (k : Int)) (by kernel_rfl) (fun _ _ _ _ _ h => h) (by kernel_rfl) (by kernel_rfl) (by kernel_rfl) (by kernel_rfl) (fun W hW => by kernel_rfl) S0 ?_
  refine wpAnyH_val (i := 13) (opsrRtake_5.getD 13 default) (.int .i64 ((at_ + k : Nat) : Int)) (by kernel_rfl) (fun _ _ _ _ _ h => h) (by kernel_rfl) (by kernel_rfl) (by kernel_rfl) (by kernel_rfl) (fun W hW => exec_cast (v := .int .i64 (IntKind.i64.wrap ((at_ : Int) + (k : Int)))) (by rw [hwk]) (by kernel_rfl)) S0 ?_
  refine wpAnyH_val (i := 14) (opsrRtake_5.getD 14 default) (cv) (by kernel_rfl) (fun _ _ _ _ _ h => h) (by kernel_rfl) (by kernel_rfl) (by kernel_rfl) (by kernel_rfl) (fun W hW => exec_cut2 22 (.tmp 40) (.tmp 44) (.tmp 50) (by kernel_rfl) _ _ _ _ (by kernel_rfl) (by kernel_rfl) (by kernel_rfl) (hcut W)) S0 ?_
  refine wpAnyH_call (i := 15) (opsrRtake_5.getD 15 default) 56 #[cv] (by kernel_rfl) (by kernel_rfl) (by kernel_rfl) (by kernel_rfl) (by kernel_rfl) (enters_of Try.func56 (by kernel_rfl) rfl) ((HF W0.drew S0).mono ?_)
  rintro e V1 ⟨X, rfl, hX, hk1⟩
  have SV1 := (S0).trans hk1
  refine ⟨_, rfl, SV1, ?_⟩
  refine wpAnyH_run (i := 16) (opsrRtake_5.getD 16 default) (X) (w' := V1) (by kernel_rfl) (by kernel_rfl) (by kernel_rfl) (.inl (by kernel_rfl)) SV1 ?_
  refine wpAnyH_done (by kernel_rfl) ?_ _
  refine NoPanic.normal ?_
  exact state_eq (b := ⟨#[.pointer (some ⟨b, 0, none⟩), .int .i64 (k : Int), u2, u3, u4, u5, u6, X, u8, u9, u10, u11, u12, u13, u14, u15, u16, u17, u18, u19, u20, u21, u22, u23, u24, u25, u26, u27, u28, u29, u30, u31, u32, u33, u34, u35, u36, .pointer (some ⟨b, 0, none⟩), .pointer (some ⟨b, 0, none⟩), .pointer (some ⟨b, 0, none⟩), .slice A l.length cap, .pointer (some ⟨b, 0, none⟩), .pointer (some ⟨b, 0, none⟩), .pointer (some ⟨b, 1, none⟩), .int .i64 (at_ : Int), .pointer (some ⟨b, 0, none⟩), .pointer (some ⟨b, 0, none⟩), .pointer (some ⟨b, 1, none⟩), .int .i64 (at_ : Int), .int .i64 (k : Int), .int .i64 ((at_ + k : Nat) : Int), cv, X, u53, u54, u55, u56, u57, u58, u59, u60, u61, u62], []⟩) (by kernel_rfl) (hQ X V1 SV1 hX)
end Go.Proofs.Ytmapcghgdbfmhaa
