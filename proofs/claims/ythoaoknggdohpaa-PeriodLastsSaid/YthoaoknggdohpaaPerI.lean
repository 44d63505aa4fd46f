/-
  Period: checked params. Conditions: none.
-/
import Derived.Test.YthoaoknggdohpaaPerH
namespace Go.Proofs.Ythoaoknggdohpaa
open Go Go.RowKit Go.Own Go.Shelf

noncomputable def opsGood : Array Oper := opsOf Try.f33 8
theorem err_info : (Try.prog.info? 25).map (fun i => (i.zero, i.size, i.bytes)) = some (some (.int .i64 0), 1, 8) := by kernel_rfl
theorem E_append (l m : List Int) : E (l ++ m) = E l ++ E m := by simp [E]
theorem Row.newE (w : World) (x : Int) : Row (w.alloc (.cells #[.int .i64 x] 25)) 25 1 (.slice (some ⟨w.heap.size, 0, none⟩) 1 1) 1 (E [x]) :=
  ⟨rfl, .inr ⟨_, _, _, rfl, Nat.zero_le _, heap_alloc_new _ _, Nat.le_refl _, by unfold maxLen; omega, rfl, rfl⟩⟩

set_option maxRecDepth 100000 in
set_option maxHeartbeats 4000000 in
theorem good_ok (p : Par) (hp : p.Ok) (v : Value) (l : List Int) (w : World) (hl : l.length ≤ 900) (hv : IntsAt w v l) :
    Calls Try.prog 33 #[p.v, v] w fun e w' => e = .returned (.tuple #[p.v, .int .i64 (p.fine l)]) ∧ Keeps Nob w w' := by
  obtain ⟨i0, hi, hz0, hz1, hz2⟩ := info_parts err_info
  obtain ⟨a0, cap, rfl⟩ := hv.len
  have HV := Lib.hid hv; clear hv
  have CH := fun V => pCheck_ok p hp V
  obtain ⟨er, her⟩ : ∃ c, p.fine l = c := ⟨_, rfl⟩
  rw [her]
  have HER := Lib.hid ((fine_eq p l).symm.trans her); clear her
  obtain ⟨ce, hce⟩ : ∃ c, p.check.1 = c := ⟨_, rfl⟩
  obtain ⟨ci, hci⟩ : ∃ c, p.check.2 = c := ⟨_, rfl⟩
  rw [hce, hci] at CH
  rw [hce] at HER
  clear hci hce
  have hpv : p.v = .agg p.cells := rfl
  rw [hpv] at CH ⊢
  unfold Par.cells at CH ⊢
  have CHH := Lib.hid CH; clear CH hpv
  go_enter Try.func33, Try.ntmps33
  go_wp2_with (go_at_call 32; refine (CHH.out _).mono ?_; rintro e V ⟨rfl, hk⟩)
  obtain ⟨W2, hW2⟩ : ∃ W2, ((w.alloc (.cells #[.int .i64 p.unb, .int .i64 p.mage, .int .i64 p.elen, .int .i64 p.win, .int .i64 p.ent, .int .i64 p.act, .int .i64 p.jail, .int .u64 p.base, .int .u64 p.mult, .int .i64 p.corr, .int .u64 p.rew] 24)).alloc (.cells #[.int .i64 0, .int .i64 0, .int .i64 0, .int .i64 0, .int .i64 0, .int .i64 0, .int .i64 0, .int .u64 0, .int .u64 0, .int .i64 0, .int .u64 0] 40)) = W2 := ⟨_, rfl⟩
  rw [hW2] at hk
  have hb1 : W2.heap[w.heap.size]? = some (.cells #[.int .i64 p.unb, .int .i64 p.mage, .int .i64 p.elen, .int .i64 p.win, .int .i64 p.ent, .int .i64 p.act, .int .i64 p.jail, .int .u64 p.base, .int .u64 p.mult, .int .i64 p.corr, .int .u64 p.rew] 24 (0, 0)) := by
    rw [← hW2]; exact (Below.heap_alloc _ _ _ (by simp)).trans (heap_alloc_new _ _)
  have hb2 : W2.heap[w.heap.size + 1]? = some (.cells #[.int .i64 0, .int .i64 0, .int .i64 0, .int .i64 0, .int .i64 0, .int .i64 0, .int .i64 0, .int .u64 0, .int .u64 0, .int .i64 0, .int .u64 0] 40 (0, 0)) := by
    rw [← hW2]; have := heap_alloc_new (w.alloc (.cells #[.int .i64 p.unb, .int .i64 p.mage, .int .i64 p.elen, .int .i64 p.win, .int .i64 p.ent, .int .i64 p.act, .int .i64 p.jail, .int .u64 p.base, .int .u64 p.mult, .int .i64 p.corr, .int .u64 p.rew] 24)) (.cells #[.int .i64 0, .int .i64 0, .int .i64 0, .int .i64 0, .int .i64 0, .int .i64 0, .int .i64 0, .int .u64 0, .int .u64 0, .int .i64 0, .int .u64 0] 40)
    simpa using this
  have hkw : Keeps Nob w W2 := by rw [← hW2]; exact ((Keeps.refl _ _).alloc _).alloc _
  have hs2 : W2.heap.size = w.heap.size + 2 := by rw [← hW2]; simp
  have HB := Lib.hid (And.intro hb1 hb2)
  clear hW2 hb1 hb2
  have hVs := hk.size
  go_loopw [8, 20] (fun v i wr => ∃ k A c, k ≤ l.length ∧ i = .int .i64 k ∧ v = .slice A (k + 1) c ∧ Hid (Row wr 25 1 (.slice A (k + 1) c) (k + 1) (E (ce :: (l.take k).map errOf))) ∧ Hid (∀ j, (Value.slice A (k + 1) c).ownBlock = some j → V.heap.size ≤ j) ∧ Keeps Nob V wr) (fun _ i _ => l.length - (intOf i).toNat)
  case atStart =>
    exact ⟨0, some ⟨V.heap.size, 0, none⟩, 1, Nat.zero_le _, rfl, rfl, Lib.hid (Row.newE V ce), Lib.hid (fun j hj => by simp [Value.ownBlock] at hj; omega), (Keeps.refl _ _).alloc _⟩
  case round =>
    obtain ⟨k, A, c, hkl, rfl, rfl, HR, HN, hkp⟩ := hrel
    by_cases hlt : k < l.length
    · obtain ⟨x, hx⟩ : ∃ x, l[k]? = some x := ⟨l[k], List.getElem?_eq_getElem hlt⟩
      obtain ⟨bx1, bx2, bl, ol, cl, hvl, hbl, q0⟩ := HV.out.at_ k _ hx
      simp only [Value.slice.injEq, true_and] at hvl
      obtain ⟨rfl, rfl⟩ := hvl
      have p0 := ((hkw.trans (hk.trans hkp)).cell hbl (fun x => x)).trans q0
      have HT : Hid (l.take (k + 1) = l.take k ++ [x]) := Lib.hid (by rw [List.take_add_one, hx]; rfl)
      clear q0 hx
      have hown := HR.out.keeps ((Keeps.refl Nob wr).alloc (.cells #[.int .i64 (errOf x)] 25)) (fun _ _ x => x)
      have hsrc := Src.new wr 1 1 [.int .i64 (errOf x)] 25 rfl (by simp [Value.oneCell']) 1
      have HO := Lib.hid hown
      have HS := Lib.hid hsrc
      clear hown hsrc
      go_wp2_with (first
        | (go_at_call 38; refine (pfine_ok x _).mono ?_; rintro e w' ⟨rfl, rfl⟩)
        | (at_builtin; refine own_append2 rfl _ _ 58 rfl 25 i0 (.int .i64 0) 1 8 Try.underlying58 hi hz0 hz1 hz2 rfl (by decide) (.slice A (k + 1) c) (k + 1) _ rfl HO.out (.slice (some ⟨wr.heap.size, 0, none⟩) 1 1) 1 _ rfl HS.out (by unfold maxLen; omega) (by omega) ?_; intro v' w1 hown' hgrow hnil hat; obtain ⟨g', cap', rfl, hg'⟩ := hown'.spell (by omega); have HW := Lib.hid hown'; have HT2 := Lib.hid hat; have HGr := Lib.hid hgrow; clear hown' hat hgrow hnil))
      go_roundw
      case rel =>
        refine ⟨k + 1, some ⟨g', 0, none⟩, cap', by omega, by go_num, rfl, Lib.hid ?_, Lib.hid (fun j hj => ?_), ?_⟩
        · rw [HT.out, List.map_append, ← List.cons_append, E_append]; exact HW.out
        · rcases HT2.out j hj with h | ⟨h, _⟩
          · exact HN.out j h
          · have := hkp.size; simp at h; omega
        · exact (hkp.alloc _).grown HGr.out (fun j hj hlt => by have := HN.out j hj; omega)
      case measure => simp [intOf]; omega
    · have hd : decide ((k : Int) < (l.length : Int)) = false := by simp; omega
      have hkk : k = l.length := by omega
      have hR := HR.out
      have hn1 : (ce :: (l.take k).map errOf).length = k + 1 := by simp; omega
      rw [← hn1] at hR
      have FO := fun W hW => first_ok _ _ W (hR.keeps (w' := W) hW (fun _ _ x => x)) (by rw [hn1]; omega)
      rw [hn1, show (l.take k) = l by rw [hkk]; exact List.take_of_length_le (Nat.le_refl _), HER.out] at FO
      have FOH := Lib.hid FO
      obtain ⟨hb1, hb2⟩ := HB.out
      have kV2 := hk.trans hkp
      have e1 := (kV2.block w.heap.size (by omega) (fun x => x)).trans hb1
      have e2 := (kV2.block (w.heap.size + 1) (by omega) (fun x => x)).trans hb2
      clear FO hR hn1 hb1 hb2
      go_wp2_with fail
      refine wp_region_noPanic ?_
      refine region_named (R := opsGood) (by kernel_rfl) ?_
      refine wp_regionH_fuel (fun W => W.heap[w.heap.size]? = some (.cells p.cells 24 (0, 0))) 6 #[false, false, false, false, false, false] (by kernel_rfl) (by kernel_rfl) rfl ?_
      refine wpAnyH_val (i := 0) (opsGood.getD 0 default) (.agg p.cells) (by kernel_rfl) (fun _ _ _ _ _ h => h) (by kernel_rfl) (by kernel_rfl) (by kernel_rfl) (by kernel_rfl) (fun W hW => exec_load_row 24 (.tmp 2) (by kernel_rfl) w.heap.size (by kernel_rfl) 24 p.cells (0, 0) _ hW Try.underlying24 rfl (by kernel_rfl)) e1 ?_
      refine wpAnyH_val (i := 1) (opsGood.getD 1 default) (.agg p.cells) (by kernel_rfl) (fun _ _ _ _ _ h => h) (by kernel_rfl) (by kernel_rfl) (by kernel_rfl) (by kernel_rfl) (fun W hW => by kernel_rfl) e1 ?_
      refine wpAnyH_val (i := 2) (opsGood.getD 2 default) (.slice A (k + 1) c) (by kernel_rfl) (fun _ _ _ _ _ h => h) (by kernel_rfl) (by kernel_rfl) (by kernel_rfl) (by kernel_rfl) (fun W hW => by kernel_rfl) e1 ?_
      refine wpAnyH_call (i := 3) (opsGood.getD 3 default) 41 #[.slice A (k + 1) c] (by kernel_rfl) (by kernel_rfl) (by kernel_rfl) (by kernel_rfl) (by kernel_rfl) (enters_of Try.func41 (by kernel_rfl) rfl) ((FOH.out _ ((Keeps.refl _ _).drew)).mono ?_)
      rintro e w' ⟨rfl, rfl⟩
      refine ⟨_, rfl, e1, ?_⟩
      have eS : (wr.drew.setRow (w.heap.size + 1) p.cells).heap[w.heap.size]? = some (.cells p.cells 24 (0, 0)) := (setRow_other wr.drew (w.heap.size + 1) w.heap.size p.cells (by omega)).trans e1
      refine wpAnyH_run (i := 4) (opsGood.getD 4 default) undef (w' := wr.drew.setRow (w.heap.size + 1) p.cells) (by kernel_rfl) (by kernel_rfl) (by kernel_rfl) (.inr ⟨exec_store_row 40 (.tmp 4) (.tmp 31) (by kernel_rfl) (w.heap.size + 1) p.cells (by kernel_rfl) (by kernel_rfl) 40 _ e2 (by kernel_rfl) rfl (by kernel_rfl), rfl⟩) eS ?_
      refine wpAnyH_run (i := 5) (opsGood.getD 5 default) (.int .i64 er) (w' := wr.drew.setRow (w.heap.size + 1) p.cells) (by kernel_rfl) (by kernel_rfl) (by kernel_rfl) (.inl (by kernel_rfl)) eS ?_
      refine wpAnyH_done (by kernel_rfl) ?_ _
      refine NoPanic.normal ?_
      refine state_eq (b := ⟨#[.agg p.cells, .slice a0 l.length cap, .pointer (some ⟨w.heap.size, 0, none⟩), undef, .pointer (some ⟨w.heap.size + 1, 0, none⟩), .int .i64 er, .int .i64 ce, .int .i64 ci, .slice A (k + 1) c, undef, u10,
        .tuple #[.int .i64 ce, .int .i64 ci], .agg p.cells, .tuple #[.int .i64 ce, .int .i64 ci], .int .i64 ce, .int .i64 ci, .int .i64 ce, .slice (some ⟨V.heap.size, 0, none⟩) 1 1, .slice a0 l.length cap, .int .i64 l.length, .int .i64 k, .bool false, u22, u23, u24, u25, u26, u27, u28, u29,
        .agg p.cells, .agg p.cells, .slice A (k + 1) c, .int .i64 er], []⟩) (by kernel_rfl) ?_
      have eR : (wr.drew.setRow (w.heap.size + 1) p.cells).heap[w.heap.size + 1]? = some (.cells p.cells 40 (0, 0)) := setRow_heap _ _ _ _ _ _ e2
      have hfin : Keeps Nob w (wr.drew.setRow (w.heap.size + 1) p.cells) := ((hkw.trans kV2).drew).setRow (fun x => absurd x (by omega)) _
      generalize wr.drew.setRow (w.heap.size + 1) p.cells = WF at *
      have eld := fun (t : TypeId) => run_loadVar_row (P := Try.prog) WF (w.heap.size + 1) 40 40 p.cells (0, 0) _ eR Try.underlying40 rfl (by kernel_rfl)
      go_wp2
      refine bodyPost_ret (v := .tuple #[.agg p.cells, .int .i64 er]) ?_ rfl ⟨rfl, hfin⟩
      simp [results, Try.results33, asAddr, eld 0]
end Go.Proofs.Ythoaoknggdohpaa
