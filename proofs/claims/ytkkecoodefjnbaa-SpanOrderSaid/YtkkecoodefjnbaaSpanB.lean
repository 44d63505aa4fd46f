import Derived.Test.YtkkecoodefjnbaaSpanA
import Derived.Test.YtkkecoodefjnbaaRound
import Derived.Lib.Hide
namespace Go.Proofs.Ytkkecoodefjnbaa
open Go Go.RowKit Go.Own Go.Shelf
attribute [local go_sem] Oper.semAt_some

/-- The epochs of a window. -/
def epochs (lo E : Int) : List Int := (List.range (E + 1 - lo).toNat).map (fun (j : Nat) => lo + (j : Int))
theorem epochs_get (lo E : Int) (k : Nat) (h : lo + (k : Int) ≤ E) : (epochs lo E)[k]? = some (lo + (k : Int)) := by
  have : k < (E + 1 - lo).toNat := by omega
  simp [epochs, this]
theorem epochs_len (lo E : Int) : (epochs lo E).length = (E + 1 - lo).toNat := by simp [epochs]
theorem epochs_mem (lo E : Int) (k : Nat) (x : Int) (h : (epochs lo E)[k]? = some x) : x = lo + (k : Int) ∧ x ≤ E := by
  obtain ⟨hk, he⟩ := List.getElem?_eq_some_iff.1 h
  rw [epochs_len] at hk
  simp [epochs] at he
  omega
/-- What the iterator reads. -/
def AllS (Bn b : Nat) (W E : Int) (_ : Nat) (w : World) : Prop :=
  w.cell? ⟨Bn, 0, none⟩ = some (.pointer (some ⟨b, 0, none⟩)) ∧ w.cell? ⟨b, 0, none⟩ = some (.int .i64 W) ∧ w.cell? ⟨b, 1, none⟩ = some (.int .i64 E)

set_option maxHeartbeats 1000000 in
theorem all1_seq (n : Nat) (hn : 1 ≤ n) (Bn b : Nat) (W E : Int) (hW : (W == 0) = false) (w0 : 1 ≤ W) (w1 : W ≤ 256) (e0 : 0 ≤ E) (e1 : E ≤ 4294967296) :
    SeqOwn Fence.wide n Try.prog 38 #[.pointer (some ⟨Bn, 0, none⟩)] (fun x : Int => #[.int .i64 x]) (epochs (max 0 (E - W + 1)) E) Nob (AllS Bn b W E) := by
  intro l J Jx W0 hJ hJx hY h0 hS0
  have HY := Lib.hid hY; clear hY
  refine callsIn_of_wp Try.func38 rfl trivial ?_ rfl
  simp only [Try.ntmps38, List.size_toArray, List.length_cons, List.length_nil, Nat.reduceAdd, Nat.reduceSub, Array.replicate_succ, Array.replicate_zero, List.push_toArray, List.append_toArray, List.nil_append, List.cons_append]
  obtain ⟨hb, hw, he⟩ := hS0
  gi_wp2_with (refine ⟨trivial, ?_⟩; gi_at_call 13; refine (callsIn_wide.2 (span_low b W E _ hw he hW w0 w1 e0 e1)).mono ?_; rintro e w' ⟨rfl, rfl⟩)
  gi_loopw [3] (fun e wr => ∃ k : Nat, (k : Int) ≤ E + 1 - max 0 (E - W + 1) ∧ e = .int .i64 (max 0 (E - W + 1) + k) ∧ J k wr ∧ AllS Bn b W E k wr) (fun e _ => (E + 1 - intOf e).toNat)
  case atStart => exact ⟨0, by omega, by simp, hJ _ _ _ h0 (Keeps.refl _ _).drew, hb, hw, he⟩
  case round =>
    obtain ⟨k, hk, rfl, hj, hs⟩ := hrel
    obtain ⟨hb', hw', he'⟩ := hs
    have hlo : 0 ≤ max 0 (E - W + 1) := by omega
    by_cases hlt : max 0 (E - W + 1) + (k : Int) ≤ E
    · obtain ⟨fn, tmps, assign, body, hy, hR⟩ := HY.out k (max 0 (E - W + 1) + k) wr (epochs_get _ _ _ hlt) hj ⟨hb', hw', he'⟩
      gi_wp2
      refine hR.mono ?_
      rintro e W3 (⟨rfl, hj3, hb3, hw3, he3⟩ | ⟨rfl, hx3⟩)
      · gi_wp2
        go_roundw
        case rel => exact ⟨k + 1, by omega, by go_num, hj3, hb3, hw3, he3⟩
        case measure => simp [intOf]; omega
      · gi_wp2
        refine bodyPost_ret (results_none rfl _ _ _) rfl ?_
        exact ⟨⟨_, rfl⟩, .inr hx3⟩
    · gi_wp2
      go_end0
      refine ⟨⟨_, rfl⟩, .inl ?_⟩
      rw [epochs_len]
      have : k = (E + 1 - max 0 (E - W + 1)).toNat := by omega
      rw [← this]; exact hj

set_option maxHeartbeats 1000000 in
theorem span_all (b : Nat) (w : World) :
    Calls Try.prog 32 #[.pointer (some ⟨b, 0, none⟩)] w fun e w' => e = .returned (.func (.func 38) #[] #[.pointer (some ⟨w.heap.size, 0, none⟩)]) ∧ w.alloc (.cells #[.pointer (some ⟨b, 0, none⟩)] 22) = w' := by
  have hmf : ∀ (fn : Fn) (first cap : Array Value) (w : World), (Instr.makeFunc fn first cap).run Try.prog w = .ok (.func fn first cap) w := fun _ _ _ _ => rfl
  go_enter Try.func32, Try.ntmps32
  go_wp2
  go_ret
  exact ⟨rfl, rfl⟩


set_option maxHeartbeats 1000000 in
theorem span_has_out (b : Nat) (W E e : Int) (w : World) (h : w.cell? ⟨b, 0, none⟩ = some (.int .i64 W)) (h1 : w.cell? ⟨b, 1, none⟩ = some (.int .i64 E)) (hW : (W == 0) = false)
   (w0 : 1 ≤ W) (w1 : W ≤ 256) (e0 : 0 ≤ E) (e1 : E ≤ 4294967296) (hout : e < max 0 (E - W + 1) ∨ ¬ e < max 0 (E - W + 1) ∧ E < e) :
    Calls Try.prog 36 #[.pointer (some ⟨b, 0, none⟩), .int .i64 e] w fun v w' => v = .returned (.bool false) ∧ Keeps Nob w w' := by
  have hb : b < w.heap.size := World.block_lt_of_cell? w _ h
  rcases hout with hlt | ⟨hge, hgt⟩
  all_goals
    go_enter Try.func36, Try.ntmps36
    go_wp2_with fail
    have hk := ((Keeps.refl Nob w).alloc (.cells #[.int .i64 e] 3)).alloc (.cells #[.bool false] 4)
    have g0 := (hk.cell (i := 0) hb (fun x => x)).trans h
    have g1 := (hk.cell (i := 1) hb (fun x => x)).trans h1
    have g3 : ((w.alloc (.cells #[.int .i64 e] 3)).alloc (.cells #[.bool false] 4)).cell? ⟨w.heap.size, 0, none⟩ = some (.int .i64 e) := by simp [go_sem]
    have g4 : ((w.alloc (.cells #[.int .i64 e] 3)).alloc (.cells #[.bool false] 4)).cell? ⟨w.heap.size + 1, 0, none⟩ = some (.bool false) := by simp [go_sem]
    have f4 : ((w.alloc (.cells #[.int .i64 e] 3)).alloc (.cells #[.bool false] 4)).frozen? ⟨w.heap.size + 1, 0, none⟩ = false := by simp [go_sem]
    have hs : w.heap.size + 2 ≤ ((w.alloc (.cells #[.int .i64 e] 3)).alloc (.cells #[.bool false] 4)).heap.size := by simp
    generalize (w.alloc (.cells #[.int .i64 e] 3)).alloc (.cells #[.bool false] 4) = W1 at *
    go_quiet (first | (go_at_call 31; exact Calls.quiet_eq (span_none b W _ g0 hW)) | (go_at_call 13; exact Calls.quiet_drew (span_low b W E _ g0 g1 hW w0 w1 e0 e1)))
    go_wp2
    refine bodyPost_ret (v := .bool false) ?_ rfl ⟨rfl, (hk.setCell_new (p := ⟨w.heap.size + 1, 0, none⟩) (by simp) _).drewN _⟩
    simp [results, Try.results36, go_sem, g4]

set_option maxHeartbeats 1000000 in
theorem span_has_in (b : Nat) (W E e : Int) (w : World) (h : w.cell? ⟨b, 0, none⟩ = some (.int .i64 W)) (h1 : w.cell? ⟨b, 1, none⟩ = some (.int .i64 E)) (hW : (W == 0) = false)
   (w0 : 1 ≤ W) (w1 : W ≤ 256) (e0 : 0 ≤ E) (e1 : E ≤ 4294967296) (hge : ¬ e < max 0 (E - W + 1)) (hle : ¬ E < e) :
    Calls Try.prog 36 #[.pointer (some ⟨b, 0, none⟩), .int .i64 e] w fun v w' => v = .returned (.bool true) ∧ Keeps Nob w w' := by
  have hb : b < w.heap.size := World.block_lt_of_cell? w _ h
  refine calls_marks 3 Try.func36 rfl ?_
  simp only [Try.ntmps36, List.size_toArray, List.length_cons, List.length_nil, Nat.reduceAdd, Nat.reduceSub, Array.replicate_succ, Array.replicate_zero, List.push_toArray, List.append_toArray, List.nil_append, List.cons_append]
  go_wp2_with fail
  have hk := ((Keeps.refl Nob w).alloc (.cells #[.int .i64 e] 3)).alloc (.cells #[.bool false] 4)
  have g0 := (hk.cell (i := 0) hb (fun x => x)).trans h
  have g1 := (hk.cell (i := 1) hb (fun x => x)).trans h1
  have g3 : ((w.alloc (.cells #[.int .i64 e] 3)).alloc (.cells #[.bool false] 4)).cell? ⟨w.heap.size, 0, none⟩ = some (.int .i64 e) := by simp [go_sem]
  have g4 : ((w.alloc (.cells #[.int .i64 e] 3)).alloc (.cells #[.bool false] 4)).cell? ⟨w.heap.size + 1, 0, none⟩ = some (.bool false) := by simp [go_sem]
  have f4 : ((w.alloc (.cells #[.int .i64 e] 3)).alloc (.cells #[.bool false] 4)).frozen? ⟨w.heap.size + 1, 0, none⟩ = false := by simp [go_sem]
  have hs : w.heap.size + 2 ≤ ((w.alloc (.cells #[.int .i64 e] 3)).alloc (.cells #[.bool false] 4)).heap.size := by simp
  generalize (w.alloc (.cells #[.int .i64 e] 3)).alloc (.cells #[.bool false] 4) = W1 at *
  go_quiet (first | (go_at_call 31; exact Calls.quiet_eq (span_none b W _ g0 hW)) | (go_at_call 13; exact Calls.quiet_drew (span_low b W E _ g0 g1 hW w0 w1 e0 e1)))
  go_wp2_with (go_at_call 32; refine (span_all b _).mono ?_; rintro e w' ⟨rfl, rfl⟩)
  have hk2 : Keeps Nob w ((W1.drewN nq).alloc (.cells #[.pointer (some ⟨b, 0, none⟩)] 22)) := (hk.drewN _).alloc _
  have k0 := (hk2.cell (i := 0) hb (fun x => x)).trans h
  have k1 := (hk2.cell (i := 1) hb (fun x => x)).trans h1
  have k5 : ((W1.drewN nq).alloc (.cells #[.pointer (some ⟨b, 0, none⟩)] 22)).cell? ⟨W1.heap.size, 0, none⟩ = some (.pointer (some ⟨b, 0, none⟩)) := (World.cell?_alloc_at _ _ _ _ rfl).trans rfl
  have hk3 : Keeps Nob W1 ((W1.drewN nq).alloc (.cells #[.pointer (some ⟨b, 0, none⟩)] 22)) := ((Keeps.refl _ _).drewN _).alloc _
  have k3 := (hk3.cell (k := w.heap.size) (i := 0) (by omega) (fun x => x)).trans g3
  have k4 := (hk3.cell (k := w.heap.size + 1) (i := 0) (by omega) (fun x => x)).trans g4
  have kf := (hk3.frozen (k := w.heap.size + 1) (i := 0) (by omega) (fun x => x)).trans f4
  have ks : W1.heap.size + 1 ≤ ((W1.drewN nq).alloc (.cells #[.pointer (some ⟨b, 0, none⟩)] 22)).heap.size := by simp
  have hB : W1.heap.size ≠ w.heap.size ∧ W1.heap.size ≠ w.heap.size + 1 ∧ b ≠ w.heap.size ∧ b ≠ w.heap.size + 1 := by omega
  generalize (W1.drewN nq).alloc (.cells #[.pointer (some ⟨b, 0, none⟩)] 22) = W2 at *
  refine wp_range1 3 (gf := 38) (lb := #[.pointer (some ⟨W1.heap.size, 0, none⟩)]) rfl (enters_of Try.func38 (by kernel_rfl) rfl) (encs := fun x : Int => #[.int .i64 x]) (fun _ => rfl)
    (Mi := Nob) (fun _ x => x.elim) (all1_seq 5 (by omega) W1.heap.size b W E hW w0 w1 e0 e1)
    (fun k A B ⟨a1, a2, a3⟩ t => ⟨t.cell a1 (fun x => x), t.cell a2 (fun x => x), t.cell a3 (fun x => x)⟩) ⟨k5, k0, k1⟩
    (fun k V => (k : Int) ≤ e - max 0 (E - W + 1) ∧ Keeps Nob w V ∧ V.cell? ⟨w.heap.size, 0, none⟩ = some (.int .i64 e) ∧ V.cell? ⟨w.heap.size + 1, 0, none⟩ = some (.bool false) ∧ V.frozen? ⟨w.heap.size + 1, 0, none⟩ = false)
    (fun c V => c = .ret ∧ Keeps Nob w V ∧ V.cell? ⟨w.heap.size + 1, 0, none⟩ = some (.bool true))
    ?hI ?hIx ⟨by omega, hk2, k3, k4, kf⟩ ?f ?assign ?body ?done ?stop
  case assign =>
    intro l k x V K hx hi hs hK
    gi_wp2
    exact hK
  case hI =>
    rintro k A B ⟨a1, a2, a3, a4, a5⟩ t
    exact ⟨a1, t.keeps a2 (by omega), t.cell a3 (fun x => x), t.cell a4 (fun x => x), (t.frozen a4 (fun x => x)).trans a5⟩
  case hIx =>
    rintro c A B ⟨a1, a2, a3⟩ t
    exact ⟨a1, t.keeps a2 (by omega), t.cell a3 (fun x => x)⟩
  case body =>
    rintro l k x V hl hr hx ⟨a1, a2, a3, a4, a5⟩ ⟨s1, s2, s3⟩
    have hxk := epochs_mem _ _ _ _ hx
    have HX := Lib.hid hxk; clear hxk
    gi_wp2
    · exact ⟨(KeepsOthers.setCell _ _ _).from _, rfl, a2.setCell_new (p := ⟨w.heap.size + 1, 0, none⟩) (by simp) _, World.cell?_setCell_same _ _ _ a4⟩
    · have hne : (x == e) = false := by assumption
      have hxk := HX.out
      refine ⟨KeepsFrom.refl _ _, ⟨?_, a2, a3, a4, a5⟩, s1, s2, s3⟩
      simp at hne
      omega
  case done =>
    rintro D V hD ⟨a1, _⟩ _
    exact absurd a1 (by rw [epochs_len]; omega)
  case stop =>
    rintro D c V hD ⟨rfl, a2, a3⟩ hK
    go_wp2
    have ht : Turn W2.heap.size Nob V (V.putObj D (.deferred none)) := Turn.put _ _ _ _ hD hK rfl
    have hc := ht.cell a3 (fun x => x)
    refine marks_ret hK (v := .bool true) ?_ ⟨rfl, ht.keeps a2 (by omega)⟩
    simp [results, Try.results36, go_sem, hc]
end Go.Proofs.Ytkkecoodefjnbaa
