/-
  Codec: what collects an iterator's bytes; Put, Size. Conditions: none.
-/
import Derived.Test.YtpflmldmbpnllaaDoorCodB
import Derived.OneCell
namespace Go.Proofs.YtpflmldmbpnllaaDoor
open Go Go.RowKit Go.Own Go.Shelf
attribute [local go_sem] Oper.semAt_some

theorem u8_info : (Tryd.prog.info? 5).map (fun i => (i.zero, i.size, i.bytes)) = some (some (.int .u8 0), 1, 1) := by kernel_rfl

/-- What is collected so far lies in a variable. -/
structure Coll (w0 : World) (Bn b : Nat) (xs : List UInt8) (k : Nat) (V : World) : Prop where
  ex : ∃ v, V.heap[b]? = some (.cells #[v] 39 (0, 0)) ∧ Row V 5 1 v k (B (xs.take k)) ∧ (∀ j, v.ownBlock = some j → w0.heap.size ≤ j) ∧ (v = .slice none 0 0 ↔ k = 0)
  keeps : Keeps (One Bn) w0 V

set_option maxRecDepth 100000 in
set_option maxHeartbeats 2000000 in
theorem appendSeq_ok (Bn : Nat) (x : Nat) (hx : x < 2 ^ 64) (w : World) (hc : w.cell? ⟨Bn, 0, none⟩ = some (.int .u64 (x : Int))) (hf : w.frozen? ⟨Bn, 0, none⟩ = false) :
    Calls Tryd.prog 91 #[.slice none 0 0, .func (.func 92) #[] #[.pointer (some ⟨Bn, 0, none⟩)]] w fun e w' => ∃ v, e = .returned v ∧ Row w' 5 1 v (Cod.enc x).length (B (Cod.enc x)) ∧ (∀ j, v.ownBlock = some j → w.heap.size ≤ j) ∧ v ≠ .slice none 0 0 ∧ Keeps (One Bn) w w' := by
  obtain ⟨i0, hi, hz0, hz1, hz2⟩ := info_parts u8_info
  have hBn : Bn < w.heap.size := World.block_lt_of_cell? w _ hc
  have HX := Lib.hid hx
  refine calls_marks 3 Tryd.func91 rfl ?_
  simp only [Tryd.ntmps91, List.size_toArray, List.length_cons, List.length_nil, Nat.reduceAdd, Nat.reduceSub, Array.replicate_succ, Array.replicate_zero, List.push_toArray, List.append_toArray, List.nil_append, List.cons_append]
  go_wp2_with fail
  have hk : Keeps (One Bn) w (w.alloc (.cells #[.slice none 0 0] 39)) := (Keeps.refl _ _).alloc _
  have hb : (w.alloc (.cells #[.slice none 0 0] 39)).heap[w.heap.size]? = some (.cells #[.slice none 0 0] 39 (0, 0)) := World.alloc_heap_new _ _
  have g0 : (w.alloc (.cells #[.slice none 0 0] 39)).cell? ⟨Bn, 0, none⟩ = some (.int .u64 (x : Int)) := by
    rw [World.cell?_alloc_lt _ _ _ hBn]; exact hc
  have f0 : (w.alloc (.cells #[.slice none 0 0] 39)).frozen? ⟨Bn, 0, none⟩ = false := by
    refine (World.frozen?_of_block (w := w) ?_).trans hf
    exact Below.heap_alloc _ _ _ hBn
  have hs : (w.alloc (.cells #[.slice none 0 0] 39)).heap.size = w.heap.size + 1 := by simp
  clear hc hf hx
  generalize w.alloc (.cells #[.slice none 0 0] 39) = W1 at *
  refine wp_range1 3 (gf := 92) (lb := #[.pointer (some ⟨Bn, 0, none⟩)]) rfl (enters_of Tryd.func92 (by kernel_rfl) rfl) (encs := fun x : UInt8 => #[.int .u8 (x.toNat : Int)]) (fun _ => rfl)
    (Mi := One Bn) (fun j hj => by have : j = Bn := hj; omega) (digits_seq 5 (by omega) Bn x HX.out) ?hS ?hS0
    (fun k V => k ≤ (Cod.enc x).length ∧ Coll w Bn w.heap.size (Cod.enc x) k V) (fun _ _ => False) ?hI (fun _ _ _ h => h.elim) ?h0 ?f ?assign ?body ?done ?stop
  case hS0 => exact ⟨[], x, by simp, rfl, rfl, by omega, by simpa using HX.out, g0, f0⟩
  case hS =>
    rintro k A V ⟨pre, m, a1, a2, a3, a4, a5, a6, a7⟩ t
    exact ⟨pre, m, a1, a2, a3, a4, a5, t.cell a6 (fun x => x), (t.frozen a6 (fun x => x)).trans a7⟩
  case h0 => exact ⟨Nat.zero_le _, ⟨⟨.slice none 0 0, hb, ⟨rfl, .inl ⟨rfl, rfl⟩⟩, (fun j hj => by cases hj), ⟨fun _ => rfl, fun _ => rfl⟩⟩, hk⟩⟩
  case hI =>
    rintro k A V ⟨hk, ⟨v, h1, h2, h3, h4⟩, h5⟩ t
    refine ⟨hk, ⟨v, ?_, ?_, h3, h4⟩, t.keeps h5 (by omega)⟩
    · exact t.same _ _ h1 (fun (h : w.heap.size = Bn) => by omega) (.inr rfl)
    · refine h2.heap fun j hj => ?_
      obtain ⟨cs, hcs⟩ := h2.elem hj
      rw [hcs]
      exact t.same _ _ hcs (fun (h : j = Bn) => by have := h3 j hj; omega) (.inr rfl)
  case assign =>
    intro l k y V K hx hi hs hK
    gi_wp2
    exact hK
  case body =>
    rintro l k y V hl hr hx ⟨hkl, ⟨v, h1, h2, h3, h4⟩, h5⟩ hs
    have hlt : k < (Cod.enc x).length := (List.getElem?_eq_some_iff.1 hx).1
    have hlen := Cod.enc_length x
    have hne := h2.ne h1 (by decide)
    have c1 := cell_of_one h1
    have f1 := free_of_one h1
    have hbl := lt_of_block h1
    have htake : (Cod.enc x).take (k + 1) = (Cod.enc x).take k ++ [y] := by
      rw [List.take_add_one, hx]; rfl
    have HT := Lib.hid htake
    have H4 := Lib.hid h4
    have HX := Lib.hid hx
    have HS := Lib.hid hs
    clear htake h4 hx hs
    have hown := h2.keeps ((Keeps.refl Nob V).alloc (.cells #[.int .u8 (y.toNat : Int)] 5)) (fun _ _ x => x)
    have hsrc := Src.new V 1 1 [.int .u8 (y.toNat : Int)] 5 rfl (by simp [Value.oneCell']) 1
    gi_wp2_with (gi_at_builtin; refine own_append2_in rfl _ _ 39 rfl 5 i0 (.int .u8 0) 1 1 Tryd.underlying39 hi hz0 hz1 hz2 rfl (by decide) v k _ rfl hown _ 1 _ rfl hsrc (by unfold maxLen; omega) (by omega) ?_; intro v' w1 hown' hgrow hnil hat; obtain ⟨g', cap', rfl, hg'⟩ := hown'.spell (by omega); have hb1 : w1.heap[w.heap.size]? = some (.cells #[v] 39 (0, 0)) := (hgrow.block _ (by simp; omega) (fun e => hne e.symm)).trans ((Below.heap_alloc _ _ _ hbl).trans h1); have c2 := cell_of_one hb1; have f2 := free_of_one hb1)
    have hkA : KeepsOthers V (V.alloc (.cells #[.int .u8 (y.toNat : Int)] 5)) := KeepsOthers.alloc _ _
    have hkB := hkA.trans ((hown.others hgrow).trans (KeepsOthers.setCell w1 ⟨w.heap.size, 0, none⟩ (.slice (some ⟨g', 0, none⟩) (k + 1) cap')))
    have hKp : Keeps (fun j => v.ownBlock = some j) V w1 := ((Keeps.refl _ _).alloc _).grown hgrow (fun j hj _ => hj)
    have hgne : g' ≠ w.heap.size := fun e => hown'.ne hb1 (by decide) (by rw [e]; rfl)
    have hKw : Keeps (One Bn) w w1 := h5.then hKp (fun i hi hm => by have := h3 i hm; omega)
    obtain ⟨pre, m, b1, b2, b3, b4, b5, b6, b7⟩ := HS.out
    have hvB : v.ownBlock ≠ some Bn := fun e => by have := h3 _ e; omega
    have hBV : Bn < V.heap.size := World.block_lt_of_cell? V _ b6
    have e6 := (hKp.cell (i := 0) hBV hvB).trans b6
    have e7 := (hKp.frozen (i := 0) hBV hvB).trans b7
    refine ⟨hkB.from _, ⟨hlt, ⟨⟨_, one_setCell hb1, ?_, ?_, ⟨(fun h => by cases h), (fun h => by omega)⟩⟩, hKw.setCell_new (p := ⟨w.heap.size, 0, none⟩) (Nat.le_refl _) _⟩⟩, pre, m, b1, b2, b3, b4, b5, ?_, ?_⟩
    · rw [HT.out, B_append]
      exact ownsRow_setCell_other hown' (by simp [Value.ownBlock]; exact hgne) _
    · intro j hj
      rcases hat j hj with h | ⟨h, _⟩
      · exact h3 j h
      · simp at h; omega
    · rw [World.cell?_setCell_other _ _ _ _ (fun e => by simp at e <;> omega)]; exact e6
    · simpa using e7
  case done =>
    rintro D V hD ⟨_, ⟨v, h1, h2, h3, h4⟩, h5⟩ hK
    rw [List.take_of_length_le (Nat.le_refl _)] at h2
    have hpos := Cod.enc_pos x
    obtain ⟨g, cap, rfl, hg⟩ := h2.spell hpos
    have c1 := cell_of_one h1
    have H2 := Lib.hid h2
    clear h2 h4
    go_wp2
    refine marks_ret hK (v := .slice (some ⟨g, 0, none⟩) (Cod.enc x).length cap) (by simp [results, Tryd.results91, go_sem]) ?_
    have ht : Turn W1.heap.size Nob V (V.putObj D (.deferred none)) := Turn.put _ _ _ _ hD hK rfl
    refine ⟨_, rfl, H2.out.heap fun j hj => ?_, h3, by simp, ht.keepsN h5 (by omega)⟩
    obtain ⟨cs, hcs⟩ := H2.out.elem hj
    rw [hcs]
    exact ht.same _ _ hcs (fun h => h) (.inr rfl)
  case stop =>
    rintro D c V hD hx hK
    exact hx.elim

set_option maxHeartbeats 1000000 in
theorem collect_ok (Bn : Nat) (x : Nat) (hx : x < 2 ^ 64) (w : World) (hc : w.cell? ⟨Bn, 0, none⟩ = some (.int .u64 (x : Int))) (hf : w.frozen? ⟨Bn, 0, none⟩ = false) :
    Calls Tryd.prog 69 #[.func (.func 92) #[] #[.pointer (some ⟨Bn, 0, none⟩)]] w fun e w' => ∃ v, e = .returned v ∧ Row w' 5 1 v (Cod.enc x).length (B (Cod.enc x)) ∧ (∀ j, v.ownBlock = some j → w.heap.size ≤ j) ∧ v ≠ .slice none 0 0 ∧ Keeps (One Bn) w w' := by
  have HA := Lib.hid (appendSeq_ok Bn x hx w hc hf)
  clear hx hc hf
  go_enter Tryd.func69, Tryd.ntmps69
  go_wp2_with (go_at_call 91; refine HA.out.mono ?_; rintro e w' ⟨v, rfl, h1, h2, h3, h4⟩; have H1 := Lib.hid h1; have H2 := Lib.hid h2; have H3 := Lib.hid h3; clear h1 h2 h3)
  go_ret
  exact ⟨_, rfl, H1.out, H2.out, H3.out, h4⟩

set_option maxHeartbeats 1000000 in
/-- The bytes of a number, in new memory. -/
theorem cPut_ok (x : Nat) (hx : x < 2 ^ 64) (w : World) :
    Calls Tryd.prog 47 #[.int .u64 (x : Int)] w fun e w' => ∃ v, e = .returned v ∧ Row w' 5 1 v (Cod.enc x).length (B (Cod.enc x)) ∧ (∀ j, v.ownBlock = some j → w.heap.size ≤ j) ∧ v ≠ .slice none 0 0 ∧ Keeps Nob w w' := by
  have HX := Lib.hid hx
  have c1 : (w.alloc (.cells #[.int .u64 (x : Int)] 22)).cell? ⟨w.heap.size, 0, none⟩ = some (.int .u64 (x : Int)) := (World.cell?_alloc_at _ _ _ _ rfl).trans rfl
  have f1 : (w.alloc (.cells #[.int .u64 (x : Int)] 22)).frozen? ⟨w.heap.size, 0, none⟩ = false := by simp [go_sem]
  have HA := Lib.hid (collect_ok w.heap.size x hx _ c1 f1)
  clear hx c1 f1
  go_enter Tryd.func47, Tryd.ntmps47
  go_wp2_with (first
    | (go_at_call 70; refine (digits_ok _ _).mono ?_; rintro e w' ⟨rfl, rfl⟩)
    | (go_at_call 69; refine HA.out.mono ?_; rintro e w' ⟨v, rfl, h1, h2, h3, h4⟩; have H1 := Lib.hid h1; have H2 := Lib.hid h2; have H3 := Lib.hid h3; clear h1 h2 h3))
  go_ret
  refine ⟨_, rfl, H1.out, fun j hj => ?_, H3.out, ((Keeps.refl Nob w).alloc _).then h4 (fun i hi (e : i = w.heap.size) => by omega)⟩
  have := H2.out j hj
  simp at this; omega

end Go.Proofs.YtpflmldmbpnllaaDoor
