import Derived.Test.YthmclmbeflbhhaaGreatDetectActsP3
set_option maxRecDepth 100000
set_option maxHeartbeats 4000000
noncomputable section
open Go.Proofs.Tryz
namespace Go.Proofs.YthmclmbeflbhhaaGreat
section
open Go Go.RowKit Go.Own Go.Shelf
attribute [local go_sem] Oper.semAt_some
theorem u8_info : (prog.info? 5).map (fun i => (i.zero, i.size, i.bytes)) = some (some (.int .u8 0), 1, 1) := by kernel_rfl
structure Coll (w0 : World) (Bn b : Nat) (xs : List UInt8) (k : Nat) (V : World) : Prop where
 ex : ∃ v, HP V b #[v] 214 ∧ Row V 5 1 v k (B (xs.take k)) ∧ (∀ j, v.ownBlock = some j → w0.heap.size ≤ j) ∧ (v = .slice none 0 0 ↔ k = 0)
 keeps : Keeps (One Bn) w0 V
theorem appendSeq_ok (Bn : Nat) (x : Nat) (hx : x < 2 ^ 64) (w : World) (hc : w.cell? ⟨Bn, 0, none⟩ = some (.int .u64 (x : Int))) (hf : w.frozen? ⟨Bn, 0, none⟩ = false) :
  Calls prog 198 #[.slice none 0 0, .func (.func 199) #[] #[pT Bn 0]] w fun e w' => ∃ v, e = .returned v ∧ Row w' 5 1 v (Cod.enc x).length (B (Cod.enc x)) ∧ (∀ j, v.ownBlock = some j → w.heap.size ≤ j) ∧ v ≠ .slice none 0 0 ∧ Keeps (One Bn) w w' := by
 obtain ⟨i0, hi, hz0, hz1, hz2⟩ := info_parts u8_info
 have hBn : Bn < w.heap.size := World.block_lt_of_cell? w _ hc
 have HX := Lib.hid hx
 refine calls_marks 3 func198 rfl ?_
 simp only [ntmps198, List.size_toArray, List.length_cons, List.length_nil, Nat.reduceAdd, Nat.reduceSub, Array.replicate_succ, Array.replicate_zero, List.push_toArray, List.append_toArray, List.nil_append, List.cons_append]
 go_wp2_with fail
 have hk : Keeps (One Bn) w (w.alloc (.cells #[.slice none 0 0] 214)) := (Keeps.refl _ _).alloc _
 have hb : (w.alloc (.cells #[.slice none 0 0] 214)).heap[w.heap.size]? = some (.cells #[.slice none 0 0] 214 (0, 0)) := World.alloc_heap_new _ _
 have g0 : (w.alloc (.cells #[.slice none 0 0] 214)).cell? ⟨Bn, 0, none⟩ = some (.int .u64 (x : Int)) := by
  rw [World.cell?_alloc_lt _ _ _ hBn]; exact hc
 have f0 : (w.alloc (.cells #[.slice none 0 0] 214)).frozen? ⟨Bn, 0, none⟩ = false := by
  refine (World.frozen?_of_block (w := w) ?_).trans hf
  exact Below.heap_alloc _ _ _ hBn
 have hs : (w.alloc (.cells #[.slice none 0 0] 214)).heap.size = w.heap.size + 1 := by simp
 clear hc hf hx
 generalize w.alloc (.cells #[.slice none 0 0] 214) = W1 at *
 refine wp_range1 3 (gf := 199) (lb := #[pT Bn 0]) rfl (enters_of func199 (by kernel_rfl) rfl) (encs := fun x : UInt8 => #[.int .u8 (x.toNat : Int)]) (fun _ => rfl)
  (Mi := One Bn) (fun j hj => by have : j = Bn := hj; omega) (digits_seq 5 (by omega) Bn x HX.out) ?hS ?hS0
  (fun k V => k ≤ (Cod.enc x).length ∧ Coll w Bn w.heap.size (Cod.enc x) k V) (fun _ _ => False) ?hI (fun _ _ _ h => h.elim) ?h0 ?f ?assign ?body ?done ?stop
 case hS0 => exact ⟨[], x, by simp, rfl, rfl, by omega, by simpa using HX.out, g0, f0⟩
 case hS =>
  rintro k A V ⟨pre, m, a1, a2, a3, a4, a5, a6, a7⟩ t
  exact ⟨pre, m, a1, a2, a3, a4, a5, t.cell a6 (fun x => x), (t.frozen a6 (fun x => x)).trans a7⟩
 case h0 => exact ⟨Nat.zero_le _, ⟨⟨.slice none 0 0, hb, ⟨rfl, .inl ⟨rfl, rfl⟩⟩, (fun j hj => by cases hj), ⟨fun _ => rfl, fun _ => rfl⟩⟩, hk⟩⟩
 case hI =>
  rintro k A V ⟨hk, ⟨v, h1, h2, h3, h4⟩, h5⟩ t
  refine ⟨hk, ⟨v, ?_, ?_, h3, h4⟩, t.keeps h5 (by omega)⟩
  ·exact t.same _ _ h1 (fun (h : w.heap.size = Bn) => by omega) (.inr rfl)
  ·refine h2.heap fun j hj => ?_
   obtain ⟨cs, hcs⟩ := h2.elem hj
   rw [hcs]
   exact t.same _ _ hcs (fun (h : j = Bn) => by have := h3 j hj; omega) (.inr rfl)
 case assign =>
  intro l k y V K hx hi hs hK
  gi_wp2
  exact hK
 case body =>
  rintro l k y V hl hr hx ⟨hkl, ⟨v, h1, h2, h3, h4⟩, h5⟩ hs
  have hlt : k < (Cod.enc x).length := (List.getElem?_eq_some_iff.1 hx).1
  have hlen := Cod.enc_length x
  have hne := h2.ne h1 (by decide)
  have c1 := cell_of_one h1
  have f1 := free_of_one h1
  have hbl := lt_of_block h1
  have htake : (Cod.enc x).take (k + 1) = (Cod.enc x).take k ++ [y] := by
   rw [List.take_add_one, hx]; rfl
  have HT := Lib.hid htake
  have H4 := Lib.hid h4
  have HX := Lib.hid hx
  have HS := Lib.hid hs
  clear htake h4 hx hs
  have hown := h2.keeps ((Keeps.refl Nob V).alloc (.cells #[.int .u8 (y.toNat : Int)] 5)) (fun _ _ x => x)
  have hsrc := SrcO.new V 1 1 [.int .u8 (y.toNat : Int)] 5 rfl (by simp [Value.oneCell']) 1
  gi_wp2_with (gi_at_builtin; refine own_append2_in rfl _ _ 214 rfl 5 i0 (.int .u8 0) 1 1 underlying214 hi hz0 hz1 hz2 rfl (by decide) v k _ rfl hown _ 1 _ rfl hsrc (by unfold maxLen; omega) (by omega) ?_; intro v' w1 hown' hgrow hnil hat; obtain ⟨g', cap', rfl, hg'⟩ := hown'.spell (by omega); have hb1 : HP w1 w.heap.size #[v] 214 := (hgrow.block _ (by simp; omega) (fun e => hne e.symm)).trans ((Below.heap_alloc _ _ _ hbl).trans h1); have c2 := cell_of_one hb1; have f2 := free_of_one hb1)
  have hkA : KeepsOthers V (V.alloc (.cells #[.int .u8 (y.toNat : Int)] 5)) := KeepsOthers.alloc _ _
  have hkB := hkA.trans ((hown.others hgrow).trans (KeepsOthers.setCell w1 ⟨w.heap.size, 0, none⟩ (sS g' (k + 1) cap')))
  have hKp : Keeps (fun j => v.ownBlock = some j) V w1 := ((Keeps.refl _ _).alloc _).grown hgrow (fun j hj _ => hj)
  have hgne : g' ≠ w.heap.size := fun e => hown'.ne hb1 (by decide) (by rw [e]; rfl)
  have hKw : Keeps (One Bn) w w1 := h5.then hKp (fun i hi hm => by have := h3 i hm; omega)
  obtain ⟨pre, m, b1, b2, b3, b4, b5, b6, b7⟩ := HS.out
  have hvB : v.ownBlock ≠ some Bn := fun e => by have := h3 _ e; omega
  have hBV : Bn < V.heap.size := World.block_lt_of_cell? V _ b6
  have e6 := (hKp.cell (i := 0) hBV hvB).trans b6
  have e7 := (hKp.frozen (i := 0) hBV hvB).trans b7
  refine ⟨hkB.from _, ⟨hlt, ⟨⟨_, one_setCell hb1, ?_, ?_, ⟨(fun h => by cases h), (fun h => by omega)⟩⟩, hKw.setCell_new (p := ⟨w.heap.size, 0, none⟩) (Nat.le_refl _) _⟩⟩, pre, m, b1, b2, b3, b4, b5, ?_, ?_⟩
  ·rw [HT.out, B_append]
   exact ownsRow_setCell_other hown' (by simp [Value.ownBlock]; exact hgne) _
  ·intro j hj
   rcases hat j hj with h | ⟨h, _⟩
   ·exact h3 j h
   ·simp at h; omega
  ·rw [World.cell?_setCell_other _ _ _ _ (fun e => by simp at e <;> omega)]; exact e6
  ·simpa using e7
 case done =>
  rintro D V hD ⟨_, ⟨v, h1, h2, h3, h4⟩, h5⟩ hK
  rw [List.take_of_length_le (Nat.le_refl _)] at h2
  have hpos := Cod.enc_pos x
  obtain ⟨g, cap, rfl, hg⟩ := h2.spell hpos
  have c1 := cell_of_one h1
  have H2 := Lib.hid h2
  clear h2 h4
  go_wp2
  refine marks_ret hK (v := sS g (Cod.enc x).length cap) (by simp [results, Tryz.results198, go_sem]) ?_
  have ht : Turn W1.heap.size Nob V (V.putObj D (.deferred none)) := Turn.put _ _ _ _ hD hK rfl
  refine ⟨_, rfl, H2.out.heap fun j hj => ?_, h3, by simp, ht.keepsN h5 (by omega)⟩
  obtain ⟨cs, hcs⟩ := H2.out.elem hj
  rw [hcs]
  exact ht.same _ _ hcs (fun h => h) (.inr rfl)
 case stop =>
  rintro D c V hD hx hK
  exact hx.elim
theorem collect_ok (Bn : Nat) (x : Nat) (hx : x < 2 ^ 64) (w : World) (hc : w.cell? ⟨Bn, 0, none⟩ = some (.int .u64 (x : Int))) (hf : w.frozen? ⟨Bn, 0, none⟩ = false) :
  Calls prog 192 #[.func (.func 199) #[] #[pT Bn 0]] w fun e w' => ∃ v, e = .returned v ∧ Row w' 5 1 v (Cod.enc x).length (B (Cod.enc x)) ∧ (∀ j, v.ownBlock = some j → w.heap.size ≤ j) ∧ v ≠ .slice none 0 0 ∧ Keeps (One Bn) w w' := by
 have HA := Lib.hid (appendSeq_ok Bn x hx w hc hf)
 clear hx hc hf
 go_enter func192, ntmps192
 go_wp2_with (go_at_call 198; refine HA.out.mono ?_; rintro e w' ⟨v, rfl, h1, h2, h3, h4⟩; have H1 := Lib.hid h1; have H2 := Lib.hid h2; have H3 := Lib.hid h3; clear h1 h2 h3)
 go_ret
 exact ⟨_, rfl, H1.out, H2.out, H3.out, h4⟩
theorem cPut_ok (x : Nat) (hx : x < 2 ^ 64) (w : World) :
  Calls prog 184 #[.int .u64 (x : Int)] w fun e w' => ∃ v, e = .returned v ∧ Row w' 5 1 v (Cod.enc x).length (B (Cod.enc x)) ∧ (∀ j, v.ownBlock = some j → w.heap.size ≤ j) ∧ v ≠ .slice none 0 0 ∧ Keeps Nob w w' := by
 have HX := Lib.hid hx
 have c1 : (w.alloc (.cells #[.int .u64 (x : Int)] 26)).cell? ⟨w.heap.size, 0, none⟩ = some (.int .u64 (x : Int)) := (World.cell?_alloc_at _ _ _ _ rfl).trans rfl
 have f1 : (w.alloc (.cells #[.int .u64 (x : Int)] 26)).frozen? ⟨w.heap.size, 0, none⟩ = false := by simp [go_sem]
 have HA := Lib.hid (collect_ok w.heap.size x hx _ c1 f1)
 clear hx c1 f1
 go_enter func184, ntmps184
 go_wp2_with (first
  | (go_at_call 193; refine (digits_ok _ _).mono ?_; rintro e w' ⟨rfl, rfl⟩)
  | (go_at_call 192; refine HA.out.mono ?_; rintro e w' ⟨v, rfl, h1, h2, h3, h4⟩; have H1 := Lib.hid h1; have H2 := Lib.hid h2; have H3 := Lib.hid h3; clear h1 h2 h3))
 go_ret
 refine ⟨_, rfl, H1.out, fun j hj => ?_, H3.out, ((Keeps.refl Nob w).alloc _).then h4 (fun i hi (e : i = w.heap.size) => by omega)⟩
 have := H2.out j hj
 simp at this; omega
end
section
open Go Go.RowKit Go.Own Go.Shelf
theorem wrap_u64_nat (n : Nat) (h : n < 18446744073709551616) : IntKind.u64.wrap (n : Int) = (n : Int) := by
 simp [IntKind.wrap, IntKind.bits, IntKind.signed]; omega
theorem or128b (m : Nat) : bits .or .u8 ((m : Int) % 128) 128 = ((m % 128 + 128 : Nat) : Int) := by
 have h := or128_fin ⟨m % 128, by omega⟩
 have e1 : ((m % 128 : Nat) : Int) = (m : Int) % 128 := by omega
 have e2 : m % 128 % 128 = m % 128 := by omega
 simp only [e1, e2] at h
 exact h
theorem rPut_any (f : Nat) : ∀ (i n : Nat) (w : World), f + i = 10 → i ≤ 9 → n < 2 ^ (64 - 7 * i) →
  Calls prog 181 #[.int .u64 (n : Int)] w fun e w' => ∃ v, e = .returned v ∧ Row w' 5 1 v (Cod.encF f n).length (B (Cod.encF f n)) ∧ (∀ j, v.ownBlock = some j → w.heap.size ≤ j) ∧ v ≠ .slice none 0 0 ∧ Keeps Nob w w' := by
 obtain ⟨i0, hi, hz0, hz1, hz2⟩ := info_parts u8_info
 induction f with
 | zero => intro i n w h hi; omega
 | succ f ih =>
  intro i n w h hi9 hn
  by_cases hlt : n < 128
  ·rw [Cod.encF_last f n hlt]
   have hm : ((n : Int) % 256) = (n : Int) := by omega
   go_enter func181, ntmps181
   go_wp2_with fail
   have hr := Row.newB w [UInt8.ofNat n] 5 (by simp [maxLen])
   have e1 : (B [UInt8.ofNat n]).toArray = #[.int .u8 (n : Int)] := by simp [B]; omega
   rw [e1] at hr
   go_ret
   exact ⟨_, rfl, hr, fun j hj => by simp [Value.ownBlock] at hj; omega, by simp, (Keeps.refl _ _).alloc _⟩
  ·obtain ⟨hi8, hs⟩ := Cod.small_step i n hi9 hn (by omega)
   rw [Cod.encF_more f n (by omega)]
   have IH := Lib.hid (ih (i + 1) (n / 128) (w.alloc (.cells #[.int .u8 ((n % 128 + 128 : Nat) : Int)] 5)) (by omega) (by omega) hs)
   have hb := or128b n
   have HN := Lib.hid hn
   have HS := Lib.hid hs
   have hq : IntKind.u64.wrap ((n : Int) / 128) = ((n / 128 : Nat) : Int) := by
    have : n / 128 < 18446744073709551616 := Nat.lt_of_lt_of_le hs (by
     have : 2 ^ (64 - 7 * (i + 1)) ≤ 2 ^ 64 := Nat.pow_le_pow_right (by omega) (by omega)
     simpa using this)
    rw [show ((n : Int) / 128) = ((n / 128 : Nat) : Int) by omega]
    exact wrap_u64_nat _ this
   have hlen : (Cod.encF f (n / 128)).length ≤ 10 := by have := Cod.encF_length f (n / 128); omega
   clear ih hn hs
   generalize hz : n % 128 + 128 = z at hb IH ⊢
   have hz256 : z < 256 := by omega
   have hr1 := Row.newB w [UInt8.ofNat z] 5 (by simp [maxLen])
   have e1 : (B [UInt8.ofNat z]).toArray = #[.int .u8 (z : Int)] := by simp [B]; omega
   rw [e1] at hr1
   have HR1 := Lib.hid hr1
   clear hz e1 hr1
   generalize Cod.encF f (n / 128) = rest at IH hlen ⊢
   generalize n / 128 = q at hq IH
   go_enter func181, ntmps181
   go_wp2_with (first
    | (at_builtin; refine own_append2 rfl _ _ 214 rfl 5 i0 (.int .u8 0) 1 1 underlying214 hi hz0 hz1 hz2 rfl (by decide) (sS w.heap.size 1 1) 1 _ rfl (HR1.out.keeps H4.out (fun _ _ x => x)) v rest.length (B rest) rfl (H1.out.src (B_one _)) (by unfold maxLen; omega) (by omega) ?_; intro v' w1 hown' hgrow hnil hat; obtain ⟨g', cap', rfl, hg'⟩ := hown'.spell (by omega))
    | (go_at_call 181; refine IH.out.mono ?_; rintro e w' ⟨v, rfl, h1, h2, h3, h4⟩; have H1 := Lib.hid h1; have H2 := Lib.hid h2; have H3 := Lib.hid h3; have H4 := Lib.hid h4; clear h1 h2 h3 h4))
   go_ret
   refine ⟨sS g' (1 + rest.length) cap', rfl, ?_, fun j hj => ?_, by simp, ?_⟩
   ·rw [show rest.length + 1 = 1 + rest.length by omega]
    exact hown'
   ·have h5 := hat j (by simpa [Value.ownBlock] using hj)
    have h6 := H4.out.size
    simp at h6
    rcases h5 with h5 | ⟨h5, _⟩
    ·simp [Value.ownBlock] at h5; omega
    ·omega
   ·exact (((Keeps.refl Nob w).alloc _).trans H4.out).grown hgrow (fun j hj hlt => by simp [Value.ownBlock] at hj; omega)
theorem rPut_ok (x : Nat) (hx : x < 2 ^ 64) (w : World) :
  Calls prog 181 #[.int .u64 (x : Int)] w fun e w' => ∃ v, e = .returned v ∧ Row w' 5 1 v (Cod.enc x).length (B (Cod.enc x)) ∧ (∀ j, v.ownBlock = some j → w.heap.size ≤ j) ∧ v ≠ .slice none 0 0 ∧ Keeps Nob w w' :=
 rPut_any 10 0 x w (by omega) (by omega) (by simpa using hx)
theorem u8_info1 : (prog.info? 5).map (fun i => (i.zero, i.size, i.bytes)) = some (some (.int .u8 0), 1, 1) := by kernel_rfl
theorem clone_ok (a : Value) (l : List UInt8) (w : World) (ha : BytesAt w a l) (hl : l.length ≤ 100000000) :
  Calls prog 174 #[a] w fun e w' => ∃ v, e = .returned v ∧ Row w' 5 1 v l.length (B l) ∧ (∀ j, v.ownBlock = some j → w.heap.size ≤ j) ∧ Keeps Nob w w' := by
 obtain ⟨i0, hi, hz0, hz1, hz2⟩ := info_parts u8_info1
 obtain ⟨A, cap, rfl, h1, h2, h3⟩ := ha.form
 cases A with
 | none =>
  have h0 : l = [] := by
   cases l with
   | nil => rfl
   | cons x r => obtain ⟨b, o, c, e, _⟩ := ha.at_ 0 x rfl; simp at e
  subst h0
  obtain rfl := h3 rfl
  clear ha
  have hn := fun W => Lib.run_eql_slice_nil (P := prog) W 214 5 none 0 0 0 0 underlying214
  go_enter func174, ntmps174
  go_wp2
  go_ret
  exact ⟨_, rfl, ⟨rfl, .inl ⟨rfl, rfl⟩⟩, (fun j hj => by cases hj), Keeps.refl _ _⟩
 | some ad =>
  have hr := Row.empty w 5
  have hs := (ha.keepsN ((Keeps.refl Nob w).alloc (.cells #[] 5))).src
  have HA := Lib.hid ha
  clear ha h3
  have hn := fun W => Lib.run_eql_slice_nil (P := prog) W 214 5 (some ad) l.length cap 0 0 underlying214
  go_enter func174, ntmps174
  go_wp2_with (at_builtin; refine own_append2 rfl _ _ 214 rfl 5 i0 (.int .u8 0) 1 1 underlying214 hi hz0 hz1 hz2 rfl (by decide) (sS w.heap.size 0 0) 0 _ rfl hr (.slice (some ad) l.length cap) l.length (B l) rfl hs (by unfold maxLen; omega) (by omega) ?_; intro v' w1 hown' hgrow hnil hat; rw [Nat.zero_add, List.nil_append] at hown'; have H1 := Lib.hid hown'; have H3 := Lib.hid hat; have H4 := Lib.hid hgrow; clear hown' hnil hat hgrow)
  go_ret
  refine ⟨_, rfl, H1.out, fun j hj => ?_, ((Keeps.refl Nob w).alloc _).grown H4.out (fun j hj hlt => by simp [Value.ownBlock] at hj; omega)⟩
  rcases H3.out j hj with h | ⟨h, _⟩
  ·simp [Value.ownBlock] at h; omega
  ·simp at h; omega
structure WS where
 lim : Int
 out : List UInt8
 err : Int
def WS.add (s : WS) (bs : List UInt8) : WS := if s.err = 0 then (if s.lim - s.out.length < bs.length then { s with err := 4 } else { s with out := s.out ++ bs }) else s
structure WrAt (w : World) (b : Nat) (v : Value) (s : WS) : Prop where
 blk : HP w b #[v, iI s.lim, .bool true, iI s.err] 242
 row : Row w 5 1 v s.out.length (B s.out)
 own : v.ownBlock ≠ some b
 l0 : 0 ≤ s.lim
 l1 : s.lim ≤ 1048576
 fits : (s.out.length : Int) ≤ s.lim
def WBlk (b : Nat) (v : Value) : Nat → Prop := fun j => j = b ∨ v.ownBlock = some j
theorem WrAt.lt {w : World} {b : Nat} {v : Value} {s : WS} (h : WrAt w b v s) : b < w.heap.size := lt_of_block h.blk
theorem WrAt.blk_lt {w : World} {b : Nat} {v : Value} {s : WS} (h : WrAt w b v s) : ∀ j, WBlk b v j → j < w.heap.size := fun j hj => by
 rcases hj with rfl | hj
 ·exact h.lt
 ·exact h.row.lt hj
theorem WrAt.keeps {w w' : World} {M : Nat → Prop} {b : Nat} {v : Value} {s : WS} (h : WrAt w b v s) (k : Keeps M w w') (hm : ∀ j, WBlk b v j → ¬ M j) : WrAt w' b v s :=
 ⟨(k.block b h.lt (hm b (.inl rfl))).trans h.blk, h.row.keeps k (fun j hj => hm j (.inr hj)), h.own, h.l0, h.l1, h.fits⟩
theorem wstate_ok (b : Nat) (v : Value) (s : WS) (w : World) (h : WrAt w b v s) :
  Calls prog 173 #[pT b 0] w fun e w' => e = .returned (iI s.err) ∧ w = w' := by
 have c2 : w.cell? ⟨b, 2, none⟩ = some (.bool true) := (cell_of_row w b 2 _ _ _ h.blk).trans rfl
 have c3 : w.cell? ⟨b, 3, none⟩ = some (iI s.err) := (cell_of_row w b 3 _ _ _ h.blk).trans rfl
 clear h
 go_enter func173, ntmps173
 go_wp2
 go_ret
 exact ⟨rfl, rfl⟩
theorem newWriter_ok (lim : Int) (w : World) (h0 : 0 ≤ lim) (h1 : lim ≤ 1048576) :
  Calls prog 160 #[iI lim] w fun e w' => ∃ b, e = .returned (.tuple #[pT b 0, iI 0]) ∧ WrAt w' b (.slice none 0 0) ⟨lim, [], 0⟩ ∧ w.heap.size ≤ b ∧ Keeps Nob w w' := by
 have d0 : decide (lim < 0) = false := by simpa using h0
 have d1 : decide (1048576 < lim) = false := by simpa using h1
 go_enter func160, ntmps160
 go_wp2
 go_ret2
 exact ⟨_, rfl, ⟨heap_alloc_new _ _, ⟨rfl, .inl ⟨rfl, rfl⟩⟩, by simp [Value.ownBlock], h0, h1, by simpa using h0⟩, Nat.le_refl _, (Keeps.refl _ _).alloc _⟩
def WPost (b : Nat) (v : Value) (s : WS) (w : World) (e : Ending) (w' : World) : Prop :=
 e = .returned (iI s.err) ∧ (∃ v', WrAt w' b v' s ∧ ∀ j, v'.ownBlock = some j → v.ownBlock = some j ∨ w.heap.size ≤ j) ∧ Keeps (WBlk b v) w w'
theorem wadd_ok (b : Nat) (v : Value) (s : WS) (x : Value) (bs : List UInt8) (w : World) (h : WrAt w b v s) (hx : BytesAt w x bs) (hl : bs.length ≤ 10000000) :
  Calls prog 178 #[pT b 0, x] w (WPost b v (s.add bs) w) := by
 have HS := Lib.hid (wstate_ok b v s w h)
 have H := Lib.hid h
 obtain ⟨A, cap, rfl⟩ := hx.len
 obtain ⟨Av, cv, rfl⟩ := (Row.bytes h.row).len
 have c0 : w.cell? ⟨b, 0, none⟩ = some (.slice Av s.out.length cv) := (cell_of_row w b 0 _ _ _ h.blk).trans rfl
 have c1 : w.cell? ⟨b, 1, none⟩ = some (iI s.lim) := (cell_of_row w b 1 _ _ _ h.blk).trans rfl
 have c3 : w.cell? ⟨b, 3, none⟩ = some (iI s.err) := (cell_of_row w b 3 _ _ _ h.blk).trans rfl
 have f3 : w.frozen? ⟨b, 3, none⟩ = false := frozen_of_row w b 3 _ _ h.blk
 have hlt := h.lt
 have l0 := h.l0
 have l1 := h.l1
 have hfit := h.fits
 have HX := Lib.hid hx
 clear h hx
 by_cases h0 : s.err = 0
 ·have d0 : (s.err != 0) = false := by simpa using h0
  have ew : IntKind.i64.wrap (s.lim - (s.out.length : Int)) = s.lim - (s.out.length : Int) := by rw [IntKind.wrap_i64]; omega
  by_cases h1 : s.lim - (s.out.length : Int) < (bs.length : Int)
  ·have e1 : s.add bs = { s with err := 4 } := by unfold WS.add; rw [if_pos h0, if_pos h1]
   rw [e1]
   have d1 : decide (s.lim - (s.out.length : Int) < (bs.length : Int)) = true := by simpa using h1
   clear e1 h0
   go_enter func178, ntmps178
   go_wp2_with (go_at_call 173; refine HS.out.mono ?_; rintro e w' ⟨rfl, rfl⟩)
   go_quiet (fail)
   revert nq; intro n1
   go_wp2
   go_ret
   have hb2 := heap_setCell_same (w.drewN n1) b 3 _ _ (iI 4) H.out.blk
   have hk : Keeps (One b) w ((w.drewN n1).setCell ⟨b, 3, none⟩ (iI 4)) := ((Keeps.refl _ _).drewN n1).setOne _
   exact ⟨rfl, ⟨_, ⟨hb2, H.out.row.keeps hk (fun j hj (e : j = b) => H.out.own (by rw [hj, e])), H.out.own, l0, l1, hfit⟩, fun j hj => .inl hj⟩, hk.mono (fun _ _ e => .inl e)⟩
  ·have e1 : s.add bs = { s with out := s.out ++ bs } := by unfold WS.add; rw [if_pos h0, if_neg h1]
   rw [e1]
   have d1 : decide (s.lim - (s.out.length : Int) < (bs.length : Int)) = false := by simpa using h1
   obtain ⟨i0, hi, hz0, hz1, hz2⟩ := info_parts u8_info0
   have HI := Lib.hid hi
   have HZ0 := Lib.hid hz0
   have HZ1 := Lib.hid hz1
   have HZ2 := Lib.hid hz2
   have H0 := Lib.hid h0
   clear e1 h0 hi hz0 hz1 hz2
   go_enter func178, ntmps178
   go_wp2_with (go_at_call 173; refine HS.out.mono ?_; rintro e w' ⟨rfl, rfl⟩)
   go_quiet (fail)
   revert nq; intro n1
   have kd : Hid (Keeps Nob w (w.drewN n1)) := Lib.hid ((Keeps.refl _ _).drewN n1)
   have HR1 := Lib.hid (H.out.row.keeps kd.out (fun _ _ x => x))
   have HS1 := Lib.hid (HX.out.keepsN kd.out).src
   go_wp2_with (at_builtin; refine own_append2 rfl _ _ 214 rfl 5 i0 (.int .u8 0) 1 1 underlying214 HI.out HZ0.out HZ1.out HZ2.out rfl (by decide) _ _ _ rfl HR1.out (.slice A bs.length cap) bs.length (B bs) rfl HS1.out (len_small _ _ (by omega)) (len_bytes _ _ (by omega)) ?_; intro v' w1 hown' hgrow hnil hat; rw [← B_append, ← List.length_append] at hown'; obtain ⟨Av', cv', hv'⟩ := (Row.bytes hown').len; subst hv'; have hk1 : Keeps (fun j => (Value.slice Av s.out.length cv).ownBlock = some j) (w.drewN n1) w1 := (Keeps.refl _ _).grown hgrow (fun j hj _ => hj); have hb1 := (hk1.block b hlt (fun e => H.out.own e)).trans H.out.blk; have q0 : w1.cell? ⟨b, 0, none⟩ = some (.slice Av s.out.length cv) := (cell_of_row w1 b 0 _ _ _ hb1).trans rfl; have q1 : w1.frozen? ⟨b, 0, none⟩ = false := frozen_of_row w1 b 0 _ _ hb1; have H1 := Lib.hid hown'; have H3 := Lib.hid hat; have HB := Lib.hid hb1; have HK := Lib.hid hk1; clear hown' hnil hat hgrow hb1 hk1)
   go_ret
   obtain ⟨v', hv'⟩ : ∃ v', (Value.slice Av' (s.out.length + bs.length) cv') = v' := ⟨_, rfl⟩
   rw [List.length_append, hv'] at H1 H3
   rw [hv']
   have hb2 := heap_setCell_same w1 b 0 _ _ v' HB.out
   have hkS : Keeps (One b) w1 (w1.setCell ⟨b, 0, none⟩ v') := (Keeps.refl _ _).setOne _
   have hown : ∀ j, v'.ownBlock = some j → (Value.slice Av s.out.length cv).ownBlock = some j ∨ w.heap.size ≤ j := fun j hj => by
    rcases H3.out j hj with h | ⟨h, _⟩
    ·exact .inl h
    ·simp at h; exact .inr (by omega)
   have hvb : v'.ownBlock ≠ some b := fun hj => by
    rcases hown b hj with h | h
    ·exact H.out.own h
    ·omega
   refine ⟨by show Ending.returned (iI 0) = .returned (iI s.err); rw [H0.out], ⟨v', ⟨hb2, ?_, hvb, l0, l1, by simp; omega⟩, hown⟩, (((Keeps.refl _ w).drewN n1).trans (HK.out.mono (fun _ _ e => .inr e))).trans (hkS.mono (fun _ _ e => .inl e))⟩
   rw [← List.length_append] at H1
   exact H1.out.keeps hkS (fun j hj (e : j = b) => hvb (by rw [hj, e]))
 ·have e1 : s.add bs = s := by unfold WS.add; rw [if_neg h0]
  rw [e1]
  have d0 : (s.err != 0) = true := by simpa using h0
  clear h0 e1
  go_enter func178, ntmps178
  go_wp2_with (go_at_call 173; refine HS.out.mono ?_; rintro e w' ⟨rfl, rfl⟩)
  go_ret
  exact ⟨rfl, ⟨_, H.out, fun j hj => .inl hj⟩, Keeps.refl _ _⟩
theorem WPost.mono {b : Nat} {v : Value} {s : WS} {w w0 : World} {e : Ending} {w' : World} (h : WPost b v s w e w') (k : Keeps Nob w0 w) : WPost b v s w0 e w' := by
 obtain ⟨h1, ⟨v', h2, h3⟩, h4⟩ := h
 refine ⟨h1, ⟨v', h2, fun j hj => ?_⟩, (k.mono (fun _ _ x => x.elim)).trans h4⟩
 rcases h3 j hj with h | h
 ·exact .inl h
 ·exact .inr (Nat.le_trans k.size h)
theorem wU_ok (b : Nat) (v : Value) (s : WS) (n : Nat) (w : World) (h : WrAt w b v s) (hn : n < 2 ^ 64) :
  Calls prog 177 #[pT b 0, .int .u64 (n : Int)] w (WPost b v (s.add (Cod.enc n)) w) := by
 have H := Lib.hid h
 have HP := Lib.hid (cPut_ok n hn w)
 clear h hn
 go_enter func177, ntmps177
 go_wp2_with (first
  | (go_at_call 184; refine HP.out.mono ?_; rintro e w1 ⟨x, rfl, h1, h2, h3, h4⟩; have H1 := Lib.hid h1; have H4 := Lib.hid h4; clear h1 h2 h3 h4)
  | (go_at_call 178; refine (wadd_ok b v s x (Cod.enc n) w1 (H.out.keeps H4.out (fun _ _ x => x)) (Row.bytes H1.out) (by have := Cod.enc_length n; omega)).mono ?_; rintro e w2 hp; have HQ := Lib.hid (hp.mono H4.out); obtain ⟨rfl, -, -⟩ := hp))
 go_ret
 exact HQ.out
theorem wN_ok (b : Nat) (v : Value) (s : WS) (n : Int) (w : World) (h : WrAt w b v s) (h0 : 0 ≤ n) (h1 : n ≤ 9223372036854775807) :
  Calls prog 165 #[pT b 0, iI n] w (WPost b v (s.add (Cod.enc n.toNat)) w) := by
 have H := Lib.hid h
 have HS := Lib.hid (wstate_ok b v s w h)
 obtain ⟨k, rfl⟩ : ∃ k : Nat, n = (k : Int) := ⟨n.toNat, by omega⟩
 have HU := Lib.hid (wU_ok b v s k w h (by omega))
 rw [Int.toNat_natCast]
 have w1' : IntKind.u64.wrap (k : Int) = (k : Int) := by simp [IntKind.wrap, IntKind.bits, IntKind.signed]; omega
 have d0 : decide ((0 : Int) ≤ (k : Int)) = true := by simp
 clear h
 by_cases he : s.err = 0
 ·have d1 : (s.err != 0) = false := by simpa using he
  clear he
  go_enter func165, ntmps165
  go_wp2_with (first
   | (go_at_call 173; refine HS.out.mono ?_; rintro e w' ⟨rfl, rfl⟩)
   | (go_at_call 177; refine HU.out.mono ?_; rintro e w2 hp; have HQ := Lib.hid hp; obtain ⟨rfl, -, -⟩ := hp))
  go_ret
  exact HQ.out
 ·have d1 : (s.err != 0) = true := by simpa using he
  clear he
  go_enter func165, ntmps165
  go_wp2_with (first
   | (go_at_call 173; refine HS.out.mono ?_; rintro e w' ⟨rfl, rfl⟩)
   | (go_at_call 177; refine HU.out.mono ?_; rintro e w2 hp; have HQ := Lib.hid hp; obtain ⟨rfl, -, -⟩ := hp))
  go_ret
  exact HQ.out
theorem bytes_of_block {w : World} {g : Nat} {l : List UInt8} {t : TypeId} {fr : Nat × Nat} (hg : w.heap[g]? = some (.cells (B l).toArray t fr)) (hl : l.length ≤ maxLen) : BytesAt w (sS g l.length l.length) l :=
 ⟨⟨_, _, rfl, Nat.le_refl _, hl, fun h => by cases h⟩, fun k x hk => ⟨g, 0, _, rfl, lt_of_block hg, by rw [Nat.zero_add]; exact (cell_of_row w g k _ _ _ hg).trans (by simpa using B_get l k x hk)⟩⟩
theorem wHash_ok (b : Nat) (v : Value) (s : WS) (l : List UInt8) (w : World) (h : WrAt w b v s) (hl : l.length = 32) :
  Calls prog 167 #[pT b 0, .agg (B l).toArray] w (WPost b v (s.add l) w) := by
 have k0 : Keeps Nob w (w.alloc (.cells (B l).toArray 25)) := (Keeps.refl _ _).alloc _
 have hb := bytes_of_block (heap_alloc_new w (.cells (B l).toArray 25)) (by rw [hl]; decide)
 rw [hl] at hb
 have HA := Lib.hid (wadd_ok b v s _ l _ (h.keeps k0 (fun _ _ x => x)) hb (by omega))
 have K0 := Lib.hid k0
 obtain ⟨X, hX⟩ : ∃ X, (B l).toArray = X := ⟨_, rfl⟩
 rw [hX] at HA K0 ⊢
 clear h k0 hb hX hl
 go_enter func167, ntmps167
 go_wp2_with (go_at_call 178; refine HA.out.mono ?_; rintro e w2 hp; have HQ := Lib.hid (hp.mono K0.out); obtain ⟨rfl, -, -⟩ := hp)
 go_ret
 exact HQ.out
def DPost (s : WS) (w : World) (e : Ending) (w' : World) : Prop :=
 ∃ X, e = .returned (.tuple #[X, iI s.err]) ∧ (Row w' 5 1 X (if s.err = 0 then s.out else []).length (B (if s.err = 0 then s.out else [])) ∧ ∀ j, X.ownBlock = some j → w.heap.size ≤ j) ∧ Keeps Nob w w'
theorem wDone_ok (b : Nat) (v : Value) (s : WS) (w : World) (h : WrAt w b v s) :
  Calls prog 161 #[pT b 0] w (DPost s w) := by
 have HS := Lib.hid (wstate_ok b v s w h)
 have hf := h.fits
 have hl := h.l1
 have HC := Lib.hid (clone_ok v s.out w (Row.bytes h.row) (by omega))
 have c0 : w.cell? ⟨b, 0, none⟩ = some v := (cell_of_row w b 0 _ _ _ h.blk).trans rfl
 clear h
 by_cases he : s.err = 0
 ·have d1 : (s.err != 0) = false := by simpa using he
  have HE := Lib.hid he
  clear he
  go_enter func161, ntmps161
  go_wp2_with (first
   | (go_at_call 173; refine HS.out.mono ?_; rintro e w' ⟨rfl, rfl⟩)
   | (go_at_call 174; refine HC.out.mono ?_; rintro e w1 ⟨X, rfl, h1, h2, h3⟩; have H1 := Lib.hid h1; have H2 := Lib.hid h2; have H3 := Lib.hid h3; clear h1 h2 h3))
  go_ret2
  exact ⟨X, by rw [HE.out]; rfl, ⟨by rw [if_pos HE.out]; exact H1.out, H2.out⟩, H3.out⟩
 ·have d1 : (s.err != 0) = true := by simpa using he
  have HE := Lib.hid he
  clear he
  go_enter func161, ntmps161
  go_wp2_with (go_at_call 173; refine HS.out.mono ?_; rintro e w' ⟨rfl, rfl⟩)
  go_ret2
  exact ⟨_, rfl, ⟨by rw [if_neg HE.out]; exact ⟨rfl, .inl ⟨rfl, rfl⟩⟩, fun j hj => by cases hj⟩, Keeps.refl _ _⟩
def Wr (w : World) (F : Nat → Prop) (b : Nat) (s : WS) : Prop := ∃ v, WrAt w b v s ∧ F = WBlk b v
section
variable {w w' : World} {F M : Nat → Prop} {b : Nat} {t t' : WS}
theorem Wr.lt (h : Wr w F b t) : Lt F w := by
  obtain ⟨v, h1, rfl⟩ := h
  exact h1.blk_lt
theorem Wr.keeps (h : Wr w F b t) (k : Keeps M w w') (d : Dis F M) : Wr w' F b t := by
  obtain ⟨v, h1, rfl⟩ := h
  exact ⟨v, h1.keeps k d, rfl⟩
theorem Wr.keepsN (h : Wr w F b t) (k : Keeps Nob w w') : Wr w' F b t := h.keeps k (fun _ _ x => x)
theorem wr_step {v : Value} {e : Ending} (hp : WPost b v t' w e w') : e = .returned (iI t'.err) ∧ ∃ F', Wr w' F' b t' ∧ Step w w' (WBlk b v) F' := by
  obtain ⟨h1, ⟨v', h2, h3⟩, h4⟩ := hp
  refine ⟨h1, _, ⟨v', h2, rfl⟩, h4, fun j hj => ?_⟩
  rcases hj with hj | hj
  · exact .inl (.inl hj)
  · rcases h3 j hj with h | h
    · exact .inl (.inr h)
    · exact .inr ⟨h, h2.row.lt hj⟩
def WPost2 (w : World) (F : Nat → Prop) (b : Nat) (t' : WS) (e : Ending) (w' : World) : Prop := e = .returned (iI t'.err) ∧ ∃ F', Wr w' F' b t' ∧ Step w w' F F'
theorem wr_new (lim : Int) (w : World) (h0 : 0 ≤ lim) (h1 : lim ≤ 1048576) :
    Calls prog 160 #[iI lim] w fun e w' => ∃ b F, e = .returned (.tuple #[.pointer (some ⟨b, 0, none⟩), iI 0]) ∧ Wr w' F b ⟨lim, [], 0⟩ ∧ Ge F w ∧ Keeps Nob w w' :=
  (newWriter_ok lim w h0 h1).mono fun e w' ⟨b, he, hr, hb, hk⟩ => by
    refine ⟨b, _, he, ⟨_, hr, rfl⟩, ?_, hk⟩
    intro j hj
    rcases hj with rfl | hj
    · exact hb
    · cases hj
theorem Wr.u (h : Wr w F b t) (n : Nat) (hn : n < 2 ^ 64) : Calls prog 177 #[.pointer (some ⟨b, 0, none⟩), .int .u64 (n : Int)] w (WPost2 w F b (t.add (Cod.enc n))) := by
  obtain ⟨v, h1, rfl⟩ := h
  exact (wU_ok b v t n w h1 hn).mono fun e w' hp => wr_step hp
theorem Wr.n (h : Wr w F b t) (n : Int) (h0 : 0 ≤ n) (h1 : n ≤ 9223372036854775807) : Calls prog 165 #[.pointer (some ⟨b, 0, none⟩), iI n] w (WPost2 w F b (t.add (Cod.enc n.toNat))) := by
  obtain ⟨v, h2, rfl⟩ := h
  exact (wN_ok b v t n w h2 h0 h1).mono fun e w' hp => wr_step hp
theorem Wr.hash (h : Wr w F b t) (l : List UInt8) (hl : l.length = 32) : Calls prog 167 #[.pointer (some ⟨b, 0, none⟩), .agg (B l).toArray] w (WPost2 w F b (t.add l)) := by
  obtain ⟨v, h1, rfl⟩ := h
  exact (wHash_ok b v t l w h1 hl).mono fun e w' hp => wr_step hp
theorem Wr.done (h : Wr w F b t) : Calls prog 161 #[.pointer (some ⟨b, 0, none⟩)] w (DPost t w) := by
  obtain ⟨v, h1, _⟩ := h
  exact wDone_ok b v t w h1
end
inductive Thg | n (x : Int) | h (r : List UInt8) | u (k : Nat)
def Thg.by : Thg → List UInt8
 | .n x => Cod.enc x.toNat
 | .h r => r
 | .u k => Cod.enc k
def Thg.Ok : Thg → Prop
 | .n x => 0 ≤ x ∧ x ≤ 9223372036854775807
 | .h r => r.length = 32
 | .u _ => False
def ThgAt (W : World) (V : Value) : Thg → Prop
 | .n x => ∃ g, V = .func (.func 164) #[] #[pT g 0] ∧ HP W g #[iI x] 3
 | .h r => ∃ g, V = .func (.func 166) #[] #[pT g 0] ∧ HP W g (B r).toArray 25
 | .u k => ∃ g : Nat, V = .nilFunc ∧ W.heap[g]? = some (Obj.cells #[.int .u64 (k : Int)] 26 (0, 0))
theorem ThgAt.keeps {W W' : World} {M : Nat → Prop} {V : Value} {t : Thg} (h : ThgAt W V t) (k : Keeps M W W') (hm : ∀ j cs T fr, W.heap[j]? = some (.cells cs T fr) → T = 3 ∨ T = 25 ∨ T = 26 → ¬ M j) : ThgAt W' V t := by
 cases t <;> obtain ⟨g, e, hg⟩ := h
 ·exact ⟨g, e, (k.block g (lt_of_block hg) (hm g _ _ _ hg (.inl rfl))).trans hg⟩
 ·exact ⟨g, e, (k.block g (lt_of_block hg) (hm g _ _ _ hg (.inr (.inl rfl)))).trans hg⟩
 ·exact ⟨g, e, (k.block g (lt_of_block hg) (hm g _ _ _ hg (.inr (.inr rfl)))).trans hg⟩
theorem ThgAt.one {W : World} {V : Value} {t : Thg} (h : ThgAt W V t) : V.oneCell' = true := by
 cases t <;> obtain ⟨g, rfl, hg⟩ := h <;> rfl
def ThsAt (W : World) (vs : List Value) (ts : List Thg) : Prop := vs.length = ts.length ∧ ∀ (k : Nat) (V : Value) (t : Thg), vs[k]? = some V → ts[k]? = some t → ThgAt W V t
theorem ThsAt.keepsN {W W' : World} {vs : List Value} {ts : List Thg} (h : ThsAt W vs ts) (k : Keeps Nob W W') : ThsAt W' vs ts := ⟨h.1, fun i V t hv ht => (h.2 i V t hv ht).keeps k (fun _ _ _ _ _ _ x => x)⟩
theorem ThsAt.nil (W : World) : ThsAt W [] [] := ⟨rfl, fun k V t h => by simp at h⟩
theorem ThsAt.cons {W : World} {V : Value} {t : Thg} {vs : List Value} {ts : List Thg} (h : ThgAt W V t) (hs : ThsAt W vs ts) : ThsAt W (V :: vs) (t :: ts) := ⟨by simp [hs.1], fun k U u hU hu => by
 cases k with
 | zero => simp at hU hu; subst hU; subst hu; exact h
 | succ k => exact hs.2 k U u (by simpa using hU) (by simpa using hu)⟩
def byt (ts : List Thg) (i : Nat) : List UInt8 := (ts.take i).flatMap Thg.by
def allb (ts : List Thg) : List UInt8 := ts.flatMap Thg.by
theorem byt_succ {ts : List Thg} {i : Nat} {t : Thg} (h : ts[i]? = some t) : byt ts (i + 1) = byt ts i ++ t.by := by unfold byt; rw [List.take_add_one, h]; simp
theorem byt_all (ts : List Thg) : byt ts ts.length = allb ts := by unfold byt allb; rw [List.take_length]
theorem byt_le (ts : List Thg) (i : Nat) : (byt ts i).length ≤ (allb ts).length := by
 unfold byt allb
 conv => rhs; rw [← List.take_append_drop i ts, List.flatMap_append, List.length_append]
 omega
theorem add_ok {out bs : List UInt8} (h : out.length + bs.length ≤ 4096) : (⟨4096, out, 0⟩ : WS).add bs = ⟨4096, out ++ bs, 0⟩ := by
 unfold WS.add
 rw [if_pos rfl, if_neg (by simp only; omega)]
theorem ths_split {w : World} {vs : List Value} {ts : List Thg} (h : ThsAt w vs ts) (hok : ∀ (k : Nat) (t : Thg), ts[k]? = some t → t.Ok) (i : Nat) (hi : i ≤ ts.length) :
  (i < ts.length ∧ ∃ x gk, ts[i]? = some (.n x) ∧ (0 ≤ x ∧ x ≤ 9223372036854775807) ∧ vs[i]? = some (.func (.func 164) #[] #[pT gk 0]) ∧ HP w gk #[iI x] 3) ∨
  (i < ts.length ∧ ∃ r gk, ts[i]? = some (.h r) ∧ r.length = 32 ∧ vs[i]? = some (.func (.func 166) #[] #[pT gk 0]) ∧ HP w gk (B r).toArray 25) ∨
  (i < ts.length ∧ ∃ k gk : Nat, ts[i]? = some (.u k) ∧ k < 2 ^ 64 ∧ False ∧ gk = 0) ∨ i = ts.length := by
 rcases Nat.lt_or_eq_of_le hi with hl | hl
 ·obtain ⟨V, hV⟩ : ∃ V, vs[i]? = some V := ⟨_, List.getElem?_eq_getElem (by rw [h.1]; exact hl)⟩
  obtain ⟨t, ht⟩ : ∃ t, ts[i]? = some t := ⟨_, List.getElem?_eq_getElem hl⟩
  have hT := h.2 i V t hV ht
  have hO := hok i t ht
  cases t with
  | n x => obtain ⟨g, rfl, hg⟩ := hT; exact .inl ⟨hl, x, g, ht, hO, hV, hg⟩
  | h r => obtain ⟨g, rfl, hg⟩ := hT; exact .inr (.inl ⟨hl, r, g, ht, hO, hV, hg⟩)
  | u k => exact hO.elim
 ·exact .inr (.inr (.inr hl))
theorem row_cast {w : World} {t : TypeId} {v : Value} {n : Nat} {x y z : List UInt8} (h : Row w t 1 v n (B x ++ B y)) (e : x ++ y = z) (hn : n = z.length) : Row w t 1 v z.length (B z) := by
 subst hn; rw [← B_append, e] at h; exact h
theorem hd_get {vs rest : List Value} {i : Nat} {V : Value} (h : vs[i]? = some V) : (vs ++ rest).toArray[i]? = some V := by
 rw [List.getElem?_toArray, List.getElem?_append_left (List.getElem?_eq_some_iff.1 h).1]; exact h
def qc79_4 (n : Nat) : Code := partOf f153 n
theorem vnum_ok (x : Int) (w : World) :
  Calls prog 153 #[iI x] w (fun e w' => ∃ g, e = .returned (.func (.func 164) #[] #[pT g 0]) ∧ HP w' g #[iI x] 3 ∧ w.heap.size ≤ g ∧ Keeps Nob w w') := by
 have K0 := kz0 w
 refine sf_ (qc79_4 1) func153 <| qr_ [0, 1] <| pbx 3 (#[iI x]) (iI x) fun V1 g eg h2 j1 => ?_
 have n3 := nk eg K0
 have ⟨K4, z5⟩ := j1.z0 K0
 refine kk 1 <| eqr_ [0, 1] <| kk 2 <| eu_ <| so_ (.func (.func 164) #[] #[pT g 0]) ?_
 exact ⟨g, rfl, h2, by omega, K4⟩
def qc79_3 (n : Nat) : Code := partOf f164 n
theorem vnum1_ok (b g : Nat) (x : Int) (F0 : Nat → Prop) (out : List UInt8) (w : World) (hw : Wr w F0 b ⟨4096, out, 0⟩) (hg : HP w g #[iI x] 3) (hx : 0 ≤ x ∧ x ≤ 9223372036854775807) (hl : out.length + (Cod.enc x.toNat).length ≤ 4096) :
  Calls prog 164 #[pT b 0, pT g 0] w (fun e w' => e = .returned (iI 0) ∧ ∃ F', Wr w' F' b ⟨4096, out ++ (Cod.enc x.toNat), 0⟩ ∧ Step w w' F0 F') := by
 have K0 : Keeps F0 w w := Keeps.refl _ _
 refine sf_ (qc79_3 1) func164 <| qr_ [0] <| kk 1 <| eqr_ [0, 1, 2, 3] <| kk 1 <| pP (lk hg) ?_
 refine pct ((hw.n x hx.1 hx.2).mono ?_)
 rintro e V1 ⟨he, F', hW, hS⟩
 rw [add_ok hl] at he hW
 subst he
 refine ⟨_, rfl, ?_⟩
 have K2 : Keeps F0 w V1 := K0.then hS.1 (fun _ _ h => h)
 have z3 := hS.1.size
 refine kk 1 <| eu_ <| so_ (iI 0) ?_
 exact ⟨rfl, F', hW, hS⟩
def qc79_2 (n : Nat) : Code := partOf f154 n
theorem vroot_ok (r : List UInt8) (w : World) :
  Calls prog 154 #[.agg (B r).toArray] w (fun e w' => ∃ g, e = .returned (.func (.func 166) #[] #[pT g 0]) ∧ HP w' g (B r).toArray 25 ∧ w.heap.size ≤ g ∧ Keeps Nob w w') := by
 have K0 := kz0 w
 refine sf_ (qc79_2 1) func154 <| qr_ [0, 1] <| pbg 25 ((B r).toArray) fun V1 g eg h2 j1 => ?_
 have n3 := nk eg K0
 have ⟨K4, z5⟩ := j1.z0 K0
 refine kk 1 <| eqr_ [0, 1] <| kk 2 <| eu_ <| so_ (.func (.func 166) #[] #[pT g 0]) ?_
 exact ⟨g, rfl, h2, by omega, K4⟩
def qc79_1 (n : Nat) : Code := partOf f166 n
theorem vroot1_ok (b g : Nat) (r : List UInt8) (F0 : Nat → Prop) (out : List UInt8) (w : World) (hw : Wr w F0 b ⟨4096, out, 0⟩) (hg : HP w g (B r).toArray 25) (hr : r.length = 32) (hl : out.length + (r).length ≤ 4096) :
  Calls prog 166 #[pT b 0, pT g 0] w (fun e w' => e = .returned (iI 0) ∧ ∃ F', Wr w' F' b ⟨4096, out ++ r, 0⟩ ∧ Step w w' F0 F') := by
 have K0 : Keeps F0 w w := Keeps.refl _ _
 refine sf_ (qc79_1 1) func166 <| qr_ [0] <| kk 1 <| eqr_ [0, 1, 2, 3] <| kk 1 <| pP (ldr 25 g (hg) (by rw [Bz_size, hr]; kernel_rfl)) ?_
 refine pct ((hw.hash r hr).mono ?_)
 rintro e V1 ⟨he, F', hW, hS⟩
 rw [add_ok hl] at he hW
 subst he
 refine ⟨_, rfl, ?_⟩
 have K2 : Keeps F0 w V1 := K0.then hS.1 (fun _ _ h => h)
 have z3 := hS.1.size
 refine kk 1 <| eu_ <| so_ (iI 0) ?_
 exact ⟨rfl, F', hW, hS⟩
def qc79_0 (n : Nat) : Code := partOf f151 n
theorem vwritten_bad (x : Int) (v : Value) (w : World) (hx : x ≠ 0) :
  Calls prog 151 #[iI x, v] w (fun e w' => e = .returned (.tuple #[.slice none 0 0, iI x]) ∧ w = w') := by
 have K0 := kz0 w
 refine sf_ (qc79_0 1) func151 <| qr_ [0, 1] <| kk 2 <| eq_ <| qr_ [0, 1] <| kk 1 <| pP (nqT ((x) : Int) ((0) : Int)) <| ey_ <| qr_ [0, 1, 2] <| kk 3 <| eu_ <| then_r <| so_ (.tuple #[.slice none 0 0, iI x]) ?_
 exact ⟨rfl, rfl⟩
theorem vwritten_row (g cap : Nat) (ts : List Thg) (vs rest : List Value) (w : World) (h0 : HP w g (vs ++ rest).toArray 219) (h1 : ThsAt w vs ts) (hok : ∀ (k : Nat) (t : Thg), ts[k]? = some t → t.Ok) (hl : (allb ts).length ≤ 4096) (hmax : ts.length ≤ 1000) :
  Calls prog 151 #[iI 0, sS g ts.length cap] w (fun e w' => ∃ X, e = .returned (.tuple #[X, iI 0]) ∧ Row w' 5 1 X (allb ts).length (B (allb ts)) ∧ NewFrom w.heap.size X ∧ Keeps Nob w w') := by
 have K0 := kz0 w
 refine sf_ (qc79_0 1) func151 <| qr_ [0, 1] <| kk 2 <| eq_ <| qr_ [0, 1] <| kk 2 <| en_ <| s_ <| tqr_ nl6_ ?_
 refine pct ((wr_new 4096 _ (by omega) (by omega)).mono ?_)
 rintro e V1 ⟨b, F1, rfl, hV1, hge1, j1⟩
 refine ⟨_, rfl, ?_⟩
 have ⟨K2, z3⟩ := j1.z0 K0
 refine kk 5 <| eq_ <| qr_ [0, 1, 2] <| kk 1 <| pP (len_ (some ⟨g, 0, none⟩) ts.length cap underlying205) <| kk 1 <| et_ <| bl_ 0 ?_
 refine sy_loop (qc79_0 244) (fun a V => ∃ (i : Nat) (F0 : Nat → Prop) (u4 u5 u9 u10 u21 u22 u23 u24 u25 u26 u27 u28 u29 u30 : Value), (a = ⟨#[iI 0, sS g ts.length cap, ud, ud, u4, u5, pT b 0, iI 0, ud, u9, u10, iI 0, .bool false, ud, .tuple #[pT b 0, iI 0], .tuple #[pT b 0, iI 0], pT b 0, iI 0, sS g ts.length cap, iN ts.length, iN i, u21, u22, u23, u24, u25, u26, u27, u28, u29, u30, ud, ud, ud, ud], []⟩) ∧ (i ≤ ts.length) ∧ (Wr V F0 b ⟨4096, byt ts i, 0⟩) ∧ (Keeps Nob w V) ∧ (Ge F0 w)) (fun a _ => ts.length - (intOf (a.tmps.getD 20 undef)).toNat) (by kernel_rfl) ?_ ?_
 ·exact ⟨0, F1, (.slice none 0 0), (iI 0), undef, undef, undef, undef, undef, undef, undef, undef, undef, undef, undef, undef, by kernel_rfl, by omega, hV1, K2, hge1⟩
 ·rintro a V4 ⟨i, F0, u4, u5, u9, u10, u21, u22, u23, u24, u25, u26, u27, u28, u29, u30, rfl, hi, h5, K6, hge⟩
  skip
  rcases ths_split h1 hok i hi with ⟨lt_i, x, gk, hti, hxv, hvk, hgk⟩ | ⟨lt_i, r, gk, hti, hrv, hvk, hgk⟩ | ⟨lt_i, k, gk, hti, hkv, hvk, hgk⟩ | eq_i
  ·have hsz := byt_succ hti
   have hbl := byt_le ts (i + 1)
   have hbe : (byt ts (i + 1)).length = (byt ts i).length + (Cod.enc x.toNat).length := by rw [hsz, List.length_append]; rfl
   refine qr_ [0] <| pP (dtT ((i : Int) < (ts.length : Int))) <| eq_ <| y_ <| s_ <| tq_ <| bl_ 1 <| qr_ [0, 1, 2] <| ppq (pT g i) (exec_cast (v := pT g (0 + i * 1)) (by simp) (ixs g 0 ts.length cap .i64 i 1 underlying205 (by omega))) <| ppq (.func (.func 164) #[] #[pT gk 0]) (ldc 219 g i ((cell_of_row _ _ _ _ _ _ ((K6.block g (lt_of_block h0) (fun x => x)).trans h0)).trans (hd_get hvk))) <| kk 1 <| eqr_ [0, 1, 2, 3] <| kk 2 ?_
   refine pcv 164 #[] #[pT gk 0] #[pT b 0, pT gk 0] (enters_of func164 (by kernel_rfl) rfl) ((vnum1_ok b gk x F0 (byt ts i) _ h5 ((K6.block gk (lt_of_block hgk) (fun x => x)).trans hgk) hxv (by omega)).mono ?_)
   rintro e V7 ⟨rfl, F', hV7, hS⟩
   rw [show byt ts i ++ (Cod.enc x.toNat) = byt ts (i + 1) from (byt_succ hti).symm] at hV7
   refine ⟨_, rfl, ?_⟩
   have K8 := K6.nr hS.1 hge
   have z9 := hS.1.size
   refine kk 1 <| eqr_ [0, 1] <| kk 2 <| en_ <| s_ <| blk_n <| tr_ [0, 1] <| pP (cwN (n := i + 1)) <| kk 1 <| et_ ?_
   refine ⟨⟨i + 1, F', u4, u5, (.func (.func 164) #[] #[pT gk 0]), (iI 0), (.bool true), (pT g i), (.func (.func 164) #[] #[pT gk 0]), (.func (.func 164) #[] #[pT gk 0]), (pT b 0), (iI 0), (iI 0), (.bool false), u29, (iN (i + 1)), by kernel_rfl, by omega, hV7, K8, (hS.ge hge K6.size)⟩, ?_⟩
   exact ltm (ts.length - (i + 1)) (ts.length - i)
  ·have hsz := byt_succ hti
   have hbl := byt_le ts (i + 1)
   have hbe : (byt ts (i + 1)).length = (byt ts i).length + (r).length := by rw [hsz, List.length_append]; rfl
   refine qr_ [0] <| pP (dtT ((i : Int) < (ts.length : Int))) <| eq_ <| y_ <| s_ <| tq_ <| bl_ 1 <| qr_ [0, 1, 2] <| ppq (pT g i) (exec_cast (v := pT g (0 + i * 1)) (by simp) (ixs g 0 ts.length cap .i64 i 1 underlying205 (by omega))) <| ppq (.func (.func 166) #[] #[pT gk 0]) (ldc 219 g i ((cell_of_row _ _ _ _ _ _ ((K6.block g (lt_of_block h0) (fun x => x)).trans h0)).trans (hd_get hvk))) <| kk 1 <| eqr_ [0, 1, 2, 3] <| kk 2 ?_
   refine pcv 166 #[] #[pT gk 0] #[pT b 0, pT gk 0] (enters_of func166 (by kernel_rfl) rfl) ((vroot1_ok b gk r F0 (byt ts i) _ h5 ((K6.block gk (lt_of_block hgk) (fun x => x)).trans hgk) hrv (by omega)).mono ?_)
   rintro e V10 ⟨rfl, F', hV10, hS⟩
   rw [show byt ts i ++ r = byt ts (i + 1) from (byt_succ hti).symm] at hV10
   refine ⟨_, rfl, ?_⟩
   have K11 := K6.nr hS.1 hge
   have z12 := hS.1.size
   refine kk 1 <| eqr_ [0, 1] <| kk 2 <| en_ <| s_ <| blk_n <| tr_ [0, 1] <| pP (cwN (n := i + 1)) <| kk 1 <| et_ ?_
   refine ⟨⟨i + 1, F', u4, u5, (.func (.func 166) #[] #[pT gk 0]), (iI 0), (.bool true), (pT g i), (.func (.func 166) #[] #[pT gk 0]), (.func (.func 166) #[] #[pT gk 0]), (pT b 0), (iI 0), (iI 0), (.bool false), u29, (iN (i + 1)), by kernel_rfl, by omega, hV10, K11, (hS.ge hge K6.size)⟩, ?_⟩
   exact ltm (ts.length - (i + 1)) (ts.length - i)
  ·exact hvk.elim
  ·show _
   refine qr_ [0] <| pP (dtF ((i : Int) < (ts.length : Int))) <| eq_ <| n_ <| sy_exit 0 (by kernel_rfl) <| then_e <| then_e <| blk_e <| tqr_ nl6_ <| kk 1 ?_
   refine pct ((Wr.done h5).mono ?_)
   rintro e V16 ⟨X, rfl, ⟨hX, hnX⟩, j16⟩
   have hX' : Row V16 5 1 X (allb ts).length (B (allb ts)) := by rw [← byt_all, ← eq_i]; exact hX
   refine ⟨_, rfl, ?_⟩
   have h17 : Wr V16 F0 b ⟨4096, byt ts i, 0⟩ := h5.keepsN j16
   have ⟨K18, z19⟩ := j16.z0 K6
   refine kk 4 <| eu_ <| so_ (.tuple #[X, iI 0]) ?_
   exact ⟨X, rfl, hX', fun j hj => by have := hnX j hj; have := K6.size; omega, K18⟩
theorem vwritten_ok (v : Value) (ts : List Thg) (vs : List Value) (w : World) (h0 : Row w 219 1 v ts.length vs) (h1 : ThsAt w vs ts) (hpos : 0 < ts.length) (hok : ∀ (k : Nat) (t : Thg), ts[k]? = some t → t.Ok) (hl : (allb ts).length ≤ 4096) (hmax : ts.length ≤ 1000) :
  Calls prog 151 #[iI 0, v] w fun e w' => ∃ X, e = .returned (.tuple #[X, iI 0]) ∧ Row w' 5 1 X (allb ts).length (B (allb ts)) ∧ NewFrom w.heap.size X ∧ Keeps Nob w w' := by
 obtain ⟨g, cap, rest, rfl, hg, _, _⟩ := row_open h0 hpos
 exact vwritten_row g cap ts vs rest w hg h1 hok hl hmax
def attT (a : Att) : List Thg := [.n 1, .n a.v, .n a.s, .n a.t, .h a.r]
def proT (a : Pro) : List Thg := [.n 2, .n a.v, .n a.h, .h a.r]
def Att.bare (a : Att) : List UInt8 := allb (attT a)
def Pro.bare (a : Pro) : List UInt8 := allb (proT a)
def Att.bytes (a : Att) : List UInt8 := allb (attT a ++ [.u a.g])
def Pro.bytes (a : Pro) : List UInt8 := allb (proT a ++ [.u a.g])
def zhash : List UInt8 := List.replicate 32 0
theorem zhash_len : zhash.length = 32 := by simp [zhash]
theorem att_okT {a : Att} (h : a.Ok) (hf : a.fine) : ∀ (k : Nat) (t : Thg), (attT a ++ [.n 0])[k]? = some t → t.Ok := fun k t ht => by
 obtain ⟨f1, f2, f3, f4, f5, f6⟩ := hf
 match k, ht with
 | 0, ht => cases ht; exact ⟨by omega, by omega⟩
 | 1, ht => cases ht; exact ⟨by omega, by omega⟩
 | 2, ht => cases ht; exact ⟨by omega, by omega⟩
 | 3, ht => cases ht; exact ⟨by omega, by omega⟩
 | 4, ht => cases ht; exact h.r
 | 5, ht => cases ht; exact ⟨by omega, by omega⟩
 | k + 6, ht => cases ht
theorem pro_okT {a : Pro} (h : a.Ok) (hf : a.fine) : ∀ (k : Nat) (t : Thg), (proT a ++ [.n 0])[k]? = some t → t.Ok := fun k t ht => by
 obtain ⟨f1, f2, f3, f4⟩ := hf
 match k, ht with
 | 0, ht => cases ht; exact ⟨by omega, by omega⟩
 | 1, ht => cases ht; exact ⟨by omega, by omega⟩
 | 2, ht => cases ht; exact ⟨by omega, by omega⟩
 | 3, ht => cases ht; exact h.r
 | 4, ht => cases ht; exact ⟨by omega, by omega⟩
 | k + 5, ht => cases ht
theorem okT_pre {ts : List Thg} {u : Thg} (h : ∀ (k : Nat) (t : Thg), (ts ++ [u])[k]? = some t → t.Ok) : ∀ (k : Nat) (t : Thg), ts[k]? = some t → t.Ok := fun k t ht => h k t (by rw [List.getElem?_append_left (List.getElem?_eq_some_iff.1 ht).1]; exact ht)
theorem enc10 (n : Nat) : (Cod.enc n).length ≤ 10 := Cod.enc_length n
theorem att_len {a : Att} (h : a.r.length = 32) : a.bytes.length ≤ 82 ∧ a.bare.length ≤ 72 := by
 have := enc10 (1 : Int).toNat; have := enc10 a.v.toNat; have := enc10 a.s.toNat; have := enc10 a.t.toNat; have := enc10 a.g
 simp only [Att.bytes, Att.bare, allb, attT, List.flatMap_cons, List.flatMap_nil, List.cons_append, List.nil_append, Thg.by, List.length_append, List.length_nil, h]
 omega
theorem pro_len {a : Pro} (h : a.r.length = 32) : a.bytes.length ≤ 72 ∧ a.bare.length ≤ 62 := by
 have := enc10 (2 : Int).toNat; have := enc10 a.v.toNat; have := enc10 a.h.toNat; have := enc10 a.g
 simp only [Pro.bytes, Pro.bare, allb, proT, List.flatMap_cons, List.flatMap_nil, List.cons_append, List.nil_append, Thg.by, List.length_append, List.length_nil, h]
 omega
theorem thing_info : (prog.info? 219).map (fun i => (i.zero, i.size, i.bytes)) = some (some .nilFunc, 1, 8) := by kernel_rfl
def qc80_1 (n : Nat) : Code := partOf f132 n
theorem vthings_ok (a : Att) (w : World) (hr : a.r.length = 32) :
  Calls prog 132 #[.agg (Att.c a)] w (fun e w' => ∃ gl vs, e = .returned (sS gl 5 5) ∧ Row w' 219 1 (sS gl 5 5) 5 vs ∧ ThsAt w' vs (attT a) ∧ NewFrom w.heap.size (sS gl 5 5) ∧ Keeps Nob w w') := by
 have K0 := kz0 w
 refine sf_ (qc80_1 1) func132 <| qr_ [0, 1] <| pbg 28 (Att.c a) fun V1 ga ega h2 j1 => ?_
 have n3 := nk ega K0
 have ⟨K4, z5⟩ := j1.z0 K0
 refine kk 1 <| eq_ <| anp 15 (fun W => (HP W ga (Att.c a) 28)) fun V6 j6 => ?_
 have ⟨K8, z9, h7⟩ := j6.z1 K4 h2
 refine kA [1] <| aV 2 _ (fun W hS => lc hS (Att.c_0 _)) <| kA [4] <| aV 5 _ (fun W hS => lc hS (Att.c_1 _)) <| kA [7] <| aV 8 _ (fun W hS => lc hS (Att.c_2 _)) <| kA [10] <| aV 11 (.agg (B a.r).toArray) (fun W hS => exec_load_seg 25 (.tmp 13) (by kernel_rfl) ga 3 (by kernel_rfl) (B a.r) _ _ _ hS (Att.c_seg _) underlying25 rfl (by rw [B_length, hr]; kernel_rfl)) <| an_o 0 ?_
 refine nct ((vnum_ok 1 _).mono ?_)
 rintro e V10 ⟨g1, rfl, hg1, ng1, j10⟩
 refine ⟨_, rfl, ?_⟩
 have ⟨K12, z13, h11⟩ := j10.z1 K8 h7
 refine ⟨h11, ?_⟩
 refine an_o 3 ?_
 refine nct ((vnum_ok a.v _).mono ?_)
 rintro e V14 ⟨g2, rfl, hg2, ng2, j14⟩
 refine ⟨_, rfl, ?_⟩
 have ⟨K17, z18, h15, h16⟩ := j14.z2 K12 h11 hg1
 refine ⟨h15, ?_⟩
 refine an_o 6 ?_
 refine nct ((vnum_ok a.s _).mono ?_)
 rintro e V19 ⟨g3, rfl, hg3, ng3, j19⟩
 refine ⟨_, rfl, ?_⟩
 have ⟨K23, z24, h20, h21, h22⟩ := j19.z3 K17 h15 h16 hg2
 refine ⟨h20, ?_⟩
 refine an_o 9 ?_
 refine nct ((vnum_ok a.t _).mono ?_)
 rintro e V25 ⟨g4, rfl, hg4, ng4, j25⟩
 refine ⟨_, rfl, ?_⟩
 have ⟨K30, z31, h26, h27, h28, h29⟩ := j25.z4 K23 h20 h21 h22 hg3
 refine ⟨h26, ?_⟩
 refine an_o 12 ?_
 refine nct ((vroot_ok a.r _).mono ?_)
 rintro e V32 ⟨g5, rfl, hg5, ng5, j32⟩
 refine ⟨_, rfl, ?_⟩
 have ⟨K38, z39, h33, h34, h35, h36⟩ := j32.z4 K30 h26 h27 h28 h29
 have h37 := j32.bk hg4
 refine ⟨h33, ?_⟩
 refine an_o 13 ?_
 obtain ⟨V40, eV40, gl, egl, h41, j40⟩ := alloc_step V32 (#[.func (.func 164) #[] #[pT g1 0], .func (.func 164) #[] #[pT g2 0], .func (.func 164) #[] #[pT g3 0], .func (.func 164) #[] #[pT g4 0], .func (.func 166) #[] #[pT g5 0]]) 219
 have := nq3 egl h33 h34 h35
 have := nq3 egl h36 h37 hg5
 have n48 := nk egl K38
 refine nrq (sS gl 5 5) (w' := V40) (by rw [← eV40, ← egl]; kernel_rfl) ?_
 have ⟨K55, z56, h49, h50, h51, h52⟩ := j40.z4 K38 h33 h34 h35 h36
 have ⟨h53, h54⟩ := j40.k2 h37 hg5
 refine ⟨h49, ?_⟩
 refine ako 14 ?_
 refine ane <| then_n <| u_ <| so_ (sS gl 5 5) ?_
 exact ⟨gl, _, rfl, row_of_block h41 rfl (by decide), (ThsAt.cons ⟨g1, rfl, h50⟩ (ThsAt.cons ⟨g2, rfl, h51⟩ (ThsAt.cons ⟨g3, rfl, h52⟩ (ThsAt.cons ⟨g4, rfl, h53⟩ (ThsAt.cons ⟨g5, rfl, h54⟩ (ThsAt.nil _)))))), NewFrom.ptr (by omega) _ _, K55⟩
def qc80_0 (n : Nat) : Code := partOf f131 n
theorem vthingsBlock_ok (a : Pro) (w : World) (hr : a.r.length = 32) :
  Calls prog 131 #[.agg (Pro.c a)] w (fun e w' => ∃ gl vs, e = .returned (sS gl 4 4) ∧ Row w' 219 1 (sS gl 4 4) 4 vs ∧ ThsAt w' vs (proT a) ∧ NewFrom w.heap.size (sS gl 4 4) ∧ Keeps Nob w w') := by
 have K0 := kz0 w
 refine sf_ (qc80_0 1) func131 <| qr_ [0, 1] <| pbg 37 (Pro.c a) fun V1 ga ega h2 j1 => ?_
 have n3 := nk ega K0
 have ⟨K4, z5⟩ := j1.z0 K0
 refine kk 1 <| eq_ <| anp 12 (fun W => (HP W ga (Pro.c a) 37)) fun V6 j6 => ?_
 have ⟨K8, z9, h7⟩ := j6.z1 K4 h2
 refine kA [1] <| aV 2 _ (fun W hS => lc hS (Pro.c_0 _)) <| kA [4] <| aV 5 _ (fun W hS => lc hS (Pro.c_1 _)) <| kA [7] <| aV 8 (.agg (B a.r).toArray) (fun W hS => exec_load_seg 25 (.tmp 10) (by kernel_rfl) ga 2 (by kernel_rfl) (B a.r) _ _ _ hS (Pro.c_seg _) underlying25 rfl (by rw [B_length, hr]; kernel_rfl)) <| an_o 0 ?_
 refine nct ((vnum_ok 2 _).mono ?_)
 rintro e V10 ⟨g1, rfl, hg1, ng1, j10⟩
 refine ⟨_, rfl, ?_⟩
 have ⟨K12, z13, h11⟩ := j10.z1 K8 h7
 refine ⟨h11, ?_⟩
 refine an_o 3 ?_
 refine nct ((vnum_ok a.v _).mono ?_)
 rintro e V14 ⟨g2, rfl, hg2, ng2, j14⟩
 refine ⟨_, rfl, ?_⟩
 have ⟨K17, z18, h15, h16⟩ := j14.z2 K12 h11 hg1
 refine ⟨h15, ?_⟩
 refine an_o 6 ?_
 refine nct ((vnum_ok a.h _).mono ?_)
 rintro e V19 ⟨g3, rfl, hg3, ng3, j19⟩
 refine ⟨_, rfl, ?_⟩
 have ⟨K23, z24, h20, h21, h22⟩ := j19.z3 K17 h15 h16 hg2
 refine ⟨h20, ?_⟩
 refine an_o 9 ?_
 refine nct ((vroot_ok a.r _).mono ?_)
 rintro e V25 ⟨g4, rfl, hg4, ng4, j25⟩
 refine ⟨_, rfl, ?_⟩
 have ⟨K30, z31, h26, h27, h28, h29⟩ := j25.z4 K23 h20 h21 h22 hg3
 refine ⟨h26, ?_⟩
 refine an_o 10 <| nbs 219 (#[.func (.func 164) #[] #[pT g1 0], .func (.func 164) #[] #[pT g2 0], .func (.func 164) #[] #[pT g3 0], .func (.func 166) #[] #[pT g4 0]]) 4 fun V32 gl egl h33 j32 => ?_
 have := nq3 egl h26 h27 h28
 have := nqk2 egl h29 hg4 K30
 have ⟨K45, z46, h40, h41, h42, h43⟩ := j32.z4 K30 h26 h27 h28 h29
 have h44 := j32.bk hg4
 refine ⟨h40, ?_⟩
 refine ako 11 ?_
 refine ane <| then_n <| u_ <| so_ (sS gl 4 4) ?_
 exact ⟨gl, _, rfl, row_of_block h33 rfl (by decide), (ThsAt.cons ⟨g1, rfl, h41⟩ (ThsAt.cons ⟨g2, rfl, h42⟩ (ThsAt.cons ⟨g3, rfl, h43⟩ (ThsAt.cons ⟨g4, rfl, h44⟩ (ThsAt.nil _))))), NewFrom.ptr (by omega) _ _, K45⟩
theorem vCheck_is (a : Att) {x : Int} (w : World) (hr : a.r.length = 32) (hx : a.err = x) : Calls prog 46 #[.agg (Att.c a)] w (RK w (iI x)) := by
 subst hx; exact vCheck_ok a w hr
theorem vCheckBlock_is (a : Pro) {x : Int} (w : World) (hr : a.r.length = 32) (hx : a.err = x) : Calls prog 51 #[.agg (Pro.c a)] w (RK w (iI x)) := by
 subst hx; exact vCheckBlock_ok a w hr
end
end Go.Proofs.YthmclmbeflbhhaaGreat
namespace Go.Kec
section
def W : Nat := 18446744073709551616
def rot (w n : Nat) : Nat := ((w <<< n) % W) ||| (w >>> (64 - n))
def R : List Nat := [0, 1, 62, 28, 27, 36, 44, 6, 55, 20, 3, 10, 43, 25, 39, 41, 45, 15, 21, 8, 18, 2, 61, 56, 14]
def g (s : List Nat) (i : Nat) : Nat := s.getD i 0
def col (s : List Nat) (x : Nat) : Nat := g s x ^^^ g s (x + 5) ^^^ g s (x + 10) ^^^ g s (x + 15) ^^^ g s (x + 20)
def dd (s : List Nat) (x : Nat) : Nat := col s ((x + 4) % 5) ^^^ rot (col s ((x + 1) % 5)) 1
def columns (s : List Nat) : List Nat := (List.range 25).map fun i => g s i ^^^ dd s (i % 5)
def src (j : Nat) : Nat := (j % 5 + 3 * (j / 5)) % 5 + 5 * (j % 5)
def moves (s : List Nat) : List Nat := (List.range 25).map fun j => rot (g s (src j)) (g R (src j))
def at_ (x y : Nat) : Nat := x % 5 + 5 * (y % 5)
def mixes (s : List Nat) : List Nat := (List.range 25).map fun i => g s i ^^^ ((W - 1 - g s (at_ (i % 5 + 1) (i / 5))) &&& g s (at_ (i % 5 + 2) (i / 5)))
def iota (k : Nat) (s : List Nat) : List Nat := s.set 0 (g s 0 ^^^ k)
def round (s : List Nat) (k : Nat) : List Nat := iota k (mixes (moves (columns s)))
def K : List Nat := [1, 32898, 9223372036854808714, 9223372039002292224, 32907, 2147483649, 9223372039002292353, 9223372036854808585, 138, 136, 2147516425, 2147483658, 2147516555, 9223372036854775947, 9223372036854808713, 9223372036854808579, 9223372036854808578, 9223372036854775936, 32778, 9223372039002259466, 9223372039002292353, 9223372036854808704, 2147483649, 9223372039002292232]
def perm (s : List Nat) : List Nat := K.foldl round s
def Ws (s : List Nat) : Prop := ∀ i, g s i < W
theorem g_map (f : Nat → Nat) (i : Nat) (h : i < 25) : g ((List.range 25).map f) i = f i := by
  simp [g, List.getD, h]
theorem g_big (s : List Nat) (i : Nat) (h : s.length ≤ i) : g s i = 0 := by
  simp [g, List.getD, List.getElem?_eq_none h]
theorem W_pos : 0 < W := by decide
theorem ws_map (f : Nat → Nat) (h : ∀ i, i < 25 → f i < W) : Ws ((List.range 25).map f) := by
  intro i
  by_cases hi : i < 25
  · rw [g_map f i hi]; exact h i hi
  · rw [g_big _ _ (by simp; omega)]; exact W_pos
theorem W_eq : W = 2 ^ 64 := by decide
theorem xor_lt {a b : Nat} (ha : a < W) (hb : b < W) : a ^^^ b < W := by rw [W_eq] at *; exact Nat.xor_lt_two_pow ha hb
theorem or_lt {a b : Nat} (ha : a < W) (hb : b < W) : a ||| b < W := by rw [W_eq] at *; exact Nat.or_lt_two_pow ha hb
theorem and_lt {a b : Nat} (hb : b < W) : a &&& b < W := by rw [W_eq] at *; exact Nat.and_lt_two_pow a hb
theorem shr_lt {a : Nat} (ha : a < W) (n : Nat) : a >>> n < W := by rw [Nat.shiftRight_eq_div_pow]; exact Nat.lt_of_le_of_lt (Nat.div_le_self _ _) ha
theorem rot_lt {a : Nat} (ha : a < W) (n : Nat) : rot a n < W := or_lt (Nat.mod_lt _ W_pos) (shr_lt ha _)
theorem col_lt {s : List Nat} (h : Ws s) (x : Nat) : col s x < W := xor_lt (xor_lt (xor_lt (xor_lt (h _) (h _)) (h _)) (h _)) (h _)
theorem dd_lt {s : List Nat} (h : Ws s) (x : Nat) : dd s x < W := xor_lt (col_lt h _) (rot_lt (col_lt h _) _)
theorem ws_columns {s : List Nat} (h : Ws s) : Ws (columns s) := ws_map _ fun _ _ => xor_lt (h _) (dd_lt h _)
theorem ws_moves {s : List Nat} (h : Ws s) : Ws (moves s) := ws_map _ fun _ _ => rot_lt (h _) _
theorem ws_mixes {s : List Nat} (h : Ws s) : Ws (mixes s) := ws_map _ fun _ _ => xor_lt (h _) (and_lt (h _))
theorem g_set (s : List Nat) (i j v : Nat) (h : i < s.length) : g (s.set i v) j = if i = j then v else g s j := by
  unfold g
  rw [List.getD_eq_getElem?_getD, List.getD_eq_getElem?_getD, List.getElem?_set]
  split
  · subst_vars; simp
  · rfl
theorem ws_iota {s : List Nat} (h : Ws s) {k : Nat} (hk : k < W) : Ws (iota k s) := by
  intro i
  unfold iota
  by_cases hs : 0 < s.length
  · rw [g_set _ _ _ _ hs]
    split
    · exact xor_lt (h _) hk
    · exact h i
  · have : s = [] := List.eq_nil_of_length_eq_zero (by omega)
    subst this; exact h i
theorem ws_round {s : List Nat} (h : Ws s) {k : Nat} (hk : k < W) : Ws (round s k) := ws_iota (ws_mixes (ws_moves (ws_columns h))) hk
theorem len_round (s : List Nat) (k : Nat) : (round s k).length = 25 := by simp [round, iota, mixes]
theorem len_columns (s : List Nat) : (columns s).length = 25 := by simp [columns]
theorem len_moves (s : List Nat) : (moves s).length = 25 := by simp [moves]
theorem len_mixes (s : List Nat) : (mixes s).length = 25 := by simp [mixes]
theorem K_lt : ∀ k ∈ K, k < W := by decide
theorem ws_fold (l : List Nat) (hl : ∀ k ∈ l, k < W) (s : List Nat) (h : Ws s) : Ws (l.foldl round s) := by
  induction l generalizing s with
  | nil => exact h
  | cons k r ih => exact ih (fun x hx => hl x (by simp [hx])) _ (ws_round h (hl k (by simp)))
theorem len_fold (l : List Nat) (s : List Nat) (h : s.length = 25) : (l.foldl round s).length = 25 := by
  induction l generalizing s with
  | nil => exact h
  | cons k r ih => exact ih _ (len_round _ _)
theorem ws_perm {s : List Nat} (h : Ws s) : Ws (perm s) := ws_fold K K_lt s h
theorem len_perm {s : List Nat} (h : s.length = 25) : (perm s).length = 25 := len_fold K s h
theorem sub_lt (a : Nat) : W - 1 - a < W := by have := W_pos; omega
def dest (i : Nat) : Nat := at_ (i / 5) (2 * (i % 5) + 3 * (i / 5))
theorem dest_lt (i : Nat) : dest i < 25 := by unfold dest at_; omega
theorem src_dest : ∀ i, i < 25 → src (dest i) = i := by decide
theorem dest_src : ∀ j, j < 25 → dest (src j) = j := by decide
theorem src_lt' : ∀ j, j < 25 → src j < 25 := by decide
theorem R_lt' : ∀ i, i < 25 → g R i < 64 := by decide
theorem at_lt (x y : Nat) : at_ x y < 25 := by unfold at_; omega
def stpD (d f : Nat → Nat) (k : Nat) (s : List Nat) : List Nat := (List.range k).foldl (fun t i => t.set (d i) (f i)) s
theorem stpD_succ (d f : Nat → Nat) (k : Nat) (s : List Nat) : stpD d f (k + 1) s = (stpD d f k s).set (d k) (f k) := by simp [stpD, List.range_succ]
theorem stpD_len (d f : Nat → Nat) (k : Nat) (s : List Nat) : (stpD d f k s).length = s.length := by
  induction k with
  | zero => rfl
  | succ k ih => rw [stpD_succ, List.length_set, ih]
theorem stpD_moves (f : Nat → Nat) (s : List Nat) (h : s.length = 25) : stpD dest f 25 s = (List.range 25).map fun j => f (src j) := by
  have key : ∀ k, k ≤ 25 → ∀ j, j < 25 → g (stpD dest f k s) j = if src j < k then f (src j) else g s j := by
    intro k
    induction k with
    | zero => intro _ j _; simp [stpD]
    | succ k ih =>
      intro hk j hj
      rw [stpD_succ, g_set _ _ _ _ (by rw [stpD_len, h]; exact dest_lt k), ih (by omega) j hj]
      by_cases e : dest k = j
      · subst e
        rw [if_pos rfl, src_dest k (by omega), if_pos (by omega)]
      · rw [if_neg e]
        have : src j ≠ k := fun e2 => e (by rw [← e2, dest_src j hj])
        by_cases h2 : src j < k
        · rw [if_pos h2, if_pos (by omega)]
        · rw [if_neg h2, if_neg (by omega)]
  apply List.ext_getElem (by simp [stpD_len, h])
  intro j h1 h2
  have hj : j < 25 := by rwa [stpD_len, h] at h1
  have := key 25 (by omega) j hj
  unfold g at this
  rw [List.getD_eq_getElem?_getD, List.getElem?_eq_getElem h1, if_pos (src_lt' j hj)] at this
  simpa using this
def regn : Nat → Nat
  | 0 => 1
  | k + 1 => if 256 ≤ 2 * regn k then ((2 * regn k) &&& 255) ^^^ 113 else 2 * regn k
def bitn (k : Nat) : Nat := regn k &&& 1
def outn : Nat → List Nat
  | 0 => List.replicate 24 0
  | k + 1 => (outn k).set (k / 7) (g (outn k) (k / 7) ||| (bitn k <<< (1 <<< (k % 7) - 1)) % W)
theorem regn_lt (k : Nat) : regn k < 256 := by
  induction k with
  | zero => decide
  | succ k ih =>
    unfold regn
    split
    · have h1 : (2 * regn k) &&& 255 < 2 ^ 8 := Nat.and_lt_two_pow _ (by decide)
      exact Nat.xor_lt_two_pow (n := 8) h1 (by decide)
    · omega
theorem bitn_lt (k : Nat) : bitn k < 2 := Nat.and_lt_two_pow (n := 1) _ (by decide)
theorem outn_K : outn 168 = K := by decide +kernel
theorem outn_len (k : Nat) : (outn k).length = 24 := by
  induction k with
  | zero => rfl
  | succ k ih => simp [outn, ih]
theorem ws_set {s : List Nat} (h : Ws s) (i v : Nat) (hv : v < W) : Ws (s.set i v) := by
  intro j
  by_cases hi : i < s.length
  · rw [g_set _ _ _ _ hi]
    split
    · exact hv
    · exact h j
  · rw [List.set_eq_of_length_le (by omega)]; exact h j
theorem ws_outn (k : Nat) : Ws (outn k) := by
  induction k with
  | zero =>
    intro i
    show g (List.replicate 24 0) i < W
    unfold g
    rw [List.getD_eq_getElem?_getD, List.getElem?_replicate]
    split <;> decide
  | succ k ih => exact ws_set ih _ _ (or_lt (ih _) (Nat.mod_lt _ W_pos))
def word : List UInt8 → Nat
  | [] => 0
  | b :: r => b.toNat + 256 * word r
def wordAt (blk : List UInt8) (i : Nat) : Nat := word ((blk.drop (8 * i)).take 8)
theorem word_lt (l : List UInt8) : word l < 256 ^ l.length := by
  induction l with
  | nil => decide
  | cons b r ih =>
    have := b.toNat_lt
    simp only [word, List.length_cons, Nat.pow_succ]
    omega
theorem wordAt_lt (blk : List UInt8) (i : Nat) : wordAt blk i < W := by
  have h := word_lt ((blk.drop (8 * i)).take 8)
  have h2 : ((blk.drop (8 * i)).take 8).length ≤ 8 := by simp; omega
  have h3 : (256 : Nat) ^ ((blk.drop (8 * i)).take 8).length ≤ 256 ^ 8 := Nat.pow_le_pow_right (by decide) h2
  have h4 : (256 : Nat) ^ 8 = W := by decide
  unfold wordAt
  omega
def mixin (s : List Nat) (blk : List UInt8) : List Nat := (List.range 25).map fun i => if i < 17 then g s i ^^^ wordAt blk i else g s i
def takes (s : List Nat) (blk : List UInt8) : List Nat := perm (mixin s blk)
def zero : List Nat := List.replicate 25 0
theorem ws_zero : Ws zero := by
  intro i
  unfold zero g
  rw [List.getD_eq_getElem?_getD, List.getElem?_replicate]
  split <;> decide
theorem ws_mixin {s : List Nat} (h : Ws s) (blk : List UInt8) : Ws (mixin s blk) := ws_map _ fun i _ => by
  split
  · exact xor_lt (h _) (wordAt_lt _ _)
  · exact h _
theorem len_mixin (s : List Nat) (blk : List UInt8) : (mixin s blk).length = 25 := by simp [mixin]
theorem ws_takes {s : List Nat} (h : Ws s) (blk : List UInt8) : Ws (takes s blk) := ws_perm (ws_mixin h blk)
theorem len_takes (s : List Nat) (blk : List UInt8) : (takes s blk).length = 25 := len_perm (len_mixin s blk)
def absorb : Nat → List Nat → List UInt8 → List Nat
  | 0, s, _ => s
  | n + 1, s, l => absorb n (takes s (l.take 136)) (l.drop 136)
theorem ws_absorb : ∀ (n : Nat) (s : List Nat) (l : List UInt8), Ws s → Ws (absorb n s l)
  | 0, _, _, h => h
  | n + 1, _, _, h => ws_absorb n _ _ (ws_takes h _)
theorem len_absorb : ∀ (n : Nat) (s : List Nat) (l : List UInt8), s.length = 25 → (absorb n s l).length = 25
  | 0, _, _, h => h
  | n + 1, _, _, _ => len_absorb n _ _ (len_takes _ _)
theorem absorb_more : ∀ (n : Nat) (s : List Nat) (l m : List UInt8), n * 136 ≤ l.length → absorb n s (l ++ m) = absorb n s l
  | 0, _, _, _, _ => rfl
  | n + 1, s, l, m, h => by
    unfold absorb
    rw [List.take_append_of_le_length (by omega), List.drop_append_of_le_length (by omega)]
    exact absorb_more n _ _ _ (by rw [List.length_drop]; omega)
theorem absorb_add : ∀ (n m : Nat) (s : List Nat) (l : List UInt8), absorb (n + m) s l = absorb m (absorb n s l) (l.drop (n * 136))
  | 0, m, s, l => by simp [absorb]
  | n + 1, m, s, l => by
    rw [show n + 1 + m = (n + m) + 1 by omega]
    show absorb (n + m) (takes s (l.take 136)) (l.drop 136) = absorb m (absorb n (takes s (l.take 136)) (l.drop 136)) (l.drop ((n + 1) * 136))
    rw [absorb_add n m, List.drop_drop]
    congr 2
    omega
theorem absorb_one (s : List Nat) (l : List UInt8) (h : l.length ≤ 136) : absorb 1 s l = takes s l := by
  show takes s (l.take 136) = takes s l
  rw [List.take_of_length_le h]
theorem getD_right (p r : List UInt8) (k : Nat) (d : UInt8) (h : p.length ≤ k) : (p ++ r).getD k d = r.getD (k - p.length) d := by
  rw [List.getD_eq_getElem?_getD, List.getElem?_append_right h, List.getD_eq_getElem?_getD]
def stateOf (l : List UInt8) : List Nat := absorb (l.length / 136) zero l
def restOf (l : List UInt8) : List UInt8 := l.drop (l.length / 136 * 136)
theorem ws_stateOf (l : List UInt8) : Ws (stateOf l) := ws_absorb _ _ _ ws_zero
theorem len_stateOf (l : List UInt8) : (stateOf l).length = 25 := len_absorb _ _ _ (by simp [zero])
theorem restOf_len (l : List UInt8) : (restOf l).length = l.length % 136 := by unfold restOf; rw [List.length_drop]; omega
theorem restOf_nil : restOf [] = [] := rfl
theorem sponge_some (l x : List UInt8) (h : (restOf l).length + x.length < 136) : stateOf (l ++ x) = stateOf l ∧ restOf (l ++ x) = restOf l ++ x := by
  rw [restOf_len] at h
  have e : (l ++ x).length / 136 = l.length / 136 := by rw [List.length_append]; omega
  unfold stateOf restOf
  rw [e]
  exact ⟨absorb_more _ _ _ _ (by omega), by rw [List.drop_append_of_le_length (by omega)]⟩
theorem sponge_fill (l x : List UInt8) (h : (restOf l).length + x.length = 136) : stateOf (l ++ x) = takes (stateOf l) (restOf l ++ x) ∧ restOf (l ++ x) = [] := by
  rw [restOf_len] at h
  have e : (l ++ x).length / 136 = l.length / 136 + 1 := by rw [List.length_append]; omega
  unfold stateOf restOf
  rw [e]
  refine ⟨?_, List.drop_of_length_le (by rw [List.length_append]; omega)⟩
  rw [absorb_add, absorb_more _ _ _ _ (by omega), List.drop_append_of_le_length (by omega)]
  exact absorb_one _ _ (by rw [List.length_append, List.length_drop]; omega)
def eight (w : Nat) : List UInt8 := (List.range 8).map fun i => UInt8.ofNat (w / 256 ^ i)
def squeeze (s : List Nat) : List UInt8 := eight (g s 0) ++ eight (g s 1) ++ eight (g s 2) ++ eight (g s 3)
theorem squeeze_len (s : List Nat) : (squeeze s).length = 32 := by simp [squeeze, eight]
def lastBlock (r : List UInt8) : List UInt8 :=
  let b := (r ++ 6 :: List.replicate (135 - r.length) 0)
  b.set 135 (b.getD 135 0 ^^^ 128)
def sum (l : List UInt8) : List UInt8 := squeeze (takes (stateOf l) (lastBlock (restOf l)))
theorem sum_len (l : List UInt8) : (sum l).length = 32 := squeeze_len _
def padded (l : List UInt8) : List UInt8 :=
  let b := l ++ 6 :: List.replicate (135 - l.length % 136) 0
  b.set (b.length - 1) (b.getD (b.length - 1) 0 ^^^ 128)
theorem padded_eq (l : List UInt8) : padded l = l.take (l.length / 136 * 136) ++ lastBlock (restOf l) := by
  have hr := restOf_len l
  have hl : l = l.take (l.length / 136 * 136) ++ restOf l := (List.take_append_drop _ _).symm
  obtain ⟨p, hp⟩ : ∃ p, l.take (l.length / 136 * 136) = p := ⟨_, rfl⟩
  obtain ⟨r, hrr⟩ : ∃ r, restOf l = r := ⟨_, rfl⟩
  rw [hp, hrr] at hl
  rw [hrr] at hr
  have hpl : p.length = l.length / 136 * 136 := by rw [← hp, List.length_take]; omega
  have hlt : r.length < 136 := by omega
  rw [hp, hrr]
  unfold padded lastBlock
  rw [← hr]
  have hlen : (l ++ 6 :: List.replicate (135 - r.length) 0).length = p.length + 136 := by
    rw [hl]; simp; omega
  simp only [hlen]
  rw [show p.length + 136 - 1 = p.length + 135 by omega, hl, List.append_assoc]
  rw [List.set_append, if_neg (by omega), getD_right _ _ _ _ (by omega)]
  rw [show p.length + 135 - p.length = 135 by omega]
theorem lastBlock_len (r : List UInt8) (h : r.length < 136) : (lastBlock r).length = 136 := by
  unfold lastBlock; simp; omega
theorem padded_len (l : List UInt8) : (padded l).length = (l.length / 136 + 1) * 136 := by
  rw [padded_eq, List.length_append, lastBlock_len _ (by rw [restOf_len]; omega), List.length_take]; omega
theorem sum_padded (l : List UInt8) : sum l = squeeze (absorb ((padded l).length / 136) zero (padded l)) := by
  rw [padded_len, padded_eq, Nat.mul_div_cancel _ (by decide), absorb_add, absorb_more _ _ _ _ (by rw [List.length_take]; omega)]
  have h1 : (l.take (l.length / 136 * 136)).length = l.length / 136 * 136 := by rw [List.length_take]; omega
  have h2 : (l.take (l.length / 136 * 136)).drop (l.length / 136 * 136) = [] := List.drop_of_length_le (by omega)
  rw [List.drop_append_of_le_length (by omega), h2, List.nil_append, absorb_one _ _ (by rw [lastBlock_len _ (by rw [restOf_len]; omega)]; omega)]
  unfold sum
  congr 2
  unfold stateOf
  have := absorb_more (l.length / 136) zero (l.take (l.length / 136 * 136)) (l.drop (l.length / 136 * 136)) (by omega)
  rw [List.take_append_drop] at this
  exact this
end
end Go.Kec
namespace Go.Proofs.YthmclmbeflbhhaaGreat
section
open Go Go.RowKit Go.Own Go.Shelf
def Wz (s : List Nat) : Array Value := (s.map fun (x : Nat) => Value.int .u64 (x : Int)).toArray
theorem Wz_get (s : List Nat) (i : Nat) (h : i < s.length) : (Wz s)[i]? = some (.int .u64 ((Kec.g s i : Nat) : Int)) := by
 simp [Wz, Kec.g, List.getElem?_eq_getElem h]
theorem Wz_get' (s : List Nat) (i v : Nat) (h : i < s.length) (hv : Kec.g s i = v) : (Wz s)[i]? = some (.int .u64 (v : Int)) := hv ▸ Wz_get s i h
theorem Wz_set (s : List Nat) (i v : Nat) : (Wz s).setIfInBounds i (.int .u64 (v : Int)) = Wz (s.set i v) := by
 simp [Wz, List.map_set]
theorem Wz_size (s : List Nat) : (Wz s).size = s.length := by simp [Wz]
theorem Wz_one (s : List Nat) : (Wz s).all (·.oneCell') = true := by
 simp only [Array.all_eq_true_iff_forall_mem]
 intro x hx
 simp only [Wz, List.mem_toArray, List.mem_map] at hx
 obtain ⟨j, _, rfl⟩ := hx
 rfl
theorem xorU (a b : Nat) (ha : a < Kec.W) (hb : b < Kec.W) : Value.int .u64 (bits .xor .u64 (a : Int) (b : Int)) = .int .u64 ((a ^^^ b : Nat) : Int) := congrArg _ (u64_xor_nat a b ha hb)
theorem andU (a b : Nat) (ha : a < Kec.W) (hb : b < Kec.W) : Value.int .u64 (bits .and .u64 (a : Int) (b : Int)) = .int .u64 ((a &&& b : Nat) : Int) := congrArg _ (u64_and_nat a b ha hb)
theorem orU (a b : Nat) (ha : a < Kec.W) (hb : b < Kec.W) : Value.int .u64 (bits .or .u64 (a : Int) (b : Int)) = .int .u64 ((a ||| b : Nat) : Int) := congrArg _ (u64_or_nat a b ha hb)
def stp (f : Nat → Nat) (k : Nat) (s : List Nat) : List Nat := (List.range k).foldl (fun t i => t.set i (f i)) s
theorem stp_zero (f : Nat → Nat) (s : List Nat) : stp f 0 s = s := rfl
theorem stp_succ (f : Nat → Nat) (k : Nat) (s : List Nat) : stp f (k + 1) s = (stp f k s).set k (f k) := by simp [stp, List.range_succ]
theorem stp_len (f : Nat → Nat) (k : Nat) (s : List Nat) : (stp f k s).length = s.length := by
 induction k with
 | zero => rfl
 | succ k ih => rw [stp_succ, List.length_set, ih]
theorem stp_get (f : Nat → Nat) (k : Nat) (s : List Nat) (i : Nat) (hi : i < s.length) : Kec.g (stp f k s) i = if i < k then f i else Kec.g s i := by
 induction k with
 | zero => simp [stp_zero]
 | succ k ih =>
  rw [stp_succ]
  by_cases hk : k < s.length
  ·rw [Kec.g_set _ _ _ _ (by rw [stp_len]; exact hk), ih]
   by_cases h1 : k = i
   ·subst h1; simp
   ·rw [if_neg h1]
    by_cases h2 : i < k
    ·rw [if_pos h2, if_pos (by omega)]
    ·rw [if_neg h2, if_neg (by omega)]
  ·rw [List.set_eq_of_length_le (by rw [stp_len]; omega), ih, if_pos (by omega), if_pos (by omega)]
theorem stp_all (f : Nat → Nat) (s : List Nat) (n : Nat) (h : s.length = n) : stp f n s = (List.range n).map f := by
 apply List.ext_getElem (by simp [stp_len, h])
 intro i h1 h2
 have hi : i < s.length := by rwa [stp_len] at h1
 have := stp_get f n s i hi
 unfold Kec.g at this
 rw [List.getD_eq_getElem?_getD, List.getElem?_eq_getElem h1, if_pos (by omega)] at this
 simpa using this
theorem run_shlU {P : Program} {w : World} (t : TypeId) (yk : IntKind) (x n : Nat) (hn : n ≤ 64) : (binOp .shl t (.int .u64 (x : Int)) (.int yk (n : Int))).run P w = .ok (.int .u64 (((x <<< n) % Kec.W : Nat) : Int)) w := by
 rw [binOp_shl, shift_shl .u64 yk (x : Int) (n : Int) (by omega) (by show (n : Int) ≤ 64; omega)]
 have e : IntKind.u64.wrap ((x : Int) * 2 ^ (n : Int).toNat) = (((x <<< n) % Kec.W : Nat) : Int) := by
  show ((x : Int) * 2 ^ n % (2 ^ 64 : Int)) = _
  rw [Nat.shiftLeft_eq, Int.natCast_emod, Int.natCast_mul, Int.natCast_pow]
  rfl
 rw [e]; rfl
theorem run_shrU {P : Program} {w : World} (t : TypeId) (yk : IntKind) (x n : Nat) (hn : n ≤ 64) : (binOp .shr t (.int .u64 (x : Int)) (.int yk (n : Int))).run P w = .ok (.int .u64 ((x >>> n : Nat) : Int)) w := by
 rw [binOp_shr, shift_shr .u64 yk (x : Int) (n : Int) (by omega) (by show (n : Int) ≤ 64; omega)]
 have e : (x : Int) / 2 ^ (n : Int).toNat = ((x >>> n : Nat) : Int) := by
  rw [Nat.shiftRight_eq_div_pow, Int.natCast_ediv, Int.natCast_pow]; rfl
 rw [e]; rfl
theorem notN (x : Nat) (h : x < Kec.W) : (Kec.W - 1) ^^^ x = Kec.W - 1 - x := by
 apply Nat.eq_of_testBit_eq
 intro z
 rw [Kec.W_eq] at *
 have h1 := Nat.testBit_two_pow_sub_succ (n := 64) (x := 0) (by decide) z
 have h2 := Nat.testBit_two_pow_sub_succ (n := 64) (x := x) h z
 rw [Nat.testBit_xor, show 2 ^ 64 - 1 - x = 2 ^ 64 - (x + 1) by omega, h2, show 2 ^ 64 - 1 = 2 ^ 64 - (0 + 1) by omega, h1]
 by_cases hz : z < 64
 ·simp [hz]
 ·have := Nat.testBit_lt_two_pow (Nat.lt_of_lt_of_le h (Nat.pow_le_pow_right (show 0 < 2 by decide) (show 64 ≤ z by omega)))
  simp [hz, this]
theorem notU (x : Nat) (h : x < Kec.W) : Value.int .u64 (bits .xor .u64 18446744073709551615 (x : Int)) = .int .u64 ((Kec.W - 1 - x : Nat) : Int) := by
 rw [← notN x h]
 exact xorU (Kec.W - 1) x (by decide) h
def Rz : Array Value := (Kec.R.map fun (x : Nat) => Value.int .i64 (x : Int)).toArray
theorem Rz_get (k : Nat) (h : k < 25) : Rz[k]? = some (iI ((Kec.g Kec.R k : Nat) : Int)) := by
 have : Kec.R.length = 25 := rfl
 simp [Rz, Kec.g, List.getElem?_eq_getElem (show k < Kec.R.length by omega)]
theorem rotl_and (n : Nat) (h : n < 64) : bits .and .u64 (n : Int) 63 = (n : Int) := by
 have := u64_and_nat n 63 (by omega) (by decide)
 rw [show ((63 : Nat) : Int) = 63 from rfl] at this
 rw [this, Nat.and_two_pow_sub_one_eq_mod n 6, Nat.mod_eq_of_lt (by omega)]
def part_kat (n : Nat) : Code := partOf f194 n
theorem kat_ok (x y : Nat) (w : World) (hx : x ≤ 1000) (hy : y ≤ 1000) :
  Calls prog 194 #[iI (x : Int), iI (y : Int)] w (fun e w' => e = .returned (iI ((Kec.at_ x y : Nat) : Int)) ∧ w = w') := by
 have K0 := kz0 w
 refine sf_ (part_kat 1) func194 <| qr_ [0] <| kk 1 <| eqr_ nl7_ <| kk 4 <| pP (cwN (n := 5 * (y % 5))) <| pP (cwN (n := (x % 5) + (5 * (y % 5)))) <| kk 1 <| eu_ <| so_ (iI (((x % 5) + (5 * (y % 5)) : Nat) : Int)) ?_
 exact ⟨rfl, rfl⟩
theorem kat_as (x y r : Nat) (w : World) (hx : x ≤ 1000) (hy : y ≤ 1000) (h : Kec.at_ x y = r) : Calls prog 194 #[iI (x : Int), iI (y : Int)] w fun e w' => e = .returned (iI (r : Int)) ∧ w = w' := h ▸ kat_ok x y w hx hy
def qc82_4 (n : Nat) : Code := partOf f195 n
theorem rotl_ok (x n : Nat) (w : World) (hx : x < Kec.W) (hn : n < 64) :
  Calls prog 195 #[.int .u64 (x : Int), iI (n : Int)] w (fun e w' => e = .returned (.int .u64 ((Kec.rot x n : Nat) : Int)) ∧ w = w') := by
 have K0 := kz0 w
 refine sf_ (qc82_4 1) func195 <| qr_ [0] <| kk 1 <| eqr_ [0, 1, 2, 3] <| kk 1 <| ppq (uN n) (exec_cast (congrArg (Value.int .u64) (wrapU n (by omega))) (by kernel_rfl)) <| ppq (uN n) (exec_cast (congrArg (Value.int .u64) (rotl_and n hn)) (by kernel_rfl)) <| kk 1 <| eqr_ nl9_ <| kk 2 <| ppq (uN ((x <<< n) % Kec.W)) (exec_binop .shl 26 254 (.tmp 9) (.tmp 10) (by kernel_rfl) (uN x) (uN n) _ (by kernel_rfl) (by kernel_rfl) (by kernel_rfl) (run_shlU _ _ x n (by omega))) <| kk 2 <| ppq (uN (64 - n)) (exec_cast (v := .int .u64 (IntKind.u64.wrap ((64 : Int) - (n : Int)))) (congrArg (Value.int .u64) (by rw [show (64 : Int) - (n : Int) = ((64 - n : Nat) : Int) by omega]; exact wrapU _ (by omega))) (by kernel_rfl)) <| ppq (uN (x >>> (64 - n))) (exec_binop .shr 26 254 (.tmp 12) (.tmp 14) (by kernel_rfl) (uN x) (uN (64 - n)) _ (by kernel_rfl) (by kernel_rfl) (by kernel_rfl) (run_shrU _ _ x (64 - n) (by omega))) <| ppq (uN (((x <<< n) % Kec.W) ||| (x >>> (64 - n)))) (exec_cast (orU ((x <<< n) % Kec.W) (x >>> (64 - n)) (Nat.mod_lt _ Kec.W_pos) (Kec.shr_lt hx _)) (by kernel_rfl)) <| kk 1 <| eu_ <| so_ (.int .u64 ((((x <<< n) % Kec.W) ||| (x >>> (64 - n)) : Nat) : Int)) ?_
 exact ⟨rfl, rfl⟩
theorem g_map5 (f : Nat → Nat) (i : Nat) (h : i < 5) : Kec.g ((List.range 5).map f) i = f i := by simp [Kec.g, h]
def qc82_0 (n : Nat) : Code := partOf f188 n
abbrev qo82_0 (n k : Nat) : Oper := (opsAt (qc82_0 n)).getD k default
theorem kcolumns_ok (b : Nat) (s : List Nat) (w : World) (hs : s.length = 25) (ws : Kec.Ws s) (hb : HP w b (Wz s) 229) :
  Calls prog 188 #[pT b 0] w (fun e w' => e = .returned (.tuple #[]) ∧ HP w' b (Wz (Kec.columns s)) 229 ∧ Keeps (One b) w w') := by
 have K0 := Keeps.refl (One b) w
 refine sf_ (qc82_0 1) func188 <| qr_ [0] <| pag 255 (zr_u64_5) fun V1 gc egc h2 j1 => ?_
 have := nqk1 egc hb K0
 have ⟨K6, h5⟩ := j1.K1 K0 hb
 refine eq_ <| qr_ [0] <| kk 1 <| et_ <| bl_ 0 ?_
 refine sy_loop (qc82_0 52) (fun a V => ∃ (k : Nat), (Fr 72 [(0, pT b 0), (2, pT gc 0), (6, iN k)] [] a) ∧ (k ≤ 5) ∧ (HP V b (Wz s) 229) ∧ (HP V gc (Wz (stp (Kec.col s) k [0, 0, 0, 0, 0])) 255) ∧ (Keeps (One b) w V)) (fun a _ => 5 - (intOf (a.tmps.getD 6 undef)).toNat) (by kernel_rfl) ?_ ?_
 ·exact ⟨0, fq, by omega, h5, h2.trans (by kernel_rfl), K6⟩
 ·rintro a V7 ⟨k, hfr, hk, h8, h9, K10⟩
  obtain ⟨uu11, rfl⟩ := Fr.open hfr
  by_cases lt_k : k < 5
  ·show _
   refine qr_ [0] <| pP (dtT ((k : Int) < ((5) : Int))) <| eq_ <| y_ <| s_ <| tq_ <| bl_ 1 <| qr_ [0, 1] <| kk 2 <| et_ <| rgp 36 (zo36_ (qo82_0 1689)) [qo82_0 1689 36] fun V13 j13 => ?_
   have ⟨K16, h14, h15⟩ := j13.K2 K10 h8 h9
   refine ks 3 <| scq 194 #[iN k, iI 0] (iN k) func194 (kat_as k 0 k _ (by omega) (by omega) (by unfold Kec.at_; omega)) <| ks 1 <| spq (pT b k) (exec_cast (v := pT b (0 + k * 1)) (by simp) (ixa b 0 .i64 k 1 underlying229 (by omega))) <| spq (uN (Kec.g s k)) (lc h14 (Wz_get _ k (by rw [hs]; omega)) (k := k)) <| ks 2 <| scq 194 #[iN k, iI 1] (iN (k + 5)) func194 (kat_as k 1 (k + 5) _ (by omega) (by omega) (by unfold Kec.at_; omega)) <| ks 1 <| spq (pT b (k + 5)) (exec_cast (v := pT b (0 + (k + 5) * 1)) (by simp) (ixa b 0 .i64 (k + 5) 1 underlying229 (by omega))) <| spq (uN (Kec.g s (k + 5))) (lc h14 (Wz_get _ (k + 5) (by rw [hs]; omega)) (k := k + 5)) <| spq (uN ((Kec.g s k) ^^^ (Kec.g s (k + 5)))) (exec_cast (xorU (Kec.g s k) (Kec.g s (k + 5)) (ws _) (ws _)) (by kernel_rfl)) <| ks 2 <| scq 194 #[iN k, iI 2] (iN (k + 10)) func194 (kat_as k 2 (k + 10) _ (by omega) (by omega) (by unfold Kec.at_; omega)) <| ks 1 <| spq (pT b (k + 10)) (exec_cast (v := pT b (0 + (k + 10) * 1)) (by simp) (ixa b 0 .i64 (k + 10) 1 underlying229 (by omega))) <| spq (uN (Kec.g s (k + 10))) (lc h14 (Wz_get _ (k + 10) (by rw [hs]; omega)) (k := k + 10)) <| spq (uN (((Kec.g s k) ^^^ (Kec.g s (k + 5))) ^^^ (Kec.g s (k + 10)))) (exec_cast (xorU ((Kec.g s k) ^^^ (Kec.g s (k + 5))) (Kec.g s (k + 10)) (Kec.xor_lt (ws _) (ws _)) (ws _)) (by kernel_rfl)) <| ks 2 <| scq 194 #[iN k, iI 3] (iN (k + 15)) func194 (kat_as k 3 (k + 15) _ (by omega) (by omega) (by unfold Kec.at_; omega)) <| ks 1 <| spq (pT b (k + 15)) (exec_cast (v := pT b (0 + (k + 15) * 1)) (by simp) (ixa b 0 .i64 (k + 15) 1 underlying229 (by omega))) <| spq (uN (Kec.g s (k + 15))) (lc h14 (Wz_get _ (k + 15) (by rw [hs]; omega)) (k := k + 15)) <| spq (uN ((((Kec.g s k) ^^^ (Kec.g s (k + 5))) ^^^ (Kec.g s (k + 10))) ^^^ (Kec.g s (k + 15)))) (exec_cast (xorU (((Kec.g s k) ^^^ (Kec.g s (k + 5))) ^^^ (Kec.g s (k + 10))) (Kec.g s (k + 15)) (Kec.xor_lt (Kec.xor_lt (ws _) (ws _)) (ws _)) (ws _)) (by kernel_rfl)) ?_
   refine ks 2 <| scq 194 #[iN k, iI 4] (iN (k + 20)) func194 (kat_as k 4 (k + 20) _ (by omega) (by omega) (by unfold Kec.at_; omega)) <| ks 1 <| spq (pT b (k + 20)) (exec_cast (v := pT b (0 + (k + 20) * 1)) (by simp) (ixa b 0 .i64 (k + 20) 1 underlying229 (by omega))) <| spq (uN (Kec.g s (k + 20))) (lc h14 (Wz_get _ (k + 20) (by rw [hs]; omega)) (k := k + 20)) <| spq (uN (((((Kec.g s k) ^^^ (Kec.g s (k + 5))) ^^^ (Kec.g s (k + 10))) ^^^ (Kec.g s (k + 15))) ^^^ (Kec.g s (k + 20)))) (exec_cast (xorU ((((Kec.g s k) ^^^ (Kec.g s (k + 5))) ^^^ (Kec.g s (k + 10))) ^^^ (Kec.g s (k + 15))) (Kec.g s (k + 20)) (Kec.xor_lt (Kec.xor_lt (Kec.xor_lt (ws _) (ws _)) (ws _)) (ws _)) (ws _)) (by kernel_rfl)) <| spq (pT gc k) (exec_cast (v := pT gc (0 + k * 1)) (by simp) (ixa gc 0 .i64 k 1 underlying255 (by omega))) <| st_end ?_
   obtain ⟨V17, eV17, j17⟩ := cell_step V13 gc k (.int .u64 ((((((Kec.g s k) ^^^ (Kec.g s (k + 5))) ^^^ (Kec.g s (k + 10))) ^^^ (Kec.g s (k + 15))) ^^^ (Kec.g s (k + 20)) : Nat) : Int))
   have h18 : HP V17 gc (Wz (stp (Kec.col s) (k + 1) [0, 0, 0, 0, 0])) 255 := eV17 ▸ ((heap_setCell_same _ gc k _ _ (.int .u64 ((((((Kec.g s k) ^^^ (Kec.g s (k + 5))) ^^^ (Kec.g s (k + 10))) ^^^ (Kec.g s (k + 15))) ^^^ (Kec.g s (k + 20)) : Nat) : Int)) h15).trans (congrArg (fun c => some (Obj.cells c 255 (0, 0))) (show (Wz (stp (Kec.col s) k [0, 0, 0, 0, 0]) : Array Value).setIfInBounds k (.int .u64 ((((((Kec.g s k) ^^^ (Kec.g s (k + 5))) ^^^ (Kec.g s (k + 10))) ^^^ (Kec.g s (k + 15))) ^^^ (Kec.g s (k + 20)) : Nat) : Int)) = Wz (stp (Kec.col s) (k + 1) [0, 0, 0, 0, 0]) from by rw [Wz_set]; exact congrArg Wz (by rw [stp_succ] <;> rfl))))
   refine ls_skip (qo82_0 1689 36) (w' := V17) (by kernel_rfl) (by rw [← eV17]; exact exec_store_cell 26 (.tmp 44) (.tmp 43) (by kernel_rfl) gc k (by kernel_rfl) (.int .u64 ((((((Kec.g s k) ^^^ (Kec.g s (k + 5))) ^^^ (Kec.g s (k + 10))) ^^^ (Kec.g s (k + 15))) ^^^ (Kec.g s (k + 20)) : Nat) : Int)) (by kernel_rfl) (by kernel_rfl) (by kernel_rfl) (.int .u64 ((Kec.g (stp (Kec.col s) k [0, 0, 0, 0, 0]) k : Nat) : Int)) (rc h15 (Wz_get _ k (by rw [stp_len, show ([0, 0, 0, 0, 0] : List Nat).length = 5 from rfl]; omega))) (frozen_of_row _ _ _ _ _ h15) (by kernel_rfl)) ?_
   clear eV17
   have ⟨K20, h19⟩ := j17.Ko1 K16 h14
   refine ls_end <| blk_n <| tr_ [0, 1] <| pP (cwN (n := k + 1)) <| kk 1 <| et_ ?_
   refine ⟨⟨k + 1, fq, by omega, h19, h18, K20⟩, ?_⟩
   exact ltm (5 - (k + 1)) (5 - k)
  ·have eq_k : k = 5 := by omega
   have h21 : HP V7 gc (Wz ((List.range 5).map (Kec.col s))) 255 := h9.trans (by rw [eq_k, stp_all _ _ 5 rfl])
   refine qr_ [0] <| pP (dtF ((k : Int) < ((5) : Int))) <| eq_ <| n_ <| sy_exit 0 (by kernel_rfl) <| then_e <| then_e <| blk_e <| tqr_ [0] <| kk 1 <| et_ <| bl_ 2 ?_
   refine sy_loop (qc82_0 60) (fun a V => ∃ (j : Nat), (Fr 72 [(0, pT b 0), (2, pT gc 0), (46, iN j)] [] a) ∧ (j ≤ 25) ∧ (HP V b (Wz (stp (fun i => Kec.g s i ^^^ Kec.dd s (i % 5)) j s)) 229) ∧ (HP V gc (Wz ((List.range 5).map (Kec.col s))) 255) ∧ (Keeps (One b) w V)) (fun a _ => 25 - (intOf (a.tmps.getD 46 undef)).toNat) (by kernel_rfl) ?_ ?_
   ·exact ⟨0, fq, by omega, h8, h21, K10⟩
   ·rintro a V22 ⟨j, hfr, hj, h23, h24, K25⟩
    obtain ⟨uu26, rfl⟩ := Fr.open hfr
    by_cases lt_j : j < 25
    ·show _
     refine qr_ [0] <| pP (dtT ((j : Int) < ((25) : Int))) <| eq_ <| y_ <| s_ <| tq_ <| bl_ 3 <| qr_ [0, 1] <| kk 2 <| eqr_ [0, 1, 2] <| kk 3 <| et_ <| rgp 20 (zo20_ (qo82_0 3891)) [qo82_0 3891 20] fun V28 j28 => ?_
     have ⟨K31, h29, h30⟩ := j28.K2 K25 h23 h24
     refine ks 3 <| spq (pT b j) (exec_cast (v := pT b (0 + j * 1)) (by simp) (ixa b 0 .i64 j 1 underlying229 (by omega))) <| spq (uN (Kec.g s j)) (lc h29 (Wz_get' _ j _ (by rw [stp_len, hs]; omega) (by rw [stp_get _ _ _ _ (by omega), if_neg (by omega)])) (k := j)) <| ks 1 <| spq _ (cwN (n := (j % 5) + 4)) <| ks 1 <| spq (pT gc (((j % 5) + 4) % 5)) (exec_cast (v := pT gc (0 + (((j % 5) + 4) % 5) * 1)) (by simp) (ixa gc 0 .i64 (((j % 5) + 4) % 5) 1 underlying255 (by omega))) <| spq (uN (Kec.col s (((j % 5) + 4) % 5))) (exec_ld 26 (.tmp 59) gc (((j % 5) + 4) % 5) underlying26 (rc h30 (Wz_get' _ (((j % 5) + 4) % 5) _ (by rw [List.length_map, List.length_range]; omega) (g_map5 _ _ (by omega))))) <| ks 1 <| spq _ (cwN (n := (j % 5) + 1)) <| ks 1 <| spq (pT gc (((j % 5) + 1) % 5)) (exec_cast (v := pT gc (0 + (((j % 5) + 1) % 5) * 1)) (by simp) (ixa gc 0 .i64 (((j % 5) + 1) % 5) 1 underlying255 (by omega))) <| spq (uN (Kec.col s (((j % 5) + 1) % 5))) (exec_ld 26 (.tmp 64) gc (((j % 5) + 1) % 5) underlying26 (rc h30 (Wz_get' _ (((j % 5) + 1) % 5) _ (by rw [List.length_map, List.length_range]; omega) (g_map5 _ _ (by omega))))) <| scq 195 #[uN (Kec.col s (((j % 5) + 1) % 5)), iI 1] (uN (Kec.rot (Kec.col s (((j % 5) + 1) % 5)) 1)) func195 (rotl_ok (Kec.col s (((j % 5) + 1) % 5)) 1 _ (Kec.col_lt ws _) (by omega)) <| spq (uN ((Kec.col s (((j % 5) + 4) % 5)) ^^^ (Kec.rot (Kec.col s (((j % 5) + 1) % 5)) 1))) (exec_cast (xorU (Kec.col s (((j % 5) + 4) % 5)) (Kec.rot (Kec.col s (((j % 5) + 1) % 5)) 1) (Kec.col_lt ws _) (Kec.rot_lt (Kec.col_lt ws _) _)) (by kernel_rfl)) <| spq (uN ((Kec.g s j) ^^^ ((Kec.col s (((j % 5) + 4) % 5)) ^^^ (Kec.rot (Kec.col s (((j % 5) + 1) % 5)) 1)))) (exec_cast (xorU (Kec.g s j) ((Kec.col s (((j % 5) + 4) % 5)) ^^^ (Kec.rot (Kec.col s (((j % 5) + 1) % 5)) 1)) (ws _) (Kec.xor_lt (Kec.col_lt ws _) (Kec.rot_lt (Kec.col_lt ws _) _))) (by kernel_rfl)) <| ks 1 <| spq (pT b j) (exec_cast (v := pT b (0 + j * 1)) (by simp) (ixa b 0 .i64 j 1 underlying229 (by omega))) <| st_end ?_
     obtain ⟨V32, eV32, j32⟩ := cell_step V28 b j (.int .u64 (((Kec.g s j) ^^^ ((Kec.col s (((j % 5) + 4) % 5)) ^^^ (Kec.rot (Kec.col s (((j % 5) + 1) % 5)) 1)) : Nat) : Int))
     have h33 : HP V32 b (Wz (stp (fun i => Kec.g s i ^^^ Kec.dd s (i % 5)) (j + 1) s)) 229 := eV32 ▸ ((heap_setCell_same _ b j _ _ (.int .u64 (((Kec.g s j) ^^^ ((Kec.col s (((j % 5) + 4) % 5)) ^^^ (Kec.rot (Kec.col s (((j % 5) + 1) % 5)) 1)) : Nat) : Int)) h29).trans (congrArg (fun c => some (Obj.cells c 229 (0, 0))) (show (Wz (stp (fun i => Kec.g s i ^^^ Kec.dd s (i % 5)) j s) : Array Value).setIfInBounds j (.int .u64 (((Kec.g s j) ^^^ ((Kec.col s (((j % 5) + 4) % 5)) ^^^ (Kec.rot (Kec.col s (((j % 5) + 1) % 5)) 1)) : Nat) : Int)) = Wz (stp (fun i => Kec.g s i ^^^ Kec.dd s (i % 5)) (j + 1) s) from by rw [Wz_set]; exact congrArg Wz (by rw [stp_succ] <;> rfl))))
     refine ls_skip (qo82_0 3891 20) (w' := V32) (by kernel_rfl) (by rw [← eV32]; exact exec_store_cell 26 (.tmp 70) (.tmp 68) (by kernel_rfl) b j (by kernel_rfl) (.int .u64 (((Kec.g s j) ^^^ ((Kec.col s (((j % 5) + 4) % 5)) ^^^ (Kec.rot (Kec.col s (((j % 5) + 1) % 5)) 1)) : Nat) : Int)) (by kernel_rfl) (by kernel_rfl) (by kernel_rfl) (.int .u64 ((Kec.g s j : Nat) : Int)) (rc h29 (Wz_get' _ j _ (by rw [stp_len, hs]; omega) (by rw [stp_get _ _ _ _ (by omega), if_neg (by omega)]))) (frozen_of_row _ _ _ _ _ h29) (by kernel_rfl)) ?_
     clear eV32
     have h34 := j32.bO h30
     have K35 := K31.nw j32 (rfl)
     refine ls_end <| blk_n <| tr_ [0, 1] <| pP (cwN (n := j + 1)) <| kk 1 <| et_ ?_
     refine ⟨⟨j + 1, fq, by omega, h33, h34, K35⟩, ?_⟩
     exact ltm (25 - (j + 1)) (25 - j)
    ·have eq_j : j = 25 := by omega
     refine qr_ [0] <| pP (dtF ((j : Int) < ((25) : Int))) <| eq_ <| n_ <| sy_exit 2 (by kernel_rfl) <| then_e <| then_e <| blk_e <| sy_fall (.tuple #[]) rfl (by kernel_rfl) ?_
     exact ⟨rfl, h23.trans (by rw [eq_j, stp_all _ _ 25 hs]; rfl), K25⟩
def qc82_3 (n : Nat) : Code := partOf f196 n
theorem kturns_ok (w : World) :
  Calls prog 196 #[] w (RK w (.agg Rz)) := by
 have K0 := kz0 w
 refine sf_ (qc82_3 1) func196 <| qr_ [0] <| pag 256 (zr_i64_25) fun V1 g eg h2 j1 => ?_
 have n3 := nk eg K0
 have K4 := K0.nn j1
 refine eqr_ [0, 1] <| kk 1 <| psk 256 g (#[iI 0, iI 1, iI 62, iI 28, iI 27, iI 36, iI 44, iI 6, iI 55, iI 20, iI 3, iI 10, iI 43, iI 25, iI 39, iI 41, iI 45, iI 15, iI 21, iI 8, iI 18, iI 2, iI 61, iI 56, iI 14]) h2 fun V5 h6 j5 => ?_
 have K7 := K4.nO j5
 refine eu_ <| sor 256 g h6 underlying256 (by kernel_rfl) ?_
 exact ⟨congrArg Ending.returned (show _ = Value.agg Rz by kernel_rfl), K7⟩
def qc82_2 (n : Nat) : Code := partOf f189 n
abbrev qo82_2 (n k : Nat) : Oper := (opsAt (qc82_2 n)).getD k default
theorem kmoves_ok (b : Nat) (s : List Nat) (w : World) (hs : s.length = 25) (ws : Kec.Ws s) (hb : HP w b (Wz s) 229) :
  Calls prog 189 #[pT b 0] w (fun e w' => e = .returned (.tuple #[]) ∧ HP w' b (Wz (Kec.moves s)) 229 ∧ Keeps (One b) w w') := by
 have K0 := Keeps.refl (One b) w
 refine sf_ (qc82_2 1) func189 <| qr_ nl5_ <| kk 2 <| pP (ldr 229 b (hb) (by rw [Wz_size, hs]; kernel_rfl)) <| pag 229 (zr_u64_25) fun V1 gw egw h2 j1 => ?_
 have := nqk1 egw hb K0
 have ⟨K6, h5⟩ := j1.K1 K0 hb
 refine pst 229 gw ((Wz s)) h2 (by rw [Wz_size, hs]; kernel_rfl) (by rw [Wz_size, hs]; rfl) (Wz_one _) fun V7 h8 j7 => ?_
 have ⟨K10, h9⟩ := j7.Ko1 K6 h5
 refine eqr_ [0, 1] <| pcs (kturns_ok _) fun V11 j11 => ?_
 have ⟨K14, h12, h13⟩ := j11.K2 K10 h9 h8
 refine kk 1 <| et_ <| bl_ 0 ?_
 refine sy_loop (qc82_2 28) (fun a V => ∃ (k : Nat), (Fr 35 [(0, pT b 0), (2, pT gw 0), (10, .agg Rz), (11, iN k)] [] a) ∧ (k ≤ 25) ∧ (HP V b (Wz (Kec.stpD Kec.dest (fun i => Kec.rot (Kec.g s i) (Kec.g Kec.R i)) k s)) 229) ∧ (HP V gw (Wz s) 229) ∧ (Keeps (One b) w V)) (fun a _ => 25 - (intOf (a.tmps.getD 11 undef)).toNat) (by kernel_rfl) ?_ ?_
 ·exact ⟨0, fq, by omega, h12, h13, K14⟩
 ·rintro a V15 ⟨k, hfr, hk, h16, h17, K18⟩
  obtain ⟨uu19, rfl⟩ := Fr.open hfr
  by_cases lt_k : k < 25
  ·have hdk := Kec.dest_lt k
   refine qr_ [0] <| pP (dtT ((k : Int) < ((25) : Int))) <| eq_ <| y_ <| s_ <| tq_ <| bl_ 1 <| qr_ [0, 1, 2, 3] <| kk 1 <| ppq (iN (Kec.g Kec.R k)) (exec_index_arr 256 (.tmp 10) (.tmp 11) (by kernel_rfl) Rz (by kernel_rfl) .i64 k (by kernel_rfl) 25 3 underlying256 (by kernel_rfl) (by kernel_rfl) (by omega) _ (Rz_get k (by omega))) <| kk 2 <| eqr_ nl6_ <| kk 1 <| kk 2 <| pP (cwN (n := k / 5)) <| kk 2 <| et_ <| rgp 15 (zo15_ (qo82_2 1843)) [qo82_2 1843 15] fun V21 j21 => ?_
   have ⟨K24, h22, h23⟩ := j21.K2 K18 h16 h17
   refine ks 3 <| spq _ (cwN (n := 2 * (k % 5))) <| ks 1 <| spq _ (cwN (n := 3 * (k / 5))) <| spq _ (cwN (n := (2 * (k % 5)) + (3 * (k / 5)))) <| scq 194 #[iN (k / 5), iN ((2 * (k % 5)) + (3 * (k / 5)))] (iN (Kec.dest k)) func194 (kat_as (k / 5) ((2 * (k % 5)) + (3 * (k / 5))) (Kec.dest k) _ (by omega) (by omega) (rfl)) <| ks 1 <| spq (pT gw k) (exec_cast (v := pT gw (0 + k * 1)) (by simp) (ixa gw 0 .i64 k 1 underlying229 (by omega))) <| spq (uN (Kec.g s k)) (lc h23 (Wz_get _ k (by rw [hs]; omega)) (k := k)) <| ks 1 <| scq 195 #[uN (Kec.g s k), iN (Kec.g Kec.R k)] (uN (Kec.rot (Kec.g s k) (Kec.g Kec.R k))) func195 (rotl_ok (Kec.g s k) (Kec.g Kec.R k) _ (ws _) (Kec.R_lt' _ (by omega))) <| ks 1 <| spq (pT b (Kec.dest k)) (exec_cast (v := pT b (0 + (Kec.dest k) * 1)) (by simp) (ixa b 0 .i64 (Kec.dest k) 1 underlying229 (by omega))) <| st_end ?_
   obtain ⟨V25, eV25, j25⟩ := cell_step V21 b (Kec.dest k) (.int .u64 ((Kec.rot (Kec.g s k) (Kec.g Kec.R k) : Nat) : Int))
   have h26 : HP V25 b (Wz (Kec.stpD Kec.dest (fun i => Kec.rot (Kec.g s i) (Kec.g Kec.R i)) (k + 1) s)) 229 := eV25 ▸ ((heap_setCell_same _ b (Kec.dest k) _ _ (.int .u64 ((Kec.rot (Kec.g s k) (Kec.g Kec.R k) : Nat) : Int)) h22).trans (congrArg (fun c => some (Obj.cells c 229 (0, 0))) (show (Wz (Kec.stpD Kec.dest (fun i => Kec.rot (Kec.g s i) (Kec.g Kec.R i)) k s) : Array Value).setIfInBounds (Kec.dest k) (.int .u64 ((Kec.rot (Kec.g s k) (Kec.g Kec.R k) : Nat) : Int)) = Wz (Kec.stpD Kec.dest (fun i => Kec.rot (Kec.g s i) (Kec.g Kec.R i)) (k + 1) s) from by rw [Wz_set]; exact congrArg Wz (by rw [Kec.stpD_succ]))))
   refine ls_skip (qo82_2 1843 15) (w' := V25) (by kernel_rfl) (by rw [← eV25]; exact exec_store_cell 26 (.tmp 33) (.tmp 31) (by kernel_rfl) b (Kec.dest k) (by kernel_rfl) (.int .u64 ((Kec.rot (Kec.g s k) (Kec.g Kec.R k) : Nat) : Int)) (by kernel_rfl) (by kernel_rfl) (by kernel_rfl) (.int .u64 ((Kec.g (Kec.stpD Kec.dest (fun i => Kec.rot (Kec.g s i) (Kec.g Kec.R i)) k s) (Kec.dest k) : Nat) : Int)) (rc h22 (Wz_get _ (Kec.dest k) (by rw [Kec.stpD_len, hs]; omega))) (frozen_of_row _ _ _ _ _ h22) (by kernel_rfl)) ?_
   clear eV25
   have h27 := j25.bO h23
   have K28 := K24.nw j25 (rfl)
   refine ls_end <| blk_n <| tr_ [0, 1] <| pP (cwN (n := k + 1)) <| kk 1 <| et_ ?_
   refine ⟨⟨k + 1, fq, by omega, h26, h27, K28⟩, ?_⟩
   exact ltm (25 - (k + 1)) (25 - k)
  ·have eq_k : k = 25 := by omega
   refine qr_ [0] <| pP (dtF ((k : Int) < ((25) : Int))) <| eq_ <| n_ <| sy_exit 0 (by kernel_rfl) <| then_e <| then_e <| blk_e <| sy_fall (.tuple #[]) rfl (by kernel_rfl) ?_
   exact ⟨rfl, h16.trans (by rw [eq_k, Kec.stpD_moves _ _ hs]; rfl), K18⟩
def qc82_1 (n : Nat) : Code := partOf f190 n
abbrev qo82_1 (n k : Nat) : Oper := (opsAt (qc82_1 n)).getD k default
theorem kmixes_ok (b : Nat) (s : List Nat) (w : World) (hs : s.length = 25) (ws : Kec.Ws s) (hb : HP w b (Wz s) 229) :
  Calls prog 190 #[pT b 0] w (fun e w' => e = .returned (.tuple #[]) ∧ HP w' b (Wz (Kec.mixes s)) 229 ∧ Keeps (One b) w w') := by
 have K0 := Keeps.refl (One b) w
 refine sf_ (qc82_1 1) func190 <| qr_ nl5_ <| kk 2 <| pP (ldr 229 b (hb) (by rw [Wz_size, hs]; kernel_rfl)) <| pag 229 (zr_u64_25) fun V1 gw egw h2 j1 => ?_
 have := nqk1 egw hb K0
 have ⟨K6, h5⟩ := j1.K1 K0 hb
 refine pst 229 gw ((Wz s)) h2 (by rw [Wz_size, hs]; kernel_rfl) (by rw [Wz_size, hs]; rfl) (Wz_one _) fun V7 h8 j7 => ?_
 have ⟨K10, h9⟩ := j7.Ko1 K6 h5
 refine eqr_ [0] <| kk 1 <| et_ <| bl_ 0 ?_
 refine sy_loop (qc82_1 28) (fun a V => ∃ (k : Nat), (Fr 39 [(0, pT b 0), (2, pT gw 0), (9, iN k)] [] a) ∧ (k ≤ 25) ∧ (HP V b (Wz (stp (fun i => Kec.g s i ^^^ ((Kec.W - 1 - Kec.g s (Kec.at_ (i % 5 + 1) (i / 5))) &&& Kec.g s (Kec.at_ (i % 5 + 2) (i / 5)))) k s)) 229) ∧ (HP V gw (Wz s) 229) ∧ (Keeps (One b) w V)) (fun a _ => 25 - (intOf (a.tmps.getD 9 undef)).toNat) (by kernel_rfl) ?_ ?_
 ·exact ⟨0, fq, by omega, h9, h8, K10⟩
 ·rintro a V11 ⟨k, hfr, hk, h12, h13, K14⟩
  obtain ⟨uu15, rfl⟩ := Fr.open hfr
  by_cases lt_k : k < 25
  ·have ha1 := Kec.at_lt (k % 5 + 1) (k / 5)
   have ha2 := Kec.at_lt (k % 5 + 2) (k / 5)
   refine qr_ [0] <| pP (dtT ((k : Int) < ((25) : Int))) <| eq_ <| y_ <| s_ <| tq_ <| bl_ 1 <| qr_ [0, 1] <| kk 2 <| eqr_ nl6_ <| kk 3 <| pP (cwN (n := k / 5)) <| kk 2 <| et_ <| rgp 22 (zo22_ (qo82_1 1843)) [qo82_1 1843 22] fun V17 j17 => ?_
   have ⟨K20, h18, h19⟩ := j17.K2 K14 h12 h13
   refine ks 3 <| spq (pT b k) (exec_cast (v := pT b (0 + k * 1)) (by simp) (ixa b 0 .i64 k 1 underlying229 (by omega))) <| spq (uN (Kec.g s k)) (lc h18 (Wz_get' _ k _ (by rw [stp_len, hs]; omega) (by rw [stp_get _ _ _ _ (by omega), if_neg (by omega)])) (k := k)) <| ks 1 <| spq _ (cwN (n := (k % 5) + 1)) <| ks 1 <| scq 194 #[iN ((k % 5) + 1), iN (k / 5)] (iN (Kec.at_ ((k % 5) + 1) (k / 5))) func194 (kat_as ((k % 5) + 1) (k / 5) (Kec.at_ ((k % 5) + 1) (k / 5)) _ (by omega) (by omega) (rfl)) <| spq (pT gw (Kec.at_ ((k % 5) + 1) (k / 5))) (exec_cast (v := pT gw (0 + (Kec.at_ ((k % 5) + 1) (k / 5)) * 1)) (by simp) (ixa gw 0 .i64 (Kec.at_ ((k % 5) + 1) (k / 5)) 1 underlying229 (by omega))) <| spq (uN (Kec.g s (Kec.at_ ((k % 5) + 1) (k / 5)))) (exec_ld 26 (.tmp 25) gw (Kec.at_ ((k % 5) + 1) (k / 5)) underlying26 (rc h19 (Wz_get _ (Kec.at_ ((k % 5) + 1) (k / 5)) (by rw [hs]; omega)))) <| spq (uN (Kec.W - 1 - (Kec.g s (Kec.at_ ((k % 5) + 1) (k / 5))))) (exec_cast (notU (Kec.g s (Kec.at_ ((k % 5) + 1) (k / 5))) (ws _)) (by kernel_rfl)) <| ks 1 <| spq _ (cwN (n := (k % 5) + 2)) <| ks 1 <| scq 194 #[iN ((k % 5) + 2), iN (k / 5)] (iN (Kec.at_ ((k % 5) + 2) (k / 5))) func194 (kat_as ((k % 5) + 2) (k / 5) (Kec.at_ ((k % 5) + 2) (k / 5)) _ (by omega) (by omega) (rfl)) <| spq (pT gw (Kec.at_ ((k % 5) + 2) (k / 5))) (exec_cast (v := pT gw (0 + (Kec.at_ ((k % 5) + 2) (k / 5)) * 1)) (by simp) (ixa gw 0 .i64 (Kec.at_ ((k % 5) + 2) (k / 5)) 1 underlying229 (by omega))) <| spq (uN (Kec.g s (Kec.at_ ((k % 5) + 2) (k / 5)))) (exec_ld 26 (.tmp 32) gw (Kec.at_ ((k % 5) + 2) (k / 5)) underlying26 (rc h19 (Wz_get _ (Kec.at_ ((k % 5) + 2) (k / 5)) (by rw [hs]; omega)))) <| spq (uN ((Kec.W - 1 - (Kec.g s (Kec.at_ ((k % 5) + 1) (k / 5)))) &&& (Kec.g s (Kec.at_ ((k % 5) + 2) (k / 5))))) (exec_cast (andU (Kec.W - 1 - (Kec.g s (Kec.at_ ((k % 5) + 1) (k / 5)))) (Kec.g s (Kec.at_ ((k % 5) + 2) (k / 5))) (Kec.sub_lt _) (ws _)) (by kernel_rfl)) <| spq (uN ((Kec.g s k) ^^^ ((Kec.W - 1 - (Kec.g s (Kec.at_ ((k % 5) + 1) (k / 5)))) &&& (Kec.g s (Kec.at_ ((k % 5) + 2) (k / 5)))))) (exec_cast (xorU (Kec.g s k) ((Kec.W - 1 - (Kec.g s (Kec.at_ ((k % 5) + 1) (k / 5)))) &&& (Kec.g s (Kec.at_ ((k % 5) + 2) (k / 5)))) (ws _) (Kec.and_lt (ws _))) (by kernel_rfl)) <| ks 1 <| spq (pT b k) (exec_cast (v := pT b (0 + k * 1)) (by simp) (ixa b 0 .i64 k 1 underlying229 (by omega))) <| st_end ?_
   obtain ⟨V21, eV21, j21⟩ := cell_step V17 b k (.int .u64 (((Kec.g s k) ^^^ ((Kec.W - 1 - (Kec.g s (Kec.at_ ((k % 5) + 1) (k / 5)))) &&& (Kec.g s (Kec.at_ ((k % 5) + 2) (k / 5)))) : Nat) : Int))
   have h22 : HP V21 b (Wz (stp (fun i => Kec.g s i ^^^ ((Kec.W - 1 - Kec.g s (Kec.at_ (i % 5 + 1) (i / 5))) &&& Kec.g s (Kec.at_ (i % 5 + 2) (i / 5)))) (k + 1) s)) 229 := eV21 ▸ ((heap_setCell_same _ b k _ _ (.int .u64 (((Kec.g s k) ^^^ ((Kec.W - 1 - (Kec.g s (Kec.at_ ((k % 5) + 1) (k / 5)))) &&& (Kec.g s (Kec.at_ ((k % 5) + 2) (k / 5)))) : Nat) : Int)) h18).trans (congrArg (fun c => some (Obj.cells c 229 (0, 0))) (show (Wz (stp (fun i => Kec.g s i ^^^ ((Kec.W - 1 - Kec.g s (Kec.at_ (i % 5 + 1) (i / 5))) &&& Kec.g s (Kec.at_ (i % 5 + 2) (i / 5)))) k s) : Array Value).setIfInBounds k (.int .u64 (((Kec.g s k) ^^^ ((Kec.W - 1 - (Kec.g s (Kec.at_ ((k % 5) + 1) (k / 5)))) &&& (Kec.g s (Kec.at_ ((k % 5) + 2) (k / 5)))) : Nat) : Int)) = Wz (stp (fun i => Kec.g s i ^^^ ((Kec.W - 1 - Kec.g s (Kec.at_ (i % 5 + 1) (i / 5))) &&& Kec.g s (Kec.at_ (i % 5 + 2) (i / 5)))) (k + 1) s) from by rw [Wz_set]; exact congrArg Wz (by rw [stp_succ] <;> rfl))))
   refine ls_skip (qo82_1 1843 22) (w' := V21) (by kernel_rfl) (by rw [← eV21]; exact exec_store_cell 26 (.tmp 37) (.tmp 35) (by kernel_rfl) b k (by kernel_rfl) (.int .u64 (((Kec.g s k) ^^^ ((Kec.W - 1 - (Kec.g s (Kec.at_ ((k % 5) + 1) (k / 5)))) &&& (Kec.g s (Kec.at_ ((k % 5) + 2) (k / 5)))) : Nat) : Int)) (by kernel_rfl) (by kernel_rfl) (by kernel_rfl) (.int .u64 ((Kec.g s k : Nat) : Int)) (rc h18 (Wz_get' _ k _ (by rw [stp_len, hs]; omega) (by rw [stp_get _ _ _ _ (by omega), if_neg (by omega)]))) (frozen_of_row _ _ _ _ _ h18) (by kernel_rfl)) ?_
   clear eV21
   have h23 := j21.bO h19
   have K24 := K20.nw j21 (rfl)
   refine ls_end <| blk_n <| tr_ [0, 1] <| pP (cwN (n := k + 1)) <| kk 1 <| et_ ?_
   refine ⟨⟨k + 1, fq, by omega, h22, h23, K24⟩, ?_⟩
   exact ltm (25 - (k + 1)) (25 - k)
  ·have eq_k : k = 25 := by omega
   refine qr_ [0] <| pP (dtF ((k : Int) < ((25) : Int))) <| eq_ <| n_ <| sy_exit 0 (by kernel_rfl) <| then_e <| then_e <| blk_e <| sy_fall (.tuple #[]) rfl (by kernel_rfl) ?_
   exact ⟨rfl, h12.trans (by rw [eq_k, stp_all _ _ 25 hs]; rfl), K14⟩
attribute [local go_sem] Oper.semAt_some
theorem kregister_ok (w : World) : Calls prog 197 #[] w fun e w' => e = .returned (.func (.func 200) #[] #[]) ∧ w = w' := by
 go_enter func197, ntmps197
 go_wp2
 go_ret
 exact ⟨rfl, rfl⟩
theorem reg_and1 (k : Nat) : bits .and .u64 ((Kec.regn k : Nat) : Int) 1 = ((Kec.bitn k : Nat) : Int) := u64_and_nat (Kec.regn k) 1 (by have := Kec.regn_lt k; omega) (by decide)
theorem reg_and255 (m : Nat) (h : m < 512) : bits .and .u64 (m : Int) 255 = ((m &&& 255 : Nat) : Int) := u64_and_nat m 255 (by omega) (by decide)
theorem reg_xor113 (m : Nat) (h : m < 256) : bits .xor .u64 (m : Int) 113 = ((m ^^^ 113 : Nat) : Int) := u64_xor_nat m 113 (by omega) (by decide)
theorem kregister_seq (n : Nat) (hn : 1 ≤ n) (m : Nat) :
  SeqOwnG True Fence.wide n prog 200 #[] (fun x : Nat => #[.int .u64 (x : Int)]) ((List.range m).map Kec.bitn) Nob (fun _ _ => True) := by
 intro l J Jx W0 hJ hJx hY hE h0 _
 have HY := Lib.hid hY; clear hY
 have HE := Lib.hid (hE trivial); clear hE
 refine callsIn_of_wp func200 rfl trivial ?_ rfl
 simp only [ntmps200, List.size_toArray, List.length_cons, List.length_nil, Nat.reduceAdd, Nat.reduceSub, Array.replicate_succ, Array.replicate_zero, List.push_toArray, List.append_toArray, List.nil_append, List.cons_append]
 gi_wp2_with fail
 gi_loopg [2] m (fun g e wr => ∃ k : Nat, k ≤ m ∧ g = m - k ∧ e = .int .u64 ((Kec.regn k : Nat) : Int) ∧ J k wr)
 case atStart => exact ⟨0, by omega, by omega, rfl, h0⟩
 case round =>
  obtain ⟨k, hk, hg, rfl, hj⟩ := hrel
  by_cases hlt : k < m
  ·have hget : ((List.range m).map Kec.bitn)[k]? = some (Kec.bitn k) := by simp [hlt]
   obtain ⟨fn, tmps, assign, body, hy, hR⟩ := HY.out k _ wr hget hj trivial
   have hb := reg_and1 k
   have hr := Kec.regn_lt k
   have hn2 : Kec.regn (k + 1) = if 256 ≤ 2 * Kec.regn k then ((2 * Kec.regn k) &&& 255) ^^^ 113 else 2 * Kec.regn k := rfl
   have HN := Lib.hid hn2
   clear hn2 hget
   generalize Kec.regn k = r at *
   generalize Kec.bitn k = bt at *
   gi_wp2_with fail
   refine hR.mono ?_
   rintro e W3 (⟨rfl, hj3, _⟩ | ⟨rfl, hx3⟩)
   ·by_cases h256 : 256 ≤ 2 * r
    ·have d1 : decide ((256 : Int) ≤ (r : Int) * 2) = true := by simp; omega
     have e1 := reg_and255 (2 * r) (by omega)
     have e2 : (2 * r) &&& 255 < 2 ^ 8 := Nat.and_lt_two_pow _ (by decide)
     have e3 := reg_xor113 ((2 * r) &&& 255) e2
     rw [show ((2 * r : Nat) : Int) = (r : Int) * 2 by omega] at e1
     have w1 : IntKind.u64.wrap ((r : Int) * 2) = (r : Int) * 2 := by rw [show (r : Int) * 2 = ((2 * r : Nat) : Int) by omega]; exact wrapU _ (by omega)
     clear e2
     gi_wp2_with fail
     gi_roundg (m - (k + 1))
     case measure => omega
     case rel => exact ⟨k + 1, by omega, rfl, by rw [HN.out, if_pos h256], hj3⟩
    ·have d1 : decide ((256 : Int) ≤ (r : Int) * 2) = false := by simp; omega
     have w1 : IntKind.u64.wrap ((r : Int) * 2) = (r : Int) * 2 := by rw [show (r : Int) * 2 = ((2 * r : Nat) : Int) by omega]; exact wrapU _ (by omega)
     gi_wp2_with fail
     gi_roundg (m - (k + 1))
     case measure => omega
     case rel => exact ⟨k + 1, by omega, rfl, by rw [HN.out, if_neg h256]; congr 1; omega, hj3⟩
   ·gi_wp2
    go_end0
    exact ⟨⟨_, rfl⟩, .inr hx3⟩
  ·exfalso
   have : k = m := by omega
   subst this
   exact HE.out wr (by simpa using hj)
theorem shl1 (j : Nat) (h : j < 7) : (1 <<< j) % Kec.W = 1 <<< j ∧ 1 <<< j ≤ 64 ∧ 1 ≤ 1 <<< j := by
 have : ∀ j : Fin 7, (1 <<< j.val) % Kec.W = 1 <<< j.val ∧ 1 <<< j.val ≤ 64 ∧ 1 ≤ 1 <<< j.val := by decide
 exact this ⟨j, h⟩
def qc83_0 (n : Nat) : Code := partOf f191 n
abbrev qo83_0 (n k : Nat) : Oper := (opsAt (qc83_0 n)).getD k default
theorem kconst_more {l N : Nat} {u0 u4 u6 u7 u8 u9 u10 u11 u12 u13 u14 u15 u16 u17 u18 u19 u20 u21 u22 : Value} (k x go gs : Nat) (hx : x < Kec.W) (hxk : x = Kec.bitn k) (hlt : k < 168) (h168 : k + 1 ≠ 168) (hne : go ≠ gs) (w : World) (Q : Exit → Act → World → Prop) (hL : ¬ LetsOut Q) (hgo : HP w go (Wz (Kec.outn k)) 250) (hgs : HP w gs #[iI (k : Int)] 3) (hQ : ∀ a W, HP W go (Wz (Kec.outn (k + 1))) 250 → HP W gs #[iI ((k + 1 : Nat) : Int)] 3 → Keeps (fun j => j = go ∨ j = gs) w W → Q .normal a W) :
  (qc83_0 245).wpIn (Fence.wide.inRound l) N prog Q ⟨#[u0, pT go 0, pT gs 0, .int .u64 (x : Int), u4, .int .u64 (x : Int), u6, u7, u8, u9, u10, u11, u12, u13, u14, u15, u16, u17, u18, u19, u20, u21, u22], []⟩ w := by
 have s1 := shl1 (k % 7) (by omega)
 obtain ⟨_, s2, s3⟩ := s1
 have K0 := Keeps.refl ((fun j => j = go ∨ j = gs)) w
 refine syI_block 1 (qc83_0 490) (by kernel_rfl) <| syI_seq (qc83_0 980) (qc83_0 981) (by kernel_rfl) <| syI_reg (by kernel_rfl) (fun ⟨a, w, h⟩ => hL ⟨a, w, h⟩) <| rgs 12 (zo12_ (qo83_0 980)) [qo83_0 980 12] ?_
 obtain ⟨V2, eV2, j2⟩ := drew_step w
 rw [eV2]
 clear eV2
 have ⟨K5, h3, h4⟩ := j2.K2 K0 hgo hgs
 refine spq _ (lk h4) <| spq _ (cwN (n := k / 7)) <| spq (pT go (k / 7)) (exec_cast (v := pT go (0 + (k / 7) * 1)) (by simp) (ixa go 0 .i64 (k / 7) 1 underlying250 (by omega))) <| spq (uN (Kec.g (Kec.outn k) (k / 7))) (lc h3 (Wz_get _ (k / 7) (by rw [Kec.outn_len]; omega)) (k := k / 7)) <| ks 1 <| spq _ (lk h4) <| ks 1 <| spq (uN (1 <<< (k % 7))) (exec_cast (congrArg (fun n : Nat => Value.int .u64 (n : Int)) (shl1 (k % 7) (by omega)).1) (exec_binop .shl 254 3 (.const (.int .u64 1)) (.tmp 12) (by kernel_rfl) (uN 1) (iN (k % 7)) _ (by kernel_rfl) (by kernel_rfl) (by kernel_rfl) (run_shlU _ _ 1 (k % 7) (by omega)))) <| spq (uN (1 <<< (k % 7) - 1)) (exec_cast (v := .int .u64 (IntKind.u64.wrap (((1 <<< (k % 7) : Nat) : Int) - 1))) (congrArg (Value.int .u64) (by rw [show ((1 <<< (k % 7) : Nat) : Int) - (1 : Int) = ((1 <<< (k % 7) - 1 : Nat) : Int) by omega]; exact wrapU _ (by omega))) (by kernel_rfl)) <| spq (uN ((x <<< (1 <<< (k % 7) - 1)) % Kec.W)) (exec_binop .shl 26 254 (.tmp 10) (.tmp 14) (by kernel_rfl) (uN x) (uN (1 <<< (k % 7) - 1)) _ (by kernel_rfl) (by kernel_rfl) (by kernel_rfl) (run_shlU _ _ x _ (by omega))) <| spq (uN ((Kec.g (Kec.outn k) (k / 7)) ||| ((x <<< (1 <<< (k % 7) - 1)) % Kec.W))) (exec_cast (orU (Kec.g (Kec.outn k) (k / 7)) ((x <<< (1 <<< (k % 7) - 1)) % Kec.W) (Kec.ws_outn _ _) (Nat.mod_lt _ Kec.W_pos)) (by kernel_rfl)) <| spq (pT go (k / 7)) (exec_cast (v := pT go (0 + (k / 7) * 1)) (by simp) (ixa go 0 .i64 (k / 7) 1 underlying250 (by omega))) <| st_end ?_
 obtain ⟨V6, eV6, j6⟩ := cell_step V2 go (k / 7) (.int .u64 (((Kec.g (Kec.outn k) (k / 7)) ||| ((x <<< (1 <<< (k % 7) - 1)) % Kec.W) : Nat) : Int))
 have h7 : HP V6 go (Wz (Kec.outn (k + 1))) 250 := eV6 ▸ ((heap_setCell_same _ go (k / 7) _ _ (.int .u64 (((Kec.g (Kec.outn k) (k / 7)) ||| ((x <<< (1 <<< (k % 7) - 1)) % Kec.W) : Nat) : Int)) h3).trans (congrArg (fun c => some (Obj.cells c 250 (0, 0))) (show (Wz (Kec.outn k) : Array Value).setIfInBounds (k / 7) (.int .u64 (((Kec.g (Kec.outn k) (k / 7)) ||| ((x <<< (1 <<< (k % 7) - 1)) % Kec.W) : Nat) : Int)) = Wz (Kec.outn (k + 1)) from by rw [Wz_set]; exact congrArg Wz (by subst hxk; rfl))))
 refine ls_skip (qo83_0 980 12) (w' := V6) (by kernel_rfl) (by rw [← eV6]; exact exec_store_cell 26 (.tmp 17) (.tmp 16) (by kernel_rfl) go (k / 7) (by kernel_rfl) (.int .u64 (((Kec.g (Kec.outn k) (k / 7)) ||| ((x <<< (1 <<< (k % 7) - 1)) % Kec.W) : Nat) : Int)) (by kernel_rfl) (by kernel_rfl) (by kernel_rfl) (.int .u64 ((Kec.g (Kec.outn k) (k / 7) : Nat) : Int)) (rc h3 (Wz_get _ (k / 7) (by rw [Kec.outn_len]; omega))) (frozen_of_row _ _ _ _ _ h3) (by kernel_rfl)) ?_
 clear eV6
 have h8 := j6.bO h4
 have K9 := K5.nw j6 (.inl rfl)
 refine ls_end <| then_n <| syI_seq (qc83_0 1962) (qc83_0 1963) (by kernel_rfl) <| syI_reg (by kernel_rfl) (fun ⟨a, w, h⟩ => hL ⟨a, w, h⟩) <| rg_plain 6 (opsAt (qc83_0 1962)) [0, 1, 2] (by kernel_rfl) (by kernel_rfl) <| pP (lk h8) <| pP (cwN (n := k + 1)) <| pce 3 gs 0 (iN (k + 1)) (#[iI ((k + 1 : Nat) : Int)]) h8 (rc h8 (by kernel_rfl)) (by kernel_rfl) (u := iN k) fun V10 h11 j10 => ?_
 have h12 := j10.bO h7
 have K13 : Keeps ((fun j => j = go ∨ j = gs)) w V10 := K9.then j10 (fun i hi hm => by unfold Own.One at hm; subst hm; exact .inr rfl)
 refine ps_end <| then_n <| syI_seq (qc83_0 3926) (qc83_0 3927) (by kernel_rfl) <| syI_reg (by kernel_rfl) (fun ⟨a, w, h⟩ => hL ⟨a, w, h⟩) <| rg_plain 7 (opsAt (qc83_0 3926)) [0, 1] (by kernel_rfl) (by kernel_rfl) <| pP (lk h11) <| pP (eqF (((k + 1 : Nat) : Int)) ((168) : Int)) <| ps_end <| then_n <| syI_no (.tmp 21) (qc83_0 7854) (qc83_0 7855) (by kernel_rfl) (by kernel_rfl) <| syI_skip (by kernel_rfl) <| blk_n ?_
 exact hQ _ _ h12 h11 K13
theorem kconst_last {l N : Nat} {u0 u4 u6 u7 u8 u9 u10 u11 u12 u13 u14 u15 u16 u17 u18 u19 u20 u21 u22 : Value} (k x go gs : Nat) (hx : x < Kec.W) (hxk : x = Kec.bitn k) (hlt : k < 168) (h168 : k + 1 = 168) (hne : go ≠ gs) (w : World) (Q : Exit → Act → World → Prop) (hL : ¬ LetsOut Q) (hgo : HP w go (Wz (Kec.outn k)) 250) (hgs : HP w gs #[iI (k : Int)] 3) (hQ : ∀ a W, HP W go (Wz (Kec.outn (k + 1))) 250 → HP W gs #[iI ((k + 1 : Nat) : Int)] 3 → Keeps (fun j => j = go ∨ j = gs) w W → Q (.exit 0) a W) :
  (qc83_0 245).wpIn (Fence.wide.inRound l) N prog Q ⟨#[u0, pT go 0, pT gs 0, .int .u64 (x : Int), u4, .int .u64 (x : Int), u6, u7, u8, u9, u10, u11, u12, u13, u14, u15, u16, u17, u18, u19, u20, u21, u22], []⟩ w := by
 have s1 := shl1 (k % 7) (by omega)
 obtain ⟨_, s2, s3⟩ := s1
 have K0 := Keeps.refl ((fun j => j = go ∨ j = gs)) w
 refine syI_block 1 (qc83_0 490) (by kernel_rfl) <| syI_seq (qc83_0 980) (qc83_0 981) (by kernel_rfl) <| syI_reg (by kernel_rfl) (fun ⟨a, w, h⟩ => hL ⟨a, w, h⟩) <| rgs 12 (zo12_ (qo83_0 980)) [qo83_0 980 12] ?_
 obtain ⟨V15, eV15, j15⟩ := drew_step w
 rw [eV15]
 clear eV15
 have ⟨K18, h16, h17⟩ := j15.K2 K0 hgo hgs
 refine spq _ (lk h17) <| spq _ (cwN (n := k / 7)) <| spq (pT go (k / 7)) (exec_cast (v := pT go (0 + (k / 7) * 1)) (by simp) (ixa go 0 .i64 (k / 7) 1 underlying250 (by omega))) <| spq (uN (Kec.g (Kec.outn k) (k / 7))) (lc h16 (Wz_get _ (k / 7) (by rw [Kec.outn_len]; omega)) (k := k / 7)) <| ks 1 <| spq _ (lk h17) <| ks 1 <| spq (uN (1 <<< (k % 7))) (exec_cast (congrArg (fun n : Nat => Value.int .u64 (n : Int)) (shl1 (k % 7) (by omega)).1) (exec_binop .shl 254 3 (.const (.int .u64 1)) (.tmp 12) (by kernel_rfl) (uN 1) (iN (k % 7)) _ (by kernel_rfl) (by kernel_rfl) (by kernel_rfl) (run_shlU _ _ 1 (k % 7) (by omega)))) <| spq (uN (1 <<< (k % 7) - 1)) (exec_cast (v := .int .u64 (IntKind.u64.wrap (((1 <<< (k % 7) : Nat) : Int) - 1))) (congrArg (Value.int .u64) (by rw [show ((1 <<< (k % 7) : Nat) : Int) - (1 : Int) = ((1 <<< (k % 7) - 1 : Nat) : Int) by omega]; exact wrapU _ (by omega))) (by kernel_rfl)) <| spq (uN ((x <<< (1 <<< (k % 7) - 1)) % Kec.W)) (exec_binop .shl 26 254 (.tmp 10) (.tmp 14) (by kernel_rfl) (uN x) (uN (1 <<< (k % 7) - 1)) _ (by kernel_rfl) (by kernel_rfl) (by kernel_rfl) (run_shlU _ _ x _ (by omega))) <| spq (uN ((Kec.g (Kec.outn k) (k / 7)) ||| ((x <<< (1 <<< (k % 7) - 1)) % Kec.W))) (exec_cast (orU (Kec.g (Kec.outn k) (k / 7)) ((x <<< (1 <<< (k % 7) - 1)) % Kec.W) (Kec.ws_outn _ _) (Nat.mod_lt _ Kec.W_pos)) (by kernel_rfl)) <| spq (pT go (k / 7)) (exec_cast (v := pT go (0 + (k / 7) * 1)) (by simp) (ixa go 0 .i64 (k / 7) 1 underlying250 (by omega))) <| st_end ?_
 obtain ⟨V19, eV19, j19⟩ := cell_step V15 go (k / 7) (.int .u64 (((Kec.g (Kec.outn k) (k / 7)) ||| ((x <<< (1 <<< (k % 7) - 1)) % Kec.W) : Nat) : Int))
 have h20 : HP V19 go (Wz (Kec.outn (k + 1))) 250 := eV19 ▸ ((heap_setCell_same _ go (k / 7) _ _ (.int .u64 (((Kec.g (Kec.outn k) (k / 7)) ||| ((x <<< (1 <<< (k % 7) - 1)) % Kec.W) : Nat) : Int)) h16).trans (congrArg (fun c => some (Obj.cells c 250 (0, 0))) (show (Wz (Kec.outn k) : Array Value).setIfInBounds (k / 7) (.int .u64 (((Kec.g (Kec.outn k) (k / 7)) ||| ((x <<< (1 <<< (k % 7) - 1)) % Kec.W) : Nat) : Int)) = Wz (Kec.outn (k + 1)) from by rw [Wz_set]; exact congrArg Wz (by subst hxk; rfl))))
 refine ls_skip (qo83_0 980 12) (w' := V19) (by kernel_rfl) (by rw [← eV19]; exact exec_store_cell 26 (.tmp 17) (.tmp 16) (by kernel_rfl) go (k / 7) (by kernel_rfl) (.int .u64 (((Kec.g (Kec.outn k) (k / 7)) ||| ((x <<< (1 <<< (k % 7) - 1)) % Kec.W) : Nat) : Int)) (by kernel_rfl) (by kernel_rfl) (by kernel_rfl) (.int .u64 ((Kec.g (Kec.outn k) (k / 7) : Nat) : Int)) (rc h16 (Wz_get _ (k / 7) (by rw [Kec.outn_len]; omega))) (frozen_of_row _ _ _ _ _ h16) (by kernel_rfl)) ?_
 clear eV19
 have h21 := j19.bO h17
 have K22 := K18.nw j19 (.inl rfl)
 refine ls_end <| then_n <| syI_seq (qc83_0 1962) (qc83_0 1963) (by kernel_rfl) <| syI_reg (by kernel_rfl) (fun ⟨a, w, h⟩ => hL ⟨a, w, h⟩) <| rg_plain 6 (opsAt (qc83_0 1962)) [0, 1, 2] (by kernel_rfl) (by kernel_rfl) <| pP (lk h21) <| pP (cwN (n := k + 1)) <| pce 3 gs 0 (iN (k + 1)) (#[iI ((k + 1 : Nat) : Int)]) h21 (rc h21 (by kernel_rfl)) (by kernel_rfl) (u := iN k) fun V23 h24 j23 => ?_
 have h25 := j23.bO h20
 have K26 : Keeps ((fun j => j = go ∨ j = gs)) w V23 := K22.then j23 (fun i hi hm => by unfold Own.One at hm; subst hm; exact .inr rfl)
 refine ps_end <| then_n <| syI_seq (qc83_0 3926) (qc83_0 3927) (by kernel_rfl) <| syI_reg (by kernel_rfl) (fun ⟨a, w, h⟩ => hL ⟨a, w, h⟩) <| rg_plain 7 (opsAt (qc83_0 3926)) [0, 1] (by kernel_rfl) (by kernel_rfl) <| pP (lk h24) <| pP (eqT (((k + 1 : Nat) : Int)) ((168) : Int)) <| ps_end <| then_n <| syI_yes (.tmp 21) (qc83_0 7854) (qc83_0 7855) (by kernel_rfl) (by kernel_rfl) <| syI_exit 0 (by kernel_rfl) <| blk_p (by decide) ?_
 exact hQ _ _ h25 h24 K26
theorem kconst_assign {l N : Nat} {u0 u1 u2 u3 u4 u6 u7 u8 u9 u10 u11 u12 u13 u14 u15 u16 u17 u18 u19 u20 u21 u22 : Value} (x : Nat) (w : World) (Q : Exit → Act → World → Prop) (hL : ¬ LetsOut Q) (hQ : Q .normal ⟨#[u0, u1, u2, .int .u64 (x : Int), u4, .int .u64 (x : Int), u6, u7, u8, u9, u10, u11, u12, u13, u14, u15, u16, u17, u18, u19, u20, u21, u22], []⟩ w) :
  (qc83_0 244).wpIn (Fence.wide.inRound l) N prog Q ⟨#[u0, u1, u2, u3, u4, .int .u64 (x : Int), u6, u7, u8, u9, u10, u11, u12, u13, u14, u15, u16, u17, u18, u19, u20, u21, u22], []⟩ w := by
 have K0 := kz0 w
 refine syI_reg (by kernel_rfl) (fun ⟨a, w, h⟩ => hL ⟨a, w, h⟩) <| rg_plain 4 (opsAt (qc83_0 244)) [0] (by kernel_rfl) (by kernel_rfl) <| kk 1 <| ps_end <| sy_a ⟨#[u0, u1, u2, uN x, u4, uN x, u6, u7, u8, u9, u10, u11, u12, u13, u14, u15, u16, u17, u18, u19, u20, u21, u22], []⟩ ?_
 exact hQ
theorem kconstants_ok (w : World) :
  Calls prog 191 #[] w (RK w (.agg (Wz Kec.K))) := by
 have K0 := kz0 w
 refine calls_marks 3 (c := (qc83_0 1)) func191 (by kernel_rfl) <| sy_frame ⟨fs [un 23], []⟩ (by kernel_rfl) <| qr_ [0] <| pag 250 (zr_u64_24) fun V27 gr egr h28 j27 => ?_
 have n29 := nk egr K0
 have K30 := K0.nn j27
 refine ps_end <| tqr_ [0] <| pag 250 (zr_u64_24) fun V31 go ego h32 j31 => ?_
 have := nqk1 ego h28 K30
 have ⟨K36, h35⟩ := j31.K1 K30 h28
 refine ps_end <| tqr_ [0, 1] <| pal 3 (#[iI 0]) (iI 0) fun V37 gs egs h38 j37 => ?_
 have := nqk2 egs h35 h32 K36
 have ⟨K44, h42, h43⟩ := j37.K2 K36 h35 h32
 refine pce 3 gs 0 (iI 0) (#[iI 0]) h38 (rc h38 (by kernel_rfl)) (by kernel_rfl) (u := iI 0) fun V45 h46 j45 => ?_
 have ⟨K49, h47, h48⟩ := j45.Ko2 K44 h42 h43
 refine ps_end <| tq_ <| qr_ [0] ?_
 refine pct ((kregister_ok _).mono ?_)
 rintro e w1 ⟨rfl, rfl⟩
 refine ⟨_, rfl, ?_⟩
 refine ps_end <| then_n <| bl_ 0 ?_
 have szW : w.heap.size ≤ V45.heap.size := K49.size
 have ltr := lt_of_block h47
 have lto := lt_of_block h48
 have lts := lt_of_block h46
 refine sy_part (.rangeFunc (.tmp 4) #[5] (qc83_0 244) (qc83_0 245)) (by kernel_rfl) ?_
 refine wp_range1G True 3 (gf := 200) (lb := #[]) (by kernel_rfl) (enters_of func200 (by kernel_rfl) rfl) (encs := fun x : Nat => #[.int .u64 (x : Int)]) (fun _ => rfl) (xs := (List.range 168).map Kec.bitn) (Mi := Nob) (S := fun _ _ => True) (fun _ h => h.elim) (kregister_seq 5 (by omega) 168) (fun _ _ _ _ _ => trivial) trivial
  (fun k V => k < 168 ∧ HP V gr zr_u64_24 250 ∧ HP V go (Wz (Kec.outn k)) 250 ∧ HP V gs #[iI (k : Int)] 3 ∧ Keeps Nob w V) (fun c V => c = .exit 0 ∧ HP V gr zr_u64_24 250 ∧ HP V go (Wz (Kec.outn 168)) 250 ∧ HP V gs #[iI ((168 : Nat) : Int)] 3 ∧ Keeps Nob w V) ?hI ?hIx ?h0 ?hE (fun x => ⟨fr [pT gr 0, pT go 0, pT gs 0, .int .u64 (x : Int), .func (.func 200) #[] #[], .int .u64 (x : Int)] 17, []⟩) ?assign ?body ?done ?stop
 case h0 => exact ⟨by omega, h47, h48.trans (by kernel_rfl), h46.trans (by kernel_rfl), K49⟩
 case hE => rintro _ V ⟨h, _⟩; simp at h
 case hI =>
  rintro k A V ⟨h1, h2, h3, h4, h5⟩ t
  exact ⟨h1, t.same _ _ h2 (fun x => x) (.inr rfl), t.same _ _ h3 (fun x => x) (.inr rfl), t.same _ _ h4 (fun x => x) (.inr rfl), t.keepsN h5 szW⟩
 case hIx =>
  rintro k A V ⟨h1, h2, h3, h4, h5⟩ t
  exact ⟨h1, t.same _ _ h2 (fun x => x) (.inr rfl), t.same _ _ h3 (fun x => x) (.inr rfl), t.same _ _ h4 (fun x => x) (.inr rfl), t.keepsN h5 szW⟩
 case assign =>
  intro l k x V K hx hi hs hK
  refine syI_frame ⟨fr [pT gr 0, pT go 0, pT gs 0, ud, .func (.func 200) #[] #[], .int .u64 (x : Int)] 17, []⟩ (by kernel_rfl) ?_
  refine kconst_assign x V _ ?_ ?_
  ·exact fun h => h.elim fun _ h => h.elim fun _ h => h
  ·exact hK
 case body =>
  rintro l k x V hl hr hx ⟨h1, h2, h3, h4, h5⟩ _
  have hxk : x = Kec.bitn k := by rw [List.getElem?_map, List.getElem?_range h1] at hx; simpa using hx.symm
  have hxl : x < Kec.W := by have := Kec.bitn_lt k; have := Kec.W_eq; rw [hxk]; omega
  by_cases h168 : k + 1 = 168
  ·refine kconst_last k x go gs hxl hxk h1 h168 (by omega) V _ (fun h => h.elim fun _ h => h.elim fun _ h => h) h3 h4 (fun a W g1 g2 g3 => ?_)
   have e1 := (g3.block gr (lt_of_block h2) (by intro e; omega)).trans h2
   refine ⟨g3.from (fun j hj => by rcases hj with rfl | rfl <;> omega), rfl, e1, ?_, ?_, h5.then g3 (fun i hi hm => by omega)⟩
   ·rw [h168] at g1; exact g1
   ·rw [h168] at g2; exact g2
  ·refine kconst_more k x go gs hxl hxk h1 h168 (by omega) V _ (fun h => h.elim fun _ h => h.elim fun _ h => h) h3 h4 (fun a W g1 g2 g3 => ?_)
   have e1 := (g3.block gr (lt_of_block h2) (by intro e; omega)).trans h2
   exact ⟨g3.from (fun j hj => by rcases hj with rfl | rfl <;> omega), ⟨by omega, e1, g1, g2, h5.then g3 (fun i hi hm => by omega)⟩, trivial⟩
 case done =>
  rintro D V hD ⟨h, _⟩ hK
  simp at h
 case stop =>
  rintro D c Vz hD ⟨rfl, h2, h3, h4, h5⟩ hK
  have hDs : V45.heap.size ≤ D := hD
  refine sy_exit 0 rfl <| blk_e <| tqr_ [0, 1] <| pP (ldr 250 go h3 (by rw [Wz_size, Kec.outn_len]; kernel_rfl)) <| pst 250 gr ((Wz (Kec.outn 168))) h2 (by rw [Wz_size, Kec.outn_len]; kernel_rfl) (by rw [Wz_size, Kec.outn_len]; rfl) (Wz_one _) fun V50 h51 j50 => ?_
  have h54 : V50.heap[D]? = some (.deferred (some [])) := (j50.block D (Array.getElem?_eq_some_iff.1 hK).1 (by intro e; first | exact e.elim | (unfold Own.One at e; omega) | omega)).trans hK
  have K55 := h5.nO j50
  refine ps_end <| then_n <| u_ ?_
  obtain ⟨V56, eV56⟩ : ∃ V, V50.putObj D (.deferred none) = V := ⟨_, rfl⟩
  have tV56 : Turn V45.heap.size Nob V50 V56 := eV56 ▸ Turn.put _ _ _ _ hDs h54 rfl
  have h59 : HP V56 gr (Wz (Kec.outn 168)) 250 := tV56.same _ _ h51 (fun x => x) (.inr rfl)
  have K60 : Keeps Nob w V56 := tV56.keepsN K55 (by omega)
  refine marks_ret h54 (v := .agg (Wz (Kec.outn 168))) (by rw [eV56]; exact rcr 250 gr h59 underlying250 (by rw [Wz_size, Kec.outn_len]; kernel_rfl)) ?_
  rw [eV56]
  exact ⟨by rw [Kec.outn_K], K60⟩
theorem K_len : Kec.K.length = 24 := rfl
theorem ws_K : Kec.Ws Kec.K := by
 intro i
 by_cases h : i < 24
 ·have : ∀ j : Fin 24, Kec.g Kec.K j.val < Kec.W := by decide
  exact this ⟨i, h⟩
 ·rw [Kec.g_big _ _ (by rw [K_len]; omega)]; exact Kec.W_pos
def permn (s : List Nat) (r : Nat) : List Nat := (Kec.K.take r).foldl Kec.round s
theorem permn_succ (s : List Nat) (r : Nat) (h : r < 24) : permn s (r + 1) = Kec.round (permn s r) (Kec.g Kec.K r) := by
 unfold permn Kec.g
 rw [List.take_succ_eq_append_getElem (by rw [K_len]; exact h), List.foldl_append]
 simp [List.getElem?_eq_getElem (show r < Kec.K.length by rw [K_len]; exact h)]
theorem permn_len (s : List Nat) (hs : s.length = 25) (r : Nat) : (permn s r).length = 25 := Kec.len_fold _ _ hs
theorem permn_ws (s : List Nat) (ws : Kec.Ws s) (r : Nat) : Kec.Ws (permn s r) := Kec.ws_fold _ (fun k hk => Kec.K_lt k (List.mem_of_mem_take hk)) s ws
theorem permn_all (s : List Nat) : permn s 24 = Kec.perm s := by
 unfold permn Kec.perm
 rw [List.take_of_length_le (by rw [K_len]; omega)]
def qc83_1 (n : Nat) : Code := partOf f183 n
theorem kpermuted_ok (s : List Nat) (w : World) (hs : s.length = 25) (ws : Kec.Ws s) :
  Calls prog 183 #[.agg (Wz s)] w (RK w (.agg (Wz (Kec.perm s)))) := by
 have K0 := kz0 w
 refine sf_ (qc83_1 1) func183 <| qr_ [0, 1] <| pbg 229 (Wz s) fun V1 gb egb h2 j1 => ?_
 have n3 := nk egb K0
 have K4 := K0.nn j1
 refine pag 229 (zr_u64_25) fun V5 gr egr h6 j5 => ?_
 have := nqk1 egr h2 K4
 have ⟨K10, h9⟩ := j5.K1 K4 h2
 refine eqr_ nl6_ <| kk 4 <| pag 259 (#[.nilFunc, .nilFunc, .nilFunc]) fun V11 gt egt h12 j11 => ?_
 have := nqk2 egt h9 h6 K10
 have ⟨K18, h16, h17⟩ := j11.K2 K10 h9 h6
 obtain ⟨V19, eV19, j19⟩ := rowset_step V11 gt (#[.func (.func 188) #[pT gb 0] #[], .func (.func 189) #[pT gb 0] #[], .func (.func 190) #[pT gb 0] #[]])
 have h20 : HP V19 gt (#[.func (.func 188) #[pT gb 0] #[], .func (.func 189) #[pT gb 0] #[], .func (.func 190) #[pT gb 0] #[]]) 259 := eV19 ▸ setRow_heap _ _ _ _ _ _ h12
 refine pzq (w' := V19) (by rw [← eV19]; exact exec_store_row 259 (.tmp 3) (.tmp 11) (by kernel_rfl) gt (#[.func (.func 188) #[pT gb 0] #[], .func (.func 189) #[pT gb 0] #[], .func (.func 190) #[pT gb 0] #[]]) (by kernel_rfl) (by kernel_rfl) 259 (#[.nilFunc, .nilFunc, .nilFunc]) h12 (by kernel_rfl) (by kernel_rfl) (by kernel_rfl)) ?_
 clear eV19
 have ⟨K23, h21, h22⟩ := j19.Ko2 K18 h16 h17
 refine eq_ <| qr_ [0, 1] <| pcs (kconstants_ok _) fun V24 j24 => ?_
 have ⟨K28, h25, h26, h27⟩ := j24.K3 K23 h21 h22 h20
 refine kk 1 <| et_ <| bl_ 0 ?_
 refine sy_loop (qc83_1 116) (fun a V => ∃ (r : Nat) (u5 u7 u14 u15 u16 u17 u18 u19 u20 u21 u22 u23 u24 u25 u26 u27 u28 : Value), (a = ⟨#[.agg (Wz s), pT gb 0, pT gr 0, pT gt 0, ud, u5, ud, u7, .func (.func 188) #[pT gb 0] #[], .func (.func 189) #[pT gb 0] #[], .func (.func 190) #[pT gb 0] #[], .agg #[.func (.func 188) #[pT gb 0] #[], .func (.func 189) #[pT gb 0] #[], .func (.func 190) #[pT gb 0] #[]], .agg (Wz Kec.K), iN r, u14, u15, u16, u17, u18, u19, u20, u21, u22, u23, u24, u25, u26, u27, u28, ud], []⟩) ∧ (r ≤ 24) ∧ (HP V gb (Wz (permn s r)) 229) ∧ (HP V gr (zr_u64_25) 229) ∧ (HP V gt (#[.func (.func 188) #[pT gb 0] #[], .func (.func 189) #[pT gb 0] #[], .func (.func 190) #[pT gb 0] #[]]) 259) ∧ (Keeps Nob w V)) (fun a _ => 24 - (intOf (a.tmps.getD 13 undef)).toNat) (by kernel_rfl) ?_ ?_
 ·exact ⟨0, undef, undef, undef, undef, undef, undef, undef, undef, undef, undef, undef, undef, undef, undef, undef, undef, undef, by kernel_rfl, by omega, h25, h26, h27, K28⟩
 ·rintro a V29 ⟨r, u5, u7, u14, u15, u16, u17, u18, u19, u20, u21, u22, u23, u24, u25, u26, u27, u28, rfl, hr, h30, h31, h32, K33⟩
  by_cases lt_r : r < 24
  ·show _
   refine qr_ [0] <| pP (dtT ((r : Int) < ((24) : Int))) <| eq_ <| y_ <| s_ <| tq_ <| bl_ 1 <| qr_ [0, 1] <| ppq (uN (Kec.g Kec.K r)) (exec_index_arr 250 (.tmp 12) (.tmp 13) (by kernel_rfl) (Wz Kec.K) (by kernel_rfl) .i64 r (by kernel_rfl) 24 26 underlying250 (by kernel_rfl) (by kernel_rfl) (by omega) _ (Wz_get Kec.K r (by rw [K_len]; omega))) <| kk 1 <| eq_ <| qr_ [0, 1] <| pP (ldr 259 gt h32 (by kernel_rfl)) <| kk 1 <| et_ <| bl_ 2 <| sy_rounds 4 (qc83_1 59796) (by kernel_rfl) <| rd_step <| qr_ [0] <| kk 1 <| eq_ <| y_ <| s_ <| tq_ <| bl_ 3 <| qr_ [0, 1] <| kk 2 ?_
   refine er_ [0, 1] <| kk 1 ?_
   refine pcv 188 #[pT gb 0] #[] #[pT gb 0] (enters_of func188 (by kernel_rfl) rfl) ((kcolumns_ok gb (permn s r) _ (by rw [permn_len s hs]) (permn_ws s ws r) h30).mono ?_)
   rintro e V34 ⟨rfl, h35, j34⟩
   refine ⟨_, rfl, ?_⟩
   have ⟨K38, h36, h37⟩ := j34.Ko2 K33 h31 h32
   refine ps_end <| blk_n <| tr_ [0, 1] <| kk 2 <| et_ <| rd_step <| qr_ [0] <| kk 1 <| eq_ <| y_ <| s_ <| tq_ <| bl_ 3 <| qr_ [0, 1] <| kk 2 <| er_ [0, 1] <| kk 1 ?_
   refine pcv 189 #[pT gb 0] #[] #[pT gb 0] (enters_of func189 (by kernel_rfl) rfl) ((kmoves_ok gb (Kec.columns (permn s r)) _ (by rw [show (Kec.columns (permn s r)).length = 25 from Kec.len_columns _]) (Kec.ws_columns (permn_ws s ws r)) h35).mono ?_)
   rintro e V39 ⟨rfl, h40, j39⟩
   refine ⟨_, rfl, ?_⟩
   have ⟨K43, h41, h42⟩ := j39.Ko2 K38 h36 h37
   refine ps_end <| blk_n <| tr_ [0, 1] <| kk 2 <| et_ <| rd_step <| qr_ [0] <| kk 1 <| eq_ <| y_ <| s_ <| tq_ <| bl_ 3 <| qr_ [0, 1] <| kk 2 <| er_ [0, 1] <| kk 1 ?_
   refine pcv 190 #[pT gb 0] #[] #[pT gb 0] (enters_of func190 (by kernel_rfl) rfl) ((kmixes_ok gb (Kec.moves (Kec.columns (permn s r))) _ (by rw [show (Kec.moves (Kec.columns (permn s r))).length = 25 from Kec.len_moves _]) (Kec.ws_moves (Kec.ws_columns (permn_ws s ws r))) h40).mono ?_)
   rintro e V44 ⟨rfl, h45, j44⟩
   refine ⟨_, rfl, ?_⟩
   have ⟨K48, h46, h47⟩ := j44.Ko2 K43 h41 h42
   refine ps_end <| blk_n <| tr_ [0, 1] <| kk 2 <| et_ <| rd_step <| qr_ [0] <| kk 1 <| eq_ <| n_ <| sy_exit 2 (by kernel_rfl) <| then_e <| then_e <| blk_e <| tr_ nl6_ <| ppq (pT gb 0) (exec_cast (v := pT gb (0 + 0 * 1)) (by simp) (ixa gb 0 .i64 0 1 underlying229 (by omega))) <| ppq (uN (Kec.g (Kec.mixes (Kec.moves (Kec.columns (permn s r)))) 0)) (lc h45 (Wz_get _ 0 (by rw [show (Kec.mixes (Kec.moves (Kec.columns (permn s r)))).length = 25 from Kec.len_mixes _]; omega)) (k := 0)) <| kk 1 <| ppq (uN ((Kec.g (Kec.mixes (Kec.moves (Kec.columns (permn s r)))) 0) ^^^ (Kec.g Kec.K r))) (exec_cast (xorU (Kec.g (Kec.mixes (Kec.moves (Kec.columns (permn s r)))) 0) (Kec.g Kec.K r) (Kec.ws_mixes (Kec.ws_moves (Kec.ws_columns (permn_ws s ws r))) _) (ws_K r)) (by kernel_rfl)) <| ppq (pT gb 0) (exec_cast (v := pT gb (0 + 0 * 1)) (by simp) (ixa gb 0 .i64 0 1 underlying229 (by omega))) <| pce 26 gb 0 (uN ((Kec.g (Kec.mixes (Kec.moves (Kec.columns (permn s r)))) 0) ^^^ (Kec.g Kec.K r))) (Wz ((Kec.mixes (Kec.moves (Kec.columns (permn s r)))).set 0 ((Kec.g (Kec.mixes (Kec.moves (Kec.columns (permn s r)))) 0) ^^^ (Kec.g Kec.K r)))) h45 (rc h45 (Wz_get _ 0 (by rw [show (Kec.mixes (Kec.moves (Kec.columns (permn s r)))).length = 25 from Kec.len_mixes _]; omega))) (by rw [Wz_set]) fun V49 h50 j49 => ?_
   have ⟨K53, h51, h52⟩ := j49.Ko2 K48 h46 h47
   refine ps_end <| blk_n <| tr_ [0, 1] <| pP (cwN (n := r + 1)) <| kk 1 <| et_ ?_
   refine ⟨⟨r + 1, (uN (Kec.g Kec.K r)), (.func (.func 190) #[pT gb 0] #[]), (.bool true), (uN (Kec.g Kec.K r)), (.agg #[.func (.func 188) #[pT gb 0] #[], .func (.func 189) #[pT gb 0] #[], .func (.func 190) #[pT gb 0] #[]]), (iI 3), (.bool false), (.func (.func 190) #[pT gb 0] #[]), (.func (.func 190) #[pT gb 0] #[]), (.tuple #[]), (iI 3), (pT gb 0), (uN (Kec.g (Kec.mixes (Kec.moves (Kec.columns (permn s r)))) 0)), (uN (Kec.g Kec.K r)), (uN ((Kec.g (Kec.mixes (Kec.moves (Kec.columns (permn s r)))) 0) ^^^ (Kec.g Kec.K r))), (pT gb 0), (iN (r + 1)), by kernel_rfl, by omega, h50.trans (by rw [permn_succ s r lt_r]; rfl), h51, h52, K53⟩, ?_⟩
   exact ltm (24 - (r + 1)) (24 - r)
  ·have eq_r : r = 24 := by omega
   have h54 : HP V29 gb (Wz (Kec.perm s)) 229 := h30.trans (by rw [eq_r, permn_all])
   refine qr_ [0] <| pP (dtF ((r : Int) < ((24) : Int))) <| eq_ <| n_ <| sy_exit 0 (by kernel_rfl) <| then_e <| then_e <| blk_e <| tqr_ [0, 1] <| pP (ldr 229 gb h54 (by rw [Wz_size, Kec.len_perm hs]; kernel_rfl)) <| pst 229 gr ((Wz (Kec.perm s))) h31 (by rw [Wz_size, Kec.len_perm hs]; kernel_rfl) (by rw [Wz_size, Kec.len_perm hs]; rfl) (Wz_one _) fun V55 h56 j55 => ?_
   have K59 := K33.nO j55
   refine eu_ <| sor 229 gr h56 underlying229 (by rw [Wz_size, Kec.len_perm hs]; kernel_rfl) ?_
   exact ⟨rfl, K59⟩
end
section
open Go Go.RowKit Go.Own Go.Shelf
theorem word_snoc (l : List UInt8) (k : Nat) (hk : k < l.length) : Kec.word (l.take (k + 1)) = Kec.word (l.take k) + 256 ^ k * (l.getD k 0).toNat := by
  induction l generalizing k with
  | nil => simp at hk
  | cons x r ih =>
    cases k with
    | zero => simp [Kec.word]
    | succ k =>
      have := ih k (by simpa using hk)
      simp only [List.take_succ_cons, Kec.word, List.getD_cons_succ]
      rw [this, Nat.pow_succ, Nat.mul_add]
      have e : 256 ^ k * 256 * (r.getD k 0).toNat = 256 * (256 ^ k * (r.getD k 0).toNat) := by rw [Nat.mul_comm (256 ^ k) 256, Nat.mul_assoc]
      omega
theorem word_step (l : List UInt8) (k : Nat) (hk : k < l.length) (h8 : k < 8) : Kec.word (l.take k) ||| (((l.getD k 0).toNat <<< (8 * k)) % Kec.W) = Kec.word (l.take (k + 1)) := by
  have h1 := Kec.word_lt (l.take k)
  have h2 : (l.take k).length = k := by rw [List.length_take]; omega
  rw [h2] at h1
  have h3 := (l.getD k 0).toNat_lt
  have e1 : (256 : Nat) ^ k = 2 ^ (8 * k) := by rw [Nat.pow_mul]
  have h4 : (l.getD k 0).toNat <<< (8 * k) < Kec.W := by
    rw [Nat.shiftLeft_eq, Kec.W_eq]
    calc (l.getD k 0).toNat * 2 ^ (8 * k) < 256 * 2 ^ (8 * k) := Nat.mul_lt_mul_of_pos_right h3 (Nat.two_pow_pos _)
      _ = 2 ^ (8 * k + 8) := by rw [Nat.pow_add, Nat.mul_comm]
      _ ≤ 2 ^ 64 := Nat.pow_le_pow_right (by decide) (by omega)
  rw [Nat.mod_eq_of_lt h4, Nat.or_comm, ← Nat.shiftLeft_add_eq_or_of_lt (by rw [← e1]; exact h1), word_snoc l k hk, Nat.shiftLeft_eq, ← e1, Nat.mul_comm, Nat.add_comm]
theorem word_take_lt (l : List UInt8) (k : Nat) (h8 : k ≤ 8) : Kec.word (l.take k) < Kec.W := by
  have h1 := Kec.word_lt (l.take k)
  have h2 : (l.take k).length ≤ 8 := by rw [List.length_take]; omega
  have h3 : (256 : Nat) ^ (l.take k).length ≤ 256 ^ 8 := Nat.pow_le_pow_right (by decide) h2
  have h4 : (256 : Nat) ^ 8 = Kec.W := by decide
  omega
def Sp (s : List Nat) (blk : List UInt8) (n m : Nat) : Array Value := Wz s ++ (B blk).toArray ++ #[iI (n : Int), iI (m : Int)]
theorem Sp_size (s : List Nat) (blk : List UInt8) (n m : Nat) (hs : s.length = 25) (hb : blk.length = 136) : (Sp s blk n m).size = 163 := by simp [Sp, Wz_size, B_length, hs, hb]
theorem Sp_word (s : List Nat) (blk : List UInt8) (n m : Nat) (hs : s.length = 25) (i : Nat) (hi : i < 25) : (Sp s blk n m)[i]? = some (.int .u64 ((Kec.g s i : Nat) : Int)) := by
  unfold Sp
  rw [Array.append_assoc, Array.getElem?_append_left (by rw [Wz_size]; omega)]
  exact Wz_get s i (by omega)
theorem Sp_byte (s : List Nat) (blk : List UInt8) (n m : Nat) (hs : s.length = 25) (i : Nat) (x : UInt8) (hi : blk[i]? = some x) : (Sp s blk n m)[25 + i]? = some (.int .u8 (x.toNat : Int)) := by
  have hlt : i < blk.length := (List.getElem?_eq_some_iff.1 hi).1
  unfold Sp
  rw [Array.append_assoc, Array.getElem?_append_right (by rw [Wz_size]; omega), Wz_size, hs, Nat.add_sub_cancel_left, Array.getElem?_append_left (by simp [B_length]; omega)]
  simpa using B_get blk i x hi
theorem Sp_n (s : List Nat) (blk : List UInt8) (n m : Nat) (hs : s.length = 25) (hb : blk.length = 136) : (Sp s blk n m)[161]? = some (iI (n : Int)) := by
  unfold Sp
  rw [Array.getElem?_append_right (by simp [Wz_size, B_length, hs, hb])]
  simp [Wz_size, B_length, hs, hb]
theorem Sp_m (s : List Nat) (blk : List UInt8) (n m : Nat) (hs : s.length = 25) (hb : blk.length = 136) : (Sp s blk n m)[162]? = some (iI (m : Int)) := by
  unfold Sp
  rw [Array.getElem?_append_right (by simp [Wz_size, B_length, hs, hb])]
  simp [Wz_size, B_length, hs, hb]
theorem Sp_set_word (s : List Nat) (blk : List UInt8) (n m : Nat) (hs : s.length = 25) (i v : Nat) (hi : i < 25) : (Sp s blk n m).setIfInBounds i (.int .u64 (v : Int)) = Sp (s.set i v) blk n m := by
  unfold Sp
  rw [Array.append_assoc, Array.append_assoc, ← Wz_set]
  apply Array.toList_inj.1
  simp [List.set_append, Wz_size, hs, hi, Wz]
theorem Sp_set_n (s : List Nat) (blk : List UInt8) (n m k : Nat) (hs : s.length = 25) (hb : blk.length = 136) : (Sp s blk n m).setIfInBounds 161 (iI (k : Int)) = Sp s blk k m := by
  unfold Sp
  apply Array.toList_inj.1
  simp [List.set_append, Wz_size, B_length, hs, hb, Wz]
theorem Sp_set_m (s : List Nat) (blk : List UInt8) (n m k : Nat) (hs : s.length = 25) (hb : blk.length = 136) : (Sp s blk n m).setIfInBounds 162 (iI (k : Int)) = Sp s blk n k := by
  unfold Sp
  apply Array.toList_inj.1
  simp [List.set_append, Wz_size, B_length, hs, hb, Wz]
theorem Sp_set_byte (s : List Nat) (blk : List UInt8) (n m : Nat) (hs : s.length = 25) (i : Nat) (x : UInt8) (hi : i < blk.length) : (Sp s blk n m).setIfInBounds (25 + i) (.int .u8 (x.toNat : Int)) = Sp s (blk.set i x) n m := by
  unfold Sp
  apply Array.toList_inj.1
  have hl : (s.map fun (x : Nat) => Value.int .u64 (x : Int)).length = 25 := by simp [hs]
  simp only [Array.toList_setIfInBounds, Array.toList_append, Wz]
  rw [List.append_assoc, List.set_append, if_neg (by omega), hl, Nat.add_sub_cancel_left, List.set_append, if_pos (by simpa [B_length] using hi)]
  simp [B, List.map_set]
theorem Sp_seg_words (s s' : List Nat) (blk : List UInt8) (n m : Nat) (hs : s.length = 25) (hs' : s'.length = 25) : seg (Sp s blk n m) 0 (Wz s').toList = Sp s' blk n m := by
  apply Array.toList_inj.1
  have hl : (s.map fun (x : Nat) => Value.int .u64 (x : Int)).length = 25 := by simp [hs]
  have hl' : (s'.map fun (x : Nat) => Value.int .u64 (x : Int)).length = 25 := by simp [hs']
  simp only [seg, Sp, Wz, Array.toList_append, List.take_zero, List.nil_append, hl', Nat.zero_add]
  rw [List.append_assoc, List.drop_append_of_le_length (by omega), List.drop_of_length_le (by omega), List.nil_append, List.append_assoc]
theorem seg_lists (A B C L : List Value) (k : Nat) (hA : A.length = 25) (hk : k + L.length ≤ B.length) : (A ++ B ++ C).take (25 + k) ++ L ++ (A ++ B ++ C).drop (25 + k + L.length) = A ++ (B.take k ++ L ++ B.drop (k + L.length)) ++ C := by
  rw [List.append_assoc A B C, List.take_append, List.take_of_length_le (by omega), hA, Nat.add_sub_cancel_left, List.take_append_of_le_length (by omega)]
  rw [List.drop_append, List.drop_of_length_le (by omega), hA, List.nil_append, show 25 + k + L.length - 25 = k + L.length by omega, List.drop_append_of_le_length (by omega)]
  simp
theorem Sp_seg_bytes (s : List Nat) (blk l : List UInt8) (n m k : Nat) (hs : s.length = 25) (hk : k + l.length ≤ blk.length) : seg (Sp s blk n m) (25 + k) (B l) = Sp s (blk.take k ++ l ++ blk.drop (k + l.length)) n m := by
  apply Array.toList_inj.1
  have := seg_lists (s.map fun (x : Nat) => Value.int .u64 (x : Int)) (B blk) [iI (n : Int), iI (m : Int)] (B l) k (by simp [hs]) (by rw [B_length, B_length]; exact hk)
  simp only [seg, Sp, Wz, Array.toList_append, B_append, ← B_take, ← B_drop]
  rw [B_length] at this
  simpa [B_length] using this
theorem Sp_load (s : List Nat) (blk : List UInt8) (n m : Nat) (hs : s.length = 25) : ∀ j v, (Wz s).toList[j]? = some v → (Sp s blk n m)[0 + j]? = some v := by
  intro j v hj
  have hlt : j < 25 := by have := (List.getElem?_eq_some_iff.1 hj).1; simp [Wz] at this; omega
  rw [Nat.zero_add]
  unfold Sp
  rw [Array.append_assoc, Array.getElem?_append_left (by rw [Wz_size]; omega)]
  simpa using hj
theorem Sp_bytes {w : World} {g : Nat} {T : TypeId} {s : List Nat} {blk : List UInt8} {n m : Nat} (h : w.heap[g]? = some (.cells (Sp s blk n m) T (0, 0))) (hs : s.length = 25) (hb : blk.length = 136) (k : Nat) (hk : k < 136) :
    BytesAt w (.slice (some ⟨g, 25 + k, none⟩) (136 - k) (136 - k)) (blk.drop k) := by
  refine ⟨⟨_, _, by rw [List.length_drop, hb], by rw [List.length_drop]; omega, by unfold maxLen; omega, fun h => by cases h⟩, fun i x hi => ?_⟩
  rw [List.getElem?_drop] at hi
  refine ⟨g, 25 + k, _, by rw [List.length_drop, hb], lt_of_block h, ?_⟩
  rw [Nat.add_assoc]
  exact (cell_of_row _ _ _ _ _ _ h).trans (Sp_byte s blk n m hs (k + i) x hi)
def qc85_3 (n : Nat) : Code := partOf f182 n
theorem kword_ok (g o n cap : Nat) (l : List UInt8) (w : World) (hn : l.length = n) (h8 : 8 ≤ n) (hc : n ≤ cap) (hv : BytesAt w (.slice (some ⟨g, o, none⟩) n cap) l) :
  Calls prog 182 #[.slice (some ⟨g, o, none⟩) n cap] w (fun e w' => e = .returned (.int .u64 ((Kec.word (l.take 8) : Nat) : Int)) ∧ w = w') := by
 have K0 := kz0 w
 refine sf_ (qc85_3 1) func182 <| qr_ [0] <| kk 1 <| eqr_ [0] <| kk 1 <| eq_ <| qr_ [0, 1, 2, 3] <| kk 1 <| ppq (.slice (some ⟨g, o, none⟩) 8 cap) (exec_slice_to 214 (.tmp 6) (.const (iI 8)) (by kernel_rfl) (some ⟨g, o, none⟩) n cap (by kernel_rfl) .i64 8 (by kernel_rfl) 5 underlying214 (by kernel_rfl) (by omega)) <| pP (len_ (some ⟨g, o, none⟩) 8 cap underlying214) <| kk 1 <| et_ <| bl_ 0 ?_
 refine sy_loop (qc85_3 116) (fun a V => ∃ (k : Nat), (Fr 23 [(3, uN (Kec.word (l.take k))), (7, .slice (some ⟨g, o, none⟩) 8 cap), (8, iI 8), (9, iN k)] [] a) ∧ (k ≤ 8) ∧ (w = V)) (fun a _ => 8 - (intOf (a.tmps.getD 9 undef)).toNat) (by kernel_rfl) ?_ ?_
 ·exact ⟨0, fq, by omega, rfl⟩
 ·rintro a V1 ⟨k, hfr, hk, rfl⟩
  obtain ⟨uu3, rfl⟩ := Fr.open hfr
  by_cases lt_k : k < 8
  ·show _
   refine qr_ [0] <| pP (dtT ((k : Int) < ((8) : Int))) <| eq_ <| y_ <| s_ <| tq_ <| bl_ 1 <| qr_ nl5_ <| kk 1 <| ppq (pT g (o + k)) (exec_cast (v := pT g (o + k * 1)) (by simp) (ixs g o 8 cap .i64 k 1 underlying214 (by omega))) <| ppq (cN ((l.getD k 0).toNat)) (ldc 5 g (o + k) (bytes_cell hv k (by rw [hn]; omega))) <| kk 2 <| er_ nl8_ <| kk 2 <| ppq (uN ((l.getD k 0).toNat)) (exec_cast (congrArg (Value.int .u64) (wrapU (l.getD k 0).toNat (by have := (l.getD k 0).toNat_lt; omega))) (by kernel_rfl)) <| kk 1 <| pP (cwN (n := 8 * k)) <| ppq (uN (((l.getD k 0).toNat <<< (8 * k)) % Kec.W)) (exec_binop .shl 26 3 (.tmp 16) (.tmp 18) (by kernel_rfl) (uN ((l.getD k 0).toNat)) (iN (8 * k)) _ (by kernel_rfl) (by kernel_rfl) (by kernel_rfl) (run_shlU _ _ _ (8 * k) (by omega))) <| ppq (uN (Kec.word (l.take (k + 1)))) (exec_cast ((orU _ _ (word_take_lt l k (by omega)) (Nat.mod_lt _ Kec.W_pos)).trans (congrArg (fun n : Nat => Value.int .u64 (n : Int)) (word_step l k (by rw [hn]; omega) (by omega)))) (by kernel_rfl)) <| kk 1 <| ps_end <| blk_n <| tr_ [0, 1] <| pP (cwN (n := k + 1)) <| kk 1 <| et_ ?_
   refine ⟨⟨k + 1, fq, by omega, rfl⟩, ?_⟩
   exact ltm (8 - (k + 1)) (8 - k)
  ·have eq_k : k = 8 := by omega
   refine qr_ [0] <| pP (dtF ((k : Int) < ((8) : Int))) <| eq_ <| n_ <| sy_exit 0 (by kernel_rfl) <| then_e <| then_e <| blk_e <| tqr_ [0, 1] <| kk 2 <| eu_ <| so_ (.int .u64 ((Kec.word (l.take k) : Nat) : Int)) ?_
   subst eq_k; exact ⟨rfl, rfl⟩
theorem eight_len {wd : Nat} : (Kec.eight wd).length = 8 := by simp [Kec.eight]
def qc85_2 (n : Nat) : Code := partOf f176 n
theorem keight_ok (wd : Nat) (w : World) (hw : wd < Kec.W) :
  Calls prog 176 #[.int .u64 (wd : Int)] w (RK w (.agg (B (Kec.eight wd)).toArray)) := by
 have K0 := kz0 w
 refine sf_ (qc85_2 1) func176 <| qr_ [0] <| pag 246 (zr_u8_8) fun V1 gr egr h2 j1 => ?_
 have n3 := nk egr K0
 have K4 := K0.nn j1
 refine eqr_ [0] <| pag 246 (zr_u8_8) fun V5 go ego h6 j5 => ?_
 have := nqk1 ego h2 K4
 have ⟨K10, h9⟩ := j5.K1 K4 h2
 refine eq_ <| qr_ [0] <| kk 1 <| et_ <| bl_ 0 ?_
 refine sy_loop (qc85_2 116) (fun a V => ∃ (k : Nat), (Fr 17 [(0, uN wd), (2, pT gr 0), (3, pT go 0), (5, iN k)] [] a) ∧ (k ≤ 8) ∧ (HP V gr (zr_u8_8) 246) ∧ (HP V go ((B (stpB (fun i => UInt8.ofNat (wd / 256 ^ i)) k (List.replicate 8 0))).toArray) 246) ∧ (Keeps Nob w V)) (fun a _ => 8 - (intOf (a.tmps.getD 5 undef)).toNat) (by kernel_rfl) ?_ ?_
 ·exact ⟨0, fq, by omega, h9, h6.trans (by kernel_rfl), K10⟩
 ·rintro a V11 ⟨k, hfr, hk, h12, h13, K14⟩
  obtain ⟨uu15, rfl⟩ := Fr.open hfr
  by_cases lt_k : k < 8
  ·show _
   refine qr_ [0] <| pP (dtT ((k : Int) < ((8) : Int))) <| eq_ <| y_ <| s_ <| tq_ <| bl_ 1 <| qr_ [0, 1] <| kk 2 <| er_ nl8_ <| kk 3 <| pP (cwN (n := 8 * k)) <| ppq (uN (wd >>> (8 * k))) (exec_binop .shr 26 3 (.tmp 9) (.tmp 11) (by kernel_rfl) (uN wd) (iN (8 * k)) _ (by kernel_rfl) (by kernel_rfl) (by kernel_rfl) (run_shrU _ _ wd (8 * k) (by omega))) <| ppq (cN ((UInt8.ofNat (wd / 256 ^ k)).toNat)) (exec_cast (congrArg (Value.int .u8) ((wrap8 (wd >>> (8 * k))).trans (by rw [Nat.shiftRight_eq_div_pow, Nat.pow_mul]))) (by kernel_rfl)) <| ppq (pT go k) (exec_cast (v := pT go (0 + k * 1)) (by simp) (ixa go 0 .i64 k 1 underlying246 (by omega))) <| pce 5 go k (cN ((UInt8.ofNat (wd / 256 ^ k)).toNat)) ((B (stpB (fun i => UInt8.ofNat (wd / 256 ^ i)) (k + 1) (List.replicate 8 0))).toArray) h13 (rc h13 (Bz_get _ k (by rw [stpB_len, List.length_replicate]; omega))) (by rw [Bz_set]; exact congrArg (fun l => (B l).toArray) (by rw [stpB_succ])) fun V16 h17 j16 => ?_
   have ⟨K19, h18⟩ := j16.Ko1 K14 h12
   refine ps_end <| blk_n <| tr_ [0, 1] <| pP (cwN (n := k + 1)) <| kk 1 <| et_ ?_
   refine ⟨⟨k + 1, fq, by omega, h18, h17, K19⟩, ?_⟩
   exact ltm (8 - (k + 1)) (8 - k)
  ·have eq_k : k = 8 := by omega
   have h20 : HP V11 go ((B (Kec.eight wd)).toArray) 246 := h13.trans (by rw [eq_k, stpB_all _ _ 8 rfl]; rfl)
   refine qr_ [0] <| pP (dtF ((k : Int) < ((8) : Int))) <| eq_ <| n_ <| sy_exit 0 (by kernel_rfl) <| then_e <| then_e <| blk_e <| tqr_ [0, 1] <| pP (ldr 246 go h20 (by rw [Bz_size, eight_len]; kernel_rfl)) <| pst 246 gr (((B (Kec.eight wd)).toArray)) h12 (by rw [Bz_size, eight_len]; kernel_rfl) (by rw [Bz_size, eight_len]; rfl) (by rw [List.all_toArray]; exact List.all_eq_true.2 (B_one _)) fun V21 h22 j21 => ?_
   have K24 := K14.nO j21
   refine eu_ <| sor 246 gr h22 underlying246 (by rw [Bz_size, eight_len]; kernel_rfl) ?_
   exact ⟨rfl, K24⟩
theorem getD_some (l : List UInt8) (k : Nat) (h : k < l.length) : l[k]? = some (l.getD k 0) := by rw [List.getD_eq_getElem?_getD, List.getElem?_eq_getElem h]; rfl
def zero136 : List UInt8 := List.replicate 136 0
theorem zero136_len : zero136.length = 136 := by simp [zero136]
theorem Sp_seg_zero (s : List Nat) (blk : List UInt8) (n m : Nat) (hs : s.length = 25) (hb : blk.length = 136) : seg (Sp s blk n m) 25 (B zero136).toArray.toList = Sp s zero136 n m := by
 have := Sp_seg_bytes s blk zero136 n m 0 hs (by rw [zero136_len, hb]; omega)
 have e : blk.drop (0 + zero136.length) = [] := List.drop_of_length_le (by rw [zero136_len, hb]; omega)
 rw [e, List.append_nil, List.take_zero, List.nil_append] at this
 exact this
theorem g_get (s : List Nat) (i : Nat) (h : i < s.length) : Kec.g s i = s[i] := by
 unfold Kec.g
 rw [List.getD_eq_getElem?_getD, List.getElem?_eq_getElem h]; rfl
theorem stp_mixin (s : List Nat) (blk : List UInt8) (hs : s.length = 25) : stp (fun i => Kec.g s i ^^^ Kec.wordAt blk i) 17 s = Kec.mixin s blk := by
 refine List.ext_getElem (by rw [stp_len, Kec.len_mixin, hs]) fun i h1 h2 => ?_
 have hi : i < 25 := by rwa [stp_len, hs] at h1
 have e1 := stp_get (fun i => Kec.g s i ^^^ Kec.wordAt blk i) 17 s i (by omega)
 have e2 := Kec.g_map (fun i => if i < 17 then Kec.g s i ^^^ Kec.wordAt blk i else Kec.g s i) i hi
 have e3 : Kec.g (stp (fun i => Kec.g s i ^^^ Kec.wordAt blk i) 17 s) i = Kec.g (Kec.mixin s blk) i := by
  rw [e1]; exact e2.symm
 rw [g_get _ _ h1, g_get _ _ h2] at e3
 exact e3
def qc85_0 (n : Nat) : Code := partOf f175 n
abbrev qo85_0 (n k : Nat) : Oper := (opsAt (qc85_0 n)).getD k default
theorem ktakes_ok (p : Nat) (s : List Nat) (blk : List UInt8) (n m : Nat) (hs : s.length = 25) (ws : Kec.Ws s) (hb : blk.length = 136) (w : World) (hp : HP w p (Sp s blk n m) 232) :
  Calls prog 175 #[pT p 0] w (fun e w' => e = .returned (.tuple #[]) ∧ HP w' p (Sp (Kec.takes s blk) zero136 0 m) 232 ∧ Keeps (One p) w w') := by
 have K0 := Keeps.refl (One p) w
 refine sf_ (qc85_0 1) func175 <| q_ <| qr_ [0] <| kk 1 <| et_ <| bl_ 0 ?_
 refine sy_loop (qc85_0 20) (fun a V => ∃ (i : Nat), (Fr 39 [(0, pT p 0), (2, iN i)] [] a) ∧ (i ≤ 17) ∧ (HP V p (Sp (stp (fun i => Kec.g s i ^^^ Kec.wordAt blk i) i s) blk n m) 232) ∧ (Keeps (One p) w V)) (fun a _ => 17 - (intOf (a.tmps.getD 2 undef)).toNat) (by kernel_rfl) ?_ ?_
 ·exact ⟨0, fq, by omega, hp, K0⟩
 ·rintro a V1 ⟨i, hfr, hi, h2, K3⟩
  obtain ⟨uu4, rfl⟩ := Fr.open hfr
  by_cases lt_i : i < 17
  ·show _
   refine q_ <| qr_ [0, 1] <| kk 1 <| pP (dtT ((i : Int) < ((17) : Int))) <| ey_ <| s_ <| tq_ <| bl_ 1 <| rgp 17 (zo17_ (qo85_0 164)) [qo85_0 164 17] fun V6 j6 => ?_
   have ⟨K8, h7⟩ := j6.K1 K3 h2
   refine ks 4 <| spq (pT p i) (exec_cast (v := pT p (0 + i * 1)) (by simp) (ixa p 0 .i64 i 1 underlying229 (by omega))) <| spq (uN (Kec.g s i)) (lc h7 ((Sp_word _ _ _ _ ((stp_len _ _ _).trans hs) i (by omega)).trans (congrArg (fun n : Nat => some (Value.int .u64 (n : Int))) (by rw [stp_get _ _ _ _ (by omega), if_neg (by omega)]))) (k := i)) <| ks 4 <| spq _ (cwN (n := 8 * i)) <| spq (.slice (some ⟨p, 25 + 8 * i, none⟩) (136 - 8 * i) (136 - 8 * i)) (exec_slice_arr 230 (.tmp 15) (.tmp 17) (by kernel_rfl) p 25 (by kernel_rfl) .i64 (8 * i) (by kernel_rfl) 136 5 underlying230 (by kernel_rfl) (by omega)) <| scq 182 #[.slice (some ⟨p, 25 + 8 * i, none⟩) (136 - 8 * i) (136 - 8 * i)] (uN (Kec.wordAt blk i)) func182 (kword_ok p (25 + 8 * i) (136 - 8 * i) (136 - 8 * i) (blk.drop (8 * i)) _ (by rw [List.length_drop, hb]) (by omega) (Nat.le_refl _) (Sp_bytes h7 ((stp_len _ _ _).trans hs) hb (8 * i) (by omega))) <| spq (uN ((Kec.g s i) ^^^ (Kec.wordAt blk i))) (exec_cast (xorU (Kec.g s i) (Kec.wordAt blk i) (ws _) (Kec.wordAt_lt _ _)) (by kernel_rfl)) <| ks 2 <| spq (pT p i) (exec_cast (v := pT p (0 + i * 1)) (by simp) (ixa p 0 .i64 i 1 underlying229 (by omega))) <| st_end ?_
   obtain ⟨V9, eV9, j9⟩ := cell_step V6 p i (.int .u64 (((Kec.g s i) ^^^ (Kec.wordAt blk i) : Nat) : Int))
   have h10 : HP V9 p (Sp (stp (fun i => Kec.g s i ^^^ Kec.wordAt blk i) (i + 1) s) blk n m) 232 := eV9 ▸ ((heap_setCell_same _ p i _ _ (.int .u64 (((Kec.g s i) ^^^ (Kec.wordAt blk i) : Nat) : Int)) h7).trans (congrArg (fun c => some (Obj.cells c 232 (0, 0))) (show (Sp (stp (fun i => Kec.g s i ^^^ Kec.wordAt blk i) i s) blk n m : Array Value).setIfInBounds i (.int .u64 (((Kec.g s i) ^^^ (Kec.wordAt blk i) : Nat) : Int)) = Sp (stp (fun i => Kec.g s i ^^^ Kec.wordAt blk i) (i + 1) s) blk n m from (Sp_set_word _ _ _ _ ((stp_len _ _ _).trans hs) i _ (by omega)).trans (congrArg (fun s => Sp s blk n m) (by rw [stp_succ])))))
   refine ls_skip (qo85_0 164 17) (w' := V9) (by kernel_rfl) (by rw [← eV9]; exact exec_store_cell 26 (.tmp 23) (.tmp 20) (by kernel_rfl) p i (by kernel_rfl) (.int .u64 (((Kec.g s i) ^^^ (Kec.wordAt blk i) : Nat) : Int)) (by kernel_rfl) (by kernel_rfl) (by kernel_rfl) (.int .u64 ((Kec.g s i : Nat) : Int)) (rc h7 ((Sp_word _ _ _ _ ((stp_len _ _ _).trans hs) i (by omega)).trans (congrArg (fun n : Nat => some (Value.int .u64 (n : Int))) (by rw [stp_get _ _ _ _ (by omega), if_neg (by omega)])))) (frozen_of_row _ _ _ _ _ h7) (by kernel_rfl)) ?_
   clear eV9
   have K11 := K8.nw j9 (rfl)
   refine ls_end <| blk_n <| tr_ [0, 1, 2] <| kk 1 <| pP (cwN (n := i + 1)) <| kk 1 <| et_ ?_
   refine ⟨⟨i + 1, fq, by omega, h10, K11⟩, ?_⟩
   exact ltm (17 - (i + 1)) (17 - i)
  ·have eq_i : i = 17 := by omega
   have h12 : HP V1 p (Sp (Kec.mixin s blk) blk n m) 232 := h2.trans (by rw [eq_i, stp_mixin s blk hs])
   refine q_ <| qr_ [0, 1] <| kk 1 <| pP (dtF ((i : Int) < ((17) : Int))) <| en_ <| sy_exit 0 (by kernel_rfl) <| then_e <| then_e <| blk_e <| tqr_ nl9_ <| kk 4 <| ppq (.agg (Wz (Kec.mixin s blk))) (exec_load_seg 229 (.tmp 27) (by kernel_rfl) p 0 (by kernel_rfl) (Wz (Kec.mixin s blk)).toList _ _ _ h12 (Sp_load _ _ _ _ (Kec.len_mixin s blk)) underlying229 rfl (by rw [show (Wz (Kec.mixin s blk)).toList.length = 25 by simp [Wz, Kec.len_mixin]]; kernel_rfl)) <| pcs (kpermuted_ok (Kec.mixin s blk) _ (Kec.len_mixin s blk) (Kec.ws_mixin ws blk)) fun V13 j13 => ?_
   have ⟨K15, h14⟩ := j13.K1 K3 h12
   refine kk 2 ?_
   obtain ⟨V16, eV16⟩ : ∃ V, V13.setCells p 0 (Wz (Kec.takes s blk)).toList = V := ⟨_, rfl⟩
   have j16 : Keeps (One p) V13 V16 := eV16 ▸ Keeps.setCells _ _ _ _
   have h17 : HP V16 p (Sp (Kec.takes s blk) blk n m) 232 := eV16 ▸ (heap_setCells p _ _ 0 _ _ h14 (by rw [Sp_size _ _ _ _ (Kec.len_mixin s blk) hb]; simp [Wz, Kec.len_takes])).trans (congrArg (fun c => some (Obj.cells c 232 (0, 0))) (Sp_seg_words _ _ _ _ _ (Kec.len_mixin s blk) (Kec.len_takes s blk)))
   refine pzq (w' := V16) (by rw [← eV16]; exact exec_store_mid 229 (.tmp 31) (.tmp 29) (by kernel_rfl) p 0 (by kernel_rfl) (Wz (Kec.takes s blk)) (by kernel_rfl) _ _ h14 (by rw [Sp_size _ _ _ _ (Kec.len_mixin s blk) hb]; simp [Wz, Kec.len_takes]) (by rw [Wz_size, Kec.len_takes]; kernel_rfl) (Wz_one _)) ?_
   clear eV16
   have K18 := K15.nw j16 (rfl)
   refine er_ nl9_ <| kk 5 ?_
   obtain ⟨V19, eV19⟩ : ∃ V, V16.setCells p 25 ((B zero136).toArray).toList = V := ⟨_, rfl⟩
   have j19 : Keeps (One p) V16 V19 := eV19 ▸ Keeps.setCells _ _ _ _
   have h20 : HP V19 p (Sp (Kec.takes s blk) zero136 n m) 232 := eV19 ▸ (heap_setCells p _ _ 25 _ _ h17 (by rw [Sp_size _ _ _ _ (Kec.len_takes s blk) hb]; simp [B_length, zero136])).trans (congrArg (fun c => some (Obj.cells c 232 (0, 0))) (Sp_seg_zero _ _ _ _ (Kec.len_takes s blk) hb))
   refine pzq (w' := V19) (by rw [← eV19]; exact exec_store_mid 230 (.tmp 36) (.tmp 34) (by kernel_rfl) p 25 (by kernel_rfl) ((B zero136).toArray) (by kernel_rfl) _ _ h17 (by rw [Sp_size _ _ _ _ (Kec.len_takes s blk) hb]; simp [B_length, zero136]) (by kernel_rfl) (by rw [List.all_toArray]; exact List.all_eq_true.2 (B_one _))) ?_
   clear eV19
   have K21 := K18.nw j19 (rfl)
   refine kk 2 <| pce 3 p 161 (iI 0) (Sp (Kec.takes s blk) zero136 0 m) h20 (rc h20 (Sp_n _ _ _ _ (Kec.len_takes s blk) zero136_len)) (Sp_set_n _ _ _ _ _ (Kec.len_takes s blk) zero136_len) fun V22 h23 j22 => ?_
   have K24 := K21.nw j22 (rfl)
   refine ps_end <| sy_fall (.tuple #[]) rfl (by kernel_rfl) ?_
   exact ⟨rfl, h23, K24⟩
def blkOf (l : List UInt8) : List UInt8 := Kec.restOf l ++ List.replicate (136 - l.length % 136) 0
theorem blkOf_len (l : List UInt8) : (blkOf l).length = 136 := by unfold blkOf; rw [List.length_append, Kec.restOf_len, List.length_replicate]; omega
theorem blkOf_cut (l y : List UInt8) (h : l.length % 136 + y.length ≤ 136) : (blkOf l).take (l.length % 136) ++ y ++ (blkOf l).drop (l.length % 136 + y.length) = Kec.restOf l ++ y ++ List.replicate (136 - l.length % 136 - y.length) 0 := by
 have hr := Kec.restOf_len l
 unfold blkOf
 rw [List.take_left' hr, List.drop_append, List.drop_of_length_le (by omega), List.nil_append, hr, Nat.add_sub_cancel_left, List.drop_replicate]
theorem write_some (l y : List UInt8) (h : l.length % 136 + y.length < 136) : (blkOf l).take (l.length % 136) ++ y ++ (blkOf l).drop (l.length % 136 + y.length) = blkOf (l ++ y) ∧ Kec.stateOf l = Kec.stateOf (l ++ y) ∧ l.length % 136 + y.length = (l ++ y).length % 136 := by
 have hr := Kec.restOf_len l
 have hs := Kec.sponge_some l y (by omega)
 have hl : l.length % 136 + y.length = (l ++ y).length % 136 := by rw [List.length_append]; omega
 refine ⟨?_, hs.1.symm, hl⟩
 rw [blkOf_cut l y (by omega)]
 unfold blkOf
 rw [hs.2, ← hl, Nat.sub_sub]
theorem write_full (l y : List UInt8) (h : l.length % 136 + y.length = 136) : Kec.takes (Kec.stateOf l) ((blkOf l).take (l.length % 136) ++ y ++ (blkOf l).drop (l.length % 136 + y.length)) = Kec.stateOf (l ++ y) ∧ zero136 = blkOf (l ++ y) ∧ 0 = (l ++ y).length % 136 := by
 have hr := Kec.restOf_len l
 have hs := Kec.sponge_fill l y (by omega)
 have hl : 0 = (l ++ y).length % 136 := by rw [List.length_append]; omega
 refine ⟨?_, ?_, hl⟩
 ·rw [blkOf_cut l y (by omega), hs.1, show 136 - l.length % 136 - y.length = 0 by omega]; simp
 ·unfold blkOf zero136
  rw [hs.2, ← hl]; simp
theorem wcase (n r : Nat) (hr : r < 136) : (∃ c, 0 < n ∧ c = n ∧ c = Nat.min n (136 - r) ∧ r + c < 136) ∨ (∃ c, 0 < n ∧ c ≤ n ∧ c = Nat.min n (136 - r) ∧ r + c = 136) ∨ n = 0 := by
 have h : Nat.min n (136 - r) = if n ≤ 136 - r then n else 136 - r := Nat.min_def
 by_cases h0 : n = 0
 ·exact .inr (.inr h0)
 ·by_cases h1 : r + n < 136
  ·exact .inl ⟨n, by omega, rfl, by rw [h, if_pos (by omega)], h1⟩
  ·refine .inr (.inl ⟨136 - r, by omega, by omega, ?_, by omega⟩)
   rw [h]; split <;> omega
def sliceLen : Value → Nat | .slice _ n _ => n | _ => 0
def SpAt (w : World) (p : Nat) (l : List UInt8) : Prop := HP w p (Sp (Kec.stateOf l) (blkOf l) (l.length % 136) l.length) 232
theorem take_step (x : List UInt8) (k c : Nat) : x.take (k + c) = x.take k ++ (x.drop k).take c := by rw [List.take_add]
theorem sp_next (l x y : List UInt8) (k c m : Nat) (hy : y = (x.drop k).take c) (cs : Array Value) (h : cs = Sp (Kec.stateOf (l ++ x.take k ++ y)) (blkOf (l ++ x.take k ++ y)) ((l ++ x.take k ++ y).length % 136) m) : cs = Sp (Kec.stateOf (l ++ x.take (k + c))) (blkOf (l ++ x.take (k + c))) ((l ++ x.take (k + c)).length % 136) m := by
 rw [h, hy, take_step, List.append_assoc]
theorem cut_block (A : Option Addr) (n cap c j : Nat) (h : (Value.slice (if cap = c then A else A.map (·.add c)) (n - c) (cap - c)).ownBlock = some j) : (Value.slice A n cap).ownBlock = some j := by
 cases A with
 | none => split at h <;> simp [Value.ownBlock] at h
 | some a =>
  have hb : (a.add c).block = a.block := by unfold Addr.add; split <;> rfl
  split at h
  ·exact h
  ·simp only [Value.ownBlock, Option.map_some, hb] at h ⊢; exact h
def qc85_1 (n : Nat) : Code := partOf f162 n
abbrev qo85_1 (n k : Nat) : Oper := (opsAt (qc85_1 n)).getD k default
theorem kwrite_ok (p : Nat) (l x : List UInt8) (A0 : Option Addr) (cap0 : Nat) (w : World) (hp : SpAt w p l) (hx : BytesAt w (.slice A0 x.length cap0) x) (hA0 : 0 < x.length → ∀ j, (Value.slice A0 x.length cap0).ownBlock = some j → j ≠ p) (hl : l.length + x.length ≤ 9000000000000000000) :
  Calls prog 162 #[pT p 0, .slice A0 x.length cap0] w (fun e w' => e = .returned (.tuple #[]) ∧ SpAt w' p (l ++ x) ∧ Keeps (One p) w w') := by
 have K0 := Keeps.refl (One p) w
 refine sf_ (qc85_1 1) func162 <| qr_ nl10_ <| kk 3 <| pP (lc (hp) (Sp_m _ _ _ _ (Kec.len_stateOf _) (blkOf_len _))) <| kk 1 <| pP (len_ A0 x.length cap0 underlying214) <| pP (cwN (n := l.length + x.length)) <| kk 2 <| pce 3 p 162 (iN (l.length + x.length)) (Sp (Kec.stateOf l) (blkOf l) (l.length % 136) (l.length + x.length)) hp (rc (hp) (Sp_m _ _ _ _ (Kec.len_stateOf _) (blkOf_len _))) (Sp_set_m _ _ _ _ _ (Kec.len_stateOf _) (blkOf_len _)) fun V1 h2 j1 => ?_
 have h3 : BytesAt V1 (.slice A0 x.length cap0) x := hx.keeps0 j1 (fun hn j hj e => hA0 hn j hj e)
 have K4 := K0.nw j1 (rfl)
 refine et_ <| bl_ 0 ?_
 refine sy_loop (qc85_1 12) (fun a V => ∃ (k : Nat) (n : Nat) (cap : Nat) (A : Option Addr), (Fr 45 [(0, pT p 0), (1, .slice A n cap)] [] a) ∧ (n + k = x.length) ∧ (0 < n → ∀ j, (Value.slice A n cap).ownBlock = some j → j ≠ p) ∧ (BytesAt V (.slice A n cap) (x.drop k)) ∧ (HP V p (Sp (Kec.stateOf (l ++ x.take k)) (blkOf (l ++ x.take k)) ((l ++ x.take k).length % 136) (l.length + x.length)) 232) ∧ (Keeps (One p) w V)) (fun a _ => sliceLen (a.tmps.getD 1 undef)) (by kernel_rfl) ?_ ?_
 ·exact ⟨0, x.length, cap0, A0, fq, rfl, hA0, h3, h2.trans (by rw [List.take_zero, List.append_nil]), K4⟩
 ·rintro a V5 ⟨k, n, cap, A, hfr, hkn, hA, h6, h7, K8⟩
  obtain ⟨uu9, rfl⟩ := Fr.open hfr
  rcases wcase n ((l ++ x.take k).length % 136) (Nat.mod_lt _ (by decide)) with ⟨c, h0, hcn, hcm, hcr⟩ | ⟨c, h0, hcn, hcm, hcr⟩ | h0
  ·show _
   refine q_ <| qr_ [0, 1, 2] <| kk 1 <| pP (len_ A n cap underlying214) <| pP (dtT ((n : Int) > ((0) : Int))) <| ey_ <| s_ <| then_n <| bl_ 1 <| q_ <| rgp 9 (zo9_ (qo85_1 100)) [qo85_1 100 9, qo85_1 100 10] fun V11 j11 => ?_
   have h12 := h6.keepsN j11
   have ⟨K14, h13⟩ := j11.K1 K8 h7
   refine ks 6 <| spq _ (lc h13 (Sp_n _ _ _ _ (Kec.len_stateOf _) (blkOf_len _))) <| spq (.slice (some ⟨p, 25 + ((l ++ x.take k).length % 136), none⟩) (136 - ((l ++ x.take k).length % 136)) (136 - ((l ++ x.take k).length % 136))) (exec_slice_arr 230 (.tmp 19) (.tmp 23) (by kernel_rfl) p 25 (by kernel_rfl) .i64 ((l ++ x.take k).length % 136) (by kernel_rfl) 136 5 underlying230 (by kernel_rfl) (Nat.mod_lt _ (by decide))) <| ks 1 <| st_end ?_
   have hyl : ((x.drop k).take c).length = c := by rw [List.length_take, List.length_drop]; omega
   have hrk : (l ++ x.take k).length % 136 < 136 := Nat.mod_lt _ (by decide)
   obtain ⟨V15, eV15⟩ : ∃ V, V11.setRow p (seg (Sp (Kec.stateOf (l ++ x.take k)) (blkOf (l ++ x.take k)) ((l ++ x.take k).length % 136) (l.length + x.length)) (25 + ((l ++ x.take k).length % 136)) (B ((x.drop k).take c))) = V := ⟨_, rfl⟩
   have j15 : Keeps (One p) V11 V15 := eV15 ▸ (Keeps.refl (One p) _).setRow (fun _ => (rfl : Own.One p p)) _
   have h16 : HP V15 p (Sp (Kec.stateOf (l ++ x.take k)) ((blkOf (l ++ x.take k)).take ((l ++ x.take k).length % 136) ++ ((x.drop k).take c) ++ (blkOf (l ++ x.take k)).drop ((l ++ x.take k).length % 136 + ((x.drop k).take c).length)) ((l ++ x.take k).length % 136) (l.length + x.length)) 232 := eV15 ▸ (setRow_heap _ _ _ _ _ _ h13).trans (congrArg (fun c => some (Obj.cells c 232 (0, 0))) (Sp_seg_bytes _ _ _ _ _ _ (Kec.len_stateOf _) (by rw [blkOf_len, hyl]; omega)))
   refine ls_run (qo85_1 100 9) (w' := V15) (iN c) (by kernel_rfl) (by rw [← eV15]; exact exec_copy (.tmp 24) (.tmp 25) 214 (by kernel_rfl) 5 underlying214 (by kernel_rfl) p (25 + ((l ++ x.take k).length % 136)) (136 - ((l ++ x.take k).length % 136)) (136 - ((l ++ x.take k).length % 136)) (by kernel_rfl) (.slice A n cap) (x.drop k) (by kernel_rfl) h12 _ _ h13 c (by rw [List.length_drop, show x.length - k = n by omega]; exact hcm) (by rw [Sp_size _ _ _ _ (Kec.len_stateOf _) (blkOf_len _)]; omega) (by rw [List.length_drop]; omega)) ?_
   clear eV15
   have h17 : BytesAt V15 (.slice A n cap) (x.drop k) := h12.keeps0 j15 (fun hn j hj e => hA (by rw [List.length_drop] at hn; omega) j hj e)
   have K18 := K14.nw j15 (rfl)
   refine ls_run (qo85_1 100 10) (iN c) (w' := V15) (by kernel_rfl) (by kernel_rfl) <| ls_end <| tqr_ nl9_ <| kk 3 <| ppq (iN ((l ++ x.take k).length % 136)) (lc h16 (Sp_n _ _ _ _ (Kec.len_stateOf _) ((by rw [List.length_append, List.length_append, List.length_take, List.length_drop, blkOf_len, hyl]; omega : ((blkOf (l ++ x.take k)).take ((l ++ x.take k).length % 136) ++ ((x.drop k).take c) ++ (blkOf (l ++ x.take k)).drop ((l ++ x.take k).length % 136 + ((x.drop k).take c).length)).length = 136))) (k := 161)) <| kk 1 <| pP (cwN (n := ((l ++ x.take k).length % 136) + c)) <| kk 2 <| pce 3 p 161 (iN (((l ++ x.take k).length % 136) + c)) (Sp (Kec.stateOf (l ++ x.take k)) ((blkOf (l ++ x.take k)).take ((l ++ x.take k).length % 136) ++ ((x.drop k).take c) ++ (blkOf (l ++ x.take k)).drop ((l ++ x.take k).length % 136 + ((x.drop k).take c).length)) (((l ++ x.take k).length % 136) + c) (l.length + x.length)) h16 (rc h16 (Sp_n _ _ _ _ (Kec.len_stateOf _) ((by rw [List.length_append, List.length_append, List.length_take, List.length_drop, blkOf_len, hyl]; omega : ((blkOf (l ++ x.take k)).take ((l ++ x.take k).length % 136) ++ ((x.drop k).take c) ++ (blkOf (l ++ x.take k)).drop ((l ++ x.take k).length % 136 + ((x.drop k).take c).length)).length = 136)))) (Sp_set_n _ _ _ _ _ (Kec.len_stateOf _) ((by rw [List.length_append, List.length_append, List.length_take, List.length_drop, blkOf_len, hyl]; omega : ((blkOf (l ++ x.take k)).take ((l ++ x.take k).length % 136) ++ ((x.drop k).take c) ++ (blkOf (l ++ x.take k)).drop ((l ++ x.take k).length % 136 + ((x.drop k).take c).length)).length = 136))) fun V19 h20 j19 => ?_
   have h21 : BytesAt V19 (.slice A n cap) (x.drop k) := h17.keeps0 j19 (fun hn j hj e => hA (by rw [List.length_drop] at hn; omega) j hj e)
   have K22 := K18.nw j19 (rfl)
   refine eqr_ [0, 1, 2, 3] <| kk 2 <| ppq (.slice (if cap = c then A else A.map (·.add c)) (n - c) (cap - c)) (exec_slice_from 214 (.tmp 35) (.tmp 36) (by kernel_rfl) A n cap (by kernel_rfl) .i64 c (by kernel_rfl) 5 underlying214 (by kernel_rfl) (by omega)) <| kk 1 <| eqr_ nl5_ <| kk 3 <| ppq (iN (((l ++ x.take k).length % 136) + c)) (lc h20 (Sp_n _ _ _ _ (Kec.len_stateOf _) ((by rw [List.length_append, List.length_append, List.length_take, List.length_drop, blkOf_len, hyl]; omega : ((blkOf (l ++ x.take k)).take ((l ++ x.take k).length % 136) ++ ((x.drop k).take c) ++ (blkOf (l ++ x.take k)).drop ((l ++ x.take k).length % 136 + ((x.drop k).take c).length)).length = 136))) (k := 161)) <| ppq (.bool false) (cbo (show (((((((l ++ x.take k).length % 136) + c : Nat) : Int)) == ((136) : Int))) = false from by simp only [beq_eq_false_iff_ne, ne_eq]; omega)) <| en_ <| s_ <| blk_n <| then_n ?_
   refine ⟨⟨k + c, n - c, cap - c, (if cap = c then A else A.map (·.add c)), fq, by omega, fun hn j hj => hA (by omega) j (cut_block A n cap c j hj), (show BytesAt _ (.slice (if cap = c then A else A.map (·.add c)) (n - c) (cap - c)) (x.drop (k + c)) from by have := BytesAt.drop h21 c (by rw [List.length_drop]; omega) _ _ _ rfl; rwa [List.drop_drop] at this), h20.trans (congrArg (fun c => some (Obj.cells c 232 (0, 0))) (sp_next l x _ k c _ rfl _ (by obtain ⟨e1, e2, e3⟩ := write_some (l ++ x.take k) ((x.drop k).take c) (by rw [hyl]; omega); rw [← e1, ← e2, ← e3, hyl]))), K22⟩, ?_⟩
   exact ltm (n - c) (n)
  ·show _
   refine q_ <| qr_ [0, 1, 2] <| kk 1 <| pP (len_ A n cap underlying214) <| pP (dtT ((n : Int) > ((0) : Int))) <| ey_ <| s_ <| then_n <| bl_ 1 <| q_ <| rgp 9 (zo9_ (qo85_1 100)) [qo85_1 100 9, qo85_1 100 10] fun V24 j24 => ?_
   have h25 := h6.keepsN j24
   have ⟨K27, h26⟩ := j24.K1 K8 h7
   refine ks 6 <| spq _ (lc h26 (Sp_n _ _ _ _ (Kec.len_stateOf _) (blkOf_len _))) <| spq (.slice (some ⟨p, 25 + ((l ++ x.take k).length % 136), none⟩) (136 - ((l ++ x.take k).length % 136)) (136 - ((l ++ x.take k).length % 136))) (exec_slice_arr 230 (.tmp 19) (.tmp 23) (by kernel_rfl) p 25 (by kernel_rfl) .i64 ((l ++ x.take k).length % 136) (by kernel_rfl) 136 5 underlying230 (by kernel_rfl) (Nat.mod_lt _ (by decide))) <| ks 1 <| st_end ?_
   have hyl : ((x.drop k).take c).length = c := by rw [List.length_take, List.length_drop]; omega
   have hrk : (l ++ x.take k).length % 136 < 136 := Nat.mod_lt _ (by decide)
   obtain ⟨V28, eV28⟩ : ∃ V, V24.setRow p (seg (Sp (Kec.stateOf (l ++ x.take k)) (blkOf (l ++ x.take k)) ((l ++ x.take k).length % 136) (l.length + x.length)) (25 + ((l ++ x.take k).length % 136)) (B ((x.drop k).take c))) = V := ⟨_, rfl⟩
   have j28 : Keeps (One p) V24 V28 := eV28 ▸ (Keeps.refl (One p) _).setRow (fun _ => (rfl : Own.One p p)) _
   have h29 : HP V28 p (Sp (Kec.stateOf (l ++ x.take k)) ((blkOf (l ++ x.take k)).take ((l ++ x.take k).length % 136) ++ ((x.drop k).take c) ++ (blkOf (l ++ x.take k)).drop ((l ++ x.take k).length % 136 + ((x.drop k).take c).length)) ((l ++ x.take k).length % 136) (l.length + x.length)) 232 := eV28 ▸ (setRow_heap _ _ _ _ _ _ h26).trans (congrArg (fun c => some (Obj.cells c 232 (0, 0))) (Sp_seg_bytes _ _ _ _ _ _ (Kec.len_stateOf _) (by rw [blkOf_len, hyl]; omega)))
   refine ls_run (qo85_1 100 9) (w' := V28) (iN c) (by kernel_rfl) (by rw [← eV28]; exact exec_copy (.tmp 24) (.tmp 25) 214 (by kernel_rfl) 5 underlying214 (by kernel_rfl) p (25 + ((l ++ x.take k).length % 136)) (136 - ((l ++ x.take k).length % 136)) (136 - ((l ++ x.take k).length % 136)) (by kernel_rfl) (.slice A n cap) (x.drop k) (by kernel_rfl) h25 _ _ h26 c (by rw [List.length_drop, show x.length - k = n by omega]; exact hcm) (by rw [Sp_size _ _ _ _ (Kec.len_stateOf _) (blkOf_len _)]; omega) (by rw [List.length_drop]; omega)) ?_
   clear eV28
   have h30 : BytesAt V28 (.slice A n cap) (x.drop k) := h25.keeps0 j28 (fun hn j hj e => hA (by rw [List.length_drop] at hn; omega) j hj e)
   have K31 := K27.nw j28 (rfl)
   refine ls_run (qo85_1 100 10) (iN c) (w' := V28) (by kernel_rfl) (by kernel_rfl) <| ls_end <| tqr_ nl9_ <| kk 3 <| ppq (iN ((l ++ x.take k).length % 136)) (lc h29 (Sp_n _ _ _ _ (Kec.len_stateOf _) ((by rw [List.length_append, List.length_append, List.length_take, List.length_drop, blkOf_len, hyl]; omega : ((blkOf (l ++ x.take k)).take ((l ++ x.take k).length % 136) ++ ((x.drop k).take c) ++ (blkOf (l ++ x.take k)).drop ((l ++ x.take k).length % 136 + ((x.drop k).take c).length)).length = 136))) (k := 161)) <| kk 1 <| pP (cwN (n := ((l ++ x.take k).length % 136) + c)) <| kk 2 <| pce 3 p 161 (iN (((l ++ x.take k).length % 136) + c)) (Sp (Kec.stateOf (l ++ x.take k)) ((blkOf (l ++ x.take k)).take ((l ++ x.take k).length % 136) ++ ((x.drop k).take c) ++ (blkOf (l ++ x.take k)).drop ((l ++ x.take k).length % 136 + ((x.drop k).take c).length)) (((l ++ x.take k).length % 136) + c) (l.length + x.length)) h29 (rc h29 (Sp_n _ _ _ _ (Kec.len_stateOf _) ((by rw [List.length_append, List.length_append, List.length_take, List.length_drop, blkOf_len, hyl]; omega : ((blkOf (l ++ x.take k)).take ((l ++ x.take k).length % 136) ++ ((x.drop k).take c) ++ (blkOf (l ++ x.take k)).drop ((l ++ x.take k).length % 136 + ((x.drop k).take c).length)).length = 136)))) (Sp_set_n _ _ _ _ _ (Kec.len_stateOf _) ((by rw [List.length_append, List.length_append, List.length_take, List.length_drop, blkOf_len, hyl]; omega : ((blkOf (l ++ x.take k)).take ((l ++ x.take k).length % 136) ++ ((x.drop k).take c) ++ (blkOf (l ++ x.take k)).drop ((l ++ x.take k).length % 136 + ((x.drop k).take c).length)).length = 136))) fun V32 h33 j32 => ?_
   have h34 : BytesAt V32 (.slice A n cap) (x.drop k) := h30.keeps0 j32 (fun hn j hj e => hA (by rw [List.length_drop] at hn; omega) j hj e)
   have K35 := K31.nw j32 (rfl)
   refine eqr_ [0, 1, 2, 3] <| kk 2 <| ppq (.slice (if cap = c then A else A.map (·.add c)) (n - c) (cap - c)) (exec_slice_from 214 (.tmp 35) (.tmp 36) (by kernel_rfl) A n cap (by kernel_rfl) .i64 c (by kernel_rfl) 5 underlying214 (by kernel_rfl) (by omega)) <| kk 1 <| eqr_ nl5_ <| kk 3 <| ppq (iN (((l ++ x.take k).length % 136) + c)) (lc h33 (Sp_n _ _ _ _ (Kec.len_stateOf _) ((by rw [List.length_append, List.length_append, List.length_take, List.length_drop, blkOf_len, hyl]; omega : ((blkOf (l ++ x.take k)).take ((l ++ x.take k).length % 136) ++ ((x.drop k).take c) ++ (blkOf (l ++ x.take k)).drop ((l ++ x.take k).length % 136 + ((x.drop k).take c).length)).length = 136))) (k := 161)) <| ppq (.bool true) (cbo (show (((((((l ++ x.take k).length % 136) + c : Nat) : Int)) == ((136) : Int))) = true from by simp only [beq_iff_eq]; omega)) <| ey_ <| r_ [0, 1] <| kk 1 ?_
   refine pcq 175 #[pT p 0] func175 ((ktakes_ok p _ _ _ _ (Kec.len_stateOf _) (Kec.ws_stateOf _) ((by rw [List.length_append, List.length_append, List.length_take, List.length_drop, blkOf_len, hyl]; omega : ((blkOf (l ++ x.take k)).take ((l ++ x.take k).length % 136) ++ ((x.drop k).take c) ++ (blkOf (l ++ x.take k)).drop ((l ++ x.take k).length % 136 + ((x.drop k).take c).length)).length = 136)) _ h33).mono ?_)
   rintro e V36 ⟨rfl, h37, j36⟩
   refine ⟨_, rfl, ?_⟩
   have h38 : BytesAt V36 (.slice A n cap) (x.drop k) := h34.keeps0 j36 (fun hn j hj e => hA (by rw [List.length_drop] at hn; omega) j hj e)
   have K39 := K35.nw j36 (rfl)
   refine ps_end <| blk_n <| then_n ?_
   refine ⟨⟨k + c, n - c, cap - c, (if cap = c then A else A.map (·.add c)), fq, by omega, fun hn j hj => hA (by omega) j (cut_block A n cap c j hj), (show BytesAt _ (.slice (if cap = c then A else A.map (·.add c)) (n - c) (cap - c)) (x.drop (k + c)) from by have := BytesAt.drop h38 c (by rw [List.length_drop]; omega) _ _ _ rfl; rwa [List.drop_drop] at this), h37.trans (congrArg (fun c => some (Obj.cells c 232 (0, 0))) (sp_next l x _ k c _ rfl _ (by obtain ⟨e1, e2, e3⟩ := write_full (l ++ x.take k) ((x.drop k).take c) (by rw [hyl]; omega); rw [← e1, ← e2, ← e3]))), K39⟩, ?_⟩
   exact ltm (n - c) (n)
  ·have hkx : x.take k = x := List.take_of_length_le (by omega)
   refine q_ <| qr_ [0, 1, 2] <| kk 1 <| pP (len_ A n cap underlying214) <| pP (dtF ((n : Int) > ((0) : Int))) <| en_ <| sy_exit 0 (by kernel_rfl) <| then_e <| then_e <| blk_e <| sy_fall (.tuple #[]) rfl (by kernel_rfl) ?_
   exact ⟨rfl, (by unfold SpAt; rw [List.length_append]; have h := h7; rw [hkx, List.length_append] at h; exact h), K8⟩
theorem xor8_fin : ∀ c : Fin 256, bits .xor .u8 (c.val : Int) 6 = ((c.val ^^^ 6 : Nat) : Int) ∧ bits .xor .u8 (c.val : Int) 128 = ((c.val ^^^ 128 : Nat) : Int) := by decide +kernel
theorem xor8_6 (c : UInt8) : Value.int .u8 (bits .xor .u8 (c.toNat : Int) 6) = .int .u8 (((c ^^^ 6).toNat : Nat) : Int) := congrArg _ (xor8_fin ⟨c.toNat, c.toNat_lt⟩).1
theorem xor8_128 (c : UInt8) : Value.int .u8 (bits .xor .u8 (c.toNat : Int) 128) = .int .u8 (((c ^^^ 128).toNat : Nat) : Int) := congrArg _ (xor8_fin ⟨c.toNat, c.toNat_lt⟩).2
theorem last_eq (l : List UInt8) : ((blkOf l).set (l.length % 136) ((blkOf l).getD (l.length % 136) 0 ^^^ 6)).set 135 (((blkOf l).set (l.length % 136) ((blkOf l).getD (l.length % 136) 0 ^^^ 6)).getD 135 0 ^^^ 128) = Kec.lastBlock (Kec.restOf l) := by
 have hr := Kec.restOf_len l
 have e1 : (blkOf l).getD (l.length % 136) 0 = 0 := by
  unfold blkOf
  rw [Kec.getD_right _ _ _ _ (by omega), hr, Nat.sub_self, List.getD_eq_getElem?_getD, List.getElem?_replicate]
  split <;> rfl
 have e2 : (blkOf l).set (l.length % 136) ((blkOf l).getD (l.length % 136) 0 ^^^ 6) = Kec.restOf l ++ 6 :: List.replicate (135 - l.length % 136) 0 := by
  rw [e1]
  unfold blkOf
  rw [List.set_append, if_neg (by omega), hr, Nat.sub_self, show 136 - l.length % 136 = (135 - l.length % 136) + 1 by omega, List.replicate_succ]
  rfl
 rw [e2]
 unfold Kec.lastBlock
 rw [hr]
theorem squeeze_step (S : List Nat) (k : Nat) (hk : k < 4) : (Kec.squeeze S).take (8 * k + 8) = (Kec.squeeze S).take (8 * k) ++ Kec.eight (Kec.g S k) := by
 have e (n : Nat) : (Kec.eight n).length = 8 := eight_len
 unfold Kec.squeeze
 match k, hk with
 | 0, _ => rw [List.append_assoc, List.append_assoc, List.take_append_of_le_length (by rw [e]; omega), List.take_of_length_le (by rw [e]; omega)]; simp
 | 1, _ =>
  rw [List.append_assoc, List.take_append_of_le_length (by simp [e]), List.take_of_length_le (by simp [e]), List.append_assoc, List.take_append_of_le_length (by rw [e]; omega), List.take_of_length_le (by rw [e]; omega)]
 | 2, _ =>
  rw [List.take_append_of_le_length (by simp [e]), List.take_of_length_le (by simp [e]), List.append_assoc (Kec.eight _ ++ Kec.eight _), List.take_append_of_le_length (by simp [e]), List.take_of_length_le (by simp [e])]
 | 3, _ =>
  rw [List.take_of_length_le (by simp [e]), List.take_append_of_le_length (by simp [e]), List.take_of_length_le (by simp [e])]
def sqk (S : List Nat) (k : Nat) : List UInt8 := (Kec.squeeze S).take (8 * k) ++ List.replicate (32 - 8 * k) 0
theorem sqk_len (S : List Nat) (k : Nat) (hk : k ≤ 4) : (sqk S k).length = 32 := by unfold sqk; rw [List.length_append, List.length_take, Kec.squeeze_len, List.length_replicate]; omega
theorem seg_bytes (l y : List UInt8) (o : Nat) : seg (B l).toArray o (B y) = (B (l.take o ++ y ++ l.drop (o + y.length))).toArray := by
 apply Array.toList_inj.1
 simp [seg, B_append, ← B_take, ← B_drop, B_length]
theorem sqk_step (S : List Nat) (k : Nat) (hk : k < 4) : (sqk S k).take (8 * k) ++ Kec.eight (Kec.g S k) ++ (sqk S k).drop (8 * k + (Kec.eight (Kec.g S k)).length) = sqk S (k + 1) := by
 have hl : ((Kec.squeeze S).take (8 * k)).length = 8 * k := by rw [List.length_take, Kec.squeeze_len]; omega
 unfold sqk
 rw [List.take_left' hl, List.drop_append, List.drop_of_length_le (by omega), List.nil_append, hl, eight_len, Nat.add_sub_cancel_left, List.drop_replicate, show 8 * (k + 1) = 8 * k + 8 by omega, squeeze_step S k hk, Nat.sub_sub]
theorem sqk_all (S : List Nat) : sqk S 4 = Kec.squeeze S := by
 unfold sqk
 rw [List.take_of_length_le (by rw [Kec.squeeze_len]; omega)]; simp
theorem blk_bytes {w : World} {g n : Nat} {l : List UInt8} {T : TypeId} (h : HP w g (B l).toArray T) (hn : l.length = n) (hm : n ≤ maxLen) : BytesAt w (sS g n n) l := by
 subst hn
 refine ⟨⟨_, _, rfl, Nat.le_refl _, hm, fun h => by cases h⟩, fun k x hk => ⟨g, 0, _, rfl, lt_of_block h, ?_⟩⟩
 rw [Nat.zero_add]
 refine (cell_of_row _ _ _ _ _ _ h).trans ?_
 rw [List.getElem?_toArray]; exact B_get l k x hk
def qc85_4 (n : Nat) : Code := partOf f163 n
abbrev qo85_4 (n k : Nat) : Oper := (opsAt (qc85_4 n)).getD k default
theorem ksum_ok (l : List UInt8) (w : World) :
  Calls prog 163 #[.agg (Sp (Kec.stateOf l) (blkOf l) (l.length % 136) l.length)] w (RK w (.agg (B (Kec.sum l)).toArray)) := by
 obtain ⟨S, hS⟩ : ∃ S, Kec.takes (Kec.stateOf l) (Kec.lastBlock (Kec.restOf l)) = S := ⟨_, rfl⟩
 have hSl : S.length = 25 := hS ▸ Kec.len_takes _ _
 have hSw : Kec.Ws S := hS ▸ Kec.ws_takes (Kec.ws_stateOf l) _
 have hmod : l.length % 136 < 136 := Nat.mod_lt _ (by decide)
 have K0 := kz0 w
 refine sf_ (qc85_4 1) func163 <| qr_ [0, 1] <| pbg 232 (Sp (Kec.stateOf l) (blkOf l) (l.length % 136) l.length) fun V1 p ep h2 j1 => ?_
 have n3 := nk ep K0
 have K4 := K0.nn j1
 refine pag 25 (zr_u8_32) fun V5 gr egr h6 j5 => ?_
 have := nqk1 egr h2 K4
 have ⟨K10, h9⟩ := j5.K1 K4 h2
 refine eqr_ nl9_ <| kk 1 <| pP (lc h9 (Sp_n _ _ _ _ (Kec.len_stateOf _) (blkOf_len _))) <| kk 1 <| ppq (pT p (25 + (l.length % 136))) (exec_cast (v := pT p (25 + (l.length % 136) * 1)) (by simp) (ixa p 25 .i64 (l.length % 136) 1 underlying230 (by omega))) <| ppq (cN (((blkOf l).getD ((l.length % 136)) 0).toNat)) (exec_ld 5 (.tmp 9) p (25 + (l.length % 136)) underlying5 (rc h9 (Sp_byte _ _ _ _ (Kec.len_stateOf _) ((l.length % 136)) ((blkOf l).getD ((l.length % 136)) 0) (getD_some _ _ (by rw [(blkOf_len _)]; omega))))) <| ppq (cN (((blkOf l).getD (l.length % 136) 0 ^^^ 6).toNat)) (exec_cast (xor8_6 ((blkOf l).getD (l.length % 136) 0)) (by kernel_rfl)) <| kk 1 <| ppq (pT p (25 + (l.length % 136))) (exec_cast (v := pT p (25 + (l.length % 136) * 1)) (by simp) (ixa p 25 .i64 (l.length % 136) 1 underlying230 (by omega))) <| pce 5 p (25 + (l.length % 136)) (cN (((blkOf l).getD (l.length % 136) 0 ^^^ 6).toNat)) (Sp (Kec.stateOf l) ((blkOf l).set ((l.length % 136)) (((blkOf l).getD (l.length % 136) 0 ^^^ 6))) (l.length % 136) l.length) h9 (rc h9 (Sp_byte _ _ _ _ (Kec.len_stateOf _) ((l.length % 136)) ((blkOf l).getD ((l.length % 136)) 0) (getD_some _ _ (by rw [(blkOf_len _)]; omega)))) (Sp_set_byte _ _ _ _ (Kec.len_stateOf _) ((l.length % 136)) (((blkOf l).getD (l.length % 136) 0 ^^^ 6)) (by rw [(blkOf_len _)]; omega)) fun V11 h12 j11 => ?_
 have ⟨K14, h13⟩ := j11.Ko1 K10 h6
 refine eqr_ nl7_ <| kk 1 <| ppq (pT p 160) (exec_cast (v := pT p (25 + 135 * 1)) (by simp) (ixa p 25 .i64 135 1 underlying230 (by omega))) <| ppq (cN ((((blkOf l).set ((l.length % 136)) (((blkOf l).getD (l.length % 136) 0 ^^^ 6))).getD 135 0).toNat)) (lc h12 (Sp_byte _ _ _ _ (Kec.len_stateOf _) 135 (((blkOf l).set ((l.length % 136)) (((blkOf l).getD (l.length % 136) 0 ^^^ 6))).getD 135 0) (getD_some _ _ (by rw [((List.length_set ..).trans (blkOf_len _))]; omega))) (k := 160)) <| ppq (cN ((((blkOf l).set (l.length % 136) ((blkOf l).getD (l.length % 136) 0 ^^^ 6)).getD 135 0 ^^^ 128).toNat)) (exec_cast (xor8_128 (((blkOf l).set (l.length % 136) ((blkOf l).getD (l.length % 136) 0 ^^^ 6)).getD 135 0)) (by kernel_rfl)) <| kk 1 <| ppq (pT p 160) (exec_cast (v := pT p (25 + 135 * 1)) (by simp) (ixa p 25 .i64 135 1 underlying230 (by omega))) <| pce 5 p 160 (cN ((((blkOf l).set (l.length % 136) ((blkOf l).getD (l.length % 136) 0 ^^^ 6)).getD 135 0 ^^^ 128).toNat)) (Sp (Kec.stateOf l) (((blkOf l).set ((l.length % 136)) (((blkOf l).getD (l.length % 136) 0 ^^^ 6))).set 135 ((((blkOf l).set (l.length % 136) ((blkOf l).getD (l.length % 136) 0 ^^^ 6)).getD 135 0 ^^^ 128))) (l.length % 136) l.length) h12 (rc h12 (Sp_byte _ _ _ _ (Kec.len_stateOf _) 135 (((blkOf l).set ((l.length % 136)) (((blkOf l).getD (l.length % 136) 0 ^^^ 6))).getD 135 0) (getD_some _ _ (by rw [((List.length_set ..).trans (blkOf_len _))]; omega)))) (Sp_set_byte _ _ _ _ (Kec.len_stateOf _) 135 ((((blkOf l).set (l.length % 136) ((blkOf l).getD (l.length % 136) 0 ^^^ 6)).getD 135 0 ^^^ 128)) (by rw [((List.length_set ..).trans (blkOf_len _))]; omega)) fun V15 h16 j15 => ?_
 have ⟨K18, h17⟩ := j15.Ko1 K14 h13
 refine eqr_ [0] ?_
 refine pcq 175 #[pT p 0] func175 ((ktakes_ok p _ _ _ _ (Kec.len_stateOf _) (Kec.ws_stateOf _) ((List.length_set ..).trans ((List.length_set ..).trans (blkOf_len _))) _ h16).mono ?_)
 rintro e V19 ⟨rfl, h20, j19⟩
 rw [last_eq, hS] at h20
 refine ⟨_, rfl, ?_⟩
 have ⟨K22, h21⟩ := j19.Ko1 K18 h17
 refine eqr_ [0] <| pag 25 (zr_u8_32) fun V23 go ego h24 j23 => ?_
 have := nqk2 ego h21 h20 K22
 have ⟨K30, h28, h29⟩ := j23.K2 K22 h21 h20
 refine eq_ <| qr_ [0] <| kk 1 <| et_ <| bl_ 0 ?_
 refine sy_loop (qc85_4 1012) (fun a V => ∃ (k : Nat), (Fr 36 [(1, pT p 0), (2, pT gr 0), (3, pT go 0), (21, iN k)] [] a) ∧ (k ≤ 4) ∧ (HP V gr (zr_u8_32) 25) ∧ (HP V p (Sp S zero136 0 l.length) 232) ∧ (HP V go ((B (sqk S k)).toArray) 25) ∧ (Keeps Nob w V)) (fun a _ => 4 - (intOf (a.tmps.getD 21 undef)).toNat) (by kernel_rfl) ?_ ?_
 ·exact ⟨0, fq, by omega, h28, h29, h24.trans (by kernel_rfl), K30⟩
 ·rintro a V31 ⟨k, hfr, hk, h32, h33, h34, K35⟩
  obtain ⟨uu36, rfl⟩ := Fr.open hfr
  by_cases lt_k : k < 4
  ·show _
   refine qr_ [0] <| pP (dtT ((k : Int) < ((4) : Int))) <| eq_ <| y_ <| s_ <| tq_ <| bl_ 1 <| qr_ [0, 1] <| kk 2 <| eqr_ nl7_ <| kk 2 <| ppq (pT p k) (exec_cast (v := pT p (0 + k * 1)) (by simp) (ixa p 0 .i64 k 1 underlying229 (by omega))) <| ppq (uN (Kec.g S k)) (lc h33 (Sp_word _ _ _ _ hSl k (by omega)) (k := k)) <| pcr 176 #[uN (Kec.g S k)] func176 (keight_ok (Kec.g S k) _ (hSw _)) fun V37 j37 => ?_
   have ⟨K41, h38, h39, h40⟩ := j37.K3 K35 h32 h33 h34
   refine pag 246 (zr_u8_8) fun V42 gt egt h43 j42 => ?_
   have := nq3 egt h38 h39 h40
   have n47 := nk egt K41
   have ⟨K51, h48, h49, h50⟩ := j42.K3 K41 h38 h39 h40
   refine pst 246 gt ((B (Kec.eight (Kec.g S k))).toArray) h43 (by rw [Bz_size, eight_len]; kernel_rfl) (by rw [Bz_size, eight_len]; rfl) (by rw [List.all_toArray]; exact List.all_eq_true.2 (B_one _)) fun V52 h53 j52 => ?_
   have ⟨K57, h54, h55, h56⟩ := j52.Ko3 K51 h48 h49 h50
   refine et_ <| rgp 4 (zo4_ (qo85_4 64819)) [qo85_4 64819 4] fun V59 j59 => ?_
   have ⟨K64, h60, h61, h62, h63⟩ := j59.K4 K57 h54 h55 h56 h53
   refine ks 1 <| spq _ (cwN (n := 8 * k)) <| spq (.slice (some ⟨go, 0 + 8 * k, none⟩) (32 - 8 * k) (32 - 8 * k)) (exec_slice_arr 25 (.tmp 3) (.tmp 30) (by kernel_rfl) go 0 (by kernel_rfl) .i64 (8 * k) (by kernel_rfl) 32 5 underlying25 (by kernel_rfl) (by omega)) <| spq (sS gt 8 8) (exec_slice_all 246 (.tmp 5) (by kernel_rfl) gt 0 (by kernel_rfl) 8 5 underlying246 (by kernel_rfl)) <| st_end ?_
   obtain ⟨V65, eV65⟩ : ∃ V, V59.setRow go (seg (B (sqk S k)).toArray (0 + 8 * k) (B ((Kec.eight (Kec.g S k)).take 8))) = V := ⟨_, rfl⟩
   have j65 : Keeps (One go) V59 V65 := eV65 ▸ (Keeps.refl (One go) _).setRow (fun _ => (rfl : Own.One go go)) _
   have h66 : HP V65 go ((B (sqk S (k + 1))).toArray) 25 := eV65 ▸ (setRow_heap _ _ _ _ _ _ h62).trans (congrArg (fun c => some (Obj.cells c 25 (0, 0))) (by rw [List.take_of_length_le (by rw [eight_len]; omega), Nat.zero_add, seg_bytes, sqk_step S k lt_k]))
   refine ls_run (qo85_4 64819 4) (w' := V65) (iI 8) (by kernel_rfl) (by rw [← eV65]; exact exec_copy (.tmp 31) (.tmp 32) 214 (by kernel_rfl) 5 underlying214 (by kernel_rfl) go (0 + 8 * k) (32 - 8 * k) (32 - 8 * k) (by kernel_rfl) (sS gt 8 8) (Kec.eight (Kec.g S k)) (by kernel_rfl) (blk_bytes h63 eight_len (by decide)) _ _ h62 8 (by rw [eight_len]; exact (Nat.min_eq_left (by omega)).symm) (by rw [Bz_size, sqk_len S _ (by omega)]; omega) (by rw [eight_len]; omega)) ?_
   clear eV65
   have ⟨K70, h67, h68⟩ := j65.Ko2 K64 h60 h61
   refine ls_end <| blk_n <| tr_ [0, 1] <| pP (cwN (n := k + 1)) <| kk 1 <| et_ ?_
   refine ⟨⟨k + 1, fq, by omega, h67, h68, h66, K70⟩, ?_⟩
   exact ltm (4 - (k + 1)) (4 - k)
  ·have eq_k : k = 4 := by omega
   have h71 : HP V31 go ((B (Kec.sum l)).toArray) 25 := h34.trans (by rw [eq_k, sqk_all, ← hS]; rfl)
   refine qr_ [0] <| pP (dtF ((k : Int) < ((4) : Int))) <| eq_ <| n_ <| sy_exit 0 (by kernel_rfl) <| then_e <| then_e <| blk_e <| tqr_ [0, 1] <| pP (ldr 25 go h71 (by rw [Bz_size, Kec.sum_len]; kernel_rfl)) <| pst 25 gr (((B (Kec.sum l)).toArray)) h32 (by rw [Bz_size, Kec.sum_len]; kernel_rfl) (by rw [Bz_size, Kec.sum_len]; rfl) (by rw [List.all_toArray]; exact List.all_eq_true.2 (B_one _)) fun V72 h73 j72 => ?_
   have K76 := K35.nO j72
   refine eu_ <| sor 25 gr h73 underlying25 (by rw [Bz_size, Kec.sum_len]; kernel_rfl) ?_
   exact ⟨rfl, K76⟩
theorem SpAt.lt {w : World} {p : Nat} {l : List UInt8} (h : SpAt w p l) : p < w.heap.size := lt_of_block h
theorem SpAt.keeps {w w' : World} {M : Nat → Prop} {p : Nat} {l : List UInt8} (h : SpAt w p l) (k : Keeps M w w') (hm : ¬ M p) : SpAt w' p l := (k.block p (lt_of_block h) hm).trans h
theorem sp_nil : (Sp Kec.zero zero136 0 0) = Sp (Kec.stateOf []) (blkOf []) (([] : List UInt8).length % 136) ([] : List UInt8).length := by
 unfold Sp
 have : blkOf [] = zero136 := by simp [blkOf, zero136, Kec.restOf_nil]
 rw [this]; rfl
def qc86_0 (n : Nat) : Code := partOf f152 n
theorem kSum_ok (x : List UInt8) (A : Option Addr) (cap : Nat) (w : World) (hx : BytesAt w (.slice A x.length cap) x) (hl : x.length ≤ 9000000000000000000) :
  Calls prog 152 #[.slice A x.length cap] w (RK w (.agg (B (Kec.sum x)).toArray)) := by
 have K0 := kz0 w
 refine sf_ (qc86_0 1) func152 <| qr_ [0] <| pag 25 (zr_u8_32) fun V1 gr egr h2 j1 => ?_
 have n3 := nk egr K0
 have h4 := hx.keepsN j1
 have K5 := K0.nn j1
 refine eqr_ [0] <| pag 232 (Sp Kec.zero zero136 0 0) fun V6 p ep h7 j6 => ?_
 have := nqk1 ep h2 K5
 have h10 := h4.keepsN j6
 have ⟨K12, h11⟩ := j6.K1 K5 h2
 refine eqr_ [0, 1] <| kk 1 ?_
 have h15 : SpAt V6 p [] := h7.trans (congrArg (fun c => some (Obj.cells c 232 (0, 0))) sp_nil)
 have hA2 : 0 < x.length → ∀ j, (Value.slice A x.length cap).ownBlock = some j → j ≠ p := fun hn j hj => by have := hx.blockLt hn j hj; omega
 refine pct ((kwrite_ok p [] x A cap _ h15 h10 hA2 (by simpa using hl)).mono ?_)
 rintro e V13 ⟨rfl, h14, j13⟩
 refine ⟨_, rfl, ?_⟩
 have ⟨K18, h17⟩ := j13.Ko1 K12 h11
 refine eqr_ [0, 1, 2] <| pP (ldz 232 p h14 (Sp_size _ _ _ _ (Kec.len_stateOf _) (blkOf_len _))) <| pcs (ksum_ok x _) fun V19 j19 => ?_
 have ⟨K23, h21⟩ := j19.K1 K18 h17
 refine pst 25 gr ((B (Kec.sum x)).toArray) h21 (by rw [Bz_size, Kec.sum_len]; kernel_rfl) (by rw [Bz_size, Kec.sum_len]; rfl) (by rw [List.all_toArray]; exact List.all_eq_true.2 (B_one _)) fun V24 h25 j24 => ?_
 have K28 := K23.nO j24
 refine eu_ <| sor 25 gr h25 underlying25 (by rw [Bz_size, Kec.sum_len]; kernel_rfl) ?_
 exact ⟨rfl, K28⟩
def Att.dig (a : Att) : List UInt8 := Kec.sum a.bare
def Pro.dig (a : Pro) : List UInt8 := Kec.sum a.bare
theorem Att.dig_len (a : Att) : a.dig.length = 32 := Kec.sum_len _
theorem Pro.dig_len (a : Pro) : a.dig.length = 32 := Kec.sum_len _
theorem ksum_any (v : Value) (x : List UInt8) (w : World) (hx : BytesAt w v x) (hl : x.length ≤ 9000000000000000000) : Calls prog 152 #[v] w (RK w (.agg (B (Kec.sum x)).toArray)) := by
 obtain ⟨A, cap, rfl⟩ := hx.len; exact kSum_ok x A cap w hx hl
def qc87_2 (n : Nat) : Code := partOf f130 n
theorem vhash_bad (x : Int) (v : Value) (w : World) (hx : x ≠ 0) :
  Calls prog 130 #[iI x, v] w (RK w (.tuple #[.agg (B zhash).toArray, iI x])) := by
 have K0 := kz0 w
 refine sf_ (qc87_2 1) func130 <| qr_ [0, 1] <| pag 25 (zr_u8_32) fun V1 gr egr h2 j1 => ?_
 have n3 := nk egr K0
 have ⟨K4, z5⟩ := j1.z0 K0
 refine kk 1 <| eqr_ nl8_ <| kk 2 ?_
 refine pct ((vwritten_bad x v _ hx).mono ?_)
 rintro e w1 ⟨rfl, rfl⟩
 refine ⟨_, rfl, ?_⟩
 refine kk 5 <| eq_ <| qr_ [0, 1] <| kk 1 <| pP (nqT ((x) : Int) ((0) : Int)) <| ey_ <| qr_ [0, 1, 2, 3] <| kk 2 <| pst 25 gr ((B zhash).toArray) h2 (by rw [Bz_size, zhash_len]; kernel_rfl) (by rw [Bz_size, zhash_len]; rfl) (by rw [List.all_toArray]; exact List.all_eq_true.2 (B_one _)) fun V6 h7 j6 => ?_
 have ⟨K8, z9⟩ := j6.zo0 K4
 refine kk 1 <| eu_ <| then_r <| sy_out (.tuple #[.agg ((B zhash).toArray), iI x]) rfl (rrt 25 gr h7 underlying25 (by rw [Bz_size, zhash_len]; kernel_rfl)) ?_
 exact ⟨rfl, K8⟩
theorem vhash_ok (v : Value) (ts : List Thg) (vs : List Value) (w : World) (h0 : Row w 219 1 v ts.length vs) (h1 : ThsAt w vs ts) (hpos : 0 < ts.length) (hok : ∀ (k : Nat) (t : Thg), ts[k]? = some t → t.Ok) (hl : (allb ts).length ≤ 4096) (hmax : ts.length ≤ 1000) :
  Calls prog 130 #[iI 0, v] w (RK w (.tuple #[.agg (B (Kec.sum (allb ts))).toArray, iI 0])) := by
 have K0 := kz0 w
 refine sf_ (qc87_2 1) func130 <| qr_ [0, 1] <| pag 25 (zr_u8_32) fun V1 gr egr h2 j1 => ?_
 have n3 := nk egr K0
 have h4 := h0.rn j1
 have h5 : ThsAt V1 vs ts := h1.keepsN j1
 have ⟨K6, z7⟩ := j1.z0 K0
 refine kk 1 <| eqr_ nl8_ <| kk 2 ?_
 refine pct ((vwritten_ok v ts vs _ h4 h5 hpos hok hl hmax).mono ?_)
 rintro e V8 ⟨X, rfl, hX, hnX, j8⟩
 refine ⟨_, rfl, ?_⟩
 have ⟨K10, z11, h9⟩ := j8.z1 K6 h2
 refine kk 5 <| eq_ <| qr_ [0, 1] <| kk 2 <| en_ <| s_ <| tqr_ [0, 1, 2, 3] <| kk 1 <| pcs (ksum_any X (allb ts) _ (Row.bytes hX) (by omega)) fun V12 j12 => ?_
 have ⟨K14, z15, h13⟩ := j12.z1 K10 h9
 refine pst 25 gr ((B (Kec.sum (allb ts))).toArray) h13 (by rw [Bz_size, Kec.sum_len]; kernel_rfl) (by rw [Bz_size, Kec.sum_len]; rfl) (by rw [List.all_toArray]; exact List.all_eq_true.2 (B_one _)) fun V16 h17 j16 => ?_
 have ⟨K18, z19⟩ := j16.zo0 K14
 refine kk 1 <| eu_ <| sy_out (.tuple #[.agg ((B (Kec.sum (allb ts))).toArray), iI 0]) rfl (rrt 25 gr h17 underlying25 (by rw [Bz_size, (Kec.sum_len _)]; kernel_rfl)) ?_
 exact ⟨rfl, K18⟩
def qc87_1 (n : Nat) : Code := partOf f102 n
theorem vDigest_bad (a : Att) (w : World) (ha : a.Ok) (hf : ¬ a.fine) :
  Calls prog 102 #[.agg (Att.c a)] w (RK w (.tuple #[.agg (B zhash).toArray, iI 3])) := by
 have hr := ha.r
 have hlen := att_len hr
 obtain ⟨i0, hi0, hz0, hz1, hz2⟩ := info_parts thing_info
 have K0 := kz0 w
 refine sf_ (qc87_1 1) func102 <| qr_ [0, 1, 2] <| pbg 28 (Att.c a) fun V1 ga ega h2 j1 => ?_
 have n3 := nk ega K0
 have ⟨K4, z5⟩ := j1.z0 K0
 refine pag 25 (zr_u8_32) fun V6 gr egr h7 j6 => ?_
 have := nqk1 egr h2 K4
 have ⟨K11, z12, h10⟩ := j6.z1 K4 h2
 refine kk 1 <| eq_ <| anp 9 (fun W => (HP W ga (Att.c a) 28)) fun V13 j13 => ?_
 have ⟨K16, z17, h14, h15⟩ := j13.z2 K11 h10 h7
 refine aV 0 _ (fun W hS => ldz 28 ga hS (Att.c_size _ hr)) <| aV 2 _ (fun W hS => ldz 28 ga hS (Att.c_size _ hr)) <| an_o 1 <| ncs (vCheck_is a _ hr (Att.err_no hf)) fun V18 j18 => ?_
 have ⟨K21, z22, h19, h20⟩ := j18.z2 K16 h14 h15
 refine ⟨h19, ?_⟩
 refine an_o 3 ?_
 refine nct ((vthings_ok a _ hr).mono ?_)
 rintro e V23 ⟨gl, vs, rfl, hrow, hths, hnl, j23⟩
 have hnl2 : NewFrom w.heap.size (sS gl 5 5) := fun j hj => by have := hnl j hj; have := K21.size; omega
 refine ⟨_, rfl, ?_⟩
 have ⟨K26, z27, h24, h25⟩ := j23.z2 K21 h19 h20
 refine ⟨h24, ?_⟩
 refine an_o 4 <| ncr 130 #[iI 3, sS gl 5 5] func130 (vhash_bad 3 _ _ (by decide)) fun V28 j28 => ?_
 have ⟨K31, z32, h29, h30⟩ := j28.z2 K26 h24 h25
 refine ⟨h29, ?_⟩
 refine kA [5, 6] <| an_o 7 <| nst 25 gr ((B zhash).toArray) h30 (by rw [Bz_size, show (zhash).length = 32 from zhash_len]; kernel_rfl) (by rw [Bz_size, show (zhash).length = 32 from zhash_len]; rfl) (by rw [List.all_toArray]; exact List.all_eq_true.2 (B_one _)) fun V33 h34 j33 => ?_
 have ⟨K36, z37, h35⟩ := j33.zo1 K31 h29
 refine ⟨h35, ?_⟩
 refine ako 8 ?_
 refine ane <| then_n <| u_ <| sy_out (.tuple #[.agg ((B zhash).toArray), iI 3]) rfl (rrt 25 gr h34 underlying25 (by rw [Bz_size, zhash_len]; kernel_rfl)) ?_
 exact ⟨rfl, K36⟩
theorem vDigest_ok (a : Att) (w : World) (ha : a.Ok) (hf : a.fine) :
  Calls prog 102 #[.agg (Att.c a)] w (RK w (.tuple #[.agg (B a.dig).toArray, iI 0])) := by
 have hr := ha.r
 have hlen := att_len hr
 obtain ⟨i0, hi0, hz0, hz1, hz2⟩ := info_parts thing_info
 have K0 := kz0 w
 refine sf_ (qc87_1 1) func102 <| qr_ [0, 1, 2] <| pbg 28 (Att.c a) fun V1 ga ega h2 j1 => ?_
 have n3 := nk ega K0
 have ⟨K4, z5⟩ := j1.z0 K0
 refine pag 25 (zr_u8_32) fun V6 gr egr h7 j6 => ?_
 have := nqk1 egr h2 K4
 have ⟨K11, z12, h10⟩ := j6.z1 K4 h2
 refine kk 1 <| eq_ <| anp 9 (fun W => (HP W ga (Att.c a) 28)) fun V13 j13 => ?_
 have ⟨K16, z17, h14, h15⟩ := j13.z2 K11 h10 h7
 refine aV 0 _ (fun W hS => ldz 28 ga hS (Att.c_size _ hr)) <| aV 2 _ (fun W hS => ldz 28 ga hS (Att.c_size _ hr)) <| an_o 1 <| ncs (vCheck_is a _ hr (Att.err_ok hf)) fun V18 j18 => ?_
 have ⟨K21, z22, h19, h20⟩ := j18.z2 K16 h14 h15
 refine ⟨h19, ?_⟩
 refine an_o 3 ?_
 refine nct ((vthings_ok a _ hr).mono ?_)
 rintro e V23 ⟨gl, vs, rfl, hrow, hths, hnl, j23⟩
 have hnl2 : NewFrom w.heap.size (sS gl 5 5) := fun j hj => by have := hnl j hj; have := K21.size; omega
 refine ⟨_, rfl, ?_⟩
 have ⟨K26, z27, h24, h25⟩ := j23.z2 K21 h19 h20
 refine ⟨h24, ?_⟩
 refine an_o 4 <| ncr 130 #[iI 0, sS gl 5 5] func130 (vhash_ok _ (attT a) _ _ hrow hths (by simp [attT]) (okT_pre (att_okT ha hf)) (by have h := hlen.2; unfold Att.bare at h; omega) (by simp [attT])) fun V28 j28 => ?_
 have ⟨K31, z32, h29, h30⟩ := j28.z2 K26 h24 h25
 refine ⟨h29, ?_⟩
 refine kA [5, 6] <| an_o 7 <| nst 25 gr ((B a.dig).toArray) h30 (by rw [Bz_size, show (a.dig).length = 32 from (Att.dig_len a)]; kernel_rfl) (by rw [Bz_size, show (a.dig).length = 32 from (Att.dig_len a)]; rfl) (by rw [List.all_toArray]; exact List.all_eq_true.2 (B_one _)) fun V33 h34 j33 => ?_
 have ⟨K36, z37, h35⟩ := j33.zo1 K31 h29
 refine ⟨h35, ?_⟩
 refine ako 8 ?_
 refine ane <| then_n <| u_ <| sy_out (.tuple #[.agg ((B a.dig).toArray), iI 0]) rfl (rrt 25 gr h34 underlying25 (by rw [Bz_size, (Att.dig_len a)]; kernel_rfl)) ?_
 exact ⟨rfl, K36⟩
def qc87_0 (n : Nat) : Code := partOf f100 n
theorem vDigestBlock_bad (a : Pro) (w : World) (ha : a.Ok) (hf : ¬ a.fine) :
  Calls prog 100 #[.agg (Pro.c a)] w (RK w (.tuple #[.agg (B zhash).toArray, iI 3])) := by
 have hr := ha.r
 have hlen := pro_len hr
 obtain ⟨i0, hi0, hz0, hz1, hz2⟩ := info_parts thing_info
 have K0 := kz0 w
 refine sf_ (qc87_0 1) func100 <| qr_ [0, 1, 2] <| pbg 37 (Pro.c a) fun V1 ga ega h2 j1 => ?_
 have n3 := nk ega K0
 have ⟨K4, z5⟩ := j1.z0 K0
 refine pag 25 (zr_u8_32) fun V6 gr egr h7 j6 => ?_
 have := nqk1 egr h2 K4
 have ⟨K11, z12, h10⟩ := j6.z1 K4 h2
 refine kk 1 <| eq_ <| anp 9 (fun W => (HP W ga (Pro.c a) 37)) fun V13 j13 => ?_
 have ⟨K16, z17, h14, h15⟩ := j13.z2 K11 h10 h7
 refine aV 0 _ (fun W hS => ldz 37 ga hS (Pro.c_size _ hr)) <| aV 2 _ (fun W hS => ldz 37 ga hS (Pro.c_size _ hr)) <| an_o 1 <| ncs (vCheckBlock_is a _ hr (Pro.err_no hf)) fun V18 j18 => ?_
 have ⟨K21, z22, h19, h20⟩ := j18.z2 K16 h14 h15
 refine ⟨h19, ?_⟩
 refine an_o 3 ?_
 refine nct ((vthingsBlock_ok a _ hr).mono ?_)
 rintro e V23 ⟨gl, vs, rfl, hrow, hths, hnl, j23⟩
 have hnl2 : NewFrom w.heap.size (sS gl 4 4) := fun j hj => by have := hnl j hj; have := K21.size; omega
 refine ⟨_, rfl, ?_⟩
 have ⟨K26, z27, h24, h25⟩ := j23.z2 K21 h19 h20
 refine ⟨h24, ?_⟩
 refine an_o 4 <| ncr 130 #[iI 3, sS gl 4 4] func130 (vhash_bad 3 _ _ (by decide)) fun V28 j28 => ?_
 have ⟨K31, z32, h29, h30⟩ := j28.z2 K26 h24 h25
 refine ⟨h29, ?_⟩
 refine kA [5, 6] <| an_o 7 <| nst 25 gr ((B zhash).toArray) h30 (by rw [Bz_size, show (zhash).length = 32 from zhash_len]; kernel_rfl) (by rw [Bz_size, show (zhash).length = 32 from zhash_len]; rfl) (by rw [List.all_toArray]; exact List.all_eq_true.2 (B_one _)) fun V33 h34 j33 => ?_
 have ⟨K36, z37, h35⟩ := j33.zo1 K31 h29
 refine ⟨h35, ?_⟩
 refine ako 8 ?_
 refine ane <| then_n <| u_ <| sy_out (.tuple #[.agg ((B zhash).toArray), iI 3]) rfl (rrt 25 gr h34 underlying25 (by rw [Bz_size, zhash_len]; kernel_rfl)) ?_
 exact ⟨rfl, K36⟩
theorem vDigestBlock_ok (a : Pro) (w : World) (ha : a.Ok) (hf : a.fine) :
  Calls prog 100 #[.agg (Pro.c a)] w (RK w (.tuple #[.agg (B a.dig).toArray, iI 0])) := by
 have hr := ha.r
 have hlen := pro_len hr
 obtain ⟨i0, hi0, hz0, hz1, hz2⟩ := info_parts thing_info
 have K0 := kz0 w
 refine sf_ (qc87_0 1) func100 <| qr_ [0, 1, 2] <| pbg 37 (Pro.c a) fun V1 ga ega h2 j1 => ?_
 have n3 := nk ega K0
 have ⟨K4, z5⟩ := j1.z0 K0
 refine pag 25 (zr_u8_32) fun V6 gr egr h7 j6 => ?_
 have := nqk1 egr h2 K4
 have ⟨K11, z12, h10⟩ := j6.z1 K4 h2
 refine kk 1 <| eq_ <| anp 9 (fun W => (HP W ga (Pro.c a) 37)) fun V13 j13 => ?_
 have ⟨K16, z17, h14, h15⟩ := j13.z2 K11 h10 h7
 refine aV 0 _ (fun W hS => ldz 37 ga hS (Pro.c_size _ hr)) <| aV 2 _ (fun W hS => ldz 37 ga hS (Pro.c_size _ hr)) <| an_o 1 <| ncs (vCheckBlock_is a _ hr (Pro.err_ok hf)) fun V18 j18 => ?_
 have ⟨K21, z22, h19, h20⟩ := j18.z2 K16 h14 h15
 refine ⟨h19, ?_⟩
 refine an_o 3 ?_
 refine nct ((vthingsBlock_ok a _ hr).mono ?_)
 rintro e V23 ⟨gl, vs, rfl, hrow, hths, hnl, j23⟩
 have hnl2 : NewFrom w.heap.size (sS gl 4 4) := fun j hj => by have := hnl j hj; have := K21.size; omega
 refine ⟨_, rfl, ?_⟩
 have ⟨K26, z27, h24, h25⟩ := j23.z2 K21 h19 h20
 refine ⟨h24, ?_⟩
 refine an_o 4 <| ncr 130 #[iI 0, sS gl 4 4] func130 (vhash_ok _ (proT a) _ _ hrow hths (by simp [proT]) (okT_pre (pro_okT ha hf)) (by have h := hlen.2; unfold Pro.bare at h; omega) (by simp [proT])) fun V28 j28 => ?_
 have ⟨K31, z32, h29, h30⟩ := j28.z2 K26 h24 h25
 refine ⟨h29, ?_⟩
 refine kA [5, 6] <| an_o 7 <| nst 25 gr ((B a.dig).toArray) h30 (by rw [Bz_size, show (a.dig).length = 32 from (Pro.dig_len a)]; kernel_rfl) (by rw [Bz_size, show (a.dig).length = 32 from (Pro.dig_len a)]; rfl) (by rw [List.all_toArray]; exact List.all_eq_true.2 (B_one _)) fun V33 h34 j33 => ?_
 have ⟨K36, z37, h35⟩ := j33.zo1 K31 h29
 refine ⟨h35, ?_⟩
 refine ako 8 ?_
 refine ane <| then_n <| u_ <| sy_out (.tuple #[.agg ((B a.dig).toArray), iI 0]) rfl (rrt 25 gr h34 underlying25 (by rw [Bz_size, (Pro.dig_len a)]; kernel_rfl)) ?_
 exact ⟨rfl, K36⟩
def doubP (a b : Pro) : Bool := decide (a.fine ∧ b.fine ∧ a.v = b.v ∧ a.h = b.h ∧ ¬ a.dig = b.dig)
theorem ne_dec (l m : List UInt8) : (!(l == m)) = decide (¬ l = m) := by by_cases h : l = m <;> simp [h]
theorem hash_guard : prog.eqGuardType prog.depth 25 = false := by kernel_rfl
theorem hash_eq (l m : List UInt8) (hl : l.length = 32) (hm : m.length = 32) (w : World) : (binOp .eql 25 (.agg (B l).toArray) (.agg (B m).toArray)).run prog w = .ok (.bool (l == m)) w := by
 obtain ⟨i0, hi, _, _, _⟩ := info_parts u8_info0
 have h := run_equalIn_bytes (P := prog) (t := 25) (e := 5) (n := 32) underlying25 hi (by kernel_rfl) underlying5 (by kernel_rfl) 9998 l m w hl hm
 rw [run_eql_struct, h]; rfl
theorem hash_ne (l m : List UInt8) (hl : l.length = 32) (hm : m.length = 32) (w : World) : (binOp .neq 25 (.agg (B l).toArray) (.agg (B m).toArray)).run prog w = .ok (.bool (!(l == m))) w := by
 obtain ⟨i0, hi, _, _, _⟩ := info_parts u8_info0
 have h := run_equalIn_bytes (P := prog) (t := 25) (e := 5) (n := 32) underlying25 hi (by kernel_rfl) underlying5 (by kernel_rfl) 9998 l m w hl hm
 rw [run_neq_struct, h]; rfl
def Att.dg (a : Att) : List UInt8 := if a.fine then a.dig else zhash
def Pro.dg (a : Pro) : List UInt8 := if a.fine then a.dig else zhash
theorem Att.dg_len (a : Att) : a.dg.length = 32 := by unfold Att.dg; split; exact a.dig_len; exact zhash_len
theorem Pro.dg_len (a : Pro) : a.dg.length = 32 := by unfold Pro.dg; split; exact a.dig_len; exact zhash_len
theorem vDigest_any (a : Att) (w : World) (ha : a.Ok) : Calls prog 102 #[.agg (Att.c a)] w (RK w (.tuple #[.agg (B a.dg).toArray, iI a.err])) := by
 by_cases hf : a.fine
 ·rw [Att.err_ok hf, Att.dg, if_pos hf]; exact vDigest_ok a w ha hf
 ·rw [Att.err_no hf, Att.dg, if_neg hf]; exact vDigest_bad a w ha hf
theorem vDigestBlock_any (a : Pro) (w : World) (ha : a.Ok) : Calls prog 100 #[.agg (Pro.c a)] w (RK w (.tuple #[.agg (B a.dg).toArray, iI a.err])) := by
 by_cases hf : a.fine
 ·rw [Pro.err_ok hf, Pro.dg, if_pos hf]; exact vDigestBlock_ok a w ha hf
 ·rw [Pro.err_no hf, Pro.dg, if_neg hf]; exact vDigestBlock_bad a w ha hf
def qc88_0 (n : Nat) : Code := partOf f55 n
theorem vDoublesBlock_ok (a b : Pro) (w : World) (ha : a.Ok) (hb : b.Ok) :
  Calls prog 55 #[.agg (Pro.c a), .agg (Pro.c b)] w (RK w (.bool (doubP a b))) := by
 have hr := ha.r
 have hs := hb.r
 have K0 := kz0 w
 refine sf_ (qc88_0 1) func55 <| qr_ [0, 1, 2] <| pbg 37 (Pro.c a) fun V1 ga ega h2 j1 => ?_
 have n3 := nk ega K0
 have ⟨K4, z5⟩ := j1.z0 K0
 refine pbg 37 (Pro.c b) fun V6 gb egb h7 j6 => ?_
 have := nqk1 egb h2 K4
 have ⟨K11, z12, h10⟩ := j6.z1 K4 h2
 refine kk 1 <| eqr_ nl8_ <| pP (ldz 37 ga h10 (Pro.c_size _ hr)) <| pcs (vDigestBlock_any a _ ha) fun V13 j13 => ?_
 have ⟨K16, z17, h14, h15⟩ := j13.z2 K11 h10 h7
 refine kk 3 <| pag 25 (zr_u8_32) fun V18 gx egx h19 j18 => ?_
 have := nqk2 egx h14 h15 K16
 have ⟨K25, z26, h23, h24⟩ := j18.z2 K16 h14 h15
 refine pst 25 gx ((B a.dg).toArray) h19 (by rw [Bz_size, Pro.dg_len]; kernel_rfl) (by rw [Bz_size, Pro.dg_len]; rfl) (by rw [List.all_toArray]; exact List.all_eq_true.2 (B_one _)) fun V27 h28 j27 => ?_
 have ⟨K31, z32, h29, h30⟩ := j27.zo2 K25 h23 h24
 refine kk 1 <| eqr_ nl8_ <| pP (ldz 37 gb h30 (Pro.c_size _ hs)) <| pcs (vDigestBlock_any b _ hb) fun V33 j33 => ?_
 have ⟨K37, z38, h34, h35, h36⟩ := j33.z3 K31 h29 h30 h28
 refine kk 3 <| pag 25 (zr_u8_32) fun V39 gy egy h40 j39 => ?_
 have := nq3 egy h34 h35 h36
 have n44 := nk egy K37
 have ⟨K48, z49, h45, h46, h47⟩ := j39.z3 K37 h34 h35 h36
 refine pst 25 gy ((B b.dg).toArray) h40 (by rw [Bz_size, Pro.dg_len]; kernel_rfl) (by rw [Bz_size, Pro.dg_len]; rfl) (by rw [List.all_toArray]; exact List.all_eq_true.2 (B_one _)) fun V50 h51 j50 => ?_
 have ⟨K55, z56, h52, h53, h54⟩ := j50.zo3 K48 h45 h46 h47
 refine kk 1 <| eqr_ nl26_ <| kk 1 ?_
 by_cases c0 : a.fine
 ·have e0 := Pro.err_ok c0
  refine pP (eqT ((a.err) : Int) ((0) : Int)) <| kk 2 ?_
  by_cases c1 : b.fine
  ·have e1 := Pro.err_ok c1
   refine pP (eqT ((b.err) : Int) ((0) : Int)) <| kk 3 <| pP (lc h52 (Pro.c_0 _)) <| kk 1 <| pP (lc h53 (Pro.c_0 _)) ?_
   by_cases c2 : a.v = b.v
   ·have e2 := c2
    refine pP (eqT ((a.v) : Int) ((b.v) : Int)) <| kk 3 <| pP (lc h52 (Pro.c_1 _)) <| kk 1 <| pP (lc h53 (Pro.c_1 _)) ?_
    by_cases c3 : a.h = b.h
    ·have e3 := c3
     refine pP (eqT ((a.h) : Int) ((b.h) : Int)) <| kk 2 <| pP (ldr 25 gx h54 (by rw [Bz_size, (Pro.dg_len a)]; kernel_rfl)) <| pP (ldr 25 gy h51 (by rw [Bz_size, (Pro.dg_len b)]; kernel_rfl)) <| ppq (.bool (!(a.dg == b.dg))) (exec_binop .neq 25 25 (.tmp 40) (.tmp 41) (by kernel_rfl) (.agg (B a.dg).toArray) (.agg (B b.dg).toArray) _ (by kernel_rfl) (by kernel_rfl) (run_eqGuard_agg _ _ _ _ _ _ _ hash_guard) (hash_ne _ _ (Pro.dg_len a) (Pro.dg_len b) _)) <| kk 2 <| ps_end <| then_n <| u_ <| so_ (.bool (!(a.dg == b.dg))) ?_
     exact ⟨by rw [ne_dec, Pro.dg, Pro.dg, if_pos c0, if_pos c1]; unfold doubP; simp [c0, c1, c2, c3], K55⟩
    ·have e3 := c3
     refine pP (eqF ((a.h) : Int) ((b.h) : Int)) <| kk 7 <| ps_end <| then_n <| u_ <| so_ (.bool false) ?_
     exact ⟨by unfold doubP; simp [c0, c1, c2, c3], K55⟩
   ·have e2 := c2
    refine pP (eqF ((a.v) : Int) ((b.v) : Int)) <| kk 13 <| kk 1 <| ps_end <| then_n <| u_ <| so_ (.bool false) ?_
    exact ⟨by unfold doubP; simp [c0, c1, c2], K55⟩
  ·have e1 := Pro.err_no c1
   refine pP (eqF ((b.err) : Int) ((0) : Int)) <| kk 13 <| kk 8 <| ps_end <| then_n <| u_ <| so_ (.bool false) ?_
   exact ⟨by unfold doubP; simp [c0, c1], K55⟩
 ·have e0 := Pro.err_no c0
  refine pP (eqF ((a.err) : Int) ((0) : Int)) <| kk 13 <| kk 11 <| ps_end <| then_n <| u_ <| so_ (.bool false) ?_
  exact ⟨by unfold doubP; simp [c0], K55⟩
def In (ns : List Int) : List Value := ns.map fun x => iI x
theorem In_get {ns : List Int} {i : Nat} {x : Int} (h : ns[i]? = some x) : (In ns).toArray[i]? = some (iI x) := by simp [In, h]
def nT (ns : List Int) : List Thg := ns.map .n
theorem nT_get {ns : List Int} {i : Nat} {x : Int} (h : ns[i]? = some x) : (nT ns)[i]? = some (.n x) := by simp [nT, h]
theorem wrapNat {x : Int} (h0 : 0 ≤ x) (h1 : x ≤ 9223372036854775807) : IntKind.u64.wrap x = (x.toNat : Int) := by
 have e : x = (x.toNat : Int) := (Int.toNat_of_nonneg h0).symm
 have := wrapU x.toNat (by omega)
 rwa [← e] at this ⊢
theorem att_bare (a : Att) : allb (nT [1, a.v, a.s, a.t]) ++ a.r = a.bare := by simp [Att.bare, attT, nT, allb, Thg.by]
theorem pro_bare (a : Pro) : allb (nT [2, a.v, a.h]) ++ a.r = a.bare := by simp [Pro.bare, proT, nT, allb, Thg.by]
theorem Att.split (a : Att) : a.bytes = a.bare ++ Cod.enc a.g := by simp [Att.bytes, Att.bare, allb, Thg.by]
theorem Pro.split (a : Pro) : a.bytes = a.bare ++ Cod.enc a.g := by simp [Pro.bytes, Pro.bare, allb, Thg.by]
theorem byt_nT (ns : List Int) : byt (nT ns) ns.length = allb (nT ns) := by rw [← byt_all, nT, List.length_map]
theorem nT_len (ns : List Int) (i : Nat) : (byt (nT ns) i).length ≤ (allb (nT ns)).length := byt_le _ _
def qc89_1 (n : Nat) : Code := partOf f172 n
abbrev qo89_1 (n k : Nat) : Oper := (opsAt (qc89_1 n)).getD k default
theorem rnumbers_ok (r : List UInt8) (g : Nat) (ns : List Int) (w : World) (h0 : HP w g (In ns).toArray 3) (hr : r.length = 32) (hns : ∀ (k : Nat) (x : Int), ns[k]? = some x → 0 ≤ x ∧ x ≤ 9223372036854775807) (hl : (allb (nT ns)).length ≤ 1000) (hmax : ns.length ≤ 1000) :
  Calls prog 172 #[.agg (B r).toArray, sS g ns.length ns.length] w (fun e w' => ∃ X, e = .returned X ∧ Row w' 5 1 X (allb (nT ns) ++ r).length (B (allb (nT ns) ++ r)) ∧ NewFrom w.heap.size X ∧ Keeps Nob w w') := by
 obtain ⟨i0, hi0, hz0, hz1, hz2⟩ := info_parts u8_info0
 have r0 : Row w 5 1 (.slice none 0 0) (byt (nT ns) 0).length (B (byt (nT ns) 0)) := World.ownsRow_nil _ _ _ _
 have K0 := kz0 w
 refine sf_ (qc89_1 1) func172 <| qr_ [0, 1] <| pbg 25 ((B r).toArray) fun V1 gh egh h2 j1 => ?_
 have n3 := nk egh K0
 have h4 := r0.rn j1
 have ⟨K5, z6⟩ := j1.z0 K0
 refine kk 1 <| eqr_ [0] <| kk 1 <| eq_ <| qr_ [0] <| kk 1 <| et_ <| bl_ 0 ?_
 refine sy_loop (qc89_1 116) (fun a V => ∃ (i : Nat) (v : Value) (u7 u8 u9 u10 u11 u12 u13 u14 u15 u16 u17 u18 u19 u20 : Value), (a = ⟨#[.agg (B r).toArray, sS g ns.length ns.length, pT gh 0, ud, .slice none 0 0, v, iN i, u7, u8, u9, u10, u11, u12, u13, u14, u15, u16, u17, u18, u19, u20, ud, ud, ud], []⟩) ∧ (i ≤ ns.length) ∧ (Row V 5 1 v ((byt (nT ns) i).length) (B (byt (nT ns) i))) ∧ (HP V gh ((B r).toArray) 25) ∧ (Keeps Nob w V) ∧ (NewFrom (gh + 1) v)) (fun a _ => ns.length - (intOf (a.tmps.getD 6 undef)).toNat) (by kernel_rfl) ?_ ?_
 ·exact ⟨0, .slice none 0 0, undef, undef, undef, undef, undef, undef, undef, undef, undef, undef, undef, undef, undef, undef, by kernel_rfl, by omega, h4, h2, K5, NewFrom.nil _⟩
 ·rintro a V7 ⟨i, v, u7, u8, u9, u10, u11, u12, u13, u14, u15, u16, u17, u18, u19, u20, rfl, hi, h8, h9, K10, hnw⟩
  by_cases lt_i : i < ns.length
  ·obtain ⟨x, hx⟩ : ∃ x, ns[i]? = some x := ⟨_, List.getElem?_eq_getElem lt_i⟩
   have hx0 := hns i x hx
   have hbl := nT_len ns i
   have hen := Cod.enc_length x.toNat
   refine q_ <| qr_ [0, 1, 2, 3] <| kk 2 <| pP (len_ (some ⟨g, 0, none⟩) ns.length ns.length underlying50) <| pP (dtT ((i : Int) < (ns.length : Int))) <| ey_ <| s_ <| tq_ <| bl_ 1 <| r_ nl9_ <| kk 3 <| ppq (pT g i) (exec_cast (v := pT g (0 + i * 1)) (by simp) (ixs g 0 ns.length ns.length .i64 i 1 underlying50 (by omega))) <| ppq (iI x) (ldc 3 g i ((cell_of_row _ _ _ _ _ _ ((K10.block g (lt_of_block h0) (fun x => x)).trans h0)).trans (In_get hx))) <| ppq (uN x.toNat) (exec_cast (congrArg (Value.int .u64) (wrapNat hx0.1 hx0.2)) (by kernel_rfl)) ?_
   refine pct ((rPut_ok x.toNat (by omega) _).mono ?_)
   rintro e V11 ⟨v8, rfl, hV11, hn8, hz8, j11⟩
   refine ⟨_, rfl, ?_⟩
   have h12 := h8.rn j11
   have ⟨K14, z15, h13⟩ := j11.z1 K10 h9
   obtain ⟨v16, V17, hr18, h19, hg20, hn21, ha22⟩ := run_append_any (P := prog) (w := V11) 214 (Oper.type (qo89_1 932 7)) 5 i0 (.int .u8 0) 1 1 underlying214 hi0 hz0 hz1 hz2 rfl (by decide) v ((byt (nT ns) i).length) (B (byt (nT ns) i)) h12 v8 ((Cod.enc x.toNat).length) (B (Cod.enc x.toNat)) (Row.src hV11 (B_one _)) (by unfold maxLen; omega) (by omega)
   have j17 : Keeps (fun j => v.ownBlock = some j) V11 V17 := Keeps.rowAdd hg20
   have hw23 : NewFrom (gh + 1) v16 := hnw.next (lt_of_block h13) ha22
   refine prq v16 (w' := V17) (exec_append (.tmp 13) (.tmp 19) 214 (by kernel_rfl) v v8 (by kernel_rfl) (by kernel_rfl) hr18) ?_
   have h24 : Row V17 5 1 v16 ((byt (nT ns) (i + 1)).length) (B (byt (nT ns) (i + 1))) := row_cast h19 (byt_succ (nT_get hx)).symm (by rw [byt_succ (nT_get hx), List.length_append]; rfl)
   have h25 : HP V17 gh ((B r).toArray) 25 := (j17.block gh (lt_of_block h13) (fun e => by have := hnw _ e; omega)).trans h13
   have K26 := K14.nr j17 hnw
   have z27 := j17.size
   refine kk 1 <| ps_end <| blk_n <| tr_ [0, 1, 2] <| kk 1 <| pP (cwN (n := i + 1)) <| kk 1 <| et_ ?_
   refine ⟨⟨i + 1, v16, (iN i), (sS g ns.length ns.length), (iN ns.length), (.bool true), (iN i), (iN (i + 1)), v, (sS g ns.length ns.length), (iN i), (pT g i), (iI x), (uN x.toNat), v8, v16, by kernel_rfl, by omega, h24, h25, K26, hw23⟩, ?_⟩
   exact ltm (ns.length - (i + 1)) (ns.length - i)
  ·have eq_i : i = ns.length := by omega
   have hbl := nT_len ns i
   refine q_ <| qr_ [0, 1, 2, 3] <| kk 2 <| pP (len_ (some ⟨g, 0, none⟩) ns.length ns.length underlying50) <| pP (dtF ((i : Int) < (ns.length : Int))) <| en_ <| sy_exit 0 (by kernel_rfl) <| then_e <| then_e <| blk_e <| tqr_ [0, 1, 2, 3] <| kk 1 <| ppq (sS gh 32 32) (exec_slice_all 25 (.tmp 2) (by kernel_rfl) gh 0 (by kernel_rfl) 32 5 underlying25 (by kernel_rfl)) ?_
   obtain ⟨v28, V29, hr30, h31, hg32, hn33, ha34⟩ := run_append_any (P := prog) (w := V7) 214 (Oper.type (qo89_1 30 2)) 5 i0 (.int .u8 0) 1 1 underlying214 hi0 hz0 hz1 hz2 rfl (by decide) v ((byt (nT ns) i).length) (B (byt (nT ns) i)) h8 (sS gh 32 32) 32 (B r) (src_block h9 1 32 (by simp [B_length, hr]) (by simpa using List.all_eq_true.2 (B_one r))) (by unfold maxLen; omega) (by omega)
   have j29 : Keeps (fun j => v.ownBlock = some j) V7 V29 := Keeps.rowAdd hg32
   have hw35 : NewFrom (gh + 1) v28 := hnw.next (lt_of_block h9) ha34
   refine prq v28 (w' := V29) (exec_append (.tmp 21) (.tmp 22) 214 (by kernel_rfl) v (sS gh 32 32) (by kernel_rfl) (by kernel_rfl) hr30) ?_
   have h36 : Row V29 5 1 v28 ((allb (nT ns) ++ r).length) (B (allb (nT ns) ++ r)) := row_cast h31 (by rw [eq_i, byt_nT]) (by rw [eq_i, byt_nT, List.length_append, hr])
   have K38 := K10.nr j29 hnw
   have z39 := j29.size
   refine kk 1 <| eu_ <| so_ (v28) ?_
   exact ⟨_, rfl, h36, fun j hj => by have := hw35 j hj; omega, K38⟩
theorem numbers_Att (a : Att) {g : Nat} (w : World) (h0 : HP w g (In [1, a.v, a.s, a.t]).toArray 3) (ha : a.Ok) (hf : a.fine) : Calls prog 172 #[.agg (B a.r).toArray, sS g 4 4] w fun e w' => ∃ X, e = .returned X ∧ Row w' 5 1 X a.bare.length (B a.bare) ∧ NewFrom w.heap.size X ∧ Keeps Nob w w' := by
 have hl := (att_len ha.r).2
 rw [← att_bare, List.length_append, ha.r] at hl
 have := rnumbers_ok a.r g [1, a.v, a.s, a.t] w h0 ha.r (fun k x hx => att_okT ha hf k (.n x) (by match k, hx with | 0, hx => cases hx; rfl | 1, hx => cases hx; rfl | 2, hx => cases hx; rfl | 3, hx => cases hx; rfl | k + 4, hx => cases hx)) (by omega) (by simp)
 rwa [att_bare] at this
def qc89_2 (n : Nat) : Code := partOf f168 n
theorem rbare_ok (a : Att) (w : World) (ha : a.Ok) (hf : a.fine) :
  Calls prog 168 #[.agg (Att.c a)] w (fun e w' => ∃ X, e = .returned X ∧ Row w' 5 1 X a.bare.length (B a.bare) ∧ NewFrom w.heap.size X ∧ Keeps Nob w w') := by
 have hr := ha.r
 have K0 := kz0 w
 refine sf_ (qc89_2 1) func168 <| qr_ [0, 1] <| pbg 28 (Att.c a) fun V1 ga ega h2 j1 => ?_
 have n3 := nk ega K0
 have ⟨K4, z5⟩ := j1.z0 K0
 refine kk 1 <| eqr_ nl11_ <| kk 1 <| ppq (.agg (B a.r).toArray) (exec_load_seg 25 (.tmp 3) (by kernel_rfl) ga 3 (by kernel_rfl) (B a.r) _ _ _ h2 (Att.c_seg _) underlying25 rfl (by rw [B_length, hr]; kernel_rfl)) <| kk 1 <| pP (lc h2 (Att.c_0 _)) <| kk 1 <| pP (lc h2 (Att.c_1 _)) <| kk 1 <| pP (lc h2 (Att.c_2 _)) <| pbs 3 (#[iI 1, iI a.v, iI a.s, iI a.t]) 4 fun V6 gl egl h7 j6 => ?_
 have := nqk1 egl h2 K4
 have ⟨K11, z12⟩ := j6.z0 K4
 refine pct ((numbers_Att a _ h7 ha hf).mono ?_)
 rintro e V13 ⟨X, rfl, hX, hnX, j13⟩
 refine ⟨_, rfl, ?_⟩
 have ⟨K16, z17⟩ := j13.z0 K11
 refine kk 1 <| eu_ <| so_ (X) ?_
 exact ⟨X, rfl, hX, fun j hj => by have := hnX j hj; omega, K16⟩
theorem rvCheck_is (a : Att) {x : Int} (w : World) (hr : a.r.length = 32) (hx : a.err = x) : Calls prog 106 #[.agg (Att.c a)] w (RK w (iI x)) := by
 subst hx; exact rvCheck_ok a w hr
theorem numbers_Pro (a : Pro) {g : Nat} (w : World) (h0 : HP w g (In [2, a.v, a.h]).toArray 3) (ha : a.Ok) (hf : a.fine) : Calls prog 172 #[.agg (B a.r).toArray, sS g 3 3] w fun e w' => ∃ X, e = .returned X ∧ Row w' 5 1 X a.bare.length (B a.bare) ∧ NewFrom w.heap.size X ∧ Keeps Nob w w' := by
 have hl := (pro_len ha.r).2
 rw [← pro_bare, List.length_append, ha.r] at hl
 have := rnumbers_ok a.r g [2, a.v, a.h] w h0 ha.r (fun k x hx => pro_okT ha hf k (.n x) (by match k, hx with | 0, hx => cases hx; rfl | 1, hx => cases hx; rfl | 2, hx => cases hx; rfl | k + 3, hx => cases hx)) (by omega) (by simp)
 rwa [pro_bare] at this
def qc89_0 (n : Nat) : Code := partOf f159 n
theorem rbareBlock_ok (a : Pro) (w : World) (ha : a.Ok) (hf : a.fine) :
  Calls prog 159 #[.agg (Pro.c a)] w (fun e w' => ∃ X, e = .returned X ∧ Row w' 5 1 X a.bare.length (B a.bare) ∧ NewFrom w.heap.size X ∧ Keeps Nob w w') := by
 have hr := ha.r
 have K0 := kz0 w
 refine sf_ (qc89_0 1) func159 <| qr_ [0, 1] <| pbg 37 (Pro.c a) fun V1 ga ega h2 j1 => ?_
 have n3 := nk ega K0
 have ⟨K4, z5⟩ := j1.z0 K0
 refine kk 1 <| eqr_ nl9_ <| kk 1 <| ppq (.agg (B a.r).toArray) (exec_load_seg 25 (.tmp 3) (by kernel_rfl) ga 2 (by kernel_rfl) (B a.r) _ _ _ h2 (Pro.c_seg _) underlying25 rfl (by rw [B_length, hr]; kernel_rfl)) <| kk 1 <| pP (lc h2 (Pro.c_0 _)) <| kk 1 <| pP (lc h2 (Pro.c_1 _)) <| pbs 3 (#[iI 2, iI a.v, iI a.h]) 3 fun V6 gl egl h7 j6 => ?_
 have := nqk1 egl h2 K4
 have ⟨K11, z12⟩ := j6.z0 K4
 refine pct ((numbers_Pro a _ h7 ha hf).mono ?_)
 rintro e V13 ⟨X, rfl, hX, hnX, j13⟩
 refine ⟨_, rfl, ?_⟩
 have ⟨K16, z17⟩ := j13.z0 K11
 refine kk 1 <| eu_ <| so_ (X) ?_
 exact ⟨X, rfl, hX, fun j hj => by have := hnX j hj; omega, K16⟩
theorem rvCheckBlock_is (a : Pro) {x : Int} (w : World) (hr : a.r.length = 32) (hx : a.err = x) : Calls prog 108 #[.agg (Pro.c a)] w (RK w (iI x)) := by
 subst hx; exact rvCheckBlock_ok a w hr
end
end Go.Proofs.YthmclmbeflbhhaaGreat
end
