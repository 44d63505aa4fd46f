/-
  Codec: a hash is read (printed by codhash.py). Conditions: none.
-/
import Derived.Test.YtmapcghgdbfmhaaCodN
import Derived.Test.YtmapcghgdbfmhaaRegion2
namespace Go.Proofs.Ytmapcghgdbfmhaa
open Go Go.RowKit Go.Own Go.Shelf

noncomputable def opsreadH : Array Oper := opsOf Try.f141 4
def hashZ : Array Value := (B (List.replicate 32 0)).toArray
theorem hash_zero2 (w : World) : (zeroValue 29).run Try.prog w = .ok (.agg hashZ) w := hash_zero w
/-- Hash: what is told, and the state behind. -/
def rdH (l : List UInt8) (s : RS) : List UInt8 × RS :=
  (if s.err = 0 ∧ hashErr (s.rest l) = 0 then hashOf (s.rest l) else List.replicate 32 0, s.read (hashLen (s.rest l)) (hashErr (s.rest l)))
def RHPost (b : Nat) (v fp : Value) (l : List UInt8) (s : RS) (w : World) (e : Ending) (w' : World) : Prop :=
  e = .returned (.agg (B (rdH l s).1).toArray) ∧ (∃ fp', RdAt w' b v fp' l (rdH l s).2 ∧ NewPtr w fp fp') ∧ Keeps (One b) w w'


/-- Behind all but the store. -/
theorem readH_tail (b h4 h5 : Nat) (A : Option Addr) (l : List UInt8) (cap at_ k : Nat) (er : Int) (X : Array Value) (W0 : World) (Q : Exit → Act → World → Prop)
    (HBK : W0.heap[b]? = some (.cells #[.slice A l.length cap, .int .i64 (at_ : Int), .bool true, .pointer none] 100 (0, 0))) (hl : at_ ≤ l.length)
    (HOI : (Try.prog.info? 29).map (·.size) = some X.size) (HOSZ : X.size = 32) (HONE : X.all (·.oneCell') = true)
    (hQ : ∀ (g : Nat) (W : World), Keeps Nob W0 W → W0.heap.size ≤ g → W.heap[g]? = some (.cells X 29 (0, 0)) → Q .normal ⟨#[.pointer (some ⟨b, 0, none⟩), .func (.func 142) #[] #[], undef, undef, .pointer (some ⟨h4, 0, none⟩), .pointer (some ⟨h5, 0, none⟩), .pointer (some ⟨g, 0, none⟩), .int .i64 (k : Int), .int .i64 er, .pointer (some ⟨b, 0, none⟩), .bool false, .bool false, .pointer (some ⟨b, 0, none⟩), .pointer (some ⟨b, 0, none⟩), .pointer (some ⟨b, 3, none⟩), .pointer none, .bool false, .bool false, undef, .tuple #[.agg X, .int .i64 (k : Int), .int .i64 er], .func (.func 142) #[] #[], .pointer (some ⟨b, 0, none⟩), .pointer (some ⟨b, 0, none⟩), .pointer (some ⟨b, 0, none⟩), .slice A l.length cap, .pointer (some ⟨b, 0, none⟩), .pointer (some ⟨b, 0, none⟩), .pointer (some ⟨b, 1, none⟩), .int .i64 (at_ : Int), cutV A l.length cap at_, .tuple #[.agg X, .int .i64 (k : Int), .int .i64 er], .agg X, .int .i64 (k : Int), .int .i64 er, undef, undef, undef, undef, undef, undef, undef, undef, undef, undef, undef, undef, undef, undef, undef, undef, undef, undef, undef], []⟩ W) (g : Nat) (W : World) (hW : Keeps Nob W0 W) (hg : W0.heap.size ≤ g) (hgc : W.heap[g]? = some (.cells hashZ 29 (0, 0))) :
    wpAnyH Try.prog .any opsreadH (NoPanic Q) (fun W => Keeps Nob W0 W) 3 #[true, true, true, true, true, true, true, true, true, true, true, true, true, true, true, true, false, false, false] ⟨#[.pointer (some ⟨b, 0, none⟩), .func (.func 142) #[] #[], undef, undef, .pointer (some ⟨h4, 0, none⟩), .pointer (some ⟨h5, 0, none⟩), .pointer (some ⟨g, 0, none⟩), undef, undef, .pointer (some ⟨b, 0, none⟩), .bool false, .bool false, .pointer (some ⟨b, 0, none⟩), .pointer (some ⟨b, 0, none⟩), .pointer (some ⟨b, 3, none⟩), .pointer none, .bool false, .bool false, undef, .tuple #[.agg X, .int .i64 (k : Int), .int .i64 er], .func (.func 142) #[] #[], .pointer (some ⟨b, 0, none⟩), .pointer (some ⟨b, 0, none⟩), .pointer (some ⟨b, 0, none⟩), .slice A l.length cap, .pointer (some ⟨b, 0, none⟩), .pointer (some ⟨b, 0, none⟩), .pointer (some ⟨b, 1, none⟩), .int .i64 (at_ : Int), cutV A l.length cap at_, .tuple #[.agg X, .int .i64 (k : Int), .int .i64 er], .agg X, .int .i64 (k : Int), .int .i64 er, undef, undef, undef, undef, undef, undef, undef, undef, undef, undef, undef, undef, undef, undef, undef, undef, undef, undef, undef], []⟩ W := by
  have S1 : Keeps Nob W0 (W.setRow g X) := hW.setRow (fun x => absurd x (by omega)) _
  refine wpAnyH_run (i := 16) (opsreadH.getD 16 default) undef (w' := W.setRow g X) (by kernel_rfl) (by kernel_rfl) (by kernel_rfl) (.inr ⟨exec_store_row 29 (.tmp 6) (.tmp 31) (by kernel_rfl) g X (by kernel_rfl) (by kernel_rfl) 29 hashZ hgc HOI (by rw [HOSZ]; rfl) HONE, rfl⟩) S1 ?_
  have hrow : (W.setRow g X).heap[g]? = some (.cells X 29 (0, 0)) := setRow_heap _ _ _ _ _ _ hgc
  generalize W.setRow g X = W1 at *
  refine wpAnyH_run (i := 17) (opsreadH.getD 17 default) (.int .i64 (k : Int)) (w' := W1) (by kernel_rfl) (by kernel_rfl) (by kernel_rfl) (.inl (by kernel_rfl)) S1 ?_
  refine wpAnyH_run (i := 18) (opsreadH.getD 18 default) (.int .i64 er) (w' := W1) (by kernel_rfl) (by kernel_rfl) (by kernel_rfl) (.inl (by kernel_rfl)) S1 ?_
  refine wpAnyH_done (by kernel_rfl) ?_ _
  refine NoPanic.normal ?_
  exact state_eq (b := ⟨#[.pointer (some ⟨b, 0, none⟩), .func (.func 142) #[] #[], undef, undef, .pointer (some ⟨h4, 0, none⟩), .pointer (some ⟨h5, 0, none⟩), .pointer (some ⟨g, 0, none⟩), .int .i64 (k : Int), .int .i64 er, .pointer (some ⟨b, 0, none⟩), .bool false, .bool false, .pointer (some ⟨b, 0, none⟩), .pointer (some ⟨b, 0, none⟩), .pointer (some ⟨b, 3, none⟩), .pointer none, .bool false, .bool false, undef, .tuple #[.agg X, .int .i64 (k : Int), .int .i64 er], .func (.func 142) #[] #[], .pointer (some ⟨b, 0, none⟩), .pointer (some ⟨b, 0, none⟩), .pointer (some ⟨b, 0, none⟩), .slice A l.length cap, .pointer (some ⟨b, 0, none⟩), .pointer (some ⟨b, 0, none⟩), .pointer (some ⟨b, 1, none⟩), .int .i64 (at_ : Int), cutV A l.length cap at_, .tuple #[.agg X, .int .i64 (k : Int), .int .i64 er], .agg X, .int .i64 (k : Int), .int .i64 er, undef, undef, undef, undef, undef, undef, undef, undef, undef, undef, undef, undef, undef, undef, undef, undef, undef, undef, undef], []⟩) (by kernel_rfl) (hQ g W1 S1 hg hrow)

set_option maxRecDepth 100000 in
theorem readH_region (b h4 h5 : Nat) (A : Option Addr) (l : List UInt8) (cap at_ k : Nat) (er : Int) (X : Array Value) (W0 : World) (Q : Exit → Act → World → Prop)
    (HBK : W0.heap[b]? = some (.cells #[.slice A l.length cap, .int .i64 (at_ : Int), .bool true, .pointer none] 100 (0, 0))) (hl : at_ ≤ l.length)
    (HOI : (Try.prog.info? 29).map (·.size) = some X.size) (HOSZ : X.size = 32) (HONE : X.all (·.oneCell') = true)
    (HF : ∀ W, Keeps Nob W0 W → Calls Try.prog 142 #[cutV A l.length cap at_] W fun e w' => e = .returned (.tuple #[.agg X, .int .i64 (k : Int), .int .i64 er]) ∧ Keeps Nob W w')
    (hQ : ∀ (g : Nat) (W : World), Keeps Nob W0 W → W0.heap.size ≤ g → W.heap[g]? = some (.cells X 29 (0, 0)) → Q .normal ⟨#[.pointer (some ⟨b, 0, none⟩), .func (.func 142) #[] #[], undef, undef, .pointer (some ⟨h4, 0, none⟩), .pointer (some ⟨h5, 0, none⟩), .pointer (some ⟨g, 0, none⟩), .int .i64 (k : Int), .int .i64 er, .pointer (some ⟨b, 0, none⟩), .bool false, .bool false, .pointer (some ⟨b, 0, none⟩), .pointer (some ⟨b, 0, none⟩), .pointer (some ⟨b, 3, none⟩), .pointer none, .bool false, .bool false, undef, .tuple #[.agg X, .int .i64 (k : Int), .int .i64 er], .func (.func 142) #[] #[], .pointer (some ⟨b, 0, none⟩), .pointer (some ⟨b, 0, none⟩), .pointer (some ⟨b, 0, none⟩), .slice A l.length cap, .pointer (some ⟨b, 0, none⟩), .pointer (some ⟨b, 0, none⟩), .pointer (some ⟨b, 1, none⟩), .int .i64 (at_ : Int), cutV A l.length cap at_, .tuple #[.agg X, .int .i64 (k : Int), .int .i64 er], .agg X, .int .i64 (k : Int), .int .i64 er, undef, undef, undef, undef, undef, undef, undef, undef, undef, undef, undef, undef, undef, undef, undef, undef, undef, undef, undef], []⟩ W) : (Code.region 4 opsreadH true).wp Try.prog (NoPanic Q) ⟨#[.pointer (some ⟨b, 0, none⟩), .func (.func 142) #[] #[], undef, undef, .pointer (some ⟨h4, 0, none⟩), .pointer (some ⟨h5, 0, none⟩), undef, undef, undef, .pointer (some ⟨b, 0, none⟩), .bool false, .bool false, .pointer (some ⟨b, 0, none⟩), .pointer (some ⟨b, 0, none⟩), .pointer (some ⟨b, 3, none⟩), .pointer none, .bool false, .bool false, undef, undef, undef, undef, undef, undef, undef, undef, undef, undef, undef, undef, undef, undef, undef, undef, undef, undef, undef, undef, undef, undef, undef, undef, undef, undef, undef, undef, undef, undef, undef, undef, undef, undef, undef], []⟩ W0 := by
  have TAIL := readH_tail b h4 h5 A l cap at_ k er X W0 Q HBK hl HOI HOSZ HONE hQ
  refine wp_regionH_fuel (fun W => Keeps Nob W0 W) 19 #[false, false, false, false, false, false, false, false, false, false, false, false, false, false, false, false, false, false, false] (by kernel_rfl) (by kernel_rfl) rfl ?_
  have S0 : Keeps Nob W0 W0.drew := (Keeps.refl _ _).drew
  have hb0 : b < W0.heap.size := lt_of_block HBK
  have cb : ∀ W, Keeps Nob W0 W → W.heap[b]? = some (.cells #[.slice A l.length cap, .int .i64 (at_ : Int), .bool true, .pointer none] 100 (0, 0)) := fun W hW => (hW.block b hb0 (fun x => x)).trans HBK
  refine wpAnyH_val (i := 0) (opsreadH.getD 0 default) (.func (.func 142) #[] #[]) (by kernel_rfl) (fun _ _ _ _ _ h => h) (by kernel_rfl) (by kernel_rfl) (by kernel_rfl) (by kernel_rfl) (fun W hW => by kernel_rfl) S0 ?_
  refine wpAnyH_val (i := 1) (opsreadH.getD 1 default) (.pointer (some ⟨b, 0, none⟩)) (by kernel_rfl) (fun _ _ _ _ _ h => h) (by kernel_rfl) (by kernel_rfl) (by kernel_rfl) (by kernel_rfl) (fun W hW => by kernel_rfl) S0 ?_
  refine wpAnyH_val (i := 2) (opsreadH.getD 2 default) (.pointer (some ⟨b, 0, none⟩)) (by kernel_rfl) (fun _ _ _ _ _ h => h) (by kernel_rfl) (by kernel_rfl) (by kernel_rfl) (by kernel_rfl) (fun W hW => by kernel_rfl) S0 ?_
  refine wpAnyH_val (i := 3) (opsreadH.getD 3 default) (.pointer (some ⟨b, 0, none⟩)) (by kernel_rfl) (fun _ _ _ _ _ h => h) (by kernel_rfl) (by kernel_rfl) (by kernel_rfl) (by kernel_rfl) (fun W hW => by kernel_rfl) S0 ?_
  refine wpAnyH_val (i := 4) (opsreadH.getD 4 default) (.slice A l.length cap) (by kernel_rfl) (fun _ _ _ _ _ h => h) (by kernel_rfl) (by kernel_rfl) (by kernel_rfl) (by kernel_rfl) (fun W hW => exec_load_cell 22 (.tmp 23) (by kernel_rfl) ⟨b, 0, none⟩ (by kernel_rfl) _ _ Try.underlying22 rfl ((cell_of_row W b 0 _ _ _ (cb W hW)).trans rfl)) S0 ?_
  refine wpAnyH_val (i := 5) (opsreadH.getD 5 default) (.pointer (some ⟨b, 0, none⟩)) (by kernel_rfl) (fun _ _ _ _ _ h => h) (by kernel_rfl) (by kernel_rfl) (by kernel_rfl) (by kernel_rfl) (fun W hW => by kernel_rfl) S0 ?_
  refine wpAnyH_val (i := 6) (opsreadH.getD 6 default) (.pointer (some ⟨b, 0, none⟩)) (by kernel_rfl) (fun _ _ _ _ _ h => h) (by kernel_rfl) (by kernel_rfl) (by kernel_rfl) (by kernel_rfl) (fun W hW => by kernel_rfl) S0 ?_
  refine wpAnyH_val (i := 7) (opsreadH.getD 7 default) (.pointer (some ⟨b, 1, none⟩)) (by kernel_rfl) (fun _ _ _ _ _ h => h) (by kernel_rfl) (by kernel_rfl) (by kernel_rfl) (by kernel_rfl) (fun W hW => by kernel_rfl) S0 ?_
  refine wpAnyH_val (i := 8) (opsreadH.getD 8 default) (.int .i64 (at_ : Int)) (by kernel_rfl) (fun _ _ _ _ _ h => h) (by kernel_rfl) (by kernel_rfl) (by kernel_rfl) (by kernel_rfl) (fun W hW => exec_load_cell 3 (.tmp 27) (by kernel_rfl) ⟨b, 1, none⟩ (by kernel_rfl) _ _ Try.underlying3 rfl ((cell_of_row W b 1 _ _ _ (cb W hW)).trans rfl)) S0 ?_
  refine wpAnyH_val (i := 9) (opsreadH.getD 9 default) (cutV A l.length cap at_) (by kernel_rfl) (fun _ _ _ _ _ h => h) (by kernel_rfl) (by kernel_rfl) (by kernel_rfl) (by kernel_rfl) (fun W hW => exec_cut (.tmp 24) (.tmp 28) (by kernel_rfl) A l.length cap at_ (by kernel_rfl) (by kernel_rfl) hl) S0 ?_
  refine anyH_two 10 15 (by kernel_rfl) ?_ ?_
  · refine opH_callV (opsreadH.getD 10 default) (.tmp 20) 142 #[] #[cutV A l.length cap at_] (by kernel_rfl) (by kernel_rfl) (by kernel_rfl) (by kernel_rfl) (by kernel_rfl) (enters_of Try.func142 (by kernel_rfl) rfl) ((HF _ S0).mono ?_)
    rintro e W1 ⟨rfl, k1⟩
    have S1 : Keeps Nob W0 W1 := S0.trans k1
    refine ⟨_, rfl, S1, ?_⟩
    refine wpAnyH_val (i := 11) (opsreadH.getD 11 default) (.tuple #[.agg X, .int .i64 (k : Int), .int .i64 er]) (by kernel_rfl) (fun _ _ _ _ _ h => h) (by kernel_rfl) (by kernel_rfl) (by kernel_rfl) (by kernel_rfl) (fun W hW => by kernel_rfl) S1 ?_
    refine wpAnyH_val (i := 12) (opsreadH.getD 12 default) (.agg X) (by kernel_rfl) (fun _ _ _ _ _ h => h) (by kernel_rfl) (by kernel_rfl) (by kernel_rfl) (by kernel_rfl) (fun W hW => by kernel_rfl) S1 ?_
    refine wpAnyH_val (i := 13) (opsreadH.getD 13 default) (.int .i64 (k : Int)) (by kernel_rfl) (fun _ _ _ _ _ h => h) (by kernel_rfl) (by kernel_rfl) (by kernel_rfl) (by kernel_rfl) (fun W hW => by kernel_rfl) S1 ?_
    refine wpAnyH_val (i := 14) (opsreadH.getD 14 default) (.int .i64 er) (by kernel_rfl) (fun _ _ _ _ _ h => h) (by kernel_rfl) (by kernel_rfl) (by kernel_rfl) (by kernel_rfl) (fun W hW => by kernel_rfl) S1 ?_
    have S2 : Keeps Nob W0 (W1.alloc (.cells hashZ 29)) := S1.alloc _
    refine wpAnyH_run (i := 15) (opsreadH.getD 15 default) (.pointer (some ⟨W1.heap.size, 0, none⟩)) (w' := W1.alloc (.cells hashZ 29)) (by kernel_rfl) (by kernel_rfl) (by kernel_rfl) (.inl (exec_alloc 29 (by kernel_rfl) (hash_zero2 _))) S2 ?_
    exact anyH_eq (by kernel_rfl) (by kernel_rfl) (TAIL W1.heap.size _ S2 S1.size (heap_alloc_new _ _))
  · have S2 : Keeps Nob W0 (W0.drew.alloc (.cells hashZ 29)) := S0.alloc _
    refine opH_run (opsreadH.getD 15 default) (.pointer (some ⟨W0.drew.heap.size, 0, none⟩)) (by kernel_rfl) (by kernel_rfl) (exec_alloc 29 (by kernel_rfl) (hash_zero2 _)) ⟨S2, ?_⟩
    have hz : (W0.drew.alloc (.cells hashZ 29)).heap[W0.drew.heap.size]? = some (.cells hashZ 29 (0, 0)) := heap_alloc_new _ _
    have hsz : W0.heap.size ≤ W0.drew.heap.size := S0.size
    have hzl := lt_of_block hz
    generalize W0.drew.alloc (.cells hashZ 29) = WA at *
    generalize W0.drew.heap.size = g at *
    refine wpAnyH_callV (i := 10) (opsreadH.getD 10 default) (.tmp 20) 142 #[] #[cutV A l.length cap at_] (by kernel_rfl) (by kernel_rfl) (by kernel_rfl) (by kernel_rfl) (by kernel_rfl) (by kernel_rfl) (enters_of Try.func142 (by kernel_rfl) rfl) ((HF _ S2).mono ?_)
    rintro e W1 ⟨rfl, k1⟩
    have S1 : Keeps Nob W0 W1 := S2.trans k1
    refine ⟨_, rfl, S1, ?_⟩
    refine wpAnyH_val (i := 11) (opsreadH.getD 11 default) (.tuple #[.agg X, .int .i64 (k : Int), .int .i64 er]) (by kernel_rfl) (fun _ _ _ _ _ h => h) (by kernel_rfl) (by kernel_rfl) (by kernel_rfl) (by kernel_rfl) (fun W hW => by kernel_rfl) S1 ?_
    refine wpAnyH_val (i := 12) (opsreadH.getD 12 default) (.agg X) (by kernel_rfl) (fun _ _ _ _ _ h => h) (by kernel_rfl) (by kernel_rfl) (by kernel_rfl) (by kernel_rfl) (fun W hW => by kernel_rfl) S1 ?_
    refine wpAnyH_val (i := 13) (opsreadH.getD 13 default) (.int .i64 (k : Int)) (by kernel_rfl) (fun _ _ _ _ _ h => h) (by kernel_rfl) (by kernel_rfl) (by kernel_rfl) (by kernel_rfl) (fun W hW => by kernel_rfl) S1 ?_
    refine wpAnyH_val (i := 14) (opsreadH.getD 14 default) (.int .i64 er) (by kernel_rfl) (fun _ _ _ _ _ h => h) (by kernel_rfl) (by kernel_rfl) (by kernel_rfl) (by kernel_rfl) (fun W hW => by kernel_rfl) S1 ?_
    exact anyH_eq (by kernel_rfl) (by kernel_rfl) (TAIL g _ S1 hsz ((k1.block g hzl (fun x => x)).trans hz))

theorem RdAt.row {w : World} {b h4 : Nat} {v fp : Value} {l : List UInt8} {s : RS} {old X : Array Value} (h : RdAt w b v fp l s) (h4h : w.heap[h4]? = some (.cells old 29 (0, 0))) (hby : BytesAt (w.setRow h4 X) v l) : RdAt (w.setRow h4 X) b v fp l s := by
  obtain ⟨at_, hb, hl, hf⟩ := h.ex
  refine ⟨⟨at_, (setRow_other _ _ _ _ (fun e => ?_)).trans hb, hl, ?_⟩, hby, h.own⟩
  · subst e; rw [hb] at h4h; simp at h4h
  · rcases hf with hf | ⟨h0, g, rfl, hg, hc⟩
    · exact .inl hf
    · refine .inr ⟨h0, g, rfl, hg, (setRow_other _ _ _ _ (fun e => ?_)).trans hc⟩
      subst e; rw [hc] at h4h; simp at h4h

set_option maxRecDepth 100000 in
set_option maxHeartbeats 8000000 in
theorem readH_ok (b : Nat) (v fp : Value) (l : List UInt8) (s : RS) (w : World) (h : RdAt w b v fp l s) (hll : l.length ≤ 100000000) :
    Calls Try.prog 141 #[.pointer (some ⟨b, 0, none⟩), .func (.func 142) #[] #[]] w (RHPost b v fp l s w) := by
  have H := Lib.hid h
  have hlt := h.lt
  obtain ⟨A, cap, rfl⟩ := h.bytes.len
  clear h
  go_enter Try.func141, Try.ntmps141
  go_wp2_with (refine own_alloc rfl 29 rfl (hash_zero2 _) ?_)
  have k0 : Keeps Nob w ((w.alloc (.cells hashZ 29)).alloc (.cells hashZ 29)) := ((Keeps.refl _ _).alloc _).alloc _
  have z4 : ((w.alloc (.cells hashZ 29)).alloc (.cells hashZ 29)).heap[w.heap.size]? = some (.cells hashZ 29 (0, 0)) := (Below.heap_alloc _ _ _ (by simp)).trans (heap_alloc_new w _)
  have z5 : ((w.alloc (.cells hashZ 29)).alloc (.cells hashZ 29)).heap[w.heap.size + 1]? = some (.cells hashZ 29 (0, 0)) := by
    have := heap_alloc_new (w.alloc (.cells hashZ 29)) (.cells hashZ 29); rwa [World.size_alloc] at this
  generalize (w.alloc (.cells hashZ 29)).alloc (.cells hashZ 29) = W0 at *
  have h1 := H.out.keeps k0 (fun _ _ x => x)
  refine (rnone_ok b _ fp l s W0 h1).mono ?_
  rintro e w' ⟨rfl, rfl⟩
  have hzi : (Try.prog.info? 29).map (·.size) = some hashZ.size := hash_info
  have hz1 : hashZ.all (·.oneCell') = true := B_oneA _
  have hll' := h1.bytes.length_le
  obtain ⟨at_, hb, hl, hf⟩ := h1.ex
  have c3 : W0.cell? ⟨b, 3, none⟩ = some fp := (cell_of_row W0 b 3 _ _ _ hb).trans rfl
  have hh4 := lt_of_block z4
  have hh5 := lt_of_block z5
  have HBK := Lib.hid hb
  have H1 := Lib.hid h1
  have Z4 := Lib.hid z4
  have Z5 := Lib.hid z5
  have HZI := Lib.hid hzi
  have HZ1 := Lib.hid hz1
  clear h1 hb z4 z5 hzi hz1
  rcases hf with ⟨h0, hp, rfl⟩ | ⟨h0, g, rfl, hg, hc⟩
  · have e1 : s.rest l = l.drop at_ := by unfold RS.rest; rw [show s.pos.toNat = at_ by omega]
    have HF := Lib.hid (fun W (hk : Keeps Nob W0 W) => rHash1_ok (cutV A l.length cap at_) (l.drop at_) W ((H1.out.bytes.drop at_ hl A l.length cap rfl).keepsN hk) (by rw [List.length_drop]; omega))
    have hkl : hashErr (l.drop at_) = 0 → at_ + hashLen (l.drop at_) ≤ l.length := by
      unfold hashErr hashLen; rw [List.length_drop]; intro h; split at h
      · omega
      · rw [if_neg ‹_›]; omega
    have e2 : (rdH l s).1 = if hashErr (l.drop at_) = 0 then hashOf (l.drop at_) else List.replicate 32 0 := by unfold rdH; rw [e1]; simp [h0]
    have e3 : (rdH l s).2 = if hashErr (l.drop at_) = 0 then ⟨0, s.pos + hashLen (l.drop at_)⟩ else ⟨hashErr (l.drop at_), s.pos⟩ := by unfold rdH; rw [e1]; simp only [RS.read, h0]; rfl
    have hol := hashOf_length (l.drop at_)
    have hone := B_oneA (hashOf (l.drop at_))
    have hosz : (B (hashOf (l.drop at_))).toArray.size = 32 := by simp [B_length, hol]
    have HE2 := Lib.hid e2
    have HE3 := Lib.hid e3
    clear e1 e2 e3
    generalize hashErr (l.drop at_) = er at *
    generalize hashLen (l.drop at_) = k at *
    generalize hashOf (l.drop at_) = hs at *
    have HP := Lib.hid hp
    have H0 := Lib.hid h0
    have HK := Lib.hid hkl
    have HONE := Lib.hid hone
    have HOSZ := Lib.hid hosz
    have HOI : Hid ((Try.prog.info? 29).map (·.size) = some (B hs).toArray.size) := Lib.hid (by rw [hosz]; exact hash_info)
    clear hp h0 hkl hol hone hosz
    obtain ⟨X, hX⟩ : ∃ X, (B hs).toArray = X := ⟨_, rfl⟩
    rw [hX] at HF HONE HOSZ HOI
    have HXE := Lib.hid hX
    clear hX
    go_wp2_with fail
    refine wp_region_noPanic ?_
    refine region_named (R := opsreadH) (by kernel_rfl) ?_
    refine readH_region b w.heap.size (w.heap.size + 1) A l cap at_ k er X W0 _ HBK.out hl HOI.out HOSZ.out HONE.out HF.out ?_
    intro g W1 S1 hg hrow
    have hbW := (S1.block b (lt_of_block HBK.out) (fun x => x)).trans HBK.out
    have a1 : W1.cell? ⟨b, 1, none⟩ = some (.int .i64 (at_ : Int)) := (cell_of_row W1 b 1 _ _ _ hbW).trans rfl
    have a2 : W1.frozen? ⟨b, 1, none⟩ = false := frozen_of_row W1 b 1 _ _ hbW
    have HBW := Lib.hid hbW
    have HROW := Lib.hid hrow
    have Y4 := Lib.hid ((S1.block _ hh4 (fun x => x)).trans Z4.out)
    have Y5 := Lib.hid ((S1.block _ hh5 (fun x => x)).trans Z5.out)
    have S1' := k0.trans S1
    clear hbW hrow HF
    generalize cutV A l.length cap at_ = cv at *
    have hgb : g ≠ b := by have := lt_of_block HBK.out; omega
    have h4b : w.heap.size ≠ b := by omega
    have h5b : w.heap.size + 1 ≠ b := by omega
    by_cases he : er = 0
    · subst he
      have hkk := HK.out rfl
      go_wp2_with (first
        | (refine wpList_load_row rfl 29 _ rfl g rfl 29 X (0, 0) _ ((Below.heap_setCell _ _ _ _ hgb).trans HROW.out) Try.underlying29 rfl HOI.out ?_)
        | (refine wpList_store_row rfl 29 _ _ rfl w.heap.size X rfl rfl 29 hashZ ((Below.heap_setCell _ _ _ _ h4b).trans Y4.out) HOI.out (by rw [HOSZ.out]; rfl) HONE.out ?_))
      have hb2 := heap_setCell_same W1 b 1 _ _ (.int .i64 ((at_ : Int) + k)) HBW.out
      have hkS : Keeps (One b) w (W1.setCell ⟨b, 1, none⟩ (.int .i64 ((at_ : Int) + k))) := (S1'.mono (fun _ _ x => x.elim)).setOne _
      have hy4 : (W1.setCell ⟨b, 1, none⟩ (.int .i64 ((at_ : Int) + k))).heap[w.heap.size]? = some (.cells hashZ 29 (0, 0)) := (Below.heap_setCell _ _ _ _ h4b).trans Y4.out
      generalize W1.setCell ⟨b, 1, none⟩ (.int .i64 ((at_ : Int) + k)) = W2 at *
      have hkF := hkS.setRow (g := w.heap.size) (fun x => absurd x (by omega)) X
      refine bodyPost_ret (v := .agg X) (results_cell_row rfl _ _ w.heap.size 29 X (0, 0) _ rfl (setRow_heap _ _ _ _ _ _ hy4) Try.underlying29 rfl HOI.out) rfl ⟨?_, ⟨.pointer none, ⟨⟨at_ + k, (setRow_other _ _ _ _ (Ne.symm h4b)).trans ?_, by omega, .inl ?_⟩, H.out.bytes.keeps hkF (fun j hj (e : j = b) => H.out.own (by rw [hj, e])), H.out.own⟩, .inl rfl⟩, hkF⟩
      · rw [HE2.out, if_pos trivial, HXE.out]
      · rw [show (((at_ + k : Nat)) : Int) = (at_ : Int) + k by omega]; exact hb2
      · rw [HE3.out, if_pos trivial, HP.out]; exact ⟨rfl, by simp, rfl⟩
    · have hb : (er != 0) = true := by simpa using he
      have HFa := Lib.hid (rFail_ok b (.slice A l.length cap) (.pointer none) l s er (at_ : Int) W1 (H1.out.keeps S1 (fun _ _ x => x)))
      have hs' : s.fail er (at_ : Int) = ⟨er, s.pos⟩ := by unfold RS.fail; rw [if_pos ⟨H0.out, he⟩, HP.out]
      rw [hs'] at HFa
      have HE := Lib.hid he
      clear hs' he
      go_wp2_with (first
        | (go_at_call 87; refine HFa.out.mono ?_; rintro e w' ⟨⟨r, rfl⟩, ⟨fp', h1, h2⟩, h3⟩; have J1 := Lib.hid h1; have J2 := Lib.hid h2; have J4 := Lib.hid ((h3.block _ (lt_of_block Y4.out) h4b).trans Y4.out); have J5 := Lib.hid ((h3.block _ (lt_of_block Y5.out) h5b).trans Y5.out); clear h1 h2)
        | (refine wpList_load_row rfl 29 _ rfl (w.heap.size + 1) rfl 29 hashZ (0, 0) _ J5.out Try.underlying29 rfl HZI.out ?_)
        | (refine wpList_store_row rfl 29 _ _ rfl w.heap.size hashZ rfl rfl 29 hashZ J4.out HZI.out rfl HZ1.out ?_))
      have hkS : Keeps (One b) w w' := (S1'.mono (fun _ _ x => x.elim)).trans h3
      have hkF := hkS.setRow (g := w.heap.size) (fun x => absurd x (by omega)) hashZ
      have hby := H.out.bytes.keeps hkF (fun j hj (e : j = b) => H.out.own (by rw [hj, e]))
      refine bodyPost_ret (v := .agg hashZ) (results_cell_row rfl _ _ w.heap.size 29 hashZ (0, 0) _ rfl (setRow_heap _ _ _ _ _ _ J4.out) Try.underlying29 rfl HZI.out) rfl ⟨?_, ⟨fp', ?_, ?_⟩, hkF⟩
      · rw [HE2.out, if_neg HE.out]; rfl
      · rw [HE3.out, if_neg HE.out]; exact J1.out.row J4.out hby
      · rcases J2.out with h | ⟨g', h, hg'⟩
        · exact .inl h
        · exact .inr ⟨g', h, Nat.le_trans S1'.size hg'⟩
  · have e1 : rdH l s = (List.replicate 32 0, s) := by unfold rdH RS.read; simp [h0]
    have HE1 := Lib.hid e1
    clear hc h0 e1
    go_wp2_with (first
        | (refine wpList_load_row rfl 29 _ rfl (w.heap.size + 1) rfl 29 hashZ (0, 0) _ Z5.out Try.underlying29 rfl HZI.out ?_)
        | (refine wpList_store_row rfl 29 _ _ rfl w.heap.size hashZ rfl rfl 29 hashZ Z4.out HZI.out rfl HZ1.out ?_))
    have hkF : Keeps Nob w (W0.setRow w.heap.size hashZ) := k0.setRow (g := w.heap.size) (fun x => absurd x (by omega)) hashZ
    refine bodyPost_ret (v := .agg hashZ) (results_cell_row rfl _ _ w.heap.size 29 hashZ (0, 0) _ rfl (setRow_heap _ _ _ _ _ _ Z4.out) Try.underlying29 rfl HZI.out) rfl ⟨by rw [HE1.out]; rfl, ⟨_, by rw [HE1.out]; exact H.out.keeps hkF (fun _ _ x => x), .inl rfl⟩, hkF.mono (fun _ _ x => x.elim)⟩

set_option maxRecDepth 100000 in
set_option maxHeartbeats 1000000 in
theorem rHash_ok (b : Nat) (v fp : Value) (l : List UInt8) (s : RS) (w : World) (h : RdAt w b v fp l s) (hll : l.length ≤ 100000000) :
    Calls Try.prog 139 #[.pointer (some ⟨b, 0, none⟩)] w (RHPost b v fp l s w) := by
  have H := Lib.hid h
  clear h
  go_enter Try.func139, Try.ntmps139
  go_wp2_with (refine own_alloc rfl 29 rfl (hash_zero2 _) ?_)
  have k0 : Keeps Nob w (w.alloc (.cells hashZ 29)) := (Keeps.refl _ _).alloc _
  have z4 : (w.alloc (.cells hashZ 29)).heap[w.heap.size]? = some (.cells hashZ 29 (0, 0)) := heap_alloc_new w _
  generalize w.alloc (.cells hashZ 29) = W0 at *
  refine (readH_ok b v fp l s W0 (H.out.keeps k0 (fun _ _ x => x)) hll).mono ?_
  rintro e w' ⟨rfl, h2, h3⟩
  have H2 := Lib.hid h2
  have h4b : w.heap.size ≠ b := by have := H.out.lt; omega
  have Y4 := Lib.hid ((h3.block _ (lt_of_block z4) h4b).trans z4)
  have hone := B_oneA (rdH l s).1
  have hosz : (B (rdH l s).1).toArray.size = 32 := by
    have : (rdH l s).1.length = 32 := by unfold rdH; dsimp only; split
                                         · exact hashOf_length _
                                         · simp
    simp [B_length, this]
  have HOI : Hid ((Try.prog.info? 29).map (·.size) = some (B (rdH l s).1).toArray.size) := Lib.hid (by rw [hosz]; exact hash_info)
  have HONE := Lib.hid hone
  have HOSZ := Lib.hid hosz
  clear h2 z4 hone hosz
  obtain ⟨X, hX⟩ : ∃ X, (B (rdH l s).1).toArray = X := ⟨_, rfl⟩
  rw [hX] at HONE HOSZ HOI ⊢
  have HXE := Lib.hid hX
  clear hX
  go_wp2_with (refine wpList_store_row rfl 29 _ _ rfl w.heap.size X rfl rfl 29 hashZ Y4.out HOI.out (by rw [HOSZ.out]; rfl) HONE.out ?_)
  have hkS : Keeps (One b) w w' := (k0.mono (fun _ _ x => x.elim)).trans h3
  have hkF := hkS.setRow (g := w.heap.size) (fun x => absurd x (by omega)) X
  have hby := H.out.bytes.keeps hkF (fun j hj (e : j = b) => H.out.own (by rw [hj, e]))
  obtain ⟨fp', h1, h2⟩ := H2.out
  refine bodyPost_ret (v := .agg X) (results_cell_row rfl _ _ w.heap.size 29 X (0, 0) _ rfl (setRow_heap _ _ _ _ _ _ Y4.out) Try.underlying29 rfl HOI.out) rfl ⟨by rw [HXE.out], ⟨fp', h1.row Y4.out hby, ?_⟩, hkF⟩
  rcases h2 with h | ⟨g', h, hg'⟩
  · exact .inl h
  · exact .inr ⟨g', h, Nat.le_trans k0.size hg'⟩
end Go.Proofs.Ytmapcghgdbfmhaa
