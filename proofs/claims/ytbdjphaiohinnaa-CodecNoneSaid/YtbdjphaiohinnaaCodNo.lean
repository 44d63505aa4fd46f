/-
  Codec: writers and readers that are nil, or that nobody made. Conditions: none.
-/
import Derived.Test.YtbdjphaiohinnaaCodWs
import Derived.Test.YtbdjphaiohinnaaCodO
namespace Go.Proofs.Ytbdjphaiohinnaa
open Go Go.RowKit Go.Own Go.Shelf

/-- No writer. -/
def NoW (w : World) (p : Value) : Prop := p = .pointer none ∨ ∃ b, p = .pointer (some ⟨b, 0, none⟩) ∧ w.heap[b]? = some (.cells #[.slice none 0 0, .int .i64 0, .bool false, .int .i64 0] 64 (0, 0))
/-- No reader. -/
def NoR (w : World) (p : Value) : Prop := p = .pointer none ∨ ∃ b, p = .pointer (some ⟨b, 0, none⟩) ∧ w.heap[b]? = some (.cells #[.slice none 0 0, .int .i64 0, .bool false, .pointer none] 69 (0, 0))
theorem NoW.keeps {w w' : World} {p : Value} (h : NoW w p) (k : Keeps Nob w w') : NoW w' p := h.elim .inl fun ⟨b, e, hb⟩ => .inr ⟨b, e, (k.block b (lt_of_block hb) (fun x => x)).trans hb⟩
theorem NoR.keeps {w w' : World} {p : Value} (h : NoR w p) (k : Keeps Nob w w') : NoR w' p := h.elim .inl fun ⟨b, e, hb⟩ => .inr ⟨b, e, (k.block b (lt_of_block hb) (fun x => x)).trans hb⟩

set_option maxRecDepth 100000 in
theorem no_state (p : Value) (w : World) (h : NoW w p) : Calls Try.prog 58 #[p] w fun e w' => e = .returned (.int .i64 1) ∧ w = w' := by
  rcases h with rfl | ⟨b, rfl, hb⟩
  · go_enter Try.func58, Try.ntmps58
    go_wp2
    go_ret
    exact ⟨rfl, rfl⟩
  · have c2 : w.cell? ⟨b, 2, none⟩ = some (.bool false) := (cell_of_row w b 2 _ _ _ hb).trans rfl
    clear hb
    go_enter Try.func58, Try.ntmps58
    go_wp2
    go_ret
    exact ⟨rfl, rfl⟩
set_option maxRecDepth 100000 in
theorem no_none (p : Value) (w : World) (h : NoR w p) : Calls Try.prog 57 #[p] w fun e w' => e = .returned (.bool true) ∧ w = w' := by
  rcases h with rfl | ⟨b, rfl, hb⟩
  · go_enter Try.func57, Try.ntmps57
    go_wp2
    go_ret
    exact ⟨rfl, rfl⟩
  · have c2 : w.cell? ⟨b, 2, none⟩ = some (.bool false) := (cell_of_row w b 2 _ _ _ hb).trans rfl
    clear hb
    go_enter Try.func57, Try.ntmps57
    go_wp2
    go_ret
    exact ⟨rfl, rfl⟩

set_option maxRecDepth 100000 in
theorem no_add (p x : Value) (w : World) (h : NoW w p) : Calls Try.prog 59 #[p, x] w fun e w' => e = .returned (.int .i64 1) ∧ w = w' := by
  have HS := Lib.hid (no_state p w h)
  clear h
  go_enter Try.func59, Try.ntmps59
  go_wp2_with (go_at_call 58; refine HS.out.mono ?_; rintro e w' ⟨rfl, rfl⟩)
  go_ret
  exact ⟨rfl, rfl⟩
set_option maxRecDepth 100000 in
theorem no_wU (p : Value) (n : Nat) (w : World) (h : NoW w p) (hn : n < 2 ^ 64) : Calls Try.prog 34 #[p, .int .u64 (n : Int)] w fun e w' => e = .returned (.int .i64 1) ∧ Keeps Nob w w' := by
  have H := Lib.hid h
  have HP := Lib.hid (cPut_ok n hn w)
  clear h hn
  go_enter Try.func34, Try.ntmps34
  go_wp2_with (first
    | (go_at_call 10; refine HP.out.mono ?_; rintro e w1 ⟨x, rfl, h1, h2, h3, h4⟩; have H4 := Lib.hid h4; clear h1 h2 h3 h4)
    | (go_at_call 59; refine (no_add p x w1 (H.out.keeps H4.out)).mono ?_; rintro e w2 ⟨rfl, rfl⟩))
  go_ret
  exact ⟨rfl, H4.out⟩
theorem u64_wrap_nat (n : Int) (h : -9223372036854775808 ≤ n ∧ n ≤ 9223372036854775807) : ∃ k : Nat, k < 2 ^ 64 ∧ IntKind.u64.wrap n = (k : Int) := by
  refine ⟨(IntKind.u64.wrap n).toNat, ?_, ?_⟩
  · simp [IntKind.wrap, IntKind.bits, IntKind.signed]; omega
  · simp [IntKind.wrap, IntKind.bits, IntKind.signed]; omega
set_option maxRecDepth 100000 in
theorem no_wN (p : Value) (n : Int) (w : World) (h : NoW w p) (hn : -9223372036854775808 ≤ n ∧ n ≤ 9223372036854775807) : Calls Try.prog 32 #[p, .int .i64 n] w fun e w' => e = .returned (.int .i64 1) ∧ Keeps Nob w w' := by
  have HS := Lib.hid (no_state p w h)
  obtain ⟨k, hk, hw⟩ := u64_wrap_nat n hn
  have HU := Lib.hid (no_wU p k w h hk)
  clear h hn hk
  go_enter Try.func32, Try.ntmps32
  go_wp2_with (first
    | (go_at_call 58; refine HS.out.mono ?_; rintro e w' ⟨rfl, rfl⟩)
    | (go_at_call 34; refine HU.out.mono ?_; rintro e w2 ⟨rfl, hk⟩))
  go_ret
  exact ⟨rfl, hk⟩
set_option maxRecDepth 100000 in
theorem no_wHash (p : Value) (l : List UInt8) (w : World) (h : NoW w p) : Calls Try.prog 39 #[p, .agg (B l).toArray] w fun e w' => e = .returned (.int .i64 1) ∧ Keeps Nob w w' := by
  have k0 : Keeps Nob w (w.alloc (.cells (B l).toArray 44)) := (Keeps.refl _ _).alloc _
  have HA := Lib.hid (fun x => no_add p x _ (h.keeps k0))
  have K0 := Lib.hid k0
  obtain ⟨X, hX⟩ : ∃ X, (B l).toArray = X := ⟨_, rfl⟩
  rw [hX] at HA K0 ⊢
  clear h k0 hX
  go_enter Try.func39, Try.ntmps39
  go_wp2_with (go_at_call 59; refine (HA.out _).mono ?_; rintro e w2 ⟨rfl, rfl⟩)
  go_ret
  exact ⟨rfl, K0.out⟩
set_option maxRecDepth 100000 in
set_option maxHeartbeats 2000000 in
theorem no_wBlob (p x : Value) (l : List UInt8) (w : World) (h : NoW w p) (hx : BytesAt w x l) (hl : l.length ≤ 9000000) : Calls Try.prog 33 #[p, x] w fun e w' => e = .returned (.int .i64 1) ∧ Keeps Nob w w' := by
  have H := Lib.hid h
  obtain ⟨A, cap, rfl⟩ := hx.len
  have HX := Lib.hid hx
  have HP := Lib.hid (cPut_ok l.length (by omega) w)
  have w1' : IntKind.u64.wrap (l.length : Int) = (l.length : Int) := by simp [IntKind.wrap, IntKind.bits, IntKind.signed]; omega
  have hel := Cod.enc_length l.length
  generalize Cod.enc l.length = en at *
  clear h hx
  go_enter Try.func33, Try.ntmps33
  go_wp2_with (first
    | (go_at_call 10; refine HP.out.mono ?_; rintro e w1 ⟨q, rfl, h1, h2, h3, h4⟩; obtain ⟨Ap, cp, rfl⟩ := (Row.bytes h1).len; have H1 := Lib.hid h1; have H4 := Lib.hid h4; clear h1 h2 h3 h4)
    | (go_at_call 60; have hg := heap_alloc_new w1 (.cells #[.slice Ap en.length cp, .slice A l.length cap] 23); refine (concat_ok w1.heap.size (.slice Ap en.length cp) (.slice A l.length cap) en l _ ⟨(cell_of_row _ _ 0 _ _ _ hg).trans rfl, (cell_of_row _ _ 1 _ _ _ hg).trans rfl, (Row.bytes H1.out).keepsN ((Keeps.refl _ _).alloc _), HX.out.keepsN (H4.out.trans ((Keeps.refl _ _).alloc _))⟩ (by omega) (by omega)).mono ?_; clear hg; rintro e w2 ⟨y, rfl, h1, h2, h3⟩; have H6 : Hid (Keeps Nob w w2) := Lib.hid (H4.out.trans (((Keeps.refl _ _).alloc _).trans h3)); clear h1 h2 h3)
    | (go_at_call 59; refine (no_add p y w2 (H.out.keeps H6.out)).mono ?_; rintro e w3 ⟨rfl, rfl⟩))
  go_ret
  exact ⟨rfl, H6.out⟩
set_option maxRecDepth 100000 in
theorem no_wDone (p : Value) (w : World) (h : NoW w p) : Calls Try.prog 35 #[p] w fun e w' => e = .returned (.tuple #[.slice none 0 0, .int .i64 1]) ∧ w = w' := by
  have HS := Lib.hid (no_state p w h)
  clear h
  go_enter Try.func35, Try.ntmps35
  go_wp2_with (go_at_call 58; refine HS.out.mono ?_; rintro e w' ⟨rfl, rfl⟩)
  go_ret2
  exact ⟨rfl, rfl⟩

set_option maxRecDepth 100000 in
theorem no_rFail (p : Value) (e1 p1 : Int) (w : World) (h : NoR w p) : Calls Try.prog 40 #[p, .int .i64 e1, .int .i64 p1] w fun e w' => (∃ r, e = .returned r) ∧ w = w' := by
  have HS := Lib.hid (no_none p w h)
  clear h
  go_enter Try.func40, Try.ntmps40
  go_wp2_with (go_at_call 57; refine HS.out.mono ?_; rintro e w' ⟨rfl, rfl⟩)
  go_end0
  exact ⟨⟨_, rfl⟩, rfl⟩
set_option maxRecDepth 100000 in
theorem no_rAt (p : Value) (w : World) (h : NoR w p) : Calls Try.prog 23 #[p] w fun e w' => e = .returned (.int .i64 0) ∧ w = w' := by
  have HS := Lib.hid (no_none p w h)
  clear h
  go_enter Try.func23, Try.ntmps23
  go_wp2_with (go_at_call 57; refine HS.out.mono ?_; rintro e w' ⟨rfl, rfl⟩)
  go_ret
  exact ⟨rfl, rfl⟩
set_option maxRecDepth 100000 in
theorem no_rLeft (p : Value) (w : World) (h : NoR w p) : Calls Try.prog 25 #[p] w fun e w' => e = .returned (.int .i64 0) ∧ w = w' := by
  have HS := Lib.hid (no_none p w h)
  clear h
  go_enter Try.func25, Try.ntmps25
  go_wp2_with (go_at_call 57; refine HS.out.mono ?_; rintro e w' ⟨rfl, rfl⟩)
  go_ret
  exact ⟨rfl, rfl⟩
set_option maxRecDepth 100000 in
theorem no_rEnd (p : Value) (w : World) (h : NoR w p) : Calls Try.prog 27 #[p] w fun e w' => e = .returned (.agg #[.int .i64 1, .int .i64 0]) ∧ Keeps Nob w w' := by
  have HS := Lib.hid (no_none p (w.alloc (.cells #[.int .i64 0, .int .i64 0] 29)) (h.keeps ((Keeps.refl _ _).alloc _)))
  clear h
  go_enter Try.func27, Try.ntmps27
  go_wp2_with (go_at_call 57; refine HS.out.mono ?_; rintro e w' ⟨rfl, rfl⟩)
  exact bodyPost_ret (v := .agg #[.int .i64 1, .int .i64 0]) (by simp [results, Try.results27, go_sem]) rfl ⟨rfl, (Keeps.refl _ _).alloc _⟩
set_option maxRecDepth 100000 in
theorem no_readU (p f : Value) (w : World) (h : NoR w p) : Calls Try.prog 65 #[p, f] w fun e w' => e = .returned (.int .u64 0) ∧ w = w' := by
  have HS := Lib.hid (no_none p w h)
  clear h
  go_enter Try.func65, Try.ntmps65
  go_wp2_with (go_at_call 57; refine HS.out.mono ?_; rintro e w' ⟨rfl, rfl⟩)
  go_ret
  exact ⟨rfl, rfl⟩
set_option maxRecDepth 100000 in
theorem no_readI (p f : Value) (w : World) (h : NoR w p) : Calls Try.prog 61 #[p, f] w fun e w' => e = .returned (.int .i64 0) ∧ w = w' := by
  have HS := Lib.hid (no_none p w h)
  clear h
  go_enter Try.func61, Try.ntmps61
  go_wp2_with (go_at_call 57; refine HS.out.mono ?_; rintro e w' ⟨rfl, rfl⟩)
  go_ret
  exact ⟨rfl, rfl⟩
set_option maxRecDepth 100000 in
theorem no_readB (p f : Value) (w : World) (h : NoR w p) : Calls Try.prog 63 #[p, f] w fun e w' => e = .returned (.slice none 0 0) ∧ w = w' := by
  have HS := Lib.hid (no_none p w h)
  clear h
  go_enter Try.func63, Try.ntmps63
  go_wp2_with (go_at_call 57; refine HS.out.mono ?_; rintro e w' ⟨rfl, rfl⟩)
  go_ret
  exact ⟨rfl, rfl⟩
set_option maxRecDepth 100000 in
set_option maxHeartbeats 1000000 in
theorem no_readH (p f : Value) (w : World) (h : NoR w p) : Calls Try.prog 66 #[p, f] w fun e w' => e = .returned (.agg hashZ) ∧ Keeps Nob w w' := by
  have H := Lib.hid h
  have hzi : (Try.prog.info? 44).map (·.size) = some hashZ.size := hash_info
  have hz1 : hashZ.all (·.oneCell') = true := B_oneA _
  have HZI := Lib.hid hzi
  have HZ1 := Lib.hid hz1
  clear h hzi hz1
  go_enter Try.func66, Try.ntmps66
  go_wp2_with (refine own_alloc rfl 44 rfl (hash_zero2 _) ?_)
  have k0 : Keeps Nob w ((w.alloc (.cells hashZ 44)).alloc (.cells hashZ 44)) := ((Keeps.refl _ _).alloc _).alloc _
  have z4 : ((w.alloc (.cells hashZ 44)).alloc (.cells hashZ 44)).heap[w.heap.size]? = some (.cells hashZ 44 (0, 0)) := (Below.heap_alloc _ _ _ (by simp)).trans (heap_alloc_new w _)
  have z5 : ((w.alloc (.cells hashZ 44)).alloc (.cells hashZ 44)).heap[w.heap.size + 1]? = some (.cells hashZ 44 (0, 0)) := by
    have := heap_alloc_new (w.alloc (.cells hashZ 44)) (.cells hashZ 44); rwa [World.size_alloc] at this
  generalize (w.alloc (.cells hashZ 44)).alloc (.cells hashZ 44) = W0 at *
  refine (no_none p W0 (H.out.keeps k0)).mono ?_
  rintro e w' ⟨rfl, rfl⟩
  have Z4 := Lib.hid z4
  have Z5 := Lib.hid z5
  clear z4 z5
  go_wp2_with (first
    | (refine wpList_load_row rfl 44 _ rfl (w.heap.size + 1) rfl 44 hashZ (0, 0) _ Z5.out Try.underlying44 rfl HZI.out ?_)
    | (refine wpList_store_row rfl 44 _ _ rfl w.heap.size hashZ rfl rfl 44 hashZ Z4.out HZI.out rfl HZ1.out ?_))
  exact bodyPost_ret (v := .agg hashZ) (results_cell_row rfl _ _ w.heap.size 44 hashZ (0, 0) _ rfl (setRow_heap _ _ _ _ _ _ Z4.out) Try.underlying44 rfl HZI.out) rfl ⟨rfl, k0.setRow (g := w.heap.size) (fun x => absurd x (by omega)) hashZ⟩
set_option maxRecDepth 100000 in
theorem no_rU (p : Value) (w : World) (h : NoR w p) : Calls Try.prog 38 #[p] w fun e w' => e = .returned (.int .u64 0) ∧ w = w' := by
  have HS := Lib.hid (fun f => no_readU p f w h)
  clear h
  go_enter Try.func38, Try.ntmps38
  go_wp2_with (go_at_call 65; refine (HS.out _).mono ?_; rintro e w' ⟨rfl, rfl⟩)
  go_ret
  exact ⟨rfl, rfl⟩
set_option maxRecDepth 100000 in
theorem no_rN (p : Value) (a b : Int) (w : World) (h : NoR w p) : Calls Try.prog 36 #[p, .int .i64 a, .int .i64 b] w fun e w' => e = .returned (.int .i64 0) ∧ Keeps Nob w w' := by
  have hk : Keeps Nob w ((w.alloc (.cells #[.int .i64 a] 3)).alloc (.cells #[.int .i64 b] 3)) := ((Keeps.refl _ _).alloc _).alloc _
  have HS := Lib.hid (fun f => no_readI p f _ (h.keeps hk))
  have HK := Lib.hid hk
  clear h hk
  have hmf : ∀ (fn : Fn) (first cap : Array Value) (w : World), (Instr.makeFunc fn first cap).run Try.prog w = .ok (.func fn first cap) w := fun _ _ _ _ => rfl
  go_enter Try.func36, Try.ntmps36
  go_wp2_with (go_at_call 61; refine (HS.out _).mono ?_; rintro e w' ⟨rfl, rfl⟩)
  go_ret
  exact ⟨rfl, HK.out⟩
set_option maxRecDepth 100000 in
theorem no_rBlob (p : Value) (a : Int) (w : World) (h : NoR w p) : Calls Try.prog 37 #[p, .int .i64 a] w fun e w' => e = .returned (.slice none 0 0) ∧ Keeps Nob w w' := by
  have hk : Keeps Nob w (w.alloc (.cells #[.int .i64 a] 3)) := (Keeps.refl _ _).alloc _
  have HS := Lib.hid (fun f => no_readB p f _ (h.keeps hk))
  have HK := Lib.hid hk
  clear h hk
  have hmf : ∀ (fn : Fn) (first cap : Array Value) (w : World), (Instr.makeFunc fn first cap).run Try.prog w = .ok (.func fn first cap) w := fun _ _ _ _ => rfl
  go_enter Try.func37, Try.ntmps37
  go_wp2_with (go_at_call 63; refine (HS.out _).mono ?_; rintro e w' ⟨rfl, rfl⟩)
  go_ret
  exact ⟨rfl, HK.out⟩
set_option maxRecDepth 100000 in
theorem no_rHash (p : Value) (w : World) (h : NoR w p) : Calls Try.prog 41 #[p] w fun e w' => e = .returned (.agg hashZ) ∧ Keeps Nob w w' := by
  have H := Lib.hid h
  have hzi : (Try.prog.info? 44).map (·.size) = some hashZ.size := hash_info
  have hz1 : hashZ.all (·.oneCell') = true := B_oneA _
  have HZI := Lib.hid hzi
  have HZ1 := Lib.hid hz1
  clear h hzi hz1
  go_enter Try.func41, Try.ntmps41
  go_wp2_with (refine own_alloc rfl 44 rfl (hash_zero2 _) ?_)
  have k0 : Keeps Nob w (w.alloc (.cells hashZ 44)) := (Keeps.refl _ _).alloc _
  have z4 : (w.alloc (.cells hashZ 44)).heap[w.heap.size]? = some (.cells hashZ 44 (0, 0)) := heap_alloc_new w _
  generalize w.alloc (.cells hashZ 44) = W0 at *
  refine (no_readH p _ W0 (H.out.keeps k0)).mono ?_
  rintro e w' ⟨rfl, hk⟩
  have Y4 := Lib.hid ((hk.block _ (lt_of_block z4) (fun x => x)).trans z4)
  have HK := Lib.hid (k0.trans hk)
  clear z4 hk k0
  go_wp2_with (refine wpList_store_row rfl 44 _ _ rfl w.heap.size hashZ rfl rfl 44 hashZ Y4.out HZI.out rfl HZ1.out ?_)
  exact bodyPost_ret (v := .agg hashZ) (results_cell_row rfl _ _ w.heap.size 44 hashZ (0, 0) _ rfl (setRow_heap _ _ _ _ _ _ Y4.out) Try.underlying44 rfl HZI.out) rfl ⟨rfl, HK.out.setRow (g := w.heap.size) (fun x => absurd x (by omega)) hashZ⟩
end Go.Proofs.Ytbdjphaiohinnaa
