/-
  Codec: what a reader reads: numbers, blobs. Conditions: none.
-/
import Derived.Test.YtenaakldccjnbaaCodK
namespace Go.Proofs.Ytenaakldccjnbaa
open Go Go.RowKit Go.Own Go.Shelf

/-- The number that stands at a reader's place. -/
def RS.num (s : RS) (l : List UInt8) : Nat × Nat × Int := Cod.num (l.drop s.pos.toNat)
theorem RS.num_le (s : RS) (l : List UInt8) (h0 : 0 ≤ s.pos) (hl : s.pos ≤ l.length) (he : (s.num l).2.2 = 0) : s.pos + (s.num l).2.1 ≤ l.length := by
  have := (Cod.num_ok _ he).2.2.1
  rw [List.length_drop] at this
  unfold RS.num
  omega
theorem RdAt.pos {w : World} {b : Nat} {v fp : Value} {l : List UInt8} {s : RS} (h : RdAt w b v fp l s) (h0 : s.err = 0) : 0 ≤ s.pos ∧ s.pos ≤ l.length := by
  obtain ⟨at_, hb, hl, hf⟩ := h.ex
  rcases hf with ⟨_, hp, _⟩ | ⟨h1, _⟩
  · omega
  · exact absurd h0 h1
/-- U: what is told, and the state behind. -/
def rdU (l : List UInt8) (s : RS) : Int × RS := (if s.err = 0 ∧ (s.num l).2.2 = 0 then ((s.num l).1 : Int) else 0, s.read (s.num l).2.1 (s.num l).2.2)

set_option maxRecDepth 100000 in
set_option maxHeartbeats 1000000 in
theorem rU_ok (b : Nat) (v fp : Value) (l : List UInt8) (s : RS) (w : World) (h : RdAt w b v fp l s) :
    Calls Try.prog 47 #[.pointer (some ⟨b, 0, none⟩)] w fun e w' => e = .returned (.int .u64 (rdU l s).1) ∧ (∃ fp', RdAt w' b v fp' l (rdU l s).2 ∧ NewPtr w fp fp') ∧ Keeps (One b) w w' := by
  have HC := Lib.hid (readU_core 73 #[] (enters_of Try.func73 (by kernel_rfl) rfl) b v fp l s w h (s.num l).2.1 (s.num l).2.2 (fun _ X => X = .int .u64 ((s.num l).1 : Int))
    (fun h0 W A cap hv hW => by
      subst hv
      refine (number_ok _ _ W ((h.bytes.drop s.pos.toNat (by have := h.pos h0; omega) _ _ _ rfl).keepsN hW)).mono ?_
      rintro e W' ⟨rfl, rfl⟩
      exact ⟨_, rfl, rfl, Keeps.refl _ _⟩)
    (fun _ _ _ h _ => h) (fun h0 he => s.num_le l (h.pos h0).1 (h.pos h0).2 he))
  clear h
  go_enter Try.func47, Try.ntmps47
  go_wp2_with (go_at_call 76; refine HC.out.mono ?_; rintro e w' ⟨V, rfl, h1, h2, h3⟩; have H1 := Lib.hid h1; have H2 := Lib.hid h2; clear h1 h2)
  go_ret
  unfold rdU
  refine ⟨?_, H2.out, h3⟩
  rcases H1.out with ⟨a, b, rfl⟩ | ⟨a, rfl⟩
  · rw [if_pos ⟨a, b⟩]; rfl
  · rw [if_neg a]; rfl

/-- Is a number out of bounds? -/
def outN (n : Nat) (least most : Int) : Prop := most < 0 ∨ most < (n : Int) ∨ (0 < least ∧ (n : Int) < least)
instance (n : Nat) (least most : Int) : Decidable (outN n least most) := by unfold outN; infer_instance
def errN (r : Nat × Nat × Int) (least most : Int) : Int := if r.2.2 = 0 ∧ outN r.1 least most then 3 else r.2.2

set_option maxRecDepth 100000 in
set_option maxHeartbeats 4000000 in
theorem rN1_ok (v : Value) (l : List UInt8) (least most : Int) (b1 b2 : Nat) (w : World) (hv : BytesAt w v l) (h1 : w.cell? ⟨b1, 0, none⟩ = some (.int .i64 most)) (h2 : w.cell? ⟨b2, 0, none⟩ = some (.int .i64 least))
   (m1 : -9223372036854775808 ≤ most ∧ most ≤ 9223372036854775807) (m2 : -9223372036854775808 ≤ least ∧ least ≤ 9223372036854775807) :
    Calls Try.prog 72 #[v, .pointer (some ⟨b1, 0, none⟩), .pointer (some ⟨b2, 0, none⟩)] w fun e w' => e = .returned (.tuple #[.int .i64 (wrap64 ((Cod.num l).1 : Int)), .int .i64 ((Cod.num l).2.1 : Int), .int .i64 (errN (Cod.num l) least most)]) ∧ w = w' := by
  have HN := Lib.hid (number_ok v l w hv)
  have hn64 : (Cod.num l).2.2 = 0 → (Cod.num l).1 < 18446744073709551616 := fun h => by have := (Cod.num_ok l h).1; simpa using this
  clear hv
  obtain ⟨er, her⟩ : ∃ er, errN (Cod.num l) least most = er := ⟨_, rfl⟩
  rw [her]
  unfold errN outN at her
  generalize Cod.num l = r at *
  obtain ⟨n, k, e⟩ := r
  simp only at her hn64 HN ⊢
  obtain ⟨m1a, m1b⟩ := m1
  obtain ⟨m2a, m2b⟩ := m2
  by_cases he : e = 0
  · subst he
    have hn := hn64 rfl
    clear hn64
    by_cases a1 : most < 0
    · obtain rfl : er = 3 := by rw [← her, if_pos ⟨rfl, .inl a1⟩]
      clear her
      go_enter Try.func72, Try.ntmps72
      go_wp2_with (go_at_call 73; refine HN.out.mono ?_; rintro e w' ⟨rfl, rfl⟩)
      go_ret3
      exact ⟨rfl, rfl⟩
    · have d1 : decide (most < 0) = false := by simpa using a1
      have w1 : IntKind.u64.wrap most = most := by simp [IntKind.wrap, IntKind.bits, IntKind.signed]; omega
      by_cases a2 : most < (n : Int)
      · obtain rfl : er = 3 := by rw [← her, if_pos ⟨rfl, .inr (.inl a2)⟩]
        clear her
        have d2 : decide (most < (n : Int)) = true := by simpa using a2
        go_enter Try.func72, Try.ntmps72
        go_wp2_with (go_at_call 73; refine HN.out.mono ?_; rintro e w' ⟨rfl, rfl⟩)
        go_ret3
        exact ⟨rfl, rfl⟩
      · have d2 : decide (most < (n : Int)) = false := by simpa using a2
        rw [IntWalk.wrap64_in (n : Int) ⟨by omega, by omega⟩]
        by_cases a3 : 0 < least
        · have d3 : decide (0 < least) = true := by simpa using a3
          have w2 : IntKind.u64.wrap least = least := by simp [IntKind.wrap, IntKind.bits, IntKind.signed]; omega
          by_cases a4 : (n : Int) < least
          · obtain rfl : er = 3 := by rw [← her, if_pos ⟨rfl, .inr (.inr ⟨a3, a4⟩)⟩]
            clear her
            have d4 : decide ((n : Int) < least) = true := by simpa using a4
            go_enter Try.func72, Try.ntmps72
            go_wp2_with (go_at_call 73; refine HN.out.mono ?_; rintro e w' ⟨rfl, rfl⟩)
            go_ret3
            exact ⟨rfl, rfl⟩
          · obtain rfl : er = 0 := by rw [← her, if_neg (by omega)]
            clear her
            have d4 : decide ((n : Int) < least) = false := by simpa using a4
            go_enter Try.func72, Try.ntmps72
            go_wp2_with (go_at_call 73; refine HN.out.mono ?_; rintro e w' ⟨rfl, rfl⟩)
            go_ret3
            exact ⟨rfl, rfl⟩
        · obtain rfl : er = 0 := by rw [← her, if_neg (by omega)]
          clear her
          have d3 : decide (0 < least) = false := by simpa using a3
          go_enter Try.func72, Try.ntmps72
          go_wp2_with (go_at_call 73; refine HN.out.mono ?_; rintro e w' ⟨rfl, rfl⟩)
          go_ret3
          exact ⟨rfl, rfl⟩
  · obtain rfl : er = e := by rw [← her, if_neg (fun h => he h.1)]
    have hb : (er == 0) = false := by simpa using he
    clear her hn64
    go_enter Try.func72, Try.ntmps72
    go_wp2_with (go_at_call 73; refine HN.out.mono ?_; rintro e w' ⟨rfl, rfl⟩)
    go_ret3
    exact ⟨rfl, rfl⟩

/-- N: what is told, and the state behind. -/
def rdN (l : List UInt8) (s : RS) (least most : Int) : Int × RS := (if s.err = 0 ∧ errN (s.num l) least most = 0 then ((s.num l).1 : Int) else 0, s.read (s.num l).2.1 (errN (s.num l) least most))
theorem errN_zero {r : Nat × Nat × Int} {least most : Int} (h : errN r least most = 0) : r.2.2 = 0 ∧ 0 ≤ most ∧ (r.1 : Int) ≤ most ∧ (0 < least → least ≤ r.1) := by
  unfold errN outN at h
  split at h
  · omega
  · rename_i h1
    refine ⟨h, ?_⟩
    have h2 := fun x => h1 ⟨h, x⟩
    omega

set_option maxRecDepth 100000 in
set_option maxHeartbeats 1000000 in
theorem rN_ok (b : Nat) (v fp : Value) (l : List UInt8) (s : RS) (least most : Int) (w : World) (h : RdAt w b v fp l s)
   (m2 : -9223372036854775808 ≤ least ∧ least ≤ 9223372036854775807) (m1 : -9223372036854775808 ≤ most ∧ most ≤ 9223372036854775807) :
    Calls Try.prog 45 #[.pointer (some ⟨b, 0, none⟩), .int .i64 least, .int .i64 most] w fun e w' => e = .returned (.int .i64 (rdN l s least most).1) ∧ (∃ fp', RdAt w' b v fp' l (rdN l s least most).2 ∧ NewPtr w fp fp') ∧ Keeps (One b) w w' := by
  have hkA : Keeps Nob w ((w.alloc (.cells #[.int .i64 least] 3)).alloc (.cells #[.int .i64 most] 3)) := ((Keeps.refl _ _).alloc _).alloc _
  have c1 : ((w.alloc (.cells #[.int .i64 least] 3)).alloc (.cells #[.int .i64 most] 3)).cell? ⟨w.heap.size + 1, 0, none⟩ = some (.int .i64 most) := (World.cell?_alloc_at _ _ _ _ (by simp)).trans rfl
  have c2 : ((w.alloc (.cells #[.int .i64 least] 3)).alloc (.cells #[.int .i64 most] 3)).cell? ⟨w.heap.size, 0, none⟩ = some (.int .i64 least) := (World.cell?_alloc_lt _ _ _ (by simp)).trans ((World.cell?_alloc_at _ _ _ _ rfl).trans rfl)
  have hb1 : w.heap.size + 1 < ((w.alloc (.cells #[.int .i64 least] 3)).alloc (.cells #[.int .i64 most] 3)).heap.size := by simp
  have hA := h.keeps hkA (fun _ _ x => x)
  have HC := Lib.hid (readI_core 72 #[.pointer (some ⟨w.heap.size + 1, 0, none⟩), .pointer (some ⟨w.heap.size, 0, none⟩)] (enters_of Try.func72 (by kernel_rfl) rfl) b v fp l s _ hA (s.num l).2.1 (errN (s.num l) least most) (fun _ X => X = .int .i64 (wrap64 ((s.num l).1 : Int)))
    (fun h0 W A cap hv hW => by
      subst hv
      refine (rN1_ok _ _ least most _ _ W ((hA.bytes.drop s.pos.toNat (by have := hA.pos h0; omega) _ _ _ rfl).keepsN hW) ((hW.cell hb1 (fun x => x)).trans c1) ((hW.cell (by omega) (fun x => x)).trans c2) m1 m2).mono ?_
      rintro e W' ⟨rfl, rfl⟩
      exact ⟨_, rfl, rfl, Keeps.refl _ _⟩)
    (fun _ _ _ h _ => h) (fun h0 he => s.num_le l (h.pos h0).1 (h.pos h0).2 (errN_zero he).1))
  have HKA := Lib.hid hkA
  clear h hA c1 c2 hb1 hkA
  have hmf : ∀ (fn : Fn) (first cap : Array Value) (w : World), (Instr.makeFunc fn first cap).run Try.prog w = .ok (.func fn first cap) w := fun _ _ _ _ => rfl
  obtain ⟨m1a, m1b⟩ := m1
  go_enter Try.func45, Try.ntmps45
  go_wp2_with (go_at_call 71; refine HC.out.mono ?_; rintro e w' ⟨V, rfl, h1, h2, h3⟩; have H1 := Lib.hid h1; have H2 := Lib.hid h2; clear h1 h2)
  go_ret
  obtain ⟨fp', h2, h3'⟩ := H2.out
  refine ⟨?_, ⟨fp', h2, ?_⟩, (HKA.out.mono (fun _ _ x => x.elim)).trans h3⟩
  · unfold rdN
    rcases H1.out with ⟨a, b, rfl⟩ | ⟨a, rfl⟩
    · have hz := errN_zero b
      rw [if_pos ⟨a, b⟩, IntWalk.wrap64_in ((s.num l).1 : Int) ⟨by omega, by omega⟩]; rfl
    · rw [if_neg a]; rfl
  · rcases h3' with h | ⟨g, h, hg⟩
    · exact .inl h
    · exact .inr ⟨g, h, Nat.le_trans HKA.out.size hg⟩
end Go.Proofs.Ytenaakldccjnbaa
