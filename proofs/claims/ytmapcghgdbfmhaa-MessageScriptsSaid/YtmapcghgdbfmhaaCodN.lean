/-
  Codec: what a reader reads: numbers, blobs. Conditions: none.
  Codec: what a reader reads: blobs. Conditions: none.
  Codec: a hash is told of the bytes that are left (32 cells, never opened). Conditions: none.
-/
import Derived.Test.YtmapcghgdbfmhaaCodK
import Derived.Deep.MidRow
namespace Go.Proofs.Ytmapcghgdbfmhaa
open Go Go.RowKit Go.Own Go.Shelf

/-- The number that stands at a reader's place. -/
def RS.num (s : RS) (l : List UInt8) : Nat × Nat × Int := Cod.num (l.drop s.pos.toNat)
theorem RS.num_le (s : RS) (l : List UInt8) (h0 : 0 ≤ s.pos) (hl : s.pos ≤ l.length) (he : (s.num l).2.2 = 0) : s.pos + (s.num l).2.1 ≤ l.length := by
  have := (Cod.num_ok _ he).2.2.1
  rw [List.length_drop] at this
  unfold RS.num
  omega
theorem RdAt.pos {w : World} {b : Nat} {v fp : Value} {l : List UInt8} {s : RS} (h : RdAt w b v fp l s) (h0 : s.err = 0) : 0 ≤ s.pos ∧ s.pos ≤ l.length := by
  obtain ⟨at_, hb, hl, hf⟩ := h.ex
  rcases hf with ⟨_, hp, _⟩ | ⟨h1, _⟩
  · omega
  · exact absurd h0 h1
/-- U: what is told, and the state behind. -/
def rdU (l : List UInt8) (s : RS) : Int × RS := (if s.err = 0 ∧ (s.num l).2.2 = 0 then ((s.num l).1 : Int) else 0, s.read (s.num l).2.1 (s.num l).2.2)

set_option maxRecDepth 100000 in
set_option maxHeartbeats 1000000 in
theorem rU_ok (b : Nat) (v fp : Value) (l : List UInt8) (s : RS) (w : World) (h : RdAt w b v fp l s) :
    Calls Try.prog 138 #[.pointer (some ⟨b, 0, none⟩)] w fun e w' => e = .returned (.int .u64 (rdU l s).1) ∧ (∃ fp', RdAt w' b v fp' l (rdU l s).2 ∧ NewPtr w fp fp') ∧ Keeps (One b) w w' := by
  have HC := Lib.hid (readU_core 63 #[] (enters_of Try.func63 (by kernel_rfl) rfl) b v fp l s w h (s.num l).2.1 (s.num l).2.2 (fun _ X => X = .int .u64 ((s.num l).1 : Int))
    (fun h0 W A cap hv hW => by
      subst hv
      refine (number_ok _ _ W ((h.bytes.drop s.pos.toNat (by have := h.pos h0; omega) _ _ _ rfl).keepsN hW)).mono ?_
      rintro e W' ⟨rfl, rfl⟩
      exact ⟨_, rfl, rfl, Keeps.refl _ _⟩)
    (fun _ _ _ h _ => h) (fun h0 he => s.num_le l (h.pos h0).1 (h.pos h0).2 he))
  clear h
  go_enter Try.func138, Try.ntmps138
  go_wp2_with (go_at_call 140; refine HC.out.mono ?_; rintro e w' ⟨V, rfl, h1, h2, h3⟩; have H1 := Lib.hid h1; have H2 := Lib.hid h2; clear h1 h2)
  go_ret
  unfold rdU
  refine ⟨?_, H2.out, h3⟩
  rcases H1.out with ⟨a, b, rfl⟩ | ⟨a, rfl⟩
  · rw [if_pos ⟨a, b⟩]; rfl
  · rw [if_neg a]; rfl

/-- Is a number out of bounds? -/
def outN (n : Nat) (least most : Int) : Prop := most < 0 ∨ most < (n : Int) ∨ (0 < least ∧ (n : Int) < least)
instance (n : Nat) (least most : Int) : Decidable (outN n least most) := by unfold outN; infer_instance
def errN (r : Nat × Nat × Int) (least most : Int) : Int := if r.2.2 = 0 ∧ outN r.1 least most then 3 else r.2.2

set_option maxRecDepth 100000 in
set_option maxHeartbeats 4000000 in
theorem rN1_ok (v : Value) (l : List UInt8) (least most : Int) (b1 b2 : Nat) (w : World) (hv : BytesAt w v l) (h1 : w.cell? ⟨b1, 0, none⟩ = some (.int .i64 most)) (h2 : w.cell? ⟨b2, 0, none⟩ = some (.int .i64 least))
   (m1 : -9223372036854775808 ≤ most ∧ most ≤ 9223372036854775807) (m2 : -9223372036854775808 ≤ least ∧ least ≤ 9223372036854775807) :
    Calls Try.prog 62 #[v, .pointer (some ⟨b1, 0, none⟩), .pointer (some ⟨b2, 0, none⟩)] w fun e w' => e = .returned (.tuple #[.int .i64 (wrap64 ((Cod.num l).1 : Int)), .int .i64 ((Cod.num l).2.1 : Int), .int .i64 (errN (Cod.num l) least most)]) ∧ w = w' := by
  have HN := Lib.hid (number_ok v l w hv)
  have hn64 : (Cod.num l).2.2 = 0 → (Cod.num l).1 < 18446744073709551616 := fun h => by have := (Cod.num_ok l h).1; simpa using this
  clear hv
  obtain ⟨er, her⟩ : ∃ er, errN (Cod.num l) least most = er := ⟨_, rfl⟩
  rw [her]
  unfold errN outN at her
  generalize Cod.num l = r at *
  obtain ⟨n, k, e⟩ := r
  simp only at her hn64 HN ⊢
  obtain ⟨m1a, m1b⟩ := m1
  obtain ⟨m2a, m2b⟩ := m2
  by_cases he : e = 0
  · subst he
    have hn := hn64 rfl
    clear hn64
    by_cases a1 : most < 0
    · obtain rfl : er = 3 := by rw [← her, if_pos ⟨rfl, .inl a1⟩]
      clear her
      go_enter Try.func62, Try.ntmps62
      go_wp2_with (go_at_call 63; refine HN.out.mono ?_; rintro e w' ⟨rfl, rfl⟩)
      go_ret3
      exact ⟨rfl, rfl⟩
    · have d1 : decide (most < 0) = false := by simpa using a1
      have w1 : IntKind.u64.wrap most = most := by simp [IntKind.wrap, IntKind.bits, IntKind.signed]; omega
      by_cases a2 : most < (n : Int)
      · obtain rfl : er = 3 := by rw [← her, if_pos ⟨rfl, .inr (.inl a2)⟩]
        clear her
        have d2 : decide (most < (n : Int)) = true := by simpa using a2
        go_enter Try.func62, Try.ntmps62
        go_wp2_with (go_at_call 63; refine HN.out.mono ?_; rintro e w' ⟨rfl, rfl⟩)
        go_ret3
        exact ⟨rfl, rfl⟩
      · have d2 : decide (most < (n : Int)) = false := by simpa using a2
        rw [IntWalk.wrap64_in (n : Int) ⟨by omega, by omega⟩]
        by_cases a3 : 0 < least
        · have d3 : decide (0 < least) = true := by simpa using a3
          have w2 : IntKind.u64.wrap least = least := by simp [IntKind.wrap, IntKind.bits, IntKind.signed]; omega
          by_cases a4 : (n : Int) < least
          · obtain rfl : er = 3 := by rw [← her, if_pos ⟨rfl, .inr (.inr ⟨a3, a4⟩)⟩]
            clear her
            have d4 : decide ((n : Int) < least) = true := by simpa using a4
            go_enter Try.func62, Try.ntmps62
            go_wp2_with (go_at_call 63; refine HN.out.mono ?_; rintro e w' ⟨rfl, rfl⟩)
            go_ret3
            exact ⟨rfl, rfl⟩
          · obtain rfl : er = 0 := by rw [← her, if_neg (by omega)]
            clear her
            have d4 : decide ((n : Int) < least) = false := by simpa using a4
            go_enter Try.func62, Try.ntmps62
            go_wp2_with (go_at_call 63; refine HN.out.mono ?_; rintro e w' ⟨rfl, rfl⟩)
            go_ret3
            exact ⟨rfl, rfl⟩
        · obtain rfl : er = 0 := by rw [← her, if_neg (by omega)]
          clear her
          have d3 : decide (0 < least) = false := by simpa using a3
          go_enter Try.func62, Try.ntmps62
          go_wp2_with (go_at_call 63; refine HN.out.mono ?_; rintro e w' ⟨rfl, rfl⟩)
          go_ret3
          exact ⟨rfl, rfl⟩
  · obtain rfl : er = e := by rw [← her, if_neg (fun h => he h.1)]
    have hb : (er == 0) = false := by simpa using he
    clear her hn64
    go_enter Try.func62, Try.ntmps62
    go_wp2_with (go_at_call 63; refine HN.out.mono ?_; rintro e w' ⟨rfl, rfl⟩)
    go_ret3
    exact ⟨rfl, rfl⟩

/-- N: what is told, and the state behind. -/
def rdN (l : List UInt8) (s : RS) (least most : Int) : Int × RS := (if s.err = 0 ∧ errN (s.num l) least most = 0 then ((s.num l).1 : Int) else 0, s.read (s.num l).2.1 (errN (s.num l) least most))
theorem errN_zero {r : Nat × Nat × Int} {least most : Int} (h : errN r least most = 0) : r.2.2 = 0 ∧ 0 ≤ most ∧ (r.1 : Int) ≤ most ∧ (0 < least → least ≤ r.1) := by
  unfold errN outN at h
  split at h
  · omega
  · rename_i h1
    refine ⟨h, ?_⟩
    have h2 := fun x => h1 ⟨h, x⟩
    omega

set_option maxRecDepth 100000 in
set_option maxHeartbeats 1000000 in
theorem rN_ok (b : Nat) (v fp : Value) (l : List UInt8) (s : RS) (least most : Int) (w : World) (h : RdAt w b v fp l s)
   (m2 : -9223372036854775808 ≤ least ∧ least ≤ 9223372036854775807) (m1 : -9223372036854775808 ≤ most ∧ most ≤ 9223372036854775807) :
    Calls Try.prog 39 #[.pointer (some ⟨b, 0, none⟩), .int .i64 least, .int .i64 most] w fun e w' => e = .returned (.int .i64 (rdN l s least most).1) ∧ (∃ fp', RdAt w' b v fp' l (rdN l s least most).2 ∧ NewPtr w fp fp') ∧ Keeps (One b) w w' := by
  have hkA : Keeps Nob w ((w.alloc (.cells #[.int .i64 least] 3)).alloc (.cells #[.int .i64 most] 3)) := ((Keeps.refl _ _).alloc _).alloc _
  have c1 : ((w.alloc (.cells #[.int .i64 least] 3)).alloc (.cells #[.int .i64 most] 3)).cell? ⟨w.heap.size + 1, 0, none⟩ = some (.int .i64 most) := (World.cell?_alloc_at _ _ _ _ (by simp)).trans rfl
  have c2 : ((w.alloc (.cells #[.int .i64 least] 3)).alloc (.cells #[.int .i64 most] 3)).cell? ⟨w.heap.size, 0, none⟩ = some (.int .i64 least) := (World.cell?_alloc_lt _ _ _ (by simp)).trans ((World.cell?_alloc_at _ _ _ _ rfl).trans rfl)
  have hb1 : w.heap.size + 1 < ((w.alloc (.cells #[.int .i64 least] 3)).alloc (.cells #[.int .i64 most] 3)).heap.size := by simp
  have hA := h.keeps hkA (fun _ _ x => x)
  have HC := Lib.hid (readI_core 62 #[.pointer (some ⟨w.heap.size + 1, 0, none⟩), .pointer (some ⟨w.heap.size, 0, none⟩)] (enters_of Try.func62 (by kernel_rfl) rfl) b v fp l s _ hA (s.num l).2.1 (errN (s.num l) least most) (fun _ X => X = .int .i64 (wrap64 ((s.num l).1 : Int)))
    (fun h0 W A cap hv hW => by
      subst hv
      refine (rN1_ok _ _ least most _ _ W ((hA.bytes.drop s.pos.toNat (by have := hA.pos h0; omega) _ _ _ rfl).keepsN hW) ((hW.cell hb1 (fun x => x)).trans c1) ((hW.cell (by omega) (fun x => x)).trans c2) m1 m2).mono ?_
      rintro e W' ⟨rfl, rfl⟩
      exact ⟨_, rfl, rfl, Keeps.refl _ _⟩)
    (fun _ _ _ h _ => h) (fun h0 he => s.num_le l (h.pos h0).1 (h.pos h0).2 (errN_zero he).1))
  have HKA := Lib.hid hkA
  clear h hA c1 c2 hb1 hkA
  have hmf : ∀ (fn : Fn) (first cap : Array Value) (w : World), (Instr.makeFunc fn first cap).run Try.prog w = .ok (.func fn first cap) w := fun _ _ _ _ => rfl
  obtain ⟨m1a, m1b⟩ := m1
  go_enter Try.func39, Try.ntmps39
  go_wp2_with (go_at_call 61; refine HC.out.mono ?_; rintro e w' ⟨V, rfl, h1, h2, h3⟩; have H1 := Lib.hid h1; have H2 := Lib.hid h2; clear h1 h2)
  go_ret
  obtain ⟨fp', h2, h3'⟩ := H2.out
  refine ⟨?_, ⟨fp', h2, ?_⟩, (HKA.out.mono (fun _ _ x => x.elim)).trans h3⟩
  · unfold rdN
    rcases H1.out with ⟨a, b, rfl⟩ | ⟨a, rfl⟩
    · have hz := errN_zero b
      rw [if_pos ⟨a, b⟩, IntWalk.wrap64_in ((s.num l).1 : Int) ⟨by omega, by omega⟩]; rfl
    · rw [if_neg a]; rfl
  · rcases h3' with h | ⟨g, h, hg⟩
    · exact .inl h
    · exact .inr ⟨g, h, Nat.le_trans HKA.out.size hg⟩
end Go.Proofs.Ytmapcghgdbfmhaa
namespace Go.Proofs.Ytmapcghgdbfmhaa
open Go Go.RowKit Go.Own Go.Shelf

/-- Why a blob is none; its length with its number; its bytes. -/
def errB (r : Nat × Nat × Int) (rest : List UInt8) (most : Int) : Int :=
  if r.2.2 = 0 then (if most < 0 ∨ most < (r.1 : Int) then 4 else if (rest.length : Int) - r.2.1 < r.1 then 6 else 0) else r.2.2
def lenB (r : Nat × Nat × Int) (rest : List UInt8) (most : Int) : Nat := if errB r rest most = 0 then r.2.1 + r.1 else 0
def bytesB (r : Nat × Nat × Int) (rest : List UInt8) : List UInt8 := (rest.drop r.2.1).take r.1
theorem errB_zero {r : Nat × Nat × Int} {rest : List UInt8} {most : Int} (h : errB r rest most = 0) : r.2.2 = 0 ∧ 0 ≤ most ∧ (r.1 : Int) ≤ most ∧ (r.2.1 : Int) + r.1 ≤ rest.length := by
  unfold errB at h
  split at h
  · rename_i h0
    split at h
    · omega
    · split at h <;> omega
  · rename_i h0; exact absurd h h0

/-- 's[k:h]'. -/
theorem run_cut2 {t : TypeId} (ht : Try.prog.underlying t = some (.slice (Try.prog.elem t))) (hz : ∀ w, (Go.sizeOf (Try.prog.elem t)).run Try.prog w = .ok 1 w) (A : Option Addr) (n cap k m : Nat) (hk : k ≤ m) (hm : m ≤ cap) (W : World) :
    (Instr.sliceAt t (.slice A n cap) (some (.int .i64 (k : Int))) (some (.int .i64 (m : Int))) none).run Try.prog W = .ok (.slice (if cap = k then A else A.map (·.add k)) (m - k) (cap - k)) W := by
  rw [run_sliceAt_slice W t _ _ _ _ ht, run_slice_lh W t _ _ _ ht _ _ _ _ (by omega) (by omega) (by omega), hz]
  simp [Result.andThen, sliced]

set_option maxRecDepth 100000 in
set_option maxHeartbeats 4000000 in
theorem rB1_ok (v : Value) (l : List UInt8) (most : Int) (b1 : Nat) (w : World) (hv : BytesAt w v l) (h1 : w.cell? ⟨b1, 0, none⟩ = some (.int .i64 most))
   (m1 : -9223372036854775808 ≤ most ∧ most ≤ 9223372036854775807) (hll : l.length ≤ 100000000) :
    Calls Try.prog 85 #[v, .pointer (some ⟨b1, 0, none⟩)] w fun e w' => ∃ X, e = .returned (.tuple #[X, .int .i64 (lenB (Cod.num l) l most : Int), .int .i64 (errB (Cod.num l) l most)]) ∧
      (errB (Cod.num l) l most = 0 → Row w' 5 1 X (bytesB (Cod.num l) l).length (B (bytesB (Cod.num l) l)) ∧ (∀ j, X.ownBlock = some j → w.heap.size ≤ j)) ∧ Keeps Nob w w' := by
  have HN := Lib.hid (number_ok v l w hv)
  have hok := fun h => Cod.num_ok l h
  obtain ⟨A, cap, rfl, hlc, hcm, _⟩ := hv.form
  have HV := Lib.hid hv
  clear hv
  unfold maxLen at hcm
  obtain ⟨er, her⟩ : ∃ er, errB (Cod.num l) l most = er := ⟨_, rfl⟩
  obtain ⟨kk, hkk⟩ : ∃ kk, lenB (Cod.num l) l most = kk := ⟨_, rfl⟩
  obtain ⟨bs, hbs⟩ : ∃ bs, bytesB (Cod.num l) l = bs := ⟨_, rfl⟩
  rw [her, hkk, hbs]
  have hz := fun h => errB_zero (r := Cod.num l) (rest := l) (most := most) h
  unfold lenB at hkk
  rw [her] at hkk hz
  unfold errB at her
  unfold bytesB at hbs
  generalize Cod.num l = r at *
  obtain ⟨n, k, e⟩ := r
  simp only at her hok HN hkk hbs hz ⊢
  obtain ⟨m1a, m1b⟩ := m1
  have HBS := Lib.hid hbs
  clear hbs
  by_cases he : e = 0
  · subst he
    obtain ⟨hn, hk0, hkl, hk10, _⟩ := hok rfl
    have hn : n < 18446744073709551616 := by simpa using hn
    clear hok
    rw [if_pos rfl] at her
    by_cases a1 : most < 0
    · obtain rfl : er = 4 := by rw [← her, if_pos (.inl a1)]
      obtain rfl : kk = 0 := by rw [← hkk, if_neg (by decide)]
      clear her hz hkk
      go_enter Try.func85, Try.ntmps85
      go_wp2_with (go_at_call 63; refine HN.out.mono ?_; rintro e w' ⟨rfl, rfl⟩)
      go_ret3
      exact ⟨_, rfl, (fun h => by simp at h), Keeps.refl _ _⟩
    · have d1 : decide (most < 0) = false := by simpa using a1
      have w1 : IntKind.u64.wrap most = most := by simp [IntKind.wrap, IntKind.bits, IntKind.signed]; omega
      by_cases a2 : most < (n : Int)
      · obtain rfl : er = 4 := by rw [← her, if_pos (.inr a2)]
        obtain rfl : kk = 0 := by rw [← hkk, if_neg (by decide)]
        have d2 : decide (most < (n : Int)) = true := by simpa using a2
        clear her hz hkk
        go_enter Try.func85, Try.ntmps85
        go_wp2_with (go_at_call 63; refine HN.out.mono ?_; rintro e w' ⟨rfl, rfl⟩)
        go_ret3
        exact ⟨_, rfl, (fun h => by simp at h), Keeps.refl _ _⟩
      · have d2 : decide (most < (n : Int)) = false := by simpa using a2
        rw [if_neg (by omega)] at her
        by_cases a3 : (l.length : Int) - k < n
        · obtain rfl : er = 6 := by rw [← her, if_pos a3]
          obtain rfl : kk = 0 := by rw [← hkk, if_neg (by decide)]
          have d3 : decide ((l.length : Int) - k < n) = true := by simpa using a3
          have w3 : IntKind.u64.wrap ((l.length : Int) - k) = (l.length : Int) - k := by simp [IntKind.wrap, IntKind.bits, IntKind.signed]; omega
          clear her hz hkk
          go_enter Try.func85, Try.ntmps85
          go_wp2_with (go_at_call 63; refine HN.out.mono ?_; rintro e w' ⟨rfl, rfl⟩)
          go_ret3
          exact ⟨_, rfl, (fun h => by simp at h), Keeps.refl _ _⟩
        · obtain rfl : er = 0 := by rw [← her, if_neg a3]
          obtain rfl : kk = k + n := by rw [← hkk, if_pos rfl]
          have d3 : decide ((l.length : Int) - k < n) = false := by simpa using a3
          have w3 : IntKind.u64.wrap ((l.length : Int) - k) = (l.length : Int) - k := by simp [IntKind.wrap, IntKind.bits, IntKind.signed]; omega
          have hkn : k + n ≤ l.length := by omega
          have hcut := run_cut2 (t := 22) rfl bytes_size A l.length cap k (k + n) (by omega) (by omega)
          have hcv : BytesAt w (.slice (if cap = k then A else A.map (·.add k)) (k + n - k) (cap - k)) ((l.drop k).take n) := by
            have := (HV.out.drop k (by omega) _ _ _ rfl).take n (by rw [List.length_drop]; omega) _ _ _ rfl
            simpa using this
          rw [HBS.out] at hcv
          generalize (Value.slice (if cap = k then A else A.map (·.add k)) (k + n - k) (cap - k)) = cv at *
          have HCL := Lib.hid (clone_ok cv bs w hcv (by rw [← HBS.out, List.length_take]; omega))
          rw [show (((k + n : Nat)) : Int) = (k : Int) + n by omega] at hcut
          clear her hz hkk hcv
          go_enter Try.func85, Try.ntmps85
          go_wp2_with (first
            | (go_at_call 63; refine HN.out.mono ?_; rintro e w' ⟨rfl, rfl⟩)
            | (go_at_call 60; refine HCL.out.mono ?_; rintro e w' ⟨X, rfl, h1, h2, h3⟩; have H1 := Lib.hid h1; have H2 := Lib.hid h2; clear h1 h2))
          go_ret3
          exact ⟨X, rfl, (fun _ => ⟨H1.out, H2.out⟩), h3⟩
  · rw [if_neg he] at her
    subst her
    obtain rfl : kk = 0 := by rw [← hkk, if_neg he]
    have hb : (e != 0) = true := by simpa using he
    have HE := Lib.hid he
    clear hkk hz hok he
    go_enter Try.func85, Try.ntmps85
    go_wp2_with (go_at_call 63; refine HN.out.mono ?_; rintro e w' ⟨rfl, rfl⟩)
    go_ret3
    exact ⟨_, rfl, (fun h => absurd h HE.out), Keeps.refl _ _⟩

def RS.rest (s : RS) (l : List UInt8) : List UInt8 := l.drop s.pos.toNat
/-- Blob: what is told, and the state behind. -/
def rdB (l : List UInt8) (s : RS) (most : Int) : List UInt8 × RS :=
  (if s.err = 0 ∧ errB (s.num l) (s.rest l) most = 0 then bytesB (s.num l) (s.rest l) else [], s.read (lenB (s.num l) (s.rest l) most) (errB (s.num l) (s.rest l) most))
theorem RdAt.clean {w : World} {b : Nat} {v fp : Value} {l : List UInt8} {s : RS} (h : RdAt w b v fp l s) (h0 : s.err = 0) : fp = .pointer none := by
  obtain ⟨at_, hb, hl, hf⟩ := h.ex
  rcases hf with ⟨_, hp, h1⟩ | ⟨h1, _⟩
  · exact h1
  · exact absurd h0 h1
theorem RS.read_ok {s : RS} {k : Nat} {er : Int} (h0 : s.err = 0) (he : er = 0) : (s.read k er).err = 0 := by
  unfold RS.read; rw [if_pos h0, if_pos he]

set_option maxRecDepth 100000 in
set_option maxHeartbeats 1000000 in
theorem rBlob_ok (b : Nat) (v fp : Value) (l : List UInt8) (s : RS) (most : Int) (w : World) (h : RdAt w b v fp l s) (hll : l.length ≤ 100000000)
   (m1 : -9223372036854775808 ≤ most ∧ most ≤ 9223372036854775807) :
    Calls Try.prog 58 #[.pointer (some ⟨b, 0, none⟩), .int .i64 most] w fun e w' => ∃ X, e = .returned X ∧ Row w' 5 1 X (rdB l s most).1.length (B (rdB l s most).1) ∧
      (∃ fp', RdAt w' b v fp' l (rdB l s most).2 ∧ NewPtr w fp fp' ∧ ∀ j, X.ownBlock = some j → w.heap.size ≤ j ∧ ptrBlock fp' ≠ some j) ∧ Keeps (One b) w w' := by
  have hkA : Keeps Nob w (w.alloc (.cells #[.int .i64 most] 3)) := (Keeps.refl _ _).alloc _
  have c1 : (w.alloc (.cells #[.int .i64 most] 3)).cell? ⟨w.heap.size, 0, none⟩ = some (.int .i64 most) := (World.cell?_alloc_at _ _ _ _ rfl).trans rfl
  have hb1 : w.heap.size < (w.alloc (.cells #[.int .i64 most] 3)).heap.size := by simp
  have hA := h.keeps hkA (fun _ _ x => x)
  have hlt := h.lt
  have HC := Lib.hid (readB_core 85 #[.pointer (some ⟨w.heap.size, 0, none⟩)] (enters_of Try.func85 (by kernel_rfl) rfl) b v fp l s _ hA (lenB (s.num l) (s.rest l) most) (errB (s.num l) (s.rest l) most)
    (fun W X => errB (s.num l) (s.rest l) most = 0 → Row W 5 1 X (bytesB (s.num l) (s.rest l)).length (B (bytesB (s.num l) (s.rest l))) ∧ (∀ j, X.ownBlock = some j → w.heap.size ≤ j))
    (fun h0 W A cap hv hW => by
      subst hv
      refine (rB1_ok _ _ most _ W ((hA.bytes.drop s.pos.toNat (by have := hA.pos h0; omega) _ _ _ rfl).keepsN hW) ((hW.cell hb1 (fun x => x)).trans c1) m1 (by rw [List.length_drop]; omega)).mono ?_
      rintro e W' ⟨X, rfl, hX, hk⟩
      exact ⟨X, rfl, fun he => ⟨(hX he).1, fun j hj => Nat.le_trans (Nat.le_trans hkA.size hW.size) ((hX he).2 j hj)⟩, hk⟩)
    (fun W W' X hX hk he => ⟨(hX he).1.keeps hk (fun j hj (e : j = b) => by have := (hX he).2 j hj; omega), (hX he).2⟩)
    (fun h0 he => by
      have hz := errB_zero he
      have hp := h.pos h0
      unfold lenB
      rw [if_pos he]
      have hr : (s.rest l).length = l.length - s.pos.toNat := by unfold RS.rest; rw [List.length_drop]
      rw [hr] at hz
      omega))
  have HKA := Lib.hid hkA
  clear h hA c1 hb1 hkA
  have hmf : ∀ (fn : Fn) (first cap : Array Value) (w : World), (Instr.makeFunc fn first cap).run Try.prog w = .ok (.func fn first cap) w := fun _ _ _ _ => rfl
  obtain ⟨m1a, m1b⟩ := m1
  go_enter Try.func58, Try.ntmps58
  go_wp2_with (go_at_call 84; refine HC.out.mono ?_; rintro e w' ⟨V, rfl, h1, h2, h3⟩; have H1 := Lib.hid h1; have H2 := Lib.hid h2; clear h1 h2)
  go_ret
  obtain ⟨fp', h2, h3'⟩ := H2.out
  have hnp : NewPtr w fp fp' := by
    rcases h3' with h | ⟨g, h, hg⟩
    · exact .inl h
    · exact .inr ⟨g, h, Nat.le_trans HKA.out.size hg⟩
  have hkk := (HKA.out.mono (M' := One b) (fun _ _ x => x.elim)).trans h3
  rcases H1.out with ⟨a, c, d⟩ | ⟨a, rfl⟩
  · obtain ⟨d1, d2⟩ := d c
    have e1 : (rdB l s most).1 = bytesB (s.num l) (s.rest l) := by unfold rdB; exact if_pos ⟨a, c⟩
    have hcl := h2.clean (RS.read_ok a c)
    refine ⟨V, rfl, by rw [e1]; exact d1, ⟨fp', h2, hnp, fun j hj => ⟨d2 j hj, by rw [hcl]; simp [ptrBlock]⟩⟩, hkk⟩
  · have e1 : (rdB l s most).1 = [] := by unfold rdB; exact if_neg a
    exact ⟨_, rfl, by rw [e1]; exact ⟨rfl, .inl ⟨rfl, rfl⟩⟩, ⟨fp', h2, hnp, fun j hj => by cases hj⟩, hkk⟩
end Go.Proofs.Ytmapcghgdbfmhaa
namespace Go.Proofs.Ytmapcghgdbfmhaa
open Go Go.RowKit Go.Own Go.Shelf

def hashErr (l : List UInt8) : Int := if l.length < 32 then 6 else 0
def hashLen (l : List UInt8) : Nat := if l.length < 32 then 0 else 32
def hashOf (l : List UInt8) : List UInt8 := if l.length < 32 then List.replicate 32 0 else l.take 32
theorem hashOf_length (l : List UInt8) : (hashOf l).length = 32 := by
  unfold hashOf; split
  · simp
  · rw [List.length_take]; omega
theorem hash_zero (w : World) : (zeroValue 29).run Try.prog w = .ok (.agg (B (List.replicate 32 0)).toArray) w := by kernel_rfl
theorem hash_build (w : World) : (Instr.build 29 #[]).run Try.prog w = .ok (.agg (B (List.replicate 32 0)).toArray) w := by kernel_rfl
theorem hash_info : (Try.prog.info? 29).map (·.size) = some 32 := by kernel_rfl
theorem B_oneA (l : List UInt8) : (B l).toArray.all (·.oneCell') = true := by
  simp only [List.all_toArray, List.all_eq_true]
  exact B_one l
theorem results_hash {fn : Func} {p q r : Tmp} {ty : TypeId} (h : fn.results = #[.cell p ty, .tmp q, .tmp r]) (tmps : Array Value) (w : World) (g : Nat) (t : TypeId) (cs : Array Value) (fr : Nat × Nat) (d : TypeDesc)
    (hp : tmps.getD p undef = .pointer (some ⟨g, 0, none⟩)) (hg : w.heap[g]? = some (.cells cs t fr)) {P : Program}
    (hd : (match d with | .struct _ | .array _ _ => true | _ => false) = true) (hu : P.underlying ty = some d) (hi : (P.info? ty).map (·.size) = some cs.size) {x y : Value} (hx : tmps.getD q undef = x) (hy : tmps.getD r undef = y) :
    (results fn tmps).run P w = .ok (.tuple #[.agg cs, x, y]) w := by
  have hp' : tmps[p]?.getD undef = .pointer (some ⟨g, 0, none⟩) := by simpa using hp
  have hx' : tmps[q]?.getD undef = x := by simpa using hx
  have hy' : tmps[r]?.getD undef = y := by simpa using hy
  have hl := run_loadVar_row w g t ty cs fr d hg hu (by cases d <;> simp_all) hi
  simp [results, h, hp', hx', hy', asAddr, hl, Result.andThen]
theorem bytes_range {w : World} {b o n cap : Nat} {l : List UInt8} (h : BytesAt w (.slice (some ⟨b, o, none⟩) n cap) l) : w.rangeAt b o (B l) := by
  intro j v hj
  obtain ⟨x, hx, rfl⟩ := B_get_inv l j v hj
  obtain ⟨b', o', c', e, _, hc⟩ := h.at_ j x hx
  simp only [Value.slice.injEq, Option.some.injEq, Addr.mk.injEq] at e
  obtain ⟨⟨rfl, rfl, _⟩, _⟩ := e
  exact hc
theorem rangeAt_alloc {w : World} {b o : Nat} {cs : List Value} (h : w.rangeAt b o cs) (x : Obj) (hb : b < w.heap.size) : (w.alloc x).rangeAt b o cs := fun j v hj => by
  exact (((Keeps.refl Nob w).alloc x).cell hb (fun x => x)).trans (h j v hj)
theorem run_arrayAt (n : Nat) (hn : 32 ≤ n) (A : Option Addr) (cap : Nat) (w : World) : (Instr.arrayAt 29 (.slice A n cap)).run Try.prog w = .ok (.pointer A) w := by
  have hu : Try.prog.underlying 29 = some (.array 32 5) := Try.underlying29
  simp [Instr.arrayAt, run_underlying hu, go_sem, Nat.not_lt.2 hn, Result.andThen]

set_option maxRecDepth 100000 in
set_option maxHeartbeats 1000000 in
theorem rHash1_ok (v : Value) (l : List UInt8) (w : World) (h : BytesAt w v l) (hl : l.length ≤ 100000000) :
    Calls Try.prog 142 #[v] w fun e w' => e = .returned (.tuple #[.agg (B (hashOf l)).toArray, .int .i64 (hashLen l : Int), .int .i64 (hashErr l)]) ∧ Keeps Nob w w' := by
  obtain ⟨A, cap, rfl⟩ := h.len
  have hra := fun hn => run_arrayAt l.length hn A cap
  by_cases hs : l.length < 32
  · have e1 : hashOf l = List.replicate 32 0 := if_pos hs
    have e2 : hashLen l = 0 := if_pos hs
    have e3 : hashErr l = 6 := if_pos hs
    have hd : decide ((l.length : Int) < 32) = true := by simp; omega
    rw [e1, e2, e3]
    clear h hra
    generalize l.length = n at *
    go_enter Try.func142, Try.ntmps142
    go_wp2_with (first
      | (refine own_alloc rfl 29 rfl (hash_zero _) ?_)
      | (refine own_build rfl 29 _ rfl _ rfl (hash_build _) ?_)
      | (refine wpList_store_row rfl 29 _ _ rfl w.heap.size (B (List.replicate 32 0)).toArray rfl rfl 29 _ (World.alloc_heap_new w _) hash_info rfl (B_oneA _) ?_))
    refine bodyPost_ret (v := .tuple #[.agg (B (List.replicate 32 0)).toArray, .int .i64 0, .int .i64 6]) ?_ rfl ?_
    · exact results_hash rfl _ _ w.heap.size 29 (B (List.replicate 32 0)).toArray (0, 0) _ rfl (setRow_heap _ _ _ _ _ _ (World.alloc_heap_new w _)) rfl Try.underlying29 hash_info rfl rfl
    · exact ⟨rfl, ((Keeps.refl Nob w).alloc _).setRow (fun x => absurd x (by omega)) _⟩
  · have e1 : hashOf l = l.take 32 := if_neg hs
    have e2 : hashLen l = 32 := if_neg hs
    have e3 : hashErr l = 0 := if_neg hs
    have hd : decide ((l.length : Int) < 32) = false := by simp; omega
    have ht := h.take 32 (by omega) _ _ _ rfl
    have hsz : (B (l.take 32)).toArray.size = 32 := by simp [B_length]; omega
    have hi : (Try.prog.info? 29).map (·.size) = some (B (l.take 32)).toArray.size := by rw [hsz]; exact hash_info
    have hi' : (Try.prog.info? 29).map (·.size) = some (B (l.take 32)).length := hi
    obtain ⟨b, o, cap', e, hb, _⟩ := h.at_ 0 (l.getD 0 0) (by rw [List.getD_eq_getElem?_getD, List.getElem?_eq_getElem (by omega)]; rfl)
    simp only [Value.slice.injEq, true_and] at e
    obtain ⟨rfl, rfl⟩ := e
    have hr := rangeAt_alloc (bytes_range ht) (.cells (B (List.replicate 32 0)).toArray 29) hb
    have hone := B_oneA (l.take 32)
    rw [e1, e2, e3]
    generalize hc : B (l.take 32) = cs at *
    have hra := hra (by omega)
    have HI := Lib.hid hi; have HI' := Lib.hid hi'; have HS := Lib.hid hsz; have HO := Lib.hid hone; have HR := Lib.hid hr
    clear h ht hi hi' hsz hone hr
    generalize l.length = n at *
    go_enter Try.func142, Try.ntmps142
    go_wp2_with (first
      | (refine own_alloc rfl 29 rfl (hash_zero _) ?_)
      | (refine wpList_load_mid rfl 29 _ rfl b o rfl cs _ HR.out Try.underlying29 rfl HI'.out ?_)
      | (refine wpList_store_row rfl 29 _ _ rfl w.heap.size cs.toArray rfl rfl 29 (B (List.replicate 32 0)).toArray (World.alloc_heap_new w _) HI.out (by rw [HS.out]; rfl) HO.out ?_))
    refine bodyPost_ret (v := .tuple #[.agg cs.toArray, .int .i64 32, .int .i64 0]) ?_ rfl ?_
    · exact results_hash rfl _ _ w.heap.size 29 cs.toArray (0, 0) _ rfl (setRow_heap _ _ _ _ _ _ (World.alloc_heap_new w _)) rfl Try.underlying29 HI.out rfl rfl
    · exact ⟨rfl, ((Keeps.refl Nob w).alloc _).setRow (fun x => absurd x (by omega)) _⟩
end Go.Proofs.Ytmapcghgdbfmhaa
