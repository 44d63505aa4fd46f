/-
  Codec: what a reader reads: blobs. Conditions: none.
-/
import Derived.Test.YtbdjphaiohinnaaCodL
namespace Go.Proofs.Ytbdjphaiohinnaa
open Go Go.RowKit Go.Own Go.Shelf

/-- Why a blob is none; its length with its number; its bytes. -/
def errB (r : Nat × Nat × Int) (rest : List UInt8) (most : Int) : Int :=
  if r.2.2 = 0 then (if most < 0 ∨ most < (r.1 : Int) then 4 else if (rest.length : Int) - r.2.1 < r.1 then 6 else 0) else r.2.2
def lenB (r : Nat × Nat × Int) (rest : List UInt8) (most : Int) : Nat := if errB r rest most = 0 then r.2.1 + r.1 else 0
def bytesB (r : Nat × Nat × Int) (rest : List UInt8) : List UInt8 := (rest.drop r.2.1).take r.1
theorem errB_zero {r : Nat × Nat × Int} {rest : List UInt8} {most : Int} (h : errB r rest most = 0) : r.2.2 = 0 ∧ 0 ≤ most ∧ (r.1 : Int) ≤ most ∧ (r.2.1 : Int) + r.1 ≤ rest.length := by
  unfold errB at h
  split at h
  · rename_i h0
    split at h
    · omega
    · split at h <;> omega
  · rename_i h0; exact absurd h h0

/-- 's[k:h]'. -/
theorem run_cut2 {t : TypeId} (ht : Try.prog.underlying t = some (.slice (Try.prog.elem t))) (hz : ∀ w, (Go.sizeOf (Try.prog.elem t)).run Try.prog w = .ok 1 w) (A : Option Addr) (n cap k m : Nat) (hk : k ≤ m) (hm : m ≤ cap) (W : World) :
    (Instr.sliceAt t (.slice A n cap) (some (.int .i64 (k : Int))) (some (.int .i64 (m : Int))) none).run Try.prog W = .ok (.slice (if cap = k then A else A.map (·.add k)) (m - k) (cap - k)) W := by
  rw [run_sliceAt_slice W t _ _ _ _ ht, run_slice_lh W t _ _ _ ht _ _ _ _ (by omega) (by omega) (by omega), hz]
  simp [Result.andThen, sliced]

set_option maxRecDepth 100000 in
set_option maxHeartbeats 4000000 in
theorem rB1_ok (v : Value) (l : List UInt8) (most : Int) (b1 : Nat) (w : World) (hv : BytesAt w v l) (h1 : w.cell? ⟨b1, 0, none⟩ = some (.int .i64 most))
   (m1 : -9223372036854775808 ≤ most ∧ most ≤ 9223372036854775807) (hll : l.length ≤ 100000000) :
    Calls Try.prog 64 #[v, .pointer (some ⟨b1, 0, none⟩)] w fun e w' => ∃ X, e = .returned (.tuple #[X, .int .i64 (lenB (Cod.num l) l most : Int), .int .i64 (errB (Cod.num l) l most)]) ∧
      (errB (Cod.num l) l most = 0 → Row w' 5 1 X (bytesB (Cod.num l) l).length (B (bytesB (Cod.num l) l)) ∧ (∀ j, X.ownBlock = some j → w.heap.size ≤ j)) ∧ Keeps Nob w w' := by
  have HN := Lib.hid (number_ok v l w hv)
  have hok := fun h => Cod.num_ok l h
  obtain ⟨A, cap, rfl, hlc, hcm, _⟩ := hv.form
  have HV := Lib.hid hv
  clear hv
  unfold maxLen at hcm
  obtain ⟨er, her⟩ : ∃ er, errB (Cod.num l) l most = er := ⟨_, rfl⟩
  obtain ⟨kk, hkk⟩ : ∃ kk, lenB (Cod.num l) l most = kk := ⟨_, rfl⟩
  obtain ⟨bs, hbs⟩ : ∃ bs, bytesB (Cod.num l) l = bs := ⟨_, rfl⟩
  rw [her, hkk, hbs]
  have hz := fun h => errB_zero (r := Cod.num l) (rest := l) (most := most) h
  unfold lenB at hkk
  rw [her] at hkk hz
  unfold errB at her
  unfold bytesB at hbs
  generalize Cod.num l = r at *
  obtain ⟨n, k, e⟩ := r
  simp only at her hok HN hkk hbs hz ⊢
  obtain ⟨m1a, m1b⟩ := m1
  have HBS := Lib.hid hbs
  clear hbs
  by_cases he : e = 0
  · subst he
    obtain ⟨hn, hk0, hkl, hk10, _⟩ := hok rfl
    have hn : n < 18446744073709551616 := by simpa using hn
    clear hok
    rw [if_pos rfl] at her
    by_cases a1 : most < 0
    · obtain rfl : er = 4 := by rw [← her, if_pos (.inl a1)]
      obtain rfl : kk = 0 := by rw [← hkk, if_neg (by decide)]
      clear her hz hkk
      go_enter Try.func64, Try.ntmps64
      go_wp2_with (go_at_call 50; refine HN.out.mono ?_; rintro e w' ⟨rfl, rfl⟩)
      go_ret3
      exact ⟨_, rfl, (fun h => by simp at h), Keeps.refl _ _⟩
    · have d1 : decide (most < 0) = false := by simpa using a1
      have w1 : IntKind.u64.wrap most = most := by simp [IntKind.wrap, IntKind.bits, IntKind.signed]; omega
      by_cases a2 : most < (n : Int)
      · obtain rfl : er = 4 := by rw [← her, if_pos (.inr a2)]
        obtain rfl : kk = 0 := by rw [← hkk, if_neg (by decide)]
        have d2 : decide (most < (n : Int)) = true := by simpa using a2
        clear her hz hkk
        go_enter Try.func64, Try.ntmps64
        go_wp2_with (go_at_call 50; refine HN.out.mono ?_; rintro e w' ⟨rfl, rfl⟩)
        go_ret3
        exact ⟨_, rfl, (fun h => by simp at h), Keeps.refl _ _⟩
      · have d2 : decide (most < (n : Int)) = false := by simpa using a2
        rw [if_neg (by omega)] at her
        by_cases a3 : (l.length : Int) - k < n
        · obtain rfl : er = 6 := by rw [← her, if_pos a3]
          obtain rfl : kk = 0 := by rw [← hkk, if_neg (by decide)]
          have d3 : decide ((l.length : Int) - k < n) = true := by simpa using a3
          have w3 : IntKind.u64.wrap ((l.length : Int) - k) = (l.length : Int) - k := by simp [IntKind.wrap, IntKind.bits, IntKind.signed]; omega
          clear her hz hkk
          go_enter Try.func64, Try.ntmps64
          go_wp2_with (go_at_call 50; refine HN.out.mono ?_; rintro e w' ⟨rfl, rfl⟩)
          go_ret3
          exact ⟨_, rfl, (fun h => by simp at h), Keeps.refl _ _⟩
        · obtain rfl : er = 0 := by rw [← her, if_neg a3]
          obtain rfl : kk = k + n := by rw [← hkk, if_pos rfl]
          have d3 : decide ((l.length : Int) - k < n) = false := by simpa using a3
          have w3 : IntKind.u64.wrap ((l.length : Int) - k) = (l.length : Int) - k := by simp [IntKind.wrap, IntKind.bits, IntKind.signed]; omega
          have hkn : k + n ≤ l.length := by omega
          have hcut := run_cut2 (t := 23) rfl bytes_size A l.length cap k (k + n) (by omega) (by omega)
          have hcv : BytesAt w (.slice (if cap = k then A else A.map (·.add k)) (k + n - k) (cap - k)) ((l.drop k).take n) := by
            have := (HV.out.drop k (by omega) _ _ _ rfl).take n (by rw [List.length_drop]; omega) _ _ _ rfl
            simpa using this
          rw [HBS.out] at hcv
          generalize (Value.slice (if cap = k then A else A.map (·.add k)) (k + n - k) (cap - k)) = cv at *
          have HCL := Lib.hid (clone_ok cv bs w hcv (by rw [← HBS.out, List.length_take]; omega))
          rw [show (((k + n : Nat)) : Int) = (k : Int) + n by omega] at hcut
          clear her hz hkk hcv
          go_enter Try.func64, Try.ntmps64
          go_wp2_with (first
            | (go_at_call 50; refine HN.out.mono ?_; rintro e w' ⟨rfl, rfl⟩)
            | (go_at_call 51; refine HCL.out.mono ?_; rintro e w' ⟨X, rfl, h1, h2, h3⟩; have H1 := Lib.hid h1; have H2 := Lib.hid h2; clear h1 h2))
          go_ret3
          exact ⟨X, rfl, (fun _ => ⟨H1.out, H2.out⟩), h3⟩
  · rw [if_neg he] at her
    subst her
    obtain rfl : kk = 0 := by rw [← hkk, if_neg he]
    have hb : (e != 0) = true := by simpa using he
    have HE := Lib.hid he
    clear hkk hz hok he
    go_enter Try.func64, Try.ntmps64
    go_wp2_with (go_at_call 50; refine HN.out.mono ?_; rintro e w' ⟨rfl, rfl⟩)
    go_ret3
    exact ⟨_, rfl, (fun h => absurd h HE.out), Keeps.refl _ _⟩

def RS.rest (s : RS) (l : List UInt8) : List UInt8 := l.drop s.pos.toNat
/-- Blob: what is told, and the state behind. -/
def rdB (l : List UInt8) (s : RS) (most : Int) : List UInt8 × RS :=
  (if s.err = 0 ∧ errB (s.num l) (s.rest l) most = 0 then bytesB (s.num l) (s.rest l) else [], s.read (lenB (s.num l) (s.rest l) most) (errB (s.num l) (s.rest l) most))
theorem RdAt.clean {w : World} {b : Nat} {v fp : Value} {l : List UInt8} {s : RS} (h : RdAt w b v fp l s) (h0 : s.err = 0) : fp = .pointer none := by
  obtain ⟨at_, hb, hl, hf⟩ := h.ex
  rcases hf with ⟨_, hp, h1⟩ | ⟨h1, _⟩
  · exact h1
  · exact absurd h0 h1
theorem RS.read_ok {s : RS} {k : Nat} {er : Int} (h0 : s.err = 0) (he : er = 0) : (s.read k er).err = 0 := by
  unfold RS.read; rw [if_pos h0, if_pos he]

set_option maxRecDepth 100000 in
set_option maxHeartbeats 1000000 in
theorem rBlob_ok (b : Nat) (v fp : Value) (l : List UInt8) (s : RS) (most : Int) (w : World) (h : RdAt w b v fp l s) (hll : l.length ≤ 100000000)
   (m1 : -9223372036854775808 ≤ most ∧ most ≤ 9223372036854775807) :
    Calls Try.prog 37 #[.pointer (some ⟨b, 0, none⟩), .int .i64 most] w fun e w' => ∃ X, e = .returned X ∧ Row w' 5 1 X (rdB l s most).1.length (B (rdB l s most).1) ∧
      (∃ fp', RdAt w' b v fp' l (rdB l s most).2 ∧ NewPtr w fp fp' ∧ ∀ j, X.ownBlock = some j → w.heap.size ≤ j ∧ ptrBlock fp' ≠ some j) ∧ Keeps (One b) w w' := by
  have hkA : Keeps Nob w (w.alloc (.cells #[.int .i64 most] 3)) := (Keeps.refl _ _).alloc _
  have c1 : (w.alloc (.cells #[.int .i64 most] 3)).cell? ⟨w.heap.size, 0, none⟩ = some (.int .i64 most) := (World.cell?_alloc_at _ _ _ _ rfl).trans rfl
  have hb1 : w.heap.size < (w.alloc (.cells #[.int .i64 most] 3)).heap.size := by simp
  have hA := h.keeps hkA (fun _ _ x => x)
  have hlt := h.lt
  have HC := Lib.hid (readB_core 64 #[.pointer (some ⟨w.heap.size, 0, none⟩)] (enters_of Try.func64 (by kernel_rfl) rfl) b v fp l s _ hA (lenB (s.num l) (s.rest l) most) (errB (s.num l) (s.rest l) most)
    (fun W X => errB (s.num l) (s.rest l) most = 0 → Row W 5 1 X (bytesB (s.num l) (s.rest l)).length (B (bytesB (s.num l) (s.rest l))) ∧ (∀ j, X.ownBlock = some j → w.heap.size ≤ j))
    (fun h0 W A cap hv hW => by
      subst hv
      refine (rB1_ok _ _ most _ W ((hA.bytes.drop s.pos.toNat (by have := hA.pos h0; omega) _ _ _ rfl).keepsN hW) ((hW.cell hb1 (fun x => x)).trans c1) m1 (by rw [List.length_drop]; omega)).mono ?_
      rintro e W' ⟨X, rfl, hX, hk⟩
      exact ⟨X, rfl, fun he => ⟨(hX he).1, fun j hj => Nat.le_trans (Nat.le_trans hkA.size hW.size) ((hX he).2 j hj)⟩, hk⟩)
    (fun W W' X hX hk he => ⟨(hX he).1.keeps hk (fun j hj (e : j = b) => by have := (hX he).2 j hj; omega), (hX he).2⟩)
    (fun h0 he => by
      have hz := errB_zero he
      have hp := h.pos h0
      unfold lenB
      rw [if_pos he]
      have hr : (s.rest l).length = l.length - s.pos.toNat := by unfold RS.rest; rw [List.length_drop]
      rw [hr] at hz
      omega))
  have HKA := Lib.hid hkA
  clear h hA c1 hb1 hkA
  have hmf : ∀ (fn : Fn) (first cap : Array Value) (w : World), (Instr.makeFunc fn first cap).run Try.prog w = .ok (.func fn first cap) w := fun _ _ _ _ => rfl
  obtain ⟨m1a, m1b⟩ := m1
  go_enter Try.func37, Try.ntmps37
  go_wp2_with (go_at_call 63; refine HC.out.mono ?_; rintro e w' ⟨V, rfl, h1, h2, h3⟩; have H1 := Lib.hid h1; have H2 := Lib.hid h2; clear h1 h2)
  go_ret
  obtain ⟨fp', h2, h3'⟩ := H2.out
  have hnp : NewPtr w fp fp' := by
    rcases h3' with h | ⟨g, h, hg⟩
    · exact .inl h
    · exact .inr ⟨g, h, Nat.le_trans HKA.out.size hg⟩
  have hkk := (HKA.out.mono (M' := One b) (fun _ _ x => x.elim)).trans h3
  rcases H1.out with ⟨a, c, d⟩ | ⟨a, rfl⟩
  · obtain ⟨d1, d2⟩ := d c
    have e1 : (rdB l s most).1 = bytesB (s.num l) (s.rest l) := by unfold rdB; exact if_pos ⟨a, c⟩
    have hcl := h2.clean (RS.read_ok a c)
    refine ⟨V, rfl, by rw [e1]; exact d1, ⟨fp', h2, hnp, fun j hj => ⟨d2 j hj, by rw [hcl]; simp [ptrBlock]⟩⟩, hkk⟩
  · have e1 : (rdB l s most).1 = [] := by unfold rdB; exact if_neg a
    exact ⟨_, rfl, by rw [e1]; exact ⟨rfl, .inl ⟨rfl, rfl⟩⟩, ⟨fp', h2, hnp, fun j hj => by cases hj⟩, hkk⟩
end Go.Proofs.Ytbdjphaiohinnaa
