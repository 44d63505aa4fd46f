/-
  Codec: the laws' things, as they lie in memory. Conditions: none.
-/
import Derived.Test.YtbdjphaiohinnaaLaw
import Derived.Test.YtbdjphaiohinnaaCodU
namespace Go.Proofs.Ytbdjphaiohinnaa
open Go Go.RowKit Go.Own Go.ChangeShapes Go.WideShapes Go.ChangeAt Go.WideElems

/-- A thing: its cells, and what stands in them. -/
structure Th where
  cs : List Value
  kind : Int
  int : Int
  least : Int
  n : Nat
  hash : List UInt8
  bv : Value
  bytes : List UInt8
  errno : Int
structure Th.Ok (x : Th) : Prop where
  len : x.cs.length = 38
  c0 : x.cs[0]? = some (.int .i64 x.kind)
  c1 : x.cs[1]? = some (.int .i64 x.int)
  c2 : x.cs[2]? = some (.int .i64 x.least)
  c3 : x.cs[3]? = some (.int .u64 (x.n : Int))
  hash : (x.cs.drop 4).take 32 = B x.hash
  c36 : x.cs[36]? = some x.bv
  c37 : x.cs[37]? = some (.int .i64 x.errno)
  bi : -9223372036854775808 ≤ x.int ∧ x.int ≤ 9223372036854775807
  bl : -9223372036854775808 ≤ x.least ∧ x.least ≤ 9223372036854775807
  bn : x.n < 2 ^ 64
  hl : x.hash.length = 32

theorem open_bytes_cells {H : Type} {enc : TypeId × Value → H} {W : World} {sp : Nat → Bool} {held : Bool} {n off : Nat} {ds : List Value} {y : Option (DataW H × List MemPlace)} {z : DataW H × List MemPlace}
    (h : DataW.trod enc Try.prog W 0 sp held n 23 ((ds.drop off).take (Try.prog.cellsOf 23)) = y) (hy : y = some z) : ∃ v l, ds[off]? = some v ∧ BytesAt W v l := by
  subst hy
  have hb : Try.prog.cellsOf 23 = 1 := by kernel_rfl
  rw [hb] at h
  obtain ⟨cs, hcs⟩ : ∃ cs, (ds.drop off).take 1 = cs := ⟨_, rfl⟩
  rw [hcs] at h
  have : ∃ a len cap, cs = [.slice a len cap] := by
    rcases Go.Deep.open_slice Try.underlying23 h with ⟨h0, _⟩ | ⟨a, len, cap, m, n, D, Pl, hcs, _⟩
    · exact ⟨_, _, _, h0⟩
    · exact ⟨_, _, _, hcs⟩
  obtain ⟨a, len, cap, rfl⟩ := this
  obtain ⟨d, ps⟩ := z
  obtain ⟨l, hl⟩ := open_bytesAt (P := Try.prog) (v := .slice a len cap) (d := d) (ps := ps) Try.underlying23 Try.underlying5 (by kernel_rfl) ⟨n, h⟩ ⟨_, _, _, rfl⟩
  refine ⟨_, l, ?_, hl⟩
  have : ((ds.drop off).take 1)[0]? = some (.slice a len cap) := by rw [hcs]; rfl
  rw [List.getElem?_take_of_lt (by omega), List.getElem?_drop] at this
  exact this
theorem open_hash_cells {H : Type} {enc : TypeId × Value → H} {W : World} {sp : Nat → Bool} {held : Bool} {n off : Nat} {ds : List Value} {y : Option (DataW H × List MemPlace)} {z : DataW H × List MemPlace} (hlen : off + 32 ≤ ds.length)
    (h : DataW.trod enc Try.prog W 0 sp held n 44 ((ds.drop off).take (Try.prog.cellsOf 44)) = y) (hy : y = some z) : ∃ l : List UInt8, l.length = 32 ∧ (ds.drop off).take 32 = B l := by
  subst hy
  have hh : Try.prog.cellsOf 44 = 32 := by kernel_rfl
  rw [hh] at h
  have hlen : ((ds.drop off).take 32).length = 32 := by rw [List.length_take, List.length_drop]; omega
  generalize (ds.drop off).take 32 = cs at *
  obtain ⟨xs, m, _, _, hc, hxl, hel⟩ := DataW.trod_array Try.underlying44 h
  have hC : Try.prog.cellsOf 5 = 1 := by kernel_rfl
  rw [hC] at hel
  obtain ⟨l, hl, hq⟩ := list_of (fun i (x : UInt8) => cs[i]? = some (.int .u8 (x.toNat : Int))) 32 (fun i hlt => by
    have h1 := hel i hlt
    rw [List.getElem?_eq_getElem (show i < xs.length by omega)] at h1
    obtain ⟨q, e1, _, e3⟩ := DataW.trod_int Try.underlying5 h1
    obtain ⟨c, rfl⟩ := u8_nat e3
    refine ⟨c, ?_⟩
    have h2 : ((cs.drop (i * 1)).take 1)[0]? = some (.int .u8 (c.toNat : Int)) := by rw [e1]; rfl
    rw [List.getElem?_take_of_lt (by omega), List.getElem?_drop] at h2
    simpa using h2)
  refine ⟨l, hl, ?_⟩
  apply List.ext_getElem?
  intro i
  by_cases hi : i < 32
  · obtain ⟨x, hx⟩ : ∃ x, l[i]? = some x := ⟨_, List.getElem?_eq_getElem (by omega)⟩
    rw [hq i x hx, B_get _ _ _ hx]
  · rw [List.getElem?_eq_none (by omega), List.getElem?_eq_none (by rw [B_length]; omega)]

/-- A slice of things that came in. -/
structure ThingsAt (w : World) (v : Value) (l : List Th) : Prop where
  len : ∃ a cap, v = .slice a l.length cap
  ok : ∀ (k : Nat) (x : Th), l[k]? = some x → x.Ok
  at_ : ∀ (k : Nat) (x : Th), l[k]? = some x → ∃ b o cap, v = .slice (some ⟨b, o, none⟩) l.length cap ∧ b < w.heap.size ∧ w.rangeAt b (o + k * 38) x.cs
  bytes : ∀ (k : Nat) (x : Th), l[k]? = some x → BytesAt w x.bv x.bytes
theorem open_things {H : Type} {enc : TypeId × Value → H} {W : World} {sp : Nat → Bool} {held : Bool} {v : Value} {d : DataW H} {ps : List MemPlace} (h : DataW.Trod enc Try.prog W 0 sp held 36 v d ps) (hv : ∃ a len cap, v = .slice a len cap) : ∃ l, ThingsAt W v l := by
  have hC : Try.prog.cellsOf 46 = 38 := by kernel_rfl
  have hi : Try.prog.cellsOf 3 = 1 := by kernel_rfl
  have hu : Try.prog.cellsOf 22 = 1 := by kernel_rfl
  have he : Try.prog.cellsOf 27 = 1 := by kernel_rfl
  have hb : Try.prog.cellsOf 23 = 1 := by kernel_rfl
  have hh : Try.prog.cellsOf 44 = 32 := by kernel_rfl
  obtain ⟨a, len, cap, rfl, hl, hm, hi'⟩ := open_elems Try.underlying36 (by rw [hC]; omega) h hv
  rw [hC] at hi'
  obtain ⟨l, hll, hq⟩ := list_of (fun i (x : Th) => x.Ok ∧ BytesAt W x.bv x.bytes ∧ ∃ b o, a = some ⟨b, o, none⟩ ∧ ∀ j, j < 38 → W.cell? ⟨b, o + i * 38 + j, none⟩ = x.cs[j]?) len (fun i hlt => by
    obtain ⟨b, o, cs, n, y, ha, hcl, hcell, ht⟩ := hi' i hlt
    obtain ⟨xs, n', _, _, _, hxl, hf⟩ := DataW.trod_struct Try.underlying46 ht
    obtain ⟨q0, e0, f0⟩ := field_int Try.underlying3 hi (hf 0 _ rfl) (List.getElem?_eq_getElem (by rw [hxl]; decide))
    obtain ⟨q1, e1, f1⟩ := field_int Try.underlying3 hi (hf 1 _ rfl) (List.getElem?_eq_getElem (by rw [hxl]; decide))
    obtain ⟨q2, e2, f2⟩ := field_int Try.underlying3 hi (hf 2 _ rfl) (List.getElem?_eq_getElem (by rw [hxl]; decide))
    obtain ⟨q3, e3, f3⟩ := field_int Try.underlying22 hu (hf 3 _ rfl) (List.getElem?_eq_getElem (by rw [hxl]; decide))
    obtain ⟨q6, e6, f6⟩ := field_int Try.underlying27 he (hf 6 _ rfl) (List.getElem?_eq_getElem (by rw [hxl]; decide))
    obtain ⟨hs, hs1, hs2⟩ := open_hash_cells (off := 4) (by omega) (hf 4 _ rfl) (List.getElem?_eq_getElem (by rw [hxl]; decide))
    obtain ⟨bv, bl, e5, b2⟩ := open_bytes_cells (off := 36) (hf 5 _ rfl) (List.getElem?_eq_getElem (by rw [hxl]; decide))
    obtain ⟨qn, hn, rfl⟩ := u64_nat f3
    exact ⟨⟨cs, q0, q1, q2, qn, hs, bv, bl, q6⟩, ⟨hcl, e0, e1, e2, e3, hs2, e5, e6, bounds_i64 f1, bounds_i64 f2, hn, hs1⟩, b2, b, o, ha, hcell⟩)
  subst hll
  refine ⟨l, ⟨a, cap, rfl⟩, fun k x hk => (hq k x hk).1, fun k x hk => ?_, fun k x hk => (hq k x hk).2.1⟩
  obtain ⟨hok, _, b, o, rfl, hc⟩ := hq k x hk
  refine ⟨b, o, cap, rfl, World.block_lt_of_cell? W _ ((hc 0 (by omega)).trans hok.c0), fun j v hj => ?_⟩
  have hlt : j < 38 := by have := (List.getElem?_eq_some_iff.1 hj).1; have := hok.len; omega
  exact (hc j hlt).trans hj
theorem ThingsAt.keeps {w w' : World} {v : Value} {l : List Th} (h : ThingsAt w v l) (k : Keeps Nob w w') : ThingsAt w' v l :=
  ⟨h.len, h.ok, fun i x hi => by
    obtain ⟨b, o, cap, e, hb, hc⟩ := h.at_ i x hi
    exact ⟨b, o, cap, e, Nat.lt_of_lt_of_le hb k.size, fun j v hj => (k.cell hb (fun x => x)).trans (hc j v hj)⟩, fun i x hi => (h.bytes i x hi).keepsN k⟩
end Go.Proofs.Ytbdjphaiohinnaa
