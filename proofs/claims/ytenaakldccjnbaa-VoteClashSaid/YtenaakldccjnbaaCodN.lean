/-
  Codec: a hash is told of the bytes that are left (32 cells, never opened). Conditions: none.
-/
import Derived.Test.YtenaakldccjnbaaCodM
import Derived.Deep.MidRow
namespace Go.Proofs.Ytenaakldccjnbaa
open Go Go.RowKit Go.Own Go.Shelf

def hashErr (l : List UInt8) : Int := if l.length < 32 then 6 else 0
def hashLen (l : List UInt8) : Nat := if l.length < 32 then 0 else 32
def hashOf (l : List UInt8) : List UInt8 := if l.length < 32 then List.replicate 32 0 else l.take 32
theorem hashOf_length (l : List UInt8) : (hashOf l).length = 32 := by
  unfold hashOf; split
  · simp
  · rw [List.length_take]; omega
theorem hash_zero (w : World) : (zeroValue 26).run Try.prog w = .ok (.agg (B (List.replicate 32 0)).toArray) w := by kernel_rfl
theorem hash_build (w : World) : (Instr.build 26 #[]).run Try.prog w = .ok (.agg (B (List.replicate 32 0)).toArray) w := by kernel_rfl
theorem hash_info : (Try.prog.info? 26).map (·.size) = some 32 := by kernel_rfl
theorem B_oneA (l : List UInt8) : (B l).toArray.all (·.oneCell') = true := by
  simp only [List.all_toArray, List.all_eq_true]
  exact B_one l
theorem results_hash {fn : Func} {p q r : Tmp} {ty : TypeId} (h : fn.results = #[.cell p ty, .tmp q, .tmp r]) (tmps : Array Value) (w : World) (g : Nat) (t : TypeId) (cs : Array Value) (fr : Nat × Nat) (d : TypeDesc)
    (hp : tmps.getD p undef = .pointer (some ⟨g, 0, none⟩)) (hg : w.heap[g]? = some (.cells cs t fr)) {P : Program}
    (hd : (match d with | .struct _ | .array _ _ => true | _ => false) = true) (hu : P.underlying ty = some d) (hi : (P.info? ty).map (·.size) = some cs.size) {x y : Value} (hx : tmps.getD q undef = x) (hy : tmps.getD r undef = y) :
    (results fn tmps).run P w = .ok (.tuple #[.agg cs, x, y]) w := by
  have hp' : tmps[p]?.getD undef = .pointer (some ⟨g, 0, none⟩) := by simpa using hp
  have hx' : tmps[q]?.getD undef = x := by simpa using hx
  have hy' : tmps[r]?.getD undef = y := by simpa using hy
  have hl := run_loadVar_row w g t ty cs fr d hg hu (by cases d <;> simp_all) hi
  simp [results, h, hp', hx', hy', asAddr, hl, Result.andThen]
theorem bytes_range {w : World} {b o n cap : Nat} {l : List UInt8} (h : BytesAt w (.slice (some ⟨b, o, none⟩) n cap) l) : w.rangeAt b o (B l) := by
  intro j v hj
  obtain ⟨x, hx, rfl⟩ := B_get_inv l j v hj
  obtain ⟨b', o', c', e, _, hc⟩ := h.at_ j x hx
  simp only [Value.slice.injEq, Option.some.injEq, Addr.mk.injEq] at e
  obtain ⟨⟨rfl, rfl, _⟩, _⟩ := e
  exact hc
theorem rangeAt_alloc {w : World} {b o : Nat} {cs : List Value} (h : w.rangeAt b o cs) (x : Obj) (hb : b < w.heap.size) : (w.alloc x).rangeAt b o cs := fun j v hj => by
  exact (((Keeps.refl Nob w).alloc x).cell hb (fun x => x)).trans (h j v hj)
theorem run_arrayAt (n : Nat) (hn : 32 ≤ n) (A : Option Addr) (cap : Nat) (w : World) : (Instr.arrayAt 26 (.slice A n cap)).run Try.prog w = .ok (.pointer A) w := by
  have hu : Try.prog.underlying 26 = some (.array 32 5) := Try.underlying26
  simp [Instr.arrayAt, run_underlying hu, go_sem, Nat.not_lt.2 hn, Result.andThen]

set_option maxRecDepth 100000 in
set_option maxHeartbeats 1000000 in
theorem rHash1_ok (v : Value) (l : List UInt8) (w : World) (h : BytesAt w v l) (hl : l.length ≤ 100000000) :
    Calls Try.prog 75 #[v] w fun e w' => e = .returned (.tuple #[.agg (B (hashOf l)).toArray, .int .i64 (hashLen l : Int), .int .i64 (hashErr l)]) ∧ Keeps Nob w w' := by
  obtain ⟨A, cap, rfl⟩ := h.len
  have hra := fun hn => run_arrayAt l.length hn A cap
  by_cases hs : l.length < 32
  · have e1 : hashOf l = List.replicate 32 0 := if_pos hs
    have e2 : hashLen l = 0 := if_pos hs
    have e3 : hashErr l = 6 := if_pos hs
    have hd : decide ((l.length : Int) < 32) = true := by simp; omega
    rw [e1, e2, e3]
    clear h hra
    generalize l.length = n at *
    go_enter Try.func75, Try.ntmps75
    go_wp2_with (first
      | (refine own_alloc rfl 26 rfl (hash_zero _) ?_)
      | (refine own_build rfl 26 _ rfl _ rfl (hash_build _) ?_)
      | (refine wpList_store_row rfl 26 _ _ rfl w.heap.size (B (List.replicate 32 0)).toArray rfl rfl 26 _ (World.alloc_heap_new w _) hash_info rfl (B_oneA _) ?_))
    refine bodyPost_ret (v := .tuple #[.agg (B (List.replicate 32 0)).toArray, .int .i64 0, .int .i64 6]) ?_ rfl ?_
    · exact results_hash rfl _ _ w.heap.size 26 (B (List.replicate 32 0)).toArray (0, 0) _ rfl (setRow_heap _ _ _ _ _ _ (World.alloc_heap_new w _)) rfl Try.underlying26 hash_info rfl rfl
    · exact ⟨rfl, ((Keeps.refl Nob w).alloc _).setRow (fun x => absurd x (by omega)) _⟩
  · have e1 : hashOf l = l.take 32 := if_neg hs
    have e2 : hashLen l = 32 := if_neg hs
    have e3 : hashErr l = 0 := if_neg hs
    have hd : decide ((l.length : Int) < 32) = false := by simp; omega
    have ht := h.take 32 (by omega) _ _ _ rfl
    have hsz : (B (l.take 32)).toArray.size = 32 := by simp [B_length]; omega
    have hi : (Try.prog.info? 26).map (·.size) = some (B (l.take 32)).toArray.size := by rw [hsz]; exact hash_info
    have hi' : (Try.prog.info? 26).map (·.size) = some (B (l.take 32)).length := hi
    obtain ⟨b, o, cap', e, hb, _⟩ := h.at_ 0 (l.getD 0 0) (by rw [List.getD_eq_getElem?_getD, List.getElem?_eq_getElem (by omega)]; rfl)
    simp only [Value.slice.injEq, true_and] at e
    obtain ⟨rfl, rfl⟩ := e
    have hr := rangeAt_alloc (bytes_range ht) (.cells (B (List.replicate 32 0)).toArray 26) hb
    have hone := B_oneA (l.take 32)
    rw [e1, e2, e3]
    generalize hc : B (l.take 32) = cs at *
    have hra := hra (by omega)
    have HI := Lib.hid hi; have HI' := Lib.hid hi'; have HS := Lib.hid hsz; have HO := Lib.hid hone; have HR := Lib.hid hr
    clear h ht hi hi' hsz hone hr
    generalize l.length = n at *
    go_enter Try.func75, Try.ntmps75
    go_wp2_with (first
      | (refine own_alloc rfl 26 rfl (hash_zero _) ?_)
      | (refine wpList_load_mid rfl 26 _ rfl b o rfl cs _ HR.out Try.underlying26 rfl HI'.out ?_)
      | (refine wpList_store_row rfl 26 _ _ rfl w.heap.size cs.toArray rfl rfl 26 (B (List.replicate 32 0)).toArray (World.alloc_heap_new w _) HI.out (by rw [HS.out]; rfl) HO.out ?_))
    refine bodyPost_ret (v := .tuple #[.agg cs.toArray, .int .i64 32, .int .i64 0]) ?_ rfl ?_
    · exact results_hash rfl _ _ w.heap.size 26 cs.toArray (0, 0) _ rfl (setRow_heap _ _ _ _ _ _ (World.alloc_heap_new w _)) rfl Try.underlying26 HI.out rfl rfl
    · exact ⟨rfl, ((Keeps.refl Nob w).alloc _).setRow (fun x => absurd x (by omega)) _⟩
end Go.Proofs.Ytenaakldccjnbaa
