/-
  Params: the fields of a record (printed by parfields.py). Conditions: none.
-/
import Derived.Test.YtpflmldmbpnllaaDoorParB
import Derived.Test.YtpflmldmbpnllaaDoorPick
import Derived.Test.YtpflmldmbpnllaaDoorRegion
import Derived.Deep.RegionHeld3
namespace Go.Proofs.YtpflmldmbpnllaaDoor
open Go Go.RowKit Go.Own Go.Shelf

/-- The names, bounds and functions of the fields. -/
def parName : List ByteArray := [⟨#[117, 110, 98, 111, 110, 100, 105, 110, 103]⟩, ⟨#[109, 97, 120, 97, 103, 101]⟩, ⟨#[101, 112, 111, 99, 104, 108, 101, 110]⟩, ⟨#[119, 105, 110, 100, 111, 119]⟩, ⟨#[101, 110, 116, 114, 105, 101, 115]⟩, ⟨#[109, 97, 120, 97, 99, 116, 105, 118, 101]⟩, ⟨#[106, 97, 105, 108, 116, 105, 109, 101]⟩, ⟨#[98, 97, 115, 101]⟩, ⟨#[109, 117, 108, 116]⟩, ⟨#[99, 111, 114, 114, 119, 105, 110, 100, 111, 119]⟩, ⟨#[114, 101, 119, 97, 114, 100]⟩]
def parLoU : List Int := [1, 0, 1, 1, 1, 1, 1, 0, 0, 1, 0]
def parHiU : List Int := [1048576, 1048576, 1000, 256, 16, 32, 1048576, 1000000000, 1000, 1048576, 1000000000]
def parGet : List Nat := [82, 82, 82, 82, 82, 82, 82, 84, 84, 82, 84]
def parSet : List Nat := [83, 83, 83, 83, 83, 83, 83, 85, 85, 83, 85]
def parField (i k : Nat) : Value := fieldV (.string (parName[i]?.getD ⟨#[]⟩)) (parLoU[i]?.getD 0) (parHiU[i]?.getD 0) (parGet[i]?.getD 0) (parSet[i]?.getD 0) k
/-- The fields of the record at block b lie at block g; field i's box is block ks i. -/
structure FieldsAt (w : World) (g b : Nat) (ks : Nat → Nat) : Prop where
  cell : ∀ i j : Nat, i < 11 → j < 5 → w.cell? ⟨g, i * 5 + j, none⟩ = (parField i (ks i)).cells[j]?
  box : ∀ i : Nat, i < 11 → w.cell? ⟨ks i, 0, none⟩ = some (.pointer (some ⟨b, i, none⟩))

/-- All cells of the fields. -/
def fieldCells (zs : List Nat) : Array Value := ((List.range 11).map fun i => (parField i (zs[i]?.getD 0)).cells.toList).flatten.toArray
theorem fieldCells_get (z0 z1 z2 z3 z4 z5 z6 z7 z8 z9 z10 : Nat) (i j : Nat) (hi : i < 11) (hj : j < 5) :
    (fieldCells [z0, z1, z2, z3, z4, z5, z6, z7, z8, z9, z10])[i * 5 + j]? = (parField i ([z0, z1, z2, z3, z4, z5, z6, z7, z8, z9, z10][i]?.getD 0)).cells[j]? := by
  have h : j = 0 ∨ j = 1 ∨ j = 2 ∨ j = 3 ∨ j = 4 := by omega
  have h' : i = 0 ∨ i = 1 ∨ i = 2 ∨ i = 3 ∨ i = 4 ∨ i = 5 ∨ i = 6 ∨ i = 7 ∨ i = 8 ∨ i = 9 ∨ i = 10 := by omega
  rcases h' with rfl | rfl | rfl | rfl | rfl | rfl | rfl | rfl | rfl | rfl | rfl <;> rcases h with rfl | rfl | rfl | rfl | rfl <;> rfl
theorem field_cell (i k j : Nat) (hj : j < 5) : ∃ v, (parField i k).cells[j]? = some v := by
  have h : j = 0 ∨ j = 1 ∨ j = 2 ∨ j = 3 ∨ j = 4 := by omega
  rcases h with rfl | rfl | rfl | rfl | rfl <;> exact ⟨_, rfl⟩
theorem fields_sel : Region.noSelect opsFields = true := by kernel_rfl
theorem fields_size : opsFields.size = 46 := by kernel_rfl

theorem fields_pure (b : Nat) : pureRun Tryd.prog .any opsFields [0, 1, 2, 4, 5, 6, 8, 9, 10, 12, 13, 14, 16, 17, 18, 20, 21, 22, 24, 25, 26, 28, 29, 30, 32, 33, 34, 36, 37, 38, 40, 41, 42] (Array.replicate 46 false) ⟨#[.pointer (some ⟨b, 0, none⟩), undef, .slice none 0 0, undef, undef, undef, undef, undef, undef, undef, undef, undef, undef, undef, undef, undef, undef, undef, undef, undef, undef, undef, undef, undef, undef, undef, undef, undef, undef, undef, undef, undef, undef, undef, undef, undef, undef, undef, undef, undef, undef, undef, undef, undef, undef, undef, undef, undef], []⟩ = some (#[true, true, true, false, true, true, true, false, true, true, true, false, true, true, true, false, true, true, true, false, true, true, true, false, true, true, true, false, true, true, true, false, true, true, true, false, true, true, true, false, true, true, true, false, false, false], ⟨#[.pointer (some ⟨b, 0, none⟩), undef, .slice none 0 0, .pointer (some ⟨b, 0, none⟩), .pointer (some ⟨b, 0, none⟩), .pointer (some ⟨b, 0, none⟩), undef, .pointer (some ⟨b, 0, none⟩), .pointer (some ⟨b, 0, none⟩), .pointer (some ⟨b, 1, none⟩), undef, .pointer (some ⟨b, 0, none⟩), .pointer (some ⟨b, 0, none⟩), .pointer (some ⟨b, 2, none⟩), undef, .pointer (some ⟨b, 0, none⟩), .pointer (some ⟨b, 0, none⟩), .pointer (some ⟨b, 3, none⟩), undef, .pointer (some ⟨b, 0, none⟩), .pointer (some ⟨b, 0, none⟩), .pointer (some ⟨b, 4, none⟩), undef, .pointer (some ⟨b, 0, none⟩), .pointer (some ⟨b, 0, none⟩), .pointer (some ⟨b, 5, none⟩), undef, .pointer (some ⟨b, 0, none⟩), .pointer (some ⟨b, 0, none⟩), .pointer (some ⟨b, 6, none⟩), undef, .pointer (some ⟨b, 0, none⟩), .pointer (some ⟨b, 0, none⟩), .pointer (some ⟨b, 7, none⟩), undef, .pointer (some ⟨b, 0, none⟩), .pointer (some ⟨b, 0, none⟩), .pointer (some ⟨b, 8, none⟩), undef, .pointer (some ⟨b, 0, none⟩), .pointer (some ⟨b, 0, none⟩), .pointer (some ⟨b, 9, none⟩), undef, .pointer (some ⟨b, 0, none⟩), .pointer (some ⟨b, 0, none⟩), .pointer (some ⟨b, 10, none⟩), undef, undef], []⟩) := by kernel_rfl

theorem fields_fn0 : (opsFields.getD 3 default).op = .call { callee := .value (.func 65), args := callArgs (opsFields.getD 3 default), argTypes := callTypes (opsFields.getD 3 default) } := by kernel_rfl
theorem fields_fn1 : (opsFields.getD 7 default).op = .call { callee := .value (.func 65), args := callArgs (opsFields.getD 7 default), argTypes := callTypes (opsFields.getD 7 default) } := by kernel_rfl
theorem fields_fn2 : (opsFields.getD 11 default).op = .call { callee := .value (.func 65), args := callArgs (opsFields.getD 11 default), argTypes := callTypes (opsFields.getD 11 default) } := by kernel_rfl
theorem fields_fn3 : (opsFields.getD 15 default).op = .call { callee := .value (.func 65), args := callArgs (opsFields.getD 15 default), argTypes := callTypes (opsFields.getD 15 default) } := by kernel_rfl
theorem fields_fn4 : (opsFields.getD 19 default).op = .call { callee := .value (.func 65), args := callArgs (opsFields.getD 19 default), argTypes := callTypes (opsFields.getD 19 default) } := by kernel_rfl
theorem fields_fn5 : (opsFields.getD 23 default).op = .call { callee := .value (.func 65), args := callArgs (opsFields.getD 23 default), argTypes := callTypes (opsFields.getD 23 default) } := by kernel_rfl
theorem fields_fn6 : (opsFields.getD 27 default).op = .call { callee := .value (.func 65), args := callArgs (opsFields.getD 27 default), argTypes := callTypes (opsFields.getD 27 default) } := by kernel_rfl
theorem fields_fn7 : (opsFields.getD 31 default).op = .call { callee := .value (.func 66), args := callArgs (opsFields.getD 31 default), argTypes := callTypes (opsFields.getD 31 default) } := by kernel_rfl
theorem fields_fn8 : (opsFields.getD 35 default).op = .call { callee := .value (.func 66), args := callArgs (opsFields.getD 35 default), argTypes := callTypes (opsFields.getD 35 default) } := by kernel_rfl
theorem fields_fn9 : (opsFields.getD 39 default).op = .call { callee := .value (.func 65), args := callArgs (opsFields.getD 39 default), argTypes := callTypes (opsFields.getD 39 default) } := by kernel_rfl
theorem fields_fn10 : (opsFields.getD 43 default).op = .call { callee := .value (.func 66), args := callArgs (opsFields.getD 43 default), argTypes := callTypes (opsFields.getD 43 default) } := by kernel_rfl
theorem state_eq {Q : Exit → Act → World → Prop} {e : Exit} {a b : Act} {w : World} (h : a = b) (hq : Q e b w) : Q e a w := h ▸ hq
theorem ent_of : ∀ args w, (callFunc 65 args).run Tryd.prog w = .ok (.enter 65 args) w := enters_of Tryd.func65 (by kernel_rfl) rfl
theorem ent_word : ∀ args w, (callFunc 66 args).run Tryd.prog w = .ok (.enter 66 args) w := enters_of Tryd.func66 (by kernel_rfl) rfl

set_option maxRecDepth 100000 in
set_option maxHeartbeats 8000000 in
theorem fields_ok (b : Nat) (w : World) :
    Calls Tryd.prog 37 #[.pointer (some ⟨b, 0, none⟩)] w fun e w' => ∃ g ks, e = .returned (.slice (some ⟨g, 0, none⟩) 11 11) ∧ FieldsAt w' g b ks ∧ g < w'.heap.size ∧ Keeps Nob w w' := by
  go_enter Tryd.func37, Tryd.ntmps37
  go_wp2_with fail
  refine wp_region_noPanic ?_
  refine region_named (R := opsFields) (by kernel_rfl) ?_
  refine wp_region_fuel 46 (Array.replicate 46 false) (by kernel_rfl) fields_size rfl ?_
  refine wpAny_pure' fields_sel (fun _ _ _ _ _ h => h) [0, 1, 2, 4, 5, 6, 8, 9, 10, 12, 13, 14, 16, 17, 18, 20, 21, 22, 24, 25, 26, 28, 29, 30, 32, 33, 34, 36, 37, 38, 40, 41, 42] _ _ _ _ _ 13 46 rfl (fields_pure b) ?_
  refine wpAny_call' (i := 3) (opsFields.getD 3 default) 65 #[.string ⟨#[117, 110, 98, 111, 110, 100, 105, 110, 103]⟩, .int .u64 1, .int .u64 1048576, .pointer (some ⟨b, 0, none⟩)] (by kernel_rfl) (by kernel_rfl) (by kernel_rfl) fields_fn0 (by kernel_rfl) ent_of ((of_ok ⟨#[117, 110, 98, 111, 110, 100, 105, 110, 103]⟩ 1 1048576 ⟨b, 0, none⟩ _).mono ?_)
  rintro e W0 ⟨rfl, c0, s0, k0⟩
  refine ⟨_, rfl, ?_⟩
  obtain ⟨z0, hz0⟩ : ∃ z, z = w.drew.heap.size := ⟨_, rfl⟩
  rw [← hz0] at c0 s0 ⊢
  refine wpAny_call' (i := 7) (opsFields.getD 7 default) 65 #[.string ⟨#[109, 97, 120, 97, 103, 101]⟩, .int .u64 0, .int .u64 1048576, .pointer (some ⟨b, 1, none⟩)] (by kernel_rfl) (by kernel_rfl) (by kernel_rfl) fields_fn1 (by kernel_rfl) ent_of ((of_ok ⟨#[109, 97, 120, 97, 103, 101]⟩ 0 1048576 ⟨b, 1, none⟩ _).mono ?_)
  rintro e W1 ⟨rfl, c1, s1, k1⟩
  refine ⟨_, rfl, ?_⟩
  obtain ⟨z1, hz1⟩ : ∃ z, z = W0.heap.size := ⟨_, rfl⟩
  rw [← hz1] at c1 s1 ⊢
  refine wpAny_call' (i := 11) (opsFields.getD 11 default) 65 #[.string ⟨#[101, 112, 111, 99, 104, 108, 101, 110]⟩, .int .u64 1, .int .u64 1000, .pointer (some ⟨b, 2, none⟩)] (by kernel_rfl) (by kernel_rfl) (by kernel_rfl) fields_fn2 (by kernel_rfl) ent_of ((of_ok ⟨#[101, 112, 111, 99, 104, 108, 101, 110]⟩ 1 1000 ⟨b, 2, none⟩ _).mono ?_)
  rintro e W2 ⟨rfl, c2, s2, k2⟩
  refine ⟨_, rfl, ?_⟩
  obtain ⟨z2, hz2⟩ : ∃ z, z = W1.heap.size := ⟨_, rfl⟩
  rw [← hz2] at c2 s2 ⊢
  refine wpAny_call' (i := 15) (opsFields.getD 15 default) 65 #[.string ⟨#[119, 105, 110, 100, 111, 119]⟩, .int .u64 1, .int .u64 256, .pointer (some ⟨b, 3, none⟩)] (by kernel_rfl) (by kernel_rfl) (by kernel_rfl) fields_fn3 (by kernel_rfl) ent_of ((of_ok ⟨#[119, 105, 110, 100, 111, 119]⟩ 1 256 ⟨b, 3, none⟩ _).mono ?_)
  rintro e W3 ⟨rfl, c3, s3, k3⟩
  refine ⟨_, rfl, ?_⟩
  obtain ⟨z3, hz3⟩ : ∃ z, z = W2.heap.size := ⟨_, rfl⟩
  rw [← hz3] at c3 s3 ⊢
  refine wpAny_call' (i := 19) (opsFields.getD 19 default) 65 #[.string ⟨#[101, 110, 116, 114, 105, 101, 115]⟩, .int .u64 1, .int .u64 16, .pointer (some ⟨b, 4, none⟩)] (by kernel_rfl) (by kernel_rfl) (by kernel_rfl) fields_fn4 (by kernel_rfl) ent_of ((of_ok ⟨#[101, 110, 116, 114, 105, 101, 115]⟩ 1 16 ⟨b, 4, none⟩ _).mono ?_)
  rintro e W4 ⟨rfl, c4, s4, k4⟩
  refine ⟨_, rfl, ?_⟩
  obtain ⟨z4, hz4⟩ : ∃ z, z = W3.heap.size := ⟨_, rfl⟩
  rw [← hz4] at c4 s4 ⊢
  refine wpAny_call' (i := 23) (opsFields.getD 23 default) 65 #[.string ⟨#[109, 97, 120, 97, 99, 116, 105, 118, 101]⟩, .int .u64 1, .int .u64 32, .pointer (some ⟨b, 5, none⟩)] (by kernel_rfl) (by kernel_rfl) (by kernel_rfl) fields_fn5 (by kernel_rfl) ent_of ((of_ok ⟨#[109, 97, 120, 97, 99, 116, 105, 118, 101]⟩ 1 32 ⟨b, 5, none⟩ _).mono ?_)
  rintro e W5 ⟨rfl, c5, s5, k5⟩
  refine ⟨_, rfl, ?_⟩
  obtain ⟨z5, hz5⟩ : ∃ z, z = W4.heap.size := ⟨_, rfl⟩
  rw [← hz5] at c5 s5 ⊢
  refine wpAny_call' (i := 27) (opsFields.getD 27 default) 65 #[.string ⟨#[106, 97, 105, 108, 116, 105, 109, 101]⟩, .int .u64 1, .int .u64 1048576, .pointer (some ⟨b, 6, none⟩)] (by kernel_rfl) (by kernel_rfl) (by kernel_rfl) fields_fn6 (by kernel_rfl) ent_of ((of_ok ⟨#[106, 97, 105, 108, 116, 105, 109, 101]⟩ 1 1048576 ⟨b, 6, none⟩ _).mono ?_)
  rintro e W6 ⟨rfl, c6, s6, k6⟩
  refine ⟨_, rfl, ?_⟩
  obtain ⟨z6, hz6⟩ : ∃ z, z = W5.heap.size := ⟨_, rfl⟩
  rw [← hz6] at c6 s6 ⊢
  refine wpAny_call' (i := 31) (opsFields.getD 31 default) 66 #[.string ⟨#[98, 97, 115, 101]⟩, .int .u64 1000000000, .pointer (some ⟨b, 7, none⟩)] (by kernel_rfl) (by kernel_rfl) (by kernel_rfl) fields_fn7 (by kernel_rfl) ent_word ((word_ok ⟨#[98, 97, 115, 101]⟩ 1000000000 ⟨b, 7, none⟩ _).mono ?_)
  rintro e W7 ⟨rfl, c7, s7, k7⟩
  refine ⟨_, rfl, ?_⟩
  obtain ⟨z7, hz7⟩ : ∃ z, z = W6.heap.size := ⟨_, rfl⟩
  rw [← hz7] at c7 s7 ⊢
  refine wpAny_call' (i := 35) (opsFields.getD 35 default) 66 #[.string ⟨#[109, 117, 108, 116]⟩, .int .u64 1000, .pointer (some ⟨b, 8, none⟩)] (by kernel_rfl) (by kernel_rfl) (by kernel_rfl) fields_fn8 (by kernel_rfl) ent_word ((word_ok ⟨#[109, 117, 108, 116]⟩ 1000 ⟨b, 8, none⟩ _).mono ?_)
  rintro e W8 ⟨rfl, c8, s8, k8⟩
  refine ⟨_, rfl, ?_⟩
  obtain ⟨z8, hz8⟩ : ∃ z, z = W7.heap.size := ⟨_, rfl⟩
  rw [← hz8] at c8 s8 ⊢
  refine wpAny_call' (i := 39) (opsFields.getD 39 default) 65 #[.string ⟨#[99, 111, 114, 114, 119, 105, 110, 100, 111, 119]⟩, .int .u64 1, .int .u64 1048576, .pointer (some ⟨b, 9, none⟩)] (by kernel_rfl) (by kernel_rfl) (by kernel_rfl) fields_fn9 (by kernel_rfl) ent_of ((of_ok ⟨#[99, 111, 114, 114, 119, 105, 110, 100, 111, 119]⟩ 1 1048576 ⟨b, 9, none⟩ _).mono ?_)
  rintro e W9 ⟨rfl, c9, s9, k9⟩
  refine ⟨_, rfl, ?_⟩
  obtain ⟨z9, hz9⟩ : ∃ z, z = W8.heap.size := ⟨_, rfl⟩
  rw [← hz9] at c9 s9 ⊢
  refine wpAny_call' (i := 43) (opsFields.getD 43 default) 66 #[.string ⟨#[114, 101, 119, 97, 114, 100]⟩, .int .u64 1000000000, .pointer (some ⟨b, 10, none⟩)] (by kernel_rfl) (by kernel_rfl) (by kernel_rfl) fields_fn10 (by kernel_rfl) ent_word ((word_ok ⟨#[114, 101, 119, 97, 114, 100]⟩ 1000000000 ⟨b, 10, none⟩ _).mono ?_)
  rintro e W10 ⟨rfl, c10, s10, k10⟩
  refine ⟨_, rfl, ?_⟩
  obtain ⟨z10, hz10⟩ : ∃ z, z = W9.heap.size := ⟨_, rfl⟩
  rw [← hz10] at c10 s10 ⊢
  refine wpAny_run (i := 44) (opsFields.getD 44 default) (.slice (some ⟨W10.heap.size, 0, none⟩) 11 11) (w' := W10.alloc (.cells (fieldCells [z0, z1, z2, z3, z4, z5, z6, z7, z8, z9, z10]) 67)) (by kernel_rfl) (by kernel_rfl) (by kernel_rfl) (by kernel_rfl) ?_
  refine wpAny_run (i := 45) (opsFields.getD 45 default) (.slice (some ⟨W10.heap.size, 0, none⟩) 11 11) (w' := W10.alloc (.cells (fieldCells [z0, z1, z2, z3, z4, z5, z6, z7, z8, z9, z10]) 67)) (by kernel_rfl) (by kernel_rfl) (by kernel_rfl) (by kernel_rfl) ?_
  refine wpAny_done (by kernel_rfl) ?_ _
  generalize hR : W10.alloc (.cells (fieldCells [z0, z1, z2, z3, z4, z5, z6, z7, z8, z9, z10]) 67) = V at *
  refine NoPanic.normal ?_
  refine state_eq (b := ⟨#[.pointer (some ⟨b, 0, none⟩), undef, (.slice (some ⟨W10.heap.size, 0, none⟩) 11 11), .pointer (some ⟨b, 0, none⟩), .pointer (some ⟨b, 0, none⟩), .pointer (some ⟨b, 0, none⟩), fieldV (.string ⟨#[117, 110, 98, 111, 110, 100, 105, 110, 103]⟩) 1 1048576 82 83 z0, .pointer (some ⟨b, 0, none⟩), .pointer (some ⟨b, 0, none⟩), .pointer (some ⟨b, 1, none⟩), fieldV (.string ⟨#[109, 97, 120, 97, 103, 101]⟩) 0 1048576 82 83 z1, .pointer (some ⟨b, 0, none⟩), .pointer (some ⟨b, 0, none⟩), .pointer (some ⟨b, 2, none⟩), fieldV (.string ⟨#[101, 112, 111, 99, 104, 108, 101, 110]⟩) 1 1000 82 83 z2, .pointer (some ⟨b, 0, none⟩), .pointer (some ⟨b, 0, none⟩), .pointer (some ⟨b, 3, none⟩), fieldV (.string ⟨#[119, 105, 110, 100, 111, 119]⟩) 1 256 82 83 z3, .pointer (some ⟨b, 0, none⟩), .pointer (some ⟨b, 0, none⟩), .pointer (some ⟨b, 4, none⟩), fieldV (.string ⟨#[101, 110, 116, 114, 105, 101, 115]⟩) 1 16 82 83 z4, .pointer (some ⟨b, 0, none⟩), .pointer (some ⟨b, 0, none⟩), .pointer (some ⟨b, 5, none⟩), fieldV (.string ⟨#[109, 97, 120, 97, 99, 116, 105, 118, 101]⟩) 1 32 82 83 z5, .pointer (some ⟨b, 0, none⟩), .pointer (some ⟨b, 0, none⟩), .pointer (some ⟨b, 6, none⟩), fieldV (.string ⟨#[106, 97, 105, 108, 116, 105, 109, 101]⟩) 1 1048576 82 83 z6, .pointer (some ⟨b, 0, none⟩), .pointer (some ⟨b, 0, none⟩), .pointer (some ⟨b, 7, none⟩), fieldV (.string ⟨#[98, 97, 115, 101]⟩) 0 1000000000 84 85 z7, .pointer (some ⟨b, 0, none⟩), .pointer (some ⟨b, 0, none⟩), .pointer (some ⟨b, 8, none⟩), fieldV (.string ⟨#[109, 117, 108, 116]⟩) 0 1000 84 85 z8, .pointer (some ⟨b, 0, none⟩), .pointer (some ⟨b, 0, none⟩), .pointer (some ⟨b, 9, none⟩), fieldV (.string ⟨#[99, 111, 114, 114, 119, 105, 110, 100, 111, 119]⟩) 1 1048576 82 83 z9, .pointer (some ⟨b, 0, none⟩), .pointer (some ⟨b, 0, none⟩), .pointer (some ⟨b, 10, none⟩), fieldV (.string ⟨#[114, 101, 119, 97, 114, 100]⟩) 0 1000000000 84 85 z10, (.slice (some ⟨W10.heap.size, 0, none⟩) 11 11)], []⟩) (by kernel_rfl) ?_
  have hk : Keeps Nob W10 V := by rw [← hR]; exact (Keeps.refl _ _).alloc _
  have hcl : ∀ j, V.cell? ⟨W10.heap.size, j, none⟩ = (fieldCells [z0, z1, z2, z3, z4, z5, z6, z7, z8, z9, z10])[j]? := fun j => by rw [← hR]; exact World.cell?_alloc_at _ _ _ _ rfl
  have hsz : W10.heap.size < V.heap.size := by rw [← hR]; simp
  have q10 : Keeps Nob W10 V := hk
  have q9 : Keeps Nob W9 V := k10.trans q10
  have q8 : Keeps Nob W8 V := k9.trans q9
  have q7 : Keeps Nob W7 V := k8.trans q8
  have q6 : Keeps Nob W6 V := k7.trans q7
  have q5 : Keeps Nob W5 V := k6.trans q6
  have q4 : Keeps Nob W4 V := k5.trans q5
  have q3 : Keeps Nob W3 V := k4.trans q4
  have q2 : Keeps Nob W2 V := k3.trans q3
  have q1 : Keeps Nob W1 V := k2.trans q2
  have q0 : Keeps Nob W0 V := k1.trans q1
  have hall : Keeps Nob w V := ((Keeps.refl Nob w).drew.trans k0).trans q0
  have d0 := (q0.cell (i := 0) s0 (fun x => x)).trans c0
  have d1 := (q1.cell (i := 0) s1 (fun x => x)).trans c1
  have d2 := (q2.cell (i := 0) s2 (fun x => x)).trans c2
  have d3 := (q3.cell (i := 0) s3 (fun x => x)).trans c3
  have d4 := (q4.cell (i := 0) s4 (fun x => x)).trans c4
  have d5 := (q5.cell (i := 0) s5 (fun x => x)).trans c5
  have d6 := (q6.cell (i := 0) s6 (fun x => x)).trans c6
  have d7 := (q7.cell (i := 0) s7 (fun x => x)).trans c7
  have d8 := (q8.cell (i := 0) s8 (fun x => x)).trans c8
  have d9 := (q9.cell (i := 0) s9 (fun x => x)).trans c9
  have d10 := (q10.cell (i := 0) s10 (fun x => x)).trans c10
  have HF : Hid (FieldsAt V W10.heap.size b (fun i => [z0, z1, z2, z3, z4, z5, z6, z7, z8, z9, z10][i]?.getD 0)) := Lib.hid ⟨fun i j hi hj => (hcl _).trans (fieldCells_get _ _ _ _ _ _ _ _ _ _ _ i j hi hj), fun i hi => by
    have h' : i = 0 ∨ i = 1 ∨ i = 2 ∨ i = 3 ∨ i = 4 ∨ i = 5 ∨ i = 6 ∨ i = 7 ∨ i = 8 ∨ i = 9 ∨ i = 10 := by omega
    rcases h' with rfl | rfl | rfl | rfl | rfl | rfl | rfl | rfl | rfl | rfl | rfl <;> assumption⟩
  clear hcl c0 s0 k0 d0 q0 hz0 c1 s1 k1 d1 q1 hz1 c2 s2 k2 d2 q2 hz2 c3 s3 k3 d3 q3 hz3 c4 s4 k4 d4 q4 hz4 c5 s5 k5 d5 q5 hz5 c6 s6 k6 d6 q6 hz6 c7 s7 k7 d7 q7 hz7 c8 s8 k8 d8 q8 hz8 c9 s9 k9 d9 q9 hz9 c10 s10 k10 d10 q10 hz10 hR
  go_wp2
  go_ret
  exact ⟨_, _, rfl, HF.out, hsz, hall⟩
end Go.Proofs.YtpflmldmbpnllaaDoor
