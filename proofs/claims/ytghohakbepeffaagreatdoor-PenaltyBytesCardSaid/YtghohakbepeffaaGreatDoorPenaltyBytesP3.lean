import Derived.Test.YtghohakbepeffaaGreatDoorPenaltyBytesP2
namespace Go.Proofs.YtghohakbepeffaaGreatDoor
set_option maxRecDepth 100000
set_option maxHeartbeats 4000000
open Go Go.RowKit Go.Own Go.Shelf
/-- The names, bounds and functions of the fields. -/
def parName : List ByteArray := [⟨#[117, 110, 98, 111, 110, 100, 105, 110, 103]⟩, ⟨#[109, 97, 120, 97, 103, 101]⟩, ⟨#[101, 112, 111, 99, 104, 108, 101, 110]⟩, ⟨#[119, 105, 110, 100, 111, 119]⟩, ⟨#[101, 110, 116, 114, 105, 101, 115]⟩, ⟨#[109, 97, 120, 97, 99, 116, 105, 118, 101]⟩, ⟨#[106, 97, 105, 108, 116, 105, 109, 101]⟩, ⟨#[98, 97, 115, 101]⟩, ⟨#[109, 117, 108, 116]⟩, ⟨#[99, 111, 114, 114, 119, 105, 110, 100, 111, 119]⟩, ⟨#[114, 101, 119, 97, 114, 100]⟩]
def parLoU : List Int := [1, 0, 1, 1, 1, 1, 1, 0, 0, 1, 0]
def parHiU : List Int := [1048576, 1048576, 1000, 256, 16, 32, 1048576, 1000000000, 1000, 1048576, 1000000000]
def parGet : List Nat := [109, 109, 109, 109, 109, 109, 109, 111, 111, 109, 111]
def parSet : List Nat := [110, 110, 110, 110, 110, 110, 110, 112, 112, 110, 112]
def parField (i k : Nat) : Value := fieldV (.string (parName[i]?.getD ⟨#[]⟩)) (parLoU[i]?.getD 0) (parHiU[i]?.getD 0) (parGet[i]?.getD 0) (parSet[i]?.getD 0) k
/-- The fields of the record at block b lie at block g; field i's box is block ks i. -/
structure FieldsAt (w : World) (g b : Nat) (ks : Nat → Nat) : Prop where
  cell : ∀ i j : Nat, i < 11 → j < 5 → w.cell? ⟨g, i * 5 + j, none⟩ = (parField i (ks i)).cells[j]?
  box : ∀ i : Nat, i < 11 → w.cell? ⟨ks i, 0, none⟩ = some (.pointer (some ⟨b, i, none⟩))
/-- All cells of the fields. -/
def fieldCells (zs : List Nat) : Array Value := ((List.range 11).map fun i => (parField i (zs[i]?.getD 0)).cells.toList).flatten.toArray
theorem fieldCells_get (z0 z1 z2 z3 z4 z5 z6 z7 z8 z9 z10 : Nat) (i j : Nat) (hi : i < 11) (hj : j < 5) :
    (fieldCells [z0, z1, z2, z3, z4, z5, z6, z7, z8, z9, z10])[i * 5 + j]? = (parField i ([z0, z1, z2, z3, z4, z5, z6, z7, z8, z9, z10][i]?.getD 0)).cells[j]? := by
  have h : j = 0 ∨ j = 1 ∨ j = 2 ∨ j = 3 ∨ j = 4 := by omega
  have h' : i = 0 ∨ i = 1 ∨ i = 2 ∨ i = 3 ∨ i = 4 ∨ i = 5 ∨ i = 6 ∨ i = 7 ∨ i = 8 ∨ i = 9 ∨ i = 10 := by omega
  rcases h' with rfl | rfl | rfl | rfl | rfl | rfl | rfl | rfl | rfl | rfl | rfl <;> rcases h with rfl | rfl | rfl | rfl | rfl <;> rfl
theorem fields_sel : Region.noSelect opsFields = true := by kernel_rfl
theorem fields_size : opsFields.size = 46 := by kernel_rfl
theorem fields_pure (b : Nat) : pureRun Tryz.prog .any opsFields [0, 1, 2, 4, 5, 6, 8, 9, 10, 12, 13, 14, 16, 17, 18, 20, 21, 22, 24, 25, 26, 28, 29, 30, 32, 33, 34, 36, 37, 38, 40, 41, 42] (Array.replicate 46 false) ⟨#[.pointer (some ⟨b, 0, none⟩), ud, .slice none 0 0, ud, ud, ud, ud, ud, ud, ud, ud, ud, ud, ud, ud, ud, ud, ud, ud, ud, ud, ud, ud, ud, ud, ud, ud, ud, ud, ud, ud, ud, ud, ud, ud, ud, ud, ud, ud, ud, ud, ud, ud, ud, ud, ud, ud, ud], []⟩ = some (#[true, true, true, false, true, true, true, false, true, true, true, false, true, true, true, false, true, true, true, false, true, true, true, false, true, true, true, false, true, true, true, false, true, true, true, false, true, true, true, false, true, true, true, false, false, false], ⟨#[.pointer (some ⟨b, 0, none⟩), ud, .slice none 0 0, .pointer (some ⟨b, 0, none⟩), .pointer (some ⟨b, 0, none⟩), .pointer (some ⟨b, 0, none⟩), ud, .pointer (some ⟨b, 0, none⟩), .pointer (some ⟨b, 0, none⟩), .pointer (some ⟨b, 1, none⟩), ud, .pointer (some ⟨b, 0, none⟩), .pointer (some ⟨b, 0, none⟩), .pointer (some ⟨b, 2, none⟩), ud, .pointer (some ⟨b, 0, none⟩), .pointer (some ⟨b, 0, none⟩), .pointer (some ⟨b, 3, none⟩), ud, .pointer (some ⟨b, 0, none⟩), .pointer (some ⟨b, 0, none⟩), .pointer (some ⟨b, 4, none⟩), ud, .pointer (some ⟨b, 0, none⟩), .pointer (some ⟨b, 0, none⟩), .pointer (some ⟨b, 5, none⟩), ud, .pointer (some ⟨b, 0, none⟩), .pointer (some ⟨b, 0, none⟩), .pointer (some ⟨b, 6, none⟩), ud, .pointer (some ⟨b, 0, none⟩), .pointer (some ⟨b, 0, none⟩), .pointer (some ⟨b, 7, none⟩), ud, .pointer (some ⟨b, 0, none⟩), .pointer (some ⟨b, 0, none⟩), .pointer (some ⟨b, 8, none⟩), ud, .pointer (some ⟨b, 0, none⟩), .pointer (some ⟨b, 0, none⟩), .pointer (some ⟨b, 9, none⟩), ud, .pointer (some ⟨b, 0, none⟩), .pointer (some ⟨b, 0, none⟩), .pointer (some ⟨b, 10, none⟩), ud, ud], []⟩) := by kernel_rfl
theorem fields_fn0 : (opsFields.getD 3 default).op = .call { callee := .value (.func 106), args := callArgs (opsFields.getD 3 default), argTypes := callTypes (opsFields.getD 3 default) } := by kernel_rfl
theorem fields_fn1 : (opsFields.getD 7 default).op = .call { callee := .value (.func 106), args := callArgs (opsFields.getD 7 default), argTypes := callTypes (opsFields.getD 7 default) } := by kernel_rfl
theorem fields_fn2 : (opsFields.getD 11 default).op = .call { callee := .value (.func 106), args := callArgs (opsFields.getD 11 default), argTypes := callTypes (opsFields.getD 11 default) } := by kernel_rfl
theorem fields_fn3 : (opsFields.getD 15 default).op = .call { callee := .value (.func 106), args := callArgs (opsFields.getD 15 default), argTypes := callTypes (opsFields.getD 15 default) } := by kernel_rfl
theorem fields_fn4 : (opsFields.getD 19 default).op = .call { callee := .value (.func 106), args := callArgs (opsFields.getD 19 default), argTypes := callTypes (opsFields.getD 19 default) } := by kernel_rfl
theorem fields_fn5 : (opsFields.getD 23 default).op = .call { callee := .value (.func 106), args := callArgs (opsFields.getD 23 default), argTypes := callTypes (opsFields.getD 23 default) } := by kernel_rfl
theorem fields_fn6 : (opsFields.getD 27 default).op = .call { callee := .value (.func 106), args := callArgs (opsFields.getD 27 default), argTypes := callTypes (opsFields.getD 27 default) } := by kernel_rfl
theorem fields_fn7 : (opsFields.getD 31 default).op = .call { callee := .value (.func 107), args := callArgs (opsFields.getD 31 default), argTypes := callTypes (opsFields.getD 31 default) } := by kernel_rfl
theorem fields_fn8 : (opsFields.getD 35 default).op = .call { callee := .value (.func 107), args := callArgs (opsFields.getD 35 default), argTypes := callTypes (opsFields.getD 35 default) } := by kernel_rfl
theorem fields_fn9 : (opsFields.getD 39 default).op = .call { callee := .value (.func 106), args := callArgs (opsFields.getD 39 default), argTypes := callTypes (opsFields.getD 39 default) } := by kernel_rfl
theorem fields_fn10 : (opsFields.getD 43 default).op = .call { callee := .value (.func 107), args := callArgs (opsFields.getD 43 default), argTypes := callTypes (opsFields.getD 43 default) } := by kernel_rfl
theorem state_eq {Q : Exit → Act → World → Prop} {e : Exit} {a b : Act} {w : World} (h : a = b) (hq : Q e b w) : Q e a w := h ▸ hq
theorem ent_of : ∀ args w, (callFunc 106 args).run Tryz.prog w = .ok (.enter 106 args) w := enters_of Tryz.func106 (by kernel_rfl) rfl
theorem ent_word : ∀ args w, (callFunc 107 args).run Tryz.prog w = .ok (.enter 107 args) w := enters_of Tryz.func107 (by kernel_rfl) rfl
theorem fields_new (b : Nat) (w : World) :
    Calls Tryz.prog 96 #[.pointer (some ⟨b, 0, none⟩)] w fun e w' => ∃ g ks, e = .returned (.slice (some ⟨g, 0, none⟩) 11 11) ∧ FieldsAt w' g b ks ∧ g < w'.heap.size ∧ Keeps Nob w w' ∧ w.heap.size ≤ g ∧ ∀ i, i < 11 → w.heap.size ≤ ks i := by
  go_enter Tryz.func96, Tryz.ntmps96
  go_wp2_with fail
  refine wp_region_noPanic <| region_named (R := opsFields) (by kernel_rfl) <| wp_region_fuel 46 (Array.replicate 46 false) (by kernel_rfl) fields_size rfl <| wpAny_pure' fields_sel (fun _ _ _ _ _ h => h) [0, 1, 2, 4, 5, 6, 8, 9, 10, 12, 13, 14, 16, 17, 18, 20, 21, 22, 24, 25, 26, 28, 29, 30, 32, 33, 34, 36, 37, 38, 40, 41, 42] _ _ _ _ _ 13 46 rfl (fields_pure b) ?_
  refine wpAny_call' (i := 3) (opsFields.getD 3 default) 106 #[.string ⟨#[117, 110, 98, 111, 110, 100, 105, 110, 103]⟩, .int .u64 1, .int .u64 1048576, .pointer (some ⟨b, 0, none⟩)] (by kernel_rfl) (by kernel_rfl) (by kernel_rfl) fields_fn0 (by kernel_rfl) ent_of ((of_ok ⟨#[117, 110, 98, 111, 110, 100, 105, 110, 103]⟩ 1 1048576 ⟨b, 0, none⟩ _).mono ?_)
  rintro e W0 ⟨rfl, c0, s0, k0⟩
  refine ⟨_, rfl, ?_⟩
  obtain ⟨z0, hz0⟩ : ∃ z, z = w.drew.heap.size := ⟨_, rfl⟩
  rw [← hz0] at c0 s0 ⊢
  refine wpAny_call' (i := 7) (opsFields.getD 7 default) 106 #[.string ⟨#[109, 97, 120, 97, 103, 101]⟩, .int .u64 0, .int .u64 1048576, .pointer (some ⟨b, 1, none⟩)] (by kernel_rfl) (by kernel_rfl) (by kernel_rfl) fields_fn1 (by kernel_rfl) ent_of ((of_ok ⟨#[109, 97, 120, 97, 103, 101]⟩ 0 1048576 ⟨b, 1, none⟩ _).mono ?_)
  rintro e W1 ⟨rfl, c1, s1, k1⟩
  refine ⟨_, rfl, ?_⟩
  obtain ⟨z1, hz1⟩ : ∃ z, z = W0.heap.size := ⟨_, rfl⟩
  rw [← hz1] at c1 s1 ⊢
  refine wpAny_call' (i := 11) (opsFields.getD 11 default) 106 #[.string ⟨#[101, 112, 111, 99, 104, 108, 101, 110]⟩, .int .u64 1, .int .u64 1000, .pointer (some ⟨b, 2, none⟩)] (by kernel_rfl) (by kernel_rfl) (by kernel_rfl) fields_fn2 (by kernel_rfl) ent_of ((of_ok ⟨#[101, 112, 111, 99, 104, 108, 101, 110]⟩ 1 1000 ⟨b, 2, none⟩ _).mono ?_)
  rintro e W2 ⟨rfl, c2, s2, k2⟩
  refine ⟨_, rfl, ?_⟩
  obtain ⟨z2, hz2⟩ : ∃ z, z = W1.heap.size := ⟨_, rfl⟩
  rw [← hz2] at c2 s2 ⊢
  refine wpAny_call' (i := 15) (opsFields.getD 15 default) 106 #[.string ⟨#[119, 105, 110, 100, 111, 119]⟩, .int .u64 1, .int .u64 256, .pointer (some ⟨b, 3, none⟩)] (by kernel_rfl) (by kernel_rfl) (by kernel_rfl) fields_fn3 (by kernel_rfl) ent_of ((of_ok ⟨#[119, 105, 110, 100, 111, 119]⟩ 1 256 ⟨b, 3, none⟩ _).mono ?_)
  rintro e W3 ⟨rfl, c3, s3, k3⟩
  refine ⟨_, rfl, ?_⟩
  obtain ⟨z3, hz3⟩ : ∃ z, z = W2.heap.size := ⟨_, rfl⟩
  rw [← hz3] at c3 s3 ⊢
  refine wpAny_call' (i := 19) (opsFields.getD 19 default) 106 #[.string ⟨#[101, 110, 116, 114, 105, 101, 115]⟩, .int .u64 1, .int .u64 16, .pointer (some ⟨b, 4, none⟩)] (by kernel_rfl) (by kernel_rfl) (by kernel_rfl) fields_fn4 (by kernel_rfl) ent_of ((of_ok ⟨#[101, 110, 116, 114, 105, 101, 115]⟩ 1 16 ⟨b, 4, none⟩ _).mono ?_)
  rintro e W4 ⟨rfl, c4, s4, k4⟩
  refine ⟨_, rfl, ?_⟩
  obtain ⟨z4, hz4⟩ : ∃ z, z = W3.heap.size := ⟨_, rfl⟩
  rw [← hz4] at c4 s4 ⊢
  refine wpAny_call' (i := 23) (opsFields.getD 23 default) 106 #[.string ⟨#[109, 97, 120, 97, 99, 116, 105, 118, 101]⟩, .int .u64 1, .int .u64 32, .pointer (some ⟨b, 5, none⟩)] (by kernel_rfl) (by kernel_rfl) (by kernel_rfl) fields_fn5 (by kernel_rfl) ent_of ((of_ok ⟨#[109, 97, 120, 97, 99, 116, 105, 118, 101]⟩ 1 32 ⟨b, 5, none⟩ _).mono ?_)
  rintro e W5 ⟨rfl, c5, s5, k5⟩
  refine ⟨_, rfl, ?_⟩
  obtain ⟨z5, hz5⟩ : ∃ z, z = W4.heap.size := ⟨_, rfl⟩
  rw [← hz5] at c5 s5 ⊢
  refine wpAny_call' (i := 27) (opsFields.getD 27 default) 106 #[.string ⟨#[106, 97, 105, 108, 116, 105, 109, 101]⟩, .int .u64 1, .int .u64 1048576, .pointer (some ⟨b, 6, none⟩)] (by kernel_rfl) (by kernel_rfl) (by kernel_rfl) fields_fn6 (by kernel_rfl) ent_of ((of_ok ⟨#[106, 97, 105, 108, 116, 105, 109, 101]⟩ 1 1048576 ⟨b, 6, none⟩ _).mono ?_)
  rintro e W6 ⟨rfl, c6, s6, k6⟩
  refine ⟨_, rfl, ?_⟩
  obtain ⟨z6, hz6⟩ : ∃ z, z = W5.heap.size := ⟨_, rfl⟩
  rw [← hz6] at c6 s6 ⊢
  refine wpAny_call' (i := 31) (opsFields.getD 31 default) 107 #[.string ⟨#[98, 97, 115, 101]⟩, .int .u64 1000000000, .pointer (some ⟨b, 7, none⟩)] (by kernel_rfl) (by kernel_rfl) (by kernel_rfl) fields_fn7 (by kernel_rfl) ent_word ((word_ok ⟨#[98, 97, 115, 101]⟩ 1000000000 ⟨b, 7, none⟩ _).mono ?_)
  rintro e W7 ⟨rfl, c7, s7, k7⟩
  refine ⟨_, rfl, ?_⟩
  obtain ⟨z7, hz7⟩ : ∃ z, z = W6.heap.size := ⟨_, rfl⟩
  rw [← hz7] at c7 s7 ⊢
  refine wpAny_call' (i := 35) (opsFields.getD 35 default) 107 #[.string ⟨#[109, 117, 108, 116]⟩, .int .u64 1000, .pointer (some ⟨b, 8, none⟩)] (by kernel_rfl) (by kernel_rfl) (by kernel_rfl) fields_fn8 (by kernel_rfl) ent_word ((word_ok ⟨#[109, 117, 108, 116]⟩ 1000 ⟨b, 8, none⟩ _).mono ?_)
  rintro e W8 ⟨rfl, c8, s8, k8⟩
  refine ⟨_, rfl, ?_⟩
  obtain ⟨z8, hz8⟩ : ∃ z, z = W7.heap.size := ⟨_, rfl⟩
  rw [← hz8] at c8 s8 ⊢
  refine wpAny_call' (i := 39) (opsFields.getD 39 default) 106 #[.string ⟨#[99, 111, 114, 114, 119, 105, 110, 100, 111, 119]⟩, .int .u64 1, .int .u64 1048576, .pointer (some ⟨b, 9, none⟩)] (by kernel_rfl) (by kernel_rfl) (by kernel_rfl) fields_fn9 (by kernel_rfl) ent_of ((of_ok ⟨#[99, 111, 114, 114, 119, 105, 110, 100, 111, 119]⟩ 1 1048576 ⟨b, 9, none⟩ _).mono ?_)
  rintro e W9 ⟨rfl, c9, s9, k9⟩
  refine ⟨_, rfl, ?_⟩
  obtain ⟨z9, hz9⟩ : ∃ z, z = W8.heap.size := ⟨_, rfl⟩
  rw [← hz9] at c9 s9 ⊢
  refine wpAny_call' (i := 43) (opsFields.getD 43 default) 107 #[.string ⟨#[114, 101, 119, 97, 114, 100]⟩, .int .u64 1000000000, .pointer (some ⟨b, 10, none⟩)] (by kernel_rfl) (by kernel_rfl) (by kernel_rfl) fields_fn10 (by kernel_rfl) ent_word ((word_ok ⟨#[114, 101, 119, 97, 114, 100]⟩ 1000000000 ⟨b, 10, none⟩ _).mono ?_)
  rintro e W10 ⟨rfl, c10, s10, k10⟩
  refine ⟨_, rfl, ?_⟩
  obtain ⟨z10, hz10⟩ : ∃ z, z = W9.heap.size := ⟨_, rfl⟩
  rw [← hz10] at c10 s10 ⊢
  refine wpAny_run (i := 44) (opsFields.getD 44 default) (.slice (some ⟨W10.heap.size, 0, none⟩) 11 11) (w' := W10.alloc (.cells (fieldCells [z0, z1, z2, z3, z4, z5, z6, z7, z8, z9, z10]) 161)) (by kernel_rfl) (by kernel_rfl) (by kernel_rfl) (by kernel_rfl) <| wpAny_run (i := 45) (opsFields.getD 45 default) (.slice (some ⟨W10.heap.size, 0, none⟩) 11 11) (w' := W10.alloc (.cells (fieldCells [z0, z1, z2, z3, z4, z5, z6, z7, z8, z9, z10]) 161)) (by kernel_rfl) (by kernel_rfl) (by kernel_rfl) (by kernel_rfl) ?_
  refine wpAny_done (by kernel_rfl) ?_ _
  generalize hR : W10.alloc (.cells (fieldCells [z0, z1, z2, z3, z4, z5, z6, z7, z8, z9, z10]) 161) = V at *
  refine NoPanic.normal <| state_eq (b := ⟨#[.pointer (some ⟨b, 0, none⟩), ud, (.slice (some ⟨W10.heap.size, 0, none⟩) 11 11), .pointer (some ⟨b, 0, none⟩), .pointer (some ⟨b, 0, none⟩), .pointer (some ⟨b, 0, none⟩), fieldV (.string ⟨#[117, 110, 98, 111, 110, 100, 105, 110, 103]⟩) 1 1048576 109 110 z0, .pointer (some ⟨b, 0, none⟩), .pointer (some ⟨b, 0, none⟩), .pointer (some ⟨b, 1, none⟩), fieldV (.string ⟨#[109, 97, 120, 97, 103, 101]⟩) 0 1048576 109 110 z1, .pointer (some ⟨b, 0, none⟩), .pointer (some ⟨b, 0, none⟩), .pointer (some ⟨b, 2, none⟩), fieldV (.string ⟨#[101, 112, 111, 99, 104, 108, 101, 110]⟩) 1 1000 109 110 z2, .pointer (some ⟨b, 0, none⟩), .pointer (some ⟨b, 0, none⟩), .pointer (some ⟨b, 3, none⟩), fieldV (.string ⟨#[119, 105, 110, 100, 111, 119]⟩) 1 256 109 110 z3, .pointer (some ⟨b, 0, none⟩), .pointer (some ⟨b, 0, none⟩), .pointer (some ⟨b, 4, none⟩), fieldV (.string ⟨#[101, 110, 116, 114, 105, 101, 115]⟩) 1 16 109 110 z4, .pointer (some ⟨b, 0, none⟩), .pointer (some ⟨b, 0, none⟩), .pointer (some ⟨b, 5, none⟩), fieldV (.string ⟨#[109, 97, 120, 97, 99, 116, 105, 118, 101]⟩) 1 32 109 110 z5, .pointer (some ⟨b, 0, none⟩), .pointer (some ⟨b, 0, none⟩), .pointer (some ⟨b, 6, none⟩), fieldV (.string ⟨#[106, 97, 105, 108, 116, 105, 109, 101]⟩) 1 1048576 109 110 z6, .pointer (some ⟨b, 0, none⟩), .pointer (some ⟨b, 0, none⟩), .pointer (some ⟨b, 7, none⟩), fieldV (.string ⟨#[98, 97, 115, 101]⟩) 0 1000000000 111 112 z7, .pointer (some ⟨b, 0, none⟩), .pointer (some ⟨b, 0, none⟩), .pointer (some ⟨b, 8, none⟩), fieldV (.string ⟨#[109, 117, 108, 116]⟩) 0 1000 111 112 z8, .pointer (some ⟨b, 0, none⟩), .pointer (some ⟨b, 0, none⟩), .pointer (some ⟨b, 9, none⟩), fieldV (.string ⟨#[99, 111, 114, 114, 119, 105, 110, 100, 111, 119]⟩) 1 1048576 109 110 z9, .pointer (some ⟨b, 0, none⟩), .pointer (some ⟨b, 0, none⟩), .pointer (some ⟨b, 10, none⟩), fieldV (.string ⟨#[114, 101, 119, 97, 114, 100]⟩) 0 1000000000 111 112 z10, (.slice (some ⟨W10.heap.size, 0, none⟩) 11 11)], []⟩) (by kernel_rfl) ?_
  have hk : Keeps Nob W10 V := by rw [← hR]; exact (Keeps.refl _ _).alloc _
  have hcl : ∀ j, V.cell? ⟨W10.heap.size, j, none⟩ = (fieldCells [z0, z1, z2, z3, z4, z5, z6, z7, z8, z9, z10])[j]? := fun j => by rw [← hR]; exact World.cell?_alloc_at _ _ _ _ rfl
  have hsz : W10.heap.size < V.heap.size := by rw [← hR]; simp
  have q10 : Keeps Nob W10 V := hk
  have q9 : Keeps Nob W9 V := k10.trans q10
  have q8 : Keeps Nob W8 V := k9.trans q9
  have q7 : Keeps Nob W7 V := k8.trans q8
  have q6 : Keeps Nob W6 V := k7.trans q7
  have q5 : Keeps Nob W5 V := k6.trans q6
  have q4 : Keeps Nob W4 V := k5.trans q5
  have q3 : Keeps Nob W3 V := k4.trans q4
  have q2 : Keeps Nob W2 V := k3.trans q3
  have q1 : Keeps Nob W1 V := k2.trans q2
  have q0 : Keeps Nob W0 V := k1.trans q1
  have hall : Keeps Nob w V := ((Keeps.refl Nob w).drew.trans k0).trans q0
  have d0 := (q0.cell (i := 0) s0 (fun x => x)).trans c0
  have d1 := (q1.cell (i := 0) s1 (fun x => x)).trans c1
  have d2 := (q2.cell (i := 0) s2 (fun x => x)).trans c2
  have d3 := (q3.cell (i := 0) s3 (fun x => x)).trans c3
  have d4 := (q4.cell (i := 0) s4 (fun x => x)).trans c4
  have d5 := (q5.cell (i := 0) s5 (fun x => x)).trans c5
  have d6 := (q6.cell (i := 0) s6 (fun x => x)).trans c6
  have d7 := (q7.cell (i := 0) s7 (fun x => x)).trans c7
  have d8 := (q8.cell (i := 0) s8 (fun x => x)).trans c8
  have d9 := (q9.cell (i := 0) s9 (fun x => x)).trans c9
  have d10 := (q10.cell (i := 0) s10 (fun x => x)).trans c10
  have HF : Hid (FieldsAt V W10.heap.size b (fun i => [z0, z1, z2, z3, z4, z5, z6, z7, z8, z9, z10][i]?.getD 0)) := Lib.hid ⟨fun i j hi hj => (hcl _).trans (fieldCells_get _ _ _ _ _ _ _ _ _ _ _ i j hi hj), fun i hi => by
    have h' : i = 0 ∨ i = 1 ∨ i = 2 ∨ i = 3 ∨ i = 4 ∨ i = 5 ∨ i = 6 ∨ i = 7 ∨ i = 8 ∨ i = 9 ∨ i = 10 := by omega
    rcases h' with rfl | rfl | rfl | rfl | rfl | rfl | rfl | rfl | rfl | rfl | rfl <;> assumption⟩
  have l0 : w.heap.size ≤ z0 := by rw [hz0]; exact Nat.le_refl _
  have y0 : w.heap.size ≤ W0.heap.size := k0.size
  have l1 : w.heap.size ≤ z1 := by rw [hz1]; exact y0
  have y1 : w.heap.size ≤ W1.heap.size := Nat.le_trans y0 k1.size
  have l2 : w.heap.size ≤ z2 := by rw [hz2]; exact y1
  have y2 : w.heap.size ≤ W2.heap.size := Nat.le_trans y1 k2.size
  have l3 : w.heap.size ≤ z3 := by rw [hz3]; exact y2
  have y3 : w.heap.size ≤ W3.heap.size := Nat.le_trans y2 k3.size
  have l4 : w.heap.size ≤ z4 := by rw [hz4]; exact y3
  have y4 : w.heap.size ≤ W4.heap.size := Nat.le_trans y3 k4.size
  have l5 : w.heap.size ≤ z5 := by rw [hz5]; exact y4
  have y5 : w.heap.size ≤ W5.heap.size := Nat.le_trans y4 k5.size
  have l6 : w.heap.size ≤ z6 := by rw [hz6]; exact y5
  have y6 : w.heap.size ≤ W6.heap.size := Nat.le_trans y5 k6.size
  have l7 : w.heap.size ≤ z7 := by rw [hz7]; exact y6
  have y7 : w.heap.size ≤ W7.heap.size := Nat.le_trans y6 k7.size
  have l8 : w.heap.size ≤ z8 := by rw [hz8]; exact y7
  have y8 : w.heap.size ≤ W8.heap.size := Nat.le_trans y7 k8.size
  have l9 : w.heap.size ≤ z9 := by rw [hz9]; exact y8
  have y9 : w.heap.size ≤ W9.heap.size := Nat.le_trans y8 k9.size
  have l10 : w.heap.size ≤ z10 := by rw [hz10]; exact y9
  have y10 : w.heap.size ≤ W10.heap.size := Nat.le_trans y9 k10.size
  have HN : Hid (w.heap.size ≤ W10.heap.size ∧ ∀ i, i < 11 → w.heap.size ≤ [z0, z1, z2, z3, z4, z5, z6, z7, z8, z9, z10][i]?.getD 0) := Lib.hid ⟨y10, fun i hi => by
    have h' : i = 0 ∨ i = 1 ∨ i = 2 ∨ i = 3 ∨ i = 4 ∨ i = 5 ∨ i = 6 ∨ i = 7 ∨ i = 8 ∨ i = 9 ∨ i = 10 := by omega
    rcases h' with rfl | rfl | rfl | rfl | rfl | rfl | rfl | rfl | rfl | rfl | rfl <;> assumption⟩
  clear l0 y0 l1 y1 l2 y2 l3 y3 l4 y4 l5 y5 l6 y6 l7 y7 l8 y8 l9 y9 l10 y10
  clear hcl c0 s0 k0 d0 q0 hz0 c1 s1 k1 d1 q1 hz1 c2 s2 k2 d2 q2 hz2 c3 s3 k3 d3 q3 hz3 c4 s4 k4 d4 q4 hz4 c5 s5 k5 d5 q5 hz5 c6 s6 k6 d6 q6 hz6 c7 s7 k7 d7 q7 hz7 c8 s8 k8 d8 q8 hz8 c9 s9 k9 d9 q9 hz9 c10 s10 k10 d10 q10 hz10 hR
  go_wp2
  go_ret
  exact ⟨_, _, rfl, HF.out, hsz, hall, HN.out.1, HN.out.2⟩
theorem fields_ok (b : Nat) (w : World) :
    Calls Tryz.prog 96 #[.pointer (some ⟨b, 0, none⟩)] w fun e w' => ∃ g ks, e = .returned (.slice (some ⟨g, 0, none⟩) 11 11) ∧ FieldsAt w' g b ks ∧ g < w'.heap.size ∧ Keeps Nob w w' :=
  (fields_new b w).mono fun _ _ ⟨g, ks, h1, h2, h3, h4, _⟩ => ⟨g, ks, h1, h2, h3, h4⟩
end Go.Proofs.YtghohakbepeffaaGreatDoor
namespace Go.Proofs.YtghohakbepeffaaGreatDoor
set_option maxRecDepth 100000
set_option maxHeartbeats 4000000
set_option maxRecDepth 100000
open Go Go.RowKit Go.Own Go.Shelf
/-- A field's reader tells its number. -/
theorem get_ok (p : Par) (hp : p.Ok) (i b k : Nat) (hi : i < 11) (V : World) (hbox : V.cell? ⟨k, 0, none⟩ = some (.pointer (some ⟨b, i, none⟩))) (hc : ∀ x, p.cells[i]? = some x → V.cell? ⟨b, i, none⟩ = some x) :
    Calls Tryz.prog (parGet[i]?.getD 0) #[.pointer (some ⟨k, 0, none⟩)] V fun e w' => e = .returned (.tuple #[.int .u64 (max (p.l[i]?.getD 0) 0), .bool (decide (0 ≤ p.l[i]?.getD 0))]) ∧ Keeps Nob V w' := by
  have h' : i = 0 ∨ i = 1 ∨ i = 2 ∨ i = 3 ∨ i = 4 ∨ i = 5 ∨ i = 6 ∨ i = 7 ∨ i = 8 ∨ i = 9 ∨ i = 10 := by omega
  rcases h' with rfl | rfl | rfl | rfl | rfl | rfl | rfl | rfl | rfl | rfl | rfl
  · exact of1_ok k ⟨b, 0, none⟩ p.unb V hbox (hc _ rfl) hp.unb.1 hp.unb.2
  · exact of1_ok k ⟨b, 1, none⟩ p.mage V hbox (hc _ rfl) hp.mage.1 hp.mage.2
  · exact of1_ok k ⟨b, 2, none⟩ p.elen V hbox (hc _ rfl) hp.elen.1 hp.elen.2
  · exact of1_ok k ⟨b, 3, none⟩ p.win V hbox (hc _ rfl) hp.win.1 hp.win.2
  · exact of1_ok k ⟨b, 4, none⟩ p.ent V hbox (hc _ rfl) hp.ent.1 hp.ent.2
  · exact of1_ok k ⟨b, 5, none⟩ p.act V hbox (hc _ rfl) hp.act.1 hp.act.2
  · exact of1_ok k ⟨b, 6, none⟩ p.jail V hbox (hc _ rfl) hp.jail.1 hp.jail.2
  · have h0 := hp.base.1
    have := word1_ok k ⟨b, 7, none⟩ p.base V hbox (hc _ rfl)
    simpa [parGet, Par.l, h0, Int.max_eq_left h0] using this
  · have h0 := hp.mult.1
    have := word1_ok k ⟨b, 8, none⟩ p.mult V hbox (hc _ rfl)
    simpa [parGet, Par.l, h0, Int.max_eq_left h0] using this
  · exact of1_ok k ⟨b, 9, none⟩ p.corr V hbox (hc _ rfl) hp.corr.1 hp.corr.2
  · have h0 := hp.rew.1
    have := word1_ok k ⟨b, 10, none⟩ p.rew V hbox (hc _ rfl)
    simpa [parGet, Par.l, h0, Int.max_eq_left h0] using this
theorem get_enters (i : Nat) (hi : i < 11) : ∀ args w, (callFunc (parGet[i]?.getD 0) args).run Tryz.prog w = .ok (.enter (parGet[i]?.getD 0) args) w := by
  have h' : i = 0 ∨ i = 1 ∨ i = 2 ∨ i = 3 ∨ i = 4 ∨ i = 5 ∨ i = 6 ∨ i = 7 ∨ i = 8 ∨ i = 9 ∨ i = 10 := by omega
  have e1 : ∀ args w, (callFunc 109 args).run Tryz.prog w = .ok (.enter 109 args) w := enters_of Tryz.func109 (by kernel_rfl) rfl
  have e2 : ∀ args w, (callFunc 111 args).run Tryz.prog w = .ok (.enter 111 args) w := enters_of Tryz.func111 (by kernel_rfl) rfl
  rcases h' with rfl | rfl | rfl | rfl | rfl | rfl | rfl | rfl | rfl | rfl | rfl <;> first | exact e1 | exact e2
theorem good_iff (p : Par) (i : Nat) (hi : i < 11) : p.good i ↔ 0 ≤ p.l[i]?.getD 0 ∧ parLoU[i]?.getD 0 ≤ max (p.l[i]?.getD 0) 0 ∧ max (p.l[i]?.getD 0) 0 ≤ parHiU[i]?.getD 0 := by
  have h' : i = 0 ∨ i = 1 ∨ i = 2 ∨ i = 3 ∨ i = 4 ∨ i = 5 ∨ i = 6 ∨ i = 7 ∨ i = 8 ∨ i = 9 ∨ i = 10 := by omega
  rcases h' with rfl | rfl | rfl | rfl | rfl | rfl | rfl | rfl | rfl | rfl | rfl <;> simp [Par.good, Par.l, parLo, parHi, parLoU, parHiU] <;> omega
theorem pCheck_ok (p : Par) (hp : p.Ok) (w : World) :
    Calls Tryz.prog 82 #[p.v] w fun e w' => e = .returned (.tuple #[.int .i64 p.check.1, .int .i64 p.check.2]) ∧ Keeps Nob w w' := by
  obtain ⟨ce, hce⟩ : ∃ c, p.check = c := ⟨_, rfl⟩
  rw [hce]
  have HCE := Lib.hid hce; clear hce
  obtain ⟨cs, hcs⟩ : ∃ cs, p.cells = cs := ⟨_, rfl⟩
  have hv : p.v = .agg cs := by rw [← hcs]; rfl
  rw [hv]
  have hcz : cs.size = 11 := by rw [← hcs]; rfl
  have hc0 : cs[0]? = some (.int .i64 p.unb) := by rw [← hcs]; rfl
  have hc1 : cs[1]? = some (.int .i64 p.mage) := by rw [← hcs]; rfl
  have HCS := Lib.hid hcs
  clear hcs hv
  go_enter Tryz.func82, Tryz.ntmps82
  go_wp2_with (go_at_call 96; refine (fields_ok _ _).mono ?_; rintro e V ⟨g, ks, rfl, hF, hg, hk⟩; have HF := Lib.hid hF; clear hF)
  have hk0 := ((Keeps.refl Nob w).alloc (.cells cs 51)).trans hk
  have hb : w.heap.size < (w.alloc (.cells cs 51)).heap.size := by simp
  have HP : Hid (∀ i x, cs[i]? = some x → V.cell? ⟨w.heap.size, i, none⟩ = some x) := Lib.hid (fun i x hx => (hk.cell (i := i) hb (fun x => x)).trans ((World.cell?_alloc_at _ _ _ _ rfl).trans hx))
  have q0 := HP.out 0 _ hc0
  have q1 := HP.out 1 _ hc1
  have hsz : w.heap.size < V.heap.size := Nat.lt_of_lt_of_le hb hk.size
  clear hk hb hc0 hc1
  go_loopg [10] 11 (fun g i V1 => ∃ k : Nat, k ≤ 11 ∧ g = 11 - k ∧ i = .int .i64 k ∧ Hid (∀ j, j < k → p.good j) ∧ Keeps Nob V V1)
  case atStart => exact ⟨0, by omega, rfl, rfl, Lib.hid (fun j hj => by omega), Keeps.refl _ _⟩
  case round =>
    obtain ⟨k, hk, hgf, rfl, HG, hkp⟩ := hrel
    by_cases hlt : k < 11
    · have hfc : ∀ j v, j < 5 → (parField k (ks k)).cells[j]? = some v → wr.cell? ⟨g, k * 5 + j, none⟩ = some v := fun j v hj hv => (hkp.cell (i := k * 5 + j) hg (fun x => x)).trans ((HF.out.cell k j hlt hj).trans hv)
      have f0 : wr.cell? ⟨g, k * 5, none⟩ = some (.string (parName[k]?.getD ⟨#[]⟩)) := hfc 0 _ (by omega) rfl
      have f1 : wr.cell? ⟨g, k * 5 + 1, none⟩ = some (.int .u64 (parLoU[k]?.getD 0)) := hfc 1 _ (by omega) rfl
      have f2 : wr.cell? ⟨g, k * 5 + 2, none⟩ = some (.int .u64 (parHiU[k]?.getD 0)) := hfc 2 _ (by omega) rfl
      have f3 : wr.cell? ⟨g, k * 5 + 3, none⟩ = some (.func (.func (parGet[k]?.getD 0)) #[] #[.pointer (some ⟨ks k, 0, none⟩)]) := hfc 3 _ (by omega) rfl
      have f4 : wr.cell? ⟨g, k * 5 + 4, none⟩ = some (.func (.func (parSet[k]?.getD 0)) #[] #[.pointer (some ⟨ks k, 0, none⟩)]) := hfc 4 _ (by omega) rfl
      clear hfc
      have hent := get_enters k hlt
      have hks : ks k < V.heap.size := World.block_lt_of_cell? V _ (HF.out.box k hlt)
      have GETH : Hid (∀ W, Keeps Nob V W → Calls Tryz.prog (parGet[k]?.getD 0) #[.pointer (some ⟨ks k, 0, none⟩)] W fun e w' => e = .returned (.tuple #[.int .u64 (max (p.l[k]?.getD 0) 0), .bool (decide (0 ≤ p.l[k]?.getD 0))]) ∧ Keeps Nob W w') :=
        Lib.hid (fun W hW => get_ok p hp k w.heap.size (ks k) hlt W ((hW.cell hks (fun x => x)).trans (HF.out.box k hlt)) (fun x hx => (hW.cell hsz (fun x => x)).trans (HP.out k x (by rw [← HCS.out]; exact hx))))
      have hgi := good_iff p k hlt
      generalize parName[k]?.getD ⟨#[]⟩ = nm at *
      generalize parLoU[k]?.getD 0 = lo at *
      generalize parHiU[k]?.getD 0 = hi at *
      generalize parGet[k]?.getD 0 = gk at *
      generalize parSet[k]?.getD 0 = sk at *
      generalize max (p.l[k]?.getD 0) 0 = x at *
      by_cases h1 : 0 ≤ p.l[k]?.getD 0
      · have hd := decide_eq_true h1
        rw [hd] at GETH
        by_cases h2 : lo ≤ x ∧ x ≤ hi
        · have hw : (decide (lo ≤ x) && decide (x ≤ hi)) = true := by simp; exact h2
          have hgood := hgi.2 ⟨h1, h2⟩
          have HG1 := Lib.hid (fun j hj => (Nat.lt_succ_iff_lt_or_eq.1 hj).elim (HG.out j) (fun e => e ▸ hgood) : ∀ j, j < k + 1 → p.good j)
          have WI := Lib.hid (fun nm f g W => within_ok nm f g lo hi x W)
          rw [hw] at WI
          clear hgi hgood hd h1 h2 hw
          go_wp2_with fail
          refine (GETH.out _ (hkp.alloc _)).mono ?_
          rintro e W1 ⟨rfl, k1⟩
          have c0 := (k1.cell (k := wr.heap.size) (i := 0) (by simp) (fun x => x)).trans ((World.cell?_alloc_at _ _ _ _ rfl).trans rfl)
          have c1 := (k1.cell (k := wr.heap.size) (i := 1) (by simp) (fun x => x)).trans ((World.cell?_alloc_at _ _ _ _ rfl).trans rfl)
          have c2 := (k1.cell (k := wr.heap.size) (i := 2) (by simp) (fun x => x)).trans ((World.cell?_alloc_at _ _ _ _ rfl).trans rfl)
          have c3 := (k1.cell (k := wr.heap.size) (i := 3) (by simp) (fun x => x)).trans ((World.cell?_alloc_at _ _ _ _ rfl).trans rfl)
          have c4 := (k1.cell (k := wr.heap.size) (i := 4) (by simp) (fun x => x)).trans ((World.cell?_alloc_at _ _ _ _ rfl).trans rfl)
          go_wp2_with fail
          refine (WI.out _ _ _ _).mono ?_
          rintro e W2 ⟨rfl, k2⟩
          clear c0 c1 c2 c3 c4
          go_wp2_with fail
          go_roundg (11 - (k + 1))
          case measure => omega
          case rel => exact ⟨k + 1, by omega, rfl, by go_num, HG1, ((hkp.alloc _).trans k1).trans k2⟩
        · have hw : (decide (lo ≤ x) && decide (x ≤ hi)) = false := by
            rw [Bool.and_eq_false_iff]; simp; omega
          obtain rfl : ce = (3, (k : Int)) := HCE.out.symm.trans (p.check_bad k hlt HG.out (fun h => h2 (hgi.1 h).2))
          have WI := Lib.hid (fun nm f g W => within_ok nm f g lo hi x W)
          rw [hw] at WI
          clear hgi hd h1 h2 hw
          go_wp2_with fail
          refine (GETH.out _ (hkp.alloc _)).mono ?_
          rintro e W1 ⟨rfl, k1⟩
          have c0 := (k1.cell (k := wr.heap.size) (i := 0) (by simp) (fun x => x)).trans ((World.cell?_alloc_at _ _ _ _ rfl).trans rfl)
          have c1 := (k1.cell (k := wr.heap.size) (i := 1) (by simp) (fun x => x)).trans ((World.cell?_alloc_at _ _ _ _ rfl).trans rfl)
          have c2 := (k1.cell (k := wr.heap.size) (i := 2) (by simp) (fun x => x)).trans ((World.cell?_alloc_at _ _ _ _ rfl).trans rfl)
          have c3 := (k1.cell (k := wr.heap.size) (i := 3) (by simp) (fun x => x)).trans ((World.cell?_alloc_at _ _ _ _ rfl).trans rfl)
          have c4 := (k1.cell (k := wr.heap.size) (i := 4) (by simp) (fun x => x)).trans ((World.cell?_alloc_at _ _ _ _ rfl).trans rfl)
          go_wp2_with fail
          refine (WI.out _ _ _ _).mono ?_
          rintro e W2 ⟨rfl, k2⟩
          clear c0 c1 c2 c3 c4
          go_wp2_with fail
          go_ret2
          exact ⟨rfl, hk0.trans (((hkp.alloc _).trans k1).trans k2)⟩
      · have hd := decide_eq_false h1
        rw [hd] at GETH
        obtain rfl : ce = (3, (k : Int)) := HCE.out.symm.trans (p.check_bad k hlt HG.out (fun h => h1 (hgi.1 h).1))
        clear hgi hd h1
        go_wp2_with fail
        refine (GETH.out _ (hkp.alloc _)).mono ?_
        rintro e W1 ⟨rfl, k1⟩
        go_wp2_with fail
        go_ret2
        exact ⟨rfl, hk0.trans ((hkp.alloc _).trans k1)⟩
    · have h1 : decide ((k : Int) < 11) = false := by simp; omega
      have hk11 : k = 11 := by omega
      have q0 := (hkp.cell (i := 0) hsz (fun x => x)).trans q0
      have q1 := (hkp.cell (i := 1) hsz (fun x => x)).trans q1
      have hce := HCE.out.symm.trans (p.check_good (fun j hj => HG.out j (by omega)))
      by_cases hm : p.unb < p.mage
      · rw [if_pos hm] at hce
        subst hce
        clear HCE
        go_wp2_with fail
        go_ret2
        exact ⟨rfl, hk0.trans hkp⟩
      · rw [if_neg hm] at hce
        subst hce
        clear HCE
        have hmd : decide (p.unb < p.mage) = false := by simpa using hm
        go_wp2_with fail
        go_ret2
        exact ⟨rfl, hk0.trans hkp⟩
end Go.Proofs.YtghohakbepeffaaGreatDoor
namespace Go.Proofs.YtghohakbepeffaaGreatDoor
set_option maxRecDepth 100000
set_option maxHeartbeats 4000000
open Go Go.RowKit Go.Own Go.Shelf
theorem note_info0 : (Tryz.prog.info? 46).map (fun i => (i.zero, i.size, i.bytes)) = some (some (.agg #[.int .i64 0, .int .u64 0]), 2, 16) := by kernel_rfl
theorem nrow_empty {w : World} {g size : Nat} {T : TypeId} (h : w.heap[g]? = some (.cells #[] T (0, 0))) (_ : (#[] : Array Value).size = 0) (_ : 0 ≤ maxLen) : Row w T size (.slice (some ⟨g, 0, none⟩) 0 0) 0 [] :=
  ⟨by simp, .inr ⟨g, 0, #[], rfl, Nat.zero_le _, h, Nat.le_refl _, Nat.zero_le _, by simp, by simp⟩⟩
theorem Nt.cl_one (x : Nt) : ∀ u ∈ Nt.cl x, u.oneCell' = true := fun u hu => by
  simp only [Nt.cl, List.mem_cons, List.not_mem_nil, or_false] at hu
  rcases hu with rfl | rfl <;> rfl
theorem src_nt {w : World} {g : Nat} {x : Nt} {T : TypeId} (h : w.heap[g]? = some (.cells #[.int .i64 x.h, .int .u64 ((x.s : Nat) : Int)] T (0, 0))) : Own.Src w 2 (.slice (some ⟨g, 0, none⟩) 1 1) 1 (Nt.cl x) :=
  ⟨rfl, Nt.cl_one x, .inr ⟨_, _, rfl, fun j u hj => by simp only [Addr.add_lit, Nat.zero_add]; exact rc h (by simpa [Nt.cl] using hj)⟩⟩
theorem row_nt {w : World} {T : TypeId} {v : Value} {l m : List Nt} {x : Nt} (e : m = l ++ [x]) (h : Row w T 2 v (l.length + 1) (l.flatMap Nt.cl ++ Nt.cl x)) : Row w T 2 v m.length (m.flatMap Nt.cl) := by
  subst e; rw [List.flatMap_append, List.length_append]; simpa using h
theorem row_nts {w : World} {T : TypeId} {v : Value} {l : List Nt} (h : Row w T 2 v l.length (l.flatMap Nt.cl)) : Sl w 2 Nt.cl v l := Row.sl h rfl (fun _ _ => rfl)
theorem nCheck_is (l : List Nt) (v : Value) (x : Int) (w : World) (hl : Sl w 2 Nt.cl v l) (het : ErrTab w) (hx : (ncheck l).1 = x) : Calls Tryz.prog 22 #[v] w (fun e w' => e = .returned (.tuple #[.int .i64 x, .int .i64 (ncheck l).2]) ∧ Keeps Nob w w') := hx ▸ nCheck_ok l v w hl het
theorem npCheck_is (p : Par) (x : Int) (w : World) (hp : p.Ok) (hx : p.check.1 = x) : Calls Tryz.prog 82 #[.agg p.cells] w (fun e w' => e = .returned (.tuple #[.int .i64 x, .int .i64 p.check.2]) ∧ Keeps Nob w w') := hx ▸ pCheck_ok p hp w
noncomputable def qc37_0 (n : Nat) : Code := partOf Tryz.f61 n
theorem nRefused_par (p : Par) (hp : p.Ok) (l : List Nt) (v : Value) (h : Int) (w : World) (hl : Sl w 2 Nt.cl v l) (hc0 : ¬ p.check.1 = 0) (het : ErrTab w) :
    Calls Tryz.prog 61 #[.agg p.cells, v, .int .i64 h] w (fun e w' => e = .returned (.int .i64 (nref p l h)) ∧ Keeps Nob w w') := by
  have K0 : Keeps Nob w w := Keeps.refl _ _
  refine sy_enter (qc37_0 1) ⟨#[.agg p.cells, v, .int .i64 h, ud, ud, ud, ud, ud, ud, ud, ud, ud, ud, ud, ud, ud, ud, ud, ud, ud, ud, ud, ud, ud, ud, ud, ud, ud, ud, ud, ud, ud, ud], []⟩ Tryz.func61 (by kernel_rfl) (by kernel_rfl) <| qr_ [0, 1] <| pbx 51 p.cells (.agg p.cells) fun V1 gp egp h2 kV1 => ?_
  have n3 : w.heap.size ≤ gp := egp ▸ K0.size
  have K5 := K0.nn kV1
  have z6 := kV1.size
  refine pkq (.int .i64 0) <| eq_ <| qr_ [0, 1, 2, 3, 4, 5, 6] <| ppq (.agg (p.cells)) (ldr 51 gp (h2) (by kernel_rfl)) ?_
  refine pcq 82 #[.agg (p.cells)] Tryz.func82 ((npCheck_is p _ _ hp rfl).mono ?_)
  rintro e V7 ⟨rfl, kV7⟩
  refine ⟨_, rfl, ?_⟩
  have K10 := K5.nn kV7
  have z11 := kV7.size
  refine pkq (.tuple #[.int .i64 p.check.1, .int .i64 p.check.2]) <| pkq (.int .i64 p.check.1) <| pkq (.int .i64 p.check.2) <| pkq (.int .i64 p.check.1) <| pkq (.int .i64 p.check.2) <| eqr_ [0, 1] <| pkq (.int .i64 p.check.1) <| ppq (.bool true) (nqt ((p.check.1) : Int) ((0) : Int) (by omega)) <| ey_ <| qr_ [0, 1] <| pkq (.int .i64 p.check.1) <| pkq (.int .i64 p.check.1) <| eu_ <| then_r ?_
  refine so_ (.int .i64 p.check.1) ?_
  exact ⟨by unfold nref; rw [if_pos hc0], K10⟩
theorem nRefused_chk (p : Par) (hp : p.Ok) (l : List Nt) (v : Value) (h : Int) (w : World) (hl : Sl w 2 Nt.cl v l) (hc0 : p.check.1 = 0) (hc1 : ¬ (ncheck l).1 = 0) (het : ErrTab w) :
    Calls Tryz.prog 61 #[.agg p.cells, v, .int .i64 h] w (fun e w' => e = .returned (.int .i64 (nref p l h)) ∧ Keeps Nob w w') := by
  have K0 : Keeps Nob w w := Keeps.refl _ _
  refine sy_enter (qc37_0 1) ⟨#[.agg p.cells, v, .int .i64 h, ud, ud, ud, ud, ud, ud, ud, ud, ud, ud, ud, ud, ud, ud, ud, ud, ud, ud, ud, ud, ud, ud, ud, ud, ud, ud, ud, ud, ud, ud], []⟩ Tryz.func61 (by kernel_rfl) (by kernel_rfl) <| qr_ [0, 1] <| pbx 51 p.cells (.agg p.cells) fun V1 gp egp h2 kV1 => ?_
  have n3 : w.heap.size ≤ gp := egp ▸ K0.size
  have h4 : Sl V1 2 Nt.cl v l := hl.keepsN kV1
  have K5 := K0.nn kV1
  have z6 := kV1.size
  refine pkq (.int .i64 0) <| eq_ <| qr_ [0, 1, 2, 3, 4, 5, 6] <| ppq (.agg (p.cells)) (ldr 51 gp (h2) (by kernel_rfl)) ?_
  refine pcq 82 #[.agg (p.cells)] Tryz.func82 ((npCheck_is p _ _ hp hc0).mono ?_)
  rintro e V7 ⟨rfl, kV7⟩
  refine ⟨_, rfl, ?_⟩
  have h8 : Sl V7 2 Nt.cl v l := h4.keepsN kV7
  have K10 := K5.nn kV7
  have z11 := kV7.size
  refine pkq (.tuple #[.int .i64 0, .int .i64 p.check.2]) <| pkq (.int .i64 0) <| pkq (.int .i64 p.check.2) <| pkq (.int .i64 0) <| pkq (.int .i64 p.check.2) <| eqr_ [0, 1] <| pkq (.int .i64 0) <| pkq (.bool false) <| en_ <| s_ <| tq_ <| qr_ [0, 1, 2, 3, 4, 5, 6] <| pkq (v) ?_
  refine pcq 22 #[v] Tryz.func22 ((nCheck_is l v _ _ h8 (ErrTab.keeps het K10) rfl).mono ?_)
  rintro e V12 ⟨rfl, kV12⟩
  refine ⟨_, rfl, ?_⟩
  have K15 := K10.nn kV12
  have z16 := kV12.size
  refine pkq (.tuple #[.int .i64 (ncheck l).1, .int .i64 (ncheck l).2]) <| pkq (.int .i64 (ncheck l).1) <| pkq (.int .i64 (ncheck l).2) <| pkq (.int .i64 (ncheck l).1) <| pkq (.int .i64 (ncheck l).2) <| eqr_ [0, 1] <| pkq (.int .i64 (ncheck l).1) <| ppq (.bool true) (nqt (((ncheck l).1) : Int) ((0) : Int) (by omega)) <| ey_ <| qr_ [0, 1] <| pkq (.int .i64 (ncheck l).1) <| pkq (.int .i64 (ncheck l).1) <| eu_ <| then_r ?_
  refine so_ (.int .i64 (ncheck l).1) ?_
  exact ⟨by unfold nref; rw [if_neg (fun e => e hc0), if_pos hc1], K15⟩
theorem nRefused_low (p : Par) (hp : p.Ok) (l : List Nt) (v : Value) (h : Int) (w : World) (hl : Sl w 2 Nt.cl v l) (hc0 : p.check.1 = 0) (hc1 : (ncheck l).1 = 0) (q1 : h < 1) (het : ErrTab w) :
    Calls Tryz.prog 61 #[.agg p.cells, v, .int .i64 h] w (fun e w' => e = .returned (.int .i64 (nref p l h)) ∧ Keeps Nob w w') := by
  have K0 : Keeps Nob w w := Keeps.refl _ _
  refine sy_enter (qc37_0 1) ⟨#[.agg p.cells, v, .int .i64 h, ud, ud, ud, ud, ud, ud, ud, ud, ud, ud, ud, ud, ud, ud, ud, ud, ud, ud, ud, ud, ud, ud, ud, ud, ud, ud, ud, ud, ud, ud], []⟩ Tryz.func61 (by kernel_rfl) (by kernel_rfl) <| qr_ [0, 1] <| pbx 51 p.cells (.agg p.cells) fun V1 gp egp h2 kV1 => ?_
  have n3 : w.heap.size ≤ gp := egp ▸ K0.size
  have h4 : Sl V1 2 Nt.cl v l := hl.keepsN kV1
  have K5 := K0.nn kV1
  have z6 := kV1.size
  refine pkq (.int .i64 0) <| eq_ <| qr_ [0, 1, 2, 3, 4, 5, 6] <| ppq (.agg (p.cells)) (ldr 51 gp (h2) (by kernel_rfl)) ?_
  refine pcq 82 #[.agg (p.cells)] Tryz.func82 ((npCheck_is p _ _ hp hc0).mono ?_)
  rintro e V7 ⟨rfl, kV7⟩
  refine ⟨_, rfl, ?_⟩
  have h8 : Sl V7 2 Nt.cl v l := h4.keepsN kV7
  have K10 := K5.nn kV7
  have z11 := kV7.size
  refine pkq (.tuple #[.int .i64 0, .int .i64 p.check.2]) <| pkq (.int .i64 0) <| pkq (.int .i64 p.check.2) <| pkq (.int .i64 0) <| pkq (.int .i64 p.check.2) <| eqr_ [0, 1] <| pkq (.int .i64 0) <| pkq (.bool false) <| en_ <| s_ <| tq_ <| qr_ [0, 1, 2, 3, 4, 5, 6] <| pkq (v) ?_
  refine pcq 22 #[v] Tryz.func22 ((nCheck_is l v _ _ h8 (ErrTab.keeps het K10) hc1).mono ?_)
  rintro e V12 ⟨rfl, kV12⟩
  refine ⟨_, rfl, ?_⟩
  have K15 := K10.nn kV12
  have z16 := kV12.size
  refine pkq (.tuple #[.int .i64 0, .int .i64 (ncheck l).2]) <| pkq (.int .i64 0) <| pkq (.int .i64 (ncheck l).2) <| pkq (.int .i64 0) <| pkq (.int .i64 (ncheck l).2) <| eqr_ [0, 1] <| pkq (.int .i64 0) <| pkq (.bool false) <| en_ <| s_ <| tq_ <| qr_ [0, 1, 2, 3, 4, 5] <| pkq (.int .i64 h) <| ppq (.bool true) (dct (((h) : Int) < ((1) : Int)) (by omega)) ?_
  refine pkq (.bool true) <| pnq <| pnq <| pkq (.bool true) <| ps_end <| sy_a ⟨#[.agg p.cells, v, .int .i64 h, pT gp 0, ud, ud, .int .i64 0, .int .i64 0, .int .i64 p.check.2, .int .i64 0, .int .i64 (ncheck l).2, .tuple #[.int .i64 0, .int .i64 p.check.2], .agg (p.cells), .tuple #[.int .i64 0, .int .i64 p.check.2], .int .i64 0, .int .i64 p.check.2, .int .i64 0, .bool false, ud, .tuple #[.int .i64 0, .int .i64 (ncheck l).2], v, .tuple #[.int .i64 0, .int .i64 (ncheck l).2], .int .i64 0, .int .i64 (ncheck l).2, .int .i64 0, .bool false, ud, .int .i64 h, .bool true, .bool true, ud, ud, .bool true], []⟩ <| then_n <| y_ <| qr_ [0] <| pkq (.int .i64 3) <| eu_ <| then_r <| so_ (.int .i64 3) ?_
  exact ⟨by unfold nref; rw [if_neg (fun e => e hc0), if_neg (fun e => e hc1), if_pos (.inl q1)], K15⟩
theorem nRefused_high (p : Par) (hp : p.Ok) (l : List Nt) (v : Value) (h : Int) (w : World) (hl : Sl w 2 Nt.cl v l) (hc0 : p.check.1 = 0) (hc1 : (ncheck l).1 = 0) (q1 : ¬ h < 1) (q2 : 4294967296 < h) (het : ErrTab w) :
    Calls Tryz.prog 61 #[.agg p.cells, v, .int .i64 h] w (fun e w' => e = .returned (.int .i64 (nref p l h)) ∧ Keeps Nob w w') := by
  have K0 : Keeps Nob w w := Keeps.refl _ _
  refine sy_enter (qc37_0 1) ⟨#[.agg p.cells, v, .int .i64 h, ud, ud, ud, ud, ud, ud, ud, ud, ud, ud, ud, ud, ud, ud, ud, ud, ud, ud, ud, ud, ud, ud, ud, ud, ud, ud, ud, ud, ud, ud], []⟩ Tryz.func61 (by kernel_rfl) (by kernel_rfl) <| qr_ [0, 1] <| pbx 51 p.cells (.agg p.cells) fun V1 gp egp h2 kV1 => ?_
  have n3 : w.heap.size ≤ gp := egp ▸ K0.size
  have h4 : Sl V1 2 Nt.cl v l := hl.keepsN kV1
  have K5 := K0.nn kV1
  have z6 := kV1.size
  refine pkq (.int .i64 0) <| eq_ <| qr_ [0, 1, 2, 3, 4, 5, 6] <| ppq (.agg (p.cells)) (ldr 51 gp (h2) (by kernel_rfl)) ?_
  refine pcq 82 #[.agg (p.cells)] Tryz.func82 ((npCheck_is p _ _ hp hc0).mono ?_)
  rintro e V7 ⟨rfl, kV7⟩
  refine ⟨_, rfl, ?_⟩
  have h8 : Sl V7 2 Nt.cl v l := h4.keepsN kV7
  have K10 := K5.nn kV7
  have z11 := kV7.size
  refine pkq (.tuple #[.int .i64 0, .int .i64 p.check.2]) <| pkq (.int .i64 0) <| pkq (.int .i64 p.check.2) <| pkq (.int .i64 0) <| pkq (.int .i64 p.check.2) <| eqr_ [0, 1] <| pkq (.int .i64 0) <| pkq (.bool false) <| en_ <| s_ <| tq_ <| qr_ [0, 1, 2, 3, 4, 5, 6] <| pkq (v) ?_
  refine pcq 22 #[v] Tryz.func22 ((nCheck_is l v _ _ h8 (ErrTab.keeps het K10) hc1).mono ?_)
  rintro e V12 ⟨rfl, kV12⟩
  refine ⟨_, rfl, ?_⟩
  have K15 := K10.nn kV12
  have z16 := kV12.size
  refine pkq (.tuple #[.int .i64 0, .int .i64 (ncheck l).2]) <| pkq (.int .i64 0) <| pkq (.int .i64 (ncheck l).2) <| pkq (.int .i64 0) <| pkq (.int .i64 (ncheck l).2) <| eqr_ [0, 1] <| pkq (.int .i64 0) <| pkq (.bool false) <| en_ <| s_ <| tq_ <| qr_ [0, 1, 2, 3, 4, 5] <| pkq (.int .i64 h) <| ppq (.bool false) (dcf (((h) : Int) < ((1) : Int)) (by omega)) ?_
  refine pkq (.bool false) <| pkq (.int .i64 h) <| ppq (.bool true) (dct (((h) : Int) > ((4294967296) : Int)) (by omega)) <| pkq (.bool true) <| ps_end <| sy_a ⟨#[.agg p.cells, v, .int .i64 h, pT gp 0, ud, ud, .int .i64 0, .int .i64 0, .int .i64 p.check.2, .int .i64 0, .int .i64 (ncheck l).2, .tuple #[.int .i64 0, .int .i64 p.check.2], .agg (p.cells), .tuple #[.int .i64 0, .int .i64 p.check.2], .int .i64 0, .int .i64 p.check.2, .int .i64 0, .bool false, ud, .tuple #[.int .i64 0, .int .i64 (ncheck l).2], v, .tuple #[.int .i64 0, .int .i64 (ncheck l).2], .int .i64 0, .int .i64 (ncheck l).2, .int .i64 0, .bool false, ud, .int .i64 h, .bool false, .bool false, .int .i64 h, .bool true, .bool true], []⟩ <| then_n <| y_ <| qr_ [0] <| pkq (.int .i64 3) <| eu_ <| then_r <| so_ (.int .i64 3) ?_
  exact ⟨by unfold nref; rw [if_neg (fun e => e hc0), if_neg (fun e => e hc1), if_pos (.inr q2)], K15⟩
theorem nRefused_ok (p : Par) (hp : p.Ok) (l : List Nt) (v : Value) (h : Int) (w : World) (hl : Sl w 2 Nt.cl v l) (hc0 : p.check.1 = 0) (hc1 : (ncheck l).1 = 0) (q1 : ¬ h < 1) (q2 : ¬ 4294967296 < h) (het : ErrTab w) :
    Calls Tryz.prog 61 #[.agg p.cells, v, .int .i64 h] w (fun e w' => e = .returned (.int .i64 (nref p l h)) ∧ Keeps Nob w w') := by
  have K0 : Keeps Nob w w := Keeps.refl _ _
  refine sy_enter (qc37_0 1) ⟨#[.agg p.cells, v, .int .i64 h, ud, ud, ud, ud, ud, ud, ud, ud, ud, ud, ud, ud, ud, ud, ud, ud, ud, ud, ud, ud, ud, ud, ud, ud, ud, ud, ud, ud, ud, ud], []⟩ Tryz.func61 (by kernel_rfl) (by kernel_rfl) <| qr_ [0, 1] <| pbx 51 p.cells (.agg p.cells) fun V1 gp egp h2 kV1 => ?_
  have n3 : w.heap.size ≤ gp := egp ▸ K0.size
  have h4 : Sl V1 2 Nt.cl v l := hl.keepsN kV1
  have K5 := K0.nn kV1
  have z6 := kV1.size
  refine pkq (.int .i64 0) <| eq_ <| qr_ [0, 1, 2, 3, 4, 5, 6] <| ppq (.agg (p.cells)) (ldr 51 gp (h2) (by kernel_rfl)) ?_
  refine pcq 82 #[.agg (p.cells)] Tryz.func82 ((npCheck_is p _ _ hp hc0).mono ?_)
  rintro e V7 ⟨rfl, kV7⟩
  refine ⟨_, rfl, ?_⟩
  have h8 : Sl V7 2 Nt.cl v l := h4.keepsN kV7
  have K10 := K5.nn kV7
  have z11 := kV7.size
  refine pkq (.tuple #[.int .i64 0, .int .i64 p.check.2]) <| pkq (.int .i64 0) <| pkq (.int .i64 p.check.2) <| pkq (.int .i64 0) <| pkq (.int .i64 p.check.2) <| eqr_ [0, 1] <| pkq (.int .i64 0) <| pkq (.bool false) <| en_ <| s_ <| tq_ <| qr_ [0, 1, 2, 3, 4, 5, 6] <| pkq (v) ?_
  refine pcq 22 #[v] Tryz.func22 ((nCheck_is l v _ _ h8 (ErrTab.keeps het K10) hc1).mono ?_)
  rintro e V12 ⟨rfl, kV12⟩
  refine ⟨_, rfl, ?_⟩
  have K15 := K10.nn kV12
  have z16 := kV12.size
  refine pkq (.tuple #[.int .i64 0, .int .i64 (ncheck l).2]) <| pkq (.int .i64 0) <| pkq (.int .i64 (ncheck l).2) <| pkq (.int .i64 0) <| pkq (.int .i64 (ncheck l).2) <| eqr_ [0, 1] <| pkq (.int .i64 0) <| pkq (.bool false) <| en_ <| s_ <| tq_ <| qr_ [0, 1, 2, 3, 4, 5] <| pkq (.int .i64 h) <| ppq (.bool false) (dcf (((h) : Int) < ((1) : Int)) (by omega)) ?_
  refine pkq (.bool false) <| pkq (.int .i64 h) <| ppq (.bool false) (dcf (((h) : Int) > ((4294967296) : Int)) (by omega)) <| pkq (.bool false) <| ps_end <| sy_a ⟨#[.agg p.cells, v, .int .i64 h, pT gp 0, ud, ud, .int .i64 0, .int .i64 0, .int .i64 p.check.2, .int .i64 0, .int .i64 (ncheck l).2, .tuple #[.int .i64 0, .int .i64 p.check.2], .agg (p.cells), .tuple #[.int .i64 0, .int .i64 p.check.2], .int .i64 0, .int .i64 p.check.2, .int .i64 0, .bool false, ud, .tuple #[.int .i64 0, .int .i64 (ncheck l).2], v, .tuple #[.int .i64 0, .int .i64 (ncheck l).2], .int .i64 0, .int .i64 (ncheck l).2, .int .i64 0, .bool false, ud, .int .i64 h, .bool false, .bool false, .int .i64 h, .bool false, .bool false], []⟩ <| then_n <| n_ <| s_ <| tqr_ [0] <| pkq (.int .i64 0) <| eu_ <| so_ (.int .i64 0) ?_
  exact ⟨by unfold nref; rw [if_neg (fun e => e hc0), if_neg (fun e => e hc1), if_neg (fun e => e.elim q1 q2)], K15⟩
theorem nRefused_all (p : Par) (hp : p.Ok) (l : List Nt) (v : Value) (h : Int) (w : World) (hl : Sl w 2 Nt.cl v l) (het : ErrTab w) : Calls Tryz.prog 61 #[.agg p.cells, v, .int .i64 h] w (fun e w' => e = .returned (.int .i64 (nref p l h)) ∧ Keeps Nob w w') := by
  by_cases hc0 : p.check.1 = 0
  · by_cases hc1 : (ncheck l).1 = 0
    · by_cases h1 : h < 1
      · exact nRefused_low p hp l v h w hl hc0 hc1 h1 het
      · by_cases h2 : 4294967296 < h
        · exact nRefused_high p hp l v h w hl hc0 hc1 h1 h2 het
        · exact nRefused_ok p hp l v h w hl hc0 hc1 h1 h2 het
    · exact nRefused_chk p hp l v h w hl hc0 hc1 het
  · exact nRefused_par p hp l v h w hl hc0 het
end Go.Proofs.YtghohakbepeffaaGreatDoor
namespace Go.Own
set_option maxRecDepth 100000
set_option maxHeartbeats 4000000
open Go Go.RowKit Go.Shelf
theorem Turn.lower {B B' : Nat} {M : Nat → Prop} {W W' : World} (h : Turn B' M W W') (hb : B ≤ B') : Turn B M W W' := ⟨h.os, h.tape, h.output, h.size, fun k o hk hm hp => h.same k o hk hm (hp.elim (fun x => .inl (by omega)) .inr)⟩
theorem Turn.trans {B : Nat} {M : Nat → Prop} {A C D : World} (h : Turn B M A C) (g : Turn B M C D) : Turn B M A D := ⟨g.os.trans h.os, g.tape.trans h.tape, g.output.trans h.output, Nat.le_trans h.size g.size, fun k o hk hm hp => g.same k o (h.same k o hk hm hp) hm hp⟩
/-- An iterator's contract, where what the caller keeps (J) abides any turn of blocks that hold no cells from the call's heap on: so the iterator may range over another one. -/
def SeqOwnT {α : Type} (F : Fence) (n : Nat) (P : Program) (g : Nat) (lb : Array Value) (encs : α → Array Value) (xs : List α) (Mi : Nat → Prop) (S : Nat → World → Prop) : Prop :=
  ∀ (l : Nat) (J : Nat → World → Prop) (Jx : World → Prop) (W : World),
    (∀ k A B, J k A → Turn W.heap.size Mi A B → J k B) → (∀ A B, Jx A → Turn W.heap.size Mi A B → Jx B) →
    (∀ k x W1, xs[k]? = some x → J k W1 → S k W1 → YieldAt F (n - 1) P l (encs x) W1 fun e W' =>
      (e = .returned (.bool true) ∧ J (k + 1) W' ∧ S k W') ∨ (e = .returned (.bool false) ∧ Jx W')) →
    J 0 W → S 0 W →
    CallsIn F n P g (#[.func (.yield l) #[] #[]] ++ lb) W fun e W' => (∃ v, e = .returned v) ∧ (J xs.length W' ∨ Jx W')
theorem SeqOwn.toT {α : Type} {F : Fence} {n : Nat} {P : Program} {g : Nat} {lb : Array Value} {encs : α → Array Value} {xs : List α} {Mi : Nat → Prop} {S : Nat → World → Prop} (h : SeqOwn F n P g lb encs xs Mi S) : SeqOwnT F n P g lb encs xs Mi S :=
  fun l J Jx W a b c d e => h l J Jx W (fun k A B x y => a k A B x (y.turn _)) (fun A B x y => b A B x (y.turn _)) c d e
section
variable {F : Fence} {n : Nat} {P : Program}
theorem own_rangeT {α : Type} {g : Operand} {ps : Array Tmp} {assign body : Code} {Q : Exit → Act → World → Prop} {a : Act} {w : World}
    (hro : F.round = none) (h1 : 1 ≤ n) {gf : Nat} {lb : Array Value} (hg : a.eval g = .func (.func gf) #[] lb) (hFg : F.fn gf) (eg : ∀ args w, (callFunc gf args).run P w = .ok (.enter gf args) w)
    {encs : α → Array Value} (hps : ∀ x, (encs x).size = ps.size) {xs : List α} {Mi : Nat → Prop} {S : Nat → World → Prop} (hMi : ∀ j, Mi j → j < w.heap.size)
    (hseq : SeqOwnT F (n - 1) P gf lb encs xs Mi S) (hS : ∀ k A B, S k A → Turn w.heap.size Nob A B → S k B) (hS0 : S 0 w)
    (I : Nat → World → Prop) (Ix : Code → World → Prop) (hI : ∀ k A B, I k A → Turn w.heap.size Mi A B → I k B) (hIx : ∀ c A B, Ix c A → Turn w.heap.size Mi A B → Ix c B) (h0 : I 0 w)
    (Ax : Nat → α → Act → World → Prop) (hAx : ∀ k x a' A B, Ax k x a' A → Turn w.heap.size Nob A B → Ax k x a' B)
    (hassign : ∀ (l k : Nat) (x : α) (W : World) (K : Act → World → Prop), xs[k]? = some x → I k W → S k W → (∀ a' W', KeepsFrom w.heap.size W W' → I k W' → S k W' → Ax k x a' W' → K a' W') →
      assign.wpIn (F.inRound l) (n - 1 - 1) P (Exit.then K (fun _ _ _ => False)) { tmps := (ps.zip (encs x)).foldl (fun t (p, v) => t.setIfInBounds p v) a.tmps, defers := [] } W)
    (hbody : ∀ (l k : Nat) (x : α) (a' : Act) (W : World), w.heap.size ≤ l → (∃ r, W.heap[l]? = some (.loop r)) → xs[k]? = some x → I k W → S k W → Ax k x a' W →
      body.wpIn (F.inRound l) (n - 1 - 1) P (rangeEnd w.heap.size (fun W' => I (k + 1) W' ∧ S k W') Ix W) a' W)
    (hdone : ∀ (D : Nat) (W : World), w.heap.size ≤ D → I xs.length W → W.heap[D]? = some (.deferred (some [])) → Q .normal { a with defers := { target := .collected D, args := #[] } :: a.defers } W)
    (hstop : ∀ (D : Nat) (c : Code) (W : World), w.heap.size ≤ D → Ix c W → W.heap[D]? = some (.deferred (some [])) → c.wpIn F n P Q { a with defers := { target := .collected D, args := #[] } :: a.defers } W) :
    (Code.rangeFunc g ps assign body).wpIn F n P Q a w := by
  refine wpIn_rangeFunc ?_
  intro fn hfn
  rw [hro]
  obtain ⟨rec, hrec⟩ : ∃ rec : LoopState → Option Code → Loop, rec = fun st pe => { state := st, pending := pe, fn, tmps := a.tmps, params := ps, assign, body, defers := w.heap.size } := ⟨_, rfl⟩
  obtain ⟨W1, hW1⟩ : ∃ W1, (w.alloc (.deferred (some []))).alloc (.loop (rec .ready none)) = W1 := ⟨_, rfl⟩
  have hL1 : W1.heap[w.heap.size + 1]? = some (.loop (rec .ready none)) := by
    rw [← hW1]; have := World.alloc_heap_new (w.alloc (.deferred (some []))) (.loop (rec .ready none)); rwa [World.size_alloc] at this
  have hK1 : W1.heap[w.heap.size]? = some (.deferred (some [])) := by
    rw [← hW1]; exact (Below.heap_alloc _ _ _ (by simp)).trans (World.alloc_heap_new w _)
  have hT1 : ∀ M, Turn w.heap.size M w W1 := fun M => by rw [← hW1]; exact (((Keeps.refl M w).alloc _).alloc _).turn _
  have hI1 : I 0 W1 := hI _ _ _ h0 (hT1 _)
  have hS1 : S 0 W1 := hS _ _ _ hS0 (hT1 _)
  refine ⟨w.heap.size + 1, [{ target := .collected w.heap.size, args := #[] }], W1, { target := .fn (.func gf) lb, args := #[.func (.yield (w.heap.size + 1)) #[] #[]] }, W1, gf,
    #[.func (.yield (w.heap.size + 1)) #[] #[]] ++ lb, W1, ?_, ?_, ?_, ?_, fun _ => h1, ?_⟩
  · rw [← hW1, hrec]; exact run_enterLoop_outer _ _ _ _ _
  · simp only [resolve, hg]
    simp [go_sem]
  · intro f' hf'; simp [Target.leads] at hf'; subst hf'; exact hFg
  · simp [invoke, go_sem, eg]
  · have hz1 : w.heap.size + 1 < W1.heap.size := (Array.getElem?_eq_some_iff.1 hL1).1
    have hkeep : ∀ {A B : World} {k : Nat} {o : Obj}, w.heap.size ≤ k → k < W1.heap.size → Turn W1.heap.size Mi A B → A.heap[k]? = some o → B.heap[k]? = some o := fun hk hk2 hAB ho =>
      hAB.same _ _ ho (fun hm => by have := hMi _ hm; omega) (.inl hk2)
    refine (hseq (w.heap.size + 1)
      (fun k W => I k W ∧ W.heap[w.heap.size + 1]? = some (.loop (rec .ready none)) ∧ W.heap[w.heap.size]? = some (.deferred (some [])))
      (fun W => ∃ c, Ix c W ∧ W.heap[w.heap.size + 1]? = some (.loop (rec .done (some c))) ∧ W.heap[w.heap.size]? = some (.deferred (some [])))
      W1
      (fun k A B hs hAB => ⟨hI k A B hs.1 (hAB.lower (by omega)), hkeep (by omega) (by omega) hAB hs.2.1, hkeep (by omega) (by omega) hAB hs.2.2⟩)
      (fun A B hs hAB => by
        obtain ⟨c, hc, hl, hk⟩ := hs
        exact ⟨c, hIx c A B hc (hAB.lower (by omega)), hkeep (by omega) (by omega) hAB hl, hkeep (by omega) (by omega) hAB hk⟩)
      ?_ ⟨hI1, hL1, hK1⟩ hS1).mono ?_
    · -- one round
      rintro k x W hx ⟨hi, hl, hk⟩ hs
      have hlt : w.heap.size + 1 < W.heap.size := (Array.getElem?_eq_some_iff.1 hl).1
      have hy := run_yield (P := P) (args := encs x) hl (by rw [hrec]; exact hps x)
      rw [hrec] at hy
      refine ⟨fn, _, assign, body, hy, roundIn_of_wpIn hfn (hassign _ k x W _ hx hi hs ?_)⟩
      clear hy
      intro a' Wa hkfa hia hsa hax
      replace hl := hkfa.same _ _ (by omega) hl rfl
      replace hk := hkfa.same _ _ (Nat.le_refl _) hk rfl
      replace hlt : w.heap.size + 1 < Wa.heap.size := (Array.getElem?_eq_some_iff.1 hl).1
      replace hi := hia
      replace hs := hsa
      clear hia hsa
      clear hkfa
      obtain ⟨W, rfl⟩ : ∃ W, W = Wa := ⟨_, rfl⟩
      refine ⟨_, run_beginRound hl (by rw [hrec]), ?_⟩
      have hl2 : (W.putObj (w.heap.size + 1) (.loop { rec .ready none with state := .busy })).heap[w.heap.size + 1]? = some (.loop { rec .ready none with state := .busy }) := World.putObj_heap_same hlt
      have hk2 : (W.putObj (w.heap.size + 1) (.loop { rec .ready none with state := .busy })).heap[w.heap.size]? = some (.deferred (some [])) := (World.putObj_heap_other (by omega)).trans hk
      have ht2 : ∀ M, Turn w.heap.size M W (W.putObj (w.heap.size + 1) (.loop { rec .ready none with state := .busy })) := fun M => Turn.put _ _ _ _ (by omega) hl rfl
      refine wpIn_mono (hbody _ k x a' _ (by omega) ⟨_, hl2⟩ hx (hI _ _ _ hi (ht2 _)) (hS _ _ _ hs (ht2 _)) (hAx _ _ _ _ _ hax (ht2 _))) ?_
      have fin : ∀ (jump : Option Code) (W3 : World), KeepsFrom w.heap.size (W.putObj (w.heap.size + 1) (.loop { rec .ready none with state := .busy })) W3 →
          (Instr.endRound (w.heap.size + 1) jump).run P W3 = .ok (.bool jump.isNone) (W3.putObj (w.heap.size + 1) (.loop (rec (if jump.isNone then .ready else .done) jump))) ∧
          W3.heap[w.heap.size + 1]? = some (.loop { rec .ready none with state := .busy }) ∧
          (W3.putObj (w.heap.size + 1) (.loop (rec (if jump.isNone then .ready else .done) jump))).heap[w.heap.size + 1]? = some (.loop (rec (if jump.isNone then .ready else .done) jump)) ∧
          (W3.putObj (w.heap.size + 1) (.loop (rec (if jump.isNone then .ready else .done) jump))).heap[w.heap.size]? = some (.deferred (some [])) := fun jump W3 hk3 => by
        have hl3 := hk3.same _ _ (by omega) hl2 rfl
        have := run_endRound (P := P) jump hl3
        rw [hrec] at this ⊢
        exact ⟨this, by rw [hrec] at hl3; exact hl3, World.putObj_heap_same (Array.getElem?_eq_some_iff.1 hl3).1, (World.putObj_heap_other (by omega)).trans (hk3.same _ _ (Nat.le_refl _) hk2 rfl)⟩
      rintro e a3 W3 hp
      cases e with
      | normal =>
        obtain ⟨hk3, hi3, hs3⟩ := hp
        obtain ⟨hr, hl3, hl4, hk4⟩ := fin none W3 hk3
        exact ⟨_, _, hr, .inl ⟨rfl, ⟨hI _ _ _ hi3 (Turn.put _ _ _ _ (by omega) hl3 rfl), hl4, hk4⟩, hS _ _ _ hs3 (Turn.put _ _ _ _ (by omega) hl3 rfl)⟩⟩
      | ret =>
        obtain ⟨hk3, hi3⟩ := hp
        obtain ⟨hr, hl3, hl4, hk4⟩ := fin (some .ret) W3 hk3
        exact ⟨_, _, hr, .inr ⟨rfl, .ret, hIx _ _ _ hi3 (Turn.put _ _ _ _ (by omega) hl3 rfl), hl4, hk4⟩⟩
      | exit id =>
        obtain ⟨hk3, hi3⟩ := hp
        obtain ⟨hr, hl3, hl4, hk4⟩ := fin (some (.exit id)) W3 hk3
        exact ⟨_, _, hr, .inr ⟨rfl, .exit id, hIx _ _ _ hi3 (Turn.put _ _ _ _ (by omega) hl3 rfl), hl4, hk4⟩⟩
      | goto t =>
        obtain ⟨hk3, hi3⟩ := hp
        obtain ⟨hr, hl3, hl4, hk4⟩ := fin (some (.goto t)) W3 hk3
        exact ⟨_, _, hr, .inr ⟨rfl, .goto t, hIx _ _ _ hi3 (Turn.put _ _ _ _ (by omega) hl3 rfl), hl4, hk4⟩⟩
      | panic ch => exact hp.elim
      | outgrown => exact hp.elim
    · -- behind the iterator
      rintro e W2 ⟨⟨v, rfl⟩, (⟨hi, hl, hk⟩ | ⟨c, hi, hl, hk⟩)⟩
      · exact ⟨none, _, by have := run_endLoop (P := P) hl (by rw [hrec]; simp); rw [hrec] at this; exact this, hdone _ _ (Nat.le_refl _) (hI _ _ _ hi (Turn.put _ _ _ _ (by omega) hl rfl)) ((World.putObj_heap_other (by omega)).trans hk)⟩
      · exact ⟨some c, _, by have := run_endLoop (P := P) hl (by rw [hrec]; simp); rw [hrec] at this; exact this, hstop _ c _ (Nat.le_refl _) (hIx _ _ _ hi (Turn.put _ _ _ _ (by omega) hl rfl)) ((World.putObj_heap_other (by omega)).trans hk)⟩
end
section
variable {n : Nat} {P : Program}
theorem wp_rangeT {α : Type} (n : Nat) {g : Operand} {ps : Array Tmp} {assign body : Code} {Q : Exit → Act → World → Prop} {a : Act} {w : World}
    {gf : Nat} {lb : Array Value} (hg : a.eval g = .func (.func gf) #[] lb) (eg : ∀ args w, (callFunc gf args).run P w = .ok (.enter gf args) w)
    {encs : α → Array Value} (hps : ∀ x, (encs x).size = ps.size) {xs : List α} {Mi : Nat → Prop} {S : Nat → World → Prop} (hMi : ∀ j, Mi j → j < w.heap.size)
    (hseq : SeqOwnT Fence.wide (n + 2) P gf lb encs xs Mi S) (hS : ∀ k A B, S k A → Turn w.heap.size Nob A B → S k B) (hS0 : S 0 w)
    (I : Nat → World → Prop) (Ix : Code → World → Prop) (hI : ∀ k A B, I k A → Turn w.heap.size Mi A B → I k B) (hIx : ∀ c A B, Ix c A → Turn w.heap.size Mi A B → Ix c B) (h0 : I 0 w)
    (Ax : Nat → α → Act → World → Prop) (hAx : ∀ k x a' A B, Ax k x a' A → Turn w.heap.size Nob A B → Ax k x a' B)
    (hassign : ∀ (l k : Nat) (x : α) (W : World) (K : Act → World → Prop), xs[k]? = some x → I k W → S k W → (∀ a' W', KeepsFrom w.heap.size W W' → I k W' → S k W' → Ax k x a' W' → K a' W') →
      assign.wpIn (Fence.wide.inRound l) (n + 1) P (Exit.then K (fun _ _ _ => False)) { tmps := (ps.zip (encs x)).foldl (fun t (p, v) => t.setIfInBounds p v) a.tmps, defers := [] } W)
    (hbody : ∀ (l k : Nat) (x : α) (a' : Act) (W : World), w.heap.size ≤ l → (∃ r, W.heap[l]? = some (.loop r)) → xs[k]? = some x → I k W → S k W → Ax k x a' W →
      body.wpIn (Fence.wide.inRound l) (n + 1) P (rangeEnd w.heap.size (fun W' => I (k + 1) W' ∧ S k W') Ix W) a' W)
    (hdone : ∀ (D : Nat) (W : World), w.heap.size ≤ D → I xs.length W → W.heap[D]? = some (.deferred (some [])) → Q .normal { a with defers := { target := .collected D, args := #[] } :: a.defers } W)
    (hstop : ∀ (D : Nat) (c : Code) (W : World), w.heap.size ≤ D → Ix c W → W.heap[D]? = some (.deferred (some [])) → c.wp P Q { a with defers := { target := .collected D, args := #[] } :: a.defers } W) :
    (Code.rangeFunc g ps assign body).wp P Q a w :=
  (wpIn_wide (n := n + 3)).1 (own_rangeT (F := Fence.wide) rfl (by omega) hg trivial eg hps hMi hseq hS hS0 I Ix hI hIx h0 Ax hAx hassign hbody hdone (fun D c W h1 h2 h3 => wpIn_wide.2 (hstop D c W h1 h2 h3)))
end
/-! A yield within a round of another loop. -/
section
variable {P : Program} {Q : Exit → Act → World → Prop} {a : Act} {w : World} {ops : Array Oper} {i n r : Nat} {rest : List Nat} {c : Code}
theorem YieldAt.inround {m m' : Nat} {y : Nat} {args : Array Value} {R : Ending → World → Prop} (l : Nat) (h : YieldAt Fence.wide m P y args w R) : YieldAt (Fence.wide.inRound l) m' P y args w R := by
  obtain ⟨fn, tmps, assign, body, h1, h2⟩ := h
  exact ⟨fn, tmps, assign, body, h1, h2.1, fun c cs _ => h2.2 c cs (room_wide _)⟩
structure GyieldR (r n : Nat) (P : Program) (ops : Array Oper) (Q : Exit → Act → World → Prop) (rest : List Nat) (a : Act) (w : World) : Prop where
  out : wpOpsIn (Fence.wide.inRound r) n P ops Q rest a w
theorem rgR_yield (id : Nat) (ops : Array Oper) (l : List Nat) (hc : c = .region id ops false) (hl : List.range ops.size = l) (h : GyieldR r n P ops Q l a w) : c.wpIn (Fence.wide.inRound r) n P Q a w := by
  subst hc; subst hl; exact wpIn_region h.out
theorem piR_end (h : Q .normal a w) : GyieldR r n P ops Q [] a w := ⟨h⟩
theorem piR_run (o : Oper) (v : Value) {w' : World} (ho : ops[i]? = some o) (hg : Region.wanted o (yielded ops a.tmps) = true) (hrun : (execOp a.eval o).run P w = .ok (.value v) w') (h : GyieldR r n P ops Q rest (a.put o.dst v) w') (hs : o.semAt (some r) a.eval = execOp a.eval o := by kernel_rfl) : GyieldR r n P ops Q (i :: rest) a w := by
  refine ⟨?_⟩
  rw [wpOpsIn_cons]
  unfold wpOpIn
  simp only [ho, hg, if_true]
  refine ⟨fun _ _ => trivial, ?_⟩
  rw [show o.semAt (Fence.wide.inRound r).round a.eval = execOp a.eval o from hs, hrun]
  exact h.out
theorem piR_no (o : Oper) (ho : ops[i]? = some o) (hg : Region.wanted o (yielded ops a.tmps) = false) (h : GyieldR r n P ops Q rest (a.put o.dst undef) w) : GyieldR r n P ops Q (i :: rest) a w := by
  refine ⟨?_⟩
  rw [wpOpsIn_cons]
  unfold wpOpIn
  simp only [ho, hg]
  exact ⟨fun _ _ => trivial, h.out⟩
theorem piR_callV (o : Oper) (x : Operand) (f : FuncId) (first caps args : Array Value) (ho : ops[i]? = some o) (hg : Region.wanted o (yielded ops a.tmps) = true)
    (hc : o.op = .call { callee := .value x, args := callArgs o, argTypes := callTypes o }) (hx : a.eval x = .func (.func f) first caps) (hargs : first ++ (callArgs o).map a.eval ++ caps = args) (he : ∀ args w, (callFunc f args).run P w = .ok (.enter f args) w)
    (h : Calls P f args w fun e w' => ∃ v, e = .returned v ∧ GyieldR r n P ops Q rest (a.put o.dst v) w') (hs : o.semAt (some r) a.eval = execOp a.eval o := by kernel_rfl) : GyieldR r n P ops Q (i :: rest) a w := by
  refine ⟨?_⟩
  rw [wpOpsIn_cons]
  unfold wpOpIn
  simp only [ho, hg, if_true]
  refine ⟨fun _ _ => trivial, ?_⟩
  rw [show o.semAt (Fence.wide.inRound r).round a.eval = execOp a.eval o from hs]
  unfold execOp
  simp only [hc, resolve, hx, Sem.run_bind, Deferred.ofValue, Sem.run_pure, Result.andThen_ok, invoke, hargs, he]
  refine ⟨fun hx => by simp [Fence.wide, Fence.inRound] at hx, ?_⟩
  refine ((callsIn_wide.2 h).inRound r).mono fun e w' ⟨v, he, hv⟩ => ?_
  subst he
  exact hv.out
theorem piR_yield (o : Oper) (x : Operand) (y : Nat) (args : Array Value) (ho : ops[i]? = some o) (hg : Region.wanted o (yielded ops a.tmps) = true)
    (hc : o.op = .call { callee := .value x, args := callArgs o, argTypes := callTypes o }) (hx : a.eval x = .func (.yield y) #[] #[]) (hargs : (callArgs o).map a.eval = args) {m : Nat}
    (h : YieldAt Fence.wide m P y args w fun e w' => ∃ v, e = .returned v ∧ GyieldR r n P ops Q rest (a.put o.dst v) w') (hs : o.semAt (some r) a.eval = execOp a.eval o := by kernel_rfl) : GyieldR r n P ops Q (i :: rest) a w := by
  refine ⟨?_⟩
  obtain ⟨fn, tmps, assign, body, hy, hR⟩ := Go.Own.YieldAt.inround (m' := n - 1) r h
  rw [wpOpsIn_cons]
  unfold wpOpIn
  simp only [ho, hg, if_true]
  refine ⟨fun _ _ => trivial, ?_⟩
  rw [show o.semAt (Fence.wide.inRound r).round a.eval = execOp a.eval o from hs]
  unfold execOp
  simp only [hc, resolve, hx, Sem.run_bind, Deferred.ofValue, Sem.run_pure, Result.andThen_ok, invoke, hargs, Array.append_empty, Array.empty_append, List.append_nil, hy]
  refine ⟨fun hx => by simp [Fence.wide, Fence.inRound] at hx, ?_⟩
  refine hR.mono fun e w' ⟨v, he, hv⟩ => ?_
  subst he
  exact hv.out
end
end Go.Own
namespace Go.Proofs.YtghohakbepeffaaGreatDoor
set_option maxRecDepth 100000
set_option maxHeartbeats 4000000
open Go Go.RowKit Go.Own Go.Shelf
def Par.first (p : Par) (e : Int) : Int × Int := if p.fine [] = 0 then (if 0 ≤ e ∧ e ≤ 4294967296 ∧ e * p.elen + 1 ≤ 4294967296 then (e * p.elen + 1, 0) else (0, 3)) else (0, p.fine [])
end Go.Proofs.YtghohakbepeffaaGreatDoor
namespace Go.Proofs.YtghohakbepeffaaGreatDoor
set_option maxRecDepth 100000
set_option maxHeartbeats 4000000
open Go Go.RowKit Go.Own Go.Shelf
end Go.Proofs.YtghohakbepeffaaGreatDoor
namespace Go.Proofs.YtghohakbepeffaaGreatDoor
set_option maxRecDepth 100000
set_option maxHeartbeats 4000000
open Go Go.RowKit Go.Own Go.Shelf
def Par.last (p : Par) (e : Int) : Int × Int := if (p.first e).2 = 0 then (min 4294967296 ((e + 1) * p.elen), 0) else (0, (p.first e).2)
end Go.Proofs.YtghohakbepeffaaGreatDoor
namespace Go.Proofs.YtghohakbepeffaaGreatDoor
set_option maxRecDepth 100000
set_option maxHeartbeats 4000000
open Go Go.RowKit Go.Own Go.Shelf
def errFirst (l : List Int) : Int := (l.find? (fun x => decide (x ≠ 0))).getD 0
theorem errFirst_hit (l : List Int) (k : Nat) (x : Int) (hx : l[k]? = some x) (h0 : x ≠ 0) (h : ∀ j y, j < k → l[j]? = some y → y = 0) : errFirst l = x := by
  unfold errFirst
  have : l.find? (fun x => decide (x ≠ 0)) = some x := by
    rw [List.find?_eq_some_iff_getElem]
    obtain ⟨hk, e⟩ := List.getElem?_eq_some_iff.1 hx
    refine ⟨by simpa using h0, k, hk, e, fun j hj => ?_⟩
    simpa using h j _ hj (List.getElem?_eq_getElem (by omega))
  rw [this]; rfl
theorem errFirst_none (l : List Int) (h : ∀ (j : Nat) y, l[j]? = some y → y = 0) : errFirst l = 0 := by
  unfold errFirst
  have : l.find? (fun x => decide (x ≠ 0)) = none := by
    rw [List.find?_eq_none]
    intro x hx
    obtain ⟨j, hj⟩ := List.getElem?_of_mem hx
    simpa using h j x hj
  rw [this]; rfl
def errOf (h : Int) : Int := if hOk h then 0 else 3
theorem errOf_ok (h : Int) (x : hOk h) : errOf h = 0 := if_pos x
theorem errOf_bad (h : Int) (x : ¬ hOk h) : errOf h = 3 := if_neg x
theorem errFirst_cons (x : Int) (l : List Int) : errFirst (x :: l) = if x = 0 then errFirst l else x := by
  unfold errFirst
  rw [List.find?_cons]
  by_cases h : x = 0
  · simp [h]
  · simp [h]
theorem errFirst_map (l : List Int) : errFirst (l.map errOf) = if l.all (fun h => decide (hOk h)) then 0 else 3 := by
  induction l with
  | nil => rfl
  | cons h t ih =>
    rw [List.map_cons, errFirst_cons, ih]
    by_cases hh : hOk h
    · rw [errOf_ok h hh]; simp [hh]
    · rw [errOf_bad h hh]; simp [hh]
theorem fine_eq (p : Par) (l : List Int) : p.fine l = errFirst (p.check.1 :: l.map errOf) := by
  rw [errFirst_cons, errFirst_map]
  rfl
theorem pfine_ok (h : Int) (w : World) : Calls Tryz.prog 98 #[.int .i64 h] w fun e w' => e = .returned (.int .i64 (errOf h)) ∧ w = w' := by
  by_cases h1 : h < 1
  · have he : errOf h = 3 := errOf_bad h (fun x => by unfold hOk at x; omega)
    rw [he]
    go_enter Tryz.func98, Tryz.ntmps98
    go_wp2
    go_ret
    exact ⟨rfl, rfl⟩
  · have h1d : decide (h < 1) = false := by simpa using h1
    by_cases h2 : 4294967296 < h
    · have he : errOf h = 3 := errOf_bad h (fun x => by unfold hOk at x; omega)
      rw [he]
      go_enter Tryz.func98, Tryz.ntmps98
      go_wp2
      go_ret
      exact ⟨rfl, rfl⟩
    · have h2d : decide (4294967296 < h) = false := by simpa using h2
      have he : errOf h = 0 := errOf_ok h (by unfold hOk; omega)
      rw [he]
      go_enter Tryz.func98, Tryz.ntmps98
      go_wp2
      go_ret
      exact ⟨rfl, rfl⟩
/-- Errors that the call laid itself. -/
def E (l : List Int) : List Value := l.map fun x => .int .i64 x
theorem E_get (l : List Int) (k : Nat) (x : Int) (h : l[k]? = some x) : (E l)[k]? = some (.int .i64 x) := by simp [E, h]
theorem first_ok (v : Value) (l : List Int) (w : World) (hv : Row w 27 1 v l.length (E l)) (hl : l.length ≤ 1000) :
    Calls Tryz.prog 99 #[v] w fun e w' => e = .returned (.int .i64 (errFirst l)) ∧ w = w' := by
  obtain ⟨er, her⟩ : ∃ c, errFirst l = c := ⟨_, rfl⟩
  rw [her]
  have HER := Lib.hid her; clear her
  have hform : ∃ A cap, v = .slice A l.length cap := by
    rcases hv.2 with ⟨rfl, h0⟩ | ⟨g, cap, cur, rfl, _⟩
    · exact ⟨none, 0, by rw [h0]⟩
    · exact ⟨_, _, rfl⟩
  obtain ⟨A, cap, rfl⟩ := hform
  have HV := Lib.hid hv; clear hv
  go_enter Tryz.func99, Tryz.ntmps99
  go_wp2_with fail
  go_loop [7] (fun i => ∃ k : Nat, k ≤ l.length ∧ i = .int .i64 k ∧ Hid (∀ j y, j < k → l[j]? = some y → y = 0)) (fun i => l.length - (intOf i).toNat)
  case atStart => exact ⟨0, Nat.zero_le _, rfl, Lib.hid (fun j y hj => by omega)⟩
  case round =>
    obtain ⟨k, hk, rfl, HK⟩ := hrel
    by_cases hlt : k < l.length
    · obtain ⟨x, hx⟩ : ∃ x, l[k]? = some x := ⟨_, List.getElem?_eq_getElem hlt⟩
      obtain ⟨g, cap', hv, hg⟩ := HV.out.spell (by omega)
      simp only [Value.slice.injEq, true_and] at hv
      obtain ⟨rfl, rfl⟩ := hv
      have c0 : w.cell? ⟨g, k, none⟩ = some (.int .i64 x) := (World.ownsRow.cellAt HV.out k (by omega)).trans (E_get l k x hx)
      have HX := Lib.hid hx
      clear hx
      by_cases h0 : x = 0
      · have hb : (x != 0) = false := by simpa using h0
        have HK1 : Hid (∀ j y, j < k + 1 → l[j]? = some y → y = 0) := Lib.hid (fun j y hj hy => (Nat.lt_succ_iff_lt_or_eq.1 hj).elim (fun h => HK.out j y h hy) (fun e => by subst e; have := HX.out.symm.trans hy; simp at this; omega))
        clear h0
        go_wp2_with fail
        go_round
        case rel => exact ⟨k + 1, by omega, by go_num, HK1⟩
        case measure => simp [intOf]; omega
      · have hb : (x != 0) = true := by simpa using h0
        obtain rfl : er = x := HER.out.symm.trans (errFirst_hit l k x HX.out h0 HK.out)
        go_wp2_with fail
        go_ret
        exact ⟨rfl, rfl⟩
    · have hd : decide ((k : Int) < (l.length : Int)) = false := by simp; omega
      obtain rfl : er = 0 := HER.out.symm.trans (errFirst_none l (fun j y hy => HK.out j y (by have := (List.getElem?_eq_some_iff.1 hy).1; omega) hy))
      go_wp2_with fail
      go_ret
      exact ⟨rfl, rfl⟩
end Go.Proofs.YtghohakbepeffaaGreatDoor
namespace Go.Proofs.YtghohakbepeffaaGreatDoor
set_option maxRecDepth 100000
set_option maxHeartbeats 4000000
open Go Go.RowKit Go.Own Go.Shelf
noncomputable def opsGood : Array Oper := opsOf Tryz.f85 8
theorem err_info : (Tryz.prog.info? 27).map (fun i => (i.zero, i.size, i.bytes)) = some (some (.int .i64 0), 1, 8) := by kernel_rfl
theorem E_append (l m : List Int) : E (l ++ m) = E l ++ E m := by simp [E]
theorem Row.newE (w : World) (x : Int) : Row (w.alloc (.cells #[.int .i64 x] 27)) 27 1 (.slice (some ⟨w.heap.size, 0, none⟩) 1 1) 1 (E [x]) :=
  ⟨rfl, .inr ⟨_, _, _, rfl, Nat.zero_le _, heap_alloc_new _ _, Nat.le_refl _, by unfold maxLen; omega, rfl, rfl⟩⟩
theorem good_ok (p : Par) (hp : p.Ok) (v : Value) (l : List Int) (w : World) (hl : l.length ≤ 900) (hv : IntsAt w v l) :
    Calls Tryz.prog 85 #[p.v, v] w fun e w' => e = .returned (.tuple #[p.v, .int .i64 (p.fine l)]) ∧ Keeps Nob w w' := by
  obtain ⟨i0, hi, hz0, hz1, hz2⟩ := info_parts err_info
  obtain ⟨a0, cap, rfl⟩ := hv.len
  have HV := Lib.hid hv; clear hv
  have CH := fun V => pCheck_ok p hp V
  obtain ⟨er, her⟩ : ∃ c, p.fine l = c := ⟨_, rfl⟩
  rw [her]
  have HER := Lib.hid ((fine_eq p l).symm.trans her); clear her
  obtain ⟨ce, hce⟩ : ∃ c, p.check.1 = c := ⟨_, rfl⟩
  obtain ⟨ci, hci⟩ : ∃ c, p.check.2 = c := ⟨_, rfl⟩
  rw [hce, hci] at CH
  rw [hce] at HER
  clear hci hce
  have hpv : p.v = .agg p.cells := rfl
  rw [hpv] at CH ⊢
  unfold Par.cells at CH ⊢
  have CHH := Lib.hid CH; clear CH hpv
  go_enter Tryz.func85, Tryz.ntmps85
  go_wp2_with (go_at_call 82; refine (CHH.out _).mono ?_; rintro e V ⟨rfl, hk⟩)
  obtain ⟨W2, hW2⟩ : ∃ W2, ((w.alloc (.cells #[.int .i64 p.unb, .int .i64 p.mage, .int .i64 p.elen, .int .i64 p.win, .int .i64 p.ent, .int .i64 p.act, .int .i64 p.jail, .int .u64 p.base, .int .u64 p.mult, .int .i64 p.corr, .int .u64 p.rew] 51)).alloc (.cells #[.int .i64 0, .int .i64 0, .int .i64 0, .int .i64 0, .int .i64 0, .int .i64 0, .int .i64 0, .int .u64 0, .int .u64 0, .int .i64 0, .int .u64 0] 130)) = W2 := ⟨_, rfl⟩
  rw [hW2] at hk
  have hb1 : W2.heap[w.heap.size]? = some (.cells #[.int .i64 p.unb, .int .i64 p.mage, .int .i64 p.elen, .int .i64 p.win, .int .i64 p.ent, .int .i64 p.act, .int .i64 p.jail, .int .u64 p.base, .int .u64 p.mult, .int .i64 p.corr, .int .u64 p.rew] 51 (0, 0)) := by
    rw [← hW2]; exact (Below.heap_alloc _ _ _ (by simp)).trans (heap_alloc_new _ _)
  have hb2 : W2.heap[w.heap.size + 1]? = some (.cells #[.int .i64 0, .int .i64 0, .int .i64 0, .int .i64 0, .int .i64 0, .int .i64 0, .int .i64 0, .int .u64 0, .int .u64 0, .int .i64 0, .int .u64 0] 130 (0, 0)) := by
    rw [← hW2]; have := heap_alloc_new (w.alloc (.cells #[.int .i64 p.unb, .int .i64 p.mage, .int .i64 p.elen, .int .i64 p.win, .int .i64 p.ent, .int .i64 p.act, .int .i64 p.jail, .int .u64 p.base, .int .u64 p.mult, .int .i64 p.corr, .int .u64 p.rew] 51)) (.cells #[.int .i64 0, .int .i64 0, .int .i64 0, .int .i64 0, .int .i64 0, .int .i64 0, .int .i64 0, .int .u64 0, .int .u64 0, .int .i64 0, .int .u64 0] 130)
    simpa using this
  have hkw : Keeps Nob w W2 := by rw [← hW2]; exact ((Keeps.refl _ _).alloc _).alloc _
  have hs2 : W2.heap.size = w.heap.size + 2 := by rw [← hW2]; simp
  have HB := Lib.hid (And.intro hb1 hb2)
  clear hW2 hb1 hb2
  have hVs := hk.size
  go_loopw [8, 20] (fun v i wr => ∃ k A c, k ≤ l.length ∧ i = .int .i64 k ∧ v = .slice A (k + 1) c ∧ Hid (Row wr 27 1 (.slice A (k + 1) c) (k + 1) (E (ce :: (l.take k).map errOf))) ∧ Hid (∀ j, (Value.slice A (k + 1) c).ownBlock = some j → V.heap.size ≤ j) ∧ Keeps Nob V wr) (fun _ i _ => l.length - (intOf i).toNat)
  case atStart =>
    exact ⟨0, some ⟨V.heap.size, 0, none⟩, 1, Nat.zero_le _, rfl, rfl, Lib.hid (Row.newE V ce), Lib.hid (fun j hj => by simp [Value.ownBlock] at hj; omega), (Keeps.refl _ _).alloc _⟩
  case round =>
    obtain ⟨k, A, c, hkl, rfl, rfl, HR, HN, hkp⟩ := hrel
    by_cases hlt : k < l.length
    · obtain ⟨x, hx⟩ : ∃ x, l[k]? = some x := ⟨l[k], List.getElem?_eq_getElem hlt⟩
      obtain ⟨bx1, bx2, bl, ol, cl, hvl, hbl, q0⟩ := HV.out.at_ k _ hx
      simp only [Value.slice.injEq, true_and] at hvl
      obtain ⟨rfl, rfl⟩ := hvl
      have p0 := ((hkw.trans (hk.trans hkp)).cell hbl (fun x => x)).trans q0
      have HT : Hid (l.take (k + 1) = l.take k ++ [x]) := Lib.hid (by rw [List.take_add_one, hx]; rfl)
      clear q0 hx
      have hown := HR.out.keeps ((Keeps.refl Nob wr).alloc (.cells #[.int .i64 (errOf x)] 27)) (fun _ _ x => x)
      have hsrc := Src.new wr 1 1 [.int .i64 (errOf x)] 27 rfl (by simp [Value.oneCell']) 1
      have HO := Lib.hid hown
      have HS := Lib.hid hsrc
      clear hown hsrc
      go_wp2_with (first
        | (go_at_call 98; refine (pfine_ok x _).mono ?_; rintro e w' ⟨rfl, rfl⟩)
        | (at_builtin; refine own_append2 rfl _ _ 165 rfl 27 i0 (.int .i64 0) 1 8 Tryz.underlying165 hi hz0 hz1 hz2 rfl (by decide) (.slice A (k + 1) c) (k + 1) _ rfl HO.out (.slice (some ⟨wr.heap.size, 0, none⟩) 1 1) 1 _ rfl HS.out (by unfold maxLen; omega) (by omega) ?_; intro v' w1 hown' hgrow hnil hat; obtain ⟨g', cap', rfl, hg'⟩ := hown'.spell (by omega); have HW := Lib.hid hown'; have HT2 := Lib.hid hat; have HGr := Lib.hid hgrow; clear hown' hat hgrow hnil))
      go_roundw
      case rel =>
        refine ⟨k + 1, some ⟨g', 0, none⟩, cap', by omega, by go_num, rfl, Lib.hid ?_, Lib.hid (fun j hj => ?_), ?_⟩
        · rw [HT.out, List.map_append, ← List.cons_append, E_append]; exact HW.out
        · rcases HT2.out j hj with h | ⟨h, _⟩
          · exact HN.out j h
          · have := hkp.size; simp at h; omega
        · exact (hkp.alloc _).grown HGr.out (fun j hj hlt => by have := HN.out j hj; omega)
      case measure => simp [intOf]; omega
    · have hd : decide ((k : Int) < (l.length : Int)) = false := by simp; omega
      have hkk : k = l.length := by omega
      have hR := HR.out
      have hn1 : (ce :: (l.take k).map errOf).length = k + 1 := by simp; omega
      rw [← hn1] at hR
      have FO := fun W hW => first_ok _ _ W (hR.keeps (w' := W) hW (fun _ _ x => x)) (by rw [hn1]; omega)
      rw [hn1, show (l.take k) = l by rw [hkk]; exact List.take_of_length_le (Nat.le_refl _), HER.out] at FO
      have FOH := Lib.hid FO
      obtain ⟨hb1, hb2⟩ := HB.out
      have kV2 := hk.trans hkp
      have e1 := (kV2.block w.heap.size (by omega) (fun x => x)).trans hb1
      have e2 := (kV2.block (w.heap.size + 1) (by omega) (fun x => x)).trans hb2
      clear FO hR hn1 hb1 hb2
      go_wp2_with fail
      refine wp_region_noPanic <| region_named (R := opsGood) (by kernel_rfl) <| wp_regionH_fuel (fun W => W.heap[w.heap.size]? = some (.cells p.cells 51 (0, 0))) 6 #[false, false, false, false, false, false] (by kernel_rfl) (by kernel_rfl) rfl <| wpAnyH_val (i := 0) (opsGood.getD 0 default) (.agg p.cells) (by kernel_rfl) (fun _ _ _ _ _ h => h) (by kernel_rfl) (by kernel_rfl) (by kernel_rfl) (by kernel_rfl) (fun W hW => exec_load_row 51 (.tmp 2) (by kernel_rfl) w.heap.size (by kernel_rfl) 51 p.cells (0, 0) _ hW Tryz.underlying51 rfl (by kernel_rfl)) e1 <| wpAnyH_val (i := 1) (opsGood.getD 1 default) (.agg p.cells) (by kernel_rfl) (fun _ _ _ _ _ h => h) (by kernel_rfl) (by kernel_rfl) (by kernel_rfl) (by kernel_rfl) (fun W hW => by kernel_rfl) e1 <| wpAnyH_val (i := 2) (opsGood.getD 2 default) (.slice A (k + 1) c) (by kernel_rfl) (fun _ _ _ _ _ h => h) (by kernel_rfl) (by kernel_rfl) (by kernel_rfl) (by kernel_rfl) (fun W hW => by kernel_rfl) e1 ?_
      refine wpAnyH_call (i := 3) (opsGood.getD 3 default) 99 #[.slice A (k + 1) c] (by kernel_rfl) (by kernel_rfl) (by kernel_rfl) (by kernel_rfl) (by kernel_rfl) (enters_of Tryz.func99 (by kernel_rfl) rfl) ((FOH.out _ ((Keeps.refl _ _).drew)).mono ?_)
      rintro e w' ⟨rfl, rfl⟩
      refine ⟨_, rfl, e1, ?_⟩
      have eS : (wr.drew.setRow (w.heap.size + 1) p.cells).heap[w.heap.size]? = some (.cells p.cells 51 (0, 0)) := (setRow_other wr.drew (w.heap.size + 1) w.heap.size p.cells (by omega)).trans e1
      refine wpAnyH_run (i := 4) (opsGood.getD 4 default) undef (w' := wr.drew.setRow (w.heap.size + 1) p.cells) (by kernel_rfl) (by kernel_rfl) (by kernel_rfl) (.inr ⟨exec_store_row 130 (.tmp 4) (.tmp 31) (by kernel_rfl) (w.heap.size + 1) p.cells (by kernel_rfl) (by kernel_rfl) 130 _ e2 (by kernel_rfl) rfl (by kernel_rfl), rfl⟩) eS <| wpAnyH_run (i := 5) (opsGood.getD 5 default) (.int .i64 er) (w' := wr.drew.setRow (w.heap.size + 1) p.cells) (by kernel_rfl) (by kernel_rfl) (by kernel_rfl) (.inl (by kernel_rfl)) eS ?_
      refine wpAnyH_done (by kernel_rfl) ?_ _
      refine NoPanic.normal ?_
      refine state_eq (b := ⟨#[.agg p.cells, .slice a0 l.length cap, .pointer (some ⟨w.heap.size, 0, none⟩), undef, .pointer (some ⟨w.heap.size + 1, 0, none⟩), .int .i64 er, .int .i64 ce, .int .i64 ci, .slice A (k + 1) c, undef, u10,
        .tuple #[.int .i64 ce, .int .i64 ci], .agg p.cells, .tuple #[.int .i64 ce, .int .i64 ci], .int .i64 ce, .int .i64 ci, .int .i64 ce, .slice (some ⟨V.heap.size, 0, none⟩) 1 1, .slice a0 l.length cap, .int .i64 l.length, .int .i64 k, .bool false, u22, u23, u24, u25, u26, u27, u28, u29,
        .agg p.cells, .agg p.cells, .slice A (k + 1) c, .int .i64 er], []⟩) (by kernel_rfl) ?_
      have eR : (wr.drew.setRow (w.heap.size + 1) p.cells).heap[w.heap.size + 1]? = some (.cells p.cells 130 (0, 0)) := setRow_heap _ _ _ _ _ _ e2
      have hfin : Keeps Nob w (wr.drew.setRow (w.heap.size + 1) p.cells) := ((hkw.trans kV2).drew).setRow (fun x => absurd x (by omega)) _
      generalize wr.drew.setRow (w.heap.size + 1) p.cells = WF at *
      have eld := fun (t : TypeId) => run_loadVar_row (P := Tryz.prog) WF (w.heap.size + 1) 130 130 p.cells (0, 0) _ eR Tryz.underlying130 rfl (by kernel_rfl)
      go_wp2
      refine bodyPost_ret (v := .tuple #[.agg p.cells, .int .i64 er]) ?_ rfl ⟨rfl, hfin⟩
      simp [results, Tryz.results85, asAddr, eld 0]
end Go.Proofs.YtghohakbepeffaaGreatDoor
namespace Go.Proofs.YtghohakbepeffaaGreatDoor
set_option maxRecDepth 100000
set_option maxHeartbeats 4000000
open Go Go.RowKit Go.Own Go.Shelf
theorem down_ok (h n : Int) (w : World) (h1 : 1 ≤ h) (h2 : h ≤ 4294967296) (e1 : -4294967296 ≤ n) (e2 : n ≤ 4294967296) :
    Calls Tryz.prog 86 #[.int .i64 h, .int .i64 n] w fun e w' => e = .returned (.int .i64 (h - n)) ∧ w = w' := by
  go_enter Tryz.func86, Tryz.ntmps86
  go_wp2
  go_ret
  exact ⟨rfl, rfl⟩
end Go.Proofs.YtghohakbepeffaaGreatDoor
namespace Go.Proofs.YtghohakbepeffaaGreatDoor
set_option maxRecDepth 100000
set_option maxHeartbeats 4000000
open Go Go.RowKit Go.Own Go.Shelf
theorem pnoted_ok (p : Par) (hp : p.Ok) (c h : Int) (cc : i64ok c) (hh : i64ok h) (w : World) :
    Calls Tryz.prog 65 #[p.v, .int .i64 c, .int .i64 h] w fun e w' => e = .returned (.tuple #[.bool (p.noted c h).1, .int .i64 (p.noted c h).2]) ∧ Keeps Nob w w' := by
  have FN := fun V v hv => good_ok p hp v [c, h] V (by simp) hv
  have hb := fun hc => p.bounds (p.fine_zero [c, h] hc).1
  have hr1 := fun hc => (p.fine_zero [c, h] hc).2 c (by simp)
  have hr2 := fun hc => (p.fine_zero [c, h] hc).2 h (by simp)
  unfold Par.noted
  generalize p.fine [c, h] = er at *
  have hpv : p.v = .agg p.cells := rfl
  rw [hpv] at FN ⊢
  unfold Par.cells at FN ⊢
  have FH := Lib.hid FN; clear FN hpv
  by_cases hc : er = 0
  · subst hc
    obtain ⟨r1, r2⟩ := hr1 rfl
    obtain ⟨r3, r4⟩ := hr2 rfl
    obtain ⟨⟨x1, x2⟩, ⟨x3, x4⟩, ⟨x5, x6⟩, ⟨x7, x8⟩, ⟨x9, x10⟩, ⟨x11, x12⟩, _⟩ := hb rfl
    clear hb hr1 hr2
    by_cases k1 : c ≤ h
    · have k1d : decide (c ≤ h) = true := by simpa using k1
      go_enter Tryz.func65, Tryz.ntmps65
      go_wp2_with (first | (go_at_call 85; refine (FH.out _ _ (by have := ints_two (w.alloc (.cells p.cells 51)) c h cc hh 3; simpa [Par.cells] using this)).mono ?_; rintro e V ⟨rfl, hk⟩))
      go_quiet ((go_at_call 86; exact Calls.quiet_eq (down_ok _ _ _ (by omega) (by omega) (by omega) (by omega))))
      go_wp2
      go_ret2
      exact ⟨by simp [k1], (((((Keeps.refl Nob w).alloc _).alloc _).trans hk).alloc _).drewN _⟩
    · have k2 : decide (c ≤ h) = false := by simpa using k1
      go_enter Tryz.func65, Tryz.ntmps65
      go_wp2_with (first | (go_at_call 85; refine (FH.out _ _ (by have := ints_two (w.alloc (.cells p.cells 51)) c h cc hh 3; simpa [Par.cells] using this)).mono ?_; rintro e V ⟨rfl, hk⟩))
      go_quiet (fail)
      go_wp2
      go_ret2
      exact ⟨by simp [k2], (((((Keeps.refl Nob w).alloc _).alloc _).trans hk).alloc _).drewN _⟩
  · have hcd : (er == 0) = false := by simpa using hc
    have hce : (er != 0) = true := by simpa using hc
    clear hb hr1 hr2
    try rw [if_neg hc]
    go_enter Tryz.func65, Tryz.ntmps65
    go_wp2_with (first | (go_at_call 85; refine (FH.out _ _ (by have := ints_two (w.alloc (.cells p.cells 51)) c h cc hh 3; simpa [Par.cells] using this)).mono ?_; rintro e V ⟨rfl, hk⟩))
    go_quiet (fail)
    go_wp2
    go_ret2
    exact ⟨by simp [hc], (((((Keeps.refl Nob w).alloc _).alloc _).trans hk).alloc _).drewN _⟩
end Go.Proofs.YtghohakbepeffaaGreatDoor
namespace Go.Proofs.YtghohakbepeffaaGreatDoor
set_option maxRecDepth 100000
set_option maxHeartbeats 4000000
open Go Go.RowKit Go.Own Go.Shelf
/-- What the iterator over a slice reads. -/
def valS (bx : Nat) (v : Value) (l : List Nt) (W : World) : Prop := W.heap[bx]? = some (.cells #[v] 22 (0, 0)) ∧ Sl W 2 Nt.cl v l
theorem Sl.turn {α : Type} {s : Nat} {c : α → List Value} {v : Value} {xs : List α} {A B : World} {b : Nat} (h : Sl A s c v xs) (hc : ∀ x ∈ xs, ∀ (j : Nat) (u : Value), (c x)[j]? = some u → True) (t : Turn b Nob A B) : Sl B s c v xs :=
  ⟨h.form, fun i x hi => by
    obtain ⟨g, o, cap, e, hb, hj⟩ := h.at_ i x hi
    exact ⟨g, o, cap, e, Nat.lt_of_lt_of_le hb t.size, fun j u hu => t.cell (hj j u hu) (fun x => x)⟩⟩
theorem valS.turn {bx : Nat} {v : Value} {l : List Nt} {A B : World} {b : Nat} (h : valS bx v l A) (t : Turn b Nob A B) : valS bx v l B :=
  ⟨t.same _ _ h.1 (fun x => x) (.inr rfl), Sl.turn h.2 (fun _ _ _ _ _ => trivial) t⟩
theorem valS.keepsN {bx : Nat} {v : Value} {l : List Nt} {A B : World} (h : valS bx v l A) (k : Keeps Nob A B) : valS bx v l B := ⟨k.bk h.1, h.2.keepsN k⟩
theorem filter_get {α : Type} {f : α → Bool} {l : List α} {i : Nat} {x : α} (hx : l[i]? = some x) (hf : f x = true) : (l.filter f)[((l.take i).filter f).length]? = some x := by
  have hi : i < l.length := (List.getElem?_eq_some_iff.1 hx).1
  have e : l = l.take i ++ (x :: l.drop (i + 1)) := by
    have h1 := (List.take_append_drop i l).symm
    rw [List.drop_eq_getElem_cons hi, (List.getElem?_eq_some_iff.1 hx).2] at h1; exact h1
  have e2 : l.filter f = (l.take i).filter f ++ (x :: (l.drop (i + 1)).filter f) := by
    conv => lhs; rw [e]
    rw [List.filter_append, List.filter_cons, if_pos hf]
  rw [e2, List.getElem?_append_right (Nat.le_refl _), Nat.sub_self]; rfl
theorem filter_yes {α : Type} {f : α → Bool} {l : List α} {i : Nat} {x : α} (hx : l[i]? = some x) (hf : f x = true) : ((l.take (i + 1)).filter f).length = ((l.take i).filter f).length + 1 := by
  rw [List.take_add_one, hx, List.filter_append]; simp [hf]
theorem filter_no {α : Type} {f : α → Bool} {l : List α} {i : Nat} {x : α} (hx : l[i]? = some x) (hf : f x = false) : ((l.take (i + 1)).filter f).length = ((l.take i).filter f).length := by
  rw [List.take_add_one, hx, List.filter_append]; simp [hf]
noncomputable def qc46_2 (n : Nat) : Code := partOf Tryz.f63 n
theorem nValues_ok (A : Option Addr) (n cap : Nat) (w : World) :
    Calls Tryz.prog 63 #[.slice A n cap] w (fun e w' => ∃ bx, e = .returned (.func (.func 84) #[] #[.pointer (some ⟨bx, 0, none⟩)]) ∧ w'.heap[bx]? = some (.cells #[.slice A n cap] 22 (0, 0)) ∧ w.heap.size ≤ bx ∧ Keeps Nob w w') := by
  have K0 : Keeps Nob w w := Keeps.refl _ _
  refine sy_enter (qc46_2 1) ⟨#[.slice A n cap, ud, ud, ud], []⟩ Tryz.func63 (by kernel_rfl) (by kernel_rfl) <| qr_ [0, 1] <| pbx 22 (#[.slice A n cap]) (.slice A n cap) fun V1 bx ebx h2 kV1 => ?_
  have n3 : w.heap.size ≤ bx := ebx ▸ K0.size
  have K4 := K0.nn kV1
  have z5 := kV1.size
  refine pkq (.nilFunc) <| eqr_ [0, 1] <| pkq (.func (.func 84) #[] #[pT bx 0]) <| pkq (.func (.func 84) #[] #[pT bx 0]) <| eu_ <| so_ (.func (.func 84) #[] #[.pointer (some ⟨bx, 0, none⟩)]) ?_
  exact ⟨bx, rfl, h2, by omega, K4⟩
theorem vals_cases (l : List Nt) (k : Nat) (h : k ≤ l.length) : (∃ x, k < l.length ∧ l[k]? = some x) ∨ k = l.length := by
  by_cases hk : k < l.length
  · exact .inl ⟨_, hk, List.getElem?_eq_getElem hk⟩
  · exact .inr (by omega)
/-- New memory that is laid and then written: old blocks are as they were. -/
theorem keeps_new {A B C : World} {g : Nat} (k1 : Keeps Nob A B) (k2 : Keeps (One g) B C) (hg : A.heap.size ≤ g) : Keeps Nob A C := k1.then k2 (fun i hi hm => by unfold Own.One at hm; omega)
noncomputable def qc46_0 (n : Nat) : Code := partOf Tryz.f84 n
noncomputable abbrev qo46_0 (n k : Nat) : Oper := (opsAt (qc46_0 n)).getD k default
theorem vals_seq (bx : Nat) (v : Value) (xs : List Nt) (fz : Nat) :
    SeqOwn Fence.wide fz Tryz.prog 84 #[.pointer (some ⟨bx, 0, none⟩)] (fun x : Nt => #[.agg #[.int .i64 x.h, .int .u64 ((x.s : Nat) : Int)]]) (xs) Nob (fun _ => valS bx v xs) := by
  intro ly J Jx W0 hJ hJx hY h0 hS0
  obtain ⟨hb0, hl0⟩ := hS0
  have hln := Sl.len_le hl0
  refine syW_enter (qc46_0 1) ⟨#[.func (.yield ly) #[] #[], .pointer (some ⟨bx, 0, none⟩), ud, ud, ud, ud, ud, ud, ud, ud, ud, ud, ud, ud, ud, ud], []⟩ Tryz.func84 (by kernel_rfl) (by kernel_rfl) <| syI_seq (qc46_0 2) (qc46_0 3) (by kernel_rfl) <| syW_reg <| rg_plain 0 (opsAt (qc46_0 2)) [0, 1, 2] (by kernel_rfl) (by kernel_rfl) <| ppq (v) (ldk 22 bx 0 hb0) <| ppq (iN xs.length) (exec_len_sl (.tmp 5) 22 46 (by kernel_rfl) Tryz.underlying22 (by kernel_rfl) hl0) <| pkq (.int .i64 0) <| et_ <| syI_block 0 (qc46_0 6) (by kernel_rfl) ?_
  refine syI_loop (qc46_0 12) (fun a V => ∃ (k : Nat) (u4 u8 u9 u10 u11 u12 u13 u14 u15 : Value), (a = ⟨#[.func (.yield ly) #[] #[], pT bx 0, ud, ud, u4, v, iN xs.length, iN k, u8, u9, u10, u11, u12, u13, u14, u15], []⟩) ∧ (k ≤ xs.length) ∧ (J k V) ∧ (V.heap[bx]? = some (.cells #[v] 22 (0, 0))) ∧ (Sl V 2 Nt.cl v xs)) (fun a _ => xs.length - (intOf (a.tmps.getD 7 undef)).toNat) (by kernel_rfl) ?_ ?_
  · exact ⟨0, undef, undef, undef, undef, undef, undef, undef, undef, undef, by kernel_rfl, Nat.zero_le _, h0, hb0, hl0⟩
  · rintro a V1 ⟨k, u4, u8, u9, u10, u11, u12, u13, u14, u15, rfl, hk0, h2, h3, h4⟩
    rcases vals_cases xs k hk0 with ⟨x, hk, hx⟩ | hk
    · obtain ⟨b_, o_, c_, hv_, hb_, _⟩ := (h4).at_ k _ hx
      refine syI_seq (qc46_0 24) (qc46_0 25) (by kernel_rfl) <| syW_reg <| rg_plain 1 (opsAt (qc46_0 24)) [0] (by kernel_rfl) (by kernel_rfl) <| ppq (.bool true) (dct ((((k : Nat) : Int)) < (((xs.length : Nat) : Int))) (by omega)) <| et_ <| syI_seq (qc46_0 50) (qc46_0 51) (by kernel_rfl) <| syI_yes (.tmp 8) (qc46_0 100) (qc46_0 101) (by kernel_rfl) (by kernel_rfl) <| syI_skip (by kernel_rfl) <| then_n <| syI_seq (qc46_0 102) (qc46_0 103) (by kernel_rfl) <| syI_block 1 (qc46_0 204) (by kernel_rfl) <| syI_seq (qc46_0 408) (qc46_0 409) (by kernel_rfl) <| syW_reg <| rg_plain 2 (opsAt (qc46_0 408)) [0, 1, 2, 3] (by kernel_rfl) (by kernel_rfl) ?_
      refine ppq (pT b_ (o_ + k * 2)) (exec_indexAt_slice 22 (.tmp 5) (.tmp 7) (by kernel_rfl) b_ o_ xs.length c_ (Eq.trans (b := v) (by kernel_rfl) hv_) .i64 k (by kernel_rfl) _ 2 Tryz.underlying22 (by kernel_rfl) (by omega)) <| ppq (.agg #[.int .i64 x.h, uN x.s]) (exec_load_mid 46 (.tmp 9) (by kernel_rfl) b_ (o_ + k * 2) (by kernel_rfl) (Nt.cl x) _ (Sl.range h4 hx hv_) Tryz.underlying46 rfl (by kernel_rfl)) <| pal 46 (#[.int .i64 0, .int .u64 0]) (.agg (#[.int .i64 0, .int .u64 0])) fun V6 g4 eg4 h7 kV6 => ?_
      have n8 : bx < g4 := eg4 ▸ lt_of_block h3
      have h9 : J k V6 := hJ _ _ _ h2 kV6
      have h10 := kV6.bk h3
      obtain ⟨V12, eV12, kV12⟩ := rowset_step V6 g4 (#[.int .i64 x.h, .int .u64 ((x.s : Nat) : Int)])
      have h13 : V12.heap[g4]? = some (.cells (#[.int .i64 x.h, .int .u64 ((x.s : Nat) : Int)]) 46 (0, 0)) := eV12 ▸ setRow_heap _ _ _ _ _ _ h7
      refine pzq (w' := V12) (by rw [← eV12]; exact exec_store_row 46 (.tmp 4) (.tmp 10) (by kernel_rfl) g4 (#[.int .i64 x.h, uN x.s]) (by kernel_rfl) (by kernel_rfl) 46 (#[.int .i64 0, .int .u64 0]) h7 (by kernel_rfl) rfl (by kernel_rfl)) ?_
      clear eV12
      have h14 : J k V12 := hJ _ _ _ h2 (keeps_new kV6 kV12 (by omega))
      have h15 := kV12.bO h10
      have h16 : Sl V12 2 Nt.cl v xs := h4.keepsN (keeps_new kV6 kV12 (by omega))
      refine et_ <| syI_seq (qc46_0 818) (qc46_0 819) (by kernel_rfl) <| rg_yield 3 (opsAt (qc46_0 818)) [0, 1, 2, 3] (by kernel_rfl) (by kernel_rfl) <| pi_run (qo46_0 818 0) (.func (.yield ly) #[] #[]) (w' := V12) (by kernel_rfl) (by kernel_rfl) (by kernel_rfl) <| pi_run (qo46_0 818 1) (.agg #[.int .i64 x.h, .int .u64 ((x.s : Nat) : Int)]) (w' := V12) (by kernel_rfl) (by kernel_rfl) (ldr 46 g4 (h13) (by kernel_rfl)) ?_
      refine pi_yield (qo46_0 818 2) (.tmp 11) ly #[.agg #[.int .i64 x.h, .int .u64 ((x.s : Nat) : Int)]] (by kernel_rfl) (by kernel_rfl) (by kernel_rfl) (by kernel_rfl) (by kernel_rfl) ((hY k x _ hx h14 ⟨h15, h16⟩).mono ?_)
      rintro e V17 (⟨rfl, hj3, hb3, hl3⟩ | ⟨rfl, hx3⟩)
      · refine ⟨_, rfl, ?_⟩
        refine pi_run (qo46_0 818 3) (.bool false) (w' := V17) (by kernel_rfl) (by kernel_rfl) (by kernel_rfl) <| pi_end <| then_n <| syI_no (.tmp 14) (qc46_0 1638) (qc46_0 1639) (by kernel_rfl) (by kernel_rfl) <| syI_skip (by kernel_rfl) <| blk_n <| then_n <| syW_reg <| rg_plain 4 (opsAt (qc46_0 103)) [0, 1] (by kernel_rfl) (by kernel_rfl) <| ppq (iN (k + 1)) (exec_cast (congrArg (Value.int .i64) (wrapN (k + 1) (by omega))) (by kernel_rfl)) <| pkq (iN (k + 1)) <| et_ ?_
        refine ⟨⟨k + 1, (pT g4 0), (.bool true), (pT b_ (o_ + k * 2)), (.agg #[.int .i64 x.h, uN x.s]), (.func (.yield ly) #[] #[]), (.agg #[.int .i64 x.h, uN x.s]), (.bool true), (.bool false), (iN (k + 1)), by kernel_rfl, by omega, hj3, hb3, hl3⟩, ?_⟩
        exact lt_meas (x := xs.length - (k + 1)) (y := xs.length - k) (by kernel_rfl) (by kernel_rfl) (by omega)
      · refine ⟨_, rfl, ?_⟩
        refine pi_run (qo46_0 818 3) (.bool true) (w' := V17) (by kernel_rfl) (by kernel_rfl) (by kernel_rfl) <| pi_end <| then_n <| syI_yes (.tmp 14) (qc46_0 1638) (qc46_0 1639) (by kernel_rfl) (by kernel_rfl) <| syI_ret (by kernel_rfl) <| blk_r <| then_r <| then_r <| blk_r <| so_ (.tuple #[]) ?_
        exact ⟨⟨_, rfl⟩, .inr hx3⟩
    · skip
      refine syI_seq (qc46_0 24) (qc46_0 25) (by kernel_rfl) <| syW_reg <| rg_plain 1 (opsAt (qc46_0 24)) [0] (by kernel_rfl) (by kernel_rfl) <| ppq (.bool false) (dcf ((((k : Nat) : Int)) < (((xs.length : Nat) : Int))) (by omega)) <| et_ <| syI_seq (qc46_0 50) (qc46_0 51) (by kernel_rfl) <| syI_no (.tmp 8) (qc46_0 100) (qc46_0 101) (by kernel_rfl) (by kernel_rfl) <| syI_exit 0 (by kernel_rfl) <| then_e <| then_e <| blk_e <| sy_fall (.tuple #[]) rfl (by kernel_rfl) ?_
      exact ⟨⟨_, rfl⟩, .inl (by have hz := h2; rw [hk] at hz; exact hz)⟩
theorem noted_is (p : Par) (x : Nt) (h : Int) (bv : Bool) (w : World) (hp : p.Ok) (hx1 : i64ok x.h) (hh1 : i64ok h) (hbv : (p.noted x.h h).1 = bv) : Calls Tryz.prog 65 #[.agg p.cells, .int .i64 x.h, .int .i64 h] w (fun e w' => e = .returned (.tuple #[.bool bv, .int .i64 (p.noted x.h h).2]) ∧ Keeps Nob w w') := hbv ▸ pnoted_ok p hp x.h h hx1 hh1 w
noncomputable def qc46_4 (n : Nat) : Code := partOf Tryz.f64 n
theorem is_ok (p : Par) (x : Nt) (h : Int) (bv : Bool) (gp gh : Nat) (w : World) (hp : p.Ok) (hx1 : i64ok x.h) (hh1 : i64ok h) (hbv : (p.noted x.h h).1 = bv) (hgp : w.heap[gp]? = some (.cells p.cells 51 (0, 0))) (hgh : w.heap[gh]? = some (.cells #[.int .i64 h] 3 (0, 0))) :
    Calls Tryz.prog 64 #[.agg #[.int .i64 x.h, .int .u64 ((x.s : Nat) : Int)], .pointer (some ⟨gp, 0, none⟩), .pointer (some ⟨gh, 0, none⟩)] w (fun e w' => e = .returned (.bool bv) ∧ Keeps Nob w w') := by
  have ltp := lt_of_block hgp
  have lth := lt_of_block hgh
  have K0 : Keeps Nob w w := Keeps.refl _ _
  refine sy_enter (qc46_4 1) ⟨#[.agg #[.int .i64 x.h, uN x.s], pT gp 0, pT gh 0, ud, ud, ud, ud, ud, ud, ud, ud, ud, ud, ud, ud, ud], []⟩ Tryz.func64 (by kernel_rfl) (by kernel_rfl) <| qr_ [0, 1] <| pbx 46 (#[.int .i64 x.h, .int .u64 ((x.s : Nat) : Int)]) (.agg #[.int .i64 x.h, uN x.s]) fun V1 gx egx h2 kV1 => ?_
  have n3 : gp < gx := egx ▸ lt_of_block hgp
  have n4 : gh < gx := egx ▸ lt_of_block hgh
  have n5 : w.heap.size ≤ gx := egx ▸ K0.size
  have h6 := kV1.bk hgp
  have h7 := kV1.bk hgh
  have K8 := K0.nn kV1
  have z9 := kV1.size
  refine pkq (.bool false) <| eqr_ [0, 1, 2, 3, 4, 5, 6, 7, 8, 9] <| ppq (.agg (p.cells)) (ldr 51 gp (h6) (by kernel_rfl)) <| pkq (pT gx 0) <| ppq (.int .i64 x.h) (ldk 3 gx 0 h2) <| ppq (.int .i64 h) (ldk 3 gh 0 h7) ?_
  refine pcq 65 #[.agg (p.cells), .int .i64 x.h, .int .i64 h] Tryz.func65 ((noted_is p x h bv _ hp hx1 hh1 hbv).mono ?_)
  rintro e V10 ⟨rfl, kV10⟩
  refine ⟨_, rfl, ?_⟩
  have K14 := K8.nn kV10
  have z15 := kV10.size
  refine pkq (.tuple #[.bool bv, .int .i64 (p.noted x.h h).2]) <| pkq (.bool bv) <| pkq (.int .i64 (p.noted x.h h).2) <| pkq (.bool bv) <| pkq (.int .i64 (p.noted x.h h).2) <| eqr_ [0, 1] <| pkq (.bool bv) <| pkq (.bool bv) <| eu_ <| so_ (.bool bv) ?_
  exact ⟨rfl, K14⟩
noncomputable def qc46_3 (n : Nat) : Code := partOf Tryz.f62 n
theorem nThose_ok (bx gp gh : Nat) (w : World) :
    Calls Tryz.prog 62 #[.func (.func 84) #[] #[.pointer (some ⟨bx, 0, none⟩)], .func (.func 64) #[] #[.pointer (some ⟨gp, 0, none⟩), .pointer (some ⟨gh, 0, none⟩)]] w (fun e w' => ∃ ba bi, e = .returned (.func (.func 83) #[] #[.pointer (some ⟨ba, 0, none⟩), .pointer (some ⟨bi, 0, none⟩)]) ∧ w'.heap[ba]? = some (.cells #[.func (.func 84) #[] #[.pointer (some ⟨bx, 0, none⟩)]] 97 (0, 0)) ∧ w'.heap[bi]? = some (.cells #[.func (.func 64) #[] #[.pointer (some ⟨gp, 0, none⟩), .pointer (some ⟨gh, 0, none⟩)]] 102 (0, 0)) ∧ w.heap.size ≤ ba ∧ w.heap.size ≤ bi ∧ Keeps Nob w w') := by
  have K0 : Keeps Nob w w := Keeps.refl _ _
  refine sy_enter (qc46_3 1) ⟨#[.func (.func 84) #[] #[pT bx 0], .func (.func 64) #[] #[pT gp 0, pT gh 0], ud, ud, ud, ud], []⟩ Tryz.func62 (by kernel_rfl) (by kernel_rfl) <| qr_ [0, 1, 2] ?_
  refine pbx 97 (#[.func (.func 84) #[] #[.pointer (some ⟨bx, 0, none⟩)]]) (.func (.func 84) #[] #[pT bx 0]) fun V1 ba eba h2 kV1 => ?_
  have n3 : w.heap.size ≤ ba := eba ▸ K0.size
  have K4 := K0.nn kV1
  have z5 := kV1.size
  refine pbx 102 (#[.func (.func 64) #[] #[.pointer (some ⟨gp, 0, none⟩), .pointer (some ⟨gh, 0, none⟩)]]) (.func (.func 64) #[] #[pT gp 0, pT gh 0]) fun V6 bi ebi h7 kV6 => ?_
  have n8 : ba < bi := ebi ▸ lt_of_block h2
  have n9 : w.heap.size ≤ bi := ebi ▸ K4.size
  have h10 := kV6.bk h2
  have K11 := K4.nn kV6
  have z12 := kV6.size
  refine pkq (.nilFunc) <| eqr_ [0, 1] <| pkq (.func (.func 83) #[] #[pT ba 0, pT bi 0]) <| pkq (.func (.func 83) #[] #[pT ba 0, pT bi 0]) <| eu_ <| so_ (.func (.func 83) #[] #[.pointer (some ⟨ba, 0, none⟩), .pointer (some ⟨bi, 0, none⟩)]) ?_
  exact ⟨ba, bi, rfl, h10, h7, by omega, by omega, K11⟩
/-- What the iterator over the notes that count reads. -/
structure thS (ba bi bx gp gh : Nat) (v : Value) (l : List Nt) (p : Par) (h : Int) (W : World) : Prop where
  vs : valS bx v l W
  sa : W.heap[ba]? = some (.cells #[.func (.func 84) #[] #[.pointer (some ⟨bx, 0, none⟩)]] 97 (0, 0))
  si : W.heap[bi]? = some (.cells #[.func (.func 64) #[] #[.pointer (some ⟨gp, 0, none⟩), .pointer (some ⟨gh, 0, none⟩)]] 102 (0, 0))
  sp : W.heap[gp]? = some (.cells p.cells 51 (0, 0))
  sh : W.heap[gh]? = some (.cells #[.int .i64 h] 3 (0, 0))
theorem thS.turn {ba bi bx gp gh : Nat} {v : Value} {l : List Nt} {p : Par} {h : Int} {A B : World} {b : Nat} (q : thS ba bi bx gp gh v l p h A) (t : Turn b Nob A B) : thS ba bi bx gp gh v l p h B :=
  ⟨q.vs.turn t, t.same _ _ q.sa (fun x => x) (.inr rfl), t.same _ _ q.si (fun x => x) (.inr rfl), t.same _ _ q.sp (fun x => x) (.inr rfl), t.same _ _ q.sh (fun x => x) (.inr rfl)⟩
theorem thS.keepsN {ba bi bx gp gh : Nat} {v : Value} {l : List Nt} {p : Par} {h : Int} {A B : World} (q : thS ba bi bx gp gh v l p h A) (k : Keeps Nob A B) : thS ba bi bx gp gh v l p h B := q.turn (k.turn 0)
noncomputable def part_nThose1 (n : Nat) : Code := partOf Tryz.f83 n
noncomputable abbrev o_nThose1 (n k : Nat) : Oper := (opsAt (part_nThose1 n)).getD k default
theorem those_assign {l N : Nat} {u0 u1 u2 u3 u4 u5 u7 u8 u9 u10 u11 u12 u13 u14 u15 : Value} (x : Nt) (w : World) (Q : Exit → Act → World → Prop) (hL : ¬ LetsOut Q) (hQ : ∀ (g4 : Nat) (W : World), W.heap[g4]? = some (.cells #[.int .i64 x.h, .int .u64 ((x.s : Nat) : Int)] 46 (0, 0)) → w.heap.size ≤ g4 → Keeps Nob w W → Q .normal ⟨#[u0, u1, u2, u3, .pointer (some ⟨g4, 0, none⟩), u5, .agg #[.int .i64 x.h, .int .u64 ((x.s : Nat) : Int)], u7, u8, u9, u10, u11, u12, u13, u14, u15], []⟩ W) :
    (part_nThose1 28).wpIn (Fence.wide.inRound l) N Tryz.prog Q ⟨#[u0, u1, u2, u3, u4, u5, .agg #[.int .i64 x.h, .int .u64 ((x.s : Nat) : Int)], u7, u8, u9, u10, u11, u12, u13, u14, u15], []⟩ w := by
  have K0 : Keeps Nob w w := Keeps.refl _ _
  refine syI_reg (by kernel_rfl) (fun ⟨a, w, h⟩ => hL ⟨a, w, h⟩) <| rg_plain 2 (opsAt (part_nThose1 28)) [0, 1] (by kernel_rfl) (by kernel_rfl) <| pal 46 (#[.int .i64 0, .int .u64 0]) (.agg (#[.int .i64 0, .int .u64 0])) fun V1 g4 eg4 h2 kV1 => ?_
  have n3 : w.heap.size ≤ g4 := eg4 ▸ K0.size
  have K4 := K0.nn kV1
  obtain ⟨V5, eV5, kV5⟩ := rowset_step V1 g4 (#[.int .i64 x.h, .int .u64 ((x.s : Nat) : Int)])
  have h6 : V5.heap[g4]? = some (.cells (#[.int .i64 x.h, .int .u64 ((x.s : Nat) : Int)]) 46 (0, 0)) := eV5 ▸ setRow_heap _ _ _ _ _ _ h2
  refine pzq (w' := V5) (by rw [← eV5]; exact exec_store_row 46 (.tmp 4) (.tmp 6) (by kernel_rfl) g4 (#[.int .i64 x.h, uN x.s]) (by kernel_rfl) (by kernel_rfl) 46 (#[.int .i64 0, .int .u64 0]) h2 (by kernel_rfl) rfl (by kernel_rfl)) ?_
  clear eV5
  have K7 := K4.nO kV5
  refine ps_end <| sy_a ⟨#[u0, u1, u2, u3, pT g4 0, u5, .agg #[.int .i64 x.h, uN x.s], u7, u8, u9, u10, u11, u12, u13, u14, u15], []⟩ ?_
  exact hQ g4 _ h6 (by omega) K7
theorem those_true {l N : Nat} {u0 u1 u5 u6 u7 u8 u9 u10 u11 u12 u13 u14 u15 : Value} (p : Par) (x : Nt) (h : Int) (gp gh g4 bi bz ly m : Nat) (T X : World → Prop) (hp : p.Ok) (hx1 : i64ok x.h) (hh1 : i64ok h) (hbv : (p.noted x.h h).1 = true) (w : World) (Q : Exit → Act → World → Prop) (hL : ¬ LetsOut Q) (hgp : w.heap[gp]? = some (.cells p.cells 51 (0, 0))) (hgh : w.heap[gh]? = some (.cells #[.int .i64 h] 3 (0, 0))) (hg4 : w.heap[g4]? = some (.cells #[.int .i64 x.h, .int .u64 ((x.s : Nat) : Int)] 46 (0, 0))) (hbi : w.heap[bi]? = some (.cells #[.func (.func 64) #[] #[.pointer (some ⟨gp, 0, none⟩), .pointer (some ⟨gh, 0, none⟩)]] 102 (0, 0))) (hbz : w.heap[bz]? = some (.cells #[.func (.yield ly) #[] #[]] 102 (0, 0))) (hY : ∀ W, Keeps Nob w W → YieldAt Fence.wide m Tryz.prog ly #[.agg #[.int .i64 x.h, .int .u64 ((x.s : Nat) : Int)]] W fun e W' => (e = .returned (.bool true) ∧ T W') ∨ (e = .returned (.bool false) ∧ X W')) (hQ1 : ∀ a W, T W → Q .normal a W) (hQ2 : ∀ a W, X W → Q .ret a W) :
    (part_nThose1 29).wpIn (Fence.wide.inRound l) N Tryz.prog Q ⟨#[u0, u1, .pointer (some ⟨bi, 0, none⟩), .pointer (some ⟨bz, 0, none⟩), .pointer (some ⟨g4, 0, none⟩), u5, u6, u7, u8, u9, u10, u11, u12, u13, u14, u15], []⟩ w := by
  have K0 : Keeps Nob w w := Keeps.refl _ _
  refine syI_block 1 (part_nThose1 58) (by kernel_rfl) <| syI_seq (part_nThose1 116) (part_nThose1 117) (by kernel_rfl) <| rgR_yield 3 (opsAt (part_nThose1 116)) [0, 1, 2, 3, 4, 5, 6, 7, 8] (by kernel_rfl) (by kernel_rfl) <| piR_run (o_nThose1 116 0) (.func (.func 64) #[] #[.pointer (some ⟨gp, 0, none⟩), .pointer (some ⟨gh, 0, none⟩)]) (w' := w) (by kernel_rfl) (by kernel_rfl) (ldk 102 bi 0 hbi) <| piR_run (o_nThose1 116 1) (.agg #[.int .i64 x.h, .int .u64 ((x.s : Nat) : Int)]) (w' := w) (by kernel_rfl) (by kernel_rfl) (ldr 46 g4 (hg4) (by kernel_rfl)) ?_
  refine piR_callV (o_nThose1 116 2) (.tmp 7) 64 #[] #[.pointer (some ⟨gp, 0, none⟩), .pointer (some ⟨gh, 0, none⟩)] #[.agg #[.int .i64 x.h, .int .u64 ((x.s : Nat) : Int)], .pointer (some ⟨gp, 0, none⟩), .pointer (some ⟨gh, 0, none⟩)] (by kernel_rfl) (by kernel_rfl) (by kernel_rfl) (by kernel_rfl) (by kernel_rfl) (enters_of Tryz.func64 (by kernel_rfl) rfl) ((is_ok p x h true gp gh _ hp hx1 hh1 hbv hgp hgh).mono ?_)
  rintro e V8 ⟨rfl, kV8⟩
  refine ⟨_, rfl, ?_⟩
  have h11 := kV8.bk hg4
  have h13 := kV8.bk hbz
  have K14 := K0.nn kV8
  refine piR_run (o_nThose1 116 3) (.bool true) (w' := V8) (by kernel_rfl) (by kernel_rfl) (by kernel_rfl) <| piR_run (o_nThose1 116 4) (.func (.yield ly) #[] #[]) (w' := V8) (by kernel_rfl) (by kernel_rfl) (ldk 102 bz 0 h13) <| piR_run (o_nThose1 116 5) (.agg #[.int .i64 x.h, .int .u64 ((x.s : Nat) : Int)]) (w' := V8) (by kernel_rfl) (by kernel_rfl) (ldr 46 g4 (h11) (by kernel_rfl)) ?_
  refine piR_yield (o_nThose1 116 6) (.tmp 11) ly #[.agg #[.int .i64 x.h, .int .u64 ((x.s : Nat) : Int)]] (by kernel_rfl) (by kernel_rfl) (by kernel_rfl) (by kernel_rfl) (by kernel_rfl) ((hY _ K14).mono ?_)
  rintro e V15 (⟨rfl, hj3⟩ | ⟨rfl, hx3⟩)
  · refine ⟨_, rfl, ?_⟩
    refine piR_run (o_nThose1 116 7) (.bool false) (w' := V15) (by kernel_rfl) (by kernel_rfl) (by kernel_rfl) <| piR_run (o_nThose1 116 8) (.bool false) (w' := V15) (by kernel_rfl) (by kernel_rfl) (by kernel_rfl) <| piR_end <| sy_a ⟨#[u0, u1, pT bi 0, pT bz 0, pT g4 0, u5, u6, .func (.func 64) #[] #[pT gp 0, pT gh 0], .agg #[.int .i64 x.h, uN x.s], .bool true, .bool true, .func (.yield ly) #[] #[], .agg #[.int .i64 x.h, uN x.s], .bool true, .bool false, .bool false], []⟩ <| then_n <| syI_no (.tmp 15) (part_nThose1 234) (part_nThose1 235) (by kernel_rfl) (by kernel_rfl) <| syI_skip (by kernel_rfl) <| blk_n ?_
    exact hQ1 _ _ hj3
  · refine ⟨_, rfl, ?_⟩
    refine piR_run (o_nThose1 116 7) (.bool true) (w' := V15) (by kernel_rfl) (by kernel_rfl) (by kernel_rfl) <| piR_run (o_nThose1 116 8) (.bool true) (w' := V15) (by kernel_rfl) (by kernel_rfl) (by kernel_rfl) <| piR_end <| sy_a ⟨#[u0, u1, pT bi 0, pT bz 0, pT g4 0, u5, u6, .func (.func 64) #[] #[pT gp 0, pT gh 0], .agg #[.int .i64 x.h, uN x.s], .bool true, .bool true, .func (.yield ly) #[] #[], .agg #[.int .i64 x.h, uN x.s], .bool false, .bool true, .bool true], []⟩ <| then_n <| syI_yes (.tmp 15) (part_nThose1 234) (part_nThose1 235) (by kernel_rfl) (by kernel_rfl) <| syI_ret (by kernel_rfl) <| blk_r ?_
    exact hQ2 _ _ hx3
theorem those_false {l N : Nat} {u0 u1 u5 u6 u7 u8 u9 u10 u11 u12 u13 u14 u15 : Value} (p : Par) (x : Nt) (h : Int) (gp gh g4 bi bz ly m : Nat) (T X : World → Prop) (hp : p.Ok) (hx1 : i64ok x.h) (hh1 : i64ok h) (hbv : (p.noted x.h h).1 = false) (w : World) (Q : Exit → Act → World → Prop) (hL : ¬ LetsOut Q) (hgp : w.heap[gp]? = some (.cells p.cells 51 (0, 0))) (hgh : w.heap[gh]? = some (.cells #[.int .i64 h] 3 (0, 0))) (hg4 : w.heap[g4]? = some (.cells #[.int .i64 x.h, .int .u64 ((x.s : Nat) : Int)] 46 (0, 0))) (hbi : w.heap[bi]? = some (.cells #[.func (.func 64) #[] #[.pointer (some ⟨gp, 0, none⟩), .pointer (some ⟨gh, 0, none⟩)]] 102 (0, 0))) (hbz : w.heap[bz]? = some (.cells #[.func (.yield ly) #[] #[]] 102 (0, 0))) (hQ : ∀ a W, Keeps Nob w W → Q .normal a W) :
    (part_nThose1 29).wpIn (Fence.wide.inRound l) N Tryz.prog Q ⟨#[u0, u1, .pointer (some ⟨bi, 0, none⟩), .pointer (some ⟨bz, 0, none⟩), .pointer (some ⟨g4, 0, none⟩), u5, u6, u7, u8, u9, u10, u11, u12, u13, u14, u15], []⟩ w := by
  have K0 : Keeps Nob w w := Keeps.refl _ _
  refine syI_block 1 (part_nThose1 58) (by kernel_rfl) <| syI_seq (part_nThose1 116) (part_nThose1 117) (by kernel_rfl) <| rgR_yield 3 (opsAt (part_nThose1 116)) [0, 1, 2, 3, 4, 5, 6, 7, 8] (by kernel_rfl) (by kernel_rfl) <| piR_run (o_nThose1 116 0) (.func (.func 64) #[] #[.pointer (some ⟨gp, 0, none⟩), .pointer (some ⟨gh, 0, none⟩)]) (w' := w) (by kernel_rfl) (by kernel_rfl) (ldk 102 bi 0 hbi) <| piR_run (o_nThose1 116 1) (.agg #[.int .i64 x.h, .int .u64 ((x.s : Nat) : Int)]) (w' := w) (by kernel_rfl) (by kernel_rfl) (ldr 46 g4 (hg4) (by kernel_rfl)) ?_
  refine piR_callV (o_nThose1 116 2) (.tmp 7) 64 #[] #[.pointer (some ⟨gp, 0, none⟩), .pointer (some ⟨gh, 0, none⟩)] #[.agg #[.int .i64 x.h, .int .u64 ((x.s : Nat) : Int)], .pointer (some ⟨gp, 0, none⟩), .pointer (some ⟨gh, 0, none⟩)] (by kernel_rfl) (by kernel_rfl) (by kernel_rfl) (by kernel_rfl) (by kernel_rfl) (enters_of Tryz.func64 (by kernel_rfl) rfl) ((is_ok p x h false gp gh _ hp hx1 hh1 hbv hgp hgh).mono ?_)
  rintro e V16 ⟨rfl, kV16⟩
  refine ⟨_, rfl, ?_⟩
  have K22 := K0.nn kV16
  refine piR_run (o_nThose1 116 3) (.bool false) (w' := V16) (by kernel_rfl) (by kernel_rfl) (by kernel_rfl) <| piR_no (o_nThose1 116 4) (by kernel_rfl) (by kernel_rfl) <| piR_no (o_nThose1 116 5) (by kernel_rfl) (by kernel_rfl) <| piR_no (o_nThose1 116 6) (by kernel_rfl) (by kernel_rfl) <| piR_no (o_nThose1 116 7) (by kernel_rfl) (by kernel_rfl) <| piR_run (o_nThose1 116 8) (.bool false) (w' := V16) (by kernel_rfl) (by kernel_rfl) (by kernel_rfl) <| piR_end <| sy_a ⟨#[u0, u1, pT bi 0, pT bz 0, pT g4 0, u5, u6, .func (.func 64) #[] #[pT gp 0, pT gh 0], .agg #[.int .i64 x.h, uN x.s], .bool false, .bool false, ud, ud, ud, ud, .bool false], []⟩ <| then_n <| syI_no (.tmp 15) (part_nThose1 234) (part_nThose1 235) (by kernel_rfl) (by kernel_rfl) <| syI_skip (by kernel_rfl) <| blk_n ?_
  exact hQ _ _ K22
end Go.Proofs.YtghohakbepeffaaGreatDoor
namespace Go.Own
set_option maxRecDepth 100000
set_option maxHeartbeats 4000000
open Go Go.RowKit Go.Shelf
/-- A caller's round: cells outside its footprint are as they were; and all that is no cells, from B on. -/
structure OutK (B : Nat) (Fp : Nat → Prop) (W W' : World) : Prop where
  os : W'.os = W.os
  tape : W'.tape = W.tape
  output : W'.output = W.output
  size : W.heap.size ≤ W'.heap.size
  same : ∀ (k : Nat) (o : Obj), W.heap[k]? = some o → (o.isCells = true → ¬ Fp k) → (B ≤ k ∨ o.isCells = true) → W'.heap[k]? = some o
theorem OutK.trans {B : Nat} {Fp : Nat → Prop} {A C D : World} (h : OutK B Fp A C) (g : OutK B Fp C D) : OutK B Fp A D := ⟨g.os.trans h.os, g.tape.trans h.tape, g.output.trans h.output, Nat.le_trans h.size g.size, fun k o hk hm hp => g.same k o (h.same k o hk hm hp) hm hp⟩
theorem OutK.of_keeps {B : Nat} {Fp : Nat → Prop} {A C : World} (h : Keeps Nob A C) : OutK B Fp A C := ⟨h.os, h.tape, h.output, h.size, fun k o hk _ _ => (h.block k (Array.getElem?_eq_some_iff.1 hk).1 (fun x => x)).trans hk⟩
theorem OutK.higher {B B' : Nat} {Fp : Nat → Prop} {A C : World} (h : OutK B Fp A C) (hb : B ≤ B') : OutK B' Fp A C := ⟨h.os, h.tape, h.output, h.size, fun k o hk hm hp => h.same k o hk hm (hp.imp (fun x => by omega) id)⟩
theorem OutK.put {B l : Nat} {Fp : Nat → Prop} {o o' : Obj} (W : World) (_ : Unit) (hl : l < B) (h : W.heap[l]? = some o) (ho : o.isCells = false) : OutK B Fp W (W.putObj l o') :=
  ⟨rfl, rfl, rfl, (grownBy_putObj' W l o').size, fun k p hk _ hp => by
    refine (World.putObj_heap_other (fun e => ?_)).trans hk
    subst e
    rw [h] at hk; cases hk
    rcases hp with hp | hp
    · omega
    · rw [ho] at hp; cases hp⟩
theorem OutK.from {B : Nat} {Fp : Nat → Prop} {A C : World} (h : OutK B Fp A C) : KeepsFrom B A C := ⟨h.size, fun k o hb hk ho => h.same k o hk (fun e => by rw [ho] at e; cases e) (.inl hb)⟩
/-- An iterator's contract with the caller's footprint: what the caller's round turns lies in it, or is new. -/
def SeqFr {α : Type} (F : Fence) (n : Nat) (P : Program) (g : Nat) (lb : Array Value) (encs : α → Array Value) (xs : List α) (S : World → Prop) : Prop :=
  ∀ (l : Nat) (J : Nat → (Nat → Prop) → World → Prop) (Jx : World → Prop) (W : World) (F0 : Nat → Prop),
    (∀ k Fp A B, J k Fp A → Turn W.heap.size Nob A B → J k Fp B) → (∀ A B, Jx A → Turn W.heap.size Nob A B → Jx B) →
    (∀ k x Fp W1, xs[k]? = some x → J k Fp W1 → S W1 → YieldAt F (n - 1) P l (encs x) W1 fun e W' =>
      (e = .returned (.bool true) ∧ OutK W.heap.size Fp W1 W' ∧ ∃ Fp', J (k + 1) Fp' W' ∧ S W' ∧ ∀ j, Fp' j → Fp j ∨ W1.heap.size ≤ j) ∨ (e = .returned (.bool false) ∧ OutK W.heap.size Fp W1 W' ∧ Jx W')) →
    J 0 F0 W → (∀ j, F0 j → j < W.heap.size) → S W →
    CallsIn F n P g (#[.func (.yield l) #[] #[]] ++ lb) W fun e W' => (∃ v, e = .returned v) ∧ ((∃ Fp, J xs.length Fp W') ∨ Jx W')
/-- How the body of a round may be left. -/
def frEnd (B : Nat) (Fp : Nat → Prop) (In : (Nat → Prop) → World → Prop) (Ix : Code → World → Prop) (W : World) : Exit → Act → World → Prop
  | .normal, _, W' => OutK B Fp W W' ∧ ∃ Fp', In Fp' W' ∧ ∀ j, Fp' j → Fp j ∨ W.heap.size ≤ j
  | .ret, _, W' => OutK B Fp W W' ∧ Ix .ret W'
  | .exit id, _, W' => OutK B Fp W W' ∧ Ix (.exit id) W'
  | .goto t, _, W' => OutK B Fp W W' ∧ Ix (.goto t) W'
  | .panic _, _, _ => False
  | .outgrown, _, _ => False
section
variable {F : Fence} {n : Nat} {P : Program}
theorem own_rangeF {α : Type} {g : Operand} {ps : Array Tmp} {assign body : Code} {Q : Exit → Act → World → Prop} {a : Act} {w : World}
    (hro : F.round = none) (h1 : 1 ≤ n) {gf : Nat} {lb : Array Value} (hg : a.eval g = .func (.func gf) #[] lb) (hFg : F.fn gf) (eg : ∀ args w, (callFunc gf args).run P w = .ok (.enter gf args) w)
    {encs : α → Array Value} (hps : ∀ x, (encs x).size = ps.size) {xs : List α} {S : World → Prop}
    (hseq : SeqFr F (n - 1) P gf lb encs xs S) (hS : ∀ A B, S A → Turn w.heap.size Nob A B → S B) (hS0 : S w) {F0 : Nat → Prop} (hF0 : ∀ j, F0 j → j < w.heap.size)
    (I : Nat → (Nat → Prop) → World → Prop) (Ix : Code → World → Prop) (hI : ∀ k Fp A B, I k Fp A → Turn w.heap.size Nob A B → I k Fp B) (hIx : ∀ c A B, Ix c A → Turn w.heap.size Nob A B → Ix c B) (h0 : I 0 F0 w)
    (Ax : Nat → α → Act → World → Prop) (hAx : ∀ k x a' A B, Ax k x a' A → Turn w.heap.size Nob A B → Ax k x a' B)
    (hassign : ∀ (l k : Nat) (x : α) (Fp : Nat → Prop) (W : World) (K : Act → World → Prop), xs[k]? = some x → I k Fp W → S W → (∀ a' W', Keeps Nob W W' → I k Fp W' → S W' → Ax k x a' W' → K a' W') →
      assign.wpIn (F.inRound l) (n - 1 - 1) P (Exit.then K (fun _ _ _ => False)) { tmps := (ps.zip (encs x)).foldl (fun t (p, v) => t.setIfInBounds p v) a.tmps, defers := [] } W)
    (hbody : ∀ (l k : Nat) (x : α) (a' : Act) (Fp : Nat → Prop) (W : World), w.heap.size ≤ l → (∃ r, W.heap[l]? = some (.loop r)) → xs[k]? = some x → I k Fp W → S W → Ax k x a' W →
      body.wpIn (F.inRound l) (n - 1 - 1) P (frEnd w.heap.size Fp (fun Fp' W' => I (k + 1) Fp' W' ∧ S W') Ix W) a' W)
    (hdone : ∀ (D : Nat) (Fp : Nat → Prop) (W : World), w.heap.size ≤ D → I xs.length Fp W → W.heap[D]? = some (.deferred (some [])) → Q .normal { a with defers := { target := .collected D, args := #[] } :: a.defers } W)
    (hstop : ∀ (D : Nat) (c : Code) (W : World), w.heap.size ≤ D → Ix c W → W.heap[D]? = some (.deferred (some [])) → c.wpIn F n P Q { a with defers := { target := .collected D, args := #[] } :: a.defers } W) :
    (Code.rangeFunc g ps assign body).wpIn F n P Q a w := by
  refine wpIn_rangeFunc ?_
  intro fn hfn
  rw [hro]
  obtain ⟨rec, hrec⟩ : ∃ rec : LoopState → Option Code → Loop, rec = fun st pe => { state := st, pending := pe, fn, tmps := a.tmps, params := ps, assign, body, defers := w.heap.size } := ⟨_, rfl⟩
  obtain ⟨W1, hW1⟩ : ∃ W1, (w.alloc (.deferred (some []))).alloc (.loop (rec .ready none)) = W1 := ⟨_, rfl⟩
  have hL1 : W1.heap[w.heap.size + 1]? = some (.loop (rec .ready none)) := by
    rw [← hW1]; have := World.alloc_heap_new (w.alloc (.deferred (some []))) (.loop (rec .ready none)); rwa [World.size_alloc] at this
  have hK1 : W1.heap[w.heap.size]? = some (.deferred (some [])) := by
    rw [← hW1]; exact (Below.heap_alloc _ _ _ (by simp)).trans (World.alloc_heap_new w _)
  have hT1 : ∀ M, Turn w.heap.size M w W1 := fun M => by rw [← hW1]; exact (((Keeps.refl M w).alloc _).alloc _).turn _
  have hI1 : I 0 F0 W1 := hI _ _ _ _ h0 (hT1 _)
  have hS1 : S W1 := hS _ _ hS0 (hT1 _)
  refine ⟨w.heap.size + 1, [{ target := .collected w.heap.size, args := #[] }], W1, { target := .fn (.func gf) lb, args := #[.func (.yield (w.heap.size + 1)) #[] #[]] }, W1, gf,
    #[.func (.yield (w.heap.size + 1)) #[] #[]] ++ lb, W1, ?_, ?_, ?_, ?_, fun _ => h1, ?_⟩
  · rw [← hW1, hrec]; exact run_enterLoop_outer _ _ _ _ _
  · simp only [resolve, hg]
    simp [go_sem]
  · intro f' hf'; simp [Target.leads] at hf'; subst hf'; exact hFg
  · simp [invoke, go_sem, eg]
  · have hz1 : w.heap.size + 1 < W1.heap.size := (Array.getElem?_eq_some_iff.1 hL1).1
    have hz2 : W1.heap.size = w.heap.size + 2 := by rw [← hW1]; simp
    have hkeep : ∀ {A B : World} {k : Nat} {o : Obj}, k < W1.heap.size → Turn W1.heap.size Nob A B → A.heap[k]? = some o → B.heap[k]? = some o := fun hk2 hAB ho => hAB.same _ _ ho (fun hm => hm) (.inl hk2)
    refine (hseq (w.heap.size + 1)
      (fun k Fp W => I k Fp W ∧ W.heap[w.heap.size + 1]? = some (.loop (rec .ready none)) ∧ W.heap[w.heap.size]? = some (.deferred (some [])))
      (fun W => ∃ c, Ix c W ∧ W.heap[w.heap.size + 1]? = some (.loop (rec .done (some c))) ∧ W.heap[w.heap.size]? = some (.deferred (some [])))
      W1 F0
      (fun k Fp A B hs hAB => ⟨hI k Fp A B hs.1 (hAB.lower (by omega)), hkeep (by omega) hAB hs.2.1, hkeep (by omega) hAB hs.2.2⟩)
      (fun A B hs hAB => by
        obtain ⟨c, hc, hl, hk⟩ := hs
        exact ⟨c, hIx c A B hc (hAB.lower (by omega)), hkeep (by omega) hAB hl, hkeep (by omega) hAB hk⟩)
      ?_ ⟨hI1, hL1, hK1⟩ (fun j hj => by have := hF0 j hj; omega) hS1).mono ?_
    · -- one round
      rintro k x Fp W hx ⟨hi, hl, hk⟩ hs
      have hlt : w.heap.size + 1 < W.heap.size := (Array.getElem?_eq_some_iff.1 hl).1
      have hy := run_yield (P := P) (args := encs x) hl (by rw [hrec]; exact hps x)
      rw [hrec] at hy
      refine ⟨fn, _, assign, body, hy, roundIn_of_wpIn hfn (hassign _ k x Fp W _ hx hi hs ?_)⟩
      clear hy
      intro a' Wa hkfa hia hsa hax
      obtain ⟨Ws, hWs⟩ : ∃ Ws, W = Ws := ⟨_, rfl⟩
      have ho1 : OutK W1.heap.size Fp Ws Wa := hWs ▸ OutK.of_keeps hkfa
      replace hl := (hkfa.block _ (Array.getElem?_eq_some_iff.1 hl).1 (fun x => x)).trans hl
      replace hk := (hkfa.block _ (Array.getElem?_eq_some_iff.1 hk).1 (fun x => x)).trans hk
      replace hlt : w.heap.size + 1 < Wa.heap.size := (Array.getElem?_eq_some_iff.1 hl).1
      replace hi := hia
      replace hs := hsa
      clear hia hsa
      rw [hWs]
      clear hkfa hWs
      obtain ⟨W, rfl⟩ : ∃ W, W = Wa := ⟨_, rfl⟩
      refine ⟨_, run_beginRound hl (by rw [hrec]), ?_⟩
      have hl2 : (W.putObj (w.heap.size + 1) (.loop { rec .ready none with state := .busy })).heap[w.heap.size + 1]? = some (.loop { rec .ready none with state := .busy }) := World.putObj_heap_same hlt
      have hk2 : (W.putObj (w.heap.size + 1) (.loop { rec .ready none with state := .busy })).heap[w.heap.size]? = some (.deferred (some [])) := (World.putObj_heap_other (by omega)).trans hk
      have ht2 : ∀ M, Turn w.heap.size M W (W.putObj (w.heap.size + 1) (.loop { rec .ready none with state := .busy })) := fun M => Turn.put _ _ _ _ (by omega) hl rfl
      refine wpIn_mono (hbody _ k x a' Fp _ (by omega) ⟨_, hl2⟩ hx (hI _ _ _ _ hi (ht2 _)) (hS _ _ hs (ht2 _)) (hAx _ _ _ _ _ hax (ht2 _))) ?_
      have fin : ∀ (jump : Option Code) (W3 : World), KeepsFrom w.heap.size (W.putObj (w.heap.size + 1) (.loop { rec .ready none with state := .busy })) W3 →
          (Instr.endRound (w.heap.size + 1) jump).run P W3 = .ok (.bool jump.isNone) (W3.putObj (w.heap.size + 1) (.loop (rec (if jump.isNone then .ready else .done) jump))) ∧
          W3.heap[w.heap.size + 1]? = some (.loop { rec .ready none with state := .busy }) ∧
          (W3.putObj (w.heap.size + 1) (.loop (rec (if jump.isNone then .ready else .done) jump))).heap[w.heap.size + 1]? = some (.loop (rec (if jump.isNone then .ready else .done) jump)) ∧
          (W3.putObj (w.heap.size + 1) (.loop (rec (if jump.isNone then .ready else .done) jump))).heap[w.heap.size]? = some (.deferred (some [])) := fun jump W3 hk3 => by
        have hl3 := hk3.same _ _ (by omega) hl2 rfl
        have := run_endRound (P := P) jump hl3
        rw [hrec] at this ⊢
        exact ⟨this, by rw [hrec] at hl3; exact hl3, World.putObj_heap_same (Array.getElem?_eq_some_iff.1 hl3).1, (World.putObj_heap_other (by omega)).trans (hk3.same _ _ (Nat.le_refl _) hk2 rfl)⟩
      have hout : ∀ {W3 : World} {o' : Obj}, OutK w.heap.size Fp (W.putObj (w.heap.size + 1) (.loop { rec .ready none with state := .busy })) W3 → W3.heap[w.heap.size + 1]? = some (.loop { rec .ready none with state := .busy }) → OutK W1.heap.size Fp Ws (W3.putObj (w.heap.size + 1) o') := fun h3 hl3 =>
        ((ho1.trans (OutK.put _ () (by omega) hl rfl)).trans (h3.higher (by omega))).trans (OutK.put _ () (by omega) hl3 rfl)
      rintro e a3 W3 hp
      cases e with
      | normal =>
        obtain ⟨ho3, Fp', ⟨hi3, hs3⟩, hf3⟩ := hp
        obtain ⟨hr, hl3, hl4, hk4⟩ := fin none W3 ho3.from
        exact ⟨_, _, hr, .inl ⟨rfl, hout ho3 hl3, Fp', ⟨hI _ _ _ _ hi3 (Turn.put _ _ _ _ (by omega) hl3 rfl), hl4, hk4⟩, hS _ _ hs3 (Turn.put _ _ _ _ (by omega) hl3 rfl), fun j hj => (hf3 j hj).imp id (fun h => Nat.le_trans (Nat.le_trans ho1.size (grownBy_putObj' _ _ _).size) h)⟩⟩
      | ret =>
        obtain ⟨ho3, hi3⟩ := hp
        obtain ⟨hr, hl3, hl4, hk4⟩ := fin (some .ret) W3 ho3.from
        exact ⟨_, _, hr, .inr ⟨rfl, hout ho3 hl3, .ret, hIx _ _ _ hi3 (Turn.put _ _ _ _ (by omega) hl3 rfl), hl4, hk4⟩⟩
      | exit id =>
        obtain ⟨ho3, hi3⟩ := hp
        obtain ⟨hr, hl3, hl4, hk4⟩ := fin (some (.exit id)) W3 ho3.from
        exact ⟨_, _, hr, .inr ⟨rfl, hout ho3 hl3, .exit id, hIx _ _ _ hi3 (Turn.put _ _ _ _ (by omega) hl3 rfl), hl4, hk4⟩⟩
      | goto t =>
        obtain ⟨ho3, hi3⟩ := hp
        obtain ⟨hr, hl3, hl4, hk4⟩ := fin (some (.goto t)) W3 ho3.from
        exact ⟨_, _, hr, .inr ⟨rfl, hout ho3 hl3, .goto t, hIx _ _ _ hi3 (Turn.put _ _ _ _ (by omega) hl3 rfl), hl4, hk4⟩⟩
      | panic ch => exact hp.elim
      | outgrown => exact hp.elim
    · -- behind the iterator
      rintro e W2 ⟨⟨v, rfl⟩, (⟨Fp, hi, hl, hk⟩ | ⟨c, hi, hl, hk⟩)⟩
      · exact ⟨none, _, by have := run_endLoop (P := P) hl (by rw [hrec]; simp); rw [hrec] at this; exact this, hdone _ Fp _ (Nat.le_refl _) (hI _ _ _ _ hi (Turn.put _ _ _ _ (by omega) hl rfl)) ((World.putObj_heap_other (by omega)).trans hk)⟩
      · exact ⟨some c, _, by have := run_endLoop (P := P) hl (by rw [hrec]; simp); rw [hrec] at this; exact this, hstop _ c _ (Nat.le_refl _) (hIx _ _ _ hi (Turn.put _ _ _ _ (by omega) hl rfl)) ((World.putObj_heap_other (by omega)).trans hk)⟩
end
section
variable {n : Nat} {P : Program}
theorem wp_rangeF {α : Type} (n : Nat) {g : Operand} {ps : Array Tmp} {assign body : Code} {Q : Exit → Act → World → Prop} {a : Act} {w : World}
    {gf : Nat} {lb : Array Value} (hg : a.eval g = .func (.func gf) #[] lb) (eg : ∀ args w, (callFunc gf args).run P w = .ok (.enter gf args) w)
    {encs : α → Array Value} (hps : ∀ x, (encs x).size = ps.size) {xs : List α} {S : World → Prop}
    (hseq : SeqFr Fence.wide (n + 2) P gf lb encs xs S) (hS : ∀ A B, S A → Turn w.heap.size Nob A B → S B) (hS0 : S w) {F0 : Nat → Prop} (hF0 : ∀ j, F0 j → j < w.heap.size)
    (I : Nat → (Nat → Prop) → World → Prop) (Ix : Code → World → Prop) (hI : ∀ k Fp A B, I k Fp A → Turn w.heap.size Nob A B → I k Fp B) (hIx : ∀ c A B, Ix c A → Turn w.heap.size Nob A B → Ix c B) (h0 : I 0 F0 w)
    (Ax : Nat → α → Act → World → Prop) (hAx : ∀ k x a' A B, Ax k x a' A → Turn w.heap.size Nob A B → Ax k x a' B)
    (hassign : ∀ (l k : Nat) (x : α) (Fp : Nat → Prop) (W : World) (K : Act → World → Prop), xs[k]? = some x → I k Fp W → S W → (∀ a' W', Keeps Nob W W' → I k Fp W' → S W' → Ax k x a' W' → K a' W') →
      assign.wpIn (Fence.wide.inRound l) (n + 1) P (Exit.then K (fun _ _ _ => False)) { tmps := (ps.zip (encs x)).foldl (fun t (p, v) => t.setIfInBounds p v) a.tmps, defers := [] } W)
    (hbody : ∀ (l k : Nat) (x : α) (a' : Act) (Fp : Nat → Prop) (W : World), w.heap.size ≤ l → (∃ r, W.heap[l]? = some (.loop r)) → xs[k]? = some x → I k Fp W → S W → Ax k x a' W →
      body.wpIn (Fence.wide.inRound l) (n + 1) P (frEnd w.heap.size Fp (fun Fp' W' => I (k + 1) Fp' W' ∧ S W') Ix W) a' W)
    (hdone : ∀ (D : Nat) (Fp : Nat → Prop) (W : World), w.heap.size ≤ D → I xs.length Fp W → W.heap[D]? = some (.deferred (some [])) → Q .normal { a with defers := { target := .collected D, args := #[] } :: a.defers } W)
    (hstop : ∀ (D : Nat) (c : Code) (W : World), w.heap.size ≤ D → Ix c W → W.heap[D]? = some (.deferred (some [])) → c.wp P Q { a with defers := { target := .collected D, args := #[] } :: a.defers } W) :
    (Code.rangeFunc g ps assign body).wp P Q a w :=
  (wpIn_wide (n := n + 3)).1 (own_rangeF (F := Fence.wide) rfl (by omega) hg trivial eg hps hseq hS hS0 hF0 I Ix hI hIx h0 Ax hAx hassign hbody hdone (fun D c W h1 h2 h3 => wpIn_wide.2 (hstop D c W h1 h2 h3)))
end
end Go.Own
namespace Go.Proofs.YtghohakbepeffaaGreatDoor
set_option maxRecDepth 100000
set_option maxHeartbeats 4000000
open Go Go.RowKit Go.Own Go.Shelf
theorem those_run (ba bi bx gp gh ly : Nat) (v : Value) (l : List Nt) (p : Par) (h : Int) (f : Nt → Bool) (hp : p.Ok) (hh1 : i64ok h) (hxs : ∀ x ∈ l, i64ok x.h ∧ True) (hfx : ∀ x ∈ l, f x = (p.noted x.h h).1) (m : Nat) (J : Nat → (Nat → Prop) → World → Prop) (Jx : World → Prop) (F0 : Nat → Prop) (w : World)
    (hJ : ∀ k Fp A B, J k Fp A → Turn w.heap.size Nob A B → J k Fp B) (hJx : ∀ A B, Jx A → Turn w.heap.size Nob A B → Jx B)
    (hY : ∀ k x Fp W1, (l.filter f)[k]? = some x → J k Fp W1 → thS ba bi bx gp gh v l p h W1 → YieldAt Fence.wide m Tryz.prog ly #[.agg #[.int .i64 x.h, .int .u64 ((x.s : Nat) : Int)]] W1 fun e W' =>
      (e = .returned (.bool true) ∧ OutK w.heap.size Fp W1 W' ∧ ∃ Fp', J (k + 1) Fp' W' ∧ thS ba bi bx gp gh v l p h W' ∧ ∀ j, Fp' j → Fp j ∨ W1.heap.size ≤ j) ∨ (e = .returned (.bool false) ∧ OutK w.heap.size Fp W1 W' ∧ Jx W'))
    (h0 : J 0 F0 w) (hF0 : ∀ j, F0 j → j < w.heap.size) (hS0 : thS ba bi bx gp gh v l p h w) :
    Calls Tryz.prog 83 #[.func (.yield ly) #[] #[], .pointer (some ⟨ba, 0, none⟩), .pointer (some ⟨bi, 0, none⟩)] w (fun e W' => (∃ v, e = .returned v) ∧ ((∃ Fp, J (l.filter f).length Fp W') ∨ Jx W')) := by
  have K0 : Keeps Nob w w := Keeps.refl _ _
  refine calls_marks 3 (c := (part_nThose1 1)) Tryz.func83 (by kernel_rfl) <| sy_frame ⟨#[.func (.yield ly) #[] #[], pT ba 0, pT bi 0, ud, ud, ud, ud, ud, ud, ud, ud, ud, ud, ud, ud, ud], []⟩ (by kernel_rfl) <| qr_ [0] ?_
  refine pbx 102 (#[.func (.yield ly) #[] #[]]) (.func (.yield ly) #[] #[]) fun V1 bz ebz h2 kV1 => ?_
  have n3 : ba < bz := ebz ▸ lt_of_block hS0.sa
  have n4 : w.heap.size ≤ bz := ebz ▸ K0.size
  have h5 : J 0 F0 V1 := (hJ _ _ _ _ h0 (kV1.turn _))
  have h6 : thS ba bi bx gp gh v l p h V1 := hS0.keepsN kV1
  have h7 := kV1.bk hS0.sa
  have K8 := K0.nn kV1
  have z9 := kV1.size
  refine ps_end <| sy_a ⟨#[.func (.yield ly) #[] #[], pT ba 0, pT bi 0, pT bz 0, ud, ud, ud, ud, ud, ud, ud, ud, ud, ud, ud, ud], []⟩ <| tqr_ [0] <| ppq (.func (.func 84) #[] #[pT bx 0]) (ldk 97 ba 0 h7) <| ps_end <| sy_a ⟨#[.func (.yield ly) #[] #[], pT ba 0, pT bi 0, pT bz 0, ud, .func (.func 84) #[] #[pT bx 0], ud, ud, ud, ud, ud, ud, ud, ud, ud, ud], []⟩ <| then_n <| bl_ 0 ?_
  have szW : w.heap.size ≤ V1.heap.size := K8.size
  have ltz := lt_of_block h2
  have nbz : w.heap.size ≤ bz := by omega
  refine sy_part (.rangeFunc (.tmp 5) #[6] (part_nThose1 28) (part_nThose1 29)) (by kernel_rfl) ?_
  refine wp_rangeT 3 (gf := 84) (lb := #[.pointer (some ⟨bx, 0, none⟩)]) (by kernel_rfl) (enters_of Tryz.func84 (by kernel_rfl) rfl) (encs := (fun x : Nt => #[.agg #[.int .i64 x.h, .int .u64 ((x.s : Nat) : Int)]])) (fun _ => rfl) (xs := l) (Mi := Nob) (S := fun _ => valS bx v l) (fun _ h => h.elim) (vals_seq bx v l 5).toT (fun _ _ _ h t => h.turn t) (h6).vs
    (fun k V => k ≤ l.length ∧ ∃ Fp, J ((l.take k).filter f).length Fp V ∧ thS ba bi bx gp gh v l p h V ∧ V.heap[bz]? = some (.cells #[.func (.yield ly) #[] #[]] 102 (0, 0)) ∧ ∀ j, Fp j → j < w.heap.size ∨ V1.heap.size ≤ j) (fun c V => c = .ret ∧ Jx V) ?hI ?hIx ?h0 (fun _ x a' V => ∃ g4, a' = ⟨#[.func (.yield ly) #[] #[], .pointer (some ⟨ba, 0, none⟩), .pointer (some ⟨bi, 0, none⟩), .pointer (some ⟨bz, 0, none⟩), .pointer (some ⟨g4, 0, none⟩), .func (.func 84) #[] #[.pointer (some ⟨bx, 0, none⟩)], .agg #[.int .i64 x.h, .int .u64 ((x.s : Nat) : Int)], ud, ud, ud, ud, ud, ud, ud, ud, ud], []⟩ ∧ V.heap[g4]? = some (.cells #[.int .i64 x.h, .int .u64 ((x.s : Nat) : Int)] 46 (0, 0))) ?hAx ?assign ?body ?done ?stop
  case h0 => exact ⟨Nat.zero_le _, F0, h5, h6, h2, fun j hj => .inl (hF0 j hj)⟩
  case hI =>
    rintro k A V ⟨q0, Fp, q1, q2, q3, q4⟩ t
    exact ⟨q0, Fp, hJ _ _ _ _ q1 (t.lower szW), q2.turn t, t.same _ _ q3 (fun x => x) (.inr rfl), q4⟩
  case hIx =>
    rintro c A V ⟨q0, q1⟩ t
    exact ⟨q0, hJx _ _ q1 (t.lower szW)⟩
  case hAx =>
    rintro k x a' A V ⟨g4, rfl, q1⟩ t
    exact ⟨g4, rfl, t.same _ _ q1 (fun x => x) (.inr rfl)⟩
  case assign =>
    intro l' k x V K hx hi hs hK
    refine syI_frame ⟨#[.func (.yield ly) #[] #[], .pointer (some ⟨ba, 0, none⟩), .pointer (some ⟨bi, 0, none⟩), .pointer (some ⟨bz, 0, none⟩), ud, .func (.func 84) #[] #[.pointer (some ⟨bx, 0, none⟩)], .agg #[.int .i64 x.h, .int .u64 ((x.s : Nat) : Int)], ud, ud, ud, ud, ud, ud, ud, ud, ud], []⟩ (by kernel_rfl) ?_
    refine those_assign x V _ ?_ ?_
    · exact fun h => h.elim fun _ h => h.elim fun _ h => h
    · intro g4 Wb q1 q2 q3
      obtain ⟨r0, Fp, r1, r2, r3, r4⟩ := hi
      exact hK _ _ (q3.from (fun _ h => h.elim)) ⟨r0, Fp, hJ _ _ _ _ r1 (q3.turn _), r2.keepsN q3, q3.bk r3, r4⟩ (hs.keepsN q3) ⟨g4, rfl, q1⟩
  case body =>
    rintro l' k x a' V hl' hr hx ⟨r0, Fp, r1, r2, r3, r4⟩ hs ⟨g4, rfl, hg4⟩
    have hlt : k < l.length := (List.getElem?_eq_some_iff.1 hx).1
    have hxm : x ∈ l := List.mem_of_getElem? hx
    have hbF : ¬ Fp bz := fun e => by have := r4 bz e; omega
    have hVs : V1.heap.size ≤ V.heap.size := by
      obtain ⟨r, hr⟩ := hr
      have := (Array.getElem?_eq_some_iff.1 hr).1
      omega
    have hLO : ¬ LetsOut (rangeEnd V1.heap.size (fun W' => ((k + 1) ≤ l.length ∧ ∃ Fp, J ((l.take (k + 1)).filter f).length Fp W' ∧ thS ba bi bx gp gh v l p h W' ∧ W'.heap[bz]? = some (.cells #[.func (.yield ly) #[] #[]] 102 (0, 0)) ∧ ∀ j, Fp j → j < w.heap.size ∨ V1.heap.size ≤ j) ∧ valS bx v l W') (fun c V => c = .ret ∧ Jx V) V) := fun h => h.elim fun _ h => h.elim fun _ h => h
    by_cases hf : f x = true
    · refine those_true p x h gp gh g4 bi bz ly m (fun W' => OutK w.heap.size Fp V W' ∧ ∃ Fp', J (((l.take k).filter f).length + 1) Fp' W' ∧ thS ba bi bx gp gh v l p h W' ∧ ∀ j, Fp' j → Fp j ∨ V.heap.size ≤ j) (fun W' => OutK w.heap.size Fp V W' ∧ Jx W') hp (hxs x hxm).1 hh1 ((hfx x hxm).symm.trans hf) V _ hLO r2.sp r2.sh hg4 r2.si r3 ?_ ?_ ?_
      · intro W' hk'
        exact (hY _ x Fp W' (filter_get hx hf) (hJ _ _ _ _ r1 (hk'.turn _)) (r2.keepsN hk')).mono (fun e W'' hh => hh.imp (fun ⟨q1, q2, Fp', q3, q4, q5⟩ => ⟨q1, (OutK.of_keeps hk').trans q2, Fp', q3, q4, fun j hj => (q5 j hj).imp id (fun q => Nat.le_trans hk'.size q)⟩) (fun ⟨q1, q2, q3⟩ => ⟨q1, (OutK.of_keeps hk').trans q2, q3⟩))
      · rintro a Wq ⟨q2, Fp', q3, q4, q5⟩
        exact ⟨(q2.higher szW).from, ⟨by omega, Fp', by rw [filter_yes hx hf]; exact q3, q4, q2.same _ _ r3 (fun _ => hbF) (.inr rfl), fun j hj => (q5 j hj).elim (r4 j) (fun q => .inr (by omega))⟩, q4.vs⟩
      · rintro a Wq ⟨q2, q3⟩
        exact ⟨(q2.higher szW).from, rfl, q3⟩
    · have hff : f x = false := by simpa using hf
      refine those_false p x h gp gh g4 bi bz ly 0 (fun _ => True) (fun _ => True) hp (hxs x hxm).1 hh1 ((hfx x hxm).symm.trans hff) V _ hLO r2.sp r2.sh hg4 r2.si r3 (fun a Wq hk' => ?_)
      exact ⟨hk'.from (fun _ h => h.elim), ⟨by omega, Fp, by rw [filter_no hx hff]; exact hJ _ _ _ _ r1 (hk'.turn _), r2.keepsN hk', hk'.bk r3, r4⟩, hs.keepsN hk'⟩
  case done =>
    rintro D Vz hD ⟨_, Fp, r1, r2, r3, r4⟩ hK
    have hDs : V1.heap.size ≤ D := hD
    rw [List.take_of_length_le (Nat.le_refl _)] at r1
    refine blk_n ?_
    obtain ⟨V10, eV10⟩ : ∃ V, Vz.putObj D (.deferred none) = V := ⟨_, rfl⟩
    have tV10 : Turn V1.heap.size Nob Vz V10 := eV10 ▸ Turn.put _ _ _ _ hDs hK rfl
    have h11 : J ((l.filter f).length) Fp V10 := (hJ _ _ _ _ r1 (tV10.lower (by omega)))
    refine marks_normal hK (v := .tuple #[]) (by rw [eV10]; kernel_rfl) ?_
    rw [eV10]
    exact ⟨⟨_, rfl⟩, .inl ⟨Fp, h11⟩⟩
  case stop =>
    rintro D c Vz hD ⟨rfl, r1⟩ hK
    have hDs : V1.heap.size ≤ D := hD
    refine sy_ret rfl <| blk_r ?_
    obtain ⟨V12, eV12⟩ : ∃ V, Vz.putObj D (.deferred none) = V := ⟨_, rfl⟩
    have tV12 : Turn V1.heap.size Nob Vz V12 := eV12 ▸ Turn.put _ _ _ _ hDs hK rfl
    have h13 : Jx V12 := (hJx _ _ r1 (tV12.lower (by omega)))
    refine marks_ret hK (v := .tuple #[]) (by rw [eV12]; kernel_rfl) ?_
    rw [eV12]
    exact ⟨⟨_, rfl⟩, .inr h13⟩
theorem those_seq (ba bi bx gp gh : Nat) (v : Value) (l : List Nt) (p : Par) (h : Int) (f : Nt → Bool) (hp : p.Ok) (hh1 : i64ok h) (hxs : ∀ x ∈ l, i64ok x.h ∧ True) (hfx : ∀ x ∈ l, f x = (p.noted x.h h).1) (fz : Nat) :
    SeqFr Fence.wide fz Tryz.prog 83 #[.pointer (some ⟨ba, 0, none⟩), .pointer (some ⟨bi, 0, none⟩)] (fun x : Nt => #[.agg #[.int .i64 x.h, .int .u64 ((x.s : Nat) : Int)]]) (l.filter f) (thS ba bi bx gp gh v l p h) :=
  fun ly J Jx W F0 hJ hJx hY h0 hF0 hS => (callsIn_wide (n := fz)).2 (those_run ba bi bx gp gh ly v l p h f hp hh1 hxs hfx (fz - 1) J Jx F0 W hJ hJx hY h0 hF0 hS)
end Go.Proofs.YtghohakbepeffaaGreatDoor
namespace Go.Proofs.YtghohakbepeffaaGreatDoor
set_option maxRecDepth 100000
set_option maxHeartbeats 4000000
open Go Go.RowKit Go.Own Go.Shelf
theorem _root_.Go.Own.OutK.of_keepsM {B : Nat} {Fp : Nat → Prop} {A C : World} (h : Keeps Fp A C) (hc : ∀ (j : Nat) (o : Obj), A.heap[j]? = some o → Fp j → o.isCells = true) : OutK B Fp A C :=
  ⟨h.os, h.tape, h.output, h.size, fun k o hk hm _ => (h.block k (Array.getElem?_eq_some_iff.1 hk).1 (fun e => hm (hc k o hk e) e)).trans hk⟩
theorem keepM {M : Nat → Prop} {A C : World} {b : Nat} {c : Array Value} {T : TypeId} (k : Keeps M A C) (hb : A.heap[b]? = some (.cells c T (0, 0))) (hm : ¬ M b) : C.heap[b]? = some (.cells c T (0, 0)) := (k.block b (lt_of_block hb) hm).trans hb
theorem nchk_fine : ∀ (a l : List Nt), (nchk a l).1 = 0 → ∀ x ∈ l, ¬ x.bad
  | _, [], _, x, hx => by cases hx
  | a, y :: r, h, x, hx => by
    rw [nchk] at h
    by_cases hy : nmay y a = 0
    · rw [if_pos hy] at h
      rcases List.mem_cons.1 hx with rfl | hx
      · intro hb; rw [nmay_bad hb] at hy; cases hy
      · exact nchk_fine _ r h x hx
    · rw [if_neg hy] at h; exact absurd h hy
theorem ncheck_fine {l : List Nt} (h : (ncheck l).1 = 0) : l.length ≤ 64 ∧ ∀ x ∈ l, ¬ x.bad := by
  by_cases hl : 64 < l.length
  · rw [ncheck_long hl] at h; cases h
  · rw [ncheck_go hl] at h; exact ⟨by omega, nchk_fine _ _ h⟩
theorem nref_zero {p : Par} {l : List Nt} {h : Int} (q : nref p l h = 0) : p.check.1 = 0 ∧ (ncheck l).1 = 0 ∧ 1 ≤ h ∧ h ≤ 4294967296 := by
  unfold nref at q
  by_cases a : p.check.1 ≠ 0
  · rw [if_pos a] at q; exact absurd q a
  · rw [if_neg a] at q
    by_cases b : (ncheck l).1 ≠ 0
    · rw [if_pos b] at q; exact absurd q b
    · rw [if_neg b] at q
      by_cases c : h < 1 ∨ 4294967296 < h
      · rw [if_pos c] at q; cases q
      · exact ⟨by omega, by omega, by omega, by omega⟩
theorem noted_counts {p : Par} {h : Int} {x : Nt} (hc : p.check.1 = 0) (q1 : 1 ≤ h) (q2 : h ≤ 4294967296) (hx : ¬ x.bad) : ncounts p h x = (p.noted x.h h).1 := by
  have hb : 1 ≤ x.h ∧ x.h ≤ 4294967296 := by
    refine ⟨?_, ?_⟩
    · exact Int.not_lt.1 (fun e => hx (.inl e))
    · exact Int.not_lt.1 (fun e => hx (.inr (.inl e)))
  have hf : p.fine [x.h, h] = 0 := by
    unfold Par.fine
    rw [if_pos hc, if_pos]
    simp only [List.all_cons, List.all_nil, Bool.and_true, Bool.and_eq_true, decide_eq_true_eq]
    exact ⟨hb, ⟨q1, q2⟩⟩
  unfold ncounts Par.noted
  simp [hf]
theorem flat_takeN (xs : List Nt) (k : Nat) (x : Nt) (h : xs[k]? = some x) : (xs.take (k + 1)).flatMap Nt.cl = (xs.take k).flatMap Nt.cl ++ Nt.cl x := by
  rw [List.take_add_one, h, List.flatMap_append]; simp
noncomputable def qc49_0 (n : Nat) : Code := partOf Tryz.f34 n
noncomputable abbrev qo49_0 (n k : Nat) : Oper := (opsAt (qc49_0 n)).getD k default
theorem live_assign {l N : Nat} {u0 u1 u2 u3 u4 u5 u6 u7 u8 u9 u10 u11 u12 u13 u14 u15 u16 u17 u18 u19 u20 u21 u23 u24 u25 u26 u27 : Value} (x : Nt) (w : World) (Q : Exit → Act → World → Prop) (hL : ¬ LetsOut Q) (hQ : ∀ (b : Nat) (W : World), W.heap[b]? = some (.cells #[.int .i64 x.h, .int .u64 ((x.s : Nat) : Int)] 46 (0, 0)) → Keeps Nob w W → Q .normal ⟨#[u0, u1, u2, u3, u4, u5, u6, u7, u8, u9, .pointer (some ⟨b, 0, none⟩), u11, u12, u13, u14, u15, u16, u17, u18, u19, u20, u21, .agg #[.int .i64 x.h, .int .u64 ((x.s : Nat) : Int)], u23, u24, u25, u26, u27], []⟩ W) :
    (qc49_0 244).wpIn (Fence.wide.inRound l) N Tryz.prog Q ⟨#[u0, u1, u2, u3, u4, u5, u6, u7, u8, u9, u10, u11, u12, u13, u14, u15, u16, u17, u18, u19, u20, u21, .agg #[.int .i64 x.h, .int .u64 ((x.s : Nat) : Int)], u23, u24, u25, u26, u27], []⟩ w := by
  have K0 : Keeps Nob w w := Keeps.refl _ _
  refine syI_reg (by kernel_rfl) (fun ⟨a, w, h⟩ => hL ⟨a, w, h⟩) <| rg_plain 6 (opsAt (qc49_0 244)) [0, 1] (by kernel_rfl) (by kernel_rfl) <| pal 46 (#[.int .i64 0, .int .u64 0]) (.agg (#[.int .i64 0, .int .u64 0])) fun V1 b eb h2 kV1 => ?_
  have n3 : w.heap.size ≤ b := eb ▸ K0.size
  have K4 := K0.nn kV1
  have z5 := kV1.size
  obtain ⟨V6, eV6, kV6⟩ := rowset_step V1 b (#[.int .i64 x.h, .int .u64 ((x.s : Nat) : Int)])
  have h7 : V6.heap[b]? = some (.cells (#[.int .i64 x.h, .int .u64 ((x.s : Nat) : Int)]) 46 (0, 0)) := eV6 ▸ setRow_heap _ _ _ _ _ _ h2
  refine pzq (w' := V6) (by rw [← eV6]; exact exec_store_row 46 (.tmp 10) (.tmp 22) (by kernel_rfl) b (#[.int .i64 x.h, uN x.s]) (by kernel_rfl) (by kernel_rfl) 46 (#[.int .i64 0, .int .u64 0]) h2 (by kernel_rfl) rfl (by kernel_rfl)) ?_
  clear eV6
  have K8 := K4.nO kV6
  have z9 := kV6.size
  refine ps_end <| sy_a ⟨#[u0, u1, u2, u3, u4, u5, u6, u7, u8, u9, pT b 0, u11, u12, u13, u14, u15, u16, u17, u18, u19, u20, u21, .agg #[.int .i64 x.h, uN x.s], u23, u24, u25, u26, u27], []⟩ ?_
  exact hQ b _ h7 K8
theorem live_body {l N : Nat} {u0 u1 u2 u3 u4 u5 u6 u7 u8 u11 u12 u13 u14 u15 u16 u17 u18 u19 u20 u21 u22 u23 u24 u25 u26 u27 : Value} (x : Nt) (o b k B0 : Nat) (v : Value) (xs : List Value) (hk : k ≤ 1000) (w : World) (Q : Exit → Act → World → Prop) (hL : ¬ LetsOut Q) (ho : w.heap[o]? = some (.cells #[v] 22 (0, 0))) (hb : w.heap[b]? = some (.cells #[.int .i64 x.h, .int .u64 ((x.s : Nat) : Int)] 46 (0, 0))) (hrow : Row w 46 2 v k xs) (hnew : NewFrom B0 v) (hB0 : B0 ≤ w.heap.size) (hQ : ∀ (a : Act) (W : World) (v' : Value), W.heap[o]? = some (.cells #[v'] 22 (0, 0)) → Row W 46 2 v' (k + 1) (xs ++ Nt.cl x) → NewFrom B0 v' → (∀ j, v'.ownBlock = some j → v.ownBlock = some j ∨ w.heap.size ≤ j) → Keeps (fun j => j = o ∨ Value.ownBlock v = some j) w W → Q .normal a W) :
    (qc49_0 245).wpIn (Fence.wide.inRound l) N Tryz.prog Q ⟨#[u0, u1, u2, u3, u4, u5, u6, u7, u8, .pointer (some ⟨o, 0, none⟩), .pointer (some ⟨b, 0, none⟩), u11, u12, u13, u14, u15, u16, u17, u18, u19, u20, u21, u22, u23, u24, u25, u26, u27], []⟩ w := by
  obtain ⟨i2, hi2, hs0, hs1, hs2⟩ := info_parts note_info0
  have lto := lt_of_block ho
  have ltb := lt_of_block hb
  have hnro := Row.ne hrow ho (by decide)
  have K0 : Keeps ((fun j => j = o ∨ Value.ownBlock v = some j)) w w := Keeps.refl _ _
  refine syI_block 1 (qc49_0 490) (by kernel_rfl) <| syI_reg (by kernel_rfl) (fun ⟨a, w, h⟩ => hL ⟨a, w, h⟩) <| rg_plain 7 (opsAt (qc49_0 490)) [0, 1, 2, 3, 4] (by kernel_rfl) (by kernel_rfl) <| ppq (v) (ldk 22 o 0 ho) <| ppq (.agg #[.int .i64 x.h, uN x.s]) (ldr 46 b (hb) (by kernel_rfl)) ?_
  obtain ⟨V10, eV10, lit, elit, h11, kV10⟩ := alloc_step w (#[.int .i64 x.h, .int .u64 ((x.s : Nat) : Int)]) 46
  have n12 : o < lit := elit ▸ lt_of_block ho
  have n13 : b < lit := elit ▸ lt_of_block hb
  have n14 : w.heap.size ≤ lit := elit ▸ K0.size
  refine prq (.slice (some ⟨lit, 0, none⟩) 1 1) (w' := V10) (by rw [← eV10, ← elit]; kernel_rfl) ?_
  have h15 := kV10.bk ho
  have h17 : Row V10 46 2 v k xs := hrow.keeps kV10 (fun _ _ x => x)
  have K18 := K0.nn kV10
  have z19 := kV10.size
  have hzs := K18.size
  obtain ⟨v2, V20, hr21, h22, hg23, hn24, ha25⟩ := run_append_any (P := Tryz.prog) (w := V10) 22 (Oper.type (qo49_0 490 3)) 46 i2 (.agg #[.int .i64 0, .int .u64 0]) 2 16 Tryz.underlying22 hi2 hs0 hs1 hs2 rfl (by decide) v k xs h17 (.slice (some ⟨lit, 0, none⟩) 1 1) 1 (Nt.cl x) (src_nt h11) (by unfold maxLen; omega) (by omega)
  have kV20 : Keeps (fun j => v.ownBlock = some j) V10 V20 := Keeps.rowAdd hg23
  have hw26 : NewFrom B0 v2 := hnew.next (Nat.le_trans hB0 K18.size) ha25
  refine prq v2 (w' := V20) (exec_append (.tmp 23) (.tmp 25) 22 (by kernel_rfl) v (.slice (some ⟨lit, 0, none⟩) 1 1) (by kernel_rfl) (by kernel_rfl) hr21) ?_
  have h27 : Row V20 46 2 v2 ((k + 1)) (xs ++ (Nt.cl x)) := h22
  have hown := fun (j : Nat) (hj : v2.ownBlock = some j) => (ha25 j hj).imp id (fun q => Nat.le_trans hzs (Nat.le_of_eq q.1.symm))
  have h28 : V20.heap[o]? = some (.cells #[v] 22 (0, 0)) := (kV20.block o (lt_of_block h15) (fun e => Row.ne h17 h15 (by decide) e)).trans h15
  have K29 : Keeps ((fun j => j = o ∨ Value.ownBlock v = some j)) w V20 := K18.then kV20 (fun i hi hm => .inr hm)
  have z30 := kV20.size
  obtain ⟨V31, eV31, kV31⟩ := cell_step V20 o 0 v2
  have h32 : V31.heap[o]? = some (.cells #[v2] 22 (0, 0)) := eV31 ▸ ((heap_setCell_same _ o 0 _ _ v2 h28).trans (congrArg (fun c => some (Obj.cells c 22 (0, 0))) (show (#[v] : Array Value).setIfInBounds 0 v2 = #[v2] from by kernel_rfl)))
  refine pzq (w' := V31) (by rw [← eV31]; exact exec_store_cell 22 (.tmp 9) (.tmp 26) (by kernel_rfl) o 0 (by kernel_rfl) v2 (by kernel_rfl) (by kernel_rfl) (Row.cells1 h27) v (rc (h28) (by kernel_rfl)) (frozen_of_row _ _ _ _ _ h28) (Row.one h27)) ?_
  clear eV31
  have h33 : Row V31 46 2 v2 ((k + 1)) (xs ++ (Nt.cl x)) := h27.keeps kV31 (fun j hj e => Row.ne h27 h28 (by decide) ((show j = o from e) ▸ hj))
  have K34 : Keeps ((fun j => j = o ∨ Value.ownBlock v = some j)) w V31 := K29.then kV31 (fun i hi hm => .inl hm)
  have z35 := kV31.size
  refine ps_end <| sy_a ⟨#[u0, u1, u2, u3, u4, u5, u6, u7, u8, pT o 0, pT b 0, u11, u12, u13, u14, u15, u16, u17, u18, u19, u20, u21, u22, v, .agg #[.int .i64 x.h, uN x.s], .slice (some ⟨lit, 0, none⟩) 1 1, v2, u27], []⟩ <| blk_n ?_
  exact hQ _ _ _ h32 h33 hw26 hown K34
theorem refused_is (p : Par) (hp : p.Ok) (l : List Nt) (v : Value) (h : Int) (rf : Int) (w : World) (hl : Sl w 2 Nt.cl v l) (het : ErrTab w) (hrf : nref p l h = rf) : Calls Tryz.prog 61 #[.agg p.cells, v, .int .i64 h] w (fun e w' => e = .returned (.int .i64 rf) ∧ Keeps Nob w w') := hrf ▸ nRefused_all p hp l v h w hl het
theorem nlive_ref {p : Par} {l : List Nt} {h : Int} {rf : Int} (a : nref p l h = rf) (b : ¬ rf = 0) : nlive p l h = ([], rf) := by unfold nlive; rw [a, if_pos b]
theorem nlive_go {p : Par} {l : List Nt} {h : Int} (a : nref p l h = 0) : nlive p l h = (l.filter (ncounts p h), 0) := by unfold nlive; rw [a, if_neg (fun e => e rfl)]
theorem nLive_ref (p : Par) (hp : p.Ok) (l : List Nt) (A : Option Addr) (cap : Nat) (h : Int) (hh1 : i64ok h) (w : World) (hl : Sl w 2 Nt.cl (.slice A l.length cap) l) (rf : Int) (hrf : nref p l h = rf) (h0 : ¬ rf = 0) (het : ErrTab w) :
    Calls Tryz.prog 34 #[.agg p.cells, .slice A l.length cap, .int .i64 h] w (fun e w' => ∃ X, e = .returned (.tuple #[X, .int .i64 (nlive p l h).2]) ∧ Row w' 46 2 X ((nlive p l h).1).length (((nlive p l h).1).flatMap Nt.cl) ∧ NewFrom w.heap.size X ∧ Keeps Nob w w') := by
  have K0 : Keeps Nob w w := Keeps.refl _ _
  refine sy_enter (qc49_0 1) ⟨#[.agg p.cells, .slice A l.length cap, .int .i64 h, ud, ud, ud, ud, ud, ud, ud, ud, ud, ud, ud, ud, ud, ud, ud, ud, ud, ud, ud, ud, ud, ud, ud, ud, ud], []⟩ Tryz.func34 (by kernel_rfl) (by kernel_rfl) <| qr_ [0, 1, 2, 3] <| pbx 51 p.cells (.agg p.cells) fun V1 gp egp h2 kV1 => ?_
  have n3 : w.heap.size ≤ gp := egp ▸ K0.size
  have h4 : Sl V1 2 Nt.cl (.slice A l.length cap) l := hl.keepsN kV1
  have K5 := K0.nn kV1
  have z6 := kV1.size
  refine pbx 3 (#[.int .i64 h]) (.int .i64 h) fun V7 gh egh h8 kV7 => ?_
  have n9 : gp < gh := egh ▸ lt_of_block h2
  have n10 : w.heap.size ≤ gh := egh ▸ K5.size
  have h11 : Sl V7 2 Nt.cl (.slice A l.length cap) l := h4.keepsN kV7
  have h12 := kV7.bk h2
  have K13 := K5.nn kV7
  have z14 := kV7.size
  refine pkq (.slice none 0 0) <| pkq (.int .i64 0) <| eq_ <| qr_ [0, 1, 2, 3, 4] <| ppq (.agg (p.cells)) (ldr 51 gp (h12) (by kernel_rfl)) <| pkq (.slice A l.length cap) <| ppq (.int .i64 h) (ldk 3 gh 0 h8) ?_
  refine pcq 61 #[.agg (p.cells), .slice A l.length cap, .int .i64 h] Tryz.func61 ((refused_is p hp l _ h rf _ h11 (ErrTab.keeps het K13) hrf).mono ?_)
  rintro e V15 ⟨rfl, kV15⟩
  refine ⟨_, rfl, ?_⟩
  have K19 := K13.nn kV15
  have z20 := kV15.size
  refine pkq (.int .i64 rf) <| eqr_ [0, 1] <| pkq (.int .i64 rf) <| ppq (.bool true) (nqt ((rf) : Int) ((0) : Int) (by omega)) <| ey_ <| qr_ [0, 1, 2] <| pkq (.int .i64 rf) <| pkq (.slice none 0 0) <| pkq (.int .i64 rf) <| eu_ <| then_r <| so_ (.tuple #[.slice none 0 0, .int .i64 rf]) ?_
  exact ⟨_, by rw [nlive_ref hrf h0], by rw [nlive_ref hrf h0]; exact World.ownsRow_nil _ _ _ _, NewFrom.nil _, K19⟩
theorem nLive_go (p : Par) (hp : p.Ok) (l : List Nt) (A : Option Addr) (cap : Nat) (h : Int) (hh1 : i64ok h) (w : World) (hl : Sl w 2 Nt.cl (.slice A l.length cap) l) (hrf : nref p l h = 0) (het : ErrTab w) :
    Calls Tryz.prog 34 #[.agg p.cells, .slice A l.length cap, .int .i64 h] w (fun e w' => ∃ X, e = .returned (.tuple #[X, .int .i64 (nlive p l h).2]) ∧ Row w' 46 2 X ((nlive p l h).1).length (((nlive p l h).1).flatMap Nt.cl) ∧ NewFrom w.heap.size X ∧ Keeps Nob w w') := by
  obtain ⟨f, hfd⟩ : ∃ f, f = ncounts p h := ⟨_, rfl⟩
  obtain ⟨q0, q1, q2, q3⟩ := nref_zero hrf
  obtain ⟨q4, q5⟩ := ncheck_fine q1
  have hfx : ∀ x ∈ l, f x = (p.noted x.h h).1 := fun x hx => by rw [hfd]; exact noted_counts q0 q2 q3 (q5 x hx)
  have hxs : ∀ x ∈ l, i64ok x.h ∧ True := fun x hx => ⟨by have hb := q5 x hx; unfold Nt.bad at hb; unfold i64ok; omega, trivial⟩
  have K0 : Keeps Nob w w := Keeps.refl _ _
  refine calls_marks 3 (c := (qc49_0 1)) Tryz.func34 (by kernel_rfl) <| sy_frame ⟨#[.agg p.cells, .slice A l.length cap, .int .i64 h, ud, ud, ud, ud, ud, ud, ud, ud, ud, ud, ud, ud, ud, ud, ud, ud, ud, ud, ud, ud, ud, ud, ud, ud, ud], []⟩ (by kernel_rfl) <| qr_ [0, 1, 2, 3] <| pbx 51 p.cells (.agg p.cells) fun V21 gp egp h22 kV21 => ?_
  have n23 : w.heap.size ≤ gp := egp ▸ K0.size
  have h24 : Sl V21 2 Nt.cl (.slice A l.length cap) l := hl.keepsN kV21
  have K25 := K0.nn kV21
  have z26 := kV21.size
  refine pbx 3 (#[.int .i64 h]) (.int .i64 h) fun V27 gh egh h28 kV27 => ?_
  have n29 : gp < gh := egh ▸ lt_of_block h22
  have n30 : w.heap.size ≤ gh := egh ▸ K25.size
  have h31 : Sl V27 2 Nt.cl (.slice A l.length cap) l := h24.keepsN kV27
  have h32 := kV27.bk h22
  have K33 := K25.nn kV27
  have z34 := kV27.size
  refine pkq (.slice none 0 0) <| pkq (.int .i64 0) <| ps_end <| sy_a ⟨#[.agg p.cells, .slice A l.length cap, .int .i64 h, pT gp 0, ud, pT gh 0, .slice none 0 0, .int .i64 0, ud, ud, ud, ud, ud, ud, ud, ud, ud, ud, ud, ud, ud, ud, ud, ud, ud, ud, ud, ud], []⟩ <| tq_ <| qr_ [0, 1, 2, 3, 4] <| ppq (.agg (p.cells)) (ldr 51 gp (h32) (by kernel_rfl)) <| pkq (.slice A l.length cap) <| ppq (.int .i64 h) (ldk 3 gh 0 h28) ?_
  refine pcq 61 #[.agg (p.cells), .slice A l.length cap, .int .i64 h] Tryz.func61 ((refused_is p hp l _ h 0 _ h31 (ErrTab.keeps het K33) hrf).mono ?_)
  rintro e V35 ⟨rfl, kV35⟩
  refine ⟨_, rfl, ?_⟩
  have h36 : Sl V35 2 Nt.cl (.slice A l.length cap) l := h31.keepsN kV35
  have h37 := kV35.bk h32
  have h38 := kV35.bk h28
  have K39 := K33.nn kV35
  have z40 := kV35.size
  refine pkq (.int .i64 0) <| ps_end <| sy_a ⟨#[.agg p.cells, .slice A l.length cap, .int .i64 h, pT gp 0, ud, pT gh 0, .slice none 0 0, .int .i64 0, .int .i64 0, ud, ud, .agg (p.cells), .slice A l.length cap, .int .i64 h, .int .i64 0, ud, ud, ud, ud, ud, ud, ud, ud, ud, ud, ud, ud, ud], []⟩ <| tqr_ [0, 1] <| pkq (.int .i64 0) <| pkq (.bool false) <| ps_end <| sy_a ⟨#[.agg p.cells, .slice A l.length cap, .int .i64 h, pT gp 0, ud, pT gh 0, .slice none 0 0, .int .i64 0, .int .i64 0, ud, ud, .agg (p.cells), .slice A l.length cap, .int .i64 h, .int .i64 0, .int .i64 0, .bool false, ud, ud, ud, ud, ud, ud, ud, ud, ud, ud, ud], []⟩ <| then_n <| n_ <| s_ <| tqr_ [0] <| pal 22 (#[.slice none 0 0]) (.slice none 0 0) fun V41 o eo h42 kV41 => ?_
  have n43 : gp < o := eo ▸ lt_of_block h37
  have n44 : gh < o := eo ▸ lt_of_block h38
  have n45 : w.heap.size ≤ o := eo ▸ K39.size
  have h46 : Sl V41 2 Nt.cl (.slice A l.length cap) l := h36.keepsN kV41
  have h47 := kV41.bk h37
  have h48 := kV41.bk h38
  have K49 := K39.nn kV41
  have z50 := kV41.size
  refine ps_end <| sy_a ⟨#[.agg p.cells, .slice A l.length cap, .int .i64 h, pT gp 0, ud, pT gh 0, .slice none 0 0, .int .i64 0, .int .i64 0, pT o 0, ud, .agg (p.cells), .slice A l.length cap, .int .i64 h, .int .i64 0, .int .i64 0, .bool false, ud, ud, ud, ud, ud, ud, ud, ud, ud, ud, ud], []⟩ <| tq_ <| qr_ [0, 1, 2, 3] <| pkq (.slice A l.length cap) ?_
  have lo_ := lt_of_block h42
  refine pcq 63 #[.slice A l.length cap] Tryz.func63 ((nValues_ok A l.length cap _).mono ?_)
  rintro e V51 ⟨bx, rfl, hbx, nbx, kV51⟩
  have lbx := lt_of_block hbx
  refine ⟨_, rfl, ?_⟩
  have h52 : Sl V51 2 Nt.cl (.slice A l.length cap) l := h46.keepsN kV51
  have h53 := kV51.bk h47
  have h54 := kV51.bk h48
  have h55 := kV51.bk h42
  have K56 := K49.nn kV51
  have z57 := kV51.size
  refine pkq (.func (.func 64) #[] #[pT gp 0, pT gh 0]) ?_
  refine pcq 62 #[.func (.func 84) #[] #[pT bx 0], .func (.func 64) #[] #[pT gp 0, pT gh 0]] Tryz.func62 ((nThose_ok bx gp gh _).mono ?_)
  rintro e V58 ⟨ba, bi, rfl, hba, hbi, nba, nbi, kV58⟩
  refine ⟨_, rfl, ?_⟩
  have h59 : Sl V58 2 Nt.cl (.slice A l.length cap) l := h52.keepsN kV58
  have h60 := kV58.bk h53
  have h61 := kV58.bk h54
  have h62 := kV58.bk h55
  have h63 := kV58.bk hbx
  have K64 := K56.nn kV58
  have z65 := kV58.size
  refine ps_end <| sy_a ⟨#[.agg p.cells, .slice A l.length cap, .int .i64 h, pT gp 0, ud, pT gh 0, .slice none 0 0, .int .i64 0, .int .i64 0, pT o 0, ud, .agg (p.cells), .slice A l.length cap, .int .i64 h, .int .i64 0, .int .i64 0, .bool false, ud, .slice A l.length cap, .func (.func 84) #[] #[pT bx 0], .func (.func 64) #[] #[pT gp 0, pT gh 0], .func (.func 83) #[] #[pT ba 0, pT bi 0], ud, ud, ud, ud, ud, ud], []⟩ <| then_n <| bl_ 0 ?_
  have szW : w.heap.size ≤ V58.heap.size := K64.size
  have lto := lt_of_block h62
  have hno : w.heap.size ≤ o := by omega
  have hdd : bx ≠ o ∧ ba ≠ o ∧ bi ≠ o ∧ gp ≠ o ∧ gh ≠ o := by omega
  have hxl : (l.filter f).length ≤ l.length := List.length_filter_le _ _
  have hS0 : thS ba bi bx gp gh (.slice A l.length cap) l p h V58 := ⟨⟨h63, h59⟩, hba, hbi, h60, h61⟩
  refine sy_part (.rangeFunc (.tmp 21) #[22] (qc49_0 244) (qc49_0 245)) (by kernel_rfl) ?_
  refine wp_rangeF 3 (gf := 83) (lb := #[.pointer (some ⟨ba, 0, none⟩), .pointer (some ⟨bi, 0, none⟩)]) (by kernel_rfl) (enters_of Tryz.func83 (by kernel_rfl) rfl) (encs := (fun x : Nt => #[.agg #[.int .i64 x.h, .int .u64 ((x.s : Nat) : Int)]])) (fun _ => rfl) (xs := (l.filter f)) (S := thS ba bi bx gp gh (.slice A l.length cap) l p h) (those_seq ba bi bx gp gh _ l p h f hp hh1 hxs hfx 5) (fun _ _ h t => h.turn t) hS0 (F0 := fun j => j = o ∨ (Value.slice none 0 0).ownBlock = some j) (fun j hj => by rcases hj with rfl | hj; exact lto; cases hj)
    (fun k Fp V => k ≤ (l.filter f).length ∧ ∃ v, Fp = (fun j => j = o ∨ Value.ownBlock v = some j) ∧ V.heap[o]? = some (.cells #[v] 22 (0, 0)) ∧ Row V 46 2 v k (((l.filter f).take k).flatMap Nt.cl) ∧ NewFrom w.heap.size v ∧ Keeps Nob w V) (fun _ _ => False) ?hI (fun _ _ _ h => h.elim) ?h0 (fun _ x a' V => ∃ b, a' = ⟨#[.agg p.cells, .slice A l.length cap, .int .i64 h, .pointer (some ⟨gp, 0, none⟩), ud, .pointer (some ⟨gh, 0, none⟩), .slice none 0 0, .int .i64 0, .int .i64 0, .pointer (some ⟨o, 0, none⟩), .pointer (some ⟨b, 0, none⟩), .agg (p.cells), .slice A l.length cap, .int .i64 h, .int .i64 0, .int .i64 0, .bool false, ud, .slice A l.length cap, .func (.func 84) #[] #[.pointer (some ⟨bx, 0, none⟩)], .func (.func 64) #[] #[.pointer (some ⟨gp, 0, none⟩), .pointer (some ⟨gh, 0, none⟩)], .func (.func 83) #[] #[.pointer (some ⟨ba, 0, none⟩), .pointer (some ⟨bi, 0, none⟩)], .agg #[.int .i64 x.h, .int .u64 ((x.s : Nat) : Int)], ud, ud, ud, ud, ud], []⟩ ∧ V.heap[b]? = some (.cells #[.int .i64 x.h, .int .u64 ((x.s : Nat) : Int)] 46 (0, 0))) ?hAx ?assign ?body ?done (fun _ _ _ _ h => h.elim)
  case h0 => exact ⟨Nat.zero_le _, .slice none 0 0, rfl, h62, World.ownsRow_nil _ _ _ _, NewFrom.nil _, K64⟩
  case hI =>
    rintro k Fp A V ⟨q1, v, q0, q2, q3, q4, q5⟩ t
    refine ⟨q1, v, q0, t.same _ _ q2 (fun x => x) (.inr rfl), q3.heap fun j hj => ?_, q4, t.keepsN q5 szW⟩
    obtain ⟨cs, hcs⟩ := q3.elem hj
    rw [hcs]; exact t.same _ _ hcs (fun x => x) (.inr rfl)
  case hAx =>
    rintro k x a' A V ⟨b, rfl, q1⟩ t
    exact ⟨b, rfl, t.same _ _ q1 (fun x => x) (.inr rfl)⟩
  case assign =>
    intro l' k x Fp V K hx hi hs hK
    refine syI_frame ⟨#[.agg p.cells, .slice A l.length cap, .int .i64 h, .pointer (some ⟨gp, 0, none⟩), ud, .pointer (some ⟨gh, 0, none⟩), .slice none 0 0, .int .i64 0, .int .i64 0, .pointer (some ⟨o, 0, none⟩), ud, .agg (p.cells), .slice A l.length cap, .int .i64 h, .int .i64 0, .int .i64 0, .bool false, ud, .slice A l.length cap, .func (.func 84) #[] #[.pointer (some ⟨bx, 0, none⟩)], .func (.func 64) #[] #[.pointer (some ⟨gp, 0, none⟩), .pointer (some ⟨gh, 0, none⟩)], .func (.func 83) #[] #[.pointer (some ⟨ba, 0, none⟩), .pointer (some ⟨bi, 0, none⟩)], .agg #[.int .i64 x.h, .int .u64 ((x.s : Nat) : Int)], ud, ud, ud, ud, ud], []⟩ (by kernel_rfl) ?_
    refine live_assign x V _ ?_ ?_
    · exact fun h => h.elim fun _ h => h.elim fun _ h => h
    · intro b Wb q1 q2
      obtain ⟨hk, v, r0, r1, r2, r3, r4⟩ := hi
      exact hK _ _ q2 ⟨hk, v, r0, q2.bk r1, r2.keeps q2 (fun _ _ x => x), r3, r4.then q2 (fun _ _ x => x.elim)⟩ (hs.keepsN q2) ⟨b, rfl, q1⟩
  case body =>
    rintro l' k x a' Fp V hl' hr hx ⟨hk, v, rfl, r1, r2, r3, r4⟩ hs ⟨b, rfl, hb⟩
    have hlt : k < (l.filter f).length := (List.getElem?_eq_some_iff.1 hx).1
    refine live_body x o b k w.heap.size v _ (by omega) V _ (fun h => h.elim fun _ h => h.elim fun _ h => h) r1 hb r2 r3 r4.size (fun a Wq v' g1 g2 g3 g4 g5 => ?_)
    have hK : Keeps Nob w Wq := r4.then g5 (fun i hi hm => by
      rcases hm with hm | hm
      · omega
      · have := r3 i hm; omega)
    refine ⟨OutK.of_keepsM g5 (fun j ob hj hm => ?_), _, ⟨⟨by omega, v', rfl, g1, by rw [flat_takeN _ _ x hx]; exact g2, g3, hK⟩, ?_⟩, fun j hj => ?_⟩
    · rcases hm with rfl | hm
      · rw [r1] at hj; cases hj; rfl
      · obtain ⟨cs, hcs⟩ := r2.elem hm
        rw [hcs] at hj; cases hj; rfl
    · have hm : ∀ {bb : Nat} {c : Array Value} {T : TypeId}, V.heap[bb]? = some (.cells c T (0, 0)) → bb ≠ o → 46 ≠ T → Wq.heap[bb]? = some (.cells c T (0, 0)) := fun hb hne hT => keepM g5 hb (fun e => e.elim hne (fun q => Row.ne r2 hb hT q))
      exact ⟨⟨hm hs.vs.1 hdd.1 (by decide), hl.keepsN hK⟩, hm hs.sa hdd.2.1 (by decide), hm hs.si hdd.2.2.1 (by decide), hm hs.sp hdd.2.2.2.1 (by decide), hm hs.sh hdd.2.2.2.2 (by decide)⟩
    · rcases hj with rfl | hj
      · exact .inl (.inl rfl)
      · exact (g4 j hj).imp .inr id
  case done =>
    rintro D Fp Vz hD ⟨_, v, r0, r1, r2, r3, r4⟩ hK
    have hDs : V58.heap.size ≤ D := hD
    rw [List.take_of_length_le (Nat.le_refl _)] at r2
    refine blk_n <| tqr_ [0, 1, 2] <| ppq (v) (ldk 22 o 0 r1) <| pkq (v) <| pkq (.int .i64 0) <| ps_end <| sy_a ⟨#[.agg p.cells, .slice A l.length cap, .int .i64 h, pT gp 0, undef, pT gh 0, v, .int .i64 0, .int .i64 0, pT o 0, undef, .agg (p.cells), .slice A l.length cap, .int .i64 h, .int .i64 0, .int .i64 0, .bool false, undef, .slice A l.length cap, .func (.func 84) #[] #[pT bx 0], .func (.func 64) #[] #[pT gp 0, pT gh 0], .func (.func 83) #[] #[pT ba 0, pT bi 0], undef, undef, undef, undef, undef, v], [{ target := .collected D, args := #[] }]⟩ <| then_n <| u_ ?_
    obtain ⟨V66, eV66⟩ : ∃ V, Vz.putObj D (.deferred none) = V := ⟨_, rfl⟩
    have tV66 : Turn V58.heap.size Nob Vz V66 := eV66 ▸ Turn.put _ _ _ _ hDs hK rfl
    have h68 : Row V66 46 2 v (l.filter f).length ((l.filter f).flatMap Nt.cl) := r2.heap (fun j hj => by obtain ⟨cs, hcs⟩ := Row.elem r2 hj; rw [hcs]; exact tV66.same _ _ hcs (fun x => x) (.inr rfl))
    have K69 : Keeps Nob w V66 := tV66.keepsN r4 (by omega)
    refine marks_ret hK (v := .tuple #[v, .int .i64 0]) (by rw [eV66]; kernel_rfl) ?_
    rw [eV66]
    exact ⟨v, by rw [nlive_go hrf], by rw [nlive_go hrf, ← hfd]; exact h68, r3, K69⟩
theorem nLive_all (p : Par) (hp : p.Ok) (l : List Nt) (v : Value) (h : Int) (hh1 : i64ok h) (w : World) (hl : Sl w 2 Nt.cl v l) (het : ErrTab w) : Calls Tryz.prog 34 #[.agg p.cells, v, .int .i64 h] w (fun e w' => ∃ X, e = .returned (.tuple #[X, .int .i64 (nlive p l h).2]) ∧ Row w' 46 2 X ((nlive p l h).1).length (((nlive p l h).1).flatMap Nt.cl) ∧ NewFrom w.heap.size X ∧ Keeps Nob w w') := by
  obtain ⟨A, cap, rfl, _⟩ := hl.form
  by_cases hrf : nref p l h = 0
  · exact nLive_go p hp l A cap h hh1 w hl hrf het
  · exact nLive_ref p hp l A cap h hh1 w hl _ rfl hrf het
end Go.Proofs.YtghohakbepeffaaGreatDoor
namespace Go.Proofs.YtghohakbepeffaaGreatDoor
set_option maxRecDepth 100000
set_option maxHeartbeats 4000000
open Go Go.RowKit Go.Own Go.Shelf
theorem nexec_min {P : Program} {o : Oper} {ρ : Operand → Value} {w : World} (x y : Operand) (ts : Array TypeId) (ho : o.op = .call { callee := .builtin .min, args := #[x, y], argTypes := ts }) (k : IntKind) (a b : Int) (hx : ρ x = .int k a) (hy : ρ y = .int k b) :
    (execOp ρ o).run P w = .ok (.value (.int k (min a b))) w := by
  unfold execOp
  simp [ho, hx, hy, resolve, invoke, builtin, Builtin.min_, Builtin.min2]
  rw [Int.min_def]
  split <;> split <;> omega
theorem nref_noted {p : Par} {l : List Nt} {h : Int} {rf : Int} (a : (nlive p l h).2 = rf) (b : ¬ rf = 0) : nnoted p l h = (0, rf) := by
  unfold nlive at a; unfold nnoted
  by_cases c : nref p l h ≠ 0
  · rw [if_pos c] at a ⊢; rw [show nref p l h = rf from a]
  · rw [if_neg c] at a; exact absurd a.symm b
theorem noted_go {p : Par} {l : List Nt} {h : Int} (a : (nlive p l h).2 = 0) : nnoted p l h = (nsum (nlive p l h).1, 0) ∧ (∀ y ∈ (nlive p l h).1, y.s ≤ 4611686018427387904) ∧ (nlive p l h).1.length ≤ 64 := by
  unfold nlive at a ⊢; unfold nnoted
  by_cases c : nref p l h ≠ 0
  · rw [if_pos c] at a; exact absurd a c
  · rw [if_neg c, if_neg c]
    have c2 : nref p l h = 0 := by omega
    obtain ⟨_, q1, _, _⟩ := nref_zero c2
    obtain ⟨q4, q5⟩ := ncheck_fine q1
    refine ⟨rfl, fun y hy => ?_, Nat.le_trans (List.length_filter_le _ _) q4⟩
    have hb := q5 y (List.mem_filter.1 hy).1
    unfold Nt.bad at hb; omega
theorem sum_step {ys : List Nt} {k : Nat} {y : Nt} (hy : ys[k]? = some y) : nsum (ys.drop k) = min (nsum (ys.drop (k + 1)) + y.s) 4611686018427387904 := by
  have hi : k < ys.length := (List.getElem?_eq_some_iff.1 hy).1
  rw [List.drop_eq_getElem_cons hi, (List.getElem?_eq_some_iff.1 hy).2, nsum_cons]
theorem rev_cases (ys : List Nt) (i : Nat) (hi : i ≤ ys.length) : (∃ m k y, i < ys.length ∧ m + 1 = ys.length ∧ k + i = m ∧ ys[k]? = some y) ∨ i = ys.length := by
  by_cases h : i < ys.length
  · exact .inl ⟨ys.length - 1, ys.length - 1 - i, ys[ys.length - 1 - i], h, by omega, by omega, List.getElem?_eq_getElem _⟩
  · exact .inr (by omega)
theorem nat_min (a b : Nat) : min ((a : Nat) : Int) ((b : Nat) : Int) = ((min a b : Nat) : Int) := by omega
theorem live_is (p : Par) (hp : p.Ok) (l : List Nt) (v : Value) (h : Int) (hh1 : i64ok h) (rf : Int) (ys : List Nt) (w : World) (hl : Sl w 2 Nt.cl v l) (het : ErrTab w) (hrf : (nlive p l h).2 = rf) (hys : (nlive p l h).1 = ys) : Calls Tryz.prog 34 #[.agg p.cells, v, .int .i64 h] w (fun e w' => ∃ X, e = .returned (.tuple #[X, .int .i64 rf]) ∧ Row w' 46 2 X (ys).length ((ys).flatMap Nt.cl) ∧ NewFrom w.heap.size X ∧ Keeps Nob w w') := hrf ▸ hys ▸ nLive_all p hp l v h hh1 w hl het
noncomputable def qc50_0 (n : Nat) : Code := partOf Tryz.f29 n
theorem nNoted_err (p : Par) (hp : p.Ok) (l : List Nt) (v : Value) (h : Int) (hh1 : i64ok h) (w : World) (hl : Sl w 2 Nt.cl v l) (rf : Int) (hrf : (nlive p l h).2 = rf) (h0 : ¬ rf = 0) (het : ErrTab w) :
    Calls Tryz.prog 29 #[.agg p.cells, v, .int .i64 h] w (fun e w' => e = .returned (.tuple #[.int .u64 (((nnoted p l h).1 : Nat) : Int), .int .i64 (nnoted p l h).2]) ∧ Keeps Nob w w') := by
  obtain ⟨ys, hys⟩ : ∃ ys, (nlive p l h).1 = ys := ⟨_, rfl⟩
  have K0 : Keeps Nob w w := Keeps.refl _ _
  refine sy_enter (qc50_0 1) ⟨#[.agg p.cells, v, .int .i64 h, ud, ud, ud, ud, ud, ud, ud, ud, ud, ud, ud, ud, ud, ud, ud, ud, ud, ud, ud, ud, ud, ud, ud, ud, ud, ud, ud, ud, ud, ud, ud, ud, ud, ud, ud, ud, ud, ud], []⟩ Tryz.func29 (by kernel_rfl) (by kernel_rfl) <| qr_ [0, 1, 2] <| pbx 51 p.cells (.agg p.cells) fun V1 gp egp h2 kV1 => ?_
  have n3 : w.heap.size ≤ gp := egp ▸ K0.size
  have h4 : Sl V1 2 Nt.cl v l := hl.keepsN kV1
  have K5 := K0.nn kV1
  have z6 := kV1.size
  refine pkq (.int .u64 0) <| pkq (.int .i64 0) <| eqr_ [0, 1, 2, 3, 4, 5, 6, 7, 8] <| ppq (.agg (p.cells)) (ldr 51 gp (h2) (by kernel_rfl)) <| pkq (v) <| pkq (.int .i64 h) ?_
  refine pcq 34 #[.agg (p.cells), v, .int .i64 h] Tryz.func34 ((live_is p hp l v h hh1 rf ys _ h4 (ErrTab.keeps het K5) hrf hys).mono ?_)
  rintro e V7 ⟨X, rfl, hX, hXn, kV7⟩
  have hXs := row_nts hX
  refine ⟨_, rfl, ?_⟩
  have K10 := K5.nn kV7
  have z11 := kV7.size
  refine pkq (.tuple #[X, .int .i64 rf]) <| pkq (X) <| pkq (.int .i64 rf) <| pkq (X) <| pkq (.int .i64 rf) <| eq_ <| qr_ [0, 1] <| pkq (.int .i64 rf) <| ppq (.bool true) (nqt ((rf) : Int) ((0) : Int) (by omega)) <| ey_ <| qr_ [0, 1, 2] <| pkq (.int .i64 rf) <| pkq (.int .u64 0) <| pkq (.int .i64 rf) ?_
  refine eu_ <| then_r <| so_ (.tuple #[.int .u64 0, .int .i64 rf]) ?_
  exact ⟨by rw [nref_noted hrf h0]; rfl, K10⟩
theorem nNoted_ok (p : Par) (hp : p.Ok) (l : List Nt) (v : Value) (h : Int) (hh1 : i64ok h) (w : World) (hl : Sl w 2 Nt.cl v l) (hrf : (nlive p l h).2 = 0) (het : ErrTab w) :
    Calls Tryz.prog 29 #[.agg p.cells, v, .int .i64 h] w (fun e w' => e = .returned (.tuple #[.int .u64 (((nnoted p l h).1 : Nat) : Int), .int .i64 (nnoted p l h).2]) ∧ Keeps Nob w w') := by
  obtain ⟨ys, hys⟩ : ∃ ys, (nlive p l h).1 = ys := ⟨_, rfl⟩
  obtain ⟨hres, hbnd, hlen⟩ := noted_go hrf
  rw [hys] at hres hbnd hlen
  have hres0 : nsum (ys.drop ys.length) = 0 := by rw [List.drop_length]; rfl
  have K0 : Keeps Nob w w := Keeps.refl _ _
  refine sy_enter (qc50_0 1) ⟨#[.agg p.cells, v, .int .i64 h, ud, ud, ud, ud, ud, ud, ud, ud, ud, ud, ud, ud, ud, ud, ud, ud, ud, ud, ud, ud, ud, ud, ud, ud, ud, ud, ud, ud, ud, ud, ud, ud, ud, ud, ud, ud, ud, ud], []⟩ Tryz.func29 (by kernel_rfl) (by kernel_rfl) <| qr_ [0, 1, 2] <| pbx 51 p.cells (.agg p.cells) fun V1 gp egp h2 kV1 => ?_
  have n3 : w.heap.size ≤ gp := egp ▸ K0.size
  have h4 : Sl V1 2 Nt.cl v l := hl.keepsN kV1
  have K5 := K0.nn kV1
  have z6 := kV1.size
  refine pkq (.int .u64 0) <| pkq (.int .i64 0) <| eqr_ [0, 1, 2, 3, 4, 5, 6, 7, 8] <| ppq (.agg (p.cells)) (ldr 51 gp (h2) (by kernel_rfl)) <| pkq (v) <| pkq (.int .i64 h) ?_
  refine pcq 34 #[.agg (p.cells), v, .int .i64 h] Tryz.func34 ((live_is p hp l v h hh1 0 ys _ h4 (ErrTab.keeps het K5) hrf hys).mono ?_)
  rintro e V7 ⟨X, rfl, hX, hXn, kV7⟩
  have hXs := row_nts hX
  refine ⟨_, rfl, ?_⟩
  have h8 : Sl V7 2 Nt.cl v l := h4.keepsN kV7
  have h9 := kV7.bk h2
  have K10 := K5.nn kV7
  have z11 := kV7.size
  refine pkq (.tuple #[X, .int .i64 0]) <| pkq (X) <| pkq (.int .i64 0) <| pkq (X) <| pkq (.int .i64 0) <| eq_ <| qr_ [0, 1] <| pkq (.int .i64 0) <| pkq (.bool false) <| en_ <| s_ <| tqr_ [0] <| pkq (.int .u64 0) <| eq_ ?_
  refine qr_ [0, 1, 2] <| pkq (X) <| ppq (iN ys.length) (exec_len_sl (.tmp 22) 22 46 (by kernel_rfl) Tryz.underlying22 (by kernel_rfl) hXs) <| pkq (.int .i64 0) <| et_ <| bl_ 0 ?_
  refine sy_loop (qc50_0 500) (fun a V => ∃ (i : Nat) (kd : Nat) (sm : Nat) (u11 u25 u26 u27 u28 u29 u30 u31 u32 u33 u34 u35 u36 u37 u38 u39 : Value), (a = ⟨#[.agg p.cells, v, .int .i64 h, pT gp 0, ud, ud, .int .u64 0, .int .i64 0, X, .int .i64 0, uN sm, u11, .tuple #[X, .int .i64 0], .agg (p.cells), v, .int .i64 h, .tuple #[X, .int .i64 0], X, .int .i64 0, .int .i64 0, .bool false, ud, X, iN ys.length, iN i, u25, u26, u27, u28, u29, u30, u31, u32, u33, u34, u35, u36, u37, u38, u39, ud], []⟩) ∧ (i ≤ ys.length) ∧ (kd + i = ys.length) ∧ (nsum (ys.drop kd) = sm) ∧ (Sl V 2 Nt.cl v l) ∧ (V.heap[gp]? = some (.cells p.cells 51 (0, 0))) ∧ (Sl V 2 Nt.cl X ys) ∧ (Keeps Nob w V)) (fun a _ => ys.length - (intOf (a.tmps.getD 24 undef)).toNat) (by kernel_rfl) ?_ ?_
  · exact ⟨0, ys.length, 0, undef, undef, undef, undef, undef, undef, undef, undef, undef, undef, undef, undef, undef, undef, undef, undef, by kernel_rfl, by omega, by omega, hres0, h8, h9, hXs, K10⟩
  · rintro a V12 ⟨i, kd, sm, u11, u25, u26, u27, u28, u29, u30, u31, u32, u33, u34, u35, u36, u37, u38, u39, rfl, hi, hkd, hsm, h13, h14, h15, K16⟩
    rcases rev_cases ys i hi with ⟨m, k, y, hi2, hm, hki, hy⟩ | eq_i
    · have hk2 : kd = k + 1 := by omega
      have hsm2 : nsum (ys.drop (k + 1)) = sm := hk2 ▸ hsm
      obtain ⟨b_, o_, c_, hv_, hb_, _⟩ := hXs.at_ k _ hy
      have hsl := nsum_le (ys.drop (k + 1))
      have hyb := hbnd y (List.mem_of_getElem? hy)
      rw [hsm2] at hsl
      obtain ⟨sy, hsy⟩ : ∃ s, sm + y.s = s := ⟨_, rfl⟩
      obtain ⟨sn, hsn⟩ : ∃ s, nsum (ys.drop k) = s := ⟨_, rfl⟩
      have hmn : min sy 4611686018427387904 = sn := by rw [← hsn, sum_step hy, hsm2, hsy]
      refine qr_ [0] <| ppq (.bool true) (dct ((((i : Nat) : Int)) < (((ys.length : Nat) : Int))) (by omega)) <| eq_ <| y_ <| s_ <| tq_ <| bl_ 1 <| qr_ [0, 1] <| pkq (iN i) <| pkq (iN i) <| er_ [0, 1, 2, 3, 4, 5, 6, 7, 8, 9, 10, 11, 12] <| pkq (uN sm) <| pkq (X) <| pkq (X) ?_
      refine ppq (iN ys.length) (exec_len_sl (.tmp 29) 22 46 (by kernel_rfl) Tryz.underlying22 (by kernel_rfl) h15) <| ppq (iN m) (exec_cast (congrArg (Value.int .i64) (wrapI (((ys.length : Nat) : Int) - 1) ((m : Nat) : Int) (by omega) (by omega) (by omega))) (by kernel_rfl)) <| pkq (iN i) <| ppq (iN k) (exec_cast (congrArg (Value.int .i64) (wrapI (((m : Nat) : Int) - ((i : Nat) : Int)) ((k : Nat) : Int) (by omega) (by omega) (by omega))) (by kernel_rfl)) <| ppq (pT b_ (o_ + k * 2)) (exec_indexAt_slice 22 (.tmp 28) (.tmp 33) (by kernel_rfl) b_ o_ ys.length c_ (Eq.trans (b := X) (by kernel_rfl) hv_) .i64 k (by kernel_rfl) _ 2 Tryz.underlying22 (by kernel_rfl) (by omega)) <| pkq (pT b_ (o_ + k * 2 + 1)) <| ppq (uN y.s) (ldc 40 b_ (o_ + k * 2 + 1) (Sl.cell h15 hy hv_ rfl)) <| ppq (uN sy) (exec_cast (congrArg (Value.int .u64) ((wrapU (sm + y.s) (by omega)).trans (congrArg (fun n : Nat => (n : Int)) hsy))) (by kernel_rfl)) <| ppq (uN sn) (exec_cast (congrArg (Value.int .u64) ((nat_min sy 4611686018427387904).trans (congrArg (fun n : Nat => (n : Int)) hmn))) (nexec_min (.tmp 37) (.const (.int .u64 4611686018427387904)) #[40, 40] (by kernel_rfl) .u64 ((sy : Nat) : Int) 4611686018427387904 (by kernel_rfl) (by kernel_rfl))) <| pkq (uN sn) <| ps_end <| blk_n <| tr_ [0, 1] <| ppq (iN (i + 1)) (exec_cast (congrArg (Value.int .i64) (wrapN (i + 1) (by omega))) (by kernel_rfl)) ?_
      refine pkq (iN (i + 1)) <| et_ ?_
      refine ⟨⟨i + 1, k, sn, (iN i), (.bool true), (iN i), (uN sm), X, X, (iN ys.length), (iN m), (iN i), (iN k), (pT b_ (o_ + k * 2)), (pT b_ (o_ + k * 2 + 1)), (uN y.s), (uN sy), (uN sn), (iN (i + 1)), by kernel_rfl, by omega, by omega, hsn, h13, h14, h15, K16⟩, ?_⟩
      exact lt_meas (x := ys.length - (i + 1)) (y := ys.length - i) (by kernel_rfl) (by kernel_rfl) (by omega)
    · have hk0 : kd = 0 := by omega
      have hsm3 : nsum ys = sm := by rw [hk0] at hsm; exact hsm
      rw [hsm3] at hres
      refine qr_ [0] <| ppq (.bool false) (dcf ((((i : Nat) : Int)) < (((ys.length : Nat) : Int))) (by omega)) <| eq_ <| n_ <| sy_exit 0 (by kernel_rfl) <| then_e <| then_e <| blk_e <| tqr_ [0, 1, 2] <| pkq (uN sm) <| pkq (uN sm) <| pkq (.int .i64 0) <| eu_ <| so_ (.tuple #[.int .u64 ((sm : Nat) : Int), .int .i64 0]) ?_
      exact ⟨by rw [hres], K16⟩
theorem nNoted_all (p : Par) (hp : p.Ok) (l : List Nt) (v : Value) (h : Int) (hh1 : i64ok h) (w : World) (hl : Sl w 2 Nt.cl v l) (het : ErrTab w) : Calls Tryz.prog 29 #[.agg p.cells, v, .int .i64 h] w (fun e w' => e = .returned (.tuple #[.int .u64 (((nnoted p l h).1 : Nat) : Int), .int .i64 (nnoted p l h).2]) ∧ Keeps Nob w w') := by
  by_cases hrf : (nlive p l h).2 = 0
  · exact nNoted_ok p hp l v h hh1 w hl hrf het
  · exact nNoted_err p hp l v h hh1 w hl _ rfl hrf het
end Go.Proofs.YtghohakbepeffaaGreatDoor
namespace Go.Kec
set_option maxRecDepth 100000
set_option maxHeartbeats 4000000
def W : Nat := 18446744073709551616
def rot (w n : Nat) : Nat := ((w <<< n) % W) ||| (w >>> (64 - n))
def R : List Nat := [0, 1, 62, 28, 27, 36, 44, 6, 55, 20, 3, 10, 43, 25, 39, 41, 45, 15, 21, 8, 18, 2, 61, 56, 14]
def g (s : List Nat) (i : Nat) : Nat := s.getD i 0
def col (s : List Nat) (x : Nat) : Nat := g s x ^^^ g s (x + 5) ^^^ g s (x + 10) ^^^ g s (x + 15) ^^^ g s (x + 20)
def dd (s : List Nat) (x : Nat) : Nat := col s ((x + 4) % 5) ^^^ rot (col s ((x + 1) % 5)) 1
def columns (s : List Nat) : List Nat := (List.range 25).map fun i => g s i ^^^ dd s (i % 5)
def src (j : Nat) : Nat := (j % 5 + 3 * (j / 5)) % 5 + 5 * (j % 5)
def moves (s : List Nat) : List Nat := (List.range 25).map fun j => rot (g s (src j)) (g R (src j))
def at_ (x y : Nat) : Nat := x % 5 + 5 * (y % 5)
def mixes (s : List Nat) : List Nat := (List.range 25).map fun i => g s i ^^^ ((W - 1 - g s (at_ (i % 5 + 1) (i / 5))) &&& g s (at_ (i % 5 + 2) (i / 5)))
def iota (k : Nat) (s : List Nat) : List Nat := s.set 0 (g s 0 ^^^ k)
def round (s : List Nat) (k : Nat) : List Nat := iota k (mixes (moves (columns s)))
def K : List Nat := [1, 32898, 9223372036854808714, 9223372039002292224, 32907, 2147483649, 9223372039002292353, 9223372036854808585, 138, 136, 2147516425, 2147483658, 2147516555, 9223372036854775947, 9223372036854808713, 9223372036854808579, 9223372036854808578, 9223372036854775936, 32778, 9223372039002259466, 9223372039002292353, 9223372036854808704, 2147483649, 9223372039002292232]
def perm (s : List Nat) : List Nat := K.foldl round s
/-- A list of words: each is one. -/
def Ws (s : List Nat) : Prop := ∀ i, g s i < W
theorem W_pos : 0 < W := by decide
theorem shr_lt {a : Nat} (ha : a < W) (n : Nat) : a >>> n < W := by rw [Nat.shiftRight_eq_div_pow]; exact Nat.lt_of_le_of_lt (Nat.div_le_self _ _) ha
/-! Bytes. -/
/-- Eight bytes (or fewer) as a word, the lowest first. -/
def word : List UInt8 → Nat
  | [] => 0
  | b :: r => b.toNat + 256 * word r
def wordAt (blk : List UInt8) (i : Nat) : Nat := word ((blk.drop (8 * i)).take 8)
def mixin (s : List Nat) (blk : List UInt8) : List Nat := (List.range 25).map fun i => if i < 17 then g s i ^^^ wordAt blk i else g s i
def takes (s : List Nat) (blk : List UInt8) : List Nat := perm (mixin s blk)
def zero : List Nat := List.replicate 25 0
/-- So many whole blocks of bytes. -/
def absorb : Nat → List Nat → List UInt8 → List Nat
  | 0, s, _ => s
  | n + 1, s, l => absorb n (takes s (l.take 136)) (l.drop 136)
/-- A sponge that took bytes: its state, and what is not a block yet. -/
def stateOf (l : List UInt8) : List Nat := absorb (l.length / 136) zero l
def restOf (l : List UInt8) : List UInt8 := l.drop (l.length / 136 * 136)
/-- The eight bytes of a word. -/
def eight (w : Nat) : List UInt8 := (List.range 8).map fun i => UInt8.ofNat (w / 256 ^ i)
def squeeze (s : List Nat) : List UInt8 := eight (g s 0) ++ eight (g s 1) ++ eight (g s 2) ++ eight (g s 3)
/-- The last block: what is left, a 6 behind it, and 128 into the last byte. -/
def lastBlock (r : List UInt8) : List UInt8 :=
  let b := (r ++ 6 :: List.replicate (135 - r.length) 0)
  b.set 135 (b.getD 135 0 ^^^ 128)
def sum (l : List UInt8) : List UInt8 := squeeze (takes (stateOf l) (lastBlock (restOf l)))
end Go.Kec
namespace Go.Proofs.YtghohakbepeffaaGreatDoor
set_option maxRecDepth 100000
set_option maxHeartbeats 4000000
open Go Go.RowKit Go.Own Go.Shelf
theorem andU (a b : Nat) (ha : a < Kec.W) (hb : b < Kec.W) : Value.int .u64 (bits .and .u64 (a : Int) (b : Int)) = .int .u64 ((a &&& b : Nat) : Int) := congrArg _ (u64_and_nat a b ha hb)
theorem orU (a b : Nat) (ha : a < Kec.W) (hb : b < Kec.W) : Value.int .u64 (bits .or .u64 (a : Int) (b : Int)) = .int .u64 ((a ||| b : Nat) : Int) := congrArg _ (u64_or_nat a b ha hb)
theorem run_shlU {P : Program} {w : World} (t : TypeId) (yk : IntKind) (x n : Nat) (hn : n ≤ 64) : (binOp .shl t (.int .u64 (x : Int)) (.int yk (n : Int))).run P w = .ok (.int .u64 (((x <<< n) % Kec.W : Nat) : Int)) w := by
  rw [binOp_shl, shift_shl .u64 yk (x : Int) (n : Int) (by omega) (by show (n : Int) ≤ 64; omega)]
  have e : IntKind.u64.wrap ((x : Int) * 2 ^ (n : Int).toNat) = (((x <<< n) % Kec.W : Nat) : Int) := by
    show ((x : Int) * 2 ^ n % (2 ^ 64 : Int)) = _
    rw [Nat.shiftLeft_eq, Int.natCast_emod, Int.natCast_mul, Int.natCast_pow]
    rfl
  rw [e]; rfl
theorem run_shrU {P : Program} {w : World} (t : TypeId) (yk : IntKind) (x n : Nat) (hn : n ≤ 64) : (binOp .shr t (.int .u64 (x : Int)) (.int yk (n : Int))).run P w = .ok (.int .u64 ((x >>> n : Nat) : Int)) w := by
  rw [binOp_shr, shift_shr .u64 yk (x : Int) (n : Int) (by omega) (by show (n : Int) ≤ 64; omega)]
  have e : (x : Int) / 2 ^ (n : Int).toNat = ((x >>> n : Nat) : Int) := by
    rw [Nat.shiftRight_eq_div_pow, Int.natCast_ediv, Int.natCast_pow]; rfl
  rw [e]; rfl
end Go.Proofs.YtghohakbepeffaaGreatDoor
