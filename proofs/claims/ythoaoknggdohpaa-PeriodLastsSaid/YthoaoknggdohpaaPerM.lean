/-
  Period: the laws' small functions, the chapter's params, awake. Conditions: none.
-/
import Derived.Test.YthoaoknggdohpaaPerL
namespace Go.Proofs.Ythoaoknggdohpaa
open Go Go.RowKit Go.Own Go.Shelf

set_option maxHeartbeats 1000000 in
theorem num_ok0 (n : Int) (w : World) : Calls Try.prog 30 #[.int .i64 n, .int .i64 0] w fun e w' => e = .returned (.int .i64 n) ∧ w = w' := by
  go_enter Try.func30, Try.ntmps30
  go_wp2
  go_ret
  exact ⟨rfl, rfl⟩
set_option maxHeartbeats 1000000 in
theorem num_ok1 (n e : Int) (w : World) (he : (e != 0) = true) (h1 : 0 ≤ e) (h2 : e ≤ 1000) : Calls Try.prog 30 #[.int .i64 n, .int .i64 e] w fun x w' => x = .returned (.int .i64 (-e)) ∧ w = w' := by
  go_enter Try.func30, Try.ntmps30
  go_wp2
  go_ret
  exact ⟨rfl, rfl⟩
def numV (x : Int × Int) : Int := if x.2 = 0 then x.1 else -x.2
theorem num_any (x : Int × Int) (w : World) (h1 : 0 ≤ x.2) (h2 : x.2 ≤ 1000) : Calls Try.prog 30 #[.int .i64 x.1, .int .i64 x.2] w fun e w' => e = .returned (.int .i64 (numV x)) ∧ w = w' := by
  obtain ⟨n, e⟩ := x
  unfold numV
  by_cases h : e = 0
  · subst h; exact num_ok0 n w
  · simp only [h, if_false]
    exact num_ok1 n e w (by simpa using h) h1 h2
def yesV (x : Bool × Int) : Int := numV (if x.1 then 1 else 0, x.2)
set_option maxHeartbeats 1000000 in
theorem yes_any (x : Bool × Int) (w : World) (h1 : 0 ≤ x.2) (h2 : x.2 ≤ 1000) : Calls Try.prog 31 #[.bool x.1, .int .i64 x.2] w fun e w' => e = .returned (.int .i64 (yesV x)) ∧ w = w' := by
  obtain ⟨b, e⟩ := x
  unfold yesV
  have hn := fun n W => num_any (n, e) W h1 h2
  cases b
  · have HN := Lib.hid (hn 0); clear hn
    go_enter Try.func31, Try.ntmps31
    go_wp2_with (go_at_call 30; refine (HN.out _).mono ?_; rintro e w' ⟨rfl, rfl⟩)
    go_ret
    exact ⟨rfl, rfl⟩
  · have HN := Lib.hid (hn 1); clear hn
    go_enter Try.func31, Try.ntmps31
    go_wp2_with (go_at_call 30; refine (HN.out _).mono ?_; rintro e w' ⟨rfl, rfl⟩)
    go_ret
    exact ⟨rfl, rfl⟩

/-- A record's cells behind its box. -/
theorem par_cells (p : Par) {w w' : World} {t : TypeId} (hk : Keeps Nob (w.alloc (.cells p.cells t)) w') :
    w'.cell? ⟨w.heap.size, 0, none⟩ = some (.int .i64 p.unb) ∧ w'.cell? ⟨w.heap.size, 1, none⟩ = some (.int .i64 p.mage) ∧ w'.cell? ⟨w.heap.size, 2, none⟩ = some (.int .i64 p.elen) ∧ w'.cell? ⟨w.heap.size, 3, none⟩ = some (.int .i64 p.win) ∧
    w'.cell? ⟨w.heap.size, 4, none⟩ = some (.int .i64 p.ent) ∧ w'.cell? ⟨w.heap.size, 5, none⟩ = some (.int .i64 p.act) ∧ w'.cell? ⟨w.heap.size, 6, none⟩ = some (.int .i64 p.jail) ∧ w'.cell? ⟨w.heap.size, 7, none⟩ = some (.int .u64 p.base) ∧
    w'.cell? ⟨w.heap.size, 8, none⟩ = some (.int .u64 p.mult) ∧ w'.cell? ⟨w.heap.size, 9, none⟩ = some (.int .i64 p.corr) ∧ w'.cell? ⟨w.heap.size, 10, none⟩ = some (.int .u64 p.rew) :=
  ⟨par_cell p w w' t hk 0 _ rfl, par_cell p w w' t hk 1 _ rfl, par_cell p w w' t hk 2 _ rfl, par_cell p w w' t hk 3 _ rfl, par_cell p w w' t hk 4 _ rfl, par_cell p w w' t hk 5 _ rfl, par_cell p w w' t hk 6 _ rfl, par_cell p w w' t hk 7 _ rfl, par_cell p w w' t hk 8 _ rfl, par_cell p w w' t hk 9 _ rfl, par_cell p w w' t hk 10 _ rfl⟩

/-- The chapter's params. -/
def chapterP : Par := ⟨100, 100, 10, 8, 7, 8, 20, 50000000, 3, 50, 100000000⟩
theorem chapter_Ok : chapterP.Ok := by
  constructor <;> (first | unfold i64ok | unfold u64ok) <;> simp [chapterP]
set_option maxHeartbeats 1000000 in
theorem chapter_ok (w : World) : Calls Try.prog 29 #[] w fun e w' => e = .returned (.agg #[.int .i64 100, .int .i64 100, .int .i64 10, .int .i64 8, .int .i64 7, .int .i64 8, .int .i64 20, .int .u64 50000000, .int .u64 3, .int .i64 50, .int .u64 100000000]) ∧ Keeps Nob w w' := by
  go_enter Try.func29, Try.ntmps29
  go_wp2
  exact bodyPost_ret (v := chapterP.v) (by simp [results, Try.results29, go_sem, chapterP, Par.v, Par.cells]) rfl ⟨rfl, (Keeps.refl _ _).alloc _⟩

end Go.Proofs.Ythoaoknggdohpaa
