/-
  What votes make of an epoch does not depend on their order. Conditions: none.
-/
import Derived.Test.YtkkecoodefjnbaaSpanM
namespace Go.Proofs.Ytkkecoodefjnbaa
open Go Go.RowKit Go.Own

def MinOf (o : Option Int) (S : Int → Prop) : Prop := match o with | none => ∀ t, ¬ S t | some m => S m ∧ ∀ t, S t → m ≤ t
def MaxOf (o : Option Int) (S : Int → Prop) : Prop := match o with | none => ∀ t, ¬ S t | some m => S m ∧ ∀ t, S t → t ≤ m

theorem MinOf.eq {o o' : Option Int} {S S' : Int → Prop} (h : MinOf o S) (h' : MinOf o' S') (hs : ∀ t, S t ↔ S' t) : o = o' := by
  cases o with
  | none =>
    cases o' with
    | none => rfl
    | some m => exact absurd ((hs m).2 h'.1) (h m)
  | some m =>
    cases o' with
    | none => exact absurd ((hs m).1 h.1) (h' m)
    | some m' => have a := h.2 m' ((hs m').2 h'.1); have b := h'.2 m ((hs m).1 h.1); rw [show m = m' by omega]
theorem MaxOf.eq {o o' : Option Int} {S S' : Int → Prop} (h : MaxOf o S) (h' : MaxOf o' S') (hs : ∀ t, S t ↔ S' t) : o = o' := by
  cases o with
  | none =>
    cases o' with
    | none => rfl
    | some m => exact absurd ((hs m).2 h'.1) (h m)
  | some m =>
    cases o' with
    | none => exact absurd ((hs m).1 h.1) (h' m)
    | some m' => have a := h.2 m' ((hs m').2 h'.1); have b := h'.2 m ((hs m).1 h.1); rw [show m = m' by omega]

theorem MinOf.add {o : Option Int} {S : Int → Prop} (h : MinOf o S) (t : Int) : MinOf (optMin o t) (fun x => S x ∨ x = t) := by
  cases o with
  | none => exact ⟨.inr rfl, fun x hx => hx.elim (fun y => absurd y (h x)) (fun y => by omega)⟩
  | some m =>
    unfold optMin
    by_cases c : t < m
    · simp only [c, if_true]; exact ⟨.inr rfl, fun x hx => hx.elim (fun y => by have := h.2 x y; omega) (fun y => by omega)⟩
    · simp only [c, if_false]; exact ⟨.inl h.1, fun x hx => hx.elim (fun y => h.2 x y) (fun y => by omega)⟩
theorem MaxOf.add {o : Option Int} {S : Int → Prop} (h : MaxOf o S) (t : Int) : MaxOf (optMax o t) (fun x => S x ∨ x = t) := by
  cases o with
  | none => exact ⟨.inr rfl, fun x hx => hx.elim (fun y => absurd y (h x)) (fun y => by omega)⟩
  | some m =>
    unfold optMax
    by_cases c : m < t
    · simp only [c, if_true]; exact ⟨.inr rfl, fun x hx => hx.elim (fun y => by have := h.2 x y; omega) (fun y => by omega)⟩
    · simp only [c, if_false]; exact ⟨.inl h.1, fun x hx => hx.elim (fun y => h.2 x y) (fun y => by omega)⟩
theorem MinOf.to {o : Option Int} {S S' : Int → Prop} (h : MinOf o S) (hs : ∀ t, S t ↔ S' t) : MinOf o S' := by
  have : S = S' := funext fun t => propext (hs t)
  rw [← this]; exact h
theorem MaxOf.to {o : Option Int} {S S' : Int → Prop} (h : MaxOf o S) (hs : ∀ t, S t ↔ S' t) : MaxOf o S' := by
  have : S = S' := funext fun t => propext (hs t)
  rw [← this]; exact h

theorem view_fold (e : Int) : ∀ (L : List (Int × Int)) (p : Option Int × Option Int) (S T : Int → Prop), MinOf p.1 S → MaxOf p.2 T →
    MinOf (L.foldl (fun p v => putAt v.1 v.2 e p) p).1 (fun t => S t ∨ ∃ v ∈ L, e < v.1 ∧ v.2 = t) ∧ MaxOf (L.foldl (fun p v => putAt v.1 v.2 e p) p).2 (fun t => T t ∨ ∃ v ∈ L, v.1 < e ∧ e < v.2 ∧ v.2 = t)
  | [], p, S, T, h1, h2 => ⟨h1.to fun t => by simp, h2.to fun t => by simp⟩
  | v :: L, p, S, T, h1, h2 => by
    rw [List.foldl_cons]
    by_cases c1 : e < v.1
    · have hp : putAt v.1 v.2 e p = (optMin p.1 v.2, p.2) := by simp [putAt, c1]
      rw [hp]
      obtain ⟨a, b⟩ := view_fold e L (optMin p.1 v.2, p.2) _ T (h1.add v.2) h2
      refine ⟨a.to fun t => ?_, b.to fun t => ?_⟩
      · constructor
        · rintro ((x | x) | ⟨u, hu, x⟩)
          · exact .inl x
          · exact .inr ⟨v, by simp, c1, x.symm⟩
          · exact .inr ⟨u, by simp [hu], x⟩
        · rintro (x | ⟨u, hu, x⟩)
          · exact .inl (.inl x)
          · rcases List.mem_cons.1 hu with rfl | hu
            · exact .inl (.inr x.2.symm)
            · exact .inr ⟨u, hu, x⟩
      · constructor
        · rintro (x | ⟨u, hu, x⟩)
          · exact .inl x
          · exact .inr ⟨u, by simp [hu], x⟩
        · rintro (x | ⟨u, hu, x⟩)
          · exact .inl x
          · rcases List.mem_cons.1 hu with rfl | hu
            · omega
            · exact .inr ⟨u, hu, x⟩
    · by_cases c2 : v.1 < e ∧ e < v.2
      · have hp : putAt v.1 v.2 e p = (p.1, optMax p.2 v.2) := by simp [putAt, c1, c2]
        rw [hp]
        obtain ⟨a, b⟩ := view_fold e L (p.1, optMax p.2 v.2) S _ h1 (h2.add v.2)
        refine ⟨a.to fun t => ?_, b.to fun t => ?_⟩
        · constructor
          · rintro (x | ⟨u, hu, x⟩)
            · exact .inl x
            · exact .inr ⟨u, by simp [hu], x⟩
          · rintro (x | ⟨u, hu, x⟩)
            · exact .inl x
            · rcases List.mem_cons.1 hu with rfl | hu
              · omega
              · exact .inr ⟨u, hu, x⟩
        · constructor
          · rintro ((x | x) | ⟨u, hu, x⟩)
            · exact .inl x
            · exact .inr ⟨v, by simp, c2.1, c2.2, x.symm⟩
            · exact .inr ⟨u, by simp [hu], x⟩
          · rintro (x | ⟨u, hu, x⟩)
            · exact .inl (.inl x)
            · rcases List.mem_cons.1 hu with rfl | hu
              · exact .inl (.inr x.2.2.symm)
              · exact .inr ⟨u, hu, x⟩
      · have hp : putAt v.1 v.2 e p = p := by simp [putAt, c1, c2]
        rw [hp]
        obtain ⟨a, b⟩ := view_fold e L p S T h1 h2
        refine ⟨a.to fun t => ?_, b.to fun t => ?_⟩
        all_goals
          constructor
          · rintro (x | ⟨u, hu, x⟩)
            · exact .inl x
            · exact .inr ⟨u, by simp [hu], x⟩
          · rintro (x | ⟨u, hu, x⟩)
            · exact .inl x
            · rcases List.mem_cons.1 hu with rfl | hu
              · omega
              · exact .inr ⟨u, hu, x⟩

/-- The votes whose target is not below a line, in any order, as often as one likes. -/
def Same (lo : Int) (Y L : List (Int × Int)) : Prop := ∀ v, v ∈ Y ↔ (v ∈ L ∧ lo ≤ v.2)

theorem view_same (lo e : Int) (Y L : List (Int × Int)) (hf : Fit L) (hs : Same lo Y L) (he : lo ≤ e) : viewOf Y e = viewOf L e := by
  have h0 : MinOf (none : Option Int) (fun _ => False) := fun _ x => x
  have h1 : MaxOf (none : Option Int) (fun _ => False) := fun _ x => x
  obtain ⟨a, b⟩ := view_fold e Y (none, none) _ _ h0 h1
  obtain ⟨c, d⟩ := view_fold e L (none, none) _ _ h0 h1
  refine Prod.ext (a.eq c fun t => ?_) (b.eq d fun t => ?_)
  · constructor
    · rintro (x | ⟨u, hu, x⟩)
      · exact x.elim
      · exact .inr ⟨u, ((hs u).1 hu).1, x⟩
    · rintro (x | ⟨u, hu, x⟩)
      · exact x.elim
      · exact .inr ⟨u, (hs u).2 ⟨hu, by have := hf u hu; omega⟩, x⟩
  · constructor
    · rintro (x | ⟨u, hu, x⟩)
      · exact x.elim
      · exact .inr ⟨u, ((hs u).1 hu).1, x⟩
    · rintro (x | ⟨u, hu, x⟩)
      · exact x.elim
      · exact .inr ⟨u, (hs u).2 ⟨hu, by omega⟩, x⟩

theorem Same.start (lo : Int) (L : List (Int × Int)) : Same lo [] (L.drop L.length) := fun v => by simp
theorem Same.fin {lo : Int} {Y L : List (Int × Int)} (h : Same lo Y (L.drop 0)) : Same lo Y L := by simpa using h
theorem Same.skip {lo s t : Int} {j : Nat} {Y L : List (Int × Int)} (h : Same lo Y (L.drop (j + 1))) (hj : L[j]? = some (s, t)) (ht : t < lo) : Same lo Y (L.drop j) := fun v => by
  obtain ⟨hl, he⟩ := List.getElem?_eq_some_iff.1 hj
  rw [h v, List.drop_eq_getElem_cons hl, he, List.mem_cons]
  constructor
  · rintro ⟨a, b⟩; exact ⟨.inr a, b⟩
  · rintro ⟨a | a, b⟩
    · subst a; simp at b; omega
    · exact ⟨a, b⟩
theorem Same.twice {lo s t : Int} {j : Nat} {Y L : List (Int × Int)} (h : Same lo Y (L.drop (j + 1))) (hj : L[j]? = some (s, t)) (ht : lo ≤ t) : Same lo (Y ++ [(s, t)] ++ [(s, t)]) (L.drop j) := fun v => by
  obtain ⟨hl, he⟩ := List.getElem?_eq_some_iff.1 hj
  rw [List.drop_eq_getElem_cons hl, he, List.mem_cons]
  simp only [List.mem_append, List.mem_singleton, h v]
  constructor
  · rintro ((⟨a, b⟩ | a) | a)
    · exact ⟨.inr a, b⟩
    · subst a; exact ⟨.inl rfl, ht⟩
    · subst a; exact ⟨.inl rfl, ht⟩
  · rintro ⟨a | a, b⟩
    · exact .inr a
    · exact .inl (.inl ⟨a, b⟩)
end Go.Proofs.Ytkkecoodefjnbaa
