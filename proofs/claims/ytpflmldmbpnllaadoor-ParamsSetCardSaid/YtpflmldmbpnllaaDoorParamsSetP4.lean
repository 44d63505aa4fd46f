import Derived.Test.YtpflmldmbpnllaaDoorParamsSetP3
namespace Go.Proofs.YtpflmldmbpnllaaDoor
set_option maxRecDepth 100000
set_option maxHeartbeats 4000000
open Go Go.RowKit Go.Own Go.Shelf
def nml (i : Nat) : List UInt8 := (parName[i]?.getD ⟨#[]⟩).data.toList
theorem nml_eq (i : Nat) : (parName[i]?.getD ⟨#[]⟩) = ⟨(nml i).toArray⟩ := rfl
theorem nml_le {i : Nat} (hi : i < 11) : (nml i).length ≤ 10 := name_le hi
def nmh (i : Nat) : List UInt8 := nml i ++ [32]
theorem nmh_def (i : Nat) : nml i ++ [32] = nmh i := rfl
theorem neq_l {a b : List UInt8} {v : Bool} (w : World) (h : decide (a = b) = !v) : (binOp .neq 9 (.string ⟨a.toArray⟩) (.string ⟨b.toArray⟩)).run Tryd.prog w = .ok (.bool v) w := by
  have : decide ((⟨a.toArray⟩ : ByteArray) = ⟨b.toArray⟩) = decide (a = b) := by rw [decide_eq_decide]; simp
  rw [str_neq, this, h, Bool.not_not]
/-- What is wrong with field i's line by itself. -/
def rerr (i : Nat) (l : List UInt8) : Int := if (pln i l).2 = false then 5 else if ¬ (parLo[i]?.getD 0 ≤ ((pln i l).1 : Int) ∧ ((pln i l).1 : Int) ≤ parHi[i]?.getD 0) then 3 else 0
theorem rerr_form {i : Nat} {l : List UInt8} (h : (pln i l).2 = false) : rerr i l = 5 := by unfold rerr; rw [if_pos h]
theorem rerr_range {i : Nat} {l : List UInt8} (h : (pln i l).2 = true) (h2 : ¬ (parLo[i]?.getD 0 ≤ ((pln i l).1 : Int) ∧ ((pln i l).1 : Int) ≤ parHi[i]?.getD 0)) : rerr i l = 3 := by unfold rerr; rw [if_neg (by rw [h]; simp), if_pos h2]
theorem rerr_fine {i : Nat} {l : List UInt8} (h : (pln i l).2 = true) (h2 : parLo[i]?.getD 0 ≤ ((pln i l).1 : Int) ∧ ((pln i l).1 : Int) ≤ parHi[i]?.getD 0) : rerr i l = 0 := by unfold rerr; rw [if_neg (by rw [h]; simp), if_neg (fun x => x h2)]
theorem perr_r (i : Nat) (vs : List Int) (l : List UInt8) : perr i vs l = if rerr i l ≠ 0 then rerr i l else if i = 1 ∧ vs[0]?.getD 0 < ((pln i l).1 : Int) then 9 else 0 := by
  unfold perr rerr
  split
  · simp
  · split
    · simp
    · simp
theorem cutPrefix_ok (l h : List UInt8) (w : World) : Calls Tryd.prog 73 #[.string ⟨l.toArray⟩, .string ⟨h.toArray⟩] w fun e w' => e = .returned (.tuple #[.string ⟨(Lib.trimPrefix l h).toArray⟩, .bool (Lib.hasPrefix l h)]) ∧ w = w' :=
  (Tryd.strings_CutPrefix ⟨l.toArray⟩ ⟨h.toArray⟩ w).mono fun e w' h => ⟨h.1, h.2.symm⟩
theorem cutSuffix_ok (l h : List UInt8) (w : World) (hl : l.length ≤ 100000000) : Calls Tryd.prog 50 #[.string ⟨l.toArray⟩, .string ⟨h.toArray⟩] w fun e w' => e = .returned (.tuple #[.string ⟨(Lib.trimSuffix l h).toArray⟩, .bool (Lib.hasSuffix l h)]) ∧ w = w' :=
  (Tryd.strings_CutSuffix ⟨l.toArray⟩ ⟨h.toArray⟩ w (by simp [ByteArray.size]; omega)).mono fun e w' h => ⟨h.1, h.2.symm⟩
theorem trim_yes {l h : List UInt8} (hh : Lib.hasPrefix l h = true) : Lib.trimPrefix l h = l.drop h.length := by unfold Lib.trimPrefix; rw [if_pos hh]
/-- A field's setter, at params of which the numbers ahead of it are known. -/
theorem setp_ok (vs : List Int) (i b k : Nat) (n : Nat) (w : World) (hv : vs.length = i) (hi : i < 11) (hn : n ≤ 1000000000) (hbox : w.cell? ⟨k, 0, none⟩ = some (.pointer (some ⟨b, i, none⟩))) (hb : w.heap[b]? = some (.cells (parOfL vs).cells 24 (0, 0))) (hkb : k ≠ b) :
    Calls Tryd.prog (parSet[i]?.getD 0) #[.int .u64 ((n : Nat) : Int), .pointer (some ⟨k, 0, none⟩)] w (fun e w' => e = .returned (.tuple #[]) ∧ w'.heap[b]? = some (.cells (parOfL (vs ++ [(n : Int)])).cells 24 (0, 0)) ∧ Keeps (One b) w w') := by
  have key : ∀ j, (vs ++ [(n : Int)])[j]?.getD 0 = if j = i then (n : Int) else vs[j]?.getD 0 := fun j => by
    rw [List.getElem?_append]
    by_cases h : j < vs.length
    · rw [if_pos h, if_neg (by omega)]
    · rw [if_neg h]
      by_cases h2 : j = i
      · rw [if_pos h2, show j - vs.length = 0 by omega]; rfl
      · rw [if_neg h2, List.getElem?_eq_none (show [(n : Int)].length ≤ j - vs.length by simp; omega), List.getElem?_eq_none (show vs.length ≤ j by omega)]
  have h' : i = 0 ∨ i = 1 ∨ i = 2 ∨ i = 3 ∨ i = 4 ∨ i = 5 ∨ i = 6 ∨ i = 7 ∨ i = 8 ∨ i = 9 ∨ i = 10 := by omega
  rcases h' with rfl | rfl | rfl | rfl | rfl | rfl | rfl | rfl | rfl | rfl | rfl
  all_goals
    first
    | refine (pof2_ok b k _ n _ _ w hbox hb rfl (by omega) (by omega) hkb).mono fun e w' ⟨h1, h2, h3⟩ => ⟨h1, h2.trans (congrArg (fun c => some (Obj.cells c 24 (0, 0))) ?_), h3⟩
    | refine (pword2_ok b k _ n _ _ w hbox hb rfl (by omega) (by omega) hkb).mono fun e w' ⟨h1, h2, h3⟩ => ⟨h1, h2.trans (congrArg (fun c => some (Obj.cells c 24 (0, 0))) ?_), h3⟩
    unfold parOfL
    simp only [key]
    rfl
theorem cutp_no (l h : List UInt8) (w : World) (hh : Lib.hasPrefix l h = false) : Calls Tryd.prog 73 #[.string ⟨l.toArray⟩, .string ⟨h.toArray⟩] w fun e w' => e = .returned (.tuple #[.string ⟨(Lib.trimPrefix l h).toArray⟩, .bool false]) ∧ w = w' := by
  have := cutPrefix_ok l h w
  rwa [hh] at this
theorem cutp_yes (l h : List UInt8) (w : World) (hh : Lib.hasPrefix l h = true) : Calls Tryd.prog 73 #[.string ⟨l.toArray⟩, .string ⟨h.toArray⟩] w fun e w' => e = .returned (.tuple #[.string ⟨(l.drop h.length).toArray⟩, .bool true]) ∧ w = w' := by
  have := cutPrefix_ok l h w
  rwa [hh, trim_yes hh] at this
theorem pnum_is (i : Nat) (l : List UInt8) (w : World) {v : Bool} (hh : Lib.hasPrefix l (nmh i) = true) (hn : (pln i l).2 = v) : Calls Tryd.prog 74 #[.string ⟨(l.drop (nmh i).length).toArray⟩] w (fun e w' => e = .returned (.tuple #[.int .u64 (((pln i l).1 : Nat) : Int), .bool v]) ∧ Keeps Nob w w') := by
  have := pnumber_ok (l.drop (nmh i).length) w
  have e : pln i l = pnum (l.drop (nmh i).length) := by unfold pln; simp only; exact if_pos hh
  rw [← e, hn] at this
  exact this
noncomputable def qc38_2 (n : Nat) : Code := partOf Tryd.f51 n
noncomputable abbrev qo38_2 (n k : Nat) : Oper := (opsAt (qc38_2 n)).getD k default
theorem preads_head (i k : Nat) (l : List UInt8) (w : World) (hi : i < 11) (hh : Lib.hasPrefix l (nmh i) = false) :
    Calls Tryd.prog 51 #[.agg (fieldC i k).toArray, .string ⟨l.toArray⟩] w (fun e w' => e = .returned (.int .i64 (rerr i l)) ∧ Keeps Nob w w') := by
  have hres : rerr i l = 5 := rerr_form (by unfold pln; simp only; rw [if_neg (by rw [show Lib.hasPrefix l ((parName[i]?.getD ⟨#[]⟩).data.toList ++ [32]) = false from hh]; simp)])
  have K0 : Keeps Nob w w := Keeps.refl _ _
  refine sy_enter (qc38_2 1) ⟨#[.agg (fieldC i k).toArray, .string ⟨l.toArray⟩, ud, ud, ud, ud, ud, ud, ud, ud, ud, ud, ud, ud, ud, ud, ud, ud, ud, ud, ud, ud, ud, ud, ud, ud, ud, ud, ud, ud, ud, ud, ud, ud, ud, ud], []⟩ Tryd.func51 (by kernel_rfl) (by kernel_rfl) <| qr_ [0, 1] <| pbx 67 ((fieldC i k).toArray) (.agg (fieldC i k).toArray) fun V1 gf egf h2 kV1 => ?_
  have n3 : w.heap.size ≤ gf := egf ▸ K0.size
  have K4 := K0.nn kV1
  have z5 := kV1.size
  refine pkq (.int .i64 0) <| eqr_ [0, 1, 2, 3, 4, 5, 6, 7, 8, 9] <| pkq (.string ⟨l.toArray⟩) <| pkq (pT gf 0) <| ppq (.string ⟨(nml i).toArray⟩) (ldc 9 gf 0 (rc (h2) ((show (fieldC i k).toArray[0]? = some (.string ⟨(nml i).toArray⟩) from congrArg (fun x => some (Value.string x)) (nml_eq i))))) <| ppq (.string ⟨(nmh i).toArray⟩) (exec_cast (congrArg (fun l : List UInt8 => Value.string ⟨l.toArray⟩) (nmh_def i)) (exec_cat 9 (.tmp 12) (.const (.string ⟨#[32]⟩)) (by kernel_rfl) (nml i) [32] (by kernel_rfl) (by kernel_rfl) (by have := nml_le hi; simp; omega))) ?_
  have hcp := cutp_no l (nmh i) V1 hh
  refine pcq 73 #[.string ⟨l.toArray⟩, .string ⟨(nmh i).toArray⟩] Tryd.func73 ((hcp).mono ?_)
  rintro e w1 ⟨rfl, rfl⟩
  refine ⟨_, rfl, ?_⟩
  refine pkq (.tuple #[.string ⟨(Lib.trimPrefix l (nmh i)).toArray⟩, .bool false]) <| pkq (.string ⟨(Lib.trimPrefix l (nmh i)).toArray⟩) <| pkq (.bool false) <| pkq (.string ⟨(Lib.trimPrefix l (nmh i)).toArray⟩) <| pkq (.bool false) <| eq_ <| qr_ [0, 1] <| pkq (.bool false) <| pkq (.bool true) <| ey_ <| qr_ [0] <| pkq (.int .i64 5) <| eu_ <| then_r ?_
  refine so_ (.int .i64 5) ?_
  exact ⟨by rw [hres], K4⟩
theorem preads_form (i k : Nat) (l : List UInt8) (w : World) (hi : i < 11) (hh : Lib.hasPrefix l (nmh i) = true) (hn : (pln i l).2 = false) :
    Calls Tryd.prog 51 #[.agg (fieldC i k).toArray, .string ⟨l.toArray⟩] w (fun e w' => e = .returned (.int .i64 (rerr i l)) ∧ Keeps Nob w w') := by
  have hres : rerr i l = 5 := rerr_form hn
  have K0 : Keeps Nob w w := Keeps.refl _ _
  refine sy_enter (qc38_2 1) ⟨#[.agg (fieldC i k).toArray, .string ⟨l.toArray⟩, ud, ud, ud, ud, ud, ud, ud, ud, ud, ud, ud, ud, ud, ud, ud, ud, ud, ud, ud, ud, ud, ud, ud, ud, ud, ud, ud, ud, ud, ud, ud, ud, ud, ud], []⟩ Tryd.func51 (by kernel_rfl) (by kernel_rfl) <| qr_ [0, 1] <| pbx 67 ((fieldC i k).toArray) (.agg (fieldC i k).toArray) fun V1 gf egf h2 kV1 => ?_
  have n3 : w.heap.size ≤ gf := egf ▸ K0.size
  have K4 := K0.nn kV1
  have z5 := kV1.size
  refine pkq (.int .i64 0) <| eqr_ [0, 1, 2, 3, 4, 5, 6, 7, 8, 9] <| pkq (.string ⟨l.toArray⟩) <| pkq (pT gf 0) <| ppq (.string ⟨(nml i).toArray⟩) (ldc 9 gf 0 (rc (h2) ((show (fieldC i k).toArray[0]? = some (.string ⟨(nml i).toArray⟩) from congrArg (fun x => some (Value.string x)) (nml_eq i))))) <| ppq (.string ⟨(nmh i).toArray⟩) (exec_cast (congrArg (fun l : List UInt8 => Value.string ⟨l.toArray⟩) (nmh_def i)) (exec_cat 9 (.tmp 12) (.const (.string ⟨#[32]⟩)) (by kernel_rfl) (nml i) [32] (by kernel_rfl) (by kernel_rfl) (by have := nml_le hi; simp; omega))) ?_
  have hcp := cutp_yes l (nmh i) V1 hh
  refine pcq 73 #[.string ⟨l.toArray⟩, .string ⟨(nmh i).toArray⟩] Tryd.func73 ((hcp).mono ?_)
  rintro e w1 ⟨rfl, rfl⟩
  refine ⟨_, rfl, ?_⟩
  refine pkq (.tuple #[.string ⟨(l.drop (nmh i).length).toArray⟩, .bool true]) <| pkq (.string ⟨(l.drop (nmh i).length).toArray⟩) <| pkq (.bool true) <| pkq (.string ⟨(l.drop (nmh i).length).toArray⟩) <| pkq (.bool true) <| eq_ <| qr_ [0, 1] <| pkq (.bool true) <| pkq (.bool false) <| en_ <| s_ <| tqr_ [0, 1, 2, 3, 4, 5, 6] <| pkq (.string ⟨(l.drop (nmh i).length).toArray⟩) ?_
  refine pcq 74 #[.string ⟨(l.drop (nmh i).length).toArray⟩] Tryd.func74 ((pnum_is i l _ hh hn).mono ?_)
  rintro e V6 ⟨rfl, kV6⟩
  refine ⟨_, rfl, ?_⟩
  have K8 := K4.nn kV6
  have z9 := kV6.size
  refine pkq (.tuple #[uN ((pln i l).1), .bool false]) <| pkq (uN ((pln i l).1)) <| pkq (.bool false) <| pkq (uN ((pln i l).1)) <| pkq (.bool false) <| eq_ <| b_ 0 <| qr_ [0, 1, 2] <| pkq (.bool false) <| pkq (.bool true) <| pkq (.bool true) <| ps_end <| sy_a ⟨#[.agg (fieldC i k).toArray, .string ⟨l.toArray⟩, pT gf 0, ud, .int .i64 0, .string ⟨(l.drop (nmh i).length).toArray⟩, .bool true, uN ((pln i l).1), .bool false, .tuple #[.string ⟨(l.drop (nmh i).length).toArray⟩, .bool true], .string ⟨l.toArray⟩, pT gf 0, .string ⟨(nml i).toArray⟩, .string ⟨(nmh i).toArray⟩, .tuple #[.string ⟨(l.drop (nmh i).length).toArray⟩, .bool true], .string ⟨(l.drop (nmh i).length).toArray⟩, .bool true, .bool true, .bool false, .tuple #[uN ((pln i l).1), .bool false], .string ⟨(l.drop (nmh i).length).toArray⟩, .tuple #[uN ((pln i l).1), .bool false], uN ((pln i l).1), .bool false, .bool true, .bool false, .bool true, ud, ud, ud, ud, ud, ud, ud, ud, ud], []⟩ <| then_n ?_
  refine y_ <| qr_ [0] <| pkq (.int .i64 5) <| eu_ <| blk_r <| then_r <| so_ (.int .i64 5) ?_
  exact ⟨by rw [hres], K8⟩
theorem preads_range (i k : Nat) (l : List UInt8) (w : World) (hi : i < 11) (hh : Lib.hasPrefix l (nmh i) = true) (hn : (pln i l).2 = true) (hr : ¬ (parLo[i]?.getD 0 ≤ ((pln i l).1 : Int) ∧ ((pln i l).1 : Int) ≤ parHi[i]?.getD 0)) :
    Calls Tryd.prog 51 #[.agg (fieldC i k).toArray, .string ⟨l.toArray⟩] w (fun e w' => e = .returned (.int .i64 (rerr i l)) ∧ Keeps Nob w w') := by
  have hres : rerr i l = 3 := rerr_range hn hr
  have K0 : Keeps Nob w w := Keeps.refl _ _
  refine sy_enter (qc38_2 1) ⟨#[.agg (fieldC i k).toArray, .string ⟨l.toArray⟩, ud, ud, ud, ud, ud, ud, ud, ud, ud, ud, ud, ud, ud, ud, ud, ud, ud, ud, ud, ud, ud, ud, ud, ud, ud, ud, ud, ud, ud, ud, ud, ud, ud, ud], []⟩ Tryd.func51 (by kernel_rfl) (by kernel_rfl) <| qr_ [0, 1] <| pbx 67 ((fieldC i k).toArray) (.agg (fieldC i k).toArray) fun V1 gf egf h2 kV1 => ?_
  have n3 : w.heap.size ≤ gf := egf ▸ K0.size
  have K4 := K0.nn kV1
  have z5 := kV1.size
  refine pkq (.int .i64 0) <| eqr_ [0, 1, 2, 3, 4, 5, 6, 7, 8, 9] <| pkq (.string ⟨l.toArray⟩) <| pkq (pT gf 0) <| ppq (.string ⟨(nml i).toArray⟩) (ldc 9 gf 0 (rc (h2) ((show (fieldC i k).toArray[0]? = some (.string ⟨(nml i).toArray⟩) from congrArg (fun x => some (Value.string x)) (nml_eq i))))) <| ppq (.string ⟨(nmh i).toArray⟩) (exec_cast (congrArg (fun l : List UInt8 => Value.string ⟨l.toArray⟩) (nmh_def i)) (exec_cat 9 (.tmp 12) (.const (.string ⟨#[32]⟩)) (by kernel_rfl) (nml i) [32] (by kernel_rfl) (by kernel_rfl) (by have := nml_le hi; simp; omega))) ?_
  have hcp := cutp_yes l (nmh i) V1 hh
  refine pcq 73 #[.string ⟨l.toArray⟩, .string ⟨(nmh i).toArray⟩] Tryd.func73 ((hcp).mono ?_)
  rintro e w1 ⟨rfl, rfl⟩
  refine ⟨_, rfl, ?_⟩
  refine pkq (.tuple #[.string ⟨(l.drop (nmh i).length).toArray⟩, .bool true]) <| pkq (.string ⟨(l.drop (nmh i).length).toArray⟩) <| pkq (.bool true) <| pkq (.string ⟨(l.drop (nmh i).length).toArray⟩) <| pkq (.bool true) <| eq_ <| qr_ [0, 1] <| pkq (.bool true) <| pkq (.bool false) <| en_ <| s_ <| tqr_ [0, 1, 2, 3, 4, 5, 6] <| pkq (.string ⟨(l.drop (nmh i).length).toArray⟩) ?_
  refine pcq 74 #[.string ⟨(l.drop (nmh i).length).toArray⟩] Tryd.func74 ((pnum_is i l _ hh hn).mono ?_)
  rintro e V6 ⟨rfl, kV6⟩
  refine ⟨_, rfl, ?_⟩
  have h7 := kV6.bk h2
  have K8 := K4.nn kV6
  have z9 := kV6.size
  refine pkq (.tuple #[uN ((pln i l).1), .bool true]) <| pkq (uN ((pln i l).1)) <| pkq (.bool true) <| pkq (uN ((pln i l).1)) <| pkq (.bool true) <| eq_ <| b_ 0 <| qr_ [0, 1, 2] <| pkq (.bool true) <| pkq (.bool false) <| pkq (.bool false) <| ps_end <| sy_a ⟨#[.agg (fieldC i k).toArray, .string ⟨l.toArray⟩, pT gf 0, ud, .int .i64 0, .string ⟨(l.drop (nmh i).length).toArray⟩, .bool true, uN ((pln i l).1), .bool true, .tuple #[.string ⟨(l.drop (nmh i).length).toArray⟩, .bool true], .string ⟨l.toArray⟩, pT gf 0, .string ⟨(nml i).toArray⟩, .string ⟨(nmh i).toArray⟩, .tuple #[.string ⟨(l.drop (nmh i).length).toArray⟩, .bool true], .string ⟨(l.drop (nmh i).length).toArray⟩, .bool true, .bool true, .bool false, .tuple #[uN ((pln i l).1), .bool true], .string ⟨(l.drop (nmh i).length).toArray⟩, .tuple #[uN ((pln i l).1), .bool true], uN ((pln i l).1), .bool true, .bool false, .bool true, .bool false, ud, ud, ud, ud, ud, ud, ud, ud, ud], []⟩ <| then_n ?_
  refine n_ <| qr_ [0, 1, 2, 3, 4] <| ppq (.agg ((fieldC i k).toArray)) (ldr 67 gf (h7) (by kernel_rfl)) <| pkq (uN ((pln i l).1)) ?_
  refine pcq 38 #[.agg ((fieldC i k).toArray), uN ((pln i l).1)] Tryd.func38 ((within_no _ _ _ _ _ _ _ hr).mono ?_)
  rintro e V10 ⟨rfl, kV10⟩
  refine ⟨_, rfl, ?_⟩
  have K12 := K8.nn kV10
  have z13 := kV10.size
  refine pkq (.bool true) <| pkq (.bool true) <| ey_ <| qr_ [0] <| pkq (.int .i64 3) <| eu_ <| blk_r <| then_r <| so_ (.int .i64 3) ?_
  exact ⟨by rw [hres], K12⟩
theorem preads_fine (vs : List Int) (i b k : Nat) (l : List UInt8) (w : World) (hv : vs.length = i) (hi : i < 11) (hbox : w.cell? ⟨k, 0, none⟩ = some (.pointer (some ⟨b, i, none⟩))) (hb : w.heap[b]? = some (.cells (parOfL vs).cells 24 (0, 0))) (hkb : k ≠ b) (hh : Lib.hasPrefix l (nmh i) = true) (hn : (pln i l).2 = true) (hr : parLo[i]?.getD 0 ≤ ((pln i l).1 : Int) ∧ ((pln i l).1 : Int) ≤ parHi[i]?.getD 0) :
    Calls Tryd.prog 51 #[.agg (fieldC i k).toArray, .string ⟨l.toArray⟩] w (fun e w' => e = .returned (.int .i64 (rerr i l)) ∧ w'.heap[b]? = some (.cells (parOfL (vs ++ [((pln i l).1 : Int)])).cells 24 (0, 0)) ∧ Keeps (One b) w w') := by
  have hres : rerr i l = 0 := rerr_fine hn hr
  have hhi := parHi_le i
  have hbl := lt_of_block hb
  have K0 : Keeps (One b) w w := Keeps.refl _ _
  refine sy_enter (qc38_2 1) ⟨#[.agg (fieldC i k).toArray, .string ⟨l.toArray⟩, ud, ud, ud, ud, ud, ud, ud, ud, ud, ud, ud, ud, ud, ud, ud, ud, ud, ud, ud, ud, ud, ud, ud, ud, ud, ud, ud, ud, ud, ud, ud, ud, ud, ud], []⟩ Tryd.func51 (by kernel_rfl) (by kernel_rfl) <| qr_ [0, 1] <| pbx 67 ((fieldC i k).toArray) (.agg (fieldC i k).toArray) fun V1 gf egf h2 kV1 => ?_
  have n3 : w.heap.size ≤ gf := egf ▸ K0.size
  have h4 : V1.heap[b]? = some (.cells (parOfL vs).cells 24 (0, 0)) := kV1.bk hb
  have K5 := K0.nn kV1
  have z6 := kV1.size
  refine pkq (.int .i64 0) <| eqr_ [0, 1, 2, 3, 4, 5, 6, 7, 8, 9] <| pkq (.string ⟨l.toArray⟩) <| pkq (pT gf 0) <| ppq (.string ⟨(nml i).toArray⟩) (ldc 9 gf 0 (rc (h2) ((show (fieldC i k).toArray[0]? = some (.string ⟨(nml i).toArray⟩) from congrArg (fun x => some (Value.string x)) (nml_eq i))))) <| ppq (.string ⟨(nmh i).toArray⟩) (exec_cast (congrArg (fun l : List UInt8 => Value.string ⟨l.toArray⟩) (nmh_def i)) (exec_cat 9 (.tmp 12) (.const (.string ⟨#[32]⟩)) (by kernel_rfl) (nml i) [32] (by kernel_rfl) (by kernel_rfl) (by have := nml_le hi; simp; omega))) ?_
  have hcp := cutp_yes l (nmh i) V1 hh
  refine pcq 73 #[.string ⟨l.toArray⟩, .string ⟨(nmh i).toArray⟩] Tryd.func73 ((hcp).mono ?_)
  rintro e w1 ⟨rfl, rfl⟩
  refine ⟨_, rfl, ?_⟩
  refine pkq (.tuple #[.string ⟨(l.drop (nmh i).length).toArray⟩, .bool true]) <| pkq (.string ⟨(l.drop (nmh i).length).toArray⟩) <| pkq (.bool true) <| pkq (.string ⟨(l.drop (nmh i).length).toArray⟩) <| pkq (.bool true) <| eq_ <| qr_ [0, 1] <| pkq (.bool true) <| pkq (.bool false) <| en_ <| s_ <| tqr_ [0, 1, 2, 3, 4, 5, 6] <| pkq (.string ⟨(l.drop (nmh i).length).toArray⟩) ?_
  refine pcq 74 #[.string ⟨(l.drop (nmh i).length).toArray⟩] Tryd.func74 ((pnum_is i l _ hh hn).mono ?_)
  rintro e V7 ⟨rfl, kV7⟩
  refine ⟨_, rfl, ?_⟩
  have h8 : V7.heap[b]? = some (.cells (parOfL vs).cells 24 (0, 0)) := kV7.bk h4
  have h9 := kV7.bk h2
  have K10 := K5.nn kV7
  have z11 := kV7.size
  refine pkq (.tuple #[uN ((pln i l).1), .bool true]) <| pkq (uN ((pln i l).1)) <| pkq (.bool true) <| pkq (uN ((pln i l).1)) <| pkq (.bool true) <| eq_ <| b_ 0 <| qr_ [0, 1, 2] <| pkq (.bool true) <| pkq (.bool false) <| pkq (.bool false) <| ps_end <| sy_a ⟨#[.agg (fieldC i k).toArray, .string ⟨l.toArray⟩, pT gf 0, ud, .int .i64 0, .string ⟨(l.drop (nmh i).length).toArray⟩, .bool true, uN ((pln i l).1), .bool true, .tuple #[.string ⟨(l.drop (nmh i).length).toArray⟩, .bool true], .string ⟨l.toArray⟩, pT gf 0, .string ⟨(nml i).toArray⟩, .string ⟨(nmh i).toArray⟩, .tuple #[.string ⟨(l.drop (nmh i).length).toArray⟩, .bool true], .string ⟨(l.drop (nmh i).length).toArray⟩, .bool true, .bool true, .bool false, .tuple #[uN ((pln i l).1), .bool true], .string ⟨(l.drop (nmh i).length).toArray⟩, .tuple #[uN ((pln i l).1), .bool true], uN ((pln i l).1), .bool true, .bool false, .bool true, .bool false, ud, ud, ud, ud, ud, ud, ud, ud, ud], []⟩ <| then_n ?_
  refine n_ <| qr_ [0, 1, 2, 3, 4] <| ppq (.agg ((fieldC i k).toArray)) (ldr 67 gf (h9) (by kernel_rfl)) <| pkq (uN ((pln i l).1)) ?_
  refine pcq 38 #[.agg ((fieldC i k).toArray), uN ((pln i l).1)] Tryd.func38 ((within_yes _ _ _ _ _ _ _ hr).mono ?_)
  rintro e V12 ⟨rfl, kV12⟩
  refine ⟨_, rfl, ?_⟩
  have h13 : V12.heap[b]? = some (.cells (parOfL vs).cells 24 (0, 0)) := kV12.bk h8
  have h14 := kV12.bk h9
  have K15 := K10.nn kV12
  have z16 := kV12.size
  refine pkq (.bool false) <| pkq (.bool false) <| en_ <| s_ <| blk_n <| tqr_ [0, 1, 2, 3] <| pkq (pT gf 4) <| ppq (.func (.func (parSet[i]?.getD 0)) #[] #[pT k 0]) (ldc 65 gf 4 (rc (h14) (rfl))) <| pkq (uN ((pln i l).1)) ?_
  refine ps_callV (qo38_2 126 3) (.tmp 33) (parSet[i]?.getD 0) #[] #[pT k 0] #[uN ((pln i l).1), pT k 0] (by kernel_rfl) (by kernel_rfl) (by kernel_rfl) (by kernel_rfl) (by kernel_rfl) (set_enters i hi) ((setp_ok vs i b k (pln i l).1 _ hv hi (by omega) ((K15.cell (World.block_lt_of_cell? w _ hbox) (fun e => hkb e)).trans hbox) h13 hkb).mono ?_)
  rintro e V17 ⟨rfl, hb2, kV17⟩
  refine ⟨_, rfl, ?_⟩
  have K19 : Keeps (One b) w V17 := K15.then kV17 (fun i hi hm => by unfold Own.One at hm; subst hm; exact rfl)
  have z20 := kV17.size
  refine eqr_ [0] <| pkq (.int .i64 0) <| eu_ <| so_ (.int .i64 0) ?_
  exact ⟨by rw [hres], hb2, K19⟩
theorem preads_bad (i k : Nat) (l : List UInt8) (w : World) (hi : i < 11) (he : rerr i l ≠ 0) : Calls Tryd.prog 51 #[.agg (fieldC i k).toArray, .string ⟨l.toArray⟩] w (fun e w' => e = .returned (.int .i64 (rerr i l)) ∧ Keeps Nob w w') := by
  cases hh : Lib.hasPrefix l (nmh i) with
  | false => exact preads_head i k l w hi hh
  | true =>
    cases hn : (pln i l).2 with
    | false => exact preads_form i k l w hi hh hn
    | true =>
      by_cases hr : parLo[i]?.getD 0 ≤ ((pln i l).1 : Int) ∧ ((pln i l).1 : Int) ≤ parHi[i]?.getD 0
      · exact absurd (rerr_fine hn hr) he
      · exact preads_range i k l w hi hh hn hr
theorem preads_ok (vs : List Int) (i b k : Nat) (l : List UInt8) (w : World) (hv : vs.length = i) (hi : i < 11) (hbox : w.cell? ⟨k, 0, none⟩ = some (.pointer (some ⟨b, i, none⟩))) (hb : w.heap[b]? = some (.cells (parOfL vs).cells 24 (0, 0))) (hkb : k ≠ b) (he : rerr i l = 0) :
    Calls Tryd.prog 51 #[.agg (fieldC i k).toArray, .string ⟨l.toArray⟩] w (fun e w' => e = .returned (.int .i64 (rerr i l)) ∧ w'.heap[b]? = some (.cells (parOfL (vs ++ [((pln i l).1 : Int)])).cells 24 (0, 0)) ∧ Keeps (One b) w w') := by
  have hn : (pln i l).2 = true := by
    cases hn : (pln i l).2 with
    | false => rw [rerr_form hn] at he; cases he
    | true => rfl
  have hr : parLo[i]?.getD 0 ≤ ((pln i l).1 : Int) ∧ ((pln i l).1 : Int) ≤ parHi[i]?.getD 0 := by
    by_cases hr : parLo[i]?.getD 0 ≤ ((pln i l).1 : Int) ∧ ((pln i l).1 : Int) ≤ parHi[i]?.getD 0
    · exact hr
    · rw [rerr_range hn hr] at he; cases he
  have hh : Lib.hasPrefix l (nmh i) = true := by
    cases hh : Lib.hasPrefix l (nmh i) with
    | true => rfl
    | false =>
      have e : pln i l = (0, false) := by unfold pln; simp only; exact if_neg (by rw [show Lib.hasPrefix l ((parName[i]?.getD ⟨#[]⟩).data.toList ++ [32]) = false from hh]; simp)
      rw [e] at hn; cases hn
  exact preads_fine vs i b k l w hv hi hbox hb hkb hh hn hr
end Go.Proofs.YtpflmldmbpnllaaDoor
namespace Go.Proofs.YtpflmldmbpnllaaDoor
set_option maxRecDepth 100000
set_option maxHeartbeats 4000000
open Go Go.RowKit Go.Own Go.Shelf
theorem and127_fin : ∀ r : Fin 256, bits .and .u8 ((r.val : Nat) : Int) 127 = ((r.val % 128 : Nat) : Int) := by decide +kernel
theorem and127 (z : Nat) (hz : z < 256) : bits .and .u8 (z : Int) 127 = ((z % 128 : Nat) : Int) := and127_fin ⟨z, hz⟩
theorem pow128 (k : Nat) : 2 ^ (7 * k) = 128 ^ k := by rw [Nat.pow_mul]
theorem acc_small (z m k : Nat) (hk : k ≤ 9) (h9 : k = 9 → z ≤ 1) : z % 128 * 128 ^ k < 18446744073709551616 := by
  have h : k = 0 ∨ k = 1 ∨ k = 2 ∨ k = 3 ∨ k = 4 ∨ k = 5 ∨ k = 6 ∨ k = 7 ∨ k = 8 ∨ k = 9 := by omega
  rcases h with rfl | rfl | rfl | rfl | rfl | rfl | rfl | rfl | rfl | rfl <;> simp <;> omega
theorem acc_join (x m k : Nat) (hm : m < 128 ^ k) : m ||| x * 128 ^ k = m + x * 128 ^ k := by
  rw [Nat.or_comm, nat_join (7 * k) (x * 128 ^ k) m (by rw [pow128]; exact Nat.mul_mod_left _ _) (by rw [pow128]; exact hm), Nat.add_comm]
theorem wrap_u64_nat (n : Nat) (h : n < 18446744073709551616) : IntKind.u64.wrap (n : Int) = (n : Int) := by
  simp [IntKind.wrap, IntKind.bits, IntKind.signed]; omega
/-- A byte's groups are laid to those that were there. -/
theorem acc_mod (z m k : Nat) (hk : k ≤ 9) (h9 : k = 9 → z ≤ 1) (hm : m < 128 ^ k) (hm2 : m < 18446744073709551616) :
    bits .or .u64 (m : Int) (IntKind.u64.wrap (IntKind.u64.wrap ((z % 128 : Nat) : Int) * 2 ^ (7 * k))) = ((m + z % 128 * 128 ^ k : Nat) : Int) := by
  have hs := acc_small z m k hk h9
  rw [wrap_u64_nat (z % 128) (by omega)]
  have e : ((z % 128 : Nat) : Int) * 2 ^ (7 * k) = ((z % 128 * 128 ^ k : Nat) : Int) := by
    rw [← pow128]; simp
  rw [e, wrap_u64_nat _ hs, u64_or_nat _ _ hm2 hs, acc_join _ _ _ hm]
theorem acc_and (z m k : Nat) (hz : z < 256) (hk : k ≤ 9) (h9 : k = 9 → z ≤ 1) (hm : m < 128 ^ k) (hm2 : m < 18446744073709551616) :
    bits .or .u64 (m : Int) (IntKind.u64.wrap (IntKind.u64.wrap (bits .and .u8 (z : Int) 127) * 2 ^ (7 * k))) = ((m + z % 128 * 128 ^ k : Nat) : Int) := by
  rw [and127 z hz]; exact acc_mod z m k hk h9 hm hm2
theorem acc_next (z m k : Nat) (hm : m < 128 ^ k) : m + z % 128 * 128 ^ k < 128 ^ (k + 1) := by
  rw [Nat.pow_succ, Nat.mul_comm _ 128]
  have : z % 128 ≤ 127 := by omega
  have := Nat.mul_le_mul_right (128 ^ k) this
  omega
theorem pow128_le (k : Nat) (hk : k ≤ 9) : 128 ^ k ≤ 9223372036854775808 := by
  have : 128 ^ k ≤ 128 ^ 9 := Nat.pow_le_pow_right (by omega) hk
  simpa using this
/-- What has come of the bytes ahead of place k. -/
def NumAt (l : List UInt8) (k m : Nat) : Prop := Cod.num l = Cod.numF (l.drop k) k m ∧ m < 128 ^ k ∧ k ≤ 9
theorem NumAt.zero (l : List UInt8) : NumAt l 0 0 := ⟨rfl, by omega, by omega⟩
theorem drop_cons (l : List UInt8) (k : Nat) (c : UInt8) (h : l[k]? = some c) : l.drop k = c :: l.drop (k + 1) := by
  obtain ⟨hk, e⟩ := List.getElem?_eq_some_iff.1 h
  rw [List.drop_eq_getElem_cons hk, e]
theorem NumAt.end_ {l : List UInt8} {k m : Nat} (h : NumAt l k m) (hk : l.length ≤ k) : Cod.num l = (0, 0, 6) := by
  rw [h.1, List.drop_eq_nil_of_le hk]; rfl
theorem NumAt.form {l : List UInt8} {k m z : Nat} {c : UInt8} (h : NumAt l k m) (hc : l[k]? = some c) (hz : c.toNat = z) (hf : (k = 9 ∧ 1 < z) ∨ (0 < k ∧ z = 0)) : Cod.num l = (0, 0, 5) := by
  rw [h.1, drop_cons l k c hc, Cod.numF, hz, if_pos hf]
theorem NumAt.done {l : List UInt8} {k m z : Nat} {c : UInt8} (h : NumAt l k m) (hc : l[k]? = some c) (hz : c.toNat = z) (hf : ¬ ((k = 9 ∧ 1 < z) ∨ (0 < k ∧ z = 0))) (hlt : z < 128) : Cod.num l = (m + z % 128 * 128 ^ k, k + 1, 0) := by
  rw [h.1, drop_cons l k c hc, Cod.numF, hz, if_neg hf, if_pos hlt]
theorem NumAt.more {l : List UInt8} {k m z : Nat} {c : UInt8} (h : NumAt l k m) (hc : l[k]? = some c) (hz : c.toNat = z) (hf : ¬ ((k = 9 ∧ 1 < z) ∨ (0 < k ∧ z = 0))) (hge : ¬ z < 128) : NumAt l (k + 1) (m + z % 128 * 128 ^ k) := by
  refine ⟨?_, acc_next z m k h.2.1, ?_⟩
  · rw [h.1, drop_cons l k c hc, Cod.numF, hz, if_neg hf, if_neg hge]
  · have := h.2.2; omega
theorem num_ret {l : List UInt8} {r : Nat × Nat × Int} {a b : Nat} {e : Int} (h1 : Cod.num l = r) (h2 : Cod.num l = (a, b, e)) : r = (a, b, e) := h1.symm.trans h2
theorem number_ok (v : Value) (l : List UInt8) (w : World) (hv : BytesAt w v l) :
    Calls Tryd.prog 80 #[v] w fun e w' => e = .returned (.tuple #[.int .u64 ((Cod.num l).1 : Int), .int .i64 ((Cod.num l).2.1 : Int), .int .i64 (Cod.num l).2.2]) ∧ w = w' := by
  have hlen := hv.length_le
  obtain ⟨A, cap, rfl⟩ := hv.len
  have HV := Lib.hid hv; clear hv
  obtain ⟨r, hr⟩ : ∃ r, Cod.num l = r := ⟨_, rfl⟩
  rw [hr]
  have HR := Lib.hid hr; clear hr
  go_enter Tryd.func80, Tryd.ntmps80
  go_wp2_with fail
  go_loop [5, 10] (fun n i => ∃ k m : Nat, k ≤ l.length ∧ i = .int .i64 k ∧ n = .int .u64 (m : Int) ∧ Hid (NumAt l k m) ∧ k ≤ 9) (fun _ i => l.length - (intOf i).toNat)
  case atStart => exact ⟨0, 0, Nat.zero_le _, rfl, rfl, Lib.hid (NumAt.zero l), by omega⟩
  case round =>
    obtain ⟨k, m, hk, rfl, rfl, HK, hk9⟩ := hrel
    by_cases hlt : k < l.length
    · obtain ⟨c, hc⟩ : ∃ c, l[k]? = some c := ⟨_, List.getElem?_eq_getElem hlt⟩
      obtain ⟨b, o, cap', hv, hb, c0⟩ := HV.out.at_ k c hc
      simp only [Value.slice.injEq, true_and] at hv
      obtain ⟨rfl, rfl⟩ := hv
      have HC := Lib.hid hc
      clear hc
      have hc256 : c.toNat < 256 := c.toNat_lt
      obtain ⟨z, hz⟩ : ∃ z, c.toNat = z := ⟨_, rfl⟩
      rw [hz] at c0 hc256
      have HZ := Lib.hid hz; clear hz
      have key : ((k = 9 ∧ 1 < z) ∨ (0 < k ∧ z = 0)) ∨ ¬ ((k = 9 ∧ 1 < z) ∨ (0 < k ∧ z = 0)) := Decidable.em _
      rcases key with hf | hf
      · obtain rfl := num_ret HR.out (HK.out.form HC.out HZ.out hf)
        have kinds : (((k : Int) == 9) = true ∧ (k == 9) = true ∧ decide (1 < (z : Int)) = true ∧ decide (1 < z) = true) ∨ (((k : Int) == 9) = false ∧ (k == 9) = false ∧ decide (0 < (k : Int)) = true ∧ decide (0 < k) = true ∧ ((z : Int) == 0) = true ∧ (z == 0) = true) ∨ (((k : Int) == 9) = true ∧ (k == 9) = true ∧ decide (1 < (z : Int)) = false ∧ decide (1 < z) = false ∧ decide (0 < (k : Int)) = true ∧ decide (0 < k) = true ∧ ((z : Int) == 0) = true ∧ (z == 0) = true) := by
          simp; omega
        clear hf
        rcases kinds with ⟨b0, b1, b2, b3⟩ | ⟨b0, b1, b2, b3, b4, b5⟩ | ⟨b0, b1, b2, b3, b4, b5, b6, b7⟩
        all_goals
          go_wp2_with fail
          go_ret3
          exact ⟨rfl, rfl⟩
      · have h9 : k = 9 → z ≤ 1 := fun h => by omega
        have hacc := acc_and z m k hc256 hk9 h9 HK.out.2.1 (Nat.lt_of_lt_of_le HK.out.2.1 (Nat.le_trans (pow128_le k hk9) (by omega)))
        clear h9
        have kinds : (((k : Int) == 9) = false ∧ (k == 9) = false ∧ decide (0 < (k : Int)) = false ∧ decide (0 < k) = false) ∨ (((k : Int) == 9) = false ∧ (k == 9) = false ∧ decide (0 < (k : Int)) = true ∧ decide (0 < k) = true ∧ ((z : Int) == 0) = false ∧ (z == 0) = false) ∨ (((k : Int) == 9) = true ∧ (k == 9) = true ∧ decide (1 < (z : Int)) = false ∧ decide (1 < z) = false ∧ decide (0 < (k : Int)) = true ∧ decide (0 < k) = true ∧ ((z : Int) == 0) = false ∧ (z == 0) = false) := by
          simp; omega
        by_cases hlt : z < 128
        · have hd := HK.out.done HC.out HZ.out hf hlt
          clear hf
          generalize m + z % 128 * 128 ^ k = m' at hacc hd
          obtain rfl := num_ret HR.out hd
          clear hd
          rcases kinds with ⟨b0, b1, b2, b3⟩ | ⟨b0, b1, b2, b3, b4, b5⟩ | ⟨b0, b1, b2, b3, b4, b5, b6, b7⟩
          all_goals
            go_wp2_with fail
            go_ret3
            exact ⟨rfl, rfl⟩
        · have HN := Lib.hid (HK.out.more HC.out HZ.out hf hlt)
          have h91 := HN.out.2.2
          clear hf
          generalize m + z % 128 * 128 ^ k = m' at hacc HN
          rcases kinds with ⟨b0, b1, b2, b3⟩ | ⟨b0, b1, b2, b3, b4, b5⟩ | ⟨b0, b1, b2, b3, b4, b5, b6, b7⟩
          all_goals
            go_wp2_with fail
            go_round
            case rel => exact ⟨k + 1, m', by omega, by go_num, rfl, HN, h91⟩
            case measure => simp [intOf]; omega
    · obtain rfl := num_ret HR.out (HK.out.end_ (by omega))
      go_wp2_with fail
      go_ret3
      exact ⟨rfl, rfl⟩
end Go.Proofs.YtpflmldmbpnllaaDoor
namespace Go.Proofs.YtpflmldmbpnllaaDoor
set_option maxRecDepth 100000
set_option maxHeartbeats 4000000
open Go Go.RowKit Go.Own Go.Shelf
theorem bytes_size : ∀ w, (Go.sizeOf (Tryd.prog.elem 39)).run Tryd.prog w = .ok 1 w := fun w => by kernel_rfl
end Go.Proofs.YtpflmldmbpnllaaDoor
namespace Go.Proofs.YtpflmldmbpnllaaDoor
set_option maxRecDepth 100000
set_option maxHeartbeats 4000000
open Go Go.RowKit Go.Own Go.Shelf
end Go.Proofs.YtpflmldmbpnllaaDoor
namespace Go.Proofs.YtpflmldmbpnllaaDoor
set_option maxRecDepth 100000
set_option maxHeartbeats 4000000
open Go Go.RowKit Go.Own Go.Shelf
end Go.Proofs.YtpflmldmbpnllaaDoor
namespace Go.Proofs.YtpflmldmbpnllaaDoor
set_option maxRecDepth 100000
set_option maxHeartbeats 4000000
open Go Go.RowKit Go.Own Go.Shelf
/-- A text cut behind each line feed. -/
def pcs : List UInt8 → List (List UInt8)
  | [] => [[]]
  | c :: r => if c = 10 then [c] :: pcs r else match pcs r with | [] => [[c]] | x :: xs => (c :: x) :: xs
theorem pcs_flat : ∀ (l : List UInt8), (pcs l).flatten = l
  | [] => rfl
  | c :: r => by
    have ih := pcs_flat r
    unfold pcs
    split
    · simp [ih]
    · cases h : pcs r with
      | nil => rw [h] at ih; simp at ih; simp [ih]
      | cons x xs => rw [h] at ih; simp at ih; simp [ih]
theorem pcs_some : ∀ (l : List UInt8) (j : Nat), feedAt l = some j → pcs l = l.take (j + 1) :: pcs (l.drop (j + 1))
  | [], j, h => by simp [feedAt] at h
  | c :: r, j, h => by
    unfold feedAt at h
    by_cases hc : c = 10
    · rw [if_pos hc] at h
      obtain rfl : 0 = j := by simpa using h
      rw [pcs, if_pos hc]; rfl
    · rw [if_neg hc] at h
      cases hf : feedAt r with
      | none => rw [hf] at h; simp at h
      | some m =>
        rw [hf] at h
        obtain rfl : m + 1 = j := by simpa using h
        rw [pcs, if_neg hc, pcs_some r m hf]; rfl
theorem pcs_none : ∀ (l : List UInt8), feedAt l = none → pcs l = [l]
  | [], _ => rfl
  | c :: r, h => by
    unfold feedAt at h
    by_cases hc : c = 10
    · rw [if_pos hc] at h; cases h
    · rw [if_neg hc] at h
      cases hf : feedAt r with
      | some m => rw [hf] at h; simp at h
      | none => rw [pcs, if_neg hc, pcs_none r hf]
theorem feedAt_lt : ∀ (l : List UInt8) (j : Nat), feedAt l = some j → j < l.length
  | [], j, h => by simp [feedAt] at h
  | c :: r, j, h => by
    unfold feedAt at h
    by_cases hc : c = 10
    · rw [if_pos hc] at h
      obtain rfl : 0 = j := by simpa using h
      simp
    · rw [if_neg hc] at h
      cases hf : feedAt r with
      | none => rw [hf] at h; simp at h
      | some m =>
        rw [hf] at h
        obtain rfl : m + 1 = j := by simpa using h
        have := feedAt_lt r m hf
        simp; omega
theorem index_feed : ∀ (l : List UInt8), Lib.indexByte l 10 = feedV l
  | [] => rfl
  | c :: r => by
    rw [Lib.indexByte, feedV, feedAt]
    by_cases hc : c = 10
    · subst hc; rfl
    · have : (c == 10) = false := by simpa using hc
      rw [this, if_neg hc, index_feed r, feedV]
      cases hf : feedAt r with
      | none => rfl
      | some m =>
        simp only [Option.map_some]
        have h2 : (((m : Nat) : Int) == -1) = false := by rw [beq_eq_false_iff_ne]; omega
        simp [h2]
/-- What is left of a text behind k pieces. -/
def rst (l : List UInt8) (k : Nat) : List UInt8 := ((pcs l).drop k).flatten
theorem rst_0 (l : List UInt8) : rst l 0 = l := pcs_flat l
theorem rst_pcs (l : List UInt8) (k : Nat) (h : k < (pcs l).length) : pcs (rst l k) = (pcs l).drop k := by
  induction k generalizing l with
  | zero => rw [rst_0]; rfl
  | succ k ih =>
    cases hf : feedAt l with
    | none => rw [pcs_none l hf] at h; simp at h
    | some j =>
      have e := pcs_some l j hf
      have : rst l (k + 1) = rst (l.drop (j + 1)) k := by unfold rst; rw [e]; rfl
      rw [this, ih _ (by rw [e] at h; simpa using h), e]; rfl
theorem rst_some {l : List UInt8} {k j : Nat} (h : k < (pcs l).length) (hf : feedAt (rst l k) = some j) : (pcs l)[k]? = some ((rst l k).take (j + 1)) ∧ (rst l k).drop (j + 1) = rst l (k + 1) ∧ k + 1 < (pcs l).length := by
  have e := rst_pcs l k h
  rw [pcs_some _ _ hf] at e
  have e1 : (pcs l)[k]? = some ((rst l k).take (j + 1)) := by
    have := congrArg (·[0]?) e
    simpa using this.symm
  have e2 : pcs ((rst l k).drop (j + 1)) = (pcs l).drop (k + 1) := by
    have := congrArg List.tail e
    simpa using this
  refine ⟨e1, ?_, ?_⟩
  · rw [← pcs_flat ((rst l k).drop (j + 1)), e2]; rfl
  · by_cases h2 : k + 1 < (pcs l).length
    · exact h2
    · rw [List.drop_eq_nil_of_le (show (pcs l).length ≤ k + 1 by omega)] at e2
      cases hx : feedAt ((rst l k).drop (j + 1)) with
      | none => rw [pcs_none _ hx] at e2; cases e2
      | some m => rw [pcs_some _ _ hx] at e2; cases e2
theorem rst_none {l : List UInt8} {k : Nat} (h : k < (pcs l).length) (hf : feedAt (rst l k) = none) : (pcs l)[k]? = some (rst l k) ∧ k + 1 = (pcs l).length := by
  have e := rst_pcs l k h
  rw [pcs_none _ hf] at e
  refine ⟨?_, ?_⟩
  · have := congrArg (·[0]?) e
    simpa using this.symm
  · have := congrArg List.length e
    simp at this; omega
theorem rst_le (l : List UInt8) (k : Nat) : (rst l k).length ≤ l.length := by
  have h : ((pcs l).take k).flatten ++ rst l k = l := by unfold rst; rw [← List.flatten_append, List.take_append_drop, pcs_flat]
  have := congrArg List.length h
  simp at this; omega
theorem pcs_pos (l : List UInt8) : 0 < (pcs l).length := by
  cases hf : feedAt l with
  | none => rw [pcs_none _ hf]; simp
  | some j => rw [pcs_some _ _ hf]; simp
theorem idx_some {l : List UInt8} {j : Nat} (w : World) (h : feedAt l = some j) : Calls Tryd.prog 95 #[.string ⟨l.toArray⟩, .string ⟨#[10]⟩] w fun e w' => e = .returned (.int .i64 ((j : Nat) : Int)) ∧ w = w' :=
  (Tryd.strings_Index_one ⟨l.toArray⟩ 10 w).mono fun e w' hh => ⟨by rw [hh.1, show Lib.indexByte (⟨l.toArray⟩ : ByteArray).data.toList 10 = feedV l from index_feed l, feedV, h], hh.2.symm⟩
theorem idx_none {l : List UInt8} (w : World) (h : feedAt l = none) : Calls Tryd.prog 95 #[.string ⟨l.toArray⟩, .string ⟨#[10]⟩] w fun e w' => e = .returned (.int .i64 (-1)) ∧ w = w' :=
  (Tryd.strings_Index_one ⟨l.toArray⟩ 10 w).mono fun e w' hh => ⟨by rw [hh.1, show Lib.indexByte (⟨l.toArray⟩ : ByteArray).data.toList 10 = feedV l from index_feed l, feedV, h], hh.2.symm⟩
/-- The iterator's own boxes ahead of round k. -/
def splS (bp bs bn : Nat) (l : List UInt8) (k : Nat) (W : World) : Prop := W.heap[bp]? = some (.cells #[.string ⟨#[10]⟩] 9 (0, 0)) ∧ W.heap[bs]? = some (.cells #[.string ⟨(rst l k).toArray⟩] 9 (0, 0)) ∧ W.heap[bn]? = some (.cells #[.int .i64 1] 3 (0, 0))
def sizAt (w : World) (g : Nat) : Nat := match w.cell? ⟨g, 0, none⟩ with | some (.string s) => s.size | _ => 0
theorem sizAt_of {w : World} {g : Nat} {l : List UInt8} {T : TypeId} (h : w.heap[g]? = some (.cells #[.string ⟨l.toArray⟩] T (0, 0))) : sizAt w g = l.length := by
  have : w.cell? ⟨g, 0, none⟩ = some (.string ⟨l.toArray⟩) := cell_of_row _ _ _ _ _ _ h
  unfold sizAt; rw [this]; simp [ByteArray.size]
theorem feed_case (l : List UInt8) (k : Nat) : feedAt (rst l k) = none ∨ ∃ j, feedAt (rst l k) = some j := by
  cases feedAt (rst l k) with | none => exact .inl rfl | some j => exact .inr ⟨j, rfl⟩
noncomputable def qc41_0 (n : Nat) : Code := partOf Tryd.f93 n
noncomputable abbrev qo41_0 (n k : Nat) : Oper := (opsAt (qc41_0 n)).getD k default
theorem split_seq (bp bs bn : Nat) (l0 : List UInt8) (hbps : bp ≠ bs) (hbns : bn ≠ bs) (hl0 : l0.length ≤ 100000000) (fz : Nat) :
    SeqOwn Fence.wide fz Tryd.prog 93 #[.pointer (some ⟨bp, 0, none⟩), .pointer (some ⟨bs, 0, none⟩), .pointer (some ⟨bn, 0, none⟩)] (fun x : List UInt8 => #[.string ⟨x.toArray⟩]) (pcs l0) (One bs) (splS bp bs bn l0) := by
  intro l J Jx W0 hJ hJx hY h0 hS0
  obtain ⟨hp0, hs0, hn0⟩ := hS0
  refine syW_enter (qc41_0 1) ⟨#[.func (.yield l) #[] #[], .pointer (some ⟨bp, 0, none⟩), .pointer (some ⟨bs, 0, none⟩), .pointer (some ⟨bn, 0, none⟩), ud, ud, ud, ud, ud, ud, ud, ud, ud, ud, ud, ud, ud, ud, ud, ud, ud, ud, ud, ud, ud, ud, ud, ud, ud, ud, ud, ud, ud, ud, ud, ud, ud, ud, ud, ud, ud, ud, ud, ud, ud, ud, ud, ud, ud, ud, ud, ud], []⟩ Tryd.func93 (by kernel_rfl) (by kernel_rfl) <| syI_seq (qc41_0 2) (qc41_0 3) (by kernel_rfl) <| syI_seq (qc41_0 4) (qc41_0 5) (by kernel_rfl) <| syW_reg <| rg_plain 0 (opsAt (qc41_0 4)) [0, 1, 2] (by kernel_rfl) (by kernel_rfl) <| ppq (.string ⟨#[10]⟩) (ldk 9 bp 0 hp0) <| ppq (.int .i64 1) (exec_len_str (.tmp 9) 9 (by kernel_rfl) Tryd.underlying9 ⟨#[10]⟩ (by kernel_rfl)) <| pkq (.bool false) <| et_ <| syI_no (.tmp 11) (qc41_0 10) (qc41_0 11) (by kernel_rfl) (by kernel_rfl) <| syI_skip (by kernel_rfl) <| then_n <| syI_seq (qc41_0 6) (qc41_0 7) (by kernel_rfl) <| syI_block 2 (qc41_0 12) (by kernel_rfl) ?_
  refine syI_loop (qc41_0 24) (fun a V => ∃ (k : Nat) (u7 u8 u29 u30 u31 u32 u33 u34 u35 u36 u37 u38 u39 u40 u41 u42 u43 u44 u45 u46 u47 u48 : Value), (a = ⟨#[.func (.yield l) #[] #[], pT bp 0, pT bs 0, pT bn 0, ud, ud, ud, u7, u8, .string ⟨#[10]⟩, .int .i64 1, .bool false, ud, ud, ud, ud, ud, ud, ud, ud, ud, ud, ud, ud, ud, ud, ud, ud, ud, u29, u30, u31, u32, u33, u34, u35, u36, u37, u38, u39, u40, u41, u42, u43, u44, u45, u46, u47, u48, ud, ud, ud], []⟩) ∧ (k < (pcs l0).length) ∧ (J k V) ∧ (V.heap[bp]? = some (.cells (#[.string ⟨#[10]⟩]) 9 (0, 0))) ∧ (V.heap[bs]? = some (.cells (#[.string ⟨(rst l0 k).toArray⟩]) 9 (0, 0))) ∧ (V.heap[bn]? = some (.cells (#[.int .i64 1]) 3 (0, 0)))) (fun a V => sizAt V bs) (by kernel_rfl) ?_ ?_
  · exact ⟨0, undef, undef, undef, undef, undef, undef, undef, undef, undef, undef, undef, undef, undef, undef, undef, undef, undef, undef, undef, undef, undef, undef, by kernel_rfl, pcs_pos l0, h0, hp0, hs0, hn0⟩
  · rintro a V1 ⟨k, u7, u8, u29, u30, u31, u32, u33, u34, u35, u36, u37, u38, u39, u40, u41, u42, u43, u44, u45, u46, u47, u48, rfl, hk, h2, h3, h4, h5⟩
    rcases feed_case l0 k with hf | ⟨j, hf⟩
    · obtain ⟨q1, q3⟩ := rst_none hk hf
      refine syI_block 3 (qc41_0 48) (by kernel_rfl) <| syI_seq (qc41_0 96) (qc41_0 97) (by kernel_rfl) <| syW_reg <| rg_plain 5 (opsAt (qc41_0 96)) [0, 1, 2, 3] (by kernel_rfl) (by kernel_rfl) <| ppq (.string ⟨(rst l0 k).toArray⟩) (ldk 9 bs 0 h4) <| ppq (.string ⟨#[10]⟩) (ldk 9 bp 0 h3) ?_
      refine pcq 95 #[.string ⟨(rst l0 k).toArray⟩, .string ⟨#[10]⟩] Tryd.func95 ((idx_none _ hf).mono ?_)
      rintro e w1 ⟨rfl, rfl⟩
      refine ⟨_, rfl, ?_⟩
      refine pkq (.int .i64 (-1)) <| et_ <| syI_seq (qc41_0 194) (qc41_0 195) (by kernel_rfl) <| syI_seq (qc41_0 388) (qc41_0 389) (by kernel_rfl) <| syW_reg <| rg_plain 6 (opsAt (qc41_0 388)) [0, 1] (by kernel_rfl) (by kernel_rfl) <| pkq (.int .i64 (-1)) <| ppq (.bool true) (dct (((-1) : Int) < ((0) : Int)) (by omega)) <| et_ <| syI_yes (.tmp 33) (qc41_0 778) (qc41_0 779) (by kernel_rfl) (by kernel_rfl) <| syI_exit 2 (by kernel_rfl) <| then_e <| blk_p (by decide) <| then_e ?_
      refine blk_e <| then_n <| rg_yield 10 (opsAt (qc41_0 7)) [0, 1, 2] (by kernel_rfl) (by kernel_rfl) <| pi_run (qo41_0 7 0) (.func (.yield l) #[] #[]) (w' := V1) (by kernel_rfl) (by kernel_rfl) (by kernel_rfl) <| pi_run (qo41_0 7 1) (.string ⟨(rst l0 k).toArray⟩) (w' := V1) (by kernel_rfl) (by kernel_rfl) (ldk 9 bs 0 h4) ?_
      refine pi_yield (qo41_0 7 2) (.tmp 49) l #[.string ⟨(rst l0 k).toArray⟩] (by kernel_rfl) (by kernel_rfl) (by kernel_rfl) (by kernel_rfl) (by kernel_rfl) ((hY k (rst l0 k) _ q1 h2 ⟨h3, h4, h5⟩).mono ?_)
      rintro e V7 (⟨rfl, hj3, hp3, hs3, hn3⟩ | ⟨rfl, hx3⟩)
      · refine ⟨_, rfl, ?_⟩
        refine pi_end <| sy_fall (.tuple #[]) rfl (by kernel_rfl) ?_
        exact ⟨⟨_, rfl⟩, .inl (by have hz := hj3; rw [q3] at hz; exact hz)⟩
      · refine ⟨_, rfl, ?_⟩
        refine pi_end <| sy_fall (.tuple #[]) rfl (by kernel_rfl) ?_
        exact ⟨⟨_, rfl⟩, .inr hx3⟩
    · obtain ⟨q1, q2, q3⟩ := rst_some hk hf
      have hjl := feedAt_lt _ _ hf
      have hrl := rst_le l0 k
      obtain ⟨pc, hpc⟩ : ∃ x, (rst l0 k).take (j + 1) = x := ⟨_, rfl⟩
      refine syI_block 3 (qc41_0 48) (by kernel_rfl) <| syI_seq (qc41_0 96) (qc41_0 97) (by kernel_rfl) <| syW_reg <| rg_plain 5 (opsAt (qc41_0 96)) [0, 1, 2, 3] (by kernel_rfl) (by kernel_rfl) <| ppq (.string ⟨(rst l0 k).toArray⟩) (ldk 9 bs 0 h4) <| ppq (.string ⟨#[10]⟩) (ldk 9 bp 0 h3) ?_
      refine pcq 95 #[.string ⟨(rst l0 k).toArray⟩, .string ⟨#[10]⟩] Tryd.func95 ((idx_some _ hf).mono ?_)
      rintro e w1 ⟨rfl, rfl⟩
      refine ⟨_, rfl, ?_⟩
      refine pkq (iN j) <| et_ <| syI_seq (qc41_0 194) (qc41_0 195) (by kernel_rfl) <| syI_seq (qc41_0 388) (qc41_0 389) (by kernel_rfl) <| syW_reg <| rg_plain 6 (opsAt (qc41_0 388)) [0, 1] (by kernel_rfl) (by kernel_rfl) <| pkq (iN j) <| ppq (.bool false) (dcf ((((j : Nat) : Int)) < ((0) : Int)) (by omega)) <| et_ <| syI_no (.tmp 33) (qc41_0 778) (qc41_0 779) (by kernel_rfl) (by kernel_rfl) <| syI_skip (by kernel_rfl) <| then_n <| syI_seq (qc41_0 390) (qc41_0 391) (by kernel_rfl) <| syW_reg ?_
      refine rg_plain 7 (opsAt (qc41_0 390)) [0, 1, 2, 3, 4, 5] (by kernel_rfl) (by kernel_rfl) <| ppq (.string ⟨(rst l0 k).toArray⟩) (ldk 9 bs 0 h4) <| pkq (iN j) <| ppq (.int .i64 1) (ldk 3 bn 0 h5) <| ppq (iN (j + 1)) (exec_cast (congrArg (Value.int .i64) (wrapN (j + 1) (by omega))) (by kernel_rfl)) <| ppq (.string ⟨pc.toArray⟩) (exec_cast (congrArg (fun l : List UInt8 => Value.string ⟨l.toArray⟩) hpc) (exec_slice_to 9 (.tmp 34) (.tmp 37) (by kernel_rfl) (rst l0 k) (by kernel_rfl) .i64 (j + 1) (by kernel_rfl) Tryd.underlying9 (by omega))) <| pkq (.string ⟨pc.toArray⟩) <| et_ <| syI_seq (qc41_0 782) (qc41_0 783) (by kernel_rfl) <| syI_seq (qc41_0 1564) (qc41_0 1565) (by kernel_rfl) <| rg_yield 8 (opsAt (qc41_0 1564)) [0, 1, 2, 3] (by kernel_rfl) (by kernel_rfl) <| pi_run (qo41_0 1564 0) (.func (.yield l) #[] #[]) (w' := V1) (by kernel_rfl) (by kernel_rfl) (by kernel_rfl) <| pi_run (qo41_0 1564 1) (.string ⟨pc.toArray⟩) (w' := V1) (by kernel_rfl) (by kernel_rfl) (by kernel_rfl) ?_
      refine pi_yield (qo41_0 1564 2) (.tmp 39) l #[.string ⟨pc.toArray⟩] (by kernel_rfl) (by kernel_rfl) (by kernel_rfl) (by kernel_rfl) (by kernel_rfl) ((hY k pc _ (hpc ▸ q1) h2 ⟨h3, h4, h5⟩).mono ?_)
      rintro e V8 (⟨rfl, hj3, hp3, hs3, hn3⟩ | ⟨rfl, hx3⟩)
      · refine ⟨_, rfl, ?_⟩
        refine pi_run (qo41_0 1564 3) (.bool false) (w' := V8) (by kernel_rfl) (by kernel_rfl) (by kernel_rfl) <| pi_end <| then_n <| syI_no (.tmp 42) (qc41_0 3130) (qc41_0 3131) (by kernel_rfl) (by kernel_rfl) <| syI_skip (by kernel_rfl) <| then_n <| syW_reg <| rg_plain 9 (opsAt (qc41_0 783)) [0, 1, 2, 3, 4, 5, 6] (by kernel_rfl) (by kernel_rfl) <| ppq (.string ⟨(rst l0 k).toArray⟩) (ldk 9 bs 0 hs3) <| pkq (iN j) <| ppq (.string ⟨#[10]⟩) (ldk 9 bp 0 hp3) <| ppq (.int .i64 1) (exec_len_str (.tmp 45) 9 (by kernel_rfl) Tryd.underlying9 ⟨#[10]⟩ (by kernel_rfl)) <| ppq (iN (j + 1)) (exec_cast (congrArg (Value.int .i64) (wrapN (j + 1) (by omega))) (by kernel_rfl)) <| ppq (.string ⟨(rst l0 (k + 1)).toArray⟩) (exec_cast (congrArg (fun l : List UInt8 => Value.string ⟨l.toArray⟩) q2) (exec_slice_from 9 (.tmp 43) (.tmp 47) (by kernel_rfl) (rst l0 k) (by kernel_rfl) .i64 (j + 1) (by kernel_rfl) Tryd.underlying9 (by omega))) ?_
        refine pce 9 bs 0 (.string ⟨(rst l0 (k + 1)).toArray⟩) (#[.string ⟨(rst l0 (k + 1)).toArray⟩]) hs3 (rc (hs3) (by kernel_rfl)) (by kernel_rfl) (u := .string ⟨(rst l0 k).toArray⟩) fun V9 h10 kV9 => ?_
        have h11 : J ((k + 1)) V9 := (hJ _ _ _ hj3 kV9)
        have h12 := kV9.bO hp3
        have h13 := kV9.bO hn3
        refine ps_end <| blk_n <| then_n ?_
        refine ⟨⟨k + 1, (iN j), (.string ⟨pc.toArray⟩), (.string ⟨(rst l0 k).toArray⟩), (.string ⟨#[10]⟩), (iN j), (iN j), (.bool false), (.string ⟨(rst l0 k).toArray⟩), (iN j), (.int .i64 1), (iN (j + 1)), (.string ⟨pc.toArray⟩), (.func (.yield l) #[] #[]), (.string ⟨pc.toArray⟩), (.bool true), (.bool false), (.string ⟨(rst l0 k).toArray⟩), (iN j), (.string ⟨#[10]⟩), (.int .i64 1), (iN (j + 1)), (.string ⟨(rst l0 (k + 1)).toArray⟩), by kernel_rfl, q3, h11, h12, h10, h13⟩, ?_⟩
        show sizAt V9 bs < sizAt V1 bs; rw [sizAt_of h10, sizAt_of h4, ← q2, List.length_drop]; omega
      · refine ⟨_, rfl, ?_⟩
        refine pi_run (qo41_0 1564 3) (.bool true) (w' := V8) (by kernel_rfl) (by kernel_rfl) (by kernel_rfl) <| pi_end <| then_n <| syI_yes (.tmp 42) (qc41_0 3130) (qc41_0 3131) (by kernel_rfl) (by kernel_rfl) <| syI_ret (by kernel_rfl) <| then_r <| blk_r <| then_r <| blk_r <| then_r <| so_ (.tuple #[]) ?_
        exact ⟨⟨_, rfl⟩, .inr hx3⟩
end Go.Proofs.YtpflmldmbpnllaaDoor
namespace Go.Proofs.YtpflmldmbpnllaaDoor
set_option maxRecDepth 100000
set_option maxHeartbeats 4000000
open Go Go.RowKit Go.Own Go.Shelf
theorem cutS_no (x : List UInt8) (w : World) (hl : x.length ≤ 100000000) (h : Lib.hasSuffix x [10] = false) : Calls Tryd.prog 50 #[.string ⟨x.toArray⟩, .string ⟨#[10]⟩] w fun e w' => e = .returned (.tuple #[.string ⟨(Lib.trimSuffix x [10]).toArray⟩, .bool false]) ∧ w = w' := by
  have := cutSuffix_ok x [10] w hl
  rw [h] at this; exact this
theorem cutS_yes (x a : List UInt8) (w : World) (hl : x.length ≤ 100000000) (hx : x = a ++ [10]) : Calls Tryd.prog 50 #[.string ⟨x.toArray⟩, .string ⟨#[10]⟩] w fun e w' => e = .returned (.tuple #[.string ⟨a.toArray⟩, .bool true]) ∧ w = w' := by
  have := cutSuffix_ok x [10] w hl
  have h : Lib.hasSuffix x [10] = true := by
    unfold Lib.hasSuffix
    rw [List.isSuffixOf_iff_suffix, hx]; exact List.suffix_append _ _
  have h2 : Lib.trimSuffix x [10] = a := by
    unfold Lib.trimSuffix; rw [if_pos h, hx]; simp
  rw [h, h2] at this; exact this
theorem preads_0 (vs : List Int) (i b k : Nat) (l : List UInt8) (w : World) (hv : vs.length = i) (hi : i < 11) (hbox : w.cell? ⟨k, 0, none⟩ = some (.pointer (some ⟨b, i, none⟩))) (hb : w.heap[b]? = some (.cells (parOfL vs).cells 24 (0, 0))) (hkb : k ≠ b) (he : rerr i l = 0) :
    Calls Tryd.prog 51 #[.agg (fieldC i k).toArray, .string ⟨l.toArray⟩] w (fun e w' => e = .returned (.int .i64 0) ∧ w'.heap[b]? = some (.cells (parOfL (vs ++ [((pln i l).1 : Int)])).cells 24 (0, 0)) ∧ Keeps (One b) w w') := he ▸ preads_ok vs i b k l w hv hi hbox hb hkb he
noncomputable def qc42_1 (n : Nat) : Code := partOf Tryd.f71 n
theorem sSplitSeq_ok (l : List UInt8) (w : World) :
    Calls Tryd.prog 71 #[.string ⟨l.toArray⟩, .string ⟨#[10]⟩, .int .i64 1] w (fun e w' => ∃ bp bs bn, e = .returned (.func (.func 93) #[] #[.pointer (some ⟨bp, 0, none⟩), .pointer (some ⟨bs, 0, none⟩), .pointer (some ⟨bn, 0, none⟩)]) ∧ splS bp bs bn l 0 w' ∧ w.heap.size ≤ bp ∧ w.heap.size ≤ bs ∧ w.heap.size ≤ bn ∧ bp ≠ bs ∧ bn ≠ bs ∧ bp ≠ bn ∧ Keeps Nob w w') := by
  have K0 : Keeps Nob w w := Keeps.refl _ _
  refine sy_enter (qc42_1 1) ⟨#[.string ⟨l.toArray⟩, .string ⟨#[10]⟩, .int .i64 1, ud, ud, ud, ud, ud], []⟩ Tryd.func71 (by kernel_rfl) (by kernel_rfl) <| qr_ [0, 1, 2, 3] <| pbx 9 (#[.string ⟨l.toArray⟩]) (.string ⟨l.toArray⟩) fun V1 bs ebs h2 kV1 => ?_
  have n3 : w.heap.size ≤ bs := ebs ▸ K0.size
  have K4 := K0.nn kV1
  have z5 := kV1.size
  refine pbx 9 (#[.string ⟨#[10]⟩]) (.string ⟨#[10]⟩) fun V6 bp ebp h7 kV6 => ?_
  have n8 : bs < bp := ebp ▸ lt_of_block h2
  have n9 : w.heap.size ≤ bp := ebp ▸ K4.size
  have h10 := kV6.bk h2
  have K11 := K4.nn kV6
  have z12 := kV6.size
  refine pbx 3 (#[.int .i64 1]) (.int .i64 1) fun V13 bn ebn h14 kV13 => ?_
  have n15 : bs < bn := ebn ▸ lt_of_block h10
  have n16 : bp < bn := ebn ▸ lt_of_block h7
  have n17 : w.heap.size ≤ bn := ebn ▸ K11.size
  have h18 := kV13.bk h10
  have h19 := kV13.bk h7
  have K20 := K11.nn kV13
  have z21 := kV13.size
  refine pkq (.nilFunc) <| eqr_ [0, 1] <| pkq (.func (.func 93) #[] #[pT bp 0, pT bs 0, pT bn 0]) <| pkq (.func (.func 93) #[] #[pT bp 0, pT bs 0, pT bn 0]) <| eu_ <| so_ (.func (.func 93) #[] #[.pointer (some ⟨bp, 0, none⟩), .pointer (some ⟨bs, 0, none⟩), .pointer (some ⟨bn, 0, none⟩)]) ?_
  exact ⟨bp, bs, bn, rfl, ⟨h19, by rw [rst_0]; exact h18, h14⟩, by omega, by omega, by omega, by omega, by omega, by omega, K20⟩
noncomputable def qc42_0 (n : Nat) : Code := partOf Tryd.f49 n
theorem split_ok (l : List UInt8) (w : World) :
    Calls Tryd.prog 49 #[.string ⟨l.toArray⟩, .string ⟨#[10]⟩] w (fun e w' => ∃ bp bs bn, e = .returned (.func (.func 93) #[] #[.pointer (some ⟨bp, 0, none⟩), .pointer (some ⟨bs, 0, none⟩), .pointer (some ⟨bn, 0, none⟩)]) ∧ splS bp bs bn l 0 w' ∧ w.heap.size ≤ bp ∧ w.heap.size ≤ bs ∧ w.heap.size ≤ bn ∧ bp ≠ bs ∧ bn ≠ bs ∧ bp ≠ bn ∧ Keeps Nob w w') := by
  have K0 : Keeps Nob w w := Keeps.refl _ _
  refine sy_enter (qc42_0 1) ⟨#[.string ⟨l.toArray⟩, .string ⟨#[10]⟩, ud, ud, ud, ud, ud, ud, ud, ud], []⟩ Tryd.func49 (by kernel_rfl) (by kernel_rfl) <| qr_ [0] <| pkq (.nilFunc) <| eqr_ [0, 1, 2, 3, 4, 5] <| pkq (.string ⟨l.toArray⟩) <| pkq (.string ⟨#[10]⟩) <| pkq (.string ⟨#[10]⟩) <| ppq (.int .i64 1) (exec_len_str (.tmp 7) 9 (by kernel_rfl) Tryd.underlying9 ⟨#[10]⟩ (by kernel_rfl)) ?_
  refine pcq 71 #[.string ⟨l.toArray⟩, .string ⟨#[10]⟩, .int .i64 1] Tryd.func71 ((sSplitSeq_ok l _).mono ?_)
  rintro e V1 ⟨bp, bs, bn, rfl, hS, hw1, hw2, hw3, hd1, hd2, hd3, kV1⟩
  refine ⟨_, rfl, ?_⟩
  have K2 := K0.nn kV1
  have z3 := kV1.size
  refine pkq (.func (.func 93) #[] #[pT bp 0, pT bs 0, pT bn 0]) <| eu_ <| so_ (.func (.func 93) #[] #[.pointer (some ⟨bp, 0, none⟩), .pointer (some ⟨bs, 0, none⟩), .pointer (some ⟨bn, 0, none⟩)]) ?_
  exact ⟨bp, bs, bn, rfl, hS, by omega, by omega, by omega, hd1, hd2, hd3, K2⟩
noncomputable def part_pParse (n : Nat) : Code := partOf Tryd.f26 n
theorem pParse_end {l N : Nat} {u0 u1 u8 u9 u10 u11 u12 u13 u14 u15 u16 u17 u18 u19 u20 u21 u22 u23 u24 u25 u26 u27 u28 u29 u30 u31 u32 u33 u34 u35 u36 u37 u38 u39 u40 u41 u42 u43 u44 u45 u46 u47 u48 u49 u50 u51 u52 u53 u54 u55 u56 u57 u58 u59 u60 u61 u62 u63 u64 u65 u66 u67 u68 u69 : Value} (ga gp g gall r1 r2 k : Nat) (ks : Nat → Nat) (vs : List Int) (x : List UInt8) (hxl : x.length ≤ 100000000) (hv : vs.length = k) (w : World) (Q : Exit → Act → World → Prop) (hL : ¬ LetsOut Q) (hds : ga ≠ gp ∧ ga ≠ r1 ∧ ga ≠ r2 ∧ gp ≠ r1 ∧ gp ≠ r2 ∧ r1 ≠ r2 ∧ g ≠ gp ∧ g ≠ r1 ∧ g ≠ r2 ∧ g ≠ ga ∧ gall ≠ gp ∧ gall ≠ r1 ∧ gall ≠ r2 ∧ gall ≠ ga) (hks : ∀ i, i < 11 → ks i ≠ gp ∧ ks i ≠ r1 ∧ ks i ≠ r2 ∧ ks i ≠ ga) (hga : w.heap[ga]? = some (.cells #[.int .i64 ((k : Nat) : Int)] 3 (0, 0))) (hgp : w.heap[gp]? = some (.cells (parOfL vs).cells 24 (0, 0))) (hgl : w.heap[gall]? = some (.cells #[.slice (some ⟨g, 0, none⟩) 11 11] 61 (0, 0))) (h10 : w.heap[r1]? = some (.cells parZ.cells 24 (0, 0))) (h20 : w.heap[r2]? = some (.cells #[.int .i64 0, .int .i64 0] 46 (0, 0))) (hF : FieldsAt w g gp ks) (hk : k = 11) (hx0 : x = []) (hE : ∀ (a : Act), Q (.exit 0) a w) :
    (part_pParse 501).wpIn (Fence.wide.inRound l) N Tryd.prog Q ⟨#[u0, u1, .pointer (some ⟨r1, 0, none⟩), .pointer (some ⟨r2, 0, none⟩), .pointer (some ⟨gp, 0, none⟩), .pointer (some ⟨gall, 0, none⟩), .pointer (some ⟨ga, 0, none⟩), .string ⟨x.toArray⟩, u8, u9, u10, u11, u12, u13, u14, u15, u16, u17, u18, u19, u20, u21, u22, u23, u24, u25, u26, u27, u28, u29, u30, u31, u32, u33, u34, u35, u36, u37, u38, u39, u40, u41, u42, u43, u44, u45, u46, u47, u48, u49, u50, u51, u52, u53, u54, u55, u56, u57, u58, u59, u60, u61, u62, u63, u64, u65, u66, u67, u68, u69], []⟩ w := by
  have K0 : Keeps ((fun j => j = r1 ∨ j = r2 ∨ j = gp ∨ j = ga)) w w := Keeps.refl _ _
  refine syI_block 1 (part_pParse 1002) (by kernel_rfl) <| syI_seq (part_pParse 2004) (part_pParse 2005) (by kernel_rfl) <| syI_seq (part_pParse 4008) (part_pParse 4009) (by kernel_rfl) <| syI_reg (by kernel_rfl) (fun ⟨a, w, h⟩ => hL ⟨a, w, h⟩) <| rg_plain 6 (opsAt (part_pParse 4008)) [0, 1, 2, 3] (by kernel_rfl) (by kernel_rfl) <| ppq (iN k) (ldk 3 ga 0 hga) <| ppq (.slice (some ⟨g, 0, none⟩) 11 11) (ldk 61 gall 0 hgl) <| ppq (.int .i64 11) (exec_len (.tmp 16) 61 _ (by kernel_rfl) Tryd.underlying61 (some ⟨g, 0, none⟩) 11 11 (by kernel_rfl)) <| ppq (.bool true) (eqt (((k : Nat) : Int)) ((11) : Int) (by omega)) <| ps_end <| sy_a ⟨#[u0, u1, pT r1 0, pT r2 0, pT gp 0, pT gall 0, pT ga 0, .string ⟨x.toArray⟩, u8, u9, u10, u11, u12, u13, u14, iN k, .slice (some ⟨g, 0, none⟩) 11 11, .int .i64 11, .bool true, u19, u20, u21, u22, u23, u24, u25, u26, u27, u28, u29, u30, u31, u32, u33, u34, u35, u36, u37, u38, u39, u40, u41, u42, u43, u44, u45, u46, u47, u48, u49, u50, u51, u52, u53, u54, u55, u56, u57, u58, u59, u60, u61, u62, u63, u64, u65, u66, u67, u68, u69], []⟩ <| then_n <| syI_yes (.tmp 18) (part_pParse 8018) (part_pParse 8019) (by kernel_rfl) (by kernel_rfl) <| syI_seq (part_pParse 16036) (part_pParse 16037) (by kernel_rfl) ?_
  refine syI_seq (part_pParse 32072) (part_pParse 32073) (by kernel_rfl) <| syI_reg (by kernel_rfl) (fun ⟨a, w, h⟩ => hL ⟨a, w, h⟩) <| rg_plain 7 (opsAt (part_pParse 32072)) [0, 1] (by kernel_rfl) (by kernel_rfl) <| pkq (.string ⟨x.toArray⟩) <| ppq (.bool false) (exec_binop .neq 9 9 (.tmp 19) (.const (.string ⟨#[]⟩)) (by kernel_rfl) _ _ _ (by kernel_rfl) (by kernel_rfl) (by kernel_rfl) (neq_l (a := x) (b := []) _ (by rw [hx0]; rfl))) <| ps_end <| sy_a ⟨#[u0, u1, pT r1 0, pT r2 0, pT gp 0, pT gall 0, pT ga 0, .string ⟨x.toArray⟩, u8, u9, u10, u11, u12, u13, u14, iN k, .slice (some ⟨g, 0, none⟩) 11 11, .int .i64 11, .bool true, .string ⟨x.toArray⟩, .bool false, u21, u22, u23, u24, u25, u26, u27, u28, u29, u30, u31, u32, u33, u34, u35, u36, u37, u38, u39, u40, u41, u42, u43, u44, u45, u46, u47, u48, u49, u50, u51, u52, u53, u54, u55, u56, u57, u58, u59, u60, u61, u62, u63, u64, u65, u66, u67, u68, u69], []⟩ <| then_n <| syI_no (.tmp 20) (part_pParse 64146) (part_pParse 64147) (by kernel_rfl) (by kernel_rfl) <| syI_skip (by kernel_rfl) <| then_n <| syI_exit 0 (by kernel_rfl) <| then_e <| blk_p (by decide) ?_
  exact hE _
theorem pParse_more {l N : Nat} {u0 u1 u8 u9 u10 u11 u12 u13 u14 u15 u16 u17 u18 u19 u20 u21 u22 u23 u24 u25 u26 u27 u28 u29 u30 u31 u32 u33 u34 u35 u36 u37 u38 u39 u40 u41 u42 u43 u44 u45 u46 u47 u48 u49 u50 u51 u52 u53 u54 u55 u56 u57 u58 u59 u60 u61 u62 u63 u64 u65 u66 u67 u68 u69 : Value} (ga gp g gall r1 r2 k : Nat) (ks : Nat → Nat) (vs : List Int) (x : List UInt8) (hxl : x.length ≤ 100000000) (hv : vs.length = k) (w : World) (Q : Exit → Act → World → Prop) (hL : ¬ LetsOut Q) (hds : ga ≠ gp ∧ ga ≠ r1 ∧ ga ≠ r2 ∧ gp ≠ r1 ∧ gp ≠ r2 ∧ r1 ≠ r2 ∧ g ≠ gp ∧ g ≠ r1 ∧ g ≠ r2 ∧ g ≠ ga ∧ gall ≠ gp ∧ gall ≠ r1 ∧ gall ≠ r2 ∧ gall ≠ ga) (hks : ∀ i, i < 11 → ks i ≠ gp ∧ ks i ≠ r1 ∧ ks i ≠ r2 ∧ ks i ≠ ga) (hga : w.heap[ga]? = some (.cells #[.int .i64 ((k : Nat) : Int)] 3 (0, 0))) (hgp : w.heap[gp]? = some (.cells (parOfL vs).cells 24 (0, 0))) (hgl : w.heap[gall]? = some (.cells #[.slice (some ⟨g, 0, none⟩) 11 11] 61 (0, 0))) (h10 : w.heap[r1]? = some (.cells parZ.cells 24 (0, 0))) (h20 : w.heap[r2]? = some (.cells #[.int .i64 0, .int .i64 0] 46 (0, 0))) (hF : FieldsAt w g gp ks) (hk : k = 11) (hx0 : x ≠ []) (hR : ∀ (c : Act) (W : World), W.heap[r1]? = some (.cells parZ.cells 24 (0, 0)) → W.heap[r2]? = some (.cells #[.int .i64 4, .int .i64 ((k : Nat) : Int)] 46 (0, 0)) → Keeps (fun j => j = r1 ∨ j = r2 ∨ j = gp ∨ j = ga) w W → Q .ret c W) :
    (part_pParse 501).wpIn (Fence.wide.inRound l) N Tryd.prog Q ⟨#[u0, u1, .pointer (some ⟨r1, 0, none⟩), .pointer (some ⟨r2, 0, none⟩), .pointer (some ⟨gp, 0, none⟩), .pointer (some ⟨gall, 0, none⟩), .pointer (some ⟨ga, 0, none⟩), .string ⟨x.toArray⟩, u8, u9, u10, u11, u12, u13, u14, u15, u16, u17, u18, u19, u20, u21, u22, u23, u24, u25, u26, u27, u28, u29, u30, u31, u32, u33, u34, u35, u36, u37, u38, u39, u40, u41, u42, u43, u44, u45, u46, u47, u48, u49, u50, u51, u52, u53, u54, u55, u56, u57, u58, u59, u60, u61, u62, u63, u64, u65, u66, u67, u68, u69], []⟩ w := by
  have K0 : Keeps ((fun j => j = r1 ∨ j = r2 ∨ j = gp ∨ j = ga)) w w := Keeps.refl _ _
  refine syI_block 1 (part_pParse 1002) (by kernel_rfl) <| syI_seq (part_pParse 2004) (part_pParse 2005) (by kernel_rfl) <| syI_seq (part_pParse 4008) (part_pParse 4009) (by kernel_rfl) <| syI_reg (by kernel_rfl) (fun ⟨a, w, h⟩ => hL ⟨a, w, h⟩) <| rg_plain 6 (opsAt (part_pParse 4008)) [0, 1, 2, 3] (by kernel_rfl) (by kernel_rfl) <| ppq (iN k) (ldk 3 ga 0 hga) <| ppq (.slice (some ⟨g, 0, none⟩) 11 11) (ldk 61 gall 0 hgl) <| ppq (.int .i64 11) (exec_len (.tmp 16) 61 _ (by kernel_rfl) Tryd.underlying61 (some ⟨g, 0, none⟩) 11 11 (by kernel_rfl)) <| ppq (.bool true) (eqt (((k : Nat) : Int)) ((11) : Int) (by omega)) <| ps_end <| sy_a ⟨#[u0, u1, pT r1 0, pT r2 0, pT gp 0, pT gall 0, pT ga 0, .string ⟨x.toArray⟩, u8, u9, u10, u11, u12, u13, u14, iN k, .slice (some ⟨g, 0, none⟩) 11 11, .int .i64 11, .bool true, u19, u20, u21, u22, u23, u24, u25, u26, u27, u28, u29, u30, u31, u32, u33, u34, u35, u36, u37, u38, u39, u40, u41, u42, u43, u44, u45, u46, u47, u48, u49, u50, u51, u52, u53, u54, u55, u56, u57, u58, u59, u60, u61, u62, u63, u64, u65, u66, u67, u68, u69], []⟩ <| then_n <| syI_yes (.tmp 18) (part_pParse 8018) (part_pParse 8019) (by kernel_rfl) (by kernel_rfl) <| syI_seq (part_pParse 16036) (part_pParse 16037) (by kernel_rfl) ?_
  refine syI_seq (part_pParse 32072) (part_pParse 32073) (by kernel_rfl) <| syI_reg (by kernel_rfl) (fun ⟨a, w, h⟩ => hL ⟨a, w, h⟩) <| rg_plain 7 (opsAt (part_pParse 32072)) [0, 1] (by kernel_rfl) (by kernel_rfl) <| pkq (.string ⟨x.toArray⟩) <| ppq (.bool true) (exec_binop .neq 9 9 (.tmp 19) (.const (.string ⟨#[]⟩)) (by kernel_rfl) _ _ _ (by kernel_rfl) (by kernel_rfl) (by kernel_rfl) (neq_l (a := x) (b := []) _ (by rw [decide_eq_false hx0]; rfl))) <| ps_end <| sy_a ⟨#[u0, u1, pT r1 0, pT r2 0, pT gp 0, pT gall 0, pT ga 0, .string ⟨x.toArray⟩, u8, u9, u10, u11, u12, u13, u14, iN k, .slice (some ⟨g, 0, none⟩) 11 11, .int .i64 11, .bool true, .string ⟨x.toArray⟩, .bool true, u21, u22, u23, u24, u25, u26, u27, u28, u29, u30, u31, u32, u33, u34, u35, u36, u37, u38, u39, u40, u41, u42, u43, u44, u45, u46, u47, u48, u49, u50, u51, u52, u53, u54, u55, u56, u57, u58, u59, u60, u61, u62, u63, u64, u65, u66, u67, u68, u69], []⟩ <| then_n <| syI_yes (.tmp 20) (part_pParse 64146) (part_pParse 64147) (by kernel_rfl) (by kernel_rfl) <| syI_seq (part_pParse 128292) (part_pParse 128293) (by kernel_rfl) <| syI_np <| syI_reg (by kernel_rfl) (fun ⟨a, w, h⟩ => hL ⟨a, w, h⟩) <| an_begin 8 5 (opsAt (part_pParse 128292)) (fun W => (W.heap[ga]? = some (.cells (#[.int .i64 ((k : Nat) : Int)]) 3 (0, 0)))) #[false, false, false, false, false] (by kernel_rfl) (by kernel_rfl) (by kernel_rfl) (by kernel_rfl) ?_
  obtain ⟨V1, eV1, kV1⟩ := drew_step w
  rw [eV1]
  clear eV1
  have h2 := kV1.bk hga
  have h3 := kV1.bk hgp
  have h5 := kV1.bk h10
  have h6 := kV1.bk h20
  have h7 : FieldsAt V1 g gp ks := hF.keepsN kV1
  have K8 := K0.nn kV1
  refine akq 0 (.agg parZ.cells) h2 <| avq 1 (iN k) (fun W hS => ldk 3 ga 0 hS) h2 <| akq 2 (.agg #[.int .i64 4, iN k]) h2 <| an_o 3 <| nst 24 r1 parZ.cells h5 (by kernel_rfl) rfl (by kernel_rfl) fun V9 h10 kV9 => ?_
  have h11 := kV9.bO h2
  have h12 := kV9.bO h3
  have h14 := kV9.bO h6
  have h15 : FieldsAt V9 g gp ks := FieldsAt.keeps (N := 0) h7 kV9 (fun e => by unfold Own.One at e; omega) (fun i hi e => by unfold Own.One at e; have := hks i hi; omega)
  have K16 : Keeps ((fun j => j = r1 ∨ j = r2 ∨ j = gp ∨ j = ga)) w V9 := K8.then kV9 (fun i hi hm => .inl hm)
  refine ⟨h11, ?_⟩
  refine an_o 4 ?_
  obtain ⟨V17, eV17, kV17⟩ := rowset_step V9 r2 (#[.int .i64 4, .int .i64 ((k : Nat) : Int)])
  have h18 : V17.heap[r2]? = some (.cells (#[.int .i64 4, .int .i64 ((k : Nat) : Int)]) 46 (0, 0)) := eV17 ▸ setRow_heap _ _ _ _ _ _ h14
  refine nzq (w' := V17) (by rw [← eV17]; exact exec_store_row 46 (.tmp 3) (.tmp 23) (by kernel_rfl) r2 (#[.int .i64 4, iN k]) (by kernel_rfl) (by kernel_rfl) 46 (#[.int .i64 0, .int .i64 0]) h14 (by kernel_rfl) rfl (by kernel_rfl)) ?_
  clear eV17
  have h19 := kV17.bO h11
  have h20 := kV17.bO h12
  have h22 : FieldsAt V17 g gp ks := FieldsAt.keeps (N := 0) h15 kV17 (fun e => by unfold Own.One at e; omega) (fun i hi e => by unfold Own.One at e; have := hks i hi; omega)
  have h23 := kV17.bO h10
  have K24 : Keeps ((fun j => j = r1 ∨ j = r2 ∨ j = gp ∨ j = ga)) w V17 := K16.then kV17 (fun i hi hm => .inr (.inl hm))
  refine ⟨h19, ?_⟩
  refine an_end (by kernel_rfl) <| sy_a ⟨#[u0, u1, pT r1 0, pT r2 0, pT gp 0, pT gall 0, pT ga 0, .string ⟨x.toArray⟩, u8, u9, u10, u11, u12, u13, u14, iN k, .slice (some ⟨g, 0, none⟩) 11 11, .int .i64 11, .bool true, .string ⟨x.toArray⟩, .bool true, .agg parZ.cells, iN k, .agg #[.int .i64 4, iN k], u24, u25, u26, u27, u28, u29, u30, u31, u32, u33, u34, u35, u36, u37, u38, u39, u40, u41, u42, u43, u44, u45, u46, u47, u48, u49, u50, u51, u52, u53, u54, u55, u56, u57, u58, u59, u60, u61, u62, u63, u64, u65, u66, u67, u68, u69], []⟩ <| then_n <| syI_ret (by kernel_rfl) <| then_r <| then_r <| blk_r ?_
  exact hR _ _ h23 h18 K24
theorem pParse_short {l N : Nat} {u0 u1 u8 u9 u10 u11 u12 u13 u14 u15 u16 u17 u18 u19 u20 u21 u22 u23 u24 u25 u26 u27 u28 u29 u30 u31 u32 u33 u34 u35 u36 u37 u38 u39 u40 u41 u42 u43 u44 u45 u46 u47 u48 u49 u50 u51 u52 u53 u54 u55 u56 u57 u58 u59 u60 u61 u62 u63 u64 u65 u66 u67 u68 u69 : Value} (ga gp g gall r1 r2 k : Nat) (ks : Nat → Nat) (vs : List Int) (x : List UInt8) (hxl : x.length ≤ 100000000) (hv : vs.length = k) (w : World) (Q : Exit → Act → World → Prop) (hL : ¬ LetsOut Q) (hds : ga ≠ gp ∧ ga ≠ r1 ∧ ga ≠ r2 ∧ gp ≠ r1 ∧ gp ≠ r2 ∧ r1 ≠ r2 ∧ g ≠ gp ∧ g ≠ r1 ∧ g ≠ r2 ∧ g ≠ ga ∧ gall ≠ gp ∧ gall ≠ r1 ∧ gall ≠ r2 ∧ gall ≠ ga) (hks : ∀ i, i < 11 → ks i ≠ gp ∧ ks i ≠ r1 ∧ ks i ≠ r2 ∧ ks i ≠ ga) (hga : w.heap[ga]? = some (.cells #[.int .i64 ((k : Nat) : Int)] 3 (0, 0))) (hgp : w.heap[gp]? = some (.cells (parOfL vs).cells 24 (0, 0))) (hgl : w.heap[gall]? = some (.cells #[.slice (some ⟨g, 0, none⟩) 11 11] 61 (0, 0))) (h10 : w.heap[r1]? = some (.cells parZ.cells 24 (0, 0))) (h20 : w.heap[r2]? = some (.cells #[.int .i64 0, .int .i64 0] 46 (0, 0))) (hF : FieldsAt w g gp ks) (hk : k < 11) (hx0 : Lib.hasSuffix x [10] = false) (hR : ∀ (c : Act) (W : World), W.heap[r1]? = some (.cells parZ.cells 24 (0, 0)) → W.heap[r2]? = some (.cells #[.int .i64 6, .int .i64 ((k : Nat) : Int)] 46 (0, 0)) → Keeps (fun j => j = r1 ∨ j = r2 ∨ j = gp ∨ j = ga) w W → Q .ret c W) :
    (part_pParse 501).wpIn (Fence.wide.inRound l) N Tryd.prog Q ⟨#[u0, u1, .pointer (some ⟨r1, 0, none⟩), .pointer (some ⟨r2, 0, none⟩), .pointer (some ⟨gp, 0, none⟩), .pointer (some ⟨gall, 0, none⟩), .pointer (some ⟨ga, 0, none⟩), .string ⟨x.toArray⟩, u8, u9, u10, u11, u12, u13, u14, u15, u16, u17, u18, u19, u20, u21, u22, u23, u24, u25, u26, u27, u28, u29, u30, u31, u32, u33, u34, u35, u36, u37, u38, u39, u40, u41, u42, u43, u44, u45, u46, u47, u48, u49, u50, u51, u52, u53, u54, u55, u56, u57, u58, u59, u60, u61, u62, u63, u64, u65, u66, u67, u68, u69], []⟩ w := by
  have K0 : Keeps ((fun j => j = r1 ∨ j = r2 ∨ j = gp ∨ j = ga)) w w := Keeps.refl _ _
  refine syI_block 1 (part_pParse 1002) (by kernel_rfl) <| syI_seq (part_pParse 2004) (part_pParse 2005) (by kernel_rfl) <| syI_seq (part_pParse 4008) (part_pParse 4009) (by kernel_rfl) <| syI_reg (by kernel_rfl) (fun ⟨a, w, h⟩ => hL ⟨a, w, h⟩) <| rg_plain 6 (opsAt (part_pParse 4008)) [0, 1, 2, 3] (by kernel_rfl) (by kernel_rfl) <| ppq (iN k) (ldk 3 ga 0 hga) <| ppq (.slice (some ⟨g, 0, none⟩) 11 11) (ldk 61 gall 0 hgl) <| ppq (.int .i64 11) (exec_len (.tmp 16) 61 _ (by kernel_rfl) Tryd.underlying61 (some ⟨g, 0, none⟩) 11 11 (by kernel_rfl)) <| ppq (.bool false) (eqf (((k : Nat) : Int)) ((11) : Int) (by omega)) <| ps_end <| sy_a ⟨#[u0, u1, pT r1 0, pT r2 0, pT gp 0, pT gall 0, pT ga 0, .string ⟨x.toArray⟩, u8, u9, u10, u11, u12, u13, u14, iN k, .slice (some ⟨g, 0, none⟩) 11 11, .int .i64 11, .bool false, u19, u20, u21, u22, u23, u24, u25, u26, u27, u28, u29, u30, u31, u32, u33, u34, u35, u36, u37, u38, u39, u40, u41, u42, u43, u44, u45, u46, u47, u48, u49, u50, u51, u52, u53, u54, u55, u56, u57, u58, u59, u60, u61, u62, u63, u64, u65, u66, u67, u68, u69], []⟩ <| then_n <| syI_no (.tmp 18) (part_pParse 8018) (part_pParse 8019) (by kernel_rfl) (by kernel_rfl) <| syI_skip (by kernel_rfl) ?_
  refine then_n <| syI_seq (part_pParse 4010) (part_pParse 4011) (by kernel_rfl) <| syI_reg (by kernel_rfl) (fun ⟨a, w, h⟩ => hL ⟨a, w, h⟩) <| rg_plain 9 (opsAt (part_pParse 4010)) [0, 1, 2, 3, 4, 5, 6] (by kernel_rfl) (by kernel_rfl) <| pkq (.string ⟨x.toArray⟩) ?_
  refine pcq 50 #[.string ⟨x.toArray⟩, .string { data := #[10] }] Tryd.func50 ((cutS_no x _ hxl hx0).mono ?_)
  rintro e w1 ⟨rfl, rfl⟩
  refine ⟨_, rfl, ?_⟩
  refine pkq (.tuple #[.string ⟨(Lib.trimSuffix x [10]).toArray⟩, .bool false]) <| pkq (.string ⟨(Lib.trimSuffix x [10]).toArray⟩) <| pkq (.bool false) <| pkq (.string ⟨(Lib.trimSuffix x [10]).toArray⟩) <| pkq (.bool false) <| ps_end <| sy_a ⟨#[u0, u1, pT r1 0, pT r2 0, pT gp 0, pT gall 0, pT ga 0, .string ⟨x.toArray⟩, .string ⟨(Lib.trimSuffix x [10]).toArray⟩, .bool false, u10, u11, u12, u13, u14, iN k, .slice (some ⟨g, 0, none⟩) 11 11, .int .i64 11, .bool false, u19, u20, u21, u22, u23, .tuple #[.string ⟨(Lib.trimSuffix x [10]).toArray⟩, .bool false], .string ⟨x.toArray⟩, .tuple #[.string ⟨(Lib.trimSuffix x [10]).toArray⟩, .bool false], .string ⟨(Lib.trimSuffix x [10]).toArray⟩, .bool false, u29, u30, u31, u32, u33, u34, u35, u36, u37, u38, u39, u40, u41, u42, u43, u44, u45, u46, u47, u48, u49, u50, u51, u52, u53, u54, u55, u56, u57, u58, u59, u60, u61, u62, u63, u64, u65, u66, u67, u68, u69], []⟩ <| then_n <| syI_seq (part_pParse 8022) (part_pParse 8023) (by kernel_rfl) <| syI_seq (part_pParse 16044) (part_pParse 16045) (by kernel_rfl) <| syI_reg (by kernel_rfl) (fun ⟨a, w, h⟩ => hL ⟨a, w, h⟩) <| rg_plain 10 (opsAt (part_pParse 16044)) [0, 1] (by kernel_rfl) (by kernel_rfl) <| pkq (.bool false) <| pkq (.bool true) ?_
  refine ps_end <| sy_a ⟨#[u0, u1, pT r1 0, pT r2 0, pT gp 0, pT gall 0, pT ga 0, .string ⟨x.toArray⟩, .string ⟨(Lib.trimSuffix x [10]).toArray⟩, .bool false, u10, u11, u12, u13, u14, iN k, .slice (some ⟨g, 0, none⟩) 11 11, .int .i64 11, .bool false, u19, u20, u21, u22, u23, .tuple #[.string ⟨(Lib.trimSuffix x [10]).toArray⟩, .bool false], .string ⟨x.toArray⟩, .tuple #[.string ⟨(Lib.trimSuffix x [10]).toArray⟩, .bool false], .string ⟨(Lib.trimSuffix x [10]).toArray⟩, .bool false, .bool false, .bool true, u31, u32, u33, u34, u35, u36, u37, u38, u39, u40, u41, u42, u43, u44, u45, u46, u47, u48, u49, u50, u51, u52, u53, u54, u55, u56, u57, u58, u59, u60, u61, u62, u63, u64, u65, u66, u67, u68, u69], []⟩ <| then_n <| syI_yes (.tmp 30) (part_pParse 32090) (part_pParse 32091) (by kernel_rfl) (by kernel_rfl) <| syI_seq (part_pParse 64180) (part_pParse 64181) (by kernel_rfl) <| syI_np <| syI_reg (by kernel_rfl) (fun ⟨a, w, h⟩ => hL ⟨a, w, h⟩) <| an_begin 11 5 (opsAt (part_pParse 64180)) (fun W => (W.heap[ga]? = some (.cells (#[.int .i64 ((k : Nat) : Int)]) 3 (0, 0)))) #[false, false, false, false, false] (by kernel_rfl) (by kernel_rfl) (by kernel_rfl) (by kernel_rfl) ?_
  obtain ⟨V25, eV25, kV25⟩ := drew_step w
  rw [eV25]
  clear eV25
  have h26 := kV25.bk hga
  have h29 := kV25.bk h10
  have h30 := kV25.bk h20
  have h31 : FieldsAt V25 g gp ks := hF.keepsN kV25
  have K32 := K0.nn kV25
  refine akq 0 (.agg parZ.cells) h26 <| avq 1 (iN k) (fun W hS => ldk 3 ga 0 hS) h26 <| akq 2 (.agg #[.int .i64 6, iN k]) h26 <| an_o 3 <| nst 24 r1 parZ.cells h29 (by kernel_rfl) rfl (by kernel_rfl) fun V33 h34 kV33 => ?_
  have h35 := kV33.bO h26
  have h38 := kV33.bO h30
  have h39 : FieldsAt V33 g gp ks := FieldsAt.keeps (N := 0) h31 kV33 (fun e => by unfold Own.One at e; omega) (fun i hi e => by unfold Own.One at e; have := hks i hi; omega)
  have K40 : Keeps ((fun j => j = r1 ∨ j = r2 ∨ j = gp ∨ j = ga)) w V33 := K32.then kV33 (fun i hi hm => .inl hm)
  refine ⟨h35, ?_⟩
  refine an_o 4 ?_
  obtain ⟨V41, eV41, kV41⟩ := rowset_step V33 r2 (#[.int .i64 6, .int .i64 ((k : Nat) : Int)])
  have h42 : V41.heap[r2]? = some (.cells (#[.int .i64 6, .int .i64 ((k : Nat) : Int)]) 46 (0, 0)) := eV41 ▸ setRow_heap _ _ _ _ _ _ h38
  refine nzq (w' := V41) (by rw [← eV41]; exact exec_store_row 46 (.tmp 3) (.tmp 33) (by kernel_rfl) r2 (#[.int .i64 6, iN k]) (by kernel_rfl) (by kernel_rfl) 46 (#[.int .i64 0, .int .i64 0]) h38 (by kernel_rfl) rfl (by kernel_rfl)) ?_
  clear eV41
  have h43 := kV41.bO h35
  have h46 : FieldsAt V41 g gp ks := FieldsAt.keeps (N := 0) h39 kV41 (fun e => by unfold Own.One at e; omega) (fun i hi e => by unfold Own.One at e; have := hks i hi; omega)
  have h47 := kV41.bO h34
  have K48 : Keeps ((fun j => j = r1 ∨ j = r2 ∨ j = gp ∨ j = ga)) w V41 := K40.then kV41 (fun i hi hm => .inr (.inl hm))
  refine ⟨h43, ?_⟩
  refine an_end (by kernel_rfl) <| sy_a ⟨#[u0, u1, pT r1 0, pT r2 0, pT gp 0, pT gall 0, pT ga 0, .string ⟨x.toArray⟩, .string ⟨(Lib.trimSuffix x [10]).toArray⟩, .bool false, u10, u11, u12, u13, u14, iN k, .slice (some ⟨g, 0, none⟩) 11 11, .int .i64 11, .bool false, u19, u20, u21, u22, u23, .tuple #[.string ⟨(Lib.trimSuffix x [10]).toArray⟩, .bool false], .string ⟨x.toArray⟩, .tuple #[.string ⟨(Lib.trimSuffix x [10]).toArray⟩, .bool false], .string ⟨(Lib.trimSuffix x [10]).toArray⟩, .bool false, .bool false, .bool true, .agg parZ.cells, iN k, .agg #[.int .i64 6, iN k], u34, u35, u36, u37, u38, u39, u40, u41, u42, u43, u44, u45, u46, u47, u48, u49, u50, u51, u52, u53, u54, u55, u56, u57, u58, u59, u60, u61, u62, u63, u64, u65, u66, u67, u68, u69], []⟩ <| then_n <| syI_ret (by kernel_rfl) <| then_r <| blk_r ?_
  exact hR _ _ h47 h42 K48
theorem pParse_bad {l N : Nat} {u0 u1 u8 u9 u10 u11 u12 u13 u14 u15 u16 u17 u18 u19 u20 u21 u22 u23 u24 u25 u26 u27 u28 u29 u30 u31 u32 u33 u34 u35 u36 u37 u38 u39 u40 u41 u42 u43 u44 u45 u46 u47 u48 u49 u50 u51 u52 u53 u54 u55 u56 u57 u58 u59 u60 u61 u62 u63 u64 u65 u66 u67 u68 u69 : Value} (ga gp g gall r1 r2 k : Nat) (ks : Nat → Nat) (vs : List Int) (x : List UInt8) (hxl : x.length ≤ 100000000) (hv : vs.length = k) (w : World) (Q : Exit → Act → World → Prop) (hL : ¬ LetsOut Q) (hds : ga ≠ gp ∧ ga ≠ r1 ∧ ga ≠ r2 ∧ gp ≠ r1 ∧ gp ≠ r2 ∧ r1 ≠ r2 ∧ g ≠ gp ∧ g ≠ r1 ∧ g ≠ r2 ∧ g ≠ ga ∧ gall ≠ gp ∧ gall ≠ r1 ∧ gall ≠ r2 ∧ gall ≠ ga) (hks : ∀ i, i < 11 → ks i ≠ gp ∧ ks i ≠ r1 ∧ ks i ≠ r2 ∧ ks i ≠ ga) (hga : w.heap[ga]? = some (.cells #[.int .i64 ((k : Nat) : Int)] 3 (0, 0))) (hgp : w.heap[gp]? = some (.cells (parOfL vs).cells 24 (0, 0))) (hgl : w.heap[gall]? = some (.cells #[.slice (some ⟨g, 0, none⟩) 11 11] 61 (0, 0))) (h10 : w.heap[r1]? = some (.cells parZ.cells 24 (0, 0))) (h20 : w.heap[r2]? = some (.cells #[.int .i64 0, .int .i64 0] 46 (0, 0))) (hF : FieldsAt w g gp ks) (a : List UInt8) (hx0 : x = a ++ [10]) (hk : k < 11) (he : rerr k a ≠ 0) (hR : ∀ (c : Act) (W : World), W.heap[r1]? = some (.cells parZ.cells 24 (0, 0)) → W.heap[r2]? = some (.cells #[.int .i64 (rerr k a), .int .i64 ((k : Nat) : Int)] 46 (0, 0)) → Keeps (fun j => j = r1 ∨ j = r2 ∨ j = gp ∨ j = ga) w W → Q .ret c W) :
    (part_pParse 501).wpIn (Fence.wide.inRound l) N Tryd.prog Q ⟨#[u0, u1, .pointer (some ⟨r1, 0, none⟩), .pointer (some ⟨r2, 0, none⟩), .pointer (some ⟨gp, 0, none⟩), .pointer (some ⟨gall, 0, none⟩), .pointer (some ⟨ga, 0, none⟩), .string ⟨x.toArray⟩, u8, u9, u10, u11, u12, u13, u14, u15, u16, u17, u18, u19, u20, u21, u22, u23, u24, u25, u26, u27, u28, u29, u30, u31, u32, u33, u34, u35, u36, u37, u38, u39, u40, u41, u42, u43, u44, u45, u46, u47, u48, u49, u50, u51, u52, u53, u54, u55, u56, u57, u58, u59, u60, u61, u62, u63, u64, u65, u66, u67, u68, u69], []⟩ w := by
  have K0 : Keeps ((fun j => j = r1 ∨ j = r2 ∨ j = gp ∨ j = ga)) w w := Keeps.refl _ _
  refine syI_block 1 (part_pParse 1002) (by kernel_rfl) <| syI_seq (part_pParse 2004) (part_pParse 2005) (by kernel_rfl) <| syI_seq (part_pParse 4008) (part_pParse 4009) (by kernel_rfl) <| syI_reg (by kernel_rfl) (fun ⟨a, w, h⟩ => hL ⟨a, w, h⟩) <| rg_plain 6 (opsAt (part_pParse 4008)) [0, 1, 2, 3] (by kernel_rfl) (by kernel_rfl) <| ppq (iN k) (ldk 3 ga 0 hga) <| ppq (.slice (some ⟨g, 0, none⟩) 11 11) (ldk 61 gall 0 hgl) <| ppq (.int .i64 11) (exec_len (.tmp 16) 61 _ (by kernel_rfl) Tryd.underlying61 (some ⟨g, 0, none⟩) 11 11 (by kernel_rfl)) <| ppq (.bool false) (eqf (((k : Nat) : Int)) ((11) : Int) (by omega)) <| ps_end <| sy_a ⟨#[u0, u1, pT r1 0, pT r2 0, pT gp 0, pT gall 0, pT ga 0, .string ⟨x.toArray⟩, u8, u9, u10, u11, u12, u13, u14, iN k, .slice (some ⟨g, 0, none⟩) 11 11, .int .i64 11, .bool false, u19, u20, u21, u22, u23, u24, u25, u26, u27, u28, u29, u30, u31, u32, u33, u34, u35, u36, u37, u38, u39, u40, u41, u42, u43, u44, u45, u46, u47, u48, u49, u50, u51, u52, u53, u54, u55, u56, u57, u58, u59, u60, u61, u62, u63, u64, u65, u66, u67, u68, u69], []⟩ <| then_n <| syI_no (.tmp 18) (part_pParse 8018) (part_pParse 8019) (by kernel_rfl) (by kernel_rfl) <| syI_skip (by kernel_rfl) ?_
  refine then_n <| syI_seq (part_pParse 4010) (part_pParse 4011) (by kernel_rfl) <| syI_reg (by kernel_rfl) (fun ⟨a, w, h⟩ => hL ⟨a, w, h⟩) <| rg_plain 9 (opsAt (part_pParse 4010)) [0, 1, 2, 3, 4, 5, 6] (by kernel_rfl) (by kernel_rfl) <| pkq (.string ⟨x.toArray⟩) ?_
  refine pcq 50 #[.string ⟨x.toArray⟩, .string { data := #[10] }] Tryd.func50 ((cutS_yes x a _ hxl hx0).mono ?_)
  rintro e w1 ⟨rfl, rfl⟩
  refine ⟨_, rfl, ?_⟩
  refine pkq (.tuple #[.string ⟨a.toArray⟩, .bool true]) <| pkq (.string ⟨a.toArray⟩) <| pkq (.bool true) <| pkq (.string ⟨a.toArray⟩) <| pkq (.bool true) <| ps_end <| sy_a ⟨#[u0, u1, pT r1 0, pT r2 0, pT gp 0, pT gall 0, pT ga 0, .string ⟨x.toArray⟩, .string ⟨a.toArray⟩, .bool true, u10, u11, u12, u13, u14, iN k, .slice (some ⟨g, 0, none⟩) 11 11, .int .i64 11, .bool false, u19, u20, u21, u22, u23, .tuple #[.string ⟨a.toArray⟩, .bool true], .string ⟨x.toArray⟩, .tuple #[.string ⟨a.toArray⟩, .bool true], .string ⟨a.toArray⟩, .bool true, u29, u30, u31, u32, u33, u34, u35, u36, u37, u38, u39, u40, u41, u42, u43, u44, u45, u46, u47, u48, u49, u50, u51, u52, u53, u54, u55, u56, u57, u58, u59, u60, u61, u62, u63, u64, u65, u66, u67, u68, u69], []⟩ <| then_n <| syI_seq (part_pParse 8022) (part_pParse 8023) (by kernel_rfl) <| syI_seq (part_pParse 16044) (part_pParse 16045) (by kernel_rfl) <| syI_reg (by kernel_rfl) (fun ⟨a, w, h⟩ => hL ⟨a, w, h⟩) <| rg_plain 10 (opsAt (part_pParse 16044)) [0, 1] (by kernel_rfl) (by kernel_rfl) <| pkq (.bool true) <| pkq (.bool false) ?_
  refine ps_end <| sy_a ⟨#[u0, u1, pT r1 0, pT r2 0, pT gp 0, pT gall 0, pT ga 0, .string ⟨x.toArray⟩, .string ⟨a.toArray⟩, .bool true, u10, u11, u12, u13, u14, iN k, .slice (some ⟨g, 0, none⟩) 11 11, .int .i64 11, .bool false, u19, u20, u21, u22, u23, .tuple #[.string ⟨a.toArray⟩, .bool true], .string ⟨x.toArray⟩, .tuple #[.string ⟨a.toArray⟩, .bool true], .string ⟨a.toArray⟩, .bool true, .bool true, .bool false, u31, u32, u33, u34, u35, u36, u37, u38, u39, u40, u41, u42, u43, u44, u45, u46, u47, u48, u49, u50, u51, u52, u53, u54, u55, u56, u57, u58, u59, u60, u61, u62, u63, u64, u65, u66, u67, u68, u69], []⟩ <| then_n <| syI_no (.tmp 30) (part_pParse 32090) (part_pParse 32091) (by kernel_rfl) (by kernel_rfl) <| syI_skip (by kernel_rfl) <| then_n <| syI_seq (part_pParse 16046) (part_pParse 16047) (by kernel_rfl) <| syI_reg (by kernel_rfl) (fun ⟨a, w, h⟩ => hL ⟨a, w, h⟩) <| rg_plain 12 (opsAt (part_pParse 16046)) [0, 1, 2, 3, 4, 5, 6] (by kernel_rfl) (by kernel_rfl) <| ppq (.slice (some ⟨g, 0, none⟩) 11 11) (ldk 61 gall 0 hgl) <| ppq (iN k) (ldk 3 ga 0 hga) <| ppq (pT g (k * 5)) (exec_cast (v := pT g (0 + k * 5)) (by simp) (exec_indexAt_slice 61 (.tmp 34) (.tmp 35) (by kernel_rfl) g 0 11 11 (by kernel_rfl) .i64 k (by kernel_rfl) _ 5 Tryd.underlying61 (by kernel_rfl) (by omega))) <| ppq (.agg (fieldC k (ks k)).toArray) (exec_load_mid 67 (.tmp 36) (by kernel_rfl) g (k * 5) (by kernel_rfl) (fieldC k (ks k)) _ (FieldsAt.mid hF hk) Tryd.underlying67 rfl (by kernel_rfl)) <| pkq (.string ⟨a.toArray⟩) ?_
  refine pcq 51 #[.agg (fieldC k (ks k)).toArray, .string ⟨a.toArray⟩] Tryd.func51 ((preads_bad k (ks k) a _ hk he).mono ?_)
  rintro e V49 ⟨rfl, kV49⟩
  refine ⟨_, rfl, ?_⟩
  have h50 := kV49.bk hga
  have h53 := kV49.bk h10
  have h54 := kV49.bk h20
  have h55 : FieldsAt V49 g gp ks := hF.keepsN kV49
  have K56 := K0.nn kV49
  refine pkq (.int .i64 (rerr k a)) <| ps_end <| sy_a ⟨#[u0, u1, pT r1 0, pT r2 0, pT gp 0, pT gall 0, pT ga 0, .string ⟨x.toArray⟩, .string ⟨a.toArray⟩, .bool true, .int .i64 (rerr k a), u11, u12, u13, u14, iN k, .slice (some ⟨g, 0, none⟩) 11 11, .int .i64 11, .bool false, u19, u20, u21, u22, u23, .tuple #[.string ⟨a.toArray⟩, .bool true], .string ⟨x.toArray⟩, .tuple #[.string ⟨a.toArray⟩, .bool true], .string ⟨a.toArray⟩, .bool true, .bool true, .bool false, u31, u32, u33, .slice (some ⟨g, 0, none⟩) 11 11, iN k, pT g (k * 5), .agg (fieldC k (ks k)).toArray, .string ⟨a.toArray⟩, .int .i64 (rerr k a), u40, u41, u42, u43, u44, u45, u46, u47, u48, u49, u50, u51, u52, u53, u54, u55, u56, u57, u58, u59, u60, u61, u62, u63, u64, u65, u66, u67, u68, u69], []⟩ <| then_n <| syI_seq (part_pParse 32094) (part_pParse 32095) (by kernel_rfl) <| syI_seq (part_pParse 64188) (part_pParse 64189) (by kernel_rfl) <| syI_reg (by kernel_rfl) (fun ⟨a, w, h⟩ => hL ⟨a, w, h⟩) <| rg_plain 13 (opsAt (part_pParse 64188)) [0, 1, 2, 3, 4, 5, 6, 7, 8, 9, 10, 11, 12] (by kernel_rfl) (by kernel_rfl) <| pkq (.int .i64 (rerr k a)) <| ppq (.bool false) (eqf ((rerr k a) : Int) ((0) : Int) (by omega)) <| pkq (.bool false) <| pnq <| pnq <| pkq (.bool false) ?_
  refine pkq (.bool false) <| pnq <| pnq <| pnq <| pnq <| pnq <| pkq (.bool false) <| ps_end <| sy_a ⟨#[u0, u1, pT r1 0, pT r2 0, pT gp 0, pT gall 0, pT ga 0, .string ⟨x.toArray⟩, .string ⟨a.toArray⟩, .bool true, .int .i64 (rerr k a), u11, u12, u13, u14, iN k, .slice (some ⟨g, 0, none⟩) 11 11, .int .i64 11, .bool false, u19, u20, u21, u22, u23, .tuple #[.string ⟨a.toArray⟩, .bool true], .string ⟨x.toArray⟩, .tuple #[.string ⟨a.toArray⟩, .bool true], .string ⟨a.toArray⟩, .bool true, .bool true, .bool false, u31, u32, u33, .slice (some ⟨g, 0, none⟩) 11 11, iN k, pT g (k * 5), .agg (fieldC k (ks k)).toArray, .string ⟨a.toArray⟩, .int .i64 (rerr k a), .int .i64 (rerr k a), .bool false, .bool false, ud, ud, .bool false, .bool false, ud, ud, ud, ud, ud, .bool false, u53, u54, u55, u56, u57, u58, u59, u60, u61, u62, u63, u64, u65, u66, u67, u68, u69], []⟩ <| then_n <| syI_no (.tmp 52) (part_pParse 128378) (part_pParse 128379) (by kernel_rfl) (by kernel_rfl) <| syI_skip (by kernel_rfl) <| then_n <| syI_seq (part_pParse 64190) (part_pParse 64191) (by kernel_rfl) ?_
  refine syI_seq (part_pParse 128380) (part_pParse 128381) (by kernel_rfl) <| syI_reg (by kernel_rfl) (fun ⟨a, w, h⟩ => hL ⟨a, w, h⟩) <| rg_plain 15 (opsAt (part_pParse 128380)) [0, 1] (by kernel_rfl) (by kernel_rfl) <| pkq (.int .i64 (rerr k a)) <| ppq (.bool true) (nqt ((rerr k a) : Int) ((0) : Int) (by omega)) <| ps_end <| sy_a ⟨#[u0, u1, pT r1 0, pT r2 0, pT gp 0, pT gall 0, pT ga 0, .string ⟨x.toArray⟩, .string ⟨a.toArray⟩, .bool true, .int .i64 (rerr k a), u11, u12, u13, u14, iN k, .slice (some ⟨g, 0, none⟩) 11 11, .int .i64 11, .bool false, u19, u20, u21, u22, u23, .tuple #[.string ⟨a.toArray⟩, .bool true], .string ⟨x.toArray⟩, .tuple #[.string ⟨a.toArray⟩, .bool true], .string ⟨a.toArray⟩, .bool true, .bool true, .bool false, u31, u32, u33, .slice (some ⟨g, 0, none⟩) 11 11, iN k, pT g (k * 5), .agg (fieldC k (ks k)).toArray, .string ⟨a.toArray⟩, .int .i64 (rerr k a), .int .i64 (rerr k a), .bool false, .bool false, ud, ud, .bool false, .bool false, ud, ud, ud, ud, ud, .bool false, .int .i64 (rerr k a), .bool true, u55, u56, u57, u58, u59, u60, u61, u62, u63, u64, u65, u66, u67, u68, u69], []⟩ <| then_n <| syI_yes (.tmp 54) (part_pParse 256762) (part_pParse 256763) (by kernel_rfl) (by kernel_rfl) <| syI_seq (part_pParse 513524) (part_pParse 513525) (by kernel_rfl) <| syI_np <| syI_reg (by kernel_rfl) (fun ⟨a, w, h⟩ => hL ⟨a, w, h⟩) <| an_begin 16 6 (opsAt (part_pParse 513524)) (fun W => (W.heap[ga]? = some (.cells (#[.int .i64 ((k : Nat) : Int)]) 3 (0, 0)))) #[false, false, false, false, false, false] (by kernel_rfl) (by kernel_rfl) (by kernel_rfl) (by kernel_rfl) ?_
  obtain ⟨V57, eV57, kV57⟩ := drew_step V49
  rw [eV57]
  clear eV57
  have h58 := kV57.bk h50
  have h61 := kV57.bk h53
  have h62 := kV57.bk h54
  have h63 : FieldsAt V57 g gp ks := h55.keepsN kV57
  have K64 := K56.nn kV57
  refine akq 0 (.agg parZ.cells) h58 <| akq 1 (.int .i64 (rerr k a)) h58 <| avq 2 (iN k) (fun W hS => ldk 3 ga 0 hS) h58 <| akq 3 (.agg #[.int .i64 (rerr k a), iN k]) h58 <| an_o 4 <| nst 24 r1 parZ.cells h61 (by kernel_rfl) rfl (by kernel_rfl) fun V65 h66 kV65 => ?_
  have h67 := kV65.bO h58
  have h70 := kV65.bO h62
  have h71 : FieldsAt V65 g gp ks := FieldsAt.keeps (N := 0) h63 kV65 (fun e => by unfold Own.One at e; omega) (fun i hi e => by unfold Own.One at e; have := hks i hi; omega)
  have K72 : Keeps ((fun j => j = r1 ∨ j = r2 ∨ j = gp ∨ j = ga)) w V65 := K64.then kV65 (fun i hi hm => .inl hm)
  refine ⟨h67, ?_⟩
  refine an_o 5 ?_
  obtain ⟨V73, eV73, kV73⟩ := rowset_step V65 r2 (#[.int .i64 (rerr k a), .int .i64 ((k : Nat) : Int)])
  have h74 : V73.heap[r2]? = some (.cells (#[.int .i64 (rerr k a), .int .i64 ((k : Nat) : Int)]) 46 (0, 0)) := eV73 ▸ setRow_heap _ _ _ _ _ _ h70
  refine nzq (w' := V73) (by rw [← eV73]; exact exec_store_row 46 (.tmp 3) (.tmp 58) (by kernel_rfl) r2 (#[.int .i64 (rerr k a), iN k]) (by kernel_rfl) (by kernel_rfl) 46 (#[.int .i64 0, .int .i64 0]) h70 (by kernel_rfl) rfl (by kernel_rfl)) ?_
  clear eV73
  have h75 := kV73.bO h67
  have h78 : FieldsAt V73 g gp ks := FieldsAt.keeps (N := 0) h71 kV73 (fun e => by unfold Own.One at e; omega) (fun i hi e => by unfold Own.One at e; have := hks i hi; omega)
  have h79 := kV73.bO h66
  have K80 : Keeps ((fun j => j = r1 ∨ j = r2 ∨ j = gp ∨ j = ga)) w V73 := K72.then kV73 (fun i hi hm => .inr (.inl hm))
  refine ⟨h75, ?_⟩
  refine an_end (by kernel_rfl) <| sy_a ⟨#[u0, u1, pT r1 0, pT r2 0, pT gp 0, pT gall 0, pT ga 0, .string ⟨x.toArray⟩, .string ⟨a.toArray⟩, .bool true, .int .i64 (rerr k a), u11, u12, u13, u14, iN k, .slice (some ⟨g, 0, none⟩) 11 11, .int .i64 11, .bool false, u19, u20, u21, u22, u23, .tuple #[.string ⟨a.toArray⟩, .bool true], .string ⟨x.toArray⟩, .tuple #[.string ⟨a.toArray⟩, .bool true], .string ⟨a.toArray⟩, .bool true, .bool true, .bool false, u31, u32, u33, .slice (some ⟨g, 0, none⟩) 11 11, iN k, pT g (k * 5), .agg (fieldC k (ks k)).toArray, .string ⟨a.toArray⟩, .int .i64 (rerr k a), .int .i64 (rerr k a), .bool false, .bool false, ud, ud, .bool false, .bool false, ud, ud, ud, ud, ud, .bool false, .int .i64 (rerr k a), .bool true, .agg parZ.cells, .int .i64 (rerr k a), iN k, .agg #[.int .i64 (rerr k a), iN k], u59, u60, u61, u62, u63, u64, u65, u66, u67, u68, u69], []⟩ <| then_n <| syI_ret (by kernel_rfl) <| then_r <| blk_r ?_
  exact hR _ _ h79 h74 K80
theorem pParse_order {l N : Nat} {u0 u1 u8 u9 u10 u11 u12 u13 u14 u15 u16 u17 u18 u19 u20 u21 u22 u23 u24 u25 u26 u27 u28 u29 u30 u31 u32 u33 u34 u35 u36 u37 u38 u39 u40 u41 u42 u43 u44 u45 u46 u47 u48 u49 u50 u51 u52 u53 u54 u55 u56 u57 u58 u59 u60 u61 u62 u63 u64 u65 u66 u67 u68 u69 : Value} (ga gp g gall r1 r2 k : Nat) (ks : Nat → Nat) (vs : List Int) (x : List UInt8) (hxl : x.length ≤ 100000000) (hv : vs.length = k) (w : World) (Q : Exit → Act → World → Prop) (hL : ¬ LetsOut Q) (hds : ga ≠ gp ∧ ga ≠ r1 ∧ ga ≠ r2 ∧ gp ≠ r1 ∧ gp ≠ r2 ∧ r1 ≠ r2 ∧ g ≠ gp ∧ g ≠ r1 ∧ g ≠ r2 ∧ g ≠ ga ∧ gall ≠ gp ∧ gall ≠ r1 ∧ gall ≠ r2 ∧ gall ≠ ga) (hks : ∀ i, i < 11 → ks i ≠ gp ∧ ks i ≠ r1 ∧ ks i ≠ r2 ∧ ks i ≠ ga) (hga : w.heap[ga]? = some (.cells #[.int .i64 ((k : Nat) : Int)] 3 (0, 0))) (hgp : w.heap[gp]? = some (.cells (parOfL vs).cells 24 (0, 0))) (hgl : w.heap[gall]? = some (.cells #[.slice (some ⟨g, 0, none⟩) 11 11] 61 (0, 0))) (h10 : w.heap[r1]? = some (.cells parZ.cells 24 (0, 0))) (h20 : w.heap[r2]? = some (.cells #[.int .i64 0, .int .i64 0] 46 (0, 0))) (hF : FieldsAt w g gp ks) (a : List UInt8) (hx0 : x = a ++ [10]) (hk : k < 11) (he : rerr k a = 0) (hk1 : k = 1) (ho : (parOfL (vs ++ [((pln k a).1 : Int)])).unb < (parOfL (vs ++ [((pln k a).1 : Int)])).mage) (hR : ∀ (c : Act) (W : World), W.heap[r1]? = some (.cells parZ.cells 24 (0, 0)) → W.heap[r2]? = some (.cells #[.int .i64 9, .int .i64 ((k : Nat) : Int)] 46 (0, 0)) → Keeps (fun j => j = r1 ∨ j = r2 ∨ j = gp ∨ j = ga) w W → Q .ret c W) :
    (part_pParse 501).wpIn (Fence.wide.inRound l) N Tryd.prog Q ⟨#[u0, u1, .pointer (some ⟨r1, 0, none⟩), .pointer (some ⟨r2, 0, none⟩), .pointer (some ⟨gp, 0, none⟩), .pointer (some ⟨gall, 0, none⟩), .pointer (some ⟨ga, 0, none⟩), .string ⟨x.toArray⟩, u8, u9, u10, u11, u12, u13, u14, u15, u16, u17, u18, u19, u20, u21, u22, u23, u24, u25, u26, u27, u28, u29, u30, u31, u32, u33, u34, u35, u36, u37, u38, u39, u40, u41, u42, u43, u44, u45, u46, u47, u48, u49, u50, u51, u52, u53, u54, u55, u56, u57, u58, u59, u60, u61, u62, u63, u64, u65, u66, u67, u68, u69], []⟩ w := by
  obtain ⟨q, hq⟩ : ∃ q, parOfL (vs ++ [((pln k a).1 : Int)]) = q := ⟨_, rfl⟩
  rw [hq] at ho
  have K0 : Keeps ((fun j => j = r1 ∨ j = r2 ∨ j = gp ∨ j = ga)) w w := Keeps.refl _ _
  refine syI_block 1 (part_pParse 1002) (by kernel_rfl) <| syI_seq (part_pParse 2004) (part_pParse 2005) (by kernel_rfl) <| syI_seq (part_pParse 4008) (part_pParse 4009) (by kernel_rfl) <| syI_reg (by kernel_rfl) (fun ⟨a, w, h⟩ => hL ⟨a, w, h⟩) <| rg_plain 6 (opsAt (part_pParse 4008)) [0, 1, 2, 3] (by kernel_rfl) (by kernel_rfl) <| ppq (iN k) (ldk 3 ga 0 hga) <| ppq (.slice (some ⟨g, 0, none⟩) 11 11) (ldk 61 gall 0 hgl) <| ppq (.int .i64 11) (exec_len (.tmp 16) 61 _ (by kernel_rfl) Tryd.underlying61 (some ⟨g, 0, none⟩) 11 11 (by kernel_rfl)) <| ppq (.bool false) (eqf (((k : Nat) : Int)) ((11) : Int) (by omega)) <| ps_end <| sy_a ⟨#[u0, u1, pT r1 0, pT r2 0, pT gp 0, pT gall 0, pT ga 0, .string ⟨x.toArray⟩, u8, u9, u10, u11, u12, u13, u14, iN k, .slice (some ⟨g, 0, none⟩) 11 11, .int .i64 11, .bool false, u19, u20, u21, u22, u23, u24, u25, u26, u27, u28, u29, u30, u31, u32, u33, u34, u35, u36, u37, u38, u39, u40, u41, u42, u43, u44, u45, u46, u47, u48, u49, u50, u51, u52, u53, u54, u55, u56, u57, u58, u59, u60, u61, u62, u63, u64, u65, u66, u67, u68, u69], []⟩ <| then_n <| syI_no (.tmp 18) (part_pParse 8018) (part_pParse 8019) (by kernel_rfl) (by kernel_rfl) <| syI_skip (by kernel_rfl) ?_
  refine then_n <| syI_seq (part_pParse 4010) (part_pParse 4011) (by kernel_rfl) <| syI_reg (by kernel_rfl) (fun ⟨a, w, h⟩ => hL ⟨a, w, h⟩) <| rg_plain 9 (opsAt (part_pParse 4010)) [0, 1, 2, 3, 4, 5, 6] (by kernel_rfl) (by kernel_rfl) <| pkq (.string ⟨x.toArray⟩) ?_
  refine pcq 50 #[.string ⟨x.toArray⟩, .string { data := #[10] }] Tryd.func50 ((cutS_yes x a _ hxl hx0).mono ?_)
  rintro e w1 ⟨rfl, rfl⟩
  refine ⟨_, rfl, ?_⟩
  refine pkq (.tuple #[.string ⟨a.toArray⟩, .bool true]) <| pkq (.string ⟨a.toArray⟩) <| pkq (.bool true) <| pkq (.string ⟨a.toArray⟩) <| pkq (.bool true) <| ps_end <| sy_a ⟨#[u0, u1, pT r1 0, pT r2 0, pT gp 0, pT gall 0, pT ga 0, .string ⟨x.toArray⟩, .string ⟨a.toArray⟩, .bool true, u10, u11, u12, u13, u14, iN k, .slice (some ⟨g, 0, none⟩) 11 11, .int .i64 11, .bool false, u19, u20, u21, u22, u23, .tuple #[.string ⟨a.toArray⟩, .bool true], .string ⟨x.toArray⟩, .tuple #[.string ⟨a.toArray⟩, .bool true], .string ⟨a.toArray⟩, .bool true, u29, u30, u31, u32, u33, u34, u35, u36, u37, u38, u39, u40, u41, u42, u43, u44, u45, u46, u47, u48, u49, u50, u51, u52, u53, u54, u55, u56, u57, u58, u59, u60, u61, u62, u63, u64, u65, u66, u67, u68, u69], []⟩ <| then_n <| syI_seq (part_pParse 8022) (part_pParse 8023) (by kernel_rfl) <| syI_seq (part_pParse 16044) (part_pParse 16045) (by kernel_rfl) <| syI_reg (by kernel_rfl) (fun ⟨a, w, h⟩ => hL ⟨a, w, h⟩) <| rg_plain 10 (opsAt (part_pParse 16044)) [0, 1] (by kernel_rfl) (by kernel_rfl) <| pkq (.bool true) <| pkq (.bool false) ?_
  refine ps_end <| sy_a ⟨#[u0, u1, pT r1 0, pT r2 0, pT gp 0, pT gall 0, pT ga 0, .string ⟨x.toArray⟩, .string ⟨a.toArray⟩, .bool true, u10, u11, u12, u13, u14, iN k, .slice (some ⟨g, 0, none⟩) 11 11, .int .i64 11, .bool false, u19, u20, u21, u22, u23, .tuple #[.string ⟨a.toArray⟩, .bool true], .string ⟨x.toArray⟩, .tuple #[.string ⟨a.toArray⟩, .bool true], .string ⟨a.toArray⟩, .bool true, .bool true, .bool false, u31, u32, u33, u34, u35, u36, u37, u38, u39, u40, u41, u42, u43, u44, u45, u46, u47, u48, u49, u50, u51, u52, u53, u54, u55, u56, u57, u58, u59, u60, u61, u62, u63, u64, u65, u66, u67, u68, u69], []⟩ <| then_n <| syI_no (.tmp 30) (part_pParse 32090) (part_pParse 32091) (by kernel_rfl) (by kernel_rfl) <| syI_skip (by kernel_rfl) <| then_n <| syI_seq (part_pParse 16046) (part_pParse 16047) (by kernel_rfl) <| syI_reg (by kernel_rfl) (fun ⟨a, w, h⟩ => hL ⟨a, w, h⟩) <| rg_plain 12 (opsAt (part_pParse 16046)) [0, 1, 2, 3, 4, 5, 6] (by kernel_rfl) (by kernel_rfl) <| ppq (.slice (some ⟨g, 0, none⟩) 11 11) (ldk 61 gall 0 hgl) <| ppq (iN k) (ldk 3 ga 0 hga) <| ppq (pT g (k * 5)) (exec_cast (v := pT g (0 + k * 5)) (by simp) (exec_indexAt_slice 61 (.tmp 34) (.tmp 35) (by kernel_rfl) g 0 11 11 (by kernel_rfl) .i64 k (by kernel_rfl) _ 5 Tryd.underlying61 (by kernel_rfl) (by omega))) <| ppq (.agg (fieldC k (ks k)).toArray) (exec_load_mid 67 (.tmp 36) (by kernel_rfl) g (k * 5) (by kernel_rfl) (fieldC k (ks k)) _ (FieldsAt.mid hF hk) Tryd.underlying67 rfl (by kernel_rfl)) <| pkq (.string ⟨a.toArray⟩) ?_
  refine pcq 51 #[.agg (fieldC k (ks k)).toArray, .string ⟨a.toArray⟩] Tryd.func51 ((preads_0 vs k gp (ks k) a _ hv hk (FieldsAt.box hF k hk) hgp (hks k hk).1 he).mono ?_)
  rintro e V81 ⟨rfl, hq2, kV81⟩
  rw [hq] at hq2
  refine ⟨_, rfl, ?_⟩
  have h82 := kV81.bO hga
  have h84 := kV81.bO h10
  have h85 := kV81.bO h20
  have h86 : FieldsAt V81 g gp ks := FieldsAt.keeps (N := 0) hF kV81 (fun e => by unfold Own.One at e; omega) (fun i hi e => by unfold Own.One at e; have := hks i hi; omega)
  have K87 : Keeps ((fun j => j = r1 ∨ j = r2 ∨ j = gp ∨ j = ga)) w V81 := K0.then kV81 (fun i hi hm => .inr (.inr (.inl hm)))
  refine pkq (.int .i64 0) <| ps_end <| sy_a ⟨#[u0, u1, pT r1 0, pT r2 0, pT gp 0, pT gall 0, pT ga 0, .string ⟨x.toArray⟩, .string ⟨a.toArray⟩, .bool true, .int .i64 0, u11, u12, u13, u14, iN k, .slice (some ⟨g, 0, none⟩) 11 11, .int .i64 11, .bool false, u19, u20, u21, u22, u23, .tuple #[.string ⟨a.toArray⟩, .bool true], .string ⟨x.toArray⟩, .tuple #[.string ⟨a.toArray⟩, .bool true], .string ⟨a.toArray⟩, .bool true, .bool true, .bool false, u31, u32, u33, .slice (some ⟨g, 0, none⟩) 11 11, iN k, pT g (k * 5), .agg (fieldC k (ks k)).toArray, .string ⟨a.toArray⟩, .int .i64 0, u40, u41, u42, u43, u44, u45, u46, u47, u48, u49, u50, u51, u52, u53, u54, u55, u56, u57, u58, u59, u60, u61, u62, u63, u64, u65, u66, u67, u68, u69], []⟩ <| then_n <| syI_seq (part_pParse 32094) (part_pParse 32095) (by kernel_rfl) <| syI_seq (part_pParse 64188) (part_pParse 64189) (by kernel_rfl) <| syI_reg (by kernel_rfl) (fun ⟨a, w, h⟩ => hL ⟨a, w, h⟩) <| rg_plain 13 (opsAt (part_pParse 64188)) [0, 1, 2, 3, 4, 5, 6, 7, 8, 9, 10, 11, 12] (by kernel_rfl) (by kernel_rfl) <| pkq (.int .i64 0) <| pkq (.bool true) <| pkq (.bool true) <| ppq (iN k) (ldk 3 ga 0 h82) <| ppq (.bool true) (eqt (((k : Nat) : Int)) ((1) : Int) (by omega)) <| pkq (.bool true) ?_
  refine pkq (.bool true) <| pkq (pT gp 1) <| ppq (.int .i64 q.mage) (ldc 3 gp 1 (rc (hq2) (rfl))) <| pkq (pT gp 0) <| ppq (.int .i64 q.unb) (ldc 3 gp 0 (rc (hq2) (rfl))) <| ppq (.bool true) (dct (((q.mage) : Int) > ((q.unb) : Int)) (by omega)) <| pkq (.bool true) <| ps_end <| sy_a ⟨#[u0, u1, pT r1 0, pT r2 0, pT gp 0, pT gall 0, pT ga 0, .string ⟨x.toArray⟩, .string ⟨a.toArray⟩, .bool true, .int .i64 0, u11, u12, u13, u14, iN k, .slice (some ⟨g, 0, none⟩) 11 11, .int .i64 11, .bool false, u19, u20, u21, u22, u23, .tuple #[.string ⟨a.toArray⟩, .bool true], .string ⟨x.toArray⟩, .tuple #[.string ⟨a.toArray⟩, .bool true], .string ⟨a.toArray⟩, .bool true, .bool true, .bool false, u31, u32, u33, .slice (some ⟨g, 0, none⟩) 11 11, iN k, pT g (k * 5), .agg (fieldC k (ks k)).toArray, .string ⟨a.toArray⟩, .int .i64 0, .int .i64 0, .bool true, .bool true, iN k, .bool true, .bool true, .bool true, pT gp 1, .int .i64 q.mage, pT gp 0, .int .i64 q.unb, .bool true, .bool true, u53, u54, u55, u56, u57, u58, u59, u60, u61, u62, u63, u64, u65, u66, u67, u68, u69], []⟩ <| then_n <| syI_yes (.tmp 52) (part_pParse 128378) (part_pParse 128379) (by kernel_rfl) (by kernel_rfl) <| syI_reg (by kernel_rfl) (fun ⟨a, w, h⟩ => hL ⟨a, w, h⟩) <| rg_plain 14 (opsAt (part_pParse 128378)) [0] (by kernel_rfl) (by kernel_rfl) <| pkq (.int .i64 9) ?_
  refine ps_end <| sy_a ⟨#[u0, u1, pT r1 0, pT r2 0, pT gp 0, pT gall 0, pT ga 0, .string ⟨x.toArray⟩, .string ⟨a.toArray⟩, .bool true, .int .i64 9, u11, u12, u13, u14, iN k, .slice (some ⟨g, 0, none⟩) 11 11, .int .i64 11, .bool false, u19, u20, u21, u22, u23, .tuple #[.string ⟨a.toArray⟩, .bool true], .string ⟨x.toArray⟩, .tuple #[.string ⟨a.toArray⟩, .bool true], .string ⟨a.toArray⟩, .bool true, .bool true, .bool false, u31, u32, u33, .slice (some ⟨g, 0, none⟩) 11 11, iN k, pT g (k * 5), .agg (fieldC k (ks k)).toArray, .string ⟨a.toArray⟩, .int .i64 0, .int .i64 0, .bool true, .bool true, iN k, .bool true, .bool true, .bool true, pT gp 1, .int .i64 q.mage, pT gp 0, .int .i64 q.unb, .bool true, .bool true, u53, u54, u55, u56, u57, u58, u59, u60, u61, u62, u63, u64, u65, u66, u67, u68, u69], []⟩ <| then_n <| syI_seq (part_pParse 64190) (part_pParse 64191) (by kernel_rfl) <| syI_seq (part_pParse 128380) (part_pParse 128381) (by kernel_rfl) <| syI_reg (by kernel_rfl) (fun ⟨a, w, h⟩ => hL ⟨a, w, h⟩) <| rg_plain 15 (opsAt (part_pParse 128380)) [0, 1] (by kernel_rfl) (by kernel_rfl) <| pkq (.int .i64 9) <| pkq (.bool true) <| ps_end <| sy_a ⟨#[u0, u1, pT r1 0, pT r2 0, pT gp 0, pT gall 0, pT ga 0, .string ⟨x.toArray⟩, .string ⟨a.toArray⟩, .bool true, .int .i64 9, u11, u12, u13, u14, iN k, .slice (some ⟨g, 0, none⟩) 11 11, .int .i64 11, .bool false, u19, u20, u21, u22, u23, .tuple #[.string ⟨a.toArray⟩, .bool true], .string ⟨x.toArray⟩, .tuple #[.string ⟨a.toArray⟩, .bool true], .string ⟨a.toArray⟩, .bool true, .bool true, .bool false, u31, u32, u33, .slice (some ⟨g, 0, none⟩) 11 11, iN k, pT g (k * 5), .agg (fieldC k (ks k)).toArray, .string ⟨a.toArray⟩, .int .i64 0, .int .i64 0, .bool true, .bool true, iN k, .bool true, .bool true, .bool true, pT gp 1, .int .i64 q.mage, pT gp 0, .int .i64 q.unb, .bool true, .bool true, .int .i64 9, .bool true, u55, u56, u57, u58, u59, u60, u61, u62, u63, u64, u65, u66, u67, u68, u69], []⟩ <| then_n <| syI_yes (.tmp 54) (part_pParse 256762) (part_pParse 256763) (by kernel_rfl) (by kernel_rfl) <| syI_seq (part_pParse 513524) (part_pParse 513525) (by kernel_rfl) ?_
  refine syI_np <| syI_reg (by kernel_rfl) (fun ⟨a, w, h⟩ => hL ⟨a, w, h⟩) <| an_begin 16 6 (opsAt (part_pParse 513524)) (fun W => (W.heap[ga]? = some (.cells (#[.int .i64 ((k : Nat) : Int)]) 3 (0, 0)))) #[false, false, false, false, false, false] (by kernel_rfl) (by kernel_rfl) (by kernel_rfl) (by kernel_rfl) ?_
  obtain ⟨V88, eV88, kV88⟩ := drew_step V81
  rw [eV88]
  clear eV88
  have h89 := kV88.bk h82
  have h91 := kV88.bk h84
  have h92 := kV88.bk h85
  have h93 : FieldsAt V88 g gp ks := h86.keepsN kV88
  have K95 := K87.nn kV88
  refine akq 0 (.agg parZ.cells) h89 <| akq 1 (.int .i64 9) h89 <| avq 2 (iN k) (fun W hS => ldk 3 ga 0 hS) h89 <| akq 3 (.agg #[.int .i64 9, iN k]) h89 <| an_o 4 <| nst 24 r1 parZ.cells h91 (by kernel_rfl) rfl (by kernel_rfl) fun V96 h97 kV96 => ?_
  have h98 := kV96.bO h89
  have h100 := kV96.bO h92
  have h101 : FieldsAt V96 g gp ks := FieldsAt.keeps (N := 0) h93 kV96 (fun e => by unfold Own.One at e; omega) (fun i hi e => by unfold Own.One at e; have := hks i hi; omega)
  have K103 : Keeps ((fun j => j = r1 ∨ j = r2 ∨ j = gp ∨ j = ga)) w V96 := K95.then kV96 (fun i hi hm => .inl hm)
  refine ⟨h98, ?_⟩
  refine an_o 5 ?_
  obtain ⟨V104, eV104, kV104⟩ := rowset_step V96 r2 (#[.int .i64 9, .int .i64 ((k : Nat) : Int)])
  have h105 : V104.heap[r2]? = some (.cells (#[.int .i64 9, .int .i64 ((k : Nat) : Int)]) 46 (0, 0)) := eV104 ▸ setRow_heap _ _ _ _ _ _ h100
  refine nzq (w' := V104) (by rw [← eV104]; exact exec_store_row 46 (.tmp 3) (.tmp 58) (by kernel_rfl) r2 (#[.int .i64 9, iN k]) (by kernel_rfl) (by kernel_rfl) 46 (#[.int .i64 0, .int .i64 0]) h100 (by kernel_rfl) rfl (by kernel_rfl)) ?_
  clear eV104
  have h106 := kV104.bO h98
  have h108 : FieldsAt V104 g gp ks := FieldsAt.keeps (N := 0) h101 kV104 (fun e => by unfold Own.One at e; omega) (fun i hi e => by unfold Own.One at e; have := hks i hi; omega)
  have h110 := kV104.bO h97
  have K111 : Keeps ((fun j => j = r1 ∨ j = r2 ∨ j = gp ∨ j = ga)) w V104 := K103.then kV104 (fun i hi hm => .inr (.inl hm))
  refine ⟨h106, ?_⟩
  refine an_end (by kernel_rfl) <| sy_a ⟨#[u0, u1, pT r1 0, pT r2 0, pT gp 0, pT gall 0, pT ga 0, .string ⟨x.toArray⟩, .string ⟨a.toArray⟩, .bool true, .int .i64 9, u11, u12, u13, u14, iN k, .slice (some ⟨g, 0, none⟩) 11 11, .int .i64 11, .bool false, u19, u20, u21, u22, u23, .tuple #[.string ⟨a.toArray⟩, .bool true], .string ⟨x.toArray⟩, .tuple #[.string ⟨a.toArray⟩, .bool true], .string ⟨a.toArray⟩, .bool true, .bool true, .bool false, u31, u32, u33, .slice (some ⟨g, 0, none⟩) 11 11, iN k, pT g (k * 5), .agg (fieldC k (ks k)).toArray, .string ⟨a.toArray⟩, .int .i64 0, .int .i64 0, .bool true, .bool true, iN k, .bool true, .bool true, .bool true, pT gp 1, .int .i64 q.mage, pT gp 0, .int .i64 q.unb, .bool true, .bool true, .int .i64 9, .bool true, .agg parZ.cells, .int .i64 9, iN k, .agg #[.int .i64 9, iN k], u59, u60, u61, u62, u63, u64, u65, u66, u67, u68, u69], []⟩ <| then_n <| syI_ret (by kernel_rfl) <| then_r <| blk_r ?_
  exact hR _ _ h110 h105 K111
theorem pParse_go1 {l N : Nat} {u0 u1 u8 u9 u10 u11 u12 u13 u14 u15 u16 u17 u18 u19 u20 u21 u22 u23 u24 u25 u26 u27 u28 u29 u30 u31 u32 u33 u34 u35 u36 u37 u38 u39 u40 u41 u42 u43 u44 u45 u46 u47 u48 u49 u50 u51 u52 u53 u54 u55 u56 u57 u58 u59 u60 u61 u62 u63 u64 u65 u66 u67 u68 u69 : Value} (ga gp g gall r1 r2 k : Nat) (ks : Nat → Nat) (vs : List Int) (x : List UInt8) (hxl : x.length ≤ 100000000) (hv : vs.length = k) (w : World) (Q : Exit → Act → World → Prop) (hL : ¬ LetsOut Q) (hds : ga ≠ gp ∧ ga ≠ r1 ∧ ga ≠ r2 ∧ gp ≠ r1 ∧ gp ≠ r2 ∧ r1 ≠ r2 ∧ g ≠ gp ∧ g ≠ r1 ∧ g ≠ r2 ∧ g ≠ ga ∧ gall ≠ gp ∧ gall ≠ r1 ∧ gall ≠ r2 ∧ gall ≠ ga) (hks : ∀ i, i < 11 → ks i ≠ gp ∧ ks i ≠ r1 ∧ ks i ≠ r2 ∧ ks i ≠ ga) (hga : w.heap[ga]? = some (.cells #[.int .i64 ((k : Nat) : Int)] 3 (0, 0))) (hgp : w.heap[gp]? = some (.cells (parOfL vs).cells 24 (0, 0))) (hgl : w.heap[gall]? = some (.cells #[.slice (some ⟨g, 0, none⟩) 11 11] 61 (0, 0))) (h10 : w.heap[r1]? = some (.cells parZ.cells 24 (0, 0))) (h20 : w.heap[r2]? = some (.cells #[.int .i64 0, .int .i64 0] 46 (0, 0))) (hF : FieldsAt w g gp ks) (a : List UInt8) (hx0 : x = a ++ [10]) (hk : k < 11) (he : rerr k a = 0) (hk1 : k = 1) (ho : ¬ (parOfL (vs ++ [((pln k a).1 : Int)])).unb < (parOfL (vs ++ [((pln k a).1 : Int)])).mage) (hQ : ∀ (c : Act) (W : World), W.heap[ga]? = some (.cells #[.int .i64 ((k + 1 : Nat) : Int)] 3 (0, 0)) → W.heap[gp]? = some (.cells (parOfL (vs ++ [((pln k a).1 : Int)])).cells 24 (0, 0)) → W.heap[gall]? = some (.cells #[.slice (some ⟨g, 0, none⟩) 11 11] 61 (0, 0)) → W.heap[r1]? = some (.cells parZ.cells 24 (0, 0)) → W.heap[r2]? = some (.cells #[.int .i64 0, .int .i64 0] 46 (0, 0)) → FieldsAt W g gp ks → Keeps (fun j => j = r1 ∨ j = r2 ∨ j = gp ∨ j = ga) w W → Q .normal c W) :
    (part_pParse 501).wpIn (Fence.wide.inRound l) N Tryd.prog Q ⟨#[u0, u1, .pointer (some ⟨r1, 0, none⟩), .pointer (some ⟨r2, 0, none⟩), .pointer (some ⟨gp, 0, none⟩), .pointer (some ⟨gall, 0, none⟩), .pointer (some ⟨ga, 0, none⟩), .string ⟨x.toArray⟩, u8, u9, u10, u11, u12, u13, u14, u15, u16, u17, u18, u19, u20, u21, u22, u23, u24, u25, u26, u27, u28, u29, u30, u31, u32, u33, u34, u35, u36, u37, u38, u39, u40, u41, u42, u43, u44, u45, u46, u47, u48, u49, u50, u51, u52, u53, u54, u55, u56, u57, u58, u59, u60, u61, u62, u63, u64, u65, u66, u67, u68, u69], []⟩ w := by
  obtain ⟨q, hq⟩ : ∃ q, parOfL (vs ++ [((pln k a).1 : Int)]) = q := ⟨_, rfl⟩
  rw [hq] at ho
  have K0 : Keeps ((fun j => j = r1 ∨ j = r2 ∨ j = gp ∨ j = ga)) w w := Keeps.refl _ _
  refine syI_block 1 (part_pParse 1002) (by kernel_rfl) <| syI_seq (part_pParse 2004) (part_pParse 2005) (by kernel_rfl) <| syI_seq (part_pParse 4008) (part_pParse 4009) (by kernel_rfl) <| syI_reg (by kernel_rfl) (fun ⟨a, w, h⟩ => hL ⟨a, w, h⟩) <| rg_plain 6 (opsAt (part_pParse 4008)) [0, 1, 2, 3] (by kernel_rfl) (by kernel_rfl) <| ppq (iN k) (ldk 3 ga 0 hga) <| ppq (.slice (some ⟨g, 0, none⟩) 11 11) (ldk 61 gall 0 hgl) <| ppq (.int .i64 11) (exec_len (.tmp 16) 61 _ (by kernel_rfl) Tryd.underlying61 (some ⟨g, 0, none⟩) 11 11 (by kernel_rfl)) <| ppq (.bool false) (eqf (((k : Nat) : Int)) ((11) : Int) (by omega)) <| ps_end <| sy_a ⟨#[u0, u1, pT r1 0, pT r2 0, pT gp 0, pT gall 0, pT ga 0, .string ⟨x.toArray⟩, u8, u9, u10, u11, u12, u13, u14, iN k, .slice (some ⟨g, 0, none⟩) 11 11, .int .i64 11, .bool false, u19, u20, u21, u22, u23, u24, u25, u26, u27, u28, u29, u30, u31, u32, u33, u34, u35, u36, u37, u38, u39, u40, u41, u42, u43, u44, u45, u46, u47, u48, u49, u50, u51, u52, u53, u54, u55, u56, u57, u58, u59, u60, u61, u62, u63, u64, u65, u66, u67, u68, u69], []⟩ <| then_n <| syI_no (.tmp 18) (part_pParse 8018) (part_pParse 8019) (by kernel_rfl) (by kernel_rfl) <| syI_skip (by kernel_rfl) ?_
  refine then_n <| syI_seq (part_pParse 4010) (part_pParse 4011) (by kernel_rfl) <| syI_reg (by kernel_rfl) (fun ⟨a, w, h⟩ => hL ⟨a, w, h⟩) <| rg_plain 9 (opsAt (part_pParse 4010)) [0, 1, 2, 3, 4, 5, 6] (by kernel_rfl) (by kernel_rfl) <| pkq (.string ⟨x.toArray⟩) ?_
  refine pcq 50 #[.string ⟨x.toArray⟩, .string { data := #[10] }] Tryd.func50 ((cutS_yes x a _ hxl hx0).mono ?_)
  rintro e w1 ⟨rfl, rfl⟩
  refine ⟨_, rfl, ?_⟩
  refine pkq (.tuple #[.string ⟨a.toArray⟩, .bool true]) <| pkq (.string ⟨a.toArray⟩) <| pkq (.bool true) <| pkq (.string ⟨a.toArray⟩) <| pkq (.bool true) <| ps_end <| sy_a ⟨#[u0, u1, pT r1 0, pT r2 0, pT gp 0, pT gall 0, pT ga 0, .string ⟨x.toArray⟩, .string ⟨a.toArray⟩, .bool true, u10, u11, u12, u13, u14, iN k, .slice (some ⟨g, 0, none⟩) 11 11, .int .i64 11, .bool false, u19, u20, u21, u22, u23, .tuple #[.string ⟨a.toArray⟩, .bool true], .string ⟨x.toArray⟩, .tuple #[.string ⟨a.toArray⟩, .bool true], .string ⟨a.toArray⟩, .bool true, u29, u30, u31, u32, u33, u34, u35, u36, u37, u38, u39, u40, u41, u42, u43, u44, u45, u46, u47, u48, u49, u50, u51, u52, u53, u54, u55, u56, u57, u58, u59, u60, u61, u62, u63, u64, u65, u66, u67, u68, u69], []⟩ <| then_n <| syI_seq (part_pParse 8022) (part_pParse 8023) (by kernel_rfl) <| syI_seq (part_pParse 16044) (part_pParse 16045) (by kernel_rfl) <| syI_reg (by kernel_rfl) (fun ⟨a, w, h⟩ => hL ⟨a, w, h⟩) <| rg_plain 10 (opsAt (part_pParse 16044)) [0, 1] (by kernel_rfl) (by kernel_rfl) <| pkq (.bool true) <| pkq (.bool false) ?_
  refine ps_end <| sy_a ⟨#[u0, u1, pT r1 0, pT r2 0, pT gp 0, pT gall 0, pT ga 0, .string ⟨x.toArray⟩, .string ⟨a.toArray⟩, .bool true, u10, u11, u12, u13, u14, iN k, .slice (some ⟨g, 0, none⟩) 11 11, .int .i64 11, .bool false, u19, u20, u21, u22, u23, .tuple #[.string ⟨a.toArray⟩, .bool true], .string ⟨x.toArray⟩, .tuple #[.string ⟨a.toArray⟩, .bool true], .string ⟨a.toArray⟩, .bool true, .bool true, .bool false, u31, u32, u33, u34, u35, u36, u37, u38, u39, u40, u41, u42, u43, u44, u45, u46, u47, u48, u49, u50, u51, u52, u53, u54, u55, u56, u57, u58, u59, u60, u61, u62, u63, u64, u65, u66, u67, u68, u69], []⟩ <| then_n <| syI_no (.tmp 30) (part_pParse 32090) (part_pParse 32091) (by kernel_rfl) (by kernel_rfl) <| syI_skip (by kernel_rfl) <| then_n <| syI_seq (part_pParse 16046) (part_pParse 16047) (by kernel_rfl) <| syI_reg (by kernel_rfl) (fun ⟨a, w, h⟩ => hL ⟨a, w, h⟩) <| rg_plain 12 (opsAt (part_pParse 16046)) [0, 1, 2, 3, 4, 5, 6] (by kernel_rfl) (by kernel_rfl) <| ppq (.slice (some ⟨g, 0, none⟩) 11 11) (ldk 61 gall 0 hgl) <| ppq (iN k) (ldk 3 ga 0 hga) <| ppq (pT g (k * 5)) (exec_cast (v := pT g (0 + k * 5)) (by simp) (exec_indexAt_slice 61 (.tmp 34) (.tmp 35) (by kernel_rfl) g 0 11 11 (by kernel_rfl) .i64 k (by kernel_rfl) _ 5 Tryd.underlying61 (by kernel_rfl) (by omega))) <| ppq (.agg (fieldC k (ks k)).toArray) (exec_load_mid 67 (.tmp 36) (by kernel_rfl) g (k * 5) (by kernel_rfl) (fieldC k (ks k)) _ (FieldsAt.mid hF hk) Tryd.underlying67 rfl (by kernel_rfl)) <| pkq (.string ⟨a.toArray⟩) ?_
  refine pcq 51 #[.agg (fieldC k (ks k)).toArray, .string ⟨a.toArray⟩] Tryd.func51 ((preads_0 vs k gp (ks k) a _ hv hk (FieldsAt.box hF k hk) hgp (hks k hk).1 he).mono ?_)
  rintro e V112 ⟨rfl, hq2, kV112⟩
  rw [hq] at hq2
  refine ⟨_, rfl, ?_⟩
  have h113 := kV112.bO hga
  have h114 := kV112.bO hgl
  have h115 := kV112.bO h10
  have h116 := kV112.bO h20
  have h117 : FieldsAt V112 g gp ks := FieldsAt.keeps (N := 0) hF kV112 (fun e => by unfold Own.One at e; omega) (fun i hi e => by unfold Own.One at e; have := hks i hi; omega)
  have K118 : Keeps ((fun j => j = r1 ∨ j = r2 ∨ j = gp ∨ j = ga)) w V112 := K0.then kV112 (fun i hi hm => .inr (.inr (.inl hm)))
  refine pkq (.int .i64 0) <| ps_end <| sy_a ⟨#[u0, u1, pT r1 0, pT r2 0, pT gp 0, pT gall 0, pT ga 0, .string ⟨x.toArray⟩, .string ⟨a.toArray⟩, .bool true, .int .i64 0, u11, u12, u13, u14, iN k, .slice (some ⟨g, 0, none⟩) 11 11, .int .i64 11, .bool false, u19, u20, u21, u22, u23, .tuple #[.string ⟨a.toArray⟩, .bool true], .string ⟨x.toArray⟩, .tuple #[.string ⟨a.toArray⟩, .bool true], .string ⟨a.toArray⟩, .bool true, .bool true, .bool false, u31, u32, u33, .slice (some ⟨g, 0, none⟩) 11 11, iN k, pT g (k * 5), .agg (fieldC k (ks k)).toArray, .string ⟨a.toArray⟩, .int .i64 0, u40, u41, u42, u43, u44, u45, u46, u47, u48, u49, u50, u51, u52, u53, u54, u55, u56, u57, u58, u59, u60, u61, u62, u63, u64, u65, u66, u67, u68, u69], []⟩ <| then_n <| syI_seq (part_pParse 32094) (part_pParse 32095) (by kernel_rfl) <| syI_seq (part_pParse 64188) (part_pParse 64189) (by kernel_rfl) <| syI_reg (by kernel_rfl) (fun ⟨a, w, h⟩ => hL ⟨a, w, h⟩) <| rg_plain 13 (opsAt (part_pParse 64188)) [0, 1, 2, 3, 4, 5, 6, 7, 8, 9, 10, 11, 12] (by kernel_rfl) (by kernel_rfl) <| pkq (.int .i64 0) <| pkq (.bool true) <| pkq (.bool true) <| ppq (iN k) (ldk 3 ga 0 h113) <| ppq (.bool true) (eqt (((k : Nat) : Int)) ((1) : Int) (by omega)) <| pkq (.bool true) ?_
  refine pkq (.bool true) <| pkq (pT gp 1) <| ppq (.int .i64 q.mage) (ldc 3 gp 1 (rc (hq2) (rfl))) <| pkq (pT gp 0) <| ppq (.int .i64 q.unb) (ldc 3 gp 0 (rc (hq2) (rfl))) <| ppq (.bool false) (dcf (((q.mage) : Int) > ((q.unb) : Int)) (by omega)) <| pkq (.bool false) <| ps_end <| sy_a ⟨#[u0, u1, pT r1 0, pT r2 0, pT gp 0, pT gall 0, pT ga 0, .string ⟨x.toArray⟩, .string ⟨a.toArray⟩, .bool true, .int .i64 0, u11, u12, u13, u14, iN k, .slice (some ⟨g, 0, none⟩) 11 11, .int .i64 11, .bool false, u19, u20, u21, u22, u23, .tuple #[.string ⟨a.toArray⟩, .bool true], .string ⟨x.toArray⟩, .tuple #[.string ⟨a.toArray⟩, .bool true], .string ⟨a.toArray⟩, .bool true, .bool true, .bool false, u31, u32, u33, .slice (some ⟨g, 0, none⟩) 11 11, iN k, pT g (k * 5), .agg (fieldC k (ks k)).toArray, .string ⟨a.toArray⟩, .int .i64 0, .int .i64 0, .bool true, .bool true, iN k, .bool true, .bool true, .bool true, pT gp 1, .int .i64 q.mage, pT gp 0, .int .i64 q.unb, .bool false, .bool false, u53, u54, u55, u56, u57, u58, u59, u60, u61, u62, u63, u64, u65, u66, u67, u68, u69], []⟩ <| then_n <| syI_no (.tmp 52) (part_pParse 128378) (part_pParse 128379) (by kernel_rfl) (by kernel_rfl) <| syI_skip (by kernel_rfl) <| then_n <| syI_seq (part_pParse 64190) (part_pParse 64191) (by kernel_rfl) ?_
  refine syI_seq (part_pParse 128380) (part_pParse 128381) (by kernel_rfl) <| syI_reg (by kernel_rfl) (fun ⟨a, w, h⟩ => hL ⟨a, w, h⟩) <| rg_plain 15 (opsAt (part_pParse 128380)) [0, 1] (by kernel_rfl) (by kernel_rfl) <| pkq (.int .i64 0) <| pkq (.bool false) <| ps_end <| sy_a ⟨#[u0, u1, pT r1 0, pT r2 0, pT gp 0, pT gall 0, pT ga 0, .string ⟨x.toArray⟩, .string ⟨a.toArray⟩, .bool true, .int .i64 0, u11, u12, u13, u14, iN k, .slice (some ⟨g, 0, none⟩) 11 11, .int .i64 11, .bool false, u19, u20, u21, u22, u23, .tuple #[.string ⟨a.toArray⟩, .bool true], .string ⟨x.toArray⟩, .tuple #[.string ⟨a.toArray⟩, .bool true], .string ⟨a.toArray⟩, .bool true, .bool true, .bool false, u31, u32, u33, .slice (some ⟨g, 0, none⟩) 11 11, iN k, pT g (k * 5), .agg (fieldC k (ks k)).toArray, .string ⟨a.toArray⟩, .int .i64 0, .int .i64 0, .bool true, .bool true, iN k, .bool true, .bool true, .bool true, pT gp 1, .int .i64 q.mage, pT gp 0, .int .i64 q.unb, .bool false, .bool false, .int .i64 0, .bool false, u55, u56, u57, u58, u59, u60, u61, u62, u63, u64, u65, u66, u67, u68, u69], []⟩ <| then_n <| syI_no (.tmp 54) (part_pParse 256762) (part_pParse 256763) (by kernel_rfl) (by kernel_rfl) <| syI_skip (by kernel_rfl) <| then_n <| syI_reg (by kernel_rfl) (fun ⟨a, w, h⟩ => hL ⟨a, w, h⟩) <| rg_plain 17 (opsAt (part_pParse 64191)) [0, 1, 2] (by kernel_rfl) (by kernel_rfl) <| ppq (iN k) (ldk 3 ga 0 h113) ?_
  refine ppq (iN (k + 1)) (exec_cast (congrArg (Value.int .i64) (wrapN (k + 1) (by omega))) (by kernel_rfl)) <| pce 3 ga 0 (iN (k + 1)) (#[.int .i64 ((k + 1 : Nat) : Int)]) h113 (rc (h113) (by kernel_rfl)) (by kernel_rfl) (u := iN k) fun V119 h120 kV119 => ?_
  have h121 := kV119.bO h114
  have h122 := kV119.bO h115
  have h123 := kV119.bO h116
  have h124 : FieldsAt V119 g gp ks := FieldsAt.keeps (N := 0) h117 kV119 (fun e => by unfold Own.One at e; omega) (fun i hi e => by unfold Own.One at e; have := hks i hi; omega)
  have h125 := kV119.bO hq2
  have K126 : Keeps ((fun j => j = r1 ∨ j = r2 ∨ j = gp ∨ j = ga)) w V119 := K118.then kV119 (fun i hi hm => .inr (.inr (.inr hm)))
  refine ps_end <| sy_a ⟨#[u0, u1, pT r1 0, pT r2 0, pT gp 0, pT gall 0, pT ga 0, .string ⟨x.toArray⟩, .string ⟨a.toArray⟩, .bool true, .int .i64 0, u11, u12, u13, u14, iN k, .slice (some ⟨g, 0, none⟩) 11 11, .int .i64 11, .bool false, u19, u20, u21, u22, u23, .tuple #[.string ⟨a.toArray⟩, .bool true], .string ⟨x.toArray⟩, .tuple #[.string ⟨a.toArray⟩, .bool true], .string ⟨a.toArray⟩, .bool true, .bool true, .bool false, u31, u32, u33, .slice (some ⟨g, 0, none⟩) 11 11, iN k, pT g (k * 5), .agg (fieldC k (ks k)).toArray, .string ⟨a.toArray⟩, .int .i64 0, .int .i64 0, .bool true, .bool true, iN k, .bool true, .bool true, .bool true, pT gp 1, .int .i64 q.mage, pT gp 0, .int .i64 q.unb, .bool false, .bool false, .int .i64 0, .bool false, u55, u56, u57, u58, iN k, iN (k + 1), u61, u62, u63, u64, u65, u66, u67, u68, u69], []⟩ <| blk_n ?_
  exact hQ _ _ h120 (hq ▸ h125) h121 h122 h123 h124 K126
theorem pParse_go {l N : Nat} {u0 u1 u8 u9 u10 u11 u12 u13 u14 u15 u16 u17 u18 u19 u20 u21 u22 u23 u24 u25 u26 u27 u28 u29 u30 u31 u32 u33 u34 u35 u36 u37 u38 u39 u40 u41 u42 u43 u44 u45 u46 u47 u48 u49 u50 u51 u52 u53 u54 u55 u56 u57 u58 u59 u60 u61 u62 u63 u64 u65 u66 u67 u68 u69 : Value} (ga gp g gall r1 r2 k : Nat) (ks : Nat → Nat) (vs : List Int) (x : List UInt8) (hxl : x.length ≤ 100000000) (hv : vs.length = k) (w : World) (Q : Exit → Act → World → Prop) (hL : ¬ LetsOut Q) (hds : ga ≠ gp ∧ ga ≠ r1 ∧ ga ≠ r2 ∧ gp ≠ r1 ∧ gp ≠ r2 ∧ r1 ≠ r2 ∧ g ≠ gp ∧ g ≠ r1 ∧ g ≠ r2 ∧ g ≠ ga ∧ gall ≠ gp ∧ gall ≠ r1 ∧ gall ≠ r2 ∧ gall ≠ ga) (hks : ∀ i, i < 11 → ks i ≠ gp ∧ ks i ≠ r1 ∧ ks i ≠ r2 ∧ ks i ≠ ga) (hga : w.heap[ga]? = some (.cells #[.int .i64 ((k : Nat) : Int)] 3 (0, 0))) (hgp : w.heap[gp]? = some (.cells (parOfL vs).cells 24 (0, 0))) (hgl : w.heap[gall]? = some (.cells #[.slice (some ⟨g, 0, none⟩) 11 11] 61 (0, 0))) (h10 : w.heap[r1]? = some (.cells parZ.cells 24 (0, 0))) (h20 : w.heap[r2]? = some (.cells #[.int .i64 0, .int .i64 0] 46 (0, 0))) (hF : FieldsAt w g gp ks) (a : List UInt8) (hx0 : x = a ++ [10]) (hk : k < 11) (he : rerr k a = 0) (hk1 : k ≠ 1) (hQ : ∀ (c : Act) (W : World), W.heap[ga]? = some (.cells #[.int .i64 ((k + 1 : Nat) : Int)] 3 (0, 0)) → W.heap[gp]? = some (.cells (parOfL (vs ++ [((pln k a).1 : Int)])).cells 24 (0, 0)) → W.heap[gall]? = some (.cells #[.slice (some ⟨g, 0, none⟩) 11 11] 61 (0, 0)) → W.heap[r1]? = some (.cells parZ.cells 24 (0, 0)) → W.heap[r2]? = some (.cells #[.int .i64 0, .int .i64 0] 46 (0, 0)) → FieldsAt W g gp ks → Keeps (fun j => j = r1 ∨ j = r2 ∨ j = gp ∨ j = ga) w W → Q .normal c W) :
    (part_pParse 501).wpIn (Fence.wide.inRound l) N Tryd.prog Q ⟨#[u0, u1, .pointer (some ⟨r1, 0, none⟩), .pointer (some ⟨r2, 0, none⟩), .pointer (some ⟨gp, 0, none⟩), .pointer (some ⟨gall, 0, none⟩), .pointer (some ⟨ga, 0, none⟩), .string ⟨x.toArray⟩, u8, u9, u10, u11, u12, u13, u14, u15, u16, u17, u18, u19, u20, u21, u22, u23, u24, u25, u26, u27, u28, u29, u30, u31, u32, u33, u34, u35, u36, u37, u38, u39, u40, u41, u42, u43, u44, u45, u46, u47, u48, u49, u50, u51, u52, u53, u54, u55, u56, u57, u58, u59, u60, u61, u62, u63, u64, u65, u66, u67, u68, u69], []⟩ w := by
  obtain ⟨q, hq⟩ : ∃ q, parOfL (vs ++ [((pln k a).1 : Int)]) = q := ⟨_, rfl⟩
  have K0 : Keeps ((fun j => j = r1 ∨ j = r2 ∨ j = gp ∨ j = ga)) w w := Keeps.refl _ _
  refine syI_block 1 (part_pParse 1002) (by kernel_rfl) <| syI_seq (part_pParse 2004) (part_pParse 2005) (by kernel_rfl) <| syI_seq (part_pParse 4008) (part_pParse 4009) (by kernel_rfl) <| syI_reg (by kernel_rfl) (fun ⟨a, w, h⟩ => hL ⟨a, w, h⟩) <| rg_plain 6 (opsAt (part_pParse 4008)) [0, 1, 2, 3] (by kernel_rfl) (by kernel_rfl) <| ppq (iN k) (ldk 3 ga 0 hga) <| ppq (.slice (some ⟨g, 0, none⟩) 11 11) (ldk 61 gall 0 hgl) <| ppq (.int .i64 11) (exec_len (.tmp 16) 61 _ (by kernel_rfl) Tryd.underlying61 (some ⟨g, 0, none⟩) 11 11 (by kernel_rfl)) <| ppq (.bool false) (eqf (((k : Nat) : Int)) ((11) : Int) (by omega)) <| ps_end <| sy_a ⟨#[u0, u1, pT r1 0, pT r2 0, pT gp 0, pT gall 0, pT ga 0, .string ⟨x.toArray⟩, u8, u9, u10, u11, u12, u13, u14, iN k, .slice (some ⟨g, 0, none⟩) 11 11, .int .i64 11, .bool false, u19, u20, u21, u22, u23, u24, u25, u26, u27, u28, u29, u30, u31, u32, u33, u34, u35, u36, u37, u38, u39, u40, u41, u42, u43, u44, u45, u46, u47, u48, u49, u50, u51, u52, u53, u54, u55, u56, u57, u58, u59, u60, u61, u62, u63, u64, u65, u66, u67, u68, u69], []⟩ <| then_n <| syI_no (.tmp 18) (part_pParse 8018) (part_pParse 8019) (by kernel_rfl) (by kernel_rfl) <| syI_skip (by kernel_rfl) ?_
  refine then_n <| syI_seq (part_pParse 4010) (part_pParse 4011) (by kernel_rfl) <| syI_reg (by kernel_rfl) (fun ⟨a, w, h⟩ => hL ⟨a, w, h⟩) <| rg_plain 9 (opsAt (part_pParse 4010)) [0, 1, 2, 3, 4, 5, 6] (by kernel_rfl) (by kernel_rfl) <| pkq (.string ⟨x.toArray⟩) ?_
  refine pcq 50 #[.string ⟨x.toArray⟩, .string { data := #[10] }] Tryd.func50 ((cutS_yes x a _ hxl hx0).mono ?_)
  rintro e w1 ⟨rfl, rfl⟩
  refine ⟨_, rfl, ?_⟩
  refine pkq (.tuple #[.string ⟨a.toArray⟩, .bool true]) <| pkq (.string ⟨a.toArray⟩) <| pkq (.bool true) <| pkq (.string ⟨a.toArray⟩) <| pkq (.bool true) <| ps_end <| sy_a ⟨#[u0, u1, pT r1 0, pT r2 0, pT gp 0, pT gall 0, pT ga 0, .string ⟨x.toArray⟩, .string ⟨a.toArray⟩, .bool true, u10, u11, u12, u13, u14, iN k, .slice (some ⟨g, 0, none⟩) 11 11, .int .i64 11, .bool false, u19, u20, u21, u22, u23, .tuple #[.string ⟨a.toArray⟩, .bool true], .string ⟨x.toArray⟩, .tuple #[.string ⟨a.toArray⟩, .bool true], .string ⟨a.toArray⟩, .bool true, u29, u30, u31, u32, u33, u34, u35, u36, u37, u38, u39, u40, u41, u42, u43, u44, u45, u46, u47, u48, u49, u50, u51, u52, u53, u54, u55, u56, u57, u58, u59, u60, u61, u62, u63, u64, u65, u66, u67, u68, u69], []⟩ <| then_n <| syI_seq (part_pParse 8022) (part_pParse 8023) (by kernel_rfl) <| syI_seq (part_pParse 16044) (part_pParse 16045) (by kernel_rfl) <| syI_reg (by kernel_rfl) (fun ⟨a, w, h⟩ => hL ⟨a, w, h⟩) <| rg_plain 10 (opsAt (part_pParse 16044)) [0, 1] (by kernel_rfl) (by kernel_rfl) <| pkq (.bool true) <| pkq (.bool false) ?_
  refine ps_end <| sy_a ⟨#[u0, u1, pT r1 0, pT r2 0, pT gp 0, pT gall 0, pT ga 0, .string ⟨x.toArray⟩, .string ⟨a.toArray⟩, .bool true, u10, u11, u12, u13, u14, iN k, .slice (some ⟨g, 0, none⟩) 11 11, .int .i64 11, .bool false, u19, u20, u21, u22, u23, .tuple #[.string ⟨a.toArray⟩, .bool true], .string ⟨x.toArray⟩, .tuple #[.string ⟨a.toArray⟩, .bool true], .string ⟨a.toArray⟩, .bool true, .bool true, .bool false, u31, u32, u33, u34, u35, u36, u37, u38, u39, u40, u41, u42, u43, u44, u45, u46, u47, u48, u49, u50, u51, u52, u53, u54, u55, u56, u57, u58, u59, u60, u61, u62, u63, u64, u65, u66, u67, u68, u69], []⟩ <| then_n <| syI_no (.tmp 30) (part_pParse 32090) (part_pParse 32091) (by kernel_rfl) (by kernel_rfl) <| syI_skip (by kernel_rfl) <| then_n <| syI_seq (part_pParse 16046) (part_pParse 16047) (by kernel_rfl) <| syI_reg (by kernel_rfl) (fun ⟨a, w, h⟩ => hL ⟨a, w, h⟩) <| rg_plain 12 (opsAt (part_pParse 16046)) [0, 1, 2, 3, 4, 5, 6] (by kernel_rfl) (by kernel_rfl) <| ppq (.slice (some ⟨g, 0, none⟩) 11 11) (ldk 61 gall 0 hgl) <| ppq (iN k) (ldk 3 ga 0 hga) <| ppq (pT g (k * 5)) (exec_cast (v := pT g (0 + k * 5)) (by simp) (exec_indexAt_slice 61 (.tmp 34) (.tmp 35) (by kernel_rfl) g 0 11 11 (by kernel_rfl) .i64 k (by kernel_rfl) _ 5 Tryd.underlying61 (by kernel_rfl) (by omega))) <| ppq (.agg (fieldC k (ks k)).toArray) (exec_load_mid 67 (.tmp 36) (by kernel_rfl) g (k * 5) (by kernel_rfl) (fieldC k (ks k)) _ (FieldsAt.mid hF hk) Tryd.underlying67 rfl (by kernel_rfl)) <| pkq (.string ⟨a.toArray⟩) ?_
  refine pcq 51 #[.agg (fieldC k (ks k)).toArray, .string ⟨a.toArray⟩] Tryd.func51 ((preads_0 vs k gp (ks k) a _ hv hk (FieldsAt.box hF k hk) hgp (hks k hk).1 he).mono ?_)
  rintro e V127 ⟨rfl, hq2, kV127⟩
  rw [hq] at hq2
  refine ⟨_, rfl, ?_⟩
  have h128 := kV127.bO hga
  have h129 := kV127.bO hgl
  have h130 := kV127.bO h10
  have h131 := kV127.bO h20
  have h132 : FieldsAt V127 g gp ks := FieldsAt.keeps (N := 0) hF kV127 (fun e => by unfold Own.One at e; omega) (fun i hi e => by unfold Own.One at e; have := hks i hi; omega)
  have K133 : Keeps ((fun j => j = r1 ∨ j = r2 ∨ j = gp ∨ j = ga)) w V127 := K0.then kV127 (fun i hi hm => .inr (.inr (.inl hm)))
  refine pkq (.int .i64 0) <| ps_end <| sy_a ⟨#[u0, u1, pT r1 0, pT r2 0, pT gp 0, pT gall 0, pT ga 0, .string ⟨x.toArray⟩, .string ⟨a.toArray⟩, .bool true, .int .i64 0, u11, u12, u13, u14, iN k, .slice (some ⟨g, 0, none⟩) 11 11, .int .i64 11, .bool false, u19, u20, u21, u22, u23, .tuple #[.string ⟨a.toArray⟩, .bool true], .string ⟨x.toArray⟩, .tuple #[.string ⟨a.toArray⟩, .bool true], .string ⟨a.toArray⟩, .bool true, .bool true, .bool false, u31, u32, u33, .slice (some ⟨g, 0, none⟩) 11 11, iN k, pT g (k * 5), .agg (fieldC k (ks k)).toArray, .string ⟨a.toArray⟩, .int .i64 0, u40, u41, u42, u43, u44, u45, u46, u47, u48, u49, u50, u51, u52, u53, u54, u55, u56, u57, u58, u59, u60, u61, u62, u63, u64, u65, u66, u67, u68, u69], []⟩ <| then_n <| syI_seq (part_pParse 32094) (part_pParse 32095) (by kernel_rfl) <| syI_seq (part_pParse 64188) (part_pParse 64189) (by kernel_rfl) <| syI_reg (by kernel_rfl) (fun ⟨a, w, h⟩ => hL ⟨a, w, h⟩) <| rg_plain 13 (opsAt (part_pParse 64188)) [0, 1, 2, 3, 4, 5, 6, 7, 8, 9, 10, 11, 12] (by kernel_rfl) (by kernel_rfl) <| pkq (.int .i64 0) <| pkq (.bool true) <| pkq (.bool true) <| ppq (iN k) (ldk 3 ga 0 h128) <| ppq (.bool false) (eqf (((k : Nat) : Int)) ((1) : Int) (by omega)) <| pkq (.bool false) ?_
  refine pkq (.bool false) <| pnq <| pnq <| pnq <| pnq <| pnq <| pkq (.bool false) <| ps_end <| sy_a ⟨#[u0, u1, pT r1 0, pT r2 0, pT gp 0, pT gall 0, pT ga 0, .string ⟨x.toArray⟩, .string ⟨a.toArray⟩, .bool true, .int .i64 0, u11, u12, u13, u14, iN k, .slice (some ⟨g, 0, none⟩) 11 11, .int .i64 11, .bool false, u19, u20, u21, u22, u23, .tuple #[.string ⟨a.toArray⟩, .bool true], .string ⟨x.toArray⟩, .tuple #[.string ⟨a.toArray⟩, .bool true], .string ⟨a.toArray⟩, .bool true, .bool true, .bool false, u31, u32, u33, .slice (some ⟨g, 0, none⟩) 11 11, iN k, pT g (k * 5), .agg (fieldC k (ks k)).toArray, .string ⟨a.toArray⟩, .int .i64 0, .int .i64 0, .bool true, .bool true, iN k, .bool false, .bool false, .bool false, ud, ud, ud, ud, ud, .bool false, u53, u54, u55, u56, u57, u58, u59, u60, u61, u62, u63, u64, u65, u66, u67, u68, u69], []⟩ <| then_n <| syI_no (.tmp 52) (part_pParse 128378) (part_pParse 128379) (by kernel_rfl) (by kernel_rfl) <| syI_skip (by kernel_rfl) <| then_n <| syI_seq (part_pParse 64190) (part_pParse 64191) (by kernel_rfl) ?_
  refine syI_seq (part_pParse 128380) (part_pParse 128381) (by kernel_rfl) <| syI_reg (by kernel_rfl) (fun ⟨a, w, h⟩ => hL ⟨a, w, h⟩) <| rg_plain 15 (opsAt (part_pParse 128380)) [0, 1] (by kernel_rfl) (by kernel_rfl) <| pkq (.int .i64 0) <| pkq (.bool false) <| ps_end <| sy_a ⟨#[u0, u1, pT r1 0, pT r2 0, pT gp 0, pT gall 0, pT ga 0, .string ⟨x.toArray⟩, .string ⟨a.toArray⟩, .bool true, .int .i64 0, u11, u12, u13, u14, iN k, .slice (some ⟨g, 0, none⟩) 11 11, .int .i64 11, .bool false, u19, u20, u21, u22, u23, .tuple #[.string ⟨a.toArray⟩, .bool true], .string ⟨x.toArray⟩, .tuple #[.string ⟨a.toArray⟩, .bool true], .string ⟨a.toArray⟩, .bool true, .bool true, .bool false, u31, u32, u33, .slice (some ⟨g, 0, none⟩) 11 11, iN k, pT g (k * 5), .agg (fieldC k (ks k)).toArray, .string ⟨a.toArray⟩, .int .i64 0, .int .i64 0, .bool true, .bool true, iN k, .bool false, .bool false, .bool false, ud, ud, ud, ud, ud, .bool false, .int .i64 0, .bool false, u55, u56, u57, u58, u59, u60, u61, u62, u63, u64, u65, u66, u67, u68, u69], []⟩ <| then_n <| syI_no (.tmp 54) (part_pParse 256762) (part_pParse 256763) (by kernel_rfl) (by kernel_rfl) <| syI_skip (by kernel_rfl) <| then_n <| syI_reg (by kernel_rfl) (fun ⟨a, w, h⟩ => hL ⟨a, w, h⟩) <| rg_plain 17 (opsAt (part_pParse 64191)) [0, 1, 2] (by kernel_rfl) (by kernel_rfl) <| ppq (iN k) (ldk 3 ga 0 h128) ?_
  refine ppq (iN (k + 1)) (exec_cast (congrArg (Value.int .i64) (wrapN (k + 1) (by omega))) (by kernel_rfl)) <| pce 3 ga 0 (iN (k + 1)) (#[.int .i64 ((k + 1 : Nat) : Int)]) h128 (rc (h128) (by kernel_rfl)) (by kernel_rfl) (u := iN k) fun V134 h135 kV134 => ?_
  have h136 := kV134.bO h129
  have h137 := kV134.bO h130
  have h138 := kV134.bO h131
  have h139 : FieldsAt V134 g gp ks := FieldsAt.keeps (N := 0) h132 kV134 (fun e => by unfold Own.One at e; omega) (fun i hi e => by unfold Own.One at e; have := hks i hi; omega)
  have h140 := kV134.bO hq2
  have K141 : Keeps ((fun j => j = r1 ∨ j = r2 ∨ j = gp ∨ j = ga)) w V134 := K133.then kV134 (fun i hi hm => .inr (.inr (.inr hm)))
  refine ps_end <| sy_a ⟨#[u0, u1, pT r1 0, pT r2 0, pT gp 0, pT gall 0, pT ga 0, .string ⟨x.toArray⟩, .string ⟨a.toArray⟩, .bool true, .int .i64 0, u11, u12, u13, u14, iN k, .slice (some ⟨g, 0, none⟩) 11 11, .int .i64 11, .bool false, u19, u20, u21, u22, u23, .tuple #[.string ⟨a.toArray⟩, .bool true], .string ⟨x.toArray⟩, .tuple #[.string ⟨a.toArray⟩, .bool true], .string ⟨a.toArray⟩, .bool true, .bool true, .bool false, u31, u32, u33, .slice (some ⟨g, 0, none⟩) 11 11, iN k, pT g (k * 5), .agg (fieldC k (ks k)).toArray, .string ⟨a.toArray⟩, .int .i64 0, .int .i64 0, .bool true, .bool true, iN k, .bool false, .bool false, .bool false, ud, ud, ud, ud, ud, .bool false, .int .i64 0, .bool false, u55, u56, u57, u58, iN k, iN (k + 1), u61, u62, u63, u64, u65, u66, u67, u68, u69], []⟩ <| blk_n ?_
  exact hQ _ _ h135 (hq ▸ h140) h136 h137 h138 h139 K141
end Go.Proofs.YtpflmldmbpnllaaDoor
namespace Go.Proofs.YtpflmldmbpnllaaDoor
set_option maxRecDepth 100000
set_option maxHeartbeats 4000000
open Go Go.RowKit Go.Own Go.Shelf
theorem feed_get : ∀ (l : List UInt8) (j : Nat), feedAt l = some j → l.take (j + 1) = l.take j ++ [10]
  | [], j, h => by simp [feedAt] at h
  | c :: r, j, h => by
    unfold feedAt at h
    by_cases hc : c = 10
    · rw [if_pos hc] at h
      obtain rfl : 0 = j := by simpa using h
      simp [hc]
    · rw [if_neg hc] at h
      cases hf : feedAt r with
      | none => rw [hf] at h; simp at h
      | some m =>
        rw [hf] at h
        obtain rfl : m + 1 = j := by simpa using h
        simp [feed_get r m hf]
theorem feed_snoc : ∀ (a : List UInt8), feedAt (a ++ [10]) ≠ none
  | [], h => by simp [feedAt] at h
  | c :: r, h => by
    rw [List.cons_append, feedAt] at h
    by_cases hc : c = 10
    · rw [if_pos hc] at h; cases h
    · rw [if_neg hc] at h
      cases hf : feedAt (r ++ [10]) with
      | none => exact feed_snoc r hf
      | some m => rw [hf] at h; cases h
theorem no_suffix {x : List UInt8} (h : feedAt x = none) : Lib.hasSuffix x [10] = false := by
  cases hs : Lib.hasSuffix x [10] with
  | false => rfl
  | true =>
    unfold Lib.hasSuffix at hs
    rw [List.isSuffixOf_iff_suffix] at hs
    obtain ⟨a, rfl⟩ := hs
    exact absurd h (feed_snoc a)
theorem FieldsAt.turn {b bs : Nat} {A B : World} {g p : Nat} {ks : Nat → Nat} (h : FieldsAt A g p ks) (t : Turn b (One bs) A B) (hg : g ≠ bs) (hk : ∀ i, i < 11 → ks i ≠ bs) : FieldsAt B g p ks :=
  ⟨fun i j hi hj => by
    have e := h.cell i j hi hj
    revert e
    cases hc : A.cell? ⟨g, i * 5 + j, none⟩ with
    | none => intro e; rw [← e]; have hlt := h.glt; exact absurd (e.symm) (by rcases (show j = 0 ∨ j = 1 ∨ j = 2 ∨ j = 3 ∨ j = 4 by omega) with rfl | rfl | rfl | rfl | rfl <;> exact fun x => by cases x)
    | some v => intro e; rw [t.cell hc hg]; exact e, fun i hi => t.cell (h.box i hi) (hk i hi)⟩
theorem turn_own {b bs : Nat} {w A B : World} (t : Turn b (One bs) A B) (k : Keeps Nob w A) (hb : w.heap.size ≤ bs) (hB : w.heap.size ≤ b) : Keeps Nob w B :=
  ⟨t.os.trans k.os, t.tape.trans k.tape, t.output.trans k.output, Nat.le_trans k.size t.size, fun i hi hm => by
    have h1 := k.block i hi hm
    cases ho : w.heap[i]? with
    | none => have := Array.getElem?_eq_none_iff.1 ho; omega
    | some o => exact t.same i o (h1.trans ho) (fun (e : i = bs) => by omega) (.inl (by omega))⟩
theorem splS.turn {bp bs bn b k : Nat} {l : List UInt8} {A B : World} (h : splS bp bs bn l k A) (t : Turn b Nob A B) : splS bp bs bn l k B :=
  ⟨t.same _ _ h.1 (fun x => x) (.inr rfl), t.same _ _ h.2.1 (fun x => x) (.inr rfl), t.same _ _ h.2.2 (fun x => x) (.inr rfl)⟩
theorem perr_bad {k : Nat} {vs : List Int} {a : List UInt8} (h : rerr k a ≠ 0) : perr k vs a = rerr k a := by rw [perr_r, if_pos h]
theorem perr_ord {k : Nat} {vs : List Int} {a : List UInt8} (h : rerr k a = 0) (h1 : k = 1 ∧ vs[0]?.getD 0 < ((pln k a).1 : Int)) : perr k vs a = 9 := by rw [perr_r, if_neg (by rw [h]; simp), if_pos h1]
theorem perr_ok {k : Nat} {vs : List Int} {a : List UInt8} (h : rerr k a = 0) (h1 : ¬ (k = 1 ∧ vs[0]?.getD 0 < ((pln k a).1 : Int))) : perr k vs a = 0 := by rw [perr_r, if_neg (by rw [h]; simp), if_neg h1]
theorem ord_iff {vs : List Int} {n : Int} (h : vs.length = 1) : (parOfL (vs ++ [n])).unb = vs[0]?.getD 0 ∧ (parOfL (vs ++ [n])).mage = n := by
  match vs, h with
  | [v], _ => exact ⟨rfl, rfl⟩
theorem pgo_none {m : Nat} {vs : List Int} {l : List UInt8} (h : feedAt l = none) : pgo (m + 1) vs l = (parZ, 6, (vs.length : Int)) := by rw [pgo, h]
theorem pgo_bad {m j : Nat} {vs : List Int} {l : List UInt8} (h : feedAt l = some j) {e : Int} (he : perr vs.length vs (l.take j) = e) (h0 : e ≠ 0) : pgo (m + 1) vs l = (parZ, e, (vs.length : Int)) := by
  rw [pgo, h]; simp only; rw [if_neg (by rw [he]; exact h0), he]
theorem pgo_go {m j : Nat} {vs : List Int} {l : List UInt8} (h : feedAt l = some j) (he : perr vs.length vs (l.take j) = 0) : pgo (m + 1) vs l = pgo m (vs ++ [((pln vs.length (l.take j)).1 : Int)]) (l.drop (j + 1)) := by
  rw [pgo, h]; simp only; rw [if_pos he]
/-- What the rounds keep. -/
structure ParI (w : World) (ga gp g gall r1 r2 : Nat) (ks : Nat → Nat) (k : Nat) (vs : List Int) (V : World) : Prop where
  cga : V.heap[ga]? = some (.cells #[.int .i64 ((k : Nat) : Int)] 3 (0, 0))
  cgp : V.heap[gp]? = some (.cells (parOfL vs).cells 24 (0, 0))
  cgall : V.heap[gall]? = some (.cells #[.slice (some ⟨g, 0, none⟩) 11 11] 61 (0, 0))
  cr1 : V.heap[r1]? = some (.cells parZ.cells 24 (0, 0))
  cr2 : V.heap[r2]? = some (.cells #[.int .i64 0, .int .i64 0] 46 (0, 0))
  cF : FieldsAt V g gp ks
  cK : Keeps Nob w V
theorem ParI.turn {w A B : World} {ga gp g gall r1 r2 k b bs : Nat} {ks : Nat → Nat} {vs : List Int} (h : ParI w ga gp g gall r1 r2 ks k vs A) (t : Turn b (One bs) A B) (hd : ga ≠ bs ∧ gp ≠ bs ∧ g ≠ bs ∧ gall ≠ bs ∧ r1 ≠ bs ∧ r2 ≠ bs) (hk : ∀ i, i < 11 → ks i ≠ bs) (hb : w.heap.size ≤ bs) (hB : w.heap.size ≤ b) : ParI w ga gp g gall r1 r2 ks k vs B :=
  ⟨t.same _ _ h.cga hd.1 (.inr rfl), t.same _ _ h.cgp hd.2.1 (.inr rfl), t.same _ _ h.cgall hd.2.2.2.1 (.inr rfl), t.same _ _ h.cr1 hd.2.2.2.2.1 (.inr rfl), t.same _ _ h.cr2 hd.2.2.2.2.2 (.inr rfl), h.cF.turn t hd.2.2.1 hk, turn_own t h.cK hb hB⟩
theorem pParse_assign {l N : Nat} {u0 u1 u2 u3 u4 u5 u6 u7 u8 u9 u10 u11 u12 u13 u15 u16 u17 u18 u19 u20 u21 u22 u23 u24 u25 u26 u27 u28 u29 u30 u31 u32 u33 u34 u35 u36 u37 u38 u39 u40 u41 u42 u43 u44 u45 u46 u47 u48 u49 u50 u51 u52 u53 u54 u55 u56 u57 u58 u59 u60 u61 u62 u63 u64 u65 u66 u67 u68 u69 : Value} (x : List UInt8) (w : World) (Q : Exit → Act → World → Prop) (hL : ¬ LetsOut Q) (hQ : Q .normal ⟨#[u0, u1, u2, u3, u4, u5, u6, .string ⟨x.toArray⟩, u8, u9, u10, u11, u12, u13, .string ⟨x.toArray⟩, u15, u16, u17, u18, u19, u20, u21, u22, u23, u24, u25, u26, u27, u28, u29, u30, u31, u32, u33, u34, u35, u36, u37, u38, u39, u40, u41, u42, u43, u44, u45, u46, u47, u48, u49, u50, u51, u52, u53, u54, u55, u56, u57, u58, u59, u60, u61, u62, u63, u64, u65, u66, u67, u68, u69], []⟩ w) :
    (part_pParse 500).wpIn (Fence.wide.inRound l) N Tryd.prog Q ⟨#[u0, u1, u2, u3, u4, u5, u6, u7, u8, u9, u10, u11, u12, u13, .string ⟨x.toArray⟩, u15, u16, u17, u18, u19, u20, u21, u22, u23, u24, u25, u26, u27, u28, u29, u30, u31, u32, u33, u34, u35, u36, u37, u38, u39, u40, u41, u42, u43, u44, u45, u46, u47, u48, u49, u50, u51, u52, u53, u54, u55, u56, u57, u58, u59, u60, u61, u62, u63, u64, u65, u66, u67, u68, u69], []⟩ w := by
  have K0 : Keeps Nob w w := Keeps.refl _ _
  refine syI_reg (by kernel_rfl) (fun ⟨a, w, h⟩ => hL ⟨a, w, h⟩) <| rg_plain 5 (opsAt (part_pParse 500)) [0] (by kernel_rfl) (by kernel_rfl) <| pkq (.string ⟨x.toArray⟩) <| ps_end <| sy_a ⟨#[u0, u1, u2, u3, u4, u5, u6, .string ⟨x.toArray⟩, u8, u9, u10, u11, u12, u13, .string ⟨x.toArray⟩, u15, u16, u17, u18, u19, u20, u21, u22, u23, u24, u25, u26, u27, u28, u29, u30, u31, u32, u33, u34, u35, u36, u37, u38, u39, u40, u41, u42, u43, u44, u45, u46, u47, u48, u49, u50, u51, u52, u53, u54, u55, u56, u57, u58, u59, u60, u61, u62, u63, u64, u65, u66, u67, u68, u69], []⟩ ?_
  exact hQ
theorem ks_new {w V : World} {g gp r1 r2 : Nat} {ks : Nat → Nat} {c1 c2 : Array Value} {T1 T2 : TypeId} (h : FieldsAt V g gp ks) (h1 : w.heap[r1]? = some (.cells c1 T1 (0, 0))) (h2 : w.heap[r2]? = some (.cells c2 T2 (0, 0))) (e1 : c1[0]? = some (.int .i64 0)) (e2 : c2[0]? = some (.int .i64 0)) (k : Keeps Nob w V) : ∀ i, i < 11 → ks i ≠ r1 ∧ ks i ≠ r2 := fun i hi => by
  refine ⟨fun e => ?_, fun e => ?_⟩
  · have hb := h.box i hi
    rw [e, (cell_of_row _ _ _ _ _ _ (k.bk h1)).trans e1] at hb; cases hb
  · have hb := h.box i hi
    rw [e, (cell_of_row _ _ _ _ _ _ (k.bk h2)).trans e2] at hb; cases hb
theorem g_new {w V : World} {g gp p r1 r2 : Nat} {ks : Nat → Nat} {c1 c2 c3 : Array Value} {T1 T2 T3 : TypeId} (h : FieldsAt V g gp ks) (h1 : w.heap[r1]? = some (.cells c1 T1 (0, 0))) (h2 : w.heap[r2]? = some (.cells c2 T2 (0, 0))) (h3 : w.heap[p]? = some (.cells c3 T3 (0, 0))) (e1 : c1[0]? = some (.int .i64 0)) (e2 : c2[0]? = some (.int .i64 0)) (e3 : c3[0]? = some (.int .i64 0)) (k : Keeps Nob w V) : g ≠ r1 ∧ g ≠ r2 ∧ g ≠ p := by
  have hb := h.cell 0 0 (by omega) (by omega)
  refine ⟨fun e => ?_, fun e => ?_, fun e => ?_⟩
  · rw [e, (cell_of_row _ _ _ _ _ _ (k.bk h1)).trans e1] at hb; cases hb
  · rw [e, (cell_of_row _ _ _ _ _ _ (k.bk h2)).trans e2] at hb; cases hb
  · rw [e, (cell_of_row _ _ _ _ _ _ (k.bk h3)).trans e3] at hb; cases hb
theorem pParse_ok (l : List UInt8) (w : World) (hl : l.length ≤ 100000000) :
    Calls Tryd.prog 26 #[.string ⟨l.toArray⟩] w (fun e w' => e = .returned (.tuple #[.agg (pparse l).1.cells, .agg #[.int .i64 (pparse l).2.1, .int .i64 (pparse l).2.2]]) ∧ Keeps Nob w w') := by
  have K0 : Keeps Nob w w := Keeps.refl _ _
  refine calls_marks 3 (c := (part_pParse 1)) Tryd.func26 (by kernel_rfl) <| sy_frame ⟨#[.string ⟨l.toArray⟩, ud, ud, ud, ud, ud, ud, ud, ud, ud, ud, ud, ud, ud, ud, ud, ud, ud, ud, ud, ud, ud, ud, ud, ud, ud, ud, ud, ud, ud, ud, ud, ud, ud, ud, ud, ud, ud, ud, ud, ud, ud, ud, ud, ud, ud, ud, ud, ud, ud, ud, ud, ud, ud, ud, ud, ud, ud, ud, ud, ud, ud, ud, ud, ud, ud, ud, ud, ud, ud], []⟩ (by kernel_rfl) <| qr_ [0, 1] <| pal 24 (#[.int .i64 0, .int .i64 0, .int .i64 0, .int .i64 0, .int .i64 0, .int .i64 0, .int .i64 0, .int .u64 0, .int .u64 0, .int .i64 0, .int .u64 0]) (.agg (#[.int .i64 0, .int .i64 0, .int .i64 0, .int .i64 0, .int .i64 0, .int .i64 0, .int .i64 0, .int .u64 0, .int .u64 0, .int .i64 0, .int .u64 0])) fun V1 r1 er1 h2 kV1 => ?_
  have n3 : w.heap.size ≤ r1 := er1 ▸ K0.size
  have K4 := K0.nn kV1
  have z5 := kV1.size
  refine pal 46 (#[.int .i64 0, .int .i64 0]) (.agg (#[.int .i64 0, .int .i64 0])) fun V6 r2 er2 h7 kV6 => ?_
  have n8 : r1 < r2 := er2 ▸ lt_of_block h2
  have n9 : w.heap.size ≤ r2 := er2 ▸ K4.size
  have h10 := kV6.bk h2
  have K11 := K4.nn kV6
  have z12 := kV6.size
  refine ps_end <| sy_a ⟨#[.string ⟨l.toArray⟩, ud, pT r1 0, pT r2 0, ud, ud, ud, ud, ud, ud, ud, ud, ud, ud, ud, ud, ud, ud, ud, ud, ud, ud, ud, ud, ud, ud, ud, ud, ud, ud, ud, ud, ud, ud, ud, ud, ud, ud, ud, ud, ud, ud, ud, ud, ud, ud, ud, ud, ud, ud, ud, ud, ud, ud, ud, ud, ud, ud, ud, ud, ud, ud, ud, ud, ud, ud, ud, ud, ud, ud], []⟩ <| tqr_ [0] <| pal 24 (#[.int .i64 0, .int .i64 0, .int .i64 0, .int .i64 0, .int .i64 0, .int .i64 0, .int .i64 0, .int .u64 0, .int .u64 0, .int .i64 0, .int .u64 0]) (.agg (#[.int .i64 0, .int .i64 0, .int .i64 0, .int .i64 0, .int .i64 0, .int .i64 0, .int .i64 0, .int .u64 0, .int .u64 0, .int .i64 0, .int .u64 0])) fun V13 gp egp h14 kV13 => ?_
  have n15 : r1 < gp := egp ▸ lt_of_block h10
  have n16 : r2 < gp := egp ▸ lt_of_block h7
  have n17 : w.heap.size ≤ gp := egp ▸ K11.size
  have h18 := kV13.bk h10
  have h19 := kV13.bk h7
  have K20 := K11.nn kV13
  have z21 := kV13.size
  refine ps_end <| sy_a ⟨#[.string ⟨l.toArray⟩, ud, pT r1 0, pT r2 0, pT gp 0, ud, ud, ud, ud, ud, ud, ud, ud, ud, ud, ud, ud, ud, ud, ud, ud, ud, ud, ud, ud, ud, ud, ud, ud, ud, ud, ud, ud, ud, ud, ud, ud, ud, ud, ud, ud, ud, ud, ud, ud, ud, ud, ud, ud, ud, ud, ud, ud, ud, ud, ud, ud, ud, ud, ud, ud, ud, ud, ud, ud, ud, ud, ud, ud, ud], []⟩ <| tqr_ [0, 1, 2] ?_
  refine pcq 37 #[pT gp 0] Tryd.func37 ((fields_ok gp _).mono ?_)
  rintro e V22 ⟨g, ks, rfl, hF, hgl, kV22⟩
  have hFk := fun i (hi : i < 11) => FieldsAt.klt hF i hi
  have hFg := FieldsAt.glt hF
  have hkn : ∀ i, i < 11 → ks i ≠ r1 ∧ ks i ≠ r2 := ks_new hF h18 h19 rfl rfl kV22
  have hgn := g_new hF h18 h19 h14 rfl rfl rfl kV22
  have hgpk := fun i (hi : i < 11) => ks_ne (p := parOfL []) hF (kV22.bk h14) hi
  refine ⟨_, rfl, ?_⟩
  have h23 := kV22.bk h18
  have h24 := kV22.bk h19
  have h25 := kV22.bk h14
  have K26 := K20.nn kV22
  have z27 := kV22.size
  refine pal 61 (#[.slice none 0 0]) (.slice none 0 0) fun V28 gall egall h29 kV28 => ?_
  have n30 : r1 < gall := egall ▸ lt_of_block h23
  have n31 : r2 < gall := egall ▸ lt_of_block h24
  have n32 : gp < gall := egall ▸ lt_of_block h25
  have n33 : w.heap.size ≤ gall := egall ▸ K26.size
  have h34 := kV28.bk h23
  have h35 := kV28.bk h24
  have h36 := kV28.bk h25
  have h37 : FieldsAt V28 g gp ks := hF.keepsN kV28
  have K38 := K26.nn kV28
  have z39 := kV28.size
  refine pce 61 gall 0 (.slice (some ⟨g, 0, none⟩) 11 11) (#[.slice (some ⟨g, 0, none⟩) 11 11]) h29 (rc (h29) (by kernel_rfl)) (by kernel_rfl) (u := .slice none 0 0) fun V40 h41 kV40 => ?_
  have h42 := kV40.bO h34
  have h43 := kV40.bO h35
  have h44 := kV40.bO h36
  have h45 : FieldsAt V40 g gp ks := FieldsAt.keepsB hF h37 kV40 (fun j hj e => by unfold Own.One at e; omega)
  have K46 := K38.nO kV40
  have z47 := kV40.size
  refine ps_end <| sy_a ⟨#[.string ⟨l.toArray⟩, ud, pT r1 0, pT r2 0, pT gp 0, pT gall 0, ud, ud, ud, ud, ud, .slice (some ⟨g, 0, none⟩) 11 11, ud, ud, ud, ud, ud, ud, ud, ud, ud, ud, ud, ud, ud, ud, ud, ud, ud, ud, ud, ud, ud, ud, ud, ud, ud, ud, ud, ud, ud, ud, ud, ud, ud, ud, ud, ud, ud, ud, ud, ud, ud, ud, ud, ud, ud, ud, ud, ud, ud, ud, ud, ud, ud, ud, ud, ud, ud, ud], []⟩ <| tqr_ [0, 1] <| pal 3 (#[.int .i64 0]) (.int .i64 0) fun V48 ga ega h49 kV48 => ?_
  have n50 : r1 < ga := ega ▸ lt_of_block h42
  have n51 : r2 < ga := ega ▸ lt_of_block h43
  have n52 : gp < ga := ega ▸ lt_of_block h44
  have n53 : gall < ga := ega ▸ lt_of_block h41
  have n54 : w.heap.size ≤ ga := ega ▸ K46.size
  have h55 := kV48.bk h42
  have h56 := kV48.bk h43
  have h57 := kV48.bk h44
  have h58 : FieldsAt V48 g gp ks := h45.keepsN kV48
  have h59 := kV48.bk h41
  have K60 := K46.nn kV48
  have z61 := kV48.size
  refine pce 3 ga 0 (.int .i64 0) (#[.int .i64 0]) h49 (rc (h49) (by kernel_rfl)) (by kernel_rfl) (u := .int .i64 0) fun V62 h63 kV62 => ?_
  have h64 := kV62.bO h55
  have h65 := kV62.bO h56
  have h66 := kV62.bO h57
  have h67 : FieldsAt V62 g gp ks := FieldsAt.keepsB hF h58 kV62 (fun j hj e => by unfold Own.One at e; omega)
  have h68 := kV62.bO h59
  have K69 := K60.nO kV62
  have z70 := kV62.size
  refine ps_end <| sy_a ⟨#[.string ⟨l.toArray⟩, ud, pT r1 0, pT r2 0, pT gp 0, pT gall 0, pT ga 0, ud, ud, ud, ud, .slice (some ⟨g, 0, none⟩) 11 11, ud, ud, ud, ud, ud, ud, ud, ud, ud, ud, ud, ud, ud, ud, ud, ud, ud, ud, ud, ud, ud, ud, ud, ud, ud, ud, ud, ud, ud, ud, ud, ud, ud, ud, ud, ud, ud, ud, ud, ud, ud, ud, ud, ud, ud, ud, ud, ud, ud, ud, ud, ud, ud, ud, ud, ud, ud, ud], []⟩ <| tq_ <| qr_ [0, 1] <| pkq (.string ⟨l.toArray⟩) ?_
  refine pcq 49 #[.string ⟨l.toArray⟩, .string { data := #[10] }] Tryd.func49 ((split_ok l _).mono ?_)
  rintro e V71 ⟨bp, bs, bn, rfl, hS, hw1, hw2, hw3, hd1, hd2, hd3, kV71⟩
  have lb_r1 := lt_of_block h64
  have lb_r2 := lt_of_block h65
  have lb_gp := lt_of_block h66
  have lb_gall := lt_of_block h68
  have lb_ga := lt_of_block h63
  refine ⟨_, rfl, ?_⟩
  have h72 := kV71.bk h64
  have h73 := kV71.bk h65
  have h74 := kV71.bk h66
  have h75 : FieldsAt V71 g gp ks := h67.keepsN kV71
  have h76 := kV71.bk h68
  have h77 := kV71.bk h63
  have K78 := K69.nn kV71
  have z79 := kV71.size
  refine ps_end <| sy_a ⟨#[.string ⟨l.toArray⟩, ud, pT r1 0, pT r2 0, pT gp 0, pT gall 0, pT ga 0, ud, ud, ud, ud, .slice (some ⟨g, 0, none⟩) 11 11, .string ⟨l.toArray⟩, .func (.func 93) #[] #[pT bp 0, pT bs 0, pT bn 0], ud, ud, ud, ud, ud, ud, ud, ud, ud, ud, ud, ud, ud, ud, ud, ud, ud, ud, ud, ud, ud, ud, ud, ud, ud, ud, ud, ud, ud, ud, ud, ud, ud, ud, ud, ud, ud, ud, ud, ud, ud, ud, ud, ud, ud, ud, ud, ud, ud, ud, ud, ud, ud, ud, ud, ud], []⟩ <| then_n <| b_ 0 ?_
  have lt_r1 := lt_of_block h72
  have lt_r2 := lt_of_block h73
  have lt_gp := lt_of_block h74
  have lt_gall := lt_of_block h76
  have lt_ga := lt_of_block h77
  have n_r1 : w.heap.size ≤ r1 := by omega
  have n_r2 : w.heap.size ≤ r2 := by omega
  have n_gp : w.heap.size ≤ gp := by omega
  have n_gall : w.heap.size ≤ gall := by omega
  have n_ga : w.heap.size ≤ ga := by omega
  have szW : w.heap.size ≤ V71.heap.size := K78.size
  have hspl := hS
  have lbs := lt_of_block hS.2.1
  have hdd : ga ≠ bs ∧ gp ≠ bs ∧ g ≠ bs ∧ gall ≠ bs ∧ r1 ≠ bs ∧ r2 ≠ bs := by omega
  have hkb : ∀ i, i < 11 → ks i ≠ bs := fun i hi => by have := hFk i hi; omega
  have hds : ga ≠ gp ∧ ga ≠ r1 ∧ ga ≠ r2 ∧ gp ≠ r1 ∧ gp ≠ r2 ∧ r1 ≠ r2 ∧ g ≠ gp ∧ g ≠ r1 ∧ g ≠ r2 ∧ g ≠ ga ∧ gall ≠ gp ∧ gall ≠ r1 ∧ gall ≠ r2 ∧ gall ≠ ga := by omega
  have hks : ∀ i, i < 11 → ks i ≠ gp ∧ ks i ≠ r1 ∧ ks i ≠ r2 ∧ ks i ≠ ga := fun i hi => ⟨hgpk i hi, (hkn i hi).1, (hkn i hi).2, by have := hFk i hi; omega⟩
  have hI0 : ParI w ga gp g gall r1 r2 ks 0 [] V71 := ⟨h77, h74, h76, h72, h73, h75, K78⟩
  refine sy_part (.rangeFunc (.tmp 13) #[14] (part_pParse 500) (part_pParse 501)) (by kernel_rfl) ?_
  refine wp_range1 3 (gf := 93) (lb := #[.pointer (some ⟨bp, 0, none⟩), .pointer (some ⟨bs, 0, none⟩), .pointer (some ⟨bn, 0, none⟩)]) (by kernel_rfl) (enters_of Tryd.func93 (by kernel_rfl) rfl) (encs := fun x : List UInt8 => #[.string ⟨x.toArray⟩]) (fun _ => rfl) (xs := pcs l) (Mi := One bs) (S := splS bp bs bn l) (fun j (h : j = bs) => by rw [h]; exact lbs) (split_seq bp bs bn l hd1 hd2 hl 5) (fun _ _ _ h t => h.turn t) hS
    (fun k V => k < (pcs l).length ∧ k ≤ 11 ∧ ∃ vs : List Int, vs.length = k ∧ pgo (11 - k) vs (rst l k) = pparse l ∧ ParI w ga gp g gall r1 r2 ks k vs V)
    (fun c V => (c = .ret ∧ ∃ e p : Int, pparse l = (parZ, e, p) ∧ V.heap[r1]? = some (.cells parZ.cells 24 (0, 0)) ∧ V.heap[r2]? = some (.cells #[.int .i64 e, .int .i64 p] 46 (0, 0)) ∧ Keeps Nob w V) ∨ (c = .exit 0 ∧ ∃ vs : List Int, pparse l = (parOfL vs, 0, 0) ∧ ParI w ga gp g gall r1 r2 ks 11 vs V))
    ?hI ?hIx ?h0 (fun x => ⟨#[.string ⟨l.toArray⟩, ud, .pointer (some ⟨r1, 0, none⟩), .pointer (some ⟨r2, 0, none⟩), .pointer (some ⟨gp, 0, none⟩), .pointer (some ⟨gall, 0, none⟩), .pointer (some ⟨ga, 0, none⟩), .string ⟨x.toArray⟩, ud, ud, ud, .slice (some ⟨g, 0, none⟩) 11 11, .string ⟨l.toArray⟩, .func (.func 93) #[] #[.pointer (some ⟨bp, 0, none⟩), .pointer (some ⟨bs, 0, none⟩), .pointer (some ⟨bn, 0, none⟩)], .string ⟨x.toArray⟩, ud, ud, ud, ud, ud, ud, ud, ud, ud, ud, ud, ud, ud, ud, ud, ud, ud, ud, ud, ud, ud, ud, ud, ud, ud, ud, ud, ud, ud, ud, ud, ud, ud, ud, ud, ud, ud, ud, ud, ud, ud, ud, ud, ud, ud, ud, ud, ud, ud, ud, ud, ud, ud, ud, ud], []⟩) ?assign ?body ?done ?stop
  case h0 => exact ⟨pcs_pos l, by omega, [], rfl, by rw [rst_0]; rfl, hI0⟩
  case hI =>
    rintro k A V ⟨q1, q2, vs, q3, q4, q5⟩ t
    exact ⟨q1, q2, vs, q3, q4, q5.turn t hdd hkb (by omega) szW⟩
  case hIx =>
    rintro c A V (⟨q1, e, p, q2, q3, q4, q5⟩ | ⟨q1, vs, q2, q3⟩) t
    · exact .inl ⟨q1, e, p, q2, t.same _ _ q3 hdd.2.2.2.2.1 (.inr rfl), t.same _ _ q4 hdd.2.2.2.2.2 (.inr rfl), turn_own t q5 (by omega) szW⟩
    · exact .inr ⟨q1, vs, q2, q3.turn t hdd hkb (by omega) szW⟩
  case assign =>
    intro l' k x V K' hx hi hs hK
    refine syI_frame ⟨#[.string ⟨l.toArray⟩, ud, .pointer (some ⟨r1, 0, none⟩), .pointer (some ⟨r2, 0, none⟩), .pointer (some ⟨gp, 0, none⟩), .pointer (some ⟨gall, 0, none⟩), .pointer (some ⟨ga, 0, none⟩), ud, ud, ud, ud, .slice (some ⟨g, 0, none⟩) 11 11, .string ⟨l.toArray⟩, .func (.func 93) #[] #[.pointer (some ⟨bp, 0, none⟩), .pointer (some ⟨bs, 0, none⟩), .pointer (some ⟨bn, 0, none⟩)], .string ⟨x.toArray⟩, ud, ud, ud, ud, ud, ud, ud, ud, ud, ud, ud, ud, ud, ud, ud, ud, ud, ud, ud, ud, ud, ud, ud, ud, ud, ud, ud, ud, ud, ud, ud, ud, ud, ud, ud, ud, ud, ud, ud, ud, ud, ud, ud, ud, ud, ud, ud, ud, ud, ud, ud, ud, ud, ud, ud], []⟩ (by kernel_rfl) ?_
    refine pParse_assign x V _ ?_ hK
    exact fun h => h.elim fun _ h => h.elim fun _ h => h
  case body =>
    rintro l' k x V hl' hr hx ⟨q1, q2, vs, q3, q4, q5⟩ hs
    have hLO : ¬ LetsOut (rangeEnd V71.heap.size (fun W' => (k + 1 < (pcs l).length ∧ k + 1 ≤ 11 ∧ ∃ vs : List Int, vs.length = k + 1 ∧ pgo (11 - (k + 1)) vs (rst l (k + 1)) = pparse l ∧ ParI w ga gp g gall r1 r2 ks (k + 1) vs W') ∧ splS bp bs bn l k W') (fun c V => (c = .ret ∧ ∃ e p : Int, pparse l = (parZ, e, p) ∧ V.heap[r1]? = some (.cells parZ.cells 24 (0, 0)) ∧ V.heap[r2]? = some (.cells #[.int .i64 e, .int .i64 p] 46 (0, 0)) ∧ Keeps Nob w V) ∨ (c = .exit 0 ∧ ∃ vs : List Int, pparse l = (parOfL vs, 0, 0) ∧ ParI w ga gp g gall r1 r2 ks 11 vs V)) V) := fun h => h.elim fun _ h => h.elim fun _ h => h
    have hxl : x.length ≤ 100000000 := by
      have e1 := List.mem_of_getElem? hx
      obtain ⟨s1, s2, e2⟩ := List.append_of_mem e1
      have e2 : x.length ≤ (pcs l).flatten.length := by rw [e2]; simp; omega
      rw [pcs_flat] at e2; omega
    have hfr : ∀ (c : Act) (W : World) (M : Nat → Prop), Keeps M V W → (∀ j, M j → j = r1 ∨ j = r2 ∨ j = gp ∨ j = ga) → KeepsFrom V71.heap.size V W ∧ Keeps Nob w W ∧ splS bp bs bn l k W := fun c W M hK hM => by
      refine ⟨hK.from (fun j hj => by have := hM j hj; omega), q5.cK.then hK (fun i hi hm => by have := hM i hm; omega), (hK.block bp (lt_of_block hs.1) (fun hj => by have := hM _ hj; omega)).trans hs.1, (hK.block bs (lt_of_block hs.2.1) (fun hj => by have := hM _ hj; omega)).trans hs.2.1, (hK.block bn (lt_of_block hs.2.2) (fun hj => by have := hM _ hj; omega)).trans hs.2.2⟩
    have hret : ∀ (e : Int) (c : Act) (W : World), pparse l = (parZ, e, ((k : Nat) : Int)) → W.heap[r1]? = some (.cells parZ.cells 24 (0, 0)) → W.heap[r2]? = some (.cells #[.int .i64 e, .int .i64 ((k : Nat) : Int)] 46 (0, 0)) → Keeps (fun j => j = r1 ∨ j = r2 ∨ j = gp ∨ j = ga) V W → rangeEnd V71.heap.size (fun W' => (k + 1 < (pcs l).length ∧ k + 1 ≤ 11 ∧ ∃ vs : List Int, vs.length = k + 1 ∧ pgo (11 - (k + 1)) vs (rst l (k + 1)) = pparse l ∧ ParI w ga gp g gall r1 r2 ks (k + 1) vs W') ∧ splS bp bs bn l k W') (fun c V => (c = .ret ∧ ∃ e p : Int, pparse l = (parZ, e, p) ∧ V.heap[r1]? = some (.cells parZ.cells 24 (0, 0)) ∧ V.heap[r2]? = some (.cells #[.int .i64 e, .int .i64 p] 46 (0, 0)) ∧ Keeps Nob w V) ∨ (c = .exit 0 ∧ ∃ vs : List Int, pparse l = (parOfL vs, 0, 0) ∧ ParI w ga gp g gall r1 r2 ks 11 vs V)) V .ret c W := fun e c W g1 g2 g3 g4 => ⟨(hfr c W _ g4 (fun j hj => hj)).1, .inl ⟨rfl, e, _, g1, g2, g3, (hfr c W _ g4 (fun j hj => hj)).2.1⟩⟩
    have hgo : ∀ (a : List UInt8) (j : Nat) (c : Act) (W : World), feedAt (rst l k) = some j → (rst l k).take j = a → k < 11 → perr k vs a = 0 → W.heap[ga]? = some (.cells #[.int .i64 ((k + 1 : Nat) : Int)] 3 (0, 0)) → W.heap[gp]? = some (.cells (parOfL (vs ++ [((pln k a).1 : Int)])).cells 24 (0, 0)) → W.heap[gall]? = some (.cells #[.slice (some ⟨g, 0, none⟩) 11 11] 61 (0, 0)) → W.heap[r1]? = some (.cells parZ.cells 24 (0, 0)) → W.heap[r2]? = some (.cells #[.int .i64 0, .int .i64 0] 46 (0, 0)) → FieldsAt W g gp ks → Keeps (fun j => j = r1 ∨ j = r2 ∨ j = gp ∨ j = ga) V W → rangeEnd V71.heap.size (fun W' => (k + 1 < (pcs l).length ∧ k + 1 ≤ 11 ∧ ∃ vs : List Int, vs.length = k + 1 ∧ pgo (11 - (k + 1)) vs (rst l (k + 1)) = pparse l ∧ ParI w ga gp g gall r1 r2 ks (k + 1) vs W') ∧ splS bp bs bn l k W') (fun c V => (c = .ret ∧ ∃ e p : Int, pparse l = (parZ, e, p) ∧ V.heap[r1]? = some (.cells parZ.cells 24 (0, 0)) ∧ V.heap[r2]? = some (.cells #[.int .i64 e, .int .i64 p] 46 (0, 0)) ∧ Keeps Nob w V) ∨ (c = .exit 0 ∧ ∃ vs : List Int, pparse l = (parOfL vs, 0, 0) ∧ ParI w ga gp g gall r1 r2 ks 11 vs V)) V .normal c W := fun a j c W hf ha hk he g1 g2 g3 g4 g5 g6 g7 => by
      obtain ⟨s1, s2, s3⟩ := rst_some q1 hf
      have e1 := pgo_go (m := 10 - k) (vs := vs) hf (by rw [ha, q3]; exact he)
      rw [ha, q3, s2, show 10 - k + 1 = 11 - k by omega, q4] at e1
      exact ⟨(hfr c W _ g7 (fun j hj => hj)).1, ⟨s3, by omega, vs ++ [((pln k a).1 : Int)], by simp [q3], by rw [show 11 - (k + 1) = 10 - k by omega]; exact e1.symm, ⟨g1, g2, g3, g4, g5, g6, (hfr c W _ g7 (fun j hj => hj)).2.1⟩⟩, (hfr c W _ g7 (fun j hj => hj)).2.2⟩
    by_cases hk : k = 11
    · have e0 : pparse l = if rst l k = [] then (parOfL vs, 0, 0) else (parZ, 4, 11) := by rw [← q4, hk]; rfl
      by_cases hx0 : x = []
      · have er : rst l k = [] := by
          rcases feed_case l k with hf | ⟨j, hf⟩
          · have := (rst_none q1 hf).1
            rw [hx] at this; rw [← hx0]; exact (Option.some.inj this).symm
          · have := (rst_some q1 hf).1
            rw [hx, hx0, feed_get _ _ hf] at this
            simp at this
        refine pParse_end ga gp g gall r1 r2 k ks vs x hxl q3 V _ hLO hds hks q5.cga q5.cgp q5.cgall q5.cr1 q5.cr2 q5.cF hk hx0 (fun c => ⟨KeepsFrom.refl _ _, .inr ⟨rfl, vs, by rw [e0, if_pos er], by have := q5; rwa [hk] at this⟩⟩)
      · have er : rst l k ≠ [] := fun er => by
          rcases feed_case l k with hf | ⟨j, hf⟩
          · have := (rst_none q1 hf).1
            rw [hx, er] at this; exact hx0 (Option.some.inj this)
          · rw [er] at hf; simp [feedAt] at hf
        exact pParse_more ga gp g gall r1 r2 k ks vs x hxl q3 V _ hLO hds hks q5.cga q5.cgp q5.cgall q5.cr1 q5.cr2 q5.cF hk hx0 (fun c W => hret 4 c W (by rw [e0, if_neg er, hk]; rfl))
    · have hk11 : k < 11 := by omega
      rcases feed_case l k with hf | ⟨j, hf⟩
      · have hxx := (rst_none q1 hf).1
        rw [hx] at hxx
        have e1 := pgo_none (m := 10 - k) (vs := vs) hf
        rw [q3, show 10 - k + 1 = 11 - k by omega, q4] at e1
        exact pParse_short ga gp g gall r1 r2 k ks vs x hxl q3 V _ hLO hds hks q5.cga q5.cgp q5.cgall q5.cr1 q5.cr2 q5.cF hk11 (by rw [Option.some.inj hxx]; exact no_suffix hf) (fun c W => hret 6 c W e1)
      · have hxx := (rst_some q1 hf).1
        rw [hx, feed_get _ _ hf] at hxx
        obtain ⟨a, ha⟩ : ∃ a, (rst l k).take j = a := ⟨_, rfl⟩
        rw [ha] at hxx
        have hx2 := Option.some.inj hxx
        have hbad : ∀ e, perr k vs a = e → e ≠ 0 → pparse l = (parZ, e, ((k : Nat) : Int)) := fun e he h0 => by
          have e1 := pgo_bad (m := 10 - k) (vs := vs) hf (e := e) (by rw [ha, q3]; exact he) h0
          rw [q3, show 10 - k + 1 = 11 - k by omega, q4] at e1
          exact e1
        by_cases he : rerr k a = 0
        · by_cases hk1 : k = 1
          · have ho := ord_iff (vs := vs) (n := ((pln k a).1 : Int)) (by omega)
            by_cases hlt : vs[0]?.getD 0 < ((pln k a).1 : Int)
            · exact pParse_order ga gp g gall r1 r2 k ks vs x hxl q3 V _ hLO hds hks q5.cga q5.cgp q5.cgall q5.cr1 q5.cr2 q5.cF a hx2 hk11 he hk1 (by rw [ho.1, ho.2]; exact hlt) (fun c W => hret 9 c W (hbad 9 (perr_ord he ⟨hk1, hlt⟩) (by decide)))
            · exact pParse_go1 ga gp g gall r1 r2 k ks vs x hxl q3 V _ hLO hds hks q5.cga q5.cgp q5.cgall q5.cr1 q5.cr2 q5.cF a hx2 hk11 he hk1 (by rw [ho.1, ho.2]; exact hlt) (fun c W => hgo a j c W hf ha hk11 (perr_ok he (fun h => hlt h.2)))
          · exact pParse_go ga gp g gall r1 r2 k ks vs x hxl q3 V _ hLO hds hks q5.cga q5.cgp q5.cgall q5.cr1 q5.cr2 q5.cF a hx2 hk11 he hk1 (fun c W => hgo a j c W hf ha hk11 (perr_ok he (fun h => hk1 h.1)))
        · exact pParse_bad ga gp g gall r1 r2 k ks vs x hxl q3 V _ hLO hds hks q5.cga q5.cgp q5.cgall q5.cr1 q5.cr2 q5.cF a hx2 hk11 he (fun c W => hret _ c W (hbad _ (perr_bad he) he))
  case done =>
    rintro D Vz hD ⟨q1, _⟩
    omega
  case stop =>
    rintro D c Vz hD (⟨rfl, er, pr, q2, q3, q4, q5⟩ | ⟨rfl, vs, q2, q3⟩) hK
    · have hDs : V71.heap.size ≤ D := hD
      refine sy_ret rfl <| blk_r <| then_r ?_
      obtain ⟨V80, eV80⟩ : ∃ V, Vz.putObj D (.deferred none) = V := ⟨_, rfl⟩
      have tV80 : Turn V71.heap.size Nob Vz V80 := eV80 ▸ Turn.put _ _ _ _ hDs hK rfl
      have h81 : V80.heap[r1]? = some (.cells parZ.cells 24 (0, 0)) := tV80.same _ _ q3 (fun x => x) (.inr rfl)
      have h82 : V80.heap[r2]? = some (.cells (#[.int .i64 er, .int .i64 pr]) 46 (0, 0)) := tV80.same _ _ q4 (fun x => x) (.inr rfl)
      have K83 : Keeps Nob w V80 := tV80.keepsN q5 (by omega)
      refine marks_ret hK (v := .tuple #[.agg (parZ.cells), .agg #[.int .i64 er, .int .i64 pr]]) (by rw [eV80]; exact results_rows2 (p := 2) (q := 3) (ty := 24) (tz := 46) (by kernel_rfl) _ _ r1 r2 24 46 (parZ.cells) (#[.int .i64 er, .int .i64 pr]) (0, 0) (0, 0) _ _ (by kernel_rfl) h81 Tryd.underlying24 rfl (by kernel_rfl) (by kernel_rfl) h82 Tryd.underlying46 rfl (by kernel_rfl)) ?_
      rw [eV80]
      exact ⟨by rw [q2], K83⟩
    · have hDs : V71.heap.size ≤ D := hD
      have q_ga := q3.cga
      have q_gp := q3.cgp
      have q_gall := q3.cgall
      have q_r1 := q3.cr1
      have q_r2 := q3.cr2
      have q_k := q3.cK
      refine sy_exit 0 rfl <| blk_e <| tq_ <| qr_ [0, 1, 2, 3] <| ppq (.int .i64 11) (ldk 3 ga 0 q_ga) <| ppq (.slice (some ⟨g, 0, none⟩) 11 11) (ldk 61 gall 0 q_gall) <| ppq (.int .i64 11) (exec_len (.tmp 62) 61 _ (by kernel_rfl) Tryd.underlying61 (some ⟨g, 0, none⟩) 11 11 (by kernel_rfl)) <| pkq (.bool false) <| ps_end <| sy_a ⟨#[.string ⟨l.toArray⟩, undef, pT r1 0, pT r2 0, pT gp 0, pT gall 0, pT ga 0, undef, undef, undef, undef, .slice (some ⟨g, 0, none⟩) 11 11, .string ⟨l.toArray⟩, .func (.func 93) #[] #[pT bp 0, pT bs 0, pT bn 0], undef, undef, undef, undef, undef, undef, undef, undef, undef, undef, undef, undef, undef, undef, undef, undef, undef, undef, undef, undef, undef, undef, undef, undef, undef, undef, undef, undef, undef, undef, undef, undef, undef, undef, undef, undef, undef, undef, undef, undef, undef, undef, undef, undef, undef, undef, undef, .int .i64 11, .slice (some ⟨g, 0, none⟩) 11 11, .int .i64 11, .bool false, undef, undef, undef, undef, undef], [{ target := .collected D, args := #[] }]⟩ <| then_n <| n_ <| s_ <| tqr_ [0, 1, 2, 3] ?_
      refine ppq (.agg ((parOfL vs).cells)) (ldr 24 gp (q_gp) (by kernel_rfl)) <| pkq (.agg #[.int .i64 0, .int .i64 0]) <| pst 24 r1 (((parOfL vs).cells)) q_r1 (by kernel_rfl) rfl (by kernel_rfl) fun V84 h85 kV84 => ?_
      have h86 := kV84.bO q_r2
      have h90 : V84.heap[D]? = some (.deferred (some [])) := (kV84.block D (Array.getElem?_eq_some_iff.1 hK).1 (by intro e; first | exact e.elim | (unfold Own.One at e; omega) | omega)).trans hK
      have K91 := q_k.nO kV84
      have z92 := kV84.size
      refine pst 46 r2 (#[.int .i64 0, .int .i64 0]) h86 (by kernel_rfl) rfl (by kernel_rfl) fun V93 h94 kV93 => ?_
      have h98 : V93.heap[D]? = some (.deferred (some [])) := (kV93.block D (Array.getElem?_eq_some_iff.1 h90).1 (by intro e; first | exact e.elim | (unfold Own.One at e; omega) | omega)).trans h90
      have h99 := kV93.bO h85
      have K100 := K91.nO kV93
      have z101 := kV93.size
      refine ps_end <| sy_a ⟨#[.string ⟨l.toArray⟩, undef, pT r1 0, pT r2 0, pT gp 0, pT gall 0, pT ga 0, undef, undef, undef, undef, .slice (some ⟨g, 0, none⟩) 11 11, .string ⟨l.toArray⟩, .func (.func 93) #[] #[pT bp 0, pT bs 0, pT bn 0], undef, undef, undef, undef, undef, undef, undef, undef, undef, undef, undef, undef, undef, undef, undef, undef, undef, undef, undef, undef, undef, undef, undef, undef, undef, undef, undef, undef, undef, undef, undef, undef, undef, undef, undef, undef, undef, undef, undef, undef, undef, undef, undef, undef, undef, undef, undef, .int .i64 11, .slice (some ⟨g, 0, none⟩) 11 11, .int .i64 11, .bool false, undef, undef, undef, .agg ((parOfL vs).cells), .agg #[.int .i64 0, .int .i64 0]], [{ target := .collected D, args := #[] }]⟩ <| then_n <| u_ ?_
      obtain ⟨V102, eV102⟩ : ∃ V, V93.putObj D (.deferred none) = V := ⟨_, rfl⟩
      have tV102 : Turn V71.heap.size Nob V93 V102 := eV102 ▸ Turn.put _ _ _ _ hDs h98 rfl
      have h106 : V102.heap[r1]? = some (.cells ((parOfL vs).cells) 24 (0, 0)) := tV102.same _ _ h99 (fun x => x) (.inr rfl)
      have h107 : V102.heap[r2]? = some (.cells (#[.int .i64 0, .int .i64 0]) 46 (0, 0)) := tV102.same _ _ h94 (fun x => x) (.inr rfl)
      have K108 : Keeps Nob w V102 := tV102.keepsN K100 (by omega)
      refine marks_ret h98 (v := .tuple #[.agg ((parOfL vs).cells), .agg #[.int .i64 0, .int .i64 0]]) (by rw [eV102]; exact results_rows2 (p := 2) (q := 3) (ty := 24) (tz := 46) (by kernel_rfl) _ _ r1 r2 24 46 ((parOfL vs).cells) (#[.int .i64 0, .int .i64 0]) (0, 0) (0, 0) _ _ (by kernel_rfl) h106 Tryd.underlying24 rfl (by kernel_rfl) (by kernel_rfl) h107 Tryd.underlying46 rfl (by kernel_rfl)) ?_
      rw [eV102]
      exact ⟨by rw [q2], K108⟩
end Go.Proofs.YtpflmldmbpnllaaDoor
namespace Go.Proofs.YtpflmldmbpnllaaDoor
set_option maxRecDepth 100000
set_option maxHeartbeats 4000000
open Go Go.RowKit Go.Own Go.Shelf
section
variable {P : Program} {o : Oper} {ρ : Operand → Value} {w : World}
end
end Go.Proofs.YtpflmldmbpnllaaDoor
namespace Go.Own
set_option maxRecDepth 100000
set_option maxHeartbeats 4000000
open Go Go.RowKit
/-- A step of an object with the blocks F; behind it has the blocks F'. -/
def Step (w w' : World) (F F' : Nat → Prop) : Prop := Keeps F w w' ∧ ∀ j, F' j → F j ∨ (w.heap.size ≤ j ∧ j < w'.heap.size)
def Dis (F G : Nat → Prop) : Prop := ∀ j, F j → ¬ G j
def Lt (F : Nat → Prop) (w : World) : Prop := ∀ j, F j → j < w.heap.size
def Ge (F : Nat → Prop) (w : World) : Prop := ∀ j, F j → w.heap.size ≤ j
section
variable {w0 w w' w'' : World} {F F' F'' G M : Nat → Prop}
theorem Dis.symm (h : Dis F G) : Dis G F := fun j hg hf => h j hf hg
theorem Lt.mono (h : Lt F w) (k : w.heap.size ≤ w'.heap.size) : Lt F w' := fun j hj => Nat.lt_of_lt_of_le (h j hj) k
theorem Lt.keeps (h : Lt F w) (k : Keeps M w w') : Lt F w' := h.mono k.size
theorem Ge.keeps (h : Ge F w') (k : Keeps M w w') : Ge F w := fun j hj => Nat.le_trans k.size (h j hj)
theorem Step.refl (w : World) (F : Nat → Prop) : Step w w F F := ⟨Keeps.refl _ _, fun _ h => .inl h⟩
theorem Step.trans (h : Step w w' F F') (k : Step w' w'' F' F'') : Step w w'' F F'' :=
  ⟨h.1.then k.1 (fun i hi hm => (h.2 i hm).elim id (fun x => absurd x.1 (by omega))), fun j hj => by
    rcases k.2 j hj with h1 | ⟨h1, h2⟩
    · rcases h.2 j h1 with h3 | ⟨h3, h4⟩
      · exact .inl h3
      · exact .inr ⟨h3, Nat.lt_of_lt_of_le h4 k.1.size⟩
    · exact .inr ⟨Nat.le_trans h.1.size h1, h2⟩⟩
theorem Step.size (h : Step w w' F F') : w.heap.size ≤ w'.heap.size := h.1.size
/-- What was there at the start is as it was. -/
theorem Step.keeps (h : Step w w' F F') (k : Keeps Nob w0 w) (g : Ge F w0) : Keeps Nob w0 w' := k.then h.1 (fun i hi hm => by have := g i hm; omega)
theorem Step.lt (h : Step w w' F F') (l : Lt F w) : Lt F' w' := fun j hj => by
  rcases h.2 j hj with h1 | ⟨_, h1⟩
  · exact Nat.lt_of_lt_of_le (l j h1) h.1.size
  · exact h1
end
end Go.Own
namespace Go.Proofs.YtpflmldmbpnllaaDoor
set_option maxRecDepth 100000
set_option maxHeartbeats 4000000
open Go Go.RowKit Go.Own
end Go.Proofs.YtpflmldmbpnllaaDoor
namespace Go.Proofs.YtpflmldmbpnllaaDoor
set_option maxRecDepth 100000
set_option maxHeartbeats 4000000
open Go Go.RowKit Go.Own Go.Shelf
/-- A reader's state: its error (0: none) and its place, or that of its fault. -/
structure RS where
  err : Int
  pos : Int
/-- A reader at block b: its bytes' slice v, its fault's pointer fp, its own place. -/
structure RdAt (w : World) (b : Nat) (v fp : Value) (l : List UInt8) (s : RS) : Prop where
  ex : ∃ at_ : Nat, w.heap[b]? = some (.cells #[v, .int .i64 (at_ : Int), .bool true, fp] 116 (0, 0)) ∧ at_ ≤ l.length ∧
    ((s.err = 0 ∧ s.pos = at_ ∧ fp = .pointer none) ∨ (s.err ≠ 0 ∧ ∃ g, fp = .pointer (some ⟨g, 0, none⟩) ∧ g ≠ b ∧ w.heap[g]? = some (.cells #[.int .i64 s.err, .int .i64 s.pos] 46 (0, 0))))
  bytes : BytesAt w v l
  own : v.ownBlock ≠ some b
def ptrBlock : Value → Option Nat
  | .pointer (some a) => some a.block
  | _ => none
/-- Its blocks. -/
def rdBlk (b : Nat) (v fp : Value) : Nat → Prop := fun j => j = b ∨ v.ownBlock = some j ∨ ptrBlock fp = some j
theorem RdAt.keeps {w w' : World} {M : Nat → Prop} {b : Nat} {v fp : Value} {l : List UInt8} {s : RS} (h : RdAt w b v fp l s) (k : Keeps M w w') (hm : ∀ j, rdBlk b v fp j → ¬ M j) : RdAt w' b v fp l s := by
  obtain ⟨at_, hb, hl, hf⟩ := h.ex
  refine ⟨⟨at_, (k.block b (lt_of_block hb) (hm b (.inl rfl))).trans hb, hl, ?_⟩, h.bytes.keeps k (fun j hj => hm j (.inr (.inl hj))), h.own⟩
  rcases hf with hf | ⟨h0, g, rfl, hg, hc⟩
  · exact .inl hf
  · exact .inr ⟨h0, g, rfl, hg, (k.block g (lt_of_block hc) (hm g (.inr (.inr rfl)))).trans hc⟩
theorem RdAt.lt {w : World} {b : Nat} {v fp : Value} {l : List UInt8} {s : RS} (h : RdAt w b v fp l s) : b < w.heap.size := by
  obtain ⟨at_, hb, _⟩ := h.ex
  exact lt_of_block hb
theorem rnone_ok (b : Nat) (v fp : Value) (l : List UInt8) (s : RS) (w : World) (h : RdAt w b v fp l s) :
    Calls Tryd.prog 77 #[.pointer (some ⟨b, 0, none⟩)] w fun e w' => e = .returned (.bool false) ∧ w = w' := by
  obtain ⟨at_, hb, hl, hf⟩ := h.ex
  have c2 : w.cell? ⟨b, 2, none⟩ = some (.bool true) := (cell_of_row w b 2 _ _ _ hb).trans rfl
  clear h hb hf
  go_enter Tryd.func77, Tryd.ntmps77
  go_wp2
  go_ret
  exact ⟨rfl, rfl⟩
theorem rAt_ok (b : Nat) (v fp : Value) (l : List UInt8) (s : RS) (w : World) (h : RdAt w b v fp l s) :
    Calls Tryd.prog 55 #[.pointer (some ⟨b, 0, none⟩)] w fun e w' => e = .returned (.int .i64 s.pos) ∧ w = w' := by
  have HN := Lib.hid (rnone_ok b v fp l s w h)
  obtain ⟨at_, hb, hl, hf⟩ := h.ex
  have c1 : w.cell? ⟨b, 1, none⟩ = some (.int .i64 (at_ : Int)) := (cell_of_row w b 1 _ _ _ hb).trans rfl
  have c3 : w.cell? ⟨b, 3, none⟩ = some fp := (cell_of_row w b 3 _ _ _ hb).trans rfl
  clear h hb
  rcases hf with ⟨h0, hp, rfl⟩ | ⟨h0, g, rfl, hg, hc⟩
  · rw [hp]
    clear hp
    go_enter Tryd.func55, Tryd.ntmps55
    go_wp2_with (go_at_call 77; refine HN.out.mono ?_; rintro e w' ⟨rfl, rfl⟩)
    go_ret
    exact ⟨rfl, rfl⟩
  · have g1 : w.cell? ⟨g, 1, none⟩ = some (.int .i64 s.pos) := (cell_of_row w g 1 _ _ _ hc).trans rfl
    clear hc
    go_enter Tryd.func55, Tryd.ntmps55
    go_wp2_with (go_at_call 77; refine HN.out.mono ?_; rintro e w' ⟨rfl, rfl⟩)
    go_ret
    exact ⟨rfl, rfl⟩
/-- How many bytes are left. -/
def RS.left (s : RS) (l : List UInt8) : Int := if s.err = 0 then l.length - s.pos else 0
/-- What End tells. -/
def RS.fin (s : RS) (l : List UInt8) : Int × Int := if s.err = 0 then (if s.pos < l.length then (4, s.pos) else (0, 0)) else (s.err, s.pos)
theorem rEnd_ok (b : Nat) (v fp : Value) (l : List UInt8) (s : RS) (w : World) (h : RdAt w b v fp l s) :
    Calls Tryd.prog 58 #[.pointer (some ⟨b, 0, none⟩)] w fun e w' => e = .returned (.agg #[.int .i64 (s.fin l).1, .int .i64 (s.fin l).2]) ∧ Keeps Nob w w' := by
  have hk0 : Keeps Nob w (w.alloc (.cells #[.int .i64 0, .int .i64 0] 46)) := (Keeps.refl _ _).alloc _
  have hA := h.keeps hk0 (fun _ _ x => x)
  have HN := Lib.hid (rnone_ok b v fp l s _ hA)
  have hll := h.bytes.length_le
  obtain ⟨A, cap, rfl⟩ := h.bytes.len
  obtain ⟨at_, hb, hl, hf⟩ := hA.ex
  have hlt := h.lt
  have c0 := (cell_of_row _ b 0 _ _ _ hb).trans (show _ = some (.slice A l.length cap) from rfl)
  have c1 := (cell_of_row _ b 1 _ _ _ hb).trans (show _ = some (.int .i64 (at_ : Int)) from rfl)
  have c3 := (cell_of_row _ b 3 _ _ _ hb).trans (show _ = some fp from rfl)
  clear h hA hb
  rcases hf with ⟨h0, hp, rfl⟩ | ⟨h0, g, rfl, hg, hc⟩
  · by_cases h1 : at_ < l.length
    · have hs : s.fin l = (4, (at_ : Int)) := by unfold RS.fin; rw [if_pos h0, hp, if_pos (by omega)]
      rw [hs]
      clear hs h0 hp
      go_enter Tryd.func58, Tryd.ntmps58
      go_wp2_with (go_at_call 77; refine HN.out.mono ?_; rintro e w' ⟨rfl, rfl⟩)
      go_quiet (fail)
      go_wp2
      exact bodyPost_ret (v := .agg #[.int .i64 4, .int .i64 (at_ : Int)]) (by simp [results, Tryd.results58, go_sem]) rfl ⟨rfl, ((hk0.drewN _).setCell_new (p := ⟨w.heap.size, 0, none⟩) (Nat.le_refl _) _).setCell_new (p := ⟨w.heap.size, 1, none⟩) (Nat.le_refl _) _⟩
    · have hs : s.fin l = (0, 0) := by unfold RS.fin; rw [if_pos h0, hp, if_neg (by omega)]
      rw [hs]
      clear hs h0 hp
      go_enter Tryd.func58, Tryd.ntmps58
      go_wp2_with (go_at_call 77; refine HN.out.mono ?_; rintro e w' ⟨rfl, rfl⟩)
      go_quiet (fail)
      go_wp2
      exact bodyPost_ret (v := .agg #[.int .i64 0, .int .i64 0]) (by simp [results, Tryd.results58, go_sem]) rfl ⟨rfl, ((hk0.drewN _).setCell_new (p := ⟨w.heap.size, 0, none⟩) (Nat.le_refl _) _).setCell_new (p := ⟨w.heap.size, 1, none⟩) (Nat.le_refl _) _⟩
  · have g0 := (cell_of_row _ g 0 _ _ _ hc).trans (show _ = some (.int .i64 s.err) from rfl)
    have g1 := (cell_of_row _ g 1 _ _ _ hc).trans (show _ = some (.int .i64 s.pos) from rfl)
    have hs : s.fin l = (s.err, s.pos) := by unfold RS.fin; rw [if_neg h0]
    rw [hs]
    clear hs h0 hc
    go_enter Tryd.func58, Tryd.ntmps58
    go_wp2_with (go_at_call 77; refine HN.out.mono ?_; rintro e w' ⟨rfl, rfl⟩)
    exact bodyPost_ret (v := .agg #[.int .i64 s.err, .int .i64 s.pos]) (by simp [results, Tryd.results58, go_sem]) rfl ⟨rfl, (Keeps.refl _ _).alloc _⟩
/-- A fault that is laid from without. -/
def RS.fail (s : RS) (e p : Int) : RS := if s.err = 0 ∧ e ≠ 0 then ⟨e, p⟩ else s
/-- What a step may lay: a fault's new block. -/
def NewPtr (w : World) (fp fp' : Value) : Prop := fp' = fp ∨ ∃ g, fp' = .pointer (some ⟨g, 0, none⟩) ∧ w.heap.size ≤ g
theorem rFail_ok (b : Nat) (v fp : Value) (l : List UInt8) (s : RS) (e p : Int) (w : World) (h : RdAt w b v fp l s) :
    Calls Tryd.prog 57 #[.pointer (some ⟨b, 0, none⟩), .int .i64 e, .int .i64 p] w fun x w' => (∃ r, x = .returned r) ∧ (∃ fp', RdAt w' b v fp' l (s.fail e p) ∧ NewPtr w fp fp') ∧ Keeps (One b) w w' := by
  have H := Lib.hid h
  have HN := Lib.hid (rnone_ok b v fp l s w h)
  obtain ⟨at_, hb, hl, hf⟩ := h.ex
  have c3 : w.cell? ⟨b, 3, none⟩ = some fp := (cell_of_row w b 3 _ _ _ hb).trans rfl
  have f3 : w.frozen? ⟨b, 3, none⟩ = false := frozen_of_row w b 3 _ _ hb
  have hlt := h.lt
  have HBK := Lib.hid hb
  clear h hb
  rcases hf with ⟨h0, hp, rfl⟩ | ⟨h0, g, rfl, hg, hc⟩
  · by_cases he : e = 0
    · have hs : s.fail e p = s := by unfold RS.fail; rw [if_neg (by simp [he])]
      rw [hs]
      have hb : (e != 0) = false := by simpa using he
      clear hs h0 hp he
      go_enter Tryd.func57, Tryd.ntmps57
      go_wp2_with (go_at_call 77; refine HN.out.mono ?_; rintro e w' ⟨rfl, rfl⟩)
      go_end0
      exact ⟨⟨_, rfl⟩, ⟨_, H.out, .inl rfl⟩, Keeps.refl _ _⟩
    · have hs : s.fail e p = ⟨e, p⟩ := by unfold RS.fail; rw [if_pos ⟨h0, he⟩]
      rw [hs]
      have hb : (e != 0) = true := by simpa using he
      have HE := Lib.hid he
      clear hs h0 hp he
      go_enter Tryd.func57, Tryd.ntmps57
      go_wp2_with (go_at_call 77; refine HN.out.mono ?_; rintro e w' ⟨rfl, rfl⟩)
      go_end0
      have kS : Keeps (One b) w (w.setCell ⟨b, 3, none⟩ (.pointer (some ⟨w.heap.size, 0, none⟩))) := (Keeps.refl _ _).setOne _
      have hbS : (w.setCell ⟨b, 3, none⟩ (.pointer (some ⟨w.heap.size, 0, none⟩))).heap[b]? = some (.cells #[v, .int .i64 (at_ : Int), .bool true, .pointer (some ⟨w.heap.size, 0, none⟩)] 116 (0, 0)) := heap_setCell_same w b 3 _ _ _ HBK.out
      have hsz : (w.setCell ⟨b, 3, none⟩ (.pointer (some ⟨w.heap.size, 0, none⟩))).heap.size = w.heap.size := by simp
      generalize w.setCell ⟨b, 3, none⟩ (.pointer (some ⟨w.heap.size, 0, none⟩)) = WS at *
      have hg2 : (WS.alloc (.cells #[.int .i64 e, .int .i64 p] 46)).heap[w.heap.size]? = some (.cells #[.int .i64 e, .int .i64 p] 46 (0, 0)) := by rw [← hsz]; exact heap_alloc_new _ _
      have hk := kS.alloc (.cells #[.int .i64 e, .int .i64 p] 46)
      refine ⟨⟨_, rfl⟩, ⟨_, ⟨⟨at_, (Below.heap_alloc _ _ _ (by omega)).trans hbS, hl, .inr ⟨HE.out, w.heap.size, rfl, by omega, hg2⟩⟩, ?_, H.out.own⟩, .inr ⟨_, rfl, Nat.le_refl _⟩⟩, hk⟩
      exact H.out.bytes.keeps hk (fun j hj (e : j = b) => H.out.own (by rw [hj, e]))
  · have hs : s.fail e p = s := by unfold RS.fail; rw [if_neg (by simp [h0])]
    rw [hs]
    clear hs h0 hc
    go_enter Tryd.func57, Tryd.ntmps57
    go_wp2_with (go_at_call 77; refine HN.out.mono ?_; rintro e w' ⟨rfl, rfl⟩)
    go_end0
    exact ⟨⟨_, rfl⟩, ⟨_, H.out, .inl rfl⟩, Keeps.refl _ _⟩
/-- 'slices.Clone' of bytes: nil of nil, else new memory. -/
theorem u8_info1 : (Tryd.prog.info? 5).map (fun i => (i.zero, i.size, i.bytes)) = some (some (.int .u8 0), 1, 1) := by kernel_rfl
theorem clone_ok (a : Value) (l : List UInt8) (w : World) (ha : BytesAt w a l) (hl : l.length ≤ 100000000) :
    Calls Tryd.prog 76 #[a] w fun e w' => ∃ v, e = .returned v ∧ Row w' 5 1 v l.length (B l) ∧ (∀ j, v.ownBlock = some j → w.heap.size ≤ j) ∧ Keeps Nob w w' := by
  obtain ⟨i0, hi, hz0, hz1, hz2⟩ := info_parts u8_info1
  obtain ⟨A, cap, rfl, h1, h2, h3⟩ := ha.form
  cases A with
  | none =>
    have h0 : l = [] := by
      cases l with
      | nil => rfl
      | cons x r => obtain ⟨b, o, c, e, _⟩ := ha.at_ 0 x rfl; simp at e
    subst h0
    obtain rfl := h3 rfl
    clear ha
    have hn := fun W => Lib.run_eql_slice_nil (P := Tryd.prog) W 39 5 none 0 0 0 0 Tryd.underlying39
    go_enter Tryd.func76, Tryd.ntmps76
    go_wp2
    go_ret
    exact ⟨_, rfl, ⟨rfl, .inl ⟨rfl, rfl⟩⟩, (fun j hj => by cases hj), Keeps.refl _ _⟩
  | some ad =>
    have hr := Row.empty w 5
    have hs := (ha.keepsN ((Keeps.refl Nob w).alloc (.cells #[] 5))).src
    have HA := Lib.hid ha
    clear ha h3
    have hn := fun W => Lib.run_eql_slice_nil (P := Tryd.prog) W 39 5 (some ad) l.length cap 0 0 Tryd.underlying39
    go_enter Tryd.func76, Tryd.ntmps76
    go_wp2_with (at_builtin; refine own_append2 rfl _ _ 39 rfl 5 i0 (.int .u8 0) 1 1 Tryd.underlying39 hi hz0 hz1 hz2 rfl (by decide) (.slice (some ⟨w.heap.size, 0, none⟩) 0 0) 0 _ rfl hr (.slice (some ad) l.length cap) l.length (B l) rfl hs (by unfold maxLen; omega) (by omega) ?_; intro v' w1 hown' hgrow hnil hat; rw [Nat.zero_add, List.nil_append] at hown'; have H1 := Lib.hid hown'; have H3 := Lib.hid hat; have H4 := Lib.hid hgrow; clear hown' hnil hat hgrow)
    go_ret
    refine ⟨_, rfl, H1.out, fun j hj => ?_, ((Keeps.refl Nob w).alloc _).grown H4.out (fun j hj hlt => by simp [Value.ownBlock] at hj; omega)⟩
    rcases H3.out j hj with h | ⟨h, _⟩
    · simp [Value.ownBlock] at h; omega
    · simp at h; omega
theorem newReader_ok (a : Value) (l : List UInt8) (w : World) (ha : BytesAt w a l) (hl : l.length ≤ 100000000) :
    Calls Tryd.prog 54 #[a] w fun e w' => ∃ b v, e = .returned (.pointer (some ⟨b, 0, none⟩)) ∧ RdAt w' b v (.pointer none) l ⟨0, 0⟩ ∧ w.heap.size ≤ b ∧ (∀ j, v.ownBlock = some j → w.heap.size ≤ j ∧ j < w'.heap.size) ∧ Keeps Nob w w' := by
  have HC := Lib.hid (clone_ok a l w ha hl)
  clear ha
  go_enter Tryd.func54, Tryd.ntmps54
  go_wp2_with (go_at_call 76; refine HC.out.mono ?_; rintro e w' ⟨v, rfl, h1, h2, h3⟩; obtain ⟨A, cap, rfl⟩ := (Row.bytes h1).len; have H1 := Lib.hid h1; have H2 := Lib.hid h2; clear h1 h2)
  go_ret
  have hkA : Keeps Nob w' (w'.alloc (.cells #[.slice A l.length cap, .int .i64 0, .bool true, .pointer none] 116)) := (Keeps.refl _ _).alloc _
  refine ⟨w'.heap.size, .slice A l.length cap, rfl, ⟨⟨0, heap_alloc_new _ _, Nat.zero_le _, .inl ⟨rfl, rfl, rfl⟩⟩, (Row.bytes H1.out).keepsN hkA, fun h => ?_⟩, h3.size, fun j hj => ⟨H2.out j hj, Nat.lt_of_lt_of_le (H1.out.lt hj) hkA.size⟩, h3.trans hkA⟩
  exact absurd (H1.out.lt h) (by omega)
end Go.Proofs.YtpflmldmbpnllaaDoor
namespace Go.Proofs.YtpflmldmbpnllaaDoor
set_option maxRecDepth 100000
set_option maxHeartbeats 4000000
open Go Go.RowKit Go.Own Go.Shelf
/-- A writer's state: its limit, its bytes, its error. -/
structure WS where
  lim : Int
  out : List UInt8
  err : Int
def WS.add (s : WS) (bs : List UInt8) : WS := if s.err = 0 then (if s.lim - s.out.length < bs.length then { s with err := 4 } else { s with out := s.out ++ bs }) else s
end Go.Proofs.YtpflmldmbpnllaaDoor
namespace Go.Proofs.YtpflmldmbpnllaaDoor
set_option maxRecDepth 100000
set_option maxHeartbeats 4000000
open Go Go.RowKit Go.Own Go.Shelf
/-- The cells of an array, as a slice of bytes. -/
theorem bytes_of_block {w : World} {g : Nat} {l : List UInt8} {t : TypeId} {fr : Nat × Nat} (hg : w.heap[g]? = some (.cells (B l).toArray t fr)) (hl : l.length ≤ maxLen) : BytesAt w (.slice (some ⟨g, 0, none⟩) l.length l.length) l :=
  ⟨⟨_, _, rfl, Nat.le_refl _, hl, fun h => by cases h⟩, fun k x hk => ⟨g, 0, _, rfl, lt_of_block hg, by rw [Nat.zero_add]; exact (cell_of_row w g k _ _ _ hg).trans (by simpa using B_get l k x hk)⟩⟩
end Go.Proofs.YtpflmldmbpnllaaDoor
namespace Go.Proofs.YtpflmldmbpnllaaDoor
set_option maxRecDepth 100000
set_option maxHeartbeats 4000000
open Go Go.RowKit Go.Own Go.Shelf
section
variable {w w' : World} {F M : Nat → Prop} {b : Nat} {t t' : WS}
end
end Go.Proofs.YtpflmldmbpnllaaDoor
namespace Go.Proofs.YtpflmldmbpnllaaDoor
set_option maxRecDepth 100000
set_option maxHeartbeats 4000000
open Go Go.RowKit Go.Own Go.Shelf
theorem exec_cut {o : Oper} {ρ : Operand → Value} {w : World} (x y : Operand) (ho : o.op = .slice 39 x (some y) none none) (A : Option Addr) (n cap k : Nat) (hx : ρ x = .slice A n cap) (hy : ρ y = .int .i64 (k : Int)) (hk : k ≤ n) :
    (execOp ρ o).run Tryd.prog w = .ok (.value (cutV A n cap k)) w := by
  have hc := run_cut (P := Tryd.prog) (t := 39) rfl bytes_size A n cap k hk w
  unfold execOp
  simp only [ho, hx, hy, Option.map_some, Option.map_none, Sem.run_bind, hc, Result.andThen_ok, Sem.run_pure]
/-- What is read: as the func told it, or nothing. -/
def RdVal (s : RS) (er : Int) (PX : World → Value → Prop) (z : Value) (w : World) (V : Value) : Prop := (s.err = 0 ∧ er = 0 ∧ PX w V) ∨ (¬ (s.err = 0 ∧ er = 0) ∧ V = z)
/-- The state behind a read. -/
def RS.read (s : RS) (k : Nat) (er : Int) : RS := if s.err = 0 then (if er = 0 then ⟨0, s.pos + k⟩ else ⟨er, s.pos⟩) else s
noncomputable def opsreadI : Array Oper := opsOf Tryd.f78 4
theorem readI_core (f : FuncId) (caps : Array Value) (hent : ∀ args w, (callFunc f args).run Tryd.prog w = .ok (.enter f args) w) (b : Nat) (v fp : Value) (l : List UInt8) (s : RS) (w : World) (h : RdAt w b v fp l s) (k : Nat) (er : Int) (PX : World → Value → Prop)
    (HF0 : s.err = 0 → ∀ W A cap, v = .slice A l.length cap → Keeps Nob w W → Calls Tryd.prog f (#[cutV A l.length cap s.pos.toNat] ++ caps) W fun e W' => ∃ X, e = .returned (.tuple #[X, .int .i64 (k : Int), .int .i64 er]) ∧ PX W' X ∧ Keeps Nob W W')
    (hPX : ∀ W W' X, PX W X → Keeps (One b) W W' → PX W' X) (hk0 : s.err = 0 → er = 0 → s.pos + k ≤ l.length) :
    Calls Tryd.prog 78 #[.pointer (some ⟨b, 0, none⟩), .func (.func f) #[] caps] w fun e w' => ∃ V, e = .returned V ∧ RdVal s er PX (.int .i64 0) w' V ∧ (∃ fp', RdAt w' b v fp' l (s.read k er) ∧ NewPtr w fp fp') ∧ Keeps (One b) w w' := by
  have H := Lib.hid h
  have HN := Lib.hid (rnone_ok b v fp l s w h)
  have hll := h.bytes.length_le
  obtain ⟨A, cap, rfl⟩ := h.bytes.len
  obtain ⟨at_, hb, hl, hf⟩ := h.ex
  have hlt := h.lt
  have c3 : w.cell? ⟨b, 3, none⟩ = some fp := (cell_of_row w b 3 _ _ _ hb).trans rfl
  have HBK := Lib.hid hb
  have HPX := Lib.hid hPX
  clear h hb hPX
  rcases hf with ⟨h0, hp, rfl⟩ | ⟨h0, g, rfl, hg, hc⟩
  · have hpn : s.pos.toNat = at_ := by omega
    have HF := HF0 h0
    have hk := hk0 h0
    rw [hpn] at HF
    have e1 : s.read k er = if er = 0 then ⟨0, s.pos + k⟩ else ⟨er, s.pos⟩ := by unfold RS.read; rw [if_pos h0]
    rw [e1]
    have HFH := Lib.hid (fun W => HF W A cap rfl)
    have HP := Lib.hid hp
    have H0 := Lib.hid h0
    have HK := Lib.hid hk
    clear e1 HF hpn hp h0 hk HF0 hk0
    go_enter Tryd.func78, Tryd.ntmps78
    go_wp2_with (go_at_call 77; refine HN.out.mono ?_; rintro e w' ⟨rfl, rfl⟩)
    refine wp_region_noPanic <| region_named (R := opsreadI) (by kernel_rfl) <| wp_regionH_fuel (fun W => Keeps Nob w W) 18 #[false, false, false, false, false, false, false, false, false, false, false, false, false, false, false, false, false, false] (by kernel_rfl) (by kernel_rfl) rfl ?_
    have S0 : Keeps Nob w w.drew := (Keeps.refl _ _).drew
    have cb : ∀ W, Keeps Nob w W → W.heap[b]? = some (.cells #[.slice A l.length cap, .int .i64 (at_ : Int), .bool true, .pointer none] 116 (0, 0)) := fun W hW => (hW.block b hlt (fun x => x)).trans HBK.out
    refine wpAnyH_val (i := 0) (opsreadI.getD 0 default) (.func (.func f) #[] caps) (by kernel_rfl) (fun _ _ _ _ _ h => h) (by kernel_rfl) (by kernel_rfl) (by kernel_rfl) (by kernel_rfl) (fun W hW => by kernel_rfl) S0 <| wpAnyH_val (i := 1) (opsreadI.getD 1 default) (.pointer (some ⟨b, 0, none⟩)) (by kernel_rfl) (fun _ _ _ _ _ h => h) (by kernel_rfl) (by kernel_rfl) (by kernel_rfl) (by kernel_rfl) (fun W hW => by kernel_rfl) S0 <| wpAnyH_val (i := 2) (opsreadI.getD 2 default) (.pointer (some ⟨b, 0, none⟩)) (by kernel_rfl) (fun _ _ _ _ _ h => h) (by kernel_rfl) (by kernel_rfl) (by kernel_rfl) (by kernel_rfl) (fun W hW => by kernel_rfl) S0 <| wpAnyH_val (i := 3) (opsreadI.getD 3 default) (.pointer (some ⟨b, 0, none⟩)) (by kernel_rfl) (fun _ _ _ _ _ h => h) (by kernel_rfl) (by kernel_rfl) (by kernel_rfl) (by kernel_rfl) (fun W hW => by kernel_rfl) S0 <| wpAnyH_val (i := 4) (opsreadI.getD 4 default) (.slice A l.length cap) (by kernel_rfl) (fun _ _ _ _ _ h => h) (by kernel_rfl) (by kernel_rfl) (by kernel_rfl) (by kernel_rfl) (fun W hW => exec_load_cell 39 (.tmp 23) (by kernel_rfl) ⟨b, 0, none⟩ (by kernel_rfl) _ _ Tryd.underlying39 rfl ((cell_of_row W b 0 _ _ _ (cb W hW)).trans rfl)) S0 <| wpAnyH_val (i := 5) (opsreadI.getD 5 default) (.pointer (some ⟨b, 0, none⟩)) (by kernel_rfl) (fun _ _ _ _ _ h => h) (by kernel_rfl) (by kernel_rfl) (by kernel_rfl) (by kernel_rfl) (fun W hW => by kernel_rfl) S0 <| wpAnyH_val (i := 6) (opsreadI.getD 6 default) (.pointer (some ⟨b, 0, none⟩)) (by kernel_rfl) (fun _ _ _ _ _ h => h) (by kernel_rfl) (by kernel_rfl) (by kernel_rfl) (by kernel_rfl) (fun W hW => by kernel_rfl) S0 <| wpAnyH_val (i := 7) (opsreadI.getD 7 default) (.pointer (some ⟨b, 1, none⟩)) (by kernel_rfl) (fun _ _ _ _ _ h => h) (by kernel_rfl) (by kernel_rfl) (by kernel_rfl) (by kernel_rfl) (fun W hW => by kernel_rfl) S0 <| wpAnyH_val (i := 8) (opsreadI.getD 8 default) (.int .i64 (at_ : Int)) (by kernel_rfl) (fun _ _ _ _ _ h => h) (by kernel_rfl) (by kernel_rfl) (by kernel_rfl) (by kernel_rfl) (fun W hW => exec_load_cell 3 (.tmp 27) (by kernel_rfl) ⟨b, 1, none⟩ (by kernel_rfl) _ _ Tryd.underlying3 rfl ((cell_of_row W b 1 _ _ _ (cb W hW)).trans rfl)) S0 <| wpAnyH_val (i := 9) (opsreadI.getD 9 default) (cutV A l.length cap at_) (by kernel_rfl) (fun _ _ _ _ _ h => h) (by kernel_rfl) (by kernel_rfl) (by kernel_rfl) (by kernel_rfl) (fun W hW => exec_cut (.tmp 24) (.tmp 28) (by kernel_rfl) A l.length cap at_ (by kernel_rfl) (by kernel_rfl) hl) S0 ?_
    refine wpAnyH_callV (i := 10) (opsreadI.getD 10 default) (.tmp 20) f caps (#[cutV A l.length cap at_] ++ caps) (by kernel_rfl) (by kernel_rfl) (by kernel_rfl) (by kernel_rfl) (by kernel_rfl) (by kernel_rfl) hent ((HFH.out _ S0).mono ?_)
    rintro e W1 ⟨X, rfl, hX, k1⟩
    have S1 : Keeps Nob w W1 := S0.trans k1
    refine ⟨_, rfl, S1, ?_⟩
    refine wpAnyH_run (i := 11) (opsreadI.getD 11 default) (.tuple #[X, .int .i64 (k : Int), .int .i64 er]) (w' := W1) (by kernel_rfl) (by kernel_rfl) (by kernel_rfl) (.inl (by kernel_rfl)) S1 <| wpAnyH_val (i := 12) (opsreadI.getD 12 default) (X) (by kernel_rfl) (fun _ _ _ _ _ h => h) (by kernel_rfl) (by kernel_rfl) (by kernel_rfl) (by kernel_rfl) (fun W hW => by kernel_rfl) S1 <| wpAnyH_val (i := 13) (opsreadI.getD 13 default) (.int .i64 (k : Int)) (by kernel_rfl) (fun _ _ _ _ _ h => h) (by kernel_rfl) (by kernel_rfl) (by kernel_rfl) (by kernel_rfl) (fun W hW => by kernel_rfl) S1 <| wpAnyH_val (i := 14) (opsreadI.getD 14 default) (.int .i64 er) (by kernel_rfl) (fun _ _ _ _ _ h => h) (by kernel_rfl) (by kernel_rfl) (by kernel_rfl) (by kernel_rfl) (fun W hW => by kernel_rfl) S1 <| wpAnyH_run (i := 15) (opsreadI.getD 15 default) (X) (w' := W1) (by kernel_rfl) (by kernel_rfl) (by kernel_rfl) (.inl (by kernel_rfl)) S1 <| wpAnyH_run (i := 16) (opsreadI.getD 16 default) (.int .i64 (k : Int)) (w' := W1) (by kernel_rfl) (by kernel_rfl) (by kernel_rfl) (.inl (by kernel_rfl)) S1 <| wpAnyH_run (i := 17) (opsreadI.getD 17 default) (.int .i64 er) (w' := W1) (by kernel_rfl) (by kernel_rfl) (by kernel_rfl) (.inl (by kernel_rfl)) S1 ?_
    refine wpAnyH_done (by kernel_rfl) ?_ _
    refine NoPanic.normal <| state_eq (b := ⟨#[.pointer (some ⟨b, 0, none⟩), .func (.func f) #[] caps, ud, ud, .int .i64 0, .int .i64 0, X, .int .i64 (k : Int), .int .i64 er, .pointer (some ⟨b, 0, none⟩), .bool false, .bool false, .pointer (some ⟨b, 0, none⟩), .pointer (some ⟨b, 0, none⟩), .pointer (some ⟨b, 3, none⟩), .pointer none, .bool false, .bool false, ud, .tuple #[X, .int .i64 (k : Int), .int .i64 er], .func (.func f) #[] caps, .pointer (some ⟨b, 0, none⟩), .pointer (some ⟨b, 0, none⟩), .pointer (some ⟨b, 0, none⟩), .slice A l.length cap, .pointer (some ⟨b, 0, none⟩), .pointer (some ⟨b, 0, none⟩), .pointer (some ⟨b, 1, none⟩), .int .i64 (at_ : Int), cutV A l.length cap at_, .tuple #[X, .int .i64 (k : Int), .int .i64 er], X, .int .i64 (k : Int), .int .i64 er, ud, ud, ud, ud, ud, ud, ud, ud, ud, ud, ud, ud, ud, ud, ud, ud, ud, ud, ud], []⟩) (by kernel_rfl) ?_
    have HX := Lib.hid hX
    have hbW := cb W1 S1
    have a1 : W1.cell? ⟨b, 1, none⟩ = some (.int .i64 (at_ : Int)) := (cell_of_row W1 b 1 _ _ _ hbW).trans rfl
    have a2 : W1.frozen? ⟨b, 1, none⟩ = false := frozen_of_row W1 b 1 _ _ hbW
    have HBW := Lib.hid hbW
    clear cb hX hbW
    generalize cutV A l.length cap at_ = cv at *
    by_cases he : er = 0
    · subst he
      have hkk := HK.out rfl
      rw [HP.out] at hkk
      go_wp2_with fail
      go_ret
      try simp only [if_true]
      have hkS : Keeps (One b) W1 (W1.setCell ⟨b, 1, none⟩ (.int .i64 ((at_ : Int) + k))) := (Keeps.refl _ _).setOne _
      have hkw : Keeps (One b) w (W1.setCell ⟨b, 1, none⟩ (.int .i64 ((at_ : Int) + k))) := (S1.mono (fun _ _ x => x.elim)).trans hkS
      refine ⟨_, rfl, .inl ⟨H0.out, rfl, HPX.out _ _ _ HX.out hkS⟩, ⟨.pointer none, ⟨⟨at_ + k, ?_, by omega, .inl ⟨rfl, by rw [HP.out]; simp, rfl⟩⟩, H.out.bytes.keeps hkw (fun j hj (e : j = b) => H.out.own (by rw [hj, e])), H.out.own⟩, .inl rfl⟩, hkw⟩
      rw [show (((at_ + k : Nat)) : Int) = (at_ : Int) + k by omega]
      exact heap_setCell_same W1 b 1 _ _ _ HBW.out
    · have hb : (er != 0) = true := by simpa using he
      have HFa := Lib.hid (rFail_ok b (.slice A l.length cap) (.pointer none) l s er (at_ : Int) W1 (H.out.keeps S1 (fun _ _ x => x)))
      have hs : s.fail er (at_ : Int) = ⟨er, s.pos⟩ := by unfold RS.fail; rw [if_pos ⟨H0.out, he⟩, HP.out]
      rw [hs] at HFa
      have HE := Lib.hid he
      clear hs he
      go_wp2_with (go_at_call 57; refine HFa.out.mono ?_; rintro e w' ⟨⟨r, rfl⟩, ⟨fp', h1, h2⟩, h3⟩; have H1 := Lib.hid h1; have H2 := Lib.hid h2; clear h1 h2)
      go_ret
      try simp only [if_neg HE.out]
      refine ⟨_, rfl, .inr ⟨fun h => HE.out h.2, rfl⟩, ⟨fp', H1.out, ?_⟩, (S1.mono (fun _ _ x => x.elim)).trans h3⟩
      rcases H2.out with h | ⟨g, h, hg⟩
      · exact .inl h
      · exact .inr ⟨g, h, Nat.le_trans S1.size hg⟩
  · have e1 : s.read k er = s := by unfold RS.read; rw [if_neg h0]
    rw [e1]
    have HE := Lib.hid h0
    clear e1 h0 hc HF0 hk0
    go_enter Tryd.func78, Tryd.ntmps78
    go_wp2_with (go_at_call 77; refine HN.out.mono ?_; rintro e w' ⟨rfl, rfl⟩)
    go_ret
    exact ⟨_, rfl, .inr ⟨fun h => HE.out h.1, rfl⟩, ⟨_, H.out, .inl rfl⟩, Keeps.refl _ _⟩
end Go.Proofs.YtpflmldmbpnllaaDoor
namespace Go.Proofs.YtpflmldmbpnllaaDoor
set_option maxRecDepth 100000
set_option maxHeartbeats 4000000
open Go Go.RowKit Go.Own Go.Shelf
/-- The number that stands at a reader's place. -/
def RS.num (s : RS) (l : List UInt8) : Nat × Nat × Int := Cod.num (l.drop s.pos.toNat)
theorem RS.num_le (s : RS) (l : List UInt8) (h0 : 0 ≤ s.pos) (hl : s.pos ≤ l.length) (he : (s.num l).2.2 = 0) : s.pos + (s.num l).2.1 ≤ l.length := by
  have := (Cod.num_ok _ he).2.2.1
  rw [List.length_drop] at this
  unfold RS.num
  omega
theorem RdAt.pos {w : World} {b : Nat} {v fp : Value} {l : List UInt8} {s : RS} (h : RdAt w b v fp l s) (h0 : s.err = 0) : 0 ≤ s.pos ∧ s.pos ≤ l.length := by
  obtain ⟨at_, hb, hl, hf⟩ := h.ex
  rcases hf with ⟨_, hp, _⟩ | ⟨h1, _⟩
  · omega
  · exact absurd h0 h1
/-- Is a number out of bounds? -/
def outN (n : Nat) (least most : Int) : Prop := most < 0 ∨ most < (n : Int) ∨ (0 < least ∧ (n : Int) < least)
instance (n : Nat) (least most : Int) : Decidable (outN n least most) := by unfold outN; infer_instance
def errN (r : Nat × Nat × Int) (least most : Int) : Int := if r.2.2 = 0 ∧ outN r.1 least most then 3 else r.2.2
theorem rN1_ok (v : Value) (l : List UInt8) (least most : Int) (b1 b2 : Nat) (w : World) (hv : BytesAt w v l) (h1 : w.cell? ⟨b1, 0, none⟩ = some (.int .i64 most)) (h2 : w.cell? ⟨b2, 0, none⟩ = some (.int .i64 least))
   (m1 : -9223372036854775808 ≤ most ∧ most ≤ 9223372036854775807) (m2 : -9223372036854775808 ≤ least ∧ least ≤ 9223372036854775807) :
    Calls Tryd.prog 79 #[v, .pointer (some ⟨b1, 0, none⟩), .pointer (some ⟨b2, 0, none⟩)] w fun e w' => e = .returned (.tuple #[.int .i64 (wrap64 ((Cod.num l).1 : Int)), .int .i64 ((Cod.num l).2.1 : Int), .int .i64 (errN (Cod.num l) least most)]) ∧ w = w' := by
  have HN := Lib.hid (number_ok v l w hv)
  have hn64 : (Cod.num l).2.2 = 0 → (Cod.num l).1 < 18446744073709551616 := fun h => by have := (Cod.num_ok l h).1; simpa using this
  clear hv
  obtain ⟨er, her⟩ : ∃ er, errN (Cod.num l) least most = er := ⟨_, rfl⟩
  rw [her]
  unfold errN outN at her
  generalize Cod.num l = r at *
  obtain ⟨n, k, e⟩ := r
  simp only at her hn64 HN ⊢
  obtain ⟨m1a, m1b⟩ := m1
  obtain ⟨m2a, m2b⟩ := m2
  by_cases he : e = 0
  · subst he
    have hn := hn64 rfl
    clear hn64
    by_cases a1 : most < 0
    · obtain rfl : er = 3 := by rw [← her, if_pos ⟨rfl, .inl a1⟩]
      clear her
      go_enter Tryd.func79, Tryd.ntmps79
      go_wp2_with (go_at_call 80; refine HN.out.mono ?_; rintro e w' ⟨rfl, rfl⟩)
      go_ret3
      exact ⟨rfl, rfl⟩
    · have d1 : decide (most < 0) = false := by simpa using a1
      have w1 : IntKind.u64.wrap most = most := by simp [IntKind.wrap, IntKind.bits, IntKind.signed]; omega
      by_cases a2 : most < (n : Int)
      · obtain rfl : er = 3 := by rw [← her, if_pos ⟨rfl, .inr (.inl a2)⟩]
        clear her
        have d2 : decide (most < (n : Int)) = true := by simpa using a2
        go_enter Tryd.func79, Tryd.ntmps79
        go_wp2_with (go_at_call 80; refine HN.out.mono ?_; rintro e w' ⟨rfl, rfl⟩)
        go_ret3
        exact ⟨rfl, rfl⟩
      · have d2 : decide (most < (n : Int)) = false := by simpa using a2
        rw [IntWalk.wrap64_in (n : Int) ⟨by omega, by omega⟩]
        by_cases a3 : 0 < least
        · have d3 : decide (0 < least) = true := by simpa using a3
          have w2 : IntKind.u64.wrap least = least := by simp [IntKind.wrap, IntKind.bits, IntKind.signed]; omega
          by_cases a4 : (n : Int) < least
          · obtain rfl : er = 3 := by rw [← her, if_pos ⟨rfl, .inr (.inr ⟨a3, a4⟩)⟩]
            clear her
            have d4 : decide ((n : Int) < least) = true := by simpa using a4
            go_enter Tryd.func79, Tryd.ntmps79
            go_wp2_with (go_at_call 80; refine HN.out.mono ?_; rintro e w' ⟨rfl, rfl⟩)
            go_ret3
            exact ⟨rfl, rfl⟩
          · obtain rfl : er = 0 := by rw [← her, if_neg (by omega)]
            clear her
            have d4 : decide ((n : Int) < least) = false := by simpa using a4
            go_enter Tryd.func79, Tryd.ntmps79
            go_wp2_with (go_at_call 80; refine HN.out.mono ?_; rintro e w' ⟨rfl, rfl⟩)
            go_ret3
            exact ⟨rfl, rfl⟩
        · obtain rfl : er = 0 := by rw [← her, if_neg (by omega)]
          clear her
          have d3 : decide (0 < least) = false := by simpa using a3
          go_enter Tryd.func79, Tryd.ntmps79
          go_wp2_with (go_at_call 80; refine HN.out.mono ?_; rintro e w' ⟨rfl, rfl⟩)
          go_ret3
          exact ⟨rfl, rfl⟩
  · obtain rfl : er = e := by rw [← her, if_neg (fun h => he h.1)]
    have hb : (er == 0) = false := by simpa using he
    clear her hn64
    go_enter Tryd.func79, Tryd.ntmps79
    go_wp2_with (go_at_call 80; refine HN.out.mono ?_; rintro e w' ⟨rfl, rfl⟩)
    go_ret3
    exact ⟨rfl, rfl⟩
/-- N: what is told, and the state behind. -/
def rdN (l : List UInt8) (s : RS) (least most : Int) : Int × RS := (if s.err = 0 ∧ errN (s.num l) least most = 0 then ((s.num l).1 : Int) else 0, s.read (s.num l).2.1 (errN (s.num l) least most))
theorem errN_zero {r : Nat × Nat × Int} {least most : Int} (h : errN r least most = 0) : r.2.2 = 0 ∧ 0 ≤ most ∧ (r.1 : Int) ≤ most ∧ (0 < least → least ≤ r.1) := by
  unfold errN outN at h
  split at h
  · omega
  · rename_i h1
    refine ⟨h, ?_⟩
    have h2 := fun x => h1 ⟨h, x⟩
    omega
theorem rN_ok (b : Nat) (v fp : Value) (l : List UInt8) (s : RS) (least most : Int) (w : World) (h : RdAt w b v fp l s)
   (m2 : -9223372036854775808 ≤ least ∧ least ≤ 9223372036854775807) (m1 : -9223372036854775808 ≤ most ∧ most ≤ 9223372036854775807) :
    Calls Tryd.prog 56 #[.pointer (some ⟨b, 0, none⟩), .int .i64 least, .int .i64 most] w fun e w' => e = .returned (.int .i64 (rdN l s least most).1) ∧ (∃ fp', RdAt w' b v fp' l (rdN l s least most).2 ∧ NewPtr w fp fp') ∧ Keeps (One b) w w' := by
  have hkA : Keeps Nob w ((w.alloc (.cells #[.int .i64 least] 3)).alloc (.cells #[.int .i64 most] 3)) := ((Keeps.refl _ _).alloc _).alloc _
  have c1 : ((w.alloc (.cells #[.int .i64 least] 3)).alloc (.cells #[.int .i64 most] 3)).cell? ⟨w.heap.size + 1, 0, none⟩ = some (.int .i64 most) := (World.cell?_alloc_at _ _ _ _ (by simp)).trans rfl
  have c2 : ((w.alloc (.cells #[.int .i64 least] 3)).alloc (.cells #[.int .i64 most] 3)).cell? ⟨w.heap.size, 0, none⟩ = some (.int .i64 least) := (World.cell?_alloc_lt _ _ _ (by simp)).trans ((World.cell?_alloc_at _ _ _ _ rfl).trans rfl)
  have hb1 : w.heap.size + 1 < ((w.alloc (.cells #[.int .i64 least] 3)).alloc (.cells #[.int .i64 most] 3)).heap.size := by simp
  have hA := h.keeps hkA (fun _ _ x => x)
  have HC := Lib.hid (readI_core 79 #[.pointer (some ⟨w.heap.size + 1, 0, none⟩), .pointer (some ⟨w.heap.size, 0, none⟩)] (enters_of Tryd.func79 (by kernel_rfl) rfl) b v fp l s _ hA (s.num l).2.1 (errN (s.num l) least most) (fun _ X => X = .int .i64 (wrap64 ((s.num l).1 : Int)))
    (fun h0 W A cap hv hW => by
      subst hv
      refine (rN1_ok _ _ least most _ _ W ((hA.bytes.drop s.pos.toNat (by have := hA.pos h0; omega) _ _ _ rfl).keepsN hW) ((hW.cell hb1 (fun x => x)).trans c1) ((hW.cell (by omega) (fun x => x)).trans c2) m1 m2).mono ?_
      rintro e W' ⟨rfl, rfl⟩
      exact ⟨_, rfl, rfl, Keeps.refl _ _⟩)
    (fun _ _ _ h _ => h) (fun h0 he => s.num_le l (h.pos h0).1 (h.pos h0).2 (errN_zero he).1))
  have HKA := Lib.hid hkA
  clear h hA c1 c2 hb1 hkA
  have hmf : ∀ (fn : Fn) (first cap : Array Value) (w : World), (Instr.makeFunc fn first cap).run Tryd.prog w = .ok (.func fn first cap) w := fun _ _ _ _ => rfl
  obtain ⟨m1a, m1b⟩ := m1
  go_enter Tryd.func56, Tryd.ntmps56
  go_wp2_with (go_at_call 78; refine HC.out.mono ?_; rintro e w' ⟨V, rfl, h1, h2, h3⟩; have H1 := Lib.hid h1; have H2 := Lib.hid h2; clear h1 h2)
  go_ret
  obtain ⟨fp', h2, h3'⟩ := H2.out
  refine ⟨?_, ⟨fp', h2, ?_⟩, (HKA.out.mono (fun _ _ x => x.elim)).trans h3⟩
  · unfold rdN
    rcases H1.out with ⟨a, b, rfl⟩ | ⟨a, rfl⟩
    · have hz := errN_zero b
      rw [if_pos ⟨a, b⟩, IntWalk.wrap64_in ((s.num l).1 : Int) ⟨by omega, by omega⟩]; rfl
    · rw [if_neg a]; rfl
  · rcases h3' with h | ⟨g, h, hg⟩
    · exact .inl h
    · exact .inr ⟨g, h, Nat.le_trans HKA.out.size hg⟩
end Go.Proofs.YtpflmldmbpnllaaDoor
namespace Go.Proofs.YtpflmldmbpnllaaDoor
set_option maxRecDepth 100000
set_option maxHeartbeats 4000000
open Go Go.RowKit Go.Own Go.Shelf
def RS.rest (s : RS) (l : List UInt8) : List UInt8 := l.drop s.pos.toNat
end Go.Proofs.YtpflmldmbpnllaaDoor
namespace Go.Proofs.YtpflmldmbpnllaaDoor
set_option maxRecDepth 100000
set_option maxHeartbeats 4000000
open Go Go.RowKit Go.Own Go.Shelf
end Go.Proofs.YtpflmldmbpnllaaDoor
namespace Go.Proofs.YtpflmldmbpnllaaDoor
set_option maxRecDepth 100000
set_option maxHeartbeats 4000000
open Go Go.RowKit Go.Own Go.Shelf
end Go.Proofs.YtpflmldmbpnllaaDoor
namespace Go.Proofs.YtpflmldmbpnllaaDoor
set_option maxRecDepth 100000
set_option maxHeartbeats 4000000
open Go Go.RowKit Go.Own Go.Shelf
def Rd (w : World) (F : Nat → Prop) (b : Nat) (l : List UInt8) (s : RS) : Prop := ∃ v fp, RdAt w b v fp l s ∧ (∀ j, v.ownBlock = some j → j < w.heap.size) ∧ F = rdBlk b v fp
section
variable {w w' : World} {F M : Nat → Prop} {b : Nat} {l : List UInt8} {s s' : RS}
theorem Rd.lt (h : Rd w F b l s) : Lt F w := by
  obtain ⟨v, fp, h1, h2, rfl⟩ := h
  intro j hj
  rcases hj with rfl | hj | hj
  · exact h1.lt
  · exact h2 j hj
  · obtain ⟨at_, hb, hl, hf⟩ := h1.ex
    rcases hf with ⟨_, _, rfl⟩ | ⟨_, g, rfl, _, hc⟩
    · cases hj
    · cases hj; exact lt_of_block hc
theorem Rd.keeps (h : Rd w F b l s) (k : Keeps M w w') (d : Dis F M) : Rd w' F b l s := by
  obtain ⟨v, fp, h1, h2, rfl⟩ := h
  exact ⟨v, fp, h1.keeps k d, fun j hj => Nat.lt_of_lt_of_le (h2 j hj) k.size, rfl⟩
theorem Rd.keepsN (h : Rd w F b l s) (k : Keeps Nob w w') : Rd w' F b l s := h.keeps k (fun _ _ x => x)
theorem rdr_step {v fp fp' : Value} (h : RdAt w b v fp l s) (hv : ∀ j, v.ownBlock = some j → j < w.heap.size) (hr : RdAt w' b v fp' l s') (hn : NewPtr w fp fp') (k : Keeps (One b) w w') :
    ∃ F', Rd w' F' b l s' ∧ Step w w' (rdBlk b v fp) F' := by
  have hv' := fun j hj => Nat.lt_of_lt_of_le (hv j hj) k.size
  have hR : Rd w' (rdBlk b v fp') b l s' := ⟨v, fp', hr, hv', rfl⟩
  refine ⟨_, hR, k.mono (fun _ _ e => .inl e), fun j hj => ?_⟩
  rcases hj with hj | hj | hj
  · exact .inl (.inl hj)
  · exact .inl (.inr (.inl hj))
  · rcases hn with rfl | ⟨g, rfl, hg⟩
    · exact .inl (.inr (.inr hj))
    · refine .inr ⟨?_, hR.lt j (.inr (.inr hj))⟩
      cases hj; exact hg
def RPost (w : World) (F : Nat → Prop) (b : Nat) (l : List UInt8) (x : Value) (s' : RS) (e : Ending) (w' : World) : Prop := e = .returned x ∧ ∃ F', Rd w' F' b l s' ∧ Step w w' F F'
theorem Rd.n (h : Rd w F b l s) (least most : Int) (m2 : -9223372036854775808 ≤ least ∧ least ≤ 9223372036854775807) (m1 : -9223372036854775808 ≤ most ∧ most ≤ 9223372036854775807) :
    Calls Tryd.prog 56 #[.pointer (some ⟨b, 0, none⟩), .int .i64 least, .int .i64 most] w (RPost w F b l (.int .i64 (rdN l s least most).1) (rdN l s least most).2) := by
  obtain ⟨v, fp, h1, h2, rfl⟩ := h
  exact (rN_ok b v fp l s least most w h1 m2 m1).mono fun e w' ⟨he, ⟨fp', h3, h4⟩, h5⟩ => ⟨he, rdr_step h1 h2 h3 h4 h5⟩
theorem Rd.at_ (h : Rd w F b l s) : Calls Tryd.prog 55 #[.pointer (some ⟨b, 0, none⟩)] w fun e w' => e = .returned (.int .i64 s.pos) ∧ w = w' := by
  obtain ⟨v, fp, h1, _, _⟩ := h
  exact rAt_ok b v fp l s w h1
theorem Rd.fin (h : Rd w F b l s) : Calls Tryd.prog 58 #[.pointer (some ⟨b, 0, none⟩)] w fun e w' => e = .returned (.agg #[.int .i64 (s.fin l).1, .int .i64 (s.fin l).2]) ∧ Keeps Nob w w' := by
  obtain ⟨v, fp, h1, _, _⟩ := h
  exact rEnd_ok b v fp l s w h1
theorem rd_new (a : Value) (l : List UInt8) (w : World) (ha : BytesAt w a l) (hl : l.length ≤ 100000000) :
    Calls Tryd.prog 54 #[a] w fun e w' => ∃ b F, e = .returned (.pointer (some ⟨b, 0, none⟩)) ∧ Rd w' F b l ⟨0, 0⟩ ∧ Ge F w ∧ Keeps Nob w w' :=
  (newReader_ok a l w ha hl).mono fun e w' ⟨b, v, he, hr, hb, hf, hk⟩ => by
    refine ⟨b, _, he, ⟨v, _, hr, fun j hj => (hf j hj).2, rfl⟩, ?_, hk⟩
    intro j hj
    rcases hj with rfl | hj | hj
    · exact hb
    · exact (hf j hj).1
    · cases hj
end
end Go.Proofs.YtpflmldmbpnllaaDoor
namespace Go.Proofs.YtpflmldmbpnllaaDoor
set_option maxRecDepth 100000
set_option maxHeartbeats 4000000
open Go Go.RowKit Go.Own Go.Shelf
/-- Field i's number, read by a reader that stands at s. -/
def brd (l : List UInt8) (i : Nat) (s : RS) : Int × RS := rdN l s (parLo[i]?.getD 0) (parHi[i]?.getD 0)
def brn (l : List UInt8) (i : Nat) (s : RS) : Nat := (brd l i s).1.toNat
/-- The reader behind field i, 'vs' being the numbers ahead. -/
def bst (l : List UInt8) (vs : List Int) (i : Nat) (s : RS) : RS := if i = 1 ∧ vs[0]?.getD 0 < ((brn l i s : Nat) : Int) then (brd l i s).2.fail 9 s.pos else (brd l i s).2
def bgo : Nat → List Int → List UInt8 → RS → List Int × RS
  | 0, vs, _, s => (vs, s)
  | m + 1, vs, l, s => bgo m (vs ++ [((brn l vs.length s : Nat) : Int)]) l (bst l vs vs.length s)
def bres (l : List UInt8) : List Int × RS := bgo 11 [] l ⟨0, 0⟩
def bfin (l : List UInt8) : Int × Int := (bres l).2.fin l
def pbread (l : List UInt8) : Par × Int × Int := if (bfin l).1 = 0 then (parOfL (bres l).1, 0, 0) else (parZ, (bfin l).1, (bfin l).2)
theorem rdN_range (l : List UInt8) (s : RS) (lo hi : Int) (hh : 0 ≤ hi) : 0 ≤ (rdN l s lo hi).1 ∧ (rdN l s lo hi).1 ≤ hi := by
  unfold rdN
  simp only
  split
  · rename_i h
    have := errN_zero h.2
    omega
  · exact ⟨Int.le_refl 0, hh⟩
theorem hi_nn (i : Nat) : 0 ≤ parHi[i]?.getD 0 := by
  by_cases h : i < 11
  · have h : i = 0 ∨ i = 1 ∨ i = 2 ∨ i = 3 ∨ i = 4 ∨ i = 5 ∨ i = 6 ∨ i = 7 ∨ i = 8 ∨ i = 9 ∨ i = 10 := by omega
    rcases h with rfl | rfl | rfl | rfl | rfl | rfl | rfl | rfl | rfl | rfl | rfl <;> decide
  · rw [List.getElem?_eq_none (show parHi.length ≤ i by show 11 ≤ i; omega)]; decide
theorem lo_nn (i : Nat) : 0 ≤ parLo[i]?.getD 0 ∧ parLo[i]?.getD 0 ≤ 1 := by
  by_cases h : i < 11
  · have h : i = 0 ∨ i = 1 ∨ i = 2 ∨ i = 3 ∨ i = 4 ∨ i = 5 ∨ i = 6 ∨ i = 7 ∨ i = 8 ∨ i = 9 ∨ i = 10 := by omega
    rcases h with rfl | rfl | rfl | rfl | rfl | rfl | rfl | rfl | rfl | rfl | rfl <;> decide
  · rw [List.getElem?_eq_none (show parLo.length ≤ i by show 11 ≤ i; omega)]; decide
theorem brd_nat (l : List UInt8) (i : Nat) (s : RS) : (brd l i s).1 = ((brn l i s : Nat) : Int) := by
  have := (rdN_range l s (parLo[i]?.getD 0) (parHi[i]?.getD 0) (hi_nn i)).1
  unfold brn
  have h : 0 ≤ (brd l i s).1 := this
  omega
theorem brn_le (l : List UInt8) (i : Nat) (s : RS) : brn l i s ≤ 1000000000 := by
  have h1 := (rdN_range l s (parLo[i]?.getD 0) (parHi[i]?.getD 0) (hi_nn i)).2
  have h2 := parHi_le i
  have h3 := brd_nat l i s
  have h : (brd l i s).1 ≤ parHi[i]?.getD 0 := h1
  omega
theorem bst_ord {l : List UInt8} {vs : List Int} {i : Nat} {s : RS} (h1 : i = 1) (h2 : vs[0]?.getD 0 < ((brn l i s : Nat) : Int)) : bst l vs i s = (brd l i s).2.fail 9 s.pos := by unfold bst; rw [if_pos ⟨h1, h2⟩]
theorem bst_not {l : List UInt8} {vs : List Int} {i : Nat} {s : RS} (h : ¬ (i = 1 ∧ vs[0]?.getD 0 < ((brn l i s : Nat) : Int))) : bst l vs i s = (brd l i s).2 := by unfold bst; rw [if_neg h]
theorem bgo_step {i : Nat} {vs : List Int} {l : List UInt8} {s : RS} (hi : i < 11) (hv : vs.length = i) (h : bgo (11 - i) vs l s = bres l) : bgo (11 - (i + 1)) (vs ++ [((brn l i s : Nat) : Int)]) l (bst l vs i s) = bres l := by
  rw [show 11 - i = (11 - (i + 1)) + 1 by omega, bgo, hv] at h; exact h
theorem bgo_end {i : Nat} {vs : List Int} {l : List UInt8} {s : RS} (hi : i = 11) (h : bgo (11 - i) vs l s = bres l) : (bres l).1 = vs ∧ (bres l).2 = s := by
  rw [hi] at h; rw [← h]; exact ⟨rfl, rfl⟩
theorem bread_ok {i : Nat} {vs : List Int} {l : List UInt8} {s : RS} (hi : i = 11) (h : bgo (11 - i) vs l s = bres l) (h0 : (s.fin l).1 = 0) : pbread l = (parOfL vs, 0, 0) := by
  obtain ⟨h1, h2⟩ := bgo_end hi h
  have e : bfin l = s.fin l := by unfold bfin; rw [h2]
  unfold pbread; rw [e, if_pos h0, h1]
theorem bread_no {i : Nat} {vs : List Int} {l : List UInt8} {s : RS} (hi : i = 11) (h : bgo (11 - i) vs l s = bres l) (h0 : ¬ (s.fin l).1 = 0) : pbread l = (parZ, (s.fin l).1, (s.fin l).2) := by
  obtain ⟨h1, h2⟩ := bgo_end hi h
  have e : bfin l = s.fin l := by unfold bfin; rw [h2]
  unfold pbread; rw [e, if_neg h0]
theorem bgo_0 (l : List UInt8) : bgo (11 - 0) [] l ⟨0, 0⟩ = bres l := rfl
/-- Which round this is. -/
theorem bread_cases (i : Nat) (vs : List Int) (l : List UInt8) (s : RS) (hi : i ≤ 11) : (i < 11 ∧ i = 1 ∧ vs[0]?.getD 0 < ((brn l i s : Nat) : Int)) ∨ (i < 11 ∧ i = 1 ∧ ¬ vs[0]?.getD 0 < ((brn l i s : Nat) : Int)) ∨ (i < 11 ∧ i ≠ 1) ∨ (i = 11 ∧ (s.fin l).1 = 0) ∨ (i = 11 ∧ ¬ (s.fin l).1 = 0) := by
  by_cases h : i < 11
  · by_cases h1 : i = 1
    · by_cases h2 : vs[0]?.getD 0 < ((brn l i s : Nat) : Int)
      · exact .inl ⟨h, h1, h2⟩
      · exact .inr (.inl ⟨h, h1, h2⟩)
    · exact .inr (.inr (.inl ⟨h, h1⟩))
  · by_cases h2 : (s.fin l).1 = 0
    · exact .inr (.inr (.inr (.inl ⟨by omega, h2⟩)))
    · exact .inr (.inr (.inr (.inr ⟨by omega, h2⟩)))
theorem Rd.fail {w : World} {F : Nat → Prop} {b : Nat} {l : List UInt8} {s : RS} (h : Rd w F b l s) (e p : Int) : Calls Tryd.prog 57 #[.pointer (some ⟨b, 0, none⟩), .int .i64 e, .int .i64 p] w fun x w' => (∃ r, x = .returned r) ∧ ∃ F', Rd w' F' b l (s.fail e p) ∧ Step w w' F F' := by
  obtain ⟨v, fp, h1, h2, rfl⟩ := h
  exact (rFail_ok b v fp l s e p w h1).mono fun x w' ⟨h0, ⟨fp', h3, h4⟩, h5⟩ => ⟨h0, rdr_step h1 h2 h3 h4 h5⟩
theorem b_range (i : Nat) : (-9223372036854775808 ≤ parLo[i]?.getD 0 ∧ parLo[i]?.getD 0 ≤ 9223372036854775807) ∧ (-9223372036854775808 ≤ parHi[i]?.getD 0 ∧ parHi[i]?.getD 0 ≤ 9223372036854775807) := by
  have h1 := lo_nn i
  have h2 := hi_nn i
  have h3 := parHi_le i
  omega
/-- Field i's number is read. -/
theorem Rd.num {w : World} {F : Nat → Prop} {b : Nat} {l : List UInt8} {s s1 : RS} {i n : Nat} {lo hi : Int} (h : Rd w F b l s) (hlo : parLo[i]?.getD 0 = lo) (hhi : parHi[i]?.getD 0 = hi) (hn : brn l i s = n) (hs : (brd l i s).2 = s1) :
    Calls Tryd.prog 56 #[.pointer (some ⟨b, 0, none⟩), .int .i64 lo, .int .i64 hi] w (RPost w F b l (.int .i64 ((n : Nat) : Int)) s1) := by
  have hr := b_range i
  rw [hlo, hhi] at hr
  have := h.n lo hi hr.1 hr.2
  have e : rdN l s lo hi = brd l i s := by unfold brd; rw [hlo, hhi]
  rw [e, brd_nat, hn, hs] at this
  exact this
end Go.Proofs.YtpflmldmbpnllaaDoor
