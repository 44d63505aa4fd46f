/-
  PenaltyGrows proved: for every input the law returns true, and each argument reads as it did. Conditions: none.
-/
import Derived.Test.YtghohakbepeffaaGreatDoorPenaltyGrowsP5
namespace Go.Proofs.YtghohakbepeffaaGreatDoor
set_option maxRecDepth 100000
set_option maxHeartbeats 4000000
open Go Go.RowKit Go.Own Go.Shelf
theorem nrdU_nn (l : List UInt8) (s : RS) : (((rdU l s).1.toNat : Nat) : Int) = (rdU l s).1 := by
  unfold rdU; simp only; split <;> omega
theorem nrdN_le (l : List UInt8) (s : RS) (lo hi : Int) : 0 ≤ (rdN l s lo hi).1 ∧ ((rdN l s lo hi).1 ≤ hi ∨ (rdN l s lo hi).1 = 0) := by
  unfold rdN
  simp only
  split
  · rename_i h
    have h2 := h.2
    unfold errN at h2
    split at h2
    · cases h2
    · rename_i hn
      unfold outN at hn
      omega
  · omega
theorem Rd.fail {w : World} {F : Nat → Prop} {b : Nat} {l : List UInt8} {s : RS} (h : Rd w F b l s) (e p : Int) : Calls Tryz.prog 44 #[.pointer (some ⟨b, 0, none⟩), .int .i64 e, .int .i64 p] w fun x w' => (∃ r, x = .returned r) ∧ ∃ F', Rd w' F' b l (s.fail e p) ∧ Step w w' F F' := by
  obtain ⟨v, fp, h1, h2, rfl⟩ := h
  exact (rFail_ok b v fp l s e p w h1).mono fun x w' ⟨h0, ⟨fp', h3, h4⟩, h5⟩ => ⟨h0, rdr_step h1 h2 h3 h4 h5⟩
theorem rd_fin {w : World} {F : Nat → Prop} {b : Nat} {l : List UInt8} {s : RS} {fe fp : Int} (h : Rd w F b l s) (h1 : (s.fin l).1 = fe) (h2 : (s.fin l).2 = fp) : Calls Tryz.prog 46 #[.pointer (some ⟨b, 0, none⟩)] w fun e w' => e = .returned (.agg #[.int .i64 fe, .int .i64 fp]) ∧ Keeps Nob w w' := h1 ▸ h2 ▸ h.fin
theorem results_tmp_row {P : Program} {fn : Func} {p q : Tmp} {ty : TypeId} (h : fn.results = #[.tmp p, .cell q ty]) (tmps : Array Value) (w : World) (g : Nat) (t : TypeId) (cs : Array Value) (fr : Nat × Nat) (d : TypeDesc) (v : Value)
    (hp : tmps.getD q undef = .pointer (some ⟨g, 0, none⟩)) (hg : w.heap[g]? = some (.cells cs t fr))
    (hu : P.underlying ty = some d) (hd : (match d with | .struct _ | .array _ _ => true | _ => false) = true) (hi : (P.info? ty).map (·.size) = some cs.size) (hq : tmps.getD p undef = v) :
    (results fn tmps).run P w = .ok (.tuple #[v, .agg cs]) w := by
  have hp' : tmps[q]?.getD undef = .pointer (some ⟨g, 0, none⟩) := by simpa using hp
  have hq' : tmps[p]?.getD undef = v := by simpa using hq
  simp [results, h, hp', hq', asAddr, run_loadVar_row w g t ty cs fr d hg hu hd hi]
def nrH (l : List UInt8) (s : RS) : Int := (rdN l s 1 4294967296).1
/-- The reader behind a height, 'out' being the notes ahead. -/
def nrS (l : List UInt8) (out : List Nt) (s : RS) : RS := match out.getLast? with | some y => if nrH l s < y.h then (rdN l s 1 4294967296).2.fail 9 s.pos else (rdN l s 1 4294967296).2 | none => (rdN l s 1 4294967296).2
def nrK (l : List UInt8) (s : RS) : Nat := (rdU l s).1.toNat
def nrT (l : List UInt8) (s : RS) : RS := if 4611686018427387904 < nrK l s then (rdU l s).2.fail 3 s.pos else (rdU l s).2
def nrgo : Nat → List Nt → List UInt8 → RS → List Nt × RS
  | 0, out, _, s => (out, s)
  | m + 1, out, l, s => nrgo m (out ++ [⟨nrH l s, nrK l (nrS l out s)⟩]) l (nrT l (nrS l out s))
def nrN (l : List UInt8) : Nat := (rdN l ⟨0, 0⟩ 0 64).1.toNat
def nres (l : List UInt8) : List Nt × RS := nrgo (nrN l) [] l (rdN l ⟨0, 0⟩ 0 64).2
/-- What Read tells. -/
def nread (l : List UInt8) : List Nt × Int × Int := if ((nres l).2.fin l).1 = 0 then ((nres l).1, 0, 0) else ([], ((nres l).2.fin l).1, ((nres l).2.fin l).2)
theorem nrN_le (l : List UInt8) : (rdN l ⟨0, 0⟩ 0 64).1 = ((nrN l : Nat) : Int) ∧ nrN l ≤ 64 := by
  have := nrdN_le l ⟨0, 0⟩ 0 64
  unfold nrN; omega
theorem nrH_le (l : List UInt8) (s : RS) : 0 ≤ nrH l s ∧ nrH l s ≤ 4294967296 := by
  have := nrdN_le l s 1 4294967296
  unfold nrH; omega
theorem nrS_none {l : List UInt8} {out : List Nt} {s : RS} (h : out.length = 0) : nrS l out s = (rdN l s 1 4294967296).2 := by
  obtain rfl := List.eq_nil_of_length_eq_zero h; rfl
theorem nlast {out : List Nt} {i : Nat} (h : out.length = i) (hi : 0 < i) : ∃ y, out[i - 1]? = some y ∧ out.getLast? = some y := by
  obtain ⟨y, hy⟩ : ∃ y, out.getLast? = some y := by
    cases e : out.getLast? with
    | none => rw [List.getLast?_eq_none_iff] at e; subst e; simp at h; omega
    | some y => exact ⟨y, rfl⟩
  exact ⟨y, by rw [← h, ← List.getLast?_eq_getElem?]; exact hy, hy⟩
theorem nrS_yes {l : List UInt8} {out : List Nt} {s : RS} {y : Nt} (h : out.getLast? = some y) (hc : nrH l s < y.h) : nrS l out s = (rdN l s 1 4294967296).2.fail 9 s.pos := by unfold nrS; rw [h]; exact if_pos hc
theorem nrS_not {l : List UInt8} {out : List Nt} {s : RS} {y : Nt} (h : out.getLast? = some y) (hc : ¬ nrH l s < y.h) : nrS l out s = (rdN l s 1 4294967296).2 := by unfold nrS; rw [h]; exact if_neg hc
theorem nrgo_step {m i : Nat} {out : List Nt} {l : List UInt8} {s : RS} (hi : i < m) (h : nrgo (m - i) out l s = nres l) : nrgo (m - (i + 1)) (out ++ [⟨nrH l s, nrK l (nrS l out s)⟩]) l (nrT l (nrS l out s)) = nres l := by
  rw [show m - i = (m - (i + 1)) + 1 by omega, nrgo] at h; exact h
theorem nread_ok {m i : Nat} {out : List Nt} {l : List UInt8} {s : RS} (hi : i = m) (h : nrgo (m - i) out l s = nres l) (h0 : (s.fin l).1 = 0) : nread l = (out, 0, 0) := by
  rw [hi, Nat.sub_self, nrgo] at h
  unfold nread; rw [← h, if_pos h0]
theorem nread_no {m i : Nat} {out : List Nt} {l : List UInt8} {s : RS} (hi : i = m) (h : nrgo (m - i) out l s = nres l) (h0 : ¬ (s.fin l).1 = 0) : nread l = ([], (s.fin l).1, (s.fin l).2) := by
  rw [hi, Nat.sub_self, nrgo] at h
  unfold nread; rw [← h, if_neg h0]
/-- Which round this is. -/
theorem nread_cases (n i : Nat) (out : List Nt) (l : List UInt8) (s : RS) (hi : i ≤ n) (hlen : out.length = i) : (i < n ∧ i = 0 ∧ ¬ 4611686018427387904 < nrK l (nrS l out s)) ∨ (i < n ∧ i = 0 ∧ 4611686018427387904 < nrK l (nrS l out s)) ∨
    (i < n ∧ 0 < i ∧ (∃ y, out[i - 1]? = some y ∧ out.getLast? = some y ∧ ¬ nrH l s < y.h) ∧ ¬ 4611686018427387904 < nrK l (nrS l out s)) ∨ (i < n ∧ 0 < i ∧ (∃ y, out[i - 1]? = some y ∧ out.getLast? = some y ∧ ¬ nrH l s < y.h) ∧ 4611686018427387904 < nrK l (nrS l out s)) ∨
    (i < n ∧ 0 < i ∧ (∃ y, out[i - 1]? = some y ∧ out.getLast? = some y ∧ nrH l s < y.h) ∧ ¬ 4611686018427387904 < nrK l (nrS l out s)) ∨ (i < n ∧ 0 < i ∧ (∃ y, out[i - 1]? = some y ∧ out.getLast? = some y ∧ nrH l s < y.h) ∧ 4611686018427387904 < nrK l (nrS l out s)) ∨
    (i = n ∧ (s.fin l).1 = 0) ∨ (i = n ∧ ¬ (s.fin l).1 = 0) := by
  by_cases h : i < n
  · by_cases h1 : i = 0
    · by_cases h2 : 4611686018427387904 < nrK l (nrS l out s)
      · exact .inr (.inl ⟨h, h1, h2⟩)
      · exact .inl ⟨h, h1, h2⟩
    · obtain ⟨y, hy, hy2⟩ := nlast hlen (by omega)
      by_cases h2 : 4611686018427387904 < nrK l (nrS l out s) <;> by_cases h3 : nrH l s < y.h
      · exact .inr (.inr (.inr (.inr (.inr (.inl ⟨h, by omega, ⟨y, hy, hy2, h3⟩, h2⟩)))))
      · exact .inr (.inr (.inr (.inl ⟨h, by omega, ⟨y, hy, hy2, h3⟩, h2⟩)))
      · exact .inr (.inr (.inr (.inr (.inl ⟨h, by omega, ⟨y, hy, hy2, h3⟩, h2⟩))))
      · exact .inr (.inr (.inl ⟨h, by omega, ⟨y, hy, hy2, h3⟩, h2⟩))
  · by_cases h2 : (s.fin l).1 = 0
    · exact .inr (.inr (.inr (.inr (.inr (.inr (.inl ⟨by omega, h2⟩))))))
    · exact .inr (.inr (.inr (.inr (.inr (.inr (.inr ⟨by omega, h2⟩))))))
theorem nrK_lt (l : List UInt8) (s : RS) : nrK l s < 18446744073709551616 := by
  unfold nrK rdU; simp only; split
  · rename_i h; have := (Cod.num_ok _ h.2).1; rw [Int.toNat_natCast]; exact this
  · simp
theorem rdn_is {w : World} {F : Nat → Prop} {b : Nat} {l : List UInt8} {s s1 : RS} {x y : Int} {args : Array Value} (h1 : x = y) (h2 : s = s1) (h : Calls Tryz.prog 42 args w (RPost w F b l (.int .i64 x) s)) : Calls Tryz.prog 42 args w (RPost w F b l (.int .i64 y) s1) := h1 ▸ h2 ▸ h
theorem rdu_is {w : World} {F : Nat → Prop} {b : Nat} {l : List UInt8} {s s1 : RS} {n : Nat} {args : Array Value} (h1 : nrK l s = n) (h2 : (rdU l s).2 = s1) (h : Calls Tryz.prog 45 args w (RPost w F b l (.int .u64 (rdU l s).1) (rdU l s).2)) : Calls Tryz.prog 45 args w (RPost w F b l (.int .u64 ((n : Nat) : Int)) s1) := by
  subst h1; subst h2; unfold nrK; rw [nrdU_nn]; exact h
noncomputable def qc76_0 (n : Nat) : Code := partOf Tryz.f13 n
noncomputable abbrev qo76_0 (n k : Nat) : Oper := (opsAt (qc76_0 n)).getD k default
theorem nRead_ok (v0 : Value) (l : List UInt8) (w : World) (hx : BytesAt w v0 l) (hl : l.length ≤ 100000000) :
    Calls Tryz.prog 13 #[v0] w (fun e w' => ∃ X, e = .returned (.tuple #[X, .agg #[.int .i64 (nread l).2.1, .int .i64 (nread l).2.2]]) ∧ Row w' 46 2 X (nread l).1.length ((nread l).1.flatMap Nt.cl) ∧ NewFrom w.heap.size X ∧ Keeps Nob w w') := by
  obtain ⟨i2, hi2, hs0, hs1, hs2⟩ := info_parts note_info0
  obtain ⟨hm1, hm64⟩ := nrN_le l
  obtain ⟨m, hme⟩ : ∃ m, nrN l = m := ⟨_, rfl⟩
  obtain ⟨s0, qs0⟩ : ∃ x, (rdN l ⟨0, 0⟩ 0 64).2 = x := ⟨_, rfl⟩
  rw [hme] at hm1 hm64
  have hp0 : nrgo (m - 0) [] l s0 = nres l := by unfold nres; rw [hme, qs0]; rfl
  have K0 : Keeps Nob w w := Keeps.refl _ _
  refine sy_enter (qc76_0 1) ⟨#[v0, ud, ud, ud, ud, ud, ud, ud, ud, ud, ud, ud, ud, ud, ud, ud, ud, ud, ud, ud, ud, ud, ud, ud, ud, ud, ud, ud, ud, ud, ud, ud, ud, ud, ud, ud, ud, ud, ud, ud, ud, ud, ud, ud, ud, ud, ud, ud, ud, ud, ud, ud, ud, ud, ud, ud, ud, ud, ud, ud, ud, ud], []⟩ Tryz.func13 (by kernel_rfl) (by kernel_rfl) <| qr_ [0, 1] <| pkq (.slice none 0 0) <| pal 31 (#[.int .i64 0, .int .i64 0]) (.agg (#[.int .i64 0, .int .i64 0])) fun V1 r2 er2 h2 kV1 => ?_
  have n3 : w.heap.size ≤ r2 := er2 ▸ K0.size
  have K4 := K0.nn kV1
  have z5 := kV1.size
  refine eqr_ [0, 1, 2] <| pkq (v0) ?_
  have hr2_0 := lt_of_block h2
  have hKs0 := K4.size
  refine pcq 41 #[v0] Tryz.func41 ((rd_new v0 l _ (hx.keepsN K4) hl).mono ?_)
  rintro e V6 ⟨b, F0, rfl, hR0, hge0, kV6⟩
  have hd0 : ∀ j, F0 j → w.heap.size ≤ j ∧ j ≠ r2 := fun j h => by have := hge0 j h; omega
  refine ⟨_, rfl, ?_⟩
  have h7 := kV6.bk h2
  have K8 := K4.nn kV6
  have z9 := kV6.size
  refine pkq (pT b 0) <| eqr_ [0] <| pkq (.slice none 0 0) <| eq_ <| qr_ [0, 1, 2] <| pkq (pT b 0) ?_
  have hKs3 := K8.size
  have hr2_3 := lt_of_block h7
  refine pcq 42 #[pT b 0, .int .i64 0, .int .i64 64] Tryz.func42 ((rdn_is hm1 qs0 (Rd.n hR0 0 64 (by decide) (by decide))).mono ?_)
  rintro e V10 ⟨rfl, F1, hR1, hS1⟩
  have hd1 : ∀ j, F1 j → w.heap.size ≤ j ∧ j ≠ r2 ∧ ¬ (.slice none 0 0 : Value).ownBlock = some j := fun j h => (hS1.2 j h).elim (fun h => by have := hd0 j h; exact ⟨by omega, by omega, fun e => by cases e⟩) (fun h => ⟨by omega, by omega, fun e => by cases e⟩)
  refine ⟨_, rfl, ?_⟩
  have h11 : V10.heap[r2]? = some (.cells (#[.int .i64 0, .int .i64 0]) 31 (0, 0)) := (hS1.1.block r2 (lt_of_block h7) (fun e => by have := hd0 _ e; omega)).trans h7
  have K12 : Keeps Nob w V10 := K8.then hS1.1 (fun i hi hm => absurd hi (by have := hd0 i hm; omega))
  have z13 := hS1.1.size
  refine pkq (.int .i64 0) <| et_ <| bl_ 0 ?_
  refine sy_loop (qc76_0 244) (fun a V => ∃ (i : Nat) (out : List Nt) (s : RS) (v : Value) (Fi : Nat → Prop) (u6 u7 u8 u15 u16 u17 u18 u19 u20 u21 u22 u23 u24 u25 u26 u27 u28 u29 u30 u31 u32 u33 u34 u35 u36 u37 u38 u39 u40 u41 u42 u43 u44 u45 u46 u47 u48 u49 u50 u51 u52 u53 : Value), (a = ⟨#[v0, ud, .slice none 0 0, pT r2 0, pT b 0, v, u6, u7, u8, ud, v0, pT b 0, pT b 0, iN m, iN i, u15, u16, u17, u18, u19, u20, u21, u22, u23, u24, u25, u26, u27, u28, u29, u30, u31, u32, u33, u34, u35, u36, u37, u38, u39, u40, u41, u42, u43, u44, u45, u46, u47, u48, u49, u50, u51, u52, u53, ud, ud, ud, ud, ud, ud, ud, ud], []⟩) ∧ (i ≤ m) ∧ (out.length = i) ∧ (nrgo (m - i) out l s = nres l) ∧ (∀ j, Fi j → w.heap.size ≤ j ∧ j ≠ r2 ∧ ¬ v.ownBlock = some j) ∧ (NewFrom w.heap.size v) ∧ (V.heap[r2]? = some (.cells (#[.int .i64 0, .int .i64 0]) 31 (0, 0))) ∧ (Rd V Fi b l s) ∧ (Row V 46 2 v out.length (out.flatMap Nt.cl)) ∧ (Keeps Nob w V)) (fun a _ => m - (intOf (a.tmps.getD 14 undef)).toNat) (by kernel_rfl) ?_ ?_
  · exact ⟨0, [], s0, .slice none 0 0, F1, undef, undef, undef, undef, undef, undef, undef, undef, undef, undef, undef, undef, undef, undef, undef, undef, undef, undef, undef, undef, undef, undef, undef, undef, undef, undef, undef, undef, undef, undef, undef, undef, undef, undef, undef, undef, undef, undef, undef, undef, undef, undef, by kernel_rfl, by omega, rfl, hp0, hd1, NewFrom.nil _, h11, hR1, (World.ownsRow_nil _ _ _ _), K12⟩
  · rintro a V14 ⟨i, out, s, v, Fi, u6, u7, u8, u15, u16, u17, u18, u19, u20, u21, u22, u23, u24, u25, u26, u27, u28, u29, u30, u31, u32, u33, u34, u35, u36, u37, u38, u39, u40, u41, u42, u43, u44, u45, u46, u47, u48, u49, u50, u51, u52, u53, rfl, hi, hout, hp, hd_i, hnw, h15, h16, h17, K18⟩
    rcases nread_cases m i out l s hi hout with ⟨lt_i, h0, hbig⟩ | ⟨lt_i, h0, hbig⟩ | ⟨lt_i, h0, hyy, hbig⟩ | ⟨lt_i, h0, hyy, hbig⟩ | ⟨lt_i, h0, hyy, hbig⟩ | ⟨lt_i, h0, hyy, hbig⟩ | ⟨eq_i, hfin⟩ | ⟨eq_i, hfin⟩
    · skip
      obtain ⟨hh, hhe⟩ : ∃ x, nrH l s = x := ⟨_, rfl⟩
      obtain ⟨s1, qs1⟩ : ∃ x, (rdN l s 1 4294967296).2 = x := ⟨_, rfl⟩
      obtain ⟨s2, qs2e⟩ : ∃ x, nrS l out s = x := ⟨_, rfl⟩
      obtain ⟨kk, hke⟩ : ∃ x, nrK l s2 = x := ⟨_, rfl⟩
      obtain ⟨s3, qs3⟩ : ∃ x, (rdU l s2).2 = x := ⟨_, rfl⟩
      obtain ⟨s4, qs4e⟩ : ∃ x, nrT l s2 = x := ⟨_, rfl⟩
      have hhb := nrH_le l s
      have hkb := nrK_lt l s2
      have hpn := nrgo_step lt_i hp
      rw [qs2e] at hbig hpn
      rw [hke] at hbig hkb hpn
      rw [hhe] at hhb hpn
      rw [qs4e] at hpn
      have qs2 : s1 = s2 := by rw [← qs1, ← qs2e, nrS_none (hout.trans h0)]
      have qs4 : s3 = s4 := by rw [← qs4e, ← qs3]; unfold nrT; rw [hke, if_neg hbig]
      refine qr_ [0] <| ppq (.bool true) (dct ((((i : Nat) : Int)) < (((m : Nat) : Int))) (by omega)) <| eq_ <| y_ <| s_ <| tq_ <| bl_ 1 <| qr_ [0, 1] <| pkq (iN i) <| pkq (iN i) <| eqr_ [0, 1, 2] <| pkq (pT b 0) ?_
      refine pcq 43 #[pT b 0] Tryz.func43 ((Rd.at_ h16).mono ?_)
      rintro e w1 ⟨rfl, rfl⟩
      refine ⟨_, rfl, ?_⟩
      refine pkq (.int .i64 s.pos) <| eqr_ [0, 1, 2, 3, 4] <| pkq (pT b 0) ?_
      have hKs7 := K18.size
      have hr2_7 := lt_of_block h15
      have hvl_7 : ∀ j, v.ownBlock = some j → j < V14.heap.size := fun j hj => h17.lt hj
      refine pcq 42 #[pT b 0, .int .i64 1, .int .i64 4294967296] Tryz.func42 ((rdn_is hhe qs1 (Rd.n h16 1 4294967296 (by decide) (by decide))).mono ?_)
      rintro e V19 ⟨rfl, Fa, hRa, hSa⟩
      have hrowa : Row V19 46 2 v out.length (out.flatMap Nt.cl) := h17.keeps hSa.1 (fun j hj e => (hd_i j e).2.2 hj)
      have hda : ∀ j, Fa j → w.heap.size ≤ j ∧ j ≠ r2 ∧ ¬ v.ownBlock = some j := fun j h => (hSa.2 j h).elim (hd_i j) (fun h => ⟨by omega, by omega, fun e => by have := hvl_7 j e; omega⟩)
      have hlta := Rd.lt hRa
      have hvla : ∀ j, v.ownBlock = some j → j < V19.heap.size := fun j hj => hrowa.lt hj
      refine ⟨_, rfl, ?_⟩
      have h20 : V19.heap[r2]? = some (.cells (#[.int .i64 0, .int .i64 0]) 31 (0, 0)) := (hSa.1.block r2 (lt_of_block h15) (fun e => (hd_i _ e).2.1 rfl)).trans h15
      have K21 : Keeps Nob w V19 := K18.then hSa.1 (fun k hi hm => absurd hi (by have := (hd_i k hm).1; omega))
      have z22 := hSa.1.size
      refine pkq (.agg #[.int .i64 hh, .int .u64 0]) <| pal 46 (#[.int .i64 0, .int .u64 0]) (.agg (#[.int .i64 0, .int .u64 0])) fun V23 gx egx h24 kV23 => ?_
      have n25 : r2 < gx := egx ▸ lt_of_block h20
      have n26 : w.heap.size ≤ gx := egx ▸ K21.size
      have h27 := kV23.bk h20
      have h28 : Rd V23 Fa b l s1 := hRa.keepsN kV23
      have h29 : Row V23 46 2 v out.length (out.flatMap Nt.cl) := hrowa.keeps kV23 (fun _ _ x => x)
      have K30 := K21.nn kV23
      have z31 := kV23.size
      obtain ⟨V32, eV32, kV32⟩ := rowset_step V23 gx (#[.int .i64 hh, .int .u64 0])
      have hvx : ∀ j, v.ownBlock = some j → j ≠ gx := fun j hj => by have := hvla j hj; omega
      have hd_Fa : ∀ j, Fa j → w.heap.size ≤ j ∧ j ≠ r2 ∧ j ≠ gx ∧ ¬ v.ownBlock = some j := fun j hj => ⟨(hda j hj).1, (hda j hj).2.1, by have := hlta j hj; omega, (hda j hj).2.2⟩
      have h33 : V32.heap[gx]? = some (.cells (#[.int .i64 hh, .int .u64 0]) 46 (0, 0)) := eV32 ▸ setRow_heap _ _ _ _ _ _ h24
      refine pzq (w' := V32) (by rw [← eV32]; exact exec_store_row 46 (.tmp 8) (.tmp 21) (by kernel_rfl) gx (#[.int .i64 hh, .int .u64 0]) (by kernel_rfl) (by kernel_rfl) 46 (#[.int .i64 0, .int .u64 0]) h24 (by kernel_rfl) rfl (by kernel_rfl)) ?_
      clear eV32
      have h34 := kV32.bO h27
      have h35 : Rd V32 Fa b l s1 := h28.keeps kV32 (fun j hj e => by have := hlta j hj; unfold Own.One at e; omega)
      have h36 : Row V32 46 2 v out.length (out.flatMap Nt.cl) := h29.keeps kV32 (fun j hj e => by have := hvla j hj; unfold Own.One at e; omega)
      have K37 := K30.nO kV32
      have z38 := kV32.size
      refine eq_ <| q_ <| sy_reg <| rg_still 8 12 (opsAt (qc76_0 125340)) [qo76_0 125340 0, qo76_0 125340 1, qo76_0 125340 2, qo76_0 125340 3, qo76_0 125340 4, qo76_0 125340 5, qo76_0 125340 6, qo76_0 125340 7, qo76_0 125340 8, qo76_0 125340 9, qo76_0 125340 10, qo76_0 125340 11] [qo76_0 125340 12] (by kernel_rfl) (by kernel_rfl) (by kernel_rfl) (by kernel_rfl) (by kernel_rfl) ?_
      obtain ⟨V40, eV40, kV40⟩ := drew_step V32
      rw [eV40]
      clear eV40
      have h41 := kV40.bk h34
      have h42 : Rd V40 Fa b l s1 := h35.keepsN kV40
      have h43 : Row V40 46 2 v out.length (out.flatMap Nt.cl) := h36.keeps kV40 (fun _ _ x => x)
      have h44 := kV40.bk h33
      have K45 := K37.nn kV40
      have z46 := kV40.size
      refine skq (iN i) <| spq (.bool false) (dcf ((((i : Nat) : Int)) > ((0) : Int)) (by omega)) <| skq (.bool false) <| snq <| snq <| snq <| snq <| snq <| snq <| snq <| snq <| snq <| st_end <| ls_run (qo76_0 125340 12) (.bool false) (w' := V40) (by kernel_rfl) (by kernel_rfl) ?_
      refine ls_end <| sy_a ⟨#[v0, ud, .slice none 0 0, pT r2 0, pT b 0, v, iN i, .int .i64 s.pos, pT gx 0, ud, v0, pT b 0, pT b 0, iN m, iN i, .bool true, iN i, pT b 0, .int .i64 s.pos, pT b 0, .int .i64 hh, .agg #[.int .i64 hh, .int .u64 0], iN i, .bool false, .bool false, ud, ud, ud, ud, ud, ud, ud, ud, ud, .bool false, u35, u36, u37, u38, u39, u40, u41, u42, u43, u44, u45, u46, u47, u48, u49, u50, u51, u52, u53, ud, ud, ud, ud, ud, ud, ud, ud], []⟩ <| then_n <| n_ <| s_ <| tqr_ [0, 1, 2] <| pkq (pT b 0) ?_
      refine pcq 43 #[pT b 0] Tryz.func43 ((Rd.at_ (qs2 ▸ h42)).mono ?_)
      rintro e w1 ⟨rfl, rfl⟩
      refine ⟨_, rfl, ?_⟩
      refine pkq (.int .i64 s2.pos) <| eqr_ [0, 1, 2, 3] <| pkq (pT b 0) ?_
      have hKs11 := K45.size
      have hr2_11 := lt_of_block h41
      have hgx_11 := lt_of_block h44
      have hvl_11 : ∀ j, v.ownBlock = some j → j < V40.heap.size := fun j hj => h43.lt hj
      refine pcq 45 #[pT b 0] Tryz.func45 ((rdu_is hke qs3 (Rd.u (qs2 ▸ h42))).mono ?_)
      rintro e V47 ⟨rfl, Fc, hRV47, hSV47⟩
      have hd_Fc : ∀ j, Fc j → w.heap.size ≤ j ∧ j ≠ r2 ∧ j ≠ gx ∧ ¬ v.ownBlock = some j := fun j h => (hSV47.2 j h).elim (hd_Fa j) (fun h => ⟨by omega, by omega, by omega, fun e => by have := hvl_11 j e; omega⟩)
      refine ⟨_, rfl, ?_⟩
      have h48 : V47.heap[r2]? = some (.cells (#[.int .i64 0, .int .i64 0]) 31 (0, 0)) := (hSV47.1.block r2 (lt_of_block h41) (fun e => by have := hd_Fa _ e; omega)).trans h41
      have h49 : Row V47 46 2 v out.length (out.flatMap Nt.cl) := h43.keeps hSV47.1 (fun j hj e => (hd_Fa j e).2.2.2 hj)
      have h50 : V47.heap[gx]? = some (.cells (#[.int .i64 hh, .int .u64 0]) 46 (0, 0)) := (hSV47.1.block gx (lt_of_block h44) (fun e => by have := hd_Fa _ e; omega)).trans h44
      have K51 : Keeps Nob w V47 := K45.then hSV47.1 (fun k hi hm => absurd hi (by have := (hd_Fa k hm).1; omega))
      have z52 := hSV47.1.size
      refine pkq (pT gx 1) <| pce 40 gx 1 (uN kk) (#[.int .i64 hh, .int .u64 ((kk : Nat) : Int)]) h50 (rc (h50) (by kernel_rfl)) (by kernel_rfl) (u := .int .u64 0) fun V53 h54 kV53 => ?_
      have h55 := kV53.bO h48
      have h56 : Row V53 46 2 v out.length (out.flatMap Nt.cl) := h49.keeps kV53 (fun j hj e => by have := hvx j hj; unfold Own.One at e; omega)
      have h57 : Rd V53 Fc b l s3 := hRV47.keeps kV53 (fun j hj e => by have := hd_Fc j hj; unfold Own.One at e; omega)
      have K58 := K51.nO kV53
      have z59 := kV53.size
      refine eq_ <| qr_ [0, 1, 2] <| pkq (pT gx 1) <| ppq (uN kk) (ldk 40 gx 1 h54) <| ppq (.bool false) (dcf ((((kk : Nat) : Int)) > ((4611686018427387904) : Int)) (by omega)) <| en_ <| s_ <| tr_ [0, 1, 2, 3, 4] <| pkq (v) <| ppq (.agg #[.int .i64 hh, uN kk]) (ldr 46 gx (h54) (by kernel_rfl)) ?_
      obtain ⟨V60, eV60, lit, elit, h61, kV60⟩ := alloc_step V53 (#[.int .i64 hh, .int .u64 ((kk : Nat) : Int)]) 46
      have n62 : r2 < lit := elit ▸ lt_of_block h55
      have n63 : gx < lit := elit ▸ lt_of_block h54
      have n64 : w.heap.size ≤ lit := elit ▸ K58.size
      refine prq (.slice (some ⟨lit, 0, none⟩) 1 1) (w' := V60) (by rw [← eV60, ← elit]; kernel_rfl) ?_
      have h65 := kV60.bk h55
      have h66 : Row V60 46 2 v out.length (out.flatMap Nt.cl) := h56.keeps kV60 (fun _ _ x => x)
      have h67 : Rd V60 Fc b l s3 := h57.keepsN kV60
      have K69 := K58.nn kV60
      have z70 := kV60.size
      obtain ⟨vn, V71, hr72, h73, hg74, hn75, ha76⟩ := run_append_any (P := Tryz.prog) (w := V60) 22 (Oper.type (qo76_0 501375 3)) 46 i2 (.agg #[.int .i64 0, .int .u64 0]) 2 16 Tryz.underlying22 hi2 hs0 hs1 hs2 rfl (by decide) v out.length (out.flatMap Nt.cl) h66 (.slice (some ⟨lit, 0, none⟩) 1 1) 1 (Nt.cl (⟨hh, kk⟩ : Nt)) (src_nt (x := ⟨hh, kk⟩) h61) (by unfold maxLen; omega) (by omega)
      have kV71 : Keeps (fun j => v.ownBlock = some j) V60 V71 := Keeps.rowAdd hg74
      have hw77 : NewFrom w.heap.size vn := hnw.next K69.size ha76
      refine prq vn (w' := V71) (exec_append (.tmp 49) (.tmp 51) 22 (by kernel_rfl) v (.slice (some ⟨lit, 0, none⟩) 1 1) (by kernel_rfl) (by kernel_rfl) hr72) ?_
      have h78 : Row V71 46 2 vn ((out ++ [(⟨hh, kk⟩ : Nt)]).length) ((out ++ [(⟨hh, kk⟩ : Nt)]).flatMap Nt.cl) := (row_nt rfl h73)
      have hnwn := hw77
      have hdn : ∀ j, Fc j → w.heap.size ≤ j ∧ j ≠ r2 ∧ ¬ vn.ownBlock = some j := fun j h => ⟨(hd_Fc j h).1, (hd_Fc j h).2.1, fun e => (ha76 j e).elim (fun q => (hd_Fc j h).2.2.2 q) (fun q => by have := Rd.lt h67 j h; omega)⟩
      have h79 : V71.heap[r2]? = some (.cells (#[.int .i64 0, .int .i64 0]) 31 (0, 0)) := (kV71.block r2 (lt_of_block h65) (fun e => Row.ne h66 h65 (by decide) e)).trans h65
      have h80 : Rd V71 Fc b l s3 := h67.keeps kV71 (fun j hj e => (hd_Fc j hj).2.2.2 e)
      have K81 : Keeps Nob w V71 := K69.then kV71 (fun i hi hm => absurd hi (by have := hnw i hm; omega))
      have z82 := kV71.size
      refine pkq (vn) <| ps_end <| blk_n <| tr_ [0, 1] <| ppq (iN (i + 1)) (exec_cast (congrArg (Value.int .i64) (wrapN (i + 1) (by omega))) (by kernel_rfl)) <| pkq (iN (i + 1)) <| et_ ?_
      refine ⟨⟨(i + 1), (out ++ [(⟨hh, kk⟩ : Nt)]), s4, vn, Fc, (iN i), (.int .i64 s2.pos), (pT gx 0), (.bool true), (iN i), (pT b 0), (.int .i64 s.pos), (pT b 0), (.int .i64 hh), (.agg #[.int .i64 hh, .int .u64 0]), (iN i), (.bool false), (.bool false), undef, undef, undef, undef, undef, undef, undef, undef, undef, (.bool false), u35, u36, u37, (pT b 0), (.int .i64 s2.pos), (pT b 0), (uN kk), (pT gx 1), (pT gx 1), (uN kk), (.bool false), u46, u47, u48, v, (.agg #[.int .i64 hh, uN kk]), (.slice (some ⟨lit, 0, none⟩) 1 1), vn, (iN (i + 1)), by kernel_rfl, by omega, by simp [hout], hpn, hdn, hnwn, h79, (qs4 ▸ h80), h78, K81⟩, ?_⟩
      exact lt_meas (x := m - (i + 1)) (y := m - i) (by kernel_rfl) (by kernel_rfl) (by omega)
    · skip
      obtain ⟨hh, hhe⟩ : ∃ x, nrH l s = x := ⟨_, rfl⟩
      obtain ⟨s1, qs1⟩ : ∃ x, (rdN l s 1 4294967296).2 = x := ⟨_, rfl⟩
      obtain ⟨s2, qs2e⟩ : ∃ x, nrS l out s = x := ⟨_, rfl⟩
      obtain ⟨kk, hke⟩ : ∃ x, nrK l s2 = x := ⟨_, rfl⟩
      obtain ⟨s3, qs3⟩ : ∃ x, (rdU l s2).2 = x := ⟨_, rfl⟩
      obtain ⟨s4, qs4e⟩ : ∃ x, nrT l s2 = x := ⟨_, rfl⟩
      have hhb := nrH_le l s
      have hkb := nrK_lt l s2
      have hpn := nrgo_step lt_i hp
      rw [qs2e] at hbig hpn
      rw [hke] at hbig hkb hpn
      rw [hhe] at hhb hpn
      rw [qs4e] at hpn
      have qs2 : s1 = s2 := by rw [← qs1, ← qs2e, nrS_none (hout.trans h0)]
      have qs4 : s3.fail 3 s2.pos = s4 := by rw [← qs4e, ← qs3]; unfold nrT; rw [hke, if_pos hbig]
      refine qr_ [0] <| ppq (.bool true) (dct ((((i : Nat) : Int)) < (((m : Nat) : Int))) (by omega)) <| eq_ <| y_ <| s_ <| tq_ <| bl_ 1 <| qr_ [0, 1] <| pkq (iN i) <| pkq (iN i) <| eqr_ [0, 1, 2] <| pkq (pT b 0) ?_
      refine pcq 43 #[pT b 0] Tryz.func43 ((Rd.at_ h16).mono ?_)
      rintro e w1 ⟨rfl, rfl⟩
      refine ⟨_, rfl, ?_⟩
      refine pkq (.int .i64 s.pos) <| eqr_ [0, 1, 2, 3, 4] <| pkq (pT b 0) ?_
      have hKs7 := K18.size
      have hr2_7 := lt_of_block h15
      have hvl_7 : ∀ j, v.ownBlock = some j → j < V14.heap.size := fun j hj => h17.lt hj
      refine pcq 42 #[pT b 0, .int .i64 1, .int .i64 4294967296] Tryz.func42 ((rdn_is hhe qs1 (Rd.n h16 1 4294967296 (by decide) (by decide))).mono ?_)
      rintro e V83 ⟨rfl, Fa, hRa, hSa⟩
      have hrowa : Row V83 46 2 v out.length (out.flatMap Nt.cl) := h17.keeps hSa.1 (fun j hj e => (hd_i j e).2.2 hj)
      have hda : ∀ j, Fa j → w.heap.size ≤ j ∧ j ≠ r2 ∧ ¬ v.ownBlock = some j := fun j h => (hSa.2 j h).elim (hd_i j) (fun h => ⟨by omega, by omega, fun e => by have := hvl_7 j e; omega⟩)
      have hlta := Rd.lt hRa
      have hvla : ∀ j, v.ownBlock = some j → j < V83.heap.size := fun j hj => hrowa.lt hj
      refine ⟨_, rfl, ?_⟩
      have h84 : V83.heap[r2]? = some (.cells (#[.int .i64 0, .int .i64 0]) 31 (0, 0)) := (hSa.1.block r2 (lt_of_block h15) (fun e => (hd_i _ e).2.1 rfl)).trans h15
      have K85 : Keeps Nob w V83 := K18.then hSa.1 (fun k hi hm => absurd hi (by have := (hd_i k hm).1; omega))
      have z86 := hSa.1.size
      refine pkq (.agg #[.int .i64 hh, .int .u64 0]) <| pal 46 (#[.int .i64 0, .int .u64 0]) (.agg (#[.int .i64 0, .int .u64 0])) fun V87 gx egx h88 kV87 => ?_
      have n89 : r2 < gx := egx ▸ lt_of_block h84
      have n90 : w.heap.size ≤ gx := egx ▸ K85.size
      have h91 := kV87.bk h84
      have h92 : Rd V87 Fa b l s1 := hRa.keepsN kV87
      have h93 : Row V87 46 2 v out.length (out.flatMap Nt.cl) := hrowa.keeps kV87 (fun _ _ x => x)
      have K94 := K85.nn kV87
      have z95 := kV87.size
      obtain ⟨V96, eV96, kV96⟩ := rowset_step V87 gx (#[.int .i64 hh, .int .u64 0])
      have hvx : ∀ j, v.ownBlock = some j → j ≠ gx := fun j hj => by have := hvla j hj; omega
      have hd_Fa : ∀ j, Fa j → w.heap.size ≤ j ∧ j ≠ r2 ∧ j ≠ gx ∧ ¬ v.ownBlock = some j := fun j hj => ⟨(hda j hj).1, (hda j hj).2.1, by have := hlta j hj; omega, (hda j hj).2.2⟩
      have h97 : V96.heap[gx]? = some (.cells (#[.int .i64 hh, .int .u64 0]) 46 (0, 0)) := eV96 ▸ setRow_heap _ _ _ _ _ _ h88
      refine pzq (w' := V96) (by rw [← eV96]; exact exec_store_row 46 (.tmp 8) (.tmp 21) (by kernel_rfl) gx (#[.int .i64 hh, .int .u64 0]) (by kernel_rfl) (by kernel_rfl) 46 (#[.int .i64 0, .int .u64 0]) h88 (by kernel_rfl) rfl (by kernel_rfl)) ?_
      clear eV96
      have h98 := kV96.bO h91
      have h99 : Rd V96 Fa b l s1 := h92.keeps kV96 (fun j hj e => by have := hlta j hj; unfold Own.One at e; omega)
      have h100 : Row V96 46 2 v out.length (out.flatMap Nt.cl) := h93.keeps kV96 (fun j hj e => by have := hvla j hj; unfold Own.One at e; omega)
      have K101 := K94.nO kV96
      have z102 := kV96.size
      refine eq_ <| q_ <| sy_reg <| rg_still 8 12 (opsAt (qc76_0 125340)) [qo76_0 125340 0, qo76_0 125340 1, qo76_0 125340 2, qo76_0 125340 3, qo76_0 125340 4, qo76_0 125340 5, qo76_0 125340 6, qo76_0 125340 7, qo76_0 125340 8, qo76_0 125340 9, qo76_0 125340 10, qo76_0 125340 11] [qo76_0 125340 12] (by kernel_rfl) (by kernel_rfl) (by kernel_rfl) (by kernel_rfl) (by kernel_rfl) ?_
      obtain ⟨V104, eV104, kV104⟩ := drew_step V96
      rw [eV104]
      clear eV104
      have h105 := kV104.bk h98
      have h106 : Rd V104 Fa b l s1 := h99.keepsN kV104
      have h107 : Row V104 46 2 v out.length (out.flatMap Nt.cl) := h100.keeps kV104 (fun _ _ x => x)
      have h108 := kV104.bk h97
      have K109 := K101.nn kV104
      have z110 := kV104.size
      refine skq (iN i) <| spq (.bool false) (dcf ((((i : Nat) : Int)) > ((0) : Int)) (by omega)) <| skq (.bool false) <| snq <| snq <| snq <| snq <| snq <| snq <| snq <| snq <| snq <| st_end <| ls_run (qo76_0 125340 12) (.bool false) (w' := V104) (by kernel_rfl) (by kernel_rfl) ?_
      refine ls_end <| sy_a ⟨#[v0, ud, .slice none 0 0, pT r2 0, pT b 0, v, iN i, .int .i64 s.pos, pT gx 0, ud, v0, pT b 0, pT b 0, iN m, iN i, .bool true, iN i, pT b 0, .int .i64 s.pos, pT b 0, .int .i64 hh, .agg #[.int .i64 hh, .int .u64 0], iN i, .bool false, .bool false, ud, ud, ud, ud, ud, ud, ud, ud, ud, .bool false, u35, u36, u37, u38, u39, u40, u41, u42, u43, u44, u45, u46, u47, u48, u49, u50, u51, u52, u53, ud, ud, ud, ud, ud, ud, ud, ud], []⟩ <| then_n <| n_ <| s_ <| tqr_ [0, 1, 2] <| pkq (pT b 0) ?_
      refine pcq 43 #[pT b 0] Tryz.func43 ((Rd.at_ (qs2 ▸ h106)).mono ?_)
      rintro e w1 ⟨rfl, rfl⟩
      refine ⟨_, rfl, ?_⟩
      refine pkq (.int .i64 s2.pos) <| eqr_ [0, 1, 2, 3] <| pkq (pT b 0) ?_
      have hKs11 := K109.size
      have hr2_11 := lt_of_block h105
      have hgx_11 := lt_of_block h108
      have hvl_11 : ∀ j, v.ownBlock = some j → j < V104.heap.size := fun j hj => h107.lt hj
      refine pcq 45 #[pT b 0] Tryz.func45 ((rdu_is hke qs3 (Rd.u (qs2 ▸ h106))).mono ?_)
      rintro e V111 ⟨rfl, Fc, hRV111, hSV111⟩
      have hd_Fc : ∀ j, Fc j → w.heap.size ≤ j ∧ j ≠ r2 ∧ j ≠ gx ∧ ¬ v.ownBlock = some j := fun j h => (hSV111.2 j h).elim (hd_Fa j) (fun h => ⟨by omega, by omega, by omega, fun e => by have := hvl_11 j e; omega⟩)
      refine ⟨_, rfl, ?_⟩
      have h112 : V111.heap[r2]? = some (.cells (#[.int .i64 0, .int .i64 0]) 31 (0, 0)) := (hSV111.1.block r2 (lt_of_block h105) (fun e => by have := hd_Fa _ e; omega)).trans h105
      have h113 : Row V111 46 2 v out.length (out.flatMap Nt.cl) := h107.keeps hSV111.1 (fun j hj e => (hd_Fa j e).2.2.2 hj)
      have h114 : V111.heap[gx]? = some (.cells (#[.int .i64 hh, .int .u64 0]) 46 (0, 0)) := (hSV111.1.block gx (lt_of_block h108) (fun e => by have := hd_Fa _ e; omega)).trans h108
      have K115 : Keeps Nob w V111 := K109.then hSV111.1 (fun k hi hm => absurd hi (by have := (hd_Fa k hm).1; omega))
      have z116 := hSV111.1.size
      refine pkq (pT gx 1) <| pce 40 gx 1 (uN kk) (#[.int .i64 hh, .int .u64 ((kk : Nat) : Int)]) h114 (rc (h114) (by kernel_rfl)) (by kernel_rfl) (u := .int .u64 0) fun V117 h118 kV117 => ?_
      have h119 := kV117.bO h112
      have h120 : Row V117 46 2 v out.length (out.flatMap Nt.cl) := h113.keeps kV117 (fun j hj e => by have := hvx j hj; unfold Own.One at e; omega)
      have h121 : Rd V117 Fc b l s3 := hRV111.keeps kV117 (fun j hj e => by have := hd_Fc j hj; unfold Own.One at e; omega)
      have K122 := K115.nO kV117
      have z123 := kV117.size
      refine eq_ <| qr_ [0, 1, 2] <| pkq (pT gx 1) <| ppq (uN kk) (ldk 40 gx 1 h118) <| ppq (.bool true) (dct ((((kk : Nat) : Int)) > ((4611686018427387904) : Int)) (by omega)) <| ey_ <| r_ [0, 1, 2] <| pkq (pT b 0) <| pkq (.int .i64 s2.pos) ?_
      have hKs13 := K122.size
      have hr2_13 := lt_of_block h119
      have hgx_13 := lt_of_block h118
      have hvl_13 : ∀ j, v.ownBlock = some j → j < V117.heap.size := fun j hj => h120.lt hj
      refine pcq 44 #[pT b 0, .int .i64 3, .int .i64 s2.pos] Tryz.func44 ((Rd.fail h121 3 s2.pos).mono ?_)
      rintro e V124 ⟨⟨rv13, rfl⟩, Fd, hRV124, hSV124⟩
      have hd_Fd : ∀ j, Fd j → w.heap.size ≤ j ∧ j ≠ r2 ∧ j ≠ gx ∧ ¬ v.ownBlock = some j := fun j h => (hSV124.2 j h).elim (hd_Fc j) (fun h => ⟨by omega, by omega, by omega, fun e => by have := hvl_13 j e; omega⟩)
      refine ⟨_, rfl, ?_⟩
      have h125 : V124.heap[r2]? = some (.cells (#[.int .i64 0, .int .i64 0]) 31 (0, 0)) := (hSV124.1.block r2 (lt_of_block h119) (fun e => by have := hd_Fc _ e; omega)).trans h119
      have h126 : Row V124 46 2 v out.length (out.flatMap Nt.cl) := h120.keeps hSV124.1 (fun j hj e => (hd_Fc j e).2.2.2 hj)
      have h127 : V124.heap[gx]? = some (.cells (#[.int .i64 hh, .int .u64 ((kk : Nat) : Int)]) 46 (0, 0)) := (hSV124.1.block gx (lt_of_block h118) (fun e => by have := hd_Fc _ e; omega)).trans h118
      have K128 : Keeps Nob w V124 := K122.then hSV124.1 (fun k hi hm => absurd hi (by have := (hd_Fc k hm).1; omega))
      have z129 := hSV124.1.size
      refine er_ [0, 1, 2, 3, 4] <| pkq (v) <| ppq (.agg #[.int .i64 hh, uN kk]) (ldr 46 gx (h127) (by kernel_rfl)) ?_
      obtain ⟨V130, eV130, lit, elit, h131, kV130⟩ := alloc_step V124 (#[.int .i64 hh, .int .u64 ((kk : Nat) : Int)]) 46
      have n132 : r2 < lit := elit ▸ lt_of_block h125
      have n133 : gx < lit := elit ▸ lt_of_block h127
      have n134 : w.heap.size ≤ lit := elit ▸ K128.size
      refine prq (.slice (some ⟨lit, 0, none⟩) 1 1) (w' := V130) (by rw [← eV130, ← elit]; kernel_rfl) ?_
      have h135 := kV130.bk h125
      have h136 : Row V130 46 2 v out.length (out.flatMap Nt.cl) := h126.keeps kV130 (fun _ _ x => x)
      have h138 : Rd V130 Fd b l s4 := (qs4 ▸ hRV124).keepsN kV130
      have K139 := K128.nn kV130
      have z140 := kV130.size
      obtain ⟨vn, V141, hr142, h143, hg144, hn145, ha146⟩ := run_append_any (P := Tryz.prog) (w := V130) 22 (Oper.type (qo76_0 501375 3)) 46 i2 (.agg #[.int .i64 0, .int .u64 0]) 2 16 Tryz.underlying22 hi2 hs0 hs1 hs2 rfl (by decide) v out.length (out.flatMap Nt.cl) h136 (.slice (some ⟨lit, 0, none⟩) 1 1) 1 (Nt.cl (⟨hh, kk⟩ : Nt)) (src_nt (x := ⟨hh, kk⟩) h131) (by unfold maxLen; omega) (by omega)
      have kV141 : Keeps (fun j => v.ownBlock = some j) V130 V141 := Keeps.rowAdd hg144
      have hw147 : NewFrom w.heap.size vn := hnw.next K139.size ha146
      refine prq vn (w' := V141) (exec_append (.tmp 49) (.tmp 51) 22 (by kernel_rfl) v (.slice (some ⟨lit, 0, none⟩) 1 1) (by kernel_rfl) (by kernel_rfl) hr142) ?_
      have h148 : Row V141 46 2 vn ((out ++ [(⟨hh, kk⟩ : Nt)]).length) ((out ++ [(⟨hh, kk⟩ : Nt)]).flatMap Nt.cl) := (row_nt rfl h143)
      have hnwn := hw147
      have hdn : ∀ j, Fd j → w.heap.size ≤ j ∧ j ≠ r2 ∧ ¬ vn.ownBlock = some j := fun j h => ⟨(hd_Fd j h).1, (hd_Fd j h).2.1, fun e => (ha146 j e).elim (fun q => (hd_Fd j h).2.2.2 q) (fun q => by have := Rd.lt h138 j h; omega)⟩
      have h149 : V141.heap[r2]? = some (.cells (#[.int .i64 0, .int .i64 0]) 31 (0, 0)) := (kV141.block r2 (lt_of_block h135) (fun e => Row.ne h136 h135 (by decide) e)).trans h135
      have h150 : Rd V141 Fd b l s4 := h138.keeps kV141 (fun j hj e => (hd_Fd j hj).2.2.2 e)
      have K151 : Keeps Nob w V141 := K139.then kV141 (fun i hi hm => absurd hi (by have := hnw i hm; omega))
      have z152 := kV141.size
      refine pkq (vn) <| ps_end <| blk_n <| tr_ [0, 1] <| ppq (iN (i + 1)) (exec_cast (congrArg (Value.int .i64) (wrapN (i + 1) (by omega))) (by kernel_rfl)) <| pkq (iN (i + 1)) <| et_ ?_
      refine ⟨⟨(i + 1), (out ++ [(⟨hh, kk⟩ : Nt)]), s4, vn, Fd, (iN i), (.int .i64 s2.pos), (pT gx 0), (.bool true), (iN i), (pT b 0), (.int .i64 s.pos), (pT b 0), (.int .i64 hh), (.agg #[.int .i64 hh, .int .u64 0]), (iN i), (.bool false), (.bool false), undef, undef, undef, undef, undef, undef, undef, undef, undef, (.bool false), u35, u36, u37, (pT b 0), (.int .i64 s2.pos), (pT b 0), (uN kk), (pT gx 1), (pT gx 1), (uN kk), (.bool true), (pT b 0), (.int .i64 s2.pos), rv13, v, (.agg #[.int .i64 hh, uN kk]), (.slice (some ⟨lit, 0, none⟩) 1 1), vn, (iN (i + 1)), by kernel_rfl, by omega, by simp [hout], hpn, hdn, hnwn, h149, h150, h148, K151⟩, ?_⟩
      exact lt_meas (x := m - (i + 1)) (y := m - i) (by kernel_rfl) (by kernel_rfl) (by omega)
    · skip
      obtain ⟨hh, hhe⟩ : ∃ x, nrH l s = x := ⟨_, rfl⟩
      obtain ⟨s1, qs1⟩ : ∃ x, (rdN l s 1 4294967296).2 = x := ⟨_, rfl⟩
      obtain ⟨s2, qs2e⟩ : ∃ x, nrS l out s = x := ⟨_, rfl⟩
      obtain ⟨kk, hke⟩ : ∃ x, nrK l s2 = x := ⟨_, rfl⟩
      obtain ⟨s3, qs3⟩ : ∃ x, (rdU l s2).2 = x := ⟨_, rfl⟩
      obtain ⟨s4, qs4e⟩ : ∃ x, nrT l s2 = x := ⟨_, rfl⟩
      have hhb := nrH_le l s
      have hkb := nrK_lt l s2
      have hpn := nrgo_step lt_i hp
      rw [qs2e] at hbig hpn
      rw [hke] at hbig hkb hpn
      rw [hhe] at hhb hpn
      rw [qs4e] at hpn
      obtain ⟨y, hy, hy2, hyc⟩ := hyy
      obtain ⟨b_, o_, c_, hv_, hb_, _⟩ := (row_nts h17).at_ (i - 1) _ hy
      have qs2 : s1 = s2 := by rw [← qs1, ← qs2e, nrS_not hy2 hyc]
      rw [hhe] at hyc
      have qs4 : s3 = s4 := by rw [← qs4e, ← qs3]; unfold nrT; rw [hke, if_neg hbig]
      refine qr_ [0] <| ppq (.bool true) (dct ((((i : Nat) : Int)) < (((m : Nat) : Int))) (by omega)) <| eq_ <| y_ <| s_ <| tq_ <| bl_ 1 <| qr_ [0, 1] <| pkq (iN i) <| pkq (iN i) <| eqr_ [0, 1, 2] <| pkq (pT b 0) ?_
      refine pcq 43 #[pT b 0] Tryz.func43 ((Rd.at_ h16).mono ?_)
      rintro e w1 ⟨rfl, rfl⟩
      refine ⟨_, rfl, ?_⟩
      refine pkq (.int .i64 s.pos) <| eqr_ [0, 1, 2, 3, 4] <| pkq (pT b 0) ?_
      have hKs7 := K18.size
      have hr2_7 := lt_of_block h15
      have hvl_7 : ∀ j, v.ownBlock = some j → j < V14.heap.size := fun j hj => h17.lt hj
      refine pcq 42 #[pT b 0, .int .i64 1, .int .i64 4294967296] Tryz.func42 ((rdn_is hhe qs1 (Rd.n h16 1 4294967296 (by decide) (by decide))).mono ?_)
      rintro e V153 ⟨rfl, Fa, hRa, hSa⟩
      have hrowa : Row V153 46 2 v out.length (out.flatMap Nt.cl) := h17.keeps hSa.1 (fun j hj e => (hd_i j e).2.2 hj)
      have hda : ∀ j, Fa j → w.heap.size ≤ j ∧ j ≠ r2 ∧ ¬ v.ownBlock = some j := fun j h => (hSa.2 j h).elim (hd_i j) (fun h => ⟨by omega, by omega, fun e => by have := hvl_7 j e; omega⟩)
      have hlta := Rd.lt hRa
      have hvla : ∀ j, v.ownBlock = some j → j < V153.heap.size := fun j hj => hrowa.lt hj
      refine ⟨_, rfl, ?_⟩
      have h154 : V153.heap[r2]? = some (.cells (#[.int .i64 0, .int .i64 0]) 31 (0, 0)) := (hSa.1.block r2 (lt_of_block h15) (fun e => (hd_i _ e).2.1 rfl)).trans h15
      have K155 : Keeps Nob w V153 := K18.then hSa.1 (fun k hi hm => absurd hi (by have := (hd_i k hm).1; omega))
      have z156 := hSa.1.size
      refine pkq (.agg #[.int .i64 hh, .int .u64 0]) <| pal 46 (#[.int .i64 0, .int .u64 0]) (.agg (#[.int .i64 0, .int .u64 0])) fun V157 gx egx h158 kV157 => ?_
      have n159 : r2 < gx := egx ▸ lt_of_block h154
      have n160 : w.heap.size ≤ gx := egx ▸ K155.size
      have h161 := kV157.bk h154
      have h162 : Rd V157 Fa b l s1 := hRa.keepsN kV157
      have h163 : Row V157 46 2 v out.length (out.flatMap Nt.cl) := hrowa.keeps kV157 (fun _ _ x => x)
      have K164 := K155.nn kV157
      have z165 := kV157.size
      obtain ⟨V166, eV166, kV166⟩ := rowset_step V157 gx (#[.int .i64 hh, .int .u64 0])
      have hvx : ∀ j, v.ownBlock = some j → j ≠ gx := fun j hj => by have := hvla j hj; omega
      have hd_Fa : ∀ j, Fa j → w.heap.size ≤ j ∧ j ≠ r2 ∧ j ≠ gx ∧ ¬ v.ownBlock = some j := fun j hj => ⟨(hda j hj).1, (hda j hj).2.1, by have := hlta j hj; omega, (hda j hj).2.2⟩
      have h167 : V166.heap[gx]? = some (.cells (#[.int .i64 hh, .int .u64 0]) 46 (0, 0)) := eV166 ▸ setRow_heap _ _ _ _ _ _ h158
      refine pzq (w' := V166) (by rw [← eV166]; exact exec_store_row 46 (.tmp 8) (.tmp 21) (by kernel_rfl) gx (#[.int .i64 hh, .int .u64 0]) (by kernel_rfl) (by kernel_rfl) 46 (#[.int .i64 0, .int .u64 0]) h158 (by kernel_rfl) rfl (by kernel_rfl)) ?_
      clear eV166
      have h168 := kV166.bO h161
      have h169 : Rd V166 Fa b l s1 := h162.keeps kV166 (fun j hj e => by have := hlta j hj; unfold Own.One at e; omega)
      have h170 : Row V166 46 2 v out.length (out.flatMap Nt.cl) := h163.keeps kV166 (fun j hj e => by have := hvla j hj; unfold Own.One at e; omega)
      have K171 := K164.nO kV166
      have z172 := kV166.size
      refine eq_ <| q_ <| sy_reg <| rg_still 8 12 (opsAt (qc76_0 125340)) [qo76_0 125340 0, qo76_0 125340 1, qo76_0 125340 2, qo76_0 125340 3, qo76_0 125340 4, qo76_0 125340 5, qo76_0 125340 6, qo76_0 125340 7, qo76_0 125340 8, qo76_0 125340 9, qo76_0 125340 10, qo76_0 125340 11] [qo76_0 125340 12] (by kernel_rfl) (by kernel_rfl) (by kernel_rfl) (by kernel_rfl) (by kernel_rfl) ?_
      obtain ⟨V174, eV174, kV174⟩ := drew_step V166
      rw [eV174]
      clear eV174
      have h175 := kV174.bk h168
      have h176 : Rd V174 Fa b l s1 := h169.keepsN kV174
      have h177 : Row V174 46 2 v out.length (out.flatMap Nt.cl) := h170.keeps kV174 (fun _ _ x => x)
      have h178 := kV174.bk h167
      have K179 := K171.nn kV174
      have z180 := kV174.size
      refine skq (iN i) <| spq (.bool true) (dct ((((i : Nat) : Int)) > ((0) : Int)) (by omega)) <| skq (.bool true) <| skq (pT gx 0) <| spq (.int .i64 hh) (ldk 3 gx 0 h178) <| skq (v) <| skq (iN i) <| spq (iN ((i - 1))) (exec_cast (congrArg (Value.int .i64) (wrapI (((i : Nat) : Int) - 1) ((i - 1 : Nat) : Int) (by omega) (by omega) (by omega))) (by kernel_rfl)) <| spq (.pointer (some ⟨b_, o_ + (i - 1) * 2, none⟩)) (exec_indexAt_slice 22 (.tmp 27) (.tmp 29) (by kernel_rfl) b_ o_ out.length c_ (Eq.trans (b := v) (by kernel_rfl) hv_) .i64 (i - 1) (by kernel_rfl) _ 2 Tryz.underlying22 (by kernel_rfl) (by omega)) <| skq (.pointer (some ⟨b_, o_ + (i - 1) * 2, none⟩)) <| spq (.int .i64 y.h) (exec_ld 3 (.tmp 31) b_ (o_ + (i - 1) * 2 + 0) Tryz.underlying3 (Sl.cell (row_nts h177) hy hv_ rfl)) <| spq (.bool false) (dcf (((hh) : Int) < ((y.h) : Int)) (by omega)) <| st_end <| ls_run (qo76_0 125340 12) (.bool false) (w' := V174) (by kernel_rfl) (by kernel_rfl) ?_
      refine ls_end <| sy_a ⟨#[v0, ud, .slice none 0 0, pT r2 0, pT b 0, v, iN i, .int .i64 s.pos, pT gx 0, ud, v0, pT b 0, pT b 0, iN m, iN i, .bool true, iN i, pT b 0, .int .i64 s.pos, pT b 0, .int .i64 hh, .agg #[.int .i64 hh, .int .u64 0], iN i, .bool true, .bool true, pT gx 0, .int .i64 hh, v, iN i, iN ((i - 1)), .pointer (some ⟨b_, o_ + (i - 1) * 2, none⟩), .pointer (some ⟨b_, o_ + (i - 1) * 2, none⟩), .int .i64 y.h, .bool false, .bool false, u35, u36, u37, u38, u39, u40, u41, u42, u43, u44, u45, u46, u47, u48, u49, u50, u51, u52, u53, ud, ud, ud, ud, ud, ud, ud, ud], []⟩ <| then_n <| n_ <| s_ <| tqr_ [0, 1, 2] <| pkq (pT b 0) ?_
      refine pcq 43 #[pT b 0] Tryz.func43 ((Rd.at_ (qs2 ▸ h176)).mono ?_)
      rintro e w1 ⟨rfl, rfl⟩
      refine ⟨_, rfl, ?_⟩
      refine pkq (.int .i64 s2.pos) <| eqr_ [0, 1, 2, 3] <| pkq (pT b 0) ?_
      have hKs11 := K179.size
      have hr2_11 := lt_of_block h175
      have hgx_11 := lt_of_block h178
      have hvl_11 : ∀ j, v.ownBlock = some j → j < V174.heap.size := fun j hj => h177.lt hj
      refine pcq 45 #[pT b 0] Tryz.func45 ((rdu_is hke qs3 (Rd.u (qs2 ▸ h176))).mono ?_)
      rintro e V181 ⟨rfl, Fc, hRV181, hSV181⟩
      have hd_Fc : ∀ j, Fc j → w.heap.size ≤ j ∧ j ≠ r2 ∧ j ≠ gx ∧ ¬ v.ownBlock = some j := fun j h => (hSV181.2 j h).elim (hd_Fa j) (fun h => ⟨by omega, by omega, by omega, fun e => by have := hvl_11 j e; omega⟩)
      refine ⟨_, rfl, ?_⟩
      have h182 : V181.heap[r2]? = some (.cells (#[.int .i64 0, .int .i64 0]) 31 (0, 0)) := (hSV181.1.block r2 (lt_of_block h175) (fun e => by have := hd_Fa _ e; omega)).trans h175
      have h183 : Row V181 46 2 v out.length (out.flatMap Nt.cl) := h177.keeps hSV181.1 (fun j hj e => (hd_Fa j e).2.2.2 hj)
      have h184 : V181.heap[gx]? = some (.cells (#[.int .i64 hh, .int .u64 0]) 46 (0, 0)) := (hSV181.1.block gx (lt_of_block h178) (fun e => by have := hd_Fa _ e; omega)).trans h178
      have K185 : Keeps Nob w V181 := K179.then hSV181.1 (fun k hi hm => absurd hi (by have := (hd_Fa k hm).1; omega))
      have z186 := hSV181.1.size
      refine pkq (pT gx 1) <| pce 40 gx 1 (uN kk) (#[.int .i64 hh, .int .u64 ((kk : Nat) : Int)]) h184 (rc (h184) (by kernel_rfl)) (by kernel_rfl) (u := .int .u64 0) fun V187 h188 kV187 => ?_
      have h189 := kV187.bO h182
      have h190 : Row V187 46 2 v out.length (out.flatMap Nt.cl) := h183.keeps kV187 (fun j hj e => by have := hvx j hj; unfold Own.One at e; omega)
      have h191 : Rd V187 Fc b l s3 := hRV181.keeps kV187 (fun j hj e => by have := hd_Fc j hj; unfold Own.One at e; omega)
      have K192 := K185.nO kV187
      have z193 := kV187.size
      refine eq_ <| qr_ [0, 1, 2] <| pkq (pT gx 1) <| ppq (uN kk) (ldk 40 gx 1 h188) <| ppq (.bool false) (dcf ((((kk : Nat) : Int)) > ((4611686018427387904) : Int)) (by omega)) <| en_ <| s_ <| tr_ [0, 1, 2, 3, 4] <| pkq (v) <| ppq (.agg #[.int .i64 hh, uN kk]) (ldr 46 gx (h188) (by kernel_rfl)) ?_
      obtain ⟨V194, eV194, lit, elit, h195, kV194⟩ := alloc_step V187 (#[.int .i64 hh, .int .u64 ((kk : Nat) : Int)]) 46
      have n196 : r2 < lit := elit ▸ lt_of_block h189
      have n197 : gx < lit := elit ▸ lt_of_block h188
      have n198 : w.heap.size ≤ lit := elit ▸ K192.size
      refine prq (.slice (some ⟨lit, 0, none⟩) 1 1) (w' := V194) (by rw [← eV194, ← elit]; kernel_rfl) ?_
      have h199 := kV194.bk h189
      have h200 : Row V194 46 2 v out.length (out.flatMap Nt.cl) := h190.keeps kV194 (fun _ _ x => x)
      have h201 : Rd V194 Fc b l s3 := h191.keepsN kV194
      have K203 := K192.nn kV194
      have z204 := kV194.size
      obtain ⟨vn, V205, hr206, h207, hg208, hn209, ha210⟩ := run_append_any (P := Tryz.prog) (w := V194) 22 (Oper.type (qo76_0 501375 3)) 46 i2 (.agg #[.int .i64 0, .int .u64 0]) 2 16 Tryz.underlying22 hi2 hs0 hs1 hs2 rfl (by decide) v out.length (out.flatMap Nt.cl) h200 (.slice (some ⟨lit, 0, none⟩) 1 1) 1 (Nt.cl (⟨hh, kk⟩ : Nt)) (src_nt (x := ⟨hh, kk⟩) h195) (by unfold maxLen; omega) (by omega)
      have kV205 : Keeps (fun j => v.ownBlock = some j) V194 V205 := Keeps.rowAdd hg208
      have hw211 : NewFrom w.heap.size vn := hnw.next K203.size ha210
      refine prq vn (w' := V205) (exec_append (.tmp 49) (.tmp 51) 22 (by kernel_rfl) v (.slice (some ⟨lit, 0, none⟩) 1 1) (by kernel_rfl) (by kernel_rfl) hr206) ?_
      have h212 : Row V205 46 2 vn ((out ++ [(⟨hh, kk⟩ : Nt)]).length) ((out ++ [(⟨hh, kk⟩ : Nt)]).flatMap Nt.cl) := (row_nt rfl h207)
      have hnwn := hw211
      have hdn : ∀ j, Fc j → w.heap.size ≤ j ∧ j ≠ r2 ∧ ¬ vn.ownBlock = some j := fun j h => ⟨(hd_Fc j h).1, (hd_Fc j h).2.1, fun e => (ha210 j e).elim (fun q => (hd_Fc j h).2.2.2 q) (fun q => by have := Rd.lt h201 j h; omega)⟩
      have h213 : V205.heap[r2]? = some (.cells (#[.int .i64 0, .int .i64 0]) 31 (0, 0)) := (kV205.block r2 (lt_of_block h199) (fun e => Row.ne h200 h199 (by decide) e)).trans h199
      have h214 : Rd V205 Fc b l s3 := h201.keeps kV205 (fun j hj e => (hd_Fc j hj).2.2.2 e)
      have K215 : Keeps Nob w V205 := K203.then kV205 (fun i hi hm => absurd hi (by have := hnw i hm; omega))
      have z216 := kV205.size
      refine pkq (vn) <| ps_end <| blk_n <| tr_ [0, 1] <| ppq (iN (i + 1)) (exec_cast (congrArg (Value.int .i64) (wrapN (i + 1) (by omega))) (by kernel_rfl)) <| pkq (iN (i + 1)) <| et_ ?_
      refine ⟨⟨(i + 1), (out ++ [(⟨hh, kk⟩ : Nt)]), s4, vn, Fc, (iN i), (.int .i64 s2.pos), (pT gx 0), (.bool true), (iN i), (pT b 0), (.int .i64 s.pos), (pT b 0), (.int .i64 hh), (.agg #[.int .i64 hh, .int .u64 0]), (iN i), (.bool true), (.bool true), (pT gx 0), (.int .i64 hh), v, (iN i), (iN ((i - 1))), (.pointer (some ⟨b_, o_ + (i - 1) * 2, none⟩)), (.pointer (some ⟨b_, o_ + (i - 1) * 2, none⟩)), (.int .i64 y.h), (.bool false), (.bool false), u35, u36, u37, (pT b 0), (.int .i64 s2.pos), (pT b 0), (uN kk), (pT gx 1), (pT gx 1), (uN kk), (.bool false), u46, u47, u48, v, (.agg #[.int .i64 hh, uN kk]), (.slice (some ⟨lit, 0, none⟩) 1 1), vn, (iN (i + 1)), by kernel_rfl, by omega, by simp [hout], hpn, hdn, hnwn, h213, (qs4 ▸ h214), h212, K215⟩, ?_⟩
      exact lt_meas (x := m - (i + 1)) (y := m - i) (by kernel_rfl) (by kernel_rfl) (by omega)
    · skip
      obtain ⟨hh, hhe⟩ : ∃ x, nrH l s = x := ⟨_, rfl⟩
      obtain ⟨s1, qs1⟩ : ∃ x, (rdN l s 1 4294967296).2 = x := ⟨_, rfl⟩
      obtain ⟨s2, qs2e⟩ : ∃ x, nrS l out s = x := ⟨_, rfl⟩
      obtain ⟨kk, hke⟩ : ∃ x, nrK l s2 = x := ⟨_, rfl⟩
      obtain ⟨s3, qs3⟩ : ∃ x, (rdU l s2).2 = x := ⟨_, rfl⟩
      obtain ⟨s4, qs4e⟩ : ∃ x, nrT l s2 = x := ⟨_, rfl⟩
      have hhb := nrH_le l s
      have hkb := nrK_lt l s2
      have hpn := nrgo_step lt_i hp
      rw [qs2e] at hbig hpn
      rw [hke] at hbig hkb hpn
      rw [hhe] at hhb hpn
      rw [qs4e] at hpn
      obtain ⟨y, hy, hy2, hyc⟩ := hyy
      obtain ⟨b_, o_, c_, hv_, hb_, _⟩ := (row_nts h17).at_ (i - 1) _ hy
      have qs2 : s1 = s2 := by rw [← qs1, ← qs2e, nrS_not hy2 hyc]
      rw [hhe] at hyc
      have qs4 : s3.fail 3 s2.pos = s4 := by rw [← qs4e, ← qs3]; unfold nrT; rw [hke, if_pos hbig]
      refine qr_ [0] <| ppq (.bool true) (dct ((((i : Nat) : Int)) < (((m : Nat) : Int))) (by omega)) <| eq_ <| y_ <| s_ <| tq_ <| bl_ 1 <| qr_ [0, 1] <| pkq (iN i) <| pkq (iN i) <| eqr_ [0, 1, 2] <| pkq (pT b 0) ?_
      refine pcq 43 #[pT b 0] Tryz.func43 ((Rd.at_ h16).mono ?_)
      rintro e w1 ⟨rfl, rfl⟩
      refine ⟨_, rfl, ?_⟩
      refine pkq (.int .i64 s.pos) <| eqr_ [0, 1, 2, 3, 4] <| pkq (pT b 0) ?_
      have hKs7 := K18.size
      have hr2_7 := lt_of_block h15
      have hvl_7 : ∀ j, v.ownBlock = some j → j < V14.heap.size := fun j hj => h17.lt hj
      refine pcq 42 #[pT b 0, .int .i64 1, .int .i64 4294967296] Tryz.func42 ((rdn_is hhe qs1 (Rd.n h16 1 4294967296 (by decide) (by decide))).mono ?_)
      rintro e V217 ⟨rfl, Fa, hRa, hSa⟩
      have hrowa : Row V217 46 2 v out.length (out.flatMap Nt.cl) := h17.keeps hSa.1 (fun j hj e => (hd_i j e).2.2 hj)
      have hda : ∀ j, Fa j → w.heap.size ≤ j ∧ j ≠ r2 ∧ ¬ v.ownBlock = some j := fun j h => (hSa.2 j h).elim (hd_i j) (fun h => ⟨by omega, by omega, fun e => by have := hvl_7 j e; omega⟩)
      have hlta := Rd.lt hRa
      have hvla : ∀ j, v.ownBlock = some j → j < V217.heap.size := fun j hj => hrowa.lt hj
      refine ⟨_, rfl, ?_⟩
      have h218 : V217.heap[r2]? = some (.cells (#[.int .i64 0, .int .i64 0]) 31 (0, 0)) := (hSa.1.block r2 (lt_of_block h15) (fun e => (hd_i _ e).2.1 rfl)).trans h15
      have K219 : Keeps Nob w V217 := K18.then hSa.1 (fun k hi hm => absurd hi (by have := (hd_i k hm).1; omega))
      have z220 := hSa.1.size
      refine pkq (.agg #[.int .i64 hh, .int .u64 0]) <| pal 46 (#[.int .i64 0, .int .u64 0]) (.agg (#[.int .i64 0, .int .u64 0])) fun V221 gx egx h222 kV221 => ?_
      have n223 : r2 < gx := egx ▸ lt_of_block h218
      have n224 : w.heap.size ≤ gx := egx ▸ K219.size
      have h225 := kV221.bk h218
      have h226 : Rd V221 Fa b l s1 := hRa.keepsN kV221
      have h227 : Row V221 46 2 v out.length (out.flatMap Nt.cl) := hrowa.keeps kV221 (fun _ _ x => x)
      have K228 := K219.nn kV221
      have z229 := kV221.size
      obtain ⟨V230, eV230, kV230⟩ := rowset_step V221 gx (#[.int .i64 hh, .int .u64 0])
      have hvx : ∀ j, v.ownBlock = some j → j ≠ gx := fun j hj => by have := hvla j hj; omega
      have hd_Fa : ∀ j, Fa j → w.heap.size ≤ j ∧ j ≠ r2 ∧ j ≠ gx ∧ ¬ v.ownBlock = some j := fun j hj => ⟨(hda j hj).1, (hda j hj).2.1, by have := hlta j hj; omega, (hda j hj).2.2⟩
      have h231 : V230.heap[gx]? = some (.cells (#[.int .i64 hh, .int .u64 0]) 46 (0, 0)) := eV230 ▸ setRow_heap _ _ _ _ _ _ h222
      refine pzq (w' := V230) (by rw [← eV230]; exact exec_store_row 46 (.tmp 8) (.tmp 21) (by kernel_rfl) gx (#[.int .i64 hh, .int .u64 0]) (by kernel_rfl) (by kernel_rfl) 46 (#[.int .i64 0, .int .u64 0]) h222 (by kernel_rfl) rfl (by kernel_rfl)) ?_
      clear eV230
      have h232 := kV230.bO h225
      have h233 : Rd V230 Fa b l s1 := h226.keeps kV230 (fun j hj e => by have := hlta j hj; unfold Own.One at e; omega)
      have h234 : Row V230 46 2 v out.length (out.flatMap Nt.cl) := h227.keeps kV230 (fun j hj e => by have := hvla j hj; unfold Own.One at e; omega)
      have K235 := K228.nO kV230
      have z236 := kV230.size
      refine eq_ <| q_ <| sy_reg <| rg_still 8 12 (opsAt (qc76_0 125340)) [qo76_0 125340 0, qo76_0 125340 1, qo76_0 125340 2, qo76_0 125340 3, qo76_0 125340 4, qo76_0 125340 5, qo76_0 125340 6, qo76_0 125340 7, qo76_0 125340 8, qo76_0 125340 9, qo76_0 125340 10, qo76_0 125340 11] [qo76_0 125340 12] (by kernel_rfl) (by kernel_rfl) (by kernel_rfl) (by kernel_rfl) (by kernel_rfl) ?_
      obtain ⟨V238, eV238, kV238⟩ := drew_step V230
      rw [eV238]
      clear eV238
      have h239 := kV238.bk h232
      have h240 : Rd V238 Fa b l s1 := h233.keepsN kV238
      have h241 : Row V238 46 2 v out.length (out.flatMap Nt.cl) := h234.keeps kV238 (fun _ _ x => x)
      have h242 := kV238.bk h231
      have K243 := K235.nn kV238
      have z244 := kV238.size
      refine skq (iN i) <| spq (.bool true) (dct ((((i : Nat) : Int)) > ((0) : Int)) (by omega)) <| skq (.bool true) <| skq (pT gx 0) <| spq (.int .i64 hh) (ldk 3 gx 0 h242) <| skq (v) <| skq (iN i) <| spq (iN ((i - 1))) (exec_cast (congrArg (Value.int .i64) (wrapI (((i : Nat) : Int) - 1) ((i - 1 : Nat) : Int) (by omega) (by omega) (by omega))) (by kernel_rfl)) <| spq (.pointer (some ⟨b_, o_ + (i - 1) * 2, none⟩)) (exec_indexAt_slice 22 (.tmp 27) (.tmp 29) (by kernel_rfl) b_ o_ out.length c_ (Eq.trans (b := v) (by kernel_rfl) hv_) .i64 (i - 1) (by kernel_rfl) _ 2 Tryz.underlying22 (by kernel_rfl) (by omega)) <| skq (.pointer (some ⟨b_, o_ + (i - 1) * 2, none⟩)) <| spq (.int .i64 y.h) (exec_ld 3 (.tmp 31) b_ (o_ + (i - 1) * 2 + 0) Tryz.underlying3 (Sl.cell (row_nts h241) hy hv_ rfl)) <| spq (.bool false) (dcf (((hh) : Int) < ((y.h) : Int)) (by omega)) <| st_end <| ls_run (qo76_0 125340 12) (.bool false) (w' := V238) (by kernel_rfl) (by kernel_rfl) ?_
      refine ls_end <| sy_a ⟨#[v0, ud, .slice none 0 0, pT r2 0, pT b 0, v, iN i, .int .i64 s.pos, pT gx 0, ud, v0, pT b 0, pT b 0, iN m, iN i, .bool true, iN i, pT b 0, .int .i64 s.pos, pT b 0, .int .i64 hh, .agg #[.int .i64 hh, .int .u64 0], iN i, .bool true, .bool true, pT gx 0, .int .i64 hh, v, iN i, iN ((i - 1)), .pointer (some ⟨b_, o_ + (i - 1) * 2, none⟩), .pointer (some ⟨b_, o_ + (i - 1) * 2, none⟩), .int .i64 y.h, .bool false, .bool false, u35, u36, u37, u38, u39, u40, u41, u42, u43, u44, u45, u46, u47, u48, u49, u50, u51, u52, u53, ud, ud, ud, ud, ud, ud, ud, ud], []⟩ <| then_n <| n_ <| s_ <| tqr_ [0, 1, 2] <| pkq (pT b 0) ?_
      refine pcq 43 #[pT b 0] Tryz.func43 ((Rd.at_ (qs2 ▸ h240)).mono ?_)
      rintro e w1 ⟨rfl, rfl⟩
      refine ⟨_, rfl, ?_⟩
      refine pkq (.int .i64 s2.pos) <| eqr_ [0, 1, 2, 3] <| pkq (pT b 0) ?_
      have hKs11 := K243.size
      have hr2_11 := lt_of_block h239
      have hgx_11 := lt_of_block h242
      have hvl_11 : ∀ j, v.ownBlock = some j → j < V238.heap.size := fun j hj => h241.lt hj
      refine pcq 45 #[pT b 0] Tryz.func45 ((rdu_is hke qs3 (Rd.u (qs2 ▸ h240))).mono ?_)
      rintro e V245 ⟨rfl, Fc, hRV245, hSV245⟩
      have hd_Fc : ∀ j, Fc j → w.heap.size ≤ j ∧ j ≠ r2 ∧ j ≠ gx ∧ ¬ v.ownBlock = some j := fun j h => (hSV245.2 j h).elim (hd_Fa j) (fun h => ⟨by omega, by omega, by omega, fun e => by have := hvl_11 j e; omega⟩)
      refine ⟨_, rfl, ?_⟩
      have h246 : V245.heap[r2]? = some (.cells (#[.int .i64 0, .int .i64 0]) 31 (0, 0)) := (hSV245.1.block r2 (lt_of_block h239) (fun e => by have := hd_Fa _ e; omega)).trans h239
      have h247 : Row V245 46 2 v out.length (out.flatMap Nt.cl) := h241.keeps hSV245.1 (fun j hj e => (hd_Fa j e).2.2.2 hj)
      have h248 : V245.heap[gx]? = some (.cells (#[.int .i64 hh, .int .u64 0]) 46 (0, 0)) := (hSV245.1.block gx (lt_of_block h242) (fun e => by have := hd_Fa _ e; omega)).trans h242
      have K249 : Keeps Nob w V245 := K243.then hSV245.1 (fun k hi hm => absurd hi (by have := (hd_Fa k hm).1; omega))
      have z250 := hSV245.1.size
      refine pkq (pT gx 1) <| pce 40 gx 1 (uN kk) (#[.int .i64 hh, .int .u64 ((kk : Nat) : Int)]) h248 (rc (h248) (by kernel_rfl)) (by kernel_rfl) (u := .int .u64 0) fun V251 h252 kV251 => ?_
      have h253 := kV251.bO h246
      have h254 : Row V251 46 2 v out.length (out.flatMap Nt.cl) := h247.keeps kV251 (fun j hj e => by have := hvx j hj; unfold Own.One at e; omega)
      have h255 : Rd V251 Fc b l s3 := hRV245.keeps kV251 (fun j hj e => by have := hd_Fc j hj; unfold Own.One at e; omega)
      have K256 := K249.nO kV251
      have z257 := kV251.size
      refine eq_ <| qr_ [0, 1, 2] <| pkq (pT gx 1) <| ppq (uN kk) (ldk 40 gx 1 h252) <| ppq (.bool true) (dct ((((kk : Nat) : Int)) > ((4611686018427387904) : Int)) (by omega)) <| ey_ <| r_ [0, 1, 2] <| pkq (pT b 0) <| pkq (.int .i64 s2.pos) ?_
      have hKs13 := K256.size
      have hr2_13 := lt_of_block h253
      have hgx_13 := lt_of_block h252
      have hvl_13 : ∀ j, v.ownBlock = some j → j < V251.heap.size := fun j hj => h254.lt hj
      refine pcq 44 #[pT b 0, .int .i64 3, .int .i64 s2.pos] Tryz.func44 ((Rd.fail h255 3 s2.pos).mono ?_)
      rintro e V258 ⟨⟨rv13, rfl⟩, Fd, hRV258, hSV258⟩
      have hd_Fd : ∀ j, Fd j → w.heap.size ≤ j ∧ j ≠ r2 ∧ j ≠ gx ∧ ¬ v.ownBlock = some j := fun j h => (hSV258.2 j h).elim (hd_Fc j) (fun h => ⟨by omega, by omega, by omega, fun e => by have := hvl_13 j e; omega⟩)
      refine ⟨_, rfl, ?_⟩
      have h259 : V258.heap[r2]? = some (.cells (#[.int .i64 0, .int .i64 0]) 31 (0, 0)) := (hSV258.1.block r2 (lt_of_block h253) (fun e => by have := hd_Fc _ e; omega)).trans h253
      have h260 : Row V258 46 2 v out.length (out.flatMap Nt.cl) := h254.keeps hSV258.1 (fun j hj e => (hd_Fc j e).2.2.2 hj)
      have h261 : V258.heap[gx]? = some (.cells (#[.int .i64 hh, .int .u64 ((kk : Nat) : Int)]) 46 (0, 0)) := (hSV258.1.block gx (lt_of_block h252) (fun e => by have := hd_Fc _ e; omega)).trans h252
      have K262 : Keeps Nob w V258 := K256.then hSV258.1 (fun k hi hm => absurd hi (by have := (hd_Fc k hm).1; omega))
      have z263 := hSV258.1.size
      refine er_ [0, 1, 2, 3, 4] <| pkq (v) <| ppq (.agg #[.int .i64 hh, uN kk]) (ldr 46 gx (h261) (by kernel_rfl)) ?_
      obtain ⟨V264, eV264, lit, elit, h265, kV264⟩ := alloc_step V258 (#[.int .i64 hh, .int .u64 ((kk : Nat) : Int)]) 46
      have n266 : r2 < lit := elit ▸ lt_of_block h259
      have n267 : gx < lit := elit ▸ lt_of_block h261
      have n268 : w.heap.size ≤ lit := elit ▸ K262.size
      refine prq (.slice (some ⟨lit, 0, none⟩) 1 1) (w' := V264) (by rw [← eV264, ← elit]; kernel_rfl) ?_
      have h269 := kV264.bk h259
      have h270 : Row V264 46 2 v out.length (out.flatMap Nt.cl) := h260.keeps kV264 (fun _ _ x => x)
      have h272 : Rd V264 Fd b l s4 := (qs4 ▸ hRV258).keepsN kV264
      have K273 := K262.nn kV264
      have z274 := kV264.size
      obtain ⟨vn, V275, hr276, h277, hg278, hn279, ha280⟩ := run_append_any (P := Tryz.prog) (w := V264) 22 (Oper.type (qo76_0 501375 3)) 46 i2 (.agg #[.int .i64 0, .int .u64 0]) 2 16 Tryz.underlying22 hi2 hs0 hs1 hs2 rfl (by decide) v out.length (out.flatMap Nt.cl) h270 (.slice (some ⟨lit, 0, none⟩) 1 1) 1 (Nt.cl (⟨hh, kk⟩ : Nt)) (src_nt (x := ⟨hh, kk⟩) h265) (by unfold maxLen; omega) (by omega)
      have kV275 : Keeps (fun j => v.ownBlock = some j) V264 V275 := Keeps.rowAdd hg278
      have hw281 : NewFrom w.heap.size vn := hnw.next K273.size ha280
      refine prq vn (w' := V275) (exec_append (.tmp 49) (.tmp 51) 22 (by kernel_rfl) v (.slice (some ⟨lit, 0, none⟩) 1 1) (by kernel_rfl) (by kernel_rfl) hr276) ?_
      have h282 : Row V275 46 2 vn ((out ++ [(⟨hh, kk⟩ : Nt)]).length) ((out ++ [(⟨hh, kk⟩ : Nt)]).flatMap Nt.cl) := (row_nt rfl h277)
      have hnwn := hw281
      have hdn : ∀ j, Fd j → w.heap.size ≤ j ∧ j ≠ r2 ∧ ¬ vn.ownBlock = some j := fun j h => ⟨(hd_Fd j h).1, (hd_Fd j h).2.1, fun e => (ha280 j e).elim (fun q => (hd_Fd j h).2.2.2 q) (fun q => by have := Rd.lt h272 j h; omega)⟩
      have h283 : V275.heap[r2]? = some (.cells (#[.int .i64 0, .int .i64 0]) 31 (0, 0)) := (kV275.block r2 (lt_of_block h269) (fun e => Row.ne h270 h269 (by decide) e)).trans h269
      have h284 : Rd V275 Fd b l s4 := h272.keeps kV275 (fun j hj e => (hd_Fd j hj).2.2.2 e)
      have K285 : Keeps Nob w V275 := K273.then kV275 (fun i hi hm => absurd hi (by have := hnw i hm; omega))
      have z286 := kV275.size
      refine pkq (vn) <| ps_end <| blk_n <| tr_ [0, 1] <| ppq (iN (i + 1)) (exec_cast (congrArg (Value.int .i64) (wrapN (i + 1) (by omega))) (by kernel_rfl)) <| pkq (iN (i + 1)) <| et_ ?_
      refine ⟨⟨(i + 1), (out ++ [(⟨hh, kk⟩ : Nt)]), s4, vn, Fd, (iN i), (.int .i64 s2.pos), (pT gx 0), (.bool true), (iN i), (pT b 0), (.int .i64 s.pos), (pT b 0), (.int .i64 hh), (.agg #[.int .i64 hh, .int .u64 0]), (iN i), (.bool true), (.bool true), (pT gx 0), (.int .i64 hh), v, (iN i), (iN ((i - 1))), (.pointer (some ⟨b_, o_ + (i - 1) * 2, none⟩)), (.pointer (some ⟨b_, o_ + (i - 1) * 2, none⟩)), (.int .i64 y.h), (.bool false), (.bool false), u35, u36, u37, (pT b 0), (.int .i64 s2.pos), (pT b 0), (uN kk), (pT gx 1), (pT gx 1), (uN kk), (.bool true), (pT b 0), (.int .i64 s2.pos), rv13, v, (.agg #[.int .i64 hh, uN kk]), (.slice (some ⟨lit, 0, none⟩) 1 1), vn, (iN (i + 1)), by kernel_rfl, by omega, by simp [hout], hpn, hdn, hnwn, h283, h284, h282, K285⟩, ?_⟩
      exact lt_meas (x := m - (i + 1)) (y := m - i) (by kernel_rfl) (by kernel_rfl) (by omega)
    · skip
      obtain ⟨hh, hhe⟩ : ∃ x, nrH l s = x := ⟨_, rfl⟩
      obtain ⟨s1, qs1⟩ : ∃ x, (rdN l s 1 4294967296).2 = x := ⟨_, rfl⟩
      obtain ⟨s2, qs2e⟩ : ∃ x, nrS l out s = x := ⟨_, rfl⟩
      obtain ⟨kk, hke⟩ : ∃ x, nrK l s2 = x := ⟨_, rfl⟩
      obtain ⟨s3, qs3⟩ : ∃ x, (rdU l s2).2 = x := ⟨_, rfl⟩
      obtain ⟨s4, qs4e⟩ : ∃ x, nrT l s2 = x := ⟨_, rfl⟩
      have hhb := nrH_le l s
      have hkb := nrK_lt l s2
      have hpn := nrgo_step lt_i hp
      rw [qs2e] at hbig hpn
      rw [hke] at hbig hkb hpn
      rw [hhe] at hhb hpn
      rw [qs4e] at hpn
      obtain ⟨y, hy, hy2, hyc⟩ := hyy
      obtain ⟨b_, o_, c_, hv_, hb_, _⟩ := (row_nts h17).at_ (i - 1) _ hy
      have qs2 : s1.fail 9 s.pos = s2 := by rw [← qs1, ← qs2e, nrS_yes hy2 hyc]
      rw [hhe] at hyc
      have qs4 : s3 = s4 := by rw [← qs4e, ← qs3]; unfold nrT; rw [hke, if_neg hbig]
      refine qr_ [0] <| ppq (.bool true) (dct ((((i : Nat) : Int)) < (((m : Nat) : Int))) (by omega)) <| eq_ <| y_ <| s_ <| tq_ <| bl_ 1 <| qr_ [0, 1] <| pkq (iN i) <| pkq (iN i) <| eqr_ [0, 1, 2] <| pkq (pT b 0) ?_
      refine pcq 43 #[pT b 0] Tryz.func43 ((Rd.at_ h16).mono ?_)
      rintro e w1 ⟨rfl, rfl⟩
      refine ⟨_, rfl, ?_⟩
      refine pkq (.int .i64 s.pos) <| eqr_ [0, 1, 2, 3, 4] <| pkq (pT b 0) ?_
      have hKs7 := K18.size
      have hr2_7 := lt_of_block h15
      have hvl_7 : ∀ j, v.ownBlock = some j → j < V14.heap.size := fun j hj => h17.lt hj
      refine pcq 42 #[pT b 0, .int .i64 1, .int .i64 4294967296] Tryz.func42 ((rdn_is hhe qs1 (Rd.n h16 1 4294967296 (by decide) (by decide))).mono ?_)
      rintro e V287 ⟨rfl, Fa, hRa, hSa⟩
      have hrowa : Row V287 46 2 v out.length (out.flatMap Nt.cl) := h17.keeps hSa.1 (fun j hj e => (hd_i j e).2.2 hj)
      have hda : ∀ j, Fa j → w.heap.size ≤ j ∧ j ≠ r2 ∧ ¬ v.ownBlock = some j := fun j h => (hSa.2 j h).elim (hd_i j) (fun h => ⟨by omega, by omega, fun e => by have := hvl_7 j e; omega⟩)
      have hlta := Rd.lt hRa
      have hvla : ∀ j, v.ownBlock = some j → j < V287.heap.size := fun j hj => hrowa.lt hj
      refine ⟨_, rfl, ?_⟩
      have h288 : V287.heap[r2]? = some (.cells (#[.int .i64 0, .int .i64 0]) 31 (0, 0)) := (hSa.1.block r2 (lt_of_block h15) (fun e => (hd_i _ e).2.1 rfl)).trans h15
      have K289 : Keeps Nob w V287 := K18.then hSa.1 (fun k hi hm => absurd hi (by have := (hd_i k hm).1; omega))
      have z290 := hSa.1.size
      refine pkq (.agg #[.int .i64 hh, .int .u64 0]) <| pal 46 (#[.int .i64 0, .int .u64 0]) (.agg (#[.int .i64 0, .int .u64 0])) fun V291 gx egx h292 kV291 => ?_
      have n293 : r2 < gx := egx ▸ lt_of_block h288
      have n294 : w.heap.size ≤ gx := egx ▸ K289.size
      have h295 := kV291.bk h288
      have h296 : Rd V291 Fa b l s1 := hRa.keepsN kV291
      have h297 : Row V291 46 2 v out.length (out.flatMap Nt.cl) := hrowa.keeps kV291 (fun _ _ x => x)
      have K298 := K289.nn kV291
      have z299 := kV291.size
      obtain ⟨V300, eV300, kV300⟩ := rowset_step V291 gx (#[.int .i64 hh, .int .u64 0])
      have hvx : ∀ j, v.ownBlock = some j → j ≠ gx := fun j hj => by have := hvla j hj; omega
      have hd_Fa : ∀ j, Fa j → w.heap.size ≤ j ∧ j ≠ r2 ∧ j ≠ gx ∧ ¬ v.ownBlock = some j := fun j hj => ⟨(hda j hj).1, (hda j hj).2.1, by have := hlta j hj; omega, (hda j hj).2.2⟩
      have h301 : V300.heap[gx]? = some (.cells (#[.int .i64 hh, .int .u64 0]) 46 (0, 0)) := eV300 ▸ setRow_heap _ _ _ _ _ _ h292
      refine pzq (w' := V300) (by rw [← eV300]; exact exec_store_row 46 (.tmp 8) (.tmp 21) (by kernel_rfl) gx (#[.int .i64 hh, .int .u64 0]) (by kernel_rfl) (by kernel_rfl) 46 (#[.int .i64 0, .int .u64 0]) h292 (by kernel_rfl) rfl (by kernel_rfl)) ?_
      clear eV300
      have h302 := kV300.bO h295
      have h303 : Rd V300 Fa b l s1 := h296.keeps kV300 (fun j hj e => by have := hlta j hj; unfold Own.One at e; omega)
      have h304 : Row V300 46 2 v out.length (out.flatMap Nt.cl) := h297.keeps kV300 (fun j hj e => by have := hvla j hj; unfold Own.One at e; omega)
      have K305 := K298.nO kV300
      have z306 := kV300.size
      refine eq_ <| q_ <| sy_reg <| rg_still 8 12 (opsAt (qc76_0 125340)) [qo76_0 125340 0, qo76_0 125340 1, qo76_0 125340 2, qo76_0 125340 3, qo76_0 125340 4, qo76_0 125340 5, qo76_0 125340 6, qo76_0 125340 7, qo76_0 125340 8, qo76_0 125340 9, qo76_0 125340 10, qo76_0 125340 11] [qo76_0 125340 12] (by kernel_rfl) (by kernel_rfl) (by kernel_rfl) (by kernel_rfl) (by kernel_rfl) ?_
      obtain ⟨V308, eV308, kV308⟩ := drew_step V300
      rw [eV308]
      clear eV308
      have h309 := kV308.bk h302
      have h310 : Rd V308 Fa b l s1 := h303.keepsN kV308
      have h311 : Row V308 46 2 v out.length (out.flatMap Nt.cl) := h304.keeps kV308 (fun _ _ x => x)
      have h312 := kV308.bk h301
      have K313 := K305.nn kV308
      have z314 := kV308.size
      refine skq (iN i) <| spq (.bool true) (dct ((((i : Nat) : Int)) > ((0) : Int)) (by omega)) <| skq (.bool true) <| skq (pT gx 0) <| spq (.int .i64 hh) (ldk 3 gx 0 h312) <| skq (v) <| skq (iN i) <| spq (iN ((i - 1))) (exec_cast (congrArg (Value.int .i64) (wrapI (((i : Nat) : Int) - 1) ((i - 1 : Nat) : Int) (by omega) (by omega) (by omega))) (by kernel_rfl)) <| spq (.pointer (some ⟨b_, o_ + (i - 1) * 2, none⟩)) (exec_indexAt_slice 22 (.tmp 27) (.tmp 29) (by kernel_rfl) b_ o_ out.length c_ (Eq.trans (b := v) (by kernel_rfl) hv_) .i64 (i - 1) (by kernel_rfl) _ 2 Tryz.underlying22 (by kernel_rfl) (by omega)) <| skq (.pointer (some ⟨b_, o_ + (i - 1) * 2, none⟩)) <| spq (.int .i64 y.h) (exec_ld 3 (.tmp 31) b_ (o_ + (i - 1) * 2 + 0) Tryz.underlying3 (Sl.cell (row_nts h311) hy hv_ rfl)) <| spq (.bool true) (dct (((hh) : Int) < ((y.h) : Int)) (by omega)) <| st_end <| ls_run (qo76_0 125340 12) (.bool true) (w' := V308) (by kernel_rfl) (by kernel_rfl) ?_
      refine ls_end <| sy_a ⟨#[v0, ud, .slice none 0 0, pT r2 0, pT b 0, v, iN i, .int .i64 s.pos, pT gx 0, ud, v0, pT b 0, pT b 0, iN m, iN i, .bool true, iN i, pT b 0, .int .i64 s.pos, pT b 0, .int .i64 hh, .agg #[.int .i64 hh, .int .u64 0], iN i, .bool true, .bool true, pT gx 0, .int .i64 hh, v, iN i, iN ((i - 1)), .pointer (some ⟨b_, o_ + (i - 1) * 2, none⟩), .pointer (some ⟨b_, o_ + (i - 1) * 2, none⟩), .int .i64 y.h, .bool true, .bool true, u35, u36, u37, u38, u39, u40, u41, u42, u43, u44, u45, u46, u47, u48, u49, u50, u51, u52, u53, ud, ud, ud, ud, ud, ud, ud, ud], []⟩ <| then_n <| y_ <| r_ [0, 1, 2] <| pkq (pT b 0) <| pkq (.int .i64 s.pos) ?_
      have hKs9 := K313.size
      have hr2_9 := lt_of_block h309
      have hgx_9 := lt_of_block h312
      have hvl_9 : ∀ j, v.ownBlock = some j → j < V308.heap.size := fun j hj => h311.lt hj
      refine pcq 44 #[pT b 0, .int .i64 9, .int .i64 s.pos] Tryz.func44 ((Rd.fail h310 9 s.pos).mono ?_)
      rintro e V315 ⟨⟨rv9, rfl⟩, Fb, hRV315, hSV315⟩
      have hd_Fb : ∀ j, Fb j → w.heap.size ≤ j ∧ j ≠ r2 ∧ j ≠ gx ∧ ¬ v.ownBlock = some j := fun j h => (hSV315.2 j h).elim (hd_Fa j) (fun h => ⟨by omega, by omega, by omega, fun e => by have := hvl_9 j e; omega⟩)
      refine ⟨_, rfl, ?_⟩
      have h316 : V315.heap[r2]? = some (.cells (#[.int .i64 0, .int .i64 0]) 31 (0, 0)) := (hSV315.1.block r2 (lt_of_block h309) (fun e => by have := hd_Fa _ e; omega)).trans h309
      have h317 : Row V315 46 2 v out.length (out.flatMap Nt.cl) := h311.keeps hSV315.1 (fun j hj e => (hd_Fa j e).2.2.2 hj)
      have h318 : V315.heap[gx]? = some (.cells (#[.int .i64 hh, .int .u64 0]) 46 (0, 0)) := (hSV315.1.block gx (lt_of_block h312) (fun e => by have := hd_Fa _ e; omega)).trans h312
      have K319 : Keeps Nob w V315 := K313.then hSV315.1 (fun k hi hm => absurd hi (by have := (hd_Fa k hm).1; omega))
      have z320 := hSV315.1.size
      refine eqr_ [0, 1, 2] <| pkq (pT b 0) ?_
      refine pcq 43 #[pT b 0] Tryz.func43 ((Rd.at_ (qs2 ▸ hRV315)).mono ?_)
      rintro e w1 ⟨rfl, rfl⟩
      refine ⟨_, rfl, ?_⟩
      refine pkq (.int .i64 s2.pos) <| eqr_ [0, 1, 2, 3] <| pkq (pT b 0) ?_
      have hKs11 := K319.size
      have hr2_11 := lt_of_block h316
      have hgx_11 := lt_of_block h318
      have hvl_11 : ∀ j, v.ownBlock = some j → j < V315.heap.size := fun j hj => h317.lt hj
      refine pcq 45 #[pT b 0] Tryz.func45 ((rdu_is hke qs3 (Rd.u (qs2 ▸ hRV315))).mono ?_)
      rintro e V321 ⟨rfl, Fc, hRV321, hSV321⟩
      have hd_Fc : ∀ j, Fc j → w.heap.size ≤ j ∧ j ≠ r2 ∧ j ≠ gx ∧ ¬ v.ownBlock = some j := fun j h => (hSV321.2 j h).elim (hd_Fb j) (fun h => ⟨by omega, by omega, by omega, fun e => by have := hvl_11 j e; omega⟩)
      refine ⟨_, rfl, ?_⟩
      have h322 : V321.heap[r2]? = some (.cells (#[.int .i64 0, .int .i64 0]) 31 (0, 0)) := (hSV321.1.block r2 (lt_of_block h316) (fun e => by have := hd_Fb _ e; omega)).trans h316
      have h323 : Row V321 46 2 v out.length (out.flatMap Nt.cl) := h317.keeps hSV321.1 (fun j hj e => (hd_Fb j e).2.2.2 hj)
      have h324 : V321.heap[gx]? = some (.cells (#[.int .i64 hh, .int .u64 0]) 46 (0, 0)) := (hSV321.1.block gx (lt_of_block h318) (fun e => by have := hd_Fb _ e; omega)).trans h318
      have K325 : Keeps Nob w V321 := K319.then hSV321.1 (fun k hi hm => absurd hi (by have := (hd_Fb k hm).1; omega))
      have z326 := hSV321.1.size
      refine pkq (pT gx 1) <| pce 40 gx 1 (uN kk) (#[.int .i64 hh, .int .u64 ((kk : Nat) : Int)]) h324 (rc (h324) (by kernel_rfl)) (by kernel_rfl) (u := .int .u64 0) fun V327 h328 kV327 => ?_
      have h329 := kV327.bO h322
      have h330 : Row V327 46 2 v out.length (out.flatMap Nt.cl) := h323.keeps kV327 (fun j hj e => by have := hvx j hj; unfold Own.One at e; omega)
      have h331 : Rd V327 Fc b l s3 := hRV321.keeps kV327 (fun j hj e => by have := hd_Fc j hj; unfold Own.One at e; omega)
      have K332 := K325.nO kV327
      have z333 := kV327.size
      refine eq_ <| qr_ [0, 1, 2] <| pkq (pT gx 1) <| ppq (uN kk) (ldk 40 gx 1 h328) <| ppq (.bool false) (dcf ((((kk : Nat) : Int)) > ((4611686018427387904) : Int)) (by omega)) <| en_ <| s_ <| tr_ [0, 1, 2, 3, 4] <| pkq (v) <| ppq (.agg #[.int .i64 hh, uN kk]) (ldr 46 gx (h328) (by kernel_rfl)) ?_
      obtain ⟨V334, eV334, lit, elit, h335, kV334⟩ := alloc_step V327 (#[.int .i64 hh, .int .u64 ((kk : Nat) : Int)]) 46
      have n336 : r2 < lit := elit ▸ lt_of_block h329
      have n337 : gx < lit := elit ▸ lt_of_block h328
      have n338 : w.heap.size ≤ lit := elit ▸ K332.size
      refine prq (.slice (some ⟨lit, 0, none⟩) 1 1) (w' := V334) (by rw [← eV334, ← elit]; kernel_rfl) ?_
      have h339 := kV334.bk h329
      have h340 : Row V334 46 2 v out.length (out.flatMap Nt.cl) := h330.keeps kV334 (fun _ _ x => x)
      have h341 : Rd V334 Fc b l s3 := h331.keepsN kV334
      have K343 := K332.nn kV334
      have z344 := kV334.size
      obtain ⟨vn, V345, hr346, h347, hg348, hn349, ha350⟩ := run_append_any (P := Tryz.prog) (w := V334) 22 (Oper.type (qo76_0 501375 3)) 46 i2 (.agg #[.int .i64 0, .int .u64 0]) 2 16 Tryz.underlying22 hi2 hs0 hs1 hs2 rfl (by decide) v out.length (out.flatMap Nt.cl) h340 (.slice (some ⟨lit, 0, none⟩) 1 1) 1 (Nt.cl (⟨hh, kk⟩ : Nt)) (src_nt (x := ⟨hh, kk⟩) h335) (by unfold maxLen; omega) (by omega)
      have kV345 : Keeps (fun j => v.ownBlock = some j) V334 V345 := Keeps.rowAdd hg348
      have hw351 : NewFrom w.heap.size vn := hnw.next K343.size ha350
      refine prq vn (w' := V345) (exec_append (.tmp 49) (.tmp 51) 22 (by kernel_rfl) v (.slice (some ⟨lit, 0, none⟩) 1 1) (by kernel_rfl) (by kernel_rfl) hr346) ?_
      have h352 : Row V345 46 2 vn ((out ++ [(⟨hh, kk⟩ : Nt)]).length) ((out ++ [(⟨hh, kk⟩ : Nt)]).flatMap Nt.cl) := (row_nt rfl h347)
      have hnwn := hw351
      have hdn : ∀ j, Fc j → w.heap.size ≤ j ∧ j ≠ r2 ∧ ¬ vn.ownBlock = some j := fun j h => ⟨(hd_Fc j h).1, (hd_Fc j h).2.1, fun e => (ha350 j e).elim (fun q => (hd_Fc j h).2.2.2 q) (fun q => by have := Rd.lt h341 j h; omega)⟩
      have h353 : V345.heap[r2]? = some (.cells (#[.int .i64 0, .int .i64 0]) 31 (0, 0)) := (kV345.block r2 (lt_of_block h339) (fun e => Row.ne h340 h339 (by decide) e)).trans h339
      have h354 : Rd V345 Fc b l s3 := h341.keeps kV345 (fun j hj e => (hd_Fc j hj).2.2.2 e)
      have K355 : Keeps Nob w V345 := K343.then kV345 (fun i hi hm => absurd hi (by have := hnw i hm; omega))
      have z356 := kV345.size
      refine pkq (vn) <| ps_end <| blk_n <| tr_ [0, 1] <| ppq (iN (i + 1)) (exec_cast (congrArg (Value.int .i64) (wrapN (i + 1) (by omega))) (by kernel_rfl)) <| pkq (iN (i + 1)) <| et_ ?_
      refine ⟨⟨(i + 1), (out ++ [(⟨hh, kk⟩ : Nt)]), s4, vn, Fc, (iN i), (.int .i64 s2.pos), (pT gx 0), (.bool true), (iN i), (pT b 0), (.int .i64 s.pos), (pT b 0), (.int .i64 hh), (.agg #[.int .i64 hh, .int .u64 0]), (iN i), (.bool true), (.bool true), (pT gx 0), (.int .i64 hh), v, (iN i), (iN ((i - 1))), (.pointer (some ⟨b_, o_ + (i - 1) * 2, none⟩)), (.pointer (some ⟨b_, o_ + (i - 1) * 2, none⟩)), (.int .i64 y.h), (.bool true), (.bool true), (pT b 0), (.int .i64 s.pos), rv9, (pT b 0), (.int .i64 s2.pos), (pT b 0), (uN kk), (pT gx 1), (pT gx 1), (uN kk), (.bool false), u46, u47, u48, v, (.agg #[.int .i64 hh, uN kk]), (.slice (some ⟨lit, 0, none⟩) 1 1), vn, (iN (i + 1)), by kernel_rfl, by omega, by simp [hout], hpn, hdn, hnwn, h353, (qs4 ▸ h354), h352, K355⟩, ?_⟩
      exact lt_meas (x := m - (i + 1)) (y := m - i) (by kernel_rfl) (by kernel_rfl) (by omega)
    · skip
      obtain ⟨hh, hhe⟩ : ∃ x, nrH l s = x := ⟨_, rfl⟩
      obtain ⟨s1, qs1⟩ : ∃ x, (rdN l s 1 4294967296).2 = x := ⟨_, rfl⟩
      obtain ⟨s2, qs2e⟩ : ∃ x, nrS l out s = x := ⟨_, rfl⟩
      obtain ⟨kk, hke⟩ : ∃ x, nrK l s2 = x := ⟨_, rfl⟩
      obtain ⟨s3, qs3⟩ : ∃ x, (rdU l s2).2 = x := ⟨_, rfl⟩
      obtain ⟨s4, qs4e⟩ : ∃ x, nrT l s2 = x := ⟨_, rfl⟩
      have hhb := nrH_le l s
      have hkb := nrK_lt l s2
      have hpn := nrgo_step lt_i hp
      rw [qs2e] at hbig hpn
      rw [hke] at hbig hkb hpn
      rw [hhe] at hhb hpn
      rw [qs4e] at hpn
      obtain ⟨y, hy, hy2, hyc⟩ := hyy
      obtain ⟨b_, o_, c_, hv_, hb_, _⟩ := (row_nts h17).at_ (i - 1) _ hy
      have qs2 : s1.fail 9 s.pos = s2 := by rw [← qs1, ← qs2e, nrS_yes hy2 hyc]
      rw [hhe] at hyc
      have qs4 : s3.fail 3 s2.pos = s4 := by rw [← qs4e, ← qs3]; unfold nrT; rw [hke, if_pos hbig]
      refine qr_ [0] <| ppq (.bool true) (dct ((((i : Nat) : Int)) < (((m : Nat) : Int))) (by omega)) <| eq_ <| y_ <| s_ <| tq_ <| bl_ 1 <| qr_ [0, 1] <| pkq (iN i) <| pkq (iN i) <| eqr_ [0, 1, 2] <| pkq (pT b 0) ?_
      refine pcq 43 #[pT b 0] Tryz.func43 ((Rd.at_ h16).mono ?_)
      rintro e w1 ⟨rfl, rfl⟩
      refine ⟨_, rfl, ?_⟩
      refine pkq (.int .i64 s.pos) <| eqr_ [0, 1, 2, 3, 4] <| pkq (pT b 0) ?_
      have hKs7 := K18.size
      have hr2_7 := lt_of_block h15
      have hvl_7 : ∀ j, v.ownBlock = some j → j < V14.heap.size := fun j hj => h17.lt hj
      refine pcq 42 #[pT b 0, .int .i64 1, .int .i64 4294967296] Tryz.func42 ((rdn_is hhe qs1 (Rd.n h16 1 4294967296 (by decide) (by decide))).mono ?_)
      rintro e V357 ⟨rfl, Fa, hRa, hSa⟩
      have hrowa : Row V357 46 2 v out.length (out.flatMap Nt.cl) := h17.keeps hSa.1 (fun j hj e => (hd_i j e).2.2 hj)
      have hda : ∀ j, Fa j → w.heap.size ≤ j ∧ j ≠ r2 ∧ ¬ v.ownBlock = some j := fun j h => (hSa.2 j h).elim (hd_i j) (fun h => ⟨by omega, by omega, fun e => by have := hvl_7 j e; omega⟩)
      have hlta := Rd.lt hRa
      have hvla : ∀ j, v.ownBlock = some j → j < V357.heap.size := fun j hj => hrowa.lt hj
      refine ⟨_, rfl, ?_⟩
      have h358 : V357.heap[r2]? = some (.cells (#[.int .i64 0, .int .i64 0]) 31 (0, 0)) := (hSa.1.block r2 (lt_of_block h15) (fun e => (hd_i _ e).2.1 rfl)).trans h15
      have K359 : Keeps Nob w V357 := K18.then hSa.1 (fun k hi hm => absurd hi (by have := (hd_i k hm).1; omega))
      have z360 := hSa.1.size
      refine pkq (.agg #[.int .i64 hh, .int .u64 0]) <| pal 46 (#[.int .i64 0, .int .u64 0]) (.agg (#[.int .i64 0, .int .u64 0])) fun V361 gx egx h362 kV361 => ?_
      have n363 : r2 < gx := egx ▸ lt_of_block h358
      have n364 : w.heap.size ≤ gx := egx ▸ K359.size
      have h365 := kV361.bk h358
      have h366 : Rd V361 Fa b l s1 := hRa.keepsN kV361
      have h367 : Row V361 46 2 v out.length (out.flatMap Nt.cl) := hrowa.keeps kV361 (fun _ _ x => x)
      have K368 := K359.nn kV361
      have z369 := kV361.size
      obtain ⟨V370, eV370, kV370⟩ := rowset_step V361 gx (#[.int .i64 hh, .int .u64 0])
      have hvx : ∀ j, v.ownBlock = some j → j ≠ gx := fun j hj => by have := hvla j hj; omega
      have hd_Fa : ∀ j, Fa j → w.heap.size ≤ j ∧ j ≠ r2 ∧ j ≠ gx ∧ ¬ v.ownBlock = some j := fun j hj => ⟨(hda j hj).1, (hda j hj).2.1, by have := hlta j hj; omega, (hda j hj).2.2⟩
      have h371 : V370.heap[gx]? = some (.cells (#[.int .i64 hh, .int .u64 0]) 46 (0, 0)) := eV370 ▸ setRow_heap _ _ _ _ _ _ h362
      refine pzq (w' := V370) (by rw [← eV370]; exact exec_store_row 46 (.tmp 8) (.tmp 21) (by kernel_rfl) gx (#[.int .i64 hh, .int .u64 0]) (by kernel_rfl) (by kernel_rfl) 46 (#[.int .i64 0, .int .u64 0]) h362 (by kernel_rfl) rfl (by kernel_rfl)) ?_
      clear eV370
      have h372 := kV370.bO h365
      have h373 : Rd V370 Fa b l s1 := h366.keeps kV370 (fun j hj e => by have := hlta j hj; unfold Own.One at e; omega)
      have h374 : Row V370 46 2 v out.length (out.flatMap Nt.cl) := h367.keeps kV370 (fun j hj e => by have := hvla j hj; unfold Own.One at e; omega)
      have K375 := K368.nO kV370
      have z376 := kV370.size
      refine eq_ <| q_ <| sy_reg <| rg_still 8 12 (opsAt (qc76_0 125340)) [qo76_0 125340 0, qo76_0 125340 1, qo76_0 125340 2, qo76_0 125340 3, qo76_0 125340 4, qo76_0 125340 5, qo76_0 125340 6, qo76_0 125340 7, qo76_0 125340 8, qo76_0 125340 9, qo76_0 125340 10, qo76_0 125340 11] [qo76_0 125340 12] (by kernel_rfl) (by kernel_rfl) (by kernel_rfl) (by kernel_rfl) (by kernel_rfl) ?_
      obtain ⟨V378, eV378, kV378⟩ := drew_step V370
      rw [eV378]
      clear eV378
      have h379 := kV378.bk h372
      have h380 : Rd V378 Fa b l s1 := h373.keepsN kV378
      have h381 : Row V378 46 2 v out.length (out.flatMap Nt.cl) := h374.keeps kV378 (fun _ _ x => x)
      have h382 := kV378.bk h371
      have K383 := K375.nn kV378
      have z384 := kV378.size
      refine skq (iN i) <| spq (.bool true) (dct ((((i : Nat) : Int)) > ((0) : Int)) (by omega)) <| skq (.bool true) <| skq (pT gx 0) <| spq (.int .i64 hh) (ldk 3 gx 0 h382) <| skq (v) <| skq (iN i) <| spq (iN ((i - 1))) (exec_cast (congrArg (Value.int .i64) (wrapI (((i : Nat) : Int) - 1) ((i - 1 : Nat) : Int) (by omega) (by omega) (by omega))) (by kernel_rfl)) <| spq (.pointer (some ⟨b_, o_ + (i - 1) * 2, none⟩)) (exec_indexAt_slice 22 (.tmp 27) (.tmp 29) (by kernel_rfl) b_ o_ out.length c_ (Eq.trans (b := v) (by kernel_rfl) hv_) .i64 (i - 1) (by kernel_rfl) _ 2 Tryz.underlying22 (by kernel_rfl) (by omega)) <| skq (.pointer (some ⟨b_, o_ + (i - 1) * 2, none⟩)) <| spq (.int .i64 y.h) (exec_ld 3 (.tmp 31) b_ (o_ + (i - 1) * 2 + 0) Tryz.underlying3 (Sl.cell (row_nts h381) hy hv_ rfl)) <| spq (.bool true) (dct (((hh) : Int) < ((y.h) : Int)) (by omega)) <| st_end <| ls_run (qo76_0 125340 12) (.bool true) (w' := V378) (by kernel_rfl) (by kernel_rfl) ?_
      refine ls_end <| sy_a ⟨#[v0, ud, .slice none 0 0, pT r2 0, pT b 0, v, iN i, .int .i64 s.pos, pT gx 0, ud, v0, pT b 0, pT b 0, iN m, iN i, .bool true, iN i, pT b 0, .int .i64 s.pos, pT b 0, .int .i64 hh, .agg #[.int .i64 hh, .int .u64 0], iN i, .bool true, .bool true, pT gx 0, .int .i64 hh, v, iN i, iN ((i - 1)), .pointer (some ⟨b_, o_ + (i - 1) * 2, none⟩), .pointer (some ⟨b_, o_ + (i - 1) * 2, none⟩), .int .i64 y.h, .bool true, .bool true, u35, u36, u37, u38, u39, u40, u41, u42, u43, u44, u45, u46, u47, u48, u49, u50, u51, u52, u53, ud, ud, ud, ud, ud, ud, ud, ud], []⟩ <| then_n <| y_ <| r_ [0, 1, 2] <| pkq (pT b 0) <| pkq (.int .i64 s.pos) ?_
      have hKs9 := K383.size
      have hr2_9 := lt_of_block h379
      have hgx_9 := lt_of_block h382
      have hvl_9 : ∀ j, v.ownBlock = some j → j < V378.heap.size := fun j hj => h381.lt hj
      refine pcq 44 #[pT b 0, .int .i64 9, .int .i64 s.pos] Tryz.func44 ((Rd.fail h380 9 s.pos).mono ?_)
      rintro e V385 ⟨⟨rv9, rfl⟩, Fb, hRV385, hSV385⟩
      have hd_Fb : ∀ j, Fb j → w.heap.size ≤ j ∧ j ≠ r2 ∧ j ≠ gx ∧ ¬ v.ownBlock = some j := fun j h => (hSV385.2 j h).elim (hd_Fa j) (fun h => ⟨by omega, by omega, by omega, fun e => by have := hvl_9 j e; omega⟩)
      refine ⟨_, rfl, ?_⟩
      have h386 : V385.heap[r2]? = some (.cells (#[.int .i64 0, .int .i64 0]) 31 (0, 0)) := (hSV385.1.block r2 (lt_of_block h379) (fun e => by have := hd_Fa _ e; omega)).trans h379
      have h387 : Row V385 46 2 v out.length (out.flatMap Nt.cl) := h381.keeps hSV385.1 (fun j hj e => (hd_Fa j e).2.2.2 hj)
      have h388 : V385.heap[gx]? = some (.cells (#[.int .i64 hh, .int .u64 0]) 46 (0, 0)) := (hSV385.1.block gx (lt_of_block h382) (fun e => by have := hd_Fa _ e; omega)).trans h382
      have K389 : Keeps Nob w V385 := K383.then hSV385.1 (fun k hi hm => absurd hi (by have := (hd_Fa k hm).1; omega))
      have z390 := hSV385.1.size
      refine eqr_ [0, 1, 2] <| pkq (pT b 0) ?_
      refine pcq 43 #[pT b 0] Tryz.func43 ((Rd.at_ (qs2 ▸ hRV385)).mono ?_)
      rintro e w1 ⟨rfl, rfl⟩
      refine ⟨_, rfl, ?_⟩
      refine pkq (.int .i64 s2.pos) <| eqr_ [0, 1, 2, 3] <| pkq (pT b 0) ?_
      have hKs11 := K389.size
      have hr2_11 := lt_of_block h386
      have hgx_11 := lt_of_block h388
      have hvl_11 : ∀ j, v.ownBlock = some j → j < V385.heap.size := fun j hj => h387.lt hj
      refine pcq 45 #[pT b 0] Tryz.func45 ((rdu_is hke qs3 (Rd.u (qs2 ▸ hRV385))).mono ?_)
      rintro e V391 ⟨rfl, Fc, hRV391, hSV391⟩
      have hd_Fc : ∀ j, Fc j → w.heap.size ≤ j ∧ j ≠ r2 ∧ j ≠ gx ∧ ¬ v.ownBlock = some j := fun j h => (hSV391.2 j h).elim (hd_Fb j) (fun h => ⟨by omega, by omega, by omega, fun e => by have := hvl_11 j e; omega⟩)
      refine ⟨_, rfl, ?_⟩
      have h392 : V391.heap[r2]? = some (.cells (#[.int .i64 0, .int .i64 0]) 31 (0, 0)) := (hSV391.1.block r2 (lt_of_block h386) (fun e => by have := hd_Fb _ e; omega)).trans h386
      have h393 : Row V391 46 2 v out.length (out.flatMap Nt.cl) := h387.keeps hSV391.1 (fun j hj e => (hd_Fb j e).2.2.2 hj)
      have h394 : V391.heap[gx]? = some (.cells (#[.int .i64 hh, .int .u64 0]) 46 (0, 0)) := (hSV391.1.block gx (lt_of_block h388) (fun e => by have := hd_Fb _ e; omega)).trans h388
      have K395 : Keeps Nob w V391 := K389.then hSV391.1 (fun k hi hm => absurd hi (by have := (hd_Fb k hm).1; omega))
      have z396 := hSV391.1.size
      refine pkq (pT gx 1) <| pce 40 gx 1 (uN kk) (#[.int .i64 hh, .int .u64 ((kk : Nat) : Int)]) h394 (rc (h394) (by kernel_rfl)) (by kernel_rfl) (u := .int .u64 0) fun V397 h398 kV397 => ?_
      have h399 := kV397.bO h392
      have h400 : Row V397 46 2 v out.length (out.flatMap Nt.cl) := h393.keeps kV397 (fun j hj e => by have := hvx j hj; unfold Own.One at e; omega)
      have h401 : Rd V397 Fc b l s3 := hRV391.keeps kV397 (fun j hj e => by have := hd_Fc j hj; unfold Own.One at e; omega)
      have K402 := K395.nO kV397
      have z403 := kV397.size
      refine eq_ <| qr_ [0, 1, 2] <| pkq (pT gx 1) <| ppq (uN kk) (ldk 40 gx 1 h398) <| ppq (.bool true) (dct ((((kk : Nat) : Int)) > ((4611686018427387904) : Int)) (by omega)) <| ey_ <| r_ [0, 1, 2] <| pkq (pT b 0) <| pkq (.int .i64 s2.pos) ?_
      have hKs13 := K402.size
      have hr2_13 := lt_of_block h399
      have hgx_13 := lt_of_block h398
      have hvl_13 : ∀ j, v.ownBlock = some j → j < V397.heap.size := fun j hj => h400.lt hj
      refine pcq 44 #[pT b 0, .int .i64 3, .int .i64 s2.pos] Tryz.func44 ((Rd.fail h401 3 s2.pos).mono ?_)
      rintro e V404 ⟨⟨rv13, rfl⟩, Fd, hRV404, hSV404⟩
      have hd_Fd : ∀ j, Fd j → w.heap.size ≤ j ∧ j ≠ r2 ∧ j ≠ gx ∧ ¬ v.ownBlock = some j := fun j h => (hSV404.2 j h).elim (hd_Fc j) (fun h => ⟨by omega, by omega, by omega, fun e => by have := hvl_13 j e; omega⟩)
      refine ⟨_, rfl, ?_⟩
      have h405 : V404.heap[r2]? = some (.cells (#[.int .i64 0, .int .i64 0]) 31 (0, 0)) := (hSV404.1.block r2 (lt_of_block h399) (fun e => by have := hd_Fc _ e; omega)).trans h399
      have h406 : Row V404 46 2 v out.length (out.flatMap Nt.cl) := h400.keeps hSV404.1 (fun j hj e => (hd_Fc j e).2.2.2 hj)
      have h407 : V404.heap[gx]? = some (.cells (#[.int .i64 hh, .int .u64 ((kk : Nat) : Int)]) 46 (0, 0)) := (hSV404.1.block gx (lt_of_block h398) (fun e => by have := hd_Fc _ e; omega)).trans h398
      have K408 : Keeps Nob w V404 := K402.then hSV404.1 (fun k hi hm => absurd hi (by have := (hd_Fc k hm).1; omega))
      have z409 := hSV404.1.size
      refine er_ [0, 1, 2, 3, 4] <| pkq (v) <| ppq (.agg #[.int .i64 hh, uN kk]) (ldr 46 gx (h407) (by kernel_rfl)) ?_
      obtain ⟨V410, eV410, lit, elit, h411, kV410⟩ := alloc_step V404 (#[.int .i64 hh, .int .u64 ((kk : Nat) : Int)]) 46
      have n412 : r2 < lit := elit ▸ lt_of_block h405
      have n413 : gx < lit := elit ▸ lt_of_block h407
      have n414 : w.heap.size ≤ lit := elit ▸ K408.size
      refine prq (.slice (some ⟨lit, 0, none⟩) 1 1) (w' := V410) (by rw [← eV410, ← elit]; kernel_rfl) ?_
      have h415 := kV410.bk h405
      have h416 : Row V410 46 2 v out.length (out.flatMap Nt.cl) := h406.keeps kV410 (fun _ _ x => x)
      have h418 : Rd V410 Fd b l s4 := (qs4 ▸ hRV404).keepsN kV410
      have K419 := K408.nn kV410
      have z420 := kV410.size
      obtain ⟨vn, V421, hr422, h423, hg424, hn425, ha426⟩ := run_append_any (P := Tryz.prog) (w := V410) 22 (Oper.type (qo76_0 501375 3)) 46 i2 (.agg #[.int .i64 0, .int .u64 0]) 2 16 Tryz.underlying22 hi2 hs0 hs1 hs2 rfl (by decide) v out.length (out.flatMap Nt.cl) h416 (.slice (some ⟨lit, 0, none⟩) 1 1) 1 (Nt.cl (⟨hh, kk⟩ : Nt)) (src_nt (x := ⟨hh, kk⟩) h411) (by unfold maxLen; omega) (by omega)
      have kV421 : Keeps (fun j => v.ownBlock = some j) V410 V421 := Keeps.rowAdd hg424
      have hw427 : NewFrom w.heap.size vn := hnw.next K419.size ha426
      refine prq vn (w' := V421) (exec_append (.tmp 49) (.tmp 51) 22 (by kernel_rfl) v (.slice (some ⟨lit, 0, none⟩) 1 1) (by kernel_rfl) (by kernel_rfl) hr422) ?_
      have h428 : Row V421 46 2 vn ((out ++ [(⟨hh, kk⟩ : Nt)]).length) ((out ++ [(⟨hh, kk⟩ : Nt)]).flatMap Nt.cl) := (row_nt rfl h423)
      have hnwn := hw427
      have hdn : ∀ j, Fd j → w.heap.size ≤ j ∧ j ≠ r2 ∧ ¬ vn.ownBlock = some j := fun j h => ⟨(hd_Fd j h).1, (hd_Fd j h).2.1, fun e => (ha426 j e).elim (fun q => (hd_Fd j h).2.2.2 q) (fun q => by have := Rd.lt h418 j h; omega)⟩
      have h429 : V421.heap[r2]? = some (.cells (#[.int .i64 0, .int .i64 0]) 31 (0, 0)) := (kV421.block r2 (lt_of_block h415) (fun e => Row.ne h416 h415 (by decide) e)).trans h415
      have h430 : Rd V421 Fd b l s4 := h418.keeps kV421 (fun j hj e => (hd_Fd j hj).2.2.2 e)
      have K431 : Keeps Nob w V421 := K419.then kV421 (fun i hi hm => absurd hi (by have := hnw i hm; omega))
      have z432 := kV421.size
      refine pkq (vn) <| ps_end <| blk_n <| tr_ [0, 1] <| ppq (iN (i + 1)) (exec_cast (congrArg (Value.int .i64) (wrapN (i + 1) (by omega))) (by kernel_rfl)) <| pkq (iN (i + 1)) <| et_ ?_
      refine ⟨⟨(i + 1), (out ++ [(⟨hh, kk⟩ : Nt)]), s4, vn, Fd, (iN i), (.int .i64 s2.pos), (pT gx 0), (.bool true), (iN i), (pT b 0), (.int .i64 s.pos), (pT b 0), (.int .i64 hh), (.agg #[.int .i64 hh, .int .u64 0]), (iN i), (.bool true), (.bool true), (pT gx 0), (.int .i64 hh), v, (iN i), (iN ((i - 1))), (.pointer (some ⟨b_, o_ + (i - 1) * 2, none⟩)), (.pointer (some ⟨b_, o_ + (i - 1) * 2, none⟩)), (.int .i64 y.h), (.bool true), (.bool true), (pT b 0), (.int .i64 s.pos), rv9, (pT b 0), (.int .i64 s2.pos), (pT b 0), (uN kk), (pT gx 1), (pT gx 1), (uN kk), (.bool true), (pT b 0), (.int .i64 s2.pos), rv13, v, (.agg #[.int .i64 hh, uN kk]), (.slice (some ⟨lit, 0, none⟩) 1 1), vn, (iN (i + 1)), by kernel_rfl, by omega, by simp [hout], hpn, hdn, hnwn, h429, h430, h428, K431⟩, ?_⟩
      exact lt_meas (x := m - (i + 1)) (y := m - i) (by kernel_rfl) (by kernel_rfl) (by omega)
    · skip
      have hres := nread_ok eq_i hp hfin
      obtain ⟨fe, hfe⟩ : ∃ x, (s.fin l).1 = x := ⟨_, rfl⟩
      obtain ⟨fp, hfp⟩ : ∃ x, (s.fin l).2 = x := ⟨_, rfl⟩
      rw [hfe] at hfin
      refine qr_ [0] <| ppq (.bool false) (dcf ((((i : Nat) : Int)) < (((m : Nat) : Int))) (by omega)) <| eq_ <| n_ <| sy_exit 0 (by kernel_rfl) <| then_e <| then_e <| blk_e <| tq_ <| qr_ [0, 1, 2, 3] <| pkq (pT b 0) ?_
      refine pcq 46 #[pT b 0] Tryz.func46 ((rd_fin h16 hfe hfp).mono ?_)
      rintro e V433 ⟨rfl, kV433⟩
      refine ⟨_, rfl, ?_⟩
      have h434 := kV433.bk h15
      have h435 : Row V433 46 2 v out.length (out.flatMap Nt.cl) := h17.keeps kV433 (fun _ _ x => x)
      have K436 := K18.nn kV433
      have z437 := kV433.size
      refine pal 31 (#[.int .i64 0, .int .i64 0]) (.agg (#[.int .i64 0, .int .i64 0])) fun V438 gE egE h439 kV438 => ?_
      have n440 : r2 < gE := egE ▸ lt_of_block h434
      have n441 : w.heap.size ≤ gE := egE ▸ K436.size
      have h442 := kV438.bk h434
      have h443 : Row V438 46 2 v out.length (out.flatMap Nt.cl) := h435.keeps kV438 (fun _ _ x => x)
      have K444 := K436.nn kV438
      have z445 := kV438.size
      refine pst 31 gE (#[.int .i64 fe, .int .i64 fp]) h439 (by kernel_rfl) rfl (by kernel_rfl) fun V446 h447 kV446 => ?_
      have h448 := kV446.bO h442
      have h449 : Row V446 46 2 v out.length (out.flatMap Nt.cl) := h443.keeps kV446 (fun j hj e => Row.ne h443 h439 (by decide) ((show j = gE from e) ▸ hj))
      have K450 := K444.nO kV446
      have z451 := kV446.size
      refine eqr_ [0, 1, 2] <| pkq (pT gE 0) <| ppq (.int .i64 fe) (ldk 27 gE 0 h447) <| ppq (.bool false) (nqf ((fe) : Int) ((0) : Int) (by omega)) <| en_ <| s_ <| tqr_ [0, 1, 2, 3] <| pkq (v) <| pkq (.agg #[.int .i64 0, .int .i64 0]) <| pkq (v) <| pst 31 r2 (#[.int .i64 0, .int .i64 0]) h448 (by kernel_rfl) rfl (by kernel_rfl) fun V452 h453 kV452 => ?_
      have h454 : Row V452 46 2 v out.length (out.flatMap Nt.cl) := h449.keeps kV452 (fun j hj e => Row.ne h449 h448 (by decide) ((show j = r2 from e) ▸ hj))
      have K456 := K450.nO kV452
      have z457 := kV452.size
      refine eu_ <| sy_out (.tuple #[v, .agg #[.int .i64 0, .int .i64 0]]) rfl (results_tmp_row (p := 2) (q := 3) (ty := 31) (by kernel_rfl) _ _ r2 31 (#[.int .i64 0, .int .i64 0]) (0, 0) _ (v) (by kernel_rfl) h453 Tryz.underlying31 rfl (by kernel_rfl) (by kernel_rfl)) ?_
      exact ⟨v, by rw [hres], by rw [hres]; exact h454, hnw, K456⟩
    · skip
      have hres := nread_no eq_i hp hfin
      obtain ⟨fe, hfe⟩ : ∃ x, (s.fin l).1 = x := ⟨_, rfl⟩
      obtain ⟨fp, hfp⟩ : ∃ x, (s.fin l).2 = x := ⟨_, rfl⟩
      rw [hfe, hfp] at hres
      rw [hfe] at hfin
      refine qr_ [0] <| ppq (.bool false) (dcf ((((i : Nat) : Int)) < (((m : Nat) : Int))) (by omega)) <| eq_ <| n_ <| sy_exit 0 (by kernel_rfl) <| then_e <| then_e <| blk_e <| tq_ <| qr_ [0, 1, 2, 3] <| pkq (pT b 0) ?_
      refine pcq 46 #[pT b 0] Tryz.func46 ((rd_fin h16 hfe hfp).mono ?_)
      rintro e V458 ⟨rfl, kV458⟩
      refine ⟨_, rfl, ?_⟩
      have h459 := kV458.bk h15
      have K461 := K18.nn kV458
      have z462 := kV458.size
      refine pal 31 (#[.int .i64 0, .int .i64 0]) (.agg (#[.int .i64 0, .int .i64 0])) fun V463 gE egE h464 kV463 => ?_
      have n465 : r2 < gE := egE ▸ lt_of_block h459
      have n466 : w.heap.size ≤ gE := egE ▸ K461.size
      have h467 := kV463.bk h459
      have K469 := K461.nn kV463
      have z470 := kV463.size
      refine pst 31 gE (#[.int .i64 fe, .int .i64 fp]) h464 (by kernel_rfl) rfl (by kernel_rfl) fun V471 h472 kV471 => ?_
      have h473 := kV471.bO h467
      have K475 := K469.nO kV471
      have z476 := kV471.size
      refine eqr_ [0, 1, 2] <| pkq (pT gE 0) <| ppq (.int .i64 fe) (ldk 27 gE 0 h472) <| ppq (.bool true) (nqt ((fe) : Int) ((0) : Int) (by omega)) <| ey_ <| q_ <| sy_np <| sy_reg <| an_begin 18 3 (opsAt (qc76_0 1004)) (fun W => (W.heap[gE]? = some (.cells (#[.int .i64 fe, .int .i64 fp]) 31 (0, 0)))) #[false, false, false] (by kernel_rfl) (by kernel_rfl) (by kernel_rfl) (by kernel_rfl) ?_
      obtain ⟨V477, eV477, kV477⟩ := drew_step V471
      rw [eV477]
      clear eV477
      have h478 := kV477.bk h473
      have h480 := kV477.bk h472
      have K481 := K475.nn kV477
      have z482 := kV477.size
      refine avq 0 (.agg #[.int .i64 fe, .int .i64 fp]) (fun W hS => ldr 31 gE (hS) (by kernel_rfl)) h480 <| an_o 1 <| nrq (.slice none 0 0) (w' := V477) (by kernel_rfl) ?_
      refine ⟨h480, ?_⟩
      refine an_o 2 <| nst 31 r2 (#[.int .i64 fe, .int .i64 fp]) h478 (by kernel_rfl) rfl (by kernel_rfl) fun V483 h484 kV483 => ?_
      have h486 := kV483.bO h480
      have K487 := K481.nO kV483
      have z488 := kV483.size
      refine ⟨h486, ?_⟩
      refine an_end (by kernel_rfl) <| then_n <| u_ <| then_r <| sy_out (.tuple #[.slice none 0 0, .agg #[.int .i64 fe, .int .i64 fp]]) rfl (results_tmp_row (p := 2) (q := 3) (ty := 31) (by kernel_rfl) _ _ r2 31 (#[.int .i64 fe, .int .i64 fp]) (0, 0) _ (.slice none 0 0) (by kernel_rfl) h484 Tryz.underlying31 rfl (by kernel_rfl) (by kernel_rfl)) ?_
      exact ⟨_, by rw [hres], by rw [hres]; exact World.ownsRow_nil _ _ _ _, NewFrom.nil _, K487⟩
end Go.Proofs.YtghohakbepeffaaGreatDoor
namespace Go.Proofs.YtghohakbepeffaaGreatDoor
set_option maxRecDepth 100000
set_option maxHeartbeats 4000000
open Go Go.RowKit Go.Own
end Go.Proofs.YtghohakbepeffaaGreatDoor
namespace Go.Proofs.YtghohakbepeffaaGreatDoor
set_option maxRecDepth 100000
set_option maxHeartbeats 4000000
open Go Go.RowKit Go.Own Go.Shelf
theorem nfault_guard : Tryz.prog.eqGuardType Tryz.prog.depth 31 = false := by kernel_rfl
theorem nfault_equal (x y a b : Int) (w : World) : (Op.equalIn 10000 31 (.agg #[.int .i64 x, .int .i64 y]) (.agg #[.int .i64 a, .int .i64 b])).run Tryz.prog w = .ok (decide (x = a ∧ y = b)) w := by
  rw [run_equalIn_struct w 9999 31 _ _ (by kernel_rfl) (by kernel_rfl)]
  simp only [Program.fieldsOf, Tryz.underlying31]
  rw [nq_int (d := 9998) (k := .i64) (a := x) (b := a) w (by decide) Tryz.underlying27 (by kernel_rfl) rfl rfl, nq_int (d := 9998) (k := .i64) (a := y) (b := b) w (by decide) Tryz.underlying3 (by kernel_rfl) rfl rfl]
  simp only [Op.eqFields, Sem.run_pure]
  by_cases h0 : x = a
  · by_cases h1 : y = b <;> simp [h0, h1]
  · simp [h0]
theorem nfault_eq (x y a b : Int) (w : World) : (binOp .eql 31 (.agg #[.int .i64 x, .int .i64 y]) (.agg #[.int .i64 a, .int .i64 b])).run Tryz.prog w = .ok (.bool (decide (x = a ∧ y = b))) w := by rw [run_eql_struct, nfault_equal]; rfl
theorem bytes_lit {w : World} {g n cap : Nat} {cs : Array Value} {T : TypeId} (l : List UInt8) (h : w.heap[g]? = some (.cells cs T (0, 0))) (hc : cs = (B l).toArray) (hn : n = l.length) (hcap : cap = l.length) (hm : l.length ≤ maxLen) : BytesAt w (.slice (some ⟨g, 0, none⟩) n cap) l := by
  subst hn; subst hcap
  exact ⟨⟨_, _, rfl, Nat.le_refl _, hm, fun h => by cases h⟩, fun k x hx => ⟨g, 0, _, rfl, lt_of_block h, by rw [Nat.zero_add]; exact rc h (by rw [hc, List.getElem?_toArray]; simp only [B, List.getElem?_map, hx, Option.map_some])⟩⟩
theorem nsame_bytes {w : World} {a b : Value} {l m : List UInt8} (r : Bool) (ha : BytesAt w a l) (hb : BytesAt w b m) (he : (l == m) = r) : Calls Tryz.prog 15 #[a, b] w fun e w' => e = .returned (.bool r) ∧ w = w' := he ▸ sameBytes_ok a b l m w ha hb
theorem nadd_is {l : List Nt} {x : Nt} {er : Int} {args : Array Value} {w : World} (h1 : (nadd l x).2 = er) (h : Calls Tryz.prog 56 args w (fun e w' => ∃ X, e = .returned (.tuple #[X, .int .i64 (nadd l x).2]) ∧ Row w' 46 2 X ((nadd l x).1).length (((nadd l x).1).flatMap Nt.cl) ∧ NewFrom w.heap.size X ∧ Keeps Nob w w')) : Calls Tryz.prog 56 args w (fun e w' => ∃ X, e = .returned (.tuple #[X, .int .i64 er]) ∧ Row w' 46 2 X ((nadd l x).1).length (((nadd l x).1).flatMap Nt.cl) ∧ NewFrom w.heap.size X ∧ Keeps Nob w w') := h1 ▸ h
noncomputable def qc78_2 (n : Nat) : Code := partOf Tryz.f23 n
theorem lnadds_ok (h : Int) (s : Nat) (er : Int) (her : (nadd ntwo ⟨h, s⟩).2 = er) (w : World) (het : ErrTab w) :
    Calls Tryz.prog 23 #[.int .i64 h, .int .u64 ((s : Nat) : Int)] w (fun e w' => e = .returned (.int .i64 er) ∧ Keeps Nob w w') := by
  have K0 : Keeps Nob w w := Keeps.refl _ _
  refine sy_enter (qc78_2 1) ⟨#[.int .i64 h, uN s, ud, ud, ud, ud, ud, ud, ud, ud, ud, ud, ud, ud, ud, ud], []⟩ Tryz.func23 (by kernel_rfl) (by kernel_rfl) <| qr_ [0] <| pkq (.int .i64 0) <| eqr_ [0, 1, 2, 3, 4, 5, 6, 7, 8, 9] ?_
  refine pcq 21 #[] Tryz.func21 ((lntwo_ok _).mono ?_)
  rintro e V1 ⟨ga, rfl, h2, nga, kV1⟩
  refine ⟨_, rfl, ?_⟩
  have K3 := K0.nn kV1
  have z4 := kV1.size
  refine pkq (.int .i64 h) <| pkq (uN s) <| pkq (.agg #[.int .i64 h, uN s]) ?_
  refine pcq 56 #[.slice (some ⟨ga, 0, none⟩) 2 2, .agg #[.int .i64 h, uN s]] Tryz.func56 ((nadd_is her (nAdd_all ntwo ⟨h, s⟩ _ _ (two_all h2) (ErrTab.keeps het K3))).mono ?_)
  rintro e V5 ⟨X, rfl, hX, hXn, kV5⟩
  refine ⟨_, rfl, ?_⟩
  have K7 := K3.nn kV5
  have z8 := kV5.size
  refine pkq (.tuple #[X, .int .i64 er]) <| pkq (X) <| pkq (.int .i64 er) <| pkq (X) <| pkq (.int .i64 er) <| eqr_ [0, 1] <| pkq (.int .i64 er) <| pkq (.int .i64 er) <| eu_ <| so_ (.int .i64 er) ?_
  exact ⟨rfl, K7⟩
theorem nread_is {l : List UInt8} {fe fp : Int} {args : Array Value} {w : World} (h1 : (nread l).2.1 = fe) (h2 : (nread l).2.2 = fp) (h : Calls Tryz.prog 13 args w (fun e w' => ∃ X, e = .returned (.tuple #[X, .agg #[.int .i64 (nread l).2.1, .int .i64 (nread l).2.2]]) ∧ Row w' 46 2 X (nread l).1.length ((nread l).1.flatMap Nt.cl) ∧ NewFrom w.heap.size X ∧ Keeps Nob w w')) : Calls Tryz.prog 13 args w (fun e w' => ∃ X, e = .returned (.tuple #[X, .agg #[.int .i64 fe, .int .i64 fp]]) ∧ Row w' 46 2 X (nread l).1.length ((nread l).1.flatMap Nt.cl) ∧ NewFrom w.heap.size X ∧ Keeps Nob w w') := h1 ▸ h2 ▸ h
theorem ncheck_is2 (l : List Nt) (v : Value) (x y : Int) (w : World) (hl : Sl w 2 Nt.cl v l) (het : ErrTab w) (hx : ncheck l = (x, y)) : Calls Tryz.prog 22 #[v] w (fun e w' => e = .returned (.tuple #[.int .i64 x, .int .i64 y]) ∧ Keeps Nob w w') := by have h := nCheck_ok l v w hl het; rw [hx] at h; exact h
noncomputable def qc78_1 (n : Nat) : Code := partOf Tryz.f24 n
theorem lnreads_ok (v0 : Value) (l : List UInt8) (fe fp : Int) (hr1 : (nread l).2.1 = fe) (hr2 : (nread l).2.2 = fp) (w : World) (hx : BytesAt w v0 l) (hl : l.length ≤ 100000000) :
    Calls Tryz.prog 24 #[v0] w (fun e w' => e = .returned (.agg #[.int .i64 fe, .int .i64 fp]) ∧ Keeps Nob w w') := by
  have K0 : Keeps Nob w w := Keeps.refl _ _
  refine sy_enter (qc78_1 1) ⟨#[v0, ud, ud, ud, ud, ud, ud, ud, ud, ud, ud], []⟩ Tryz.func24 (by kernel_rfl) (by kernel_rfl) <| qr_ [0] <| pal 31 (#[.int .i64 0, .int .i64 0]) (.agg (#[.int .i64 0, .int .i64 0])) fun V1 r2 er2 h2 kV1 => ?_
  have n3 : w.heap.size ≤ r2 := er2 ▸ K0.size
  have K4 := K0.nn kV1
  have z5 := kV1.size
  refine eqr_ [0, 1, 2, 3, 4, 5, 6, 7] <| pkq (v0) ?_
  refine pcq 13 #[v0] Tryz.func13 ((nread_is hr1 hr2 (nRead_ok v0 l _ (hx.keepsN K4) hl)).mono ?_)
  rintro e V6 ⟨X, rfl, hX, hXn, kV6⟩
  refine ⟨_, rfl, ?_⟩
  have h7 := kV6.bk h2
  have K8 := K4.nn kV6
  have z9 := kV6.size
  refine pkq (.tuple #[X, .agg #[.int .i64 fe, .int .i64 fp]]) <| pkq (X) <| pkq (.agg #[.int .i64 fe, .int .i64 fp]) <| pal 31 (#[.int .i64 0, .int .i64 0]) (.agg (#[.int .i64 0, .int .i64 0])) fun V10 gf egf h11 kV10 => ?_
  have n12 : r2 < gf := egf ▸ lt_of_block h7
  have n13 : w.heap.size ≤ gf := egf ▸ K8.size
  have h14 := kV10.bk h7
  have K15 := K8.nn kV10
  have z16 := kV10.size
  refine pkq (X) <| pst 31 gf (#[.int .i64 fe, .int .i64 fp]) h11 (by kernel_rfl) rfl (by kernel_rfl) fun V17 h18 kV17 => ?_
  have h19 := kV17.bO h14
  have K20 := K15.nO kV17
  have z21 := kV17.size
  refine eqr_ [0, 1] <| ppq (.agg #[.int .i64 fe, .int .i64 fp]) (ldr 31 gf (h18) (by kernel_rfl)) <| pst 31 r2 (#[.int .i64 fe, .int .i64 fp]) h19 (by kernel_rfl) rfl (by kernel_rfl) fun V22 h23 kV22 => ?_
  have K25 := K20.nO kV22
  have z26 := kV22.size
  refine eu_ <| sy_out (.agg (#[.int .i64 fe, .int .i64 fp])) rfl (results_cell_row (p := 2) (ty := 31) (by kernel_rfl) _ _ r2 31 (#[.int .i64 fe, .int .i64 fp]) (0, 0) _ (by kernel_rfl) h23 Tryz.underlying31 rfl (by kernel_rfl)) ?_
  exact ⟨rfl, K25⟩
theorem nbytes_is2 {l : List Nt} {bs : List UInt8} {er : Int} {args : Array Value} {w : World} (h1 : nbytes l = (bs, er)) (h : Calls Tryz.prog 11 args w (fun e w' => ∃ X, e = .returned (.tuple #[X, .int .i64 (nbytes l).2]) ∧ Row w' 5 1 X (nbytes l).1.length (B (nbytes l).1) ∧ NewFrom w.heap.size X ∧ Keeps Nob w w')) : Calls Tryz.prog 11 args w (fun e w' => ∃ X, e = .returned (.tuple #[X, .int .i64 er]) ∧ Row w' 5 1 X bs.length (B bs) ∧ NewFrom w.heap.size X ∧ Keeps Nob w w') := by rw [h1] at h; exact h
noncomputable def qc78_0 (n : Nat) : Code := partOf Tryz.f4 n
theorem known_ok (w : World) (het : ErrTab w) :
    Calls Tryz.prog 4 #[] w (fun e w' => e = .returned (.bool true) ∧ Keeps Nob w w') := by
  have K0 : Keeps Nob w w := Keeps.refl _ _
  refine sy_enter (qc78_0 1) ⟨#[ud, ud, ud, ud, ud, ud, ud, ud, ud, ud, ud, ud, ud, ud, ud, ud, ud, ud, ud, ud, ud, ud, ud, ud, ud, ud, ud, ud, ud, ud, ud, ud, ud, ud, ud, ud, ud, ud, ud, ud, ud, ud, ud, ud, ud, ud, ud, ud, ud, ud, ud, ud, ud, ud, ud, ud, ud, ud, ud, ud, ud, ud, ud, ud, ud, ud, ud, ud, ud, ud, ud, ud, ud, ud, ud, ud, ud, ud, ud, ud, ud, ud, ud, ud, ud, ud, ud, ud, ud, ud, ud, ud, ud, ud, ud, ud, ud, ud, ud, ud, ud, ud, ud, ud, ud, ud, ud, ud], []⟩ Tryz.func4 (by kernel_rfl) (by kernel_rfl) <| qr_ [0] <| pkq (.bool false) <| eqr_ [0, 1, 2, 3, 4, 5, 6, 7, 8, 9, 10, 11, 12, 13, 14, 15, 16, 17, 18] ?_
  refine pcq 18 #[.int .i64 9, .int .i64 0, .int .i64 0] Tryz.func18 ((lnlive_c _ (ErrTab.keeps het K0)).mono ?_)
  rintro e V1 ⟨rfl, kV1⟩
  refine ⟨_, rfl, ?_⟩
  have K2 := K0.nn kV1
  have z3 := kV1.size
  refine pkq (.bool true) ?_
  refine pcq 19 #[.int .i64 90, .int .u64 0] Tryz.func19 ((lnnoted_ok 90 0 (by unfold i64ok; omega) (by decide) (by decide) _ (ErrTab.keeps het K2)).mono ?_)
  rintro e V4 ⟨rfl, kV4⟩
  refine ⟨_, rfl, ?_⟩
  have K5 := K2.nn kV4
  have z6 := kV4.size
  refine pkq (.bool true) <| pkq (.bool true) ?_
  refine pcq 21 #[] Tryz.func21 ((lntwo_ok _).mono ?_)
  rintro e V7 ⟨ga, rfl, h8, nga, kV7⟩
  refine ⟨_, rfl, ?_⟩
  have K9 := K5.nn kV7
  have z10 := kV7.size
  refine pcq 20 #[.slice (some ⟨ga, 0, none⟩) 2 2, .int .i64 59, .int .u64 0, .int .u64 0, .int .u64 50000000, .int .i64 0] Tryz.func20 ((lncut_ok ntwo _ 59 0 0 50000000 0 (by unfold i64ok; omega) (by decide) (by decide) (by decide) _ (two_all h8) (ErrTab.keeps het K9)).mono ?_)
  rintro e V11 ⟨rfl, kV11⟩
  refine ⟨_, rfl, ?_⟩
  have h12 := kV11.bk h8
  have K13 := K9.nn kV11
  have z14 := kV11.size
  refine pkq (.bool true) <| pkq (.bool true) ?_
  refine pcq 20 #[.slice none 0 0, .int .i64 1, .int .u64 1, .int .u64 7, .int .u64 478571428, .int .i64 0] Tryz.func20 ((lncut_ok [] _ 1 1 7 478571428 0 (by unfold i64ok; omega) (by decide) (by decide) (by decide) _ (Sl.nil _ _ _) (ErrTab.keeps het K13)).mono ?_)
  rintro e V15 ⟨rfl, kV15⟩
  refine ⟨_, rfl, ?_⟩
  have h16 := kV15.bk h12
  have K17 := K13.nn kV15
  have z18 := kV15.size
  refine pkq (.bool true) <| pkq (.bool true) ?_
  refine pcq 20 #[.slice none 0 0, .int .i64 1, .int .u64 4611686018427387905, .int .u64 1, .int .u64 0, .int .i64 12] Tryz.func20 ((lncut_ok [] _ 1 4611686018427387905 1 0 12 (by unfold i64ok; omega) (by decide) (by decide) (by decide) _ (Sl.nil _ _ _) (ErrTab.keeps het K17)).mono ?_)
  rintro e V19 ⟨rfl, kV19⟩
  refine ⟨_, rfl, ?_⟩
  have h20 := kV19.bk h16
  have K21 := K17.nn kV19
  have z22 := kV19.size
  refine pkq (.bool true) <| pkq (.bool true) ?_
  refine pcq 21 #[] Tryz.func21 ((lntwo_ok _).mono ?_)
  rintro e V23 ⟨gb, rfl, h24, ngb, kV23⟩
  refine ⟨_, rfl, ?_⟩
  have h25 := kV23.bk h20
  have K26 := K21.nn kV23
  have z27 := kV23.size
  refine pcq 20 #[.slice (some ⟨gb, 0, none⟩) 2 2, .int .i64 0, .int .u64 1, .int .u64 1, .int .u64 0, .int .i64 3] Tryz.func20 ((lncut_ok ntwo _ 0 1 1 0 3 (by unfold i64ok; omega) (by decide) (by decide) (by decide) _ (two_all h24) (ErrTab.keeps het K26)).mono ?_)
  rintro e V28 ⟨rfl, kV28⟩
  refine ⟨_, rfl, ?_⟩
  have h29 := kV28.bk h25
  have h30 := kV28.bk h24
  have K31 := K26.nn kV28
  have z32 := kV28.size
  refine pkq (.bool true) <| pkq (.bool true) <| eqr_ [0, 1, 2, 3, 4, 5, 6, 7, 8] <| pkq (.agg #[.int .i64 10, .int .u64 1]) <| pkq (.agg #[.int .i64 9, .int .u64 1]) ?_
  obtain ⟨V33, eV33, qa, eqa, h34, kV33⟩ := alloc_step V28 #[.int .i64 10, .int .u64 1, .int .i64 9, .int .u64 1] 46
  have n35 : ga < qa := eqa ▸ lt_of_block h29
  have n36 : gb < qa := eqa ▸ lt_of_block h30
  have n37 : w.heap.size ≤ qa := eqa ▸ K31.size
  refine prq (.slice (some ⟨qa, 0, none⟩) 2 2) (w' := V33) (by rw [← eV33, ← eqa]; kernel_rfl) ?_
  clear eV33
  have h38 : V33.heap[qa]? = some (.cells ((([⟨10, 1⟩, ⟨9, 1⟩] : List Nt).flatMap Nt.cl).toArray) 46 (0, 0)) := h34
  have h39 := kV33.bk h29
  have h40 := kV33.bk h30
  have K41 := K31.nn kV33
  have z42 := kV33.size
  refine pcq 22 #[.slice (some ⟨qa, 0, none⟩) 2 2] Tryz.func22 ((ncheck_is2 [⟨10, 1⟩, ⟨9, 1⟩] _ 9 1 _ (notes_block (xs := [⟨10, 1⟩, ⟨9, 1⟩]) h38 rfl (by decide) (by decide)) (ErrTab.keeps het K41) (by decide)).mono ?_)
  rintro e V43 ⟨rfl, kV43⟩
  refine ⟨_, rfl, ?_⟩
  have h44 := kV43.bk h39
  have h45 := kV43.bk h40
  have h46 := kV43.bk h38
  have K47 := K41.nn kV43
  have z48 := kV43.size
  refine pkq (.tuple #[.int .i64 9, .int .i64 1]) <| pkq (.int .i64 9) <| pkq (.int .i64 1) <| pkq (.int .i64 9) <| pkq (.int .i64 1) <| ps_end <| sy_a ⟨#[.bool false, .bool true, .int .i64 9, .int .i64 1, ud, ud, ud, ud, ud, ud, .bool true, .bool true, .bool true, .bool true, .bool true, .slice (some ⟨ga, 0, none⟩) 2 2, .bool true, .bool true, .bool true, .bool true, .bool true, .bool true, .bool true, .bool true, .bool true, .slice (some ⟨gb, 0, none⟩) 2 2, .bool true, .bool true, .tuple #[.int .i64 9, .int .i64 1], .agg #[.int .i64 10, .int .u64 1], .agg #[.int .i64 9, .int .u64 1], .slice (some ⟨qa, 0, none⟩) 2 2, .tuple #[.int .i64 9, .int .i64 1], .int .i64 9, .int .i64 1, ud, ud, ud, ud, ud, ud, ud, ud, ud, ud, ud, ud, ud, ud, ud, ud, ud, ud, ud, ud, ud, ud, ud, ud, ud, ud, ud, ud, ud, ud, ud, ud, ud, ud, ud, ud, ud, ud, ud, ud, ud, ud, ud, ud, ud, ud, ud, ud, ud, ud, ud, ud, ud, ud, ud, ud, ud, ud, ud, ud, ud, ud, ud, ud, ud, ud, ud, ud, ud, ud, ud, ud, ud], []⟩ <| tqr_ [0, 1, 2, 3, 4, 5, 6, 7, 8] <| pkq (.agg #[.int .i64 0, .int .u64 1]) <| pkq (.agg #[.int .i64 0, .int .u64 1]) ?_
  obtain ⟨V49, eV49, qb, eqb, h50, kV49⟩ := alloc_step V43 #[.int .i64 0, .int .u64 1, .int .i64 0, .int .u64 1] 46
  have n51 : ga < qb := eqb ▸ lt_of_block h44
  have n52 : gb < qb := eqb ▸ lt_of_block h45
  have n53 : qa < qb := eqb ▸ lt_of_block h46
  have n54 : w.heap.size ≤ qb := eqb ▸ K47.size
  refine prq (.slice (some ⟨qb, 0, none⟩) 2 2) (w' := V49) (by rw [← eV49, ← eqb]; kernel_rfl) ?_
  clear eV49
  have h55 : V49.heap[qb]? = some (.cells ((([⟨0, 1⟩, ⟨0, 1⟩] : List Nt).flatMap Nt.cl).toArray) 46 (0, 0)) := h50
  have h56 := kV49.bk h44
  have h57 := kV49.bk h45
  have h58 := kV49.bk h46
  have K59 := K47.nn kV49
  have z60 := kV49.size
  refine pcq 22 #[.slice (some ⟨qb, 0, none⟩) 2 2] Tryz.func22 ((ncheck_is2 [⟨0, 1⟩, ⟨0, 1⟩] _ 3 0 _ (notes_block (xs := [⟨0, 1⟩, ⟨0, 1⟩]) h55 rfl (by decide) (by decide)) (ErrTab.keeps het K59) (by decide)).mono ?_)
  rintro e V61 ⟨rfl, kV61⟩
  refine ⟨_, rfl, ?_⟩
  have h62 := kV61.bk h56
  have h63 := kV61.bk h57
  have h64 := kV61.bk h58
  have h65 := kV61.bk h55
  have K66 := K59.nn kV61
  have z67 := kV61.size
  refine pkq (.tuple #[.int .i64 3, .int .i64 0]) <| pkq (.int .i64 3) <| pkq (.int .i64 0) <| pkq (.int .i64 3) <| pkq (.int .i64 0) <| eqr_ [0, 1, 2, 3, 4, 5, 6, 7, 8, 9, 10, 11, 12, 13, 14, 15, 16, 17, 18, 19, 20, 21, 22, 23, 24, 25, 26] <| pkq (.int .i64 9) <| pkq (.bool true) <| pkq (.bool true) <| pkq (.int .i64 1) <| pkq (.bool true) <| pkq (.bool true) <| pkq (.bool true) <| pkq (.int .i64 3) ?_
  refine pkq (.bool true) <| pkq (.bool true) <| pkq (.bool true) <| pkq (.int .i64 0) <| pkq (.bool true) <| pkq (.bool true) <| pkq (.bool true) ?_
  refine pcq 23 #[.int .i64 40, .int .u64 4611686018427387904] Tryz.func23 ((lnadds_ok 40 4611686018427387904 0 (by decide) _ (ErrTab.keeps het K66)).mono ?_)
  rintro e V68 ⟨rfl, kV68⟩
  refine ⟨_, rfl, ?_⟩
  have h69 := kV68.bk h62
  have h70 := kV68.bk h63
  have h71 := kV68.bk h64
  have h72 := kV68.bk h65
  have K73 := K66.nn kV68
  have z74 := kV68.size
  refine pkq (.bool true) <| pkq (.bool true) <| pkq (.bool true) ?_
  refine pcq 23 #[.int .i64 39, .int .u64 1] Tryz.func23 ((lnadds_ok 39 1 9 (by decide) _ (ErrTab.keeps het K73)).mono ?_)
  rintro e V75 ⟨rfl, kV75⟩
  refine ⟨_, rfl, ?_⟩
  have h76 := kV75.bk h69
  have h77 := kV75.bk h70
  have h78 := kV75.bk h71
  have h79 := kV75.bk h72
  have K80 := K73.nn kV75
  have z81 := kV75.size
  refine pkq (.bool true) <| pkq (.bool true) <| pkq (.bool true) ?_
  refine pcq 23 #[.int .i64 41, .int .u64 4611686018427387905] Tryz.func23 ((lnadds_ok 41 4611686018427387905 3 (by decide) _ (ErrTab.keeps het K80)).mono ?_)
  rintro e V82 ⟨rfl, kV82⟩
  refine ⟨_, rfl, ?_⟩
  have h83 := kV82.bk h76
  have h84 := kV82.bk h77
  have h85 := kV82.bk h78
  have h86 := kV82.bk h79
  have K87 := K80.nn kV82
  have z88 := kV82.size
  refine pkq (.bool true) <| pkq (.bool true) <| pkq (.bool true) <| ps_end <| sy_a ⟨#[.bool false, .bool true, .int .i64 9, .int .i64 1, .int .i64 3, .int .i64 0, .bool true, ud, ud, ud, .bool true, .bool true, .bool true, .bool true, .bool true, .slice (some ⟨ga, 0, none⟩) 2 2, .bool true, .bool true, .bool true, .bool true, .bool true, .bool true, .bool true, .bool true, .bool true, .slice (some ⟨gb, 0, none⟩) 2 2, .bool true, .bool true, .tuple #[.int .i64 9, .int .i64 1], .agg #[.int .i64 10, .int .u64 1], .agg #[.int .i64 9, .int .u64 1], .slice (some ⟨qa, 0, none⟩) 2 2, .tuple #[.int .i64 9, .int .i64 1], .int .i64 9, .int .i64 1, .tuple #[.int .i64 3, .int .i64 0], .agg #[.int .i64 0, .int .u64 1], .agg #[.int .i64 0, .int .u64 1], .slice (some ⟨qb, 0, none⟩) 2 2, .tuple #[.int .i64 3, .int .i64 0], .int .i64 3, .int .i64 0, .int .i64 9, .bool true, .bool true, .int .i64 1, .bool true, .bool true, .bool true, .int .i64 3, .bool true, .bool true, .bool true, .int .i64 0, .bool true, .bool true, .bool true, .int .i64 0, .bool true, .bool true, .bool true, .int .i64 9, .bool true, .bool true, .bool true, .int .i64 3, .bool true, .bool true, ud, ud, ud, ud, ud, ud, ud, ud, ud, ud, ud, ud, ud, ud, ud, ud, ud, ud, ud, ud, ud, ud, ud, ud, ud, ud, ud, ud, ud, ud, ud, ud, ud, ud, ud, ud, ud, ud, ud, ud], []⟩ <| tqr_ [0, 1, 2, 3, 4, 5, 6] ?_
  refine pcq 21 #[] Tryz.func21 ((lntwo_ok _).mono ?_)
  rintro e V89 ⟨gd, rfl, h90, ngd, kV89⟩
  refine ⟨_, rfl, ?_⟩
  have h91 := kV89.bk h83
  have h92 := kV89.bk h84
  have h93 := kV89.bk h85
  have h94 := kV89.bk h86
  have K95 := K87.nn kV89
  have z96 := kV89.size
  refine pcq 11 #[.slice (some ⟨gd, 0, none⟩) 2 2] Tryz.func11 ((nbytes_is2 (bs := [2, 10, 100, 40, 200, 1]) (er := 0) (by decide +kernel) (nBytes_all ntwo _ _ (two_all h90) (ErrTab.keeps het K95))).mono ?_)
  rintro e V97 ⟨X, rfl, hX, hXn, kV97⟩
  refine ⟨_, rfl, ?_⟩
  have h98 := kV97.bk h91
  have h99 := kV97.bk h92
  have h100 := kV97.bk h93
  have h101 := kV97.bk h94
  have h102 := kV97.bk h90
  have K103 := K95.nn kV97
  have z104 := kV97.size
  refine pkq (.tuple #[X, .int .i64 0]) <| pkq (X) <| pkq (.int .i64 0) <| pkq (X) <| pkq (.int .i64 0) <| eqr_ [0, 1, 2, 3, 4, 5, 6, 7, 8, 9, 10, 11, 12, 13, 14, 15, 16, 17, 18, 19, 20, 21, 22, 23, 24, 25] <| pkq (.int .i64 0) <| pkq (.bool true) <| pkq (.bool true) <| pkq (X) ?_
  obtain ⟨V105, eV105, y1, ey1, h106, kV105⟩ := alloc_step V97 (#[.int .u8 2, .int .u8 10, .int .u8 100, .int .u8 40, .int .u8 200, .int .u8 1]) 5
  have n107 : ga < y1 := ey1 ▸ lt_of_block h98
  have n108 : gb < y1 := ey1 ▸ lt_of_block h99
  have n109 : qa < y1 := ey1 ▸ lt_of_block h100
  have n110 : qb < y1 := ey1 ▸ lt_of_block h101
  have n111 : gd < y1 := ey1 ▸ lt_of_block h102
  have n112 : w.heap.size ≤ y1 := ey1 ▸ K103.size
  refine prq (.slice (some ⟨y1, 0, none⟩) 6 6) (w' := V105) (by rw [← eV105, ← ey1]; kernel_rfl) ?_
  have h113 := kV105.bk h98
  have h114 := kV105.bk h99
  have h115 := kV105.bk h100
  have h116 := kV105.bk h101
  have h117 := kV105.bk h102
  have h118 : Row V105 5 1 X 6 (B [2, 10, 100, 40, 200, 1]) := hX.keeps kV105 (fun _ _ x => x)
  have K119 := K103.nn kV105
  have z120 := kV105.size
  refine pcq 15 #[X, .slice (some ⟨y1, 0, none⟩) 6 6] Tryz.func15 ((nsame_bytes true (Row.bytes (l := [2, 10, 100, 40, 200, 1]) h118) (bytes_lit [2, 10, 100, 40, 200, 1] h106 (by kernel_rfl) rfl rfl (by decide)) (by decide)).mono ?_)
  rintro e w1 ⟨rfl, rfl⟩
  refine ⟨_, rfl, ?_⟩
  refine pkq (.bool true) <| pkq (.bool true) ?_
  obtain ⟨V121, eV121, y2, ey2, h122, kV121⟩ := alloc_step V105 (#[.int .u8 1, .int .u8 0]) 5
  have n123 : ga < y2 := ey2 ▸ lt_of_block h113
  have n124 : gb < y2 := ey2 ▸ lt_of_block h114
  have n125 : qa < y2 := ey2 ▸ lt_of_block h115
  have n126 : qb < y2 := ey2 ▸ lt_of_block h116
  have n127 : gd < y2 := ey2 ▸ lt_of_block h117
  have n128 : y1 < y2 := ey2 ▸ lt_of_block h106
  have n129 : w.heap.size ≤ y2 := ey2 ▸ K119.size
  refine prq (.slice (some ⟨y2, 0, none⟩) 2 2) (w' := V121) (by rw [← eV121, ← ey2]; kernel_rfl) ?_
  have h130 := kV121.bk h113
  have h131 := kV121.bk h114
  have h132 := kV121.bk h115
  have h133 := kV121.bk h116
  have h134 := kV121.bk h117
  have h136 := kV121.bk h106
  have K137 := K119.nn kV121
  have z138 := kV121.size
  refine pcq 24 #[.slice (some ⟨y2, 0, none⟩) 2 2] Tryz.func24 ((lnreads_ok _ [1, 0] 3 1 (by decide +kernel) (by decide +kernel) _ (bytes_lit [1, 0] h122 (by kernel_rfl) rfl rfl (by decide)) (by decide)).mono ?_)
  rintro e V139 ⟨rfl, kV139⟩
  refine ⟨_, rfl, ?_⟩
  have h140 := kV139.bk h130
  have h141 := kV139.bk h131
  have h142 := kV139.bk h132
  have h143 := kV139.bk h133
  have h144 := kV139.bk h134
  have h146 := kV139.bk h136
  have h147 := kV139.bk h122
  have K148 := K137.nn kV139
  have z149 := kV139.size
  refine pkq (.agg #[.int .i64 3, .int .i64 1]) <| ppq (.bool true) (exec_cast (congrArg Value.bool (by decide)) (exec_binop .eql 31 31 (.tmp 82) (.tmp 83) (by kernel_rfl) (.agg #[.int .i64 3, .int .i64 1]) (.agg #[.int .i64 3, .int .i64 1]) _ (by kernel_rfl) (by kernel_rfl) (run_eqGuard_agg _ _ _ _ _ _ _ nfault_guard) (nfault_eq _ _ _ _ _))) <| pkq (.bool true) <| pkq (.bool true) ?_
  obtain ⟨V150, eV150, y3, ey3, h151, kV150⟩ := alloc_step V139 (#[.int .u8 2, .int .u8 5, .int .u8 1, .int .u8 4, .int .u8 1]) 5
  have n152 : ga < y3 := ey3 ▸ lt_of_block h140
  have n153 : gb < y3 := ey3 ▸ lt_of_block h141
  have n154 : qa < y3 := ey3 ▸ lt_of_block h142
  have n155 : qb < y3 := ey3 ▸ lt_of_block h143
  have n156 : gd < y3 := ey3 ▸ lt_of_block h144
  have n157 : y1 < y3 := ey3 ▸ lt_of_block h146
  have n158 : y2 < y3 := ey3 ▸ lt_of_block h147
  have n159 : w.heap.size ≤ y3 := ey3 ▸ K148.size
  refine prq (.slice (some ⟨y3, 0, none⟩) 5 5) (w' := V150) (by rw [← eV150, ← ey3]; kernel_rfl) ?_
  have h160 := kV150.bk h140
  have h161 := kV150.bk h141
  have h162 := kV150.bk h142
  have h163 := kV150.bk h143
  have h164 := kV150.bk h144
  have h166 := kV150.bk h146
  have h167 := kV150.bk h147
  have K168 := K148.nn kV150
  have z169 := kV150.size
  refine pcq 24 #[.slice (some ⟨y3, 0, none⟩) 5 5] Tryz.func24 ((lnreads_ok _ [2, 5, 1, 4, 1] 9 3 (by decide +kernel) (by decide +kernel) _ (bytes_lit [2, 5, 1, 4, 1] h151 (by kernel_rfl) rfl rfl (by decide)) (by decide)).mono ?_)
  rintro e V170 ⟨rfl, kV170⟩
  refine ⟨_, rfl, ?_⟩
  have h171 := kV170.bk h160
  have h172 := kV170.bk h161
  have h173 := kV170.bk h162
  have h174 := kV170.bk h163
  have h175 := kV170.bk h164
  have h177 := kV170.bk h166
  have h178 := kV170.bk h167
  have h179 := kV170.bk h151
  have K180 := K168.nn kV170
  have z181 := kV170.size
  refine pkq (.agg #[.int .i64 9, .int .i64 3]) <| ppq (.bool true) (exec_cast (congrArg Value.bool (by decide)) (exec_binop .eql 31 31 (.tmp 88) (.tmp 89) (by kernel_rfl) (.agg #[.int .i64 9, .int .i64 3]) (.agg #[.int .i64 9, .int .i64 3]) _ (by kernel_rfl) (by kernel_rfl) (run_eqGuard_agg _ _ _ _ _ _ _ nfault_guard) (nfault_eq _ _ _ _ _))) <| pkq (.bool true) <| pkq (.bool true) ?_
  obtain ⟨V182, eV182, y4, ey4, h183, kV182⟩ := alloc_step V170 (#[.int .u8 1, .int .u8 5]) 5
  have n184 : ga < y4 := ey4 ▸ lt_of_block h171
  have n185 : gb < y4 := ey4 ▸ lt_of_block h172
  have n186 : qa < y4 := ey4 ▸ lt_of_block h173
  have n187 : qb < y4 := ey4 ▸ lt_of_block h174
  have n188 : gd < y4 := ey4 ▸ lt_of_block h175
  have n189 : y1 < y4 := ey4 ▸ lt_of_block h177
  have n190 : y2 < y4 := ey4 ▸ lt_of_block h178
  have n191 : y3 < y4 := ey4 ▸ lt_of_block h179
  have n192 : w.heap.size ≤ y4 := ey4 ▸ K180.size
  refine prq (.slice (some ⟨y4, 0, none⟩) 2 2) (w' := V182) (by rw [← eV182, ← ey4]; kernel_rfl) ?_
  have K202 := K180.nn kV182
  have z203 := kV182.size
  refine pcq 24 #[.slice (some ⟨y4, 0, none⟩) 2 2] Tryz.func24 ((lnreads_ok _ [1, 5] 6 2 (by decide +kernel) (by decide +kernel) _ (bytes_lit [1, 5] h183 (by kernel_rfl) rfl rfl (by decide)) (by decide)).mono ?_)
  rintro e V204 ⟨rfl, kV204⟩
  refine ⟨_, rfl, ?_⟩
  have K215 := K202.nn kV204
  have z216 := kV204.size
  refine pkq (.agg #[.int .i64 6, .int .i64 2]) <| ppq (.bool true) (exec_cast (congrArg Value.bool (by decide)) (exec_binop .eql 31 31 (.tmp 94) (.tmp 95) (by kernel_rfl) (.agg #[.int .i64 6, .int .i64 2]) (.agg #[.int .i64 6, .int .i64 2]) _ (by kernel_rfl) (by kernel_rfl) (run_eqGuard_agg _ _ _ _ _ _ _ nfault_guard) (nfault_eq _ _ _ _ _))) <| pkq (.bool true) <| pkq (.bool true) <| ps_end <| sy_a ⟨#[.bool false, .bool true, .int .i64 9, .int .i64 1, .int .i64 3, .int .i64 0, .bool true, X, .int .i64 0, .bool true, .bool true, .bool true, .bool true, .bool true, .bool true, .slice (some ⟨ga, 0, none⟩) 2 2, .bool true, .bool true, .bool true, .bool true, .bool true, .bool true, .bool true, .bool true, .bool true, .slice (some ⟨gb, 0, none⟩) 2 2, .bool true, .bool true, .tuple #[.int .i64 9, .int .i64 1], .agg #[.int .i64 10, .int .u64 1], .agg #[.int .i64 9, .int .u64 1], .slice (some ⟨qa, 0, none⟩) 2 2, .tuple #[.int .i64 9, .int .i64 1], .int .i64 9, .int .i64 1, .tuple #[.int .i64 3, .int .i64 0], .agg #[.int .i64 0, .int .u64 1], .agg #[.int .i64 0, .int .u64 1], .slice (some ⟨qb, 0, none⟩) 2 2, .tuple #[.int .i64 3, .int .i64 0], .int .i64 3, .int .i64 0, .int .i64 9, .bool true, .bool true, .int .i64 1, .bool true, .bool true, .bool true, .int .i64 3, .bool true, .bool true, .bool true, .int .i64 0, .bool true, .bool true, .bool true, .int .i64 0, .bool true, .bool true, .bool true, .int .i64 9, .bool true, .bool true, .bool true, .int .i64 3, .bool true, .bool true, .tuple #[X, .int .i64 0], .slice (some ⟨gd, 0, none⟩) 2 2, .tuple #[X, .int .i64 0], X, .int .i64 0, .int .i64 0, .bool true, .bool true, X, .slice (some ⟨y1, 0, none⟩) 6 6, .bool true, .bool true, .bool true, .slice (some ⟨y2, 0, none⟩) 2 2, .agg #[.int .i64 3, .int .i64 1], .agg #[.int .i64 3, .int .i64 1], .bool true, .bool true, .bool true, .slice (some ⟨y3, 0, none⟩) 5 5, .agg #[.int .i64 9, .int .i64 3], .agg #[.int .i64 9, .int .i64 3], .bool true, .bool true, .bool true, .slice (some ⟨y4, 0, none⟩) 2 2, .agg #[.int .i64 6, .int .i64 2], .agg #[.int .i64 6, .int .i64 2], .bool true, .bool true, ud, ud, ud, ud, ud, ud, ud, ud, ud, ud], []⟩ <| tqr_ [0, 1, 2, 3, 4, 5, 6, 7, 8, 9, 10] ?_
  refine pcq 8 #[] Tryz.func8 ((lnawake_ok _ (ErrTab.keeps het K215)).mono ?_)
  rintro e V217 ⟨rfl, kV217⟩
  refine ⟨_, rfl, ?_⟩
  have K228 := K215.nn kV217
  have z229 := kV217.size
  refine pkq (.bool true) <| pkq (.bool true) <| pkq (.bool true) <| pkq (.bool true) <| pkq (.bool true) <| pkq (.bool true) <| pkq (.bool true) <| pkq (.bool true) <| pkq (.bool true) <| pkq (.bool true) <| eu_ <| so_ (.bool true) ?_
  exact ⟨rfl, K228⟩
end Go.Proofs.YtghohakbepeffaaGreatDoor
namespace Go.Proofs.YtghohakbepeffaaGreatDoor
set_option maxRecDepth 100000
set_option maxHeartbeats 4000000
open Go Go.RowKit Go.Own Go.Shelf
theorem nat_max (a b : Nat) : max ((a : Nat) : Int) ((b : Nat) : Int) = ((max a b : Nat) : Int) := by omega
theorem lnmade_all (v0 : Value) (ns : List Nat) (hnl : ∀ x ∈ ns, x < 18446744073709551616) (hl : ns.length ≤ 64) (w : World) (hns : Sl w 1 Gc v0 ns) (het : ErrTab w) : Calls Tryz.prog 26 #[v0] w (fun e w' => ∃ X, e = .returned (.tuple #[X, .bool true]) ∧ Sl w' 2 Nt.cl X (mgo ns 1) ∧ Keeps Nob w w') := by
  have h := lnmade_ok v0 ns hnl w hns het
  rw [List.take_of_length_le hl] at h; exact h
theorem kLess_no {va vb : Value} {a b : Nat} {w : World} (h : ¬ a < b) (hla : Sl w 1 Gc va (dg a)) (hlb : Sl w 1 Gc vb (dg b)) : Calls Tryz.prog 31 #[va, vb] w (fun e w' => e = .returned (.bool false) ∧ Keeps Nob w w') := by
  have q := kLessGreat_ok va vb a b w hla hlb
  rw [decide_eq_false h] at q; exact q
theorem kLess_yes {va vb : Value} {a b : Nat} {w : World} (h : a < b) (hla : Sl w 1 Gc va (dg a)) (hlb : Sl w 1 Gc vb (dg b)) : Calls Tryz.prog 31 #[va, vb] w (fun e w' => e = .returned (.bool true) ∧ Keeps Nob w w') := by
  have q := kLessGreat_ok va vb a b w hla hlb
  rw [decide_eq_true h] at q; exact q
theorem big_100 {a b c : Nat} (ha : a < 18446744073709551616) (hb : b < 18446744073709551616) (hc : c < 18446744073709551616) : a * b * c < 65536 ^ 100 :=
  Nat.lt_of_lt_of_le (Nat.mul_lt_mul_of_lt_of_lt (prod_128 ha hb) hc) (by decide +kernel)
noncomputable def qc79_0 (n : Nat) : Code := partOf Tryz.f5 n
theorem grows_long (base mult : Nat) (window : Int) (v3 : Value) (ns : List Nat) (hw : Int) (stake more total less : Nat) (hb : base < 18446744073709551616) (hm : mult < 18446744073709551616) (hstk : stake < 18446744073709551616) (hmor : more < 18446744073709551616) (htot : total < 18446744073709551616) (hles : less < 18446744073709551616) (hnl : ∀ x ∈ ns, x < 18446744073709551616) (w : World) (hns : Sl w 1 Gc v3 ns) (het : ErrTab w) (h20 : 20 < ns.length) :
    Calls Tryz.prog 5 #[.int .u64 ((base : Nat) : Int), .int .u64 ((mult : Nat) : Int), .int .i64 window, v3, .int .i64 hw, .int .u64 ((stake : Nat) : Int), .int .u64 ((more : Nat) : Int), .int .u64 ((total : Nat) : Int), .int .u64 ((less : Nat) : Int)] w (fun e w' => e = .returned (.bool true) ∧ Keeps Nob w w') := by
  have hln := Sl.len_le hns
  have K0 : Keeps Nob w w := Keeps.refl _ _
  refine sy_enter (qc79_0 1) ⟨#[uN base, uN mult, .int .i64 window, v3, .int .i64 hw, uN stake, uN more, uN total, uN less, ud, ud, ud, ud, ud, ud, ud, ud, ud, ud, ud, ud, ud, ud, ud, ud, ud, ud, ud, ud, ud, ud, ud, ud, ud, ud, ud, ud, ud, ud, ud, ud, ud, ud, ud, ud, ud, ud, ud, ud, ud, ud, ud, ud, ud, ud, ud, ud, ud, ud, ud, ud, ud, ud, ud, ud, ud, ud, ud, ud, ud, ud, ud, ud, ud, ud, ud, ud, ud, ud, ud, ud, ud, ud, ud, ud, ud, ud, ud, ud, ud, ud, ud, ud, ud, ud, ud, ud, ud, ud, ud, ud, ud, ud, ud, ud, ud, ud, ud, ud, ud, ud, ud, ud, ud, ud, ud, ud, ud, ud, ud, ud, ud, ud, ud, ud, ud, ud, ud, ud, ud, ud, ud, ud, ud, ud, ud, ud, ud, ud, ud, ud, ud, ud, ud, ud, ud, ud, ud, ud, ud, ud, ud, ud, ud, ud, ud, ud, ud, ud, ud, ud, ud, ud, ud, ud, ud, ud, ud, ud, ud, ud, ud, ud, ud, ud, ud, ud, ud, ud, ud, ud, ud, ud, ud, ud, ud], []⟩ Tryz.func5 (by kernel_rfl) (by kernel_rfl) <| qr_ [0] <| pkq (.bool false) <| eqr_ [0, 1] ?_
  refine pcq 4 #[] Tryz.func4 ((known_ok _ het).mono ?_)
  rintro e V1 ⟨rfl, kV1⟩
  refine ⟨_, rfl, ?_⟩
  have K2 := K0.nn kV1
  have z3 := kV1.size
  refine pkq (.bool true) <| eq_ <| qr_ [0, 1, 2] <| pkq (v3) <| ppq (iN ns.length) (exec_len_sl (.tmp 37) 49 40 (by kernel_rfl) Tryz.underlying49 (by kernel_rfl) (hns.keepsN K2)) <| ppq (.bool true) (dct ((((ns.length : Nat) : Int)) > ((20) : Int)) (by omega)) <| ey_ <| qr_ [0, 1] <| pkq (.bool true) <| pkq (.bool true) <| eu_ <| then_r <| so_ (.bool true) ?_
  exact ⟨rfl, K2⟩
theorem grows_short (base mult : Nat) (window : Int) (v3 : Value) (ns : List Nat) (hw : Int) (stake more total less : Nat) (hb : base < 18446744073709551616) (hm : mult < 18446744073709551616) (hstk : stake < 18446744073709551616) (hmor : more < 18446744073709551616) (htot : total < 18446744073709551616) (hles : less < 18446744073709551616) (hnl : ∀ x ∈ ns, x < 18446744073709551616) (w : World) (hns : Sl w 1 Gc v3 ns) (het : ErrTab w) (h20 : ¬ 20 < ns.length) :
    Calls Tryz.prog 5 #[.int .u64 ((base : Nat) : Int), .int .u64 ((mult : Nat) : Int), .int .i64 window, v3, .int .i64 hw, .int .u64 ((stake : Nat) : Int), .int .u64 ((more : Nat) : Int), .int .u64 ((total : Nat) : Int), .int .u64 ((less : Nat) : Int)] w (fun e w' => e = .returned (.bool true) ∧ Keeps Nob w w') := by
  have hln := Sl.len_le hns
  obtain ⟨st, hst⟩ : ∃ y, stake % 4611686018427387905 = y := ⟨_, rfl⟩
  obtain ⟨mo, hmo⟩ : ∃ y, more % 4611686018427387905 = y := ⟨_, rfl⟩
  obtain ⟨t0, ht0⟩ : ∃ y, total % 4611686018427387904 = y := ⟨_, rfl⟩
  obtain ⟨l0, hl0⟩ : ∃ y, less % 4611686018427387904 = y := ⟨_, rfl⟩
  obtain ⟨tt, htt⟩ : ∃ y, 1 + t0 = y := ⟨_, rfl⟩
  obtain ⟨le, hle⟩ : ∃ y, 1 + l0 = y := ⟨_, rfl⟩
  obtain ⟨f, n, fa, fb, fn, hf, hn, hfa, hfb, hfn, hf0, hf1, hf2, hf3, hf4, hnn, hlast⟩ := grows_plain base mult window (1 + hw % 700) ns st mo tt le (by omega) (by omega) (by omega) (by omega) (by omega) (by omega) (by omega)
  have K0 : Keeps Nob w w := Keeps.refl _ _
  refine sy_enter (qc79_0 1) ⟨#[uN base, uN mult, .int .i64 window, v3, .int .i64 hw, uN stake, uN more, uN total, uN less, ud, ud, ud, ud, ud, ud, ud, ud, ud, ud, ud, ud, ud, ud, ud, ud, ud, ud, ud, ud, ud, ud, ud, ud, ud, ud, ud, ud, ud, ud, ud, ud, ud, ud, ud, ud, ud, ud, ud, ud, ud, ud, ud, ud, ud, ud, ud, ud, ud, ud, ud, ud, ud, ud, ud, ud, ud, ud, ud, ud, ud, ud, ud, ud, ud, ud, ud, ud, ud, ud, ud, ud, ud, ud, ud, ud, ud, ud, ud, ud, ud, ud, ud, ud, ud, ud, ud, ud, ud, ud, ud, ud, ud, ud, ud, ud, ud, ud, ud, ud, ud, ud, ud, ud, ud, ud, ud, ud, ud, ud, ud, ud, ud, ud, ud, ud, ud, ud, ud, ud, ud, ud, ud, ud, ud, ud, ud, ud, ud, ud, ud, ud, ud, ud, ud, ud, ud, ud, ud, ud, ud, ud, ud, ud, ud, ud, ud, ud, ud, ud, ud, ud, ud, ud, ud, ud, ud, ud, ud, ud, ud, ud, ud, ud, ud, ud, ud, ud, ud, ud, ud, ud, ud, ud, ud, ud, ud], []⟩ Tryz.func5 (by kernel_rfl) (by kernel_rfl) <| qr_ [0] <| pkq (.bool false) <| eqr_ [0, 1] ?_
  refine pcq 4 #[] Tryz.func4 ((known_ok _ het).mono ?_)
  rintro e V1 ⟨rfl, kV1⟩
  refine ⟨_, rfl, ?_⟩
  have K2 := K0.nn kV1
  have z3 := kV1.size
  refine pkq (.bool true) <| eq_ <| qr_ [0, 1, 2] <| pkq (v3) <| ppq (iN ns.length) (exec_len_sl (.tmp 37) 49 40 (by kernel_rfl) Tryz.underlying49 (by kernel_rfl) (hns.keepsN K2)) <| ppq (.bool false) (dcf ((((ns.length : Nat) : Int)) > ((20) : Int)) (by omega)) <| en_ <| s_ <| tqr_ [0, 1, 2, 3, 4, 5] <| pkq (uN base) <| pkq (uN mult) <| pkq (.int .i64 window) ?_
  refine pcq 25 #[uN base, uN mult, .int .i64 window] Tryz.func25 ((lnof_ok base mult window hb hm _).mono ?_)
  rintro e V4 ⟨rfl, kV4⟩
  refine ⟨_, rfl, ?_⟩
  have K5 := K2.nn kV4
  have z6 := kV4.size
  refine pal 51 (#[.int .i64 0, .int .i64 0, .int .i64 0, .int .i64 0, .int .i64 0, .int .i64 0, .int .i64 0, .int .u64 0, .int .u64 0, .int .i64 0, .int .u64 0]) (.agg (#[.int .i64 0, .int .i64 0, .int .i64 0, .int .i64 0, .int .i64 0, .int .i64 0, .int .i64 0, .int .u64 0, .int .u64 0, .int .i64 0, .int .u64 0])) fun V7 gp egp h8 kV7 => ?_
  have n9 : w.heap.size ≤ gp := egp ▸ K5.size
  have K10 := K5.nn kV7
  have z11 := kV7.size
  refine pst 51 gp ((pOf base mult window).cells) h8 (by kernel_rfl) rfl (by kernel_rfl) fun V12 h13 kV12 => ?_
  have K14 := K10.nO kV12
  have z15 := kV12.size
  refine eqr_ [0, 1, 2, 3, 4, 5, 6] <| pkq (v3) ?_
  refine pcq 26 #[v3] Tryz.func26 ((lnmade_all v3 ns hnl (by omega) _ (hns.keepsN K14) (ErrTab.keeps het K14)).mono ?_)
  rintro e V16 ⟨X, rfl, hX, kV16⟩
  refine ⟨_, rfl, ?_⟩
  have h17 := kV16.bk h13
  have K18 := K14.nn kV16
  have z19 := kV16.size
  refine pkq (.tuple #[X, .bool true]) <| pkq (X) <| pkq (.bool true) <| pkq (X) <| pkq (.bool true) <| eqr_ [0, 1, 2, 3] <| pkq (.int .i64 hw) ?_
  refine pcq 27 #[.int .i64 hw, .int .i64 700] Tryz.func27 ((kPick_ok hw 700 (by decide) (by decide) _).mono ?_)
  rintro e w1 ⟨rfl, rfl⟩
  refine ⟨_, rfl, ?_⟩
  refine ppq (.int .i64 (1 + (hw % 700))) (exec_cast (congrArg (Value.int .i64) (wrapI (1 + (hw % 700)) (1 + (hw % 700)) rfl (by omega) (by omega))) (by kernel_rfl)) <| pkq (.int .i64 (1 + (hw % 700))) <| eqr_ [0, 1, 2, 3, 4, 5, 6, 7, 8, 9, 10, 11, 12, 13] <| pkq (uN stake) <| ppq (uN st) (exec_cast (congrArg (fun n : Nat => Value.int .u64 (n : Int)) hst) (exec_remU 40 40 (.tmp 53) (.const (.int .u64 4611686018427387905)) (by kernel_rfl) stake 4611686018427387905 (by kernel_rfl) (by kernel_rfl) (by decide) (by omega))) <| pkq (uN more) <| ppq (uN mo) (exec_cast (congrArg (fun n : Nat => Value.int .u64 (n : Int)) hmo) (exec_remU 40 40 (.tmp 55) (.const (.int .u64 4611686018427387905)) (by kernel_rfl) more 4611686018427387905 (by kernel_rfl) (by kernel_rfl) (by decide) (by omega))) <| pkq (uN total) <| ppq (uN t0) (exec_cast (congrArg (fun n : Nat => Value.int .u64 (n : Int)) ht0) (exec_remU 40 40 (.tmp 57) (.const (.int .u64 4611686018427387904)) (by kernel_rfl) total 4611686018427387904 (by kernel_rfl) (by kernel_rfl) (by decide) (by omega))) <| ppq (uN tt) (exec_cast (congrArg (Value.int .u64) ((wrapU (1 + t0) (by omega)).trans (congrArg (fun n : Nat => (n : Int)) htt))) (by kernel_rfl)) <| pkq (uN less) <| ppq (uN l0) (exec_cast (congrArg (fun n : Nat => Value.int .u64 (n : Int)) hl0) (exec_remU 40 40 (.tmp 60) (.const (.int .u64 4611686018427387904)) (by kernel_rfl) less 4611686018427387904 (by kernel_rfl) (by kernel_rfl) (by decide) (by omega))) <| ppq (uN le) (exec_cast (congrArg (Value.int .u64) ((wrapU (1 + l0) (by omega)).trans (congrArg (fun n : Nat => (n : Int)) hle))) (by kernel_rfl)) <| pkq (uN st) ?_
  refine pkq (uN mo) <| pkq (uN tt) <| pkq (uN le) <| ps_end <| sy_a ⟨#[uN base, uN mult, .int .i64 window, v3, .int .i64 (1 + (hw % 700)), uN st, uN mo, uN tt, uN le, ud, ud, ud, ud, ud, ud, ud, ud, ud, .bool false, .bool true, pT gp 0, X, .bool true, ud, ud, ud, ud, ud, ud, ud, ud, ud, ud, ud, ud, ud, .bool true, v3, iN ns.length, .bool false, ud, uN base, uN mult, .int .i64 window, .agg (pOf base mult window).cells, .tuple #[X, .bool true], v3, .tuple #[X, .bool true], X, .bool true, .int .i64 hw, .int .i64 (hw % 700), .int .i64 (1 + (hw % 700)), uN stake, uN st, uN more, uN mo, uN total, uN t0, uN tt, uN less, uN l0, uN le, ud, ud, ud, ud, ud, ud, ud, ud, ud, ud, ud, ud, ud, ud, ud, ud, ud, ud, ud, ud, ud, ud, ud, ud, ud, ud, ud, ud, ud, ud, ud, ud, ud, ud, ud, ud, ud, ud, ud, ud, ud, ud, ud, ud, ud, ud, ud, ud, ud, ud, ud, ud, ud, ud, ud, ud, ud, ud, ud, ud, ud, ud, ud, ud, ud, ud, ud, ud, ud, ud, ud, ud, ud, ud, ud, ud, ud, ud, ud, ud, ud, ud, ud, ud, ud, ud, ud, ud, ud, ud, ud, ud, ud, ud, ud, ud, ud, ud, ud, ud, ud, ud, ud, ud, ud, ud, ud, ud, ud, ud, ud, ud, ud, ud, ud, ud, ud, ud, ud, ud, ud, ud, ud], []⟩ <| tqr_ [0, 1, 2, 3, 4, 5, 6, 7, 8, 9, 10] <| ppq (.agg ((pOf base mult window).cells)) (ldr 51 gp (h17) (by kernel_rfl)) <| pkq (X) <| pkq (.int .i64 (1 + (hw % 700))) <| pkq (uN st) <| pkq (uN tt) ?_
  refine pcq 28 #[.agg ((pOf base mult window).cells), X, .int .i64 (1 + (hw % 700)), uN st, uN tt] Tryz.func28 ((frac_is hf (nFrac_all (pOf base mult window) (pOf_Ok _ _ _) (mgo ns 1) _ (1 + hw % 700) (by unfold i64ok; omega) st tt (by omega) (by omega) _ hX (ErrTab.keeps het K18))).mono ?_)
  rintro e V20 ⟨rfl, kV20⟩
  refine ⟨_, rfl, ?_⟩
  have h21 := kV20.bk h17
  have h22 : Sl V20 2 Nt.cl X (mgo ns 1) := hX.keepsN kV20
  have K23 := K18.nn kV20
  have z24 := kV20.size
  refine pkq (.tuple #[uN f, .int .i64 0]) <| pkq (uN f) <| pkq (.int .i64 0) <| pkq (uN f) <| pkq (.int .i64 0) <| eqr_ [0, 1, 2, 3, 4, 5, 6, 7, 8] <| ppq (.agg ((pOf base mult window).cells)) (ldr 51 gp (h21) (by kernel_rfl)) <| pkq (X) <| pkq (.int .i64 (1 + (hw % 700))) ?_
  refine pcq 29 #[.agg ((pOf base mult window).cells), X, .int .i64 (1 + (hw % 700))] Tryz.func29 ((nnoted_is (congrArg Prod.fst hn) (congrArg Prod.snd hn) (nNoted_all (pOf base mult window) (pOf_Ok _ _ _) (mgo ns 1) _ (1 + hw % 700) (by unfold i64ok; omega) _ h22 (ErrTab.keeps het K23))).mono ?_)
  rintro e V25 ⟨rfl, kV25⟩
  refine ⟨_, rfl, ?_⟩
  have h26 := kV25.bk h21
  have h27 : Sl V25 2 Nt.cl X (mgo ns 1) := h22.keepsN kV25
  have K28 := K23.nn kV25
  have z29 := kV25.size
  refine pkq (.tuple #[uN n, .int .i64 0]) <| pkq (uN n) <| pkq (.int .i64 0) <| pkq (uN n) <| pkq (.int .i64 0) <| eq_ <| qr_ [0, 1, 2, 3, 4, 5, 6, 7, 8, 9, 10, 11, 12, 13, 14, 15, 16, 17, 18, 19] <| pkq (.bool true) <| pkq (.bool false) <| pkq (.bool false) <| pkq (.int .i64 0) <| pkq (.bool false) <| pkq (.bool false) <| pkq (.bool false) ?_
  refine pkq (.int .i64 0) <| pkq (.bool false) <| pkq (.bool false) <| pkq (.bool false) <| pkq (uN f) <| pkq (pT gp 7) <| ppq (uN ((base % 1000000001))) (ldc 40 gp 7 (rc (h26) (rfl))) <| ppq (.bool false) (dcf ((((f : Nat) : Int)) < ((((base % 1000000001) : Nat) : Int))) (by omega)) <| pkq (.bool false) <| pkq (.bool false) <| pkq (uN f) <| ppq (.bool false) (dcf ((((f : Nat) : Int)) > ((1000000000) : Int)) (by omega)) <| pkq (.bool false) <| ps_end ?_
  refine sy_a ⟨#[uN base, uN mult, .int .i64 window, v3, .int .i64 (1 + (hw % 700)), uN st, uN mo, uN tt, uN le, ud, ud, ud, ud, ud, ud, ud, ud, ud, .bool false, .bool true, pT gp 0, X, .bool true, uN f, .int .i64 0, uN n, .int .i64 0, ud, ud, ud, ud, ud, ud, ud, ud, ud, .bool true, v3, iN ns.length, .bool false, ud, uN base, uN mult, .int .i64 window, .agg (pOf base mult window).cells, .tuple #[X, .bool true], v3, .tuple #[X, .bool true], X, .bool true, .int .i64 hw, .int .i64 (hw % 700), .int .i64 (1 + (hw % 700)), uN stake, uN st, uN more, uN mo, uN total, uN t0, uN tt, uN less, uN l0, uN le, .tuple #[uN f, .int .i64 0], .agg ((pOf base mult window).cells), X, .int .i64 (1 + (hw % 700)), uN st, uN tt, .tuple #[uN f, .int .i64 0], uN f, .int .i64 0, .tuple #[uN n, .int .i64 0], .agg ((pOf base mult window).cells), X, .int .i64 (1 + (hw % 700)), .tuple #[uN n, .int .i64 0], uN n, .int .i64 0, .bool true, .bool false, .bool false, .int .i64 0, .bool false, .bool false, .bool false, .int .i64 0, .bool false, .bool false, .bool false, uN f, pT gp 7, uN ((base % 1000000001)), .bool false, .bool false, .bool false, uN f, .bool false, .bool false, ud, ud, ud, ud, ud, ud, ud, ud, ud, ud, ud, ud, ud, ud, ud, ud, ud, ud, ud, ud, ud, ud, ud, ud, ud, ud, ud, ud, ud, ud, ud, ud, ud, ud, ud, ud, ud, ud, ud, ud, ud, ud, ud, ud, ud, ud, ud, ud, ud, ud, ud, ud, ud, ud, ud, ud, ud, ud, ud, ud, ud, ud, ud, ud, ud, ud, ud, ud, ud, ud, ud, ud, ud, ud, ud, ud, ud, ud, ud, ud, ud, ud, ud, ud, ud, ud, ud], []⟩ <| then_n <| n_ <| s_ <| tqr_ [0, 1, 2, 3, 4, 5, 6, 7, 8, 9, 10, 11, 12] <| ppq (.agg ((pOf base mult window).cells)) (ldr 51 gp (h26) (by kernel_rfl)) <| pkq (X) <| pkq (.int .i64 (1 + (hw % 700))) <| pkq (uN st) <| pkq (uN mo) <| ppq (uN ((max st mo))) (exec_cast (congrArg (Value.int .u64) (nat_max st mo)) (exec_max (.tmp 103) (.tmp 104) #[40, 40] (by kernel_rfl) .u64 _ _ (by kernel_rfl) (by kernel_rfl))) <| pkq (uN tt) ?_
  refine pcq 28 #[.agg ((pOf base mult window).cells), X, .int .i64 (1 + (hw % 700)), uN ((max st mo)), uN tt] Tryz.func28 ((frac_is hfa (nFrac_all (pOf base mult window) (pOf_Ok _ _ _) (mgo ns 1) _ (1 + hw % 700) (by unfold i64ok; omega) (max st mo) tt (by omega) (by omega) _ h27 (ErrTab.keeps het K28))).mono ?_)
  rintro e V30 ⟨rfl, kV30⟩
  refine ⟨_, rfl, ?_⟩
  have h31 := kV30.bk h26
  have h32 : Sl V30 2 Nt.cl X (mgo ns 1) := h27.keepsN kV30
  have K33 := K28.nn kV30
  have z34 := kV30.size
  refine pkq (.tuple #[uN fa, .int .i64 0]) <| pkq (uN fa) <| pkq (.int .i64 0) <| pkq (uN fa) <| pkq (.int .i64 0) <| eqr_ [0, 1, 2, 3, 4, 5, 6, 7, 8, 9, 10, 11, 12] <| ppq (.agg ((pOf base mult window).cells)) (ldr 51 gp (h31) (by kernel_rfl)) <| pkq (X) <| pkq (.int .i64 (1 + (hw % 700))) <| pkq (uN st) <| pkq (uN tt) <| pkq (uN le) <| ppq (uN ((max tt le))) (exec_cast (congrArg (Value.int .u64) (nat_max tt le)) (exec_max (.tmp 115) (.tmp 116) #[40, 40] (by kernel_rfl) .u64 _ _ (by kernel_rfl) (by kernel_rfl))) ?_
  refine pcq 28 #[.agg ((pOf base mult window).cells), X, .int .i64 (1 + (hw % 700)), uN st, uN ((max tt le))] Tryz.func28 ((frac_is hfb (nFrac_all (pOf base mult window) (pOf_Ok _ _ _) (mgo ns 1) _ (1 + hw % 700) (by unfold i64ok; omega) st (max tt le) (by omega) (by omega) _ h32 (ErrTab.keeps het K33))).mono ?_)
  rintro e V35 ⟨rfl, kV35⟩
  refine ⟨_, rfl, ?_⟩
  have h36 := kV35.bk h31
  have K38 := K33.nn kV35
  have z39 := kV35.size
  refine pkq (.tuple #[uN fb, .int .i64 0]) <| pkq (uN fb) <| pkq (.int .i64 0) <| pkq (uN fb) <| pkq (.int .i64 0) <| ps_end <| sy_a ⟨#[uN base, uN mult, .int .i64 window, v3, .int .i64 (1 + (hw % 700)), uN st, uN mo, uN tt, uN le, ud, ud, ud, ud, ud, ud, ud, ud, ud, .bool false, .bool true, pT gp 0, X, .bool true, uN f, .int .i64 0, uN n, .int .i64 0, uN fa, .int .i64 0, uN fb, .int .i64 0, ud, ud, ud, ud, ud, .bool true, v3, iN ns.length, .bool false, ud, uN base, uN mult, .int .i64 window, .agg (pOf base mult window).cells, .tuple #[X, .bool true], v3, .tuple #[X, .bool true], X, .bool true, .int .i64 hw, .int .i64 (hw % 700), .int .i64 (1 + (hw % 700)), uN stake, uN st, uN more, uN mo, uN total, uN t0, uN tt, uN less, uN l0, uN le, .tuple #[uN f, .int .i64 0], .agg ((pOf base mult window).cells), X, .int .i64 (1 + (hw % 700)), uN st, uN tt, .tuple #[uN f, .int .i64 0], uN f, .int .i64 0, .tuple #[uN n, .int .i64 0], .agg ((pOf base mult window).cells), X, .int .i64 (1 + (hw % 700)), .tuple #[uN n, .int .i64 0], uN n, .int .i64 0, .bool true, .bool false, .bool false, .int .i64 0, .bool false, .bool false, .bool false, .int .i64 0, .bool false, .bool false, .bool false, uN f, pT gp 7, uN ((base % 1000000001)), .bool false, .bool false, .bool false, uN f, .bool false, .bool false, .tuple #[uN fa, .int .i64 0], .agg ((pOf base mult window).cells), X, .int .i64 (1 + (hw % 700)), uN st, uN mo, uN ((max st mo)), uN tt, .tuple #[uN fa, .int .i64 0], uN fa, .int .i64 0, .tuple #[uN fb, .int .i64 0], .agg ((pOf base mult window).cells), X, .int .i64 (1 + (hw % 700)), uN st, uN tt, uN le, uN ((max tt le)), .tuple #[uN fb, .int .i64 0], uN fb, .int .i64 0, ud, ud, ud, ud, ud, ud, ud, ud, ud, ud, ud, ud, ud, ud, ud, ud, ud, ud, ud, ud, ud, ud, ud, ud, ud, ud, ud, ud, ud, ud, ud, ud, ud, ud, ud, ud, ud, ud, ud, ud, ud, ud, ud, ud, ud, ud, ud, ud, ud, ud, ud, ud, ud, ud, ud, ud, ud, ud, ud, ud, ud, ud, ud, ud, ud], []⟩ <| tqr_ [0, 1, 2, 3, 4, 5, 6, 7, 8, 9] <| ppq (.agg ((pOf base mult window).cells)) (ldr 51 gp (h36) (by kernel_rfl)) <| pkq (.int .i64 (1 + (hw % 700))) <| pkq (uN st) <| pkq (uN tt) ?_
  refine pcq 28 #[.agg ((pOf base mult window).cells), .slice none 0 0, .int .i64 (1 + (hw % 700)), uN st, uN tt] Tryz.func28 ((frac_is hfn (nFrac_all (pOf base mult window) (pOf_Ok _ _ _) [] _ (1 + hw % 700) (by unfold i64ok; omega) st tt (by omega) (by omega) _ (Sl.nil _ _ _) (ErrTab.keeps het K38))).mono ?_)
  rintro e V40 ⟨rfl, kV40⟩
  refine ⟨_, rfl, ?_⟩
  have h41 := kV40.bk h36
  have K43 := K38.nn kV40
  have z44 := kV40.size
  refine pkq (.tuple #[uN fn, .int .i64 0]) <| pkq (uN fn) <| pkq (.int .i64 0) <| pkq (uN fn) <| pkq (.int .i64 0) <| eq_ <| qr_ [0, 1, 2, 3, 4, 5, 6, 7, 8, 9, 10, 11, 12, 13, 14, 15, 16, 17, 18, 19, 20, 21, 22, 23, 24] <| pkq (.int .i64 0) <| pkq (.bool false) <| pkq (.bool false) <| pkq (.int .i64 0) <| pkq (.bool false) <| pkq (.bool false) <| pkq (.bool false) ?_
  refine pkq (.int .i64 0) <| pkq (.bool false) <| pkq (.bool false) <| pkq (.bool false) <| pkq (uN fa) <| pkq (uN f) <| ppq (.bool false) (dcf ((((fa : Nat) : Int)) < (((f : Nat) : Int))) (by omega)) <| pkq (.bool false) <| pkq (.bool false) <| pkq (uN fb) <| pkq (uN f) <| ppq (.bool false) (dcf ((((fb : Nat) : Int)) > (((f : Nat) : Int))) (by omega)) <| pkq (.bool false) <| pkq (.bool false) ?_
  refine pkq (uN fn) <| pkq (uN f) <| ppq (.bool false) (dcf ((((fn : Nat) : Int)) > (((f : Nat) : Int))) (by omega)) <| pkq (.bool false) <| ps_end <| sy_a ⟨#[uN base, uN mult, .int .i64 window, v3, .int .i64 (1 + (hw % 700)), uN st, uN mo, uN tt, uN le, ud, ud, ud, ud, ud, ud, ud, ud, ud, .bool false, .bool true, pT gp 0, X, .bool true, uN f, .int .i64 0, uN n, .int .i64 0, uN fa, .int .i64 0, uN fb, .int .i64 0, uN fn, .int .i64 0, ud, ud, ud, .bool true, v3, iN ns.length, .bool false, ud, uN base, uN mult, .int .i64 window, .agg (pOf base mult window).cells, .tuple #[X, .bool true], v3, .tuple #[X, .bool true], X, .bool true, .int .i64 hw, .int .i64 (hw % 700), .int .i64 (1 + (hw % 700)), uN stake, uN st, uN more, uN mo, uN total, uN t0, uN tt, uN less, uN l0, uN le, .tuple #[uN f, .int .i64 0], .agg ((pOf base mult window).cells), X, .int .i64 (1 + (hw % 700)), uN st, uN tt, .tuple #[uN f, .int .i64 0], uN f, .int .i64 0, .tuple #[uN n, .int .i64 0], .agg ((pOf base mult window).cells), X, .int .i64 (1 + (hw % 700)), .tuple #[uN n, .int .i64 0], uN n, .int .i64 0, .bool true, .bool false, .bool false, .int .i64 0, .bool false, .bool false, .bool false, .int .i64 0, .bool false, .bool false, .bool false, uN f, pT gp 7, uN ((base % 1000000001)), .bool false, .bool false, .bool false, uN f, .bool false, .bool false, .tuple #[uN fa, .int .i64 0], .agg ((pOf base mult window).cells), X, .int .i64 (1 + (hw % 700)), uN st, uN mo, uN ((max st mo)), uN tt, .tuple #[uN fa, .int .i64 0], uN fa, .int .i64 0, .tuple #[uN fb, .int .i64 0], .agg ((pOf base mult window).cells), X, .int .i64 (1 + (hw % 700)), uN st, uN tt, uN le, uN ((max tt le)), .tuple #[uN fb, .int .i64 0], uN fb, .int .i64 0, .tuple #[uN fn, .int .i64 0], .agg ((pOf base mult window).cells), .int .i64 (1 + (hw % 700)), uN st, uN tt, .tuple #[uN fn, .int .i64 0], uN fn, .int .i64 0, .int .i64 0, .bool false, .bool false, .int .i64 0, .bool false, .bool false, .bool false, .int .i64 0, .bool false, .bool false, .bool false, uN fa, uN f, .bool false, .bool false, .bool false, uN fb, uN f, .bool false, .bool false, .bool false, uN fn, uN f, .bool false, .bool false, ud, ud, ud, ud, ud, ud, ud, ud, ud, ud, ud, ud, ud, ud, ud, ud, ud, ud, ud, ud, ud, ud, ud, ud, ud, ud, ud, ud, ud, ud, ud, ud], []⟩ <| then_n <| n_ <| s_ <| tq_ <| qr_ [0, 1] <| pkq (uN f) ?_
  rcases hlast with hbil | ⟨hbil, hx⟩
  · refine ppq (.bool true) (eqt (((f : Nat) : Int)) ((1000000000) : Int) (by omega)) <| ey_ <| qr_ [0, 1] <| pkq (.bool true) <| pkq (.bool true) <| eu_ <| then_r <| so_ (.bool true) ?_
    exact ⟨rfl, K43⟩
  · obtain ⟨ns1, hns1⟩ : ∃ y, n + st = y := ⟨_, rfl⟩
    obtain ⟨S, hS⟩ : ∃ y, min ns1 4611686018427387904 = y := ⟨_, rfl⟩
    obtain ⟨fd, hfd⟩ : ∃ y, f - base % 1000000001 = y := ⟨_, rfl⟩
    have hx1 : ¬ mult % 1001 * S * 1000000000 < fd * tt * 1 := by
      have h1 := hx.1
      rw [hns1, hS, hfd] at h1
      rw [Nat.mul_one]; exact Nat.not_lt.2 h1
    have hx2 : mult % 1001 * S * 1000000000 < fd * tt * 1 + tt := by
      have h1 := hx.2
      rw [hns1, hS, hfd] at h1
      rw [Nat.mul_one]; exact h1
    have hSl : S ≤ 4611686018427387904 := by omega
    refine ppq (.bool false) (eqf (((f : Nat) : Int)) ((1000000000) : Int) (by omega)) <| en_ <| s_ <| tqr_ [0, 1, 2, 3, 4] <| pkq (uN n) <| pkq (uN st) <| ppq (uN ns1) (exec_cast (congrArg (Value.int .u64) ((wrapU (n + st) (by omega)).trans (congrArg (fun n : Nat => (n : Int)) hns1))) (by kernel_rfl)) <| ppq (uN S) (exec_cast (congrArg (Value.int .u64) ((nat_min ns1 4611686018427387904).trans (congrArg (fun n : Nat => (n : Int)) hS))) (nexec_min (.tmp 159) (.const (.int .u64 4611686018427387904)) #[40, 40] (by kernel_rfl) .u64 ((ns1 : Nat) : Int) 4611686018427387904 (by kernel_rfl) (by kernel_rfl))) <| pkq (uN S) <| eqr_ [0, 1, 2, 3, 4] <| pkq (pT gp 8) <| ppq (uN ((mult % 1001))) (ldc 40 gp 8 (rc (h41) (rfl))) <| pkq (uN S) ?_
    refine pcq 30 #[uN ((mult % 1001)), uN S, .int .u64 1000000000] Tryz.func30 ((lntimes_ok (mult % 1001) S 1000000000 (by omega) (by omega) (by omega) _).mono ?_)
    rintro e V45 ⟨Xe, rfl, hXe, kV45⟩
    refine ⟨_, rfl, ?_⟩
    have h46 := kV45.bk h41
    have K48 := K43.nn kV45
    have z49 := kV45.size
    refine pkq (Xe) <| eqr_ [0, 1, 2, 3, 4, 5, 6] <| pkq (uN f) <| pkq (pT gp 7) <| ppq (uN ((base % 1000000001))) (ldc 40 gp 7 (rc (h46) (rfl))) <| ppq (uN fd) (exec_cast (congrArg (Value.int .u64) ((wrap_sub f (base % 1000000001) hf0 (by omega)).trans (congrArg (fun n : Nat => (n : Int)) hfd))) (by kernel_rfl)) <| pkq (uN tt) ?_
    refine pcq 30 #[uN fd, uN tt, .int .u64 1] Tryz.func30 ((lntimes_ok fd tt 1 (by omega) (by omega) (by omega) _).mono ?_)
    rintro e V50 ⟨Xw, rfl, hXw, kV50⟩
    refine ⟨_, rfl, ?_⟩
    have h53 : Sl V50 1 Gc Xe (dg ((mult % 1001) * S * 1000000000)) := hXe.keepsN kV50
    have K54 := K48.nn kV50
    have z55 := kV50.size
    refine pkq (Xw) <| eqr_ [0, 1, 2, 3, 4, 5, 6, 7, 8, 9, 10, 11, 12, 13, 14, 15] <| pkq (.bool true) <| pkq (.bool true) <| pkq (Xe) <| pkq (Xw) ?_
    refine pcq 31 #[Xe, Xw] Tryz.func31 ((kLess_no hx1 h53 hXw).mono ?_)
    rintro e V56 ⟨rfl, kV56⟩
    refine ⟨_, rfl, ?_⟩
    have h59 : Sl V56 1 Gc Xe (dg ((mult % 1001) * S * 1000000000)) := h53.keepsN kV56
    have h60 : Sl V56 1 Gc Xw (dg (fd * tt * 1)) := hXw.keepsN kV56
    have K61 := K54.nn kV56
    have z62 := kV56.size
    refine pkq (.bool true) <| pkq (.bool true) <| pkq (.bool true) <| pkq (Xe) <| pkq (Xw) <| pkq (uN tt) ?_
    refine pcq 33 #[uN tt] Tryz.func33 ((kGreat_ok tt (by omega) _).mono ?_)
    rintro e V63 ⟨Xt, rfl, hXt, kV63⟩
    refine ⟨_, rfl, ?_⟩
    have h66 : Sl V63 1 Gc Xe (dg ((mult % 1001) * S * 1000000000)) := h59.keepsN kV63
    have h67 : Sl V63 1 Gc Xw (dg (fd * tt * 1)) := h60.keepsN kV63
    have K68 := K61.nn kV63
    have z69 := kV63.size
    refine pcq 32 #[Xw, Xt] Tryz.func32 ((kSumGreat_ok Xw Xt (fd * tt * 1) tt (big_100 (by omega) (by omega) (by omega)) (small_100 (by omega)) _ h67 hXt).mono ?_)
    rintro e V70 ⟨Xs, rfl, hXs, kV70⟩
    refine ⟨_, rfl, ?_⟩
    have h73 : Sl V70 1 Gc Xe (dg ((mult % 1001) * S * 1000000000)) := h66.keepsN kV70
    have K76 := K68.nn kV70
    have z77 := kV70.size
    refine pcq 31 #[Xe, Xs] Tryz.func31 ((kLess_yes hx2 h73 hXs).mono ?_)
    rintro e V78 ⟨rfl, kV78⟩
    refine ⟨_, rfl, ?_⟩
    have K85 := K76.nn kV78
    have z86 := kV78.size
    refine pkq (.bool true) <| pkq (.bool true) <| ps_end <| sy_a ⟨#[uN base, uN mult, .int .i64 window, v3, .int .i64 (1 + (hw % 700)), uN st, uN mo, uN tt, uN le, ud, ud, ud, ud, ud, ud, ud, ud, ud, .bool true, .bool true, pT gp 0, X, .bool true, uN f, .int .i64 0, uN n, .int .i64 0, uN fa, .int .i64 0, uN fb, .int .i64 0, uN fn, .int .i64 0, uN S, Xe, Xw, .bool true, v3, iN ns.length, .bool false, ud, uN base, uN mult, .int .i64 window, .agg (pOf base mult window).cells, .tuple #[X, .bool true], v3, .tuple #[X, .bool true], X, .bool true, .int .i64 hw, .int .i64 (hw % 700), .int .i64 (1 + (hw % 700)), uN stake, uN st, uN more, uN mo, uN total, uN t0, uN tt, uN less, uN l0, uN le, .tuple #[uN f, .int .i64 0], .agg ((pOf base mult window).cells), X, .int .i64 (1 + (hw % 700)), uN st, uN tt, .tuple #[uN f, .int .i64 0], uN f, .int .i64 0, .tuple #[uN n, .int .i64 0], .agg ((pOf base mult window).cells), X, .int .i64 (1 + (hw % 700)), .tuple #[uN n, .int .i64 0], uN n, .int .i64 0, .bool true, .bool false, .bool false, .int .i64 0, .bool false, .bool false, .bool false, .int .i64 0, .bool false, .bool false, .bool false, uN f, pT gp 7, uN ((base % 1000000001)), .bool false, .bool false, .bool false, uN f, .bool false, .bool false, .tuple #[uN fa, .int .i64 0], .agg ((pOf base mult window).cells), X, .int .i64 (1 + (hw % 700)), uN st, uN mo, uN ((max st mo)), uN tt, .tuple #[uN fa, .int .i64 0], uN fa, .int .i64 0, .tuple #[uN fb, .int .i64 0], .agg ((pOf base mult window).cells), X, .int .i64 (1 + (hw % 700)), uN st, uN tt, uN le, uN ((max tt le)), .tuple #[uN fb, .int .i64 0], uN fb, .int .i64 0, .tuple #[uN fn, .int .i64 0], .agg ((pOf base mult window).cells), .int .i64 (1 + (hw % 700)), uN st, uN tt, .tuple #[uN fn, .int .i64 0], uN fn, .int .i64 0, .int .i64 0, .bool false, .bool false, .int .i64 0, .bool false, .bool false, .bool false, .int .i64 0, .bool false, .bool false, .bool false, uN fa, uN f, .bool false, .bool false, .bool false, uN fb, uN f, .bool false, .bool false, .bool false, uN fn, uN f, .bool false, .bool false, uN f, .bool false, ud, uN n, uN st, uN ns1, uN S, pT gp 8, uN ((mult % 1001)), uN S, Xe, uN f, pT gp 7, uN ((base % 1000000001)), uN fd, uN tt, Xw, .bool true, .bool true, Xe, Xw, .bool false, .bool true, .bool true, .bool true, Xe, Xw, uN tt, Xt, Xs, .bool true, .bool true], []⟩ <| then_n <| u_ <| so_ (.bool true) ?_
    exact ⟨rfl, K85⟩
theorem grows_ok (base mult : Nat) (window : Int) (v3 : Value) (ns : List Nat) (hw : Int) (stake more total less : Nat) (hb : base < 18446744073709551616) (hm : mult < 18446744073709551616) (hstk : stake < 18446744073709551616) (hmor : more < 18446744073709551616) (htot : total < 18446744073709551616) (hles : less < 18446744073709551616) (hnl : ∀ x ∈ ns, x < 18446744073709551616) (w : World) (hns : Sl w 1 Gc v3 ns) (het : ErrTab w) : Calls Tryz.prog 5 #[.int .u64 ((base : Nat) : Int), .int .u64 ((mult : Nat) : Int), .int .i64 window, v3, .int .i64 hw, .int .u64 ((stake : Nat) : Int), .int .u64 ((more : Nat) : Int), .int .u64 ((total : Nat) : Int), .int .u64 ((less : Nat) : Int)] w (fun e w' => e = .returned (.bool true) ∧ Keeps Nob w w') := by
  by_cases h20 : 20 < ns.length
  · exact grows_long base mult window v3 ns hw stake more total less hb hm hstk hmor htot hles hnl w hns het h20
  · exact grows_short base mult window v3 ns hw stake more total less hb hm hstk hmor htot hles hnl w hns het h20
theorem grows_all (base : Nat) (hb : base < 2 ^ 64) (mult : Nat) (hm : mult < 2 ^ 64) (window : Int) (_ : -9223372036854775808 ≤ window ∧ window ≤ 9223372036854775807) (v3 : Value) (ns : List Nat) (hw : Int) (_ : -9223372036854775808 ≤ hw ∧ hw ≤ 9223372036854775807) (stake : Nat) (hstk : stake < 2 ^ 64) (more : Nat) (hmor : more < 2 ^ 64) (total : Nat) (htot : total < 2 ^ 64) (less : Nat) (hles : less < 2 ^ 64) (w : World) (hns : Sl w 1 Gc v3 ns ∧ ∀ x ∈ ns, x < 18446744073709551616) (het : ErrTab w) : Calls Tryz.prog 5 #[.int .u64 ((base : Nat) : Int), .int .u64 ((mult : Nat) : Int), .int .i64 window, v3, .int .i64 hw, .int .u64 ((stake : Nat) : Int), .int .u64 ((more : Nat) : Int), .int .u64 ((total : Nat) : Int), .int .u64 ((less : Nat) : Int)] w (fun e w' => e = .returned (.bool true) ∧ Keeps Nob w w') :=
  grows_ok base mult window v3 ns hw stake more total less hb hm hstk hmor htot hles hns.2 w hns.1 het
end Go.Proofs.YtghohakbepeffaaGreatDoor
namespace Go.Proofs.YtghohakbepeffaaGreatDoor.penaltyGrows
open Go.ChangeShapes Go.WideShapes Go.ChangeAt Go.RowKit Go.Own
open Go.ChangeMaps (open_string shut_string)
theorem own : ownKnob Tryz.prog.godebug = none := by kernel_rfl
theorem laid : laidOutB Tryz.prog = true := by kernel_rfl
set_option maxRecDepth 100000 in
theorem lifted (os : Os) (started : os.Started) (H : Type) (enc : TypeId × Value → H) :
    ReturnsInHanded {} Tryz.checked os 5 .any (fun w args => (Rows.penaltyGrowsSpec.pre enc Tryz.prog Tryz.f5 Rows.penaltyGrowsRow.domain false w args ∧ laidMetH Tryz.prog Rows.penaltyGrowsRow.laid w) ∧ sizedMet enc Tryz.prog Tryz.f5 (OpenSpec.ofChange Rows.penaltyGrowsSpec) false w args)
      (Rows.penaltyGrowsSpec.post enc Tryz.prog Tryz.f5 false true false false) := by
  refine returnsInHanded_of_change_and (C := Tryz.checked) (X := fun w _ => laidMetH Tryz.prog Rows.penaltyGrowsRow.laid w) (fun _ _ _ hh h => h.of_heap hh) own started (by kernel_rfl) Tryz.func5
    (ChangeSpec.witness_at (enc := enc) (C := Tryz.checked) (os := os) (X := fun w _ => laidMetH Tryz.prog Rows.penaltyGrowsRow.laid w) false (laidWorld os) #[.int .u64 0, .int .u64 0, .int .i64 0, .slice none 0 0, .int .i64 0, .int .u64 0, .int .u64 0, .int .u64 0, .int .u64 0] 8 rfl (by kernel_rfl) (by kernel_rfl) (by kernel_rfl) (by kernel_rfl) (by kernel_rfl) (laidWorld_met os _)) ?_
  intro W base args ds gs before hval0 hW hcnd _ hL hsz0
  have hval : ∀ (j : Nat) t v, Tryz.f5.params[j]? = some t → args[j]? = some v → Value.okWide Tryz.prog W .any base t v := hval0
  have hW' := hW
  obtain ⟨p, q, hA0, hV, rfl, hfz, hnd⟩ := hW
  have hA : DataW.TrodAll enc Tryz.prog W 0 (fun _ => true) true Tryz.f5.params.toList args.toList ds p := hA0
  rw [Tryz.params5] at hA hval
  obtain ⟨v0, vs0, d0, ds0, p0, q0, hargs, rfl, rfl, h0, r0⟩ := trodAll_cons hA
  obtain ⟨v1, vs1, d1, ds1, p1, q1, rfl, rfl, rfl, h1, r1⟩ := trodAll_cons r0
  obtain ⟨v2, vs2, d2, ds2, p2, q2, rfl, rfl, rfl, h2, r2⟩ := trodAll_cons r1
  obtain ⟨v3, vs3, d3, ds3, p3, q3, rfl, rfl, rfl, h3, r3⟩ := trodAll_cons r2
  obtain ⟨v4, vs4, d4, ds4, p4, q4, rfl, rfl, rfl, h4, r4⟩ := trodAll_cons r3
  obtain ⟨v5, vs5, d5, ds5, p5, q5, rfl, rfl, rfl, h5, r5⟩ := trodAll_cons r4
  obtain ⟨v6, vs6, d6, ds6, p6, q6, rfl, rfl, rfl, h6, r6⟩ := trodAll_cons r5
  obtain ⟨v7, vs7, d7, ds7, p7, q7, rfl, rfl, rfl, h7, r7⟩ := trodAll_cons r6
  obtain ⟨v8, vs8, d8, ds8, p8, q8, rfl, rfl, rfl, h8, r8⟩ := trodAll_cons r7
  obtain ⟨rfl, rfl, rfl⟩ := trodAll_nil r8
  obtain rfl : args = #[v0, v1, v2, v3, v4, v5, v6, v7, v8] := by cases args; simp_all
  obtain ⟨rfl, rfl⟩ := trodVars_none hV
  obtain ⟨a0, rfl, rfl, rfl, w0⟩ := open_int Tryz.underlying40 (hval 0 40 v0 rfl rfl) h0
  obtain ⟨n0, hn0, rfl⟩ := u64_nat w0
  obtain ⟨a1, rfl, rfl, rfl, w1⟩ := open_int Tryz.underlying40 (hval 1 40 v1 rfl rfl) h1
  obtain ⟨n1, hn1, rfl⟩ := u64_nat w1
  obtain ⟨a2, rfl, rfl, rfl, w2⟩ := open_int Tryz.underlying3 (hval 2 3 v2 rfl rfl) h2
  obtain ⟨l3, hl3⟩ := open_words h3 (okWide_slice Tryz.underlying49 (hval 3 49 v3 rfl rfl))
  obtain ⟨a4, rfl, rfl, rfl, w4⟩ := open_int Tryz.underlying3 (hval 4 3 v4 rfl rfl) h4
  obtain ⟨a5, rfl, rfl, rfl, w5⟩ := open_int Tryz.underlying40 (hval 5 40 v5 rfl rfl) h5
  obtain ⟨n5, hn5, rfl⟩ := u64_nat w5
  obtain ⟨a6, rfl, rfl, rfl, w6⟩ := open_int Tryz.underlying40 (hval 6 40 v6 rfl rfl) h6
  obtain ⟨n6, hn6, rfl⟩ := u64_nat w6
  obtain ⟨a7, rfl, rfl, rfl, w7⟩ := open_int Tryz.underlying40 (hval 7 40 v7 rfl rfl) h7
  obtain ⟨n7, hn7, rfl⟩ := u64_nat w7
  obtain ⟨a8, rfl, rfl, rfl, w8⟩ := open_int Tryz.underlying40 (hval 8 40 v8 rfl rfl) h8
  obtain ⟨n8, hn8, rfl⟩ := u64_nat w8
  clear hA0 hval0
  refine (grows_all n0 hn0 n1 hn1 a2 (bounds_i64 w2) v3 l3 a4 (bounds_i64 w4) n5 hn5 n6 hn6 n7 hn7 n8 hn8 W hl3 (err_tab hL)).mono fun e W' ⟨he, hg⟩ => ?_
  subst he
  exact ⟨_, rfl, law_post laid (by kernel_rfl) rfl Tryz.underlying4 rfl rfl hW' (hg.below (Nat.le_refl _) (fun _ _ x => x))⟩
theorem row : Rows.PenaltyGrowsSaid :=
  OpenClaim.holds_of_wide 5 Tryz.f5 rfl rfl rfl rfl rfl rfl rfl ⟨rfl, rfl, rfl, rfl, rfl⟩ rfl rfl rfl rfl rfl (by kernel_rfl) Tryz.func5 (by kernel_rfl)
    (of_decide_eq_true (by kernel_rfl)) (by unfold Func.isWrapper; first | (rw [if_pos (by decide +kernel)]; kernel_rfl) | (rw [if_neg (by decide +kernel)]; exact ⟨rfl, rfl⟩))
    (fun os started H enc _ => lifted os started H enc)
theorem proved : Rows.PenaltyGrowsCardSaid :=
  Claim7.holds_tied_plain_at .later [] Rows.penaltyGrowsCard.laidKinds true Rows.penaltyGrowsCard.stood.harness Rows.penaltyGrowsCard.stood.looks row (fun _ h => by cases h) (by kernel_rfl) (fun _ h => by cases h) penaltyGrows_row_tie rfl ⟨rfl, rfl⟩ (by kernel_rfl) rfl
    (fun f fn hf hfn => by
      obtain rfl : f = 5 := Option.some.inj ((show Tryz.prog.funcNamed Rows.penaltyGrowsRow.func = some 5 by kernel_rfl).symm.trans hf) |>.symm
      obtain rfl : fn = Tryz.f5 := (Option.some.inj (Tryz.func5.symm.trans hfn)).symm
      exact ⟨by kernel_rfl, fun j t ht => by
        have hall : (Tryz.f5.params.toList.all fun u => !Tryz.prog.wantsStandIn u) = true := by kernel_rfl
        exact (show Tryz.prog.wantsStandIn t = false by simpa using List.all_eq_true.1 hall t (by simpa using Array.mem_of_getElem? ht))⟩)
    (by kernel_rfl)
end Go.Proofs.YtghohakbepeffaaGreatDoor.penaltyGrows
