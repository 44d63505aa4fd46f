import Derived.Test.YtkkecoodefjnbaaSpanO
import Derived.Test.YtkkecoodefjnbaaSpanP
namespace Go.Proofs.Ytkkecoodefjnbaa
open Go Go.RowKit Go.Own Go.Shelf

theorem SpanView.kept {w w' : World} {FP : Nat → Prop} {b j : Nat} {W E : Int} {view : Int → Option Int × Option Int} (h : SpanView w FP b W E view) (k : Keeps (Own.One j) w w') (hb : b ≠ j) (hj : ¬ FP j) : SpanView w' FP b W E view :=
  h.of_keeps k (fun x => hb (by unfold Own.One at x; exact x)) (fun i hi x => hj (by unfold Own.One at x; exact x ▸ hi)) (fun _ x => x) h.nb (fun i hi => Nat.lt_of_lt_of_le (h.fp i hi) k.size)
theorem SpanView.still {w w' : World} {FP : Nat → Prop} {b : Nat} {W E : Int} {view : Int → Option Int × Option Int} (h : SpanView w FP b W E view) (k : Keeps Nob w w') : SpanView w' FP b W E view :=
  h.of_keeps k (fun x => x) (fun _ _ x => x) (fun _ x => x) h.nb (fun i hi => Nat.lt_of_lt_of_le (h.fp i hi) k.size)

/-- Behind a step that turns one block that is none of it. -/
theorem PlayedAt.apart {w w' : World} {FP M : Nat → Prop} {bp b j : Nat} {W E : Int} {L : List (Int × Int)} (h : PlayedAt w FP M bp b W E L) (k : Keeps (Own.One j) w w') (hb : b ≠ j) (hF : ¬ FP j) (hM : ¬ M j) : PlayedAt w' FP M bp b W E L := by
  obtain ⟨cs, hc⟩ := h.shape
  obtain ⟨v, p1, p2, p3, p4⟩ := h.row
  have hbp := h.ml bp h.mp
  have hne : ∀ i, M i → ¬ Own.One j i := fun i hi e => hM (by unfold Own.One at e; exact e ▸ hi)
  exact ⟨h.sp.kept k hb hF, ⟨cs, (k.block bp hbp (hne bp h.mp)).trans hc⟩, (k.cell hbp (hne bp h.mp)).trans h.c0, ⟨v, (k.cell hbp (hne bp h.mp)).trans p1, p2.keeps k (fun i hi => hne i (p4 i hi)), p3, p4⟩, h.mp, h.mb, h.fm,
    fun i hi => Nat.lt_of_lt_of_le (h.ml i hi) k.size, h.top, h.fit⟩

set_option maxRecDepth 100000 in
set_option maxHeartbeats 4000000 in
theorem order_ok (a0 : Int) (w0 : (Lit.int .i64 a0).wf = true) (v : Value) (l : List Int) (vs : Value) (ls : List Int) (w : World) (hv : IntsAt w v l) (hvs : IntsAt w vs ls) :
    Calls Try.prog 7 #[.int .i64 a0, v, vs] w fun e w' => e = .returned (.bool true) ∧ Keeps Nob w w' := by
  obtain ⟨p, cap, rfl⟩ := hv.len
  obtain ⟨ps, caps, rfl⟩ := hvs.len
  by_cases hl : l.length ≤ 40
  · by_cases hls : ls.length ≤ 10
    · have W1 : 0 ≤ a0 % 12 := by omega
      have W2 : a0 % 12 < 12 := by omega
      have PK0 := Lib.hid (fun V => pick_ok a0 12 V (bounds_i64 w0) (by omega) (by omega))
      have HV := Lib.hid hv
      have HVS := Lib.hid hvs
      clear hv hvs
      obtain ⟨p0, hp0⟩ : ∃ p0, a0 % 12 = p0 := ⟨_, rfl⟩
      rw [hp0] at W1 W2 PK0
      go_enter Try.func7, Try.ntmps7
      go_wp2_with (first
        | (go_at_call 3; refine (known_ok _).mono ?_; rintro e V0 ⟨rfl, hk0⟩)
        | (go_at_call 18; refine (PK0.out _).mono ?_; rintro e V1 ⟨rfl, rfl⟩)
        | (go_at_call 19; refine (plays_ok (1 + p0) (by omega) (by omega) _ l _ (by omega) (HV.out.keeps hk0)).mono ?_; rintro e V2 ⟨bp, b, FP, M, E, L, rfl, HP, hLn, hE, hk2, hb, hM⟩))
      generalize hWW : 1 + p0 = W at *
      have hW1 := HP.sp.w1
      have hW2 : W ≤ 256 := HP.sp.w2
      have hE0 := HP.sp.e1
      obtain ⟨lo, hlo⟩ : ∃ lo, max 0 (E - W + 1) = lo := ⟨_, rfl⟩
      have hl0 : 0 ≤ lo := by omega
      have hl1 : lo ≤ E := by omega
      have hle : lo ≤ lowOf W E ∧ lowOf W E ≤ lo := by unfold lowOf; omega
      have cells := HP.sp.cells
      have cc0 := HP.c0
      have LOW := Lib.hid (fun V (h : V.cell? ⟨b, 0, none⟩ = some (.int .i64 W)) (h1 : V.cell? ⟨b, 1, none⟩ = some (.int .i64 E)) => span_low b W E V h h1 cells.2.2.1 HP.sp.w1 HP.sp.w2 HP.sp.e1 HP.sp.e2)
      rw [hlo] at LOW
      clear hlo hWW hp0
      have hwb : w.heap.size ≤ b := Nat.le_trans hk0.size hb
      have hws : w.heap.size ≤ V2.heap.size := (hk0.trans hk2).size
      have HPH := Lib.hid HP
      have HKH := Lib.hid (hk0.trans hk2)
      clear HP hk0 hk2 hM
      go_wp2_with fail
      go_quiet (first | (go_at_call 13; exact Calls.quiet_drew (LOW.out _ cells.1 cells.2.1)) | (go_at_call 15; exact Calls.quiet_eq (span_epoch b W E _ cells.1 cells.2.1 cells.2.2.1)))
      have hk3 : Keeps Nob V2 (V2.drewN nq) := (Keeps.refl _ _).drewN _
      have HP3 := Lib.hid (HPH.out.keep hk3)
      have HK3 := Lib.hid (HKH.out.trans hk3)
      have hws : w.heap.size ≤ (V2.drewN nq).heap.size := hws
      clear HPH HKH hk3 cells cc0 LOW
      generalize V2.drewN nq = V3 at *
      have he0 : moveErr 0 E = 0 := by unfold moveErr; rw [if_neg (by omega), if_neg (by omega)]
      go_wp2_with (first
        | (go_at_call 16; refine (span_new_view W _ hW1 hW2).mono ?_; rintro x V4 ⟨rfl, hv4, hk4, hs4⟩)
        | (go_at_call 12; refine (move_any V3.heap.size W 0 E _ Nob (viewOf []) hv4 (fun x _ => rfl) 0 E he0 rfl).mono ?_; rintro x V5 ⟨rfl, hv5, hk5⟩; have HP5 := Lib.hid ((HP3.out.keep hk4).apart hk5 (by have := HP3.out.sp.cells.2.2.2.1; omega) (fun x => by have := HP3.out.sp.fp _ x; omega) (fun x => by have := HP3.out.ml _ x; omega)); have c5 := HP5.out.c0; obtain ⟨v5, c51, hv55⟩ := HP5.out.vote; obtain ⟨o5, cp5, rfl⟩ : ∃ o cp, v5 = .slice o L.length cp := by rcases hv55 with ⟨rfl, rfl⟩ | ⟨gb, cap2, rfl, _⟩ <;> exact ⟨_, _, rfl⟩))
      have hbl := HP3.out.sp.cells.2.2.2.1
      have nF : ¬ FP V3.heap.size := fun x => by have := HP3.out.sp.fp _ x; omega
      have nM : ¬ M V3.heap.size := fun x => by have := HP3.out.ml _ x; omega
      have hsz5 : V3.heap.size < V5.heap.size := by have a := hk5.size; have a2 := hk4.size; have a1 : V4.heap.size = V3.heap.size + 1 := hs4; omega
      have HK5 := Lib.hid ((HK3.out.trans hk4).then hk5 (fun i hi x => by unfold Own.One at x; omega))
      have HS5 := Lib.hid hv5
      clear hv4 hk4 hs4 hk5 hv5 HK3 HP3 c5 c51 hv55 hb
      generalize V3.heap.size = b2 at *
      clear V4 V3
      have HV := HVS; clear HVS
      go_loopg [13] L.length (fun g i V => ∃ (k : Nat) (I : Int) (Y : List (Int × Int)) (FP2 : Nat → Prop), k ≤ L.length ∧ g = k ∧ i = .int .i64 I ∧ (k : Int) = I + 1 ∧ Hid (PlayedAt V FP M bp b W E L) ∧ Hid (SpanView V FP2 b2 W E (viewOf Y)) ∧ Hid (Same lo Y (L.drop k)) ∧ Hid (¬ FP2 b) ∧ Hid (Keeps Nob w V))
      case atStart => exact ⟨L.length, _, [], Nob, Nat.le_refl _, by omega, rfl, by omega, HP5, HS5, Lib.hid (Same.start lo L), Lib.hid (fun x => x), HK5⟩
      case round =>
        obtain ⟨k, I, Y, FP2, hk, hg, rfl, hI, HP, HS, HM, HF2, HK⟩ := hrel
        clear HP5 HS5 HK5
        have cc := HP.out.c0
        have scells := HP.out.sp.cells
        have hbr := scells.2.2.2.1
        have hb2r := HS.out.cells.2.2.2.1
        obtain ⟨v5, c51, hv55⟩ := HP.out.vote
        rcases Nat.eq_zero_or_pos k with hk0 | hk0
        · have hI' : I = -1 := by omega
          subst hI'
          subst hk0
          have hsame := HM.out.fin
          go_wp2_with (go_at_call 26; refine (span_copy b W E _ FP (viewOf L) HP.out.sp).mono ?_; rintro x V6 ⟨rfl, hv6, hv6b, hk6, hs6⟩)
          have sC := hk6.size
          have HP6 := Lib.hid (HP.out.keep hk6)
          have HC6 := Lib.hid hv6
          have HS6 := Lib.hid (HS.out.still hk6)
          have HK6 := Lib.hid (HK.out.trans hk6)
          have hw3 : w.heap.size ≤ wr.heap.size := HK.out.size
          have hb3 : wr.heap.size ≠ b := by omega
          have hb32 : wr.heap.size ≠ b2 := by omega
          have nF3 : ¬ FP wr.heap.size := fun x => by have := HP.out.sp.fp _ x; omega
          have nM3 : ¬ M wr.heap.size := fun x => by have := HP.out.ml _ x; omega
          have nG3 : ¬ FP2 wr.heap.size := fun x => by have := HS.out.fp _ x; omega
          have HSAME := Lib.hid hsame
          have htopL := Lib.hid (fun v hv => HP.out.top v hv)
          have hfitL := Lib.hid (HP.out.fit)
          have cc6 := HP6.out.c0
          clear hsame HM hv6 hv6b hk6 HS HP HK cc c51 hv55 scells hI hg hk
          generalize wr.heap.size = b3 at *
          clear wr
          go_loopg [17, 18] ls.length (fun g e i V => ∃ (k : Nat) (Z : Int), k ≤ ls.length ∧ g = ls.length - k ∧ i = .int .i64 k ∧ e = .int .i64 Z ∧ E ≤ Z ∧ Z ≤ E + 3 * k ∧ Hid (SpanView V FP b3 W Z (viewOf L)) ∧ Hid (Keeps (Own.One b3) V6 V))
          case atStart => exact ⟨0, E, by omega, by omega, rfl, rfl, by omega, by omega, HC6, Lib.hid (Keeps.refl _ _)⟩
          case round =>
            obtain ⟨k, Z, hk, hg, rfl, rfl, hZ1, hZ2, HC, HKC⟩ := hrel
            have HG := Lib.hid hg; clear hg
            by_cases hlt : k < ls.length
            · obtain ⟨x, hx⟩ : ∃ x, ls[k]? = some x := ⟨ls[k], List.getElem?_eq_getElem hlt⟩
              have hkw : Keeps Nob w wr := HK6.out.then HKC.out (fun i hi x => by unfold Own.One at x; omega)
              obtain ⟨bx1, bx2, bl, ol, cl, hvl, hbl2, q0⟩ := HV.out.at_ k _ hx
              simp only [Value.slice.injEq, true_and] at hvl
              obtain ⟨rfl, rfl⟩ := hvl
              have p0 := (hkw.cell hbl2 (fun x => x)).trans q0
              clear q0 hx hkw
              have d0 : 0 ≤ x % 4 := by omega
              have d1 : x % 4 < 4 := by omega
              have PK := Lib.hid (fun V => pick_ok x 4 V ⟨bx1, bx2⟩ (by omega) (by omega))
              obtain ⟨d, hd⟩ : ∃ d, x % 4 = d := ⟨_, rfl⟩
              rw [hd] at d0 d1 PK
              clear hd
              have hm : moveErr Z (Z + d) = 0 := by unfold moveErr; rw [if_neg (by omega), if_neg (by omega)]
              have HMV := Lib.hid hm; clear hm
              go_wp2_with (first
                | (go_at_call 18; refine (PK.out _).mono ?_; rintro e V ⟨rfl, rfl⟩)
                | (go_at_call 12; refine (move_any b3 W Z (Z + d) _ FP (viewOf L) HC.out (fun y hy => viewOf_above L E y htopL.out (by omega)) 0 (Z + d) HMV.out rfl).mono ?_; rintro e V ⟨rfl, hsp, hq⟩))
              go_roundg (ls.length - (k + 1))
              case measure => have := HG.out; omega
              case rel => exact ⟨k + 1, Z + d, by omega, rfl, by go_num, rfl, by omega, by omega, Lib.hid hsp, Lib.hid (HKC.out.trans hq)⟩
            · have h1 : decide ((k : Int) < (ls.length : Int)) = false := by simp; omega
              have HPC := HP6.out.apart HKC.out (by omega) nF3 nM3
              have HSC := Lib.hid (HS6.out.kept HKC.out (by omega) nG3)
              have cc := HPC.c0
              have scells := HPC.sp.cells
              have HPC := Lib.hid HPC
              have hb2r := HSC.out.cells.2.2.2.1
              have hm : moveErr E Z = 0 := by unfold moveErr; rw [if_neg (by omega), if_neg (by omega)]
              have htopY : ∀ v ∈ Y, v.1 ≤ v.2 ∧ v.2 ≤ E := fun v hv => htopL.out v ((HSAME.out v).1 hv).1
              have HMV := Lib.hid hm; clear hm
              obtain ⟨lz, hlz⟩ : ∃ lz, max 0 (Z - W + 1) = lz := ⟨_, rfl⟩
              have hz1 : lo ≤ lz := by unfold lowOf at hle; omega
              have hz2 : lz ≤ Z := by omega
              have hzl : lz ≤ lowOf W Z ∧ lowOf W Z ≤ lz := by unfold lowOf; omega
              have LZ := fun V (h : SpanView V FP b3 W Z (viewOf L)) => span_low b3 W Z V h.cells.1 h.cells.2.1 h.cells.2.2.1 h.w1 h.w2 h.e1 h.e2
              have LY := fun V (h : SpanView V FP2 b2 W Z (viewOf Y)) => span_low b2 W Z V h.cells.1 h.cells.2.1 h.cells.2.2.1 h.w1 h.w2 h.e1 h.e2
              rw [hlz] at LZ LY
              clear hlz hle
              have HKC6 := Lib.hid (HK6.out.then HKC.out (fun i hi x => by unfold Own.One at x; omega))
              go_wp2_with (first
                | (go_at_call 15; refine (span_epoch b W E _ scells.1 scells.2.1 scells.2.2.1).mono ?_; rintro e V ⟨rfl, rfl⟩)
                | (go_at_call 12; refine (move_any b2 W E Z _ FP2 (viewOf Y) HSC.out (fun y hy => viewOf_above Y E y htopY (by omega)) 0 Z HMV.out rfl).mono ?_; rintro e V7 ⟨rfl, hsp7, hq7⟩; have HC7 := Lib.hid (HC.out.kept hq7 (by omega) nF))
                | (go_at_call 13; refine (LZ _ HC7.out).mono ?_; rintro e V8 ⟨rfl, rfl⟩))
              have kd : Keeps Nob V7 V7.drew := (Keeps.refl _ _).drew
              have HC8 := Lib.hid (HC7.out.still kd)
              have HS8 := Lib.hid (hsp7.still kd)
              have HK8 := Lib.hid ((HKC6.out.then hq7 (fun i hi x => by unfold Own.One at x; omega)).trans kd)
              clear HC7 hsp7 kd hq7 HSC HPC scells cc HC HKC HKC6
              generalize V7.drew = V8 at *
              go_loopg [19] (Z - lz + 1).toNat (fun g i V => ∃ K : Int, i = .int .i64 K ∧ g = (Z - K + 1).toNat ∧ lz ≤ K ∧ K ≤ Z + 1 ∧ Hid (SpanView V FP b3 W Z (viewOf L)) ∧ Hid (SpanView V FP2 b2 W Z (viewOf Y)) ∧ Hid (Keeps Nob w V))
              case atStart => exact ⟨lz, rfl, rfl, by omega, by omega, HC8, HS8, HK8⟩
              case round =>
                obtain ⟨K, rfl, hg, hK1, hK2, HC, HS, HK⟩ := hrel
                clear HC8 HS8 HK8
                by_cases hK : K ≤ Z
                · have hq := view_same lo K Y L hfitL.out HSAME.out (by omega)
                  have MN := fun V h => span_min b3 W Z K V FP (viewOf L) h
                  have MX := fun V h => span_max b3 W Z K V FP (viewOf L) h
                  have YN := fun V h => span_min b2 W Z K V FP2 (viewOf Y) h
                  have YX := fun V h => span_max b2 W Z K V FP2 (viewOf Y) h
                  rw [hq] at YN YX
                  generalize (tellOf W Z K (viewOf L K).1).1 = n1 at *
                  generalize (tellOf W Z K (viewOf L K).1).2 = i1 at *
                  generalize (tellOf W Z K (viewOf L K).2).1 = n2 at *
                  generalize (tellOf W Z K (viewOf L K).2).2 = i2 at *
                  have MN := Lib.hid MN; have MX := Lib.hid MX; have YN := Lib.hid YN; have YX := Lib.hid YX
                  clear hq
                  have ne3 : b3 ≠ b2 := hb32
                  have gx1 : (i1 != i1) = false := by simp
                  have gx2 : (i2 != i2) = false := by simp
                  go_wp2_with fail
                  refine (MN.out _ HC.out).mono ?_
                  rintro x Va ⟨rfl, ha, qa⟩
                  have sa := HS.out.kept qa (by omega) nG3
                  have ka := HK.out.then qa (fun i hi x => by unfold Own.One at x; omega)
                  go_wp2_with fail
                  refine (YN.out _ sa).mono ?_
                  rintro x Vb ⟨rfl, hb, qb⟩
                  have sb := ha.kept qb (by omega) nF
                  have kb := ka.then qb (fun i hi x => by unfold Own.One at x; omega)
                  go_wp2_with fail
                  refine (MX.out _ sb).mono ?_
                  rintro x Vc ⟨rfl, hc, qc⟩
                  have sc := hb.kept qc (by omega) nG3
                  have kc := kb.then qc (fun i hi x => by unfold Own.One at x; omega)
                  go_wp2_with fail
                  refine (YX.out _ sc).mono ?_
                  rintro x Vd ⟨rfl, hd, qd⟩
                  have sd := Lib.hid (hc.kept qd (by omega) nF)
                  have kd := Lib.hid (kc.then qd (fun i hi x => by unfold Own.One at x; omega))
                  have hd := Lib.hid hd
                  clear ha hb hc sa sb sc ka kb kc qa qb qc qd
                  go_wp2_with fail
                  go_roundg (Z - (K + 1) + 1).toNat
                  case measure => omega
                  case rel => exact ⟨K + 1, by go_num, rfl, by omega, by omega, sd, hd, kd⟩
                · have gK : decide (K ≤ Z) = false := by simp; omega
                  go_wp2_with fail
                  refine (LZ _ HC.out).mono ?_
                  rintro e Va ⟨rfl, rfl⟩
                  go_wp2_with fail
                  refine (LY _ (HS.out.still ((Keeps.refl _ _).drew))).mono ?_
                  rintro e Vb ⟨rfl, rfl⟩
                  go_wp2_with fail
                  go_ret
                  exact ⟨rfl, (HK.out.drew).drew⟩
        · obtain ⟨j, rfl⟩ : ∃ j, k = j + 1 := ⟨k - 1, by omega⟩
          obtain rfl : I = (j : Int) := by omega
          rcases hv55 with ⟨rfl, rfl⟩ | ⟨gb, cap2, rfl, hgb, _, _, hcap, hcm, hcells⟩
          · simp at hk
          · unfold maxLen at hcm
            obtain ⟨⟨s, t⟩, hst⟩ : ∃ x, L[j]? = some x := ⟨L[j], List.getElem?_eq_getElem (by omega)⟩
            obtain ⟨p1, p2⟩ := hcells j s t hst
            clear hcells
            have hfit := HP.out.fit (s, t) (List.mem_of_getElem? hst)
            have htop := HP.out.top (s, t) (List.mem_of_getElem? hst)
            have f1 : 0 ≤ s := hfit.1
            have f2 : s ≤ t := hfit.2
            have f3 : t ≤ E := htop.2
            clear hfit htop
            have HST := Lib.hid hst; clear hst
            by_cases ht : t < lo
            · have he : putErr W E s t = 16 := by unfold putErr; rw [if_neg (by omega), if_neg (by omega), if_pos (by omega)]
              have HE := Lib.hid he; clear he
              have gd : decide (lo ≤ t) = false := by simp; omega
              go_wp2_with fail
              have ka : Keeps Nob wr (wr.alloc (.cells #[.int .i64 s, .int .i64 t] 40)) := (Keeps.refl _ _).alloc _
              have qa : ∀ o, (wr.alloc (.cells #[.int .i64 s, .int .i64 t] 40)).cell? ⟨wr.heap.size, o, none⟩ = (#[Value.int .i64 s, .int .i64 t])[o]? := fun o => World.cell?_alloc_at _ _ _ _ rfl
              have sa : wr.heap.size < (wr.alloc (.cells #[.int .i64 s, .int .i64 t] 40)).heap.size := by simp
              refine (put_no b2 W E s t _ FP2 _ (HS.out.still ka) 16 HE.out (by decide)).mono ?_
              rintro x Va ⟨rfl, hsa, hqa⟩
              have q0 := (hqa.cell (i := 0) sa (fun x => by unfold Own.One at x; omega)).trans (qa 0)
              have q1 := (hqa.cell (i := 1) sa (fun x => by unfold Own.One at x; omega)).trans (qa 1)
              have sb : wr.heap.size < Va.heap.size := Nat.lt_of_lt_of_le sa hqa.size
              go_wp2_with fail
              refine (put_no b2 W E s t _ FP2 _ hsa 16 HE.out (by decide)).mono ?_
              rintro x Vb ⟨rfl, hsb, hqb⟩
              have q2 := (hqb.cell (i := 1) sb (fun x => by unfold Own.One at x; omega)).trans q1
              have HSB := Lib.hid hsb; clear hsb
              have HPB := Lib.hid (((HP.out.keep ka).apart hqa (by omega) nF nM).apart hqb (by omega) nF nM)
              have HKB := Lib.hid (((HK.out.trans ka).then hqa (fun i hi x => by unfold Own.One at x; omega)).then hqb (fun i hi x => by unfold Own.One at x; omega))
              clear hsa hqa hqb ka qa
              go_wp2_with fail
              go_roundg j
              case measure => omega
              case rel => exact ⟨j, _, Y, FP2, by omega, rfl, rfl, by omega, HPB, HSB, Lib.hid (HM.out.skip HST.out ht), HF2, HKB⟩
            · have he : putErr W E s t = 0 := by unfold putErr; rw [if_neg (by omega), if_neg (by omega), if_neg (by omega), if_neg (by omega)]
              have HE := Lib.hid he; clear he
              have gd : lo ≤ t := by omega
              go_wp2_with fail
              have ka : Keeps Nob wr (wr.alloc (.cells #[.int .i64 s, .int .i64 t] 40)) := (Keeps.refl _ _).alloc _
              have qa : ∀ o, (wr.alloc (.cells #[.int .i64 s, .int .i64 t] 40)).cell? ⟨wr.heap.size, o, none⟩ = (#[Value.int .i64 s, .int .i64 t])[o]? := fun o => World.cell?_alloc_at _ _ _ _ rfl
              have sa : wr.heap.size < (wr.alloc (.cells #[.int .i64 s, .int .i64 t] 40)).heap.size := by simp
              refine (put_yes b2 W E s t _ FP2 _ (HS.out.still ka) HE.out).mono ?_
              rintro x Va ⟨rfl, hsa, hqa⟩
              have q0 := (hqa.cell (i := 0) sa (fun x => by unfold Own.One at x; omega)).trans (qa 0)
              have q1 := (hqa.cell (i := 1) sa (fun x => by unfold Own.One at x; omega)).trans (qa 1)
              have sb : wr.heap.size < Va.heap.size := Nat.lt_of_lt_of_le sa hqa.size
              rw [viewOf_snoc'] at hsa
              go_wp2_with fail
              refine (put_yes b2 W E s t _ _ _ hsa HE.out).mono ?_
              rintro x Vb ⟨rfl, hsb, hqb⟩
              rw [viewOf_snoc'] at hsb
              have q2 := (hqb.cell (i := 1) sb (fun x => by unfold Own.One at x; omega)).trans q1
              have HSB := Lib.hid hsb; clear hsb
              have HPB := Lib.hid (((HP.out.keep ka).apart hqa (by omega) nF nM).apart hqb (by omega) nF nM)
              have HKB := Lib.hid (((HK.out.trans ka).then hqa (fun i hi x => by unfold Own.One at x; omega)).then hqb (fun i hi x => by unfold Own.One at x; omega))
              clear hsa hqa hqb ka qa
              go_wp2_with fail
              go_roundg j
              case measure => omega
              case rel => exact ⟨j, _, _, _, by omega, rfl, rfl, by omega, HPB, HSB, Lib.hid (HM.out.twice HST.out gd), Lib.hid (fun x => x.elim (fun x => x.elim HF2.out (fun y => by simp at y; omega)) (fun y => by omega)), HKB⟩
    · go_enter Try.func7, Try.ntmps7
      go_wp2_with (go_at_call 3; refine (known_ok _).mono ?_; rintro e V0 ⟨rfl, hk0⟩)
      go_ret
      exact ⟨rfl, hk0⟩
  · go_enter Try.func7, Try.ntmps7
    go_wp2_with (go_at_call 3; refine (known_ok _).mono ?_; rintro e V0 ⟨rfl, hk0⟩)
    go_ret
    exact ⟨rfl, hk0⟩
end Go.Proofs.Ytkkecoodefjnbaa
