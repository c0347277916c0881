/- LedgerHands: a shard handed on and on ends with whom it was given to. -/
import Derived.Test.YtecdmbcdkfjgfaaX0
import Derived.Test.YtecdmbcdkfjgfaaP7
namespace Go.Proofs.Ytecdmbcdkfjgfaa
set_option linter.unusedVariables false
set_option linter.unusedSimpArgs false
open Go.RowKit Go.Deep Go.Proofs.YtecdmbcdkfjgfaaW.PrintLast

theorem opens_ints (W : World) : Opens Try.prog W 44 (Rd.slice i64R 8) :=
  opens_slice Try.underlying44 (opens_i64 W) (by kernel_rfl) (by decide) (by kernel_rfl)
theorem int_at {w : World} {A : Option Addr} {xs : List Int} (h : i64R.elems w A xs) {i : Nat} (hi : i < xs.length) : ∃ b o, A = some ⟨b, o, none⟩ ∧ w.cell? ⟨b, o + i, none⟩ = some (.int .i64 xs[i]) := by
  obtain ⟨b, o, cs, hA, ⟨rfl, h1⟩, hc⟩ := h i xs[i] (List.getElem?_eq_getElem hi)
  refine ⟨b, o, hA, ?_⟩
  have := hc 0 _ rfl
  rwa [show o + i * i64R.sz + 0 = o + i by rw [show i64R.sz = 1 from rfl]; omega] at this
/-- A world at rest: the server ow owns the shard at the epoch ep. -/
def Hs (b : Nat) (w : World) (W : Wd) (n : Nat) (ow : Nat) (ep : Int) : Prop := ∃ g c s sv O, Rep w b g c s sv W ∧ Good W ep ow O ∧ Quiet W ow ∧ (at0 W.row ow).ph = 1 ∧ W.row.length = n ∧ (W.sent.length : Int) ≤ 5 * ep ∧ b ≤ g ∧ b ≤ s
theorem hs_begun {w w' : World} {n k : Nat} (n8 : n ≤ 8) (hn : k < n) (h : Begun w w' (beganW n k)) : Hs w.heap.size w' (beganW n k) n k 0 ∧ Below w.heap.size w w' := by
  obtain ⟨g, c, hg, hB, R⟩ := h
  have hl : (beganW n k).row.length = n := by simp [beganW]
  have A := fun (i : Int) i0 iN => began_at (n := n) (home := k) (i := i) i0 iN
  refine ⟨⟨g, c, _, _, _, R, began_good n8 (by omega) (by omega), ⟨fun i i0 iN hi => ?_, ?_⟩, ?_, hl, by simp [beganW], hg, Nat.le_refl _⟩, hB⟩
  · rw [A i i0 (by omega)]; left; simp [beginL, hi]
  · rw [A k (by omega) (by omega)]; left; simp [beginL]
  · rw [A k (by omega) (by omega)]; simp [beginL]
set_option maxRecDepth 100000 in
set_option maxHeartbeats 8000000 in
theorem LedgerHands_walk (w : World) (sr : Int) (hsr : (Lit.int .i64 sr).wf = true) (hm : Int) (hhm : (Lit.int .i64 hm).wf = true) (A : Option Addr) (cap : Nat) (xs : List Int) (hc : xs.length ≤ cap) (hmx : cap ≤ maxLen) (hb : xs.length * 8 ≤ reach) (hn : A = none → cap = 0) (he : i64R.elems w A xs) :
    Calls Try.prog 7 #[.int .i64 sr, .int .i64 hm, .slice A xs.length cap] w fun e w' => e = .returned (.bool true) ∧ Below w.heap.size w w' := by
  have hlen := reach_maxLen (by decide) hb
  have BG := Lib.hid (fun w => began_any sr hm w)
  have r0 := Int.emod_nonneg sr (b := 8) (by decide)
  have r1 := Int.emod_lt_of_pos sr (b := 8) (by decide)
  obtain ⟨n, hnn⟩ : ∃ n : Nat, 1 + sr % 8 = (n : Int) := ⟨(1 + sr % 8).toNat, by omega⟩
  rw [hnn, Int.toNat_natCast] at BG
  have n8 : n ≤ 8 := by omega
  have n1 : 1 ≤ n := by omega
  have h0 := Int.emod_nonneg hm (b := (n : Int)) (by omega)
  have h1 := Int.emod_lt_of_pos hm (b := (n : Int)) (by omega)
  have PH := Lib.hid (fun w => place_any hm n (by omega) (by omega) w)
  obtain ⟨hk, hhk⟩ := Int.eq_ofNat_of_zero_le h0
  rw [hhk] at BG PH h1
  have hkn : hk < n := by omega
  have HE := Lib.hid he
  clear hmx hb hn hsr hhm he r0 r1 hnn h0 hhk
  go_enter Try.func7, Try.ntmps7
  go_wp2_with (fail)
  refine (known_any _).mono ?_
  rintro e w1 ⟨rfl, hb1⟩
  have K1 := Lib.hid hb1
  clear hb1
  go_wp2_with (fail)
  refine (BG.out _).mono ?_
  rintro e w2 ⟨rfl, hbe⟩
  obtain ⟨S2, hb2⟩ := hs_begun n8 hkn hbe
  have K2 := Lib.hid (K1.out.trans (hb2.mono K1.out.size))
  have hz := Lib.hid (show w.heap.size ≤ w1.heap.size from K1.out.size)
  have S0 := S2
  obtain ⟨g, c, s, sv, O, R, _, _, _, hl, _⟩ := S0
  have e0 := R.c0
  rw [hl] at e0
  have HS := Lib.hid S2
  clear hb2 hbe S2 R hl K1
  generalize w1.heap.size = b at *
  generalize beganW n hk = W0 at *
  go_wp2_with (fail)
  refine (PH.out _).mono ?_
  rintro e w3 ⟨rfl, rfl⟩
  clear e0
  go_wp2_with (fail)
  refine wp_loop_ghost_k (fun (m : Nat) (ac : Act) (wr : World) => ∃ u0 u1 u3 u4 u5 u6 u12 u13 u14 u15 u16 u17 u18 u19 u20 u21 u22 u23 u24 u25 u26 u27 u28 u29 u30 u31 u32 u33 u34 u35 u36 u37 u38 u39 u40 u41 u42 u43 u44 u45 u46 u47 u48 u49 u50 u51 u52 u53 u54 u55 u56 u57 u58 u59 u60 u61 u62 u63 u64 u65 u66 u67 u68 u69 u70 u71 u72 u73 u74 u75 u76 u77 u78 u79 u80 v9 v10 v11 : Value, (∃ (i : Nat) (W : Wd) (ow : Nat) (ep : Int), m + i = xs.length ∧ v11 = .int .i64 i ∧ v9 = .int .i64 ow ∧ v10 = .int .i64 ep ∧ Hs b wr W n ow ep ∧ Below w.heap.size w wr) ∧ ac = ({ tmps := #[u0, u1, .slice A xs.length cap, u3, u4, u5, u6, .pointer (some ⟨b, 0, none⟩), .int .i64 n, v9, v10, v11, u12, u13, u14, u15, u16, u17, u18, u19, u20, u21, u22, u23, u24, u25, u26, u27, u28, u29, u30, u31, u32, u33, u34, u35, u36, u37, u38, u39, u40, u41, u42, u43, u44, u45, u46, u47, u48, u49, u50, u51, u52, u53, u54, u55, u56, u57, u58, u59, u60, u61, u62, u63, u64, u65, u66, u67, u68, u69, u70, u71, u72, u73, u74, u75, u76, u77, u78, u79, u80], defers := [] } : Act)) (xs.length) ?atStart ?round
  case' atStart => ((repeat apply Exists.intro); refine ⟨?_, rfl⟩)
  case' round => (intro m ac wr hcut; obtain ⟨u0, hcut⟩ := hcut; obtain ⟨u1, hcut⟩ := hcut; obtain ⟨u3, hcut⟩ := hcut; obtain ⟨u4, hcut⟩ := hcut; obtain ⟨u5, hcut⟩ := hcut; obtain ⟨u6, hcut⟩ := hcut; obtain ⟨u12, hcut⟩ := hcut; obtain ⟨u13, hcut⟩ := hcut; obtain ⟨u14, hcut⟩ := hcut; obtain ⟨u15, hcut⟩ := hcut; obtain ⟨u16, hcut⟩ := hcut; obtain ⟨u17, hcut⟩ := hcut; obtain ⟨u18, hcut⟩ := hcut; obtain ⟨u19, hcut⟩ := hcut; obtain ⟨u20, hcut⟩ := hcut; obtain ⟨u21, hcut⟩ := hcut; obtain ⟨u22, hcut⟩ := hcut; obtain ⟨u23, hcut⟩ := hcut; obtain ⟨u24, hcut⟩ := hcut; obtain ⟨u25, hcut⟩ := hcut; obtain ⟨u26, hcut⟩ := hcut; obtain ⟨u27, hcut⟩ := hcut; obtain ⟨u28, hcut⟩ := hcut; obtain ⟨u29, hcut⟩ := hcut; obtain ⟨u30, hcut⟩ := hcut; obtain ⟨u31, hcut⟩ := hcut; obtain ⟨u32, hcut⟩ := hcut; obtain ⟨u33, hcut⟩ := hcut; obtain ⟨u34, hcut⟩ := hcut; obtain ⟨u35, hcut⟩ := hcut; obtain ⟨u36, hcut⟩ := hcut; obtain ⟨u37, hcut⟩ := hcut; obtain ⟨u38, hcut⟩ := hcut; obtain ⟨u39, hcut⟩ := hcut; obtain ⟨u40, hcut⟩ := hcut; obtain ⟨u41, hcut⟩ := hcut; obtain ⟨u42, hcut⟩ := hcut; obtain ⟨u43, hcut⟩ := hcut; obtain ⟨u44, hcut⟩ := hcut; obtain ⟨u45, hcut⟩ := hcut; obtain ⟨u46, hcut⟩ := hcut; obtain ⟨u47, hcut⟩ := hcut; obtain ⟨u48, hcut⟩ := hcut; obtain ⟨u49, hcut⟩ := hcut; obtain ⟨u50, hcut⟩ := hcut; obtain ⟨u51, hcut⟩ := hcut; obtain ⟨u52, hcut⟩ := hcut; obtain ⟨u53, hcut⟩ := hcut; obtain ⟨u54, hcut⟩ := hcut; obtain ⟨u55, hcut⟩ := hcut; obtain ⟨u56, hcut⟩ := hcut; obtain ⟨u57, hcut⟩ := hcut; obtain ⟨u58, hcut⟩ := hcut; obtain ⟨u59, hcut⟩ := hcut; obtain ⟨u60, hcut⟩ := hcut; obtain ⟨u61, hcut⟩ := hcut; obtain ⟨u62, hcut⟩ := hcut; obtain ⟨u63, hcut⟩ := hcut; obtain ⟨u64, hcut⟩ := hcut; obtain ⟨u65, hcut⟩ := hcut; obtain ⟨u66, hcut⟩ := hcut; obtain ⟨u67, hcut⟩ := hcut; obtain ⟨u68, hcut⟩ := hcut; obtain ⟨u69, hcut⟩ := hcut; obtain ⟨u70, hcut⟩ := hcut; obtain ⟨u71, hcut⟩ := hcut; obtain ⟨u72, hcut⟩ := hcut; obtain ⟨u73, hcut⟩ := hcut; obtain ⟨u74, hcut⟩ := hcut; obtain ⟨u75, hcut⟩ := hcut; obtain ⟨u76, hcut⟩ := hcut; obtain ⟨u77, hcut⟩ := hcut; obtain ⟨u78, hcut⟩ := hcut; obtain ⟨u79, hcut⟩ := hcut; obtain ⟨u80, hcut⟩ := hcut; obtain ⟨v9, hcut⟩ := hcut; obtain ⟨v10, hcut⟩ := hcut; obtain ⟨v11, hcut⟩ := hcut; obtain ⟨hcut, hac⟩ := hcut; subst hac; intro _ _ _ _)
  case atStart => exact ⟨0, _, hk, 0, rfl, rfl, rfl, rfl, HS.out, K2.out⟩
  case round =>
    obtain ⟨i, W, ow, ep, hi, rfl, rfl, rfl, hS, hB⟩ := hcut
    have HI := Lib.hid hi
    have hile : i ≤ xs.length := by omega
    have KB := Lib.hid hB
    clear hi HS K2
    by_cases hlt : i < xs.length
    · obtain ⟨ab, ao, rfl, a0⟩ := int_at (Rd.elems_below hB HE.out) hlt
      obtain ⟨g, c, s, sv, O, R, G, Q, P1, hl, hsl, N2, N3⟩ := hS
      have n8' := G.1.n8
      have hown := G.1.hn
      have hep : 0 ≤ ep ∧ ep ≤ 1073741824 := by
        have v := G.1.val ow (by omega) hown
        have := G.1.hE
        unfold Vl at v; omega
      have t0 := Int.emod_nonneg xs[i] (b := (n : Int)) (by omega)
      have t1 := Int.emod_lt_of_pos xs[i] (b := (n : Int)) (by omega)
      have PX := Lib.hid (fun w => place_any xs[i] n (by omega) (by omega) w)
      obtain ⟨t, ht⟩ := Int.eq_ofNat_of_zero_le t0
      rw [ht] at PX t1
      clear t0 ht
      generalize xs[i] = x at *
      obtain ⟨W1, E1, O1, hact, hl1, hsent, G1, Q1, hc1, hc2⟩ := act_hand G Q P1 (t := t) (by omega) (by omega)
      obtain ⟨I, RDI, hend⟩ := quiet_round G1 Q1
      have AC := Lib.hid (act_any R (by omega) (by omega) 1 ow t 0 (by omega))
      rw [hact] at AC
      have HRD := Lib.hid RDI
      have HEND := Lib.hid hend
      have hfin : ∀ j V, I j V [] → ∃ (ow' : Nat) (ep' : Int) (O' : Int → Int → Int → Prop), V.row.length = n ∧ Good V ep' ow' O' ∧ Quiet V ow' ∧ at0 V.row ow' = ⟨1, ep', ow'⟩ ∧ (V.sent.length : Int) ≤ 5 * ep' ∧ (((t : Int) ≠ ow ∧ ep ≤ 1073741822) → ow' = t ∧ ep' = ep + 1) ∧ (¬ ((t : Int) ≠ ow ∧ ep ≤ 1073741822) → ow' = ow ∧ ep' = ep) := by
        intro j V hI
        obtain ⟨v1, H', v2, v3, v4, v5, v6⟩ := hend j V hI
        have hH0 := v2.1.h0
        have hHn := v2.1.hn
        have hHE := v2.1.hE
        have vv := v2.1.val H' hH0 hHn
        obtain ⟨o, rfl⟩ := Int.eq_ofNat_of_zero_le hH0
        have hrow : at0 V.row o = ⟨1, E1, o⟩ := by
          have hpe : (at0 V.row o).pe = o := by unfold Vl at vv; omega
          generalize at0 V.row o = l at *
          obtain ⟨a, b', c'⟩ := l
          simp only at v4 hHE hpe
          rw [v4, hHE, hpe]
        rw [hsent] at v5 v6
        by_cases cc : (t : Int) ≠ ow ∧ ep ≤ 1073741822
        · obtain ⟨d1, d2, d3⟩ := hc1 cc
          obtain ⟨f1, f2⟩ := v5 d2
          rw [d3] at f1
          exact ⟨o, E1, O1, by omega, v2, v3, hrow, by omega, fun _ => ⟨by omega, d1⟩, fun h => (h cc).elim⟩
        · obtain ⟨d1, d2⟩ := hc2 cc
          obtain ⟨f1, f2⟩ := v6 d2
          exact ⟨o, E1, O1, by omega, v2, v3, hrow, by omega, fun h => (cc h).elim, fun _ => ⟨by omega, d1⟩⟩
      have HFIN := Lib.hid hfin
      have HL1 := Lib.hid hl1
      have HSEN := Lib.hid hsent
      have HR := Lib.hid R
      have HSL := Lib.hid hsl
      have HEP := Lib.hid hep
      have q0 : (0 : Int) ≤ (i : Int) := by omega
      have q1 : (i : Int) < (xs.length : Int) := by omega
      clear hact hl1 hsent G1 Q1 hc1 hc2 RDI hend hfin R G Q P1 hsl hB hown n8' t1
      go_wp2_with (fail)
      refine (PX.out _).mono ?_
      rintro e w3 ⟨rfl, rfl⟩
      go_wp2_with (fail)
      refine AC.out.mono ?_
      rintro e w4 ⟨rfl, s4, sv4, hs4, R4, F4⟩
      have hlt4 := HR.out.lt
      have K4 := Lib.hid (KB.out.trans (F4.below KB.out.size (by have := hz.out; omega) (by have := hz.out; omega) (by have := hz.out; omega)))
      have RO := Lib.hid (round_any R4 (by have := HL1.out; omega) (by have := HSL.out; have := HEP.out; rw [HSEN.out]; omega) I HRD.out.start HRD.out.step HRD.out.bound)
      have HS4 := Lib.hid hs4
      have hz4 := Lib.hid F4.size
      clear a0 R4 hs4 AC F4
      go_wp2_with (fail)
      refine RO.out.mono ?_
      rintro e w5 ⟨rfl, j, V, s5, sv5, hI, hs5, R5, F5⟩
      obtain ⟨ow', ep', O', V1, V2, V3, V4, V5, cA, cB⟩ := HFIN.out j V hI
      have K5 := Lib.hid (K4.out.trans (F5.below K4.out.size (by have := hz.out; omega) (by have := hz.out; omega) (by have := hz.out; have := HS4.out; omega)))
      have HS5 := Lib.hid (show b ≤ s5 by have := HS4.out; have := hz4.out; rcases hs5 with h | h <;> omega)
      have HR5 := Lib.hid R5
      have hel := Lib.hid (R5.elems V2.1)
      have HO := Lib.hid (fun w A cap he => holder_any w A cap V.row (by omega) he)
      rw [holder_core V2.1] at HO
      have e0 := R5.c0
      rw [V1] at e0
      rw [V1] at HO
      have hon := V2.1.hn
      have hep' := HEP.out
      clear F5 hs5 hI RO HFIN K4 HRD HEND HSL
      by_cases htw : t = ow
      · subst htw
        obtain ⟨hA, hB⟩ : ow' = t ∧ ep' = ep := cB (by omega)
        subst ow'
        subst ep'
        have hkl : t < V.row.length := by omega
        rw [at0_nat _ _ hkl] at V4
        have d0 := R5.row.cell (List.getElem?_eq_getElem hkl) (j := 0) rfl
        have d1 := R5.row.cell (List.getElem?_eq_getElem hkl) (j := 1) rfl
        have d2 := R5.row.cell (List.getElem?_eq_getElem hkl) (j := 2) rfl
        rw [Nat.add_zero] at d0
        rw [V4] at d0 d1 d2
        have HV4 := Lib.hid V4
        have q4 : (0 : Int) ≤ ((t : Nat) : Int) := by omega
        have q5 : ((t : Nat) : Int) < (n : Int) := by omega
        clear V4 R5
        go_wp2_with (fail)
        refine (HO.out _ _ _ hel.out).mono ?_
        rintro e w6 ⟨rfl, hb6⟩
        have R6 := Lib.hid (HR5.out.below hb6)
        have K6 := Lib.hid (K5.out.trans (hb6.mono K5.out.size))
        clear hb6 d0 d1 d2 e0
        go_wp2_with (fail)
        go_roundg (m - 1)
        case measure => have := HI.out; omega
        case rel =>
          refine ⟨i + 1, V, t, ep, by have := HI.out; omega, by go_num, rfl, by first | rfl | go_num, ⟨g, c, s5, sv5, O', R6.out, V2, V3, by rw [at0_nat _ _ hkl, HV4.out], V1, V5, N2, HS5.out⟩, K6.out⟩
      by_cases hle : ep ≤ 1073741822
      · have htw' : (t : Int) ≠ ow := by omega
        obtain ⟨hA, hB⟩ : ow' = t ∧ ep' = (ep + 1) := cA ⟨by omega, hle⟩
        subst ow'
        subst ep'
        have hkl : t < V.row.length := by omega
        rw [at0_nat _ _ hkl] at V4
        have d0 := R5.row.cell (List.getElem?_eq_getElem hkl) (j := 0) rfl
        have d1 := R5.row.cell (List.getElem?_eq_getElem hkl) (j := 1) rfl
        have d2 := R5.row.cell (List.getElem?_eq_getElem hkl) (j := 2) rfl
        rw [Nat.add_zero] at d0
        rw [V4] at d0 d1 d2
        have HV4 := Lib.hid V4
        have q4 : (0 : Int) ≤ ((t : Nat) : Int) := by omega
        have q5 : ((t : Nat) : Int) < (n : Int) := by omega
        clear V4 R5
        go_wp2_with (fail)
        refine (HO.out _ _ _ hel.out).mono ?_
        rintro e w6 ⟨rfl, hb6⟩
        have R6 := Lib.hid (HR5.out.below hb6)
        have K6 := Lib.hid (K5.out.trans (hb6.mono K5.out.size))
        clear hb6 d0 d1 d2 e0
        go_wp2_with (fail)
        go_roundg (m - 1)
        case measure => have := HI.out; omega
        case rel =>
          refine ⟨i + 1, V, t, (ep + 1), by have := HI.out; omega, by go_num, rfl, by first | rfl | go_num, ⟨g, c, s5, sv5, O', R6.out, V2, V3, by rw [at0_nat _ _ hkl, HV4.out], V1, V5, N2, HS5.out⟩, K6.out⟩
      · have htw' : (t : Int) ≠ ow := by omega
        obtain ⟨hA, hB⟩ : ow' = ow ∧ ep' = ep := cB (by omega)
        subst ow'
        subst ep'
        have hkl : ow < V.row.length := by omega
        rw [at0_nat _ _ hkl] at V4
        have d0 := R5.row.cell (List.getElem?_eq_getElem hkl) (j := 0) rfl
        have d1 := R5.row.cell (List.getElem?_eq_getElem hkl) (j := 1) rfl
        have d2 := R5.row.cell (List.getElem?_eq_getElem hkl) (j := 2) rfl
        rw [Nat.add_zero] at d0
        rw [V4] at d0 d1 d2
        have HV4 := Lib.hid V4
        have q4 : (0 : Int) ≤ ((ow : Nat) : Int) := by omega
        have q5 : ((ow : Nat) : Int) < (n : Int) := by omega
        clear V4 R5
        go_wp2_with (fail)
        refine (HO.out _ _ _ hel.out).mono ?_
        rintro e w6 ⟨rfl, hb6⟩
        have R6 := Lib.hid (HR5.out.below hb6)
        have K6 := Lib.hid (K5.out.trans (hb6.mono K5.out.size))
        clear hb6 d0 d1 d2 e0
        go_wp2_with (fail)
        go_roundg (m - 1)
        case measure => have := HI.out; omega
        case rel =>
          refine ⟨i + 1, V, ow, ep, by have := HI.out; omega, by go_num, rfl, by first | rfl | go_num, ⟨g, c, s5, sv5, O', R6.out, V2, V3, by rw [at0_nat _ _ hkl, HV4.out], V1, V5, N2, HS5.out⟩, K6.out⟩
    · go_wp2_with (fail)
      go_ret
      exact ⟨rfl, KB.out⟩
namespace ledgerHands
open Go.ChangeShapes Go.WideShapes Go.ChangeAt Go.RowKit
open Go.ChangeMaps (open_string shut_string)
theorem own : ownKnob Try.prog.godebug = none := by kernel_rfl
theorem laidOut : laidOutB Try.prog = true := by kernel_rfl
set_option maxRecDepth 100000 in
theorem lifted (os : Os) (started : os.Started) (H : Type) (enc : TypeId × Value → H) :
    ReturnsInHanded {} Try.checked os 7 .any (Rows.ledgerHandsSpec.pre6 enc Try.prog Try.f7 Rows.ledgerHandsRow.domain false) (Rows.ledgerHandsSpec.post enc Try.prog Try.f7 false true false false) := by
  refine returnsInHanded_of_change_sized (C := Try.checked) own started (by kernel_rfl) Try.func7
    (ChangeSpec.witness6 (enc := enc) (C := Try.checked) false ⟨#[], #[.int .i64 0, .int .i64 0, .slice none 0 0], []⟩ 8 (by kernel_rfl) (by kernel_rfl) (by kernel_rfl) (by kernel_rfl)) ?_
  intro W base args ds gs before hval0 hW hcnd hsz0 _
  have hsz : (DataW.weightsEach Try.prog (Try.f7.params.toList ++ Rows.ledgerHandsSpec.plain.varTypes Try.prog) (ds ++ gs)).all (· ≤ reachBytes) = true := hsz0
  have hval : ∀ (j : Nat) t v, Try.f7.params[j]? = some t → args[j]? = some v → Value.okWide Try.prog W .any base t v := hval0
  have hW' := hW
  obtain ⟨p, q, hA0, hV, rfl, hfz, hnd⟩ := hW
  have hA : DataW.TrodAll enc Try.prog W 0 (fun _ => true) true Try.f7.params.toList args.toList ds p := hA0
  rw [Try.params7] at hA hval hsz
  obtain ⟨v0, vs0, d0, ds0, p0, q0, hargs, rfl, rfl, h0, r0⟩ := trodAll_cons hA
  obtain ⟨v1, vs1, d1, ds1, p1, q1, rfl, rfl, rfl, h1, r1⟩ := trodAll_cons r0
  obtain ⟨v2, vs2, d2, ds2, p2, q2, rfl, rfl, rfl, h2, r2⟩ := trodAll_cons r1
  obtain ⟨rfl, rfl, rfl⟩ := trodAll_nil r2
  obtain rfl : args = #[v0, v1, v2] := by cases args; simp_all
  obtain ⟨rfl, rfl⟩ := trodVars_none hV
  obtain ⟨a0, rfl, rfl, rfl, w0⟩ := open_int Try.underlying3 (hval 0 3 v0 rfl rfl) h0
  obtain ⟨a1, rfl, rfl, rfl, w1⟩ := open_int Try.underlying3 (hval 1 3 v1 rfl rfl) h1
  obtain ⟨a2, len2, cap2, rfl⟩ := okWide_slice Try.underlying44 (hval 2 44 v2 rfl rfl)
  have k2 := h2
  have lt2 : ∀ x ∈ p2, x.block < W.heap.size := by obtain ⟨m, hm⟩ := k2; exact DataW.trod_lt m _ _ _ hm
  obtain ⟨xs2, rfl, hc2, hm2, hb2, hn2, he2⟩ := opened_slice (opens_ints W) h2 (weights_at hsz (j := 2) (t := 44) rfl rfl)
  clear hA0 hval0 hsz0 hsz
  refine (LedgerHands_walk W a0 w0 a1 w1 a2 cap2 xs2 hc2 hm2 hb2 hn2 he2).mono fun e W' ⟨he, bel⟩ => ?_
  subst he
  exact ⟨_, rfl, _, _, _, [], _, [], hW', trodAll_mk1 (shut_bool Try.underlying4 _), (trodAll_cons_mk (shut_int Try.underlying3 w0) (trodAll_cons_mk (shut_int Try.underlying3 w1) (trodAll_cons_mk (Below.trod laidOut (by kernel_rfl) (of_decide_eq_true (by kernel_rfl)) k2 bel lt2) trodAll_mk0))), rfl, bel.frame _, fun h => by cases h⟩
theorem over : Rows.ledgerHandsRow.holds Try.pinned (OpenSpec.ofChange Rows.ledgerHandsSpec) :=
  OpenClaim.holds_of_wide 7 Try.f7 rfl rfl rfl rfl rfl rfl rfl ⟨rfl, rfl, rfl, rfl, rfl⟩ rfl rfl rfl rfl rfl (by kernel_rfl) Try.func7 (by kernel_rfl)
    (of_decide_eq_true (by kernel_rfl)) (by unfold Func.isWrapper; first | (rw [if_pos (by decide +kernel)]; kernel_rfl) | (rw [if_neg (by decide +kernel)]; exact ⟨rfl, rfl⟩))
    (fun os started H enc _ => lifted os started H enc)
theorem proved : Rows.LedgerHandsSaid := over
end ledgerHands
theorem ledgerHands_holds : Rows.LedgerHandsSaid := ledgerHands.proved
#print axioms ledgerHands_holds
end Go.Proofs.Ytecdmbcdkfjgfaa
