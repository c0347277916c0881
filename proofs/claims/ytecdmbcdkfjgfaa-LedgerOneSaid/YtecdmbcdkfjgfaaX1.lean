/- LedgerOne: whatever happens, one server holds the shard, no other one serves it, no epoch goes back. -/
import Derived.Test.YtecdmbcdkfjgfaaX0
namespace Go.Proofs.Ytecdmbcdkfjgfaa
set_option linter.unusedVariables false
set_option linter.unusedSimpArgs false
open Go.RowKit Go.Deep Go.Proofs.YtecdmbcdkfjgfaaW.PrintLast

theorem home_in (sr hm : Int) : ∃ (n : Nat) (home : Int), (1 + sr % 8).toNat = n ∧ hm % (1 + sr % 8) = home ∧ n ≤ 8 ∧ 0 ≤ home ∧ home < n := by
  have r0 := Int.emod_nonneg sr (b := 8) (by decide)
  have r1 := Int.emod_lt_of_pos sr (b := 8) (by decide)
  refine ⟨_, _, rfl, rfl, by omega, Int.emod_nonneg _ (by omega), ?_⟩
  have := Int.emod_lt_of_pos hm (b := 1 + sr % 8) (by omega)
  omega
set_option maxRecDepth 100000 in
set_option maxHeartbeats 8000000 in
theorem LedgerOne_walk (w : World) (sr : Int) (hsr : (Lit.int .i64 sr).wf = true) (hm : Int) (hhm : (Lit.int .i64 hm).wf = true) (A : Option Addr) (cap : Nat) (xs : List Ac) (hc : xs.length ≤ cap) (hmx : cap ≤ maxLen) (hb : xs.length * 32 ≤ reach) (hn : A = none → cap = 0) (he : RdAc.elems w A xs) :
    Calls Try.prog 8 #[.int .i64 sr, .int .i64 hm, .slice A xs.length cap] w fun e w' => e = .returned (.bool true) ∧ Below w.heap.size w w' := by
  have hlen := reach_maxLen (by decide) hb
  have HB := Lib.hid hb
  have BG := Lib.hid (fun w => began_any sr hm w)
  obtain ⟨n, home, e1, e2, n8, h0, hn'⟩ := home_in sr hm
  rw [e1, e2] at BG
  have HE := Lib.hid he
  clear hmx hb hn hsr hhm e1 e2 he
  go_enter Try.func8, Try.ntmps8
  go_wp2_with (fail)
  refine (known_any _).mono ?_
  rintro e w1 ⟨rfl, hb1⟩
  have K1 := Lib.hid hb1
  clear hb1
  go_wp2_with (fail)
  refine (BG.out _).mono ?_
  rintro e w2 ⟨rfl, hbe⟩
  obtain ⟨S2, hb2⟩ := St.begun n8 h0 hn' hbe
  have K2 := Lib.hid (K1.out.trans (hb2.mono K1.out.size))
  have S0 := S2
  obtain ⟨g, c, s, sv, E, H, O, R, G, _, _, _, _⟩ := S0
  have ON := Lib.hid (one_any R G.1)
  have HS := Lib.hid S2
  have hz := Lib.hid (show w.heap.size ≤ w1.heap.size from K1.out.size)
  clear hb2 hbe S2 R G K1
  generalize w1.heap.size = b at *
  go_wp2_with (go_at_call 25; refine ON.out.mono ?_; rintro e w3 ⟨rfl, hb3⟩)
  have S3 := Lib.hid (HS.out.below hb3)
  have K3 := Lib.hid (K2.out.trans (hb3.mono K2.out.size))
  clear hb3 HS K2 ON
  refine wp_loop_ghost_k (fun (m : Nat) (ac : Act) (wr : World) => ∃ u0 u1 u3 u4 u5 u6 u9 u10 u11 u12 u13 u14 u15 u16 u17 u18 u19 u20 u21 u22 u23 u24 u25 u26 u27 u28 u29 u30 u31 u32 u33 u34 u35 u36 u37 u38 u39 u40 u41 u42 u43 u44 u45 u46 u47 u48 u49 u50 u51 u52 u53 u54 u55 u56 u57 u58 u59 u60 u61 u62 v8 : Value, (∃ (i : Nat) (W : Wd), m + i = xs.length ∧ v8 = .int .i64 i ∧ St b b wr W i ∧ Below w.heap.size w wr) ∧ ac = ({ tmps := #[u0, u1, .slice A xs.length cap, u3, u4, u5, u6, .pointer (some ⟨b, 0, none⟩), v8, u9, u10, u11, u12, u13, u14, u15, u16, u17, u18, u19, u20, u21, u22, u23, u24, u25, u26, u27, u28, u29, u30, u31, u32, u33, u34, u35, u36, u37, u38, u39, u40, u41, u42, u43, u44, u45, u46, u47, u48, u49, u50, u51, u52, u53, u54, u55, u56, u57, u58, u59, u60, u61, u62], defers := [] } : Act)) (xs.length) ?atStart ?round
  case' atStart => ((repeat apply Exists.intro); refine ⟨?_, rfl⟩)
  case' round => (intro m ac wr hcut; obtain ⟨u0, hcut⟩ := hcut; obtain ⟨u1, hcut⟩ := hcut; obtain ⟨u3, hcut⟩ := hcut; obtain ⟨u4, hcut⟩ := hcut; obtain ⟨u5, hcut⟩ := hcut; obtain ⟨u6, hcut⟩ := hcut; obtain ⟨u9, hcut⟩ := hcut; obtain ⟨u10, hcut⟩ := hcut; obtain ⟨u11, hcut⟩ := hcut; obtain ⟨u12, hcut⟩ := hcut; obtain ⟨u13, hcut⟩ := hcut; obtain ⟨u14, hcut⟩ := hcut; obtain ⟨u15, hcut⟩ := hcut; obtain ⟨u16, hcut⟩ := hcut; obtain ⟨u17, hcut⟩ := hcut; obtain ⟨u18, hcut⟩ := hcut; obtain ⟨u19, hcut⟩ := hcut; obtain ⟨u20, hcut⟩ := hcut; obtain ⟨u21, hcut⟩ := hcut; obtain ⟨u22, hcut⟩ := hcut; obtain ⟨u23, hcut⟩ := hcut; obtain ⟨u24, hcut⟩ := hcut; obtain ⟨u25, hcut⟩ := hcut; obtain ⟨u26, hcut⟩ := hcut; obtain ⟨u27, hcut⟩ := hcut; obtain ⟨u28, hcut⟩ := hcut; obtain ⟨u29, hcut⟩ := hcut; obtain ⟨u30, hcut⟩ := hcut; obtain ⟨u31, hcut⟩ := hcut; obtain ⟨u32, hcut⟩ := hcut; obtain ⟨u33, hcut⟩ := hcut; obtain ⟨u34, hcut⟩ := hcut; obtain ⟨u35, hcut⟩ := hcut; obtain ⟨u36, hcut⟩ := hcut; obtain ⟨u37, hcut⟩ := hcut; obtain ⟨u38, hcut⟩ := hcut; obtain ⟨u39, hcut⟩ := hcut; obtain ⟨u40, hcut⟩ := hcut; obtain ⟨u41, hcut⟩ := hcut; obtain ⟨u42, hcut⟩ := hcut; obtain ⟨u43, hcut⟩ := hcut; obtain ⟨u44, hcut⟩ := hcut; obtain ⟨u45, hcut⟩ := hcut; obtain ⟨u46, hcut⟩ := hcut; obtain ⟨u47, hcut⟩ := hcut; obtain ⟨u48, hcut⟩ := hcut; obtain ⟨u49, hcut⟩ := hcut; obtain ⟨u50, hcut⟩ := hcut; obtain ⟨u51, hcut⟩ := hcut; obtain ⟨u52, hcut⟩ := hcut; obtain ⟨u53, hcut⟩ := hcut; obtain ⟨u54, hcut⟩ := hcut; obtain ⟨u55, hcut⟩ := hcut; obtain ⟨u56, hcut⟩ := hcut; obtain ⟨u57, hcut⟩ := hcut; obtain ⟨u58, hcut⟩ := hcut; obtain ⟨u59, hcut⟩ := hcut; obtain ⟨u60, hcut⟩ := hcut; obtain ⟨u61, hcut⟩ := hcut; obtain ⟨u62, hcut⟩ := hcut; obtain ⟨v8, hcut⟩ := hcut; obtain ⟨hcut, hac⟩ := hcut; subst hac; intro _ _ _ _)
  case atStart => exact ⟨0, _, rfl, rfl, S3.out, K3.out⟩
  case round =>
    obtain ⟨i, W, hi, rfl, hS, hB⟩ := hcut
    have HI := Lib.hid hi
    have hile : i ≤ xs.length := by omega
    have KB := Lib.hid hB
    clear hi S3 K3
    by_cases hlt : i < xs.length
    · obtain ⟨ab, ao, rfl, a0, a1, a2, a3⟩ := ac_at (Rd.elems_below hB HE.out) hlt
      have hab : ab < w.heap.size := by
        obtain ⟨ab', ao', hA, a0', _⟩ := ac_at HE.out hlt
        injection hA with hA
        simp only [Addr.mk.injEq, and_true] at hA
        obtain ⟨rfl, rfl⟩ := hA
        exact World.block_lt_of_cell? _ _ a0'
      obtain ⟨g, c, s, sv, E, H, O, R, G, hsl, N1, N2, N3⟩ := hS
      have hel := R.elems G.1
      have n8 := G.1.n8
      obtain ⟨g1, c1, w4, hrun, O4, G4, at4⟩ := lg_append0 (cap := c) (own_empty wr) (Rd.elems_below ((Below.refl wr.heap.size wr).alloc (Nat.le_refl _) _) hel) (by simp [reach]; omega)
      have hzz := hz.out
      have hg1 : wr.heap.size ≤ g1 := by rcases at4 with h | h <;> (try simp at h) <;> omega
      have hrl := R.lt
      have B4 : Below wr.heap.size wr w4 := ((Below.refl wr.heap.size wr).alloc (Nat.le_refl _) (.cells #[] 24)).grown G4 (by simp) (by intro k hk; injection hk with hk; omega)
      have R4 := R.below B4
      have AG := act_good G xs[i].kd xs[i].who xs[i].peer xs[i].n
      have AC := Lib.hid (act_any R4 (by have := G.1.h0; have := G.1.hn; omega) (by omega) xs[i].kd xs[i].who xs[i].peer xs[i].n (by have := HB.out; simp only [reach] at this; omega))
      generalize xs[i] = x at *
      obtain ⟨kd, who, pr, nn⟩ := x
      simp only at a0 a1 a2 a3 AG AC
      generalize actW W kd who pr nn = RES at *
      obtain ⟨W5, ok⟩ := RES
      simp only at AG AC
      obtain ⟨rfl, MO, hsl5, E5, H5, O5, G5⟩ := AG
      have e0 := R.c0
      have HRUN := Lib.hid hrun
      have K4 := KB.out.trans (B4.mono KB.out.size)
      have a0' := (K4.cell (p := ⟨ab, ao + i * 4, none⟩) hab).trans ((KB.out.cell (p := ⟨ab, ao + i * 4, none⟩) hab).symm.trans a0)
      have a1' := (K4.cell (p := ⟨ab, ao + i * 4 + 1, none⟩) hab).trans ((KB.out.cell (p := ⟨ab, ao + i * 4 + 1, none⟩) hab).symm.trans a1)
      have a2' := (K4.cell (p := ⟨ab, ao + i * 4 + 2, none⟩) hab).trans ((KB.out.cell (p := ⟨ab, ao + i * 4 + 2, none⟩) hab).symm.trans a2)
      have a3' := (K4.cell (p := ⟨ab, ao + i * 4 + 3, none⟩) hab).trans ((KB.out.cell (p := ⟨ab, ao + i * 4 + 3, none⟩) hab).symm.trans a3)
      have HK4 := Lib.hid K4
      have HMO := Lib.hid MO
      have HG5 := Lib.hid G5
      have HO4 := Lib.hid O4
      clear a0 a1 a2 a3 R hel hrun O4 G4 at4 B4 R4 MO G5 K4 hB
      have q0 : (0 : Int) ≤ (i : Int) := by omega
      have q1 : (i : Int) < (xs.length : Int) := by omega
      go_wp2_with (first | (refine wpList_app HRUN.out rfl rfl rfl (by rfl) (by rfl) ?_) | (go_at_call 23; refine AC.out.mono ?_; rintro e w5 ⟨rfl, s5, sv5, hs5, R5, F5⟩))
      refine (one_any R5 HG5.out.1).mono ?_
      rintro e w6 ⟨rfl, hb6⟩
      have R6 := Lib.hid (R5.below hb6)
      have hg4 := HO4.out.lt
      have K5 := HK4.out.trans (F5.below HK4.out.size (by omega) (by omega) (by omega))
      have K6 := Lib.hid (K5.trans (hb6.mono K5.size))
      have O6 := Lib.hid ((HO4.out.moved (F5.block g1 hg4 (by omega) (by omega) (by omega))).below hb6)
      have HS5 := Lib.hid hs5
      have h46 := Lib.hid (show wr.heap.size ≤ w4.heap.size by have := HRUN; omega)
      clear hb6 R5 F5 K5 hs5 e0 a0' a1' a2' a3' AC HRUN
      have hlen5 : W5.row.length = W.row.length := HMO.out.1
      have HL5 := Lib.hid hlen5
      clear hlen5
      go_wp2_with (fail)
      refine wp_loop_ghost_k (fun (q : Nat) (ac : Act) (wq : World) => ∃ u0 u1 u3 u4 u5 u6 u11 u12 u13 u14 u15 u16 u17 u18 u19 u20 u21 u22 u23 u24 u25 u26 u27 u28 u29 u30 u31 u32 u33 u34 u35 u36 u37 u38 u39 u40 u41 u42 u43 u44 u45 u46 u47 u48 u49 u50 u51 u52 u53 u54 u55 u56 u57 u58 u59 u60 u61 u62 v10 : Value, (∃ k : Nat, q + k = W.row.length ∧ v10 = .int .i64 k ∧ Below w6.heap.size w6 wq) ∧ ac = ({ tmps := #[u0, u1, .slice (some ⟨ab, ao, none⟩) xs.length cap, u3, u4, u5, u6, .pointer (some ⟨b, 0, none⟩), .int .i64 i, .slice (some ⟨g1, 0, none⟩) W.row.length c1, v10, u11, u12, u13, u14, u15, u16, u17, u18, u19, u20, u21, u22, u23, u24, u25, u26, u27, u28, u29, u30, u31, u32, u33, u34, u35, u36, u37, u38, u39, u40, u41, u42, u43, u44, u45, u46, u47, u48, u49, u50, u51, u52, u53, u54, u55, u56, u57, u58, u59, u60, u61, u62], defers := [] } : Act)) (W.row.length) ?atStart ?round
      case' atStart => ((repeat apply Exists.intro); refine ⟨?_, rfl⟩)
      case' round => (intro q ac wq hcut; obtain ⟨u0, hcut⟩ := hcut; obtain ⟨u1, hcut⟩ := hcut; obtain ⟨u3, hcut⟩ := hcut; obtain ⟨u4, hcut⟩ := hcut; obtain ⟨u5, hcut⟩ := hcut; obtain ⟨u6, hcut⟩ := hcut; obtain ⟨u11, hcut⟩ := hcut; obtain ⟨u12, hcut⟩ := hcut; obtain ⟨u13, hcut⟩ := hcut; obtain ⟨u14, hcut⟩ := hcut; obtain ⟨u15, hcut⟩ := hcut; obtain ⟨u16, hcut⟩ := hcut; obtain ⟨u17, hcut⟩ := hcut; obtain ⟨u18, hcut⟩ := hcut; obtain ⟨u19, hcut⟩ := hcut; obtain ⟨u20, hcut⟩ := hcut; obtain ⟨u21, hcut⟩ := hcut; obtain ⟨u22, hcut⟩ := hcut; obtain ⟨u23, hcut⟩ := hcut; obtain ⟨u24, hcut⟩ := hcut; obtain ⟨u25, hcut⟩ := hcut; obtain ⟨u26, hcut⟩ := hcut; obtain ⟨u27, hcut⟩ := hcut; obtain ⟨u28, hcut⟩ := hcut; obtain ⟨u29, hcut⟩ := hcut; obtain ⟨u30, hcut⟩ := hcut; obtain ⟨u31, hcut⟩ := hcut; obtain ⟨u32, hcut⟩ := hcut; obtain ⟨u33, hcut⟩ := hcut; obtain ⟨u34, hcut⟩ := hcut; obtain ⟨u35, hcut⟩ := hcut; obtain ⟨u36, hcut⟩ := hcut; obtain ⟨u37, hcut⟩ := hcut; obtain ⟨u38, hcut⟩ := hcut; obtain ⟨u39, hcut⟩ := hcut; obtain ⟨u40, hcut⟩ := hcut; obtain ⟨u41, hcut⟩ := hcut; obtain ⟨u42, hcut⟩ := hcut; obtain ⟨u43, hcut⟩ := hcut; obtain ⟨u44, hcut⟩ := hcut; obtain ⟨u45, hcut⟩ := hcut; obtain ⟨u46, hcut⟩ := hcut; obtain ⟨u47, hcut⟩ := hcut; obtain ⟨u48, hcut⟩ := hcut; obtain ⟨u49, hcut⟩ := hcut; obtain ⟨u50, hcut⟩ := hcut; obtain ⟨u51, hcut⟩ := hcut; obtain ⟨u52, hcut⟩ := hcut; obtain ⟨u53, hcut⟩ := hcut; obtain ⟨u54, hcut⟩ := hcut; obtain ⟨u55, hcut⟩ := hcut; obtain ⟨u56, hcut⟩ := hcut; obtain ⟨u57, hcut⟩ := hcut; obtain ⟨u58, hcut⟩ := hcut; obtain ⟨u59, hcut⟩ := hcut; obtain ⟨u60, hcut⟩ := hcut; obtain ⟨u61, hcut⟩ := hcut; obtain ⟨u62, hcut⟩ := hcut; obtain ⟨v10, hcut⟩ := hcut; obtain ⟨hcut, hac⟩ := hcut; subst hac; intro _ _ _ _)
      case atStart => exact ⟨0, rfl, rfl, Below.refl _ _⟩
      case round =>
        obtain ⟨k, hk, rfl, hBq⟩ := hcut
        have hkle : k ≤ W.row.length := by omega
        have HK := Lib.hid hk
        have HBQ := Lib.hid hBq
        clear hk hBq
        by_cases hkl : k < W.row.length
        · have R7 := R6.out.below HBQ.out
          have O7 := O6.out.below HBQ.out
          have hk5 : k < W5.row.length := by have := HL5.out; omega
          have e0 := R7.c0
          rw [HL5.out] at e0
          have x1 := R7.row.cell (List.getElem?_eq_getElem hk5) (j := 1) rfl
          have y1 := O7.cell (List.getElem?_eq_getElem hkl) (j := 1) rfl
          have hle := HMO.out.2 k
          rw [at0_nat _ _ hkl, at0_nat _ _ hk5] at hle
          generalize W5.row[k] = l5 at *
          generalize W.row[k] = l4 at *
          obtain ⟨t, ht⟩ := named (decide (l5.ep < l4.ep))
          have htf : t = false := by rw [← ht]; simp; omega
          subst htf
          clear hle R7 O7
          have q2 : (0 : Int) ≤ (k : Int) := by omega
          have q3 : (k : Int) < (W.row.length : Int) := by omega
          go_wp2_with (fail)
          refine start_ (n := 14) (S := fun w' => w'.cell? ⟨b, 0, none⟩ = some (.slice (some ⟨g, 0, none⟩) W.row.length c) ∧ w'.cell? ⟨g, k * 3 + 1, none⟩ = some (.int .i64 l5.ep) ∧ w'.cell? ⟨g1, k * 3 + 1, none⟩ = some (.int .i64 l4.ep)) (ds := []) #[false, false, false, false, false, false, false, false, false, false, false, false, false, false] (by kernel_rfl) rfl rfl ⟨e0, x1, y1⟩ (fun hHeld => ?_)
          (refine take_ (i := 0) (N := some 49) (v := ?v_2) (a' := ?a_2) #[true, false, false, false, false, false, false, false, false, false, false, false, false, false] rfl rfl (by kernel_rfl) (fun _ _ _ h => h) (Or.inl ⟨by rfl, ?hy_2⟩) hHeld ?ha_2 ?hh_2; (case hy_2 => (rintro w' ⟨s0_, s1_, s2_⟩; go_simp; with_reducible rfl)); (case ha_2 => (simp (disch := omega) only [Act.put, List.setIfInBounds_toArray, List.set_cons_zero, List.set_cons_succ, wrap_in]; rfl)))
          (refine take_ (i := 1) (N := some 50) (v := ?v_3) (a' := ?a_3) #[true, true, false, false, false, false, false, false, false, false, false, false, false, false] rfl rfl (by kernel_rfl) (fun _ _ _ h => h) (Or.inl ⟨by rfl, ?hy_3⟩) hHeld ?ha_3 ?hh_3; (case hy_3 => (rintro w' ⟨s0_, s1_, s2_⟩; go_simp; with_reducible rfl)); (case ha_3 => (simp (disch := omega) only [Act.put, List.setIfInBounds_toArray, List.set_cons_zero, List.set_cons_succ, wrap_in]; rfl)))
          (refine take_ (i := 2) (N := some 51) (v := ?v_4) (a' := ?a_4) #[true, true, true, false, false, false, false, false, false, false, false, false, false, false] rfl rfl (by kernel_rfl) (fun _ _ _ h => h) (Or.inl ⟨by rfl, ?hy_4⟩) hHeld ?ha_4 ?hh_4; (case hy_4 => (rintro w' ⟨s0_, s1_, s2_⟩; go_simp; with_reducible rfl)); (case ha_4 => (simp (disch := omega) only [Act.put, List.setIfInBounds_toArray, List.set_cons_zero, List.set_cons_succ, wrap_in]; rfl)))
          (refine take_ (i := 3) (N := some 52) (v := ?v_5) (a' := ?a_5) #[true, true, true, true, false, false, false, false, false, false, false, false, false, false] rfl rfl (by kernel_rfl) (fun _ _ _ h => h) (Or.inl ⟨by rfl, ?hy_5⟩) hHeld ?ha_5 ?hh_5; (case hy_5 => (rintro w' ⟨s0_, s1_, s2_⟩; go_simp; with_reducible rfl)); (case ha_5 => (simp (disch := omega) only [Act.put, List.setIfInBounds_toArray, List.set_cons_zero, List.set_cons_succ, wrap_in]; rfl)))
          (refine take_ (i := 4) (N := some 53) (v := ?v_6) (a' := ?a_6) #[true, true, true, true, true, false, false, false, false, false, false, false, false, false] rfl rfl (by kernel_rfl) (fun _ _ _ h => h) (Or.inl ⟨by rfl, ?hy_6⟩) hHeld ?ha_6 ?hh_6; (case hy_6 => (rintro w' ⟨s0_, s1_, s2_⟩; go_simp; with_reducible rfl)); (case ha_6 => (simp (disch := omega) only [Act.put, List.setIfInBounds_toArray, List.set_cons_zero, List.set_cons_succ, wrap_in]; rfl)))
          (refine take_ (i := 5) (N := some 54) (v := ?v_7) (a' := ?a_7) #[true, true, true, true, true, true, false, false, false, false, false, false, false, false] rfl rfl (by kernel_rfl) (fun _ _ _ h => h) (Or.inl ⟨by rfl, ?hy_7⟩) hHeld ?ha_7 ?hh_7; (case hy_7 => (rintro w' ⟨s0_, s1_, s2_⟩; go_simp; with_reducible rfl)); (case ha_7 => (simp (disch := omega) only [Act.put, List.setIfInBounds_toArray, List.set_cons_zero, List.set_cons_succ, wrap_in]; rfl)))
          (refine take_ (i := 6) (N := some 55) (v := ?v_8) (a' := ?a_8) #[true, true, true, true, true, true, true, false, false, false, false, false, false, false] rfl rfl (by kernel_rfl) (fun _ _ _ h => h) (Or.inl ⟨by rfl, ?hy_8⟩) hHeld ?ha_8 ?hh_8; (case hy_8 => (rintro w' ⟨s0_, s1_, s2_⟩; go_simp; with_reducible rfl)); (case ha_8 => (simp (disch := omega) only [Act.put, List.setIfInBounds_toArray, List.set_cons_zero, List.set_cons_succ, wrap_in]; rfl)))
          (refine take_ (i := 7) (N := some 56) (v := ?v_9) (a' := ?a_9) #[true, true, true, true, true, true, true, true, false, false, false, false, false, false] rfl rfl (by kernel_rfl) (fun _ _ _ h => h) (Or.inl ⟨by rfl, ?hy_9⟩) hHeld ?ha_9 ?hh_9; (case hy_9 => (rintro w' ⟨s0_, s1_, s2_⟩; go_simp; with_reducible rfl)); (case ha_9 => (simp (disch := omega) only [Act.put, List.setIfInBounds_toArray, List.set_cons_zero, List.set_cons_succ, wrap_in]; rfl)))
          (refine take_ (i := 8) (N := some 57) (v := ?v_10) (a' := ?a_10) #[true, true, true, true, true, true, true, true, true, false, false, false, false, false] rfl rfl (by kernel_rfl) (fun _ _ _ h => h) (Or.inl ⟨by rfl, ?hy_10⟩) hHeld ?ha_10 ?hh_10; (case hy_10 => (rintro w' ⟨s0_, s1_, s2_⟩; go_simp; with_reducible rfl)); (case ha_10 => (simp (disch := omega) only [Act.put, List.setIfInBounds_toArray, List.set_cons_zero, List.set_cons_succ, wrap_in]; rfl)))
          (refine take_ (i := 9) (N := some 58) (v := ?v_11) (a' := ?a_11) #[true, true, true, true, true, true, true, true, true, true, false, false, false, false] rfl rfl (by kernel_rfl) (fun _ _ _ h => h) (Or.inl ⟨by rfl, ?hy_11⟩) hHeld ?ha_11 ?hh_11; (case hy_11 => (rintro w' ⟨s0_, s1_, s2_⟩; go_simp; with_reducible rfl)); (case ha_11 => (simp (disch := omega) only [Act.put, List.setIfInBounds_toArray, List.set_cons_zero, List.set_cons_succ, wrap_in]; rfl)))
          (refine take_ (i := 10) (N := some 59) (v := ?v_12) (a' := ?a_12) #[true, true, true, true, true, true, true, true, true, true, true, false, false, false] rfl rfl (by kernel_rfl) (fun _ _ _ h => h) (Or.inl ⟨by rfl, ?hy_12⟩) hHeld ?ha_12 ?hh_12; (case hy_12 => (rintro w' ⟨s0_, s1_, s2_⟩; go_simp; with_reducible rfl)); (case ha_12 => (simp (disch := omega) only [Act.put, List.setIfInBounds_toArray, List.set_cons_zero, List.set_cons_succ, wrap_in]; rfl)))
          (refine take_ (i := 11) (N := some 60) (v := ?v_13) (a' := ?a_13) #[true, true, true, true, true, true, true, true, true, true, true, true, false, false] rfl rfl (by kernel_rfl) (fun _ _ _ h => h) (Or.inl ⟨by rfl, ?hy_13⟩) hHeld ?ha_13 ?hh_13; (case hy_13 => (rintro w' ⟨s0_, s1_, s2_⟩; go_simp; with_reducible rfl)); (case ha_13 => (simp (disch := omega) only [Act.put, List.setIfInBounds_toArray, List.set_cons_zero, List.set_cons_succ, wrap_in]; rfl)))
          (refine take_ (i := 12) (N := some 61) (v := ?v_14) (a' := ?a_14) #[true, true, true, true, true, true, true, true, true, true, true, true, true, false] rfl rfl (by kernel_rfl) (fun _ _ _ h => h) (Or.inl ⟨by rfl, ?hy_14⟩) hHeld ?ha_14 ?hh_14; (case hy_14 => (rintro w' ⟨s0_, s1_, s2_⟩; go_simp; with_reducible rfl)); (case ha_14 => (simp (disch := omega) only [Act.put, List.setIfInBounds_toArray, List.set_cons_zero, List.set_cons_succ, wrap_in]; rfl)))
          (refine take_ (i := 13) (N := some 62) (v := ?v_15) (a' := ?a_15) #[true, true, true, true, true, true, true, true, true, true, true, true, true, true] rfl rfl (by kernel_rfl) (fun _ _ _ h => h) (Or.inl ⟨by rfl, ?hy_15⟩) hHeld ?ha_15 ?hh_15; (case hy_15 => (rintro w' ⟨s0_, s1_, s2_⟩; go_simp; with_reducible rfl)); (case ha_15 => (simp (disch := omega) only [Act.put, List.setIfInBounds_toArray, List.set_cons_zero, List.set_cons_succ, wrap_in]; rfl)))
          refine done_ (by kernel_rfl) ?_
          go_wp2_with (fail)
          go_roundg (q - 1)
          case measure => have := HK.out; omega
          case rel => exact ⟨k + 1, by have := HK.out; omega, by go_num, HBQ.out.drew⟩
        · go_wp2_with (fail)
          go_roundg (m - 1)
          case measure => have := HI.out; omega
          case rel =>
            refine ⟨i + 1, W5, by have := HI.out; omega, by go_num, ?_, K6.out.trans (HBQ.out.mono K6.out.size)⟩
            refine ⟨g, c, s5, sv5, E5, H5, O5, R6.out.below HBQ.out, HG5.out, by omega, N1, N2, ?_⟩
            have := HS5.out
            have := h46.out
            omega
    · go_wp2_with (fail)
      go_ret
      exact ⟨rfl, KB.out⟩

namespace ledgerOne
open Go.ChangeShapes Go.WideShapes Go.ChangeAt Go.RowKit
open Go.ChangeMaps (open_string shut_string)
theorem own : ownKnob Try.prog.godebug = none := by kernel_rfl
theorem laidOut : laidOutB Try.prog = true := by kernel_rfl
set_option maxRecDepth 100000 in
theorem lifted (os : Os) (started : os.Started) (H : Type) (enc : TypeId × Value → H) :
    ReturnsInHanded {} Try.checked os 8 .any (Rows.ledgerOneSpec.pre6 enc Try.prog Try.f8 Rows.ledgerOneRow.domain false) (Rows.ledgerOneSpec.post enc Try.prog Try.f8 false true false false) := by
  refine returnsInHanded_of_change_sized (C := Try.checked) own started (by kernel_rfl) Try.func8
    (ChangeSpec.witness6 (enc := enc) (C := Try.checked) false ⟨#[], #[.int .i64 0, .int .i64 0, .slice none 0 0], []⟩ 8 (by kernel_rfl) (by kernel_rfl) (by kernel_rfl) (by kernel_rfl)) ?_
  intro W base args ds gs before hval0 hW hcnd hsz0 _
  have hsz : (DataW.weightsEach Try.prog (Try.f8.params.toList ++ Rows.ledgerOneSpec.plain.varTypes Try.prog) (ds ++ gs)).all (· ≤ reachBytes) = true := hsz0
  have hval : ∀ (j : Nat) t v, Try.f8.params[j]? = some t → args[j]? = some v → Value.okWide Try.prog W .any base t v := hval0
  have hW' := hW
  obtain ⟨p, q, hA0, hV, rfl, hfz, hnd⟩ := hW
  have hA : DataW.TrodAll enc Try.prog W 0 (fun _ => true) true Try.f8.params.toList args.toList ds p := hA0
  rw [Try.params8] at hA hval hsz
  obtain ⟨v0, vs0, d0, ds0, p0, q0, hargs, rfl, rfl, h0, r0⟩ := trodAll_cons hA
  obtain ⟨v1, vs1, d1, ds1, p1, q1, rfl, rfl, rfl, h1, r1⟩ := trodAll_cons r0
  obtain ⟨v2, vs2, d2, ds2, p2, q2, rfl, rfl, rfl, h2, r2⟩ := trodAll_cons r1
  obtain ⟨rfl, rfl, rfl⟩ := trodAll_nil r2
  obtain rfl : args = #[v0, v1, v2] := by cases args; simp_all
  obtain ⟨rfl, rfl⟩ := trodVars_none hV
  obtain ⟨a0, rfl, rfl, rfl, w0⟩ := open_int Try.underlying3 (hval 0 3 v0 rfl rfl) h0
  obtain ⟨a1, rfl, rfl, rfl, w1⟩ := open_int Try.underlying3 (hval 1 3 v1 rfl rfl) h1
  obtain ⟨a2, len2, cap2, rfl⟩ := okWide_slice Try.underlying55 (hval 2 55 v2 rfl rfl)
  have k2 := h2
  have lt2 : ∀ x ∈ p2, x.block < W.heap.size := by obtain ⟨m, hm⟩ := k2; exact DataW.trod_lt m _ _ _ hm
  obtain ⟨xs2, rfl, hc2, hm2, hb2, hn2, he2⟩ := opened_slice (opens_Acs W) h2 (weights_at hsz (j := 2) (t := 55) rfl rfl)
  clear hA0 hval0 hsz0 hsz
  refine (LedgerOne_walk W a0 w0 a1 w1 a2 cap2 xs2 hc2 hm2 hb2 hn2 he2).mono fun e W' ⟨he, bel⟩ => ?_
  subst he
  exact ⟨_, rfl, _, _, _, [], _, [], hW', trodAll_mk1 (shut_bool Try.underlying4 _), (trodAll_cons_mk (shut_int Try.underlying3 w0) (trodAll_cons_mk (shut_int Try.underlying3 w1) (trodAll_cons_mk (Below.trod laidOut (by kernel_rfl) (of_decide_eq_true (by kernel_rfl)) k2 bel lt2) trodAll_mk0))), rfl, bel.frame _, fun h => by cases h⟩
theorem over : Rows.ledgerOneRow.holds Try.pinned (OpenSpec.ofChange Rows.ledgerOneSpec) :=
  OpenClaim.holds_of_wide 8 Try.f8 rfl rfl rfl rfl rfl rfl rfl ⟨rfl, rfl, rfl, rfl, rfl⟩ rfl rfl rfl rfl rfl (by kernel_rfl) Try.func8 (by kernel_rfl)
    (of_decide_eq_true (by kernel_rfl)) (by unfold Func.isWrapper; first | (rw [if_pos (by decide +kernel)]; kernel_rfl) | (rw [if_neg (by decide +kernel)]; exact ⟨rfl, rfl⟩))
    (fun os started H enc _ => lifted os started H enc)
theorem proved : Rows.LedgerOneSaid := over
end ledgerOne
theorem ledgerOne_holds : Rows.LedgerOneSaid := ledgerOne.proved
#print axioms ledgerOne_holds
end Go.Proofs.Ytecdmbcdkfjgfaa
