/- LedgerEnds: behind whatever happened, two rounds in which nothing is lost end all that was begun. -/
import Derived.Test.YtecdmbcdkfjgfaaX1
import Derived.Test.YtecdmbcdkfjgfaaP7
import Derived.Test.YtecdmbcdkfjgfaaD4a
namespace Go.Proofs.Ytecdmbcdkfjgfaa
set_option linter.unusedVariables false
set_option linter.unusedSimpArgs false
open Go.RowKit Go.Deep Go.Proofs.YtecdmbcdkfjgfaaW.PrintLast

theorem quiet_ph {W : Wd} {H : Int} (q : Quiet W H) (h1 : (at0 W.row H).ph = 1) {i : Nat} (hi : i < W.row.length) : nagF (at0 W.row i).ph = 0 ∧ keepsB (at0 W.row i).ph = decide ((i : Int) = H) ∧ servesB (at0 W.row i).ph = decide ((i : Int) = H) := by
  by_cases h : (i : Int) = H
  · rw [h, h1]; simp [nagF, keepsB, servesB]
  · rcases q.1 i (by omega) (by omega) h with h2 | h2 <;> rw [h2] <;> simp [nagF, keepsB, servesB, h]
set_option maxRecDepth 100000 in
set_option maxHeartbeats 8000000 in
theorem LedgerEnds_walk (w : World) (sr : Int) (hsr : (Lit.int .i64 sr).wf = true) (hm : Int) (hhm : (Lit.int .i64 hm).wf = true) (A : Option Addr) (cap : Nat) (xs : List Ac) (hc : xs.length ≤ cap) (hmx : cap ≤ maxLen) (hb : xs.length * 32 ≤ reach) (hn : A = none → cap = 0) (he : RdAc.elems w A xs) :
    Calls Try.prog 9 #[.int .i64 sr, .int .i64 hm, .slice A xs.length cap] w fun e w' => e = .returned (.bool true) ∧ Below w.heap.size w w' := by
  have hlen := reach_maxLen (by decide) hb
  have HB := Lib.hid hb
  have BG := Lib.hid (fun w => began_any sr hm w)
  obtain ⟨n, home, e1, e2, n8, h0, hn'⟩ := home_in sr hm
  rw [e1, e2] at BG
  have HE := Lib.hid he
  clear hmx hb hn hsr hhm e1 e2 he
  go_enter Try.func9, Try.ntmps9
  go_wp2_with (fail)
  refine (known_any _).mono ?_
  rintro e w1 ⟨rfl, hb1⟩
  have K1 := Lib.hid hb1
  clear hb1
  go_wp2_with (fail)
  refine (BG.out _).mono ?_
  rintro e w2 ⟨rfl, hbe⟩
  obtain ⟨S2, hb2⟩ := St.begun n8 h0 hn' hbe
  have K2 := Lib.hid (K1.out.trans (hb2.mono K1.out.size))
  have HS := Lib.hid S2
  have hz := Lib.hid (show w.heap.size ≤ w1.heap.size from K1.out.size)
  clear hb2 hbe S2 K1
  generalize w1.heap.size = b at *
  go_wp2_with (fail)
  refine wp_loop_ghost_k (fun (m : Nat) (ac : Act) (wr : World) => ∃ u0 u1 u3 u4 u5 u6 u9 u10 u11 u12 u13 u14 u15 u16 u17 u18 u19 u20 u21 u22 u23 u24 u25 u26 u27 u28 u29 u30 u31 u32 u33 u34 u35 u36 u37 u38 u39 u40 u41 u42 u43 u44 u45 u46 u47 u48 u49 u50 u51 u52 u53 u54 u55 u56 u57 u58 u59 u60 u61 u62 u63 u64 u65 u66 u67 u68 u69 u70 u71 u72 u73 u74 u75 u76 u77 u78 u79 u80 u81 u82 u83 u84 u85 u86 u87 u88 u89 u90 v8 : Value, (∃ (i : Nat) (W : Wd), m + i = xs.length ∧ v8 = .int .i64 i ∧ St b b wr W i ∧ Below w.heap.size w wr) ∧ ac = ({ tmps := #[u0, u1, .slice A xs.length cap, u3, u4, u5, u6, .pointer (some ⟨b, 0, none⟩), v8, u9, u10, u11, u12, u13, u14, u15, u16, u17, u18, u19, u20, u21, u22, u23, u24, u25, u26, u27, u28, u29, u30, u31, u32, u33, u34, u35, u36, u37, u38, u39, u40, u41, u42, u43, u44, u45, u46, u47, u48, u49, u50, u51, u52, u53, u54, u55, u56, u57, u58, u59, u60, u61, u62, u63, u64, u65, u66, u67, u68, u69, u70, u71, u72, u73, u74, u75, u76, u77, u78, u79, u80, u81, u82, u83, u84, u85, u86, u87, u88, u89, u90], defers := [] } : Act)) (xs.length) ?atStart ?round
  case' atStart => ((repeat apply Exists.intro); refine ⟨?_, rfl⟩)
  case' round => (intro m ac wr hcut; obtain ⟨u0, hcut⟩ := hcut; obtain ⟨u1, hcut⟩ := hcut; obtain ⟨u3, hcut⟩ := hcut; obtain ⟨u4, hcut⟩ := hcut; obtain ⟨u5, hcut⟩ := hcut; obtain ⟨u6, hcut⟩ := hcut; obtain ⟨u9, hcut⟩ := hcut; obtain ⟨u10, hcut⟩ := hcut; obtain ⟨u11, hcut⟩ := hcut; obtain ⟨u12, hcut⟩ := hcut; obtain ⟨u13, hcut⟩ := hcut; obtain ⟨u14, hcut⟩ := hcut; obtain ⟨u15, hcut⟩ := hcut; obtain ⟨u16, hcut⟩ := hcut; obtain ⟨u17, hcut⟩ := hcut; obtain ⟨u18, hcut⟩ := hcut; obtain ⟨u19, hcut⟩ := hcut; obtain ⟨u20, hcut⟩ := hcut; obtain ⟨u21, hcut⟩ := hcut; obtain ⟨u22, hcut⟩ := hcut; obtain ⟨u23, hcut⟩ := hcut; obtain ⟨u24, hcut⟩ := hcut; obtain ⟨u25, hcut⟩ := hcut; obtain ⟨u26, hcut⟩ := hcut; obtain ⟨u27, hcut⟩ := hcut; obtain ⟨u28, hcut⟩ := hcut; obtain ⟨u29, hcut⟩ := hcut; obtain ⟨u30, hcut⟩ := hcut; obtain ⟨u31, hcut⟩ := hcut; obtain ⟨u32, hcut⟩ := hcut; obtain ⟨u33, hcut⟩ := hcut; obtain ⟨u34, hcut⟩ := hcut; obtain ⟨u35, hcut⟩ := hcut; obtain ⟨u36, hcut⟩ := hcut; obtain ⟨u37, hcut⟩ := hcut; obtain ⟨u38, hcut⟩ := hcut; obtain ⟨u39, hcut⟩ := hcut; obtain ⟨u40, hcut⟩ := hcut; obtain ⟨u41, hcut⟩ := hcut; obtain ⟨u42, hcut⟩ := hcut; obtain ⟨u43, hcut⟩ := hcut; obtain ⟨u44, hcut⟩ := hcut; obtain ⟨u45, hcut⟩ := hcut; obtain ⟨u46, hcut⟩ := hcut; obtain ⟨u47, hcut⟩ := hcut; obtain ⟨u48, hcut⟩ := hcut; obtain ⟨u49, hcut⟩ := hcut; obtain ⟨u50, hcut⟩ := hcut; obtain ⟨u51, hcut⟩ := hcut; obtain ⟨u52, hcut⟩ := hcut; obtain ⟨u53, hcut⟩ := hcut; obtain ⟨u54, hcut⟩ := hcut; obtain ⟨u55, hcut⟩ := hcut; obtain ⟨u56, hcut⟩ := hcut; obtain ⟨u57, hcut⟩ := hcut; obtain ⟨u58, hcut⟩ := hcut; obtain ⟨u59, hcut⟩ := hcut; obtain ⟨u60, hcut⟩ := hcut; obtain ⟨u61, hcut⟩ := hcut; obtain ⟨u62, hcut⟩ := hcut; obtain ⟨u63, hcut⟩ := hcut; obtain ⟨u64, hcut⟩ := hcut; obtain ⟨u65, hcut⟩ := hcut; obtain ⟨u66, hcut⟩ := hcut; obtain ⟨u67, hcut⟩ := hcut; obtain ⟨u68, hcut⟩ := hcut; obtain ⟨u69, hcut⟩ := hcut; obtain ⟨u70, hcut⟩ := hcut; obtain ⟨u71, hcut⟩ := hcut; obtain ⟨u72, hcut⟩ := hcut; obtain ⟨u73, hcut⟩ := hcut; obtain ⟨u74, hcut⟩ := hcut; obtain ⟨u75, hcut⟩ := hcut; obtain ⟨u76, hcut⟩ := hcut; obtain ⟨u77, hcut⟩ := hcut; obtain ⟨u78, hcut⟩ := hcut; obtain ⟨u79, hcut⟩ := hcut; obtain ⟨u80, hcut⟩ := hcut; obtain ⟨u81, hcut⟩ := hcut; obtain ⟨u82, hcut⟩ := hcut; obtain ⟨u83, hcut⟩ := hcut; obtain ⟨u84, hcut⟩ := hcut; obtain ⟨u85, hcut⟩ := hcut; obtain ⟨u86, hcut⟩ := hcut; obtain ⟨u87, hcut⟩ := hcut; obtain ⟨u88, hcut⟩ := hcut; obtain ⟨u89, hcut⟩ := hcut; obtain ⟨u90, hcut⟩ := hcut; obtain ⟨v8, hcut⟩ := hcut; obtain ⟨hcut, hac⟩ := hcut; subst hac; intro _ _ _ _)
  case atStart => exact ⟨0, _, rfl, rfl, HS.out, K2.out⟩
  case round =>
    obtain ⟨i, W, hi, rfl, hS, hB⟩ := hcut
    have HI := Lib.hid hi
    have hile : i ≤ xs.length := by omega
    have KB := Lib.hid hB
    clear hi HS K2
    by_cases hlt : i < xs.length
    · obtain ⟨ab, ao, rfl, a0, a1, a2, a3⟩ := ac_at (Rd.elems_below hB HE.out) hlt
      obtain ⟨g, c, s, sv, E, H, O, R, G, hsl, N1, N2, N3⟩ := hS
      have n8 := G.1.n8
      have AG := act_good G xs[i].kd xs[i].who xs[i].peer xs[i].n
      have AC := Lib.hid (act_any R (by have := G.1.h0; have := G.1.hn; omega) (by omega) xs[i].kd xs[i].who xs[i].peer xs[i].n (by have := HB.out; simp only [reach] at this; omega))
      generalize xs[i] = x at *
      obtain ⟨kd, who, pr, nn⟩ := x
      simp only at a0 a1 a2 a3 AG AC
      generalize actW W kd who pr nn = RES at *
      obtain ⟨W5, ok⟩ := RES
      simp only at AG AC
      obtain ⟨rfl, MO, hsl5, E5, H5, O5, G5⟩ := AG
      have hrl := R.lt
      have HG5 := Lib.hid G5
      clear R G5 MO hB
      have q0 : (0 : Int) ≤ (i : Int) := by omega
      have q1 : (i : Int) < (xs.length : Int) := by omega
      go_wp2_with (go_at_call 23; refine AC.out.mono ?_; rintro e w5 ⟨rfl, s5, sv5, hs5, R5, F5⟩)
      go_roundg (m - 1)
      case measure => have := HI.out; omega
      case rel =>
        have hzz := hz.out
        have K5 := KB.out.trans (F5.below KB.out.size (by omega) (by omega) (by omega))
        exact ⟨i + 1, W5, by have := HI.out; omega, by go_num, ⟨g, c, s5, sv5, E5, H5, O5, R5, HG5.out, by omega, N1, N2, by omega⟩, K5⟩
    · have hix : i = xs.length := by omega
      subst hix
      obtain ⟨g, c, s, sv, E, H, O, R, G, hsl, N1, N2, N3⟩ := hS
      have n8 := G.1.n8
      have hreach := HB.out
      simp only [reach] at hreach
      obtain ⟨I1, RD1, hend1⟩ := any_round G
      have RO1 := Lib.hid (round_any R (by omega) (by omega) I1 RD1.start RD1.step RD1.bound)
      have HR := Lib.hid R
      have HE1 := Lib.hid hend1
      clear R RD1 hend1 hlt hile HI hB
      go_wp2_with (fail)
      refine RO1.out.mono ?_
      rintro e w3 ⟨rfl, j1, V1, s1, sv1, hI1, hs1, R1, F1⟩
      obtain ⟨hl1, hsl1, E1, H1, G1, Q1⟩ := HE1.out j1 V1 hI1
      obtain ⟨I2, RD2, hend2⟩ := quiet_round G1 Q1
      have RO2 := Lib.hid (round_any R1 (by omega) (by omega) I2 RD2.start RD2.step RD2.bound)
      have HE2 := Lib.hid hend2
      have hrl := HR.out.lt
      have hzz := hz.out
      have K1 := Lib.hid (KB.out.trans (F1.below KB.out.size (by omega) (by omega) (by omega)))
      have HS1 := Lib.hid (show b ≤ s1 by rcases hs1 with h | h <;> omega)
      have hz1 := Lib.hid F1.size
      clear R1 F1 hs1 RD2 hend2 hI1 RO1 HE1 G Q1
      go_wp2_with (fail)
      refine RO2.out.mono ?_
      rintro e w4 ⟨rfl, j2, V2, s2, sv2, hI2, hs2, R2, F2⟩
      obtain ⟨hl2, H2, G2, Q2, P2, _, _⟩ := HE2.out j2 V2 hI2
      have K2 := Lib.hid (K1.out.trans (F2.below K1.out.size (by omega) (by omega) (by have := HS1.out; omega)))
      have ON := Lib.hid (one_any R2 G2.1)
      have HR2 := Lib.hid R2
      clear R2 F2 hs2 hI2 RO2 HE2 HS1
      go_wp2_with (fail)
      refine ON.out.mono ?_
      rintro e w5 ⟨rfl, hb5⟩
      have R5 := Lib.hid (HR2.out.below hb5)
      have K5 := Lib.hid (K2.out.trans (hb5.mono K2.out.size))
      have hH0 := G2.1.h0
      have hHn := G2.1.hn
      have hn8 := G2.1.n8
      have HQ := Lib.hid Q2
      have HP := Lib.hid P2
      have e0 := R5.out.c0
      clear hb5 ON HR2 K1 K2 Q2 P2 G2 G1 KB HR hz hz1 hrl hzz hreach
      go_wp2_with (fail)
      refine wp_loop_ghost_k (fun (q : Nat) (ac : Act) (wq : World) => ∃ u0 u1 u2 u3 u4 u5 u6 u8 u11 u12 u13 u14 u15 u16 u17 u18 u19 u20 u21 u22 u23 u24 u25 u26 u27 u28 u29 u30 u31 u32 u33 u34 u35 u36 u37 u38 u39 u40 u41 u42 u43 u44 u45 u46 u47 u48 u49 u50 u51 u52 u53 u54 u55 u56 u57 u58 u59 u60 u61 u62 u63 u64 u65 u66 u67 u68 u69 u70 u71 u72 u73 u74 u75 u76 u77 u78 u79 u80 u81 u82 u83 u84 u85 u86 u87 u88 u89 u90 v9 v10 : Value, (∃ (k : Nat) (o : Int), q + k = V2.row.length ∧ v10 = .int .i64 k ∧ v9 = .int .i64 o ∧ o = (if H2 < k then 1 else 0) ∧ Below w5.heap.size w5 wq) ∧ ac = ({ tmps := #[u0, u1, u2, u3, u4, u5, u6, .pointer (some ⟨b, 0, none⟩), u8, v9, v10, u11, u12, u13, u14, u15, u16, u17, u18, u19, u20, u21, u22, u23, u24, u25, u26, u27, u28, u29, u30, u31, u32, u33, u34, u35, u36, u37, u38, u39, u40, u41, u42, u43, u44, u45, u46, u47, u48, u49, u50, u51, u52, u53, u54, u55, u56, u57, u58, u59, u60, u61, u62, u63, u64, u65, u66, u67, u68, u69, u70, u71, u72, u73, u74, u75, u76, u77, u78, u79, u80, u81, u82, u83, u84, u85, u86, u87, u88, u89, u90], defers := [] } : Act)) (V2.row.length) ?atStart ?round
      case' atStart => ((repeat apply Exists.intro); refine ⟨?_, rfl⟩)
      case' round => (intro q ac wq hcut; obtain ⟨u0, hcut⟩ := hcut; obtain ⟨u1, hcut⟩ := hcut; obtain ⟨u2, hcut⟩ := hcut; obtain ⟨u3, hcut⟩ := hcut; obtain ⟨u4, hcut⟩ := hcut; obtain ⟨u5, hcut⟩ := hcut; obtain ⟨u6, hcut⟩ := hcut; obtain ⟨u8, hcut⟩ := hcut; obtain ⟨u11, hcut⟩ := hcut; obtain ⟨u12, hcut⟩ := hcut; obtain ⟨u13, hcut⟩ := hcut; obtain ⟨u14, hcut⟩ := hcut; obtain ⟨u15, hcut⟩ := hcut; obtain ⟨u16, hcut⟩ := hcut; obtain ⟨u17, hcut⟩ := hcut; obtain ⟨u18, hcut⟩ := hcut; obtain ⟨u19, hcut⟩ := hcut; obtain ⟨u20, hcut⟩ := hcut; obtain ⟨u21, hcut⟩ := hcut; obtain ⟨u22, hcut⟩ := hcut; obtain ⟨u23, hcut⟩ := hcut; obtain ⟨u24, hcut⟩ := hcut; obtain ⟨u25, hcut⟩ := hcut; obtain ⟨u26, hcut⟩ := hcut; obtain ⟨u27, hcut⟩ := hcut; obtain ⟨u28, hcut⟩ := hcut; obtain ⟨u29, hcut⟩ := hcut; obtain ⟨u30, hcut⟩ := hcut; obtain ⟨u31, hcut⟩ := hcut; obtain ⟨u32, hcut⟩ := hcut; obtain ⟨u33, hcut⟩ := hcut; obtain ⟨u34, hcut⟩ := hcut; obtain ⟨u35, hcut⟩ := hcut; obtain ⟨u36, hcut⟩ := hcut; obtain ⟨u37, hcut⟩ := hcut; obtain ⟨u38, hcut⟩ := hcut; obtain ⟨u39, hcut⟩ := hcut; obtain ⟨u40, hcut⟩ := hcut; obtain ⟨u41, hcut⟩ := hcut; obtain ⟨u42, hcut⟩ := hcut; obtain ⟨u43, hcut⟩ := hcut; obtain ⟨u44, hcut⟩ := hcut; obtain ⟨u45, hcut⟩ := hcut; obtain ⟨u46, hcut⟩ := hcut; obtain ⟨u47, hcut⟩ := hcut; obtain ⟨u48, hcut⟩ := hcut; obtain ⟨u49, hcut⟩ := hcut; obtain ⟨u50, hcut⟩ := hcut; obtain ⟨u51, hcut⟩ := hcut; obtain ⟨u52, hcut⟩ := hcut; obtain ⟨u53, hcut⟩ := hcut; obtain ⟨u54, hcut⟩ := hcut; obtain ⟨u55, hcut⟩ := hcut; obtain ⟨u56, hcut⟩ := hcut; obtain ⟨u57, hcut⟩ := hcut; obtain ⟨u58, hcut⟩ := hcut; obtain ⟨u59, hcut⟩ := hcut; obtain ⟨u60, hcut⟩ := hcut; obtain ⟨u61, hcut⟩ := hcut; obtain ⟨u62, hcut⟩ := hcut; obtain ⟨u63, hcut⟩ := hcut; obtain ⟨u64, hcut⟩ := hcut; obtain ⟨u65, hcut⟩ := hcut; obtain ⟨u66, hcut⟩ := hcut; obtain ⟨u67, hcut⟩ := hcut; obtain ⟨u68, hcut⟩ := hcut; obtain ⟨u69, hcut⟩ := hcut; obtain ⟨u70, hcut⟩ := hcut; obtain ⟨u71, hcut⟩ := hcut; obtain ⟨u72, hcut⟩ := hcut; obtain ⟨u73, hcut⟩ := hcut; obtain ⟨u74, hcut⟩ := hcut; obtain ⟨u75, hcut⟩ := hcut; obtain ⟨u76, hcut⟩ := hcut; obtain ⟨u77, hcut⟩ := hcut; obtain ⟨u78, hcut⟩ := hcut; obtain ⟨u79, hcut⟩ := hcut; obtain ⟨u80, hcut⟩ := hcut; obtain ⟨u81, hcut⟩ := hcut; obtain ⟨u82, hcut⟩ := hcut; obtain ⟨u83, hcut⟩ := hcut; obtain ⟨u84, hcut⟩ := hcut; obtain ⟨u85, hcut⟩ := hcut; obtain ⟨u86, hcut⟩ := hcut; obtain ⟨u87, hcut⟩ := hcut; obtain ⟨u88, hcut⟩ := hcut; obtain ⟨u89, hcut⟩ := hcut; obtain ⟨u90, hcut⟩ := hcut; obtain ⟨v9, hcut⟩ := hcut; obtain ⟨v10, hcut⟩ := hcut; obtain ⟨hcut, hac⟩ := hcut; subst hac; intro _ _ _ _)
      case atStart => exact ⟨0, 0, rfl, rfl, rfl, by rw [if_neg (by omega)], Below.refl _ _⟩
      case round =>
        obtain ⟨k, o, hk, rfl, rfl, ho, hBq⟩ := hcut
        have hkle : k ≤ V2.row.length := by omega
        have HK := Lib.hid hk
        have HO := Lib.hid ho
        have HBQ := Lib.hid hBq
        have ho2 : 0 ≤ o ∧ o ≤ 1 := by rw [ho]; split <;> omega
        clear hk hBq ho
        have R7 := R5.out.below HBQ.out
        replace e0 := R7.c0
        by_cases hkl : k < V2.row.length
        · have d0 := R7.row.cell (List.getElem?_eq_getElem hkl) (j := 0) rfl
          have d1 := R7.row.cell (List.getElem?_eq_getElem hkl) (j := 1) rfl
          have d2 := R7.row.cell (List.getElem?_eq_getElem hkl) (j := 2) rfl
          rw [Nat.add_zero] at d0
          obtain ⟨z1, z2, z3⟩ := quiet_ph HQ.out HP.out hkl
          rw [at0_nat _ _ hkl] at z1 z2 z3
          generalize V2.row[k] = l at *
          obtain ⟨ph, ep, pe⟩ := l
          simp only at d0 d1 d2 z1 z2 z3
          have NG := Lib.hid (fun w => nag_any ph ep pe w)
          have KP := Lib.hid (fun w => keeps_any ph ep pe w)
          have SV := Lib.hid (fun w => serves_any ph ep pe w)
          rw [z1] at NG
          rw [z2] at KP
          rw [z3] at SV
          obtain ⟨sb, hsb⟩ := named (decide ((k : Int) = H2))
          rw [hsb] at KP SV
          have HSB := Lib.hid hsb
          clear R7 z1 z2 z3 hsb
          have q2 : (0 : Int) ≤ (k : Int) := by omega
          have q3 : (k : Int) < (V2.row.length : Int) := by omega
          have HD0 := Lib.hid d0
          have HD1 := Lib.hid d1
          have HD2 := Lib.hid d2
          have HE0 := Lib.hid e0
          go_upto_region 15 with (fail)
          refine wp_cut (fun (ac : Act) (wx : World) => ∃ u0 u1 u2 u3 u4 u5 u6 u8 u11 u12 u13 u14 u15 u16 u17 u18 u19 u20 u21 u22 u23 u24 u25 u26 u27 u28 u29 u30 u31 u32 u33 u34 u35 u36 u37 u38 u39 u40 u41 u42 u43 u44 u45 u46 u47 u48 u49 u50 u51 u52 u53 u54 u55 u56 u57 u58 u59 u60 u61 u62 u63 u64 u65 u66 u67 u68 u69 u70 u71 u72 u73 u74 u75 u76 u77 u79 u80 u81 u82 u83 u84 u85 u86 u87 u88 u89 u90 : Value, (Below wq.heap.size wq wx) ∧ ac = ({ tmps := #[u0, u1, u2, u3, u4, u5, u6, .pointer (some ⟨b, 0, none⟩), u8, .int .i64 o, .int .i64 k, u11, u12, u13, u14, u15, u16, u17, u18, u19, u20, u21, u22, u23, u24, u25, u26, u27, u28, u29, u30, u31, u32, u33, u34, u35, u36, u37, u38, u39, u40, u41, u42, u43, u44, u45, u46, u47, u48, u49, u50, u51, u52, u53, u54, u55, u56, u57, u58, u59, u60, u61, u62, u63, u64, u65, u66, u67, u68, u69, u70, u71, u72, u73, u74, u75, u76, u77, .bool false, u79, u80, u81, u82, u83, u84, u85, u86, u87, u88, u89, u90], defers := [] } : Act)) ?rest ?first
          case' rest => (intro ac wx hcut; obtain ⟨u0, hcut⟩ := hcut; obtain ⟨u1, hcut⟩ := hcut; obtain ⟨u2, hcut⟩ := hcut; obtain ⟨u3, hcut⟩ := hcut; obtain ⟨u4, hcut⟩ := hcut; obtain ⟨u5, hcut⟩ := hcut; obtain ⟨u6, hcut⟩ := hcut; obtain ⟨u8, hcut⟩ := hcut; obtain ⟨u11, hcut⟩ := hcut; obtain ⟨u12, hcut⟩ := hcut; obtain ⟨u13, hcut⟩ := hcut; obtain ⟨u14, hcut⟩ := hcut; obtain ⟨u15, hcut⟩ := hcut; obtain ⟨u16, hcut⟩ := hcut; obtain ⟨u17, hcut⟩ := hcut; obtain ⟨u18, hcut⟩ := hcut; obtain ⟨u19, hcut⟩ := hcut; obtain ⟨u20, hcut⟩ := hcut; obtain ⟨u21, hcut⟩ := hcut; obtain ⟨u22, hcut⟩ := hcut; obtain ⟨u23, hcut⟩ := hcut; obtain ⟨u24, hcut⟩ := hcut; obtain ⟨u25, hcut⟩ := hcut; obtain ⟨u26, hcut⟩ := hcut; obtain ⟨u27, hcut⟩ := hcut; obtain ⟨u28, hcut⟩ := hcut; obtain ⟨u29, hcut⟩ := hcut; obtain ⟨u30, hcut⟩ := hcut; obtain ⟨u31, hcut⟩ := hcut; obtain ⟨u32, hcut⟩ := hcut; obtain ⟨u33, hcut⟩ := hcut; obtain ⟨u34, hcut⟩ := hcut; obtain ⟨u35, hcut⟩ := hcut; obtain ⟨u36, hcut⟩ := hcut; obtain ⟨u37, hcut⟩ := hcut; obtain ⟨u38, hcut⟩ := hcut; obtain ⟨u39, hcut⟩ := hcut; obtain ⟨u40, hcut⟩ := hcut; obtain ⟨u41, hcut⟩ := hcut; obtain ⟨u42, hcut⟩ := hcut; obtain ⟨u43, hcut⟩ := hcut; obtain ⟨u44, hcut⟩ := hcut; obtain ⟨u45, hcut⟩ := hcut; obtain ⟨u46, hcut⟩ := hcut; obtain ⟨u47, hcut⟩ := hcut; obtain ⟨u48, hcut⟩ := hcut; obtain ⟨u49, hcut⟩ := hcut; obtain ⟨u50, hcut⟩ := hcut; obtain ⟨u51, hcut⟩ := hcut; obtain ⟨u52, hcut⟩ := hcut; obtain ⟨u53, hcut⟩ := hcut; obtain ⟨u54, hcut⟩ := hcut; obtain ⟨u55, hcut⟩ := hcut; obtain ⟨u56, hcut⟩ := hcut; obtain ⟨u57, hcut⟩ := hcut; obtain ⟨u58, hcut⟩ := hcut; obtain ⟨u59, hcut⟩ := hcut; obtain ⟨u60, hcut⟩ := hcut; obtain ⟨u61, hcut⟩ := hcut; obtain ⟨u62, hcut⟩ := hcut; obtain ⟨u63, hcut⟩ := hcut; obtain ⟨u64, hcut⟩ := hcut; obtain ⟨u65, hcut⟩ := hcut; obtain ⟨u66, hcut⟩ := hcut; obtain ⟨u67, hcut⟩ := hcut; obtain ⟨u68, hcut⟩ := hcut; obtain ⟨u69, hcut⟩ := hcut; obtain ⟨u70, hcut⟩ := hcut; obtain ⟨u71, hcut⟩ := hcut; obtain ⟨u72, hcut⟩ := hcut; obtain ⟨u73, hcut⟩ := hcut; obtain ⟨u74, hcut⟩ := hcut; obtain ⟨u75, hcut⟩ := hcut; obtain ⟨u76, hcut⟩ := hcut; obtain ⟨u77, hcut⟩ := hcut; obtain ⟨u79, hcut⟩ := hcut; obtain ⟨u80, hcut⟩ := hcut; obtain ⟨u81, hcut⟩ := hcut; obtain ⟨u82, hcut⟩ := hcut; obtain ⟨u83, hcut⟩ := hcut; obtain ⟨u84, hcut⟩ := hcut; obtain ⟨u85, hcut⟩ := hcut; obtain ⟨u86, hcut⟩ := hcut; obtain ⟨u87, hcut⟩ := hcut; obtain ⟨u88, hcut⟩ := hcut; obtain ⟨u89, hcut⟩ := hcut; obtain ⟨u90, hcut⟩ := hcut; obtain ⟨hcut, hac⟩ := hcut; subst hac)
          case' first => intro _ _ _ _
          case first =>
            refine start_ (n := 28) (S := fun w' => w'.cell? ⟨b, 0, none⟩ = some (.slice (some ⟨g, 0, none⟩) V2.row.length c) ∧ w'.cell? ⟨g, k * 3, none⟩ = some (.int .i64 ph) ∧ w'.cell? ⟨g, k * 3 + 1, none⟩ = some (.int .i64 ep) ∧ w'.cell? ⟨g, k * 3 + 2, none⟩ = some (.int .i64 pe)) (ds := []) #[false, false, false, false, false, false, false, false, false, false, false, false, false, false, false, false, false, false, false, false, false, false, false, false, false, false, false, false] (by kernel_rfl) rfl rfl ⟨e0, d0, d1, d2⟩ (fun hHeld => ?_)
            (refine take_ (i := 0) (N := some 51) (v := ?v_32) (a' := ?a_32) #[true, false, false, false, false, false, false, false, false, false, false, false, false, false, false, false, false, false, false, false, false, false, false, false, false, false, false, false] rfl rfl (by kernel_rfl) (fun _ _ _ h => h) (Or.inl ⟨by rfl, ?hy_32⟩) hHeld ?ha_32 ?hh_32; (case hy_32 => (rintro w' ⟨s0_, s1_, s2_, s3_⟩; go_simp; with_reducible rfl)); (case ha_32 => (simp (disch := omega) only [Act.put, List.setIfInBounds_toArray, List.set_cons_zero, List.set_cons_succ, wrap_in]; rfl)))
            (refine take_ (i := 1) (N := some 52) (v := ?v_33) (a' := ?a_33) #[true, true, false, false, false, false, false, false, false, false, false, false, false, false, false, false, false, false, false, false, false, false, false, false, false, false, false, false] rfl rfl (by kernel_rfl) (fun _ _ _ h => h) (Or.inl ⟨by rfl, ?hy_33⟩) hHeld ?ha_33 ?hh_33; (case hy_33 => (rintro w' ⟨s0_, s1_, s2_, s3_⟩; go_simp; with_reducible rfl)); (case ha_33 => (simp (disch := omega) only [Act.put, List.setIfInBounds_toArray, List.set_cons_zero, List.set_cons_succ, wrap_in]; rfl)))
            (refine take_ (i := 2) (N := some 53) (v := ?v_34) (a' := ?a_34) #[true, true, true, false, false, false, false, false, false, false, false, false, false, false, false, false, false, false, false, false, false, false, false, false, false, false, false, false] rfl rfl (by kernel_rfl) (fun _ _ _ h => h) (Or.inl ⟨by rfl, ?hy_34⟩) hHeld ?ha_34 ?hh_34; (case hy_34 => (rintro w' ⟨s0_, s1_, s2_, s3_⟩; go_simp; with_reducible rfl)); (case ha_34 => (simp (disch := omega) only [Act.put, List.setIfInBounds_toArray, List.set_cons_zero, List.set_cons_succ, wrap_in]; rfl)))
            (refine take_ (i := 3) (N := some 54) (v := ?v_35) (a' := ?a_35) #[true, true, true, true, false, false, false, false, false, false, false, false, false, false, false, false, false, false, false, false, false, false, false, false, false, false, false, false] rfl rfl (by kernel_rfl) (fun _ _ _ h => h) (Or.inl ⟨by rfl, ?hy_35⟩) hHeld ?ha_35 ?hh_35; (case hy_35 => (rintro w' ⟨s0_, s1_, s2_, s3_⟩; go_simp; with_reducible rfl)); (case ha_35 => (simp (disch := omega) only [Act.put, List.setIfInBounds_toArray, List.set_cons_zero, List.set_cons_succ, wrap_in]; rfl)))
            (refine take_ (i := 4) (N := some 55) (v := ?v_36) (a' := ?a_36) #[true, true, true, true, true, false, false, false, false, false, false, false, false, false, false, false, false, false, false, false, false, false, false, false, false, false, false, false] rfl rfl (by kernel_rfl) (fun _ _ _ h => h) (Or.inl ⟨by rfl, ?hy_36⟩) hHeld ?ha_36 ?hh_36; (case hy_36 => (rintro w' ⟨s0_, s1_, s2_, s3_⟩; go_simp; with_reducible rfl)); (case ha_36 => (simp (disch := omega) only [Act.put, List.setIfInBounds_toArray, List.set_cons_zero, List.set_cons_succ, wrap_in]; rfl)))
            (refine take_ (i := 5) (N := some 56) (v := ?v_37) (a' := ?a_37) #[true, true, true, true, true, true, false, false, false, false, false, false, false, false, false, false, false, false, false, false, false, false, false, false, false, false, false, false] rfl rfl (by kernel_rfl) (fun _ _ _ h => h) (Or.inl ⟨by rfl, ?hy_37⟩) hHeld ?ha_37 ?hh_37; (case hy_37 => (rintro w' ⟨s0_, s1_, s2_, s3_⟩; go_simp; with_reducible rfl)); (case ha_37 => (simp (disch := omega) only [Act.put, List.setIfInBounds_toArray, List.set_cons_zero, List.set_cons_succ, wrap_in]; rfl)))
            (refine take_ (i := 6) (N := some 57) (v := ?v_38) (a' := ?a_38) #[true, true, true, true, true, true, true, false, false, false, false, false, false, false, false, false, false, false, false, false, false, false, false, false, false, false, false, false] rfl rfl (by kernel_rfl) (fun _ _ _ h => h) (Or.inl ⟨by rfl, ?hy_38⟩) hHeld ?ha_38 ?hh_38; (case hy_38 => (rintro w' ⟨s0_, s1_, s2_, s3_⟩; go_simp; with_reducible rfl)); (case ha_38 => (simp (disch := omega) only [Act.put, List.setIfInBounds_toArray, List.set_cons_zero, List.set_cons_succ, wrap_in]; rfl)))
            refine one_ (i := 7) (N := some 58) #[true, true, true, true, true, true, true, true, false, false, false, false, false, false, false, false, false, false, false, false, false, false, false, false, false, false, false, false] rfl rfl (by kernel_rfl) (by decide) (fun K hK => ?_)
            (refine goes_ Try.func26 (by kernel_rfl) rfl ?args_1 (by rfl) rfl rfl ?hargs_1 ?hc_1; (case hargs_1 => (go_simp; with_reducible rfl)))
            (refine (NG.out _).mono ?_; rintro e w8 ⟨rfl, hb8⟩; have B8 := (Below.refl wq.heap.size wq).drew.trans hb8; refine ⟨_, rfl, ?_⟩)
            (refine hK.out _ _ ?hs_3 ?hn_3; (case hs_3 => (obtain ⟨s0_, s1_, s2_, s3_⟩ := hHeld; exact ⟨cell_below hb8 s0_, cell_below hb8 s1_, cell_below hb8 s2_, cell_below hb8 s3_⟩)); intro hHeld; clear hK K)
            (refine norm_ (a' := ?a_4) ?ha_4 ?hh_4; (case ha_4 => (simp (disch := omega) only [Act.put, List.setIfInBounds_toArray, List.set_cons_zero, List.set_cons_succ, wrap_in]; rfl)))
            (refine take_ (i := 8) (N := some 59) (v := ?v_5) (a' := ?a_5) #[true, true, true, true, true, true, true, true, true, false, false, false, false, false, false, false, false, false, false, false, false, false, false, false, false, false, false, false] rfl rfl (by kernel_rfl) (fun _ _ _ h => h) (Or.inl ⟨by rfl, ?hy_5⟩) hHeld ?ha_5 ?hh_5; (case hy_5 => (rintro w' ⟨s0_, s1_, s2_, s3_⟩; go_simp; with_reducible rfl)); (case ha_5 => (simp (disch := omega) only [Act.put, List.setIfInBounds_toArray, List.set_cons_zero, List.set_cons_succ, wrap_in]; rfl)))
            (refine take_ (i := 9) (N := some 60) (v := ?v_6) (a' := ?a_6) #[true, true, true, true, true, true, true, true, true, true, false, false, false, false, false, false, false, false, false, false, false, false, false, false, false, false, false, false] rfl rfl (by kernel_rfl) (fun _ _ _ h => h) (Or.inl ⟨by rfl, ?hy_6⟩) hHeld ?ha_6 ?hh_6; (case hy_6 => (rintro w' ⟨s0_, s1_, s2_, s3_⟩; go_simp; with_reducible rfl)); (case ha_6 => (simp (disch := omega) only [Act.put, List.setIfInBounds_toArray, List.set_cons_zero, List.set_cons_succ, wrap_in]; rfl)))
            first | (refine take_ (i := 10) (N := some 61) (v := undef) (a' := ?a_7) #[true, true, true, true, true, true, true, true, true, true, true, false, false, false, false, false, false, false, false, false, false, false, false, false, false, false, false, false] rfl rfl (by kernel_rfl) (fun _ _ _ h => h) (Or.inr ⟨by rfl, rfl⟩) hHeld ?ha_7 ?hh_7; (case ha_7 => (simp (disch := omega) only [Act.put, List.setIfInBounds_toArray, List.set_cons_zero, List.set_cons_succ, wrap_in]; rfl))) | (refine take_ (i := 10) (N := some 61) (v := ?v_7) (a' := ?a_7) #[true, true, true, true, true, true, true, true, true, true, true, false, false, false, false, false, false, false, false, false, false, false, false, false, false, false, false, false] rfl rfl (by kernel_rfl) (fun _ _ _ h => h) (Or.inl ⟨by rfl, ?hy_7⟩) hHeld ?ha_7 ?hh_7; (case hy_7 => (rintro w' ⟨s0_, s1_, s2_, s3_⟩; go_simp; with_reducible rfl)); (case ha_7 => (simp (disch := omega) only [Act.put, List.setIfInBounds_toArray, List.set_cons_zero, List.set_cons_succ, wrap_in]; rfl)))
            first | (refine take_ (i := 11) (N := some 62) (v := undef) (a' := ?a_8) #[true, true, true, true, true, true, true, true, true, true, true, true, false, false, false, false, false, false, false, false, false, false, false, false, false, false, false, false] rfl rfl (by kernel_rfl) (fun _ _ _ h => h) (Or.inr ⟨by rfl, rfl⟩) hHeld ?ha_8 ?hh_8; (case ha_8 => (simp (disch := omega) only [Act.put, List.setIfInBounds_toArray, List.set_cons_zero, List.set_cons_succ, wrap_in]; rfl))) | (refine take_ (i := 11) (N := some 62) (v := ?v_8) (a' := ?a_8) #[true, true, true, true, true, true, true, true, true, true, true, true, false, false, false, false, false, false, false, false, false, false, false, false, false, false, false, false] rfl rfl (by kernel_rfl) (fun _ _ _ h => h) (Or.inl ⟨by rfl, ?hy_8⟩) hHeld ?ha_8 ?hh_8; (case hy_8 => (rintro w' ⟨s0_, s1_, s2_, s3_⟩; go_simp; with_reducible rfl)); (case ha_8 => (simp (disch := omega) only [Act.put, List.setIfInBounds_toArray, List.set_cons_zero, List.set_cons_succ, wrap_in]; rfl)))
            first | (refine take_ (i := 12) (N := some 63) (v := undef) (a' := ?a_9) #[true, true, true, true, true, true, true, true, true, true, true, true, true, false, false, false, false, false, false, false, false, false, false, false, false, false, false, false] rfl rfl (by kernel_rfl) (fun _ _ _ h => h) (Or.inr ⟨by rfl, rfl⟩) hHeld ?ha_9 ?hh_9; (case ha_9 => (simp (disch := omega) only [Act.put, List.setIfInBounds_toArray, List.set_cons_zero, List.set_cons_succ, wrap_in]; rfl))) | (refine take_ (i := 12) (N := some 63) (v := ?v_9) (a' := ?a_9) #[true, true, true, true, true, true, true, true, true, true, true, true, true, false, false, false, false, false, false, false, false, false, false, false, false, false, false, false] rfl rfl (by kernel_rfl) (fun _ _ _ h => h) (Or.inl ⟨by rfl, ?hy_9⟩) hHeld ?ha_9 ?hh_9; (case hy_9 => (rintro w' ⟨s0_, s1_, s2_, s3_⟩; go_simp; with_reducible rfl)); (case ha_9 => (simp (disch := omega) only [Act.put, List.setIfInBounds_toArray, List.set_cons_zero, List.set_cons_succ, wrap_in]; rfl)))
            first | (refine take_ (i := 13) (N := some 64) (v := undef) (a' := ?a_10) #[true, true, true, true, true, true, true, true, true, true, true, true, true, true, false, false, false, false, false, false, false, false, false, false, false, false, false, false] rfl rfl (by kernel_rfl) (fun _ _ _ h => h) (Or.inr ⟨by rfl, rfl⟩) hHeld ?ha_10 ?hh_10; (case ha_10 => (simp (disch := omega) only [Act.put, List.setIfInBounds_toArray, List.set_cons_zero, List.set_cons_succ, wrap_in]; rfl))) | (refine take_ (i := 13) (N := some 64) (v := ?v_10) (a' := ?a_10) #[true, true, true, true, true, true, true, true, true, true, true, true, true, true, false, false, false, false, false, false, false, false, false, false, false, false, false, false] rfl rfl (by kernel_rfl) (fun _ _ _ h => h) (Or.inl ⟨by rfl, ?hy_10⟩) hHeld ?ha_10 ?hh_10; (case hy_10 => (rintro w' ⟨s0_, s1_, s2_, s3_⟩; go_simp; with_reducible rfl)); (case ha_10 => (simp (disch := omega) only [Act.put, List.setIfInBounds_toArray, List.set_cons_zero, List.set_cons_succ, wrap_in]; rfl)))
            first | (refine take_ (i := 14) (N := some 65) (v := undef) (a' := ?a_11) #[true, true, true, true, true, true, true, true, true, true, true, true, true, true, true, false, false, false, false, false, false, false, false, false, false, false, false, false] rfl rfl (by kernel_rfl) (fun _ _ _ h => h) (Or.inr ⟨by rfl, rfl⟩) hHeld ?ha_11 ?hh_11; (case ha_11 => (simp (disch := omega) only [Act.put, List.setIfInBounds_toArray, List.set_cons_zero, List.set_cons_succ, wrap_in]; rfl))) | (refine take_ (i := 14) (N := some 65) (v := ?v_11) (a' := ?a_11) #[true, true, true, true, true, true, true, true, true, true, true, true, true, true, true, false, false, false, false, false, false, false, false, false, false, false, false, false] rfl rfl (by kernel_rfl) (fun _ _ _ h => h) (Or.inl ⟨by rfl, ?hy_11⟩) hHeld ?ha_11 ?hh_11; (case hy_11 => (rintro w' ⟨s0_, s1_, s2_, s3_⟩; go_simp; with_reducible rfl)); (case ha_11 => (simp (disch := omega) only [Act.put, List.setIfInBounds_toArray, List.set_cons_zero, List.set_cons_succ, wrap_in]; rfl)))
            first | (refine take_ (i := 15) (N := some 66) (v := undef) (a' := ?a_12) #[true, true, true, true, true, true, true, true, true, true, true, true, true, true, true, true, false, false, false, false, false, false, false, false, false, false, false, false] rfl rfl (by kernel_rfl) (fun _ _ _ h => h) (Or.inr ⟨by rfl, rfl⟩) hHeld ?ha_12 ?hh_12; (case ha_12 => (simp (disch := omega) only [Act.put, List.setIfInBounds_toArray, List.set_cons_zero, List.set_cons_succ, wrap_in]; rfl))) | (refine take_ (i := 15) (N := some 66) (v := ?v_12) (a' := ?a_12) #[true, true, true, true, true, true, true, true, true, true, true, true, true, true, true, true, false, false, false, false, false, false, false, false, false, false, false, false] rfl rfl (by kernel_rfl) (fun _ _ _ h => h) (Or.inl ⟨by rfl, ?hy_12⟩) hHeld ?ha_12 ?hh_12; (case hy_12 => (rintro w' ⟨s0_, s1_, s2_, s3_⟩; go_simp; with_reducible rfl)); (case ha_12 => (simp (disch := omega) only [Act.put, List.setIfInBounds_toArray, List.set_cons_zero, List.set_cons_succ, wrap_in]; rfl)))
            first | (refine take_ (i := 16) (N := some 67) (v := undef) (a' := ?a_13) #[true, true, true, true, true, true, true, true, true, true, true, true, true, true, true, true, true, false, false, false, false, false, false, false, false, false, false, false] rfl rfl (by kernel_rfl) (fun _ _ _ h => h) (Or.inr ⟨by rfl, rfl⟩) hHeld ?ha_13 ?hh_13; (case ha_13 => (simp (disch := omega) only [Act.put, List.setIfInBounds_toArray, List.set_cons_zero, List.set_cons_succ, wrap_in]; rfl))) | (refine take_ (i := 16) (N := some 67) (v := ?v_13) (a' := ?a_13) #[true, true, true, true, true, true, true, true, true, true, true, true, true, true, true, true, true, false, false, false, false, false, false, false, false, false, false, false] rfl rfl (by kernel_rfl) (fun _ _ _ h => h) (Or.inl ⟨by rfl, ?hy_13⟩) hHeld ?ha_13 ?hh_13; (case hy_13 => (rintro w' ⟨s0_, s1_, s2_, s3_⟩; go_simp; with_reducible rfl)); (case ha_13 => (simp (disch := omega) only [Act.put, List.setIfInBounds_toArray, List.set_cons_zero, List.set_cons_succ, wrap_in]; rfl)))
            first | (refine take_ (i := 18) (N := some 69) (v := undef) (a' := ?a_14) #[true, true, true, true, true, true, true, true, true, true, true, true, true, true, true, true, true, false, true, false, false, false, false, false, false, false, false, false] rfl rfl (by kernel_rfl) (fun _ _ _ h => h) (Or.inr ⟨by rfl, rfl⟩) hHeld ?ha_14 ?hh_14; (case ha_14 => (simp (disch := omega) only [Act.put, List.setIfInBounds_toArray, List.set_cons_zero, List.set_cons_succ, wrap_in]; rfl))) | (refine take_ (i := 18) (N := some 69) (v := ?v_14) (a' := ?a_14) #[true, true, true, true, true, true, true, true, true, true, true, true, true, true, true, true, true, false, true, false, false, false, false, false, false, false, false, false] rfl rfl (by kernel_rfl) (fun _ _ _ h => h) (Or.inl ⟨by rfl, ?hy_14⟩) hHeld ?ha_14 ?hh_14; (case hy_14 => (rintro w' ⟨s0_, s1_, s2_, s3_⟩; go_simp; with_reducible rfl)); (case ha_14 => (simp (disch := omega) only [Act.put, List.setIfInBounds_toArray, List.set_cons_zero, List.set_cons_succ, wrap_in]; rfl)))
            first | (refine take_ (i := 19) (N := some 70) (v := undef) (a' := ?a_15) #[true, true, true, true, true, true, true, true, true, true, true, true, true, true, true, true, true, false, true, true, false, false, false, false, false, false, false, false] rfl rfl (by kernel_rfl) (fun _ _ _ h => h) (Or.inr ⟨by rfl, rfl⟩) hHeld ?ha_15 ?hh_15; (case ha_15 => (simp (disch := omega) only [Act.put, List.setIfInBounds_toArray, List.set_cons_zero, List.set_cons_succ, wrap_in]; rfl))) | (refine take_ (i := 19) (N := some 70) (v := ?v_15) (a' := ?a_15) #[true, true, true, true, true, true, true, true, true, true, true, true, true, true, true, true, true, false, true, true, false, false, false, false, false, false, false, false] rfl rfl (by kernel_rfl) (fun _ _ _ h => h) (Or.inl ⟨by rfl, ?hy_15⟩) hHeld ?ha_15 ?hh_15; (case hy_15 => (rintro w' ⟨s0_, s1_, s2_, s3_⟩; go_simp; with_reducible rfl)); (case ha_15 => (simp (disch := omega) only [Act.put, List.setIfInBounds_toArray, List.set_cons_zero, List.set_cons_succ, wrap_in]; rfl)))
            first | (refine take_ (i := 20) (N := some 71) (v := undef) (a' := ?a_16) #[true, true, true, true, true, true, true, true, true, true, true, true, true, true, true, true, true, false, true, true, true, false, false, false, false, false, false, false] rfl rfl (by kernel_rfl) (fun _ _ _ h => h) (Or.inr ⟨by rfl, rfl⟩) hHeld ?ha_16 ?hh_16; (case ha_16 => (simp (disch := omega) only [Act.put, List.setIfInBounds_toArray, List.set_cons_zero, List.set_cons_succ, wrap_in]; rfl))) | (refine take_ (i := 20) (N := some 71) (v := ?v_16) (a' := ?a_16) #[true, true, true, true, true, true, true, true, true, true, true, true, true, true, true, true, true, false, true, true, true, false, false, false, false, false, false, false] rfl rfl (by kernel_rfl) (fun _ _ _ h => h) (Or.inl ⟨by rfl, ?hy_16⟩) hHeld ?ha_16 ?hh_16; (case hy_16 => (rintro w' ⟨s0_, s1_, s2_, s3_⟩; go_simp; with_reducible rfl)); (case ha_16 => (simp (disch := omega) only [Act.put, List.setIfInBounds_toArray, List.set_cons_zero, List.set_cons_succ, wrap_in]; rfl)))
            first | (refine take_ (i := 21) (N := some 72) (v := undef) (a' := ?a_17) #[true, true, true, true, true, true, true, true, true, true, true, true, true, true, true, true, true, false, true, true, true, true, false, false, false, false, false, false] rfl rfl (by kernel_rfl) (fun _ _ _ h => h) (Or.inr ⟨by rfl, rfl⟩) hHeld ?ha_17 ?hh_17; (case ha_17 => (simp (disch := omega) only [Act.put, List.setIfInBounds_toArray, List.set_cons_zero, List.set_cons_succ, wrap_in]; rfl))) | (refine take_ (i := 21) (N := some 72) (v := ?v_17) (a' := ?a_17) #[true, true, true, true, true, true, true, true, true, true, true, true, true, true, true, true, true, false, true, true, true, true, false, false, false, false, false, false] rfl rfl (by kernel_rfl) (fun _ _ _ h => h) (Or.inl ⟨by rfl, ?hy_17⟩) hHeld ?ha_17 ?hh_17; (case hy_17 => (rintro w' ⟨s0_, s1_, s2_, s3_⟩; go_simp; with_reducible rfl)); (case ha_17 => (simp (disch := omega) only [Act.put, List.setIfInBounds_toArray, List.set_cons_zero, List.set_cons_succ, wrap_in]; rfl)))
            first | (refine take_ (i := 22) (N := some 73) (v := undef) (a' := ?a_18) #[true, true, true, true, true, true, true, true, true, true, true, true, true, true, true, true, true, false, true, true, true, true, true, false, false, false, false, false] rfl rfl (by kernel_rfl) (fun _ _ _ h => h) (Or.inr ⟨by rfl, rfl⟩) hHeld ?ha_18 ?hh_18; (case ha_18 => (simp (disch := omega) only [Act.put, List.setIfInBounds_toArray, List.set_cons_zero, List.set_cons_succ, wrap_in]; rfl))) | (refine take_ (i := 22) (N := some 73) (v := ?v_18) (a' := ?a_18) #[true, true, true, true, true, true, true, true, true, true, true, true, true, true, true, true, true, false, true, true, true, true, true, false, false, false, false, false] rfl rfl (by kernel_rfl) (fun _ _ _ h => h) (Or.inl ⟨by rfl, ?hy_18⟩) hHeld ?ha_18 ?hh_18; (case hy_18 => (rintro w' ⟨s0_, s1_, s2_, s3_⟩; go_simp; with_reducible rfl)); (case ha_18 => (simp (disch := omega) only [Act.put, List.setIfInBounds_toArray, List.set_cons_zero, List.set_cons_succ, wrap_in]; rfl)))
            first | (refine take_ (i := 23) (N := some 74) (v := undef) (a' := ?a_19) #[true, true, true, true, true, true, true, true, true, true, true, true, true, true, true, true, true, false, true, true, true, true, true, true, false, false, false, false] rfl rfl (by kernel_rfl) (fun _ _ _ h => h) (Or.inr ⟨by rfl, rfl⟩) hHeld ?ha_19 ?hh_19; (case ha_19 => (simp (disch := omega) only [Act.put, List.setIfInBounds_toArray, List.set_cons_zero, List.set_cons_succ, wrap_in]; rfl))) | (refine take_ (i := 23) (N := some 74) (v := ?v_19) (a' := ?a_19) #[true, true, true, true, true, true, true, true, true, true, true, true, true, true, true, true, true, false, true, true, true, true, true, true, false, false, false, false] rfl rfl (by kernel_rfl) (fun _ _ _ h => h) (Or.inl ⟨by rfl, ?hy_19⟩) hHeld ?ha_19 ?hh_19; (case hy_19 => (rintro w' ⟨s0_, s1_, s2_, s3_⟩; go_simp; with_reducible rfl)); (case ha_19 => (simp (disch := omega) only [Act.put, List.setIfInBounds_toArray, List.set_cons_zero, List.set_cons_succ, wrap_in]; rfl)))
            first | (refine take_ (i := 24) (N := some 75) (v := undef) (a' := ?a_20) #[true, true, true, true, true, true, true, true, true, true, true, true, true, true, true, true, true, false, true, true, true, true, true, true, true, false, false, false] rfl rfl (by kernel_rfl) (fun _ _ _ h => h) (Or.inr ⟨by rfl, rfl⟩) hHeld ?ha_20 ?hh_20; (case ha_20 => (simp (disch := omega) only [Act.put, List.setIfInBounds_toArray, List.set_cons_zero, List.set_cons_succ, wrap_in]; rfl))) | (refine take_ (i := 24) (N := some 75) (v := ?v_20) (a' := ?a_20) #[true, true, true, true, true, true, true, true, true, true, true, true, true, true, true, true, true, false, true, true, true, true, true, true, true, false, false, false] rfl rfl (by kernel_rfl) (fun _ _ _ h => h) (Or.inl ⟨by rfl, ?hy_20⟩) hHeld ?ha_20 ?hh_20; (case hy_20 => (rintro w' ⟨s0_, s1_, s2_, s3_⟩; go_simp; with_reducible rfl)); (case ha_20 => (simp (disch := omega) only [Act.put, List.setIfInBounds_toArray, List.set_cons_zero, List.set_cons_succ, wrap_in]; rfl)))
            refine one_ (i := 17) (N := some 68) #[true, true, true, true, true, true, true, true, true, true, true, true, true, true, true, true, true, true, true, true, true, true, true, true, true, false, false, false] rfl rfl (by kernel_rfl) (by decide) (fun K hK => ?_)
            (refine goes_ Try.func27 (by kernel_rfl) rfl ?args_21 (by rfl) rfl rfl ?hargs_21 ?hc_21; (case hargs_21 => (go_simp; with_reducible rfl)))
            (refine (KP.out _).mono ?_; rintro e w9 ⟨rfl, hb9⟩; have B9 := B8.trans (hb9.mono B8.size); refine ⟨_, rfl, ?_⟩)
            (refine hK.out _ _ ?hs_23 ?hn_23; (case hs_23 => (obtain ⟨s0_, s1_, s2_, s3_⟩ := hHeld; exact ⟨cell_below hb9 s0_, cell_below hb9 s1_, cell_below hb9 s2_, cell_below hb9 s3_⟩)); intro hHeld; clear hK K)
            (refine norm_ (a' := ?a_24) ?ha_24 ?hh_24; (case ha_24 => (simp (disch := omega) only [Act.put, List.setIfInBounds_toArray, List.set_cons_zero, List.set_cons_succ, wrap_in]; rfl)))
            refine one_ (i := 25) (N := some 76) #[true, true, true, true, true, true, true, true, true, true, true, true, true, true, true, true, true, true, true, true, true, true, true, true, true, true, false, false] rfl rfl (by kernel_rfl) (by decide) (fun K hK => ?_)
            (refine goes_ Try.func28 (by kernel_rfl) rfl ?args_25 (by rfl) rfl rfl ?hargs_25 ?hc_25; (case hargs_25 => (go_simp; with_reducible rfl)))
            (refine (SV.out _).mono ?_; rintro e w10 ⟨rfl, hb10⟩; have B10 := B9.trans (hb10.mono B9.size); refine ⟨_, rfl, ?_⟩)
            (refine hK.out _ _ ?hs_27 ?hn_27; (case hs_27 => (obtain ⟨s0_, s1_, s2_, s3_⟩ := hHeld; exact ⟨cell_below hb10 s0_, cell_below hb10 s1_, cell_below hb10 s2_, cell_below hb10 s3_⟩)); intro hHeld; clear hK K)
            (refine norm_ (a' := ?a_28) ?ha_28 ?hh_28; (case ha_28 => (simp (disch := omega) only [Act.put, List.setIfInBounds_toArray, List.set_cons_zero, List.set_cons_succ, wrap_in]; rfl)))
            first | (refine take_ (i := 26) (N := some 77) (v := undef) (a' := ?a_29) #[true, true, true, true, true, true, true, true, true, true, true, true, true, true, true, true, true, true, true, true, true, true, true, true, true, true, true, false] rfl rfl (by kernel_rfl) (fun _ _ _ h => h) (Or.inr ⟨by rfl, rfl⟩) hHeld ?ha_29 ?hh_29; (case ha_29 => (simp (disch := omega) only [Act.put, List.setIfInBounds_toArray, List.set_cons_zero, List.set_cons_succ, wrap_in]; rfl))) | (refine take_ (i := 26) (N := some 77) (v := ?v_29) (a' := ?a_29) #[true, true, true, true, true, true, true, true, true, true, true, true, true, true, true, true, true, true, true, true, true, true, true, true, true, true, true, false] rfl rfl (by kernel_rfl) (fun _ _ _ h => h) (Or.inl ⟨by rfl, ?hy_29⟩) hHeld ?ha_29 ?hh_29; (case hy_29 => (rintro w' ⟨s0_, s1_, s2_, s3_⟩; go_simp; with_reducible rfl)); (case ha_29 => (simp (disch := omega) only [Act.put, List.setIfInBounds_toArray, List.set_cons_zero, List.set_cons_succ, wrap_in]; rfl)))
            (refine take_ (i := 27) (N := some 78) (v := ?v_30) (a' := ?a_30) #[true, true, true, true, true, true, true, true, true, true, true, true, true, true, true, true, true, true, true, true, true, true, true, true, true, true, true, true] rfl rfl (by kernel_rfl) (fun _ _ _ h => h) (Or.inl ⟨by rfl, ?hy_30⟩) hHeld ?ha_30 ?hh_30; (case hy_30 => (rintro w' ⟨s0_, s1_, s2_, s3_⟩; go_simp; with_reducible rfl)); (case ha_30 => (simp (disch := omega) only [Act.put, List.setIfInBounds_toArray, List.set_cons_zero, List.set_cons_succ, wrap_in]; rfl)))
            refine done_ (by kernel_rfl) ?_
            all_goals go_wp2_with (fail)
            all_goals go_meet
            all_goals exact B10
          case rest =>
            have e0 := (show Below wq.heap.size wq wx from hcut)
            have C0 := cell_below e0 HE0.out
            have C1 := cell_below e0 HD0.out
            have C2 := cell_below e0 HD1.out
            have C3 := cell_below e0 HD2.out
            have HX := Lib.hid (HBQ.out.trans (e0.mono HBQ.out.size))
            clear e0 hcut d0 d1 d2
            go_wp2_with (go_at_call 28; refine (SV.out _).mono ?_; rintro e w11 ⟨rfl, hb11⟩)
            · go_roundg (q - 1)
              case measure => have := HK.out; omega
              case rel =>
                have hkH : (k : Int) = H2 := of_decide_eq_true (HSB.out.trans (by assumption))
                refine ⟨k + 1, o + 1, by have := HK.out; omega, by go_num, by go_num, ?_, HX.out.trans (hb11.mono HX.out.size)⟩
                rw [HO.out, if_neg (by omega), if_pos (by omega)]; rfl
            · go_roundg (q - 1)
              case measure => have := HK.out; omega
              case rel =>
                have hkH : ¬ (k : Int) = H2 := of_decide_eq_false (HSB.out.trans (by assumption))
                refine ⟨k + 1, o, by have := HK.out; omega, by go_num, by go_num, ?_, HX.out.trans (hb11.mono HX.out.size)⟩
                rw [HO.out]
                by_cases hc2 : H2 < (k : Int)
                · rw [if_pos hc2, if_pos (by omega)]
                · rw [if_neg hc2, if_neg (by omega)]
        · go_wp2_with (fail)
          go_ret
          have hkx : k = V2.row.length := by omega
          have ho1 : o = 1 := by rw [HO.out, if_pos (by omega)]
          refine ⟨by simp [ho1], K5.out.trans (HBQ.out.mono K5.out.size)⟩
namespace ledgerEnds
open Go.ChangeShapes Go.WideShapes Go.ChangeAt Go.RowKit
open Go.ChangeMaps (open_string shut_string)
theorem own : ownKnob Try.prog.godebug = none := by kernel_rfl
theorem laidOut : laidOutB Try.prog = true := by kernel_rfl
set_option maxRecDepth 100000 in
theorem lifted (os : Os) (started : os.Started) (H : Type) (enc : TypeId × Value → H) :
    ReturnsInHanded {} Try.checked os 9 .any (Rows.ledgerEndsSpec.pre6 enc Try.prog Try.f9 Rows.ledgerEndsRow.domain false) (Rows.ledgerEndsSpec.post enc Try.prog Try.f9 false true false false) := by
  refine returnsInHanded_of_change_sized (C := Try.checked) own started (by kernel_rfl) Try.func9
    (ChangeSpec.witness6 (enc := enc) (C := Try.checked) false ⟨#[], #[.int .i64 0, .int .i64 0, .slice none 0 0], []⟩ 8 (by kernel_rfl) (by kernel_rfl) (by kernel_rfl) (by kernel_rfl)) ?_
  intro W base args ds gs before hval0 hW hcnd hsz0 _
  have hsz : (DataW.weightsEach Try.prog (Try.f9.params.toList ++ Rows.ledgerEndsSpec.plain.varTypes Try.prog) (ds ++ gs)).all (· ≤ reachBytes) = true := hsz0
  have hval : ∀ (j : Nat) t v, Try.f9.params[j]? = some t → args[j]? = some v → Value.okWide Try.prog W .any base t v := hval0
  have hW' := hW
  obtain ⟨p, q, hA0, hV, rfl, hfz, hnd⟩ := hW
  have hA : DataW.TrodAll enc Try.prog W 0 (fun _ => true) true Try.f9.params.toList args.toList ds p := hA0
  rw [Try.params9] at hA hval hsz
  obtain ⟨v0, vs0, d0, ds0, p0, q0, hargs, rfl, rfl, h0, r0⟩ := trodAll_cons hA
  obtain ⟨v1, vs1, d1, ds1, p1, q1, rfl, rfl, rfl, h1, r1⟩ := trodAll_cons r0
  obtain ⟨v2, vs2, d2, ds2, p2, q2, rfl, rfl, rfl, h2, r2⟩ := trodAll_cons r1
  obtain ⟨rfl, rfl, rfl⟩ := trodAll_nil r2
  obtain rfl : args = #[v0, v1, v2] := by cases args; simp_all
  obtain ⟨rfl, rfl⟩ := trodVars_none hV
  obtain ⟨a0, rfl, rfl, rfl, w0⟩ := open_int Try.underlying3 (hval 0 3 v0 rfl rfl) h0
  obtain ⟨a1, rfl, rfl, rfl, w1⟩ := open_int Try.underlying3 (hval 1 3 v1 rfl rfl) h1
  obtain ⟨a2, len2, cap2, rfl⟩ := okWide_slice Try.underlying55 (hval 2 55 v2 rfl rfl)
  have k2 := h2
  have lt2 : ∀ x ∈ p2, x.block < W.heap.size := by obtain ⟨m, hm⟩ := k2; exact DataW.trod_lt m _ _ _ hm
  obtain ⟨xs2, rfl, hc2, hm2, hb2, hn2, he2⟩ := opened_slice (opens_Acs W) h2 (weights_at hsz (j := 2) (t := 55) rfl rfl)
  clear hA0 hval0 hsz0 hsz
  refine (LedgerEnds_walk W a0 w0 a1 w1 a2 cap2 xs2 hc2 hm2 hb2 hn2 he2).mono fun e W' ⟨he, bel⟩ => ?_
  subst he
  exact ⟨_, rfl, _, _, _, [], _, [], hW', trodAll_mk1 (shut_bool Try.underlying4 _), (trodAll_cons_mk (shut_int Try.underlying3 w0) (trodAll_cons_mk (shut_int Try.underlying3 w1) (trodAll_cons_mk (Below.trod laidOut (by kernel_rfl) (of_decide_eq_true (by kernel_rfl)) k2 bel lt2) trodAll_mk0))), rfl, bel.frame _, fun h => by cases h⟩
theorem over : Rows.ledgerEndsRow.holds Try.pinned (OpenSpec.ofChange Rows.ledgerEndsSpec) :=
  OpenClaim.holds_of_wide 9 Try.f9 rfl rfl rfl rfl rfl rfl rfl ⟨rfl, rfl, rfl, rfl, rfl⟩ rfl rfl rfl rfl rfl (by kernel_rfl) Try.func9 (by kernel_rfl)
    (of_decide_eq_true (by kernel_rfl)) (by unfold Func.isWrapper; first | (rw [if_pos (by decide +kernel)]; kernel_rfl) | (rw [if_neg (by decide +kernel)]; exact ⟨rfl, rfl⟩))
    (fun os started H enc _ => lifted os started H enc)
theorem proved : Rows.LedgerEndsSaid := over
end ledgerEnds
theorem ledgerEnds_holds : Rows.LedgerEndsSaid := ledgerEnds.proved
#print axioms ledgerEnds_holds
end Go.Proofs.Ytecdmbcdkfjgfaa
