/- ParcelReads: P1.5 to P1.8: every answer of every script of calls to readers, in whatever turns, and to none at all, is the document's. Conditions: none beyond the statement's own. -/
import Derived.Test.YtibelfljlhcibaaG4
namespace Go.Proofs.Ytibelfljlhcibaa
set_option linter.unusedVariables false
set_option linter.unusedSimpArgs false
open Go.ChangeShapes Go.WideShapes Go.ChangeAt Go.RowKit Go.Deep Go.Proofs.YtibelfljlhcibaaW.PrintLast

set_option maxRecDepth 100000 in
set_option maxHeartbeats 16000000 in
theorem reads_1 (w : World) (A0 : Option Addr) (c0 : Nat) (ls : List (List Int)) (h24 : ls.length * 24 ≤ reach) (he : RdBs.elems w A0 ls) (A1 : Option Addr) (c1 : Nat) (sc : List (Int × Int × Int × Unit)) (hs24 : sc.length * 24 ≤ reach) (hes : RdTk.elems w A1 sc) :
    Calls Try.prog 6 #[.slice A0 ls.length c0, .slice A1 sc.length c1] w fun e w' => e = .returned (.bool true) ∧ Below w.heap.size w w' := by
  obtain ⟨n, hn⟩ : ∃ n, ls.length = n := ⟨_, rfl⟩
  obtain ⟨nn, hnn⟩ : ∃ n, sc.length = n := ⟨_, rfl⟩
  have hn5 : n ≤ 6000000000000 := by unfold reach at h24; omega
  have hnn5 : nn ≤ 6000000000000 := by unfold reach at hs24; omega
  have HN := Lib.hid hn
  have HNN := Lib.hid hnn
  have HE := Lib.hid he
  have HES := Lib.hid hes
  rw [hn, hnn]
  clear h24 hs24 he hes hn hnn
  go_enter Try.func6, Try.ntmps6
  go_upto_region 4 with (fail)
  refine wp_loop_ghost_k (fun (m : Nat) (ac : Act) (wr : World) => ∃ u2 u3 u8 u9 u10 u11 u12 u13 u14 u15 u16 u17 u18 u19 u20 u21 u22 u23 u24 u25 u26 u27 u28 u29 u30 u31 u32 u33 u34 u35 u36 u37 u38 u39 u40 u41 u42 u43 u44 u45 u46 u47 u48 u49 u50 u51 u52 u53 u54 u55 u56 u57 u58 u59 u60 u61 u62 u63 u64 u65 u66 u67 u68 u69 u70 u71 u72 u73 u74 u75 u76 u77 u78 u79 u80 u81 u82 u83 u84 u85 u86 u87 u88 u89 u90 u91 u92 u93 u94 u95 u96 u97 u98 u99 u100 u101 u102 u103 u104 u105 u106 u107 u108 u109 u110 u111 u112 u113 u114 u115 u116 u117 u118 u119 u120 u121 u122 u123 u124 u125 u126 u127 u128 u129 u130 v5 v6 v7 : Value, (∃ (i : Nat) (A : Option Addr) (cA : Nat) (B : Option Addr) (cB : Nat) (obs : Obs RS), m + i = n ∧ v5 = .slice A i cA ∧ v6 = .slice B i cB ∧ v7 = .int .i64 i ∧ obs.length = i ∧ StR w wr A cA B cB obs) ∧ ac = ({ tmps := #[.slice A0 n c0, .slice A1 nn c1, u2, u3, .bool false, v5, v6, v7, u8, u9, u10, u11, u12, u13, u14, u15, u16, u17, u18, u19, u20, u21, u22, u23, u24, u25, u26, u27, u28, u29, u30, u31, u32, u33, u34, u35, u36, u37, u38, u39, u40, u41, u42, u43, u44, u45, u46, u47, u48, u49, u50, u51, u52, u53, u54, u55, u56, u57, u58, u59, u60, u61, u62, u63, u64, u65, u66, u67, u68, u69, u70, u71, u72, u73, u74, u75, u76, u77, u78, u79, u80, u81, u82, u83, u84, u85, u86, u87, u88, u89, u90, u91, u92, u93, u94, u95, u96, u97, u98, u99, u100, u101, u102, u103, u104, u105, u106, u107, u108, u109, u110, u111, u112, u113, u114, u115, u116, u117, u118, u119, u120, u121, u122, u123, u124, u125, u126, u127, u128, u129, u130], defers := [] } : Act)) (n) ?atStart ?round
  case' atStart => ((repeat apply Exists.intro); refine ⟨?_, rfl⟩)
  case' round => (intro m ac wr hcut; obtain ⟨u2, hcut⟩ := hcut; obtain ⟨u3, hcut⟩ := hcut; obtain ⟨u8, hcut⟩ := hcut; obtain ⟨u9, hcut⟩ := hcut; obtain ⟨u10, hcut⟩ := hcut; obtain ⟨u11, hcut⟩ := hcut; obtain ⟨u12, hcut⟩ := hcut; obtain ⟨u13, hcut⟩ := hcut; obtain ⟨u14, hcut⟩ := hcut; obtain ⟨u15, hcut⟩ := hcut; obtain ⟨u16, hcut⟩ := hcut; obtain ⟨u17, hcut⟩ := hcut; obtain ⟨u18, hcut⟩ := hcut; obtain ⟨u19, hcut⟩ := hcut; obtain ⟨u20, hcut⟩ := hcut; obtain ⟨u21, hcut⟩ := hcut; obtain ⟨u22, hcut⟩ := hcut; obtain ⟨u23, hcut⟩ := hcut; obtain ⟨u24, hcut⟩ := hcut; obtain ⟨u25, hcut⟩ := hcut; obtain ⟨u26, hcut⟩ := hcut; obtain ⟨u27, hcut⟩ := hcut; obtain ⟨u28, hcut⟩ := hcut; obtain ⟨u29, hcut⟩ := hcut; obtain ⟨u30, hcut⟩ := hcut; obtain ⟨u31, hcut⟩ := hcut; obtain ⟨u32, hcut⟩ := hcut; obtain ⟨u33, hcut⟩ := hcut; obtain ⟨u34, hcut⟩ := hcut; obtain ⟨u35, hcut⟩ := hcut; obtain ⟨u36, hcut⟩ := hcut; obtain ⟨u37, hcut⟩ := hcut; obtain ⟨u38, hcut⟩ := hcut; obtain ⟨u39, hcut⟩ := hcut; obtain ⟨u40, hcut⟩ := hcut; obtain ⟨u41, hcut⟩ := hcut; obtain ⟨u42, hcut⟩ := hcut; obtain ⟨u43, hcut⟩ := hcut; obtain ⟨u44, hcut⟩ := hcut; obtain ⟨u45, hcut⟩ := hcut; obtain ⟨u46, hcut⟩ := hcut; obtain ⟨u47, hcut⟩ := hcut; obtain ⟨u48, hcut⟩ := hcut; obtain ⟨u49, hcut⟩ := hcut; obtain ⟨u50, hcut⟩ := hcut; obtain ⟨u51, hcut⟩ := hcut; obtain ⟨u52, hcut⟩ := hcut; obtain ⟨u53, hcut⟩ := hcut; obtain ⟨u54, hcut⟩ := hcut; obtain ⟨u55, hcut⟩ := hcut; obtain ⟨u56, hcut⟩ := hcut; obtain ⟨u57, hcut⟩ := hcut; obtain ⟨u58, hcut⟩ := hcut; obtain ⟨u59, hcut⟩ := hcut; obtain ⟨u60, hcut⟩ := hcut; obtain ⟨u61, hcut⟩ := hcut; obtain ⟨u62, hcut⟩ := hcut; obtain ⟨u63, hcut⟩ := hcut; obtain ⟨u64, hcut⟩ := hcut; obtain ⟨u65, hcut⟩ := hcut; obtain ⟨u66, hcut⟩ := hcut; obtain ⟨u67, hcut⟩ := hcut; obtain ⟨u68, hcut⟩ := hcut; obtain ⟨u69, hcut⟩ := hcut; obtain ⟨u70, hcut⟩ := hcut; obtain ⟨u71, hcut⟩ := hcut; obtain ⟨u72, hcut⟩ := hcut; obtain ⟨u73, hcut⟩ := hcut; obtain ⟨u74, hcut⟩ := hcut; obtain ⟨u75, hcut⟩ := hcut; obtain ⟨u76, hcut⟩ := hcut; obtain ⟨u77, hcut⟩ := hcut; obtain ⟨u78, hcut⟩ := hcut; obtain ⟨u79, hcut⟩ := hcut; obtain ⟨u80, hcut⟩ := hcut; obtain ⟨u81, hcut⟩ := hcut; obtain ⟨u82, hcut⟩ := hcut; obtain ⟨u83, hcut⟩ := hcut; obtain ⟨u84, hcut⟩ := hcut; obtain ⟨u85, hcut⟩ := hcut; obtain ⟨u86, hcut⟩ := hcut; obtain ⟨u87, hcut⟩ := hcut; obtain ⟨u88, hcut⟩ := hcut; obtain ⟨u89, hcut⟩ := hcut; obtain ⟨u90, hcut⟩ := hcut; obtain ⟨u91, hcut⟩ := hcut; obtain ⟨u92, hcut⟩ := hcut; obtain ⟨u93, hcut⟩ := hcut; obtain ⟨u94, hcut⟩ := hcut; obtain ⟨u95, hcut⟩ := hcut; obtain ⟨u96, hcut⟩ := hcut; obtain ⟨u97, hcut⟩ := hcut; obtain ⟨u98, hcut⟩ := hcut; obtain ⟨u99, hcut⟩ := hcut; obtain ⟨u100, hcut⟩ := hcut; obtain ⟨u101, hcut⟩ := hcut; obtain ⟨u102, hcut⟩ := hcut; obtain ⟨u103, hcut⟩ := hcut; obtain ⟨u104, hcut⟩ := hcut; obtain ⟨u105, hcut⟩ := hcut; obtain ⟨u106, hcut⟩ := hcut; obtain ⟨u107, hcut⟩ := hcut; obtain ⟨u108, hcut⟩ := hcut; obtain ⟨u109, hcut⟩ := hcut; obtain ⟨u110, hcut⟩ := hcut; obtain ⟨u111, hcut⟩ := hcut; obtain ⟨u112, hcut⟩ := hcut; obtain ⟨u113, hcut⟩ := hcut; obtain ⟨u114, hcut⟩ := hcut; obtain ⟨u115, hcut⟩ := hcut; obtain ⟨u116, hcut⟩ := hcut; obtain ⟨u117, hcut⟩ := hcut; obtain ⟨u118, hcut⟩ := hcut; obtain ⟨u119, hcut⟩ := hcut; obtain ⟨u120, hcut⟩ := hcut; obtain ⟨u121, hcut⟩ := hcut; obtain ⟨u122, hcut⟩ := hcut; obtain ⟨u123, hcut⟩ := hcut; obtain ⟨u124, hcut⟩ := hcut; obtain ⟨u125, hcut⟩ := hcut; obtain ⟨u126, hcut⟩ := hcut; obtain ⟨u127, hcut⟩ := hcut; obtain ⟨u128, hcut⟩ := hcut; obtain ⟨u129, hcut⟩ := hcut; obtain ⟨u130, hcut⟩ := hcut; obtain ⟨v5, hcut⟩ := hcut; obtain ⟨v6, hcut⟩ := hcut; obtain ⟨v7, hcut⟩ := hcut; obtain ⟨hcut, hac⟩ := hcut; subst hac; intro _ _ _ _)
  case atStart => exact ⟨0, none, 0, none, 0, [], rfl, rfl, rfl, rfl, rfl, StI.nil _ _ _ (Below.refl _ _)⟩
  case round =>
    obtain ⟨i, A, cA, B, cB, obs, hi, rfl, rfl, rfl, hol, SI⟩ := hcut
    have HI := Lib.hid hi
    have HOL := Lib.hid hol
    have HSI := Lib.hid SI
    have hib : i ≤ 6000000000000 := by omega
    clear hi hol SI
    by_cases hlt : i < n
    · have hix : i < ls.length := by rw [HN.out]; exact hlt
      obtain ⟨b, o, Bx, cx, hA, hcell, hlr, hbyt, hsrc⟩ := bss_at HE.out (List.getElem?_eq_getElem hix)
      have HB := Lib.hid HSI.out.back
      have hcell0 := cell_below HB.out hcell
      generalize ls[i] = l at *
      obtain ⟨q, hq⟩ : ∃ q, l.length = q := ⟨_, rfl⟩
      unfold reach at hlr
      rw [hq] at hcell hcell0 hlr
      subst hA
      have HQ := Lib.hid hq
      have HCELL := Lib.hid hcell
      have HBYT := Lib.hid hbyt
      have HSRC := Lib.hid hsrc
      have CA := lent_any (c0 := cx) (hsrc.below HB.out) (by omega)
      rw [hq] at CA
      have CA := Lib.hid CA
      clear hcell hbyt hsrc hix hq
      go_wp2_with (fail)
      refine CA.out.mono ?_
      rintro e w1 ⟨⟨X, xn, xc⟩, rfl, L1, B1⟩
      have ex := L1.len
      simp only at ex
      rw [HQ.out] at ex
      subst ex
      have HL1 := Lib.hid L1
      have HB1 := Lib.hid B1
      have HNI1 := Lib.hid L1.newIn
      have CR := read_any (cc := xc) L1.src (by rw [HQ.out]; omega)
      rw [HQ.out] at CR
      have CR := Lib.hid CR
      clear L1 B1 CA hcell0
      go_wp2_with (fail)
      refine CR.out.mono ?_
      rintro e w2 ⟨k, rfl, hk, B2, R2⟩
      have HB2 := Lib.hid (HB1.out.trans (B2.mono HB1.out.size))
      have HL2 := Lib.hid (HL1.out.below B2)
      have HR2 := Lib.hid R2
      have HNI := Lib.hid (HNI1.out.blw B2)
      have hcell2 : w2.cell? ⟨b, o + i, none⟩ = some (.slice Bx xn cx) := cell_below (HB.out.trans (HB2.out.mono HB.out.size)) HCELL.out
      have CK := kept_any (c0 := cx) HL2.out (HSRC.out.below (HB.out.trans (HB2.out.mono HB.out.size))) (by rw [HQ.out]; omega)
      simp only at CK
      rw [HQ.out] at CK
      have CK := Lib.hid CK
      have HS21 := Lib.hid B2.size
      clear B2 R2 CR hk HL1
      go_wp2_with (fail)
      refine CK.out.mono ?_
      rintro e w3 ⟨rfl, B3⟩
      have HB3 := Lib.hid (HB2.out.trans (B3.mono HB2.out.size))
      have HR3 := Lib.hid (HR2.out.below B3)
      have CS := Lib.hid (spoil_any (HNI.out.blw B3) HBYT.out (by rw [HQ.out]; omega))
      have HS32 := Lib.hid B3.size
      clear B3 CK hcell2
      go_wp2_with (fail)
      refine CS.out.mono ?_
      rintro e w4 ⟨rfl, _, F4, S4⟩
      have HB4 := Lib.hid (show Below wr.heap.size wr w4 from HB3.out.trans (F4.toBelow (fun x hx => hx.1) HB3.out.size))
      have HR4 := Lib.hid (show RLies w4 (fun b => wr.heap.size ≤ b ∧ b < w4.heap.size) k ⟨l, [], 0⟩ from (HR3.out.same fun b hb hl => F4.block b hl fun h => by omega).mono fun b hb => ⟨by have := HB1.out.size; omega, by rw [S4]; have := HS32.out; omega⟩)
      have SA := HSI.out.first RLies_local RefLies_local HB4.out HR4.out
      obtain ⟨A', cA', w5, hr5, SA5⟩ := SA.pushA elPR RLies_local RefLies_local (ptO k) (by rw [ptsA_len, HOL.out]; omega)
      rw [ptsA_len, HOL.out] at hr5
      have HRU := Lib.hid hr5
      have HSA := Lib.hid SA5
      clear SA hr5 SA5 F4 S4 CS
      go_upto_region 12 with (refine wpList_app HRU.out rfl rfl rfl (by rfl) (by rfl) ?_)
      have HB5 := Lib.hid (show Below w.heap.size w w5 from by obtain ⟨F, _, _, h, _⟩ := HSA.out; exact h)
      have hcell5 : w5.cell? ⟨b, o + i, none⟩ = some (.slice Bx xn cx) := cell_below HB5.out HCELL.out
      have CQ := refRead_any w5 (cc := cx) (HSRC.out.below HB5.out) (by rw [HQ.out]; omega)
      rw [HQ.out] at CQ
      have CQ := Lib.hid CQ
      go_wp2_with (fail)
      refine CQ.out.mono ?_
      rintro e w6 ⟨km, rfl, R6, B6⟩
      have SB := HSA.out.second RLies_local RefLies_local B6 R6
      obtain ⟨B', cB', w7, hr7, S7⟩ := SB.pushB elQR RLies_local RefLies_local (GoodR.new ⟨HBYT.out, by rw [HQ.out]; omega⟩) (ptO km) (by rw [ptsB_len, HOL.out]; omega)
      rw [ptsB_len, HOL.out] at hr7
      have HRV := Lib.hid hr7
      have HS7 := Lib.hid (show StR w w7 A' cA' B' cB' (obs ++ [some (k, km, ⟨l, [], 0⟩)]) from by
        unfold StR ptsA ptsB
        rw [List.map_append, List.map_append]
        exact S7)
      clear SB hr7 S7 R6 B6 CQ hcell5 HRU
      go_wp2_with (refine wpList_app HRV.out rfl rfl rfl (by rfl) (by rfl) ?_)
      go_roundg (m - 1)
      case measure => have := HI.out; omega
      case rel => exact ⟨i + 1, A', cA', B', cB', _, by have := HI.out; omega, by go_num, by go_num, by go_num, by rw [List.length_append, HOL.out]; rfl, HS7.out⟩
    · have hin : i = n := by have := HI.out; omega
      subst hin
      obtain ⟨A', cA', w1, hr1, S1⟩ := HSI.out.pushA elPR PRq_local none (by rw [ptsA_len, HOL.out]; omega)
      rw [ptsA_len, HOL.out] at hr1
      obtain ⟨B', cB', w2, hr2, S2⟩ := S1.pushB elQR PRq_local none (by rw [ptsB_len, HOL.out]; omega)
      rw [ptsB_len, HOL.out] at hr2
      obtain ⟨L, hL⟩ : ∃ L, i + 1 = L := ⟨_, rfl⟩
      rw [hL] at hr1 hr2
      have HLL := Lib.hid hL
      have HRU := Lib.hid hr1
      have HRV := Lib.hid hr2
      obtain ⟨ob1, hob1⟩ : ∃ ob1, ob1 = obs ++ [none] := ⟨_, rfl⟩
      have HS2 := Lib.hid (show StR w w2 A' cA' B' cB' ob1 from by
        rw [hob1]
        unfold StR ptsA ptsB
        rw [List.map_append, List.map_append]
        exact S2)
      have HL1 := Lib.hid (show ob1.length = L from by rw [hob1, List.length_append, HOL.out, ← hL]; rfl)
      have HN1 := Lib.hid (show ob1[i]? = some none from by rw [hob1, List.getElem?_append_right (by rw [HOL.out]; exact Nat.le_refl _), HOL.out, Nat.sub_self]; rfl)
      have hLb : L ≤ 6000000000001 := by omega
      have hL0 : 1 ≤ L := by omega
      clear S1 S2 hr1 hr2 hob1 hL
      go_upto_region 15 with (refine wpList_app HRU.out rfl rfl rfl (by rfl) (by rfl) ?_)
      go_upto_region 17 with (refine wpList_app HRV.out rfl rfl rfl (by rfl) (by rfl) ?_)
      clear HRU HRV HI HOL HSI HE
      refine wp_loop_ghost_k (fun (mm : Nat) (ac : Act) (ww : World) => ∃ u2 u3 u7 u8 u9 u10 u12 u13 u14 u15 u16 u17 u18 u19 u20 u21 u22 u23 u24 u25 u26 u27 u28 u29 u30 u31 u32 u33 u34 u35 u36 u37 u38 u39 u40 u41 u42 u43 u44 u45 u46 u47 u48 u49 u50 u51 u52 u53 u54 u55 u56 u57 u58 u59 u60 u61 u62 u63 u64 u65 u66 u67 u68 u69 u70 u71 u72 u73 u74 u75 u76 u77 u78 u79 u80 u81 u82 u83 u84 u85 u86 u87 u88 u89 u90 u91 u92 u93 u94 u95 u96 u97 u98 u99 u100 u101 u102 u103 u104 u105 u106 u107 u108 u109 u110 u111 u112 u113 u114 u115 u116 u117 u118 u119 u120 u121 u122 u123 u124 u125 u126 u127 u128 u129 u130 v11 : Value, (∃ (j : Nat) (obs : Obs RS), mm + j = nn ∧ v11 = .int .i64 j ∧ obs.length = L ∧ obs[i]? = some none ∧ StR w ww A' cA' B' cB' obs) ∧ ac = ({ tmps := #[.slice A0 i c0, .slice A1 nn c1, u2, u3, .bool false, .slice A' L cA', .slice B' L cB', u7, u8, u9, u10, v11, u12, u13, u14, u15, u16, u17, u18, u19, u20, u21, u22, u23, u24, u25, u26, u27, u28, u29, u30, u31, u32, u33, u34, u35, u36, u37, u38, u39, u40, u41, u42, u43, u44, u45, u46, u47, u48, u49, u50, u51, u52, u53, u54, u55, u56, u57, u58, u59, u60, u61, u62, u63, u64, u65, u66, u67, u68, u69, u70, u71, u72, u73, u74, u75, u76, u77, u78, u79, u80, u81, u82, u83, u84, u85, u86, u87, u88, u89, u90, u91, u92, u93, u94, u95, u96, u97, u98, u99, u100, u101, u102, u103, u104, u105, u106, u107, u108, u109, u110, u111, u112, u113, u114, u115, u116, u117, u118, u119, u120, u121, u122, u123, u124, u125, u126, u127, u128, u129, u130], defers := [] } : Act)) (nn) ?atStart ?round
      case' atStart => ((repeat apply Exists.intro); refine ⟨?_, rfl⟩)
      case' round => (intro mm ac ww hcut; obtain ⟨u2, hcut⟩ := hcut; obtain ⟨u3, hcut⟩ := hcut; obtain ⟨u7, hcut⟩ := hcut; obtain ⟨u8, hcut⟩ := hcut; obtain ⟨u9, hcut⟩ := hcut; obtain ⟨u10, hcut⟩ := hcut; obtain ⟨u12, hcut⟩ := hcut; obtain ⟨u13, hcut⟩ := hcut; obtain ⟨u14, hcut⟩ := hcut; obtain ⟨u15, hcut⟩ := hcut; obtain ⟨u16, hcut⟩ := hcut; obtain ⟨u17, hcut⟩ := hcut; obtain ⟨u18, hcut⟩ := hcut; obtain ⟨u19, hcut⟩ := hcut; obtain ⟨u20, hcut⟩ := hcut; obtain ⟨u21, hcut⟩ := hcut; obtain ⟨u22, hcut⟩ := hcut; obtain ⟨u23, hcut⟩ := hcut; obtain ⟨u24, hcut⟩ := hcut; obtain ⟨u25, hcut⟩ := hcut; obtain ⟨u26, hcut⟩ := hcut; obtain ⟨u27, hcut⟩ := hcut; obtain ⟨u28, hcut⟩ := hcut; obtain ⟨u29, hcut⟩ := hcut; obtain ⟨u30, hcut⟩ := hcut; obtain ⟨u31, hcut⟩ := hcut; obtain ⟨u32, hcut⟩ := hcut; obtain ⟨u33, hcut⟩ := hcut; obtain ⟨u34, hcut⟩ := hcut; obtain ⟨u35, hcut⟩ := hcut; obtain ⟨u36, hcut⟩ := hcut; obtain ⟨u37, hcut⟩ := hcut; obtain ⟨u38, hcut⟩ := hcut; obtain ⟨u39, hcut⟩ := hcut; obtain ⟨u40, hcut⟩ := hcut; obtain ⟨u41, hcut⟩ := hcut; obtain ⟨u42, hcut⟩ := hcut; obtain ⟨u43, hcut⟩ := hcut; obtain ⟨u44, hcut⟩ := hcut; obtain ⟨u45, hcut⟩ := hcut; obtain ⟨u46, hcut⟩ := hcut; obtain ⟨u47, hcut⟩ := hcut; obtain ⟨u48, hcut⟩ := hcut; obtain ⟨u49, hcut⟩ := hcut; obtain ⟨u50, hcut⟩ := hcut; obtain ⟨u51, hcut⟩ := hcut; obtain ⟨u52, hcut⟩ := hcut; obtain ⟨u53, hcut⟩ := hcut; obtain ⟨u54, hcut⟩ := hcut; obtain ⟨u55, hcut⟩ := hcut; obtain ⟨u56, hcut⟩ := hcut; obtain ⟨u57, hcut⟩ := hcut; obtain ⟨u58, hcut⟩ := hcut; obtain ⟨u59, hcut⟩ := hcut; obtain ⟨u60, hcut⟩ := hcut; obtain ⟨u61, hcut⟩ := hcut; obtain ⟨u62, hcut⟩ := hcut; obtain ⟨u63, hcut⟩ := hcut; obtain ⟨u64, hcut⟩ := hcut; obtain ⟨u65, hcut⟩ := hcut; obtain ⟨u66, hcut⟩ := hcut; obtain ⟨u67, hcut⟩ := hcut; obtain ⟨u68, hcut⟩ := hcut; obtain ⟨u69, hcut⟩ := hcut; obtain ⟨u70, hcut⟩ := hcut; obtain ⟨u71, hcut⟩ := hcut; obtain ⟨u72, hcut⟩ := hcut; obtain ⟨u73, hcut⟩ := hcut; obtain ⟨u74, hcut⟩ := hcut; obtain ⟨u75, hcut⟩ := hcut; obtain ⟨u76, hcut⟩ := hcut; obtain ⟨u77, hcut⟩ := hcut; obtain ⟨u78, hcut⟩ := hcut; obtain ⟨u79, hcut⟩ := hcut; obtain ⟨u80, hcut⟩ := hcut; obtain ⟨u81, hcut⟩ := hcut; obtain ⟨u82, hcut⟩ := hcut; obtain ⟨u83, hcut⟩ := hcut; obtain ⟨u84, hcut⟩ := hcut; obtain ⟨u85, hcut⟩ := hcut; obtain ⟨u86, hcut⟩ := hcut; obtain ⟨u87, hcut⟩ := hcut; obtain ⟨u88, hcut⟩ := hcut; obtain ⟨u89, hcut⟩ := hcut; obtain ⟨u90, hcut⟩ := hcut; obtain ⟨u91, hcut⟩ := hcut; obtain ⟨u92, hcut⟩ := hcut; obtain ⟨u93, hcut⟩ := hcut; obtain ⟨u94, hcut⟩ := hcut; obtain ⟨u95, hcut⟩ := hcut; obtain ⟨u96, hcut⟩ := hcut; obtain ⟨u97, hcut⟩ := hcut; obtain ⟨u98, hcut⟩ := hcut; obtain ⟨u99, hcut⟩ := hcut; obtain ⟨u100, hcut⟩ := hcut; obtain ⟨u101, hcut⟩ := hcut; obtain ⟨u102, hcut⟩ := hcut; obtain ⟨u103, hcut⟩ := hcut; obtain ⟨u104, hcut⟩ := hcut; obtain ⟨u105, hcut⟩ := hcut; obtain ⟨u106, hcut⟩ := hcut; obtain ⟨u107, hcut⟩ := hcut; obtain ⟨u108, hcut⟩ := hcut; obtain ⟨u109, hcut⟩ := hcut; obtain ⟨u110, hcut⟩ := hcut; obtain ⟨u111, hcut⟩ := hcut; obtain ⟨u112, hcut⟩ := hcut; obtain ⟨u113, hcut⟩ := hcut; obtain ⟨u114, hcut⟩ := hcut; obtain ⟨u115, hcut⟩ := hcut; obtain ⟨u116, hcut⟩ := hcut; obtain ⟨u117, hcut⟩ := hcut; obtain ⟨u118, hcut⟩ := hcut; obtain ⟨u119, hcut⟩ := hcut; obtain ⟨u120, hcut⟩ := hcut; obtain ⟨u121, hcut⟩ := hcut; obtain ⟨u122, hcut⟩ := hcut; obtain ⟨u123, hcut⟩ := hcut; obtain ⟨u124, hcut⟩ := hcut; obtain ⟨u125, hcut⟩ := hcut; obtain ⟨u126, hcut⟩ := hcut; obtain ⟨u127, hcut⟩ := hcut; obtain ⟨u128, hcut⟩ := hcut; obtain ⟨u129, hcut⟩ := hcut; obtain ⟨u130, hcut⟩ := hcut; obtain ⟨v11, hcut⟩ := hcut; obtain ⟨hcut, hac⟩ := hcut; subst hac; intro _ _ _ _)
      case atStart => exact ⟨0, ob1, rfl, rfl, HL1.out, HN1.out, HS2.out⟩
      case round =>
        obtain ⟨j, ob, hj, rfl, hol, hno, SI⟩ := hcut
        have HJ := Lib.hid hj
        have HOL := Lib.hid hol
        have HNO := Lib.hid hno
        have HSI := Lib.hid SI
        have hjb : j ≤ 6000000000000 := by omega
        clear hj hol hno SI HL1 HN1 HS2
        by_cases hjn : j < nn
        · have hjx : j < sc.length := by rw [HNN.out]; exact hjn
          obtain ⟨b, o, hA, k0, k1, k2, i0, i1, i2⟩ := tk_at HES.out (List.getElem?_eq_getElem hjx)
          generalize sc[j] = x at *
          obtain ⟨kd, wh, xi, _⟩ := x
          simp only at k0 k1 k2 i0 i1 i2
          subst hA
          have HB := Lib.hid HSI.out.back
          have d0 := cell_below HB.out k0
          have d1 := cell_below HB.out k1
          have d2 := cell_below HB.out k2
          have CP := Lib.hid (fun u : World => place_any wh L (by omega) (by omega) i1.1 i1.2 u)
          obtain ⟨p, hp⟩ : ∃ p : Nat, (wh % (L : Int)).toNat = p := ⟨_, rfl⟩
          have hpl : p < L := by
            have := Int.emod_lt_of_pos wh (b := (L : Int)) (by omega)
            have := Int.emod_nonneg wh (b := (L : Int)) (by omega)
            omega
          rw [hp] at CP
          have q0 : (0 : Int) ≤ (p : Int) := by omega
          have q1 : (p : Int) < (L : Int) := by omega
          have q2 : (0 : Int) ≤ (j : Int) := by omega
          have q3 : (j : Int) < (nn : Int) := by omega
          have hpx : p < ob.length := by rw [HOL.out]; exact hpl
          obtain ⟨a, bq, rfl, rfl, ca, cb⟩ := Stand.at_ (h := (Classical.choose_spec HSI.out).1) (List.getElem?_eq_getElem hpx)
          have HTK := Lib.hid (takes_st (HSI.out.below PRq_local (Below.refl _ _).drew) HNO.out (List.getElem?_eq_getElem hpx) kd wh xi i2.1 i2.2)
          generalize (ob[p]).map (fun x : Nat × Nat × RS => (⟨x.1, 0, none⟩ : Addr)) = P1 at *
          generalize (ob[p]).map (fun x : Nat × Nat × RS => (⟨x.2.1, 0, none⟩ : Addr)) = P2 at *
          clear k0 k1 k2 i0 i1 i2 hp hjx hpx
          go_wp2_with (fail)
          refine (CP.out _).mono ?_
          rintro e w_ ⟨rfl, rfl⟩
          go_upto_region 20 with (fail)
          refine start_ (n := 14) (S := fun w' => w'.cell? ⟨a, p, none⟩ = some (.pointer P1) ∧ w'.cell? ⟨bq, p, none⟩ = some (.pointer P2) ∧ w'.cell? ⟨b, o + j * 3, none⟩ = some (.int .i64 kd) ∧ w'.cell? ⟨b, o + j * 3 + 1, none⟩ = some (.int .i64 wh) ∧ w'.cell? ⟨b, o + j * 3 + 2, none⟩ = some (.int .i64 xi)) (ds := [12]) #[false, false, false, false, false, false, false, false, false, false, false, false, false, false] (by kernel_rfl) rfl rfl ⟨ca, cb, d0, d1, d2⟩ (fun hHeld => ?_)
          (refine take_ (i := 0) (N := some 76) (v := ?v_7) (a' := ?a_7) #[true, false, false, false, false, false, false, false, false, false, false, false, false, false] rfl rfl (by kernel_rfl) (fun _ _ _ h => h) (Or.inl ⟨by rfl, ?hy_7⟩) hHeld ?ha_7 ?hh_7; (case hy_7 => (rintro w' ⟨s0_, s1_, s2_, s3_, s4_⟩; go_simp; with_reducible rfl)); (case ha_7 => (simp (disch := omega) only [Act.put, List.setIfInBounds_toArray, List.set_cons_zero, List.set_cons_succ, wrap_in]; rfl)))
          (refine take_ (i := 1) (N := some 77) (v := ?v_8) (a' := ?a_8) #[true, true, false, false, false, false, false, false, false, false, false, false, false, false] rfl rfl (by kernel_rfl) (fun _ _ _ h => h) (Or.inl ⟨by rfl, ?hy_8⟩) hHeld ?ha_8 ?hh_8; (case hy_8 => (rintro w' ⟨s0_, s1_, s2_, s3_, s4_⟩; go_simp; with_reducible rfl)); (case ha_8 => (simp (disch := omega) only [Act.put, List.setIfInBounds_toArray, List.set_cons_zero, List.set_cons_succ, wrap_in]; rfl)))
          (refine take_ (i := 2) (N := some 78) (v := ?v_9) (a' := ?a_9) #[true, true, true, false, false, false, false, false, false, false, false, false, false, false] rfl rfl (by kernel_rfl) (fun _ _ _ h => h) (Or.inl ⟨by rfl, ?hy_9⟩) hHeld ?ha_9 ?hh_9; (case hy_9 => (rintro w' ⟨s0_, s1_, s2_, s3_, s4_⟩; go_simp; with_reducible rfl)); (case ha_9 => (simp (disch := omega) only [Act.put, List.setIfInBounds_toArray, List.set_cons_zero, List.set_cons_succ, wrap_in]; rfl)))
          (refine take_ (i := 3) (N := some 79) (v := ?v_10) (a' := ?a_10) #[true, true, true, true, false, false, false, false, false, false, false, false, false, false] rfl rfl (by kernel_rfl) (fun _ _ _ h => h) (Or.inl ⟨by rfl, ?hy_10⟩) hHeld ?ha_10 ?hh_10; (case hy_10 => (rintro w' ⟨s0_, s1_, s2_, s3_, s4_⟩; go_simp; with_reducible rfl)); (case ha_10 => (simp (disch := omega) only [Act.put, List.setIfInBounds_toArray, List.set_cons_zero, List.set_cons_succ, wrap_in]; rfl)))
          (refine take_ (i := 4) (N := some 80) (v := ?v_11) (a' := ?a_11) #[true, true, true, true, true, false, false, false, false, false, false, false, false, false] rfl rfl (by kernel_rfl) (fun _ _ _ h => h) (Or.inl ⟨by rfl, ?hy_11⟩) hHeld ?ha_11 ?hh_11; (case hy_11 => (rintro w' ⟨s0_, s1_, s2_, s3_, s4_⟩; go_simp; with_reducible rfl)); (case ha_11 => (simp (disch := omega) only [Act.put, List.setIfInBounds_toArray, List.set_cons_zero, List.set_cons_succ, wrap_in]; rfl)))
          (refine take_ (i := 5) (N := some 81) (v := ?v_12) (a' := ?a_12) #[true, true, true, true, true, true, false, false, false, false, false, false, false, false] rfl rfl (by kernel_rfl) (fun _ _ _ h => h) (Or.inl ⟨by rfl, ?hy_12⟩) hHeld ?ha_12 ?hh_12; (case hy_12 => (rintro w' ⟨s0_, s1_, s2_, s3_, s4_⟩; go_simp; with_reducible rfl)); (case ha_12 => (simp (disch := omega) only [Act.put, List.setIfInBounds_toArray, List.set_cons_zero, List.set_cons_succ, wrap_in]; rfl)))
          (refine take_ (i := 6) (N := some 82) (v := ?v_13) (a' := ?a_13) #[true, true, true, true, true, true, true, false, false, false, false, false, false, false] rfl rfl (by kernel_rfl) (fun _ _ _ h => h) (Or.inl ⟨by rfl, ?hy_13⟩) hHeld ?ha_13 ?hh_13; (case hy_13 => (rintro w' ⟨s0_, s1_, s2_, s3_, s4_⟩; go_simp; with_reducible rfl)); (case ha_13 => (simp (disch := omega) only [Act.put, List.setIfInBounds_toArray, List.set_cons_zero, List.set_cons_succ, wrap_in]; rfl)))
          (refine take_ (i := 7) (N := some 83) (v := ?v_14) (a' := ?a_14) #[true, true, true, true, true, true, true, true, false, false, false, false, false, false] rfl rfl (by kernel_rfl) (fun _ _ _ h => h) (Or.inl ⟨by rfl, ?hy_14⟩) hHeld ?ha_14 ?hh_14; (case hy_14 => (rintro w' ⟨s0_, s1_, s2_, s3_, s4_⟩; go_simp; with_reducible rfl)); (case ha_14 => (simp (disch := omega) only [Act.put, List.setIfInBounds_toArray, List.set_cons_zero, List.set_cons_succ, wrap_in]; rfl)))
          (refine take_ (i := 8) (N := some 84) (v := ?v_15) (a' := ?a_15) #[true, true, true, true, true, true, true, true, true, false, false, false, false, false] rfl rfl (by kernel_rfl) (fun _ _ _ h => h) (Or.inl ⟨by rfl, ?hy_15⟩) hHeld ?ha_15 ?hh_15; (case hy_15 => (rintro w' ⟨s0_, s1_, s2_, s3_, s4_⟩; go_simp; with_reducible rfl)); (case ha_15 => (simp (disch := omega) only [Act.put, List.setIfInBounds_toArray, List.set_cons_zero, List.set_cons_succ, wrap_in]; rfl)))
          (refine take_ (i := 9) (N := some 85) (v := ?v_16) (a' := ?a_16) #[true, true, true, true, true, true, true, true, true, true, false, false, false, false] rfl rfl (by kernel_rfl) (fun _ _ _ h => h) (Or.inl ⟨by rfl, ?hy_16⟩) hHeld ?ha_16 ?hh_16; (case hy_16 => (rintro w' ⟨s0_, s1_, s2_, s3_, s4_⟩; go_simp; with_reducible rfl)); (case ha_16 => (simp (disch := omega) only [Act.put, List.setIfInBounds_toArray, List.set_cons_zero, List.set_cons_succ, wrap_in]; rfl)))
          (refine take_ (i := 10) (N := some 86) (v := ?v_17) (a' := ?a_17) #[true, true, true, true, true, true, true, true, true, true, true, false, false, false] rfl rfl (by kernel_rfl) (fun _ _ _ h => h) (Or.inl ⟨by rfl, ?hy_17⟩) hHeld ?ha_17 ?hh_17; (case hy_17 => (rintro w' ⟨s0_, s1_, s2_, s3_, s4_⟩; go_simp; with_reducible rfl)); (case ha_17 => (simp (disch := omega) only [Act.put, List.setIfInBounds_toArray, List.set_cons_zero, List.set_cons_succ, wrap_in]; rfl)))
          (refine take_ (i := 11) (N := some 87) (v := ?v_18) (a' := ?a_18) #[true, true, true, true, true, true, true, true, true, true, true, true, false, false] rfl rfl (by kernel_rfl) (fun _ _ _ h => h) (Or.inl ⟨by rfl, ?hy_18⟩) hHeld ?ha_18 ?hh_18; (case hy_18 => (rintro w' ⟨s0_, s1_, s2_, s3_, s4_⟩; go_simp; with_reducible rfl)); (case ha_18 => (simp (disch := omega) only [Act.put, List.setIfInBounds_toArray, List.set_cons_zero, List.set_cons_succ, wrap_in]; rfl)))
          refine last_ (i := 12) (N := some 88) #[true, true, true, true, true, true, true, true, true, true, true, true, true, false] rfl rfl (by kernel_rfl) (by decide) (fun K hK => ?_)
          (refine goes_ Try.func35 (by kernel_rfl) rfl ?args_1 (by rfl) rfl rfl ?hargs_1 ?hc_1; (case hargs_1 => (go_simp; with_reducible rfl)))
          (refine HTK.out.mono ?_; rintro e w2 ⟨rfl, ob', hl', hn', S'⟩; refine ⟨_, rfl, ?_⟩)
          (refine hK.out _ _ ?hn_3; clear hK K; try clear hHeld)
          (refine norm_ (a' := ?a_4) ?ha_4 ?hh_4; (case ha_4 => (simp (disch := omega) only [Act.put, List.setIfInBounds_toArray, List.set_cons_zero, List.set_cons_succ, wrap_in]; rfl)))
          (refine pure_ (i := 13) (N := some 13) (v := ?v_5) (a' := ?a_5) #[true, true, true, true, true, true, true, true, true, true, true, true, true, true] rfl rfl (by kernel_rfl) (fun _ _ _ h => h) (Or.inl ⟨by rfl, ?hy_5⟩) ?ha_5 ?hh_5; (case hy_5 => (intro w'; go_simp; with_reducible rfl)); (case ha_5 => (simp (disch := omega) only [Act.put, List.setIfInBounds_toArray, List.set_cons_zero, List.set_cons_succ, wrap_in]; rfl)))
          refine done_ (by kernel_rfl) ?_
          have HS' := Lib.hid S'
          have HL' := Lib.hid (hl'.trans HOL.out)
          have HN' := Lib.hid hn'
          clear S' hl' hn' HTK ca cb d0 d1 d2
          go_wp2_with (fail)
          go_roundg (mm - 1)
          case measure => have := HJ.out; omega
          case rel => exact ⟨j + 1, ob', by have := HJ.out; omega, by go_num, HL'.out, HN'.out, HS'.out⟩
        · go_upto_region 24 with (fail)
          refine wp_loop_ghost_k (fun (mk : Nat) (ac : Act) (wk : World) => ∃ u2 u3 u7 u8 u9 u10 u11 u12 u13 u15 u16 u17 u18 u19 u20 u21 u22 u23 u24 u25 u26 u27 u28 u29 u30 u31 u32 u33 u34 u35 u36 u37 u38 u39 u40 u41 u42 u43 u44 u45 u46 u47 u48 u49 u50 u51 u52 u53 u54 u55 u56 u57 u58 u59 u60 u61 u62 u63 u64 u65 u66 u67 u68 u69 u70 u71 u72 u73 u74 u75 u76 u77 u78 u79 u80 u81 u82 u83 u84 u85 u86 u87 u88 u89 u90 u91 u92 u93 u94 u95 u96 u97 u98 u99 u100 u101 u102 u103 u104 u105 u106 u107 u108 u109 u110 u111 u112 u113 u114 u115 u116 u117 u118 u119 u120 u121 u122 u123 u124 u125 u126 u127 u128 u129 u130 v14 : Value, (∃ (k : Nat) (obs : Obs RS), mk + k = L ∧ v14 = .int .i64 k ∧ obs.length = L ∧ obs[i]? = some none ∧ StR w wk A' cA' B' cB' obs) ∧ ac = ({ tmps := #[.slice A0 i c0, .slice A1 nn c1, u2, u3, .bool false, .slice A' L cA', .slice B' L cB', u7, u8, u9, u10, u11, u12, u13, v14, u15, u16, u17, u18, u19, u20, u21, u22, u23, u24, u25, u26, u27, u28, u29, u30, u31, u32, u33, u34, u35, u36, u37, u38, u39, u40, u41, u42, u43, u44, u45, u46, u47, u48, u49, u50, u51, u52, u53, u54, u55, u56, u57, u58, u59, u60, u61, u62, u63, u64, u65, u66, u67, u68, u69, u70, u71, u72, u73, u74, u75, u76, u77, u78, u79, u80, u81, u82, u83, u84, u85, u86, u87, u88, u89, u90, u91, u92, u93, u94, u95, u96, u97, u98, u99, u100, u101, u102, u103, u104, u105, u106, u107, u108, u109, u110, u111, u112, u113, u114, u115, u116, u117, u118, u119, u120, u121, u122, u123, u124, u125, u126, u127, u128, u129, u130], defers := [] } : Act)) (L) ?atStart ?round
          case' atStart => ((repeat apply Exists.intro); refine ⟨?_, rfl⟩)
          case' round => (intro mk ac wk hcut; obtain ⟨u2, hcut⟩ := hcut; obtain ⟨u3, hcut⟩ := hcut; obtain ⟨u7, hcut⟩ := hcut; obtain ⟨u8, hcut⟩ := hcut; obtain ⟨u9, hcut⟩ := hcut; obtain ⟨u10, hcut⟩ := hcut; obtain ⟨u11, hcut⟩ := hcut; obtain ⟨u12, hcut⟩ := hcut; obtain ⟨u13, hcut⟩ := hcut; obtain ⟨u15, hcut⟩ := hcut; obtain ⟨u16, hcut⟩ := hcut; obtain ⟨u17, hcut⟩ := hcut; obtain ⟨u18, hcut⟩ := hcut; obtain ⟨u19, hcut⟩ := hcut; obtain ⟨u20, hcut⟩ := hcut; obtain ⟨u21, hcut⟩ := hcut; obtain ⟨u22, hcut⟩ := hcut; obtain ⟨u23, hcut⟩ := hcut; obtain ⟨u24, hcut⟩ := hcut; obtain ⟨u25, hcut⟩ := hcut; obtain ⟨u26, hcut⟩ := hcut; obtain ⟨u27, hcut⟩ := hcut; obtain ⟨u28, hcut⟩ := hcut; obtain ⟨u29, hcut⟩ := hcut; obtain ⟨u30, hcut⟩ := hcut; obtain ⟨u31, hcut⟩ := hcut; obtain ⟨u32, hcut⟩ := hcut; obtain ⟨u33, hcut⟩ := hcut; obtain ⟨u34, hcut⟩ := hcut; obtain ⟨u35, hcut⟩ := hcut; obtain ⟨u36, hcut⟩ := hcut; obtain ⟨u37, hcut⟩ := hcut; obtain ⟨u38, hcut⟩ := hcut; obtain ⟨u39, hcut⟩ := hcut; obtain ⟨u40, hcut⟩ := hcut; obtain ⟨u41, hcut⟩ := hcut; obtain ⟨u42, hcut⟩ := hcut; obtain ⟨u43, hcut⟩ := hcut; obtain ⟨u44, hcut⟩ := hcut; obtain ⟨u45, hcut⟩ := hcut; obtain ⟨u46, hcut⟩ := hcut; obtain ⟨u47, hcut⟩ := hcut; obtain ⟨u48, hcut⟩ := hcut; obtain ⟨u49, hcut⟩ := hcut; obtain ⟨u50, hcut⟩ := hcut; obtain ⟨u51, hcut⟩ := hcut; obtain ⟨u52, hcut⟩ := hcut; obtain ⟨u53, hcut⟩ := hcut; obtain ⟨u54, hcut⟩ := hcut; obtain ⟨u55, hcut⟩ := hcut; obtain ⟨u56, hcut⟩ := hcut; obtain ⟨u57, hcut⟩ := hcut; obtain ⟨u58, hcut⟩ := hcut; obtain ⟨u59, hcut⟩ := hcut; obtain ⟨u60, hcut⟩ := hcut; obtain ⟨u61, hcut⟩ := hcut; obtain ⟨u62, hcut⟩ := hcut; obtain ⟨u63, hcut⟩ := hcut; obtain ⟨u64, hcut⟩ := hcut; obtain ⟨u65, hcut⟩ := hcut; obtain ⟨u66, hcut⟩ := hcut; obtain ⟨u67, hcut⟩ := hcut; obtain ⟨u68, hcut⟩ := hcut; obtain ⟨u69, hcut⟩ := hcut; obtain ⟨u70, hcut⟩ := hcut; obtain ⟨u71, hcut⟩ := hcut; obtain ⟨u72, hcut⟩ := hcut; obtain ⟨u73, hcut⟩ := hcut; obtain ⟨u74, hcut⟩ := hcut; obtain ⟨u75, hcut⟩ := hcut; obtain ⟨u76, hcut⟩ := hcut; obtain ⟨u77, hcut⟩ := hcut; obtain ⟨u78, hcut⟩ := hcut; obtain ⟨u79, hcut⟩ := hcut; obtain ⟨u80, hcut⟩ := hcut; obtain ⟨u81, hcut⟩ := hcut; obtain ⟨u82, hcut⟩ := hcut; obtain ⟨u83, hcut⟩ := hcut; obtain ⟨u84, hcut⟩ := hcut; obtain ⟨u85, hcut⟩ := hcut; obtain ⟨u86, hcut⟩ := hcut; obtain ⟨u87, hcut⟩ := hcut; obtain ⟨u88, hcut⟩ := hcut; obtain ⟨u89, hcut⟩ := hcut; obtain ⟨u90, hcut⟩ := hcut; obtain ⟨u91, hcut⟩ := hcut; obtain ⟨u92, hcut⟩ := hcut; obtain ⟨u93, hcut⟩ := hcut; obtain ⟨u94, hcut⟩ := hcut; obtain ⟨u95, hcut⟩ := hcut; obtain ⟨u96, hcut⟩ := hcut; obtain ⟨u97, hcut⟩ := hcut; obtain ⟨u98, hcut⟩ := hcut; obtain ⟨u99, hcut⟩ := hcut; obtain ⟨u100, hcut⟩ := hcut; obtain ⟨u101, hcut⟩ := hcut; obtain ⟨u102, hcut⟩ := hcut; obtain ⟨u103, hcut⟩ := hcut; obtain ⟨u104, hcut⟩ := hcut; obtain ⟨u105, hcut⟩ := hcut; obtain ⟨u106, hcut⟩ := hcut; obtain ⟨u107, hcut⟩ := hcut; obtain ⟨u108, hcut⟩ := hcut; obtain ⟨u109, hcut⟩ := hcut; obtain ⟨u110, hcut⟩ := hcut; obtain ⟨u111, hcut⟩ := hcut; obtain ⟨u112, hcut⟩ := hcut; obtain ⟨u113, hcut⟩ := hcut; obtain ⟨u114, hcut⟩ := hcut; obtain ⟨u115, hcut⟩ := hcut; obtain ⟨u116, hcut⟩ := hcut; obtain ⟨u117, hcut⟩ := hcut; obtain ⟨u118, hcut⟩ := hcut; obtain ⟨u119, hcut⟩ := hcut; obtain ⟨u120, hcut⟩ := hcut; obtain ⟨u121, hcut⟩ := hcut; obtain ⟨u122, hcut⟩ := hcut; obtain ⟨u123, hcut⟩ := hcut; obtain ⟨u124, hcut⟩ := hcut; obtain ⟨u125, hcut⟩ := hcut; obtain ⟨u126, hcut⟩ := hcut; obtain ⟨u127, hcut⟩ := hcut; obtain ⟨u128, hcut⟩ := hcut; obtain ⟨u129, hcut⟩ := hcut; obtain ⟨u130, hcut⟩ := hcut; obtain ⟨v14, hcut⟩ := hcut; obtain ⟨hcut, hac⟩ := hcut; subst hac; intro _ _ _ _)
          case atStart => exact ⟨0, ob, rfl, rfl, HOL.out, HNO.out, HSI.out⟩
          case round =>
            obtain ⟨k, oc, hk, rfl, hol, hno, SI⟩ := hcut
            clear HOL HNO HSI HJ
            have HK := Lib.hid hk
            have HOL := Lib.hid hol
            have HNO := Lib.hid hno
            have HSI := Lib.hid SI
            have hkb : k ≤ L := by omega
            clear hk hol hno SI
            by_cases hkL : k < L
            · have hkx : k < oc.length := by rw [HOL.out]; exact hkL
              obtain ⟨a, bq, rfl, rfl, ca, cb⟩ := Stand.at_ (h := (Classical.choose_spec HSI.out).1) (List.getElem?_eq_getElem hkx)
              have HTK := Lib.hid (takes_st (HSI.out.below PRq_local (Below.refl _ _).drew) HNO.out (List.getElem?_eq_getElem hkx) 10 0 0 (by omega) (by omega))
              generalize (oc[k]).map (fun x : Nat × Nat × RS => (⟨x.1, 0, none⟩ : Addr)) = P1 at *
              generalize (oc[k]).map (fun x : Nat × Nat × RS => (⟨x.2.1, 0, none⟩ : Addr)) = P2 at *
              have q2 : (0 : Int) ≤ (k : Int) := by omega
              have q3 : (k : Int) < (L : Int) := by omega
              clear hkx
              go_upto_region 26 with (fail)
              refine start_ (n := 11) (S := fun w' => w'.cell? ⟨a, k, none⟩ = some (.pointer P1) ∧ w'.cell? ⟨bq, k, none⟩ = some (.pointer P2)) (ds := [9]) #[false, false, false, false, false, false, false, false, false, false, false] (by kernel_rfl) rfl rfl ⟨ca, cb⟩ (fun hHeld => ?_)
              (refine take_ (i := 0) (N := some 97) (v := ?v_25) (a' := ?a_25) #[true, false, false, false, false, false, false, false, false, false, false] rfl rfl (by kernel_rfl) (fun _ _ _ h => h) (Or.inl ⟨by rfl, ?hy_25⟩) hHeld ?ha_25 ?hh_25; (case hy_25 => (rintro w' ⟨s0_, s1_⟩; go_simp; with_reducible rfl)); (case ha_25 => (simp (disch := omega) only [Act.put, List.setIfInBounds_toArray, List.set_cons_zero, List.set_cons_succ, wrap_in]; rfl)))
              (refine take_ (i := 1) (N := some 98) (v := ?v_26) (a' := ?a_26) #[true, true, false, false, false, false, false, false, false, false, false] rfl rfl (by kernel_rfl) (fun _ _ _ h => h) (Or.inl ⟨by rfl, ?hy_26⟩) hHeld ?ha_26 ?hh_26; (case hy_26 => (rintro w' ⟨s0_, s1_⟩; go_simp; with_reducible rfl)); (case ha_26 => (simp (disch := omega) only [Act.put, List.setIfInBounds_toArray, List.set_cons_zero, List.set_cons_succ, wrap_in]; rfl)))
              (refine take_ (i := 2) (N := some 99) (v := ?v_27) (a' := ?a_27) #[true, true, true, false, false, false, false, false, false, false, false] rfl rfl (by kernel_rfl) (fun _ _ _ h => h) (Or.inl ⟨by rfl, ?hy_27⟩) hHeld ?ha_27 ?hh_27; (case hy_27 => (rintro w' ⟨s0_, s1_⟩; go_simp; with_reducible rfl)); (case ha_27 => (simp (disch := omega) only [Act.put, List.setIfInBounds_toArray, List.set_cons_zero, List.set_cons_succ, wrap_in]; rfl)))
              (refine take_ (i := 3) (N := some 100) (v := ?v_28) (a' := ?a_28) #[true, true, true, true, false, false, false, false, false, false, false] rfl rfl (by kernel_rfl) (fun _ _ _ h => h) (Or.inl ⟨by rfl, ?hy_28⟩) hHeld ?ha_28 ?hh_28; (case hy_28 => (rintro w' ⟨s0_, s1_⟩; go_simp; with_reducible rfl)); (case ha_28 => (simp (disch := omega) only [Act.put, List.setIfInBounds_toArray, List.set_cons_zero, List.set_cons_succ, wrap_in]; rfl)))
              (refine take_ (i := 4) (N := some 101) (v := ?v_29) (a' := ?a_29) #[true, true, true, true, true, false, false, false, false, false, false] rfl rfl (by kernel_rfl) (fun _ _ _ h => h) (Or.inl ⟨by rfl, ?hy_29⟩) hHeld ?ha_29 ?hh_29; (case hy_29 => (rintro w' ⟨s0_, s1_⟩; go_simp; with_reducible rfl)); (case ha_29 => (simp (disch := omega) only [Act.put, List.setIfInBounds_toArray, List.set_cons_zero, List.set_cons_succ, wrap_in]; rfl)))
              (refine take_ (i := 5) (N := some 102) (v := ?v_30) (a' := ?a_30) #[true, true, true, true, true, true, false, false, false, false, false] rfl rfl (by kernel_rfl) (fun _ _ _ h => h) (Or.inl ⟨by rfl, ?hy_30⟩) hHeld ?ha_30 ?hh_30; (case hy_30 => (rintro w' ⟨s0_, s1_⟩; go_simp; with_reducible rfl)); (case ha_30 => (simp (disch := omega) only [Act.put, List.setIfInBounds_toArray, List.set_cons_zero, List.set_cons_succ, wrap_in]; rfl)))
              (refine take_ (i := 6) (N := some 103) (v := ?v_31) (a' := ?a_31) #[true, true, true, true, true, true, true, false, false, false, false] rfl rfl (by kernel_rfl) (fun _ _ _ h => h) (Or.inl ⟨by rfl, ?hy_31⟩) hHeld ?ha_31 ?hh_31; (case hy_31 => (rintro w' ⟨s0_, s1_⟩; go_simp; with_reducible rfl)); (case ha_31 => (simp (disch := omega) only [Act.put, List.setIfInBounds_toArray, List.set_cons_zero, List.set_cons_succ, wrap_in]; rfl)))
              (refine take_ (i := 7) (N := some 104) (v := ?v_32) (a' := ?a_32) #[true, true, true, true, true, true, true, true, false, false, false] rfl rfl (by kernel_rfl) (fun _ _ _ h => h) (Or.inl ⟨by rfl, ?hy_32⟩) hHeld ?ha_32 ?hh_32; (case hy_32 => (rintro w' ⟨s0_, s1_⟩; go_simp; with_reducible rfl)); (case ha_32 => (simp (disch := omega) only [Act.put, List.setIfInBounds_toArray, List.set_cons_zero, List.set_cons_succ, wrap_in]; rfl)))
              (refine take_ (i := 8) (N := some 105) (v := ?v_33) (a' := ?a_33) #[true, true, true, true, true, true, true, true, true, false, false] rfl rfl (by kernel_rfl) (fun _ _ _ h => h) (Or.inl ⟨by rfl, ?hy_33⟩) hHeld ?ha_33 ?hh_33; (case hy_33 => (rintro w' ⟨s0_, s1_⟩; go_simp; with_reducible rfl)); (case ha_33 => (simp (disch := omega) only [Act.put, List.setIfInBounds_toArray, List.set_cons_zero, List.set_cons_succ, wrap_in]; rfl)))
              refine last_ (i := 9) (N := some 106) #[true, true, true, true, true, true, true, true, true, true, false] rfl rfl (by kernel_rfl) (by decide) (fun K hK => ?_)
              (refine goes_ Try.func35 (by kernel_rfl) rfl ?args_19 (by rfl) rfl rfl ?hargs_19 ?hc_19; (case hargs_19 => (go_simp; with_reducible rfl)))
              (refine HTK.out.mono ?_; rintro e w2 ⟨rfl, od, hl', hn', S'⟩; refine ⟨_, rfl, ?_⟩)
              (refine hK.out _ _ ?hn_21; clear hK K; try clear hHeld)
              (refine norm_ (a' := ?a_22) ?ha_22 ?hh_22; (case ha_22 => (simp (disch := omega) only [Act.put, List.setIfInBounds_toArray, List.set_cons_zero, List.set_cons_succ, wrap_in]; rfl)))
              (refine pure_ (i := 10) (N := some 15) (v := ?v_23) (a' := ?a_23) #[true, true, true, true, true, true, true, true, true, true, true] rfl rfl (by kernel_rfl) (fun _ _ _ h => h) (Or.inl ⟨by rfl, ?hy_23⟩) ?ha_23 ?hh_23; (case hy_23 => (intro w'; go_simp; with_reducible rfl)); (case ha_23 => (simp (disch := omega) only [Act.put, List.setIfInBounds_toArray, List.set_cons_zero, List.set_cons_succ, wrap_in]; rfl)))
              refine done_ (by kernel_rfl) ?_
              have HS' := Lib.hid S'
              have HL' := Lib.hid (hl'.trans HOL.out)
              have HN' := Lib.hid hn'
              clear S' hl' hn' HTK ca cb
              have hkx : k < od.length := by rw [HL'.out]; exact hkL
              obtain ⟨a', bq', ea, eb, ca, cb⟩ := Stand.at_ (h := (Classical.choose_spec HS'.out).1) (List.getElem?_eq_getElem hkx)
              injection ea with ea; injection ea with ea; subst ea
              injection eb with eb; injection eb with eb; subst eb
              have HTK := Lib.hid (takes_st (HS'.out.below PRq_local (Below.refl _ _).drew) HN'.out (List.getElem?_eq_getElem hkx) 11 0 0 (by omega) (by omega))
              generalize (od[k]).map (fun x : Nat × Nat × RS => (⟨x.1, 0, none⟩ : Addr)) = P3 at *
              generalize (od[k]).map (fun x : Nat × Nat × RS => (⟨x.2.1, 0, none⟩ : Addr)) = P4 at *
              clear hkx
              go_upto_region 27 with (fail)
              refine start_ (n := 11) (S := fun w' => w'.cell? ⟨a, k, none⟩ = some (.pointer P3) ∧ w'.cell? ⟨bq, k, none⟩ = some (.pointer P4)) (ds := [9]) #[false, false, false, false, false, false, false, false, false, false, false] (by kernel_rfl) rfl rfl ⟨ca, cb⟩ (fun hHeld => ?_)
              (refine take_ (i := 0) (N := some 107) (v := ?v_40) (a' := ?a_40) #[true, false, false, false, false, false, false, false, false, false, false] rfl rfl (by kernel_rfl) (fun _ _ _ h => h) (Or.inl ⟨by rfl, ?hy_40⟩) hHeld ?ha_40 ?hh_40; (case hy_40 => (rintro w' ⟨s0_, s1_⟩; go_simp; with_reducible rfl)); (case ha_40 => (simp (disch := omega) only [Act.put, List.setIfInBounds_toArray, List.set_cons_zero, List.set_cons_succ, wrap_in]; rfl)))
              (refine take_ (i := 1) (N := some 108) (v := ?v_41) (a' := ?a_41) #[true, true, false, false, false, false, false, false, false, false, false] rfl rfl (by kernel_rfl) (fun _ _ _ h => h) (Or.inl ⟨by rfl, ?hy_41⟩) hHeld ?ha_41 ?hh_41; (case hy_41 => (rintro w' ⟨s0_, s1_⟩; go_simp; with_reducible rfl)); (case ha_41 => (simp (disch := omega) only [Act.put, List.setIfInBounds_toArray, List.set_cons_zero, List.set_cons_succ, wrap_in]; rfl)))
              (refine take_ (i := 2) (N := some 109) (v := ?v_42) (a' := ?a_42) #[true, true, true, false, false, false, false, false, false, false, false] rfl rfl (by kernel_rfl) (fun _ _ _ h => h) (Or.inl ⟨by rfl, ?hy_42⟩) hHeld ?ha_42 ?hh_42; (case hy_42 => (rintro w' ⟨s0_, s1_⟩; go_simp; with_reducible rfl)); (case ha_42 => (simp (disch := omega) only [Act.put, List.setIfInBounds_toArray, List.set_cons_zero, List.set_cons_succ, wrap_in]; rfl)))
              (refine take_ (i := 3) (N := some 110) (v := ?v_43) (a' := ?a_43) #[true, true, true, true, false, false, false, false, false, false, false] rfl rfl (by kernel_rfl) (fun _ _ _ h => h) (Or.inl ⟨by rfl, ?hy_43⟩) hHeld ?ha_43 ?hh_43; (case hy_43 => (rintro w' ⟨s0_, s1_⟩; go_simp; with_reducible rfl)); (case ha_43 => (simp (disch := omega) only [Act.put, List.setIfInBounds_toArray, List.set_cons_zero, List.set_cons_succ, wrap_in]; rfl)))
              (refine take_ (i := 4) (N := some 111) (v := ?v_44) (a' := ?a_44) #[true, true, true, true, true, false, false, false, false, false, false] rfl rfl (by kernel_rfl) (fun _ _ _ h => h) (Or.inl ⟨by rfl, ?hy_44⟩) hHeld ?ha_44 ?hh_44; (case hy_44 => (rintro w' ⟨s0_, s1_⟩; go_simp; with_reducible rfl)); (case ha_44 => (simp (disch := omega) only [Act.put, List.setIfInBounds_toArray, List.set_cons_zero, List.set_cons_succ, wrap_in]; rfl)))
              (refine take_ (i := 5) (N := some 112) (v := ?v_45) (a' := ?a_45) #[true, true, true, true, true, true, false, false, false, false, false] rfl rfl (by kernel_rfl) (fun _ _ _ h => h) (Or.inl ⟨by rfl, ?hy_45⟩) hHeld ?ha_45 ?hh_45; (case hy_45 => (rintro w' ⟨s0_, s1_⟩; go_simp; with_reducible rfl)); (case ha_45 => (simp (disch := omega) only [Act.put, List.setIfInBounds_toArray, List.set_cons_zero, List.set_cons_succ, wrap_in]; rfl)))
              (refine take_ (i := 6) (N := some 113) (v := ?v_46) (a' := ?a_46) #[true, true, true, true, true, true, true, false, false, false, false] rfl rfl (by kernel_rfl) (fun _ _ _ h => h) (Or.inl ⟨by rfl, ?hy_46⟩) hHeld ?ha_46 ?hh_46; (case hy_46 => (rintro w' ⟨s0_, s1_⟩; go_simp; with_reducible rfl)); (case ha_46 => (simp (disch := omega) only [Act.put, List.setIfInBounds_toArray, List.set_cons_zero, List.set_cons_succ, wrap_in]; rfl)))
              (refine take_ (i := 7) (N := some 114) (v := ?v_47) (a' := ?a_47) #[true, true, true, true, true, true, true, true, false, false, false] rfl rfl (by kernel_rfl) (fun _ _ _ h => h) (Or.inl ⟨by rfl, ?hy_47⟩) hHeld ?ha_47 ?hh_47; (case hy_47 => (rintro w' ⟨s0_, s1_⟩; go_simp; with_reducible rfl)); (case ha_47 => (simp (disch := omega) only [Act.put, List.setIfInBounds_toArray, List.set_cons_zero, List.set_cons_succ, wrap_in]; rfl)))
              (refine take_ (i := 8) (N := some 115) (v := ?v_48) (a' := ?a_48) #[true, true, true, true, true, true, true, true, true, false, false] rfl rfl (by kernel_rfl) (fun _ _ _ h => h) (Or.inl ⟨by rfl, ?hy_48⟩) hHeld ?ha_48 ?hh_48; (case hy_48 => (rintro w' ⟨s0_, s1_⟩; go_simp; with_reducible rfl)); (case ha_48 => (simp (disch := omega) only [Act.put, List.setIfInBounds_toArray, List.set_cons_zero, List.set_cons_succ, wrap_in]; rfl)))
              refine last_ (i := 9) (N := some 116) #[true, true, true, true, true, true, true, true, true, true, false] rfl rfl (by kernel_rfl) (by decide) (fun K hK => ?_)
              (refine goes_ Try.func35 (by kernel_rfl) rfl ?args_34 (by rfl) rfl rfl ?hargs_34 ?hc_34; (case hargs_34 => (go_simp; with_reducible rfl)))
              (refine HTK.out.mono ?_; rintro e w3 ⟨rfl, oe, hl', hn', S'⟩; refine ⟨_, rfl, ?_⟩)
              (refine hK.out _ _ ?hn_36; clear hK K; try clear hHeld)
              (refine norm_ (a' := ?a_37) ?ha_37 ?hh_37; (case ha_37 => (simp (disch := omega) only [Act.put, List.setIfInBounds_toArray, List.set_cons_zero, List.set_cons_succ, wrap_in]; rfl)))
              (refine pure_ (i := 10) (N := some 16) (v := ?v_38) (a' := ?a_38) #[true, true, true, true, true, true, true, true, true, true, true] rfl rfl (by kernel_rfl) (fun _ _ _ h => h) (Or.inl ⟨by rfl, ?hy_38⟩) ?ha_38 ?hh_38; (case hy_38 => (intro w'; go_simp; with_reducible rfl)); (case ha_38 => (simp (disch := omega) only [Act.put, List.setIfInBounds_toArray, List.set_cons_zero, List.set_cons_succ, wrap_in]; rfl)))
              refine done_ (by kernel_rfl) ?_
              have HS3 := Lib.hid S'
              have HL3 := Lib.hid (hl'.trans HL'.out)
              have HN3 := Lib.hid hn'
              clear S' hl' hn' HTK ca cb
              go_wp2_with (fail)
              go_roundg (mk - 1)
              case measure => have := HK.out; omega
              case rel => exact ⟨k + 1, oe, by have := HK.out; omega, by go_num, HL3.out, HN3.out, HS3.out⟩
            · obtain ⟨a, bq, rfl, rfl, ca, cb⟩ := Stand.at_ (h := (Classical.choose_spec HSI.out).1) HNO.out
              have ca' : wk.cell? ⟨a, L - 1, none⟩ = some (.pointer none) := by
                have := HLL.out
                rw [show L - 1 = i by omega]
                exact ca
              have q2 : (0 : Int) ≤ (L : Int) - 1 := by omega
              have DN := Lib.hid (fun u : World => rDone_nil u)
              clear ca cb
              go_wp2_with (fail)
              refine (DN.out _).mono ?_
              rintro e w_ ⟨rfl, rfl⟩
              go_wp2_with (fail)
              go_ret
              exact ⟨rfl, HSI.out.back⟩
theorem reads_walk (w : World) (A0 : Option Addr) (c0 : Nat) (ls : List (List Int)) (hc : ls.length ≤ c0) (hm : c0 ≤ maxLen) (hb : ls.length * 24 ≤ reach) (hn : A0 = none → c0 = 0) (he : RdBs.elems w A0 ls) (A1 : Option Addr) (c1 : Nat) (sc : List (Int × Int × Int × Unit)) (hc1 : sc.length ≤ c1) (hm1 : c1 ≤ maxLen) (hb1 : sc.length * 24 ≤ reach) (hn1 : A1 = none → c1 = 0) (he1 : RdTk.elems w A1 sc) :
    Calls Try.prog 6 #[.slice A0 ls.length c0, .slice A1 sc.length c1] w fun e w' => e = .returned (.bool true) ∧ Below w.heap.size w w' := reads_1 w A0 c0 ls hb he A1 c1 sc hb1 he1
namespace parcelReads
open Go.ChangeShapes Go.WideShapes Go.ChangeAt Go.RowKit
open Go.ChangeMaps (open_string shut_string)
theorem own : ownKnob Try.prog.godebug = none := by kernel_rfl
theorem laidOut : laidOutB Try.prog = true := by kernel_rfl
set_option maxRecDepth 100000 in
theorem lifted (os : Os) (started : os.Started) (H : Type) (enc : TypeId × Value → H) :
    ReturnsInHanded {} Try.checked os 6 .any (Rows.parcelReadsSpec.pre6 enc Try.prog Try.f6 Rows.parcelReadsRow.domain false) (Rows.parcelReadsSpec.post enc Try.prog Try.f6 false true false false) := by
  refine returnsInHanded_of_change_sized (C := Try.checked) own started (by kernel_rfl) Try.func6
    (ChangeSpec.witness6 (enc := enc) (C := Try.checked) false ⟨#[], #[.slice none 0 0, .slice none 0 0], []⟩ 8 (by kernel_rfl) (by kernel_rfl) (by kernel_rfl) (by kernel_rfl)) ?_
  intro W base args ds gs before hval0 hW hcnd hsz0 _
  have hsz : (DataW.weightsEach Try.prog (Try.f6.params.toList ++ Rows.parcelReadsSpec.plain.varTypes Try.prog) (ds ++ gs)).all (· ≤ reachBytes) = true := hsz0
  have hval : ∀ (j : Nat) t v, Try.f6.params[j]? = some t → args[j]? = some v → Value.okWide Try.prog W .any base t v := hval0
  have hW' := hW
  obtain ⟨p, q, hA0, hV, rfl, hfz, hnd⟩ := hW
  have hA : DataW.TrodAll enc Try.prog W 0 (fun _ => true) true Try.f6.params.toList args.toList ds p := hA0
  rw [Try.params6] at hA hval hsz
  obtain ⟨v0, vs0, d0, ds0, p0, q0, hargs, rfl, rfl, h0, r0⟩ := trodAll_cons hA
  obtain ⟨v1, vs1, d1, ds1, p1, q1, rfl, rfl, rfl, h1, r1⟩ := trodAll_cons r0
  obtain ⟨rfl, rfl, rfl⟩ := trodAll_nil r1
  obtain rfl : args = #[v0, v1] := by cases args; simp_all
  obtain ⟨rfl, rfl⟩ := trodVars_none hV
  obtain ⟨a0, len0, cap0, rfl⟩ := okWide_slice Try.underlying45 (hval 0 45 v0 rfl rfl)
  have k0 := h0
  have lt0 : ∀ x ∈ p0, x.block < W.heap.size := by obtain ⟨m, hm⟩ := k0; exact DataW.trod_lt m _ _ _ hm
  obtain ⟨xs0, rfl, hc0, hm0, hb0, hn0, he0⟩ := opened_slice (opens_bss W) h0 (weights_at hsz (j := 0) (t := 45) rfl rfl)
  obtain ⟨a1, len1, cap1, rfl⟩ := okWide_slice Try.underlying46 (hval 1 46 v1 rfl rfl)
  have k1 := h1
  have lt1 : ∀ x ∈ p1, x.block < W.heap.size := by obtain ⟨m, hm⟩ := k1; exact DataW.trod_lt m _ _ _ hm
  obtain ⟨xs1, rfl, hc1, hm1, hb1, hn1, he1⟩ := opened_slice (opens_Tks W) h1 (weights_at hsz (j := 1) (t := 46) rfl rfl)
  clear hA0 hval0 hsz0 hsz
  refine (reads_walk W a0 cap0 xs0 hc0 hm0 hb0 hn0 he0 a1 cap1 xs1 hc1 hm1 hb1 hn1 he1).mono fun e W' ⟨he, bel⟩ => ?_
  subst he
  exact ⟨_, rfl, _, _, _, [], _, [], hW', trodAll_mk1 (shut_bool Try.underlying4 _), (trodAll_cons_mk (Below.trod laidOut (by kernel_rfl) (of_decide_eq_true (by kernel_rfl)) k0 bel lt0) (trodAll_cons_mk (Below.trod laidOut (by kernel_rfl) (of_decide_eq_true (by kernel_rfl)) k1 bel lt1) trodAll_mk0)), rfl, bel.frame _, fun h => by cases h⟩
theorem over : Rows.parcelReadsRow.holds Try.pinned (OpenSpec.ofChange Rows.parcelReadsSpec) :=
  OpenClaim.holds_of_wide 6 Try.f6 rfl rfl rfl rfl rfl rfl rfl ⟨rfl, rfl, rfl, rfl, rfl⟩ rfl rfl rfl rfl rfl (by kernel_rfl) Try.func6 (by kernel_rfl)
    (of_decide_eq_true (by kernel_rfl)) (by unfold Func.isWrapper; first | (rw [if_pos (by decide +kernel)]; kernel_rfl) | (rw [if_neg (by decide +kernel)]; exact ⟨rfl, rfl⟩))
    (fun os started H enc _ => lifted os started H enc)
theorem proved : Rows.ParcelReadsSaid := over
end parcelReads
theorem parcelReads_holds : Rows.ParcelReadsSaid := parcelReads.proved
end Go.Proofs.Ytibelfljlhcibaa
