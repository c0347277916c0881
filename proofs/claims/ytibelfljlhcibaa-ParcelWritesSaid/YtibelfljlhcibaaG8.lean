/- ParcelWrites: P1.1 to P1.4, P1.8: every answer of every script of calls to writers of these rooms, in whatever turns, and to none at all, is the document's. Conditions: none beyond the statement's own. -/
import Derived.Test.YtibelfljlhcibaaG7
namespace Go.Proofs.Ytibelfljlhcibaa
set_option linter.unusedVariables false
set_option linter.unusedSimpArgs false
open Go.ChangeShapes Go.WideShapes Go.ChangeAt Go.RowKit Go.Deep Go.Proofs.YtibelfljlhcibaaW.PrintLast

set_option maxRecDepth 100000 in
set_option maxHeartbeats 16000000 in
theorem writes_1 (w : World) (A0 : Option Addr) (c0 : Nat) (ls : List Int) (h8 : ls.length * 8 ≤ reach) (he : i64R.elems w A0 ls) (A1 : Option Addr) (c1 : Nat) (sc : List PutT) (hs56 : sc.length * 56 ≤ reach) (hes : RdPt.elems w A1 sc) :
    Calls Try.prog 7 #[.slice A0 ls.length c0, .slice A1 sc.length c1] w fun e w' => e = .returned (.bool true) ∧ Below w.heap.size w w' := by
  obtain ⟨n, hn⟩ : ∃ n, ls.length = n := ⟨_, rfl⟩
  obtain ⟨nn, hnn⟩ : ∃ n, sc.length = n := ⟨_, rfl⟩
  have hn5 : n ≤ 17592186043904 := by unfold reach at h8; omega
  have hnn5 : nn ≤ 6000000000000 := by unfold reach at hs56; omega
  have HN := Lib.hid hn
  have HNN := Lib.hid hnn
  have HE := Lib.hid he
  have HES := Lib.hid hes
  rw [hn, hnn]
  clear h8 hs56 he hes hn hnn
  go_enter Try.func7, Try.ntmps7
  go_upto_region 3 with (fail)
  refine wp_loop_ghost_k (fun (m : Nat) (ac : Act) (wr : World) => ∃ u2 u3 u7 u8 u9 u10 u11 u12 u13 u14 u15 u16 u17 u18 u19 u20 u21 u22 u23 u24 u25 u26 u27 u28 u29 u30 u31 u32 u33 u34 u35 u36 u37 u38 u39 u40 u41 u42 u43 u44 u45 u46 u47 u48 u49 u50 u51 u52 u53 u54 u55 u56 u57 u58 u59 u60 u61 u62 u63 u64 u65 u66 u67 u68 u69 u70 u71 u72 u73 u74 u75 u76 u77 u78 u79 u80 u81 u82 u83 u84 u85 u86 u87 u88 u89 u90 u91 u92 u93 u94 u95 u96 u97 u98 u99 u100 u101 u102 u103 u104 u105 u106 u107 u108 u109 u110 u111 u112 u113 u114 u115 u116 u117 u118 u119 u120 u121 u122 u123 u124 u125 u126 u127 u128 u129 u130 u131 u132 u133 u134 u135 u136 u137 u138 u139 u140 u141 v5 v6 : Value, (∃ (i t : Nat), m + i = nn ∧ v5 = .int .i64 t ∧ v6 = .int .i64 i ∧ t = tot (sc.take i) ∧ t ≤ 1073741824 ∧ w = wr) ∧ ac = ({ tmps := #[.slice A0 n c0, .slice A1 nn c1, u2, u3, .bool false, v5, v6, u7, u8, u9, u10, u11, u12, u13, u14, u15, u16, u17, u18, u19, u20, u21, u22, u23, u24, u25, u26, u27, u28, u29, u30, u31, u32, u33, u34, u35, u36, u37, u38, u39, u40, u41, u42, u43, u44, u45, u46, u47, u48, u49, u50, u51, u52, u53, u54, u55, u56, u57, u58, u59, u60, u61, u62, u63, u64, u65, u66, u67, u68, u69, u70, u71, u72, u73, u74, u75, u76, u77, u78, u79, u80, u81, u82, u83, u84, u85, u86, u87, u88, u89, u90, u91, u92, u93, u94, u95, u96, u97, u98, u99, u100, u101, u102, u103, u104, u105, u106, u107, u108, u109, u110, u111, u112, u113, u114, u115, u116, u117, u118, u119, u120, u121, u122, u123, u124, u125, u126, u127, u128, u129, u130, u131, u132, u133, u134, u135, u136, u137, u138, u139, u140, u141], defers := [] } : Act)) (nn) ?atStart ?round
  case' atStart => ((repeat apply Exists.intro); refine ⟨?_, rfl⟩)
  case' round => (intro m ac wr hcut; obtain ⟨u2, hcut⟩ := hcut; obtain ⟨u3, hcut⟩ := hcut; obtain ⟨u7, hcut⟩ := hcut; obtain ⟨u8, hcut⟩ := hcut; obtain ⟨u9, hcut⟩ := hcut; obtain ⟨u10, hcut⟩ := hcut; obtain ⟨u11, hcut⟩ := hcut; obtain ⟨u12, hcut⟩ := hcut; obtain ⟨u13, hcut⟩ := hcut; obtain ⟨u14, hcut⟩ := hcut; obtain ⟨u15, hcut⟩ := hcut; obtain ⟨u16, hcut⟩ := hcut; obtain ⟨u17, hcut⟩ := hcut; obtain ⟨u18, hcut⟩ := hcut; obtain ⟨u19, hcut⟩ := hcut; obtain ⟨u20, hcut⟩ := hcut; obtain ⟨u21, hcut⟩ := hcut; obtain ⟨u22, hcut⟩ := hcut; obtain ⟨u23, hcut⟩ := hcut; obtain ⟨u24, hcut⟩ := hcut; obtain ⟨u25, hcut⟩ := hcut; obtain ⟨u26, hcut⟩ := hcut; obtain ⟨u27, hcut⟩ := hcut; obtain ⟨u28, hcut⟩ := hcut; obtain ⟨u29, hcut⟩ := hcut; obtain ⟨u30, hcut⟩ := hcut; obtain ⟨u31, hcut⟩ := hcut; obtain ⟨u32, hcut⟩ := hcut; obtain ⟨u33, hcut⟩ := hcut; obtain ⟨u34, hcut⟩ := hcut; obtain ⟨u35, hcut⟩ := hcut; obtain ⟨u36, hcut⟩ := hcut; obtain ⟨u37, hcut⟩ := hcut; obtain ⟨u38, hcut⟩ := hcut; obtain ⟨u39, hcut⟩ := hcut; obtain ⟨u40, hcut⟩ := hcut; obtain ⟨u41, hcut⟩ := hcut; obtain ⟨u42, hcut⟩ := hcut; obtain ⟨u43, hcut⟩ := hcut; obtain ⟨u44, hcut⟩ := hcut; obtain ⟨u45, hcut⟩ := hcut; obtain ⟨u46, hcut⟩ := hcut; obtain ⟨u47, hcut⟩ := hcut; obtain ⟨u48, hcut⟩ := hcut; obtain ⟨u49, hcut⟩ := hcut; obtain ⟨u50, hcut⟩ := hcut; obtain ⟨u51, hcut⟩ := hcut; obtain ⟨u52, hcut⟩ := hcut; obtain ⟨u53, hcut⟩ := hcut; obtain ⟨u54, hcut⟩ := hcut; obtain ⟨u55, hcut⟩ := hcut; obtain ⟨u56, hcut⟩ := hcut; obtain ⟨u57, hcut⟩ := hcut; obtain ⟨u58, hcut⟩ := hcut; obtain ⟨u59, hcut⟩ := hcut; obtain ⟨u60, hcut⟩ := hcut; obtain ⟨u61, hcut⟩ := hcut; obtain ⟨u62, hcut⟩ := hcut; obtain ⟨u63, hcut⟩ := hcut; obtain ⟨u64, hcut⟩ := hcut; obtain ⟨u65, hcut⟩ := hcut; obtain ⟨u66, hcut⟩ := hcut; obtain ⟨u67, hcut⟩ := hcut; obtain ⟨u68, hcut⟩ := hcut; obtain ⟨u69, hcut⟩ := hcut; obtain ⟨u70, hcut⟩ := hcut; obtain ⟨u71, hcut⟩ := hcut; obtain ⟨u72, hcut⟩ := hcut; obtain ⟨u73, hcut⟩ := hcut; obtain ⟨u74, hcut⟩ := hcut; obtain ⟨u75, hcut⟩ := hcut; obtain ⟨u76, hcut⟩ := hcut; obtain ⟨u77, hcut⟩ := hcut; obtain ⟨u78, hcut⟩ := hcut; obtain ⟨u79, hcut⟩ := hcut; obtain ⟨u80, hcut⟩ := hcut; obtain ⟨u81, hcut⟩ := hcut; obtain ⟨u82, hcut⟩ := hcut; obtain ⟨u83, hcut⟩ := hcut; obtain ⟨u84, hcut⟩ := hcut; obtain ⟨u85, hcut⟩ := hcut; obtain ⟨u86, hcut⟩ := hcut; obtain ⟨u87, hcut⟩ := hcut; obtain ⟨u88, hcut⟩ := hcut; obtain ⟨u89, hcut⟩ := hcut; obtain ⟨u90, hcut⟩ := hcut; obtain ⟨u91, hcut⟩ := hcut; obtain ⟨u92, hcut⟩ := hcut; obtain ⟨u93, hcut⟩ := hcut; obtain ⟨u94, hcut⟩ := hcut; obtain ⟨u95, hcut⟩ := hcut; obtain ⟨u96, hcut⟩ := hcut; obtain ⟨u97, hcut⟩ := hcut; obtain ⟨u98, hcut⟩ := hcut; obtain ⟨u99, hcut⟩ := hcut; obtain ⟨u100, hcut⟩ := hcut; obtain ⟨u101, hcut⟩ := hcut; obtain ⟨u102, hcut⟩ := hcut; obtain ⟨u103, hcut⟩ := hcut; obtain ⟨u104, hcut⟩ := hcut; obtain ⟨u105, hcut⟩ := hcut; obtain ⟨u106, hcut⟩ := hcut; obtain ⟨u107, hcut⟩ := hcut; obtain ⟨u108, hcut⟩ := hcut; obtain ⟨u109, hcut⟩ := hcut; obtain ⟨u110, hcut⟩ := hcut; obtain ⟨u111, hcut⟩ := hcut; obtain ⟨u112, hcut⟩ := hcut; obtain ⟨u113, hcut⟩ := hcut; obtain ⟨u114, hcut⟩ := hcut; obtain ⟨u115, hcut⟩ := hcut; obtain ⟨u116, hcut⟩ := hcut; obtain ⟨u117, hcut⟩ := hcut; obtain ⟨u118, hcut⟩ := hcut; obtain ⟨u119, hcut⟩ := hcut; obtain ⟨u120, hcut⟩ := hcut; obtain ⟨u121, hcut⟩ := hcut; obtain ⟨u122, hcut⟩ := hcut; obtain ⟨u123, hcut⟩ := hcut; obtain ⟨u124, hcut⟩ := hcut; obtain ⟨u125, hcut⟩ := hcut; obtain ⟨u126, hcut⟩ := hcut; obtain ⟨u127, hcut⟩ := hcut; obtain ⟨u128, hcut⟩ := hcut; obtain ⟨u129, hcut⟩ := hcut; obtain ⟨u130, hcut⟩ := hcut; obtain ⟨u131, hcut⟩ := hcut; obtain ⟨u132, hcut⟩ := hcut; obtain ⟨u133, hcut⟩ := hcut; obtain ⟨u134, hcut⟩ := hcut; obtain ⟨u135, hcut⟩ := hcut; obtain ⟨u136, hcut⟩ := hcut; obtain ⟨u137, hcut⟩ := hcut; obtain ⟨u138, hcut⟩ := hcut; obtain ⟨u139, hcut⟩ := hcut; obtain ⟨u140, hcut⟩ := hcut; obtain ⟨u141, hcut⟩ := hcut; obtain ⟨v5, hcut⟩ := hcut; obtain ⟨v6, hcut⟩ := hcut; obtain ⟨hcut, hac⟩ := hcut; subst hac; intro _ _ _ _)
  case atStart => exact ⟨0, 0, rfl, rfl, rfl, by simp [tot], by omega, rfl⟩
  case round =>
  obtain ⟨i, t, hi, rfl, rfl, ht, htl, rfl⟩ := hcut
  have HI := Lib.hid hi
  have HT := Lib.hid ht
  have hib : i ≤ 6000000000000 := by omega
  clear hi ht
  by_cases hlt : i < nn
  · have hix : i < sc.length := by rw [HNN.out]; exact hlt
    obtain ⟨b, o, C, cc, u, hA, k0, k1, k2, k3, k4, i0, i1, i3, hu, hby, hsr, hle⟩ := pt_at HES.out (List.getElem?_eq_getElem hix)
    have HTT := Lib.hid (tot_take (List.getElem?_eq_getElem hix))
    generalize sc[i] = x at *
    obtain ⟨kd, wh, uu, xi, p, _⟩ := x
    simp only at k0 k1 k2 k3 k4 i0 i1 i3 hby hsr hle HTT
    obtain ⟨q, hq⟩ : ∃ q, p.length = q := ⟨_, rfl⟩
    unfold reach at hle
    rw [hq] at k4 hle HTT
    subst hA
    have hq0 : q ≤ 140737488351232 := hle
    clear k0 k1 k2 k3 i0 i1 i3 hu hby hsr hle hq hix
    obtain ⟨t1, h1⟩ := named (decide (1073741824 < (t : Int) + 10 + (q : Int)))
    go_wp2_with (fail)
    · go_ret
      exact ⟨rfl, Below.refl _ _⟩
    · rename_i hf
      have hle : t + 10 + q ≤ 1073741824 := by have := of_decide_eq_false (h1.trans hf); omega
      have HLE := Lib.hid hle
      clear hle
      go_roundg (m - 1)
      case measure => have := HI.out; omega
      case rel => exact ⟨i + 1, t + 10 + q, by have := HI.out; omega, by go_num, by go_num, by have := HTT.out; have := HT.out; omega, HLE.out, rfl⟩
  · have HTOT := Lib.hid (show tot sc ≤ 1073741824 from by
      have := HT.out
      rw [List.take_of_length_le (by rw [HNN.out]; omega)] at this
      omega)
    clear HT HI htl
    go_upto_region 11 with (fail)
    refine wp_loop_ghost_k (fun (m2 : Nat) (ac : Act) (wr : World) => ∃ u2 u3 u5 u6 u10 u11 u12 u13 u14 u15 u16 u17 u18 u19 u20 u21 u22 u23 u24 u25 u26 u27 u28 u29 u30 u31 u32 u33 u34 u35 u36 u37 u38 u39 u40 u41 u42 u43 u44 u45 u46 u47 u48 u49 u50 u51 u52 u53 u54 u55 u56 u57 u58 u59 u60 u61 u62 u63 u64 u65 u66 u67 u68 u69 u70 u71 u72 u73 u74 u75 u76 u77 u78 u79 u80 u81 u82 u83 u84 u85 u86 u87 u88 u89 u90 u91 u92 u93 u94 u95 u96 u97 u98 u99 u100 u101 u102 u103 u104 u105 u106 u107 u108 u109 u110 u111 u112 u113 u114 u115 u116 u117 u118 u119 u120 u121 u122 u123 u124 u125 u126 u127 u128 u129 u130 u131 u132 u133 u134 u135 u136 u137 u138 u139 u140 u141 v7 v8 v9 : Value, (∃ (i : Nat) (A : Option Addr) (cA : Nat) (B : Option Addr) (cB : Nat) (obs : Obs WS), m2 + i = n ∧ v7 = .slice A i cA ∧ v8 = .slice B i cB ∧ v9 = .int .i64 i ∧ obs.length = i ∧ LenO 0 obs ∧ StW w wr A cA B cB obs) ∧ ac = ({ tmps := #[.slice A0 n c0, .slice A1 nn c1, u2, u3, .bool false, u5, u6, v7, v8, v9, u10, u11, u12, u13, u14, u15, u16, u17, u18, u19, u20, u21, u22, u23, u24, u25, u26, u27, u28, u29, u30, u31, u32, u33, u34, u35, u36, u37, u38, u39, u40, u41, u42, u43, u44, u45, u46, u47, u48, u49, u50, u51, u52, u53, u54, u55, u56, u57, u58, u59, u60, u61, u62, u63, u64, u65, u66, u67, u68, u69, u70, u71, u72, u73, u74, u75, u76, u77, u78, u79, u80, u81, u82, u83, u84, u85, u86, u87, u88, u89, u90, u91, u92, u93, u94, u95, u96, u97, u98, u99, u100, u101, u102, u103, u104, u105, u106, u107, u108, u109, u110, u111, u112, u113, u114, u115, u116, u117, u118, u119, u120, u121, u122, u123, u124, u125, u126, u127, u128, u129, u130, u131, u132, u133, u134, u135, u136, u137, u138, u139, u140, u141], defers := [] } : Act)) (n) ?atStart ?round
    case' atStart => ((repeat apply Exists.intro); refine ⟨?_, rfl⟩)
    case' round => (intro m2 ac wr hcut; obtain ⟨u2, hcut⟩ := hcut; obtain ⟨u3, hcut⟩ := hcut; obtain ⟨u5, hcut⟩ := hcut; obtain ⟨u6, hcut⟩ := hcut; obtain ⟨u10, hcut⟩ := hcut; obtain ⟨u11, hcut⟩ := hcut; obtain ⟨u12, hcut⟩ := hcut; obtain ⟨u13, hcut⟩ := hcut; obtain ⟨u14, hcut⟩ := hcut; obtain ⟨u15, hcut⟩ := hcut; obtain ⟨u16, hcut⟩ := hcut; obtain ⟨u17, hcut⟩ := hcut; obtain ⟨u18, hcut⟩ := hcut; obtain ⟨u19, hcut⟩ := hcut; obtain ⟨u20, hcut⟩ := hcut; obtain ⟨u21, hcut⟩ := hcut; obtain ⟨u22, hcut⟩ := hcut; obtain ⟨u23, hcut⟩ := hcut; obtain ⟨u24, hcut⟩ := hcut; obtain ⟨u25, hcut⟩ := hcut; obtain ⟨u26, hcut⟩ := hcut; obtain ⟨u27, hcut⟩ := hcut; obtain ⟨u28, hcut⟩ := hcut; obtain ⟨u29, hcut⟩ := hcut; obtain ⟨u30, hcut⟩ := hcut; obtain ⟨u31, hcut⟩ := hcut; obtain ⟨u32, hcut⟩ := hcut; obtain ⟨u33, hcut⟩ := hcut; obtain ⟨u34, hcut⟩ := hcut; obtain ⟨u35, hcut⟩ := hcut; obtain ⟨u36, hcut⟩ := hcut; obtain ⟨u37, hcut⟩ := hcut; obtain ⟨u38, hcut⟩ := hcut; obtain ⟨u39, hcut⟩ := hcut; obtain ⟨u40, hcut⟩ := hcut; obtain ⟨u41, hcut⟩ := hcut; obtain ⟨u42, hcut⟩ := hcut; obtain ⟨u43, hcut⟩ := hcut; obtain ⟨u44, hcut⟩ := hcut; obtain ⟨u45, hcut⟩ := hcut; obtain ⟨u46, hcut⟩ := hcut; obtain ⟨u47, hcut⟩ := hcut; obtain ⟨u48, hcut⟩ := hcut; obtain ⟨u49, hcut⟩ := hcut; obtain ⟨u50, hcut⟩ := hcut; obtain ⟨u51, hcut⟩ := hcut; obtain ⟨u52, hcut⟩ := hcut; obtain ⟨u53, hcut⟩ := hcut; obtain ⟨u54, hcut⟩ := hcut; obtain ⟨u55, hcut⟩ := hcut; obtain ⟨u56, hcut⟩ := hcut; obtain ⟨u57, hcut⟩ := hcut; obtain ⟨u58, hcut⟩ := hcut; obtain ⟨u59, hcut⟩ := hcut; obtain ⟨u60, hcut⟩ := hcut; obtain ⟨u61, hcut⟩ := hcut; obtain ⟨u62, hcut⟩ := hcut; obtain ⟨u63, hcut⟩ := hcut; obtain ⟨u64, hcut⟩ := hcut; obtain ⟨u65, hcut⟩ := hcut; obtain ⟨u66, hcut⟩ := hcut; obtain ⟨u67, hcut⟩ := hcut; obtain ⟨u68, hcut⟩ := hcut; obtain ⟨u69, hcut⟩ := hcut; obtain ⟨u70, hcut⟩ := hcut; obtain ⟨u71, hcut⟩ := hcut; obtain ⟨u72, hcut⟩ := hcut; obtain ⟨u73, hcut⟩ := hcut; obtain ⟨u74, hcut⟩ := hcut; obtain ⟨u75, hcut⟩ := hcut; obtain ⟨u76, hcut⟩ := hcut; obtain ⟨u77, hcut⟩ := hcut; obtain ⟨u78, hcut⟩ := hcut; obtain ⟨u79, hcut⟩ := hcut; obtain ⟨u80, hcut⟩ := hcut; obtain ⟨u81, hcut⟩ := hcut; obtain ⟨u82, hcut⟩ := hcut; obtain ⟨u83, hcut⟩ := hcut; obtain ⟨u84, hcut⟩ := hcut; obtain ⟨u85, hcut⟩ := hcut; obtain ⟨u86, hcut⟩ := hcut; obtain ⟨u87, hcut⟩ := hcut; obtain ⟨u88, hcut⟩ := hcut; obtain ⟨u89, hcut⟩ := hcut; obtain ⟨u90, hcut⟩ := hcut; obtain ⟨u91, hcut⟩ := hcut; obtain ⟨u92, hcut⟩ := hcut; obtain ⟨u93, hcut⟩ := hcut; obtain ⟨u94, hcut⟩ := hcut; obtain ⟨u95, hcut⟩ := hcut; obtain ⟨u96, hcut⟩ := hcut; obtain ⟨u97, hcut⟩ := hcut; obtain ⟨u98, hcut⟩ := hcut; obtain ⟨u99, hcut⟩ := hcut; obtain ⟨u100, hcut⟩ := hcut; obtain ⟨u101, hcut⟩ := hcut; obtain ⟨u102, hcut⟩ := hcut; obtain ⟨u103, hcut⟩ := hcut; obtain ⟨u104, hcut⟩ := hcut; obtain ⟨u105, hcut⟩ := hcut; obtain ⟨u106, hcut⟩ := hcut; obtain ⟨u107, hcut⟩ := hcut; obtain ⟨u108, hcut⟩ := hcut; obtain ⟨u109, hcut⟩ := hcut; obtain ⟨u110, hcut⟩ := hcut; obtain ⟨u111, hcut⟩ := hcut; obtain ⟨u112, hcut⟩ := hcut; obtain ⟨u113, hcut⟩ := hcut; obtain ⟨u114, hcut⟩ := hcut; obtain ⟨u115, hcut⟩ := hcut; obtain ⟨u116, hcut⟩ := hcut; obtain ⟨u117, hcut⟩ := hcut; obtain ⟨u118, hcut⟩ := hcut; obtain ⟨u119, hcut⟩ := hcut; obtain ⟨u120, hcut⟩ := hcut; obtain ⟨u121, hcut⟩ := hcut; obtain ⟨u122, hcut⟩ := hcut; obtain ⟨u123, hcut⟩ := hcut; obtain ⟨u124, hcut⟩ := hcut; obtain ⟨u125, hcut⟩ := hcut; obtain ⟨u126, hcut⟩ := hcut; obtain ⟨u127, hcut⟩ := hcut; obtain ⟨u128, hcut⟩ := hcut; obtain ⟨u129, hcut⟩ := hcut; obtain ⟨u130, hcut⟩ := hcut; obtain ⟨u131, hcut⟩ := hcut; obtain ⟨u132, hcut⟩ := hcut; obtain ⟨u133, hcut⟩ := hcut; obtain ⟨u134, hcut⟩ := hcut; obtain ⟨u135, hcut⟩ := hcut; obtain ⟨u136, hcut⟩ := hcut; obtain ⟨u137, hcut⟩ := hcut; obtain ⟨u138, hcut⟩ := hcut; obtain ⟨u139, hcut⟩ := hcut; obtain ⟨u140, hcut⟩ := hcut; obtain ⟨u141, hcut⟩ := hcut; obtain ⟨v7, hcut⟩ := hcut; obtain ⟨v8, hcut⟩ := hcut; obtain ⟨v9, hcut⟩ := hcut; obtain ⟨hcut, hac⟩ := hcut; subst hac; intro _ _ _ _)
    case atStart => exact ⟨0, none, 0, none, 0, [], rfl, rfl, rfl, rfl, rfl, fun i k m s h => by simp at h, StI.nil _ _ _ (Below.refl _ _)⟩
    case round =>
    obtain ⟨i, A, cA, B, cB, obs, hi, rfl, rfl, rfl, hol, hlo, SI⟩ := hcut
    have HI := Lib.hid hi
    have HOL := Lib.hid hol
    have HLO := Lib.hid hlo
    have HSI := Lib.hid SI
    have hib : i ≤ 17592186043904 := by omega
    clear hi hol hlo SI
    by_cases hlt : i < n
    · have hix : i < ls.length := by rw [HN.out]; exact hlt
      obtain ⟨b, o, hA, hcell, hx0, hx1⟩ := i64_at HE.out (List.getElem?_eq_getElem hix)
      have HB := Lib.hid HSI.out.back
      have hcell0 := cell_below HB.out hcell
      generalize ls[i] = x at *
      subst hA
      have HCELL := Lib.hid hcell
      have CA := Lib.hid (new_any x wr)
      clear hcell hix
      go_wp2_with (fail)
      refine CA.out.mono ?_
      rintro e w1 ⟨rfl, B1, L1⟩
      have SA := HSI.out.first (WLies_local TW) (WLies_local TE) B1 L1
      obtain ⟨A', cA', w2, hr2, SA2⟩ := SA.pushA elPW (WLies_local TW) (WLies_local TE) (ptO wr.heap.size) (by rw [ptsA_len, HOL.out]; omega)
      rw [ptsA_len, HOL.out] at hr2
      have HRU := Lib.hid hr2
      have HSA := Lib.hid SA2
      have HOK := Lib.hid (WS.Ok.new x hx1)
      clear SA hr2 SA2 CA B1 L1
      go_upto_region 17 with (refine wpList_app HRU.out rfl rfl rfl (by rfl) (by rfl) ?_)
      have HB2 := Lib.hid (show Below w.heap.size w w2 from by obtain ⟨F, _, _, h, _⟩ := HSA.out; exact h)
      have hcell2 : w2.cell? ⟨b, o + i, none⟩ = some (.int .i64 x) := cell_below HB2.out HCELL.out
      have CQ := Lib.hid (refNew_any x w2)
      go_wp2_with (fail)
      refine CQ.out.mono ?_
      rintro e w3 ⟨rfl, B3, L3⟩
      rw [show (if x < 0 then 0 else x) = max x 0 from by split <;> omega] at L3
      have SB := HSA.out.second (WLies_local TW) (WLies_local TE) B3 L3
      obtain ⟨B', cB', w4, hr4, S4⟩ := SB.pushB elQW (WLies_local TW) (WLies_local TE) HOK.out (ptO w2.heap.size) (by rw [ptsB_len, HOL.out]; omega)
      rw [ptsB_len, HOL.out] at hr4
      have HRV := Lib.hid hr4
      have HS4 := Lib.hid (show StW w w4 A' cA' B' cB' (obs ++ [some (wr.heap.size, w2.heap.size, ⟨max x 0, [], [], 0⟩)]) from by
        unfold StW ptsA ptsB
        rw [List.map_append, List.map_append]
        exact S4)
      clear SB hr4 S4 L3 B3 CQ hcell2 HRU
      go_wp2_with (refine wpList_app HRV.out rfl rfl rfl (by rfl) (by rfl) ?_)
      go_roundg (m2 - 1)
      case measure => have := HI.out; omega
      case rel =>
        refine ⟨i + 1, A', cA', B', cB', _, by have := HI.out; omega, by go_num, by go_num, by go_num, by rw [List.length_append, HOL.out]; rfl, ?_, HS4.out⟩
        intro j k m s hj
        rcases Nat.lt_or_ge j obs.length with hlt | hge
        · rw [List.getElem?_append_left hlt] at hj
          exact HLO.out j k m s hj
        · rw [List.getElem?_append_right hge] at hj
          rcases hz : j - obs.length with _ | z
          · rw [hz] at hj; simp at hj; obtain ⟨_, _, rfl⟩ := hj; simp
          · rw [hz] at hj; simp at hj
    · have hin : i = n := by have := HI.out; omega
      subst hin
      obtain ⟨A', cA', w1, hr1, S1⟩ := HSI.out.pushA elPW PWq_local none (by rw [ptsA_len, HOL.out]; omega)
      rw [ptsA_len, HOL.out] at hr1
      obtain ⟨B', cB', w2, hr2, S2⟩ := S1.pushB elQW PWq_local none (by rw [ptsB_len, HOL.out]; omega)
      rw [ptsB_len, HOL.out] at hr2
      obtain ⟨L, hL⟩ : ∃ L, i + 1 = L := ⟨_, rfl⟩
      rw [hL] at hr1 hr2
      have HLL := Lib.hid hL
      have HRU := Lib.hid hr1
      have HRV := Lib.hid hr2
      obtain ⟨ob1, hob1⟩ : ∃ ob1, ob1 = obs ++ [none] := ⟨_, rfl⟩
      have HS2 := Lib.hid (show StW w w2 A' cA' B' cB' ob1 from by
        rw [hob1]
        unfold StW ptsA ptsB
        rw [List.map_append, List.map_append]
        exact S2)
      have HL1 := Lib.hid (show ob1.length = L from by rw [hob1, List.length_append, HOL.out, ← hL]; rfl)
      have HN1 := Lib.hid (show ob1[i]? = some none from by rw [hob1, List.getElem?_append_right (by rw [HOL.out]; exact Nat.le_refl _), HOL.out, Nat.sub_self]; rfl)
      have HO1 := Lib.hid (show LenO 0 ob1 from by
        rw [hob1]
        intro j k m s hj
        rcases Nat.lt_or_ge j obs.length with hlt | hge
        · rw [List.getElem?_append_left hlt] at hj
          exact HLO.out j k m s hj
        · rw [List.getElem?_append_right hge] at hj
          rcases hz : j - obs.length with _ | z
          · rw [hz] at hj; simp at hj
          · rw [hz] at hj; simp at hj)
      have hLb : L ≤ 17592186043905 := by omega
      have hL0 : 1 ≤ L := by omega
      clear S1 S2 hr1 hr2 hob1 hL
      go_upto_region 20 with (refine wpList_app HRU.out rfl rfl rfl (by rfl) (by rfl) ?_)
      go_upto_region 22 with (refine wpList_app HRV.out rfl rfl rfl (by rfl) (by rfl) ?_)
      clear HRU HRV HI HOL HLO HSI HE
      refine wp_loop_ghost_k (fun (mm : Nat) (ac : Act) (ww : World) => ∃ u2 u3 u5 u6 u9 u10 u11 u13 u14 u15 u16 u17 u18 u19 u20 u21 u22 u23 u24 u25 u26 u27 u28 u29 u30 u31 u32 u33 u34 u35 u36 u37 u38 u39 u40 u41 u42 u43 u44 u45 u46 u47 u48 u49 u50 u51 u52 u53 u54 u55 u56 u57 u58 u59 u60 u61 u62 u63 u64 u65 u66 u67 u68 u69 u70 u71 u72 u73 u74 u75 u76 u77 u78 u79 u80 u81 u82 u83 u84 u85 u86 u87 u88 u89 u90 u91 u92 u93 u94 u95 u96 u97 u98 u99 u100 u101 u102 u103 u104 u105 u106 u107 u108 u109 u110 u111 u112 u113 u114 u115 u116 u117 u118 u119 u120 u121 u122 u123 u124 u125 u126 u127 u128 u129 u130 u131 u132 u133 u134 u135 u136 u137 u138 u139 u140 u141 v12 : Value, (∃ (j : Nat) (obs : Obs WS), mm + j = nn ∧ v12 = .int .i64 j ∧ obs.length = L ∧ obs[i]? = some none ∧ LenO (tot (sc.take j)) obs ∧ StW w ww A' cA' B' cB' obs) ∧ ac = ({ tmps := #[.slice A0 i c0, .slice A1 nn c1, u2, u3, .bool false, u5, u6, .slice A' L cA', .slice B' L cB', u9, u10, u11, v12, u13, u14, u15, u16, u17, u18, u19, u20, u21, u22, u23, u24, u25, u26, u27, u28, u29, u30, u31, u32, u33, u34, u35, u36, u37, u38, u39, u40, u41, u42, u43, u44, u45, u46, u47, u48, u49, u50, u51, u52, u53, u54, u55, u56, u57, u58, u59, u60, u61, u62, u63, u64, u65, u66, u67, u68, u69, u70, u71, u72, u73, u74, u75, u76, u77, u78, u79, u80, u81, u82, u83, u84, u85, u86, u87, u88, u89, u90, u91, u92, u93, u94, u95, u96, u97, u98, u99, u100, u101, u102, u103, u104, u105, u106, u107, u108, u109, u110, u111, u112, u113, u114, u115, u116, u117, u118, u119, u120, u121, u122, u123, u124, u125, u126, u127, u128, u129, u130, u131, u132, u133, u134, u135, u136, u137, u138, u139, u140, u141], defers := [] } : Act)) (nn) ?atStart ?round
      case' atStart => ((repeat apply Exists.intro); refine ⟨?_, rfl⟩)
      case' round => (intro mm ac ww hcut; obtain ⟨u2, hcut⟩ := hcut; obtain ⟨u3, hcut⟩ := hcut; obtain ⟨u5, hcut⟩ := hcut; obtain ⟨u6, hcut⟩ := hcut; obtain ⟨u9, hcut⟩ := hcut; obtain ⟨u10, hcut⟩ := hcut; obtain ⟨u11, hcut⟩ := hcut; obtain ⟨u13, hcut⟩ := hcut; obtain ⟨u14, hcut⟩ := hcut; obtain ⟨u15, hcut⟩ := hcut; obtain ⟨u16, hcut⟩ := hcut; obtain ⟨u17, hcut⟩ := hcut; obtain ⟨u18, hcut⟩ := hcut; obtain ⟨u19, hcut⟩ := hcut; obtain ⟨u20, hcut⟩ := hcut; obtain ⟨u21, hcut⟩ := hcut; obtain ⟨u22, hcut⟩ := hcut; obtain ⟨u23, hcut⟩ := hcut; obtain ⟨u24, hcut⟩ := hcut; obtain ⟨u25, hcut⟩ := hcut; obtain ⟨u26, hcut⟩ := hcut; obtain ⟨u27, hcut⟩ := hcut; obtain ⟨u28, hcut⟩ := hcut; obtain ⟨u29, hcut⟩ := hcut; obtain ⟨u30, hcut⟩ := hcut; obtain ⟨u31, hcut⟩ := hcut; obtain ⟨u32, hcut⟩ := hcut; obtain ⟨u33, hcut⟩ := hcut; obtain ⟨u34, hcut⟩ := hcut; obtain ⟨u35, hcut⟩ := hcut; obtain ⟨u36, hcut⟩ := hcut; obtain ⟨u37, hcut⟩ := hcut; obtain ⟨u38, hcut⟩ := hcut; obtain ⟨u39, hcut⟩ := hcut; obtain ⟨u40, hcut⟩ := hcut; obtain ⟨u41, hcut⟩ := hcut; obtain ⟨u42, hcut⟩ := hcut; obtain ⟨u43, hcut⟩ := hcut; obtain ⟨u44, hcut⟩ := hcut; obtain ⟨u45, hcut⟩ := hcut; obtain ⟨u46, hcut⟩ := hcut; obtain ⟨u47, hcut⟩ := hcut; obtain ⟨u48, hcut⟩ := hcut; obtain ⟨u49, hcut⟩ := hcut; obtain ⟨u50, hcut⟩ := hcut; obtain ⟨u51, hcut⟩ := hcut; obtain ⟨u52, hcut⟩ := hcut; obtain ⟨u53, hcut⟩ := hcut; obtain ⟨u54, hcut⟩ := hcut; obtain ⟨u55, hcut⟩ := hcut; obtain ⟨u56, hcut⟩ := hcut; obtain ⟨u57, hcut⟩ := hcut; obtain ⟨u58, hcut⟩ := hcut; obtain ⟨u59, hcut⟩ := hcut; obtain ⟨u60, hcut⟩ := hcut; obtain ⟨u61, hcut⟩ := hcut; obtain ⟨u62, hcut⟩ := hcut; obtain ⟨u63, hcut⟩ := hcut; obtain ⟨u64, hcut⟩ := hcut; obtain ⟨u65, hcut⟩ := hcut; obtain ⟨u66, hcut⟩ := hcut; obtain ⟨u67, hcut⟩ := hcut; obtain ⟨u68, hcut⟩ := hcut; obtain ⟨u69, hcut⟩ := hcut; obtain ⟨u70, hcut⟩ := hcut; obtain ⟨u71, hcut⟩ := hcut; obtain ⟨u72, hcut⟩ := hcut; obtain ⟨u73, hcut⟩ := hcut; obtain ⟨u74, hcut⟩ := hcut; obtain ⟨u75, hcut⟩ := hcut; obtain ⟨u76, hcut⟩ := hcut; obtain ⟨u77, hcut⟩ := hcut; obtain ⟨u78, hcut⟩ := hcut; obtain ⟨u79, hcut⟩ := hcut; obtain ⟨u80, hcut⟩ := hcut; obtain ⟨u81, hcut⟩ := hcut; obtain ⟨u82, hcut⟩ := hcut; obtain ⟨u83, hcut⟩ := hcut; obtain ⟨u84, hcut⟩ := hcut; obtain ⟨u85, hcut⟩ := hcut; obtain ⟨u86, hcut⟩ := hcut; obtain ⟨u87, hcut⟩ := hcut; obtain ⟨u88, hcut⟩ := hcut; obtain ⟨u89, hcut⟩ := hcut; obtain ⟨u90, hcut⟩ := hcut; obtain ⟨u91, hcut⟩ := hcut; obtain ⟨u92, hcut⟩ := hcut; obtain ⟨u93, hcut⟩ := hcut; obtain ⟨u94, hcut⟩ := hcut; obtain ⟨u95, hcut⟩ := hcut; obtain ⟨u96, hcut⟩ := hcut; obtain ⟨u97, hcut⟩ := hcut; obtain ⟨u98, hcut⟩ := hcut; obtain ⟨u99, hcut⟩ := hcut; obtain ⟨u100, hcut⟩ := hcut; obtain ⟨u101, hcut⟩ := hcut; obtain ⟨u102, hcut⟩ := hcut; obtain ⟨u103, hcut⟩ := hcut; obtain ⟨u104, hcut⟩ := hcut; obtain ⟨u105, hcut⟩ := hcut; obtain ⟨u106, hcut⟩ := hcut; obtain ⟨u107, hcut⟩ := hcut; obtain ⟨u108, hcut⟩ := hcut; obtain ⟨u109, hcut⟩ := hcut; obtain ⟨u110, hcut⟩ := hcut; obtain ⟨u111, hcut⟩ := hcut; obtain ⟨u112, hcut⟩ := hcut; obtain ⟨u113, hcut⟩ := hcut; obtain ⟨u114, hcut⟩ := hcut; obtain ⟨u115, hcut⟩ := hcut; obtain ⟨u116, hcut⟩ := hcut; obtain ⟨u117, hcut⟩ := hcut; obtain ⟨u118, hcut⟩ := hcut; obtain ⟨u119, hcut⟩ := hcut; obtain ⟨u120, hcut⟩ := hcut; obtain ⟨u121, hcut⟩ := hcut; obtain ⟨u122, hcut⟩ := hcut; obtain ⟨u123, hcut⟩ := hcut; obtain ⟨u124, hcut⟩ := hcut; obtain ⟨u125, hcut⟩ := hcut; obtain ⟨u126, hcut⟩ := hcut; obtain ⟨u127, hcut⟩ := hcut; obtain ⟨u128, hcut⟩ := hcut; obtain ⟨u129, hcut⟩ := hcut; obtain ⟨u130, hcut⟩ := hcut; obtain ⟨u131, hcut⟩ := hcut; obtain ⟨u132, hcut⟩ := hcut; obtain ⟨u133, hcut⟩ := hcut; obtain ⟨u134, hcut⟩ := hcut; obtain ⟨u135, hcut⟩ := hcut; obtain ⟨u136, hcut⟩ := hcut; obtain ⟨u137, hcut⟩ := hcut; obtain ⟨u138, hcut⟩ := hcut; obtain ⟨u139, hcut⟩ := hcut; obtain ⟨u140, hcut⟩ := hcut; obtain ⟨u141, hcut⟩ := hcut; obtain ⟨v12, hcut⟩ := hcut; obtain ⟨hcut, hac⟩ := hcut; subst hac; intro _ _ _ _)
      case atStart => exact ⟨0, ob1, rfl, rfl, HL1.out, HN1.out, HO1.out, HS2.out⟩
      case round =>
        obtain ⟨j, ob, hj, rfl, hol, hno, hlo, SI⟩ := hcut
        have HJ := Lib.hid hj
        have HOL := Lib.hid hol
        have HNO := Lib.hid hno
        have HLO := Lib.hid hlo
        have HSI := Lib.hid SI
        have hjb : j ≤ 6000000000000 := by omega
        clear hj hol hno hlo SI HL1 HN1 HS2 HO1
        by_cases hjn : j < nn
        · have hjx : j < sc.length := by rw [HNN.out]; exact hjn
          obtain ⟨b, o, C, cc, u, hA, k0, k1, k2, k3, k4, i0, i1, i3, hu, hby, hsr, hle⟩ := pt_at HES.out (List.getElem?_eq_getElem hjx)
          have HTT := Lib.hid (tot_take (List.getElem?_eq_getElem hjx))
          have HTL := Lib.hid (tot_le sc (j + 1))
          generalize sc[j] = x at *
          obtain ⟨kd, wh, uu, xi, p, _⟩ := x
          simp only at k0 k1 k2 k3 k4 i0 i1 i3 hby hsr hle HTT
          obtain ⟨q, hq⟩ : ∃ q, p.length = q := ⟨_, rfl⟩
          have HQ := Lib.hid hq
          subst hA
          have HB := Lib.hid HSI.out.back
          rw [hq] at k4 HTT
          have d0 := cell_below HB.out k0
          have d1 := cell_below HB.out k1
          have d2 := cell_below HB.out k2
          have d3 := cell_below HB.out k3
          have d4 := cell_below HB.out k4
          have CP := Lib.hid (fun u : World => placeW_any wh L (by omega) (by omega) i1.1 i1.2 u)
          obtain ⟨z, hz⟩ : ∃ p : Nat, (wh % (L : Int)).toNat = p := ⟨_, rfl⟩
          have hzl : z < L := by
            have := Int.emod_lt_of_pos wh (b := (L : Int)) (by omega)
            have := Int.emod_nonneg wh (b := (L : Int)) (by omega)
            omega
          rw [hz] at CP
          have q0 : (0 : Int) ≤ (z : Int) := by omega
          have q1 : (z : Int) < (L : Int) := by omega
          have q2 : (0 : Int) ≤ (j : Int) := by omega
          have q3 : (j : Int) < (nn : Int) := by omega
          have hpx : z < ob.length := by rw [HOL.out]; exact hzl
          obtain ⟨a, bq, rfl, rfl, ca, cb⟩ := Stand.at_ (h := (Classical.choose_spec HSI.out).1) (List.getElem?_eq_getElem hpx)
          have HTK := puts_st (c := cc) (HSI.out.below PWq_local (Below.refl _ _).drew) HNO.out HLO.out (List.getElem?_eq_getElem hpx) kd wh xi u hu i3.1 i3.2 hsr hby (by have := HTOT.out; have := HTL.out; have := HTT.out; rw [hq]; omega)
          rw [hq] at HTK
          have HTK := Lib.hid HTK
          generalize (ob[z]).map (fun x : Nat × Nat × WS => (⟨x.1, 0, none⟩ : Addr)) = P1 at *
          generalize (ob[z]).map (fun x : Nat × Nat × WS => (⟨x.2.1, 0, none⟩ : Addr)) = P2 at *
          clear k0 k1 k2 k3 k4 i0 i1 i3 hu hby hsr hle hz hjx hpx hq
          go_wp2_with (fail)
          refine (CP.out _).mono ?_
          rintro e w_ ⟨rfl, rfl⟩
          go_upto_region 25 with (fail)
          refine start_ (n := 14) (S := fun w' => w'.cell? ⟨a, z, none⟩ = some (.pointer P1) ∧ w'.cell? ⟨bq, z, none⟩ = some (.pointer P2) ∧ w'.cell? ⟨b, o + j * 5, none⟩ = some (.int .i64 kd) ∧ w'.cell? ⟨b, o + j * 5 + 1, none⟩ = some (.int .i64 wh) ∧ w'.cell? ⟨b, o + j * 5 + 2, none⟩ = some (.int .u64 u) ∧ w'.cell? ⟨b, o + j * 5 + 3, none⟩ = some (.int .i64 xi) ∧ w'.cell? ⟨b, o + j * 5 + 4, none⟩ = some (.slice C q cc)) (ds := [12]) #[false, false, false, false, false, false, false, false, false, false, false, false, false, false] (by kernel_rfl) rfl rfl ⟨ca, cb, d0, d1, d2, d3, d4⟩ (fun hHeld => ?_)
          (refine take_ (i := 0) (N := some 83) (v := ?v_7) (a' := ?a_7) #[true, false, false, false, false, false, false, false, false, false, false, false, false, false] rfl rfl (by kernel_rfl) (fun _ _ _ h => h) (Or.inl ⟨by rfl, ?hy_7⟩) hHeld ?ha_7 ?hh_7; (case hy_7 => (rintro w' ⟨s0_, s1_, s2_, s3_, s4_, s5_, s6_⟩; go_simp; with_reducible rfl)); (case ha_7 => (simp (disch := omega) only [Act.put, List.setIfInBounds_toArray, List.set_cons_zero, List.set_cons_succ, wrap_in]; rfl)))
          (refine take_ (i := 1) (N := some 84) (v := ?v_8) (a' := ?a_8) #[true, true, false, false, false, false, false, false, false, false, false, false, false, false] rfl rfl (by kernel_rfl) (fun _ _ _ h => h) (Or.inl ⟨by rfl, ?hy_8⟩) hHeld ?ha_8 ?hh_8; (case hy_8 => (rintro w' ⟨s0_, s1_, s2_, s3_, s4_, s5_, s6_⟩; go_simp; with_reducible rfl)); (case ha_8 => (simp (disch := omega) only [Act.put, List.setIfInBounds_toArray, List.set_cons_zero, List.set_cons_succ, wrap_in]; rfl)))
          (refine take_ (i := 2) (N := some 85) (v := ?v_9) (a' := ?a_9) #[true, true, true, false, false, false, false, false, false, false, false, false, false, false] rfl rfl (by kernel_rfl) (fun _ _ _ h => h) (Or.inl ⟨by rfl, ?hy_9⟩) hHeld ?ha_9 ?hh_9; (case hy_9 => (rintro w' ⟨s0_, s1_, s2_, s3_, s4_, s5_, s6_⟩; go_simp; with_reducible rfl)); (case ha_9 => (simp (disch := omega) only [Act.put, List.setIfInBounds_toArray, List.set_cons_zero, List.set_cons_succ, wrap_in]; rfl)))
          (refine take_ (i := 3) (N := some 86) (v := ?v_10) (a' := ?a_10) #[true, true, true, true, false, false, false, false, false, false, false, false, false, false] rfl rfl (by kernel_rfl) (fun _ _ _ h => h) (Or.inl ⟨by rfl, ?hy_10⟩) hHeld ?ha_10 ?hh_10; (case hy_10 => (rintro w' ⟨s0_, s1_, s2_, s3_, s4_, s5_, s6_⟩; go_simp; with_reducible rfl)); (case ha_10 => (simp (disch := omega) only [Act.put, List.setIfInBounds_toArray, List.set_cons_zero, List.set_cons_succ, wrap_in]; rfl)))
          (refine take_ (i := 4) (N := some 87) (v := ?v_11) (a' := ?a_11) #[true, true, true, true, true, false, false, false, false, false, false, false, false, false] rfl rfl (by kernel_rfl) (fun _ _ _ h => h) (Or.inl ⟨by rfl, ?hy_11⟩) hHeld ?ha_11 ?hh_11; (case hy_11 => (rintro w' ⟨s0_, s1_, s2_, s3_, s4_, s5_, s6_⟩; go_simp; with_reducible rfl)); (case ha_11 => (simp (disch := omega) only [Act.put, List.setIfInBounds_toArray, List.set_cons_zero, List.set_cons_succ, wrap_in]; rfl)))
          (refine take_ (i := 5) (N := some 88) (v := ?v_12) (a' := ?a_12) #[true, true, true, true, true, true, false, false, false, false, false, false, false, false] rfl rfl (by kernel_rfl) (fun _ _ _ h => h) (Or.inl ⟨by rfl, ?hy_12⟩) hHeld ?ha_12 ?hh_12; (case hy_12 => (rintro w' ⟨s0_, s1_, s2_, s3_, s4_, s5_, s6_⟩; go_simp; with_reducible rfl)); (case ha_12 => (simp (disch := omega) only [Act.put, List.setIfInBounds_toArray, List.set_cons_zero, List.set_cons_succ, wrap_in]; rfl)))
          (refine take_ (i := 6) (N := some 89) (v := ?v_13) (a' := ?a_13) #[true, true, true, true, true, true, true, false, false, false, false, false, false, false] rfl rfl (by kernel_rfl) (fun _ _ _ h => h) (Or.inl ⟨by rfl, ?hy_13⟩) hHeld ?ha_13 ?hh_13; (case hy_13 => (rintro w' ⟨s0_, s1_, s2_, s3_, s4_, s5_, s6_⟩; go_simp; with_reducible rfl)); (case ha_13 => (simp (disch := omega) only [Act.put, List.setIfInBounds_toArray, List.set_cons_zero, List.set_cons_succ, wrap_in]; rfl)))
          (refine take_ (i := 7) (N := some 90) (v := ?v_14) (a' := ?a_14) #[true, true, true, true, true, true, true, true, false, false, false, false, false, false] rfl rfl (by kernel_rfl) (fun _ _ _ h => h) (Or.inl ⟨by rfl, ?hy_14⟩) hHeld ?ha_14 ?hh_14; (case hy_14 => (rintro w' ⟨s0_, s1_, s2_, s3_, s4_, s5_, s6_⟩; go_simp; with_reducible rfl)); (case ha_14 => (simp (disch := omega) only [Act.put, List.setIfInBounds_toArray, List.set_cons_zero, List.set_cons_succ, wrap_in]; rfl)))
          (refine take_ (i := 8) (N := some 91) (v := ?v_15) (a' := ?a_15) #[true, true, true, true, true, true, true, true, true, false, false, false, false, false] rfl rfl (by kernel_rfl) (fun _ _ _ h => h) (Or.inl ⟨by rfl, ?hy_15⟩) hHeld ?ha_15 ?hh_15; (case hy_15 => (rintro w' ⟨s0_, s1_, s2_, s3_, s4_, s5_, s6_⟩; go_simp; with_reducible rfl)); (case ha_15 => (simp (disch := omega) only [Act.put, List.setIfInBounds_toArray, List.set_cons_zero, List.set_cons_succ, wrap_in]; rfl)))
          (refine take_ (i := 9) (N := some 92) (v := ?v_16) (a' := ?a_16) #[true, true, true, true, true, true, true, true, true, true, false, false, false, false] rfl rfl (by kernel_rfl) (fun _ _ _ h => h) (Or.inl ⟨by rfl, ?hy_16⟩) hHeld ?ha_16 ?hh_16; (case hy_16 => (rintro w' ⟨s0_, s1_, s2_, s3_, s4_, s5_, s6_⟩; go_simp; with_reducible rfl)); (case ha_16 => (simp (disch := omega) only [Act.put, List.setIfInBounds_toArray, List.set_cons_zero, List.set_cons_succ, wrap_in]; rfl)))
          (refine take_ (i := 10) (N := some 93) (v := ?v_17) (a' := ?a_17) #[true, true, true, true, true, true, true, true, true, true, true, false, false, false] rfl rfl (by kernel_rfl) (fun _ _ _ h => h) (Or.inl ⟨by rfl, ?hy_17⟩) hHeld ?ha_17 ?hh_17; (case hy_17 => (rintro w' ⟨s0_, s1_, s2_, s3_, s4_, s5_, s6_⟩; go_simp; with_reducible rfl)); (case ha_17 => (simp (disch := omega) only [Act.put, List.setIfInBounds_toArray, List.set_cons_zero, List.set_cons_succ, wrap_in]; rfl)))
          (refine take_ (i := 11) (N := some 94) (v := ?v_18) (a' := ?a_18) #[true, true, true, true, true, true, true, true, true, true, true, true, false, false] rfl rfl (by kernel_rfl) (fun _ _ _ h => h) (Or.inl ⟨by rfl, ?hy_18⟩) hHeld ?ha_18 ?hh_18; (case hy_18 => (rintro w' ⟨s0_, s1_, s2_, s3_, s4_, s5_, s6_⟩; go_simp; with_reducible rfl)); (case ha_18 => (simp (disch := omega) only [Act.put, List.setIfInBounds_toArray, List.set_cons_zero, List.set_cons_succ, wrap_in]; rfl)))
          refine last_ (i := 12) (N := some 95) #[true, true, true, true, true, true, true, true, true, true, true, true, true, false] rfl rfl (by kernel_rfl) (by decide) (fun K hK => ?_)
          (refine goes_ Try.func37 (by kernel_rfl) rfl ?args_1 (by rfl) rfl rfl ?hargs_1 ?hc_1; (case hargs_1 => (go_simp; with_reducible rfl)))
          (refine HTK.out.mono ?_; rintro e w2 ⟨rfl, ob', hl', hn', hlo', S'⟩; refine ⟨_, rfl, ?_⟩)
          (refine hK.out _ _ ?hn_3; clear hK K; try clear hHeld)
          (refine norm_ (a' := ?a_4) ?ha_4 ?hh_4; (case ha_4 => (simp (disch := omega) only [Act.put, List.setIfInBounds_toArray, List.set_cons_zero, List.set_cons_succ, wrap_in]; rfl)))
          (refine pure_ (i := 13) (N := some 14) (v := ?v_5) (a' := ?a_5) #[true, true, true, true, true, true, true, true, true, true, true, true, true, true] rfl rfl (by kernel_rfl) (fun _ _ _ h => h) (Or.inl ⟨by rfl, ?hy_5⟩) ?ha_5 ?hh_5; (case hy_5 => (intro w'; go_simp; with_reducible rfl)); (case ha_5 => (simp (disch := omega) only [Act.put, List.setIfInBounds_toArray, List.set_cons_zero, List.set_cons_succ, wrap_in]; rfl)))
          refine done_ (by kernel_rfl) ?_
          have HS' := Lib.hid S'
          have HL' := Lib.hid (hl'.trans HOL.out)
          have HN' := Lib.hid hn'
          have HLO' := Lib.hid (hlo'.le (show _ ≤ tot (sc.take j) + (10 + q) from by have := growN_le kd p; rw [HQ.out] at this; omega))
          clear S' hl' hn' hlo' HTK ca cb d0 d1 d2 d3 d4
          go_wp2_with (fail)
          go_roundg (mm - 1)
          case measure => have := HJ.out; omega
          case rel => exact ⟨j + 1, ob', by have := HJ.out; omega, by go_num, HL'.out, HN'.out, by rw [HTT.out]; exact HLO'.out, HS'.out⟩
        · have HLF := Lib.hid (show LenO 1073741824 ob from fun i k m s h => by have h1 := HLO.out i k m s h; have h2 := tot_le sc j; have h3 := HTOT.out; omega)
          clear HLO
          go_upto_region 29 with (fail)
          refine wp_loop_ghost_k (fun (mk : Nat) (ac : Act) (wk : World) => ∃ u2 u3 u5 u6 u9 u10 u11 u12 u13 u14 u16 u17 u18 u19 u20 u21 u22 u23 u24 u25 u26 u27 u28 u29 u30 u31 u32 u33 u34 u35 u36 u37 u38 u39 u40 u41 u42 u43 u44 u45 u46 u47 u48 u49 u50 u51 u52 u53 u54 u55 u56 u57 u58 u59 u60 u61 u62 u63 u64 u65 u66 u67 u68 u69 u70 u71 u72 u73 u74 u75 u76 u77 u78 u79 u80 u81 u82 u83 u84 u85 u86 u87 u88 u89 u90 u91 u92 u93 u94 u95 u96 u97 u98 u99 u100 u101 u102 u103 u104 u105 u106 u107 u108 u109 u110 u111 u112 u113 u114 u115 u116 u117 u118 u119 u120 u121 u122 u123 u124 u125 u126 u127 u128 u129 u130 u131 u132 u133 u134 u135 u136 u137 u138 u139 u140 u141 v15 : Value, (∃ (k : Nat) (obs : Obs WS), mk + k = L ∧ v15 = .int .i64 k ∧ obs.length = L ∧ obs[i]? = some none ∧ LenO 1073741824 obs ∧ StW w wk A' cA' B' cB' obs) ∧ ac = ({ tmps := #[.slice A0 i c0, .slice A1 nn c1, u2, u3, .bool false, u5, u6, .slice A' L cA', .slice B' L cB', u9, u10, u11, u12, u13, u14, v15, u16, u17, u18, u19, u20, u21, u22, u23, u24, u25, u26, u27, u28, u29, u30, u31, u32, u33, u34, u35, u36, u37, u38, u39, u40, u41, u42, u43, u44, u45, u46, u47, u48, u49, u50, u51, u52, u53, u54, u55, u56, u57, u58, u59, u60, u61, u62, u63, u64, u65, u66, u67, u68, u69, u70, u71, u72, u73, u74, u75, u76, u77, u78, u79, u80, u81, u82, u83, u84, u85, u86, u87, u88, u89, u90, u91, u92, u93, u94, u95, u96, u97, u98, u99, u100, u101, u102, u103, u104, u105, u106, u107, u108, u109, u110, u111, u112, u113, u114, u115, u116, u117, u118, u119, u120, u121, u122, u123, u124, u125, u126, u127, u128, u129, u130, u131, u132, u133, u134, u135, u136, u137, u138, u139, u140, u141], defers := [] } : Act)) (L) ?atStart ?round
          case' atStart => ((repeat apply Exists.intro); refine ⟨?_, rfl⟩)
          case' round => (intro mk ac wk hcut; obtain ⟨u2, hcut⟩ := hcut; obtain ⟨u3, hcut⟩ := hcut; obtain ⟨u5, hcut⟩ := hcut; obtain ⟨u6, hcut⟩ := hcut; obtain ⟨u9, hcut⟩ := hcut; obtain ⟨u10, hcut⟩ := hcut; obtain ⟨u11, hcut⟩ := hcut; obtain ⟨u12, hcut⟩ := hcut; obtain ⟨u13, hcut⟩ := hcut; obtain ⟨u14, hcut⟩ := hcut; obtain ⟨u16, hcut⟩ := hcut; obtain ⟨u17, hcut⟩ := hcut; obtain ⟨u18, hcut⟩ := hcut; obtain ⟨u19, hcut⟩ := hcut; obtain ⟨u20, hcut⟩ := hcut; obtain ⟨u21, hcut⟩ := hcut; obtain ⟨u22, hcut⟩ := hcut; obtain ⟨u23, hcut⟩ := hcut; obtain ⟨u24, hcut⟩ := hcut; obtain ⟨u25, hcut⟩ := hcut; obtain ⟨u26, hcut⟩ := hcut; obtain ⟨u27, hcut⟩ := hcut; obtain ⟨u28, hcut⟩ := hcut; obtain ⟨u29, hcut⟩ := hcut; obtain ⟨u30, hcut⟩ := hcut; obtain ⟨u31, hcut⟩ := hcut; obtain ⟨u32, hcut⟩ := hcut; obtain ⟨u33, hcut⟩ := hcut; obtain ⟨u34, hcut⟩ := hcut; obtain ⟨u35, hcut⟩ := hcut; obtain ⟨u36, hcut⟩ := hcut; obtain ⟨u37, hcut⟩ := hcut; obtain ⟨u38, hcut⟩ := hcut; obtain ⟨u39, hcut⟩ := hcut; obtain ⟨u40, hcut⟩ := hcut; obtain ⟨u41, hcut⟩ := hcut; obtain ⟨u42, hcut⟩ := hcut; obtain ⟨u43, hcut⟩ := hcut; obtain ⟨u44, hcut⟩ := hcut; obtain ⟨u45, hcut⟩ := hcut; obtain ⟨u46, hcut⟩ := hcut; obtain ⟨u47, hcut⟩ := hcut; obtain ⟨u48, hcut⟩ := hcut; obtain ⟨u49, hcut⟩ := hcut; obtain ⟨u50, hcut⟩ := hcut; obtain ⟨u51, hcut⟩ := hcut; obtain ⟨u52, hcut⟩ := hcut; obtain ⟨u53, hcut⟩ := hcut; obtain ⟨u54, hcut⟩ := hcut; obtain ⟨u55, hcut⟩ := hcut; obtain ⟨u56, hcut⟩ := hcut; obtain ⟨u57, hcut⟩ := hcut; obtain ⟨u58, hcut⟩ := hcut; obtain ⟨u59, hcut⟩ := hcut; obtain ⟨u60, hcut⟩ := hcut; obtain ⟨u61, hcut⟩ := hcut; obtain ⟨u62, hcut⟩ := hcut; obtain ⟨u63, hcut⟩ := hcut; obtain ⟨u64, hcut⟩ := hcut; obtain ⟨u65, hcut⟩ := hcut; obtain ⟨u66, hcut⟩ := hcut; obtain ⟨u67, hcut⟩ := hcut; obtain ⟨u68, hcut⟩ := hcut; obtain ⟨u69, hcut⟩ := hcut; obtain ⟨u70, hcut⟩ := hcut; obtain ⟨u71, hcut⟩ := hcut; obtain ⟨u72, hcut⟩ := hcut; obtain ⟨u73, hcut⟩ := hcut; obtain ⟨u74, hcut⟩ := hcut; obtain ⟨u75, hcut⟩ := hcut; obtain ⟨u76, hcut⟩ := hcut; obtain ⟨u77, hcut⟩ := hcut; obtain ⟨u78, hcut⟩ := hcut; obtain ⟨u79, hcut⟩ := hcut; obtain ⟨u80, hcut⟩ := hcut; obtain ⟨u81, hcut⟩ := hcut; obtain ⟨u82, hcut⟩ := hcut; obtain ⟨u83, hcut⟩ := hcut; obtain ⟨u84, hcut⟩ := hcut; obtain ⟨u85, hcut⟩ := hcut; obtain ⟨u86, hcut⟩ := hcut; obtain ⟨u87, hcut⟩ := hcut; obtain ⟨u88, hcut⟩ := hcut; obtain ⟨u89, hcut⟩ := hcut; obtain ⟨u90, hcut⟩ := hcut; obtain ⟨u91, hcut⟩ := hcut; obtain ⟨u92, hcut⟩ := hcut; obtain ⟨u93, hcut⟩ := hcut; obtain ⟨u94, hcut⟩ := hcut; obtain ⟨u95, hcut⟩ := hcut; obtain ⟨u96, hcut⟩ := hcut; obtain ⟨u97, hcut⟩ := hcut; obtain ⟨u98, hcut⟩ := hcut; obtain ⟨u99, hcut⟩ := hcut; obtain ⟨u100, hcut⟩ := hcut; obtain ⟨u101, hcut⟩ := hcut; obtain ⟨u102, hcut⟩ := hcut; obtain ⟨u103, hcut⟩ := hcut; obtain ⟨u104, hcut⟩ := hcut; obtain ⟨u105, hcut⟩ := hcut; obtain ⟨u106, hcut⟩ := hcut; obtain ⟨u107, hcut⟩ := hcut; obtain ⟨u108, hcut⟩ := hcut; obtain ⟨u109, hcut⟩ := hcut; obtain ⟨u110, hcut⟩ := hcut; obtain ⟨u111, hcut⟩ := hcut; obtain ⟨u112, hcut⟩ := hcut; obtain ⟨u113, hcut⟩ := hcut; obtain ⟨u114, hcut⟩ := hcut; obtain ⟨u115, hcut⟩ := hcut; obtain ⟨u116, hcut⟩ := hcut; obtain ⟨u117, hcut⟩ := hcut; obtain ⟨u118, hcut⟩ := hcut; obtain ⟨u119, hcut⟩ := hcut; obtain ⟨u120, hcut⟩ := hcut; obtain ⟨u121, hcut⟩ := hcut; obtain ⟨u122, hcut⟩ := hcut; obtain ⟨u123, hcut⟩ := hcut; obtain ⟨u124, hcut⟩ := hcut; obtain ⟨u125, hcut⟩ := hcut; obtain ⟨u126, hcut⟩ := hcut; obtain ⟨u127, hcut⟩ := hcut; obtain ⟨u128, hcut⟩ := hcut; obtain ⟨u129, hcut⟩ := hcut; obtain ⟨u130, hcut⟩ := hcut; obtain ⟨u131, hcut⟩ := hcut; obtain ⟨u132, hcut⟩ := hcut; obtain ⟨u133, hcut⟩ := hcut; obtain ⟨u134, hcut⟩ := hcut; obtain ⟨u135, hcut⟩ := hcut; obtain ⟨u136, hcut⟩ := hcut; obtain ⟨u137, hcut⟩ := hcut; obtain ⟨u138, hcut⟩ := hcut; obtain ⟨u139, hcut⟩ := hcut; obtain ⟨u140, hcut⟩ := hcut; obtain ⟨u141, hcut⟩ := hcut; obtain ⟨v15, hcut⟩ := hcut; obtain ⟨hcut, hac⟩ := hcut; subst hac; intro _ _ _ _)
          case atStart => exact ⟨0, ob, rfl, rfl, HOL.out, HNO.out, HLF.out, HSI.out⟩
          case round =>
            obtain ⟨k, oc, hk, rfl, hol, hno, hlo, SI⟩ := hcut
            clear HOL HNO HSI HJ HLF
            have HK := Lib.hid hk
            have HOL := Lib.hid hol
            have HNO := Lib.hid hno
            have HLO := Lib.hid hlo
            have HSI := Lib.hid SI
            have hkb : k ≤ L := by omega
            clear hk hol hno hlo SI
            by_cases hkL : k < L
            · have hkx : k < oc.length := by rw [HOL.out]; exact hkL
              obtain ⟨a, bq, rfl, rfl, ca, cb⟩ := Stand.at_ (h := (Classical.choose_spec HSI.out).1) (List.getElem?_eq_getElem hkx)
              have HTK := Lib.hid (puts_st (c := 0) (C := none) (p := []) (HSI.out.below PWq_local (Below.refl _ _).drew) HNO.out HLO.out (List.getElem?_eq_getElem hkx) 10 0 0 0 (by omega) (by omega) (by omega) (fun h => absurd rfl h) (fun x hx => by cases hx) (by simp))
              generalize (oc[k]).map (fun x : Nat × Nat × WS => (⟨x.1, 0, none⟩ : Addr)) = P1 at *
              generalize (oc[k]).map (fun x : Nat × Nat × WS => (⟨x.2.1, 0, none⟩ : Addr)) = P2 at *
              have q2 : (0 : Int) ≤ (k : Int) := by omega
              have q3 : (k : Int) < (L : Int) := by omega
              clear hkx
              go_upto_region 31 with (fail)
              refine start_ (n := 11) (S := fun w' => w'.cell? ⟨a, k, none⟩ = some (.pointer P1) ∧ w'.cell? ⟨bq, k, none⟩ = some (.pointer P2)) (ds := [9]) #[false, false, false, false, false, false, false, false, false, false, false] (by kernel_rfl) rfl rfl ⟨ca, cb⟩ (fun hHeld => ?_)
              (refine take_ (i := 0) (N := some 104) (v := ?v_25) (a' := ?a_25) #[true, false, false, false, false, false, false, false, false, false, false] rfl rfl (by kernel_rfl) (fun _ _ _ h => h) (Or.inl ⟨by rfl, ?hy_25⟩) hHeld ?ha_25 ?hh_25; (case hy_25 => (rintro w' ⟨s0_, s1_⟩; go_simp; with_reducible rfl)); (case ha_25 => (simp (disch := omega) only [Act.put, List.setIfInBounds_toArray, List.set_cons_zero, List.set_cons_succ, wrap_in]; rfl)))
              (refine take_ (i := 1) (N := some 105) (v := ?v_26) (a' := ?a_26) #[true, true, false, false, false, false, false, false, false, false, false] rfl rfl (by kernel_rfl) (fun _ _ _ h => h) (Or.inl ⟨by rfl, ?hy_26⟩) hHeld ?ha_26 ?hh_26; (case hy_26 => (rintro w' ⟨s0_, s1_⟩; go_simp; with_reducible rfl)); (case ha_26 => (simp (disch := omega) only [Act.put, List.setIfInBounds_toArray, List.set_cons_zero, List.set_cons_succ, wrap_in]; rfl)))
              (refine take_ (i := 2) (N := some 106) (v := ?v_27) (a' := ?a_27) #[true, true, true, false, false, false, false, false, false, false, false] rfl rfl (by kernel_rfl) (fun _ _ _ h => h) (Or.inl ⟨by rfl, ?hy_27⟩) hHeld ?ha_27 ?hh_27; (case hy_27 => (rintro w' ⟨s0_, s1_⟩; go_simp; with_reducible rfl)); (case ha_27 => (simp (disch := omega) only [Act.put, List.setIfInBounds_toArray, List.set_cons_zero, List.set_cons_succ, wrap_in]; rfl)))
              (refine take_ (i := 3) (N := some 107) (v := ?v_28) (a' := ?a_28) #[true, true, true, true, false, false, false, false, false, false, false] rfl rfl (by kernel_rfl) (fun _ _ _ h => h) (Or.inl ⟨by rfl, ?hy_28⟩) hHeld ?ha_28 ?hh_28; (case hy_28 => (rintro w' ⟨s0_, s1_⟩; go_simp; with_reducible rfl)); (case ha_28 => (simp (disch := omega) only [Act.put, List.setIfInBounds_toArray, List.set_cons_zero, List.set_cons_succ, wrap_in]; rfl)))
              (refine take_ (i := 4) (N := some 108) (v := ?v_29) (a' := ?a_29) #[true, true, true, true, true, false, false, false, false, false, false] rfl rfl (by kernel_rfl) (fun _ _ _ h => h) (Or.inl ⟨by rfl, ?hy_29⟩) hHeld ?ha_29 ?hh_29; (case hy_29 => (rintro w' ⟨s0_, s1_⟩; go_simp; with_reducible rfl)); (case ha_29 => (simp (disch := omega) only [Act.put, List.setIfInBounds_toArray, List.set_cons_zero, List.set_cons_succ, wrap_in]; rfl)))
              (refine take_ (i := 5) (N := some 109) (v := ?v_30) (a' := ?a_30) #[true, true, true, true, true, true, false, false, false, false, false] rfl rfl (by kernel_rfl) (fun _ _ _ h => h) (Or.inl ⟨by rfl, ?hy_30⟩) hHeld ?ha_30 ?hh_30; (case hy_30 => (rintro w' ⟨s0_, s1_⟩; go_simp; with_reducible rfl)); (case ha_30 => (simp (disch := omega) only [Act.put, List.setIfInBounds_toArray, List.set_cons_zero, List.set_cons_succ, wrap_in]; rfl)))
              (refine take_ (i := 6) (N := some 110) (v := ?v_31) (a' := ?a_31) #[true, true, true, true, true, true, true, false, false, false, false] rfl rfl (by kernel_rfl) (fun _ _ _ h => h) (Or.inl ⟨by rfl, ?hy_31⟩) hHeld ?ha_31 ?hh_31; (case hy_31 => (rintro w' ⟨s0_, s1_⟩; go_simp; with_reducible rfl)); (case ha_31 => (simp (disch := omega) only [Act.put, List.setIfInBounds_toArray, List.set_cons_zero, List.set_cons_succ, wrap_in]; rfl)))
              (refine take_ (i := 7) (N := some 111) (v := ?v_32) (a' := ?a_32) #[true, true, true, true, true, true, true, true, false, false, false] rfl rfl (by kernel_rfl) (fun _ _ _ h => h) (Or.inl ⟨by rfl, ?hy_32⟩) hHeld ?ha_32 ?hh_32; (case hy_32 => (rintro w' ⟨s0_, s1_⟩; go_simp; with_reducible rfl)); (case ha_32 => (simp (disch := omega) only [Act.put, List.setIfInBounds_toArray, List.set_cons_zero, List.set_cons_succ, wrap_in]; rfl)))
              (refine take_ (i := 8) (N := some 112) (v := ?v_33) (a' := ?a_33) #[true, true, true, true, true, true, true, true, true, false, false] rfl rfl (by kernel_rfl) (fun _ _ _ h => h) (Or.inl ⟨by rfl, ?hy_33⟩) hHeld ?ha_33 ?hh_33; (case hy_33 => (rintro w' ⟨s0_, s1_⟩; go_simp; with_reducible rfl)); (case ha_33 => (simp (disch := omega) only [Act.put, List.setIfInBounds_toArray, List.set_cons_zero, List.set_cons_succ, wrap_in]; rfl)))
              refine last_ (i := 9) (N := some 113) #[true, true, true, true, true, true, true, true, true, true, false] rfl rfl (by kernel_rfl) (by decide) (fun K hK => ?_)
              (refine goes_ Try.func37 (by kernel_rfl) rfl ?args_19 (by rfl) rfl rfl ?hargs_19 ?hc_19; (case hargs_19 => (go_simp; with_reducible rfl)))
              (refine HTK.out.mono ?_; rintro e w2 ⟨rfl, od, hl', hn', hlo', S'⟩; refine ⟨_, rfl, ?_⟩)
              (refine hK.out _ _ ?hn_21; clear hK K; try clear hHeld)
              (refine norm_ (a' := ?a_22) ?ha_22 ?hh_22; (case ha_22 => (simp (disch := omega) only [Act.put, List.setIfInBounds_toArray, List.set_cons_zero, List.set_cons_succ, wrap_in]; rfl)))
              (refine pure_ (i := 10) (N := some 16) (v := ?v_23) (a' := ?a_23) #[true, true, true, true, true, true, true, true, true, true, true] rfl rfl (by kernel_rfl) (fun _ _ _ h => h) (Or.inl ⟨by rfl, ?hy_23⟩) ?ha_23 ?hh_23; (case hy_23 => (intro w'; go_simp; with_reducible rfl)); (case ha_23 => (simp (disch := omega) only [Act.put, List.setIfInBounds_toArray, List.set_cons_zero, List.set_cons_succ, wrap_in]; rfl)))
              refine done_ (by kernel_rfl) ?_
              have HS' := Lib.hid S'
              have HL' := Lib.hid (hl'.trans HOL.out)
              have HN' := Lib.hid hn'
              have HLO' := Lib.hid hlo'
              clear S' hl' hn' hlo' HTK ca cb
              have hkx : k < od.length := by rw [HL'.out]; exact hkL
              obtain ⟨a', bq', ea, eb, ca, cb⟩ := Stand.at_ (h := (Classical.choose_spec HS'.out).1) (List.getElem?_eq_getElem hkx)
              injection ea with ea; injection ea with ea; subst ea
              injection eb with eb; injection eb with eb; subst eb
              have HTK := Lib.hid (puts_st (c := 0) (C := none) (p := []) (HS'.out.below PWq_local (Below.refl _ _).drew) HN'.out HLO'.out (List.getElem?_eq_getElem hkx) 11 0 0 0 (by omega) (by omega) (by omega) (fun h => absurd rfl h) (fun x hx => by cases hx) (by simp [growN]))
              generalize (od[k]).map (fun x : Nat × Nat × WS => (⟨x.1, 0, none⟩ : Addr)) = P3 at *
              generalize (od[k]).map (fun x : Nat × Nat × WS => (⟨x.2.1, 0, none⟩ : Addr)) = P4 at *
              clear hkx
              go_upto_region 32 with (fail)
              refine start_ (n := 11) (S := fun w' => w'.cell? ⟨a, k, none⟩ = some (.pointer P3) ∧ w'.cell? ⟨bq, k, none⟩ = some (.pointer P4)) (ds := [9]) #[false, false, false, false, false, false, false, false, false, false, false] (by kernel_rfl) rfl rfl ⟨ca, cb⟩ (fun hHeld => ?_)
              (refine take_ (i := 0) (N := some 114) (v := ?v_40) (a' := ?a_40) #[true, false, false, false, false, false, false, false, false, false, false] rfl rfl (by kernel_rfl) (fun _ _ _ h => h) (Or.inl ⟨by rfl, ?hy_40⟩) hHeld ?ha_40 ?hh_40; (case hy_40 => (rintro w' ⟨s0_, s1_⟩; go_simp; with_reducible rfl)); (case ha_40 => (simp (disch := omega) only [Act.put, List.setIfInBounds_toArray, List.set_cons_zero, List.set_cons_succ, wrap_in]; rfl)))
              (refine take_ (i := 1) (N := some 115) (v := ?v_41) (a' := ?a_41) #[true, true, false, false, false, false, false, false, false, false, false] rfl rfl (by kernel_rfl) (fun _ _ _ h => h) (Or.inl ⟨by rfl, ?hy_41⟩) hHeld ?ha_41 ?hh_41; (case hy_41 => (rintro w' ⟨s0_, s1_⟩; go_simp; with_reducible rfl)); (case ha_41 => (simp (disch := omega) only [Act.put, List.setIfInBounds_toArray, List.set_cons_zero, List.set_cons_succ, wrap_in]; rfl)))
              (refine take_ (i := 2) (N := some 116) (v := ?v_42) (a' := ?a_42) #[true, true, true, false, false, false, false, false, false, false, false] rfl rfl (by kernel_rfl) (fun _ _ _ h => h) (Or.inl ⟨by rfl, ?hy_42⟩) hHeld ?ha_42 ?hh_42; (case hy_42 => (rintro w' ⟨s0_, s1_⟩; go_simp; with_reducible rfl)); (case ha_42 => (simp (disch := omega) only [Act.put, List.setIfInBounds_toArray, List.set_cons_zero, List.set_cons_succ, wrap_in]; rfl)))
              (refine take_ (i := 3) (N := some 117) (v := ?v_43) (a' := ?a_43) #[true, true, true, true, false, false, false, false, false, false, false] rfl rfl (by kernel_rfl) (fun _ _ _ h => h) (Or.inl ⟨by rfl, ?hy_43⟩) hHeld ?ha_43 ?hh_43; (case hy_43 => (rintro w' ⟨s0_, s1_⟩; go_simp; with_reducible rfl)); (case ha_43 => (simp (disch := omega) only [Act.put, List.setIfInBounds_toArray, List.set_cons_zero, List.set_cons_succ, wrap_in]; rfl)))
              (refine take_ (i := 4) (N := some 118) (v := ?v_44) (a' := ?a_44) #[true, true, true, true, true, false, false, false, false, false, false] rfl rfl (by kernel_rfl) (fun _ _ _ h => h) (Or.inl ⟨by rfl, ?hy_44⟩) hHeld ?ha_44 ?hh_44; (case hy_44 => (rintro w' ⟨s0_, s1_⟩; go_simp; with_reducible rfl)); (case ha_44 => (simp (disch := omega) only [Act.put, List.setIfInBounds_toArray, List.set_cons_zero, List.set_cons_succ, wrap_in]; rfl)))
              (refine take_ (i := 5) (N := some 119) (v := ?v_45) (a' := ?a_45) #[true, true, true, true, true, true, false, false, false, false, false] rfl rfl (by kernel_rfl) (fun _ _ _ h => h) (Or.inl ⟨by rfl, ?hy_45⟩) hHeld ?ha_45 ?hh_45; (case hy_45 => (rintro w' ⟨s0_, s1_⟩; go_simp; with_reducible rfl)); (case ha_45 => (simp (disch := omega) only [Act.put, List.setIfInBounds_toArray, List.set_cons_zero, List.set_cons_succ, wrap_in]; rfl)))
              (refine take_ (i := 6) (N := some 120) (v := ?v_46) (a' := ?a_46) #[true, true, true, true, true, true, true, false, false, false, false] rfl rfl (by kernel_rfl) (fun _ _ _ h => h) (Or.inl ⟨by rfl, ?hy_46⟩) hHeld ?ha_46 ?hh_46; (case hy_46 => (rintro w' ⟨s0_, s1_⟩; go_simp; with_reducible rfl)); (case ha_46 => (simp (disch := omega) only [Act.put, List.setIfInBounds_toArray, List.set_cons_zero, List.set_cons_succ, wrap_in]; rfl)))
              (refine take_ (i := 7) (N := some 121) (v := ?v_47) (a' := ?a_47) #[true, true, true, true, true, true, true, true, false, false, false] rfl rfl (by kernel_rfl) (fun _ _ _ h => h) (Or.inl ⟨by rfl, ?hy_47⟩) hHeld ?ha_47 ?hh_47; (case hy_47 => (rintro w' ⟨s0_, s1_⟩; go_simp; with_reducible rfl)); (case ha_47 => (simp (disch := omega) only [Act.put, List.setIfInBounds_toArray, List.set_cons_zero, List.set_cons_succ, wrap_in]; rfl)))
              (refine take_ (i := 8) (N := some 122) (v := ?v_48) (a' := ?a_48) #[true, true, true, true, true, true, true, true, true, false, false] rfl rfl (by kernel_rfl) (fun _ _ _ h => h) (Or.inl ⟨by rfl, ?hy_48⟩) hHeld ?ha_48 ?hh_48; (case hy_48 => (rintro w' ⟨s0_, s1_⟩; go_simp; with_reducible rfl)); (case ha_48 => (simp (disch := omega) only [Act.put, List.setIfInBounds_toArray, List.set_cons_zero, List.set_cons_succ, wrap_in]; rfl)))
              refine last_ (i := 9) (N := some 123) #[true, true, true, true, true, true, true, true, true, true, false] rfl rfl (by kernel_rfl) (by decide) (fun K hK => ?_)
              (refine goes_ Try.func37 (by kernel_rfl) rfl ?args_34 (by rfl) rfl rfl ?hargs_34 ?hc_34; (case hargs_34 => (go_simp; with_reducible rfl)))
              (refine HTK.out.mono ?_; rintro e w3 ⟨rfl, oe, hl', hn', hlo', S'⟩; refine ⟨_, rfl, ?_⟩)
              (refine hK.out _ _ ?hn_36; clear hK K; try clear hHeld)
              (refine norm_ (a' := ?a_37) ?ha_37 ?hh_37; (case ha_37 => (simp (disch := omega) only [Act.put, List.setIfInBounds_toArray, List.set_cons_zero, List.set_cons_succ, wrap_in]; rfl)))
              (refine pure_ (i := 10) (N := some 17) (v := ?v_38) (a' := ?a_38) #[true, true, true, true, true, true, true, true, true, true, true] rfl rfl (by kernel_rfl) (fun _ _ _ h => h) (Or.inl ⟨by rfl, ?hy_38⟩) ?ha_38 ?hh_38; (case hy_38 => (intro w'; go_simp; with_reducible rfl)); (case ha_38 => (simp (disch := omega) only [Act.put, List.setIfInBounds_toArray, List.set_cons_zero, List.set_cons_succ, wrap_in]; rfl)))
              refine done_ (by kernel_rfl) ?_
              have HS3 := Lib.hid S'
              have HL3 := Lib.hid (hl'.trans HL'.out)
              have HN3 := Lib.hid hn'
              have HLO3 := Lib.hid (hlo'.le (show _ ≤ 1073741824 from by simp [growN]))
              clear S' hl' hn' hlo' HTK ca cb
              go_wp2_with (fail)
              go_roundg (mk - 1)
              case measure => have := HK.out; omega
              case rel => exact ⟨k + 1, oe, by have := HK.out; omega, by go_num, HL3.out, HN3.out, HLO3.out, HS3.out⟩
            · obtain ⟨a, bq, rfl, rfl, ca, cb⟩ := Stand.at_ (h := (Classical.choose_spec HSI.out).1) HNO.out
              have ca' : wk.cell? ⟨a, L - 1, none⟩ = some (.pointer none) := by
                have := HLL.out
                rw [show L - 1 = i by omega]
                exact ca
              have q2 : (0 : Int) ≤ (L : Int) - 1 := by omega
              have DN := Lib.hid (fun u : World => wDone_nil u)
              clear ca cb
              go_wp2_with (fail)
              refine (DN.out _).mono ?_
              rintro e w_ ⟨rfl, rfl⟩
              go_wp2_with (fail)
              go_ret
              exact ⟨rfl, HSI.out.back⟩
theorem writes_walk (w : World) (A0 : Option Addr) (c0 : Nat) (ls : List Int) (hc : ls.length ≤ c0) (hm : c0 ≤ maxLen) (hb : ls.length * 8 ≤ reach) (hn : A0 = none → c0 = 0) (he : i64R.elems w A0 ls) (A1 : Option Addr) (c1 : Nat) (sc : List PutT) (hc1 : sc.length ≤ c1) (hm1 : c1 ≤ maxLen) (hb1 : sc.length * 56 ≤ reach) (hn1 : A1 = none → c1 = 0) (he1 : RdPt.elems w A1 sc) :
    Calls Try.prog 7 #[.slice A0 ls.length c0, .slice A1 sc.length c1] w fun e w' => e = .returned (.bool true) ∧ Below w.heap.size w w' := writes_1 w A0 c0 ls hb he A1 c1 sc hb1 he1
namespace parcelWrites
open Go.ChangeShapes Go.WideShapes Go.ChangeAt Go.RowKit
open Go.ChangeMaps (open_string shut_string)
theorem own : ownKnob Try.prog.godebug = none := by kernel_rfl
theorem laidOut : laidOutB Try.prog = true := by kernel_rfl
set_option maxRecDepth 100000 in
theorem lifted (os : Os) (started : os.Started) (H : Type) (enc : TypeId × Value → H) :
    ReturnsInHanded {} Try.checked os 7 .any (Rows.parcelWritesSpec.pre6 enc Try.prog Try.f7 Rows.parcelWritesRow.domain false) (Rows.parcelWritesSpec.post enc Try.prog Try.f7 false true false false) := by
  refine returnsInHanded_of_change_sized (C := Try.checked) own started (by kernel_rfl) Try.func7
    (ChangeSpec.witness6 (enc := enc) (C := Try.checked) false ⟨#[], #[.slice none 0 0, .slice none 0 0], []⟩ 8 (by kernel_rfl) (by kernel_rfl) (by kernel_rfl) (by kernel_rfl)) ?_
  intro W base args ds gs before hval0 hW hcnd hsz0 _
  have hsz : (DataW.weightsEach Try.prog (Try.f7.params.toList ++ Rows.parcelWritesSpec.plain.varTypes Try.prog) (ds ++ gs)).all (· ≤ reachBytes) = true := hsz0
  have hval : ∀ (j : Nat) t v, Try.f7.params[j]? = some t → args[j]? = some v → Value.okWide Try.prog W .any base t v := hval0
  have hW' := hW
  obtain ⟨p, q, hA0, hV, rfl, hfz, hnd⟩ := hW
  have hA : DataW.TrodAll enc Try.prog W 0 (fun _ => true) true Try.f7.params.toList args.toList ds p := hA0
  rw [Try.params7] at hA hval hsz
  obtain ⟨v0, vs0, d0, ds0, p0, q0, hargs, rfl, rfl, h0, r0⟩ := trodAll_cons hA
  obtain ⟨v1, vs1, d1, ds1, p1, q1, rfl, rfl, rfl, h1, r1⟩ := trodAll_cons r0
  obtain ⟨rfl, rfl, rfl⟩ := trodAll_nil r1
  obtain rfl : args = #[v0, v1] := by cases args; simp_all
  obtain ⟨rfl, rfl⟩ := trodVars_none hV
  obtain ⟨a0, len0, cap0, rfl⟩ := okWide_slice Try.underlying58 (hval 0 58 v0 rfl rfl)
  have k0 := h0
  have lt0 : ∀ x ∈ p0, x.block < W.heap.size := by obtain ⟨m, hm⟩ := k0; exact DataW.trod_lt m _ _ _ hm
  obtain ⟨xs0, rfl, hc0, hm0, hb0, hn0, he0⟩ := opened_slice (opens_is W) h0 (weights_at hsz (j := 0) (t := 58) rfl rfl)
  obtain ⟨a1, len1, cap1, rfl⟩ := okWide_slice Try.underlying59 (hval 1 59 v1 rfl rfl)
  have k1 := h1
  have lt1 : ∀ x ∈ p1, x.block < W.heap.size := by obtain ⟨m, hm⟩ := k1; exact DataW.trod_lt m _ _ _ hm
  obtain ⟨xs1, rfl, hc1, hm1, hb1, hn1, he1⟩ := opened_slice (opens_Pts W) h1 (weights_at hsz (j := 1) (t := 59) rfl rfl)
  clear hA0 hval0 hsz0 hsz
  refine (writes_walk W a0 cap0 xs0 hc0 hm0 hb0 hn0 he0 a1 cap1 xs1 hc1 hm1 hb1 hn1 he1).mono fun e W' ⟨he, bel⟩ => ?_
  subst he
  exact ⟨_, rfl, _, _, _, [], _, [], hW', trodAll_mk1 (shut_bool Try.underlying4 _), (trodAll_cons_mk (Below.trod laidOut (by kernel_rfl) (of_decide_eq_true (by kernel_rfl)) k0 bel lt0) (trodAll_cons_mk (Below.trod laidOut (by kernel_rfl) (of_decide_eq_true (by kernel_rfl)) k1 bel lt1) trodAll_mk0)), rfl, bel.frame _, fun h => by cases h⟩
theorem over : Rows.parcelWritesRow.holds Try.pinned (OpenSpec.ofChange Rows.parcelWritesSpec) :=
  OpenClaim.holds_of_wide 7 Try.f7 rfl rfl rfl rfl rfl rfl rfl ⟨rfl, rfl, rfl, rfl, rfl⟩ rfl rfl rfl rfl rfl (by kernel_rfl) Try.func7 (by kernel_rfl)
    (of_decide_eq_true (by kernel_rfl)) (by unfold Func.isWrapper; first | (rw [if_pos (by decide +kernel)]; kernel_rfl) | (rw [if_neg (by decide +kernel)]; exact ⟨rfl, rfl⟩))
    (fun os started H enc _ => lifted os started H enc)
theorem proved : Rows.ParcelWritesSaid := over
end parcelWrites
theorem parcelWrites_holds : Rows.ParcelWritesSaid := parcelWrites.proved
end Go.Proofs.Ytibelfljlhcibaa
