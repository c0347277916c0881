/- TreePlaces: places and ranks go together. -/
import Derived.Test.YtmichnnkkpgpmaaQ4
import Derived.Test.YtmichnnkkpgpmaaQ5
namespace Go.Proofs.Ytmichnnkkpgpmaa
set_option linter.unusedVariables false
set_option linter.unusedSimpArgs false
open Go.RowKit Go.Deep Go.Proofs.YtmichnnkkpgpmaaW.PrintLast

set_option maxRecDepth 100000 in
set_option maxHeartbeats 8000000 in
theorem places_1 (w : World) (A : Option Addr) (cap : Nat) (ops : List OpV) (hl : ops.length ≤ cap) (hcap : cap ≤ maxLen) (hlr : ops.length * 32 ≤ reach) (hA : A = none → cap = 0) (he : RdOp.elems w A ops)
    (A' : Option Addr) (cap' : Nat) (ks : List Int) (hk : ks.length ≤ cap') (hcap' : cap' ≤ maxLen) (hkr : ks.length * 8 ≤ reach) (hA' : A' = none → cap' = 0) (hke : i64R.elems w A' ks) :
    Calls Try.prog 4 #[.slice A ops.length cap, .slice A' ks.length cap'] w fun e w' => e = .returned (.bool true) ∧ Below w.heap.size w w' := by
  unfold maxLen at hcap hcap'
  unfold reach at hlr hkr
  have KN := Lib.hid (known_any w)
  have HE := Lib.hid he
  have HKE := Lib.hid hke
  obtain ⟨K, hG, hK, hLL⟩ := made_good ops
  obtain ⟨l, hll⟩ : ∃ l, l = madeL ops := ⟨_, rfl⟩
  rw [← hll] at hG hLL
  have HLD := Lib.hid hll
  have HG := Lib.hid hG
  have hlp : 1 ≤ l.length := List.length_pos_iff.2 hG.ne
  obtain ⟨t, ht⟩ : ∃ t, l[l.length - 1]? = some t := ⟨_, List.getElem?_eq_getElem (by omega)⟩
  have hgt := hG.all t (List.mem_of_getElem? ht)
  have hsz := hgt.size
  have HGT := Lib.hid hgt
  have HT := Lib.hid ht
  clear he hke hll hG ht hA hA' hgt
  go_enter Try.func4, Try.ntmps4
  go_wp2_with (fail)
  refine KN.out.mono ?_
  rintro e w1 ⟨rfl, B1⟩
  have MA := made_any w1 A cap ops (by omega) (Rd.elems_below B1 HE.out)
  rw [← HLD.out] at MA
  have HMA := Lib.hid MA
  have HB1 := Lib.hid B1
  clear MA B1 KN
  go_wp2_with (fail)
  refine HMA.out.mono ?_
  rintro e w2 ⟨B, c, ps, rfl, F, B2⟩
  obtain ⟨g, p, hBe, d0, T2⟩ := F.at_ HT.out
  subst hBe
  have HB2 := Lib.hid (HB1.out.trans (B2.mono HB1.out.size))
  have HT2 := Lib.hid T2
  have q0 : (0 : Int) ≤ (l.length : Int) - 1 := by omega
  have q1 : (l.length : Int) - 1 < (l.length : Int) := by omega
  have q2 : ((l.length : Int) - 1).toNat = l.length - 1 := by omega
  have s0 : t.size < 4611686018427387904 := by omega
  clear F B2 T2 HMA
  go_wp2_with (fail)
  refine wp_loop_ghost_k (fun (m : Nat) (ac : Act) (wr : World) => ∃ u0 u2 u3 u4 u5 u8 u9 u10 u11 u12 u13 u14 u15 u16 u17 u18 u19 u20 u21 u22 u23 u24 u25 u26 u27 u28 u29 u30 u31 u32 u33 u34 u35 u36 u37 u38 u39 u40 u41 u42 u43 u44 u45 u46 u47 u48 u49 u50 u51 u52 u53 u54 u55 u56 u57 u58 u59 u60 u61 u62 u63 u64 u65 u66 u67 u68 u69 u70 u71 u72 u73 u74 u75 u76 u77 u78 u79 u80 u81 u82 u83 u84 u85 u86 u87 u88 u89 u90 u91 u92 u93 u94 u95 u96 u97 u98 u99 u100 u101 u102 u103 u104 u105 u106 u107 u108 u109 u110 u111 u112 u113 u114 u115 u116 u117 u118 u119 u120 u121 u122 u123 u124 u125 u126 u127 u128 u129 u130 u131 u132 u133 u134 u135 u136 u137 u138 u139 u140 u141 u142 u143 u144 u145 u146 u147 u148 u149 u150 u151 u152 u153 u154 u155 u156 u157 u158 u159 u160 u161 u162 u163 u164 u165 u166 v7 : Value, (∃ i : Nat, m + i = t.size ∧ v7 = .int .i64 i ∧ Ti.TreeAt wr p t ∧ Below w.heap.size w wr) ∧ ac = ({ tmps := #[u0, .slice A' ks.length cap', u2, u3, u4, u5, .pointer p, v7, u8, u9, u10, u11, u12, u13, u14, u15, u16, u17, u18, u19, u20, u21, u22, u23, u24, u25, u26, u27, u28, u29, u30, u31, u32, u33, u34, u35, u36, u37, u38, u39, u40, u41, u42, u43, u44, u45, u46, u47, u48, u49, u50, u51, u52, u53, u54, u55, u56, u57, u58, u59, u60, u61, u62, u63, u64, u65, u66, u67, u68, u69, u70, u71, u72, u73, u74, u75, u76, u77, u78, u79, u80, u81, u82, u83, u84, u85, u86, u87, u88, u89, u90, u91, u92, u93, u94, u95, u96, u97, u98, u99, u100, u101, u102, u103, u104, u105, u106, u107, u108, u109, u110, u111, u112, u113, u114, u115, u116, u117, u118, u119, u120, u121, u122, u123, u124, u125, u126, u127, u128, u129, u130, u131, u132, u133, u134, u135, u136, u137, u138, u139, u140, u141, u142, u143, u144, u145, u146, u147, u148, u149, u150, u151, u152, u153, u154, u155, u156, u157, u158, u159, u160, u161, u162, u163, u164, u165, u166], defers := [] } : Act)) (t.size) ?atStart ?round
  case' atStart => ((repeat apply Exists.intro); refine ⟨?_, rfl⟩)
  case' round => (intro m ac wr hcut; obtain ⟨u0, hcut⟩ := hcut; obtain ⟨u2, hcut⟩ := hcut; obtain ⟨u3, hcut⟩ := hcut; obtain ⟨u4, hcut⟩ := hcut; obtain ⟨u5, hcut⟩ := hcut; obtain ⟨u8, hcut⟩ := hcut; obtain ⟨u9, hcut⟩ := hcut; obtain ⟨u10, hcut⟩ := hcut; obtain ⟨u11, hcut⟩ := hcut; obtain ⟨u12, hcut⟩ := hcut; obtain ⟨u13, hcut⟩ := hcut; obtain ⟨u14, hcut⟩ := hcut; obtain ⟨u15, hcut⟩ := hcut; obtain ⟨u16, hcut⟩ := hcut; obtain ⟨u17, hcut⟩ := hcut; obtain ⟨u18, hcut⟩ := hcut; obtain ⟨u19, hcut⟩ := hcut; obtain ⟨u20, hcut⟩ := hcut; obtain ⟨u21, hcut⟩ := hcut; obtain ⟨u22, hcut⟩ := hcut; obtain ⟨u23, hcut⟩ := hcut; obtain ⟨u24, hcut⟩ := hcut; obtain ⟨u25, hcut⟩ := hcut; obtain ⟨u26, hcut⟩ := hcut; obtain ⟨u27, hcut⟩ := hcut; obtain ⟨u28, hcut⟩ := hcut; obtain ⟨u29, hcut⟩ := hcut; obtain ⟨u30, hcut⟩ := hcut; obtain ⟨u31, hcut⟩ := hcut; obtain ⟨u32, hcut⟩ := hcut; obtain ⟨u33, hcut⟩ := hcut; obtain ⟨u34, hcut⟩ := hcut; obtain ⟨u35, hcut⟩ := hcut; obtain ⟨u36, hcut⟩ := hcut; obtain ⟨u37, hcut⟩ := hcut; obtain ⟨u38, hcut⟩ := hcut; obtain ⟨u39, hcut⟩ := hcut; obtain ⟨u40, hcut⟩ := hcut; obtain ⟨u41, hcut⟩ := hcut; obtain ⟨u42, hcut⟩ := hcut; obtain ⟨u43, hcut⟩ := hcut; obtain ⟨u44, hcut⟩ := hcut; obtain ⟨u45, hcut⟩ := hcut; obtain ⟨u46, hcut⟩ := hcut; obtain ⟨u47, hcut⟩ := hcut; obtain ⟨u48, hcut⟩ := hcut; obtain ⟨u49, hcut⟩ := hcut; obtain ⟨u50, hcut⟩ := hcut; obtain ⟨u51, hcut⟩ := hcut; obtain ⟨u52, hcut⟩ := hcut; obtain ⟨u53, hcut⟩ := hcut; obtain ⟨u54, hcut⟩ := hcut; obtain ⟨u55, hcut⟩ := hcut; obtain ⟨u56, hcut⟩ := hcut; obtain ⟨u57, hcut⟩ := hcut; obtain ⟨u58, hcut⟩ := hcut; obtain ⟨u59, hcut⟩ := hcut; obtain ⟨u60, hcut⟩ := hcut; obtain ⟨u61, hcut⟩ := hcut; obtain ⟨u62, hcut⟩ := hcut; obtain ⟨u63, hcut⟩ := hcut; obtain ⟨u64, hcut⟩ := hcut; obtain ⟨u65, hcut⟩ := hcut; obtain ⟨u66, hcut⟩ := hcut; obtain ⟨u67, hcut⟩ := hcut; obtain ⟨u68, hcut⟩ := hcut; obtain ⟨u69, hcut⟩ := hcut; obtain ⟨u70, hcut⟩ := hcut; obtain ⟨u71, hcut⟩ := hcut; obtain ⟨u72, hcut⟩ := hcut; obtain ⟨u73, hcut⟩ := hcut; obtain ⟨u74, hcut⟩ := hcut; obtain ⟨u75, hcut⟩ := hcut; obtain ⟨u76, hcut⟩ := hcut; obtain ⟨u77, hcut⟩ := hcut; obtain ⟨u78, hcut⟩ := hcut; obtain ⟨u79, hcut⟩ := hcut; obtain ⟨u80, hcut⟩ := hcut; obtain ⟨u81, hcut⟩ := hcut; obtain ⟨u82, hcut⟩ := hcut; obtain ⟨u83, hcut⟩ := hcut; obtain ⟨u84, hcut⟩ := hcut; obtain ⟨u85, hcut⟩ := hcut; obtain ⟨u86, hcut⟩ := hcut; obtain ⟨u87, hcut⟩ := hcut; obtain ⟨u88, hcut⟩ := hcut; obtain ⟨u89, hcut⟩ := hcut; obtain ⟨u90, hcut⟩ := hcut; obtain ⟨u91, hcut⟩ := hcut; obtain ⟨u92, hcut⟩ := hcut; obtain ⟨u93, hcut⟩ := hcut; obtain ⟨u94, hcut⟩ := hcut; obtain ⟨u95, hcut⟩ := hcut; obtain ⟨u96, hcut⟩ := hcut; obtain ⟨u97, hcut⟩ := hcut; obtain ⟨u98, hcut⟩ := hcut; obtain ⟨u99, hcut⟩ := hcut; obtain ⟨u100, hcut⟩ := hcut; obtain ⟨u101, hcut⟩ := hcut; obtain ⟨u102, hcut⟩ := hcut; obtain ⟨u103, hcut⟩ := hcut; obtain ⟨u104, hcut⟩ := hcut; obtain ⟨u105, hcut⟩ := hcut; obtain ⟨u106, hcut⟩ := hcut; obtain ⟨u107, hcut⟩ := hcut; obtain ⟨u108, hcut⟩ := hcut; obtain ⟨u109, hcut⟩ := hcut; obtain ⟨u110, hcut⟩ := hcut; obtain ⟨u111, hcut⟩ := hcut; obtain ⟨u112, hcut⟩ := hcut; obtain ⟨u113, hcut⟩ := hcut; obtain ⟨u114, hcut⟩ := hcut; obtain ⟨u115, hcut⟩ := hcut; obtain ⟨u116, hcut⟩ := hcut; obtain ⟨u117, hcut⟩ := hcut; obtain ⟨u118, hcut⟩ := hcut; obtain ⟨u119, hcut⟩ := hcut; obtain ⟨u120, hcut⟩ := hcut; obtain ⟨u121, hcut⟩ := hcut; obtain ⟨u122, hcut⟩ := hcut; obtain ⟨u123, hcut⟩ := hcut; obtain ⟨u124, hcut⟩ := hcut; obtain ⟨u125, hcut⟩ := hcut; obtain ⟨u126, hcut⟩ := hcut; obtain ⟨u127, hcut⟩ := hcut; obtain ⟨u128, hcut⟩ := hcut; obtain ⟨u129, hcut⟩ := hcut; obtain ⟨u130, hcut⟩ := hcut; obtain ⟨u131, hcut⟩ := hcut; obtain ⟨u132, hcut⟩ := hcut; obtain ⟨u133, hcut⟩ := hcut; obtain ⟨u134, hcut⟩ := hcut; obtain ⟨u135, hcut⟩ := hcut; obtain ⟨u136, hcut⟩ := hcut; obtain ⟨u137, hcut⟩ := hcut; obtain ⟨u138, hcut⟩ := hcut; obtain ⟨u139, hcut⟩ := hcut; obtain ⟨u140, hcut⟩ := hcut; obtain ⟨u141, hcut⟩ := hcut; obtain ⟨u142, hcut⟩ := hcut; obtain ⟨u143, hcut⟩ := hcut; obtain ⟨u144, hcut⟩ := hcut; obtain ⟨u145, hcut⟩ := hcut; obtain ⟨u146, hcut⟩ := hcut; obtain ⟨u147, hcut⟩ := hcut; obtain ⟨u148, hcut⟩ := hcut; obtain ⟨u149, hcut⟩ := hcut; obtain ⟨u150, hcut⟩ := hcut; obtain ⟨u151, hcut⟩ := hcut; obtain ⟨u152, hcut⟩ := hcut; obtain ⟨u153, hcut⟩ := hcut; obtain ⟨u154, hcut⟩ := hcut; obtain ⟨u155, hcut⟩ := hcut; obtain ⟨u156, hcut⟩ := hcut; obtain ⟨u157, hcut⟩ := hcut; obtain ⟨u158, hcut⟩ := hcut; obtain ⟨u159, hcut⟩ := hcut; obtain ⟨u160, hcut⟩ := hcut; obtain ⟨u161, hcut⟩ := hcut; obtain ⟨u162, hcut⟩ := hcut; obtain ⟨u163, hcut⟩ := hcut; obtain ⟨u164, hcut⟩ := hcut; obtain ⟨u165, hcut⟩ := hcut; obtain ⟨u166, hcut⟩ := hcut; obtain ⟨v7, hcut⟩ := hcut; obtain ⟨hcut, hac⟩ := hcut; subst hac; intro _ _ _ _)
  case atStart => exact ⟨0, rfl, rfl, HT2.out, HB2.out⟩
  case round =>
    obtain ⟨i, hm, rfl, hT, hB⟩ := hcut
    have HM := Lib.hid hm
    have HT := Lib.hid hT
    have HB := Lib.hid hB
    have hile : i ≤ t.size := by omega
    have LN := Ti.len_any hT
    obtain ⟨ts, hts⟩ : ∃ ts, ts = t.size := ⟨_, rfl⟩
    rw [← hts] at LN s0 hile
    have HLN := Lib.hid LN
    have HTS := Lib.hid hts
    clear hm hT hB LN hts
    by_cases hlt : i < ts
    · have hi : i < t.toList.length := by rw [T.length_toList, ← HTS.out]; exact hlt
      obtain ⟨⟨k, v⟩, hkv⟩ : ∃ e, t.toList[i]? = some e := ⟨_, List.getElem?_eq_getElem hi⟩
      obtain ⟨r1, r2⟩ := rank_at HGT.out.rises hkv
      have AT := Ti.at_any (i : Int) HT.out (by rw [← HTS.out]; exact s0) (by omega) (by omega)
      rw [T.at_list, if_pos (by omega), Int.toNat_natCast, hkv] at AT
      have HAT := Lib.hid AT
      have HR1 := Lib.hid r1
      have HR2 := Lib.hid r2
      have z1 : decide (i < ts) = true := by simp; omega
      clear AT r1 r2 hkv hi
      go_wp2_with (fail)
      refine HLN.out.mono ?_
      rintro e w_ ⟨rfl, rfl⟩
      go_wp2_with (fail)
      refine HAT.out.mono ?_
      rintro e w3 ⟨he, B3⟩
      change e = .returned (.tuple #[.int .i64 k, .int .i64 v, .bool true]) at he
      subst he
      have HT3 := Lib.hid (HT.out.below B3)
      have HB3 := Lib.hid (HB.out.trans (B3.mono HB.out.size))
      have GG := Ti.get_any k HT3.out
      rw [T.get_look swoZ k t HGT.out.rises, HR2.out] at GG
      have RK := Ti.rank_any k HT3.out (by rw [← HTS.out]; exact s0)
      rw [T.rank_und swoZ k t HGT.out.rises, HR1.out] at RK
      have HGG := Lib.hid GG
      have HRK := Lib.hid RK
      clear B3 GG RK
      go_wp2_with (fail)
      refine HGG.out.mono ?_
      rintro e w_ ⟨he, rfl⟩
      change e = .returned (.tuple #[.int .i64 v, .bool true]) at he
      subst he
      go_wp2_with (fail)
      refine HRK.out.mono ?_
      rintro e w_ ⟨rfl, rfl⟩
      go_wp2_with (fail)
      go_roundg (m - 1)
      case measure => have := HM.out; have := HTS.out; omega
      case rel => exact ⟨i + 1, by have := HM.out; have := HTS.out; omega, by go_num, HT3.out, HB3.out⟩
    · have z1 : decide (i < ts) = false := by simp; omega
      go_wp2_with (fail)
      refine HLN.out.mono ?_
      rintro e w_ ⟨rfl, rfl⟩
      go_wp2_with (fail)
      refine wp_loop_ghost_k (fun (m2 : Nat) (ac : Act) (wq : World) => ∃ u0 u2 u3 u4 u5 u7 u8 u9 u10 u11 u12 u14 u15 u16 u17 u18 u19 u20 u21 u22 u23 u24 u25 u26 u27 u28 u29 u30 u31 u32 u33 u34 u35 u36 u37 u38 u39 u40 u41 u42 u43 u44 u45 u46 u47 u48 u49 u50 u51 u52 u53 u54 u55 u56 u57 u58 u59 u60 u61 u62 u63 u64 u65 u66 u67 u68 u69 u70 u71 u72 u73 u74 u75 u76 u77 u78 u79 u80 u81 u82 u83 u84 u85 u86 u87 u88 u89 u90 u91 u92 u93 u94 u95 u96 u97 u98 u99 u100 u101 u102 u103 u104 u105 u106 u107 u108 u109 u110 u111 u112 u113 u114 u115 u116 u117 u118 u119 u120 u121 u122 u123 u124 u125 u126 u127 u128 u129 u130 u131 u132 u133 u134 u135 u136 u137 u138 u139 u140 u141 u142 u143 u144 u145 u146 u147 u148 u149 u150 u151 u152 u153 u154 u155 u156 u157 u158 u159 u160 u161 u162 u163 u164 u165 u166 v13 : Value, (∃ j : Nat, m2 + j = ks.length ∧ v13 = .int .i64 j ∧ Ti.TreeAt wq p t ∧ Below w.heap.size w wq) ∧ ac = ({ tmps := #[u0, .slice A' ks.length cap', u2, u3, u4, u5, .pointer p, u7, u8, u9, u10, u11, u12, v13, u14, u15, u16, u17, u18, u19, u20, u21, u22, u23, u24, u25, u26, u27, u28, u29, u30, u31, u32, u33, u34, u35, u36, u37, u38, u39, u40, u41, u42, u43, u44, u45, u46, u47, u48, u49, u50, u51, u52, u53, u54, u55, u56, u57, u58, u59, u60, u61, u62, u63, u64, u65, u66, u67, u68, u69, u70, u71, u72, u73, u74, u75, u76, u77, u78, u79, u80, u81, u82, u83, u84, u85, u86, u87, u88, u89, u90, u91, u92, u93, u94, u95, u96, u97, u98, u99, u100, u101, u102, u103, u104, u105, u106, u107, u108, u109, u110, u111, u112, u113, u114, u115, u116, u117, u118, u119, u120, u121, u122, u123, u124, u125, u126, u127, u128, u129, u130, u131, u132, u133, u134, u135, u136, u137, u138, u139, u140, u141, u142, u143, u144, u145, u146, u147, u148, u149, u150, u151, u152, u153, u154, u155, u156, u157, u158, u159, u160, u161, u162, u163, u164, u165, u166], defers := [] } : Act)) (ks.length) ?atStart ?round
      case' atStart => ((repeat apply Exists.intro); refine ⟨?_, rfl⟩)
      case' round => (intro m2 ac wq hcut; obtain ⟨u0, hcut⟩ := hcut; obtain ⟨u2, hcut⟩ := hcut; obtain ⟨u3, hcut⟩ := hcut; obtain ⟨u4, hcut⟩ := hcut; obtain ⟨u5, hcut⟩ := hcut; obtain ⟨u7, hcut⟩ := hcut; obtain ⟨u8, hcut⟩ := hcut; obtain ⟨u9, hcut⟩ := hcut; obtain ⟨u10, hcut⟩ := hcut; obtain ⟨u11, hcut⟩ := hcut; obtain ⟨u12, hcut⟩ := hcut; obtain ⟨u14, hcut⟩ := hcut; obtain ⟨u15, hcut⟩ := hcut; obtain ⟨u16, hcut⟩ := hcut; obtain ⟨u17, hcut⟩ := hcut; obtain ⟨u18, hcut⟩ := hcut; obtain ⟨u19, hcut⟩ := hcut; obtain ⟨u20, hcut⟩ := hcut; obtain ⟨u21, hcut⟩ := hcut; obtain ⟨u22, hcut⟩ := hcut; obtain ⟨u23, hcut⟩ := hcut; obtain ⟨u24, hcut⟩ := hcut; obtain ⟨u25, hcut⟩ := hcut; obtain ⟨u26, hcut⟩ := hcut; obtain ⟨u27, hcut⟩ := hcut; obtain ⟨u28, hcut⟩ := hcut; obtain ⟨u29, hcut⟩ := hcut; obtain ⟨u30, hcut⟩ := hcut; obtain ⟨u31, hcut⟩ := hcut; obtain ⟨u32, hcut⟩ := hcut; obtain ⟨u33, hcut⟩ := hcut; obtain ⟨u34, hcut⟩ := hcut; obtain ⟨u35, hcut⟩ := hcut; obtain ⟨u36, hcut⟩ := hcut; obtain ⟨u37, hcut⟩ := hcut; obtain ⟨u38, hcut⟩ := hcut; obtain ⟨u39, hcut⟩ := hcut; obtain ⟨u40, hcut⟩ := hcut; obtain ⟨u41, hcut⟩ := hcut; obtain ⟨u42, hcut⟩ := hcut; obtain ⟨u43, hcut⟩ := hcut; obtain ⟨u44, hcut⟩ := hcut; obtain ⟨u45, hcut⟩ := hcut; obtain ⟨u46, hcut⟩ := hcut; obtain ⟨u47, hcut⟩ := hcut; obtain ⟨u48, hcut⟩ := hcut; obtain ⟨u49, hcut⟩ := hcut; obtain ⟨u50, hcut⟩ := hcut; obtain ⟨u51, hcut⟩ := hcut; obtain ⟨u52, hcut⟩ := hcut; obtain ⟨u53, hcut⟩ := hcut; obtain ⟨u54, hcut⟩ := hcut; obtain ⟨u55, hcut⟩ := hcut; obtain ⟨u56, hcut⟩ := hcut; obtain ⟨u57, hcut⟩ := hcut; obtain ⟨u58, hcut⟩ := hcut; obtain ⟨u59, hcut⟩ := hcut; obtain ⟨u60, hcut⟩ := hcut; obtain ⟨u61, hcut⟩ := hcut; obtain ⟨u62, hcut⟩ := hcut; obtain ⟨u63, hcut⟩ := hcut; obtain ⟨u64, hcut⟩ := hcut; obtain ⟨u65, hcut⟩ := hcut; obtain ⟨u66, hcut⟩ := hcut; obtain ⟨u67, hcut⟩ := hcut; obtain ⟨u68, hcut⟩ := hcut; obtain ⟨u69, hcut⟩ := hcut; obtain ⟨u70, hcut⟩ := hcut; obtain ⟨u71, hcut⟩ := hcut; obtain ⟨u72, hcut⟩ := hcut; obtain ⟨u73, hcut⟩ := hcut; obtain ⟨u74, hcut⟩ := hcut; obtain ⟨u75, hcut⟩ := hcut; obtain ⟨u76, hcut⟩ := hcut; obtain ⟨u77, hcut⟩ := hcut; obtain ⟨u78, hcut⟩ := hcut; obtain ⟨u79, hcut⟩ := hcut; obtain ⟨u80, hcut⟩ := hcut; obtain ⟨u81, hcut⟩ := hcut; obtain ⟨u82, hcut⟩ := hcut; obtain ⟨u83, hcut⟩ := hcut; obtain ⟨u84, hcut⟩ := hcut; obtain ⟨u85, hcut⟩ := hcut; obtain ⟨u86, hcut⟩ := hcut; obtain ⟨u87, hcut⟩ := hcut; obtain ⟨u88, hcut⟩ := hcut; obtain ⟨u89, hcut⟩ := hcut; obtain ⟨u90, hcut⟩ := hcut; obtain ⟨u91, hcut⟩ := hcut; obtain ⟨u92, hcut⟩ := hcut; obtain ⟨u93, hcut⟩ := hcut; obtain ⟨u94, hcut⟩ := hcut; obtain ⟨u95, hcut⟩ := hcut; obtain ⟨u96, hcut⟩ := hcut; obtain ⟨u97, hcut⟩ := hcut; obtain ⟨u98, hcut⟩ := hcut; obtain ⟨u99, hcut⟩ := hcut; obtain ⟨u100, hcut⟩ := hcut; obtain ⟨u101, hcut⟩ := hcut; obtain ⟨u102, hcut⟩ := hcut; obtain ⟨u103, hcut⟩ := hcut; obtain ⟨u104, hcut⟩ := hcut; obtain ⟨u105, hcut⟩ := hcut; obtain ⟨u106, hcut⟩ := hcut; obtain ⟨u107, hcut⟩ := hcut; obtain ⟨u108, hcut⟩ := hcut; obtain ⟨u109, hcut⟩ := hcut; obtain ⟨u110, hcut⟩ := hcut; obtain ⟨u111, hcut⟩ := hcut; obtain ⟨u112, hcut⟩ := hcut; obtain ⟨u113, hcut⟩ := hcut; obtain ⟨u114, hcut⟩ := hcut; obtain ⟨u115, hcut⟩ := hcut; obtain ⟨u116, hcut⟩ := hcut; obtain ⟨u117, hcut⟩ := hcut; obtain ⟨u118, hcut⟩ := hcut; obtain ⟨u119, hcut⟩ := hcut; obtain ⟨u120, hcut⟩ := hcut; obtain ⟨u121, hcut⟩ := hcut; obtain ⟨u122, hcut⟩ := hcut; obtain ⟨u123, hcut⟩ := hcut; obtain ⟨u124, hcut⟩ := hcut; obtain ⟨u125, hcut⟩ := hcut; obtain ⟨u126, hcut⟩ := hcut; obtain ⟨u127, hcut⟩ := hcut; obtain ⟨u128, hcut⟩ := hcut; obtain ⟨u129, hcut⟩ := hcut; obtain ⟨u130, hcut⟩ := hcut; obtain ⟨u131, hcut⟩ := hcut; obtain ⟨u132, hcut⟩ := hcut; obtain ⟨u133, hcut⟩ := hcut; obtain ⟨u134, hcut⟩ := hcut; obtain ⟨u135, hcut⟩ := hcut; obtain ⟨u136, hcut⟩ := hcut; obtain ⟨u137, hcut⟩ := hcut; obtain ⟨u138, hcut⟩ := hcut; obtain ⟨u139, hcut⟩ := hcut; obtain ⟨u140, hcut⟩ := hcut; obtain ⟨u141, hcut⟩ := hcut; obtain ⟨u142, hcut⟩ := hcut; obtain ⟨u143, hcut⟩ := hcut; obtain ⟨u144, hcut⟩ := hcut; obtain ⟨u145, hcut⟩ := hcut; obtain ⟨u146, hcut⟩ := hcut; obtain ⟨u147, hcut⟩ := hcut; obtain ⟨u148, hcut⟩ := hcut; obtain ⟨u149, hcut⟩ := hcut; obtain ⟨u150, hcut⟩ := hcut; obtain ⟨u151, hcut⟩ := hcut; obtain ⟨u152, hcut⟩ := hcut; obtain ⟨u153, hcut⟩ := hcut; obtain ⟨u154, hcut⟩ := hcut; obtain ⟨u155, hcut⟩ := hcut; obtain ⟨u156, hcut⟩ := hcut; obtain ⟨u157, hcut⟩ := hcut; obtain ⟨u158, hcut⟩ := hcut; obtain ⟨u159, hcut⟩ := hcut; obtain ⟨u160, hcut⟩ := hcut; obtain ⟨u161, hcut⟩ := hcut; obtain ⟨u162, hcut⟩ := hcut; obtain ⟨u163, hcut⟩ := hcut; obtain ⟨u164, hcut⟩ := hcut; obtain ⟨u165, hcut⟩ := hcut; obtain ⟨u166, hcut⟩ := hcut; obtain ⟨v13, hcut⟩ := hcut; obtain ⟨hcut, hac⟩ := hcut; subst hac; intro _ _ _ _)
      case atStart => exact ⟨0, rfl, rfl, HT.out, HB.out⟩
      case round =>
        obtain ⟨j, hm2, rfl, hT2, hB2⟩ := hcut
        have HM2 := Lib.hid hm2
        have HT2 := Lib.hid hT2
        have HB2 := Lib.hid hB2
        have hjle : j ≤ ks.length := by omega
        clear hm2 hT2 hB2 HT HB HLN hlt z1
        by_cases hj : j < ks.length
        · obtain ⟨key, hkey⟩ : ∃ x, ks[j]? = some x := ⟨_, List.getElem?_eq_getElem hj⟩
          obtain ⟨kb, ko, rfl, kc0, hkw⟩ := int_at HKE.out hkey
          have kc := cell_below HB2.out kc0
          obtain ⟨n, hn⟩ : ∃ n, n = (T.und ltZ key t.toList).length := ⟨_, rfl⟩
          have RK := Ti.rank_any key HT2.out (by rw [← HTS.out]; exact s0)
          rw [T.rank_und swoZ key t HGT.out.rises, ← hn] at RK
          have hnl : n ≤ ts := by
            rw [hn, HTS.out, ← T.length_toList]; exact List.length_filter_le _ _
          have AT := Ti.at_any (n : Int) HT2.out (by rw [← HTS.out]; exact s0) (by omega) (by omega)
          rw [T.at_list, if_pos (by omega), Int.toNat_natCast, hn, at_rank HGT.out.rises, ← hn] at AT
          have hlk := look_head HGT.out.rises key
          have hat := at_rank HGT.out.rises (key := key)
          rw [← hn] at hat
          have SK : ∀ w', Below wq.heap.size wq w' → Calls Try.prog 20 #[.pointer p, .int .i64 key] w' fun e w2 => Ti.AtP (T.from_ ltZ key t.toList).head? e ∧ Below w'.heap.size w' w2 := fun w' hb => by
            have := Ti.seek_any key (HT2.out.below hb)
            rw [T.fromL_law swoZ key t HGT.out.rises] at this; exact this
          have GT : ∀ w', Below wq.heap.size wq w' → Calls Try.prog 18 #[.pointer p, .int .i64 key] w' fun e w2 => Ti.GotP (T.look ltZ key t.toList) e ∧ w' = w2 := fun w' hb => by
            have := Ti.get_any key (HT2.out.below hb)
            rw [T.get_look swoZ key t HGT.out.rises] at this; exact this
          rw [hlk] at GT
          have LN : ∀ w', Below wq.heap.size wq w' → Calls Try.prog 16 #[.pointer p] w' fun e w2 => e = .returned (.int .i64 (ts : Int)) ∧ w' = w2 := fun w' hb => by
            rw [HTS.out]; exact Ti.len_any (HT2.out.below hb)
          have LA : ∀ k, n = k + 1 → ∀ w', Below wq.heap.size wq w' → ∃ x y, x < key ∧ Calls Try.prog 17 #[.pointer p, .int .i64 ((n : Int) - 1)] w' fun e w2 => Ti.AtP (some (x, y)) e ∧ Below w'.heap.size w' w2 := fun k hnk w' hb => by
            obtain ⟨e, h1, h2⟩ := und_last HGT.out.rises (key := key) (n := k) (by rw [← hn]; exact hnk)
            refine ⟨e.1, e.2, h2, ?_⟩
            have := Ti.at_any ((n : Int) - 1) (HT2.out.below hb) (by rw [← HTS.out]; exact s0) (by omega) (by omega)
            rw [T.at_list, if_pos (by omega), show ((n : Int) - 1).toNat = k by omega, h1] at this
            exact this
          have hge := fun e => from_ge (L := t.toList) (key := key) (e := e)
          have hlen : t.toList.length = ts := by rw [T.length_toList, HTS.out]
          have HRK := Lib.hid RK
          have HATT := Lib.hid AT
          have HSK := Lib.hid SK
          have HGTT := Lib.hid GT
          have HLN := Lib.hid LN
          have HLA := Lib.hid LA
          have HNN := Lib.hid hn
          have z1 : decide (j < ks.length) = true := by simp; omega
          clear RK AT SK GT LN LA hn hlk kc0 hkey hkw
          cases hd : (T.from_ ltZ key t.toList).head? with
          | none =>
            rw [hd] at HATT HSK HGTT hat
            have hnn : ts ≤ n := by rw [← hlen]; exact List.getElem?_eq_none_iff.1 hat
            have t1 : decide (n < ts) = false := by simp; omega
            clear hat hge hd
            go_wp2_with (fail)
            refine HRK.out.mono ?_
            rintro e w_ ⟨rfl, rfl⟩
            go_wp2_with (fail)
            refine HATT.out.mono ?_
            rintro e w3 ⟨he, B3⟩
            change e = .returned (.tuple #[.int .i64 0, .int .i64 0, .bool false]) at he
            subst he
            have HS3 := Lib.hid (HSK.out w3 B3)
            have HB3 := Lib.hid B3
            clear B3
            go_wp2_with (fail)
            refine HS3.out.mono ?_
            rintro e w4 ⟨he, B4⟩
            change e = .returned (.tuple #[.int .i64 0, .int .i64 0, .bool false]) at he
            subst he
            have BZ := Lib.hid (HB3.out.trans (B4.mono HB3.out.size))
            have HG4 := Lib.hid (HGTT.out w4 BZ.out)
            have HL4 := Lib.hid (HLN.out w4 BZ.out)
            clear B4 HS3
            go_wp2_with (fail)
            refine HG4.out.mono ?_
            rintro e w_ ⟨he, rfl⟩
            change e = .returned (.tuple #[.int .i64 0, .bool false]) at he
            subst he
            go_wp2_with (fail)
            refine HL4.out.mono ?_
            rintro e w_ ⟨rfl, rfl⟩
            rcases Nat.eq_zero_or_pos n with hn0 | hn0
            · have t9 : decide (0 < (n : Int)) = false := by simp; omega
              go_wp2_with (fail)
              go_roundg (m2 - 1)
              case measure => have := HM2.out; omega
              case rel => exact ⟨j + 1, by have := HM2.out; omega, by go_num, HT2.out.below BZ.out, HB2.out.trans (BZ.out.mono HB2.out.size)⟩
            · have t9 : decide (0 < (n : Int)) = true := by simp; omega
              obtain ⟨x, y, hxy, LAC⟩ := HLA.out (n - 1) (by omega) _ BZ.out
              have HLAC := Lib.hid LAC
              have t10 : decide (key ≤ x) = false := by simp; omega
              clear LAC
              go_wp2_with (fail)
              refine HLAC.out.mono ?_
              rintro e w9 ⟨he, B9⟩
              change e = .returned (.tuple #[.int .i64 x, .int .i64 y, .bool true]) at he
              subst he
              have BY := Lib.hid (BZ.out.trans (B9.mono BZ.out.size))
              clear B9
              go_wp2_with (fail)
              go_roundg (m2 - 1)
              case measure => have := HM2.out; omega
              case rel => exact ⟨j + 1, by have := HM2.out; omega, by go_num, HT2.out.below BY.out, HB2.out.trans (BY.out.mono HB2.out.size)⟩
          | some e =>
            obtain ⟨k', v'⟩ := e
            rw [hd] at HATT HSK HGTT hat
            have hk' := hge _ hd
            simp only at hk'
            have hnn : n < ts := by rw [← hlen]; exact (List.getElem?_eq_some_iff.1 hat).1
            have t1 : decide (n < ts) = true := by simp; omega
            have t2 : decide (k' < key) = false := by simp; omega
            by_cases hkk : k' = key
            · obtain rfl : key = k' := hkk.symm
              simp only [if_true] at HGTT
              clear hat hge hd hk'
              go_wp2_with (fail)
              refine HRK.out.mono ?_
              rintro e w_ ⟨rfl, rfl⟩
              go_wp2_with (fail)
              refine HATT.out.mono ?_
              rintro e w3 ⟨he, B3⟩
              change e = .returned (.tuple #[.int .i64 key, .int .i64 v', .bool true]) at he
              subst he
              have HS3 := Lib.hid (HSK.out w3 B3)
              have HB3 := Lib.hid B3
              clear B3
              go_wp2_with (fail)
              refine HS3.out.mono ?_
              rintro e w4 ⟨he, B4⟩
              change e = .returned (.tuple #[.int .i64 key, .int .i64 v', .bool true]) at he
              subst he
              have BZ := Lib.hid (HB3.out.trans (B4.mono HB3.out.size))
              have HG4 := Lib.hid (HGTT.out w4 BZ.out)
              have HL4 := Lib.hid (HLN.out w4 BZ.out)
              clear B4 HS3
              go_wp2_with (fail)
              refine HG4.out.mono ?_
              rintro e w_ ⟨he, rfl⟩
              change e = .returned (.tuple #[.int .i64 v', .bool true]) at he
              subst he
              go_wp2_with (fail)
              refine HL4.out.mono ?_
              rintro e w_ ⟨rfl, rfl⟩
              rcases Nat.eq_zero_or_pos n with hn0 | hn0
              · have t9 : decide (0 < (n : Int)) = false := by simp; omega
                go_wp2_with (fail)
                go_roundg (m2 - 1)
                case measure => have := HM2.out; omega
                case rel => exact ⟨j + 1, by have := HM2.out; omega, by go_num, HT2.out.below BZ.out, HB2.out.trans (BZ.out.mono HB2.out.size)⟩
              · have t9 : decide (0 < (n : Int)) = true := by simp; omega
                obtain ⟨x, y, hxy, LAC⟩ := HLA.out (n - 1) (by omega) _ BZ.out
                have HLAC := Lib.hid LAC
                have t10 : decide (key ≤ x) = false := by simp; omega
                clear LAC
                go_wp2_with (fail)
                refine HLAC.out.mono ?_
                rintro e w9 ⟨he, B9⟩
                change e = .returned (.tuple #[.int .i64 x, .int .i64 y, .bool true]) at he
                subst he
                have BY := Lib.hid (BZ.out.trans (B9.mono BZ.out.size))
                clear B9
                go_wp2_with (fail)
                go_roundg (m2 - 1)
                case measure => have := HM2.out; omega
                case rel => exact ⟨j + 1, by have := HM2.out; omega, by go_num, HT2.out.below BY.out, HB2.out.trans (BY.out.mono HB2.out.size)⟩
            · simp only [if_neg hkk] at HGTT
              have t3 : (k' == key) = false := by simpa using hkk
              clear hat hge hd hk'
              go_wp2_with (fail)
              refine HRK.out.mono ?_
              rintro e w_ ⟨rfl, rfl⟩
              go_wp2_with (fail)
              refine HATT.out.mono ?_
              rintro e w3 ⟨he, B3⟩
              change e = .returned (.tuple #[.int .i64 k', .int .i64 v', .bool true]) at he
              subst he
              have HS3 := Lib.hid (HSK.out w3 B3)
              have HB3 := Lib.hid B3
              clear B3
              go_wp2_with (fail)
              refine HS3.out.mono ?_
              rintro e w4 ⟨he, B4⟩
              change e = .returned (.tuple #[.int .i64 k', .int .i64 v', .bool true]) at he
              subst he
              have BZ := Lib.hid (HB3.out.trans (B4.mono HB3.out.size))
              have HG4 := Lib.hid (HGTT.out w4 BZ.out)
              have HL4 := Lib.hid (HLN.out w4 BZ.out)
              clear B4 HS3
              go_wp2_with (fail)
              refine HG4.out.mono ?_
              rintro e w_ ⟨he, rfl⟩
              change e = .returned (.tuple #[.int .i64 0, .bool false]) at he
              subst he
              go_wp2_with (fail)
              refine HL4.out.mono ?_
              rintro e w_ ⟨rfl, rfl⟩
              rcases Nat.eq_zero_or_pos n with hn0 | hn0
              · have t9 : decide (0 < (n : Int)) = false := by simp; omega
                go_wp2_with (fail)
                go_roundg (m2 - 1)
                case measure => have := HM2.out; omega
                case rel => exact ⟨j + 1, by have := HM2.out; omega, by go_num, HT2.out.below BZ.out, HB2.out.trans (BZ.out.mono HB2.out.size)⟩
              · have t9 : decide (0 < (n : Int)) = true := by simp; omega
                obtain ⟨x, y, hxy, LAC⟩ := HLA.out (n - 1) (by omega) _ BZ.out
                have HLAC := Lib.hid LAC
                have t10 : decide (key ≤ x) = false := by simp; omega
                clear LAC
                go_wp2_with (fail)
                refine HLAC.out.mono ?_
                rintro e w9 ⟨he, B9⟩
                change e = .returned (.tuple #[.int .i64 x, .int .i64 y, .bool true]) at he
                subst he
                have BY := Lib.hid (BZ.out.trans (B9.mono BZ.out.size))
                clear B9
                go_wp2_with (fail)
                go_roundg (m2 - 1)
                case measure => have := HM2.out; omega
                case rel => exact ⟨j + 1, by have := HM2.out; omega, by go_num, HT2.out.below BY.out, HB2.out.trans (BY.out.mono HB2.out.size)⟩
        · have z1 : decide (j < ks.length) = false := by simp; omega
          go_wp2_with (fail)
          go_ret
          exact ⟨rfl, HB2.out⟩
namespace treePlaces
open Go.ChangeShapes Go.WideShapes Go.ChangeAt Go.RowKit
open Go.ChangeMaps (open_string shut_string)
theorem own : ownKnob Try.prog.godebug = none := by kernel_rfl
theorem laidOut : laidOutB Try.prog = true := by kernel_rfl
set_option maxRecDepth 100000 in
theorem lifted (os : Os) (started : os.Started) (H : Type) (enc : TypeId × Value → H) :
    ReturnsInHanded {} Try.checked os 4 .any (Rows.treePlacesSpec.pre6 enc Try.prog Try.f4 Rows.treePlacesRow.domain false) (Rows.treePlacesSpec.post enc Try.prog Try.f4 false true false false) := by
  refine returnsInHanded_of_change_sized (C := Try.checked) own started (by kernel_rfl) Try.func4
    (ChangeSpec.witness6 (enc := enc) (C := Try.checked) false ⟨#[], #[.slice none 0 0, .slice none 0 0], []⟩ 8 (by kernel_rfl) (by kernel_rfl) (by kernel_rfl) (by kernel_rfl)) ?_
  intro W base args ds gs before hval0 hW hcnd hsz0 _
  have hsz : (DataW.weightsEach Try.prog (Try.f4.params.toList ++ Rows.treePlacesSpec.plain.varTypes Try.prog) (ds ++ gs)).all (· ≤ reachBytes) = true := hsz0
  have hval : ∀ (j : Nat) t v, Try.f4.params[j]? = some t → args[j]? = some v → Value.okWide Try.prog W .any base t v := hval0
  have hW' := hW
  obtain ⟨p, q, hA0, hV, rfl, hfz, hnd⟩ := hW
  have hA : DataW.TrodAll enc Try.prog W 0 (fun _ => true) true Try.f4.params.toList args.toList ds p := hA0
  rw [Try.params4] at hA hval hsz
  obtain ⟨v0, vs0, d0, ds0, p0, q0, hargs, rfl, rfl, h0, r0⟩ := trodAll_cons hA
  obtain ⟨v1, vs1, d1, ds1, p1, q1, rfl, rfl, rfl, h1, r1⟩ := trodAll_cons r0
  obtain ⟨rfl, rfl, rfl⟩ := trodAll_nil r1
  obtain rfl : args = #[v0, v1] := by cases args; simp_all
  obtain ⟨rfl, rfl⟩ := trodVars_none hV
  obtain ⟨a0, len0, cap0, rfl⟩ := okWide_slice Try.underlying31 (hval 0 31 v0 rfl rfl)
  have k0 := h0
  have lt0 : ∀ x ∈ p0, x.block < W.heap.size := by obtain ⟨m, hm⟩ := k0; exact DataW.trod_lt m _ _ _ hm
  obtain ⟨xs0, rfl, hc0, hm0, hb0, hn0, he0⟩ := opened_slice (opens_Ops W) h0 (weights_at hsz (j := 0) (t := 31) rfl rfl)
  obtain ⟨a1, len1, cap1, rfl⟩ := okWide_slice Try.underlying22 (hval 1 22 v1 rfl rfl)
  have k1 := h1
  have lt1 : ∀ x ∈ p1, x.block < W.heap.size := by obtain ⟨m, hm⟩ := k1; exact DataW.trod_lt m _ _ _ hm
  obtain ⟨xs1, rfl, hc1, hm1, hb1, hn1, he1⟩ := opened_slice (opens_ints W) h1 (weights_at hsz (j := 1) (t := 22) rfl rfl)
  clear hA0 hval0 hsz0 hsz
  refine (places_1 W a0 cap0 xs0 hc0 hm0 hb0 hn0 he0 a1 cap1 xs1 hc1 hm1 hb1 hn1 he1).mono fun e W' ⟨he, bel⟩ => ?_
  subst he
  exact ⟨_, rfl, _, _, _, [], _, [], hW', trodAll_mk1 (shut_bool Try.underlying4 _), (trodAll_cons_mk (Below.trod laidOut (by kernel_rfl) (of_decide_eq_true (by kernel_rfl)) k0 bel lt0) (trodAll_cons_mk (Below.trod laidOut (by kernel_rfl) (of_decide_eq_true (by kernel_rfl)) k1 bel lt1) trodAll_mk0)), rfl, bel.frame _, fun h => by cases h⟩
theorem over : Rows.treePlacesRow.holds Try.pinned (OpenSpec.ofChange Rows.treePlacesSpec) :=
  OpenClaim.holds_of_wide 4 Try.f4 rfl rfl rfl rfl rfl rfl rfl ⟨rfl, rfl, rfl, rfl, rfl⟩ rfl rfl rfl rfl rfl (by kernel_rfl) Try.func4 (by kernel_rfl)
    (of_decide_eq_true (by kernel_rfl)) (by unfold Func.isWrapper; first | (rw [if_pos (by decide +kernel)]; kernel_rfl) | (rw [if_neg (by decide +kernel)]; exact ⟨rfl, rfl⟩))
    (fun os started H enc _ => lifted os started H enc)
theorem proved : Rows.TreePlacesSaid := over
end treePlaces
theorem treePlaces_holds : Rows.TreePlacesSaid := treePlaces.proved
#print axioms treePlaces_holds
end Go.Proofs.Ytmichnnkkpgpmaa
