/- ParcelNums: the form of every number. -/
import Derived.Test.YtibelfljlhcibaaC1
import Derived.Test.YtibelfljlhcibaaC2
namespace Go.Proofs.Ytibelfljlhcibaa
set_option linter.unusedVariables false
set_option linter.unusedSimpArgs false
open Go.RowKit Go.Deep Go.Proofs.YtibelfljlhcibaaW.PrintLast

set_option maxRecDepth 100000 in
set_option maxHeartbeats 8000000 in
theorem nums_1 (N : Nat) (hN : N < 18446744073709551616) (w : World) :
    Calls Try.prog 3 #[.int .u64 (N : Int)] w fun e w' => e = .returned (.bool true) ∧ Below w.heap.size w w' := by
  have h10 := formN_len10 hN
  have h1 := formN_pos N
  obtain ⟨L, hL⟩ : ∃ L, L = (formN N).length := ⟨_, rfl⟩
  have NU : Hid (∀ (room : Int) (hr : room ≤ 9223372036854775807) (w : World), Calls Try.prog 14 #[.int .u64 (N : Int), .int .i64 room] w fun e w' => Below w.heap.size w w' ∧
      ((¬ ((L : Nat) : Int) ≤ max room 0 ∧ e = .returned (.tuple #[.slice none 0 0, .int .i64 13])) ∨ ((L : Int) ≤ max room 0 ∧ ∃ g, e = .returned (.tuple #[.slice (some ⟨g, 0, none⟩) L L, .int .i64 0]) ∧ w.heap.size ≤ g ∧ OwnB w' g L (formN N)))) := by
    intro room hr w
    have := num_any N hN room hr w
    unfold NumP at this
    rw [← hL] at this
    exact this
  have R := Lib.hid (formN_range N)
  go_enter Try.func3, Try.ntmps3
  go_wp2_with (fail)
  refine (NU.out 10 (by decide) w).mono ?_
  rintro e w1 ⟨B1, hc | ⟨_, g, rfl, hg, O1⟩⟩
  · exfalso; have := hc.1; rw [← hL] at h10; omega
  have KO1 := Lib.hid O1
  have KB1 := Lib.hid B1
  clear O1 B1
  rw [← hL] at h10 h1
  have HL := Lib.hid hL
  clear hL
  go_wp2_with (fail)
  refine wp_loop_ghost_k (fun (m : Nat) (ac : Act) (wr : World) => ∃ u1 u2 u4 u7 u8 u9 u10 u11 u12 u13 u14 u15 u16 u17 u18 u19 u20 u21 u22 u23 u24 u25 u26 u27 u28 u29 u30 u31 u32 u33 u34 u35 u36 u37 u38 u39 u40 u41 u42 u43 u44 u45 u46 u47 u48 u49 u50 u51 u52 u53 u54 u55 u56 u57 u58 u59 u60 u61 u62 u63 u64 u65 u66 u67 u68 u69 u70 u71 u72 u73 u74 u75 u76 u77 u78 u79 u80 u81 u82 u83 u84 u85 u86 u87 u88 u89 u90 u91 u92 u93 u94 u95 u96 u97 u98 u99 u100 u101 u102 u103 u104 u105 u106 u107 u108 u109 u110 u111 u112 u113 u114 u115 u116 u117 u118 u119 u120 u121 u122 u123 u124 u125 u126 u127 u128 u129 u130 u131 u132 u133 u134 u135 u136 u137 u138 u139 u140 u141 u142 u143 u144 u145 u146 u147 u148 u149 u150 u151 u152 u153 u154 u155 u156 u157 u158 u159 u160 u161 u162 u163 u164 u165 u166 u167 u168 u169 u170 v5 v6 : Value, (∃ (i : Nat) (pre : List Int) (M : Nat), m + i = L ∧ v6 = .int .i64 i ∧ v5 = .int .u64 M ∧ ((i < L ∧ formN N = pre ++ formN M ∧ pre.length = i ∧ M < 18446744073709551616) ∨ (i = L ∧ M = 0)) ∧ wr.heap = w1.heap ∧ Below w.heap.size w wr) ∧ ac = ({ tmps := #[.int .u64 (N : Int), u1, u2, .slice (some ⟨g, 0, none⟩) L L, u4, v5, v6, u7, u8, u9, u10, u11, u12, u13, u14, u15, u16, u17, u18, u19, u20, u21, u22, u23, u24, u25, u26, u27, u28, u29, u30, u31, u32, u33, u34, u35, u36, u37, u38, u39, u40, u41, u42, u43, u44, u45, u46, u47, u48, u49, u50, u51, u52, u53, u54, u55, u56, u57, u58, u59, u60, u61, u62, u63, u64, u65, u66, u67, u68, u69, u70, u71, u72, u73, u74, u75, u76, u77, u78, u79, u80, u81, u82, u83, u84, u85, u86, u87, u88, u89, u90, u91, u92, u93, u94, u95, u96, u97, u98, u99, u100, u101, u102, u103, u104, u105, u106, u107, u108, u109, u110, u111, u112, u113, u114, u115, u116, u117, u118, u119, u120, u121, u122, u123, u124, u125, u126, u127, u128, u129, u130, u131, u132, u133, u134, u135, u136, u137, u138, u139, u140, u141, u142, u143, u144, u145, u146, u147, u148, u149, u150, u151, u152, u153, u154, u155, u156, u157, u158, u159, u160, u161, u162, u163, u164, u165, u166, u167, u168, u169, u170], defers := [] } : Act)) (L) ?atStart ?round
  case' atStart => ((repeat apply Exists.intro); refine ⟨?_, rfl⟩)
  case' round => (intro m ac wr hcut; obtain ⟨u1, hcut⟩ := hcut; obtain ⟨u2, hcut⟩ := hcut; obtain ⟨u4, hcut⟩ := hcut; obtain ⟨u7, hcut⟩ := hcut; obtain ⟨u8, hcut⟩ := hcut; obtain ⟨u9, hcut⟩ := hcut; obtain ⟨u10, hcut⟩ := hcut; obtain ⟨u11, hcut⟩ := hcut; obtain ⟨u12, hcut⟩ := hcut; obtain ⟨u13, hcut⟩ := hcut; obtain ⟨u14, hcut⟩ := hcut; obtain ⟨u15, hcut⟩ := hcut; obtain ⟨u16, hcut⟩ := hcut; obtain ⟨u17, hcut⟩ := hcut; obtain ⟨u18, hcut⟩ := hcut; obtain ⟨u19, hcut⟩ := hcut; obtain ⟨u20, hcut⟩ := hcut; obtain ⟨u21, hcut⟩ := hcut; obtain ⟨u22, hcut⟩ := hcut; obtain ⟨u23, hcut⟩ := hcut; obtain ⟨u24, hcut⟩ := hcut; obtain ⟨u25, hcut⟩ := hcut; obtain ⟨u26, hcut⟩ := hcut; obtain ⟨u27, hcut⟩ := hcut; obtain ⟨u28, hcut⟩ := hcut; obtain ⟨u29, hcut⟩ := hcut; obtain ⟨u30, hcut⟩ := hcut; obtain ⟨u31, hcut⟩ := hcut; obtain ⟨u32, hcut⟩ := hcut; obtain ⟨u33, hcut⟩ := hcut; obtain ⟨u34, hcut⟩ := hcut; obtain ⟨u35, hcut⟩ := hcut; obtain ⟨u36, hcut⟩ := hcut; obtain ⟨u37, hcut⟩ := hcut; obtain ⟨u38, hcut⟩ := hcut; obtain ⟨u39, hcut⟩ := hcut; obtain ⟨u40, hcut⟩ := hcut; obtain ⟨u41, hcut⟩ := hcut; obtain ⟨u42, hcut⟩ := hcut; obtain ⟨u43, hcut⟩ := hcut; obtain ⟨u44, hcut⟩ := hcut; obtain ⟨u45, hcut⟩ := hcut; obtain ⟨u46, hcut⟩ := hcut; obtain ⟨u47, hcut⟩ := hcut; obtain ⟨u48, hcut⟩ := hcut; obtain ⟨u49, hcut⟩ := hcut; obtain ⟨u50, hcut⟩ := hcut; obtain ⟨u51, hcut⟩ := hcut; obtain ⟨u52, hcut⟩ := hcut; obtain ⟨u53, hcut⟩ := hcut; obtain ⟨u54, hcut⟩ := hcut; obtain ⟨u55, hcut⟩ := hcut; obtain ⟨u56, hcut⟩ := hcut; obtain ⟨u57, hcut⟩ := hcut; obtain ⟨u58, hcut⟩ := hcut; obtain ⟨u59, hcut⟩ := hcut; obtain ⟨u60, hcut⟩ := hcut; obtain ⟨u61, hcut⟩ := hcut; obtain ⟨u62, hcut⟩ := hcut; obtain ⟨u63, hcut⟩ := hcut; obtain ⟨u64, hcut⟩ := hcut; obtain ⟨u65, hcut⟩ := hcut; obtain ⟨u66, hcut⟩ := hcut; obtain ⟨u67, hcut⟩ := hcut; obtain ⟨u68, hcut⟩ := hcut; obtain ⟨u69, hcut⟩ := hcut; obtain ⟨u70, hcut⟩ := hcut; obtain ⟨u71, hcut⟩ := hcut; obtain ⟨u72, hcut⟩ := hcut; obtain ⟨u73, hcut⟩ := hcut; obtain ⟨u74, hcut⟩ := hcut; obtain ⟨u75, hcut⟩ := hcut; obtain ⟨u76, hcut⟩ := hcut; obtain ⟨u77, hcut⟩ := hcut; obtain ⟨u78, hcut⟩ := hcut; obtain ⟨u79, hcut⟩ := hcut; obtain ⟨u80, hcut⟩ := hcut; obtain ⟨u81, hcut⟩ := hcut; obtain ⟨u82, hcut⟩ := hcut; obtain ⟨u83, hcut⟩ := hcut; obtain ⟨u84, hcut⟩ := hcut; obtain ⟨u85, hcut⟩ := hcut; obtain ⟨u86, hcut⟩ := hcut; obtain ⟨u87, hcut⟩ := hcut; obtain ⟨u88, hcut⟩ := hcut; obtain ⟨u89, hcut⟩ := hcut; obtain ⟨u90, hcut⟩ := hcut; obtain ⟨u91, hcut⟩ := hcut; obtain ⟨u92, hcut⟩ := hcut; obtain ⟨u93, hcut⟩ := hcut; obtain ⟨u94, hcut⟩ := hcut; obtain ⟨u95, hcut⟩ := hcut; obtain ⟨u96, hcut⟩ := hcut; obtain ⟨u97, hcut⟩ := hcut; obtain ⟨u98, hcut⟩ := hcut; obtain ⟨u99, hcut⟩ := hcut; obtain ⟨u100, hcut⟩ := hcut; obtain ⟨u101, hcut⟩ := hcut; obtain ⟨u102, hcut⟩ := hcut; obtain ⟨u103, hcut⟩ := hcut; obtain ⟨u104, hcut⟩ := hcut; obtain ⟨u105, hcut⟩ := hcut; obtain ⟨u106, hcut⟩ := hcut; obtain ⟨u107, hcut⟩ := hcut; obtain ⟨u108, hcut⟩ := hcut; obtain ⟨u109, hcut⟩ := hcut; obtain ⟨u110, hcut⟩ := hcut; obtain ⟨u111, hcut⟩ := hcut; obtain ⟨u112, hcut⟩ := hcut; obtain ⟨u113, hcut⟩ := hcut; obtain ⟨u114, hcut⟩ := hcut; obtain ⟨u115, hcut⟩ := hcut; obtain ⟨u116, hcut⟩ := hcut; obtain ⟨u117, hcut⟩ := hcut; obtain ⟨u118, hcut⟩ := hcut; obtain ⟨u119, hcut⟩ := hcut; obtain ⟨u120, hcut⟩ := hcut; obtain ⟨u121, hcut⟩ := hcut; obtain ⟨u122, hcut⟩ := hcut; obtain ⟨u123, hcut⟩ := hcut; obtain ⟨u124, hcut⟩ := hcut; obtain ⟨u125, hcut⟩ := hcut; obtain ⟨u126, hcut⟩ := hcut; obtain ⟨u127, hcut⟩ := hcut; obtain ⟨u128, hcut⟩ := hcut; obtain ⟨u129, hcut⟩ := hcut; obtain ⟨u130, hcut⟩ := hcut; obtain ⟨u131, hcut⟩ := hcut; obtain ⟨u132, hcut⟩ := hcut; obtain ⟨u133, hcut⟩ := hcut; obtain ⟨u134, hcut⟩ := hcut; obtain ⟨u135, hcut⟩ := hcut; obtain ⟨u136, hcut⟩ := hcut; obtain ⟨u137, hcut⟩ := hcut; obtain ⟨u138, hcut⟩ := hcut; obtain ⟨u139, hcut⟩ := hcut; obtain ⟨u140, hcut⟩ := hcut; obtain ⟨u141, hcut⟩ := hcut; obtain ⟨u142, hcut⟩ := hcut; obtain ⟨u143, hcut⟩ := hcut; obtain ⟨u144, hcut⟩ := hcut; obtain ⟨u145, hcut⟩ := hcut; obtain ⟨u146, hcut⟩ := hcut; obtain ⟨u147, hcut⟩ := hcut; obtain ⟨u148, hcut⟩ := hcut; obtain ⟨u149, hcut⟩ := hcut; obtain ⟨u150, hcut⟩ := hcut; obtain ⟨u151, hcut⟩ := hcut; obtain ⟨u152, hcut⟩ := hcut; obtain ⟨u153, hcut⟩ := hcut; obtain ⟨u154, hcut⟩ := hcut; obtain ⟨u155, hcut⟩ := hcut; obtain ⟨u156, hcut⟩ := hcut; obtain ⟨u157, hcut⟩ := hcut; obtain ⟨u158, hcut⟩ := hcut; obtain ⟨u159, hcut⟩ := hcut; obtain ⟨u160, hcut⟩ := hcut; obtain ⟨u161, hcut⟩ := hcut; obtain ⟨u162, hcut⟩ := hcut; obtain ⟨u163, hcut⟩ := hcut; obtain ⟨u164, hcut⟩ := hcut; obtain ⟨u165, hcut⟩ := hcut; obtain ⟨u166, hcut⟩ := hcut; obtain ⟨u167, hcut⟩ := hcut; obtain ⟨u168, hcut⟩ := hcut; obtain ⟨u169, hcut⟩ := hcut; obtain ⟨u170, hcut⟩ := hcut; obtain ⟨v5, hcut⟩ := hcut; obtain ⟨v6, hcut⟩ := hcut; obtain ⟨hcut, hac⟩ := hcut; subst hac; intro _ _ _ _)
  case atStart => exact ⟨0, [], N, rfl, rfl, rfl, Or.inl ⟨by omega, rfl, rfl, hN⟩, rfl, KB1.out⟩
  case round =>
    obtain ⟨i, pre, M, hm, rfl, rfl, hd, hh, hB⟩ := hcut
    have HM := Lib.hid hm
    have HH := Lib.hid hh
    have KB := Lib.hid hB
    clear hm hh hB
    rcases hd with ⟨hi, hf, hp, hM⟩ | ⟨hi, hM⟩
    · have hll := congrArg List.length hf
      rw [List.length_append, ← HL.out] at hll
      have q0 : (0 : Int) ≤ (i : Int) := by omega
      have q1 : (i : Int) < (L : Int) := by omega
      by_cases hs : M < 128
      · have hx : wr.cell? ⟨g, i, none⟩ = some (.int .u8 (M : Int)) := by
          have := KO1.out.bsAt i (M : Int) (by rw [hf, List.getElem?_append_right (by omega), hp, formN_small hs]; simp)
          rw [Nat.zero_add] at this
          exact cell_of' this (by rw [HH.out])
        have hlast : i + 1 = L := by rw [formN_small hs] at hll; simp at hll; omega
        have ha : decide ((M : Int) < 128) = true := by simp; omega
        have hb : ((i : Int) == (L : Int) - 1) = true := by simp; omega
        clear hf hll
        go_wp2_with (fail)
        go_roundg (m - 1)
        case measure => have := HM.out; omega
        case rel => exact ⟨i + 1, pre, M / 128, by have := HM.out; omega, by go_num, by simp, Or.inr ⟨hlast, by omega⟩, HH.out, KB.out⟩
      · have hx : wr.cell? ⟨g, i, none⟩ = some (.int .u8 ((M % 128 + 128 : Nat) : Int)) := by
          have := KO1.out.bsAt i ((M % 128 + 128 : Nat) : Int) (by rw [hf, List.getElem?_append_right (by omega), hp, formN_big hs]; simp)
          rw [Nat.zero_add] at this
          exact cell_of' this (by rw [HH.out])
        have hmore : i + 1 < L := by rw [formN_big hs] at hll; have := formN_pos (M / 128); simp at hll; omega
        have hnext : Hid (formN N = (pre ++ [((M % 128 + 128 : Nat) : Int)]) ++ formN (M / 128)) := by
          unfold Hid; rw [hf, formN_big hs]; simp
        obtain ⟨x, hxx⟩ : ∃ x : Int, x = ((M % 128 + 128 : Nat) : Int) := ⟨_, rfl⟩
        have x0 : 128 ≤ x := by omega
        have x1 : x < 256 := by omega
        have xm : x % 128 = (M : Int) % 128 := by omega
        rw [← hxx] at hx hnext
        have ha : decide (x < 128) = false := by simp; omega
        have hb : ((i : Int) == (L : Int) - 1) = false := by simp; omega
        clear hf hll hxx
        go_wp2_with (fail)
        go_roundg (m - 1)
        case measure => have := HM.out; omega
        case rel => exact ⟨i + 1, pre ++ [x], M / 128, by have := HM.out; omega, by go_num, by simp, Or.inl ⟨hmore, hnext.out, by simp [hp], by omega⟩, HH.out, KB.out⟩
    · subst hi
      subst hM
      have hlastv : ∀ x, (formN N)[i - 1]? = some x → 1 < i → x ≠ 0 := fun x hx h1 => formN_last N (formN_one (by have := HL.out; omega)) x (by rw [← HL.out]; exact hx)
      have hil : i - 1 < (formN N).length := by have := HL.out; omega
      have hx : wr.cell? ⟨g, i - 1, none⟩ = some (.int .u8 ((formN N)[i - 1])) := by
        have := KO1.out.bsAt (i - 1) _ (List.getElem?_eq_getElem hil)
        rw [Nat.zero_add] at this
        exact cell_of' this (by rw [HH.out])
      have hxne := hlastv _ (List.getElem?_eq_getElem hil)
      have hxr := R.out _ (List.getElem_mem hil)
      generalize (formN N)[i - 1] = x at *
      have hbx : 1 < i → (x == 0) = false := fun h => by simpa using hxne h
      clear hlastv hil hxne
      have KO := Lib.hid (KO1.out.moved (by rw [HH.out]) : OwnB wr g _ (formN N))
      have KH := Lib.hid HH.out
      clear HM
      obtain ⟨hx0, hx1⟩ := hxr
      go_upto_region 12 with (fail)
      refine wp_cut (fun (ac : Act) (wx : World) => ∃ u1 u2 u4 u5 u6 u7 u8 u9 u10 u11 u12 u13 u14 u15 u16 u17 u18 u19 u20 u21 u22 u23 u24 u25 u26 u27 u28 u29 u30 u31 u32 u33 u34 u35 u36 u37 u38 u39 u40 u41 u42 u43 u44 u45 u46 u47 u48 u49 u50 u51 u52 u53 u54 u55 u56 u57 u58 u59 u60 u61 u62 u63 u64 u65 u66 u67 u68 u69 u70 u71 u72 u73 u74 u75 u76 u77 u78 u79 u80 u81 u82 u84 u85 u86 u87 u88 u89 u90 u91 u92 u93 u94 u95 u96 u97 u98 u99 u100 u101 u102 u103 u104 u105 u106 u107 u108 u109 u110 u111 u112 u113 u114 u115 u116 u117 u118 u119 u120 u121 u122 u123 u124 u125 u126 u127 u128 u129 u130 u131 u132 u133 u134 u135 u136 u137 u138 u139 u140 u141 u142 u143 u144 u145 u146 u147 u148 u149 u150 u151 u152 u153 u154 u155 u156 u157 u158 u159 u160 u161 u162 u163 u164 u165 u166 u167 u168 u169 u170 : Value, (wx = wr) ∧ ac = ({ tmps := #[.int .u64 (N : Int), u1, u2, .slice (some ⟨g, 0, none⟩) i i, u4, u5, u6, u7, u8, u9, u10, u11, u12, u13, u14, u15, u16, u17, u18, u19, u20, u21, u22, u23, u24, u25, u26, u27, u28, u29, u30, u31, u32, u33, u34, u35, u36, u37, u38, u39, u40, u41, u42, u43, u44, u45, u46, u47, u48, u49, u50, u51, u52, u53, u54, u55, u56, u57, u58, u59, u60, u61, u62, u63, u64, u65, u66, u67, u68, u69, u70, u71, u72, u73, u74, u75, u76, u77, u78, u79, u80, u81, u82, .bool false, u84, u85, u86, u87, u88, u89, u90, u91, u92, u93, u94, u95, u96, u97, u98, u99, u100, u101, u102, u103, u104, u105, u106, u107, u108, u109, u110, u111, u112, u113, u114, u115, u116, u117, u118, u119, u120, u121, u122, u123, u124, u125, u126, u127, u128, u129, u130, u131, u132, u133, u134, u135, u136, u137, u138, u139, u140, u141, u142, u143, u144, u145, u146, u147, u148, u149, u150, u151, u152, u153, u154, u155, u156, u157, u158, u159, u160, u161, u162, u163, u164, u165, u166, u167, u168, u169, u170], defers := [] } : Act)) ?rest ?first
      case' rest => (intro ac wx hcut; obtain ⟨u1, hcut⟩ := hcut; obtain ⟨u2, hcut⟩ := hcut; obtain ⟨u4, hcut⟩ := hcut; obtain ⟨u5, hcut⟩ := hcut; obtain ⟨u6, hcut⟩ := hcut; obtain ⟨u7, hcut⟩ := hcut; obtain ⟨u8, hcut⟩ := hcut; obtain ⟨u9, hcut⟩ := hcut; obtain ⟨u10, hcut⟩ := hcut; obtain ⟨u11, hcut⟩ := hcut; obtain ⟨u12, hcut⟩ := hcut; obtain ⟨u13, hcut⟩ := hcut; obtain ⟨u14, hcut⟩ := hcut; obtain ⟨u15, hcut⟩ := hcut; obtain ⟨u16, hcut⟩ := hcut; obtain ⟨u17, hcut⟩ := hcut; obtain ⟨u18, hcut⟩ := hcut; obtain ⟨u19, hcut⟩ := hcut; obtain ⟨u20, hcut⟩ := hcut; obtain ⟨u21, hcut⟩ := hcut; obtain ⟨u22, hcut⟩ := hcut; obtain ⟨u23, hcut⟩ := hcut; obtain ⟨u24, hcut⟩ := hcut; obtain ⟨u25, hcut⟩ := hcut; obtain ⟨u26, hcut⟩ := hcut; obtain ⟨u27, hcut⟩ := hcut; obtain ⟨u28, hcut⟩ := hcut; obtain ⟨u29, hcut⟩ := hcut; obtain ⟨u30, hcut⟩ := hcut; obtain ⟨u31, hcut⟩ := hcut; obtain ⟨u32, hcut⟩ := hcut; obtain ⟨u33, hcut⟩ := hcut; obtain ⟨u34, hcut⟩ := hcut; obtain ⟨u35, hcut⟩ := hcut; obtain ⟨u36, hcut⟩ := hcut; obtain ⟨u37, hcut⟩ := hcut; obtain ⟨u38, hcut⟩ := hcut; obtain ⟨u39, hcut⟩ := hcut; obtain ⟨u40, hcut⟩ := hcut; obtain ⟨u41, hcut⟩ := hcut; obtain ⟨u42, hcut⟩ := hcut; obtain ⟨u43, hcut⟩ := hcut; obtain ⟨u44, hcut⟩ := hcut; obtain ⟨u45, hcut⟩ := hcut; obtain ⟨u46, hcut⟩ := hcut; obtain ⟨u47, hcut⟩ := hcut; obtain ⟨u48, hcut⟩ := hcut; obtain ⟨u49, hcut⟩ := hcut; obtain ⟨u50, hcut⟩ := hcut; obtain ⟨u51, hcut⟩ := hcut; obtain ⟨u52, hcut⟩ := hcut; obtain ⟨u53, hcut⟩ := hcut; obtain ⟨u54, hcut⟩ := hcut; obtain ⟨u55, hcut⟩ := hcut; obtain ⟨u56, hcut⟩ := hcut; obtain ⟨u57, hcut⟩ := hcut; obtain ⟨u58, hcut⟩ := hcut; obtain ⟨u59, hcut⟩ := hcut; obtain ⟨u60, hcut⟩ := hcut; obtain ⟨u61, hcut⟩ := hcut; obtain ⟨u62, hcut⟩ := hcut; obtain ⟨u63, hcut⟩ := hcut; obtain ⟨u64, hcut⟩ := hcut; obtain ⟨u65, hcut⟩ := hcut; obtain ⟨u66, hcut⟩ := hcut; obtain ⟨u67, hcut⟩ := hcut; obtain ⟨u68, hcut⟩ := hcut; obtain ⟨u69, hcut⟩ := hcut; obtain ⟨u70, hcut⟩ := hcut; obtain ⟨u71, hcut⟩ := hcut; obtain ⟨u72, hcut⟩ := hcut; obtain ⟨u73, hcut⟩ := hcut; obtain ⟨u74, hcut⟩ := hcut; obtain ⟨u75, hcut⟩ := hcut; obtain ⟨u76, hcut⟩ := hcut; obtain ⟨u77, hcut⟩ := hcut; obtain ⟨u78, hcut⟩ := hcut; obtain ⟨u79, hcut⟩ := hcut; obtain ⟨u80, hcut⟩ := hcut; obtain ⟨u81, hcut⟩ := hcut; obtain ⟨u82, hcut⟩ := hcut; obtain ⟨u84, hcut⟩ := hcut; obtain ⟨u85, hcut⟩ := hcut; obtain ⟨u86, hcut⟩ := hcut; obtain ⟨u87, hcut⟩ := hcut; obtain ⟨u88, hcut⟩ := hcut; obtain ⟨u89, hcut⟩ := hcut; obtain ⟨u90, hcut⟩ := hcut; obtain ⟨u91, hcut⟩ := hcut; obtain ⟨u92, hcut⟩ := hcut; obtain ⟨u93, hcut⟩ := hcut; obtain ⟨u94, hcut⟩ := hcut; obtain ⟨u95, hcut⟩ := hcut; obtain ⟨u96, hcut⟩ := hcut; obtain ⟨u97, hcut⟩ := hcut; obtain ⟨u98, hcut⟩ := hcut; obtain ⟨u99, hcut⟩ := hcut; obtain ⟨u100, hcut⟩ := hcut; obtain ⟨u101, hcut⟩ := hcut; obtain ⟨u102, hcut⟩ := hcut; obtain ⟨u103, hcut⟩ := hcut; obtain ⟨u104, hcut⟩ := hcut; obtain ⟨u105, hcut⟩ := hcut; obtain ⟨u106, hcut⟩ := hcut; obtain ⟨u107, hcut⟩ := hcut; obtain ⟨u108, hcut⟩ := hcut; obtain ⟨u109, hcut⟩ := hcut; obtain ⟨u110, hcut⟩ := hcut; obtain ⟨u111, hcut⟩ := hcut; obtain ⟨u112, hcut⟩ := hcut; obtain ⟨u113, hcut⟩ := hcut; obtain ⟨u114, hcut⟩ := hcut; obtain ⟨u115, hcut⟩ := hcut; obtain ⟨u116, hcut⟩ := hcut; obtain ⟨u117, hcut⟩ := hcut; obtain ⟨u118, hcut⟩ := hcut; obtain ⟨u119, hcut⟩ := hcut; obtain ⟨u120, hcut⟩ := hcut; obtain ⟨u121, hcut⟩ := hcut; obtain ⟨u122, hcut⟩ := hcut; obtain ⟨u123, hcut⟩ := hcut; obtain ⟨u124, hcut⟩ := hcut; obtain ⟨u125, hcut⟩ := hcut; obtain ⟨u126, hcut⟩ := hcut; obtain ⟨u127, hcut⟩ := hcut; obtain ⟨u128, hcut⟩ := hcut; obtain ⟨u129, hcut⟩ := hcut; obtain ⟨u130, hcut⟩ := hcut; obtain ⟨u131, hcut⟩ := hcut; obtain ⟨u132, hcut⟩ := hcut; obtain ⟨u133, hcut⟩ := hcut; obtain ⟨u134, hcut⟩ := hcut; obtain ⟨u135, hcut⟩ := hcut; obtain ⟨u136, hcut⟩ := hcut; obtain ⟨u137, hcut⟩ := hcut; obtain ⟨u138, hcut⟩ := hcut; obtain ⟨u139, hcut⟩ := hcut; obtain ⟨u140, hcut⟩ := hcut; obtain ⟨u141, hcut⟩ := hcut; obtain ⟨u142, hcut⟩ := hcut; obtain ⟨u143, hcut⟩ := hcut; obtain ⟨u144, hcut⟩ := hcut; obtain ⟨u145, hcut⟩ := hcut; obtain ⟨u146, hcut⟩ := hcut; obtain ⟨u147, hcut⟩ := hcut; obtain ⟨u148, hcut⟩ := hcut; obtain ⟨u149, hcut⟩ := hcut; obtain ⟨u150, hcut⟩ := hcut; obtain ⟨u151, hcut⟩ := hcut; obtain ⟨u152, hcut⟩ := hcut; obtain ⟨u153, hcut⟩ := hcut; obtain ⟨u154, hcut⟩ := hcut; obtain ⟨u155, hcut⟩ := hcut; obtain ⟨u156, hcut⟩ := hcut; obtain ⟨u157, hcut⟩ := hcut; obtain ⟨u158, hcut⟩ := hcut; obtain ⟨u159, hcut⟩ := hcut; obtain ⟨u160, hcut⟩ := hcut; obtain ⟨u161, hcut⟩ := hcut; obtain ⟨u162, hcut⟩ := hcut; obtain ⟨u163, hcut⟩ := hcut; obtain ⟨u164, hcut⟩ := hcut; obtain ⟨u165, hcut⟩ := hcut; obtain ⟨u166, hcut⟩ := hcut; obtain ⟨u167, hcut⟩ := hcut; obtain ⟨u168, hcut⟩ := hcut; obtain ⟨u169, hcut⟩ := hcut; obtain ⟨u170, hcut⟩ := hcut; obtain ⟨hcut, hac⟩ := hcut; subst hac)
      case' first => intro _ _ _ _
      case first =>
        have hsub : ((i : Int) - 1) = ((i - 1 : Nat) : Int) := by omega
        by_cases h1i : 1 < i
        · have hb := hbx h1i
          have q0 : (0 : Int) ≤ (i : Int) - 1 := by omega
          have q1 : (i : Int) - 1 < (i : Int) := by omega
          have q2 : ((i : Int) - 1).toNat = i - 1 := by omega
          go_wp2_with (fail)
          all_goals go_meet
          all_goals rfl
        · go_wp2_with (fail)
          all_goals go_meet
          all_goals rfl
      case rest =>
      subst hcut
      clear hx hbx hx0 hx1
      go_wp2_with (fail)
      refine (NU.out ((i : Int) - 1) (by omega) _).mono ?_
      rintro e w2 ⟨B2, ⟨_, rfl⟩ | ⟨hc, _⟩⟩
      rotate_left
      · exfalso; omega
      have KO2 := Lib.hid (KO.out.below B2)
      have KB2 := Lib.hid (KB.out.trans (B2.mono KB.out.size))
      clear B2
      go_wp2_with (fail)
      refine (NU.out (i : Int) (by omega) _).mono ?_
      rintro e w3 ⟨B3, ⟨hc, _⟩ | ⟨_, g3, rfl, hg3, O3⟩⟩
      · exfalso; omega
      have KO3 := Lib.hid (KO2.out.below B3)
      have KB3 := Lib.hid (KB2.out.trans (B3.mono KB2.out.size))
      have SM := same_any (c := i) (c' := i) O3.bsAt KO3.out.bsAt (by rw [← HL.out]; omega)
      rw [← HL.out] at SM
      have KSM := Lib.hid SM
      clear B3 O3 SM
      go_wp2_with (fail)
      refine KSM.out.mono ?_
      rintro e w4 ⟨rfl, B4⟩
      have KO4 := Lib.hid (KO3.out.below B4)
      have KB4 := Lib.hid (KB3.out.trans (B4.mono KB3.out.size))
      clear B4 KSM KO KO1 KO2 KO3 KB KB1 KB2 KB3 HH KH NU
      go_wp2_with (fail)
      refine wp_loop_ghost_k (fun (m : Nat) (ac : Act) (wq : World) => ∃ u1 u2 u4 u5 u6 u7 u8 u9 u10 u11 u13 u14 u15 u16 u17 u18 u19 u20 u21 u22 u23 u24 u25 u26 u27 u28 u29 u30 u31 u32 u33 u34 u35 u36 u37 u38 u39 u40 u41 u42 u43 u44 u45 u46 u47 u48 u49 u50 u51 u52 u53 u54 u55 u56 u57 u58 u59 u60 u61 u62 u63 u64 u65 u66 u67 u68 u69 u70 u71 u72 u73 u74 u75 u76 u77 u78 u79 u80 u81 u82 u83 u84 u85 u86 u87 u88 u89 u90 u91 u92 u93 u94 u95 u96 u97 u98 u99 u100 u101 u102 u103 u104 u105 u106 u107 u108 u109 u110 u111 u112 u113 u114 u115 u116 u117 u118 u119 u120 u121 u122 u123 u124 u125 u126 u127 u128 u129 u130 u131 u132 u133 u134 u135 u136 u137 u138 u139 u140 u141 u142 u143 u144 u145 u146 u147 u148 u149 u150 u151 u152 u153 u154 u155 u156 u157 u158 u159 u160 u161 u162 u163 u164 u165 u166 u167 u168 u169 u170 v12 : Value, (∃ j : Nat, m + j = i ∧ v12 = .int .i64 j ∧ OwnB wq g i (formN N) ∧ Below w.heap.size w wq) ∧ ac = ({ tmps := #[.int .u64 (N : Int), u1, u2, .slice (some ⟨g, 0, none⟩) i i, u4, u5, u6, u7, u8, u9, u10, u11, v12, u13, u14, u15, u16, u17, u18, u19, u20, u21, u22, u23, u24, u25, u26, u27, u28, u29, u30, u31, u32, u33, u34, u35, u36, u37, u38, u39, u40, u41, u42, u43, u44, u45, u46, u47, u48, u49, u50, u51, u52, u53, u54, u55, u56, u57, u58, u59, u60, u61, u62, u63, u64, u65, u66, u67, u68, u69, u70, u71, u72, u73, u74, u75, u76, u77, u78, u79, u80, u81, u82, u83, u84, u85, u86, u87, u88, u89, u90, u91, u92, u93, u94, u95, u96, u97, u98, u99, u100, u101, u102, u103, u104, u105, u106, u107, u108, u109, u110, u111, u112, u113, u114, u115, u116, u117, u118, u119, u120, u121, u122, u123, u124, u125, u126, u127, u128, u129, u130, u131, u132, u133, u134, u135, u136, u137, u138, u139, u140, u141, u142, u143, u144, u145, u146, u147, u148, u149, u150, u151, u152, u153, u154, u155, u156, u157, u158, u159, u160, u161, u162, u163, u164, u165, u166, u167, u168, u169, u170], defers := [] } : Act)) (i) ?atStart ?round
      case' atStart => ((repeat apply Exists.intro); refine ⟨?_, rfl⟩)
      case' round => (intro m ac wq hcut; obtain ⟨u1, hcut⟩ := hcut; obtain ⟨u2, hcut⟩ := hcut; obtain ⟨u4, hcut⟩ := hcut; obtain ⟨u5, hcut⟩ := hcut; obtain ⟨u6, hcut⟩ := hcut; obtain ⟨u7, hcut⟩ := hcut; obtain ⟨u8, hcut⟩ := hcut; obtain ⟨u9, hcut⟩ := hcut; obtain ⟨u10, hcut⟩ := hcut; obtain ⟨u11, hcut⟩ := hcut; obtain ⟨u13, hcut⟩ := hcut; obtain ⟨u14, hcut⟩ := hcut; obtain ⟨u15, hcut⟩ := hcut; obtain ⟨u16, hcut⟩ := hcut; obtain ⟨u17, hcut⟩ := hcut; obtain ⟨u18, hcut⟩ := hcut; obtain ⟨u19, hcut⟩ := hcut; obtain ⟨u20, hcut⟩ := hcut; obtain ⟨u21, hcut⟩ := hcut; obtain ⟨u22, hcut⟩ := hcut; obtain ⟨u23, hcut⟩ := hcut; obtain ⟨u24, hcut⟩ := hcut; obtain ⟨u25, hcut⟩ := hcut; obtain ⟨u26, hcut⟩ := hcut; obtain ⟨u27, hcut⟩ := hcut; obtain ⟨u28, hcut⟩ := hcut; obtain ⟨u29, hcut⟩ := hcut; obtain ⟨u30, hcut⟩ := hcut; obtain ⟨u31, hcut⟩ := hcut; obtain ⟨u32, hcut⟩ := hcut; obtain ⟨u33, hcut⟩ := hcut; obtain ⟨u34, hcut⟩ := hcut; obtain ⟨u35, hcut⟩ := hcut; obtain ⟨u36, hcut⟩ := hcut; obtain ⟨u37, hcut⟩ := hcut; obtain ⟨u38, hcut⟩ := hcut; obtain ⟨u39, hcut⟩ := hcut; obtain ⟨u40, hcut⟩ := hcut; obtain ⟨u41, hcut⟩ := hcut; obtain ⟨u42, hcut⟩ := hcut; obtain ⟨u43, hcut⟩ := hcut; obtain ⟨u44, hcut⟩ := hcut; obtain ⟨u45, hcut⟩ := hcut; obtain ⟨u46, hcut⟩ := hcut; obtain ⟨u47, hcut⟩ := hcut; obtain ⟨u48, hcut⟩ := hcut; obtain ⟨u49, hcut⟩ := hcut; obtain ⟨u50, hcut⟩ := hcut; obtain ⟨u51, hcut⟩ := hcut; obtain ⟨u52, hcut⟩ := hcut; obtain ⟨u53, hcut⟩ := hcut; obtain ⟨u54, hcut⟩ := hcut; obtain ⟨u55, hcut⟩ := hcut; obtain ⟨u56, hcut⟩ := hcut; obtain ⟨u57, hcut⟩ := hcut; obtain ⟨u58, hcut⟩ := hcut; obtain ⟨u59, hcut⟩ := hcut; obtain ⟨u60, hcut⟩ := hcut; obtain ⟨u61, hcut⟩ := hcut; obtain ⟨u62, hcut⟩ := hcut; obtain ⟨u63, hcut⟩ := hcut; obtain ⟨u64, hcut⟩ := hcut; obtain ⟨u65, hcut⟩ := hcut; obtain ⟨u66, hcut⟩ := hcut; obtain ⟨u67, hcut⟩ := hcut; obtain ⟨u68, hcut⟩ := hcut; obtain ⟨u69, hcut⟩ := hcut; obtain ⟨u70, hcut⟩ := hcut; obtain ⟨u71, hcut⟩ := hcut; obtain ⟨u72, hcut⟩ := hcut; obtain ⟨u73, hcut⟩ := hcut; obtain ⟨u74, hcut⟩ := hcut; obtain ⟨u75, hcut⟩ := hcut; obtain ⟨u76, hcut⟩ := hcut; obtain ⟨u77, hcut⟩ := hcut; obtain ⟨u78, hcut⟩ := hcut; obtain ⟨u79, hcut⟩ := hcut; obtain ⟨u80, hcut⟩ := hcut; obtain ⟨u81, hcut⟩ := hcut; obtain ⟨u82, hcut⟩ := hcut; obtain ⟨u83, hcut⟩ := hcut; obtain ⟨u84, hcut⟩ := hcut; obtain ⟨u85, hcut⟩ := hcut; obtain ⟨u86, hcut⟩ := hcut; obtain ⟨u87, hcut⟩ := hcut; obtain ⟨u88, hcut⟩ := hcut; obtain ⟨u89, hcut⟩ := hcut; obtain ⟨u90, hcut⟩ := hcut; obtain ⟨u91, hcut⟩ := hcut; obtain ⟨u92, hcut⟩ := hcut; obtain ⟨u93, hcut⟩ := hcut; obtain ⟨u94, hcut⟩ := hcut; obtain ⟨u95, hcut⟩ := hcut; obtain ⟨u96, hcut⟩ := hcut; obtain ⟨u97, hcut⟩ := hcut; obtain ⟨u98, hcut⟩ := hcut; obtain ⟨u99, hcut⟩ := hcut; obtain ⟨u100, hcut⟩ := hcut; obtain ⟨u101, hcut⟩ := hcut; obtain ⟨u102, hcut⟩ := hcut; obtain ⟨u103, hcut⟩ := hcut; obtain ⟨u104, hcut⟩ := hcut; obtain ⟨u105, hcut⟩ := hcut; obtain ⟨u106, hcut⟩ := hcut; obtain ⟨u107, hcut⟩ := hcut; obtain ⟨u108, hcut⟩ := hcut; obtain ⟨u109, hcut⟩ := hcut; obtain ⟨u110, hcut⟩ := hcut; obtain ⟨u111, hcut⟩ := hcut; obtain ⟨u112, hcut⟩ := hcut; obtain ⟨u113, hcut⟩ := hcut; obtain ⟨u114, hcut⟩ := hcut; obtain ⟨u115, hcut⟩ := hcut; obtain ⟨u116, hcut⟩ := hcut; obtain ⟨u117, hcut⟩ := hcut; obtain ⟨u118, hcut⟩ := hcut; obtain ⟨u119, hcut⟩ := hcut; obtain ⟨u120, hcut⟩ := hcut; obtain ⟨u121, hcut⟩ := hcut; obtain ⟨u122, hcut⟩ := hcut; obtain ⟨u123, hcut⟩ := hcut; obtain ⟨u124, hcut⟩ := hcut; obtain ⟨u125, hcut⟩ := hcut; obtain ⟨u126, hcut⟩ := hcut; obtain ⟨u127, hcut⟩ := hcut; obtain ⟨u128, hcut⟩ := hcut; obtain ⟨u129, hcut⟩ := hcut; obtain ⟨u130, hcut⟩ := hcut; obtain ⟨u131, hcut⟩ := hcut; obtain ⟨u132, hcut⟩ := hcut; obtain ⟨u133, hcut⟩ := hcut; obtain ⟨u134, hcut⟩ := hcut; obtain ⟨u135, hcut⟩ := hcut; obtain ⟨u136, hcut⟩ := hcut; obtain ⟨u137, hcut⟩ := hcut; obtain ⟨u138, hcut⟩ := hcut; obtain ⟨u139, hcut⟩ := hcut; obtain ⟨u140, hcut⟩ := hcut; obtain ⟨u141, hcut⟩ := hcut; obtain ⟨u142, hcut⟩ := hcut; obtain ⟨u143, hcut⟩ := hcut; obtain ⟨u144, hcut⟩ := hcut; obtain ⟨u145, hcut⟩ := hcut; obtain ⟨u146, hcut⟩ := hcut; obtain ⟨u147, hcut⟩ := hcut; obtain ⟨u148, hcut⟩ := hcut; obtain ⟨u149, hcut⟩ := hcut; obtain ⟨u150, hcut⟩ := hcut; obtain ⟨u151, hcut⟩ := hcut; obtain ⟨u152, hcut⟩ := hcut; obtain ⟨u153, hcut⟩ := hcut; obtain ⟨u154, hcut⟩ := hcut; obtain ⟨u155, hcut⟩ := hcut; obtain ⟨u156, hcut⟩ := hcut; obtain ⟨u157, hcut⟩ := hcut; obtain ⟨u158, hcut⟩ := hcut; obtain ⟨u159, hcut⟩ := hcut; obtain ⟨u160, hcut⟩ := hcut; obtain ⟨u161, hcut⟩ := hcut; obtain ⟨u162, hcut⟩ := hcut; obtain ⟨u163, hcut⟩ := hcut; obtain ⟨u164, hcut⟩ := hcut; obtain ⟨u165, hcut⟩ := hcut; obtain ⟨u166, hcut⟩ := hcut; obtain ⟨u167, hcut⟩ := hcut; obtain ⟨u168, hcut⟩ := hcut; obtain ⟨u169, hcut⟩ := hcut; obtain ⟨u170, hcut⟩ := hcut; obtain ⟨v12, hcut⟩ := hcut; obtain ⟨hcut, hac⟩ := hcut; subst hac; intro _ _ _ _)
      case atStart => exact ⟨0, rfl, rfl, KO4.out, KB4.out⟩
      case round =>
        obtain ⟨j, hm, rfl, hO, hB⟩ := hcut
        have HM := Lib.hid hm
        have KO := Lib.hid hO
        have KB := Lib.hid hB
        have hjle : j ≤ i := by omega
        clear hm hO hB KO4 KB4
        by_cases hlt : j < i
        · have htl : ((formN N).take j).length = j := by rw [List.length_take, ← HL.out]; omega
          have RN := read_any (w := wq) (A := some ⟨g, 0, none⟩) (cc := i) (bs := (formN N).take j) (fun _ => ⟨g, 0, rfl, fun x y hy => KO.out.bsAt x y (by rw [List.getElem?_take] at hy; split at hy; exact hy; cases hy)⟩) (by rw [htl]; omega)
          rw [htl] at RN
          have KRN := Lib.hid RN
          have hcut0 := readN_cut N 0 0 j (by omega) (by simpa using hN) (by omega) (by rw [← HL.out]; exact hlt)
          have KCUT := Lib.hid hcut0
          clear RN hcut0 htl
          have q0 : (0 : Int) ≤ (j : Int) := by omega
          have q1 : (j : Int) < (i : Int) := by omega
          go_wp2_with (fail)
          refine KRN.out.mono ?_
          rintro e w5 ⟨k, rfl, hk, B5, RD⟩
          have hk5 := RD.lt
          have NM := rNum_any RD (by omega) (fun x hx => R.out x (List.mem_of_mem_take hx))
          rw [KCUT.out] at NM
          have KNM := Lib.hid NM
          have HB5 := Lib.hid B5
          clear NM RD B5
          go_wp2_with (fail)
          refine KNM.out.mono ?_
          rintro e w6 ⟨rfl, RD, G6⟩
          have DN := Lib.hid (rDone_any RD)
          have RS := Lib.hid (rRest_any RD)
          have B6 : Below wq.heap.size wq w6 := HB5.out.grown G6 HB5.out.size (by intro x hx; injection hx with hx; omega)
          have HB6 := Lib.hid B6
          clear RD G6 B6
          go_wp2_with (fail)
          refine DN.out.mono ?_
          rintro e w_ ⟨rfl, rfl⟩
          go_wp2_with (fail)
          refine RS.out.mono ?_
          rintro e w_ ⟨rfl, rfl⟩
          go_wp2_with (fail)
          go_roundg (m - 1)
          case measure => have := HM.out; omega
          case rel => exact ⟨j + 1, by have := HM.out; omega, by go_num, KO.out.below HB6.out, KB.out.trans (HB6.out.mono KB.out.size)⟩
        · have hji : j = i := by omega
          subst hji
          have E0 : OwnB (wq.alloc (.cells #[] 5)) wq.heap.size 0 [] := Own.fresh wq (by decide) #[] rfl [] (Nat.le_refl _) (by simp)
          obtain ⟨g1, c1, w5, hrun1, O5, G5, hat5⟩ := OwnB.append E0 (ys := formN N) (c := j) (k := g) (p := 0) ((KO.out.alloc _).bsAt) (by rw [← HL.out]; simp; omega)
          rw [← HL.out] at hrun1
          simp only [List.length_nil, Nat.zero_add, List.nil_append] at hrun1 O5
          have B5 : Below wq.heap.size wq w5 := ((Below.refl wq.heap.size wq).alloc (Nat.le_refl _) (.cells #[] 5)).grown G5 (by simp) (by intro x hx; injection hx with hx; omega)
          have hg5 : wq.heap.size ≤ g1 := by rcases hat5 with h | h <;> (try simp at h) <;> omega
          obtain ⟨g2, c2, w6, hrun2, O6, B6, hg6⟩ := OwnB.push (w0 := wq) O5 5 (by rw [← HL.out]; omega) B5 hg5
          rw [← HL.out] at hrun2
          have hlen6 : (formN N ++ [5]).length = j + 1 := by rw [List.length_append, ← HL.out]; rfl
          have RN := read_any (w := w6) (A := some ⟨g2, 0, none⟩) (cc := c2) (bs := formN N ++ [5]) (fun _ => ⟨g2, 0, rfl, O6.bsAt⟩) (by rw [hlen6]; omega)
          rw [hlen6] at RN
          have KRN := Lib.hid RN
          have HR1 := Lib.hid hrun1
          have HR2 := Lib.hid hrun2
          have HB6 := Lib.hid B6
          have KF := Lib.hid (readN_form N 0 0 [5] (by omega) (by simpa using hN) (by omega))
          clear RN hrun1 hrun2 B6 E0 O5 G5 hat5 B5 O6 hlt hjle
          go_wp2_with (first | (have p1 := HR1; refine wpList_app p1.out rfl rfl rfl (by rfl) (by rfl) ?_; clear p1 HR1) | (have p2 := HR2; refine wpList_app p2.out rfl rfl rfl (by rfl) (by rfl) ?_; clear p2 HR2))
          refine KRN.out.mono ?_
          rintro e w7 ⟨k, rfl, hk, B7, RD⟩
          have hk7 := RD.lt
          have NM := rNum_any RD (by omega) (fun x hx => by
            rcases List.mem_append.1 hx with h | h
            · exact R.out x h
            · simp at h; omega)
          rw [KF.out] at NM
          have hN1 : (0 + N * 128 ^ 0 : Nat) = N := by simp
          rw [hN1] at NM
          have KNM := Lib.hid NM
          have K7 := Lib.hid (HB6.out.trans (B7.mono HB6.out.size))
          have hwk : wq.heap.size ≤ k := by have := HB6.out.size; omega
          have hM7 : w6.heap.size + 1 ≤ w7.heap.size := by omega
          clear NM RD B7
          go_wp2_with (fail)
          refine KNM.out.mono ?_
          rintro e w8 ⟨rfl, RD, G8⟩
          have RS := Lib.hid (rRest_any RD)
          have DN := Lib.hid (rDone_any RD)
          have hM8 : w6.heap.size + 1 ≤ w8.heap.size := by have := G8.size; omega
          have BY := Lib.hid (rByte_any RD hM8 (fun x hx => by simp at hx; omega))
          have K8 := Lib.hid (K7.out.grown G8 K7.out.size (by intro x hx; injection hx with hx; omega))
          clear RD G8
          go_wp2_with (fail)
          refine RS.out.mono ?_
          rintro e w_ ⟨rfl, rfl⟩
          go_wp2_with (fail)
          refine DN.out.mono ?_
          rintro e w_ ⟨rfl, rfl⟩
          go_wp2_with (fail)
          refine BY.out.mono ?_
          rintro e w9 ⟨rfl, RD9, G9⟩
          have DN9 := Lib.hid (rDone_any RD9)
          have K9 := Lib.hid (K8.out.grown G9 K8.out.size (by intro x hx; injection hx with hx; omega))
          clear RD9 G9
          go_wp2_with (fail)
          refine DN9.out.mono ?_
          rintro e w_ ⟨rfl, rfl⟩
          go_wp2_with (fail)
          go_ret
          exact ⟨rfl, KB.out.trans (K9.out.mono KB.out.size)⟩
theorem ParcelNums_walk (w : World) (n : Int) (hn : (Lit.int .u64 n).wf = true) :
    Calls Try.prog 3 #[.int .u64 n] w fun e w' => e = .returned (.bool true) ∧ Below w.heap.size w w' := by
  simp only [Lit.wf, Bool.and_eq_true, decide_eq_true_eq] at hn
  have h1 : IntKind.u64.min = 0 := by decide
  have h2 : IntKind.u64.max = 18446744073709551615 := by decide
  obtain ⟨N, rfl⟩ := Int.eq_ofNat_of_zero_le (show 0 ≤ n by omega)
  exact nums_1 N (by omega) w
namespace parcelNums
open Go.ChangeShapes Go.WideShapes Go.ChangeAt Go.RowKit
open Go.ChangeMaps (open_string shut_string)
theorem own : ownKnob Try.prog.godebug = none := by kernel_rfl
theorem laidOut : laidOutB Try.prog = true := by kernel_rfl
set_option maxRecDepth 100000 in
theorem lifted (os : Os) (started : os.Started) (H : Type) (enc : TypeId × Value → H) :
    ReturnsInHanded {} Try.checked os 3 .any (Rows.parcelNumsSpec.pre6 enc Try.prog Try.f3 Rows.parcelNumsRow.domain false) (Rows.parcelNumsSpec.post enc Try.prog Try.f3 false true false false) := by
  refine returnsInHanded_of_change_sized (C := Try.checked) own started (by kernel_rfl) Try.func3
    (ChangeSpec.witness6 (enc := enc) (C := Try.checked) false ⟨#[], #[.int .u64 0], []⟩ 8 (by kernel_rfl) (by kernel_rfl) (by kernel_rfl) (by kernel_rfl)) ?_
  intro W base args ds gs before hval0 hW hcnd hsz0 _
  have hsz : (DataW.weightsEach Try.prog (Try.f3.params.toList ++ Rows.parcelNumsSpec.plain.varTypes Try.prog) (ds ++ gs)).all (· ≤ reachBytes) = true := hsz0
  have hval : ∀ (j : Nat) t v, Try.f3.params[j]? = some t → args[j]? = some v → Value.okWide Try.prog W .any base t v := hval0
  have hW' := hW
  obtain ⟨p, q, hA0, hV, rfl, hfz, hnd⟩ := hW
  have hA : DataW.TrodAll enc Try.prog W 0 (fun _ => true) true Try.f3.params.toList args.toList ds p := hA0
  rw [Try.params3] at hA hval hsz
  obtain ⟨v0, vs0, d0, ds0, p0, q0, hargs, rfl, rfl, h0, r0⟩ := trodAll_cons hA
  obtain ⟨rfl, rfl, rfl⟩ := trodAll_nil r0
  obtain rfl : args = #[v0] := by cases args; simp_all
  obtain ⟨rfl, rfl⟩ := trodVars_none hV
  obtain ⟨a0, rfl, rfl, rfl, w0⟩ := open_int Try.underlying22 (hval 0 22 v0 rfl rfl) h0
  clear hA0 hval0 hsz0 hsz
  refine (ParcelNums_walk W a0 w0).mono fun e W' ⟨he, bel⟩ => ?_
  subst he
  exact ⟨_, rfl, _, _, _, [], _, [], hW', trodAll_mk1 (shut_bool Try.underlying4 _), (trodAll_cons_mk (shut_int Try.underlying22 w0) trodAll_mk0), rfl, bel.frame _, fun h => by cases h⟩
theorem over : Rows.parcelNumsRow.holds Try.pinned (OpenSpec.ofChange Rows.parcelNumsSpec) :=
  OpenClaim.holds_of_wide 3 Try.f3 rfl rfl rfl rfl rfl rfl rfl ⟨rfl, rfl, rfl, rfl, rfl⟩ rfl rfl rfl rfl rfl (by kernel_rfl) Try.func3 (by kernel_rfl)
    (of_decide_eq_true (by kernel_rfl)) (by unfold Func.isWrapper; first | (rw [if_pos (by decide +kernel)]; kernel_rfl) | (rw [if_neg (by decide +kernel)]; exact ⟨rfl, rfl⟩))
    (fun os started H enc _ => lifted os started H enc)
theorem proved : Rows.ParcelNumsSaid := over
end parcelNums
theorem parcelNums_holds : Rows.ParcelNumsSaid := parcelNums.proved
#print axioms parcelNums_holds
end Go.Proofs.Ytibelfljlhcibaa
