/- ParcelReals: real numbers by their bits, one NaN. -/
import Derived.Test.YtibelfljlhcibaaPR8
import Derived.Test.YtibelfljlhcibaaR
namespace Go.Proofs.Ytibelfljlhcibaa
set_option linter.unusedVariables false
set_option linter.unusedSimpArgs false
open Go.RowKit Go.Deep Go.Proofs.YtibelfljlhcibaaW.PrintLast

/-- The bytes of a number, the highest first. -/
def hiN (n : Nat) : List Int := (lowN 8 n).reverse
theorem hiN_len (n : Nat) : (hiN n).length = 8 := by unfold hiN; rw [List.length_reverse, lowN_len]
theorem hiN_eq (n : Nat) : hiN n = [((n / 72057594037927936 % 256 : Nat) : Int), ((n / 281474976710656 % 256 : Nat) : Int), ((n / 1099511627776 % 256 : Nat) : Int), ((n / 4294967296 % 256 : Nat) : Int), ((n / 16777216 % 256 : Nat) : Int), ((n / 65536 % 256 : Nat) : Int), ((n / 256 % 256 : Nat) : Int), ((n % 256 : Nat) : Int)] := by
  simp [hiN, lowN, Nat.div_div_eq_div_mul]
theorem hiN_byt (n : Nat) : Byt (hiN n) := fun x hx => lowN_range 8 n x (List.mem_reverse.1 hx)
theorem clean_lt {b : Nat} (hb : b < 18446744073709551616) : cleanBits b < 18446744073709551616 := by unfold cleanBits nanBits; split <;> omega
theorem clean_clean (b : Nat) : cleanBits (cleanBits b) = cleanBits b := by
  unfold cleanBits
  by_cases h : oddBits b = true
  · rw [if_pos h]
    have : oddBits nanBits = true := by decide
    rw [if_pos this]
  · rw [if_neg h, if_neg h]
theorem up_hi {n : Nat} (hn : n < 18446744073709551616) : upN (hiN n).reverse = n := by
  unfold hiN
  rw [List.reverse_reverse]
  exact upN_low 8 n (Nat.lt_of_lt_of_le hn (by simp))
theorem real_hi {n : Nat} (hn : n < 18446744073709551616) : (⟨hiN n, [], 0⟩ : RS).real = if cleanBits n = n then (n, ⟨[], [], 0⟩) else (0, ⟨[], [], 11⟩) := by
  have hl := hiN_len n
  have e1 : (⟨hiN n, [], 0⟩ : RS).next 8 = some (hiN n, ⟨[], [], 0⟩) := by
    unfold RS.next
    rw [if_pos (by simp only [hl]; omega)]
    rw [List.take_of_length_le (by simp only [hl]; omega), List.drop_of_length_le (by simp only [hl]; omega)]
  unfold RS.real
  rw [if_pos rfl, e1]
  simp only
  rw [up_hi hn]
theorem wreal_hi (b : Nat) : (⟨8, [], [], 0⟩ : WS).real b = ⟨8, hiN (cleanBits b), [], 0⟩ := by
  unfold WS.real WS.lay
  have : (lowN 8 (cleanBits b)).reverse.length = 8 := by rw [List.length_reverse, lowN_len]
  rw [if_pos rfl, if_neg (by simp only [List.length_nil, this]; omega)]
  rfl
set_option maxRecDepth 100000 in
set_option maxHeartbeats 16000000 in
theorem reals_1 (N : Nat) (hN : N < 18446744073709551616) (w : World) :
    Calls Try.prog 5 #[.int .u64 (N : Int)] w fun e w' => e = .returned (.bool true) ∧ Below w.heap.size w w' := by
  have hcf : ∀ (b : Int) w, (callFunc 26 #[.int .u64 b]).run Try.prog w = .ok (.value (.float .f64 b.toNat)) w := fun b w => by
    rw [run_callFunc_extern Try.func26 (by kernel_rfl) (by kernel_rfl) (by kernel_rfl) (e := Extern.MathFloatBits.float64frombits) (by kernel_rfl)]
    rfl
  have hcg : ∀ (b : Nat) w, (callFunc 29 #[.float .f64 b]).run Try.prog w = .ok (.value (.int .u64 (b : Int))) w := fun b w => by
    rw [run_callFunc_extern Try.func29 (by kernel_rfl) (by kernel_rfl) (by kernel_rfl) (e := Extern.MathFloatBits.float64bits) (by kernel_rfl)]
    rfl
  obtain ⟨z, hz⟩ : ∃ z, z = cleanBits N := ⟨_, rfl⟩
  have hz64 : z < 18446744073709551616 := by rw [hz]; exact clean_lt hN
  have hzz : cleanBits z = z := by rw [hz]; exact clean_clean N
  have fe : (FloatKind.f64.format.order N N != some Ordering.eq) = oddBits N := by
    have := floatEq_self N
    unfold Op.floatEq at this
    rw [bne, this, Bool.not_not]
  obtain ⟨t, ht⟩ := named (oddBits N)
  rw [ht] at fe
  have hzt : z = if t then 9221120237041090560 else N := by rw [hz]; unfold cleanBits; rw [ht]; rfl
  have HZ := Lib.hid hz
  have HZZ := Lib.hid hzz
  have HZT := Lib.hid hzt
  have NW := Lib.hid (new_any 8 w)
  clear hz hzz hzt ht
  go_enter Try.func5, Try.ntmps5
  go_wp2_with (fail)
  refine NW.out.mono ?_
  rintro e w1 ⟨rfl, B1, L1⟩
  have WR := wReal_any (s := ⟨8, [], [], 0⟩) L1 (WS.Ok.new 8 (by decide)) N hN (by simp)
  rw [wreal_hi, ← HZ.out] at WR
  have HWR := Lib.hid WR
  have HB1 := Lib.hid B1
  clear L1 B1 WR NW
  go_wp2_with (fail)
  refine HWR.out.mono ?_
  rintro e w2 ⟨rfl, U2⟩
  have DN := wDone_any U2.1 (by simp only [hiN_len]; omega)
  have HDN := Lib.hid DN
  have HB2 := Lib.hid (show Below w.heap.size w w2 from HB1.out.trans (U2.2.toBelow (fun x hx => hx.1) HB1.out.size))
  clear U2 DN HWR
  go_wp2_with (fail)
  refine HDN.out.mono ?_
  rintro e w3 ⟨B3, hc⟩
  rcases hc with ⟨hc, _⟩ | ⟨_, hc, _⟩ | ⟨_, _, g, rfl, hg, O3⟩
  · exact absurd rfl hc
  · exact absurd rfl hc
  simp only [hiN_len] at O3
  simp only [hiN_len]
  have HO3 := Lib.hid O3
  have HB3 := Lib.hid (HB2.out.trans (B3.mono HB2.out.size))
  clear O3 B3 HDN
  go_upto_if 36 with (fail)
  refine wp_cut (fun (ac : Act) (wx : World) => ∃ u1 u2 u3 u4 u6 u8 u9 u10 u11 u12 u13 u14 u15 u16 u17 u18 u19 u20 u21 u22 u23 u24 u25 u26 u27 u28 u29 u30 u31 u32 u33 u34 u35 u36 u37 u38 u39 u40 u41 u42 u43 u44 u45 u46 u47 u48 u49 u50 u51 u52 u53 u54 u55 u56 u57 u58 u59 u60 u61 u62 u63 u64 u65 u66 u67 u68 u69 u70 u71 u72 u73 u74 u75 u76 u77 u78 u79 u80 u81 u82 u83 u84 u85 u86 u87 u88 u89 u90 u91 u92 u93 u94 u95 u96 u97 u98 u99 u100 u101 u102 u103 : Value, (w3 = wx) ∧ ac = ({ tmps := #[.int .u64 (N : Int), u1, u2, u3, u4, .slice (some ⟨g, 0, none⟩) 8 8, u6, .int .u64 (z : Int), u8, u9, u10, u11, u12, u13, u14, u15, u16, u17, u18, u19, u20, u21, u22, u23, u24, u25, u26, u27, u28, u29, u30, u31, u32, u33, u34, u35, u36, u37, u38, u39, u40, u41, u42, u43, u44, u45, u46, u47, u48, u49, u50, u51, u52, u53, u54, u55, u56, u57, u58, u59, u60, u61, u62, u63, u64, u65, u66, u67, u68, u69, u70, u71, u72, u73, u74, u75, u76, u77, u78, u79, u80, u81, u82, u83, u84, u85, u86, u87, u88, u89, u90, u91, u92, u93, u94, u95, u96, u97, u98, u99, u100, u101, u102, u103], defers := [] } : Act)) ?rest ?first
  case' rest => (intro ac wx hcut; obtain ⟨u1, hcut⟩ := hcut; obtain ⟨u2, hcut⟩ := hcut; obtain ⟨u3, hcut⟩ := hcut; obtain ⟨u4, hcut⟩ := hcut; obtain ⟨u6, hcut⟩ := hcut; obtain ⟨u8, hcut⟩ := hcut; obtain ⟨u9, hcut⟩ := hcut; obtain ⟨u10, hcut⟩ := hcut; obtain ⟨u11, hcut⟩ := hcut; obtain ⟨u12, hcut⟩ := hcut; obtain ⟨u13, hcut⟩ := hcut; obtain ⟨u14, hcut⟩ := hcut; obtain ⟨u15, hcut⟩ := hcut; obtain ⟨u16, hcut⟩ := hcut; obtain ⟨u17, hcut⟩ := hcut; obtain ⟨u18, hcut⟩ := hcut; obtain ⟨u19, hcut⟩ := hcut; obtain ⟨u20, hcut⟩ := hcut; obtain ⟨u21, hcut⟩ := hcut; obtain ⟨u22, hcut⟩ := hcut; obtain ⟨u23, hcut⟩ := hcut; obtain ⟨u24, hcut⟩ := hcut; obtain ⟨u25, hcut⟩ := hcut; obtain ⟨u26, hcut⟩ := hcut; obtain ⟨u27, hcut⟩ := hcut; obtain ⟨u28, hcut⟩ := hcut; obtain ⟨u29, hcut⟩ := hcut; obtain ⟨u30, hcut⟩ := hcut; obtain ⟨u31, hcut⟩ := hcut; obtain ⟨u32, hcut⟩ := hcut; obtain ⟨u33, hcut⟩ := hcut; obtain ⟨u34, hcut⟩ := hcut; obtain ⟨u35, hcut⟩ := hcut; obtain ⟨u36, hcut⟩ := hcut; obtain ⟨u37, hcut⟩ := hcut; obtain ⟨u38, hcut⟩ := hcut; obtain ⟨u39, hcut⟩ := hcut; obtain ⟨u40, hcut⟩ := hcut; obtain ⟨u41, hcut⟩ := hcut; obtain ⟨u42, hcut⟩ := hcut; obtain ⟨u43, hcut⟩ := hcut; obtain ⟨u44, hcut⟩ := hcut; obtain ⟨u45, hcut⟩ := hcut; obtain ⟨u46, hcut⟩ := hcut; obtain ⟨u47, hcut⟩ := hcut; obtain ⟨u48, hcut⟩ := hcut; obtain ⟨u49, hcut⟩ := hcut; obtain ⟨u50, hcut⟩ := hcut; obtain ⟨u51, hcut⟩ := hcut; obtain ⟨u52, hcut⟩ := hcut; obtain ⟨u53, hcut⟩ := hcut; obtain ⟨u54, hcut⟩ := hcut; obtain ⟨u55, hcut⟩ := hcut; obtain ⟨u56, hcut⟩ := hcut; obtain ⟨u57, hcut⟩ := hcut; obtain ⟨u58, hcut⟩ := hcut; obtain ⟨u59, hcut⟩ := hcut; obtain ⟨u60, hcut⟩ := hcut; obtain ⟨u61, hcut⟩ := hcut; obtain ⟨u62, hcut⟩ := hcut; obtain ⟨u63, hcut⟩ := hcut; obtain ⟨u64, hcut⟩ := hcut; obtain ⟨u65, hcut⟩ := hcut; obtain ⟨u66, hcut⟩ := hcut; obtain ⟨u67, hcut⟩ := hcut; obtain ⟨u68, hcut⟩ := hcut; obtain ⟨u69, hcut⟩ := hcut; obtain ⟨u70, hcut⟩ := hcut; obtain ⟨u71, hcut⟩ := hcut; obtain ⟨u72, hcut⟩ := hcut; obtain ⟨u73, hcut⟩ := hcut; obtain ⟨u74, hcut⟩ := hcut; obtain ⟨u75, hcut⟩ := hcut; obtain ⟨u76, hcut⟩ := hcut; obtain ⟨u77, hcut⟩ := hcut; obtain ⟨u78, hcut⟩ := hcut; obtain ⟨u79, hcut⟩ := hcut; obtain ⟨u80, hcut⟩ := hcut; obtain ⟨u81, hcut⟩ := hcut; obtain ⟨u82, hcut⟩ := hcut; obtain ⟨u83, hcut⟩ := hcut; obtain ⟨u84, hcut⟩ := hcut; obtain ⟨u85, hcut⟩ := hcut; obtain ⟨u86, hcut⟩ := hcut; obtain ⟨u87, hcut⟩ := hcut; obtain ⟨u88, hcut⟩ := hcut; obtain ⟨u89, hcut⟩ := hcut; obtain ⟨u90, hcut⟩ := hcut; obtain ⟨u91, hcut⟩ := hcut; obtain ⟨u92, hcut⟩ := hcut; obtain ⟨u93, hcut⟩ := hcut; obtain ⟨u94, hcut⟩ := hcut; obtain ⟨u95, hcut⟩ := hcut; obtain ⟨u96, hcut⟩ := hcut; obtain ⟨u97, hcut⟩ := hcut; obtain ⟨u98, hcut⟩ := hcut; obtain ⟨u99, hcut⟩ := hcut; obtain ⟨u100, hcut⟩ := hcut; obtain ⟨u101, hcut⟩ := hcut; obtain ⟨u102, hcut⟩ := hcut; obtain ⟨u103, hcut⟩ := hcut; obtain ⟨hcut, hac⟩ := hcut; subst hac)
  case' first => intro _ _ _ _
  case first =>
    cases t with
    | true =>
      have h := HZT.out
      rw [if_pos rfl] at h
      subst h
      go_wp2_with (fail)
      go_meet
      rfl
    | false =>
      have h := HZT.out
      rw [if_neg (by decide)] at h
      subst h
      go_wp2_with (fail)
      go_meet
      rfl
  case rest =>
  subst hcut
  clear fe
  go_wp2_with (fail)
  refine wp_loop_ghost_k (fun (m : Nat) (ac : Act) (wr : World) => ∃ u1 u2 u3 u4 u6 u9 u10 u11 u12 u13 u14 u15 u16 u17 u18 u19 u20 u21 u22 u23 u24 u25 u26 u27 u28 u29 u30 u31 u32 u33 u34 u35 u36 u37 u38 u39 u40 u41 u42 u43 u44 u45 u46 u47 u48 u49 u50 u51 u52 u53 u54 u55 u56 u57 u58 u59 u60 u61 u62 u63 u64 u65 u66 u67 u68 u69 u70 u71 u72 u73 u74 u75 u76 u77 u78 u79 u80 u81 u82 u83 u84 u85 u86 u87 u88 u89 u90 u91 u92 u93 u94 u95 u96 u97 u98 u99 u100 u101 u102 u103 v8 : Value, (∃ (i : Nat), m + i = 8 ∧ v8 = .int .i64 i ∧ w3 = wr) ∧ ac = ({ tmps := #[.int .u64 (N : Int), u1, u2, u3, u4, .slice (some ⟨g, 0, none⟩) 8 8, u6, .int .u64 (z : Int), v8, u9, u10, u11, u12, u13, u14, u15, u16, u17, u18, u19, u20, u21, u22, u23, u24, u25, u26, u27, u28, u29, u30, u31, u32, u33, u34, u35, u36, u37, u38, u39, u40, u41, u42, u43, u44, u45, u46, u47, u48, u49, u50, u51, u52, u53, u54, u55, u56, u57, u58, u59, u60, u61, u62, u63, u64, u65, u66, u67, u68, u69, u70, u71, u72, u73, u74, u75, u76, u77, u78, u79, u80, u81, u82, u83, u84, u85, u86, u87, u88, u89, u90, u91, u92, u93, u94, u95, u96, u97, u98, u99, u100, u101, u102, u103], defers := [] } : Act)) (8) ?atStart ?round
  case' atStart => ((repeat apply Exists.intro); refine ⟨?_, rfl⟩)
  case' round => (intro m ac wr hcut; obtain ⟨u1, hcut⟩ := hcut; obtain ⟨u2, hcut⟩ := hcut; obtain ⟨u3, hcut⟩ := hcut; obtain ⟨u4, hcut⟩ := hcut; obtain ⟨u6, hcut⟩ := hcut; obtain ⟨u9, hcut⟩ := hcut; obtain ⟨u10, hcut⟩ := hcut; obtain ⟨u11, hcut⟩ := hcut; obtain ⟨u12, hcut⟩ := hcut; obtain ⟨u13, hcut⟩ := hcut; obtain ⟨u14, hcut⟩ := hcut; obtain ⟨u15, hcut⟩ := hcut; obtain ⟨u16, hcut⟩ := hcut; obtain ⟨u17, hcut⟩ := hcut; obtain ⟨u18, hcut⟩ := hcut; obtain ⟨u19, hcut⟩ := hcut; obtain ⟨u20, hcut⟩ := hcut; obtain ⟨u21, hcut⟩ := hcut; obtain ⟨u22, hcut⟩ := hcut; obtain ⟨u23, hcut⟩ := hcut; obtain ⟨u24, hcut⟩ := hcut; obtain ⟨u25, hcut⟩ := hcut; obtain ⟨u26, hcut⟩ := hcut; obtain ⟨u27, hcut⟩ := hcut; obtain ⟨u28, hcut⟩ := hcut; obtain ⟨u29, hcut⟩ := hcut; obtain ⟨u30, hcut⟩ := hcut; obtain ⟨u31, hcut⟩ := hcut; obtain ⟨u32, hcut⟩ := hcut; obtain ⟨u33, hcut⟩ := hcut; obtain ⟨u34, hcut⟩ := hcut; obtain ⟨u35, hcut⟩ := hcut; obtain ⟨u36, hcut⟩ := hcut; obtain ⟨u37, hcut⟩ := hcut; obtain ⟨u38, hcut⟩ := hcut; obtain ⟨u39, hcut⟩ := hcut; obtain ⟨u40, hcut⟩ := hcut; obtain ⟨u41, hcut⟩ := hcut; obtain ⟨u42, hcut⟩ := hcut; obtain ⟨u43, hcut⟩ := hcut; obtain ⟨u44, hcut⟩ := hcut; obtain ⟨u45, hcut⟩ := hcut; obtain ⟨u46, hcut⟩ := hcut; obtain ⟨u47, hcut⟩ := hcut; obtain ⟨u48, hcut⟩ := hcut; obtain ⟨u49, hcut⟩ := hcut; obtain ⟨u50, hcut⟩ := hcut; obtain ⟨u51, hcut⟩ := hcut; obtain ⟨u52, hcut⟩ := hcut; obtain ⟨u53, hcut⟩ := hcut; obtain ⟨u54, hcut⟩ := hcut; obtain ⟨u55, hcut⟩ := hcut; obtain ⟨u56, hcut⟩ := hcut; obtain ⟨u57, hcut⟩ := hcut; obtain ⟨u58, hcut⟩ := hcut; obtain ⟨u59, hcut⟩ := hcut; obtain ⟨u60, hcut⟩ := hcut; obtain ⟨u61, hcut⟩ := hcut; obtain ⟨u62, hcut⟩ := hcut; obtain ⟨u63, hcut⟩ := hcut; obtain ⟨u64, hcut⟩ := hcut; obtain ⟨u65, hcut⟩ := hcut; obtain ⟨u66, hcut⟩ := hcut; obtain ⟨u67, hcut⟩ := hcut; obtain ⟨u68, hcut⟩ := hcut; obtain ⟨u69, hcut⟩ := hcut; obtain ⟨u70, hcut⟩ := hcut; obtain ⟨u71, hcut⟩ := hcut; obtain ⟨u72, hcut⟩ := hcut; obtain ⟨u73, hcut⟩ := hcut; obtain ⟨u74, hcut⟩ := hcut; obtain ⟨u75, hcut⟩ := hcut; obtain ⟨u76, hcut⟩ := hcut; obtain ⟨u77, hcut⟩ := hcut; obtain ⟨u78, hcut⟩ := hcut; obtain ⟨u79, hcut⟩ := hcut; obtain ⟨u80, hcut⟩ := hcut; obtain ⟨u81, hcut⟩ := hcut; obtain ⟨u82, hcut⟩ := hcut; obtain ⟨u83, hcut⟩ := hcut; obtain ⟨u84, hcut⟩ := hcut; obtain ⟨u85, hcut⟩ := hcut; obtain ⟨u86, hcut⟩ := hcut; obtain ⟨u87, hcut⟩ := hcut; obtain ⟨u88, hcut⟩ := hcut; obtain ⟨u89, hcut⟩ := hcut; obtain ⟨u90, hcut⟩ := hcut; obtain ⟨u91, hcut⟩ := hcut; obtain ⟨u92, hcut⟩ := hcut; obtain ⟨u93, hcut⟩ := hcut; obtain ⟨u94, hcut⟩ := hcut; obtain ⟨u95, hcut⟩ := hcut; obtain ⟨u96, hcut⟩ := hcut; obtain ⟨u97, hcut⟩ := hcut; obtain ⟨u98, hcut⟩ := hcut; obtain ⟨u99, hcut⟩ := hcut; obtain ⟨u100, hcut⟩ := hcut; obtain ⟨u101, hcut⟩ := hcut; obtain ⟨u102, hcut⟩ := hcut; obtain ⟨u103, hcut⟩ := hcut; obtain ⟨v8, hcut⟩ := hcut; obtain ⟨hcut, hac⟩ := hcut; subst hac; intro _ _ _ _)
  case atStart => exact ⟨0, rfl, rfl, rfl⟩
  case round =>
    obtain ⟨i, hm, rfl, rfl⟩ := hcut
    have HM := Lib.hid hm
    by_cases hlt : i < 8
    · clear hm
      --[A
      rcases (by omega : i = 0 ∨ i = 1 ∨ i = 2 ∨ i = 3 ∨ i = 4 ∨ i = 5 ∨ i = 6 ∨ i = 7) with rfl | rfl | rfl | rfl | rfl | rfl | rfl | rfl
      · have c0 : w3.cell? ⟨g, 0, none⟩ = some (.int .u8 ((z : Int) / 72057594037927936 % 256)) := by
          have := HO3.out.cell (i := 0) (x := ((z / 72057594037927936 % 256 : Nat) : Int)) (by rw [hiN_eq]; rfl) (j := 0) (v := .int .u8 ((z / 72057594037927936 % 256 : Nat) : Int)) rfl
          rw [show ((z / 72057594037927936 % 256 : Nat) : Int) = (z : Int) / 72057594037927936 % 256 by omega] at this
          simpa using this
        go_wp2_with (fail)
        go_roundg (m - 1)
        case measure => have := HM.out; omega
        case rel => exact ⟨1, by have := HM.out; omega, by go_num, rfl⟩
      · have c0 : w3.cell? ⟨g, 1, none⟩ = some (.int .u8 ((z : Int) / 281474976710656 % 256)) := by
          have := HO3.out.cell (i := 1) (x := ((z / 281474976710656 % 256 : Nat) : Int)) (by rw [hiN_eq]; rfl) (j := 0) (v := .int .u8 ((z / 281474976710656 % 256 : Nat) : Int)) rfl
          rw [show ((z / 281474976710656 % 256 : Nat) : Int) = (z : Int) / 281474976710656 % 256 by omega] at this
          simpa using this
        go_wp2_with (fail)
        go_roundg (m - 1)
        case measure => have := HM.out; omega
        case rel => exact ⟨2, by have := HM.out; omega, by go_num, rfl⟩
      · have c0 : w3.cell? ⟨g, 2, none⟩ = some (.int .u8 ((z : Int) / 1099511627776 % 256)) := by
          have := HO3.out.cell (i := 2) (x := ((z / 1099511627776 % 256 : Nat) : Int)) (by rw [hiN_eq]; rfl) (j := 0) (v := .int .u8 ((z / 1099511627776 % 256 : Nat) : Int)) rfl
          rw [show ((z / 1099511627776 % 256 : Nat) : Int) = (z : Int) / 1099511627776 % 256 by omega] at this
          simpa using this
        go_wp2_with (fail)
        go_roundg (m - 1)
        case measure => have := HM.out; omega
        case rel => exact ⟨3, by have := HM.out; omega, by go_num, rfl⟩
      · have c0 : w3.cell? ⟨g, 3, none⟩ = some (.int .u8 ((z : Int) / 4294967296 % 256)) := by
          have := HO3.out.cell (i := 3) (x := ((z / 4294967296 % 256 : Nat) : Int)) (by rw [hiN_eq]; rfl) (j := 0) (v := .int .u8 ((z / 4294967296 % 256 : Nat) : Int)) rfl
          rw [show ((z / 4294967296 % 256 : Nat) : Int) = (z : Int) / 4294967296 % 256 by omega] at this
          simpa using this
        go_wp2_with (fail)
        go_roundg (m - 1)
        case measure => have := HM.out; omega
        case rel => exact ⟨4, by have := HM.out; omega, by go_num, rfl⟩
      · have c0 : w3.cell? ⟨g, 4, none⟩ = some (.int .u8 ((z : Int) / 16777216 % 256)) := by
          have := HO3.out.cell (i := 4) (x := ((z / 16777216 % 256 : Nat) : Int)) (by rw [hiN_eq]; rfl) (j := 0) (v := .int .u8 ((z / 16777216 % 256 : Nat) : Int)) rfl
          rw [show ((z / 16777216 % 256 : Nat) : Int) = (z : Int) / 16777216 % 256 by omega] at this
          simpa using this
        go_wp2_with (fail)
        go_roundg (m - 1)
        case measure => have := HM.out; omega
        case rel => exact ⟨5, by have := HM.out; omega, by go_num, rfl⟩
      · have c0 : w3.cell? ⟨g, 5, none⟩ = some (.int .u8 ((z : Int) / 65536 % 256)) := by
          have := HO3.out.cell (i := 5) (x := ((z / 65536 % 256 : Nat) : Int)) (by rw [hiN_eq]; rfl) (j := 0) (v := .int .u8 ((z / 65536 % 256 : Nat) : Int)) rfl
          rw [show ((z / 65536 % 256 : Nat) : Int) = (z : Int) / 65536 % 256 by omega] at this
          simpa using this
        go_wp2_with (fail)
        go_roundg (m - 1)
        case measure => have := HM.out; omega
        case rel => exact ⟨6, by have := HM.out; omega, by go_num, rfl⟩
      · have c0 : w3.cell? ⟨g, 6, none⟩ = some (.int .u8 ((z : Int) / 256 % 256)) := by
          have := HO3.out.cell (i := 6) (x := ((z / 256 % 256 : Nat) : Int)) (by rw [hiN_eq]; rfl) (j := 0) (v := .int .u8 ((z / 256 % 256 : Nat) : Int)) rfl
          rw [show ((z / 256 % 256 : Nat) : Int) = (z : Int) / 256 % 256 by omega] at this
          simpa using this
        go_wp2_with (fail)
        go_roundg (m - 1)
        case measure => have := HM.out; omega
        case rel => exact ⟨7, by have := HM.out; omega, by go_num, rfl⟩
      · have c0 : w3.cell? ⟨g, 7, none⟩ = some (.int .u8 ((z : Int) % 256)) := by
          have := HO3.out.cell (i := 7) (x := ((z % 256 : Nat) : Int)) (by rw [hiN_eq]; rfl) (j := 0) (v := .int .u8 ((z % 256 : Nat) : Int)) rfl
          rw [show ((z % 256 : Nat) : Int) = (z : Int) % 256 by omega] at this
          simpa using this
        go_wp2_with (fail)
        go_roundg (m - 1)
        case measure => have := HM.out; omega
        case rel => exact ⟨8, by have := HM.out; omega, by go_num, rfl⟩
      --A]
    · obtain rfl : i = 8 := by omega
      clear hm hlt
      have RD := read_any (bs := hiN z) (cc := 8) (BSrc.ofOwn HO3.out) (by rw [hiN_len]; omega)
      rw [hiN_len] at RD
      have HRD := Lib.hid RD
      clear RD
      go_wp2_with (fail)
      refine HRD.out.mono ?_
      rintro e w4 ⟨k4, rfl, hk4, B4, L4⟩
      have RR := rReal_any L4 (hiN_byt z) (by simp only [hiN_len]; omega)
      rw [real_hi hz64, if_pos HZZ.out] at RR
      have HRR := Lib.hid RR
      have HB4 := Lib.hid (HB3.out.trans (B4.mono HB3.out.size))
      clear L4 B4 RR HRD
      go_wp2_with (fail)
      refine HRR.out.mono ?_
      rintro e w5 ⟨rfl, U5⟩
      have RDN := rDone_any U5.1
      have HDD := Lib.hid (show Calls Try.prog 18 #[.pointer (some ⟨k4, 0, none⟩)] w5 (fun e w' => e = .returned (.int .i64 0) ∧ w5 = w') from RDN)
      have HB5 := Lib.hid (show Below w.heap.size w w5 from HB4.out.trans (U5.2.toBelow (fun x hx => Nat.le_trans HB3.out.size hx.1) HB4.out.size))
      clear RDN U5 HRR
      go_wp2_with (fail)
      refine HDD.out.mono ?_
      rintro e w_ ⟨rfl, rfl⟩
      go_wp2_with (fail)
      refine wp_loop_ghost_k (fun (m : Nat) (ac : Act) (wr : World) => ∃ u1 u2 u3 u4 u5 u6 u8 u9 u10 u13 u14 u15 u16 u17 u18 u19 u20 u21 u22 u23 u24 u25 u26 u27 u28 u29 u30 u31 u32 u33 u34 u35 u36 u37 u38 u39 u40 u41 u42 u43 u44 u45 u46 u47 u48 u49 u50 u51 u52 u53 u54 u55 u56 u57 u58 u59 u60 u61 u62 u63 u64 u65 u66 u67 u68 u69 u70 u71 u72 u73 u74 u75 u76 u77 u78 u79 u80 u81 u82 u83 u84 u85 u86 u87 u88 u89 u90 u91 u92 u93 u94 u95 u96 u97 u98 u99 u100 u101 u102 u103 v11 v12 : Value, (∃ (i : Nat) (A : Option Addr) (c : Nat) (xs : List Int), m + i = 8 ∧ v12 = .int .i64 i ∧ v11 = .slice A i c ∧ xs = (hiN N).take i ∧ xs.length = i ∧ GRow bc 5 1 wr w.heap.size A c xs ∧ Below w.heap.size w wr) ∧ ac = ({ tmps := #[.int .u64 (N : Int), u1, u2, u3, u4, u5, u6, .int .u64 (z : Int), u8, u9, u10, v11, v12, u13, u14, u15, u16, u17, u18, u19, u20, u21, u22, u23, u24, u25, u26, u27, u28, u29, u30, u31, u32, u33, u34, u35, u36, u37, u38, u39, u40, u41, u42, u43, u44, u45, u46, u47, u48, u49, u50, u51, u52, u53, u54, u55, u56, u57, u58, u59, u60, u61, u62, u63, u64, u65, u66, u67, u68, u69, u70, u71, u72, u73, u74, u75, u76, u77, u78, u79, u80, u81, u82, u83, u84, u85, u86, u87, u88, u89, u90, u91, u92, u93, u94, u95, u96, u97, u98, u99, u100, u101, u102, u103], defers := [] } : Act)) (8) ?atStart ?round
      case' atStart => ((repeat apply Exists.intro); refine ⟨?_, rfl⟩)
      case' round => (intro m ac wr hcut; obtain ⟨u1, hcut⟩ := hcut; obtain ⟨u2, hcut⟩ := hcut; obtain ⟨u3, hcut⟩ := hcut; obtain ⟨u4, hcut⟩ := hcut; obtain ⟨u5, hcut⟩ := hcut; obtain ⟨u6, hcut⟩ := hcut; obtain ⟨u8, hcut⟩ := hcut; obtain ⟨u9, hcut⟩ := hcut; obtain ⟨u10, hcut⟩ := hcut; obtain ⟨u13, hcut⟩ := hcut; obtain ⟨u14, hcut⟩ := hcut; obtain ⟨u15, hcut⟩ := hcut; obtain ⟨u16, hcut⟩ := hcut; obtain ⟨u17, hcut⟩ := hcut; obtain ⟨u18, hcut⟩ := hcut; obtain ⟨u19, hcut⟩ := hcut; obtain ⟨u20, hcut⟩ := hcut; obtain ⟨u21, hcut⟩ := hcut; obtain ⟨u22, hcut⟩ := hcut; obtain ⟨u23, hcut⟩ := hcut; obtain ⟨u24, hcut⟩ := hcut; obtain ⟨u25, hcut⟩ := hcut; obtain ⟨u26, hcut⟩ := hcut; obtain ⟨u27, hcut⟩ := hcut; obtain ⟨u28, hcut⟩ := hcut; obtain ⟨u29, hcut⟩ := hcut; obtain ⟨u30, hcut⟩ := hcut; obtain ⟨u31, hcut⟩ := hcut; obtain ⟨u32, hcut⟩ := hcut; obtain ⟨u33, hcut⟩ := hcut; obtain ⟨u34, hcut⟩ := hcut; obtain ⟨u35, hcut⟩ := hcut; obtain ⟨u36, hcut⟩ := hcut; obtain ⟨u37, hcut⟩ := hcut; obtain ⟨u38, hcut⟩ := hcut; obtain ⟨u39, hcut⟩ := hcut; obtain ⟨u40, hcut⟩ := hcut; obtain ⟨u41, hcut⟩ := hcut; obtain ⟨u42, hcut⟩ := hcut; obtain ⟨u43, hcut⟩ := hcut; obtain ⟨u44, hcut⟩ := hcut; obtain ⟨u45, hcut⟩ := hcut; obtain ⟨u46, hcut⟩ := hcut; obtain ⟨u47, hcut⟩ := hcut; obtain ⟨u48, hcut⟩ := hcut; obtain ⟨u49, hcut⟩ := hcut; obtain ⟨u50, hcut⟩ := hcut; obtain ⟨u51, hcut⟩ := hcut; obtain ⟨u52, hcut⟩ := hcut; obtain ⟨u53, hcut⟩ := hcut; obtain ⟨u54, hcut⟩ := hcut; obtain ⟨u55, hcut⟩ := hcut; obtain ⟨u56, hcut⟩ := hcut; obtain ⟨u57, hcut⟩ := hcut; obtain ⟨u58, hcut⟩ := hcut; obtain ⟨u59, hcut⟩ := hcut; obtain ⟨u60, hcut⟩ := hcut; obtain ⟨u61, hcut⟩ := hcut; obtain ⟨u62, hcut⟩ := hcut; obtain ⟨u63, hcut⟩ := hcut; obtain ⟨u64, hcut⟩ := hcut; obtain ⟨u65, hcut⟩ := hcut; obtain ⟨u66, hcut⟩ := hcut; obtain ⟨u67, hcut⟩ := hcut; obtain ⟨u68, hcut⟩ := hcut; obtain ⟨u69, hcut⟩ := hcut; obtain ⟨u70, hcut⟩ := hcut; obtain ⟨u71, hcut⟩ := hcut; obtain ⟨u72, hcut⟩ := hcut; obtain ⟨u73, hcut⟩ := hcut; obtain ⟨u74, hcut⟩ := hcut; obtain ⟨u75, hcut⟩ := hcut; obtain ⟨u76, hcut⟩ := hcut; obtain ⟨u77, hcut⟩ := hcut; obtain ⟨u78, hcut⟩ := hcut; obtain ⟨u79, hcut⟩ := hcut; obtain ⟨u80, hcut⟩ := hcut; obtain ⟨u81, hcut⟩ := hcut; obtain ⟨u82, hcut⟩ := hcut; obtain ⟨u83, hcut⟩ := hcut; obtain ⟨u84, hcut⟩ := hcut; obtain ⟨u85, hcut⟩ := hcut; obtain ⟨u86, hcut⟩ := hcut; obtain ⟨u87, hcut⟩ := hcut; obtain ⟨u88, hcut⟩ := hcut; obtain ⟨u89, hcut⟩ := hcut; obtain ⟨u90, hcut⟩ := hcut; obtain ⟨u91, hcut⟩ := hcut; obtain ⟨u92, hcut⟩ := hcut; obtain ⟨u93, hcut⟩ := hcut; obtain ⟨u94, hcut⟩ := hcut; obtain ⟨u95, hcut⟩ := hcut; obtain ⟨u96, hcut⟩ := hcut; obtain ⟨u97, hcut⟩ := hcut; obtain ⟨u98, hcut⟩ := hcut; obtain ⟨u99, hcut⟩ := hcut; obtain ⟨u100, hcut⟩ := hcut; obtain ⟨u101, hcut⟩ := hcut; obtain ⟨u102, hcut⟩ := hcut; obtain ⟨u103, hcut⟩ := hcut; obtain ⟨v11, hcut⟩ := hcut; obtain ⟨v12, hcut⟩ := hcut; obtain ⟨hcut, hac⟩ := hcut; subst hac; intro _ _ _ _)
      case atStart => exact ⟨0, none, 0, [], rfl, rfl, rfl, rfl, rfl, GRow.nil, HB5.out⟩
      case round =>
        obtain ⟨i, A, c, xs, hm, rfl, rfl, hxs, hxl, G, B⟩ := hcut
        have HM := Lib.hid hm
        have HXS := Lib.hid hxs
        have HXL := Lib.hid hxl
        have HG := Lib.hid G
        have HB := Lib.hid B
        by_cases hlt : i < 8
        · clear hm hxs hxl G B
          --[B
          rcases (by omega : i = 0 ∨ i = 1 ∨ i = 2 ∨ i = 3 ∨ i = 4 ∨ i = 5 ∨ i = 6 ∨ i = 7) with rfl | rfl | rfl | rfl | rfl | rfl | rfl | rfl
          · obtain ⟨A2, c2, w7, hrun, G2, B7, _⟩ := GRow.push elBy HG.out 23 ((N : Int) / 72057594037927936) HB.out HB.out.size (by rw [HXL.out]; simp only [maxLen]; omega) (by rw [HXL.out]; omega)
            rw [HXL.out] at hrun
            have HRUN := Lib.hid hrun
            have HG2 := Lib.hid G2
            have HB7 := Lib.hid B7
            clear hrun G2 B7
            go_wp2_with (have p3 := HRUN; refine wpList_app p3.out rfl rfl rfl (by rfl) (by rfl) ?_; clear p3 HRUN)
            go_roundg (m - 1)
            case measure => have := HM.out; omega
            case rel => exact ⟨1, A2, c2, _, by have := HM.out; omega, by go_num, rfl, by rw [HXS.out, hiN_eq]; simp; omega, by rw [List.length_append, HXL.out]; rfl, HG2.out, HB7.out⟩
          · obtain ⟨A2, c2, w7, hrun, G2, B7, _⟩ := GRow.push elBy HG.out 23 ((N : Int) / 281474976710656 % 256) HB.out HB.out.size (by rw [HXL.out]; simp only [maxLen]; omega) (by rw [HXL.out]; omega)
            rw [HXL.out] at hrun
            have HRUN := Lib.hid hrun
            have HG2 := Lib.hid G2
            have HB7 := Lib.hid B7
            clear hrun G2 B7
            go_wp2_with (have p3 := HRUN; refine wpList_app p3.out rfl rfl rfl (by rfl) (by rfl) ?_; clear p3 HRUN)
            go_roundg (m - 1)
            case measure => have := HM.out; omega
            case rel => exact ⟨2, A2, c2, _, by have := HM.out; omega, by go_num, rfl, by rw [HXS.out, hiN_eq]; simp, by rw [List.length_append, HXL.out]; rfl, HG2.out, HB7.out⟩
          · obtain ⟨A2, c2, w7, hrun, G2, B7, _⟩ := GRow.push elBy HG.out 23 ((N : Int) / 1099511627776 % 256) HB.out HB.out.size (by rw [HXL.out]; simp only [maxLen]; omega) (by rw [HXL.out]; omega)
            rw [HXL.out] at hrun
            have HRUN := Lib.hid hrun
            have HG2 := Lib.hid G2
            have HB7 := Lib.hid B7
            clear hrun G2 B7
            go_wp2_with (have p3 := HRUN; refine wpList_app p3.out rfl rfl rfl (by rfl) (by rfl) ?_; clear p3 HRUN)
            go_roundg (m - 1)
            case measure => have := HM.out; omega
            case rel => exact ⟨3, A2, c2, _, by have := HM.out; omega, by go_num, rfl, by rw [HXS.out, hiN_eq]; simp, by rw [List.length_append, HXL.out]; rfl, HG2.out, HB7.out⟩
          · obtain ⟨A2, c2, w7, hrun, G2, B7, _⟩ := GRow.push elBy HG.out 23 ((N : Int) / 4294967296 % 256) HB.out HB.out.size (by rw [HXL.out]; simp only [maxLen]; omega) (by rw [HXL.out]; omega)
            rw [HXL.out] at hrun
            have HRUN := Lib.hid hrun
            have HG2 := Lib.hid G2
            have HB7 := Lib.hid B7
            clear hrun G2 B7
            go_wp2_with (have p3 := HRUN; refine wpList_app p3.out rfl rfl rfl (by rfl) (by rfl) ?_; clear p3 HRUN)
            go_roundg (m - 1)
            case measure => have := HM.out; omega
            case rel => exact ⟨4, A2, c2, _, by have := HM.out; omega, by go_num, rfl, by rw [HXS.out, hiN_eq]; simp, by rw [List.length_append, HXL.out]; rfl, HG2.out, HB7.out⟩
          · obtain ⟨A2, c2, w7, hrun, G2, B7, _⟩ := GRow.push elBy HG.out 23 ((N : Int) / 16777216 % 256) HB.out HB.out.size (by rw [HXL.out]; simp only [maxLen]; omega) (by rw [HXL.out]; omega)
            rw [HXL.out] at hrun
            have HRUN := Lib.hid hrun
            have HG2 := Lib.hid G2
            have HB7 := Lib.hid B7
            clear hrun G2 B7
            go_wp2_with (have p3 := HRUN; refine wpList_app p3.out rfl rfl rfl (by rfl) (by rfl) ?_; clear p3 HRUN)
            go_roundg (m - 1)
            case measure => have := HM.out; omega
            case rel => exact ⟨5, A2, c2, _, by have := HM.out; omega, by go_num, rfl, by rw [HXS.out, hiN_eq]; simp, by rw [List.length_append, HXL.out]; rfl, HG2.out, HB7.out⟩
          · obtain ⟨A2, c2, w7, hrun, G2, B7, _⟩ := GRow.push elBy HG.out 23 ((N : Int) / 65536 % 256) HB.out HB.out.size (by rw [HXL.out]; simp only [maxLen]; omega) (by rw [HXL.out]; omega)
            rw [HXL.out] at hrun
            have HRUN := Lib.hid hrun
            have HG2 := Lib.hid G2
            have HB7 := Lib.hid B7
            clear hrun G2 B7
            go_wp2_with (have p3 := HRUN; refine wpList_app p3.out rfl rfl rfl (by rfl) (by rfl) ?_; clear p3 HRUN)
            go_roundg (m - 1)
            case measure => have := HM.out; omega
            case rel => exact ⟨6, A2, c2, _, by have := HM.out; omega, by go_num, rfl, by rw [HXS.out, hiN_eq]; simp, by rw [List.length_append, HXL.out]; rfl, HG2.out, HB7.out⟩
          · obtain ⟨A2, c2, w7, hrun, G2, B7, _⟩ := GRow.push elBy HG.out 23 ((N : Int) / 256 % 256) HB.out HB.out.size (by rw [HXL.out]; simp only [maxLen]; omega) (by rw [HXL.out]; omega)
            rw [HXL.out] at hrun
            have HRUN := Lib.hid hrun
            have HG2 := Lib.hid G2
            have HB7 := Lib.hid B7
            clear hrun G2 B7
            go_wp2_with (have p3 := HRUN; refine wpList_app p3.out rfl rfl rfl (by rfl) (by rfl) ?_; clear p3 HRUN)
            go_roundg (m - 1)
            case measure => have := HM.out; omega
            case rel => exact ⟨7, A2, c2, _, by have := HM.out; omega, by go_num, rfl, by rw [HXS.out, hiN_eq]; simp, by rw [List.length_append, HXL.out]; rfl, HG2.out, HB7.out⟩
          · obtain ⟨A2, c2, w7, hrun, G2, B7, _⟩ := GRow.push elBy HG.out 23 ((N : Int) % 256) HB.out HB.out.size (by rw [HXL.out]; simp only [maxLen]; omega) (by rw [HXL.out]; omega)
            rw [HXL.out] at hrun
            have HRUN := Lib.hid hrun
            have HG2 := Lib.hid G2
            have HB7 := Lib.hid B7
            clear hrun G2 B7
            go_wp2_with (have p3 := HRUN; refine wpList_app p3.out rfl rfl rfl (by rfl) (by rfl) ?_; clear p3 HRUN)
            go_roundg (m - 1)
            case measure => have := HM.out; omega
            case rel => exact ⟨8, A2, c2, _, by have := HM.out; omega, by go_num, rfl, by rw [HXS.out, hiN_eq]; simp, by rw [List.length_append, HXL.out]; rfl, HG2.out, HB7.out⟩
          --B]
        · obtain rfl : i = 8 := by omega
          have hx8 : xs = hiN N := by rw [hxs, List.take_of_length_le (by rw [hiN_len]; exact Nat.le_refl 8)]
          subst hx8
          have hsrc : BSrc wr A (hiN N) := fun hne => by
            rcases HG.out with ⟨_, _, h⟩ | ⟨g', h1, _, h3⟩
            · exact absurd h hne
            · exact ⟨g', 0, h1, h3.bsAt⟩
          clear hm hlt hxs hxl G B
          have RD := read_any (bs := hiN N) (cc := c) hsrc (by rw [hiN_len]; omega)
          rw [hiN_len] at RD
          have HRD := Lib.hid RD
          clear RD hsrc
          go_wp2_with (fail)
          refine HRD.out.mono ?_
          rintro e w7 ⟨k7, rfl, hk7, B7, L7⟩
          have RR := rReal_any L7 (hiN_byt N) (by simp only [hiN_len]; omega)
          rw [real_hi hN, ← HZ.out] at RR
          have HRR := Lib.hid RR
          have HB7 := Lib.hid (HB.out.trans (B7.mono HB.out.size))
          have hs7 := B7.size
          clear L7 B7 RR HRD
          go_wp2_with (fail)
          by_cases hzn : z = N
          · have h := HRR.out
            rw [if_pos hzn] at h
            have HR2 := Lib.hid h
            subst hzn
            clear h HRR
            refine HR2.out.mono ?_
            rintro e w8 ⟨rfl, U8⟩
            have HDD := Lib.hid (show Calls Try.prog 18 #[.pointer (some ⟨k7, 0, none⟩)] w8 (fun e w' => e = .returned (.int .i64 0) ∧ w8 = w') from rDone_any U8.1)
            have HB8 := Lib.hid (show Below w.heap.size w w8 from HB7.out.trans (U8.2.toBelow (fun x hx => Nat.le_trans HB.out.size hx.1) HB7.out.size))
            clear U8
            go_wp2_with (fail)
            refine HDD.out.mono ?_
            rintro e w_ ⟨rfl, rfl⟩
            go_wp2_with (fail)
            go_ret
            exact ⟨rfl, HB8.out⟩
          · have h := HRR.out
            rw [if_neg hzn] at h
            have HR2 := Lib.hid h
            have t3 : ((N : Int) != (z : Int)) = true := by simp; omega
            clear h HRR hzn
            refine HR2.out.mono ?_
            rintro e w8 ⟨rfl, U8⟩
            have HDD := Lib.hid (show Calls Try.prog 18 #[.pointer (some ⟨k7, 0, none⟩)] w8 (fun e w' => e = .returned (.int .i64 11) ∧ w8 = w') from rDone_any U8.1)
            have HB8 := Lib.hid (show Below w.heap.size w w8 from HB7.out.trans (U8.2.toBelow (fun x hx => Nat.le_trans HB.out.size hx.1) HB7.out.size))
            clear U8
            go_wp2_with (fail)
            refine HDD.out.mono ?_
            rintro e w_ ⟨rfl, rfl⟩
            go_wp2_with (fail)
            go_ret
            exact ⟨rfl, HB8.out⟩
theorem reals_walk (w : World) (n : Int) (hn : (Lit.int .u64 n).wf = true) :
    Calls Try.prog 5 #[.int .u64 n] w fun e w' => e = .returned (.bool true) ∧ Below w.heap.size w w' := by
  simp only [Lit.wf, Bool.and_eq_true, decide_eq_true_eq] at hn
  have h1 : IntKind.u64.min = 0 := by decide
  have h2 : IntKind.u64.max = 18446744073709551615 := by decide
  obtain ⟨N, rfl⟩ := Int.eq_ofNat_of_zero_le (show 0 ≤ n by omega)
  exact reals_1 N (by omega) w
namespace parcelReals
open Go.ChangeShapes Go.WideShapes Go.ChangeAt Go.RowKit
open Go.ChangeMaps (open_string shut_string)
theorem own : ownKnob Try.prog.godebug = none := by kernel_rfl
theorem laidOut : laidOutB Try.prog = true := by kernel_rfl
set_option maxRecDepth 100000 in
theorem lifted (os : Os) (started : os.Started) (H : Type) (enc : TypeId × Value → H) :
    ReturnsInHanded {} Try.checked os 5 .any (Rows.parcelRealsSpec.pre6 enc Try.prog Try.f5 Rows.parcelRealsRow.domain false) (Rows.parcelRealsSpec.post enc Try.prog Try.f5 false true false false) := by
  refine returnsInHanded_of_change_sized (C := Try.checked) own started (by kernel_rfl) Try.func5
    (ChangeSpec.witness6 (enc := enc) (C := Try.checked) false ⟨#[], #[.int .u64 0], []⟩ 8 (by kernel_rfl) (by kernel_rfl) (by kernel_rfl) (by kernel_rfl)) ?_
  intro W base args ds gs before hval0 hW hcnd hsz0 _
  have hsz : (DataW.weightsEach Try.prog (Try.f5.params.toList ++ Rows.parcelRealsSpec.plain.varTypes Try.prog) (ds ++ gs)).all (· ≤ reachBytes) = true := hsz0
  have hval : ∀ (j : Nat) t v, Try.f5.params[j]? = some t → args[j]? = some v → Value.okWide Try.prog W .any base t v := hval0
  have hW' := hW
  obtain ⟨p, q, hA0, hV, rfl, hfz, hnd⟩ := hW
  have hA : DataW.TrodAll enc Try.prog W 0 (fun _ => true) true Try.f5.params.toList args.toList ds p := hA0
  rw [Try.params5] at hA hval hsz
  obtain ⟨v0, vs0, d0, ds0, p0, q0, hargs, rfl, rfl, h0, r0⟩ := trodAll_cons hA
  obtain ⟨rfl, rfl, rfl⟩ := trodAll_nil r0
  obtain rfl : args = #[v0] := by cases args; simp_all
  obtain ⟨rfl, rfl⟩ := trodVars_none hV
  obtain ⟨a0, rfl, rfl, rfl, w0⟩ := open_int Try.underlying22 (hval 0 22 v0 rfl rfl) h0
  clear hA0 hval0 hsz0 hsz
  refine (reals_walk W a0 w0).mono fun e W' ⟨he, bel⟩ => ?_
  subst he
  exact ⟨_, rfl, _, _, _, [], _, [], hW', trodAll_mk1 (shut_bool Try.underlying4 _), (trodAll_cons_mk (shut_int Try.underlying22 w0) trodAll_mk0), rfl, bel.frame _, fun h => by cases h⟩
theorem over : Rows.parcelRealsRow.holds Try.pinned (OpenSpec.ofChange Rows.parcelRealsSpec) :=
  OpenClaim.holds_of_wide 5 Try.f5 rfl rfl rfl rfl rfl rfl rfl ⟨rfl, rfl, rfl, rfl, rfl⟩ rfl rfl rfl rfl rfl (by kernel_rfl) Try.func5 (by kernel_rfl)
    (of_decide_eq_true (by kernel_rfl)) (by unfold Func.isWrapper; first | (rw [if_pos (by decide +kernel)]; kernel_rfl) | (rw [if_neg (by decide +kernel)]; exact ⟨rfl, rfl⟩))
    (fun os started H enc _ => lifted os started H enc)
theorem proved : Rows.ParcelRealsSaid := over
end parcelReals
theorem parcelReals_holds : Rows.ParcelRealsSaid := parcelReals.proved
#print axioms parcelReals_holds
end Go.Proofs.Ytibelfljlhcibaa
