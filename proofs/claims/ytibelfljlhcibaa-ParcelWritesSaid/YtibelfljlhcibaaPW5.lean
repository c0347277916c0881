/- Writers: Real. -/
import Derived.Test.YtibelfljlhcibaaPW4
import Derived.Laws.Externs
import Derived.RegionTactic
namespace Go.Proofs.Ytibelfljlhcibaa
set_option linter.unusedVariables false
set_option linter.unusedSimpArgs false
open Go.RowKit Go.Deep Go.Proofs.YtibelfljlhcibaaW.PrintLast

/-- zs is ys, the first i and the last i exchanged. -/
def RevI (ys : List Int) (i : Nat) (zs : List Int) : Prop := zs.length = ys.length ∧ ∀ p, p < ys.length → zs[p]? = if p < i ∨ ys.length ≤ p + i then ys[ys.length - 1 - p]? else ys[p]?
theorem RevI.zero (ys : List Int) : RevI ys 0 ys := ⟨rfl, fun p hp => by rw [if_neg (by omega)]⟩
theorem RevI.done {ys zs : List Int} {i j : Nat} (h : RevI ys i zs) (hn : i + j + 1 = ys.length) (hij : j ≤ i) (hji : i ≤ j + 1) : zs = ys.reverse := by
  apply List.ext_getElem?
  intro p
  by_cases hp : p < ys.length
  · rw [h.2 p hp, List.getElem?_reverse hp]
    split
    · rfl
    · rw [show ys.length - 1 - p = p by omega]
  · rw [List.getElem?_eq_none (by rw [h.1]; omega), List.getElem?_eq_none (by rw [List.length_reverse]; omega)]
theorem RevI.step {ys zs : List Int} {i j : Nat} (h : RevI ys i zs) (hn : i + j + 1 = ys.length) (hij : i < j) {a b : Int} (ha : zs[i]? = some a) (hb : zs[j]? = some b) : RevI ys (i + 1) ((zs.set i b).set j a) := by
  have hl := h.1
  have ha' := h.2 i (by omega)
  rw [if_neg (by omega), ha] at ha'
  have hb' := h.2 j (by omega)
  rw [if_neg (by omega), hb] at hb'
  refine ⟨by rw [List.length_set, List.length_set]; exact hl, fun p hp => ?_⟩
  rw [List.getElem?_set, List.getElem?_set]
  simp only [List.length_set]
  by_cases hpj : j = p
  · subst hpj
    rw [if_pos rfl, if_pos (by omega), if_pos (by omega), show ys.length - 1 - j = i by omega]
    exact ha'
  · rw [if_neg hpj]
    by_cases hpi : i = p
    · subst hpi
      rw [if_pos rfl, if_pos (by omega), if_pos (by omega), show ys.length - 1 - i = j by omega]
      exact hb'
    · rw [if_neg hpi, h.2 p hp]
      by_cases hc : p < i ∨ ys.length ≤ p + i
      · rw [if_pos hc, if_pos (by omega)]
      · rw [if_neg hc, if_neg (by omega)]
set_option maxRecDepth 100000 in
set_option maxHeartbeats 2000000 in
theorem rev_any {w : World} {e : TypeId} {g c : Nat} {ys : List Int} (O : Own bc e 1 w g c ys) (hl : ys.length ≤ 1000000) (hne : ys ≠ []) :
    Calls Try.prog 66 #[.slice (some ⟨g, 0, none⟩) ys.length c] w fun e' w' => e' = .returned (.tuple #[]) ∧ Own bc e 1 w' g c ys.reverse ∧ w.grownBy w' (some g) := by
  have HO := Lib.hid O
  have hpos := List.length_pos_iff.2 hne
  clear O hne
  go_enter Try.func66, Try.ntmps66
  go_wp2_with (fail)
  refine wp_loop_ghost_k (fun (m : Nat) (ac : Act) (wr : World) => ∃ u1 u4 u5 u6 u7 u8 u9 u10 u11 u12 u13 u14 u15 u16 u17 u18 u19 u20 u21 u22 u23 u24 u25 u26 u27 v2 v3 : Value, (∃ (i j : Nat) (zs : List Int), m + i = ys.length ∧ v2 = .int .i64 i ∧ v3 = .int .i64 j ∧ i + j + 1 = ys.length ∧ i ≤ j + 1 ∧ RevI ys i zs ∧ Own bc e 1 wr g c zs ∧ w.grownBy wr (some g)) ∧ ac = ({ tmps := #[.slice (some ⟨g, 0, none⟩) ys.length c, u1, v2, v3, u4, u5, u6, u7, u8, u9, u10, u11, u12, u13, u14, u15, u16, u17, u18, u19, u20, u21, u22, u23, u24, u25, u26, u27], defers := [] } : Act)) (ys.length) ?atStart ?round
  case' atStart => ((repeat apply Exists.intro); refine ⟨?_, rfl⟩)
  case' round => (intro m ac wr hcut; obtain ⟨u1, hcut⟩ := hcut; obtain ⟨u4, hcut⟩ := hcut; obtain ⟨u5, hcut⟩ := hcut; obtain ⟨u6, hcut⟩ := hcut; obtain ⟨u7, hcut⟩ := hcut; obtain ⟨u8, hcut⟩ := hcut; obtain ⟨u9, hcut⟩ := hcut; obtain ⟨u10, hcut⟩ := hcut; obtain ⟨u11, hcut⟩ := hcut; obtain ⟨u12, hcut⟩ := hcut; obtain ⟨u13, hcut⟩ := hcut; obtain ⟨u14, hcut⟩ := hcut; obtain ⟨u15, hcut⟩ := hcut; obtain ⟨u16, hcut⟩ := hcut; obtain ⟨u17, hcut⟩ := hcut; obtain ⟨u18, hcut⟩ := hcut; obtain ⟨u19, hcut⟩ := hcut; obtain ⟨u20, hcut⟩ := hcut; obtain ⟨u21, hcut⟩ := hcut; obtain ⟨u22, hcut⟩ := hcut; obtain ⟨u23, hcut⟩ := hcut; obtain ⟨u24, hcut⟩ := hcut; obtain ⟨u25, hcut⟩ := hcut; obtain ⟨u26, hcut⟩ := hcut; obtain ⟨u27, hcut⟩ := hcut; obtain ⟨v2, hcut⟩ := hcut; obtain ⟨v3, hcut⟩ := hcut; obtain ⟨hcut, hac⟩ := hcut; subst hac; intro _ _ _ _)
  case atStart => exact ⟨0, ys.length - 1, ys, rfl, rfl, by go_num, by omega, by omega, RevI.zero ys, HO.out, grown_refl _ _⟩
  case round =>
    obtain ⟨i, j, zs, hm, rfl, rfl, hij, hji, R, O, G⟩ := hcut
    have HM := Lib.hid hm
    have HIJ := Lib.hid hij
    have HR := Lib.hid R
    have HOz := Lib.hid O
    have HG := Lib.hid G
    have hzl := R.1
    by_cases hlt : i < j
    · obtain ⟨a, ha⟩ : ∃ y, zs[i]? = some y := ⟨_, List.getElem?_eq_getElem (by omega)⟩
      obtain ⟨b, hb⟩ : ∃ y, zs[j]? = some y := ⟨_, List.getElem?_eq_getElem (by omega)⟩
      have ca : wr.cell? ⟨g, i, none⟩ = some (.int .u8 a) := by have := O.cell ha (j := 0) (v := .int .u8 a) rfl; simpa using this
      have cb : wr.cell? ⟨g, j, none⟩ = some (.int .u8 b) := by have := O.cell hb (j := 0) (v := .int .u8 b) rfl; simpa using this
      have fa := O.free i
      have fb := O.free j
      have d1 : (wr.setCell ⟨g, i, none⟩ (.int .u8 b)).cell? ⟨g, j, none⟩ = some (.int .u8 b) := by
        have := (Own.set1 bc_len O (i := i) (x := b) (by omega) rfl).cell (i := j) (x := b) (by rw [List.getElem?_set_ne (by omega)]; exact hb) (j := 0) (v := .int .u8 b) rfl
        simpa using this
      have d2 : (wr.setCell ⟨g, j, none⟩ (.int .u8 a)).cell? ⟨g, i, none⟩ = some (.int .u8 a) := by
        have := (Own.set1 bc_len O (i := j) (x := a) (by omega) rfl).cell (i := i) (x := a) (by rw [List.getElem?_set_ne (by omega)]; exact ha) (j := 0) (v := .int .u8 a) rfl
        simpa using this
      have S1 := Lib.hid (Own.set1 bc_len (Own.set1 bc_len O (i := i) (x := b) (by omega) (v := .int .u8 b) rfl) (i := j) (x := a) (by rw [List.length_set]; omega) (v := .int .u8 a) rfl)
      have S2 := Lib.hid (Own.set1 bc_len (Own.set1 bc_len O (i := j) (x := a) (by omega) (v := .int .u8 a) rfl) (i := i) (x := b) (by rw [List.length_set]; omega) (v := .int .u8 b) rfl)
      have HST := Lib.hid (R.step hij hlt ha hb)
      have q1 : (i : Int) < (ys.length : Int) := by omega
      have q2 : (j : Int) < (ys.length : Int) := by omega
      have q3 : i ≤ 1000000 := by omega
      have q4 : j ≤ 1000000 := by omega
      have z1 : decide (i < j) = true := by simp; omega
      have HLT := Lib.hid hlt
      clear hm hij R O G ha hb hzl hji
      go_upto_region 3 with (fail)
      clear hlt z1
      go_region
      all_goals
        go_wp2_with (fail)
        go_roundg (m - 1)
        case measure => have := HM.out; have := HLT.out; omega
        case rel =>
          have hlt' := HLT.out
          have hij' := HIJ.out
          refine ⟨i + 1, j - 1, _, by have := HM.out; omega, by go_num, by go_num, by omega, by omega, HST.out, S1.out.drew, ?_⟩
          have G2 := grown_trans HG.out (grown_trans (grown_set wr g i (.int .u8 b)) (grown_set _ g j (.int .u8 a)))
          exact ⟨G2.os, G2.tape, G2.output, G2.size, G2.block⟩
    · have hz := R.done hij (by omega) hji
      have HZ := Lib.hid hz
      have z1 : decide (i < j) = false := by simp; omega
      have q3 : i ≤ 1000000 := by omega
      have q4 : j ≤ 1000000 := by omega
      clear hz hm hij R O G
      go_wp2_with (fail)
      go_end0
      refine ⟨rfl, ?_, HG.out⟩
      rw [← HZ.out]
      exact HOz.out
theorem floatEq_self (x : Nat) : Op.floatEq .f64 x x = !oddBits x := by
  have e1 : FloatKind.f64.format = Ieee.double := rfl
  unfold Op.floatEq Ieee.Format.order
  rw [e1]
  have b1 : Ieee.double.signWeight = 9223372036854775808 := by decide
  have b2 : Ieee.double.binade = 4503599627370496 := by decide
  have b3 : Ieee.double.infRung = 9218868437227405312 := by decide
  unfold Ieee.Format.read oddBits
  rw [b1, b2, b3]
  simp only
  by_cases h1 : x % 9223372036854775808 < 4503599627370496
  · rw [if_pos h1]
    simp [Ieee.Datum.order]
    omega
  · rw [if_neg h1]
    by_cases h2 : x % 9223372036854775808 < 9218868437227405312
    · rw [if_pos h2]
      simp [Ieee.Datum.order]
      omega
    · rw [if_neg h2]
      by_cases h3 : x % 9223372036854775808 = 9218868437227405312
      · rw [if_pos h3]
        simp [Ieee.Datum.order, h3]
      · rw [if_neg h3]
        simp [Ieee.Datum.order]
        omega
section
variable {w : World} {F : Nat → Prop} {k : Nat} {s : WS}
set_option maxRecDepth 100000 in
set_option maxHeartbeats 2000000 in
theorem wReal_any (h : WLies TW w F k s) (hok : s.Ok) (b : Nat) (hb : b < 18446744073709551616) (h63 : s.bs.length + 8 ≤ 140737488355328) :
    Calls Try.prog 27 #[.pointer (some ⟨k, 0, none⟩), .float .f64 b] w fun e w' => e = .returned (.tuple #[]) ∧ UpdW TW F k w w' (s.real b) := by
  have hcf : ∀ w, (callFunc 29 #[.float .f64 b]).run Try.prog w = .ok (.value (.int .u64 (b : Int))) w := fun w => by
    rw [run_callFunc_extern Try.func29 (by kernel_rfl) (by kernel_rfl) (by kernel_rfl) (e := Extern.MathFloatBits.float64bits) (by kernel_rfl)]
    rfl
  have H := Lib.hid h
  have HO := Lib.hid hok
  have fe : (FloatKind.f64.format.order b b != some Ordering.eq) = oddBits b := by
    have := floatEq_self b
    unfold Op.floatEq at this
    rw [bne, this, Bool.not_not]
  obtain ⟨z, hz, hz64⟩ : ∃ z : Nat, cleanBits b = z ∧ z < 18446744073709551616 := ⟨_, rfl, by unfold cleanBits nanBits; split <;> omega⟩
  have O0 : Own bc 94 1 (w.alloc (.cells #[.int .u8 0, .int .u8 0, .int .u8 0, .int .u8 0, .int .u8 0, .int .u8 0, .int .u8 0, .int .u8 0] 94)) w.heap.size 8 (List.replicate 8 0) :=
    Own.fresh w (by decide) _ rfl _ (by simp) (fun i x hx j v hv => by
      have hi : i < 8 := by have := (List.getElem?_eq_some_iff.1 hx).1; simpa using this
      have hj : j = 0 := by have := (List.getElem?_eq_some_iff.1 hv).1; simp [bc] at this; omega
      subst hj
      rw [List.getElem?_replicate, if_pos hi] at hx
      injection hx with hx; subst hx
      simp [bc] at hv; subst hv
      rcases (by omega : i = 0 ∨ i = 1 ∨ i = 2 ∨ i = 3 ∨ i = 4 ∨ i = 5 ∨ i = 6 ∨ i = 7) with rfl | rfl | rfl | rfl | rfl | rfl | rfl | rfl <;> rfl)
  have B0 : Below w.heap.size w (w.alloc (.cells #[.int .u8 0, .int .u8 0, .int .u8 0, .int .u8 0, .int .u8 0, .int .u8 0, .int .u8 0, .int .u8 0] 94)) := (Below.refl _ _).alloc (Nat.le_refl _) _
  have DN := down_u64 O0 (by simp) z hz64
  simp only [List.length_replicate] at DN
  have HD := Lib.hid DN
  have HB0 := Lib.hid B0
  have HS := Lib.hid (show s.real b = s.lay (lowN 8 z).reverse by unfold WS.real; rw [hz])
  have hzz : z = if oddBits b then 9221120237041090560 else b := by rw [← hz]; rfl
  obtain ⟨t, ht⟩ := named (oddBits b)
  rw [ht] at fe hzz
  have HZZ := Lib.hid hzz
  clear h hok hz DN O0 B0 hzz ht
  go_enter Try.func27, Try.ntmps27
  cases t with
  | true =>
    have := HZZ.out
    rw [if_pos rfl] at this
    subst this
    go_wp2_with (fail)
    refine HD.out.mono ?_
    rintro e w1 ⟨rfl, O1, G1⟩
    have B1 : Below w.heap.size w w1 := HB0.out.grown G1 HB0.out.size (by intro k hk; injection hk with hk; omega)
    have RV := rev_any O1 (by rw [lowN_len]; omega) (by intro h; have := lowN_len 8 9221120237041090560; rw [h] at this; simp at this)
    rw [lowN_len] at RV
    have HRV := Lib.hid RV
    have HB1 := Lib.hid B1
    clear O1 G1 B1 RV
    go_wp2_with (fail)
    refine HRV.out.mono ?_
    rintro e w2 ⟨rfl, O2, G2⟩
    have B2 : Below w.heap.size w w2 := HB1.out.grown G2 HB1.out.size (by intro k hk; injection hk with hk; omega)
    have hr8 : (lowN 8 9221120237041090560).reverse.length = 8 := by rw [List.length_reverse, lowN_len]
    have LY := lay_any (H.out.below B2) HO.out.room0 HO.out.room1 HO.out.fit (cc := 8) (BSrc.ofAt (g := w.heap.size) (o := 0) (fun j x hx => by have := O2.cell hx (j := 0) (v := .int .u8 x) rfl; simpa using this)) (ys := (lowN 8 9221120237041090560).reverse) (by rw [hr8]; omega)
    rw [hr8] at LY
    have HL := Lib.hid LY
    have HB2 := Lib.hid B2
    clear O2 G2 B2 LY hr8
    go_wp2_with (fail)
    refine HL.out.mono ?_
    rintro e w3 ⟨rfl, U⟩
    go_wp2_with (fail)
    go_end0
    exact ⟨rfl, by rw [HS.out]; exact UpdW.after HB2.out U⟩
  | false =>
    have := HZZ.out
    rw [if_neg (by decide)] at this
    subst this
    go_wp2_with (fail)
    refine HD.out.mono ?_
    rintro e w1 ⟨rfl, O1, G1⟩
    have B1 : Below w.heap.size w w1 := HB0.out.grown G1 HB0.out.size (by intro k hk; injection hk with hk; omega)
    have RV := rev_any O1 (by rw [lowN_len]; omega) (by intro h; have := lowN_len 8 z; rw [h] at this; simp at this)
    rw [lowN_len] at RV
    have HRV := Lib.hid RV
    have HB1 := Lib.hid B1
    clear O1 G1 B1 RV
    go_wp2_with (fail)
    refine HRV.out.mono ?_
    rintro e w2 ⟨rfl, O2, G2⟩
    have B2 : Below w.heap.size w w2 := HB1.out.grown G2 HB1.out.size (by intro k hk; injection hk with hk; omega)
    have hr8 : (lowN 8 z).reverse.length = 8 := by rw [List.length_reverse, lowN_len]
    have LY := lay_any (H.out.below B2) HO.out.room0 HO.out.room1 HO.out.fit (cc := 8) (BSrc.ofAt (g := w.heap.size) (o := 0) (fun j x hx => by have := O2.cell hx (j := 0) (v := .int .u8 x) rfl; simpa using this)) (ys := (lowN 8 z).reverse) (by rw [hr8]; omega)
    rw [hr8] at LY
    have HL := Lib.hid LY
    have HB2 := Lib.hid B2
    clear O2 G2 B2 LY hr8
    go_wp2_with (fail)
    refine HL.out.mono ?_
    rintro e w3 ⟨rfl, U⟩
    go_wp2_with (fail)
    go_end0
    exact ⟨rfl, by rw [HS.out]; exact UpdW.after HB2.out U⟩
end
end Go.Proofs.Ytibelfljlhcibaa
