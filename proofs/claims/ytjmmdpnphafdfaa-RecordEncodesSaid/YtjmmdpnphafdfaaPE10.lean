/- The reference's reader: Byte, number, Num, Text. -/
import Derived.Test.YtjmmdpnphafdfaaPE9
import Derived.Test.YtjmmdpnphafdfaaPR3
namespace Go.Proofs.Ytjmmdpnphafdfaa
set_option linter.unusedVariables false
set_option linter.unusedSimpArgs false
open Go.RowKit Go.Deep Go.Proofs.YtjmmdpnphafdfaaW.PrintLast

section
variable {w w' w1 w2 : World} {F G : Nat → Prop} {k : Nat} {s s' : RS}
/-- bytes, of one byte. -/
theorem refBytes1_any (h : RefLies w F k s) (h47 : s.left.length ≤ 140737488355328) :
    Calls Try.prog 46 #[.pointer (some ⟨k, 0, none⟩), .int .i64 1] w fun e w' => match s.left with
      | [] => e = .returned (.slice none 0 0) ∧ UpdQ F k w w' s.short
      | x :: t => (∃ g c, e = .returned (.slice (some ⟨g, 0, none⟩) 1 c) ∧ w'.cell? ⟨g, 0, none⟩ = some (.int .u8 x)) ∧ UpdQ F k w w' { s with left := t } := by
  refine (show Calls _ _ #[_, .int .i64 1] w _ from refBytes_any h 1 (by omega) h47).mono fun e w' hn => ?_
  unfold BytesP RS.next at hn
  cases hl : s.left with
  | nil =>
    rw [hl] at hn
    rw [if_neg (by simp)] at hn
    exact ⟨hn.1, hn.2⟩
  | cons x t =>
    rw [hl] at hn
    rw [if_pos (by simp)] at hn
    obtain ⟨⟨A, c, rfl, hb⟩, hu⟩ := hn
    obtain ⟨g, rfl, hc⟩ := hb.cell (i := 0) (x := x) (by simp) (j := 0) (v := .int .u8 x) (by simp [bc])
    exact ⟨⟨g, c, by simp, by simpa using hc⟩, by simpa using hu⟩
theorem RefLies.ftCell (h : RefLies w F k s) : w.cell? ⟨k, 3, none⟩ = some (.int .i64 s.ft) ∧ w.frozen? ⟨k, 3, none⟩ = false := by
  obtain ⟨p, i, es, A, c, EA, ec, h1, _⟩ := h
  exact ⟨cell_blk h1 3 rfl, free_blk h1 3⟩
set_option maxHeartbeats 2000000 in
theorem refRByte_any (h : RefLies w F k s) (hb : Byt s.left) (h47 : s.left.length ≤ 140737488355328) :
    Calls Try.prog 28 #[.pointer (some ⟨k, 0, none⟩)] w fun e w' => e = .returned (.int .i64 s.byte.1) ∧ UpdQ F k w w' s.byte.2 := by
  have DE := Lib.hid (refRDead_any h)
  have BY := Lib.hid (refBytes1_any h h47)
  have H := Lib.hid h
  have HB := Lib.hid hb
  obtain ⟨left, outer, ft⟩ := s
  simp only at DE BY HB
  clear h hb h47
  by_cases hf : ft = 0
  · subst hf
    cases left with
    | nil =>
      go_enter Try.func28, Try.ntmps28
      go_wp2_with (go_at_call 45; refine DE.out.mono ?_; rintro e w_ ⟨rfl, rfl⟩)
      refine BY.out.mono ?_
      rintro e w2 ⟨rfl, U2⟩
      obtain ⟨c3, _⟩ := U2.1.ftCell
      simp only [RS.short] at c3
      have HU := Lib.hid U2
      clear U2
      go_wp2_with (fail)
      go_ret
      exact ⟨rfl, HU.out⟩
    | cons x t =>
      have hx := HB.out x List.mem_cons_self
      obtain ⟨x0, x1⟩ := hx
      go_enter Try.func28, Try.ntmps28
      go_wp2_with (go_at_call 45; refine DE.out.mono ?_; rintro e w_ ⟨rfl, rfl⟩)
      refine BY.out.mono ?_
      rintro e w2 ⟨⟨g, c, rfl, y0⟩, U2⟩
      obtain ⟨c3, _⟩ := U2.1.ftCell
      simp only at c3
      have HU := Lib.hid U2
      clear U2
      go_wp2_with (fail)
      go_ret
      exact ⟨by go_num, HU.out⟩
  · have e1 : (RS.mk left outer ft).byte = (0, RS.mk left outer ft) := by unfold RS.byte; rw [if_neg hf]
    have hne : (ft != 0) = true := by simpa using hf
    rw [e1]
    rw [hne] at DE
    go_enter Try.func28, Try.ntmps28
    go_wp2_with (go_at_call 45; refine DE.out.mono ?_; rintro e w_ ⟨rfl, rfl⟩)
    go_ret
    exact ⟨rfl, UpdQ.refl H.out⟩
theorem num_step (j n : Nat) (c : Int) (hj : j ≤ 9) (hn : n < 128 ^ j) (c0 : 0 ≤ c) (c1 : c < 256) (h : ¬ ((j = 9 ∧ 1 < c) ∨ (0 < j ∧ c = 0))) :
    IntKind.u64.wrap ((n : Int) + IntKind.u64.wrap (128 ^ j * (c % 128))) = ((n + (c % 128).toNat * 128 ^ j : Nat) : Int) := by
  obtain ⟨x, hx⟩ : ∃ x : Nat, c % 128 = x := ⟨(c % 128).toNat, by omega⟩
  have hq : ((128 : Int) ^ j) = ((128 ^ j : Nat) : Int) := by push_cast; rfl
  have hx2 : j = 9 → x ≤ 1 := by intro; omega
  have hx1 : x ≤ 127 := by omega
  rw [hx, hq, Int.toNat_natCast]
  have hb : x * 128 ^ j ≤ 127 * 72057594037927936 ∨ (128 ^ j = 9223372036854775808 ∧ x ≤ 1) := by
    by_cases h9 : j = 9
    · exact Or.inr ⟨by subst h9; decide, hx2 h9⟩
    · exact Or.inl (Nat.mul_le_mul hx1 (Nat.le_trans (Nat.pow_le_pow_right (by decide) (by omega : j ≤ 8)) (by decide)))
  have hp9 : 128 ^ j ≤ 9223372036854775808 := Nat.le_trans (Nat.pow_le_pow_right (by decide) hj) (by decide)
  generalize 128 ^ j = q at *
  have e : (q : Int) * (x : Int) = ((x * q : Nat) : Int) := by rw [Nat.mul_comm]; push_cast; rfl
  rw [e]
  have hy : x * q ≤ 9223372036854775808 + 0 ∨ x * q ≤ 127 * 72057594037927936 := by
    rcases hb with hb | ⟨rfl, hb⟩
    · exact Or.inr hb
    · left; omega
  generalize x * q = y at *
  have e1 : IntKind.u64.wrap (y : Int) = y := IntWalk.u64_in _ (by omega)
  rw [e1, IntWalk.u64_in _ (by omega)]
  omega
theorem scale_step (j : Nat) (h : j ≤ 8) : IntKind.u64.wrap (128 * 128 ^ j) = ((128 ^ (j + 1) : Nat) : Int) := by
  have h8 : 128 ^ j ≤ 72057594037927936 := Nat.le_trans (Nat.pow_le_pow_right (by decide) h) (by decide)
  have hq : ((128 : Int) ^ j) = ((128 ^ j : Nat) : Int) := by push_cast; rfl
  rw [hq, Nat.pow_succ]
  generalize 128 ^ j = q at *
  rw [IntWalk.u64_in _ (by omega)]
  omega
theorem pow128 {j : Nat} (hj : j ≤ 9) : 128 ^ j ≤ 9223372036854775808 := Nat.le_trans (Nat.pow_le_pow_right (by decide) hj) (by decide)
set_option maxRecDepth 100000 in
set_option maxHeartbeats 4000000 in
theorem refNumber_any (h : RefLies w F k s) (hft : s.ft = 0) (hb : Byt s.left) (h47 : s.left.length ≤ 140737488355328) :
    Calls Try.prog 47 #[.pointer (some ⟨k, 0, none⟩)] w fun e w' => e = .returned (.int .u64 (s.num.1 : Nat)) ∧ UpdQ F k w w' s.num.2 := by
  have H := Lib.hid h
  have HB := Lib.hid hb
  have HFT := Lib.hid hft
  have H47 := Lib.hid h47
  have U0 := Lib.hid (show UpdQ F k w w { s with left := s.left } from UpdQ.refl h)
  clear h hb hft h47
  go_enter Try.func47, Try.ntmps47
  go_wp2_with (fail)
  refine wp_loop_ghost_k (fun (m : Nat) (ac : Act) (wr : World) => ∃ u1 u2 u6 u7 u8 u9 u10 u11 u12 u13 u14 u15 u16 u17 u18 u19 u20 u21 u22 u23 u24 u25 u26 u27 u28 u29 u30 u31 u32 u33 u34 u35 u36 u37 u38 u39 u40 u41 u42 u43 u44 u45 u46 u47 u48 u49 u50 v3 v4 v5 : Value, (∃ (j n : Nat) (l : List Int), m + j = 10 ∧ v3 = .int .u64 n ∧ v4 = .int .u64 (128 ^ j : Nat) ∧ v5 = .int .i64 j ∧ readN j n l = readN 0 0 s.left ∧ n < 128 ^ j ∧ j ≤ 9 ∧ UpdQ F k w wr { s with left := l } ∧ Byt l ∧ l.length ≤ s.left.length) ∧ ac = ({ tmps := #[.pointer (some ⟨k, 0, none⟩), u1, u2, v3, v4, v5, u6, u7, u8, u9, u10, u11, u12, u13, u14, u15, u16, u17, u18, u19, u20, u21, u22, u23, u24, u25, u26, u27, u28, u29, u30, u31, u32, u33, u34, u35, u36, u37, u38, u39, u40, u41, u42, u43, u44, u45, u46, u47, u48, u49, u50], defers := [] } : Act)) (10) ?atStart ?round
  case' atStart => ((repeat apply Exists.intro); refine ⟨?_, rfl⟩)
  case' round => (intro m ac wr hcut; obtain ⟨u1, hcut⟩ := hcut; obtain ⟨u2, hcut⟩ := hcut; obtain ⟨u6, hcut⟩ := hcut; obtain ⟨u7, hcut⟩ := hcut; obtain ⟨u8, hcut⟩ := hcut; obtain ⟨u9, hcut⟩ := hcut; obtain ⟨u10, hcut⟩ := hcut; obtain ⟨u11, hcut⟩ := hcut; obtain ⟨u12, hcut⟩ := hcut; obtain ⟨u13, hcut⟩ := hcut; obtain ⟨u14, hcut⟩ := hcut; obtain ⟨u15, hcut⟩ := hcut; obtain ⟨u16, hcut⟩ := hcut; obtain ⟨u17, hcut⟩ := hcut; obtain ⟨u18, hcut⟩ := hcut; obtain ⟨u19, hcut⟩ := hcut; obtain ⟨u20, hcut⟩ := hcut; obtain ⟨u21, hcut⟩ := hcut; obtain ⟨u22, hcut⟩ := hcut; obtain ⟨u23, hcut⟩ := hcut; obtain ⟨u24, hcut⟩ := hcut; obtain ⟨u25, hcut⟩ := hcut; obtain ⟨u26, hcut⟩ := hcut; obtain ⟨u27, hcut⟩ := hcut; obtain ⟨u28, hcut⟩ := hcut; obtain ⟨u29, hcut⟩ := hcut; obtain ⟨u30, hcut⟩ := hcut; obtain ⟨u31, hcut⟩ := hcut; obtain ⟨u32, hcut⟩ := hcut; obtain ⟨u33, hcut⟩ := hcut; obtain ⟨u34, hcut⟩ := hcut; obtain ⟨u35, hcut⟩ := hcut; obtain ⟨u36, hcut⟩ := hcut; obtain ⟨u37, hcut⟩ := hcut; obtain ⟨u38, hcut⟩ := hcut; obtain ⟨u39, hcut⟩ := hcut; obtain ⟨u40, hcut⟩ := hcut; obtain ⟨u41, hcut⟩ := hcut; obtain ⟨u42, hcut⟩ := hcut; obtain ⟨u43, hcut⟩ := hcut; obtain ⟨u44, hcut⟩ := hcut; obtain ⟨u45, hcut⟩ := hcut; obtain ⟨u46, hcut⟩ := hcut; obtain ⟨u47, hcut⟩ := hcut; obtain ⟨u48, hcut⟩ := hcut; obtain ⟨u49, hcut⟩ := hcut; obtain ⟨u50, hcut⟩ := hcut; obtain ⟨v3, hcut⟩ := hcut; obtain ⟨v4, hcut⟩ := hcut; obtain ⟨v5, hcut⟩ := hcut; obtain ⟨hcut, hac⟩ := hcut; subst hac; intro _ _ _ _)
  case atStart => exact ⟨0, 0, s.left, rfl, rfl, rfl, rfl, rfl, by simp, by omega, U0.out, HB.out, Nat.le_refl _⟩
  case round =>
    obtain ⟨j, n, l, hm, rfl, rfl, rfl, hr, hn, hj, U, hb', hll⟩ := hcut
    have NX := Lib.hid (refBytes1_any U.1 (show l.length ≤ _ from Nat.le_trans hll H47.out))
    have HR := Lib.hid hr
    have HN := Lib.hid hn
    have HM := Lib.hid hm
    have HU := Lib.hid U
    have HLL := Lib.hid hll
    have hj10 : (j : Int) < 10 := by omega
    clear U HB hr hn hm hll
    cases l with
    | nil =>
      go_wp2_with (fail)
      refine NX.out.mono ?_
      rintro e w2 ⟨rfl, U2⟩
      have e1 : s.num = (0, { s with left := [], ft := 10 }) := by
        unfold RS.num
        rw [if_pos HFT.out, ← HR.out]
        rfl
      have HUU := Lib.hid (HU.out.trans U2)
      obtain ⟨c3, _⟩ := U2.1.ftCell
      simp only [RS.short] at c3
      clear U2
      go_wp2_with (fail)
      go_ret
      rw [e1]
      exact ⟨rfl, HUU.out⟩
    | cons c t =>
      have hc := hb' c (List.mem_cons_self)
      have HT := Lib.hid (show Byt t from fun x hx => hb' x (List.mem_cons_of_mem c hx))
      clear hb'
      obtain ⟨t1, ht1⟩ := named ((j : Int) == 9)
      obtain ⟨t2, ht2⟩ := named (decide (1 < c))
      obtain ⟨t3, ht3⟩ := named (decide (0 < (j : Int)))
      obtain ⟨t4, ht4⟩ := named (c == 0)
      obtain ⟨t5, ht5⟩ := named (decide (c < 128))
      obtain ⟨c0, c1⟩ := hc
      go_wp2_with (fail)
      refine NX.out.mono ?_
      rintro e w2 ⟨⟨g, o, rfl, x0⟩, U2⟩
      have HU2 := Lib.hid (HU.out.trans U2)
      obtain ⟨k3, f3⟩ := U2.1.ftCell
      have fault : (j = 9 ∧ 1 < c) ∨ (0 < j ∧ c = 0) → s.num = (0, { s with left := t, ft := 11 }) := by
        intro h
        unfold RS.num
        rw [if_pos HFT.out, ← HR.out]
        unfold readN
        rw [if_pos h]
        rfl
      have FA := Lib.hid fault
      have HNX := Lib.hid (show ¬ ((j = 9 ∧ 1 < c) ∨ (0 < j ∧ c = 0)) → c < 128 → s.num = (n + (c % 128).toNat * 128 ^ j, { s with left := t }) by
        intro h h5
        unfold RS.num
        rw [if_pos HFT.out, ← HR.out]
        unfold readN
        rw [if_neg h, if_pos h5]
        simp [HFT.out])
      have hp9 := pow128 hj
      have OG := Lib.hid (fun h => num_step j n c hj HN.out c0 c1 h)
      have OG2 := Lib.hid (show j ≤ 8 → IntKind.u64.wrap (128 * 128 ^ j) = ((128 ^ (j + 1) : Nat) : Int) from fun h => scale_step j h)
      clear fault U2 hp9
      simp only at k3
      rw [HFT.out] at k3
      go_wp2_with (fail)
      all_goals
        have d1 : t1 = true ↔ j = 9 := by rw [← ht1]; simp; omega
        have d2 : t2 = true ↔ 1 < c := by rw [← ht2]; simp
        have d3 : t3 = true ↔ 0 < j := by rw [← ht3]; simp
        have d4 : t4 = true ↔ c = 0 := by rw [← ht4]; simp
        have d5 : t5 = true ↔ c < 128 := by rw [← ht5]; simp
        have D := Lib.hid (And.intro d1 (And.intro d2 (And.intro d3 (And.intro d4 d5))))
        clear d1 d2 d3 d4 d5
      all_goals first
        | (have hf : (j = 9 ∧ 1 < c) ∨ (0 < j ∧ c = 0) := by
             obtain ⟨d1, d2, d3, d4, d5⟩ := D.out
             first
             | (left; exact ⟨d1.1 (by assumption), d2.1 (by assumption)⟩)
             | (right; exact ⟨by assumption, d4.1 (by assumption)⟩)
           go_ret
           rw [FA.out hf]
           exact ⟨rfl, HU2.out.setFault 11⟩)
        | (have hf : ¬ ((j = 9 ∧ 1 < c) ∨ (0 < j ∧ c = 0)) := by
             obtain ⟨d1, d2, d3, d4, d5⟩ := D.out
             rintro (⟨h1, h2⟩ | ⟨h1, h2⟩)
             · first | exact absurd (d1.2 h1) (by assumption) | exact absurd (d2.2 h2) (by assumption)
             · first | exact absurd h1 (by assumption) | exact absurd (d4.2 h2) (by assumption)
           have h5 : c < 128 := D.out.2.2.2.2.1 (by assumption)
           go_ret
           rw [HNX.out hf h5]
           exact ⟨by rw [← OG.out hf]; rfl, HU2.out⟩)
        | (have hf : ¬ ((j = 9 ∧ 1 < c) ∨ (0 < j ∧ c = 0)) := by
             obtain ⟨d1, d2, d3, d4, d5⟩ := D.out
             rintro (⟨h1, h2⟩ | ⟨h1, h2⟩)
             · first | exact absurd (d1.2 h1) (by assumption) | exact absurd (d2.2 h2) (by assumption)
             · first | exact absurd h1 (by assumption) | exact absurd (d4.2 h2) (by assumption)
           have h5 : ¬ c < 128 := fun h => absurd (D.out.2.2.2.2.2 h) (by first | assumption | (rw [(by assumption : t5 = false)]; decide))
           have hj9 : j ≠ 9 := fun h => hf (Or.inl ⟨h, by omega⟩)
           go_roundg (m - 1)
           case measure => have := HM.out; omega
           case rel =>
             have hx : (c % 128).toNat ≤ 127 := by omega
             have hp : 128 ^ (j + 1) = 128 ^ j * 128 := Nat.pow_succ ..
             have hmul := Nat.mul_le_mul_right (128 ^ j) hx
             have hn := HN.out
             refine ⟨j + 1, n + (c % 128).toNat * 128 ^ j, t, by have := HM.out; omega, by rw [OG.out hf], by rw [OG2.out (by omega)], by go_num, ?_, by omega, by omega, HU2.out, HT.out, by have := HLL.out; simp at this; omega⟩
             rw [← HR.out]
             conv => rhs; unfold readN
             rw [if_neg hf, if_neg h5])
end
end Go.Proofs.Ytjmmdpnphafdfaa
