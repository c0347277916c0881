/- The reader's num. -/
import Derived.Test.YtibelfljlhcibaaPR1
import Derived.Test.YtibelfljlhcibaaPA
namespace Go.Proofs.Ytibelfljlhcibaa
set_option linter.unusedVariables false
set_option linter.unusedSimpArgs false
open Go.RowKit Go.Deep Go.Proofs.YtibelfljlhcibaaW.PrintLast

def Byt (l : List Int) : Prop := ∀ x ∈ l, (0 : Int) ≤ x ∧ x < 256
/-- A number off a reader without a fault: none where its bytes come to their end. -/
def numO (s : RS) : Option Nat × RS := ((readN 0 0 s.left).1, { s with left := (readN 0 0 s.left).2.2, ft := (readN 0 0 s.left).2.1 })
def IsPanic (e : Ending) : Prop := ∃ u pv, e = .panicked [{ v := .iface u pv, recovered := false }]
def NumP (F : Nat → Prop) (k : Nat) (w : World) (s : RS) (e : Ending) (w' : World) : Prop := UpdR F k w w' (numO s).2 ∧ match (numO s).1 with
  | some n => e = .returned (.int .u64 (n : Int))
  | none => IsPanic e
section
variable {w w' w1 w2 : World} {F G : Nat → Prop} {k : Nat} {s s' : RS}
/-- next, of one byte. -/
theorem next1_any (h : RLies w F k s) (h63 : s.left.length ≤ 9223372036854775807) :
    Calls Try.prog 63 #[.pointer (some ⟨k, 0, none⟩), .int .i64 1] w fun e w' => match s.left with
      | [] => IsPanic e ∧ UpdR F k w w' s
      | x :: t => (∃ g o, e = .returned (.slice (some ⟨g, o, none⟩) 1 1) ∧ w'.cell? ⟨g, o, none⟩ = some (.int .u8 x)) ∧ UpdR F k w w' { s with left := t } := by
  refine (show Calls _ _ #[_, .int .i64 1] w _ from next_any h 1 (by omega) h63).mono fun e w' hn => ?_
  unfold NextP RS.next at hn
  cases hl : s.left with
  | nil =>
    rw [hl] at hn
    rw [if_neg (by simp)] at hn
    exact ⟨hn.1, hn.2⟩
  | cons x t =>
    rw [hl] at hn
    rw [if_pos (by simp)] at hn
    obtain ⟨⟨A, rfl, hb⟩, hu⟩ := hn
    obtain ⟨g, o, cur, rfl, _, hg, hc⟩ := hb (by simp)
    exact ⟨⟨g, o, by simp, cell_blk hg _ (by have := hc 0 x (by simp); simpa using this)⟩, by simpa using hu⟩
set_option maxRecDepth 100000 in
set_option maxHeartbeats 4000000 in
theorem num_any (h : RLies w F k s) (hft : s.ft = 0) (hb : Byt s.left) (h63 : s.left.length ≤ 9223372036854775807) :
    Calls Try.prog 60 #[.pointer (some ⟨k, 0, none⟩)] w (NumP F k w s) := by
  have H := Lib.hid h
  have HB := Lib.hid hb
  have HFT := Lib.hid hft
  have H63 := Lib.hid h63
  have U0 := Lib.hid (show UpdR F k w w { s with left := s.left } from UpdR.refl h)
  clear h hb hft h63
  go_enter Try.func60, Try.ntmps60
  go_upto_region 4 with (fail)
  refine wp_loop_ghost_k (fun (m : Nat) (ac : Act) (wr : World) => ∃ u1 u2 u5 u6 u7 u8 u9 u10 u11 u12 u13 u14 u15 u16 u17 u18 u19 u20 u21 u22 u23 u24 u25 u26 u27 u28 u29 u30 u31 u32 u33 u34 u35 u36 u37 u38 u39 u40 v3 v4 : Value, (∃ (j n : Nat) (l : List Int), m = l.length + 1 ∧ v3 = .int .u64 n ∧ v4 = .int .i64 j ∧ readN j n l = readN 0 0 s.left ∧ n < 128 ^ j ∧ j ≤ 9 ∧ UpdR F k w wr { s with left := l } ∧ Byt l ∧ l.length ≤ s.left.length) ∧ ac = ({ tmps := #[.pointer (some ⟨k, 0, none⟩), u1, u2, v3, v4, u5, u6, u7, u8, u9, u10, u11, u12, u13, u14, u15, u16, u17, u18, u19, u20, u21, u22, u23, u24, u25, u26, u27, u28, u29, u30, u31, u32, u33, u34, u35, u36, u37, u38, u39, u40], defers := [] } : Act)) (s.left.length + 1) ?atStart ?round
  case' atStart => ((repeat apply Exists.intro); refine ⟨?_, rfl⟩)
  case' round => (intro m ac wr hcut; obtain ⟨u1, hcut⟩ := hcut; obtain ⟨u2, hcut⟩ := hcut; obtain ⟨u5, hcut⟩ := hcut; obtain ⟨u6, hcut⟩ := hcut; obtain ⟨u7, hcut⟩ := hcut; obtain ⟨u8, hcut⟩ := hcut; obtain ⟨u9, hcut⟩ := hcut; obtain ⟨u10, hcut⟩ := hcut; obtain ⟨u11, hcut⟩ := hcut; obtain ⟨u12, hcut⟩ := hcut; obtain ⟨u13, hcut⟩ := hcut; obtain ⟨u14, hcut⟩ := hcut; obtain ⟨u15, hcut⟩ := hcut; obtain ⟨u16, hcut⟩ := hcut; obtain ⟨u17, hcut⟩ := hcut; obtain ⟨u18, hcut⟩ := hcut; obtain ⟨u19, hcut⟩ := hcut; obtain ⟨u20, hcut⟩ := hcut; obtain ⟨u21, hcut⟩ := hcut; obtain ⟨u22, hcut⟩ := hcut; obtain ⟨u23, hcut⟩ := hcut; obtain ⟨u24, hcut⟩ := hcut; obtain ⟨u25, hcut⟩ := hcut; obtain ⟨u26, hcut⟩ := hcut; obtain ⟨u27, hcut⟩ := hcut; obtain ⟨u28, hcut⟩ := hcut; obtain ⟨u29, hcut⟩ := hcut; obtain ⟨u30, hcut⟩ := hcut; obtain ⟨u31, hcut⟩ := hcut; obtain ⟨u32, hcut⟩ := hcut; obtain ⟨u33, hcut⟩ := hcut; obtain ⟨u34, hcut⟩ := hcut; obtain ⟨u35, hcut⟩ := hcut; obtain ⟨u36, hcut⟩ := hcut; obtain ⟨u37, hcut⟩ := hcut; obtain ⟨u38, hcut⟩ := hcut; obtain ⟨u39, hcut⟩ := hcut; obtain ⟨u40, hcut⟩ := hcut; obtain ⟨v3, hcut⟩ := hcut; obtain ⟨v4, hcut⟩ := hcut; obtain ⟨hcut, hac⟩ := hcut; subst hac; intro _ _ _ _)
  case atStart => exact ⟨0, 0, s.left, rfl, rfl, rfl, rfl, by simp, by omega, U0.out, HB.out, Nat.le_refl _⟩
  case round =>
    obtain ⟨j, n, l, hm, rfl, rfl, hr, hn, hj, U, hb', hll⟩ := hcut
    have NX := Lib.hid (next1_any U.1 (show l.length ≤ _ from Nat.le_trans hll H63.out))
    have HR := Lib.hid hr
    have HN := Lib.hid hn
    have HM := Lib.hid hm
    have HU := Lib.hid U
    have HLL := Lib.hid hll
    clear U HB hr hn hm hll
    cases l with
    | nil =>
      go_wp2_with (fail)
      refine NX.out.mono ?_
      rintro e w2 ⟨⟨u, pv, rfl⟩, U2⟩
      go_wp2_with (fail)
      refine ⟨rfl, ?_⟩
      have e1 : numO s = (none, { s with left := [] }) := by
        unfold numO
        rw [← HR.out]
        simp [readN, HFT.out]
      unfold NumP
      rw [e1]
      exact ⟨HU.out.trans U2, _, _, rfl⟩
    | cons c t =>
      have hc := hb' c (List.mem_cons_self)
      have HT := Lib.hid (show Byt t from fun x hx => hb' x (List.mem_cons_of_mem c hx))
      clear hb'
      obtain ⟨t1, ht1⟩ := named ((j : Int) == 9)
      obtain ⟨t2, ht2⟩ := named (decide (1 < c))
      obtain ⟨t3, ht3⟩ := named (decide (0 < (j : Int)))
      obtain ⟨t4, ht4⟩ := named (c == 0)
      obtain ⟨t5, ht5⟩ := named (decide (c < 128))
      obtain ⟨c0, c1⟩ := hc
      go_wp2_with (fail)
      refine NX.out.mono ?_
      rintro e w2 ⟨⟨g, o, rfl, x0⟩, U2⟩
      have HU2 := Lib.hid (HU.out.trans U2)
      obtain ⟨A2, OA2, oc2, ss2, K2, _⟩ := id U2.1
      have f2 := free_blk K2 2
      have k2 := cell_blk K2 2 rfl
      have fault : (j = 9 ∧ 1 < c) ∨ (0 < j ∧ c = 0) → NumP F k w s (.returned (.int .u64 0)) (w2.setCell ⟨k, 2, none⟩ (.int .i64 11)) := by
        intro h
        have e1 : numO s = (some 0, { s with left := t, ft := 11 }) := by
          unfold numO
          rw [← HR.out]
          unfold readN
          rw [if_pos h]
        unfold NumP
        rw [e1]
        exact ⟨HU2.out.trans (UpdR.fault HU2.out.1 11), rfl⟩
      have og : ¬ ((j = 9 ∧ 1 < c) ∨ (0 < j ∧ c = 0)) → bits BinOp.or IntKind.u64 (n : Int) (IntKind.u64.wrap (IntKind.u64.wrap (bits BinOp.and IntKind.u8 c 127) * 2 ^ (7 * j))) = ((n + (c % 128).toNat * 128 ^ j : Nat) : Int) := fun h => or_group j n c hj HN.out c0 c1 (by omega)
      have FA := Lib.hid fault
      have OG := Lib.hid og
      have HNX := Lib.hid (show ¬ ((j = 9 ∧ 1 < c) ∨ (0 < j ∧ c = 0)) → c < 128 → NumP F k w s (.returned (.int .u64 ((n + (c % 128).toNat * 128 ^ j : Nat) : Int))) w2 by
        intro h h5
        have e1 : numO s = (some (n + (c % 128).toNat * 128 ^ j), { s with left := t }) := by
          unfold numO
          rw [← HR.out]
          unfold readN
          rw [if_neg h, if_pos h5]
          simp [HFT.out]
        unfold NumP
        rw [e1]
        exact ⟨HU2.out, rfl⟩)
      clear fault og U2 K2
      have HFZ := HFT.out
      rw [show ({ s with left := t } : RS).ft = s.ft from rfl, HFZ] at k2
      clear HFZ
      go_wp2_with (fail)
      all_goals
        have d1 : t1 = true ↔ j = 9 := by rw [← ht1]; simp; omega
        have d2 : t2 = true ↔ 1 < c := by rw [← ht2]; simp
        have d4 : t4 = true ↔ c = 0 := by rw [← ht4]; simp
        have d5 : t5 = true ↔ c < 128 := by rw [← ht5]; simp
        have D := Lib.hid (And.intro d1 (And.intro d2 (And.intro d4 d5)))
        clear d1 d2 d4 d5
      all_goals first
        | (have hf : (j = 9 ∧ 1 < c) ∨ (0 < j ∧ c = 0) := by
             obtain ⟨d1, d2, d4, d5⟩ := D.out
             first
             | (left; exact ⟨d1.1 (by assumption), d2.1 (by assumption)⟩)
             | (right; exact ⟨by assumption, d4.1 (by assumption)⟩)
           go_ret
           exact FA.out hf)
        | (have hf : ¬ ((j = 9 ∧ 1 < c) ∨ (0 < j ∧ c = 0)) := by
             obtain ⟨d1, d2, d4, d5⟩ := D.out
             rintro (⟨h1, h2⟩ | ⟨h1, h2⟩)
             · first | exact absurd (d1.2 h1) (by assumption) | exact absurd (d2.2 h2) (by assumption)
             · first | exact absurd h1 (by assumption) | exact absurd (d4.2 h2) (by rw [(by assumption : t4 = false)]; decide)
           have h5 : c < 128 := D.out.2.2.2.1 (by assumption)
           go_ret
           rw [OG.out hf]
           exact HNX.out hf h5)
        | (have hf : ¬ ((j = 9 ∧ 1 < c) ∨ (0 < j ∧ c = 0)) := by
             obtain ⟨d1, d2, d4, d5⟩ := D.out
             rintro (⟨h1, h2⟩ | ⟨h1, h2⟩)
             · first | exact absurd (d1.2 h1) (by assumption) | exact absurd (d2.2 h2) (by assumption)
             · first | exact absurd h1 (by assumption) | exact absurd (d4.2 h2) (by rw [(by assumption : t4 = false)]; decide)
           have h5 : ¬ c < 128 := fun h => absurd (D.out.2.2.2.2 h) (by rw [(by assumption : t5 = false)]; decide)
           have hj9 : j ≠ 9 := fun h => hf (Or.inl ⟨h, by omega⟩)
           go_roundg (m - 1)
           case measure => (have := HM.out; simp at this; omega)
           case rel =>
             refine ⟨j + 1, n + (c % 128).toNat * 128 ^ j, t, by have := HM.out; simp at this; omega, by rw [OG.out hf], by go_num, ?_, ?_, by omega, HU2.out, HT.out, by have := HLL.out; simp at this; omega⟩
             · rw [← HR.out]
               conv => rhs; unfold readN
               rw [if_neg hf, if_neg h5]
             · rw [Nat.pow_succ]
               have hx : (c % 128).toNat ≤ 127 := by omega
               have := HN.out
               have := Nat.mul_le_mul_right (128 ^ j) hx
               omega)
end
end Go.Proofs.Ytibelfljlhcibaa
