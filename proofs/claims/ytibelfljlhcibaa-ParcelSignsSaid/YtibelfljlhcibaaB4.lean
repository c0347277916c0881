/- The reader's num. -/
import Derived.Test.YtibelfljlhcibaaB3
import Derived.Test.YtibelfljlhcibaaB0
namespace Go.Proofs.Ytibelfljlhcibaa
set_option linter.unusedVariables false
set_option linter.unusedSimpArgs false
open Go.RowKit Go.Deep Go.Proofs.YtibelfljlhcibaaW.PrintLast

/-- A number off bytes: what comes out (none: the bytes are at their end), the fault, what is left. -/
def readN : Nat → Nat → List Int → Option Int × Int × List Int
  | _, _, [] => (none, 0, [])
  | j, n, c :: t => if (j = 9 ∧ 1 < c) ∨ (0 < j ∧ c = 0) then (some 0, 11, t) else if c < 128 then (some ((n + (c % 128).toNat * 128 ^ j : Nat) : Int), 0, t) else readN (j + 1) (n + (c % 128).toNat * 128 ^ j) t
def readP (t : IntKind) (M k : Nat) (w w' : World) (ov : Value) (r : Option Int × Int × List Int) (e : Ending) : Prop := ∃ A, ReadP k w w' (.slice A r.2.2.length r.2.2.length) ov r.2.1 ∧ LAt w' M k A r.2.2 ∧ OutE t r.1 e
theorem grown_trans {a b c : World} {k : Nat} (h : a.grownBy b (some k)) (h' : b.grownBy c (some k)) : a.grownBy c (some k) :=
  ⟨h'.os.trans h.os, h'.tape.trans h.tape, h'.output.trans h.output, Nat.le_trans h.size h'.size, fun j hj hne => (h'.block j (Nat.lt_of_lt_of_le hj h.size) hne).trans (h.block j hj hne)⟩
set_option maxRecDepth 100000 in
set_option maxHeartbeats 2000000 in
theorem rnum_any {w : World} {M k : Nat} {A : Option Addr} {ov : Value} {bs : List Int} (hk : w.heap[k]? = some (.cells #[.slice A bs.length bs.length, ov, .int .i64 0] 89 (0, 0))) (hL : LAt w M k A bs) (hb : ∀ x ∈ bs, 0 ≤ x ∧ x < 256) :
    Calls Try.prog 60 #[.pointer (some ⟨k, 0, none⟩)] w fun e w' => readP .u64 M k w w' ov (readN 0 0 bs) e := by
  have HK := Lib.hid hk
  have HL := Lib.hid hL
  have HB := Lib.hid hb
  clear hk hL hb
  go_enter Try.func60, Try.ntmps60
  go_upto_region 4 with (fail)
  refine wp_loop_ghost_k (fun (m : Nat) (ac : Act) (wr : World) => ∃ u1 u2 u5 u6 u7 u8 u9 u10 u11 u12 u13 u14 u15 u16 u17 u18 u19 u20 u21 u22 u23 u24 u25 u26 u27 u28 u29 u30 u31 u32 u33 u34 u35 u36 u37 u38 u39 u40 v3 v4 : Value, (∃ (j n : Nat) (bs' : List Int) (A' : Option Addr), m = bs'.length + 1 ∧ v3 = .int .u64 n ∧ v4 = .int .i64 j ∧ readN j n bs' = readN 0 0 bs ∧ n < 128 ^ j ∧ j ≤ 9 ∧ wr.heap[k]? = some (.cells #[.slice A' bs'.length bs'.length, ov, .int .i64 0] 89 (0, 0)) ∧ LAt wr M k A' bs' ∧ w.grownBy wr (some k) ∧ ∀ x ∈ bs', 0 ≤ x ∧ x < 256) ∧ ac = ({ tmps := #[.pointer (some ⟨k, 0, none⟩), u1, u2, v3, v4, u5, u6, u7, u8, u9, u10, u11, u12, u13, u14, u15, u16, u17, u18, u19, u20, u21, u22, u23, u24, u25, u26, u27, u28, u29, u30, u31, u32, u33, u34, u35, u36, u37, u38, u39, u40], defers := [] } : Act)) (bs.length + 1) ?atStart ?round
  case' atStart => ((repeat apply Exists.intro); refine ⟨?_, rfl⟩)
  case' round => (intro m ac wr hcut; obtain ⟨u1, hcut⟩ := hcut; obtain ⟨u2, hcut⟩ := hcut; obtain ⟨u5, hcut⟩ := hcut; obtain ⟨u6, hcut⟩ := hcut; obtain ⟨u7, hcut⟩ := hcut; obtain ⟨u8, hcut⟩ := hcut; obtain ⟨u9, hcut⟩ := hcut; obtain ⟨u10, hcut⟩ := hcut; obtain ⟨u11, hcut⟩ := hcut; obtain ⟨u12, hcut⟩ := hcut; obtain ⟨u13, hcut⟩ := hcut; obtain ⟨u14, hcut⟩ := hcut; obtain ⟨u15, hcut⟩ := hcut; obtain ⟨u16, hcut⟩ := hcut; obtain ⟨u17, hcut⟩ := hcut; obtain ⟨u18, hcut⟩ := hcut; obtain ⟨u19, hcut⟩ := hcut; obtain ⟨u20, hcut⟩ := hcut; obtain ⟨u21, hcut⟩ := hcut; obtain ⟨u22, hcut⟩ := hcut; obtain ⟨u23, hcut⟩ := hcut; obtain ⟨u24, hcut⟩ := hcut; obtain ⟨u25, hcut⟩ := hcut; obtain ⟨u26, hcut⟩ := hcut; obtain ⟨u27, hcut⟩ := hcut; obtain ⟨u28, hcut⟩ := hcut; obtain ⟨u29, hcut⟩ := hcut; obtain ⟨u30, hcut⟩ := hcut; obtain ⟨u31, hcut⟩ := hcut; obtain ⟨u32, hcut⟩ := hcut; obtain ⟨u33, hcut⟩ := hcut; obtain ⟨u34, hcut⟩ := hcut; obtain ⟨u35, hcut⟩ := hcut; obtain ⟨u36, hcut⟩ := hcut; obtain ⟨u37, hcut⟩ := hcut; obtain ⟨u38, hcut⟩ := hcut; obtain ⟨u39, hcut⟩ := hcut; obtain ⟨u40, hcut⟩ := hcut; obtain ⟨v3, hcut⟩ := hcut; obtain ⟨v4, hcut⟩ := hcut; obtain ⟨hcut, hac⟩ := hcut; subst hac; intro _ _ _ _)
  case atStart => exact ⟨0, 0, bs, A, rfl, rfl, rfl, rfl, by simp, by omega, HK.out, HL.out, ⟨rfl, rfl, rfl, Nat.le_refl _, fun _ _ _ => rfl⟩, HB.out⟩
  case round =>
    obtain ⟨j, n, bs', A', hm, rfl, rfl, hr, hn, hj, hk', hL', G, hb'⟩ := hcut
    have NX := Lib.hid (next1_any hk' hL')
    have HR := Lib.hid hr
    have HN := Lib.hid hn
    have HM := Lib.hid hm
    have HG := Lib.hid G
    clear hk' hL' G HK HL HB hr hn hm
    cases bs' with
    | nil =>
      go_wp2_with (fail)
      refine NX.out.mono ?_
      rintro e w2 ⟨⟨A2, G2, K2⟩, u, pv, rfl⟩
      go_wp2_with (fail)
      refine ⟨rfl, ?_⟩
      rw [← HR.out]
      exact ⟨A2, ⟨grown_trans HG.out G2, K2⟩, fun h => absurd rfl h, u, pv, rfl⟩
    | cons c t =>
      have hc := hb' c (List.mem_cons_self)
      have HT := Lib.hid (fun x hx => hb' x (List.mem_cons_of_mem c hx))
      clear hb'
      obtain ⟨t1, ht1⟩ := named ((j : Int) == 9)
      obtain ⟨t2, ht2⟩ := named (decide (1 < c))
      obtain ⟨t3, ht3⟩ := named (decide (0 < (j : Int)))
      obtain ⟨t4, ht4⟩ := named (c == 0)
      obtain ⟨t5, ht5⟩ := named (decide (c < 128))
      obtain ⟨c0, c1⟩ := hc
      go_wp2_with (fail)
      refine NX.out.mono ?_
      rintro e w2 ⟨g, o, A2, rfl, x0, ⟨G2, K2⟩, L2⟩
      have f2 := free_blk K2 2
      have k2 : w2.cell? ⟨k, 2, none⟩ = some (.int .i64 0) := cell_blk K2 2 rfl
      have HG2 := Lib.hid (grown_trans HG.out G2)
      have HK2 := Lib.hid K2
      have HL2 := Lib.hid L2
      clear G2 K2 L2
      have fault : (j = 9 ∧ 1 < c) ∨ (0 < j ∧ c = 0) → readP .u64 M k w (w2.setCell ⟨k, 2, none⟩ (.int .i64 11)) ov (readN 0 0 bs) (.returned (.int .u64 0)) := by
        intro h
        rw [← HR.out]
        unfold readN
        rw [if_pos h]
        refine ⟨A2, ⟨⟨HG2.out.os, HG2.out.tape, HG2.out.output, by simpa [World.setCell] using HG2.out.size, fun i hi hne => (Below.heap_setCell _ _ _ _ (by simpa using hne)).trans (HG2.out.block i hi hne)⟩, setCell_heap w2 k 2 (.int .i64 11) _ _ _ HK2.out⟩, ?_, rfl⟩
        exact HL2.out.moved (fun i hi hne => Below.heap_setCell _ _ _ _ (by simpa using hne))
      have og : ¬ ((j = 9 ∧ 1 < c) ∨ (0 < j ∧ c = 0)) → bits BinOp.or IntKind.u64 (n : Int) (IntKind.u64.wrap (IntKind.u64.wrap (bits BinOp.and IntKind.u8 c 127) * 2 ^ (7 * j))) = ((n + (c % 128).toNat * 128 ^ j : Nat) : Int) := fun h => or_group j n c hj HN.out c0 c1 (by omega)
      have FA := Lib.hid fault
      have OG := Lib.hid og
      have HNX := Lib.hid (show ¬ ((j = 9 ∧ 1 < c) ∨ (0 < j ∧ c = 0)) → c < 128 → readP .u64 M k w w2 ov (readN 0 0 bs) (.returned (.int .u64 ((n + (c % 128).toNat * 128 ^ j : Nat) : Int))) by
        intro h h5
        rw [← HR.out]
        unfold readN
        rw [if_neg h, if_pos h5]
        exact ⟨A2, ⟨HG2.out, HK2.out⟩, HL2.out, rfl⟩)
      clear fault og
      go_wp2_with (fail)
      all_goals
        have d1 : t1 = true ↔ j = 9 := by rw [← ht1]; simp; omega
        have d2 : t2 = true ↔ 1 < c := by rw [← ht2]; simp
        have d4 : t4 = true ↔ c = 0 := by rw [← ht4]; simp
        have d5 : t5 = true ↔ c < 128 := by rw [← ht5]; simp
        have D := Lib.hid (And.intro d1 (And.intro d2 (And.intro d4 d5)))
        clear d1 d2 d4 d5
      all_goals first
        | (have hf : (j = 9 ∧ 1 < c) ∨ (0 < j ∧ c = 0) := by
             obtain ⟨d1, d2, d4, d5⟩ := D.out
             first
             | (left; exact ⟨d1.1 (by assumption), d2.1 (by assumption)⟩)
             | (right; exact ⟨by assumption, d4.1 (by assumption)⟩)
           go_ret
           exact FA.out hf)
        | (have hf : ¬ ((j = 9 ∧ 1 < c) ∨ (0 < j ∧ c = 0)) := by
             obtain ⟨d1, d2, d4, d5⟩ := D.out
             rintro (⟨h1, h2⟩ | ⟨h1, h2⟩)
             · first | exact absurd (d1.2 h1) (by assumption) | exact absurd (d2.2 h2) (by assumption)
             · first | exact absurd h1 (by assumption) | exact absurd (d4.2 h2) (by rw [(by assumption : t4 = false)]; decide)
           have h5 : c < 128 := D.out.2.2.2.1 (by assumption)
           go_ret
           rw [OG.out hf]
           exact HNX.out hf h5)
        | (have hf : ¬ ((j = 9 ∧ 1 < c) ∨ (0 < j ∧ c = 0)) := by
             obtain ⟨d1, d2, d4, d5⟩ := D.out
             rintro (⟨h1, h2⟩ | ⟨h1, h2⟩)
             · first | exact absurd (d1.2 h1) (by assumption) | exact absurd (d2.2 h2) (by assumption)
             · first | exact absurd h1 (by assumption) | exact absurd (d4.2 h2) (by rw [(by assumption : t4 = false)]; decide)
           have h5 : ¬ c < 128 := fun h => absurd (D.out.2.2.2.2 h) (by rw [(by assumption : t5 = false)]; decide)
           have hj9 : j ≠ 9 := fun h => hf (Or.inl ⟨h, by omega⟩)
           go_roundg (m - 1)
           case measure => (have := HM.out; simp at this; omega)
           case rel =>
             refine ⟨j + 1, n + (c % 128).toNat * 128 ^ j, t, A2, by have := HM.out; simp at this; omega, by rw [OG.out hf], by go_num, ?_, ?_, by omega, HK2.out, HL2.out, HG2.out, HT.out⟩
             · rw [← HR.out]
               conv => rhs; unfold readN
               rw [if_neg hf, if_neg h5]
             · rw [Nat.pow_succ]
               have hx : (c % 128).toNat ≤ 127 := by omega
               have := HN.out
               have := Nat.mul_le_mul_right (128 ^ j) hx
               omega)
end Go.Proofs.Ytibelfljlhcibaa
