/- The protocol of ledgers, in plain Lean: acts; one holder. -/
import Derived.Test.YtecdmbcdkfjgfaaP3
import Derived.Test.YtecdmbcdkfjgfaaG5
namespace Go.Proofs.Ytecdmbcdkfjgfaa
set_option linter.unusedVariables false
set_option linter.unusedSimpArgs false

section
variable {w : Wd} {E H : Int} {O : Int → Int → Int → Prop}
/-- What a server has to say again. -/
def nagR (row : List Lg) (x : Int) : List Ml := if nagF (at0 row x).ph = 0 then [] else [⟨nagF (at0 row x).ph, (at0 row x).ep, x, (at0 row x).pe⟩]
theorem nagW_eq (w : Wd) (x : Int) : nagW w x = ⟨w.row, w.sent ++ nagR w.row x⟩ := by
  unfold nagW nagR
  split <;> simp
theorem nag_ok (g : Good w E H O) {x : Int} (x0 : 0 ≤ x) (xn : x < w.row.length) : ∀ m ∈ nagR w.row x, MsgOk (at0 w.row) O m := by
  intro m hm
  unfold nagR at hm
  split at hm
  · cases hm
  · simp only [List.mem_singleton] at hm
    subst hm
    have v := g.1.val x x0 xn
    unfold Vl at v
    by_cases h2 : (at0 w.row x).ph = 2
    · have hx := g.1.i12 x x0 xn (Or.inr h2)
      have tk := g.1.tok
      have hE := g.1.hE
      rw [← hx] at tk hE
      exact Or.inl ⟨by simp [nagF, h2], by simp only; rw [hE]; grind, by simp only; exact Int.le_refl _, by simp only; omega⟩
    · by_cases h3 : (at0 w.row x).ph = 3
      · have := g.1.i3 x x0 xn h3
        exact Or.inr (Or.inr (Or.inl ⟨by simp [nagF, h3], this.1, this.2.1, fun _ _ => ⟨h3, rfl⟩⟩))
      · by_cases h4 : (at0 w.row x).ph = 4
        · have := g.1.i4 x x0 xn h4
          exact Or.inr (Or.inl ⟨by simp [nagF, h4], this.1, Int.le_refl _, this.2.1⟩)
        · rename_i hn
          simp [nagF, h2, h3, h4] at hn
theorem Good.more (g : Good w E H O) {rs : List Ml} (h : ∀ m ∈ rs, MsgOk (at0 w.row) O m) : Good ⟨w.row, w.sent ++ rs⟩ E H O :=
  ⟨g.1, fun m hm => by
    simp only [List.mem_append] at hm
    rcases hm with hm | hm
    · exact g.2 m hm
    · exact h m hm⟩
theorem nag_good (g : Good w E H O) {x : Int} (x0 : 0 ≤ x) (xn : x < w.row.length) : Good (nagW w x) E H O := by
  rw [nagW_eq]; exact g.more (nag_ok g x0 xn)

/-- Something happens. -/
def actW (w : Wd) (k a b N : Int) : Wd × Bool :=
  let n : Int := w.row.length
  let l := at0 w.row (a % n)
  if k = 1 then ((takeW w (a % n) 2 0 (b % n)).1, (takeW w (a % n) 2 0 (b % n)).2 == ((l.ph == 1) && (b % n != a % n) && decide (l.ep ≤ 1073741822)))
  else if k = 2 then ((takeW w (a % n) 3 0 0).1, (takeW w (a % n) 3 0 0).2 == (l.ph == 2))
  else if k = 3 then (nagW w (a % n), true)
  else if k = 4 ∨ k = 5 then (if 0 < w.sent.length then hearW w (w.sent.getD (N % w.sent.length).toNat ⟨0, 0, 0, 0⟩) (k == 5) else (w, true))
  else (w, true)
theorem takeW_no {w : Wd} {who k re rp : Int} (h : ¬ (stepF who (at0 w.row who) k re rp).2 = 0) : takeW w who k re rp = (w, false) := by
  unfold takeW; rw [if_neg h]
theorem act_good (g : Good w E H O) (k a b N : Int) : (actW w k a b N).2 = true ∧ Mono w (actW w k a b N).1 ∧ (actW w k a b N).1.sent.length ≤ w.sent.length + 1 ∧ ∃ E' H' O', Good (actW w k a b N).1 E' H' O' := by
  have n8 := g.1.n8
  have hn : 0 < (w.row.length : Int) := by have := g.1.h0; have := g.1.hn; omega
  have a0 := Int.emod_nonneg a (b := (w.row.length : Int)) (by omega)
  have aN := Int.emod_lt_of_pos a hn
  have b0 := Int.emod_nonneg b (b := (w.row.length : Int)) (by omega)
  have bN := Int.emod_lt_of_pos b hn
  have v := g.1.val _ a0 aN
  have same : ∀ p : Wd × Bool, p = (w, true) → p.2 = true ∧ Mono w p.1 ∧ p.1.sent.length ≤ w.sent.length + 1 ∧ ∃ E' H' O', Good p.1 E' H' O' := by
    rintro p rfl; exact ⟨rfl, Mono.refl _, Nat.le_succ _, _, _, _, g⟩
  unfold actW
  simp only
  by_cases k1 : k = 1
  · rw [if_pos k1]
    by_cases c : (at0 w.row (a % w.row.length)).ph = 1 ∧ b % (w.row.length : Int) ≠ a % w.row.length ∧ (at0 w.row (a % w.row.length)).ep ≤ 1073741822
    · rw [takeW_of (step_offer n8 a0 aN v b0 bN c.1 c.2.1 c.2.2)]
      have hH := g.1.i12 _ a0 aN (Or.inl c.1)
      have hE := g.1.hE
      have p := g.put_offer (by rw [← hH]; exact c.1) (by rw [← hH]; exact c.2.1) b0 bN (by rw [← hE, ← hH]; exact c.2.2)
      refine ⟨by simp [c], mono_put a0 aN (by simp only; omega), Nat.le_succ _, E + 1, a % (w.row.length : Int), offO O E (a % (w.row.length : Int)) (b % (w.row.length : Int)), ?_⟩
      have e1 : (at0 w.row (a % w.row.length)).ep = E := by rw [hH]; exact hE
      rw [e1]
      rw [← hH] at p
      exact p
    · rw [takeW_no (step_offer_no c)]
      refine same _ ?_
      simp only [Prod.mk.injEq, true_and]
      simp only [beq_iff_eq]
      symm
      rw [Bool.eq_false_iff]
      intro hc
      simp only [Bool.and_eq_true, beq_iff_eq, bne_iff_ne, decide_eq_true_eq] at hc
      exact c ⟨hc.1.1, hc.1.2, hc.2⟩
  · rw [if_neg k1]
    by_cases k2 : k = 2
    · rw [if_pos k2]
      by_cases c : (at0 w.row (a % w.row.length)).ph = 2
      · rw [takeW_of (step_cancel n8 a0 aN v c)]
        have hH := g.1.i12 _ a0 aN (Or.inr c)
        have hE := g.1.hE
        have p := g.put_cancel (by rw [← hH]; exact c)
        refine ⟨by simp [c], mono_put a0 aN (by simp only; omega), Nat.le_succ _, E + 1, a % (w.row.length : Int), O, ?_⟩
        have e1 : (at0 w.row (a % w.row.length)).ep = E := by rw [hH]; exact hE
        rw [e1]
        rw [← hH] at p
        exact p
      · rw [takeW_no (step_cancel_no c)]
        exact same _ (by simp [c])
    · rw [if_neg k2]
      by_cases k3 : k = 3
      · rw [if_pos k3]
        refine ⟨rfl, ?_, ?_, _, _, _, nag_good g a0 aN⟩
        · rw [nagW_eq]; exact ⟨rfl, fun _ => Int.le_refl _⟩
        · rw [nagW_eq]; simp only [List.length_append]
          unfold nagR; split <;> simp
      · rw [if_neg k3]
        by_cases k4 : k = 4 ∨ k = 5
        · rw [if_pos k4]
          split
          · rename_i hs
            have m0 := Int.emod_nonneg N (b := (w.sent.length : Int)) (by omega)
            have mN := Int.emod_lt_of_pos N (b := (w.sent.length : Int)) (by omega)
            have hm : w.sent.getD (N % (w.sent.length : Int)).toNat ⟨0, 0, 0, 0⟩ ∈ w.sent := by
              rw [List.getD_eq_getElem?_getD, List.getElem?_eq_getElem (by omega), Option.getD_some]; exact List.getElem_mem _
            obtain ⟨h1, h2, E', H', rs, h3, h4, h5, h6, h7⟩ := hear_good g hm (k == 5)
            rw [h1]
            refine ⟨rfl, h2, ?_, _, _, _, h3⟩
            show (hearS _ _ _).sent.length ≤ _
            rw [h4, List.length_append]; omega
          · exact same _ rfl
        · rw [if_neg k4]; exact same _ rfl

/-- At the outset. -/
def beganW (n : Nat) (home : Int) : Wd := ⟨(List.range n).map fun (i : Nat) => beginL i home, []⟩
theorem began_at {n : Nat} {home i : Int} (i0 : 0 ≤ i) (iN : i < n) : at0 (beganW n home).row i = beginL i home := by
  obtain ⟨k, rfl⟩ := Int.eq_ofNat_of_zero_le i0
  have hk : k < n := by omega
  rw [at0_nat _ _ (by simpa [beganW] using hk)]
  simp [beganW]
theorem began_good {n : Nat} {home : Int} (n8 : n ≤ 8) (h0 : 0 ≤ home) (hn : home < n) : Good (beganW n home) 0 home (fun _ _ _ => False) := by
  have hl : ((beganW n home).row.length : Int) = n := by simp [beganW]
  refine ⟨?_, fun m hm => by simp [beganW] at hm⟩
  have A := fun i i0 iN => began_at (n := n) (home := home) (i := i) i0 iN
  rw [hl]
  refine ⟨by omega, h0, hn, ?_, fun _ _ _ h => h.elim, fun _ _ _ _ _ h => h.elim, ?_, ?_, ?_, ?_, ?_, ?_, fun _ _ _ _ h => h.elim, fun _ _ _ _ _ h => h.elim⟩
  · rw [A home h0 hn]; simp [beginL]
  · intro i i0 iN
    rw [A i i0 iN]
    unfold Vl beginL
    split
    · simp; omega
    · simp; omega
  · intro i i0 iN; rw [A i i0 iN]; unfold beginL; split <;> simp
  · left; rw [A home h0 hn]; simp [beginL]
  · intro i i0 iN; rw [A i i0 iN]; unfold beginL; split <;> simp_all
  · intro i i0 iN; rw [A i i0 iN]; unfold beginL; split <;> simp
  · intro i i0 iN; rw [A i i0 iN]; unfold beginL; split <;> simp

theorem at0_lgAt {row : List Lg} {i : Int} (h : 0 ≤ i) : at0 row i = lgAt row i := by unfold at0 lgAt; rw [if_pos h]
/-- Every other one that holds a copy is behind. -/
theorem Core.behind {row : List Lg} (c : Core row.length (at0 row) E H O) {i : Int} (i0 : 0 ≤ i) (iN : i < row.length) (hi : i ≠ H) (hp : (at0 row i).ph = 1 ∨ (at0 row i).ph = 2 ∨ (at0 row i).ph = 3) :
    (at0 row i).ph = 3 ∧ ((at0 row i).ep < E ∨ (at0 row i).ep = E ∧ (at0 row H).ph = 1) := by
  have h3 : (at0 row i).ph = 3 := by
    have := c.i12 i i0 iN
    omega
  refine ⟨h3, ?_⟩
  have e := c.epE i i0 iN
  by_cases he : (at0 row i).ep = E
  · right
    refine ⟨he, ?_⟩
    have h := (c.i3 i i0 iN h3).1
    rw [he] at h
    rcases c.tok with t | ⟨_, t⟩ | ⟨_, t, _⟩
    · exact t
    · exact (hi (c.uniq _ _ _ _ _ h t).1).elim
    · exact (hi (c.uniq _ _ _ _ _ h t).1).elim
  · left; omega
theorem holder_core {row : List Lg} (c : Core row.length (at0 row) E H O) : holderF row = H := by
  obtain ⟨h, hh⟩ := Int.eq_ofNat_of_zero_le c.h0
  have hn := c.hn
  have hE := c.hE
  rw [at0_lgAt c.h0, hh] at hE
  have hH : holdsB (lgAt row h).ph = true := by
    have := c.tok
    rw [at0_lgAt c.h0, hh] at this
    rw [holdsB_iff]; omega
  have beh : ∀ k : Nat, k < row.length → k ≠ h → holdsB (lgAt row k).ph = true → (lgAt row k).ph = 3 ∧ ((lgAt row k).ep < E ∨ (lgAt row k).ep = E ∧ (lgAt row h).ph = 1) := by
    intro k hk hkh hp
    have := c.behind (i := k) (by omega) (by omega) (by omega) (by rw [at0_lgAt (by omega)]; exact (holdsB_iff _).1 hp)
    rw [at0_lgAt (by omega), at0_lgAt c.h0, hh] at this
    exact this
  rcases hst_spec row row.length with ⟨h0, hno⟩ | ⟨j, s, h0, hj, hjh, hall, hs⟩
  · rw [hno h (by omega)] at hH; cases hH
  · have hjh' : j = h := by
      refine Decidable.byContradiction fun hne => ?_
      have b := beh j hj hne hjh
      have a := hall h (by omega) hH
      rcases b.2 with b2 | b2
      · omega
      · have := a.2 (by omega) ((servesB_iff _).2 b2.2)
        rw [servesB_iff] at this
        omega
    subst hjh'
    have s0 : s = false := by
      cases s with
      | false => rfl
      | true =>
        obtain ⟨k, k1, k2, k3, k4, k5⟩ := hs.1 rfl
        have b := beh k k1 k2 k3
        rcases b.2 with b2 | b2
        · omega
        · have := (servesB_iff _).2 b2.2
          rw [← k5, servesB_iff] at this
          omega
    unfold holderF
    rw [h0, s0, hh]; rfl
theorem sound_core {row : List Lg} (c : Core row.length (at0 row) E H O) : soundF row = true := by
  have hF := holder_core c
  have n8 := c.n8
  have h0 := c.h0
  unfold soundF
  rw [hF]
  have d1 : decide (8 < row.length) = false := by simp; omega
  have d2 : decide (H < 0) = false := by simp; omega
  rw [d1, d2]
  simp only [Bool.not_false, Bool.true_and, List.all_eq_true, List.mem_range]
  intro i hi
  have i0 : (0 : Int) ≤ i := by omega
  have iN : (i : Int) < row.length := by omega
  have v := c.val i i0 iN
  have hv := valid_of n8 i0 iN v
  have e := c.epE i i0 iN
  have hE := c.hE
  have i12 := c.i12 i i0 iN
  have i3 := c.i3 i i0 iN
  have i4 := c.i4 i i0 iN
  have tok := c.tok
  have uq : ∀ p, O E H p → (at0 row i).ph = 4 → (at0 row i).ep = E → (at0 row i).pe = H → p = i := fun p hp h4 he hpe => by
    have := (i4 h4).1
    rw [he, hpe] at this
    exact (c.uniq _ _ _ _ _ hp this).2
  unfold Vl at v
  unfold sndAt sndB
  rw [← at0_lgAt i0, ← at0_lgAt h0, hE, ← at0_lgAt v.1, hv]
  have d3 : decide ((row.length : Int) ≤ (at0 row i).pe) = false := by simp; omega
  have d4 : decide (E < (at0 row i).ep) = false := by simp; omega
  rw [d3, d4]
  simp only [Bool.not_false, Bool.true_and]
  by_cases h1 : (at0 row i).ph = 1 ∨ (at0 row i).ph = 2
  · rw [if_pos (by simpa using h1)]
    simpa using i12 h1
  · rw [if_neg (by simpa using h1)]
    by_cases h3 : (at0 row i).ph = 3
    · rw [if_pos (by simpa using h3)]
      have := i3 h3
      simp only [Bool.not_eq_true', Bool.or_eq_false_iff, decide_eq_false_iff_not, Int.not_lt]
      refine ⟨this.2.1, ?_⟩
      rw [Bool.eq_false_iff]
      intro hc
      simp only [Bool.and_eq_true, beq_iff_eq, bne_iff_ne] at hc
      exact this.2.2 hc.1.1 ⟨hc.1.2, hc.2⟩
    · rw [if_neg (by simpa using h3)]
      by_cases h4 : (at0 row i).ph = 4
      · rw [if_pos (by simpa using h4)]
        have q := i4 h4
        simp only [Bool.and_eq_true, Bool.not_eq_true', decide_eq_false_iff_not, Int.not_lt]
        refine ⟨q.2.1, ?_⟩
        rw [Bool.eq_false_iff]
        intro hc
        simp only [Bool.and_eq_true, beq_iff_eq, bne_iff_ne, Bool.or_eq_true] at hc
        obtain ⟨c1, c2⟩ := hc
        have q3 := q.2.2 c1
        rw [q3.1] at c1 c2
        have hep : (at0 row i).ep = E := by rw [← c1]; exact hE
        rcases c2 with (c2 | c2) | c2
        · exact c2 rfl
        · rcases tok with t | ⟨_, t⟩ | ⟨_, t, _⟩
          · omega
          · exact c2 (uq _ t h4 hep q3.1)
          · exact c2 (uq _ t h4 hep q3.1)
        · rcases q3.2 with t | t <;> simp [t, nagF] at c2
      · rw [if_neg (by simpa using h4)]
end
end Go.Proofs.Ytecdmbcdkfjgfaa
