/- The plain law of LedgerRows: the program's holder and soundness are the document's. -/
import Derived.Test.YtecdmbcdkfjgfaaG4
namespace Go.Proofs.Ytecdmbcdkfjgfaa
set_option linter.unusedVariables false
set_option linter.unusedSimpArgs false
open Go.RowKit

theorem holdsB_iff (ph : Int) : holdsB ph = true ↔ ph = 1 ∨ ph = 2 ∨ ph = 3 := by simp [holdsB, or_assoc]
theorem servesB_iff (ph : Int) : servesB ph = true ↔ ph = 1 := by simp [servesB]
/-- j is the best of the first i; s: another one is as good. -/
def Best (row : List Lg) (i : Nat) (j : Nat) (s : Bool) : Prop :=
  j < i ∧ holdsB (lgAt row j).ph = true ∧
  (∀ k : Nat, k < i → holdsB (lgAt row k).ph = true → (lgAt row k).ep ≤ (lgAt row j).ep ∧ ((lgAt row k).ep = (lgAt row j).ep → servesB (lgAt row k).ph = true → servesB (lgAt row j).ph = true)) ∧
  (s = true ↔ ∃ k : Nat, k < i ∧ k ≠ j ∧ holdsB (lgAt row k).ph = true ∧ (lgAt row k).ep = (lgAt row j).ep ∧ servesB (lgAt row k).ph = servesB (lgAt row j).ph)
theorem hst_spec (row : List Lg) : ∀ i, (hst row i = (-1, false) ∧ ∀ k : Nat, k < i → holdsB (lgAt row k).ph = false) ∨ ∃ (j : Nat) (s : Bool), hst row i = ((j : Int), s) ∧ Best row i j s
  | 0 => Or.inl ⟨rfl, by omega⟩
  | i + 1 => by
    rw [hst]
    rcases hst_spec row i with ⟨h0, hn⟩ | ⟨j, s, h0, hj, hh, hall, hs⟩
    · rw [h0, hstep]
      cases hl : holdsB (lgAt row i).ph with
      | false =>
        left
        simp only [hl, Bool.not_false, if_true]
        refine ⟨by simp, fun k hk => ?_⟩
        by_cases hki : k = i
        · rw [hki]; exact hl
        · exact hn k (by omega)
      | true =>
        right
        refine ⟨i, false, ?_, by omega, hl, fun k hk hk2 => ?_, ?_⟩
        · simp [hl]
        · by_cases hki : k = i
          · rw [hki]; simp
          · rw [hn k (by omega)] at hk2; cases hk2
        · simp only [Bool.false_eq_true, false_iff]
          rintro ⟨k, h1, h2, h3, _⟩
          rw [hn k (by omega)] at h3; cases h3
    · rw [h0, hstep]
      have e0 : decide ((j : Int) < 0) = false := by simp
      cases hl : holdsB (lgAt row i).ph with
      | false =>
        right
        refine ⟨j, s, by simp [hl], by omega, hh, fun k hk hk2 => ?_, ?_⟩
        · by_cases hki : k = i
          · rw [hki, hl] at hk2; cases hk2
          · exact hall k (by omega) hk2
        · rw [hs]
          constructor
          · rintro ⟨k, h1, h2⟩; exact ⟨k, by omega, h2⟩
          · rintro ⟨k, h1, h2, h3, h4⟩
            by_cases hki : k = i
            · rw [hki, hl] at h3; cases h3
            · exact ⟨k, by omega, h2, h3, h4⟩
      | true =>
        right
        by_cases hb : (decide ((lgAt row j).ep < (lgAt row i).ep) || ((lgAt row i).ep == (lgAt row j).ep && servesB (lgAt row i).ph && !servesB (lgAt row j).ph)) = true
        · refine ⟨i, false, ?_, by omega, hl, fun k hk hk2 => ?_, ?_⟩
          · simp only [hl, e0, Bool.not_true, Bool.false_eq_true, if_false, Bool.false_or, hb, if_true]
          · by_cases hki : k = i
            · rw [hki]; simp
            · have := hall k (by omega) hk2
              simp only [Bool.or_eq_true, decide_eq_true_eq, Bool.and_eq_true, beq_iff_eq, Bool.not_eq_true'] at hb
              rcases hb with hb | ⟨⟨hb1, hb2⟩, hb3⟩
              · exact ⟨by omega, fun h => by omega⟩
              · exact ⟨by omega, fun _ _ => hb2⟩
          · simp only [Bool.false_eq_true, false_iff]
            rintro ⟨k, h1, h2, h3, h4, h5⟩
            have := hall k (by omega) h3
            simp only [Bool.or_eq_true, decide_eq_true_eq, Bool.and_eq_true, beq_iff_eq, Bool.not_eq_true'] at hb
            rcases hb with hb | ⟨⟨hb1, hb2⟩, hb3⟩
            · omega
            · have h6 := this.2 (by omega) (by rw [h5]; exact hb2)
              rw [hb3] at h6; cases h6
        · have hb' : (decide ((lgAt row j).ep < (lgAt row i).ep) || ((lgAt row i).ep == (lgAt row j).ep && servesB (lgAt row i).ph && !servesB (lgAt row j).ph)) = false := by simpa using hb
          by_cases hc : ((lgAt row i).ep == (lgAt row j).ep && servesB (lgAt row i).ph == servesB (lgAt row j).ph) = true
          · refine ⟨j, true, ?_, by omega, hh, fun k hk hk2 => ?_, ?_⟩
            · simp only [hl, e0, Bool.not_true, Bool.false_eq_true, if_false, Bool.false_or, hb', hc, if_true]
            · by_cases hki : k = i
              · rw [hki]
                simp only [Bool.and_eq_true, beq_iff_eq] at hc
                exact ⟨by omega, fun _ h => by rw [← hc.2]; exact h⟩
              · exact hall k (by omega) hk2
            · simp only [Bool.and_eq_true, beq_iff_eq] at hc
              simp only [true_iff]
              exact ⟨i, by omega, by omega, hl, hc.1, hc.2⟩
          · have hc' : ((lgAt row i).ep == (lgAt row j).ep && servesB (lgAt row i).ph == servesB (lgAt row j).ph) = false := by simpa using hc
            refine ⟨j, s, ?_, by omega, hh, fun k hk hk2 => ?_, ?_⟩
            · simp only [hl, e0, Bool.not_true, Bool.false_eq_true, if_false, Bool.false_or, hb', hc']
            · by_cases hki : k = i
              · rw [hki]
                simp only [Bool.or_eq_false_iff, decide_eq_false_iff_not] at hb'
                refine ⟨by omega, fun h h2 => ?_⟩
                cases h3 : servesB (lgAt row j).ph with
                | true => rfl
                | false =>
                  have := hb'.2
                  rw [h, h2, h3] at this
                  simp at this
              · exact hall k (by omega) hk2
            · rw [hs]
              constructor
              · rintro ⟨k, h1, h2⟩; exact ⟨k, by omega, h2⟩
              · rintro ⟨k, h1, h2, h3, h4, h5⟩
                by_cases hki : k = i
                · subst hki
                  rw [h4, h5] at hc'
                  simp at hc'
                · exact ⟨k, by omega, h2, h3, h4, h5⟩
theorem gF_spec (row : List Lg) (hok : ∀ k, -9223372036854775808 ≤ (lgAt row k).ep) : ∀ i : Nat, (∀ k : Nat, k < i → holdsB (lgAt row k).ph = true → (lgAt row k).ep ≤ gF row i) ∧ ((∃ k : Nat, k < i ∧ holdsB (lgAt row k).ph = true) → ∃ k : Nat, k < i ∧ holdsB (lgAt row k).ph = true ∧ (lgAt row k).ep = gF row i) ∧ -9223372036854775808 ≤ gF row i ∧ ((∃ k : Nat, k < i ∧ holdsB (lgAt row k).ph = true) ∨ gF row i = -9223372036854775808)
  | 0 => ⟨by omega, by rintro ⟨k, h, _⟩; omega, by simp [gF], Or.inr rfl⟩
  | i + 1 => by
    obtain ⟨h1, h2, h3, h4⟩ := gF_spec row hok i
    have ho := hok (i : Int)
    rw [gF]
    split
    · rename_i hc
      simp only [Bool.and_eq_true, decide_eq_true_eq] at hc
      refine ⟨fun k hk hk2 => ?_, fun _ => ⟨i, by omega, hc.1, rfl⟩, ho, Or.inl ⟨i, by omega, hc.1⟩⟩
      by_cases hki : k = i
      · rw [hki]; omega
      · have := h1 k (by omega) hk2; omega
    · rename_i hc
      simp only [Bool.and_eq_true, decide_eq_true_eq, not_and] at hc
      refine ⟨fun k hk hk2 => ?_, fun hex => ?_, h3, ?_⟩
      · by_cases hki : k = i
        · rw [hki] at hk2 ⊢; have := hc hk2; omega
        · exact h1 k (by omega) hk2
      · by_cases hi : ∃ k : Nat, k < i ∧ holdsB (lgAt row k).ph = true
        · obtain ⟨k, a, b, c⟩ := h2 hi
          exact ⟨k, by omega, b, c⟩
        · obtain ⟨k, a, b⟩ := hex
          have hki : k = i := by
            by_cases hki : k = i
            · exact hki
            · exact absurd ⟨k, by omega, b⟩ hi
          subst hki
          have := hc b
          rcases h4 with h4 | h4
          · exact absurd h4 hi
          · exact ⟨k, by omega, b, by omega⟩
      · rcases h4 with ⟨k, a, b⟩ | h4
        · exact Or.inl ⟨k, by omega, b⟩
        · exact Or.inr h4
theorem aF_spec (row : List Lg) (g : Int) : ∀ i : Nat, aF row g i = true ↔ ∃ k : Nat, k < i ∧ (lgAt row k).ph = 1 ∧ (lgAt row k).ep = g
  | 0 => by simp [aF]
  | i + 1 => by
    rw [aF, Bool.or_eq_true, aF_spec row g i]
    simp only [Bool.and_eq_true, beq_iff_eq]
    constructor
    · rintro (⟨k, h, h2⟩ | h)
      · exact ⟨k, by omega, h2⟩
      · exact ⟨i, by omega, h⟩
    · rintro ⟨k, h, h2⟩
      by_cases hki : k = i
      · subst hki; exact Or.inr h2
      · exact Or.inl ⟨k, by omega, h2⟩
theorem fF_spec (row : List Lg) (g : Int) (a : Bool) : ∀ i : Nat,
    (fF row g a i = (-1, false) ∧ ∀ k : Nat, k < i → selB g a (lgAt row k) = false) ∨
    (∃ j : Nat, j < i ∧ fF row g a i = ((j : Int), false) ∧ selB g a (lgAt row j) = true ∧ ∀ k : Nat, k < i → selB g a (lgAt row k) = true → k = j) ∨
    ((fF row g a i).2 = true ∧ ∃ j k : Nat, j < i ∧ k < i ∧ j ≠ k ∧ selB g a (lgAt row j) = true ∧ selB g a (lgAt row k) = true)
  | 0 => Or.inl ⟨rfl, by omega⟩
  | i + 1 => by
    rw [fF]
    rcases fF_spec row g a i with ⟨h0, hn⟩ | ⟨j, hj, h0, hsj, hn⟩ | ⟨h0, j, k, hj, hk, hjk, h1, h2⟩
    · cases hs : selB g a (lgAt row i) with
      | false =>
        left
        rw [h0]
        refine ⟨by simp, fun k hk => ?_⟩
        by_cases hki : k = i
        · rw [hki]; exact hs
        · exact hn k (by omega)
      | true =>
        right; left
        rw [h0]
        refine ⟨i, by omega, by simp, hs, fun k hk hk2 => ?_⟩
        by_cases hki : k = i
        · exact hki
        · rw [hn k (by omega)] at hk2; cases hk2
    · cases hs : selB g a (lgAt row i) with
      | false =>
        right; left
        rw [h0]
        refine ⟨j, by omega, by simp, hsj, fun k hk hk2 => ?_⟩
        by_cases hki : k = i
        · rw [hki, hs] at hk2; cases hk2
        · exact hn k (by omega) hk2
      | true =>
        right; right
        rw [h0]
        refine ⟨by simp, j, i, by omega, by omega, by omega, hsj, hs⟩
    · right; right
      refine ⟨?_, j, k, by omega, by omega, hjk, h1, h2⟩
      split
      · split
        · rfl
        · exact h0
      · exact h0

theorem holder_eq (row : List Lg) (hok : ∀ k, -9223372036854775808 ≤ (lgAt row k).ep) : holderF row = refHolderF row := by
  obtain ⟨g1, g2, g3, g4⟩ := gF_spec row hok row.length
  simp only [holderF, refHolderF]
  generalize gF row row.length = g at *
  have ha := aF_spec row g row.length
  generalize aF row g row.length = a at *
  have hsel : ∀ k : Nat, selB g a (lgAt row k) = true ↔ (lgAt row k).ep = g ∧ (a = true → (lgAt row k).ph = 1) ∧ holdsB (lgAt row k).ph = true := by
    intro k
    simp only [selB, Bool.not_eq_true', Bool.or_eq_false_iff, bne_eq_false_iff_eq, Bool.and_eq_false_imp, Bool.not_eq_false', and_assoc]
  have hso : ∀ ph : Int, servesB ph = true → holdsB ph = true := fun ph h => by rw [servesB_iff] at h; rw [holdsB_iff]; exact Or.inl h
  rcases hst_spec row row.length with ⟨h0, hn⟩ | ⟨j, s, h0, hj, hh, hall, hs⟩
  · rw [h0]
    rcases fF_spec row g a row.length with ⟨f0, _⟩ | ⟨k, hk, f0, f1, _⟩ | ⟨f0, k, _, hk, _, _, f1, _⟩
    · rw [f0]
    · have := ((hsel k).1 f1).2.2
      rw [hn k hk] at this; cases this
    · have := ((hsel k).1 f1).2.2
      rw [hn k hk] at this; cases this
  · have hg : (lgAt row j).ep = g := by
      obtain ⟨k, k1, k2, k3⟩ := g2 ⟨j, hj, hh⟩
      have := (hall k k1 k2).1
      have := g1 j hj hh
      omega
    have hsj : selB g a (lgAt row j) = true := by
      rw [hsel]
      refine ⟨hg, fun h => ?_, hh⟩
      obtain ⟨k, k1, k2, k3⟩ := ha.1 h
      exact (servesB_iff _).1 ((hall k k1 (hso _ ((servesB_iff _).2 k2))).2 (by omega) ((servesB_iff _).2 k2))
    have hsk : ∀ k : Nat, k < row.length → selB g a (lgAt row k) = true → k ≠ j → s = true := by
      intro k k1 k2 k3
      rw [hs]
      obtain ⟨k4, k5, k6⟩ := (hsel k).1 k2
      refine ⟨k, k1, k3, k6, by omega, ?_⟩
      cases hq : servesB (lgAt row j).ph with
      | true =>
        rw [servesB_iff] at hq ⊢
        exact k5 (ha.2 ⟨j, hj, hq, hg⟩)
      | false =>
        cases hq2 : servesB (lgAt row k).ph with
        | false => rfl
        | true =>
          have := (hall k k1 k6).2 (by omega) hq2
          rw [hq] at this; cases this
    have hks : s = true → ∃ k : Nat, k < row.length ∧ k ≠ j ∧ selB g a (lgAt row k) = true := by
      intro h
      obtain ⟨k, k1, k2, k3, k4, k5⟩ := hs.1 h
      refine ⟨k, k1, k2, (hsel k).2 ⟨by omega, fun h => ?_, k3⟩⟩
      have := ((hsel j).1 hsj).2.1 h
      rw [← servesB_iff] at this ⊢
      rw [k5]; exact this
    rw [h0]
    rcases fF_spec row g a row.length with ⟨f0, f1⟩ | ⟨k, hk, f0, f1, f2⟩ | ⟨f0, k, k', hk, hk', hkk, f1, f2⟩
    · rw [f1 j hj] at hsj; cases hsj
    · have hkj := f2 j hj hsj
      subst hkj
      have hsf : s = false := by
        cases s with
        | false => rfl
        | true =>
          obtain ⟨k', k1, k2, k3⟩ := hks rfl
          exact absurd (f2 k' k1 k3) k2
      rw [f0, hsf]
    · have hst : s = true := by
        by_cases hkj : k = j
        · exact hsk k' hk' f2 (by omega)
        · exact hsk k hk f1 hkj
      rw [f0, hst]
      rfl
/-- The holder is one of the phases 1 to 3. -/
theorem holder_holds (row : List Lg) (h : Nat) (hh : holderF row = h) : (lgAt row h).ph = 1 ∨ (lgAt row h).ph = 2 ∨ (lgAt row h).ph = 3 := by
  simp only [holderF] at hh
  rcases hst_spec row row.length with ⟨h0, hn⟩ | ⟨j, s, h0, hj, hp, _⟩
  · rw [h0] at hh; simp at hh
  · rw [h0] at hh
    cases s
    · simp at hh
      have e : j = h := by omega
      rw [← e]; exact (holdsB_iff _).1 hp
    · simp at hh
theorem all_and {f g k : Nat → Bool} {n : Nat} (h : ∀ i, i < n → f i = (g i && k i)) : (List.range n).all f = ((List.range n).all g && (List.range n).all k) := by
  rw [Bool.eq_iff_iff]
  simp only [Bool.and_eq_true, List.all_eq_true, List.mem_range]
  constructor
  · intro H
    exact ⟨fun i hi => by have := H i hi; rw [h i hi] at this; simp at this; exact this.1, fun i hi => by have := H i hi; rw [h i hi] at this; simp at this; exact this.2⟩
  · rintro ⟨H1, H2⟩ i hi
    rw [h i hi, H1 i hi, H2 i hi]; rfl
theorem snd_rs (row : List Lg) (h : Nat) (hh : holderF row = h) (i : Nat) : sndAt row h i = (rs1At row h i && rs2At row h i) := by
  have hp := holder_holds row h hh
  have hpe : (lgAt row i).pe = h → (lgAt row (lgAt row i).pe).ph = 1 ∨ (lgAt row (lgAt row i).pe).ph = 2 ∨ (lgAt row (lgAt row i).pe).ph = 3 := fun e => by rw [e]; exact hp
  simp only [sndAt, sndB, rs1At, rs1B, rs2At, rs2B]
  generalize lgAt row (lgAt row i).pe = p at *
  generalize lgAt row i = l at *
  generalize (lgAt row (h : Int)).ep = hep at *
  by_cases hv : (validB i l.ph l.ep l.pe && !decide ((row.length : Int) ≤ l.pe) && !decide (hep < l.ep)) = true
  · rw [hv]
    simp only [Bool.true_and]
    obtain ⟨x1, x2, x3, x4, hx1, hx2, hx3, hx4, hm⟩ := ph5 l.ph
    rw [hx1, hx2, hx3, hx4]
    rcases hm with ⟨rfl, rfl, rfl, rfl⟩ | ⟨rfl, rfl, rfl, rfl⟩ | ⟨rfl, rfl, rfl, rfl⟩ | ⟨rfl, rfl, rfl, rfl⟩ | ⟨rfl, rfl, rfl, rfl⟩
    · by_cases q : (i : Int) = h
      · simp [q]
      · have q2 : ((i : Int) == h) = false := by simpa using q
        simp [q2, bne]
    · by_cases q : (i : Int) = h
      · simp [q]
      · have q2 : ((i : Int) == h) = false := by simpa using q
        simp [q2, bne]
    · simp
    · by_cases q : l.pe = h
      · rcases hpe q with r | r | r <;> simp [r, q, nagF]
      · have q2 : (l.pe == (h : Int)) = false := by simpa using q
        simp [q2, bne]
    · simp
  · have : (validB i l.ph l.ep l.pe && !decide ((row.length : Int) ≤ l.pe) && !decide (hep < l.ep)) = false := by simpa using hv
    rw [this]
    simp
theorem sound_eq (row : List Lg) (hok : ∀ k, -9223372036854775808 ≤ (lgAt row k).ep) : soundF row = refSoundF row := by
  simp only [soundF, refSoundF, ← holder_eq row hok]
  by_cases hn : holderF row < 0
  · simp [hn]
  · obtain ⟨h, hh, hhl⟩ := holderF_lt row hn
    have h8 : decide (8 < row.length) = decide (8 < (row.length : Int)) := by congr 1; simp; omega
    have h1 : decide ((row.length : Int) < 1) = false := by simp; omega
    rw [h1, h8, hh, all_and (fun i _ => snd_rs row h hh i), ← Bool.and_assoc]
    rfl
end Go.Proofs.Ytecdmbcdkfjgfaa
