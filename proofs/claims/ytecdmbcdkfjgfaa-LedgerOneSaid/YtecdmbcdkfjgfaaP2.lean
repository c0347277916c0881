/- The protocol of ledgers, in plain Lean: messages; what each act makes of a world, and that it keeps what holds. -/
import Derived.Test.YtecdmbcdkfjgfaaP1
import Derived.Test.YtecdmbcdkfjgfaaB1
import Derived.Test.YtecdmbcdkfjgfaaD1
import Derived.Test.YtecdmbcdkfjgfaaE1
namespace Go.Proofs.Ytecdmbcdkfjgfaa
set_option linter.unusedVariables false
set_option linter.unusedSimpArgs false

section
variable {n : Int} {r : Int → Lg} {E H : Int} {O O' : Int → Int → Int → Prop}
theorem MsgOk.step {m : Ml} (h : MsgOk r O m) (hoff : ∀ e s p, O e s p → s ≠ p) (hO : ∀ e s p, O e s p → O' e s p) {x : Int} {l : Lg} (he : (r x).ep ≤ l.ep) (h4 : l.ph = 4 → (r x).ep < l.ep)
    (h3 : (r x).ph = 3 → (l.ph = 3 ∧ l.ep = (r x).ep) ∨ ∀ t, O (r x).ep x t → (r t).ph = 4 → (r t).ep = (r x).ep → False) : MsgOk (upd r x l) O' m := by
  obtain ⟨kd, ep, fr, tt⟩ := m
  unfold MsgOk at h ⊢
  simp only at h ⊢
  rcases h with ⟨k, a, b, c⟩ | ⟨k, a, b, c⟩ | ⟨k, a, b, c⟩ | ⟨k, a, b, c⟩ | ⟨k, a, b⟩ | ⟨k, a⟩
  · refine Or.inl ⟨k, hO _ _ _ a, ?_, c⟩
    by_cases hx : fr = x
    · rw [hx, upd_same]; rw [hx] at b; omega
    · rw [upd_ne _ _ hx]; exact b
  · refine Or.inr (Or.inl ⟨k, hO _ _ _ a, ?_, ?_⟩)
    · by_cases hx : fr = x
      · rw [hx, upd_same]; rw [hx] at b; omega
      · rw [upd_ne _ _ hx]; exact b
    · by_cases hx : tt = x
      · rw [hx, upd_same]; rw [hx] at c; omega
      · rw [upd_ne _ _ hx]; exact c
  · have hne := hoff _ _ _ a
    refine Or.inr (Or.inr (Or.inl ⟨k, hO _ _ _ a, ?_, ?_⟩))
    · by_cases hx : tt = x
      · rw [hx, upd_same]; rw [hx] at b; omega
      · rw [upd_ne _ _ hx]; exact b
    · by_cases hx : tt = x
      · rw [hx, upd_same]; rw [hx] at b
        intro q1 q2
        have := h4 q1; omega
      · rw [upd_ne _ _ hx]
        intro q1 q2
        have q3 := c q1 q2
        by_cases hy : fr = x
        · rw [hy, upd_same]; rw [hy] at q3 a
          rcases h3 q3.1 with q4 | q4
          · exact ⟨q4.1, by omega⟩
          · exact (q4 tt (by rw [q3.2]; exact a) q1 (by omega)).elim
        · rw [upd_ne _ _ hy]; exact q3
  · refine Or.inr (Or.inr (Or.inr (Or.inl ⟨k, hO _ _ _ a, ?_, ?_⟩)))
    · by_cases hx : fr = x
      · rw [hx, upd_same]; rw [hx] at b; omega
      · rw [upd_ne _ _ hx]; exact b
    · by_cases hx : fr = x
      · rw [hx, upd_same]; rw [hx] at b c
        rintro ⟨q1, q2⟩
        have := h4 q1; omega
      · rw [upd_ne _ _ hx]; exact c
  · refine Or.inr (Or.inr (Or.inr (Or.inr (Or.inl ⟨k, hO _ _ _ a, ?_⟩))))
    by_cases hx : fr = x
    · rw [hx, upd_same]; rw [hx] at b; omega
    · rw [upd_ne _ _ hx]; exact b
  · exact Or.inr (Or.inr (Or.inr (Or.inr (Or.inr ⟨k, hO _ _ _ a⟩))))
end

/-- A ledger of a row. -/
def at0 (row : List Lg) (i : Int) : Lg := if 0 ≤ i then row.getD i.toNat ⟨0, 0, 0⟩ else ⟨0, 0, 0⟩
theorem at0_set (row : List Lg) (i : Int) (l : Lg) (h0 : 0 ≤ i) (hn : i < row.length) : at0 (row.set i.toNat l) = upd (at0 row) i l := by
  funext j
  unfold at0 upd
  dsimp only
  by_cases hj : 0 ≤ j
  · rw [if_pos hj, if_pos hj, List.getD_eq_getElem?_getD, List.getD_eq_getElem?_getD, List.getElem?_set]
    by_cases hij : j = i
    · subst hij; rw [if_pos rfl, if_pos (by omega), if_pos rfl]; rfl
    · rw [if_neg (by omega), if_neg hij]
  · rw [if_neg hj, if_neg hj, if_neg (by omega)]
theorem at0_nat (row : List Lg) (i : Nat) (h : i < row.length) : at0 row i = row[i] := by
  unfold at0
  rw [if_pos (by omega), List.getD_eq_getElem?_getD, Int.toNat_natCast, List.getElem?_eq_getElem h]; rfl
structure Wd where
  row : List Lg
  sent : List Ml
/-- What holds of a world. -/
def Inv (w : Wd) : Prop := ∃ E H O, Core w.row.length (at0 w.row) E H O ∧ ∀ m ∈ w.sent, MsgOk (at0 w.row) O m
theorem valid_of {n i : Int} {l : Lg} (h8 : n ≤ 8) (h0 : 0 ≤ i) (hn : i < n) (v : Vl n i l) : validB i l.ph l.ep l.pe = true := by
  obtain ⟨ph, ep, pe⟩ := l
  unfold Vl at v
  simp only at v
  obtain ⟨a, b, c, d, v⟩ := v
  rcases v with ⟨rfl, rfl⟩ | ⟨rfl, v, rfl⟩ | ⟨rfl, v, v2, v3⟩ | ⟨rfl | rfl | rfl, v, v2⟩ <;> simp [validB, srvB] <;> omega

def takeW (w : Wd) (who k re rp : Int) : Wd × Bool :=
  if (stepF who (at0 w.row who) k re rp).2 = 0 then (⟨w.row.set who.toNat (stepF who (at0 w.row who) k re rp).1, w.sent⟩, true) else (w, false)
def nagW (w : Wd) (who : Int) : Wd :=
  if nagF (at0 w.row who).ph = 0 then w else ⟨w.row, w.sent ++ [⟨nagF (at0 w.row who).ph, (at0 w.row who).ep, who, (at0 w.row who).pe⟩]⟩
def hears (w : Wd) (m : Ml) (full : Bool) : Int × Int :=
  let h := hearF m.tt (at0 w.row m.tt).ph (at0 w.row m.tt).ep (at0 w.row m.tt).pe m.kd m.ep m.fr
  if h.1 == 4 && full then (0, 8) else h
def hearW (w : Wd) (m : Ml) (full : Bool) : Wd × Bool :=
  if decide (m.tt < 0) || decide ((w.row.length : Int) ≤ m.tt) then (w, false) else
  let h := hears w m full
  let t := if h.1 == 0 then (w, true) else takeW w m.tt h.1 m.ep m.fr
  if !t.2 then (t.1, false) else
  (if h.2 == 0 then t.1 else ⟨t.1.row, t.1.sent ++ [⟨h.2, m.ep, m.tt, m.fr⟩]⟩, true)

theorem stepF_of {s : Int} {l : Lg} {k re rp : Int} {l' : Lg} (hv : validB s l.ph l.ep l.pe = true) (hk : 1 ≤ k ∧ k ≤ 8) (hr : rightB l.ph k = true) (he : ¬ ((k = 2 ∧ 1073741822 < l.ep) ∨ (k = 4 ∧ (re ≤ l.ep ∨ 1073741824 ≤ re))))
    (hm : madeL s l k re rp = l') (hv' : validB s l'.ph l'.ep l'.pe = true) : stepF s l k re rp = (l', 0) := by
  subst hm
  unfold stepF
  rw [if_neg (by simp [hv]; omega), if_neg (by simp [hr]), if_neg he, if_pos hv']
theorem step_offer {n s rp : Int} {l : Lg} (h8 : n ≤ 8) (s0 : 0 ≤ s) (sn : s < n) (v : Vl n s l) (p0 : 0 ≤ rp) (pn : rp < n) (h1 : l.ph = 1) (hp : rp ≠ s) (he : l.ep ≤ 1073741822) : stepF s l 2 0 rp = (⟨2, l.ep + 1, rp⟩, 0) := by
  have v' := v
  unfold Vl at v'
  refine stepF_of (valid_of h8 s0 sn v) (by omega) (by simp [rightB, h1]) (by omega) (by simp [madeL]) (valid_of h8 s0 sn ?_)
  exact ⟨p0, pn, by dsimp only; omega, by dsimp only; omega, Or.inr (Or.inr (Or.inl ⟨rfl, hp, by dsimp only; omega, by dsimp only; omega⟩))⟩
theorem step_offer_no {s rp : Int} {l : Lg} (h : ¬ (l.ph = 1 ∧ rp ≠ s ∧ l.ep ≤ 1073741822)) : ¬ (stepF s l 2 0 rp).2 = 0 := by
  unfold stepF
  split
  · simp
  · split
    · simp
    · rename_i h2
      split
      · simp
      · rename_i h3
        split
        · rename_i h4
          exfalso
          have h1 : l.ph = 1 := by simpa [rightB] using h2
          have h5 : rp = s := by
            by_cases hp : rp = s
            · exact hp
            · exact absurd ⟨h1, hp, by omega⟩ h
          simp [madeL, validB, h5] at h4
        · simp
theorem step_cancel {n s re rp : Int} {l : Lg} (h8 : n ≤ 8) (s0 : 0 ≤ s) (sn : s < n) (v : Vl n s l) (h2 : l.ph = 2) : stepF s l 3 re rp = (⟨1, l.ep + 1, s⟩, 0) := by
  have v' := v
  unfold Vl at v'
  refine stepF_of (valid_of h8 s0 sn v) (by omega) (by simp [rightB, h2]) (by omega) (by simp [madeL]) (valid_of h8 s0 sn ?_)
  exact ⟨s0, sn, by dsimp only; omega, by dsimp only; omega, Or.inl ⟨rfl, rfl⟩⟩
theorem step_cancel_no {s re rp : Int} {l : Lg} (h : l.ph ≠ 2) : ¬ (stepF s l 3 re rp).2 = 0 := by
  unfold stepF
  split
  · simp
  · rw [if_pos (by simp [rightB, h])]; simp
theorem step_install {n s re rp : Int} {l : Lg} (h8 : n ≤ 8) (s0 : 0 ≤ s) (sn : s < n) (v : Vl n s l) (p0 : 0 ≤ rp) (pn : rp < n) (h1 : l.ph = 0 ∨ l.ph = 4 ∨ l.ph = 5) (hp : rp ≠ s) (he : l.ep < re) (hm : re < 1073741824) : stepF s l 4 re rp = (⟨4, re, rp⟩, 0) := by
  have v' := v
  unfold Vl at v'
  refine stepF_of (valid_of h8 s0 sn v) (by omega) (by simp [rightB]; omega) (by omega) (by simp [madeL]) (valid_of h8 s0 sn ?_)
  exact ⟨p0, pn, by dsimp only; omega, by dsimp only; omega, Or.inr (Or.inr (Or.inr ⟨Or.inr (Or.inl rfl), hp, by dsimp only; omega⟩))⟩
theorem step_commit {n s re rp : Int} {l : Lg} (h8 : n ≤ 8) (s0 : 0 ≤ s) (sn : s < n) (v : Vl n s l) (h2 : l.ph = 2) : stepF s l 5 re rp = (⟨3, l.ep, l.pe⟩, 0) := by
  have v' := v
  unfold Vl at v'
  refine stepF_of (valid_of h8 s0 sn v) (by omega) (by simp [rightB, h2]) (by omega) (by simp [madeL]) (valid_of h8 s0 sn ?_)
  exact ⟨by dsimp only; omega, by dsimp only; omega, by dsimp only; omega, by dsimp only; omega, Or.inr (Or.inr (Or.inr ⟨Or.inl rfl, by dsimp only; omega, by dsimp only; omega⟩))⟩
theorem step_own {n s re rp : Int} {l : Lg} (h8 : n ≤ 8) (s0 : 0 ≤ s) (sn : s < n) (v : Vl n s l) (h4 : l.ph = 4) : stepF s l 6 re rp = (⟨1, l.ep, s⟩, 0) := by
  have v' := v
  unfold Vl at v'
  refine stepF_of (valid_of h8 s0 sn v) (by omega) (by simp [rightB, h4]) (by omega) (by simp [madeL]) (valid_of h8 s0 sn ?_)
  exact ⟨s0, sn, by dsimp only; omega, by dsimp only; omega, Or.inl ⟨rfl, rfl⟩⟩
theorem step_release {n s re rp : Int} {l : Lg} (h8 : n ≤ 8) (s0 : 0 ≤ s) (sn : s < n) (v : Vl n s l) (h3 : l.ph = 3) : stepF s l 7 re rp = (⟨5, l.ep, l.pe⟩, 0) := by
  have v' := v
  unfold Vl at v'
  refine stepF_of (valid_of h8 s0 sn v) (by omega) (by simp [rightB, h3]) (by omega) (by simp [madeL]) (valid_of h8 s0 sn ?_)
  exact ⟨by dsimp only; omega, by dsimp only; omega, by dsimp only; omega, by dsimp only; omega, Or.inr (Or.inr (Or.inr ⟨Or.inr (Or.inr rfl), by dsimp only; omega, by dsimp only; omega⟩))⟩
theorem step_forget {n s re rp : Int} {l : Lg} (h8 : n ≤ 8) (s0 : 0 ≤ s) (sn : s < n) (v : Vl n s l) (h4 : l.ph = 4) : stepF s l 8 re rp = (⟨5, l.ep, l.pe⟩, 0) := by
  have v' := v
  unfold Vl at v'
  refine stepF_of (valid_of h8 s0 sn v) (by omega) (by simp [rightB, h4]) (by omega) (by simp [madeL]) (valid_of h8 s0 sn ?_)
  exact ⟨by dsimp only; omega, by dsimp only; omega, by dsimp only; omega, by dsimp only; omega, Or.inr (Or.inr (Or.inr ⟨Or.inr (Or.inr rfl), by dsimp only; omega, by dsimp only; omega⟩))⟩
end Go.Proofs.Ytecdmbcdkfjgfaa
