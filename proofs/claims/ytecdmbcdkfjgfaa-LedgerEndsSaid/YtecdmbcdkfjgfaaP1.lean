/- The protocol of ledgers, in plain Lean: what holds at each moment, and that each step keeps it. -/
import Derived.Test.YtecdmbcdkfjgfaaL
namespace Go.Proofs.Ytecdmbcdkfjgfaa
set_option linter.unusedVariables false
set_option linter.unusedSimpArgs false

def upd (r : Int → Lg) (i : Int) (l : Lg) : Int → Lg := fun j => if j = i then l else r j
theorem upd_same (r : Int → Lg) (i : Int) (l : Lg) : upd r i l i = l := by simp [upd]
theorem upd_ne (r : Int → Lg) {i j : Int} (l : Lg) (h : j ≠ i) : upd r i l j = r j := by simp [upd, h]
structure Ml where
  kd : Int
  ep : Int
  fr : Int
  tt : Int
/-- A ledger that may stand at server i of n. -/
def Vl (n i : Int) (l : Lg) : Prop :=
  0 ≤ l.pe ∧ l.pe < n ∧ 0 ≤ l.ep ∧ l.ep ≤ 1073741824 ∧
  ((l.ph = 1 ∧ l.pe = i) ∨ (l.ph = 0 ∧ l.pe ≠ i ∧ l.ep = 0) ∨ (l.ph = 2 ∧ l.pe ≠ i ∧ 0 < l.ep ∧ l.ep < 1073741824) ∨ ((l.ph = 3 ∨ l.ph = 4 ∨ l.ph = 5) ∧ l.pe ≠ i ∧ 0 < l.ep))
/-- What holds of the row: H holds the shard at the epoch E; O e s p: the epoch e began when s offered to p. -/
structure Core (n : Int) (r : Int → Lg) (E H : Int) (O : Int → Int → Int → Prop) : Prop where
  n8 : n ≤ 8
  h0 : 0 ≤ H
  hn : H < n
  hE : (r H).ep = E
  off : ∀ e s p, O e s p → 0 ≤ s ∧ s < n ∧ 0 ≤ p ∧ p < n ∧ s ≠ p ∧ 1 ≤ e ∧ e ≤ E
  uniq : ∀ e s p s' p', O e s p → O e s' p' → s = s' ∧ p = p'
  val : ∀ i, 0 ≤ i → i < n → Vl n i (r i)
  epE : ∀ i, 0 ≤ i → i < n → (r i).ep ≤ E
  tok : (r H).ph = 1 ∨ ((r H).ph = 2 ∧ O E H (r H).pe) ∨ ((r H).ph = 3 ∧ O E H (r H).pe ∧ (r (r H).pe).ph = 4 ∧ (r (r H).pe).ep = E)
  i12 : ∀ i, 0 ≤ i → i < n → (r i).ph = 1 ∨ (r i).ph = 2 → i = H
  i3 : ∀ i, 0 ≤ i → i < n → (r i).ph = 3 → O (r i).ep i (r i).pe ∧ (r i).ep ≤ (r (r i).pe).ep ∧ (i ≠ H → ¬ ((r (r i).pe).ph = 4 ∧ (r (r i).pe).ep = (r i).ep))
  i4 : ∀ i, 0 ≤ i → i < n → (r i).ph = 4 → O (r i).ep (r i).pe i ∧ (r i).ep ≤ (r (r i).pe).ep ∧ ((r (r i).pe).ep = (r i).ep → (r i).pe = H ∧ ((r H).ph = 2 ∨ (r H).ph = 3))
  i5 : ∀ i p, 0 ≤ i → i < n → O (r i).ep i p → (r i).ph = 2 ∨ (r i).ep ≤ (r p).ep
  i6 : ∀ i s, 0 ≤ i → i < n → (r i).ph = 5 → O (r i).ep s i → (r i).ep < (r s).ep
/-- What holds of a message that was sent. -/
def MsgOk (r : Int → Lg) (O : Int → Int → Int → Prop) (m : Ml) : Prop :=
  (m.kd = 3 ∧ O m.ep m.fr m.tt ∧ m.ep ≤ (r m.fr).ep ∧ m.ep < 1073741824) ∨
  (m.kd = 4 ∧ O m.ep m.tt m.fr ∧ m.ep ≤ (r m.fr).ep ∧ m.ep ≤ (r m.tt).ep) ∨
  (m.kd = 5 ∧ O m.ep m.fr m.tt ∧ m.ep ≤ (r m.tt).ep ∧ ((r m.tt).ph = 4 → (r m.tt).ep = m.ep → (r m.fr).ph = 3 ∧ (r m.fr).ep = m.ep)) ∨
  (m.kd = 6 ∧ O m.ep m.tt m.fr ∧ m.ep ≤ (r m.fr).ep ∧ ¬ ((r m.fr).ph = 4 ∧ (r m.fr).ep = m.ep)) ∨
  (m.kd = 7 ∧ O m.ep m.fr m.tt ∧ m.ep < (r m.fr).ep) ∨
  (m.kd = 8 ∧ O m.ep m.tt m.fr)
section
variable {n : Int} {r : Int → Lg} {E H : Int} {O : Int → Int → Int → Prop}
def offO (O : Int → Int → Int → Prop) (E H q : Int) : Int → Int → Int → Prop := fun e s p => O e s p ∨ (e = E + 1 ∧ s = H ∧ p = q)
set_option maxHeartbeats 4000000 in
/-- H offers to q. -/
theorem Core.offer (c : Core n r E H O) (h1 : (r H).ph = 1) {q : Int} (hq : q ≠ H) (q0 : 0 ≤ q) (qn : q < n) (hE : E ≤ 1073741822) :
    Core n (upd r H ⟨2, E + 1, q⟩) (E + 1) H (offO O E H q) := by
  obtain ⟨n8, h0, hn, hE', off, uniq, val, epE, tok, i12, i3, i4, i5, i6⟩ := c
  have v := val H h0 hn
  have e0 := epE H h0 hn
  have v' := v
  unfold Vl at v'
  constructor
  · exact n8
  · first | exact h0 | omega
  · first | exact hn | omega
  · grind [upd]
  · rintro e s' p' (h | ⟨h1', h2', h3'⟩)
    · have := off e s' p' h; omega
    · omega
  · first | exact uniq | grind [offO]
  · intro i hi hin
    by_cases hix : i = H
    · rw [hix]; rw [upd_same]; exact ⟨q0, qn, by dsimp only; omega, by dsimp only; omega, Or.inr (Or.inr (Or.inl ⟨rfl, hq, by dsimp only; omega, by dsimp only; omega⟩))⟩
    · rw [upd_ne _ _ hix]; exact val i hi hin
  · grind [upd]
  · grind [upd, offO]
  · grind [upd]
  · intro i hi hin h
    by_cases hix : i = H
    · rw [hix] at h ⊢
      rw [upd_same] at h ⊢
      dsimp only at h ⊢
      first | omega | grind [upd, offO]
    · rw [upd_ne _ _ hix] at h ⊢
      have a := i3 i hi hin h
      have b := off _ _ _ a.1
      by_cases hp : (r i).pe = H
      · rw [hp, upd_same]; rw [hp] at a b; dsimp only; grind [offO]
      · rw [upd_ne _ _ hp]; first | (rw [upd_ne _ _ hXH]; exact a) | grind [offO]
  · intro i hi hin h
    by_cases hix : i = H
    · rw [hix] at h ⊢
      rw [upd_same] at h ⊢
      dsimp only at h ⊢
      first | omega | grind [upd, offO]
    · rw [upd_ne _ _ hix] at h ⊢
      have a := i4 i hi hin h
      have b := off _ _ _ a.1
      by_cases hp : (r i).pe = H
      · rw [hp, upd_same]; rw [hp] at a b; dsimp only; grind [offO]
      · rw [upd_ne _ _ hp]; first | (rw [upd_ne _ _ hXH]; exact a) | grind [offO]
  · intro i q' hi hin ho
    by_cases hix : i = H
    · rw [hix] at ho ⊢
      rw [upd_same] at ho ⊢
      dsimp only at ho ⊢
      grind [upd, offO]
    · rw [upd_ne _ _ hix] at ho ⊢
      by_cases hp : q' = H
      · rw [hp, upd_same]; rw [hp] at ho; dsimp only; grind [offO]
      · rw [upd_ne _ _ hp]; grind [offO]
  · intro i q' hi hin h ho
    by_cases hix : i = H
    · rw [hix] at h ho ⊢
      rw [upd_same] at h ho ⊢
      dsimp only at h ho ⊢
      first | omega | grind [upd, offO]
    · rw [upd_ne _ _ hix] at h ho ⊢
      by_cases hp : q' = H
      · rw [hp, upd_same]; rw [hp] at ho; dsimp only; grind [offO]
      · rw [upd_ne _ _ hp]; grind [offO]
set_option maxHeartbeats 4000000 in
/-- H takes its offer back. -/
theorem Core.cancel (c : Core n r E H O) (h1 : (r H).ph = 2) :
    Core n (upd r H ⟨1, E + 1, H⟩) (E + 1) H O := by
  obtain ⟨n8, h0, hn, hE', off, uniq, val, epE, tok, i12, i3, i4, i5, i6⟩ := c
  have v := val H h0 hn
  have e0 := epE H h0 hn
  have v' := v
  unfold Vl at v'
  constructor
  · exact n8
  · first | exact h0 | omega
  · first | exact hn | omega
  · grind [upd]
  · intro e s' p' h; have := off e s' p'; grind [offO]
  · first | exact uniq | grind [offO]
  · intro i hi hin
    by_cases hix : i = H
    · rw [hix]; rw [upd_same]; exact ⟨h0, hn, by dsimp only; omega, by dsimp only; omega, Or.inl ⟨rfl, rfl⟩⟩
    · rw [upd_ne _ _ hix]; exact val i hi hin
  · grind [upd]
  · grind [upd, offO]
  · grind [upd]
  · intro i hi hin h
    by_cases hix : i = H
    · rw [hix] at h ⊢
      rw [upd_same] at h ⊢
      dsimp only at h ⊢
      first | omega | grind [upd, offO]
    · rw [upd_ne _ _ hix] at h ⊢
      have a := i3 i hi hin h
      have b := off _ _ _ a.1
      by_cases hp : (r i).pe = H
      · rw [hp, upd_same]; rw [hp] at a b; dsimp only; grind [offO]
      · rw [upd_ne _ _ hp]; first | (rw [upd_ne _ _ hXH]; exact a) | grind [offO]
  · intro i hi hin h
    by_cases hix : i = H
    · rw [hix] at h ⊢
      rw [upd_same] at h ⊢
      dsimp only at h ⊢
      first | omega | grind [upd, offO]
    · rw [upd_ne _ _ hix] at h ⊢
      have a := i4 i hi hin h
      have b := off _ _ _ a.1
      by_cases hp : (r i).pe = H
      · rw [hp, upd_same]; rw [hp] at a b; dsimp only; grind [offO]
      · rw [upd_ne _ _ hp]; first | (rw [upd_ne _ _ hXH]; exact a) | grind [offO]
  · intro i q' hi hin ho
    by_cases hix : i = H
    · rw [hix] at ho ⊢
      rw [upd_same] at ho ⊢
      dsimp only at ho ⊢
      grind [upd, offO]
    · rw [upd_ne _ _ hix] at ho ⊢
      by_cases hp : q' = H
      · rw [hp, upd_same]; rw [hp] at ho; dsimp only; grind [offO]
      · rw [upd_ne _ _ hp]; grind [offO]
  · intro i q' hi hin h ho
    by_cases hix : i = H
    · rw [hix] at h ho ⊢
      rw [upd_same] at h ho ⊢
      dsimp only at h ho ⊢
      first | omega | grind [upd, offO]
    · rw [upd_ne _ _ hix] at h ho ⊢
      by_cases hp : q' = H
      · rw [hp, upd_same]; rw [hp] at ho; dsimp only; grind [offO]
      · rw [upd_ne _ _ hp]; grind [offO]
set_option maxHeartbeats 4000000 in
/-- p installs what s offered. -/
theorem Core.install (c : Core n r E H O) {p s e : Int} (hO : O e s p) (hs : e ≤ (r s).ep) (hp : (r p).ph = 0 ∨ (r p).ph = 4 ∨ (r p).ph = 5) (he : (r p).ep < e) (hm : e < 1073741824) :
    Core n (upd r p ⟨4, e, s⟩) E H O := by
  obtain ⟨n8, h0, hn, hE', off, uniq, val, epE, tok, i12, i3, i4, i5, i6⟩ := c
  have v := val H h0 hn
  have e0 := epE H h0 hn
  have of1 := off e s p hO
  have v' := val p (by omega) (by omega)
  unfold Vl at v'
  have hpH : p ≠ H := by rintro rfl; omega
  have hXH : H ≠ p := fun h => hpH h.symm
  constructor
  · exact n8
  · first | exact h0 | omega
  · first | exact hn | omega
  · grind [upd]
  · intro e s' p' h; have := off e s' p'; grind [offO]
  · first | exact uniq | grind [offO]
  · intro i hi hin
    by_cases hix : i = p
    · rw [hix]; rw [upd_same]; exact ⟨by dsimp only; omega, by dsimp only; omega, by dsimp only; omega, by dsimp only; omega, Or.inr (Or.inr (Or.inr ⟨Or.inr (Or.inl rfl), by dsimp only; omega, by dsimp only; omega⟩))⟩
    · rw [upd_ne _ _ hix]; exact val i hi hin
  · grind [upd]
  · grind [upd, offO]
  · grind [upd]
  · intro i hi hin h
    by_cases hix : i = p
    · rw [hix] at h ⊢
      rw [upd_same] at h ⊢
      dsimp only at h ⊢
      first | omega | grind [upd, offO]
    · rw [upd_ne _ _ hix] at h ⊢
      have a := i3 i hi hin h
      have b := off _ _ _ a.1
      by_cases hp : (r i).pe = p
      · rw [hp, upd_same]; rw [hp] at a b; dsimp only; grind [offO]
      · rw [upd_ne _ _ hp]; first | (rw [upd_ne _ _ hXH]; exact a) | grind [offO]
  · intro i hi hin h
    by_cases hix : i = p
    · rw [hix] at h ⊢
      rw [upd_same] at h ⊢
      dsimp only at h ⊢
      have hsp : s ≠ p := by omega
      rw [upd_ne _ _ hsp, upd_ne _ _ hXH]
      refine ⟨hO, hs, fun he' => ?_⟩
      rcases i5 s p (by omega) (by omega) (by rw [he']; exact hO) with h | h
      · have := i12 s (by omega) (by omega) (Or.inr h)
        rw [this] at h
        exact ⟨this, Or.inl h⟩
      · omega
    · rw [upd_ne _ _ hix] at h ⊢
      have a := i4 i hi hin h
      have b := off _ _ _ a.1
      by_cases hp : (r i).pe = p
      · rw [hp, upd_same]; rw [hp] at a b; dsimp only; grind [offO]
      · rw [upd_ne _ _ hp]; first | (rw [upd_ne _ _ hXH]; exact a) | grind [offO]
  · intro i q' hi hin ho
    by_cases hix : i = p
    · rw [hix] at ho ⊢
      rw [upd_same] at ho ⊢
      dsimp only at ho ⊢
      grind [upd, offO]
    · rw [upd_ne _ _ hix] at ho ⊢
      by_cases hp : q' = p
      · rw [hp, upd_same]; rw [hp] at ho; dsimp only; grind [offO]
      · rw [upd_ne _ _ hp]; grind [offO]
  · intro i q' hi hin h ho
    by_cases hix : i = p
    · rw [hix] at h ho ⊢
      rw [upd_same] at h ho ⊢
      dsimp only at h ho ⊢
      first | omega | grind [upd, offO]
    · rw [upd_ne _ _ hix] at h ho ⊢
      by_cases hp : q' = p
      · rw [hp, upd_same]; rw [hp] at ho; dsimp only; grind [offO]
      · rw [upd_ne _ _ hp]; grind [offO]
set_option maxHeartbeats 4000000 in
/-- H commits: the other one has installed. -/
theorem Core.commit (c : Core n r E H O) (h1 : (r H).ph = 2) (hp : E ≤ (r (r H).pe).ep) :
    Core n (upd r H ⟨3, E, (r H).pe⟩) E H O := by
  obtain ⟨n8, h0, hn, hE', off, uniq, val, epE, tok, i12, i3, i4, i5, i6⟩ := c
  have v := val H h0 hn
  have e0 := epE H h0 hn
  have hO : O E H (r H).pe := by
    rcases tok with h | h | h
    · omega
    · exact h.2
    · omega
  have of1 := off _ _ _ hO
  have v' := v
  unfold Vl at v'
  have hpE := epE (r H).pe (by omega) (by omega)
  have vp := val (r H).pe (by omega) (by omega)
  unfold Vl at vp
  have h4 : (r (r H).pe).ph = 4 := by
    rcases vp.2.2.2.2 with ⟨h, _⟩ | ⟨h, _, h'⟩ | ⟨h, _⟩ | ⟨h | h | h, _, _⟩
    · have := i12 _ (by omega) (by omega) (Or.inl h); omega
    · omega
    · have := i12 _ (by omega) (by omega) (Or.inr h); omega
    · have := (i3 _ (by omega) (by omega) h).1
      rw [show (r (r H).pe).ep = E by omega] at this
      have := (uniq _ _ _ _ _ hO this).1; omega
    · exact h
    · have := i6 _ H (by omega) (by omega) h (by rw [show (r (r H).pe).ep = E by omega]; exact hO); omega
  have hpe : (r (r H).pe).ep = E := by omega
  constructor
  · exact n8
  · first | exact h0 | omega
  · first | exact hn | omega
  · grind [upd]
  · intro e s' p' h; have := off e s' p'; grind [offO]
  · first | exact uniq | grind [offO]
  · intro i hi hin
    by_cases hix : i = H
    · rw [hix]; rw [upd_same]; exact ⟨by dsimp only; omega, by dsimp only; omega, by dsimp only; omega, by dsimp only; omega, Or.inr (Or.inr (Or.inr ⟨Or.inl rfl, by dsimp only; omega, by dsimp only; omega⟩))⟩
    · rw [upd_ne _ _ hix]; exact val i hi hin
  · grind [upd]
  · grind [upd, offO]
  · grind [upd]
  · intro i hi hin h
    by_cases hix : i = H
    · rw [hix] at h ⊢
      rw [upd_same] at h ⊢
      dsimp only at h ⊢
      first | omega | grind [upd, offO]
    · rw [upd_ne _ _ hix] at h ⊢
      have a := i3 i hi hin h
      have b := off _ _ _ a.1
      by_cases hp : (r i).pe = H
      · rw [hp, upd_same]; rw [hp] at a b; dsimp only; grind [offO]
      · rw [upd_ne _ _ hp]; first | (rw [upd_ne _ _ hXH]; exact a) | grind [offO]
  · intro i hi hin h
    by_cases hix : i = H
    · rw [hix] at h ⊢
      rw [upd_same] at h ⊢
      dsimp only at h ⊢
      first | omega | grind [upd, offO]
    · rw [upd_ne _ _ hix] at h ⊢
      have a := i4 i hi hin h
      have b := off _ _ _ a.1
      by_cases hp : (r i).pe = H
      · rw [hp, upd_same]; rw [hp] at a b; dsimp only; grind [offO]
      · rw [upd_ne _ _ hp]; first | (rw [upd_ne _ _ hXH]; exact a) | grind [offO]
  · intro i q' hi hin ho
    by_cases hix : i = H
    · rw [hix] at ho ⊢
      rw [upd_same] at ho ⊢
      dsimp only at ho ⊢
      grind [upd, offO]
    · rw [upd_ne _ _ hix] at ho ⊢
      by_cases hp : q' = H
      · rw [hp, upd_same]; rw [hp] at ho; dsimp only; grind [offO]
      · rw [upd_ne _ _ hp]; grind [offO]
  · intro i q' hi hin h ho
    by_cases hix : i = H
    · rw [hix] at h ho ⊢
      rw [upd_same] at h ho ⊢
      dsimp only at h ho ⊢
      first | omega | grind [upd, offO]
    · rw [upd_ne _ _ hix] at h ho ⊢
      by_cases hp : q' = H
      · rw [hp, upd_same]; rw [hp] at ho; dsimp only; grind [offO]
      · rw [upd_ne _ _ hp]; grind [offO]
set_option maxHeartbeats 4000000 in
/-- p owns. -/
theorem Core.own (c : Core n r E H O) {p : Int} (p0 : 0 ≤ p) (pn : p < n) (h4 : (r p).ph = 4) (h3 : (r (r p).pe).ph = 3) (he : (r (r p).pe).ep = (r p).ep) :
    Core n (upd r p ⟨1, (r p).ep, p⟩) E p O := by
  obtain ⟨n8, h0, hn, hE', off, uniq, val, epE, tok, i12, i3, i4, i5, i6⟩ := c
  have v := val H h0 hn
  have e0 := epE H h0 hn
  have v' := val p p0 pn
  unfold Vl at v'
  obtain ⟨a1, a2, a3⟩ := i4 p p0 pn h4
  obtain ⟨a4, a5⟩ := a3 he
  have of1 := off _ _ _ a1
  constructor
  · exact n8
  · first | exact h0 | omega
  · first | exact hn | omega
  · grind [upd]
  · intro e s' p' h; have := off e s' p'; grind [offO]
  · first | exact uniq | grind [offO]
  · intro i hi hin
    by_cases hix : i = p
    · rw [hix]; rw [upd_same]; exact ⟨p0, pn, by dsimp only; omega, by dsimp only; omega, Or.inl ⟨rfl, rfl⟩⟩
    · rw [upd_ne _ _ hix]; exact val i hi hin
  · grind [upd]
  · grind [upd, offO]
  · grind [upd]
  · intro i hi hin h
    by_cases hix : i = p
    · rw [hix] at h ⊢
      rw [upd_same] at h ⊢
      dsimp only at h ⊢
      first | omega | grind [upd, offO]
    · rw [upd_ne _ _ hix] at h ⊢
      have a := i3 i hi hin h
      have b := off _ _ _ a.1
      by_cases hp : (r i).pe = p
      · rw [hp, upd_same]; rw [hp] at a b; dsimp only; grind [offO]
      · rw [upd_ne _ _ hp]; first | (rw [upd_ne _ _ hXH]; exact a) | grind [offO]
  · intro i hi hin h
    by_cases hix : i = p
    · rw [hix] at h ⊢
      rw [upd_same] at h ⊢
      dsimp only at h ⊢
      first | omega | grind [upd, offO]
    · rw [upd_ne _ _ hix] at h ⊢
      have a := i4 i hi hin h
      have b := off _ _ _ a.1
      by_cases hp : (r i).pe = p
      · rw [hp, upd_same]; rw [hp] at a b; dsimp only; grind [offO]
      · rw [upd_ne _ _ hp]; first | (rw [upd_ne _ _ hXH]; exact a) | grind [offO]
  · intro i q' hi hin ho
    by_cases hix : i = p
    · rw [hix] at ho ⊢
      rw [upd_same] at ho ⊢
      dsimp only at ho ⊢
      grind [upd, offO]
    · rw [upd_ne _ _ hix] at ho ⊢
      by_cases hp : q' = p
      · rw [hp, upd_same]; rw [hp] at ho; dsimp only; grind [offO]
      · rw [upd_ne _ _ hp]; grind [offO]
  · intro i q' hi hin h ho
    by_cases hix : i = p
    · rw [hix] at h ho ⊢
      rw [upd_same] at h ho ⊢
      dsimp only at h ho ⊢
      first | omega | grind [upd, offO]
    · rw [upd_ne _ _ hix] at h ho ⊢
      by_cases hp : q' = p
      · rw [hp, upd_same]; rw [hp] at ho; dsimp only; grind [offO]
      · rw [upd_ne _ _ hp]; grind [offO]
set_option maxHeartbeats 4000000 in
/-- s, whose peer owns, releases. -/
theorem Core.release (c : Core n r E H O) {s : Int} (s0 : 0 ≤ s) (sn : s < n) (h3 : (r s).ph = 3) (hs : s ≠ H) :
    Core n (upd r s ⟨5, (r s).ep, (r s).pe⟩) E H O := by
  obtain ⟨n8, h0, hn, hE', off, uniq, val, epE, tok, i12, i3, i4, i5, i6⟩ := c
  have v := val H h0 hn
  have e0 := epE H h0 hn
  have v' := val s s0 sn
  unfold Vl at v'
  obtain ⟨a1, a2, a3⟩ := i3 s s0 sn h3
  have hXH : H ≠ s := fun h => hs h.symm
  have of1 := off _ _ _ a1
  constructor
  · exact n8
  · first | exact h0 | omega
  · first | exact hn | omega
  · grind [upd]
  · intro e s' p' h; have := off e s' p'; grind [offO]
  · first | exact uniq | grind [offO]
  · intro i hi hin
    by_cases hix : i = s
    · rw [hix]; rw [upd_same]; exact ⟨by dsimp only; omega, by dsimp only; omega, by dsimp only; omega, by dsimp only; omega, Or.inr (Or.inr (Or.inr ⟨Or.inr (Or.inr rfl), by dsimp only; omega, by dsimp only; omega⟩))⟩
    · rw [upd_ne _ _ hix]; exact val i hi hin
  · grind [upd]
  · grind [upd, offO]
  · grind [upd]
  · intro i hi hin h
    by_cases hix : i = s
    · rw [hix] at h ⊢
      rw [upd_same] at h ⊢
      dsimp only at h ⊢
      first | omega | grind [upd, offO]
    · rw [upd_ne _ _ hix] at h ⊢
      have a := i3 i hi hin h
      have b := off _ _ _ a.1
      by_cases hp : (r i).pe = s
      · rw [hp, upd_same]; rw [hp] at a b; dsimp only; grind [offO]
      · rw [upd_ne _ _ hp]; first | (rw [upd_ne _ _ hXH]; exact a) | grind [offO]
  · intro i hi hin h
    by_cases hix : i = s
    · rw [hix] at h ⊢
      rw [upd_same] at h ⊢
      dsimp only at h ⊢
      first | omega | grind [upd, offO]
    · rw [upd_ne _ _ hix] at h ⊢
      have a := i4 i hi hin h
      have b := off _ _ _ a.1
      by_cases hp : (r i).pe = s
      · rw [hp, upd_same]; rw [hp] at a b; dsimp only; grind [offO]
      · rw [upd_ne _ _ hp]; first | (rw [upd_ne _ _ hXH]; exact a) | grind [offO]
  · intro i q' hi hin ho
    by_cases hix : i = s
    · rw [hix] at ho ⊢
      rw [upd_same] at ho ⊢
      dsimp only at ho ⊢
      grind [upd, offO]
    · rw [upd_ne _ _ hix] at ho ⊢
      by_cases hp : q' = s
      · rw [hp, upd_same]; rw [hp] at ho; dsimp only; grind [offO]
      · rw [upd_ne _ _ hp]; grind [offO]
  · intro i q' hi hin h ho
    by_cases hix : i = s
    · rw [hix] at h ho ⊢
      rw [upd_same] at h ho ⊢
      dsimp only at h ho ⊢
      first | omega | grind [upd, offO]
    · rw [upd_ne _ _ hix] at h ho ⊢
      by_cases hp : q' = s
      · rw [hp, upd_same]; rw [hp] at ho; dsimp only; grind [offO]
      · rw [upd_ne _ _ hp]; grind [offO]
set_option maxHeartbeats 4000000 in
/-- p forgets what was taken back. -/
theorem Core.forget (c : Core n r E H O) {p : Int} (p0 : 0 ≤ p) (pn : p < n) (h4 : (r p).ph = 4) (hs : (r p).ep < (r (r p).pe).ep) :
    Core n (upd r p ⟨5, (r p).ep, (r p).pe⟩) E H O := by
  obtain ⟨n8, h0, hn, hE', off, uniq, val, epE, tok, i12, i3, i4, i5, i6⟩ := c
  have v := val H h0 hn
  have e0 := epE H h0 hn
  have v' := val p p0 pn
  unfold Vl at v'
  obtain ⟨a1, a2, a3⟩ := i4 p p0 pn h4
  have hXH : H ≠ p := by rintro rfl; omega
  have of1 := off _ _ _ a1
  constructor
  · exact n8
  · first | exact h0 | omega
  · first | exact hn | omega
  · grind [upd]
  · intro e s' p' h; have := off e s' p'; grind [offO]
  · first | exact uniq | grind [offO]
  · intro i hi hin
    by_cases hix : i = p
    · rw [hix]; rw [upd_same]; exact ⟨by dsimp only; omega, by dsimp only; omega, by dsimp only; omega, by dsimp only; omega, Or.inr (Or.inr (Or.inr ⟨Or.inr (Or.inr rfl), by dsimp only; omega, by dsimp only; omega⟩))⟩
    · rw [upd_ne _ _ hix]; exact val i hi hin
  · grind [upd]
  · grind [upd, offO]
  · grind [upd]
  · intro i hi hin h
    by_cases hix : i = p
    · rw [hix] at h ⊢
      rw [upd_same] at h ⊢
      dsimp only at h ⊢
      first | omega | grind [upd, offO]
    · rw [upd_ne _ _ hix] at h ⊢
      have a := i3 i hi hin h
      have b := off _ _ _ a.1
      by_cases hp : (r i).pe = p
      · rw [hp, upd_same]; rw [hp] at a b; dsimp only; grind [offO]
      · rw [upd_ne _ _ hp]; first | (rw [upd_ne _ _ hXH]; exact a) | grind [offO]
  · intro i hi hin h
    by_cases hix : i = p
    · rw [hix] at h ⊢
      rw [upd_same] at h ⊢
      dsimp only at h ⊢
      first | omega | grind [upd, offO]
    · rw [upd_ne _ _ hix] at h ⊢
      have a := i4 i hi hin h
      have b := off _ _ _ a.1
      by_cases hp : (r i).pe = p
      · rw [hp, upd_same]; rw [hp] at a b; dsimp only; grind [offO]
      · rw [upd_ne _ _ hp]; first | (rw [upd_ne _ _ hXH]; exact a) | grind [offO]
  · intro i q' hi hin ho
    by_cases hix : i = p
    · rw [hix] at ho ⊢
      rw [upd_same] at ho ⊢
      dsimp only at ho ⊢
      grind [upd, offO]
    · rw [upd_ne _ _ hix] at ho ⊢
      by_cases hp : q' = p
      · rw [hp, upd_same]; rw [hp] at ho; dsimp only; grind [offO]
      · rw [upd_ne _ _ hp]; grind [offO]
  · intro i q' hi hin h ho
    by_cases hix : i = p
    · rw [hix] at h ho ⊢
      rw [upd_same] at h ho ⊢
      dsimp only at h ho ⊢
      first | omega | grind [upd, offO]
    · rw [upd_ne _ _ hix] at h ho ⊢
      by_cases hp : q' = p
      · rw [hp, upd_same]; rw [hp] at ho; dsimp only; grind [offO]
      · rw [upd_ne _ _ hp]; grind [offO]
end
end Go.Proofs.Ytecdmbcdkfjgfaa
