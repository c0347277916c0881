/- The protocol of ledgers, in plain Lean: rounds. -/
import Derived.Test.YtecdmbcdkfjgfaaP4
namespace Go.Proofs.Ytecdmbcdkfjgfaa
set_option linter.unusedVariables false
set_option linter.unusedSimpArgs false

theorem wts_append : ∀ p q : List Ml, wts (p ++ q) = wts p + wts q
  | [], q => by simp [wts]
  | m :: p, q => by rw [List.cons_append, wts, wts, wts_append p q]; omega
theorem wt_le (k : Int) : wt k ≤ 4 := by unfold wt; grind
def nagsR (row : List Lg) : Nat → List Ml
  | 0 => []
  | k + 1 => nagsR row k ++ nagR row k
def nagsW (w : Wd) : Nat → Wd
  | 0 => w
  | k + 1 => nagW (nagsW w k) k
theorem nagsW_eq (w : Wd) : ∀ k, nagsW w k = ⟨w.row, w.sent ++ nagsR w.row k⟩
  | 0 => by simp [nagsW, nagsR]
  | k + 1 => by rw [nagsW, nagsW_eq w k, nagW_eq, nagsR, List.append_assoc]
theorem nagR_len (row : List Lg) (x : Int) : (nagR row x).length ≤ 1 ∧ wts (nagR row x) ≤ 4 := by
  unfold nagR
  split
  · simp [wts]
  · have := wt_le (nagF (at0 row x).ph)
    simp [wts]; omega
theorem nagsR_len (row : List Lg) : ∀ k, (nagsR row k).length ≤ k ∧ wts (nagsR row k) ≤ 4 * k
  | 0 => by simp [nagsR, wts]
  | k + 1 => by
    have h := nagsR_len row k
    have h' := nagR_len row k
    rw [nagsR, wts_append, List.length_append]
    omega
theorem nagsR_mem (row : List Lg) : ∀ (k i : Nat), i < k → ∀ m ∈ nagR row i, m ∈ nagsR row k
  | k + 1, i, h, m, hm => by
    rw [nagsR, List.mem_append]
    by_cases hi : i = k
    · right; rw [← hi]; exact hm
    · left; exact nagsR_mem row k i (by omega) m hm
theorem nagsR_of (row : List Lg) : ∀ (k : Nat) (m : Ml), m ∈ nagsR row k → ∃ i : Nat, i < k ∧ m ∈ nagR row i
  | k + 1, m, h => by
    rw [nagsR, List.mem_append] at h
    rcases h with h | h
    · obtain ⟨i, hi, hm⟩ := nagsR_of row k m h
      exact ⟨i, by omega, hm⟩
    · exact ⟨k, by omega, h⟩

def Quiet (w : Wd) (H : Int) : Prop := (∀ i : Int, 0 ≤ i → i < w.row.length → i ≠ H → (at0 w.row i).ph = 0 ∨ (at0 w.row i).ph = 5) ∧ ((at0 w.row H).ph = 1 ∨ (at0 w.row H).ph = 2)
/-- What holds within a round: j messages were heard, p are to be heard. -/
def RI (n S : Nat) (O : Int → Int → Int → Prop) (j : Nat) (V : Wd) (p : List Ml) : Prop :=
  V.row.length = n ∧ (∀ m ∈ p, m ∈ V.sent) ∧ j + wts p ≤ 32 ∧ V.sent.length + wts p ≤ S + 40 ∧ ∃ E H, Good V E H O ∧ Pend n (at0 V.row) H p
section
variable {n S : Nat} {O : Int → Int → Int → Prop} {j : Nat} {V W : Wd} {p : List Ml} {E H : Int}
theorem ri_step {m : Ml} (h : RI n S O j V (m :: p)) : hearW V m false = (hearS V m false, true) ∧ ∃ rs, (hearS V m false).sent = V.sent ++ rs ∧ RI n S O (j + 1) (hearS V m false) (p ++ rs) := by
  obtain ⟨hn, hm, hj, hs, E, H, g, P⟩ := h
  obtain ⟨h1, h2, E', H', rs, h3, h4, h5, h6, h7⟩ := hear_good g (hm m (List.mem_cons_self)) false
  rw [hn] at h7
  rw [wts] at hj hs
  refine ⟨h1, rs, h4, h2.1.trans hn, fun m' hm' => ?_, ?_, ?_, E', H', h3, h7 p P⟩
  · rw [h4, List.mem_append]
    rcases List.mem_append.1 hm' with h | h
    · exact Or.inl (hm m' (List.mem_cons_of_mem _ h))
    · exact Or.inr h
  · rw [wts_append]; omega
  · rw [wts_append, h4, List.length_append]; omega
theorem ri_start (g : Good W E H O) : RI W.row.length W.sent.length O 0 (nagsW W W.row.length) (nagsR W.row W.row.length) := by
  have n8 := g.1.n8
  have hl := nagsR_len W.row W.row.length
  rw [nagsW_eq]
  have hk : ∀ m ∈ nagsR W.row W.row.length, MsgOk (at0 W.row) O m := fun m hm => by
    obtain ⟨i, hi, h⟩ := nagsR_of _ _ _ hm
    exact nag_ok g (by omega) (by omega) m h
  refine ⟨rfl, fun m hm => List.mem_append_right _ hm, by omega, by simp only [List.length_append]; omega, E, H, g.more hk, ?_, ?_⟩
  · intro i i0 iN hi h3
    left
    obtain ⟨k, rfl⟩ := Int.eq_ofNat_of_zero_le i0
    refine nagsR_mem W.row _ k (by omega) _ ?_
    simp [nagR, nagF, h3]
  · intro i i0 iN h4
    left
    obtain ⟨k, rfl⟩ := Int.eq_ofNat_of_zero_le i0
    refine nagsR_mem W.row _ k (by omega) _ ?_
    simp [nagR, nagF, h4]
theorem ri_end (h : RI n S O j V []) : V.row.length = n ∧ V.sent.length ≤ S + 40 ∧ ∃ E H, Good V E H O ∧ Quiet V H := by
  obtain ⟨hn, _, _, hs, E, H, g, P⟩ := h
  subst hn
  refine ⟨rfl, by simp [wts] at hs; omega, E, H, g, fun i i0 iN hi => ?_, ?_⟩
  · have v := g.1.val i i0 iN
    have h12 := g.1.i12 i i0 iN
    have c3 : ¬ (at0 V.row i).ph = 3 := fun h => by have := P.c i i0 iN hi h; simp at this
    have c4 : ¬ (at0 V.row i).ph = 4 := fun h => by have := P.d i i0 iN h; simp at this
    unfold Vl at v
    omega
  · rcases g.1.tok with t | ⟨t, _⟩ | ⟨t, o, h4, _⟩
    · exact Or.inl t
    · exact Or.inr t
    · exfalso
      have of := g.1.off _ _ _ o
      have := P.d _ (by omega) (by omega) h4
      simp at this
/-- The holder of a world. -/
theorem holder_uniq {E H E' H' : Int} {O' : Int → Int → Int → Prop} (g : Good V E H O) (q : Quiet V H) (g' : Good V E' H' O') (q' : Quiet V H') : H = H' ∧ E = E' := by
  have : H = H' := g'.1.i12 H g.1.h0 g.1.hn q.2
  subst this
  exact ⟨rfl, by rw [← g.1.hE, ← g'.1.hE]⟩
/-- A quiet world: just an offer is said again. -/
theorem nagsR_quiet (q : Quiet W H) : ∀ k : Nat, k ≤ W.row.length → nagsR W.row k = if H < k ∧ 0 ≤ H ∧ (at0 W.row H).ph = 2 then [⟨3, (at0 W.row H).ep, H, (at0 W.row H).pe⟩] else []
  | 0, _ => by rw [if_neg (by omega)]; rfl
  | k + 1, hk => by
    rw [nagsR, nagsR_quiet q k (by omega)]
    by_cases hkH : (k : Int) = H
    · rw [if_neg (by omega), hkH]
      rcases q.2 with h | h
      · rw [if_neg (by omega)]; simp [nagR, nagF, h]
      · rw [if_pos (by omega)]; simp [nagR, nagF, h]
    · have e : nagR W.row k = [] := by
        rcases q.1 k (by omega) (by omega) hkH with h | h <;> simp [nagR, nagF, h]
      rw [e, List.append_nil]
      by_cases hc : H < k ∧ 0 ≤ H ∧ (at0 W.row H).ph = 2
      · rw [if_pos hc, if_pos (by omega)]
      · rw [if_neg hc, if_neg (by omega)]
/-- The stages of a hand-over. -/
def Stg (W : Wd) (E H q : Int) (j : Nat) (V : Wd) (p : List Ml) : Prop :=
  (j = 0 ∧ p = [⟨3, E, H, q⟩] ∧ at0 V.row H = ⟨2, E, q⟩ ∧ at0 V.row q = at0 W.row q) ∨
  (j = 1 ∧ p = [⟨4, E, q, H⟩] ∧ at0 V.row H = ⟨2, E, q⟩ ∧ at0 V.row q = ⟨4, E, H⟩) ∨
  (j = 2 ∧ p = [⟨5, E, H, q⟩] ∧ at0 V.row H = ⟨3, E, q⟩ ∧ at0 V.row q = ⟨4, E, H⟩) ∨
  (j = 3 ∧ p = [⟨6, E, q, H⟩] ∧ at0 V.row H = ⟨3, E, q⟩ ∧ at0 V.row q = ⟨1, E, q⟩) ∨
  (j = 4 ∧ p = [] ∧ at0 V.row H = ⟨5, E, q⟩ ∧ at0 V.row q = ⟨1, E, q⟩)
theorem stg_step {q : Int} {m : Ml} (h : Stg W E H q j V (m :: p)) (H0 : 0 ≤ H) (Hn : H < V.row.length) (q0 : 0 ≤ q) (qn : q < V.row.length) (hq : q ≠ H) (hw : (at0 W.row q).ph = 0 ∨ (at0 W.row q).ph = 5) (he : (at0 W.row q).ep < E) :
    ∃ rs, (hearS V m false).sent = V.sent ++ rs ∧ Stg W E H q (j + 1) (hearS V m false) (p ++ rs) := by
  rcases h with ⟨rfl, e, a, b⟩ | ⟨rfl, e, a, b⟩ | ⟨rfl, e, a, b⟩ | ⟨rfl, e, a, b⟩ | ⟨rfl, e, a, b⟩
  · simp only [List.cons.injEq] at e
    obtain ⟨rfl, rfl⟩ := e
    have : hearS V ⟨3, E, H, q⟩ false = send (put V q ⟨4, E, H⟩) ⟨4, E, q, H⟩ := by
      unfold hearS; dsimp only; rw [b, if_pos rfl, if_neg (by omega), if_pos (by omega)]; rfl
    rw [this]
    refine ⟨_, rfl, Or.inr (Or.inl ⟨rfl, rfl, ?_, ?_⟩)⟩
    · rw [send_row, at0_put q0 qn, upd_ne _ _ (Ne.symm hq)]; exact a
    · rw [send_row, at0_put q0 qn, upd_same]
  · simp only [List.cons.injEq] at e
    obtain ⟨rfl, rfl⟩ := e
    have : hearS V ⟨4, E, q, H⟩ false = send (put V H ⟨3, E, q⟩) ⟨5, E, H, q⟩ := by
      unfold hearS; dsimp only; rw [a]; simp
    rw [this]
    refine ⟨_, rfl, Or.inr (Or.inr (Or.inl ⟨rfl, rfl, ?_, ?_⟩))⟩
    · rw [send_row, at0_put H0 Hn, upd_same]
    · rw [send_row, at0_put H0 Hn, upd_ne _ _ hq]; exact b
  · simp only [List.cons.injEq] at e
    obtain ⟨rfl, rfl⟩ := e
    have : hearS V ⟨5, E, H, q⟩ false = send (put V q ⟨1, E, q⟩) ⟨6, E, q, H⟩ := by
      unfold hearS; dsimp only; rw [b]; simp
    rw [this]
    refine ⟨_, rfl, Or.inr (Or.inr (Or.inr (Or.inl ⟨rfl, rfl, ?_, ?_⟩)))⟩
    · rw [send_row, at0_put q0 qn, upd_ne _ _ (Ne.symm hq)]; exact a
    · rw [send_row, at0_put q0 qn, upd_same]
  · simp only [List.cons.injEq] at e
    obtain ⟨rfl, rfl⟩ := e
    have : hearS V ⟨6, E, q, H⟩ false = put V H ⟨5, E, q⟩ := by
      unfold hearS; dsimp only; rw [a]; simp
    rw [this]
    refine ⟨[], by simp [put], Or.inr (Or.inr (Or.inr (Or.inr ⟨rfl, rfl, ?_, ?_⟩)))⟩
    · rw [at0_put H0 Hn, upd_same]
    · rw [at0_put H0 Hn, upd_ne _ _ hq]; exact b
  · cases e
end
end Go.Proofs.Ytecdmbcdkfjgfaa
