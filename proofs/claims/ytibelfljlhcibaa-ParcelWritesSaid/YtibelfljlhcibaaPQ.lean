/- There and back: what a writer lays down, a reader takes; what a reader takes is what a writer lays down. -/
import Derived.Test.YtibelfljlhcibaaPR2
namespace Go.Proofs.Ytibelfljlhcibaa
set_option linter.unusedVariables false
set_option linter.unusedSimpArgs false

theorem Byt.tail {x : Int} {t : List Int} (h : Byt (x :: t)) : Byt t := fun y hy => h y (List.mem_cons_of_mem _ hy)
theorem Byt.app {a b : List Int} (h : Byt a) (h' : Byt b) : Byt (a ++ b) := fun y hy => by
  rcases List.mem_append.1 hy with hy | hy
  · exact h y hy
  · exact h' y hy
theorem Byt.left {a b : List Int} (h : Byt (a ++ b)) : Byt a := fun y hy => h y (List.mem_append_left _ hy)
theorem Byt.right {a b : List Int} (h : Byt (a ++ b)) : Byt b := fun y hy => h y (List.mem_append_right _ hy)
theorem Byt.take {a : List Int} (h : Byt a) (n : Nat) : Byt (a.take n) := fun y hy => h y (List.mem_of_mem_take hy)
theorem Byt.drop {a : List Int} (h : Byt a) (n : Nat) : Byt (a.drop n) := fun y hy => h y (List.mem_of_mem_drop hy)
theorem form_fits {m j : Nat} (h : m * 128 ^ j < 18446744073709551616) (hj : j ≤ 9) : (j = 9 → m ≤ 1) ∧ (¬ m < 128 → j ≤ 8 ∧ m / 128 * 128 ^ (j + 1) < 18446744073709551616) := by
  have p9 : (128 : Nat) ^ 9 = 9223372036854775808 := by decide
  constructor
  · rintro rfl
    rw [p9] at h; omega
  · intro hm
    constructor
    · by_cases h9 : j = 9
      · rw [h9, p9] at h; omega
      · omega
    · refine Nat.lt_of_le_of_lt ?_ h
      rw [Nat.pow_succ, Nat.mul_comm (128 ^ j) 128, ← Nat.mul_assoc]
      exact Nat.mul_le_mul_right _ (Nat.div_mul_le_self m 128)
theorem readN_form : ∀ (m j acc : Nat) (rest : List Int), j ≤ 9 → m * 128 ^ j < 18446744073709551616 → (0 < j → m ≠ 0) → readN j acc (formN m ++ rest) = (some (acc + m * 128 ^ j), 0, rest) := by
  intro m
  induction m using Nat.strongRecOn with
  | ind m ih =>
    intro j acc rest hj hf hz
    obtain ⟨f1, f2⟩ := form_fits hf hj
    by_cases h : m < 128
    · rw [formN_small h]
      simp only [List.cons_append, List.nil_append]
      unfold readN
      rw [if_neg (by omega), if_pos (by omega)]
      have : ((m : Int) % 128).toNat = m := by omega
      rw [this]
    · rw [formN_big h]
      simp only [List.cons_append]
      unfold readN
      rw [if_neg (by omega), if_neg (by omega)]
      have hm : (((m % 128 + 128 : Nat) : Int) % 128).toNat = m % 128 := by omega
      rw [hm, ih (m / 128) (by omega) (j + 1) _ rest (by have := (f2 h).1; omega) (f2 h).2 (by omega)]
      have : acc + m % 128 * 128 ^ j + m / 128 * 128 ^ (j + 1) = acc + m * 128 ^ j := by
        rw [Nat.pow_succ, Nat.mul_comm (128 ^ j) 128, ← Nat.mul_assoc, Nat.add_assoc, ← Nat.add_mul]
        congr 2
        omega
      rw [this]
/-- A beginning of a form is at its end too soon. -/
theorem readN_cut : ∀ (m j acc i : Nat), j ≤ 9 → m * 128 ^ j < 18446744073709551616 → (0 < j → m ≠ 0) → i < (formN m).length → readN j acc ((formN m).take i) = (none, 0, []) := by
  intro m
  induction m using Nat.strongRecOn with
  | ind m ih =>
    intro j acc i hj hf hz hi
    obtain ⟨f1, f2⟩ := form_fits hf hj
    cases i with
    | zero => simp [readN]
    | succ i =>
      by_cases h : m < 128
      · rw [formN_small h] at hi; simp at hi
      · rw [formN_big h] at hi ⊢
        rw [List.take_succ_cons]
        unfold readN
        rw [if_neg (by omega), if_neg (by omega)]
        exact ih (m / 128) (by omega) (j + 1) _ i (by have := (f2 h).1; omega) (f2 h).2 (by omega) (by simpa using hi)
/-- What is read as a number is a number's form. -/
theorem readN_back : ∀ (l : List Int) (j acc n : Nat) (t : List Int), Byt l → readN j acc l = (some n, 0, t) → ∃ m, l = formN m ++ t ∧ n = acc + m * 128 ^ j ∧ (0 < j → m ≠ 0)
  | [], j, acc, n, t, _, h => by simp [readN] at h
  | c :: l, j, acc, n, t, hb, h => by
    have hc := hb c List.mem_cons_self
    unfold readN at h
    split at h
    · simp at h
    · rename_i h1
      split at h
      · rename_i h2
        simp only [Prod.mk.injEq, Option.some.injEq] at h
        obtain ⟨h3, _, rfl⟩ := h
        refine ⟨c.toNat, ?_, ?_, by omega⟩
        · rw [formN_small (by omega)]
          simp; omega
        · rw [← h3]
          congr 2
          omega
      · rename_i h2
        obtain ⟨m, rfl, rfl, hm⟩ := readN_back l (j + 1) _ n t hb.tail h
        have hm := hm (by omega)
        refine ⟨(c % 128).toNat + 128 * m, ?_, ?_, by omega⟩
        · rw [formN_big (n := (c % 128).toNat + 128 * m) (by omega)]
          have e1 : ((c % 128).toNat + 128 * m) / 128 = m := by omega
          rw [e1, List.cons_append]
          congr 1
          omega
        · rw [Nat.pow_succ, Nat.add_mul]
          have : 128 * m * 128 ^ j = m * (128 ^ j * 128) := by
            rw [Nat.mul_comm 128 m, Nat.mul_assoc, Nat.mul_comm 128]
          omega
theorem formN_inj {a b : Nat} {s t : List Int} (ha : a < 18446744073709551616) (hb : b < 18446744073709551616) (h : formN a ++ s = formN b ++ t) : a = b ∧ s = t := by
  have h1 := readN_form a 0 0 s (by omega) (by simpa using ha) (by omega)
  have h2 := readN_form b 0 0 t (by omega) (by simpa using hb) (by omega)
  rw [h, h2] at h1
  simp only [Prod.mk.injEq, Option.some.injEq, Nat.pow_zero, Nat.mul_one, Nat.zero_add, true_and] at h1
  exact ⟨h1.1.symm, h1.2.symm⟩
/-- A length and the bytes. -/
def textN (p : List Int) : List Int := formN p.length ++ p
theorem textN_byt {p : List Int} (h : Byt p) : Byt (textN p) := Byt.app (formN_range _) h
namespace RS
variable {s s' : RS} {t : List Int} {o : List (List Int)}
theorem byte_fault (h : s.ft ≠ 0) : s.byte = (0, s) := by unfold RS.byte; rw [if_neg h]
theorem num_fault (h : s.ft ≠ 0) : s.num = (0, s) := by unfold RS.num; rw [if_neg h]
theorem text_fault (h : s.ft ≠ 0) (most : Int) : s.text most = ([], s) := by unfold RS.text; rw [if_neg h]
theorem raw_fault (h : s.ft ≠ 0) (n : Int) : s.raw n = ([], s) := by unfold RS.raw; rw [if_neg h]
theorem fixed_fault (h : s.ft ≠ 0) (n : Int) : s.fixed n = (0, s) := by unfold RS.fixed; rw [if_neg h]
theorem byte_cons (x : Int) : RS.byte ⟨x :: t, o, 0⟩ = (x, ⟨t, o, 0⟩) := rfl
theorem num_form {n : Nat} (hn : n < 18446744073709551616) : RS.num ⟨formN n ++ t, o, 0⟩ = (n, ⟨t, o, 0⟩) := by
  unfold RS.num
  rw [if_pos rfl]
  simp only [readN_form n 0 0 t (by omega) (by simpa using hn) (by omega)]
  simp
theorem size_form {n most : Nat} (hn : n < 18446744073709551616) (hm : n ≤ most) (hl : n ≤ t.length) : RS.size ⟨formN n ++ t, o, 0⟩ most = (n, ⟨t, o, 0⟩) := by
  unfold RS.size
  rw [num_form hn]
  simp only
  rw [if_pos trivial, if_neg (by omega), if_neg (by omega)]
theorem text_form {p : List Int} {most : Int} (hp : p.length < 18446744073709551616) (hm : (p.length : Int) ≤ most) : RS.text ⟨textN p ++ t, o, 0⟩ most = (p, ⟨t, o, 0⟩) := by
  unfold RS.text textN
  rw [if_pos rfl, List.append_assoc, size_form hp (by omega) (by simp)]
  simp
theorem fixed_form {n k : Nat} (h1 : 1 ≤ k) (h8 : k ≤ 8) : RS.fixed ⟨lowN k n ++ t, o, 0⟩ (k : Int) = (n % 256 ^ k, ⟨t, o, 0⟩) := by
  unfold RS.fixed RS.next
  rw [if_pos rfl, if_neg (by omega)]
  have : ((k : Int)).toNat = k := by omega
  simp only [this]
  rw [if_pos (by simp [lowN_len])]
  simp only
  rw [List.take_append_of_le_length (by simp [lowN_len]), List.drop_append_of_le_length (by simp [lowN_len]), List.take_of_length_le (by simp [lowN_len]), List.drop_of_length_le (by simp [lowN_len]), upN_low_mod]
  rfl
/-- What was read, where there is no fault behind it. -/
theorem byte_back (h : s.byte.2.ft = 0) : s = ⟨s.byte.1 :: s.byte.2.left, s.byte.2.outer, 0⟩ := by
  obtain ⟨l, o, f⟩ := s
  unfold RS.byte at *
  by_cases hf : f = 0
  · subst hf
    cases l with
    | nil => simp [RS.short] at h
    | cons x t => simp
  · simp [hf] at h
theorem num_back (hb : Byt s.left) (h : s.num.2.ft = 0) : s = ⟨formN s.num.1 ++ s.num.2.left, s.num.2.outer, 0⟩ := by
  obtain ⟨l, o, f⟩ := s
  unfold RS.num at *
  by_cases hf : f = 0
  · subst hf
    simp only [if_pos trivial] at h ⊢
    generalize hr : readN 0 0 l = r at *
    obtain ⟨q, e, t⟩ := r
    cases q with
    | none => simp at h
    | some n =>
      simp only at h ⊢
      subst h
      obtain ⟨m, h1, h2, _⟩ := readN_back l 0 0 n t hb hr
      simp only [Nat.pow_zero, Nat.mul_one, Nat.zero_add] at h2
      subst h2
      simp [h1]
  · simp [hf] at h
theorem num_byt (hb : Byt s.left) : Byt s.num.2.left := by
  unfold RS.num
  split
  · have H : ∀ (l : List Int) (j n : Nat), ∀ x ∈ (readN j n l).2.2, x ∈ l := by
      intro l
      induction l with
      | nil => intro j n x h; simp [readN] at h
      | cons c l ih =>
        intro j n x h
        unfold readN at h
        split at h
        · exact List.mem_cons_of_mem _ h
        · split at h
          · exact List.mem_cons_of_mem _ h
          · exact List.mem_cons_of_mem _ (ih _ _ x h)
    have := H s.left 0 0
    generalize readN 0 0 s.left = r at *
    obtain ⟨q, e, t⟩ := r
    cases q <;> exact fun x hx => hb x (this x hx)
  · exact hb
theorem byte_byt (hb : Byt s.left) : Byt s.byte.2.left ∧ (0 ≤ s.byte.1 ∧ s.byte.1 < 256) := by
  unfold RS.byte
  split
  · cases hl : s.left with
    | nil => rw [hl] at hb; simp [RS.short, hl]; exact hb
    | cons x t => rw [hl] at hb; exact ⟨hb.tail, hb x List.mem_cons_self⟩
  · exact ⟨hb, by simp, by simp⟩
theorem text_back {most : Int} (hb : Byt s.left) (h : (s.text most).2.ft = 0) : s = ⟨textN (s.text most).1 ++ (s.text most).2.left, (s.text most).2.outer, 0⟩ ∧ ((s.text most).1.length : Int) ≤ max most 0 := by
  have hf : s.ft = 0 := by
    by_cases hf : s.ft = 0
    · exact hf
    · rw [text_fault hf] at h; exact h
  unfold RS.text at *
  simp only [if_pos hf] at h ⊢
  unfold RS.size at *
  have hn := num_back (s := s) hb
  generalize s.num = q at *
  obtain ⟨n, s1⟩ := q
  simp only at h ⊢ hn
  by_cases h1 : s1.ft = 0
  · simp only [h1, if_pos trivial] at h ⊢
    by_cases h2 : (max most 0).toNat < n
    · simp [h2] at h
    · by_cases h3 : s1.left.length < n
      · simp [h2, h3] at h
      · simp only [h2, h3, if_false, h1, if_pos trivial] at h ⊢
        have h4 := hn h1
        have hl : (s1.left.take n).length = n := by rw [List.length_take]; omega
        refine ⟨?_, by rw [hl]; omega⟩
        unfold textN
        rw [hl, List.append_assoc, List.take_append_drop]
        exact h4
  · simp [h1] at h
theorem text_byt {most : Int} (hb : Byt s.left) : Byt (s.text most).2.left ∧ Byt (s.text most).1 := by
  unfold RS.text
  split
  · unfold RS.size
    have hn := num_byt (s := s) hb
    generalize s.num = q at *
    obtain ⟨n, s1⟩ := q
    simp only at hn ⊢
    have h0 : Byt [] := fun x hx => by cases hx
    by_cases h1 : s1.ft = 0
    · simp only [h1, if_pos trivial]
      split
      · exact ⟨hn, h0⟩
      · split
        · exact ⟨hn, h0⟩
        · simp only [h1, if_pos trivial]
          exact ⟨hn.drop n, hn.take n⟩
    · simp only [h1, if_false]
      exact ⟨hn, h0⟩
  · exact ⟨hb, fun x hx => by cases hx⟩
theorem fixed_back {k : Nat} (h1 : 1 ≤ k) (h8 : k ≤ 8) (hb : Byt s.left) (h : (s.fixed (k : Int)).2.ft = 0) : s = ⟨lowN k (s.fixed (k : Int)).1 ++ (s.fixed (k : Int)).2.left, (s.fixed (k : Int)).2.outer, 0⟩ ∧ (s.fixed (k : Int)).1 < 256 ^ k := by
  obtain ⟨l, o, f⟩ := s
  unfold RS.fixed RS.next at *
  have hk : ((k : Int)).toNat = k := by omega
  by_cases hf : f = 0
  · subst hf
    simp only [if_pos trivial, hk] at h ⊢
    rw [if_neg (by omega)] at h ⊢
    by_cases hl : k ≤ l.length
    · simp only [if_pos hl] at h ⊢
      have hlen : (l.take k).length = k := by rw [List.length_take]; omega
      have e := low_upN (l.take k) (Byt.take hb k)
      rw [hlen] at e
      refine ⟨?_, ?_⟩
      · rw [e, List.take_append_drop]
      · have := upN_lt (l.take k) (Byt.take hb k)
        rw [hlen] at this; exact this
    · simp [hl, RS.short] at h
  · simp [hf] at h
theorem fixed_byt {k : Int} (hb : Byt s.left) : Byt (s.fixed k).2.left := by
  unfold RS.fixed RS.next
  split
  · split
    · exact hb
    · by_cases hl : k.toNat ≤ s.left.length
      · simp only [if_pos hl]; exact Byt.drop hb _
      · simp only [if_neg hl]; exact hb
  · exact hb
/-- A fault stays. -/
theorem byte_ft (h : s.byte.2.ft = 0) : s.ft = 0 := by rw [byte_back h]
theorem num_ft (h : s.num.2.ft = 0) : s.ft = 0 := by
  by_cases hf : s.ft = 0
  · exact hf
  · rw [num_fault hf] at h; exact h
theorem text_ft {m : Int} (h : (s.text m).2.ft = 0) : s.ft = 0 := by
  by_cases hf : s.ft = 0
  · exact hf
  · rw [text_fault hf] at h; exact h
theorem fixed_ft {m : Int} (h : (s.fixed m).2.ft = 0) : s.ft = 0 := by
  by_cases hf : s.ft = 0
  · exact hf
  · rw [fixed_fault hf] at h; exact h
theorem done_zero (h : s.done = 0) : s = ⟨[], [], 0⟩ := by
  obtain ⟨l, o, f⟩ := s
  unfold RS.done at h
  by_cases hf : f = 0
  · subst hf
    by_cases hl : l = [] ∧ o = []
    · obtain ⟨rfl, rfl⟩ := hl; rfl
    · simp [hl] at h
  · simp [hf] at h
end RS
namespace WS
variable {s : WS}
theorem lay_fit (h : s.ft = 0) {ys : List Int} (hr : ((s.bs.length + ys.length : Nat) : Int) ≤ s.room) : s.lay ys = { s with bs := s.bs ++ ys } := by
  unfold WS.lay
  rw [if_pos h, if_neg (by omega)]
end WS
end Go.Proofs.Ytibelfljlhcibaa
