/- Readers that stay within bounds, whatever is taken out of them. -/
import Derived.Test.YtibelfljlhcibaaPR4
import Derived.Test.YtibelfljlhcibaaPQ
namespace Go.Proofs.Ytibelfljlhcibaa
set_option linter.unusedVariables false
set_option linter.unusedSimpArgs false

/-- At most so many bytes. -/
def InB (B : Nat) (l : List Int) : Prop := Byt l ∧ l.length ≤ B
structure GoodR (B : Nat) (s : RS) : Prop where
  left : InB B s.left
  outer : ∀ l ∈ s.outer, InB B l
  deep : s.outer.length ≤ 16
section
variable {B : Nat} {s : RS} {a b : List Int}
theorem InB.sub (h : InB B b) (h1 : ∀ x ∈ a, x ∈ b) (h2 : a.length ≤ b.length) : InB B a := ⟨fun x hx => h.1 x (h1 x hx), Nat.le_trans h2 h.2⟩
theorem InB.take (h : InB B b) (n : Nat) : InB B (b.take n) := h.sub (fun x hx => List.mem_of_mem_take hx) (by rw [List.length_take]; omega)
theorem InB.drop (h : InB B b) (n : Nat) : InB B (b.drop n) := h.sub (fun x hx => List.mem_of_mem_drop hx) (by rw [List.length_drop]; omega)
theorem InB.nil : InB B [] := ⟨fun x hx => (by cases hx), by simp⟩
theorem InB.read (h : InB B b) : InB B (readN 0 0 b).2.2 := h.sub (readN_left b 0 0) (readN_len b 0 0)
theorem GoodR.re (h : GoodR B s) {l : List Int} (hl : InB B l) (f : Int) : GoodR B ⟨l, s.outer, f⟩ := ⟨hl, h.outer, h.deep⟩
theorem GoodR.ft (h : GoodR B s) (f : Int) : GoodR B { s with ft := f } := ⟨h.left, h.outer, h.deep⟩
theorem GoodR.next_ (h : GoodR B s) {n : Nat} {p : List Int} {s' : RS} (hn : s.next n = some (p, s')) : InB B p ∧ GoodR B s' := by
  unfold RS.next at hn
  split at hn
  · injection hn with hn
    injection hn with h1 h2
    subst h1; subst h2
    exact ⟨h.left.take n, h.re (h.left.drop n) _⟩
  · cases hn
theorem GoodR.byte (h : GoodR B s) : GoodR B s.byte.2 := by
  unfold RS.byte
  split
  · split
    · exact h.ft 10
    · rename_i x t e
      exact h.re ((e ▸ h.left).sub (fun y hy => List.mem_cons_of_mem _ hy) (by simp)) _
  · exact h
theorem GoodR.fixed (h : GoodR B s) (n : Int) : GoodR B (s.fixed n).2 := by
  unfold RS.fixed
  split
  · split
    · exact h.ft 2
    · split
      · exact h.ft 10
      · rename_i p s' e
        exact (h.next_ e).2
  · exact h
theorem GoodR.num (h : GoodR B s) : GoodR B s.num.2 := by
  unfold RS.num
  have hr := h.left.read
  split
  · split
    · rename_i x t e
      rw [e] at hr
      exact h.re hr _
    · rename_i n x t e
      rw [e] at hr
      exact h.re hr _
  · exact h
theorem GoodR.int (h : GoodR B s) : GoodR B s.int.2 := h.num
theorem GoodR.real (h : GoodR B s) : GoodR B s.real.2 := by
  unfold RS.real
  split
  · split
    · exact h.ft 10
    · rename_i p s' e
      split
      · exact (h.next_ e).2
      · exact (h.next_ e).2.ft 11
  · exact h
theorem GoodR.raw (h : GoodR B s) (n : Int) : InB B (s.raw n).1 ∧ GoodR B (s.raw n).2 := by
  unfold RS.raw
  split
  · split
    · exact ⟨InB.nil, h.ft 2⟩
    · split
      · exact ⟨InB.nil, h.ft 10⟩
      · rename_i p s' e
        exact h.next_ e
  · exact ⟨InB.nil, h⟩
theorem GoodR.size (h : GoodR B s) (m : Nat) : GoodR B (s.size m).2 := by
  unfold RS.size
  have hn := h.num
  generalize s.num = q at hn
  obtain ⟨n, s'⟩ := q
  simp only at hn ⊢
  split
  · split
    · exact hn.ft 11
    · split
      · exact hn.ft 10
      · exact hn
  · exact hn
theorem GoodR.text (h : GoodR B s) (m : Int) : InB B (s.text m).1 ∧ GoodR B (s.text m).2 := by
  unfold RS.text
  split
  · have hn := h.size (max m 0).toNat
    generalize s.size (max m 0).toNat = q at hn
    obtain ⟨n, s'⟩ := q
    simp only at hn ⊢
    split
    · exact ⟨hn.left.take n, hn.re (hn.left.drop n) _⟩
    · exact ⟨InB.nil, hn⟩
  · exact ⟨InB.nil, h⟩
theorem RS.num_outer (s : RS) : s.num.2.outer = s.outer := by
  unfold RS.num
  split
  · split <;> rfl
  · rfl
theorem RS.size_outer (s : RS) (m : Nat) : (s.size m).2.outer = s.outer := by
  unfold RS.size
  have hn := RS.num_outer s
  generalize s.num = q at hn
  obtain ⟨n, s'⟩ := q
  simp only at hn ⊢
  split
  · split
    · exact hn
    · split
      · exact hn
      · exact hn
  · exact hn
theorem GoodR.enter (h : GoodR B s) : GoodR B s.enter.2 := by
  unfold RS.enter
  split
  · split
    · exact h.ft 11
    · rename_i h16
      have hn := h.size 18446744073709551615
      have ho := RS.size_outer s 18446744073709551615
      generalize s.size 18446744073709551615 = q at hn ho
      obtain ⟨n, s'⟩ := q
      simp only at hn ho ⊢
      split
      · refine ⟨hn.left.take n, fun l hl => ?_, ?_⟩
        · rcases List.mem_append.1 hl with hl | hl
          · exact hn.outer l hl
          · rw [List.mem_singleton.1 hl]; exact hn.left.drop n
        · have := h.deep
          simp only [List.length_append, List.length_cons, List.length_nil, ho]
          omega
      · exact hn
  · exact h
theorem GoodR.leave (h : GoodR B s) : GoodR B s.leave := by
  unfold RS.leave
  split
  · split
    · exact h.ft 2
    · rename_i l e
      split
      · refine ⟨h.outer l (List.mem_of_getLast? e), fun x hx => h.outer x ((List.dropLast_sublist _).subset hx), ?_⟩
        have := h.deep
        simp only [List.length_dropLast]; omega
      · exact h.ft 12
  · exact h
theorem GoodR.new {p : List Int} (h : InB B p) : GoodR B ⟨p, [], 0⟩ := ⟨h, fun l hl => (by cases hl), by simp⟩
end
end Go.Proofs.Ytibelfljlhcibaa
