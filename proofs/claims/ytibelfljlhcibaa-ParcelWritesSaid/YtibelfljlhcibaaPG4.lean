/- Writers: what each step leaves is right, and how long. -/
import Derived.Test.YtibelfljlhcibaaPR4
import Derived.Test.YtibelfljlhcibaaPQ
namespace Go.Proofs.Ytibelfljlhcibaa
set_option linter.unusedVariables false
set_option linter.unusedSimpArgs false

/-- Right, and at most so much longer. -/
def GoodW (s : WS) (n : Nat) (s' : WS) : Prop := s'.Ok ∧ s'.bs.length ≤ s.bs.length + n
section
variable {s : WS}
theorem GoodW.le {n m : Nat} {s' : WS} (h : GoodW s n s') (hm : n ≤ m) : GoodW s m s' := ⟨h.1, Nat.le_trans h.2 (by omega)⟩
theorem WS.Ok.stay (h : s.Ok) (n : Nat) : GoodW s n s := ⟨h, by omega⟩
theorem WS.Ok.refuseG (h : s.Ok) (e : Int) (n : Nat) : GoodW s n (s.refuse e) := ⟨h.refuse e, by unfold WS.refuse; split <;> simp⟩
theorem WS.Ok.layG (h : s.Ok) {ys : List Int} (hy : Byt ys) {n : Nat} (hn : ys.length ≤ n) : GoodW s n (s.lay ys) := ⟨h.lay hy, Nat.le_trans (WS.lay_len s ys).2 (by omega)⟩
theorem WS.Ok.byteG (h : s.Ok) (n : Int) : GoodW s 10 (s.byte n) := by
  unfold WS.byte
  split
  · exact h.refuseG 2 10
  · exact h.layG (fun x hx => by rw [List.mem_singleton] at hx; omega) (by simp)
theorem WS.Ok.fixedG (h : s.Ok) (n : Nat) (size : Int) : GoodW s 10 (s.fixed n size) := by
  unfold WS.fixed
  split
  · exact h.refuseG 2 10
  · exact h.layG (lowN_range _ _) (by rw [lowN_len]; omega)
theorem WS.Ok.numG (h : s.Ok) {n : Nat} (hn : n < 18446744073709551616) : GoodW s 10 (s.num n) := h.layG (formN_range n) (formN_len10 hn)
theorem WS.Ok.intG (h : s.Ok) {i : Int} (h0 : -9223372036854775808 ≤ i) (h1 : i ≤ 9223372036854775807) : GoodW s 10 (s.int i) := h.layG (formN_range _) (formN_len10 (foldZ_lt h0 h1))
theorem WS.Ok.realG (h : s.Ok) (n : Nat) : GoodW s 10 (s.real n) := h.layG (fun x hx => lowN_range 8 _ x (List.mem_reverse.1 hx)) (by rw [List.length_reverse, lowN_len]; omega)
theorem WS.Ok.rawG (h : s.Ok) {p : List Int} (hp : Byt p) : GoodW s (10 + p.length) (s.raw p) := h.layG hp (by omega)
theorem WS.Ok.textG (h : s.Ok) {p : List Int} (hp : Byt p) (hl : p.length < 18446744073709551616) : GoodW s (10 + p.length) (s.text p) :=
  h.layG (Byt.app (formN_range _) hp) (by have := formN_len10 hl; rw [List.length_append]; omega)
theorem WS.Ok.openG (h : s.Ok) : GoodW s 10 s.open_ := ⟨h.open_, by unfold WS.open_; split <;> (try split) <;> simp⟩
theorem WS.Ok.closeG (h : s.Ok) (hl : s.bs.length < 18446744073709551616) : GoodW s 10 s.close := by
  refine ⟨h.close, ?_⟩
  unfold WS.close
  split
  · cases he : s.op.getLast? with
    | none => simp
    | some f =>
      simp only
      split
      · simp
      · have hf := h.in_ f (List.mem_of_getLast? he)
        have := formN_len10 (n := s.bs.length - f) (by omega)
        simp only [List.length_append, List.length_take, List.length_drop]
        omega
  · simp
end
end Go.Proofs.Ytibelfljlhcibaa
