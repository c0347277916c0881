/- Readers: Text. -/
import Derived.Test.YtibelfljlhcibaaPR4
namespace Go.Proofs.Ytibelfljlhcibaa
set_option linter.unusedVariables false
set_option linter.unusedSimpArgs false
open Go.RowKit Go.Deep Go.Proofs.YtibelfljlhcibaaW.PrintLast

theorem size_eq (s : RS) (mo : Nat) (h : s.ft = 0) : s.size mo = (match (sizeO s mo).1 with | none => (0, (sizeO s mo).2.short) | some n => (n, (sizeO s mo).2)) := by
  unfold RS.size sizeO
  rw [num_eq s h]
  cases (numO s).1 with
  | none => rfl
  | some n =>
    simp only
    by_cases h1 : (numO s).2.ft = 0
    · rw [if_pos h1, if_pos h1, if_pos h1]
      by_cases h2 : mo < n
      · rw [if_pos h2, if_pos h2]
      · rw [if_neg h2, if_neg h2]
        by_cases h3 : (numO s).2.left.length < n
        · rw [if_pos h3, if_pos h3]
        · rw [if_neg h3, if_neg h3]
    · rw [if_neg h1, if_neg h1]
theorem text_eq (s : RS) (most : Int) (h : s.ft = 0) : s.text most = (match (textO s (max most 0).toNat).1 with | none => ([], (textO s (max most 0).toNat).2.short) | some p => if (textO s (max most 0).toNat).2.ft = 0 then (p, (textO s (max most 0).toNat).2) else ([], (textO s (max most 0).toNat).2)) := by
  generalize hmo : (max most 0).toNat = mo
  unfold RS.text
  rw [if_pos h, hmo, size_eq s mo h]
  unfold textO
  cases ho : (sizeO s mo).1 with
  | none => rfl
  | some n =>
    simp only
    by_cases h1 : (sizeO s mo).2.ft = 0
    · rw [if_pos h1, if_pos h1]
    · rw [if_neg h1, if_neg h1]
      have hn : n = 0 := by
        unfold sizeO at ho h1
        cases hn : (numO s).1 with
        | none => rw [hn] at ho; cases ho
        | some m =>
          rw [hn] at ho h1
          simp only at ho h1
          by_cases h2 : (numO s).2.ft = 0
          · rw [if_pos h2] at ho h1
            by_cases h3 : mo < m
            · rw [if_pos h3] at ho; injection ho with ho; exact ho.symm
            · rw [if_neg h3] at ho h1
              by_cases h4 : (numO s).2.left.length < m
              · rw [if_pos h4] at ho; injection ho with ho; exact ho.symm
              · rw [if_neg h4] at h1; exact absurd h2 h1
          · rw [if_neg h2] at ho; injection ho with ho; exact ho.symm
      subst hn
      simp
/-- Bytes handed back, and the reader behind it. -/
def GaveB (F : Nat → Prop) (k : Nat) (w : World) (r : List Int × RS) (e : Ending) (w' : World) : Prop := (∃ x : SlB, e = .returned (.slice x.1 x.2.1 x.2.2) ∧ NewB w.heap.size w' r.1 x) ∧ UpdR F k w w' r.2
theorem NewB.nil (N : Nat) (w : World) : NewB N w [] (none, 0, 0) := ⟨rfl, RowF.nil⟩
section
variable {w w' w1 w2 : World} {F G : Nat → Prop} {k : Nat} {s s' : RS}
set_option maxRecDepth 100000 in
set_option maxHeartbeats 2000000 in
theorem rText_any (h : RLies w F k s) (hb : Byt s.left) (h63 : s.left.length ≤ 140737488355328) (most : Int) (hm : most ≤ 9223372036854775807) :
    Calls Try.prog 39 #[.pointer (some ⟨k, 0, none⟩), .int .i64 most] w (GaveB F k w (s.text most)) := by
  have hmf : ∀ (fn : Fn) (first cap : Array Value) (w : World), (Instr.makeFunc fn first cap).run Try.prog w = .ok (.func fn first cap) w := fun _ _ _ _ => rfl
  obtain ⟨b0, b1⟩ := two_blks w (.cells #[.pointer (some ⟨k, 0, none⟩)] 28) (.cells #[.int .i64 most] 3)
  have B2 : Below w.heap.size w ((w.alloc (.cells #[.pointer (some ⟨k, 0, none⟩)] 28)).alloc (.cells #[.int .i64 most] 3)) := ((Below.refl _ _).alloc (Nat.le_refl _) _).alloc (by simp) _
  have hs2 : ((w.alloc (.cells #[.pointer (some ⟨k, 0, none⟩)] 28)).alloc (.cells #[.int .i64 most] 3)).heap.size = w.heap.size + 2 := by simp
  have z0 := cell_blk b0 0 rfl
  have HH := Lib.hid h
  obtain ⟨mo, hmo⟩ : ∃ mo, mo = (max most 0).toNat := ⟨_, rfl⟩
  have TK := Lib.hid (take_byt false (h.tight.below B2) (f := 95) (first := #[]) (cap := #[.pointer (some ⟨w.heap.size, 0, none⟩), .pointer (some ⟨w.heap.size + 1, 0, none⟩)]) Try.func95 (by kernel_rfl) rfl (textO s mo).2 (textO s mo).1.isSome
    (fun x w' => NewB (w.heap.size + 5) w' ((textO s mo).1.getD []) x) (fun x w1 w2 hx hk => hx.stable (Nat.le_refl _) fun b hb _ => hk b (by rw [hs2]; omega))
    (fun h0 wd hB hz hL => (text1_any (cell_blk (blk_below b0 hB) 0 rfl) (cell_blk (blk_below b1 hB) 0 rfl) hm hL h0 hb h63 (fun hf => by have : w.heap.size < w.heap.size := hf.1.2; omega)).mono fun e w' hn => by
      rw [← hmo] at hn
      refine ⟨hn.1.n false, ?_⟩
      have h2 := hn.2
      cases ho : (textO s mo).1 with
      | none => rw [ho] at h2; exact h2
      | some p =>
        rw [ho] at h2
        obtain ⟨x, he, hx⟩ := h2
        exact ⟨x, he, by rw [hz, hs2] at hx; exact hx⟩))
  have TE := Lib.hid (fun h => text_eq s most h)
  rw [← hmo] at TE
  have HB2 := Lib.hid B2
  clear h hb b0 b1 B2 hs2 hmo
  go_enter Try.func39, Try.ntmps39
  go_wp2_with (fail)
  refine TK.out.mono ?_
  rintro e w2 ht
  have hsz := HB2.out.size
  have hr : ∃ x : SlB, e = .returned (.slice x.1 x.2.1 x.2.2) ∧ NewB w.heap.size w2 (s.text most).1 x ∧ UpdR F k w w2 (s.text most).2 := by
    unfold TakeP_byt at ht
    by_cases h0 : s.ft = 0
    · rw [if_pos h0] at ht
      rw [TE.out h0]
      cases ho : (textO s mo).1 with
      | none =>
        rw [ho] at ht
        simp only [Option.isSome_none, Bool.false_eq_true, false_and, if_false] at ht
        exact ⟨(none, 0, 0), ht.1, NewB.nil _ _, UpdR.after HB2.out (ht.2.strict.mono fun _ h => h.1)⟩
      | some p =>
        rw [ho] at ht
        simp only [Option.isSome_some, true_and, if_true] at ht
        by_cases h1 : (textO s mo).2.ft = 0
        · rw [if_pos h1] at ht
          obtain ⟨⟨x, rfl, hx⟩, hu⟩ := ht
          simp only [h1, if_true]
          exact ⟨x, rfl, hx.stable (by omega) (fun _ _ _ => rfl), UpdR.after HB2.out (hu.strict.mono fun _ h => h.1)⟩
        · rw [if_neg h1] at ht
          simp only [h1, if_false]
          exact ⟨(none, 0, 0), ht.1, NewB.nil _ _, UpdR.after HB2.out (ht.2.strict.mono fun _ h => h.1)⟩
    · rw [if_neg h0] at ht
      have : s.text most = ([], s) := by unfold RS.text; rw [if_neg h0]
      rw [this]
      exact ⟨(none, 0, 0), ht.1, NewB.nil _ _, UpdR.of_below HH.out (HB2.out.trans (ht.2.mono HB2.out.size))⟩
  obtain ⟨x, rfl, hx, hu⟩ := hr
  have HX := Lib.hid hx
  have HU := Lib.hid hu
  clear hx hu ht
  go_wp2_with (fail)
  go_ret
  exact ⟨⟨x, rfl, HX.out⟩, HU.out⟩
theorem rText_nil (w : World) (most : Int) : Calls Try.prog 39 #[.pointer none, .int .i64 most] w fun e w' => e = .returned (.slice none 0 0) ∧ Below w.heap.size w w' := by
  have hmf : ∀ (fn : Fn) (first cap : Array Value) (w : World), (Instr.makeFunc fn first cap).run Try.prog w = .ok (.func fn first cap) w := fun _ _ _ _ => rfl
  have B2 : Below w.heap.size w ((w.alloc (.cells #[.pointer none] 28)).alloc (.cells #[.int .i64 most] 3)) := ((Below.refl _ _).alloc (Nat.le_refl _) _).alloc (by simp) _
  have HB2 := Lib.hid B2
  obtain ⟨b0, b1⟩ := two_blks w (.cells #[.pointer none] 28) (.cells #[.int .i64 most] 3)
  have z0 := cell_blk b0 0 rfl
  clear B2 b0 b1
  go_enter Try.func39, Try.ntmps39
  go_wp2_with (fail)
  refine (take_nil_byt _ _).mono ?_
  rintro e w2 ⟨rfl, B⟩
  have HB := Lib.hid (HB2.out.trans (B.mono HB2.out.size))
  clear B
  go_wp2_with (fail)
  go_ret
  exact ⟨rfl, HB.out⟩
end
end Go.Proofs.Ytibelfljlhcibaa
