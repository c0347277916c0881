/- The reference's writer: New, dead, Len. -/
import Derived.Test.YtibelfljlhcibaaPW2
namespace Go.Proofs.Ytibelfljlhcibaa
set_option linter.unusedVariables false
set_option linter.unusedSimpArgs false
open Go.RowKit Go.Deep Go.Proofs.YtibelfljlhcibaaW.PrintLast
abbrev TE : TypeId := 103
theorem te_ne : TE ≠ 5 ∧ TE ≠ 3 := by decide
section
variable {w : World} {F : Nat → Prop} {k : Nat} {s : WS}
set_option maxHeartbeats 400000 in
theorem refNew_any (room : Int) (w : World) : Calls Try.prog 36 #[.int .i64 room] w fun e w' => e = .returned (.pointer (some ⟨w.heap.size, 0, none⟩)) ∧ Below w.heap.size w w' ∧ WLies TE w' (fun b => w.heap.size ≤ b ∧ b < w'.heap.size) w.heap.size ⟨if room < 0 then 0 else room, [], [], 0⟩ := by
  obtain ⟨t, ht⟩ := named (decide (room < 0))
  cases t
  · have hc : ¬ room < 0 := of_decide_eq_false ht
    rw [if_neg hc]
    go_enter Try.func36, Try.ntmps36
    go_wp2
    go_ret
    refine ⟨rfl, (Below.refl _ _).alloc (Nat.le_refl _) _, none, 0, none, 0, ?_, ⟨Nat.le_refl _, by simp⟩, RowF.nil, RowF.nil⟩
    rw [blk_new]
    rfl
  · have hc : room < 0 := of_decide_eq_true ht
    rw [if_pos hc]
    go_enter Try.func36, Try.ntmps36
    go_wp2
    go_ret
    refine ⟨rfl, (Below.refl _ _).alloc (Nat.le_refl _) _, none, 0, none, 0, ?_, ⟨Nat.le_refl _, by simp⟩, RowF.nil, RowF.nil⟩
    rw [blk_new]
    rfl
set_option maxHeartbeats 400000 in
theorem refDead_any (h : WLies TE w F k s) : Calls Try.prog 128 #[.pointer (some ⟨k, 0, none⟩)] w fun e w' => e = .returned (.bool (s.ft != 0)) ∧ w = w' := by
  obtain ⟨A, c, OA, oc, h1, h2, h3, h4⟩ := h
  have e3 : w.cell? ⟨k, 3, none⟩ = some (.int .i64 s.ft) := cell_blk h1 3 rfl
  clear h1 h2 h3 h4
  generalize s.ft = ft at *
  obtain ⟨t, ht⟩ := named (ft != 0)
  rw [ht]
  go_enter Try.func128, Try.ntmps128
  go_wp2
  all_goals
    go_ret
    first | exact ⟨rfl, rfl⟩ | simp_all
set_option maxHeartbeats 400000 in
theorem refDead_nil (w : World) : Calls Try.prog 128 #[.pointer none] w fun e w' => e = .returned (.bool true) ∧ w = w' := by
  go_enter Try.func128, Try.ntmps128
  go_wp2
  go_ret
  exact ⟨rfl, rfl⟩
set_option maxHeartbeats 400000 in
theorem refLen_any (h : WLies TE w F k s) : Calls Try.prog 92 #[.pointer (some ⟨k, 0, none⟩)] w fun e w' => e = .returned (.int .i64 (s.len : Nat)) ∧ w = w' := by
  have WH := Lib.hid (refDead_any h)
  obtain ⟨A, c, OA, oc, h1, h2, h3, h4⟩ := h
  have e1 : w.cell? ⟨k, 1, none⟩ = some (.slice A s.bs.length c) := cell_blk h1 1 rfl
  clear h1 h2 h3 h4
  obtain ⟨t0, ht0⟩ := named (s.ft != 0)
  rw [ht0] at WH
  unfold WS.len
  cases t0
  · have hf : s.ft = 0 := by simpa using ht0
    rw [if_pos hf]
    go_enter Try.func92, Try.ntmps92
    go_wp2_with (go_at_call 128; refine WH.out.mono ?_; rintro e w_ ⟨rfl, rfl⟩)
    go_ret
    exact ⟨rfl, rfl⟩
  · have hf : ¬ s.ft = 0 := by simpa using ht0
    rw [if_neg hf]
    go_enter Try.func92, Try.ntmps92
    go_wp2_with (go_at_call 128; refine WH.out.mono ?_; rintro e w_ ⟨rfl, rfl⟩)
    go_ret
    exact ⟨rfl, rfl⟩
set_option maxHeartbeats 400000 in
theorem refLen_nil (w : World) : Calls Try.prog 92 #[.pointer none] w fun e w' => e = .returned (.int .i64 0) ∧ w = w' := by
  go_enter Try.func92, Try.ntmps92
  go_wp2_with (go_at_call 128; refine (refDead_nil _).mono ?_; rintro e w_ ⟨rfl, rfl⟩)
  go_ret
  exact ⟨rfl, rfl⟩
end
end Go.Proofs.Ytibelfljlhcibaa
