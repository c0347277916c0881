/- Writers: Len (and Int, under way). -/
import Derived.Test.YtibelfljlhcibaaC2
namespace Go.Proofs.Ytibelfljlhcibaa
set_option linter.unusedVariables false
set_option linter.unusedSimpArgs false
open Go.RowKit Go.Deep Go.Proofs.YtibelfljlhcibaaW.PrintLast

set_option maxHeartbeats 400000 in
theorem wLen_any {w : World} {N k c : Nat} {room ft : Int} {A : Option Addr} {bs : List Int} {op : Value} (h : WAt w N k room A c bs op ft) :
    Calls Try.prog 23 #[.pointer (some ⟨k, 0, none⟩)] w fun e w' => e = .returned (.int .i64 (if ft = 0 then bs.length else 0)) ∧ w = w' := by
  have e1 := h.c1
  have WH := Lib.hid (whole_any h)
  clear h
  obtain ⟨t0, ht0⟩ := named (ft == 0)
  rw [ht0] at WH
  go_enter Try.func23, Try.ntmps23
  cases t0
  · have hf : ¬ ft = 0 := by simpa using ht0
    rw [if_neg hf]
    go_wp2_with (go_at_call 64; refine WH.out.mono ?_; rintro e w_ ⟨rfl, rfl⟩)
    go_ret
    exact ⟨rfl, rfl⟩
  · have hf : ft = 0 := by simpa using ht0
    rw [if_pos hf]
    go_wp2_with (go_at_call 64; refine WH.out.mono ?_; rintro e w_ ⟨rfl, rfl⟩)
    go_ret
    exact ⟨rfl, rfl⟩
end Go.Proofs.Ytibelfljlhcibaa
