/- The nil reader: Num, Int, Byte. The nil reader: Fixed, Real. -/
import Derived.Test.YtibelfljlhcibaaPR3
import Derived.Test.YtibelfljlhcibaaPR9
import Derived.Test.YtibelfljlhcibaaPR8
namespace Go.Proofs.Ytibelfljlhcibaa
set_option linter.unusedVariables false
set_option linter.unusedSimpArgs false
open Go.RowKit Go.Deep Go.Proofs.YtibelfljlhcibaaW.PrintLast
set_option maxHeartbeats 400000 in
theorem rNum_nil (w : World) : Calls Try.prog 17 #[.pointer none] w fun e w' => e = .returned (.int .u64 0) ∧ Below w.heap.size w w' := by
  have hmf : ∀ (fn : Fn) (first cap : Array Value) (w : World), (Instr.makeFunc fn first cap).run Try.prog w = .ok (.func fn first cap) w := fun _ _ _ _ => rfl
  go_enter Try.func17, Try.ntmps17
  go_wp2_with (fail)
  refine (take_nil_u64 _ _).mono ?_
  rintro e w2 ⟨rfl, B2⟩
  have HB := Lib.hid B2
  clear B2
  go_wp2_with (fail)
  go_ret
  exact ⟨rfl, HB.out⟩
set_option maxHeartbeats 400000 in
theorem rInt_nil (w : World) : Calls Try.prog 25 #[.pointer none] w fun e w' => e = .returned (.int .i64 0) ∧ Below w.heap.size w w' := by
  go_enter Try.func25, Try.ntmps25
  go_wp2_with (fail)
  refine (rNum_nil w).mono ?_
  rintro e w2 ⟨rfl, B2⟩
  have HB := Lib.hid B2
  clear B2
  go_wp2_with (fail)
  go_ret
  exact ⟨ret_i (by
    have u := unfold_any 0 (by omega)
    have h : wrap64 (((0 : Nat) : Int) / 2) = 0 := by rw [IntWalk.wrap64_in _ (by omega)]; omega
    rw [h] at u
    exact u), HB.out⟩
set_option maxHeartbeats 400000 in
theorem rByte_nil (w : World) : Calls Try.prog 20 #[.pointer none] w fun e w' => e = .returned (.int .i64 0) ∧ Below w.heap.size w w' := by
  have hmf : ∀ (fn : Fn) (first cap : Array Value) (w : World), (Instr.makeFunc fn first cap).run Try.prog w = .ok (.func fn first cap) w := fun _ _ _ _ => rfl
  have B1 : Below w.heap.size w (w.alloc (.cells #[.pointer none] 28)) := (Below.refl _ _).alloc (Nat.le_refl _) _
  have z0 := cell_blk (blk_new w (.cells #[.pointer none] 28)) 0 rfl
  have HB1 := Lib.hid B1
  clear B1
  go_enter Try.func20, Try.ntmps20
  go_wp2_with (fail)
  refine (take_nil_int _ _).mono ?_
  rintro e w2 ⟨rfl, B2⟩
  have HB := Lib.hid B2
  clear B2
  go_wp2_with (fail)
  go_ret
  exact ⟨rfl, HB1.out.trans (HB.out.mono HB1.out.size)⟩
end Go.Proofs.Ytibelfljlhcibaa
namespace Go.Proofs.Ytibelfljlhcibaa
set_option linter.unusedVariables false
set_option linter.unusedSimpArgs false
open Go.RowKit Go.Deep Go.Proofs.YtibelfljlhcibaaW.PrintLast
theorem rFixed_nil (w : World) (n : Int) : Calls Try.prog 56 #[.pointer none, .int .i64 n] w fun e w' => e = .returned (.int .u64 0) ∧ Below w.heap.size w w' := by
  have hmf : ∀ (fn : Fn) (first cap : Array Value) (w : World), (Instr.makeFunc fn first cap).run Try.prog w = .ok (.func fn first cap) w := fun _ _ _ _ => rfl
  have B2 : Below w.heap.size w ((w.alloc (.cells #[.pointer none] 28)).alloc (.cells #[.int .i64 n] 3)) := ((Below.refl _ _).alloc (Nat.le_refl _) _).alloc (by simp) _
  have HB2 := Lib.hid B2
  obtain ⟨b0, b1⟩ := two_blks w (.cells #[.pointer none] 28) (.cells #[.int .i64 n] 3)
  have z0 := cell_blk b0 0 rfl
  clear B2 b0 b1
  go_enter Try.func56, Try.ntmps56
  go_wp2_with (fail)
  refine (take_nil_u64 _ _).mono ?_
  rintro e w2 ⟨rfl, B⟩
  have HB := Lib.hid (HB2.out.trans (B.mono HB2.out.size))
  clear B
  go_wp2_with (fail)
  go_ret
  exact ⟨rfl, HB.out⟩
theorem rReal_nil (w : World) : Calls Try.prog 28 #[.pointer none] w fun e w' => e = .returned (.float .f64 0) ∧ Below w.heap.size w w' := by
  have hmf : ∀ (fn : Fn) (first cap : Array Value) (w : World), (Instr.makeFunc fn first cap).run Try.prog w = .ok (.func fn first cap) w := fun _ _ _ _ => rfl
  have B1 : Below w.heap.size w (w.alloc (.cells #[.pointer none] 28)) := (Below.refl _ _).alloc (Nat.le_refl _) _
  have z0 := cell_blk (blk_new w (.cells #[.pointer none] 28)) 0 rfl
  have HB1 := Lib.hid B1
  clear B1
  go_enter Try.func28, Try.ntmps28
  go_wp2_with (fail)
  refine (take_nil_f64 _ _).mono ?_
  rintro e w2 ⟨rfl, B⟩
  have HB := Lib.hid (HB1.out.trans (B.mono HB1.out.size))
  clear B
  go_wp2_with (fail)
  go_ret
  exact ⟨rfl, HB.out⟩
end Go.Proofs.Ytibelfljlhcibaa
