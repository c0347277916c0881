/- Writers: Int. -/
import Derived.Test.YtibelfljlhcibaaD2
namespace Go.Proofs.Ytibelfljlhcibaa
set_option linter.unusedVariables false
set_option linter.unusedSimpArgs false
open Go.RowKit Go.Deep Go.Proofs.YtibelfljlhcibaaW.PrintLast

theorem foldZ_lt {i : Int} (h0 : -9223372036854775808 ≤ i) (h1 : i ≤ 9223372036854775807) : foldZ i < 18446744073709551616 := by
  unfold foldZ; split <;> omega
set_option maxRecDepth 100000 in
set_option maxHeartbeats 400000 in
theorem wInt_any {w0 w : World} {N k c : Nat} {room ft : Int} {A : Option Addr} {bs : List Int} {op : Value} (h : WAt w N k room A c bs op ft) (B : Below N w0 w) (hN : N ≤ w.heap.size) (hNk : N ≤ k) (hr0 : 0 ≤ room) (hr1 : room ≤ 9223372036854775807) (hbl : (bs.length : Int) ≤ room) (i : Int) (i0 : -9223372036854775808 ≤ i) (i1 : i ≤ 9223372036854775807) (h63 : bs.length + 10 ≤ 140737488355328) :
    Calls Try.prog 22 #[.pointer (some ⟨k, 0, none⟩), .int .i64 i] w fun e w' => e = .returned (.tuple #[]) ∧ WAt' w0 w' N k room (layS room bs ft (formN (foldZ i))) op := by
  have NM := Lib.hid (wNum_any h B hN hNk hr0 hr1 hbl (foldZ i) (foldZ_lt i0 i1) h63)
  have HF := Lib.hid (fold_bits i i0 i1)
  clear h B hbl
  go_enter Try.func22, Try.ntmps22
  go_wp2_with (fail)
  rw [HF.out]
  refine NM.out.mono ?_
  rintro e w2 ⟨rfl, W2⟩
  go_wp2_with (fail)
  go_end0
  exact ⟨rfl, W2⟩
end Go.Proofs.Ytibelfljlhcibaa
