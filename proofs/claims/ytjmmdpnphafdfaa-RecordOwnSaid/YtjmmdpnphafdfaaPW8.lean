/- Writers: Text itself. -/
import Derived.Test.YtjmmdpnphafdfaaPW6
import Derived.Lib.AppendZeros
namespace Go.Proofs.Ytjmmdpnphafdfaa
set_option linter.unusedVariables false
set_option linter.unusedSimpArgs false
open Go.RowKit Go.Deep Go.Proofs.YtjmmdpnphafdfaaW.PrintLast

section
variable {w : World} {F : Nat → Prop} {k : Nat} {s : WS}
set_option maxRecDepth 100000 in
set_option maxHeartbeats 2000000 in
theorem wText_any (h : WLies TW w F k s) (hok : s.Ok) {B : Option Addr} {cc : Nat} {ys : List Int} (hy : BSrc w B ys) (h63 : s.bs.length + 10 + ys.length ≤ 140737488355328) :
    Calls Try.prog 77 #[.pointer (some ⟨k, 0, none⟩), .slice B ys.length cc] w fun e w' => e = .returned (.tuple #[]) ∧ UpdW TW F k w w' (s.text ys) := by
  have hn64 : ys.length < 18446744073709551616 := by omega
  have FM := Lib.hid (form_any ys.length hn64 w)
  have h10 := formN_len10 hn64
  have h1 := formN_pos ys.length
  have H := Lib.hid h
  have HO := Lib.hid hok
  have HY := Lib.hid hy
  obtain ⟨L, hL⟩ : ∃ L, L = ys.length := ⟨_, rfl⟩
  have HL := Lib.hid hL
  have hLb : L ≤ 140737488355328 := by omega
  obtain ⟨fm, hfm⟩ : ∃ f, f = formN ys.length := ⟨_, rfl⟩
  rw [← hfm] at FM h10 h1
  have HFM := Lib.hid hfm
  rw [← hL] at FM h63 ⊢
  clear h hok hy hn64 hL hfm
  go_enter Try.func77, Try.ntmps77
  go_wp2_with (fail)
  refine FM.out.mono ?_
  rintro e w1 ⟨g, c1, rfl, hg, O, B1⟩
  have BK := blk_new w1 (.cells #[.slice (some ⟨g, 0, none⟩) fm.length c1, .slice B L cc] 22)
  have B2 : Below w1.heap.size w1 (w1.alloc (.cells #[.slice (some ⟨g, 0, none⟩) fm.length c1, .slice B L cc] 22)) := (Below.refl _ _).alloc (Nat.le_refl _) _
  have BK' := BK
  rw [HL.out] at BK'
  have CC := concat2 (p := fm) (q := ys) BK' ((BSrc.ofOwn O).below (by rw [← HL.out]; exact B2)) (((HY.out.below B1)).below (by rw [← HL.out]; exact B2)) h1 (by rw [← HL.out]; omega)
  rw [← HL.out] at CC
  obtain ⟨tt, htt⟩ : ∃ tt, tt = fm ++ ys := ⟨_, rfl⟩
  rw [← htt] at CC
  have htl : tt.length = fm.length + L := by rw [htt, List.length_append, HL.out]
  have HTT := Lib.hid htt
  have HC := Lib.hid CC
  have HB2 := Lib.hid (B1.trans (B2.mono B1.size))
  have HTL := Lib.hid htl
  clear O B1 BK BK' B2 CC htt htl
  go_wp2_with (fail)
  refine HC.out.mono ?_
  rintro e w3 ⟨A3, c3, rfl, R3, B3⟩
  have HB3 := Lib.hid (HB2.out.trans (B3.mono HB2.out.size))
  have LY := lay_any (H.out.below HB3.out) HO.out.room0 HO.out.room1 HO.out.fit (cc := c3) (BSrc.ofRow R3) (by rw [HTL.out]; omega)
  have HLY := Lib.hid LY
  clear R3 B3 LY HC
  go_wp2_with (fail)
  refine HLY.out.mono ?_
  rintro e w4 ⟨rfl, U⟩
  go_wp2_with (fail)
  go_end0
  refine ⟨rfl, ?_⟩
  have e1 : s.text ys = s.lay tt := by unfold WS.text; rw [HTT.out, HFM.out]
  rw [e1]
  exact UpdW.after HB3.out U
end
end Go.Proofs.Ytjmmdpnphafdfaa
