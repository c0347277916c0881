/- known: a tree that the document names. -/
import Derived.Test.YtmichnnkkpgpmaaQ3
namespace Go.Proofs.Ytmichnnkkpgpmaa
set_option linter.unusedVariables false
set_option linter.unusedSimpArgs false
open Go.RowKit Go.Deep Go.Proofs.YtmichnnkkpgpmaaW.PrintLast

def t359 : TI := .node (.node .nil 3 30 .nil) 5 50 (.node .nil 9 90 .nil)
theorem put_5 : T.put ltZ 5 50 (.nil : TI) = .node .nil 5 50 .nil := rfl
theorem put_3 : T.put ltZ 3 30 (.node .nil 5 50 .nil : TI) = .node (.node .nil 3 30 .nil) 5 50 .nil := by
  unfold T.put
  rw [if_pos (by decide)]
  exact T.join_0 (by decide) (by decide)
theorem put_9 : T.put ltZ 9 90 (.node (.node .nil 3 30 .nil) 5 50 .nil : TI) = t359 := by
  unfold T.put
  rw [if_neg (by decide), if_pos (by decide)]
  exact T.join_0 (by decide) (by decide)
set_option maxRecDepth 100000 in
set_option maxHeartbeats 4000000 in
theorem known_any (w : World) : Calls Try.prog 14 #[] w fun e w' => e = .returned (.bool true) ∧ Below w.heap.size w w' := by
  have NW := Lib.hid (new_any w)
  have P1 := Ti.put_any 5 50 .nil (w := w) (p := none) rfl (by decide)
  rw [put_5] at P1
  have HP1 := Lib.hid P1
  clear P1
  go_enter Try.func14, Try.ntmps14
  go_wp2_with (fail)
  refine NW.out.mono ?_
  rintro e w_ ⟨rfl, rfl⟩
  go_wp2_with (fail)
  refine HP1.out.mono ?_
  rintro e w1 ⟨p1, rfl, T1, B1⟩
  have P2 := Ti.put_any 3 30 _ T1 (by decide)
  rw [put_3] at P2
  have HP2 := Lib.hid P2
  have HB1 := Lib.hid B1
  clear P2 T1 B1
  go_wp2_with (fail)
  refine HP2.out.mono ?_
  rintro e w2 ⟨p2, rfl, T2, B2⟩
  have P3 := Ti.put_any 9 90 _ T2 (by decide)
  rw [put_9] at P3
  have HP3 := Lib.hid P3
  have HB2 := Lib.hid (HB1.out.trans (B2.mono HB1.out.size))
  clear P3 T2 B2
  go_wp2_with (fail)
  refine HP3.out.mono ?_
  rintro e w3 ⟨p3, rfl, T3, B3⟩
  have HT3 := Lib.hid T3
  have HB3 := Lib.hid (HB2.out.trans (B3.mono HB2.out.size))
  have G1 := Lib.hid (Ti.get_any 3 T3)
  have G2 := Lib.hid (Ti.get_any 4 T3)
  have S1 := Lib.hid (Ti.seek_any 4 T3)
  clear T3 B3
  go_wp2_with (fail)
  refine G1.out.mono ?_
  rintro e w_ ⟨he, rfl⟩
  change e = .returned (.tuple #[.int .i64 30, .bool true]) at he
  subst he
  go_wp2_with (fail)
  refine G2.out.mono ?_
  rintro e w_ ⟨he, rfl⟩
  change e = .returned (.tuple #[.int .i64 0, .bool false]) at he
  subst he
  go_wp2_with (fail)
  refine S1.out.mono ?_
  rintro e w4 ⟨he, B4⟩
  change e = .returned (.tuple #[.int .i64 5, .int .i64 50, .bool true]) at he
  subst he
  have HT4 := Lib.hid (HT3.out.below B4)
  have HB4 := Lib.hid (HB3.out.trans (B4.mono HB3.out.size))
  have L1 := Lib.hid (Ti.len_any HT4.out)
  have R1 := Lib.hid (Ti.rank_any 6 HT4.out (by decide))
  have D1 := Lib.hid (Ti.depth_any HT4.out)
  clear B4
  go_wp2_with (fail)
  refine L1.out.mono ?_
  rintro e w_ ⟨he, rfl⟩
  change e = .returned (.int .i64 3) at he
  subst he
  go_wp2_with (fail)
  refine R1.out.mono ?_
  rintro e w_ ⟨he, rfl⟩
  change e = .returned (.int .i64 2) at he
  subst he
  go_wp2_with (fail)
  refine D1.out.mono ?_
  rintro e w_ ⟨he, rfl⟩
  change e = .returned (.int .i64 2) at he
  subst he
  go_wp2_with (fail)
  refine D1.out.mono ?_
  rintro e w_ ⟨he, rfl⟩
  change e = .returned (.int .i64 2) at he
  subst he
  go_wp2_with (fail)
  go_ret
  exact ⟨rfl, HB4.out⟩
end Go.Proofs.Ytmichnnkkpgpmaa
