/- The contract of Step. -/
import Derived.Test.YtecdmbcdkfjgfaaD0
namespace Go.Proofs.Ytecdmbcdkfjgfaa
open Go.RowKit

set_option maxRecDepth 100000 in
set_option maxHeartbeats 2000000 in
theorem step_any (s : Int) (l : Lg) (k sh re rp cl sq ok : Int) (A7 A8 A10 : Option Addr) (n7 c7 n8 c8 n10 c10 : Nat) (rev : Int) (w : World) :
    Calls Try.prog 13 #[.int .i64 s, .agg #[.int .i64 l.ph, .int .i64 l.ep, .int .i64 l.pe], .agg #[.int .i64 k, .int .i64 sh, .int .i64 re, .int .i64 rp, .int .i64 cl, .int .i64 sq, .int .i64 ok, .slice A7 n7 c7, .slice A8 n8 c8, .int .i64 rev, .slice A10 n10 c10]] w fun e w' =>
      e = .returned (.tuple #[.agg #[.int .i64 (stepF s l k re rp).1.ph, .int .i64 (stepF s l k re rp).1.ep, .int .i64 (stepF s l k re rp).1.pe], .int .i64 (stepF s l k re rp).2]) ∧ Below w.heap.size w w' := by
  go_enter Try.func13, Try.ntmps13
  go_wp2_with (fail)
  refine (valid_any _ _ _ _ _).mono ?_
  rintro e w1 ⟨rfl, hb1⟩
  obtain ⟨B4, B5, B6⟩ := three_blks w (.cells #[.int .i64 l.ph, .int .i64 l.ep, .int .i64 l.pe] 24) (.cells #[.int .i64 k, .int .i64 sh, .int .i64 re, .int .i64 rp, .int .i64 cl, .int .i64 sq, .int .i64 ok, .slice A7 n7 c7, .slice A8 n8 c8, .int .i64 rev, .slice A10 n10 c10] 38) (.cells #[.int .i64 0, .int .i64 0, .int .i64 0] 24)
  replace B4 := blk_below B4 hb1
  replace B5 := blk_below B5 hb1
  replace B6 := blk_below B6 hb1
  have HB1 := Lib.hid (((((Below.refl w.heap.size w).alloc (Nat.le_refl _) _).alloc (by simp) _).alloc (by simp; omega) _).trans (hb1.mono (by simp; omega)))
  have z0 := blk_lt B4
  have z1 := blk_lt B5
  have z2 := blk_lt B6
  have l0 := cell_blk B4 0 rfl
  have l1 := cell_blk B4 1 rfl
  have l2 := cell_blk B4 2 rfl
  have r0 := cell_blk B5 0 rfl
  have r2 := cell_blk B5 2 rfl
  have r3 := cell_blk B5 3 rfl
  have o0 := cell_blk B6 0 rfl
  have o1 := cell_blk B6 1 rfl
  have o2 := cell_blk B6 2 rfl
  have fl0 := free_blk B4 0
  have fl1 := free_blk B4 1
  have fl2 := free_blk B4 2
  have fo0 := free_blk B6 0
  have fo1 := free_blk B6 1
  have fo2 := free_blk B6 2
  clear B4 B5 B6 hb1
  have hep : validB s l.ph l.ep l.pe = true → 0 ≤ l.ep ∧ l.ep ≤ 1073741824 := by unfold validB; grind
  by_cases hv : validB s l.ph l.ep l.pe = true
  rotate_left
  · clear hep
    go_wp2_with (fail)
    all_goals
      refine bodyPost_ret (v := .tuple #[.agg #[.int .i64 (stepF s l k re rp).1.ph, .int .i64 (stepF s l k re rp).1.ep, .int .i64 (stepF s l k re rp).1.pe], .int .i64 (stepF s l k re rp).2]) ?_ rfl ⟨rfl, ?_⟩
      · simp [results, Try.results13, go_sem, *]
        go_light
        grind [stepF, madeL, rightB]
      · repeat' (first | exact HB1.out | refine Below.drew ?_ | refine Below.setCell ?_ (by first | omega | (simp; done) | (simp; omega)) _)
  obtain ⟨p0, p1⟩ := hep hv
  clear hep
  all_goals go_wp2_with (fail)
  all_goals try (go_region; go_wp2_with (fail))
  all_goals first
    | (refine bodyPost_ret (v := .tuple #[.agg #[.int .i64 (stepF s l k re rp).1.ph, .int .i64 (stepF s l k re rp).1.ep, .int .i64 (stepF s l k re rp).1.pe], .int .i64 (stepF s l k re rp).2]) ?_ rfl ⟨rfl, ?_⟩
       · simp [results, Try.results13, go_sem, *]
         go_light
         grind [stepF, madeL, rightB]
       · repeat' (first | exact HB1.out | refine Below.drew ?_ | refine Below.setCell ?_ (by first | omega | (simp; done) | (simp; omega)) _))
    | (refine (valid_any _ _ _ _ _).mono ?_
       rintro e w2 ⟨rfl, hb2⟩
       obtain ⟨hc2, hf2⟩ := bcell hb2
       have y0 := hb2.size
       try simp at y0
       have y1 : w.heap.size + 1 + 1 < w2.heap.size := by omega
       go_wp2_with (fail)
       all_goals
         refine bodyPost_ret (v := .tuple #[.agg #[.int .i64 (stepF s l k re rp).1.ph, .int .i64 (stepF s l k re rp).1.ep, .int .i64 (stepF s l k re rp).1.pe], .int .i64 (stepF s l k re rp).2]) ?_ rfl ⟨rfl, ?_⟩
         · simp [results, Try.results13, go_sem, *]
           go_light
           grind [stepF, madeL, rightB]
         · repeat' (first | exact HB1.out | refine Below.drew ?_ | refine Below.setCell ?_ (by first | omega | (simp; done) | (simp; omega)) _ | refine Below.trans ?_ (hb2.mono (by first | omega | (simp; done) | (simp; omega)))))
end Go.Proofs.Ytecdmbcdkfjgfaa
