/- Contracts: small ones of the ledger laws, and the known example. -/
import Derived.Test.YtecdmbcdkfjgfaaD1
import Derived.Test.YtecdmbcdkfjgfaaB1
namespace Go.Proofs.Ytecdmbcdkfjgfaa
open Go.RowKit

set_option maxHeartbeats 400000 in
theorem num_any (n : Int) (w : World) :
    Calls Try.prog 14 #[.int .i64 n] w fun e w' => e = .returned (.int .i64 n) ∧ w = w' := by
  go_enter Try.func14, Try.ntmps14
  go_wp2
  go_ret
  exact ⟨rfl, rfl⟩

def beginL (s h : Int) : Lg := if s = h then ⟨1, 0, s⟩ else ⟨0, 0, h⟩
set_option maxHeartbeats 400000 in
theorem begin_any (s h : Int) (w : World) :
    Calls Try.prog 38 #[.int .i64 s, .int .i64 h] w fun e w' => e = .returned (.agg #[.int .i64 (beginL s h).ph, .int .i64 (beginL s h).ep, .int .i64 (beginL s h).pe]) ∧ Below w.heap.size w w' := by
  obtain ⟨b, hb⟩ := named (s == h)
  go_enter Try.func38, Try.ntmps38
  go_wp2
  all_goals
    refine bodyPost_ret (v := .agg #[.int .i64 (beginL s h).ph, .int .i64 (beginL s h).ep, .int .i64 (beginL s h).pe]) ?_ rfl ⟨rfl, ?_⟩
    · simp [results, Try.results38, go_sem, *]
      go_light
      grind [beginL]
    · exact (Below.refl _ _).alloc (Nat.le_refl _) _
def nagF (ph : Int) : Int := if ph = 2 then 3 else if ph = 3 then 5 else if ph = 4 then 4 else 0
set_option maxHeartbeats 400000 in
theorem nag_any (ph ep pe : Int) (w : World) :
    Calls Try.prog 26 #[.agg #[.int .i64 ph, .int .i64 ep, .int .i64 pe]] w fun e w' => e = .returned (.int .i64 (nagF ph)) ∧ Below w.heap.size w w' := by
  go_enter Try.func26, Try.ntmps26
  go_wp2
  all_goals
    go_ret
    refine ⟨ret_i ?_, (Below.refl _ _).alloc (Nat.le_refl _) _⟩
    go_light
    grind [nagF]

set_option maxRecDepth 100000 in
set_option maxHeartbeats 2000000 in
theorem known_any (w : World) :
    Calls Try.prog 19 #[] w fun e w' => e = .returned (.bool true) ∧ Below w.heap.size w w' := by
  have b22 := fun w => begin_any 2 2 w
  rw [show beginL 2 2 = ⟨1, 0, 2⟩ from rfl] at b22
  have b12 := fun w => begin_any 1 2 w
  rw [show beginL 1 2 = ⟨0, 0, 2⟩ from rfl] at b12
  have s2 := fun w => step_any 2 ⟨1, 0, 2⟩ 2 0 0 1 0 0 0 none none none 0 0 0 0 0 0 0 w
  rw [show stepF 2 ⟨1, 0, 2⟩ 2 0 1 = (⟨2, 1, 1⟩, 0) from by rfl] at s2
  have s1 := fun w => step_any 1 ⟨0, 0, 2⟩ 4 0 1 2 0 0 0 none none none 0 0 0 0 0 0 0 w
  rw [show stepF 1 ⟨0, 0, 2⟩ 4 1 2 = (⟨4, 1, 2⟩, 0) from by rfl] at s1
  have h2 := fun w => hear_any 2 2 1 1 4 1 1 w
  rw [show hearF 2 2 1 1 4 1 1 = (5, 5) from by decide] at h2
  have h1 := fun w => hear_any 1 4 1 2 5 1 2 w
  rw [show hearF 1 4 1 2 5 1 2 = (6, 6) from by decide] at h1
  have B22 := Lib.hid b22
  have B12 := Lib.hid b12
  have S2 := Lib.hid s2
  have S1 := Lib.hid s1
  have H2 := Lib.hid h2
  have H1 := Lib.hid h1
  clear b22 b12 s2 s1 h2 h1
  go_enter Try.func19, Try.ntmps19
  go_wp2_with (fail)
  refine (B22.out _).mono ?_
  rintro e w1 ⟨rfl, hb1⟩
  go_wp2_with (fail)
  refine (S2.out _).mono ?_
  rintro e w2 ⟨rfl, hb2⟩
  have K2 := Lib.hid (hb1.trans (hb2.mono hb1.size))
  clear hb1 hb2
  go_wp2_with (fail)
  refine (B12.out _).mono ?_
  rintro e w3 ⟨rfl, hb3⟩
  have L3 := blk_below (blk_new w2 (.cells #[.int .i64 2, .int .i64 1, .int .i64 1] 24)) hb3
  have K3 := Lib.hid ((K2.out.alloc K2.out.size _).trans (hb3.mono (by have := K2.out.size; simp; omega)))
  clear hb3 K2
  go_wp2_with (fail)
  refine (S1.out _).mono ?_
  rintro e w4 ⟨rfl, hb4⟩
  replace L3 := blk_below L3 hb4
  have K4 := Lib.hid (K3.out.trans (hb4.mono K3.out.size))
  clear hb4 K3
  have a0 := cell_blk L3 0 rfl
  have a1 := cell_blk L3 1 rfl
  have a2 := cell_blk L3 2 rfl
  have z := blk_lt L3
  go_wp2_with (fail)
  refine (H2.out _).mono ?_
  rintro e w5 ⟨rfl, hb5⟩
  have L5 := blk_below (blk_alloc L3 (.cells #[.int .i64 4, .int .i64 1, .int .i64 2] 24)) hb5
  have M5 := blk_below (blk_new w4 (.cells #[.int .i64 4, .int .i64 1, .int .i64 2] 24)) hb5
  have K5 := Lib.hid ((K4.out.alloc K4.out.size _).trans (hb5.mono (by have := K4.out.size; simp; omega)))
  clear hb5 K4 L3 a0 a1 a2
  have a0 := cell_blk M5 0 rfl
  have a1 := cell_blk M5 1 rfl
  have a2 := cell_blk M5 2 rfl
  have zz := blk_lt M5
  go_wp2_with (fail)
  refine (H1.out _).mono ?_
  rintro e w6 ⟨rfl, hb6⟩
  replace L5 := blk_below L5 hb6
  replace M5 := blk_below M5 hb6
  have K6 := Lib.hid (K5.out.trans (hb6.mono K5.out.size))
  clear hb6 K5 a0 a1 a2
  have a0 := cell_blk M5 0 rfl
  have a1 := cell_blk M5 1 rfl
  have a2 := cell_blk M5 2 rfl
  have b0 := cell_blk L5 0 rfl
  have b1 := cell_blk L5 1 rfl
  have b2 := cell_blk L5 2 rfl
  have hng := fun w => nag_any 2 1 1 w
  rw [show nagF 2 = 3 from rfl] at hng
  have NG := Lib.hid hng
  clear hng
  go_wp2_with (first | (go_at_call 14; refine (num_any _ _).mono ?_; rintro e w' ⟨rfl, rfl⟩) | (go_at_call 26; refine (NG.out _).mono ?_; rintro e w7 ⟨rfl, hb7⟩))
  go_ret
  exact ⟨rfl, K6.out.trans (hb7.mono K6.out.size)⟩
end Go.Proofs.Ytecdmbcdkfjgfaa
