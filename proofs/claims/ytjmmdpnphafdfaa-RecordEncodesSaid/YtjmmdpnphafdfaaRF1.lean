/- The reference's Right, Writes, between. -/
import Derived.Test.YtjmmdpnphafdfaaRM
import Derived.Test.YtjmmdpnphafdfaaRW1
namespace Go.Proofs.Ytjmmdpnphafdfaa
set_option linter.unusedVariables false
set_option linter.unusedSimpArgs false
open Go.RowKit Go.Deep Go.Proofs.YtjmmdpnphafdfaaW.PrintLast

set_option maxRecDepth 100000 in
set_option maxHeartbeats 4000000 in
theorem refRight_1 (k : Int) (A B : Option Addr) (n c m d : Nat) (r : Int) (w : World) :
    Calls Try.prog 38 #[.agg #[.int .i64 k, .slice A n c, .slice B m d, .int .i64 r]] w fun e w' => e = .returned (.bool (rightB k n m r)) ∧ Below w.heap.size w w' := by
  obtain ⟨S, hS⟩ : ∃ S, rightB k n m r = S := ⟨_, rfl⟩
  have HS := Lib.hid hS
  rw [hS]
  clear hS
  have hb := blk_new w (.cells #[.int .i64 k, .slice A n c, .slice B m d, .int .i64 r] 24 (0, 0))
  have HB := Lib.hid (show Below w.heap.size w (w.alloc (.cells #[.int .i64 k, .slice A n c, .slice B m d, .int .i64 r] 24 (0, 0))).drew from ((Below.refl _ _).alloc (Nat.le_refl _) _).drew)
  generalize hw : w.alloc (.cells #[.int .i64 k, .slice A n c, .slice B m d, .int .i64 r] 24 (0, 0)) = w1 at *
  have e0 : w1.cell? ⟨w.heap.size, 0, none⟩ = some (.int .i64 k) := cell_blk hb 0 rfl
  have e1 : w1.cell? ⟨w.heap.size, 1, none⟩ = some (.slice A n c) := cell_blk hb 1 rfl
  have e2 : w1.cell? ⟨w.heap.size, 2, none⟩ = some (.slice B m d) := cell_blk hb 2 rfl
  have e3 : w1.cell? ⟨w.heap.size, 3, none⟩ = some (.int .i64 r) := cell_blk hb 3 rfl
  have HW := Lib.hid hw
  clear hb hw
  go_enter Try.func38, Try.ntmps38
  go_wp2_with (fail)
  rw [HW.out]
  refine start_ (n := 8) (S := fun w' => w'.cell? ⟨w.heap.size, 1, none⟩ = some (.slice A n c) ∧ w'.cell? ⟨w.heap.size, 2, none⟩ = some (.slice B m d)) (ds := []) #[false, false, false, false, false, false, false, false] (by kernel_rfl) rfl rfl ⟨e1, e2⟩ (fun hHeld => ?_)
  (refine take_ (i := 0) (N := some 5) (v := ?v_2) (a' := ?a_2) #[true, false, false, false, false, false, false, false] rfl rfl (by kernel_rfl) (fun _ _ _ h => h) (Or.inl ⟨by rfl, ?hy_2⟩) hHeld ?ha_2 ?hh_2; (case hy_2 => (rintro w' ⟨s0_, s1_⟩; go_simp; with_reducible rfl)); (case ha_2 => (simp (disch := omega) only [Act.put, List.setIfInBounds_toArray, List.set_cons_zero, List.set_cons_succ, wrap_in]; rfl)))
  (refine take_ (i := 1) (N := some 6) (v := ?v_3) (a' := ?a_3) #[true, true, false, false, false, false, false, false] rfl rfl (by kernel_rfl) (fun _ _ _ h => h) (Or.inl ⟨by rfl, ?hy_3⟩) hHeld ?ha_3 ?hh_3; (case hy_3 => (rintro w' ⟨s0_, s1_⟩; go_simp; with_reducible rfl)); (case ha_3 => (simp (disch := omega) only [Act.put, List.setIfInBounds_toArray, List.set_cons_zero, List.set_cons_succ, wrap_in]; rfl)))
  (refine take_ (i := 2) (N := some 7) (v := ?v_4) (a' := ?a_4) #[true, true, true, false, false, false, false, false] rfl rfl (by kernel_rfl) (fun _ _ _ h => h) (Or.inl ⟨by rfl, ?hy_4⟩) hHeld ?ha_4 ?hh_4; (case hy_4 => (rintro w' ⟨s0_, s1_⟩; go_simp; with_reducible rfl)); (case ha_4 => (simp (disch := omega) only [Act.put, List.setIfInBounds_toArray, List.set_cons_zero, List.set_cons_succ, wrap_in]; rfl)))
  (refine take_ (i := 3) (N := some 8) (v := ?v_5) (a' := ?a_5) #[true, true, true, true, false, false, false, false] rfl rfl (by kernel_rfl) (fun _ _ _ h => h) (Or.inl ⟨by rfl, ?hy_5⟩) hHeld ?ha_5 ?hh_5; (case hy_5 => (rintro w' ⟨s0_, s1_⟩; go_simp; with_reducible rfl)); (case ha_5 => (simp (disch := omega) only [Act.put, List.setIfInBounds_toArray, List.set_cons_zero, List.set_cons_succ, wrap_in]; rfl)))
  (refine take_ (i := 4) (N := some 9) (v := ?v_6) (a' := ?a_6) #[true, true, true, true, true, false, false, false] rfl rfl (by kernel_rfl) (fun _ _ _ h => h) (Or.inl ⟨by rfl, ?hy_6⟩) hHeld ?ha_6 ?hh_6; (case hy_6 => (rintro w' ⟨s0_, s1_⟩; go_simp; with_reducible rfl)); (case ha_6 => (simp (disch := omega) only [Act.put, List.setIfInBounds_toArray, List.set_cons_zero, List.set_cons_succ, wrap_in]; rfl)))
  (refine take_ (i := 5) (N := some 10) (v := ?v_7) (a' := ?a_7) #[true, true, true, true, true, true, false, false] rfl rfl (by kernel_rfl) (fun _ _ _ h => h) (Or.inl ⟨by rfl, ?hy_7⟩) hHeld ?ha_7 ?hh_7; (case hy_7 => (rintro w' ⟨s0_, s1_⟩; go_simp; with_reducible rfl)); (case ha_7 => (simp (disch := omega) only [Act.put, List.setIfInBounds_toArray, List.set_cons_zero, List.set_cons_succ, wrap_in]; rfl)))
  (refine take_ (i := 6) (N := some 3) (v := ?v_8) (a' := ?a_8) #[true, true, true, true, true, true, true, false] rfl rfl (by kernel_rfl) (fun _ _ _ h => h) (Or.inl ⟨by rfl, ?hy_8⟩) hHeld ?ha_8 ?hh_8; (case hy_8 => (rintro w' ⟨s0_, s1_⟩; go_simp; with_reducible rfl)); (case ha_8 => (simp (disch := omega) only [Act.put, List.setIfInBounds_toArray, List.set_cons_zero, List.set_cons_succ, wrap_in]; rfl)))
  (refine take_ (i := 7) (N := some 4) (v := ?v_9) (a' := ?a_9) #[true, true, true, true, true, true, true, true] rfl rfl (by kernel_rfl) (fun _ _ _ h => h) (Or.inl ⟨by rfl, ?hy_9⟩) hHeld ?ha_9 ?hh_9; (case hy_9 => (rintro w' ⟨s0_, s1_⟩; go_simp; with_reducible rfl)); (case ha_9 => (simp (disch := omega) only [Act.put, List.setIfInBounds_toArray, List.set_cons_zero, List.set_cons_succ, wrap_in]; rfl)))
  refine done_ (by kernel_rfl) ?_
  replace e0 : w1.drew.cell? ⟨w.heap.size, 0, none⟩ = some (.int .i64 k) := e0
  replace e3 : w1.drew.cell? ⟨w.heap.size, 3, none⟩ = some (.int .i64 r) := e3
  generalize w1.drew = w2 at *
  clear e1 e2
  by_cases k4 : k = 4
  · subst k4
    have HK := Lib.hid (HS.out.symm.trans (show rightB _ n m r = ((decide (0 < n) && decide (n ≤ 64)) && decide (m ≤ 256) && (decide (0 ≤ r) && decide (r ≤ 1099511627776))) by unfold rightB; simp [*]))
    go_wp2_with (fail)
    all_goals
      go_ret
      refine ⟨?_, HB.out⟩
      show Ending.returned (.bool _) = _
      first
        | (rw [HK.out]; done)
        | (rw [HK.out]; congr 2; done)
        | (rw [HK.out]; congr 2; rw [Bool.eq_iff_iff]; simp; done)
        | (rw [HK.out]; congr 2; rw [Bool.eq_iff_iff]; simp; omega)
  · by_cases k2 : k = 2
    · subst k2
      have HK := Lib.hid (HS.out.symm.trans (show rightB _ n m r = ((decide (0 < n) && decide (n ≤ 64)) && decide (m ≤ 256) && (r == 0)) by unfold rightB; simp [*]))
      go_wp2_with (fail)
      all_goals
        go_ret
        refine ⟨?_, HB.out⟩
        show Ending.returned (.bool _) = _
        first
          | (rw [HK.out]; done)
          | (rw [HK.out]; congr 2; done)
          | (rw [HK.out]; congr 2; rw [Bool.eq_iff_iff]; simp; done)
          | (rw [HK.out]; congr 2; rw [Bool.eq_iff_iff]; simp; omega)
    · by_cases k5 : k = 5
      · subst k5
        have HK := Lib.hid (HS.out.symm.trans (show rightB _ n m r = (decide (n ≤ 65) && (m == 0) && (r == 0)) by unfold rightB; simp [*]))
        go_wp2_with (fail)
        all_goals
          go_ret
          refine ⟨?_, HB.out⟩
          show Ending.returned (.bool _) = _
          first
            | (rw [HK.out]; done)
            | (rw [HK.out]; congr 2; done)
            | (rw [HK.out]; congr 2; rw [Bool.eq_iff_iff]; simp; done)
            | (rw [HK.out]; congr 2; rw [Bool.eq_iff_iff]; simp; omega)
      · by_cases k1 : k = 1
        · subst k1
          have HK := Lib.hid (HS.out.symm.trans (show rightB _ n m r = ((decide (0 < n) && decide (n ≤ 64)) && (m == 0) && (r == 0)) by unfold rightB; simp [*]))
          go_wp2_with (fail)
          all_goals
            go_ret
            refine ⟨?_, HB.out⟩
            show Ending.returned (.bool _) = _
            first
              | (rw [HK.out]; done)
              | (rw [HK.out]; congr 2; done)
              | (rw [HK.out]; congr 2; rw [Bool.eq_iff_iff]; simp; done)
              | (rw [HK.out]; congr 2; rw [Bool.eq_iff_iff]; simp; omega)
        · by_cases k3 : k = 3
          · subst k3
            have HK := Lib.hid (HS.out.symm.trans (show rightB _ n m r = ((decide (0 < n) && decide (n ≤ 64)) && (m == 0) && (r == 0)) by unfold rightB; simp [*]))
            go_wp2_with (fail)
            all_goals
              go_ret
              refine ⟨?_, HB.out⟩
              show Ending.returned (.bool _) = _
              first
                | (rw [HK.out]; done)
                | (rw [HK.out]; congr 2; done)
                | (rw [HK.out]; congr 2; rw [Bool.eq_iff_iff]; simp; done)
                | (rw [HK.out]; congr 2; rw [Bool.eq_iff_iff]; simp; omega)
          ·
            have HK := Lib.hid (HS.out.symm.trans (show rightB _ n m r = false by unfold rightB; simp [*]))
            go_wp2_with (fail)
            all_goals
              go_ret
              refine ⟨?_, HB.out⟩
              show Ending.returned (.bool _) = _
              first
                | (rw [HK.out]; done)
                | (rw [HK.out]; congr 2; done)
                | (rw [HK.out]; congr 2; rw [Bool.eq_iff_iff]; simp; done)
                | (rw [HK.out]; congr 2; rw [Bool.eq_iff_iff]; simp; omega)
theorem refRight_any (o : OpZ) (K V : SlB) (hK : K.2.1 = o.key.length) (hV : V.2.1 = o.val.length) (w : World) :
    Calls Try.prog 38 #[.agg (opCells o K V).toArray] w fun e w' => e = .returned (.bool (decide (RightO o))) ∧ Below w.heap.size w w' := by
  have h := refRight_1 o.kind K.1 V.1 o.key.length K.2.2 o.val.length V.2.2 o.rev w
  rw [rightB_eq, ← hK, ← hV] at h
  exact h
def writesB (k : Int) : Bool := decide (k = 2 ∨ k = 3 ∨ k = 4)
set_option maxHeartbeats 1000000 in
theorem refWrites_any (o : OpZ) (K V : SlB) (w : World) :
    Calls Try.prog 39 #[.agg (opCells o K V).toArray] w fun e w' => e = .returned (.bool (writesB o.kind)) ∧ Below w.heap.size w w' := by
  unfold opCells
  generalize o.kind = k
  go_enter Try.func39, Try.ntmps39
  go_wp2_with (fail)
  all_goals
    go_ret
    refine ⟨?_, (Below.refl _ _).alloc (Nat.le_refl _) _⟩
    show Ending.returned (.bool _) = _
    unfold writesB
    first
      | (subst k; rfl)
      | (congr 2; simp [*]; done)
      | (congr 2; rw [Bool.eq_iff_iff]; simp [*]; done)
      | (congr 2; rw [Bool.eq_iff_iff]; simp; omega)
def betB (t : Bool) (n least most : Int) : Bool := if t then decide (least ≤ n) && decide (n ≤ most) else n == 0
set_option maxHeartbeats 1000000 in
theorem refBetween_any (t : Bool) (n least most : Int) (w : World) :
    Calls Try.prog 37 #[.bool t, .int .i64 n, .int .i64 least, .int .i64 most] w fun e w' => e = .returned (.bool (betB t n least most)) ∧ w = w' := by
  unfold betB
  cases t
  ·
    go_enter Try.func37, Try.ntmps37
    go_wp2_with (fail)
    all_goals
      go_ret
      refine ⟨?_, rfl⟩
      show Ending.returned (.bool _) = _
      congr 2
  · obtain ⟨t1, h1⟩ := named (decide (least ≤ n))
    obtain ⟨t2, h2⟩ := named (decide (n ≤ most))
    go_enter Try.func37, Try.ntmps37
    go_wp2_with (fail)
    all_goals
      go_ret
      refine ⟨?_, rfl⟩
      show Ending.returned (.bool _) = _
      simp_all
end Go.Proofs.Ytjmmdpnphafdfaa
