/- The reference's Sound. -/
import Derived.Test.YtjmmdpnphafdfaaRF1
import Derived.Test.YtjmmdpnphafdfaaRW6
namespace Go.Proofs.Ytjmmdpnphafdfaa
set_option linter.unusedVariables false
set_option linter.unusedSimpArgs false
open Go.RowKit Go.Deep Go.Proofs.YtjmmdpnphafdfaaW.PrintLast

/-- Sound, as the reference asks. -/
def refSoundB (r : RZ) : Bool := if r.kind < 1 ∨ 8 < r.kind ∨ r.shard < 0 ∨ 64 ≤ r.shard then false else
  (betB (r.kind == 1) r.client 0 15 && (betB (r.kind == 1) r.seq 1 1073741824 && (betB (r.kind == 4 || r.kind == 2) r.peer 0 7 && betB (r.kind == 4) r.epoch 1 1073741824))) &&
  (if r.kind = 1 then (decide (RightO r.op) && writesB r.op.kind) && decide (r.copy.length = 0) else
    decide (r.op.kind = 0 ∧ r.op.key.length = 0 ∧ r.op.val.length = 0 ∧ r.op.rev = 0) && ((r.kind == 4 && decide (r.copy.length ≤ 262144)) || decide (r.copy.length = 0)))
theorem refSoundB_eq (r : RZ) : refSoundB r = decide (SoundR r) := by
  rw [Bool.eq_iff_iff, decide_eq_true_eq]
  have hro : RightO r.op → (r.op.kind = 1 ∨ r.op.kind = 2 ∨ r.op.kind = 3 ∨ r.op.kind = 4 ∨ r.op.kind = 5) := by unfold RightO; omega
  unfold refSoundB SoundR NoOp betB writesB
  split
  · rename_i h
    constructor
    · intro h'; cases h'
    · intro h'; omega
  · rename_i h
    by_cases hR : RightO r.op
    · have hk := hro hR
      by_cases k1 : r.kind = 1
      · simp [k1, hR, -List.length_eq_zero_iff]; omega
      · by_cases k2 : r.kind = 2
        · simp [k2, -List.length_eq_zero_iff]; omega
        · by_cases k4 : r.kind = 4
          · simp [k4, -List.length_eq_zero_iff]; omega
          · have h1 : (r.kind == 1) = false := by simpa using k1
            have h2 : (r.kind == 2) = false := by simpa using k2
            have h4 : (r.kind == 4) = false := by simpa using k4
            simp [k1, k2, k4, h1, h2, h4, -List.length_eq_zero_iff]; omega
    · by_cases k1 : r.kind = 1
      · simp [k1, hR, -List.length_eq_zero_iff]
      · by_cases k2 : r.kind = 2
        · simp [k2, -List.length_eq_zero_iff]; omega
        · by_cases k4 : r.kind = 4
          · simp [k4, -List.length_eq_zero_iff]; omega
          · have h1 : (r.kind == 1) = false := by simpa using k1
            have h2 : (r.kind == 2) = false := by simpa using k2
            have h4 : (r.kind == 4) = false := by simpa using k4
            simp [k1, k2, k4, h1, h2, h4, -List.length_eq_zero_iff]; omega
set_option maxRecDepth 100000 in
set_option maxHeartbeats 1600000 in
theorem refSound_any {r : RZ} (K V C : SlB) (hK : K.2.1 = r.op.key.length) (hV : V.2.1 = r.op.val.length) (hC : C.2.1 = r.copy.length) (w : World) :
    Calls Try.prog 17 #[recV r K V C] w fun e w' => e = .returned (.bool (decide (SoundR r))) ∧ Below w.heap.size w w' := by
  rw [← refSoundB_eq]
  obtain ⟨S, hS⟩ : ∃ S, refSoundB r = S := ⟨_, rfl⟩
  have HS := Lib.hid hS
  rw [hS]
  clear hS
  have hb := blk_new w (.cells (recCells r K V C) TRec (0, 0))
  have B1 : Below w.heap.size w (w.alloc (.cells (recCells r K V C) TRec (0, 0))) := (Below.refl _ _).alloc (Nat.le_refl _) _
  have RI := Lib.hid (fun W => refRight_any r.op K V hK hV W)
  have WR := Lib.hid (fun W => refWrites_any r.op K V W)
  unfold opCells at RI WR
  unfold recV recCells at *
  rw [hK, hV] at hb B1 RI WR ⊢
  rw [hC] at hb B1 ⊢
  generalize hn1 : r.op.key.length = n1 at *
  generalize hn2 : r.op.val.length = n2 at *
  generalize hn3 : r.copy.length = n3 at *
  generalize hW1 : w.alloc _ = w1 at hb B1
  have HW1 := Lib.hid hW1
  have HB := Lib.hid hb
  have HB1 := Lib.hid B1
  have HN := Lib.hid (show r.op.key.length = n1 ∧ r.op.val.length = n2 ∧ r.copy.length = n3 from ⟨hn1, hn2, hn3⟩)
  clear hW1 hb B1 hK hV hC hn1 hn2 hn3
  have e0 : w1.cell? ⟨w.heap.size, 0, none⟩ = some (.int .i64 r.kind) := cell_blk HB.out 0 rfl
  have e1 : w1.cell? ⟨w.heap.size, 1, none⟩ = some (.int .i64 r.shard) := cell_blk HB.out 1 rfl
  have e2 : w1.cell? ⟨w.heap.size, 2, none⟩ = some (.int .i64 r.epoch) := cell_blk HB.out 2 rfl
  have e3 : w1.cell? ⟨w.heap.size, 3, none⟩ = some (.int .i64 r.peer) := cell_blk HB.out 3 rfl
  have e4 : w1.cell? ⟨w.heap.size, 4, none⟩ = some (.int .i64 r.client) := cell_blk HB.out 4 rfl
  have e5 : w1.cell? ⟨w.heap.size, 5, none⟩ = some (.int .i64 r.seq) := cell_blk HB.out 5 rfl
  have e6 : w1.cell? ⟨w.heap.size, 6, none⟩ = some (.int .i64 r.op.kind) := cell_blk HB.out 6 rfl
  have e7 : w1.cell? ⟨w.heap.size, 7, none⟩ = some (.slice K.1 n1 K.2.2) := cell_blk HB.out 7 rfl
  have e8 : w1.cell? ⟨w.heap.size, 8, none⟩ = some (.slice V.1 n2 V.2.2) := cell_blk HB.out 8 rfl
  have e9 : w1.cell? ⟨w.heap.size, 9, none⟩ = some (.int .i64 r.op.rev) := cell_blk HB.out 9 rfl
  have e10 : w1.cell? ⟨w.heap.size, 10, none⟩ = some (.slice C.1 n3 C.2.2) := cell_blk HB.out 10 rfl
  go_enter Try.func17, Try.ntmps17
  go_upto_region 1 with (fail)
  rw [HW1.out]
  by_cases ht : r.kind < 1 ∨ 8 < r.kind ∨ r.shard < 0 ∨ 64 ≤ r.shard
  · have hS : S = false := by rw [← HS.out]; unfold refSoundB; rw [if_pos ht]
    subst hS
    obtain ⟨t1, h1⟩ := named (decide (r.kind < 1))
    obtain ⟨t2, h2⟩ := named (decide (8 < r.kind))
    obtain ⟨t3, h3⟩ := named (decide (r.shard < 0))
    obtain ⟨t4, h4⟩ := named (decide (64 ≤ r.shard))
    have HT := Lib.hid (show (t1 || (t2 || (t3 || t4))) = true by rw [← h1, ← h2, ← h3, ← h4]; simpa using ht)
    clear ht
    go_wp2_with (fail)
    all_goals first
      | (go_ret; exact ⟨rfl, HB1.out⟩)
      | (exfalso
         have hh := HT.out
         simp only [Bool.or_eq_true] at hh
         rcases hh with hh | hh | hh | hh <;> first | exact absurd hh (by assumption) | (rw [(by assumption : t4 = false)] at hh; cases hh))
  · obtain ⟨v1, hv1⟩ := named (r.kind == 1)
    obtain ⟨v4, hv4⟩ := named (r.kind == 4)
    obtain ⟨v2, hv2⟩ := named (r.kind == 2)
    obtain ⟨br, hbr⟩ := named (decide (RightO r.op))
    obtain ⟨bw, hbw⟩ := named (writesB r.op.kind)
    obtain ⟨b1, hb1⟩ := named (betB v1 r.client 0 15)
    obtain ⟨b2, hb2⟩ := named (betB v1 r.seq 1 1073741824)
    obtain ⟨b3, hb3⟩ := named (betB (v4 || v2) r.peer 0 7)
    obtain ⟨b4, hb4⟩ := named (betB v4 r.epoch 1 1073741824)
    have hS : S = ((b1 && (b2 && (b3 && b4))) && (if v1 = true then (br && bw) && decide (n3 = 0) else
        decide (r.op.kind = 0 ∧ n1 = 0 ∧ n2 = 0 ∧ r.op.rev = 0) && ((v4 && decide (n3 ≤ 262144)) || decide (n3 = 0)))) := by
      rw [← HS.out, ← HN.out.1, ← HN.out.2.1, ← HN.out.2.2, ← hb1, ← hb2, ← hb3, ← hb4, ← hbr, ← hbw, ← hv1, ← hv2, ← hv4]; unfold refSoundB; rw [if_neg ht]
      by_cases k1 : r.kind = 1
      · simp only [k1, if_pos, beq_self_eq_true]
      · rw [if_neg k1, if_neg (show ¬ (r.kind == 1) = true by simpa using k1)]
    have HSS := Lib.hid hS
    clear hS
    rw [hbr] at RI
    rw [hbw] at WR
    have BT1 := Lib.hid (fun W => refBetween_any v1 r.client 0 15 W)
    have BT2 := Lib.hid (fun W => refBetween_any v1 r.seq 1 1073741824 W)
    have BT3 := Lib.hid (fun W => refBetween_any (v4 || v2) r.peer 0 7 W)
    have BT4 := Lib.hid (fun W => refBetween_any v4 r.epoch 1 1073741824 W)
    rw [hb1] at BT1
    rw [hb2] at BT2
    rw [hb3] at BT3
    rw [hb4] at BT4
    clear hb1 hb2 hb3 hb4 hbr hbw
    have q1 : ¬ r.kind < 1 := by omega
    have q2 : ¬ 8 < r.kind := by omega
    have q3 : ¬ r.shard < 0 := by omega
    have q4 : ¬ 64 ≤ r.shard := by omega
    have q2' : r.kind ≤ 8 := by omega
    have q1' : 1 ≤ r.kind := by omega
    have q3' : 0 ≤ r.shard := by omega
    have q4' : r.shard < 64 := by omega
    clear ht
    go_wp2_with (fail)
    refine start_ (n := 8) (S := fun w' => w'.cell? ⟨w.heap.size, 0, none⟩ = some (.int .i64 r.kind)) (ds := []) #[false, false, false, false, false, false, false, false] (by kernel_rfl) rfl rfl e0 (fun hHeld => ?_)
    (refine take_ (i := 0) (N := some 24) (v := ?v_2) (a' := ?a_2) #[true, false, false, false, false, false, false, false] rfl rfl (by kernel_rfl) (fun _ _ _ h => h) (Or.inl ⟨by rfl, ?hy_2⟩) hHeld ?ha_2 ?hh_2; (case hy_2 => (rintro w' s0_; go_simp; with_reducible rfl)); (case ha_2 => (simp (disch := omega) only [Act.put, List.setIfInBounds_toArray, List.set_cons_zero, List.set_cons_succ, wrap_in]; rfl)))
    (refine take_ (i := 1) (N := some 25) (v := ?v_3) (a' := ?a_3) #[true, true, false, false, false, false, false, false] rfl rfl (by kernel_rfl) (fun _ _ _ h => h) (Or.inl ⟨by rfl, ?hy_3⟩) hHeld ?ha_3 ?hh_3; (case hy_3 => (rintro w' s0_; go_simp; with_reducible rfl)); (case ha_3 => (simp (disch := omega) only [Act.put, List.setIfInBounds_toArray, List.set_cons_zero, List.set_cons_succ, wrap_in]; rfl)))
    (refine take_ (i := 2) (N := some 26) (v := ?v_4) (a' := ?a_4) #[true, true, true, false, false, false, false, false] rfl rfl (by kernel_rfl) (fun _ _ _ h => h) (Or.inl ⟨by rfl, ?hy_4⟩) hHeld ?ha_4 ?hh_4; (case hy_4 => (rintro w' s0_; go_simp; with_reducible rfl)); (case ha_4 => (simp (disch := omega) only [Act.put, List.setIfInBounds_toArray, List.set_cons_zero, List.set_cons_succ, wrap_in]; rfl)))
    (refine take_ (i := 3) (N := some 27) (v := ?v_5) (a' := ?a_5) #[true, true, true, true, false, false, false, false] rfl rfl (by kernel_rfl) (fun _ _ _ h => h) (Or.inl ⟨by rfl, ?hy_5⟩) hHeld ?ha_5 ?hh_5; (case hy_5 => (rintro w' s0_; go_simp; with_reducible rfl)); (case ha_5 => (simp (disch := omega) only [Act.put, List.setIfInBounds_toArray, List.set_cons_zero, List.set_cons_succ, wrap_in]; rfl)))
    (refine take_ (i := 4) (N := some 28) (v := ?v_6) (a' := ?a_6) #[true, true, true, true, true, false, false, false] rfl rfl (by kernel_rfl) (fun _ _ _ h => h) (Or.inl ⟨by rfl, ?hy_6⟩) hHeld ?ha_6 ?hh_6; (case hy_6 => (rintro w' s0_; go_simp; with_reducible rfl)); (case ha_6 => (simp (disch := omega) only [Act.put, List.setIfInBounds_toArray, List.set_cons_zero, List.set_cons_succ, wrap_in]; rfl)))
    (refine take_ (i := 5) (N := some 29) (v := ?v_7) (a' := ?a_7) #[true, true, true, true, true, true, false, false] rfl rfl (by kernel_rfl) (fun _ _ _ h => h) (Or.inl ⟨by rfl, ?hy_7⟩) hHeld ?ha_7 ?hh_7; (case hy_7 => (rintro w' s0_; go_simp; with_reducible rfl)); (case ha_7 => (simp (disch := omega) only [Act.put, List.setIfInBounds_toArray, List.set_cons_zero, List.set_cons_succ, wrap_in]; rfl)))
    (refine take_ (i := 6) (N := some 3) (v := ?v_8) (a' := ?a_8) #[true, true, true, true, true, true, true, false] rfl rfl (by kernel_rfl) (fun _ _ _ h => h) (Or.inl ⟨by rfl, ?hy_8⟩) hHeld ?ha_8 ?hh_8; (case hy_8 => (rintro w' s0_; go_simp; with_reducible rfl)); (case ha_8 => (simp (disch := omega) only [Act.put, List.setIfInBounds_toArray, List.set_cons_zero, List.set_cons_succ, wrap_in]; rfl)))
    (refine take_ (i := 7) (N := some 4) (v := ?v_9) (a' := ?a_9) #[true, true, true, true, true, true, true, true] rfl rfl (by kernel_rfl) (fun _ _ _ h => h) (Or.inl ⟨by rfl, ?hy_9⟩) hHeld ?ha_9 ?hh_9; (case hy_9 => (rintro w' s0_; go_simp; with_reducible rfl)); (case ha_9 => (simp (disch := omega) only [Act.put, List.setIfInBounds_toArray, List.set_cons_zero, List.set_cons_succ, wrap_in]; rfl)))
    refine done_ (by kernel_rfl) ?_
    clear q1 q2 q3 q4 q1' q2' q3' q4' e0 e1 e2 e3 e4 e5 e6 e7 e8 e9 e10
    have HBB := Lib.hid HB1.out.drew
    have HBC := Lib.hid (show w1.drew.heap[w.heap.size]? = _ from HB.out)
    generalize w1.drew = w2 at *
    have e0 : w2.cell? ⟨w.heap.size, 0, none⟩ = some (.int .i64 r.kind) := cell_blk HBC.out 0 rfl
    have e1 : w2.cell? ⟨w.heap.size, 1, none⟩ = some (.int .i64 r.shard) := cell_blk HBC.out 1 rfl
    have e2 : w2.cell? ⟨w.heap.size, 2, none⟩ = some (.int .i64 r.epoch) := cell_blk HBC.out 2 rfl
    have e3 : w2.cell? ⟨w.heap.size, 3, none⟩ = some (.int .i64 r.peer) := cell_blk HBC.out 3 rfl
    have e4 : w2.cell? ⟨w.heap.size, 4, none⟩ = some (.int .i64 r.client) := cell_blk HBC.out 4 rfl
    have e5 : w2.cell? ⟨w.heap.size, 5, none⟩ = some (.int .i64 r.seq) := cell_blk HBC.out 5 rfl
    have e6 : w2.cell? ⟨w.heap.size, 6, none⟩ = some (.int .i64 r.op.kind) := cell_blk HBC.out 6 rfl
    have e7 : w2.cell? ⟨w.heap.size, 7, none⟩ = some (.slice K.1 n1 K.2.2) := cell_blk HBC.out 7 rfl
    have e8 : w2.cell? ⟨w.heap.size, 8, none⟩ = some (.slice V.1 n2 V.2.2) := cell_blk HBC.out 8 rfl
    have e9 : w2.cell? ⟨w.heap.size, 9, none⟩ = some (.int .i64 r.op.rev) := cell_blk HBC.out 9 rfl
    have e10 : w2.cell? ⟨w.heap.size, 10, none⟩ = some (.slice C.1 n3 C.2.2) := cell_blk HBC.out 10 rfl
    cases v1
    · clear hv1
      cases v4
      · clear hv4
        cases v2
        · rw [show (false || false) = false from rfl] at BT3
          have hv2' : ¬ r.kind = 2 := by simpa using hv2
          go_wp2_with (fail)
          refine (BT1.out w2).mono ?_
          rintro e w_ ⟨rfl, rfl⟩
          cases b1
          ·
            go_wp2_with (fail)
            go_ret
            exact ⟨by rw [HSS.out]; simp, HBB.out⟩
          go_wp2_with (fail)
          refine (BT2.out w2).mono ?_
          rintro e w_ ⟨rfl, rfl⟩
          cases b2
          ·
            go_wp2_with (fail)
            go_ret
            exact ⟨by rw [HSS.out]; simp, HBB.out⟩
          go_wp2_with (fail)
          refine (BT3.out w2).mono ?_
          rintro e w_ ⟨rfl, rfl⟩
          cases b3
          ·
            go_wp2_with (fail)
            go_ret
            exact ⟨by rw [HSS.out]; simp, HBB.out⟩
          go_wp2_with (fail)
          refine (BT4.out w2).mono ?_
          rintro e w_ ⟨rfl, rfl⟩
          cases b4
          ·
            go_wp2_with (fail)
            go_ret
            exact ⟨by rw [HSS.out]; simp, HBB.out⟩
          have HS2 := Lib.hid (show S = (decide (r.op.kind = 0 ∧ n1 = 0 ∧ n2 = 0 ∧ r.op.rev = 0) && ((false && decide (n3 ≤ 262144)) || decide (n3 = 0))) by rw [HSS.out]; simp)
          go_wp2_with (fail)
          all_goals
            go_ret
            refine ⟨?_, HBB.out⟩
            show Ending.returned (.bool _) = _
            rw [HS2.out]
            first
              | (congr 2; rw [Bool.eq_iff_iff]; simp [*]; done)
              | (congr 2; rw [Bool.eq_iff_iff]; simp [*]; omega)
        · rw [show (false || true) = true from rfl] at BT3
          have hv2' : r.kind = 2 := by simpa using hv2
          go_wp2_with (fail)
          refine (BT1.out w2).mono ?_
          rintro e w_ ⟨rfl, rfl⟩
          cases b1
          ·
            go_wp2_with (fail)
            go_ret
            exact ⟨by rw [HSS.out]; simp, HBB.out⟩
          go_wp2_with (fail)
          refine (BT2.out w2).mono ?_
          rintro e w_ ⟨rfl, rfl⟩
          cases b2
          ·
            go_wp2_with (fail)
            go_ret
            exact ⟨by rw [HSS.out]; simp, HBB.out⟩
          go_wp2_with (fail)
          refine (BT3.out w2).mono ?_
          rintro e w_ ⟨rfl, rfl⟩
          cases b3
          ·
            go_wp2_with (fail)
            go_ret
            exact ⟨by rw [HSS.out]; simp, HBB.out⟩
          go_wp2_with (fail)
          refine (BT4.out w2).mono ?_
          rintro e w_ ⟨rfl, rfl⟩
          cases b4
          ·
            go_wp2_with (fail)
            go_ret
            exact ⟨by rw [HSS.out]; simp, HBB.out⟩
          have HS2 := Lib.hid (show S = (decide (r.op.kind = 0 ∧ n1 = 0 ∧ n2 = 0 ∧ r.op.rev = 0) && ((false && decide (n3 ≤ 262144)) || decide (n3 = 0))) by rw [HSS.out]; simp)
          go_wp2_with (fail)
          all_goals
            go_ret
            refine ⟨?_, HBB.out⟩
            show Ending.returned (.bool _) = _
            rw [HS2.out]
            first
              | (congr 2; rw [Bool.eq_iff_iff]; simp [*]; done)
              | (congr 2; rw [Bool.eq_iff_iff]; simp [*]; omega)
      · clear hv4 hv2
        rw [show (true || v2) = true from rfl] at BT3
        go_wp2_with (fail)
        refine (BT1.out w2).mono ?_
        rintro e w_ ⟨rfl, rfl⟩
        cases b1
        ·
          go_wp2_with (fail)
          go_ret
          exact ⟨by rw [HSS.out]; simp, HBB.out⟩
        go_wp2_with (fail)
        refine (BT2.out w2).mono ?_
        rintro e w_ ⟨rfl, rfl⟩
        cases b2
        ·
          go_wp2_with (fail)
          go_ret
          exact ⟨by rw [HSS.out]; simp, HBB.out⟩
        go_wp2_with (fail)
        refine (BT3.out w2).mono ?_
        rintro e w_ ⟨rfl, rfl⟩
        cases b3
        ·
          go_wp2_with (fail)
          go_ret
          exact ⟨by rw [HSS.out]; simp, HBB.out⟩
        go_wp2_with (fail)
        refine (BT4.out w2).mono ?_
        rintro e w_ ⟨rfl, rfl⟩
        cases b4
        ·
          go_wp2_with (fail)
          go_ret
          exact ⟨by rw [HSS.out]; simp, HBB.out⟩
        have HS2 := Lib.hid (show S = (decide (r.op.kind = 0 ∧ n1 = 0 ∧ n2 = 0 ∧ r.op.rev = 0) && ((true && decide (n3 ≤ 262144)) || decide (n3 = 0))) by rw [HSS.out]; simp)
        go_wp2_with (fail)
        all_goals
          go_ret
          refine ⟨?_, HBB.out⟩
          show Ending.returned (.bool _) = _
          rw [HS2.out]
          first
            | (congr 2; rw [Bool.eq_iff_iff]; simp [*]; done)
            | (congr 2; rw [Bool.eq_iff_iff]; simp [*]; omega)
    · have k1 : r.kind = 1 := by simpa using hv1
      obtain rfl : v4 = false := by rw [← hv4, k1]; rfl
      obtain rfl : v2 = false := by rw [← hv2, k1]; rfl
      rw [show (false || false) = false from rfl] at BT3
      have hv2' : ¬ r.kind = 2 := by simpa using hv2
      clear hv1 hv4
      go_wp2_with (fail)
      refine (BT1.out w2).mono ?_
      rintro e w_ ⟨rfl, rfl⟩
      cases b1
      ·
        go_wp2_with (fail)
        go_ret
        exact ⟨by rw [HSS.out]; simp, HBB.out⟩
      go_wp2_with (fail)
      refine (BT2.out w2).mono ?_
      rintro e w_ ⟨rfl, rfl⟩
      cases b2
      ·
        go_wp2_with (fail)
        go_ret
        exact ⟨by rw [HSS.out]; simp, HBB.out⟩
      go_wp2_with (fail)
      refine (BT3.out w2).mono ?_
      rintro e w_ ⟨rfl, rfl⟩
      cases b3
      ·
        go_wp2_with (fail)
        go_ret
        exact ⟨by rw [HSS.out]; simp, HBB.out⟩
      go_wp2_with (fail)
      refine (BT4.out w2).mono ?_
      rintro e w_ ⟨rfl, rfl⟩
      cases b4
      ·
        go_wp2_with (fail)
        go_ret
        exact ⟨by rw [HSS.out]; simp, HBB.out⟩
      have HS2 := Lib.hid (show S = ((br && bw) && decide (n3 = 0)) by rw [HSS.out]; simp)
      go_wp2_with (fail)
      refine (RI.out w2).mono ?_
      rintro e w3 ⟨rfl, hb3⟩
      have HB3 := Lib.hid (HBB.out.trans (hb3.mono HBB.out.size))
      have HR3 := Lib.hid (blk_below HBC.out hb3)
      clear hb3
      cases br
      · go_wp2_with (fail)
        go_ret
        exact ⟨by rw [HS2.out]; simp, HB3.out⟩
      · clear e0 e1 e2 e3 e4 e5 e6 e7 e8 e9 e10
        have e0 : w3.cell? ⟨w.heap.size, 0, none⟩ = some (.int .i64 r.kind) := cell_blk HR3.out 0 rfl
        have e1 : w3.cell? ⟨w.heap.size, 1, none⟩ = some (.int .i64 r.shard) := cell_blk HR3.out 1 rfl
        have e2 : w3.cell? ⟨w.heap.size, 2, none⟩ = some (.int .i64 r.epoch) := cell_blk HR3.out 2 rfl
        have e3 : w3.cell? ⟨w.heap.size, 3, none⟩ = some (.int .i64 r.peer) := cell_blk HR3.out 3 rfl
        have e4 : w3.cell? ⟨w.heap.size, 4, none⟩ = some (.int .i64 r.client) := cell_blk HR3.out 4 rfl
        have e5 : w3.cell? ⟨w.heap.size, 5, none⟩ = some (.int .i64 r.seq) := cell_blk HR3.out 5 rfl
        have e6 : w3.cell? ⟨w.heap.size, 6, none⟩ = some (.int .i64 r.op.kind) := cell_blk HR3.out 6 rfl
        have e7 : w3.cell? ⟨w.heap.size, 7, none⟩ = some (.slice K.1 n1 K.2.2) := cell_blk HR3.out 7 rfl
        have e8 : w3.cell? ⟨w.heap.size, 8, none⟩ = some (.slice V.1 n2 V.2.2) := cell_blk HR3.out 8 rfl
        have e9 : w3.cell? ⟨w.heap.size, 9, none⟩ = some (.int .i64 r.op.rev) := cell_blk HR3.out 9 rfl
        have e10 : w3.cell? ⟨w.heap.size, 10, none⟩ = some (.slice C.1 n3 C.2.2) := cell_blk HR3.out 10 rfl
        go_wp2_with (fail)
        refine (WR.out w3).mono ?_
        rintro e w4 ⟨rfl, hb4⟩
        have HB4 := Lib.hid (HB3.out.trans (hb4.mono HB3.out.size))
        have HR4 := Lib.hid (blk_below HR3.out hb4)
        clear hb4
        cases bw
        · go_wp2_with (fail)
          go_ret
          exact ⟨by rw [HS2.out]; simp, HB4.out⟩
        · clear e0 e1 e2 e3 e4 e5 e6 e7 e8 e9 e10
          have e0 : w4.cell? ⟨w.heap.size, 0, none⟩ = some (.int .i64 r.kind) := cell_blk HR4.out 0 rfl
          have e1 : w4.cell? ⟨w.heap.size, 1, none⟩ = some (.int .i64 r.shard) := cell_blk HR4.out 1 rfl
          have e2 : w4.cell? ⟨w.heap.size, 2, none⟩ = some (.int .i64 r.epoch) := cell_blk HR4.out 2 rfl
          have e3 : w4.cell? ⟨w.heap.size, 3, none⟩ = some (.int .i64 r.peer) := cell_blk HR4.out 3 rfl
          have e4 : w4.cell? ⟨w.heap.size, 4, none⟩ = some (.int .i64 r.client) := cell_blk HR4.out 4 rfl
          have e5 : w4.cell? ⟨w.heap.size, 5, none⟩ = some (.int .i64 r.seq) := cell_blk HR4.out 5 rfl
          have e6 : w4.cell? ⟨w.heap.size, 6, none⟩ = some (.int .i64 r.op.kind) := cell_blk HR4.out 6 rfl
          have e7 : w4.cell? ⟨w.heap.size, 7, none⟩ = some (.slice K.1 n1 K.2.2) := cell_blk HR4.out 7 rfl
          have e8 : w4.cell? ⟨w.heap.size, 8, none⟩ = some (.slice V.1 n2 V.2.2) := cell_blk HR4.out 8 rfl
          have e9 : w4.cell? ⟨w.heap.size, 9, none⟩ = some (.int .i64 r.op.rev) := cell_blk HR4.out 9 rfl
          have e10 : w4.cell? ⟨w.heap.size, 10, none⟩ = some (.slice C.1 n3 C.2.2) := cell_blk HR4.out 10 rfl
          go_wp2_with (fail)
          all_goals
            go_ret
            refine ⟨?_, HB4.out⟩
            show Ending.returned (.bool _) = _
            rw [HS2.out]
            congr 2
            try rw [Bool.eq_iff_iff]
            try simp [*]
          all_goals try omega
end Go.Proofs.Ytjmmdpnphafdfaa
