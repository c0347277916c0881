/- Writers: Open. -/
import Derived.Test.YtibelfljlhcibaaPW2
namespace Go.Proofs.Ytibelfljlhcibaa
set_option linter.unusedVariables false
set_option linter.unusedSimpArgs false
open Go.RowKit Go.Deep Go.Proofs.YtibelfljlhcibaaW.PrintLast
section
variable {w : World} {F : Nat → Prop} {k : Nat} {s : WS}
set_option maxRecDepth 100000 in
set_option maxHeartbeats 2000000 in
theorem wOpen_any (h : WLies TW w F k s) (hd : s.op.length ≤ 16) :
    Calls Try.prog 46 #[.pointer (some ⟨k, 0, none⟩)] w fun e w' => e = .returned (.tuple #[]) ∧ UpdW TW F k w w' s.open_ := by
  have WH := Lib.hid (whole_any h)
  have H := Lib.hid h
  have hk := h.in_
  obtain ⟨A, c, OA, oc, h1, h2, h3, h4⟩ := h
  obtain ⟨room, bs, op, ft⟩ := s
  simp only at hd h1 h3 h4 WH
  have e1 : w.cell? ⟨k, 1, none⟩ = some (.slice A bs.length c) := cell_blk h1 1 rfl
  have e2 : w.cell? ⟨k, 2, none⟩ = some (.slice OA op.length oc) := cell_blk h1 2 rfl
  have e3 : w.cell? ⟨k, 3, none⟩ = some (.int .i64 ft) := cell_blk h1 3 rfl
  have f3 := free_blk h1 3
  have hkl := blk_lt h1
  obtain ⟨A', c', w2, hrun, R2, F2, K2⟩ := RowF.append (ys := [bs.length]) elPos (((h4.keeps (KeepT.drew _ w)).keeps (KeepT.alloc _ w.drew (.cells #[.int .i64 (bs.length : Int)] 3)))) 58 (some ⟨w.drew.heap.size, 0, none⟩) 1
    (fun _ => ⟨w.drew.heap.size, 0, rfl, fun i y hy j v hv => by
      have hi : i = 0 := by rcases i with _ | i; rfl; simp at hy
      subst hi
      simp at hy; subst hy
      have hj : j = 0 := by rcases j with _ | j; rfl; simp [encPos] at hv
      subst hj
      simp [encPos] at hv; subst hv
      exact cell_blk (blk_new w.drew _) 0 rfl⟩) (by simp only [maxLen, List.length_singleton]; omega) (by simp only [List.length_singleton]; omega)
  have hk2 := K2 93 (by decide) _ _ (blk_alloc (show w.drew.heap[k]? = _ from h1) (.cells #[.int .i64 (bs.length : Int)] 3))
  have x1 : w2.cell? ⟨k, 1, none⟩ = some (.slice A bs.length c) := cell_blk hk2 1 rfl
  have x2 : w2.cell? ⟨k, 2, none⟩ = some (.slice OA op.length oc) := cell_blk hk2 2 rfl
  have f2 := free_blk hk2 2
  have HRUN := Lib.hid hrun
  have HK2 := Lib.hid hk2
  have HR2 := Lib.hid R2
  have HF2 := Lib.hid F2
  have HKT := Lib.hid K2
  have H3 := Lib.hid h3
  have HX := Lib.hid (And.intro x1 x2)
  clear hrun hk2 R2 F2 K2 h1 h2 h3 h4 x1 x2
  obtain ⟨t0, ht0⟩ := named (ft == 0)
  rw [ht0] at WH
  obtain ⟨t1, ht1⟩ := named ((op.length : Int) == 16)
  go_enter Try.func46, Try.ntmps46
  cases t0
  · have hf : ¬ ft = 0 := by simpa using ht0
    have HFT := Lib.hid hf
    clear hf ht0
    go_wp2_with (go_at_call 64; refine WH.out.mono ?_; rintro e w_ ⟨rfl, rfl⟩)
    go_end0
    refine ⟨rfl, ?_⟩
    unfold WS.open_
    rw [if_neg HFT.out]
    exact UpdW.refl H.out
  · have hf : ft = 0 := by simpa using ht0
    subst hf
    cases t1
    · have hl : ¬ op.length = 16 := by intro h; rw [h] at ht1; simp at ht1
      have HL := Lib.hid hl
      clear hl hd
      go_wp2_with (go_at_call 64; refine WH.out.mono ?_; rintro e w_ ⟨rfl, rfl⟩)
      refine start_ (n := 15) (S := fun w' => w'.cell? ⟨k, 1, none⟩ = some (.slice A bs.length c) ∧ w'.cell? ⟨k, 2, none⟩ = some (.slice OA op.length oc)) (ds := [14]) #[false, false, false, false, false, false, false, false, false, false, false, false, false, false, false] (by kernel_rfl) rfl rfl ⟨e1, e2⟩ (fun hHeld => ?_)
      (refine take_ (i := 0) (N := some 2) (v := ?v_12) (a' := ?a_12) #[true, false, false, false, false, false, false, false, false, false, false, false, false, false, false] rfl rfl (by kernel_rfl) (fun _ _ _ h => h) (Or.inl ⟨by rfl, ?hy_12⟩) hHeld ?ha_12 ?hh_12; (case hy_12 => (rintro w' ⟨s0_, s1_⟩; go_simp; with_reducible rfl)); (case ha_12 => (simp (disch := omega) only [Act.put, List.setIfInBounds_toArray, List.set_cons_zero, List.set_cons_succ, wrap_in]; rfl)))
      (refine take_ (i := 1) (N := some 3) (v := ?v_13) (a' := ?a_13) #[true, true, false, false, false, false, false, false, false, false, false, false, false, false, false] rfl rfl (by kernel_rfl) (fun _ _ _ h => h) (Or.inl ⟨by rfl, ?hy_13⟩) hHeld ?ha_13 ?hh_13; (case hy_13 => (rintro w' ⟨s0_, s1_⟩; go_simp; with_reducible rfl)); (case ha_13 => (simp (disch := omega) only [Act.put, List.setIfInBounds_toArray, List.set_cons_zero, List.set_cons_succ, wrap_in]; rfl)))
      (refine take_ (i := 2) (N := some 4) (v := ?v_14) (a' := ?a_14) #[true, true, true, false, false, false, false, false, false, false, false, false, false, false, false] rfl rfl (by kernel_rfl) (fun _ _ _ h => h) (Or.inl ⟨by rfl, ?hy_14⟩) hHeld ?ha_14 ?hh_14; (case hy_14 => (rintro w' ⟨s0_, s1_⟩; go_simp; with_reducible rfl)); (case ha_14 => (simp (disch := omega) only [Act.put, List.setIfInBounds_toArray, List.set_cons_zero, List.set_cons_succ, wrap_in]; rfl)))
      (refine take_ (i := 3) (N := some 5) (v := ?v_15) (a' := ?a_15) #[true, true, true, true, false, false, false, false, false, false, false, false, false, false, false] rfl rfl (by kernel_rfl) (fun _ _ _ h => h) (Or.inl ⟨by rfl, ?hy_15⟩) hHeld ?ha_15 ?hh_15; (case hy_15 => (rintro w' ⟨s0_, s1_⟩; go_simp; with_reducible rfl)); (case ha_15 => (simp (disch := omega) only [Act.put, List.setIfInBounds_toArray, List.set_cons_zero, List.set_cons_succ, wrap_in]; rfl)))
      (refine take_ (i := 4) (N := some 6) (v := ?v_16) (a' := ?a_16) #[true, true, true, true, true, false, false, false, false, false, false, false, false, false, false] rfl rfl (by kernel_rfl) (fun _ _ _ h => h) (Or.inl ⟨by rfl, ?hy_16⟩) hHeld ?ha_16 ?hh_16; (case hy_16 => (rintro w' ⟨s0_, s1_⟩; go_simp; with_reducible rfl)); (case ha_16 => (simp (disch := omega) only [Act.put, List.setIfInBounds_toArray, List.set_cons_zero, List.set_cons_succ, wrap_in]; rfl)))
      (refine take_ (i := 5) (N := some 7) (v := ?v_17) (a' := ?a_17) #[true, true, true, true, true, true, false, false, false, false, false, false, false, false, false] rfl rfl (by kernel_rfl) (fun _ _ _ h => h) (Or.inl ⟨by rfl, ?hy_17⟩) hHeld ?ha_17 ?hh_17; (case hy_17 => (rintro w' ⟨s0_, s1_⟩; go_simp; with_reducible rfl)); (case ha_17 => (simp (disch := omega) only [Act.put, List.setIfInBounds_toArray, List.set_cons_zero, List.set_cons_succ, wrap_in]; rfl)))
      (refine take_ (i := 6) (N := some 8) (v := ?v_18) (a' := ?a_18) #[true, true, true, true, true, true, true, false, false, false, false, false, false, false, false] rfl rfl (by kernel_rfl) (fun _ _ _ h => h) (Or.inl ⟨by rfl, ?hy_18⟩) hHeld ?ha_18 ?hh_18; (case hy_18 => (rintro w' ⟨s0_, s1_⟩; go_simp; with_reducible rfl)); (case ha_18 => (simp (disch := omega) only [Act.put, List.setIfInBounds_toArray, List.set_cons_zero, List.set_cons_succ, wrap_in]; rfl)))
      (refine take_ (i := 7) (N := some 9) (v := ?v_19) (a' := ?a_19) #[true, true, true, true, true, true, true, true, false, false, false, false, false, false, false] rfl rfl (by kernel_rfl) (fun _ _ _ h => h) (Or.inl ⟨by rfl, ?hy_19⟩) hHeld ?ha_19 ?hh_19; (case hy_19 => (rintro w' ⟨s0_, s1_⟩; go_simp; with_reducible rfl)); (case ha_19 => (simp (disch := omega) only [Act.put, List.setIfInBounds_toArray, List.set_cons_zero, List.set_cons_succ, wrap_in]; rfl)))
      (refine take_ (i := 8) (N := some 10) (v := ?v_20) (a' := ?a_20) #[true, true, true, true, true, true, true, true, true, false, false, false, false, false, false] rfl rfl (by kernel_rfl) (fun _ _ _ h => h) (Or.inl ⟨by rfl, ?hy_20⟩) hHeld ?ha_20 ?hh_20; (case hy_20 => (rintro w' ⟨s0_, s1_⟩; go_simp; with_reducible rfl)); (case ha_20 => (simp (disch := omega) only [Act.put, List.setIfInBounds_toArray, List.set_cons_zero, List.set_cons_succ, wrap_in]; rfl)))
      (refine take_ (i := 9) (N := some 11) (v := ?v_21) (a' := ?a_21) #[true, true, true, true, true, true, true, true, true, true, false, false, false, false, false] rfl rfl (by kernel_rfl) (fun _ _ _ h => h) (Or.inl ⟨by rfl, ?hy_21⟩) hHeld ?ha_21 ?hh_21; (case hy_21 => (rintro w' ⟨s0_, s1_⟩; go_simp; with_reducible rfl)); (case ha_21 => (simp (disch := omega) only [Act.put, List.setIfInBounds_toArray, List.set_cons_zero, List.set_cons_succ, wrap_in]; rfl)))
      refine one_ (i := 10) (N := some 12) #[true, true, true, true, true, true, true, true, true, true, true, false, false, false, false] rfl rfl (by kernel_rfl) (by decide) (fun K hK => ?_)
      (refine value_ (v := ?v_1) (w1 := ?w1_1) (by rfl) rfl ?hr_1 ?hk_1; (case hr_1 => (go_simp; first | with_reducible rfl | (constructor <;> with_reducible rfl))))
      (refine hK.out _ _ ?hs_2 ?hn_2; (case hs_2 => (obtain ⟨s0_, s1_⟩ := hHeld; exact ⟨cell_alloc_old s0_ _, cell_alloc_old s1_ _⟩)); intro hHeld; clear hK K)
      (refine norm_ (a' := ?a_3) ?ha_3 ?hh_3; (case ha_3 => (simp (disch := omega) only [Act.put, List.setIfInBounds_toArray, List.set_cons_zero, List.set_cons_succ, wrap_in]; rfl)))
      refine one_ (i := 11) (N := some 13) #[true, true, true, true, true, true, true, true, true, true, true, true, false, false, false] rfl rfl (by kernel_rfl) (by decide) (fun K hK => ?_)
      (have hrun := HRUN.out; refine value_ (by rfl) rfl (runapp_ hrun (by rfl) (by rfl) (by rfl) (by rfl)) ?hk_4)
      (refine hK.out _ _ ?hs_5 ?hn_5; (case hs_5 => (exact HX.out)); intro hHeld; clear hK K)
      (refine norm_ (a' := ?a_6) ?ha_6 ?hh_6; (case ha_6 => (simp (disch := omega) only [Act.put, List.setIfInBounds_toArray, List.set_cons_zero, List.set_cons_succ, wrap_in]; rfl)))
      (refine take_ (i := 12) (N := some 14) (v := ?v_7) (a' := ?a_7) #[true, true, true, true, true, true, true, true, true, true, true, true, true, false, false] rfl rfl (by kernel_rfl) (fun _ _ _ h => h) (Or.inl ⟨by rfl, ?hy_7⟩) hHeld ?ha_7 ?hh_7; (case hy_7 => (rintro w' ⟨s0_, s1_⟩; go_simp; with_reducible rfl)); (case ha_7 => (simp (disch := omega) only [Act.put, List.setIfInBounds_toArray, List.set_cons_zero, List.set_cons_succ, wrap_in]; rfl)))
      (refine take_ (i := 13) (N := some 15) (v := ?v_8) (a' := ?a_8) #[true, true, true, true, true, true, true, true, true, true, true, true, true, true, false] rfl rfl (by kernel_rfl) (fun _ _ _ h => h) (Or.inl ⟨by rfl, ?hy_8⟩) hHeld ?ha_8 ?hh_8; (case hy_8 => (rintro w' ⟨s0_, s1_⟩; go_simp; with_reducible rfl)); (case ha_8 => (simp (disch := omega) only [Act.put, List.setIfInBounds_toArray, List.set_cons_zero, List.set_cons_succ, wrap_in]; rfl)))
      refine last_ (i := 14) (N := none) #[true, true, true, true, true, true, true, true, true, true, true, true, true, true, true] rfl rfl (by kernel_rfl) (by decide) (fun K hK => ?_)
      (refine skip_ (w1 := ?w1_9) (by rfl) rfl ?hr_9 ?hk_9; (case hr_9 => (go_simp; first | with_reducible rfl | (constructor <;> with_reducible rfl))))
      (refine hK.out _ _ ?hn_10; clear hK K; try clear hHeld)
      refine done_ (by kernel_rfl) ?_
      go_end0
      refine ⟨rfl, ?_⟩
      unfold WS.open_
      rw [if_pos rfl, if_neg HL.out]
      have hS := setCell_heap w2 k 2 (.slice A' (op.length + 1) c') _ _ _ HK2.out
      have K1 : KeepT 5 w2 (w2.setCell ⟨k, 2, none⟩ (.slice A' (op.length + 1) c')) := KeepT.setCell HK2.out (by decide) 2 _
      have K3 : KeepT 3 w2 (w2.setCell ⟨k, 2, none⟩ (.slice A' (op.length + 1) c')) := KeepT.setCell HK2.out (by decide) 2 _
      have hz : w2.heap.size ≤ (w2.setCell ⟨k, 2, none⟩ (.slice A' (op.length + 1) c')).heap.size := by rw [setCell_size]; exact Nat.le_refl _
      have FA : Fr F w w2 := ((Fr.drew F w).trans (Fr.alloc F _ _) fun _ _ h => h).trans HF2.out fun _ _ h => h
      refine ⟨⟨A, c, A', c', by simpa using hS, Or.inl hk, ?_, (HR2.out.keeps K3).mono fun x hx => ?_⟩, FA.trans (Fr.set _ hk _) fun _ _ h => h⟩
      · exact (((((H3.out.keeps (KeepT.drew _ w)).keeps (KeepT.alloc _ _ _)).keeps (HKT.out 5 (by decide)))).keeps K1).mono fun _ h => Or.inl h
      · rcases hx with hx | hx
        · exact Or.inl hx
        · simp at hx
          exact Or.inr ⟨by omega, by rw [setCell_size]; omega⟩
    · have hl : op.length = 16 := by have := of_decide_eq_true (show decide ((op.length : Int) = 16) = true by simpa using ht1); omega
      have HL := Lib.hid hl
      clear hl
      go_wp2_with (go_at_call 64; refine WH.out.mono ?_; rintro e w_ ⟨rfl, rfl⟩)
      go_end0
      refine ⟨rfl, ?_⟩
      unfold WS.open_
      rw [if_pos rfl, if_pos HL.out]
      exact ⟨(H.out.fault tw_ne 11).mono fun _ h => Or.inl h, Fr.set _ hk _⟩
set_option maxHeartbeats 400000 in
theorem wOpen_nil (w : World) : Calls Try.prog 46 #[.pointer none] w fun e w' => e = .returned (.tuple #[]) ∧ w = w' := by
  go_enter Try.func46, Try.ntmps46
  go_wp2_with (go_at_call 64; refine (whole_nil _).mono ?_; rintro e w_ ⟨rfl, rfl⟩)
  go_end0
  exact ⟨rfl, rfl⟩
set_option maxHeartbeats 400000 in
theorem wLen_nil (w : World) : Calls Try.prog 23 #[.pointer none] w fun e w' => e = .returned (.int .i64 0) ∧ w = w' := by
  go_enter Try.func23, Try.ntmps23
  go_wp2_with (go_at_call 64; refine (whole_nil _).mono ?_; rintro e w_ ⟨rfl, rfl⟩)
  go_ret
  exact ⟨rfl, rfl⟩
end
end Go.Proofs.Ytibelfljlhcibaa
