/- Delete, Split, Join. Printed out of one text for each instance (wip/tools/inst.py). -/
import Derived.Test.YtmichnnkkpgpmaaW6i
namespace Go.Proofs.Ytmichnnkkpgpmaa
set_option linter.unusedVariables false
set_option linter.unusedSimpArgs false
open Go.RowKit Go.Deep Go.Proofs.YtmichnnkkpgpmaaW.PrintLast
namespace Ti
def DelP (w : World) (o : Tr × Bool) (e : Ending) (w' : World) : Prop := ∃ p, e = .returned (.tuple #[.pointer p, .bool o.2]) ∧ TreeAt w' p o.1 ∧ Below w.heap.size w w'
set_option maxRecDepth 100000 in
set_option maxHeartbeats 4000000 in
theorem del_any (k : Int) : ∀ (t : Tr) {w : World} {p : Option Addr}, TreeAt w p t → t.size < big → Calls Try.prog 25 #[.pointer p, (.int .i64 k)] w (DelP w (T.del ltZ k t)) := by
  intro t
  induction t with
  | nil =>
    intro w p h hs
    obtain rfl : p = none := h
    go_enter Try.func25, Try.ntmps25
    go_wp2_with (fail)
    go_ret2
    exact ⟨_, rfl, rfl, Below.refl _ _⟩
  | node l k' v' r ihl ihr =>
    intro w p h hs
    simp only [T.size] at hs
    have sl := T.size_del ltZ k l
    have sr := T.size_del ltZ k r
    obtain ⟨tt, htt⟩ : ∃ tt, tt = T.del ltZ k (.node l k' v' r) := ⟨_, rfl⟩
    rw [← htt]
    unfold T.del at htt
    have HH := Lib.hid h
    obtain ⟨b, pl, pr, rfl, hb, hl, hr⟩ := h
    have x0 := cell_blk hb 0 rfl
    have x1 := cell_blk hb 1 rfl
    have x2 := cell_blk hb 2 rfl
    have x3 := cell_blk hb 3 rfl
    have HL := Lib.hid hl
    have HR := Lib.hid hr
    clear hb hl hr
    cases hc1 : ltZ k k' with
    | true =>
      rw [hc1, if_pos rfl] at htt
      have CC := Lib.hid (cmp_lt hc1 w)
      have P1 := Lib.hid (ihl HL.out (by omega))
      have HTT := Lib.hid htt
      clear hc1 ihl ihr htt
      go_enter Try.func25, Try.ntmps25
      go_wp2_with (fail)
      refine CC.out.mono ?_
      rintro e w_ ⟨rfl, rfl⟩
      go_wp2_with (fail)
      refine P1.out.mono ?_
      rintro e w1 ⟨p1, rfl, T1, B1⟩
      have y1 := cell_below B1 x1
      have y2 := cell_below B1 x2
      have y3 := cell_below B1 x3
      have HH1 := Lib.hid (HH.out.below B1)
      cases hd : (T.del ltZ k l).2 with
      | false =>
        have htt := HTT.out
        rw [hd, if_neg (by decide)] at htt
        have HT := Lib.hid htt
        have HB1 := Lib.hid B1
        clear htt T1 B1 P1 hd
        go_wp2_with (fail)
        go_ret2
        exact ⟨_, by rw [HT.out]; rfl, by rw [HT.out]; exact HH1.out, HB1.out⟩
      | true =>
        have htt := HTT.out
        rw [hd, if_pos rfl] at htt
        have HT := Lib.hid htt
        have JJ := Lib.hid (join_any (T.del ltZ k l).1 r k' v' T1.drew (HR.out.below B1).drew (by omega))
        have HB1 := Lib.hid B1
        clear htt T1 B1 P1 hd x0 x1 x2 x3
        go_wp2_with (fail)
        refine start_ (n := 16) (S := fun w' => w'.cell? ⟨b, 1, none⟩ = some (.pointer pr) ∧ w'.cell? ⟨b, 2, none⟩ = some ((.int .i64 k')) ∧ w'.cell? ⟨b, 3, none⟩ = some ((.int .i64 v'))) (ds := []) #[false, false, false, false, false, false, false, false, false, false, false, false, false, false, false, false] (by kernel_rfl) rfl rfl ⟨y1, y2, y3⟩ (fun hHeld => ?_)
        (refine take_ (i := 0) (N := some 34) (v := ?v_2) (a' := ?a_2) #[true, false, false, false, false, false, false, false, false, false, false, false, false, false, false, false] rfl rfl (by kernel_rfl) (fun _ _ _ h => h) (Or.inl ⟨by rfl, ?hy_2⟩) hHeld ?ha_2 ?hh_2; (case hy_2 => (rintro w' ⟨s0_, s1_, s2_⟩; go_simp; with_reducible rfl)); (case ha_2 => (simp (disch := omega) only [Act.put, List.setIfInBounds_toArray, List.set_cons_zero, List.set_cons_succ, wrap_in]; rfl)))
        (refine take_ (i := 1) (N := some 35) (v := ?v_3) (a' := ?a_3) #[true, true, false, false, false, false, false, false, false, false, false, false, false, false, false, false] rfl rfl (by kernel_rfl) (fun _ _ _ h => h) (Or.inl ⟨by rfl, ?hy_3⟩) hHeld ?ha_3 ?hh_3; (case hy_3 => (rintro w' ⟨s0_, s1_, s2_⟩; go_simp; with_reducible rfl)); (case ha_3 => (simp (disch := omega) only [Act.put, List.setIfInBounds_toArray, List.set_cons_zero, List.set_cons_succ, wrap_in]; rfl)))
        (refine take_ (i := 2) (N := some 36) (v := ?v_4) (a' := ?a_4) #[true, true, true, false, false, false, false, false, false, false, false, false, false, false, false, false] rfl rfl (by kernel_rfl) (fun _ _ _ h => h) (Or.inl ⟨by rfl, ?hy_4⟩) hHeld ?ha_4 ?hh_4; (case hy_4 => (rintro w' ⟨s0_, s1_, s2_⟩; go_simp; with_reducible rfl)); (case ha_4 => (simp (disch := omega) only [Act.put, List.setIfInBounds_toArray, List.set_cons_zero, List.set_cons_succ, wrap_in]; rfl)))
        (refine take_ (i := 3) (N := some 37) (v := ?v_5) (a' := ?a_5) #[true, true, true, true, false, false, false, false, false, false, false, false, false, false, false, false] rfl rfl (by kernel_rfl) (fun _ _ _ h => h) (Or.inl ⟨by rfl, ?hy_5⟩) hHeld ?ha_5 ?hh_5; (case hy_5 => (rintro w' ⟨s0_, s1_, s2_⟩; go_simp; with_reducible rfl)); (case ha_5 => (simp (disch := omega) only [Act.put, List.setIfInBounds_toArray, List.set_cons_zero, List.set_cons_succ, wrap_in]; rfl)))
        (refine take_ (i := 4) (N := some 38) (v := ?v_6) (a' := ?a_6) #[true, true, true, true, true, false, false, false, false, false, false, false, false, false, false, false] rfl rfl (by kernel_rfl) (fun _ _ _ h => h) (Or.inl ⟨by rfl, ?hy_6⟩) hHeld ?ha_6 ?hh_6; (case hy_6 => (rintro w' ⟨s0_, s1_, s2_⟩; go_simp; with_reducible rfl)); (case ha_6 => (simp (disch := omega) only [Act.put, List.setIfInBounds_toArray, List.set_cons_zero, List.set_cons_succ, wrap_in]; rfl)))
        (refine take_ (i := 5) (N := some 39) (v := ?v_7) (a' := ?a_7) #[true, true, true, true, true, true, false, false, false, false, false, false, false, false, false, false] rfl rfl (by kernel_rfl) (fun _ _ _ h => h) (Or.inl ⟨by rfl, ?hy_7⟩) hHeld ?ha_7 ?hh_7; (case hy_7 => (rintro w' ⟨s0_, s1_, s2_⟩; go_simp; with_reducible rfl)); (case ha_7 => (simp (disch := omega) only [Act.put, List.setIfInBounds_toArray, List.set_cons_zero, List.set_cons_succ, wrap_in]; rfl)))
        (refine take_ (i := 6) (N := some 40) (v := ?v_8) (a' := ?a_8) #[true, true, true, true, true, true, true, false, false, false, false, false, false, false, false, false] rfl rfl (by kernel_rfl) (fun _ _ _ h => h) (Or.inl ⟨by rfl, ?hy_8⟩) hHeld ?ha_8 ?hh_8; (case hy_8 => (rintro w' ⟨s0_, s1_, s2_⟩; go_simp; with_reducible rfl)); (case ha_8 => (simp (disch := omega) only [Act.put, List.setIfInBounds_toArray, List.set_cons_zero, List.set_cons_succ, wrap_in]; rfl)))
        (refine take_ (i := 7) (N := some 41) (v := ?v_9) (a' := ?a_9) #[true, true, true, true, true, true, true, true, false, false, false, false, false, false, false, false] rfl rfl (by kernel_rfl) (fun _ _ _ h => h) (Or.inl ⟨by rfl, ?hy_9⟩) hHeld ?ha_9 ?hh_9; (case hy_9 => (rintro w' ⟨s0_, s1_, s2_⟩; go_simp; with_reducible rfl)); (case ha_9 => (simp (disch := omega) only [Act.put, List.setIfInBounds_toArray, List.set_cons_zero, List.set_cons_succ, wrap_in]; rfl)))
        (refine take_ (i := 8) (N := some 42) (v := ?v_10) (a' := ?a_10) #[true, true, true, true, true, true, true, true, true, false, false, false, false, false, false, false] rfl rfl (by kernel_rfl) (fun _ _ _ h => h) (Or.inl ⟨by rfl, ?hy_10⟩) hHeld ?ha_10 ?hh_10; (case hy_10 => (rintro w' ⟨s0_, s1_, s2_⟩; go_simp; with_reducible rfl)); (case ha_10 => (simp (disch := omega) only [Act.put, List.setIfInBounds_toArray, List.set_cons_zero, List.set_cons_succ, wrap_in]; rfl)))
        (refine take_ (i := 9) (N := some 43) (v := ?v_11) (a' := ?a_11) #[true, true, true, true, true, true, true, true, true, true, false, false, false, false, false, false] rfl rfl (by kernel_rfl) (fun _ _ _ h => h) (Or.inl ⟨by rfl, ?hy_11⟩) hHeld ?ha_11 ?hh_11; (case hy_11 => (rintro w' ⟨s0_, s1_, s2_⟩; go_simp; with_reducible rfl)); (case ha_11 => (simp (disch := omega) only [Act.put, List.setIfInBounds_toArray, List.set_cons_zero, List.set_cons_succ, wrap_in]; rfl)))
        (refine take_ (i := 10) (N := some 44) (v := ?v_12) (a' := ?a_12) #[true, true, true, true, true, true, true, true, true, true, true, false, false, false, false, false] rfl rfl (by kernel_rfl) (fun _ _ _ h => h) (Or.inl ⟨by rfl, ?hy_12⟩) hHeld ?ha_12 ?hh_12; (case hy_12 => (rintro w' ⟨s0_, s1_, s2_⟩; go_simp; with_reducible rfl)); (case ha_12 => (simp (disch := omega) only [Act.put, List.setIfInBounds_toArray, List.set_cons_zero, List.set_cons_succ, wrap_in]; rfl)))
        (refine take_ (i := 11) (N := some 45) (v := ?v_13) (a' := ?a_13) #[true, true, true, true, true, true, true, true, true, true, true, true, false, false, false, false] rfl rfl (by kernel_rfl) (fun _ _ _ h => h) (Or.inl ⟨by rfl, ?hy_13⟩) hHeld ?ha_13 ?hh_13; (case hy_13 => (rintro w' ⟨s0_, s1_, s2_⟩; go_simp; with_reducible rfl)); (case ha_13 => (simp (disch := omega) only [Act.put, List.setIfInBounds_toArray, List.set_cons_zero, List.set_cons_succ, wrap_in]; rfl)))
        (refine take_ (i := 12) (N := some 46) (v := ?v_14) (a' := ?a_14) #[true, true, true, true, true, true, true, true, true, true, true, true, true, false, false, false] rfl rfl (by kernel_rfl) (fun _ _ _ h => h) (Or.inl ⟨by rfl, ?hy_14⟩) hHeld ?ha_14 ?hh_14; (case hy_14 => (rintro w' ⟨s0_, s1_, s2_⟩; go_simp; with_reducible rfl)); (case ha_14 => (simp (disch := omega) only [Act.put, List.setIfInBounds_toArray, List.set_cons_zero, List.set_cons_succ, wrap_in]; rfl)))
        refine one_ (i := 13) (N := some 47) #[true, true, true, true, true, true, true, true, true, true, true, true, true, true, false, false] rfl rfl (by kernel_rfl) (by decide) (fun K hK => ?_)
        (refine goes_ Try.func66 (by kernel_rfl) rfl ?args_16 (by rfl) rfl rfl ?hargs_16 ?hc_16; (case hargs_16 => (go_simp; with_reducible rfl)))
        (refine JJ.out.mono ?_; rintro e w2 ⟨p2, rfl, T2, B2⟩; refine ⟨_, rfl, ?_⟩)
        (refine hK.out _ _ ?hs_18 ?hn_18; (case hs_18 => (obtain ⟨s0_, s1_, s2_⟩ := hHeld; exact ⟨cell_below B2 s0_, cell_below B2 s1_, cell_below B2 s2_⟩)); intro hHeld; clear hK K)
        (refine norm_ (a' := ?a_19) ?ha_19 ?hh_19; (case ha_19 => (simp (disch := omega) only [Act.put, List.setIfInBounds_toArray, List.set_cons_zero, List.set_cons_succ, wrap_in]; rfl)))
        (refine take_ (i := 14) (N := some 4) (v := ?v_20) (a' := ?a_20) #[true, true, true, true, true, true, true, true, true, true, true, true, true, true, true, false] rfl rfl (by kernel_rfl) (fun _ _ _ h => h) (Or.inl ⟨by rfl, ?hy_20⟩) hHeld ?ha_20 ?hh_20; (case hy_20 => (rintro w' ⟨s0_, s1_, s2_⟩; go_simp; with_reducible rfl)); (case ha_20 => (simp (disch := omega) only [Act.put, List.setIfInBounds_toArray, List.set_cons_zero, List.set_cons_succ, wrap_in]; rfl)))
        (refine take_ (i := 15) (N := some 5) (v := ?v_21) (a' := ?a_21) #[true, true, true, true, true, true, true, true, true, true, true, true, true, true, true, true] rfl rfl (by kernel_rfl) (fun _ _ _ h => h) (Or.inl ⟨by rfl, ?hy_21⟩) hHeld ?ha_21 ?hh_21; (case hy_21 => (rintro w' ⟨s0_, s1_, s2_⟩; go_simp; with_reducible rfl)); (case ha_21 => (simp (disch := omega) only [Act.put, List.setIfInBounds_toArray, List.set_cons_zero, List.set_cons_succ, wrap_in]; rfl)))
        refine done_ (by kernel_rfl) ?_
        go_wp2_with (fail)
        go_ret2
        exact ⟨_, by rw [HT.out]; rfl, by rw [HT.out]; exact T2, HB1.out.trans (((Below.refl _ _).drew.trans B2).mono HB1.out.size)⟩
    | false =>
    cases hc2 : ltZ k' k with
    | true =>
      rw [hc1, if_neg (by decide), hc2, if_pos rfl] at htt
      have CC := Lib.hid (cmp_gt hc2 w)
      have P1 := Lib.hid (ihr HR.out (by omega))
      have HTT := Lib.hid htt
      clear hc1 hc2 ihl ihr htt
      go_enter Try.func25, Try.ntmps25
      go_wp2_with (fail)
      refine CC.out.mono ?_
      rintro e w_ ⟨rfl, rfl⟩
      go_wp2_with (fail)
      refine P1.out.mono ?_
      rintro e w1 ⟨p1, rfl, T1, B1⟩
      have y0 := cell_below B1 x0
      have y2 := cell_below B1 x2
      have y3 := cell_below B1 x3
      have HH1 := Lib.hid (HH.out.below B1)
      cases hd : (T.del ltZ k r).2 with
      | false =>
        have htt := HTT.out
        rw [hd, if_neg (by decide)] at htt
        have HT := Lib.hid htt
        have HB1 := Lib.hid B1
        clear htt T1 B1 P1 hd
        go_wp2_with (fail)
        go_ret2
        exact ⟨_, by rw [HT.out]; rfl, by rw [HT.out]; exact HH1.out, HB1.out⟩
      | true =>
        have htt := HTT.out
        rw [hd, if_pos rfl] at htt
        have HT := Lib.hid htt
        have JJ := Lib.hid (join_any l (T.del ltZ k r).1 k' v' (HL.out.below B1).drew T1.drew (by omega))
        have HB1 := Lib.hid B1
        clear htt T1 B1 P1 hd x0 x1 x2 x3
        go_wp2_with (fail)
        refine start_ (n := 16) (S := fun w' => w'.cell? ⟨b, 0, none⟩ = some (.pointer pl) ∧ w'.cell? ⟨b, 2, none⟩ = some ((.int .i64 k')) ∧ w'.cell? ⟨b, 3, none⟩ = some ((.int .i64 v'))) (ds := []) #[false, false, false, false, false, false, false, false, false, false, false, false, false, false, false, false] (by kernel_rfl) rfl rfl ⟨y0, y2, y3⟩ (fun hHeld => ?_)
        (refine take_ (i := 0) (N := some 63) (v := ?v_24) (a' := ?a_24) #[true, false, false, false, false, false, false, false, false, false, false, false, false, false, false, false] rfl rfl (by kernel_rfl) (fun _ _ _ h => h) (Or.inl ⟨by rfl, ?hy_24⟩) hHeld ?ha_24 ?hh_24; (case hy_24 => (rintro w' ⟨s0_, s1_, s2_⟩; go_simp; with_reducible rfl)); (case ha_24 => (simp (disch := omega) only [Act.put, List.setIfInBounds_toArray, List.set_cons_zero, List.set_cons_succ, wrap_in]; rfl)))
        (refine take_ (i := 1) (N := some 64) (v := ?v_25) (a' := ?a_25) #[true, true, false, false, false, false, false, false, false, false, false, false, false, false, false, false] rfl rfl (by kernel_rfl) (fun _ _ _ h => h) (Or.inl ⟨by rfl, ?hy_25⟩) hHeld ?ha_25 ?hh_25; (case hy_25 => (rintro w' ⟨s0_, s1_, s2_⟩; go_simp; with_reducible rfl)); (case ha_25 => (simp (disch := omega) only [Act.put, List.setIfInBounds_toArray, List.set_cons_zero, List.set_cons_succ, wrap_in]; rfl)))
        (refine take_ (i := 2) (N := some 65) (v := ?v_26) (a' := ?a_26) #[true, true, true, false, false, false, false, false, false, false, false, false, false, false, false, false] rfl rfl (by kernel_rfl) (fun _ _ _ h => h) (Or.inl ⟨by rfl, ?hy_26⟩) hHeld ?ha_26 ?hh_26; (case hy_26 => (rintro w' ⟨s0_, s1_, s2_⟩; go_simp; with_reducible rfl)); (case ha_26 => (simp (disch := omega) only [Act.put, List.setIfInBounds_toArray, List.set_cons_zero, List.set_cons_succ, wrap_in]; rfl)))
        (refine take_ (i := 3) (N := some 66) (v := ?v_27) (a' := ?a_27) #[true, true, true, true, false, false, false, false, false, false, false, false, false, false, false, false] rfl rfl (by kernel_rfl) (fun _ _ _ h => h) (Or.inl ⟨by rfl, ?hy_27⟩) hHeld ?ha_27 ?hh_27; (case hy_27 => (rintro w' ⟨s0_, s1_, s2_⟩; go_simp; with_reducible rfl)); (case ha_27 => (simp (disch := omega) only [Act.put, List.setIfInBounds_toArray, List.set_cons_zero, List.set_cons_succ, wrap_in]; rfl)))
        (refine take_ (i := 4) (N := some 67) (v := ?v_28) (a' := ?a_28) #[true, true, true, true, true, false, false, false, false, false, false, false, false, false, false, false] rfl rfl (by kernel_rfl) (fun _ _ _ h => h) (Or.inl ⟨by rfl, ?hy_28⟩) hHeld ?ha_28 ?hh_28; (case hy_28 => (rintro w' ⟨s0_, s1_, s2_⟩; go_simp; with_reducible rfl)); (case ha_28 => (simp (disch := omega) only [Act.put, List.setIfInBounds_toArray, List.set_cons_zero, List.set_cons_succ, wrap_in]; rfl)))
        (refine take_ (i := 5) (N := some 68) (v := ?v_29) (a' := ?a_29) #[true, true, true, true, true, true, false, false, false, false, false, false, false, false, false, false] rfl rfl (by kernel_rfl) (fun _ _ _ h => h) (Or.inl ⟨by rfl, ?hy_29⟩) hHeld ?ha_29 ?hh_29; (case hy_29 => (rintro w' ⟨s0_, s1_, s2_⟩; go_simp; with_reducible rfl)); (case ha_29 => (simp (disch := omega) only [Act.put, List.setIfInBounds_toArray, List.set_cons_zero, List.set_cons_succ, wrap_in]; rfl)))
        (refine take_ (i := 6) (N := some 69) (v := ?v_30) (a' := ?a_30) #[true, true, true, true, true, true, true, false, false, false, false, false, false, false, false, false] rfl rfl (by kernel_rfl) (fun _ _ _ h => h) (Or.inl ⟨by rfl, ?hy_30⟩) hHeld ?ha_30 ?hh_30; (case hy_30 => (rintro w' ⟨s0_, s1_, s2_⟩; go_simp; with_reducible rfl)); (case ha_30 => (simp (disch := omega) only [Act.put, List.setIfInBounds_toArray, List.set_cons_zero, List.set_cons_succ, wrap_in]; rfl)))
        (refine take_ (i := 7) (N := some 70) (v := ?v_31) (a' := ?a_31) #[true, true, true, true, true, true, true, true, false, false, false, false, false, false, false, false] rfl rfl (by kernel_rfl) (fun _ _ _ h => h) (Or.inl ⟨by rfl, ?hy_31⟩) hHeld ?ha_31 ?hh_31; (case hy_31 => (rintro w' ⟨s0_, s1_, s2_⟩; go_simp; with_reducible rfl)); (case ha_31 => (simp (disch := omega) only [Act.put, List.setIfInBounds_toArray, List.set_cons_zero, List.set_cons_succ, wrap_in]; rfl)))
        (refine take_ (i := 8) (N := some 71) (v := ?v_32) (a' := ?a_32) #[true, true, true, true, true, true, true, true, true, false, false, false, false, false, false, false] rfl rfl (by kernel_rfl) (fun _ _ _ h => h) (Or.inl ⟨by rfl, ?hy_32⟩) hHeld ?ha_32 ?hh_32; (case hy_32 => (rintro w' ⟨s0_, s1_, s2_⟩; go_simp; with_reducible rfl)); (case ha_32 => (simp (disch := omega) only [Act.put, List.setIfInBounds_toArray, List.set_cons_zero, List.set_cons_succ, wrap_in]; rfl)))
        (refine take_ (i := 9) (N := some 72) (v := ?v_33) (a' := ?a_33) #[true, true, true, true, true, true, true, true, true, true, false, false, false, false, false, false] rfl rfl (by kernel_rfl) (fun _ _ _ h => h) (Or.inl ⟨by rfl, ?hy_33⟩) hHeld ?ha_33 ?hh_33; (case hy_33 => (rintro w' ⟨s0_, s1_, s2_⟩; go_simp; with_reducible rfl)); (case ha_33 => (simp (disch := omega) only [Act.put, List.setIfInBounds_toArray, List.set_cons_zero, List.set_cons_succ, wrap_in]; rfl)))
        (refine take_ (i := 10) (N := some 73) (v := ?v_34) (a' := ?a_34) #[true, true, true, true, true, true, true, true, true, true, true, false, false, false, false, false] rfl rfl (by kernel_rfl) (fun _ _ _ h => h) (Or.inl ⟨by rfl, ?hy_34⟩) hHeld ?ha_34 ?hh_34; (case hy_34 => (rintro w' ⟨s0_, s1_, s2_⟩; go_simp; with_reducible rfl)); (case ha_34 => (simp (disch := omega) only [Act.put, List.setIfInBounds_toArray, List.set_cons_zero, List.set_cons_succ, wrap_in]; rfl)))
        (refine take_ (i := 11) (N := some 74) (v := ?v_35) (a' := ?a_35) #[true, true, true, true, true, true, true, true, true, true, true, true, false, false, false, false] rfl rfl (by kernel_rfl) (fun _ _ _ h => h) (Or.inl ⟨by rfl, ?hy_35⟩) hHeld ?ha_35 ?hh_35; (case hy_35 => (rintro w' ⟨s0_, s1_, s2_⟩; go_simp; with_reducible rfl)); (case ha_35 => (simp (disch := omega) only [Act.put, List.setIfInBounds_toArray, List.set_cons_zero, List.set_cons_succ, wrap_in]; rfl)))
        (refine take_ (i := 12) (N := some 75) (v := ?v_36) (a' := ?a_36) #[true, true, true, true, true, true, true, true, true, true, true, true, true, false, false, false] rfl rfl (by kernel_rfl) (fun _ _ _ h => h) (Or.inl ⟨by rfl, ?hy_36⟩) hHeld ?ha_36 ?hh_36; (case hy_36 => (rintro w' ⟨s0_, s1_, s2_⟩; go_simp; with_reducible rfl)); (case ha_36 => (simp (disch := omega) only [Act.put, List.setIfInBounds_toArray, List.set_cons_zero, List.set_cons_succ, wrap_in]; rfl)))
        refine one_ (i := 13) (N := some 76) #[true, true, true, true, true, true, true, true, true, true, true, true, true, true, false, false] rfl rfl (by kernel_rfl) (by decide) (fun K hK => ?_)
        (refine goes_ Try.func66 (by kernel_rfl) rfl ?args_38 (by rfl) rfl rfl ?hargs_38 ?hc_38; (case hargs_38 => (go_simp; with_reducible rfl)))
        (refine JJ.out.mono ?_; rintro e w2 ⟨p2, rfl, T2, B2⟩; refine ⟨_, rfl, ?_⟩)
        (refine hK.out _ _ ?hs_40 ?hn_40; (case hs_40 => (obtain ⟨s0_, s1_, s2_⟩ := hHeld; exact ⟨cell_below B2 s0_, cell_below B2 s1_, cell_below B2 s2_⟩)); intro hHeld; clear hK K)
        (refine norm_ (a' := ?a_41) ?ha_41 ?hh_41; (case ha_41 => (simp (disch := omega) only [Act.put, List.setIfInBounds_toArray, List.set_cons_zero, List.set_cons_succ, wrap_in]; rfl)))
        (refine take_ (i := 14) (N := some 4) (v := ?v_42) (a' := ?a_42) #[true, true, true, true, true, true, true, true, true, true, true, true, true, true, true, false] rfl rfl (by kernel_rfl) (fun _ _ _ h => h) (Or.inl ⟨by rfl, ?hy_42⟩) hHeld ?ha_42 ?hh_42; (case hy_42 => (rintro w' ⟨s0_, s1_, s2_⟩; go_simp; with_reducible rfl)); (case ha_42 => (simp (disch := omega) only [Act.put, List.setIfInBounds_toArray, List.set_cons_zero, List.set_cons_succ, wrap_in]; rfl)))
        (refine take_ (i := 15) (N := some 5) (v := ?v_43) (a' := ?a_43) #[true, true, true, true, true, true, true, true, true, true, true, true, true, true, true, true] rfl rfl (by kernel_rfl) (fun _ _ _ h => h) (Or.inl ⟨by rfl, ?hy_43⟩) hHeld ?ha_43 ?hh_43; (case hy_43 => (rintro w' ⟨s0_, s1_, s2_⟩; go_simp; with_reducible rfl)); (case ha_43 => (simp (disch := omega) only [Act.put, List.setIfInBounds_toArray, List.set_cons_zero, List.set_cons_succ, wrap_in]; rfl)))
        refine done_ (by kernel_rfl) ?_
        go_wp2_with (fail)
        go_ret2
        exact ⟨_, by rw [HT.out]; rfl, by rw [HT.out]; exact T2, HB1.out.trans (((Below.refl _ _).drew.trans B2).mono HB1.out.size)⟩
    | false =>
      rw [hc1, if_neg (by decide), hc2, if_neg (by decide)] at htt
      have HT := Lib.hid htt
      have CC := Lib.hid (cmp_eq hc1 hc2 w)
      have JJ := Lib.hid (both_any l r HL.out.drew HR.out.drew (by omega))
      clear htt hc1 hc2 ihl ihr
      go_enter Try.func25, Try.ntmps25
      go_wp2_with (fail)
      refine CC.out.mono ?_
      rintro e w_ ⟨rfl, rfl⟩
      go_wp2_with (fail)
      refine start_ (n := 11) (S := fun w' => w'.cell? ⟨b, 0, none⟩ = some (.pointer pl) ∧ w'.cell? ⟨b, 1, none⟩ = some (.pointer pr)) (ds := []) #[false, false, false, false, false, false, false, false, false, false, false] (by kernel_rfl) rfl rfl ⟨x0, x1⟩ (fun hHeld => ?_)
      (refine take_ (i := 0) (N := some 77) (v := ?v_46) (a' := ?a_46) #[true, false, false, false, false, false, false, false, false, false, false] rfl rfl (by kernel_rfl) (fun _ _ _ h => h) (Or.inl ⟨by rfl, ?hy_46⟩) hHeld ?ha_46 ?hh_46; (case hy_46 => (rintro w' ⟨s0_, s1_⟩; go_simp; with_reducible rfl)); (case ha_46 => (simp (disch := omega) only [Act.put, List.setIfInBounds_toArray, List.set_cons_zero, List.set_cons_succ, wrap_in]; rfl)))
      (refine take_ (i := 1) (N := some 78) (v := ?v_47) (a' := ?a_47) #[true, true, false, false, false, false, false, false, false, false, false] rfl rfl (by kernel_rfl) (fun _ _ _ h => h) (Or.inl ⟨by rfl, ?hy_47⟩) hHeld ?ha_47 ?hh_47; (case hy_47 => (rintro w' ⟨s0_, s1_⟩; go_simp; with_reducible rfl)); (case ha_47 => (simp (disch := omega) only [Act.put, List.setIfInBounds_toArray, List.set_cons_zero, List.set_cons_succ, wrap_in]; rfl)))
      (refine take_ (i := 2) (N := some 79) (v := ?v_48) (a' := ?a_48) #[true, true, true, false, false, false, false, false, false, false, false] rfl rfl (by kernel_rfl) (fun _ _ _ h => h) (Or.inl ⟨by rfl, ?hy_48⟩) hHeld ?ha_48 ?hh_48; (case hy_48 => (rintro w' ⟨s0_, s1_⟩; go_simp; with_reducible rfl)); (case ha_48 => (simp (disch := omega) only [Act.put, List.setIfInBounds_toArray, List.set_cons_zero, List.set_cons_succ, wrap_in]; rfl)))
      (refine take_ (i := 3) (N := some 80) (v := ?v_49) (a' := ?a_49) #[true, true, true, true, false, false, false, false, false, false, false] rfl rfl (by kernel_rfl) (fun _ _ _ h => h) (Or.inl ⟨by rfl, ?hy_49⟩) hHeld ?ha_49 ?hh_49; (case hy_49 => (rintro w' ⟨s0_, s1_⟩; go_simp; with_reducible rfl)); (case ha_49 => (simp (disch := omega) only [Act.put, List.setIfInBounds_toArray, List.set_cons_zero, List.set_cons_succ, wrap_in]; rfl)))
      (refine take_ (i := 4) (N := some 81) (v := ?v_50) (a' := ?a_50) #[true, true, true, true, true, false, false, false, false, false, false] rfl rfl (by kernel_rfl) (fun _ _ _ h => h) (Or.inl ⟨by rfl, ?hy_50⟩) hHeld ?ha_50 ?hh_50; (case hy_50 => (rintro w' ⟨s0_, s1_⟩; go_simp; with_reducible rfl)); (case ha_50 => (simp (disch := omega) only [Act.put, List.setIfInBounds_toArray, List.set_cons_zero, List.set_cons_succ, wrap_in]; rfl)))
      (refine take_ (i := 5) (N := some 82) (v := ?v_51) (a' := ?a_51) #[true, true, true, true, true, true, false, false, false, false, false] rfl rfl (by kernel_rfl) (fun _ _ _ h => h) (Or.inl ⟨by rfl, ?hy_51⟩) hHeld ?ha_51 ?hh_51; (case hy_51 => (rintro w' ⟨s0_, s1_⟩; go_simp; with_reducible rfl)); (case ha_51 => (simp (disch := omega) only [Act.put, List.setIfInBounds_toArray, List.set_cons_zero, List.set_cons_succ, wrap_in]; rfl)))
      (refine take_ (i := 6) (N := some 83) (v := ?v_52) (a' := ?a_52) #[true, true, true, true, true, true, true, false, false, false, false] rfl rfl (by kernel_rfl) (fun _ _ _ h => h) (Or.inl ⟨by rfl, ?hy_52⟩) hHeld ?ha_52 ?hh_52; (case hy_52 => (rintro w' ⟨s0_, s1_⟩; go_simp; with_reducible rfl)); (case ha_52 => (simp (disch := omega) only [Act.put, List.setIfInBounds_toArray, List.set_cons_zero, List.set_cons_succ, wrap_in]; rfl)))
      (refine take_ (i := 7) (N := some 84) (v := ?v_53) (a' := ?a_53) #[true, true, true, true, true, true, true, true, false, false, false] rfl rfl (by kernel_rfl) (fun _ _ _ h => h) (Or.inl ⟨by rfl, ?hy_53⟩) hHeld ?ha_53 ?hh_53; (case hy_53 => (rintro w' ⟨s0_, s1_⟩; go_simp; with_reducible rfl)); (case ha_53 => (simp (disch := omega) only [Act.put, List.setIfInBounds_toArray, List.set_cons_zero, List.set_cons_succ, wrap_in]; rfl)))
      refine one_ (i := 8) (N := some 85) #[true, true, true, true, true, true, true, true, true, false, false] rfl rfl (by kernel_rfl) (by decide) (fun K hK => ?_)
      (refine goes_ Try.func67 (by kernel_rfl) rfl ?args_55 (by rfl) rfl rfl ?hargs_55 ?hc_55; (case hargs_55 => (go_simp; with_reducible rfl)))
      (refine JJ.out.mono ?_; rintro e w2 ⟨p2, rfl, T2, B2⟩; refine ⟨_, rfl, ?_⟩)
      (refine hK.out _ _ ?hs_57 ?hn_57; (case hs_57 => (obtain ⟨s0_, s1_⟩ := hHeld; exact ⟨cell_below B2 s0_, cell_below B2 s1_⟩)); intro hHeld; clear hK K)
      (refine norm_ (a' := ?a_58) ?ha_58 ?hh_58; (case ha_58 => (simp (disch := omega) only [Act.put, List.setIfInBounds_toArray, List.set_cons_zero, List.set_cons_succ, wrap_in]; rfl)))
      (refine take_ (i := 9) (N := some 4) (v := ?v_59) (a' := ?a_59) #[true, true, true, true, true, true, true, true, true, true, false] rfl rfl (by kernel_rfl) (fun _ _ _ h => h) (Or.inl ⟨by rfl, ?hy_59⟩) hHeld ?ha_59 ?hh_59; (case hy_59 => (rintro w' ⟨s0_, s1_⟩; go_simp; with_reducible rfl)); (case ha_59 => (simp (disch := omega) only [Act.put, List.setIfInBounds_toArray, List.set_cons_zero, List.set_cons_succ, wrap_in]; rfl)))
      (refine take_ (i := 10) (N := some 5) (v := ?v_60) (a' := ?a_60) #[true, true, true, true, true, true, true, true, true, true, true] rfl rfl (by kernel_rfl) (fun _ _ _ h => h) (Or.inl ⟨by rfl, ?hy_60⟩) hHeld ?ha_60 ?hh_60; (case hy_60 => (rintro w' ⟨s0_, s1_⟩; go_simp; with_reducible rfl)); (case ha_60 => (simp (disch := omega) only [Act.put, List.setIfInBounds_toArray, List.set_cons_zero, List.set_cons_succ, wrap_in]; rfl)))
      refine done_ (by kernel_rfl) ?_
      go_wp2_with (fail)
      go_ret2
      exact ⟨_, by rw [HT.out]; rfl, by rw [HT.out]; exact T2, (Below.refl _ _).drew.trans B2⟩
def SplitP (w : World) (a b : Tr) (e : Ending) (w' : World) : Prop := ∃ p q, e = .returned (.tuple #[.pointer p, .pointer q]) ∧ TreeAt w' p a ∧ TreeAt w' q b ∧ Below w.heap.size w w'
set_option maxRecDepth 100000 in
set_option maxHeartbeats 4000000 in
theorem split_any (k : Int) : ∀ (t : Tr) {w : World} {p : Option Addr}, TreeAt w p t → t.size < big → Calls Try.prog 22 #[.pointer p, (.int .i64 k)] w (SplitP w (T.splitL ltZ k t) (T.splitR ltZ k t)) := by
  intro t
  induction t with
  | nil =>
    intro w p h hs
    obtain rfl : p = none := h
    go_enter Try.func22, Try.ntmps22
    go_wp2_with (fail)
    go_ret2
    exact ⟨_, _, rfl, rfl, rfl, Below.refl _ _⟩
  | node l k' v' r ihl ihr =>
    intro w p h hs
    simp only [T.size] at hs
    have sl := T.size_split ltZ k l
    have sr := T.size_split ltZ k r
    obtain ⟨ta, hta⟩ : ∃ ta, ta = T.splitL ltZ k (.node l k' v' r) := ⟨_, rfl⟩
    obtain ⟨tb, htb⟩ : ∃ tb, tb = T.splitR ltZ k (.node l k' v' r) := ⟨_, rfl⟩
    rw [← hta, ← htb]
    unfold T.splitL at hta
    unfold T.splitR at htb
    obtain ⟨b, pl, pr, rfl, hb, hl, hr⟩ := h
    have x0 := cell_blk hb 0 rfl
    have x1 := cell_blk hb 1 rfl
    have x2 := cell_blk hb 2 rfl
    have x3 := cell_blk hb 3 rfl
    have HL := Lib.hid hl
    have HR := Lib.hid hr
    have LS := less_any k' k w
    clear hb hl hr
    cases hc1 : ltZ k' k with
    | true =>
      rw [hc1, if_pos rfl] at hta htb
      rw [hc1] at LS
      have HA := Lib.hid hta
      have HB := Lib.hid htb
      have HLS := Lib.hid LS
      have P1 := Lib.hid (ihr HR.out (by omega))
      clear hta htb hc1 LS ihl ihr
      go_enter Try.func22, Try.ntmps22
      go_wp2_with (fail)
      refine HLS.out.mono ?_
      rintro e w_ ⟨rfl, rfl⟩
      go_wp2_with (fail)
      refine P1.out.mono ?_
      rintro e w1 ⟨p1, q1, rfl, T1, T1', B1⟩
      have y0 := cell_below B1 x0
      have y2 := cell_below B1 x2
      have y3 := cell_below B1 x3
      have JJ := Lib.hid (join_any l (T.splitL ltZ k r) k' v' (HL.out.below B1).drew T1.drew (by omega))
      have HB1 := Lib.hid B1
      have HT' := Lib.hid T1'
      clear T1 T1' B1 P1 x0 x1 x2 x3
      go_wp2_with (fail)
      refine start_ (n := 17) (S := fun w' => w'.cell? ⟨b, 0, none⟩ = some (.pointer pl) ∧ w'.cell? ⟨b, 2, none⟩ = some ((.int .i64 k')) ∧ w'.cell? ⟨b, 3, none⟩ = some ((.int .i64 v'))) (ds := []) #[false, false, false, false, false, false, false, false, false, false, false, false, false, false, false, false, false] (by kernel_rfl) rfl rfl ⟨y0, y2, y3⟩ (fun hHeld => ?_)
      (refine take_ (i := 0) (N := some 27) (v := ?v_63) (a' := ?a_63) #[true, false, false, false, false, false, false, false, false, false, false, false, false, false, false, false, false] rfl rfl (by kernel_rfl) (fun _ _ _ h => h) (Or.inl ⟨by rfl, ?hy_63⟩) hHeld ?ha_63 ?hh_63; (case hy_63 => (rintro w' ⟨s0_, s1_, s2_⟩; go_simp; with_reducible rfl)); (case ha_63 => (simp (disch := omega) only [Act.put, List.setIfInBounds_toArray, List.set_cons_zero, List.set_cons_succ, wrap_in]; rfl)))
      (refine take_ (i := 1) (N := some 28) (v := ?v_64) (a' := ?a_64) #[true, true, false, false, false, false, false, false, false, false, false, false, false, false, false, false, false] rfl rfl (by kernel_rfl) (fun _ _ _ h => h) (Or.inl ⟨by rfl, ?hy_64⟩) hHeld ?ha_64 ?hh_64; (case hy_64 => (rintro w' ⟨s0_, s1_, s2_⟩; go_simp; with_reducible rfl)); (case ha_64 => (simp (disch := omega) only [Act.put, List.setIfInBounds_toArray, List.set_cons_zero, List.set_cons_succ, wrap_in]; rfl)))
      (refine take_ (i := 2) (N := some 29) (v := ?v_65) (a' := ?a_65) #[true, true, true, false, false, false, false, false, false, false, false, false, false, false, false, false, false] rfl rfl (by kernel_rfl) (fun _ _ _ h => h) (Or.inl ⟨by rfl, ?hy_65⟩) hHeld ?ha_65 ?hh_65; (case hy_65 => (rintro w' ⟨s0_, s1_, s2_⟩; go_simp; with_reducible rfl)); (case ha_65 => (simp (disch := omega) only [Act.put, List.setIfInBounds_toArray, List.set_cons_zero, List.set_cons_succ, wrap_in]; rfl)))
      (refine take_ (i := 3) (N := some 30) (v := ?v_66) (a' := ?a_66) #[true, true, true, true, false, false, false, false, false, false, false, false, false, false, false, false, false] rfl rfl (by kernel_rfl) (fun _ _ _ h => h) (Or.inl ⟨by rfl, ?hy_66⟩) hHeld ?ha_66 ?hh_66; (case hy_66 => (rintro w' ⟨s0_, s1_, s2_⟩; go_simp; with_reducible rfl)); (case ha_66 => (simp (disch := omega) only [Act.put, List.setIfInBounds_toArray, List.set_cons_zero, List.set_cons_succ, wrap_in]; rfl)))
      (refine take_ (i := 4) (N := some 31) (v := ?v_67) (a' := ?a_67) #[true, true, true, true, true, false, false, false, false, false, false, false, false, false, false, false, false] rfl rfl (by kernel_rfl) (fun _ _ _ h => h) (Or.inl ⟨by rfl, ?hy_67⟩) hHeld ?ha_67 ?hh_67; (case hy_67 => (rintro w' ⟨s0_, s1_, s2_⟩; go_simp; with_reducible rfl)); (case ha_67 => (simp (disch := omega) only [Act.put, List.setIfInBounds_toArray, List.set_cons_zero, List.set_cons_succ, wrap_in]; rfl)))
      (refine take_ (i := 5) (N := some 32) (v := ?v_68) (a' := ?a_68) #[true, true, true, true, true, true, false, false, false, false, false, false, false, false, false, false, false] rfl rfl (by kernel_rfl) (fun _ _ _ h => h) (Or.inl ⟨by rfl, ?hy_68⟩) hHeld ?ha_68 ?hh_68; (case hy_68 => (rintro w' ⟨s0_, s1_, s2_⟩; go_simp; with_reducible rfl)); (case ha_68 => (simp (disch := omega) only [Act.put, List.setIfInBounds_toArray, List.set_cons_zero, List.set_cons_succ, wrap_in]; rfl)))
      (refine take_ (i := 6) (N := some 33) (v := ?v_69) (a' := ?a_69) #[true, true, true, true, true, true, true, false, false, false, false, false, false, false, false, false, false] rfl rfl (by kernel_rfl) (fun _ _ _ h => h) (Or.inl ⟨by rfl, ?hy_69⟩) hHeld ?ha_69 ?hh_69; (case hy_69 => (rintro w' ⟨s0_, s1_, s2_⟩; go_simp; with_reducible rfl)); (case ha_69 => (simp (disch := omega) only [Act.put, List.setIfInBounds_toArray, List.set_cons_zero, List.set_cons_succ, wrap_in]; rfl)))
      (refine take_ (i := 7) (N := some 34) (v := ?v_70) (a' := ?a_70) #[true, true, true, true, true, true, true, true, false, false, false, false, false, false, false, false, false] rfl rfl (by kernel_rfl) (fun _ _ _ h => h) (Or.inl ⟨by rfl, ?hy_70⟩) hHeld ?ha_70 ?hh_70; (case hy_70 => (rintro w' ⟨s0_, s1_, s2_⟩; go_simp; with_reducible rfl)); (case ha_70 => (simp (disch := omega) only [Act.put, List.setIfInBounds_toArray, List.set_cons_zero, List.set_cons_succ, wrap_in]; rfl)))
      (refine take_ (i := 8) (N := some 35) (v := ?v_71) (a' := ?a_71) #[true, true, true, true, true, true, true, true, true, false, false, false, false, false, false, false, false] rfl rfl (by kernel_rfl) (fun _ _ _ h => h) (Or.inl ⟨by rfl, ?hy_71⟩) hHeld ?ha_71 ?hh_71; (case hy_71 => (rintro w' ⟨s0_, s1_, s2_⟩; go_simp; with_reducible rfl)); (case ha_71 => (simp (disch := omega) only [Act.put, List.setIfInBounds_toArray, List.set_cons_zero, List.set_cons_succ, wrap_in]; rfl)))
      (refine take_ (i := 9) (N := some 36) (v := ?v_72) (a' := ?a_72) #[true, true, true, true, true, true, true, true, true, true, false, false, false, false, false, false, false] rfl rfl (by kernel_rfl) (fun _ _ _ h => h) (Or.inl ⟨by rfl, ?hy_72⟩) hHeld ?ha_72 ?hh_72; (case hy_72 => (rintro w' ⟨s0_, s1_, s2_⟩; go_simp; with_reducible rfl)); (case ha_72 => (simp (disch := omega) only [Act.put, List.setIfInBounds_toArray, List.set_cons_zero, List.set_cons_succ, wrap_in]; rfl)))
      (refine take_ (i := 10) (N := some 37) (v := ?v_73) (a' := ?a_73) #[true, true, true, true, true, true, true, true, true, true, true, false, false, false, false, false, false] rfl rfl (by kernel_rfl) (fun _ _ _ h => h) (Or.inl ⟨by rfl, ?hy_73⟩) hHeld ?ha_73 ?hh_73; (case hy_73 => (rintro w' ⟨s0_, s1_, s2_⟩; go_simp; with_reducible rfl)); (case ha_73 => (simp (disch := omega) only [Act.put, List.setIfInBounds_toArray, List.set_cons_zero, List.set_cons_succ, wrap_in]; rfl)))
      (refine take_ (i := 11) (N := some 38) (v := ?v_74) (a' := ?a_74) #[true, true, true, true, true, true, true, true, true, true, true, true, false, false, false, false, false] rfl rfl (by kernel_rfl) (fun _ _ _ h => h) (Or.inl ⟨by rfl, ?hy_74⟩) hHeld ?ha_74 ?hh_74; (case hy_74 => (rintro w' ⟨s0_, s1_, s2_⟩; go_simp; with_reducible rfl)); (case ha_74 => (simp (disch := omega) only [Act.put, List.setIfInBounds_toArray, List.set_cons_zero, List.set_cons_succ, wrap_in]; rfl)))
      (refine take_ (i := 12) (N := some 39) (v := ?v_75) (a' := ?a_75) #[true, true, true, true, true, true, true, true, true, true, true, true, true, false, false, false, false] rfl rfl (by kernel_rfl) (fun _ _ _ h => h) (Or.inl ⟨by rfl, ?hy_75⟩) hHeld ?ha_75 ?hh_75; (case hy_75 => (rintro w' ⟨s0_, s1_, s2_⟩; go_simp; with_reducible rfl)); (case ha_75 => (simp (disch := omega) only [Act.put, List.setIfInBounds_toArray, List.set_cons_zero, List.set_cons_succ, wrap_in]; rfl)))
      (refine take_ (i := 14) (N := some 41) (v := ?v_76) (a' := ?a_76) #[true, true, true, true, true, true, true, true, true, true, true, true, true, false, true, false, false] rfl rfl (by kernel_rfl) (fun _ _ _ h => h) (Or.inl ⟨by rfl, ?hy_76⟩) hHeld ?ha_76 ?hh_76; (case hy_76 => (rintro w' ⟨s0_, s1_, s2_⟩; go_simp; with_reducible rfl)); (case ha_76 => (simp (disch := omega) only [Act.put, List.setIfInBounds_toArray, List.set_cons_zero, List.set_cons_succ, wrap_in]; rfl)))
      refine one_ (i := 13) (N := some 40) #[true, true, true, true, true, true, true, true, true, true, true, true, true, true, true, false, false] rfl rfl (by kernel_rfl) (by decide) (fun K hK => ?_)
      (refine goes_ Try.func66 (by kernel_rfl) rfl ?args_78 (by rfl) rfl rfl ?hargs_78 ?hc_78; (case hargs_78 => (go_simp; with_reducible rfl)))
      (refine JJ.out.mono ?_; rintro e w2 ⟨p2, rfl, T2, B2⟩; refine ⟨_, rfl, ?_⟩)
      (refine hK.out _ _ ?hs_80 ?hn_80; (case hs_80 => (obtain ⟨s0_, s1_, s2_⟩ := hHeld; exact ⟨cell_below B2 s0_, cell_below B2 s1_, cell_below B2 s2_⟩)); intro hHeld; clear hK K)
      (refine norm_ (a' := ?a_81) ?ha_81 ?hh_81; (case ha_81 => (simp (disch := omega) only [Act.put, List.setIfInBounds_toArray, List.set_cons_zero, List.set_cons_succ, wrap_in]; rfl)))
      (refine take_ (i := 15) (N := some 4) (v := ?v_82) (a' := ?a_82) #[true, true, true, true, true, true, true, true, true, true, true, true, true, true, true, true, false] rfl rfl (by kernel_rfl) (fun _ _ _ h => h) (Or.inl ⟨by rfl, ?hy_82⟩) hHeld ?ha_82 ?hh_82; (case hy_82 => (rintro w' ⟨s0_, s1_, s2_⟩; go_simp; with_reducible rfl)); (case ha_82 => (simp (disch := omega) only [Act.put, List.setIfInBounds_toArray, List.set_cons_zero, List.set_cons_succ, wrap_in]; rfl)))
      (refine take_ (i := 16) (N := some 5) (v := ?v_83) (a' := ?a_83) #[true, true, true, true, true, true, true, true, true, true, true, true, true, true, true, true, true] rfl rfl (by kernel_rfl) (fun _ _ _ h => h) (Or.inl ⟨by rfl, ?hy_83⟩) hHeld ?ha_83 ?hh_83; (case hy_83 => (rintro w' ⟨s0_, s1_, s2_⟩; go_simp; with_reducible rfl)); (case ha_83 => (simp (disch := omega) only [Act.put, List.setIfInBounds_toArray, List.set_cons_zero, List.set_cons_succ, wrap_in]; rfl)))
      refine done_ (by kernel_rfl) ?_
      go_wp2_with (fail)
      go_ret2
      exact ⟨_, _, rfl, by rw [HA.out]; exact T2, by rw [HB.out]; exact HT'.out.drew.below B2, HB1.out.trans (((Below.refl _ _).drew.trans B2).mono HB1.out.size)⟩
    | false =>
      rw [hc1, if_neg (by decide)] at hta htb
      rw [hc1] at LS
      have HA := Lib.hid hta
      have HB := Lib.hid htb
      have HLS := Lib.hid LS
      have P1 := Lib.hid (ihl HL.out (by omega))
      clear hta htb hc1 LS ihl ihr
      go_enter Try.func22, Try.ntmps22
      go_wp2_with (fail)
      refine HLS.out.mono ?_
      rintro e w_ ⟨rfl, rfl⟩
      go_wp2_with (fail)
      refine P1.out.mono ?_
      rintro e w1 ⟨p1, q1, rfl, T1, T1', B1⟩
      have y1 := cell_below B1 x1
      have y2 := cell_below B1 x2
      have y3 := cell_below B1 x3
      have JJ := Lib.hid (join_any (T.splitR ltZ k l) r k' v' T1'.drew (HR.out.below B1).drew (by omega))
      have HB1 := Lib.hid B1
      have HT' := Lib.hid T1
      clear T1 T1' B1 P1 x0 x1 x2 x3
      go_wp2_with (fail)
      refine start_ (n := 17) (S := fun w' => w'.cell? ⟨b, 1, none⟩ = some (.pointer pr) ∧ w'.cell? ⟨b, 2, none⟩ = some ((.int .i64 k')) ∧ w'.cell? ⟨b, 3, none⟩ = some ((.int .i64 v'))) (ds := []) #[false, false, false, false, false, false, false, false, false, false, false, false, false, false, false, false, false] (by kernel_rfl) rfl rfl ⟨y1, y2, y3⟩ (fun hHeld => ?_)
      (refine take_ (i := 0) (N := some 51) (v := ?v_86) (a' := ?a_86) #[true, false, false, false, false, false, false, false, false, false, false, false, false, false, false, false, false] rfl rfl (by kernel_rfl) (fun _ _ _ h => h) (Or.inl ⟨by rfl, ?hy_86⟩) hHeld ?ha_86 ?hh_86; (case hy_86 => (rintro w' ⟨s0_, s1_, s2_⟩; go_simp; with_reducible rfl)); (case ha_86 => (simp (disch := omega) only [Act.put, List.setIfInBounds_toArray, List.set_cons_zero, List.set_cons_succ, wrap_in]; rfl)))
      (refine take_ (i := 1) (N := some 52) (v := ?v_87) (a' := ?a_87) #[true, true, false, false, false, false, false, false, false, false, false, false, false, false, false, false, false] rfl rfl (by kernel_rfl) (fun _ _ _ h => h) (Or.inl ⟨by rfl, ?hy_87⟩) hHeld ?ha_87 ?hh_87; (case hy_87 => (rintro w' ⟨s0_, s1_, s2_⟩; go_simp; with_reducible rfl)); (case ha_87 => (simp (disch := omega) only [Act.put, List.setIfInBounds_toArray, List.set_cons_zero, List.set_cons_succ, wrap_in]; rfl)))
      (refine take_ (i := 2) (N := some 53) (v := ?v_88) (a' := ?a_88) #[true, true, true, false, false, false, false, false, false, false, false, false, false, false, false, false, false] rfl rfl (by kernel_rfl) (fun _ _ _ h => h) (Or.inl ⟨by rfl, ?hy_88⟩) hHeld ?ha_88 ?hh_88; (case hy_88 => (rintro w' ⟨s0_, s1_, s2_⟩; go_simp; with_reducible rfl)); (case ha_88 => (simp (disch := omega) only [Act.put, List.setIfInBounds_toArray, List.set_cons_zero, List.set_cons_succ, wrap_in]; rfl)))
      (refine take_ (i := 3) (N := some 54) (v := ?v_89) (a' := ?a_89) #[true, true, true, true, false, false, false, false, false, false, false, false, false, false, false, false, false] rfl rfl (by kernel_rfl) (fun _ _ _ h => h) (Or.inl ⟨by rfl, ?hy_89⟩) hHeld ?ha_89 ?hh_89; (case hy_89 => (rintro w' ⟨s0_, s1_, s2_⟩; go_simp; with_reducible rfl)); (case ha_89 => (simp (disch := omega) only [Act.put, List.setIfInBounds_toArray, List.set_cons_zero, List.set_cons_succ, wrap_in]; rfl)))
      (refine take_ (i := 4) (N := some 55) (v := ?v_90) (a' := ?a_90) #[true, true, true, true, true, false, false, false, false, false, false, false, false, false, false, false, false] rfl rfl (by kernel_rfl) (fun _ _ _ h => h) (Or.inl ⟨by rfl, ?hy_90⟩) hHeld ?ha_90 ?hh_90; (case hy_90 => (rintro w' ⟨s0_, s1_, s2_⟩; go_simp; with_reducible rfl)); (case ha_90 => (simp (disch := omega) only [Act.put, List.setIfInBounds_toArray, List.set_cons_zero, List.set_cons_succ, wrap_in]; rfl)))
      (refine take_ (i := 5) (N := some 56) (v := ?v_91) (a' := ?a_91) #[true, true, true, true, true, true, false, false, false, false, false, false, false, false, false, false, false] rfl rfl (by kernel_rfl) (fun _ _ _ h => h) (Or.inl ⟨by rfl, ?hy_91⟩) hHeld ?ha_91 ?hh_91; (case hy_91 => (rintro w' ⟨s0_, s1_, s2_⟩; go_simp; with_reducible rfl)); (case ha_91 => (simp (disch := omega) only [Act.put, List.setIfInBounds_toArray, List.set_cons_zero, List.set_cons_succ, wrap_in]; rfl)))
      (refine take_ (i := 6) (N := some 57) (v := ?v_92) (a' := ?a_92) #[true, true, true, true, true, true, true, false, false, false, false, false, false, false, false, false, false] rfl rfl (by kernel_rfl) (fun _ _ _ h => h) (Or.inl ⟨by rfl, ?hy_92⟩) hHeld ?ha_92 ?hh_92; (case hy_92 => (rintro w' ⟨s0_, s1_, s2_⟩; go_simp; with_reducible rfl)); (case ha_92 => (simp (disch := omega) only [Act.put, List.setIfInBounds_toArray, List.set_cons_zero, List.set_cons_succ, wrap_in]; rfl)))
      (refine take_ (i := 7) (N := some 58) (v := ?v_93) (a' := ?a_93) #[true, true, true, true, true, true, true, true, false, false, false, false, false, false, false, false, false] rfl rfl (by kernel_rfl) (fun _ _ _ h => h) (Or.inl ⟨by rfl, ?hy_93⟩) hHeld ?ha_93 ?hh_93; (case hy_93 => (rintro w' ⟨s0_, s1_, s2_⟩; go_simp; with_reducible rfl)); (case ha_93 => (simp (disch := omega) only [Act.put, List.setIfInBounds_toArray, List.set_cons_zero, List.set_cons_succ, wrap_in]; rfl)))
      (refine take_ (i := 8) (N := some 59) (v := ?v_94) (a' := ?a_94) #[true, true, true, true, true, true, true, true, true, false, false, false, false, false, false, false, false] rfl rfl (by kernel_rfl) (fun _ _ _ h => h) (Or.inl ⟨by rfl, ?hy_94⟩) hHeld ?ha_94 ?hh_94; (case hy_94 => (rintro w' ⟨s0_, s1_, s2_⟩; go_simp; with_reducible rfl)); (case ha_94 => (simp (disch := omega) only [Act.put, List.setIfInBounds_toArray, List.set_cons_zero, List.set_cons_succ, wrap_in]; rfl)))
      (refine take_ (i := 9) (N := some 60) (v := ?v_95) (a' := ?a_95) #[true, true, true, true, true, true, true, true, true, true, false, false, false, false, false, false, false] rfl rfl (by kernel_rfl) (fun _ _ _ h => h) (Or.inl ⟨by rfl, ?hy_95⟩) hHeld ?ha_95 ?hh_95; (case hy_95 => (rintro w' ⟨s0_, s1_, s2_⟩; go_simp; with_reducible rfl)); (case ha_95 => (simp (disch := omega) only [Act.put, List.setIfInBounds_toArray, List.set_cons_zero, List.set_cons_succ, wrap_in]; rfl)))
      (refine take_ (i := 10) (N := some 61) (v := ?v_96) (a' := ?a_96) #[true, true, true, true, true, true, true, true, true, true, true, false, false, false, false, false, false] rfl rfl (by kernel_rfl) (fun _ _ _ h => h) (Or.inl ⟨by rfl, ?hy_96⟩) hHeld ?ha_96 ?hh_96; (case hy_96 => (rintro w' ⟨s0_, s1_, s2_⟩; go_simp; with_reducible rfl)); (case ha_96 => (simp (disch := omega) only [Act.put, List.setIfInBounds_toArray, List.set_cons_zero, List.set_cons_succ, wrap_in]; rfl)))
      (refine take_ (i := 11) (N := some 62) (v := ?v_97) (a' := ?a_97) #[true, true, true, true, true, true, true, true, true, true, true, true, false, false, false, false, false] rfl rfl (by kernel_rfl) (fun _ _ _ h => h) (Or.inl ⟨by rfl, ?hy_97⟩) hHeld ?ha_97 ?hh_97; (case hy_97 => (rintro w' ⟨s0_, s1_, s2_⟩; go_simp; with_reducible rfl)); (case ha_97 => (simp (disch := omega) only [Act.put, List.setIfInBounds_toArray, List.set_cons_zero, List.set_cons_succ, wrap_in]; rfl)))
      (refine take_ (i := 12) (N := some 63) (v := ?v_98) (a' := ?a_98) #[true, true, true, true, true, true, true, true, true, true, true, true, true, false, false, false, false] rfl rfl (by kernel_rfl) (fun _ _ _ h => h) (Or.inl ⟨by rfl, ?hy_98⟩) hHeld ?ha_98 ?hh_98; (case hy_98 => (rintro w' ⟨s0_, s1_, s2_⟩; go_simp; with_reducible rfl)); (case ha_98 => (simp (disch := omega) only [Act.put, List.setIfInBounds_toArray, List.set_cons_zero, List.set_cons_succ, wrap_in]; rfl)))
      (refine take_ (i := 13) (N := some 64) (v := ?v_99) (a' := ?a_99) #[true, true, true, true, true, true, true, true, true, true, true, true, true, true, false, false, false] rfl rfl (by kernel_rfl) (fun _ _ _ h => h) (Or.inl ⟨by rfl, ?hy_99⟩) hHeld ?ha_99 ?hh_99; (case hy_99 => (rintro w' ⟨s0_, s1_, s2_⟩; go_simp; with_reducible rfl)); (case ha_99 => (simp (disch := omega) only [Act.put, List.setIfInBounds_toArray, List.set_cons_zero, List.set_cons_succ, wrap_in]; rfl)))
      refine one_ (i := 14) (N := some 65) #[true, true, true, true, true, true, true, true, true, true, true, true, true, true, true, false, false] rfl rfl (by kernel_rfl) (by decide) (fun K hK => ?_)
      (refine goes_ Try.func66 (by kernel_rfl) rfl ?args_101 (by rfl) rfl rfl ?hargs_101 ?hc_101; (case hargs_101 => (go_simp; with_reducible rfl)))
      (refine JJ.out.mono ?_; rintro e w2 ⟨p2, rfl, T2, B2⟩; refine ⟨_, rfl, ?_⟩)
      (refine hK.out _ _ ?hs_103 ?hn_103; (case hs_103 => (obtain ⟨s0_, s1_, s2_⟩ := hHeld; exact ⟨cell_below B2 s0_, cell_below B2 s1_, cell_below B2 s2_⟩)); intro hHeld; clear hK K)
      (refine norm_ (a' := ?a_104) ?ha_104 ?hh_104; (case ha_104 => (simp (disch := omega) only [Act.put, List.setIfInBounds_toArray, List.set_cons_zero, List.set_cons_succ, wrap_in]; rfl)))
      (refine take_ (i := 15) (N := some 4) (v := ?v_105) (a' := ?a_105) #[true, true, true, true, true, true, true, true, true, true, true, true, true, true, true, true, false] rfl rfl (by kernel_rfl) (fun _ _ _ h => h) (Or.inl ⟨by rfl, ?hy_105⟩) hHeld ?ha_105 ?hh_105; (case hy_105 => (rintro w' ⟨s0_, s1_, s2_⟩; go_simp; with_reducible rfl)); (case ha_105 => (simp (disch := omega) only [Act.put, List.setIfInBounds_toArray, List.set_cons_zero, List.set_cons_succ, wrap_in]; rfl)))
      (refine take_ (i := 16) (N := some 5) (v := ?v_106) (a' := ?a_106) #[true, true, true, true, true, true, true, true, true, true, true, true, true, true, true, true, true] rfl rfl (by kernel_rfl) (fun _ _ _ h => h) (Or.inl ⟨by rfl, ?hy_106⟩) hHeld ?ha_106 ?hh_106; (case hy_106 => (rintro w' ⟨s0_, s1_, s2_⟩; go_simp; with_reducible rfl)); (case ha_106 => (simp (disch := omega) only [Act.put, List.setIfInBounds_toArray, List.set_cons_zero, List.set_cons_succ, wrap_in]; rfl)))
      refine done_ (by kernel_rfl) ?_
      go_wp2_with (fail)
      go_ret2
      exact ⟨_, _, rfl, by rw [HA.out]; exact HT'.out.drew.below B2, by rw [HB.out]; exact T2, HB1.out.trans (((Below.refl _ _).drew.trans B2).mono HB1.out.size)⟩
def JoinP (w : World) (ok : Bool) (t : Tr) (e : Ending) (w' : World) : Prop := Below w.heap.size w w' ∧ if ok then ∃ p, e = .returned (.tuple #[.pointer p, .int .i64 0]) ∧ TreeAt w' p t else e = .returned (.tuple #[.pointer none, .int .i64 2])
set_option maxRecDepth 100000 in
set_option maxHeartbeats 4000000 in
theorem Join_any (l r : Tr) {w : World} {pl pr : Option Addr} (hl : TreeAt w pl l) (hr : TreeAt w pr r) (hs : l.size + r.size < big) :
    Calls Try.prog 23 #[.pointer pl, .pointer pr] w (JoinP w (T.meets ltZ l.toList r.toList) (T.both l r)) := by
  have BB : ∀ w1, Below w.heap.size w w1 → Calls Try.prog 67 #[.pointer pl, .pointer pr] w1 (NewT w1 (T.both l r)) := fun w1 B => both_any l r (hl.below B) (hr.below B) hs
  have HBB := Lib.hid BB
  cases l with
  | nil =>
    obtain rfl : pl = none := hl
    have hm : T.meets ltZ (T.nil : Tr).toList r.toList = true := rfl
    rw [hm]
    clear hr BB
    go_enter Try.func23, Try.ntmps23
    go_wp2_with (fail)
    refine (HBB.out _ (Below.refl _ _)).mono ?_
    rintro e w2 ⟨p2, rfl, T2, B2⟩
    go_wp2_with (fail)
    go_ret2
    exact ⟨B2, p2, rfl, T2⟩
  | node la lk lv lb =>
    cases r with
    | nil =>
      obtain rfl : pr = none := hr
      have hm : T.meets ltZ (T.node la lk lv lb).toList (T.nil : Tr).toList = true := by unfold T.meets; split <;> first | rfl | simp_all [T.toList]
      rw [hm]
      obtain ⟨b', _, _, rfl, _⟩ := hl
      clear BB
      go_enter Try.func23, Try.ntmps23
      go_wp2_with (fail)
      refine (HBB.out _ (Below.refl _ _)).mono ?_
      rintro e w2 ⟨p2, rfl, T2, B2⟩
      go_wp2_with (fail)
      go_ret2
      exact ⟨B2, p2, rfl, T2⟩
    | node ra rk rv rb =>
      obtain ⟨x, hx1, hx2⟩ := T.at_last la lk lv lb
      obtain ⟨y, hy1, hy2⟩ := T.at_first ra rk rv rb
      obtain ⟨k, v⟩ := x
      obtain ⟨k2, v2⟩ := y
      have hm : T.meets ltZ (T.node la lk lv lb).toList (T.node ra rk rv rb).toList = ltZ k k2 := by unfold T.meets; rw [hx2, hy2]
      rw [hm]
      have hs0 : (T.node la lk lv lb).size < 4611686018427387904 := by unfold big at hs; omega
      have A1 := at_any (((T.node la lk lv lb).size : Int) - 1) hl (by unfold big; omega) (by omega) (by omega)
      rw [hx1] at A1
      have A2 : ∀ w1, Below w.heap.size w w1 → Calls Try.prog 17 #[.pointer pr, .int .i64 0] w1 fun e w' => AtP (some (k2, v2)) e ∧ Below w1.heap.size w1 w' := fun w1 B => by
        have := at_any 0 (hr.below B) (by omega) (by decide) (by decide)
        rw [hy1] at this; exact this
      have HA2 := Lib.hid A2
      have hl0 := hl
      obtain ⟨b, pl', pr', rfl, hb, _, _⟩ := hl
      obtain ⟨b', _, _, rfl, _⟩ := hr
      obtain ⟨n, hn⟩ : ∃ n, n = (T.node la lk lv lb).size := ⟨_, rfl⟩
      have hn1 : 1 ≤ n := by rw [hn]; simp only [T.size]; omega
      rw [← hn] at A1 hs0
      have x4 := cell_blk hb 4 (v := .int .i64 (n : Int)) (by rw [hn]; rfl)
      have HA1 := Lib.hid A1
      obtain ⟨t, ht⟩ := named (ltZ k k2)
      rw [ht]
      have HT := Lib.hid ht
      clear A1 A2 BB hn hb hm hx1 hx2 hy1 hy2 hl0 ht
      go_enter Try.func23, Try.ntmps23
      go_wp2_with (fail)
      refine HA1.out.mono ?_
      rintro e w1 ⟨he, B1⟩
      change e = _ at he
      subst he
      have HA3 := Lib.hid (HA2.out w1 B1)
      have HB1 := Lib.hid B1
      clear B1
      go_wp2_with (fail)
      refine HA3.out.mono ?_
      rintro e w2 ⟨he, B2⟩
      change e = _ at he
      subst he
      have LS := less_any k k2 w2
      rw [HT.out] at LS
      have HLS := Lib.hid LS
      have HB2 := Lib.hid (HB1.out.trans (B2.mono HB1.out.size))
      clear B2 LS
      go_wp2_with (fail)
      refine HLS.out.mono ?_
      rintro e w_ ⟨rfl, rfl⟩
      cases t
      · go_wp2_with (fail)
        go_ret2
        exact ⟨HB2.out, rfl⟩
      · go_wp2_with (fail)
        refine (HBB.out _ HB2.out).mono ?_
        rintro e w3 ⟨p3, rfl, T3, B3⟩
        go_wp2_with (fail)
        go_ret2
        exact ⟨HB2.out.trans (B3.mono HB2.out.size), p3, rfl, T3⟩
end Ti
end Go.Proofs.Ytmichnnkkpgpmaa
