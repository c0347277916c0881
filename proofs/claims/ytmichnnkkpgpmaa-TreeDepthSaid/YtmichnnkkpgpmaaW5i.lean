/- Put, Get. Printed out of one text for each instance (wip/tools/inst.py). -/
import Derived.Test.YtmichnnkkpgpmaaW4i
import Derived.Test.YtmichnnkkpgpmaaCi
namespace Go.Proofs.Ytmichnnkkpgpmaa
set_option linter.unusedVariables false
set_option linter.unusedSimpArgs false
open Go.RowKit Go.Deep Go.Proofs.YtmichnnkkpgpmaaW.PrintLast
namespace Ti
set_option maxRecDepth 100000 in
set_option maxHeartbeats 2000000 in
theorem put_any (k : Int) (v : Int) : ∀ (t : Tr) {w : World} {p : Option Addr}, TreeAt w p t → t.size + 1 < big → Calls Try.prog 31 #[.pointer p, (.int .i64 k), (.int .i64 v)] w (NewT w (T.put ltZ k v t)) := by
  intro t
  induction t with
  | nil =>
    intro w p h hs
    obtain rfl : p = none := h
    have N1 := Lib.hid (node_any (w := w) (pl := none) (pr := none) (l := .nil) (r := .nil) rfl rfl (by decide) k v)
    go_enter Try.func31, Try.ntmps31
    go_wp2_with (fail)
    refine N1.out.mono ?_
    rintro e w1 ⟨p1, rfl, T1, B1⟩
    go_wp2_with (fail)
    go_ret
    exact ⟨_, rfl, T1, B1⟩
  | node l k' v' r ihl ihr =>
    intro w p h hs
    simp only [T.size] at hs
    have sl := T.size_put ltZ k v l
    have sr := T.size_put ltZ k v r
    obtain ⟨tt, htt⟩ : ∃ tt, tt = T.put ltZ k v (.node l k' v' r) := ⟨_, rfl⟩
    rw [← htt]
    unfold T.put at htt
    obtain ⟨b, pl, pr, rfl, hb, hl, hr⟩ := h
    have x0 := cell_blk hb 0 rfl
    have x1 := cell_blk hb 1 rfl
    have x2 := cell_blk hb 2 rfl
    have x3 := cell_blk hb 3 rfl
    have HL := Lib.hid hl
    have HR := Lib.hid hr
    clear hb hl hr
    cases hc1 : ltZ k k' with
    | true =>
      rw [hc1, if_pos rfl] at htt
      have HT := Lib.hid htt
      have CC := Lib.hid (cmp_lt hc1 w)
      have P1 := Lib.hid (ihl HL.out.drew (by omega))
      clear htt hc1 ihl ihr
      go_enter Try.func31, Try.ntmps31
      go_wp2_with (fail)
      refine CC.out.mono ?_
      rintro e w_ ⟨rfl, rfl⟩
      go_wp2_with (fail)
      refine start_ (n := 21) (S := fun w' => w'.cell? ⟨b, 0, none⟩ = some (.pointer pl) ∧ w'.cell? ⟨b, 1, none⟩ = some (.pointer pr) ∧ w'.cell? ⟨b, 2, none⟩ = some ((.int .i64 k')) ∧ w'.cell? ⟨b, 3, none⟩ = some ((.int .i64 v'))) (ds := []) #[false, false, false, false, false, false, false, false, false, false, false, false, false, false, false, false, false, false, false, false, false] (by kernel_rfl) rfl rfl ⟨x0, x1, x2, x3⟩ (fun hHeld => ?_)
      (refine take_ (i := 0) (N := some 22) (v := ?v_2) (a' := ?a_2) #[true, false, false, false, false, false, false, false, false, false, false, false, false, false, false, false, false, false, false, false, false] rfl rfl (by kernel_rfl) (fun _ _ _ h => h) (Or.inl ⟨by rfl, ?hy_2⟩) hHeld ?ha_2 ?hh_2; (case hy_2 => (rintro w' ⟨s0_, s1_, s2_, s3_⟩; go_simp; with_reducible rfl)); (case ha_2 => (simp (disch := omega) only [Act.put, List.setIfInBounds_toArray, List.set_cons_zero, List.set_cons_succ, wrap_in]; rfl)))
      (refine take_ (i := 1) (N := some 23) (v := ?v_3) (a' := ?a_3) #[true, true, false, false, false, false, false, false, false, false, false, false, false, false, false, false, false, false, false, false, false] rfl rfl (by kernel_rfl) (fun _ _ _ h => h) (Or.inl ⟨by rfl, ?hy_3⟩) hHeld ?ha_3 ?hh_3; (case hy_3 => (rintro w' ⟨s0_, s1_, s2_, s3_⟩; go_simp; with_reducible rfl)); (case ha_3 => (simp (disch := omega) only [Act.put, List.setIfInBounds_toArray, List.set_cons_zero, List.set_cons_succ, wrap_in]; rfl)))
      (refine take_ (i := 2) (N := some 24) (v := ?v_4) (a' := ?a_4) #[true, true, true, false, false, false, false, false, false, false, false, false, false, false, false, false, false, false, false, false, false] rfl rfl (by kernel_rfl) (fun _ _ _ h => h) (Or.inl ⟨by rfl, ?hy_4⟩) hHeld ?ha_4 ?hh_4; (case hy_4 => (rintro w' ⟨s0_, s1_, s2_, s3_⟩; go_simp; with_reducible rfl)); (case ha_4 => (simp (disch := omega) only [Act.put, List.setIfInBounds_toArray, List.set_cons_zero, List.set_cons_succ, wrap_in]; rfl)))
      (refine take_ (i := 3) (N := some 25) (v := ?v_5) (a' := ?a_5) #[true, true, true, true, false, false, false, false, false, false, false, false, false, false, false, false, false, false, false, false, false] rfl rfl (by kernel_rfl) (fun _ _ _ h => h) (Or.inl ⟨by rfl, ?hy_5⟩) hHeld ?ha_5 ?hh_5; (case hy_5 => (rintro w' ⟨s0_, s1_, s2_, s3_⟩; go_simp; with_reducible rfl)); (case ha_5 => (simp (disch := omega) only [Act.put, List.setIfInBounds_toArray, List.set_cons_zero, List.set_cons_succ, wrap_in]; rfl)))
      (refine take_ (i := 4) (N := some 26) (v := ?v_6) (a' := ?a_6) #[true, true, true, true, true, false, false, false, false, false, false, false, false, false, false, false, false, false, false, false, false] rfl rfl (by kernel_rfl) (fun _ _ _ h => h) (Or.inl ⟨by rfl, ?hy_6⟩) hHeld ?ha_6 ?hh_6; (case hy_6 => (rintro w' ⟨s0_, s1_, s2_, s3_⟩; go_simp; with_reducible rfl)); (case ha_6 => (simp (disch := omega) only [Act.put, List.setIfInBounds_toArray, List.set_cons_zero, List.set_cons_succ, wrap_in]; rfl)))
      (refine take_ (i := 5) (N := some 27) (v := ?v_7) (a' := ?a_7) #[true, true, true, true, true, true, false, false, false, false, false, false, false, false, false, false, false, false, false, false, false] rfl rfl (by kernel_rfl) (fun _ _ _ h => h) (Or.inl ⟨by rfl, ?hy_7⟩) hHeld ?ha_7 ?hh_7; (case hy_7 => (rintro w' ⟨s0_, s1_, s2_, s3_⟩; go_simp; with_reducible rfl)); (case ha_7 => (simp (disch := omega) only [Act.put, List.setIfInBounds_toArray, List.set_cons_zero, List.set_cons_succ, wrap_in]; rfl)))
      (refine take_ (i := 7) (N := some 29) (v := ?v_8) (a' := ?a_8) #[true, true, true, true, true, true, false, true, false, false, false, false, false, false, false, false, false, false, false, false, false] rfl rfl (by kernel_rfl) (fun _ _ _ h => h) (Or.inl ⟨by rfl, ?hy_8⟩) hHeld ?ha_8 ?hh_8; (case hy_8 => (rintro w' ⟨s0_, s1_, s2_, s3_⟩; go_simp; with_reducible rfl)); (case ha_8 => (simp (disch := omega) only [Act.put, List.setIfInBounds_toArray, List.set_cons_zero, List.set_cons_succ, wrap_in]; rfl)))
      (refine take_ (i := 8) (N := some 30) (v := ?v_9) (a' := ?a_9) #[true, true, true, true, true, true, false, true, true, false, false, false, false, false, false, false, false, false, false, false, false] rfl rfl (by kernel_rfl) (fun _ _ _ h => h) (Or.inl ⟨by rfl, ?hy_9⟩) hHeld ?ha_9 ?hh_9; (case hy_9 => (rintro w' ⟨s0_, s1_, s2_, s3_⟩; go_simp; with_reducible rfl)); (case ha_9 => (simp (disch := omega) only [Act.put, List.setIfInBounds_toArray, List.set_cons_zero, List.set_cons_succ, wrap_in]; rfl)))
      (refine take_ (i := 9) (N := some 31) (v := ?v_10) (a' := ?a_10) #[true, true, true, true, true, true, false, true, true, true, false, false, false, false, false, false, false, false, false, false, false] rfl rfl (by kernel_rfl) (fun _ _ _ h => h) (Or.inl ⟨by rfl, ?hy_10⟩) hHeld ?ha_10 ?hh_10; (case hy_10 => (rintro w' ⟨s0_, s1_, s2_, s3_⟩; go_simp; with_reducible rfl)); (case ha_10 => (simp (disch := omega) only [Act.put, List.setIfInBounds_toArray, List.set_cons_zero, List.set_cons_succ, wrap_in]; rfl)))
      (refine take_ (i := 10) (N := some 32) (v := ?v_11) (a' := ?a_11) #[true, true, true, true, true, true, false, true, true, true, true, false, false, false, false, false, false, false, false, false, false] rfl rfl (by kernel_rfl) (fun _ _ _ h => h) (Or.inl ⟨by rfl, ?hy_11⟩) hHeld ?ha_11 ?hh_11; (case hy_11 => (rintro w' ⟨s0_, s1_, s2_, s3_⟩; go_simp; with_reducible rfl)); (case ha_11 => (simp (disch := omega) only [Act.put, List.setIfInBounds_toArray, List.set_cons_zero, List.set_cons_succ, wrap_in]; rfl)))
      (refine take_ (i := 11) (N := some 33) (v := ?v_12) (a' := ?a_12) #[true, true, true, true, true, true, false, true, true, true, true, true, false, false, false, false, false, false, false, false, false] rfl rfl (by kernel_rfl) (fun _ _ _ h => h) (Or.inl ⟨by rfl, ?hy_12⟩) hHeld ?ha_12 ?hh_12; (case hy_12 => (rintro w' ⟨s0_, s1_, s2_, s3_⟩; go_simp; with_reducible rfl)); (case ha_12 => (simp (disch := omega) only [Act.put, List.setIfInBounds_toArray, List.set_cons_zero, List.set_cons_succ, wrap_in]; rfl)))
      (refine take_ (i := 12) (N := some 34) (v := ?v_13) (a' := ?a_13) #[true, true, true, true, true, true, false, true, true, true, true, true, true, false, false, false, false, false, false, false, false] rfl rfl (by kernel_rfl) (fun _ _ _ h => h) (Or.inl ⟨by rfl, ?hy_13⟩) hHeld ?ha_13 ?hh_13; (case hy_13 => (rintro w' ⟨s0_, s1_, s2_, s3_⟩; go_simp; with_reducible rfl)); (case ha_13 => (simp (disch := omega) only [Act.put, List.setIfInBounds_toArray, List.set_cons_zero, List.set_cons_succ, wrap_in]; rfl)))
      (refine take_ (i := 13) (N := some 35) (v := ?v_14) (a' := ?a_14) #[true, true, true, true, true, true, false, true, true, true, true, true, true, true, false, false, false, false, false, false, false] rfl rfl (by kernel_rfl) (fun _ _ _ h => h) (Or.inl ⟨by rfl, ?hy_14⟩) hHeld ?ha_14 ?hh_14; (case hy_14 => (rintro w' ⟨s0_, s1_, s2_, s3_⟩; go_simp; with_reducible rfl)); (case ha_14 => (simp (disch := omega) only [Act.put, List.setIfInBounds_toArray, List.set_cons_zero, List.set_cons_succ, wrap_in]; rfl)))
      (refine take_ (i := 14) (N := some 36) (v := ?v_15) (a' := ?a_15) #[true, true, true, true, true, true, false, true, true, true, true, true, true, true, true, false, false, false, false, false, false] rfl rfl (by kernel_rfl) (fun _ _ _ h => h) (Or.inl ⟨by rfl, ?hy_15⟩) hHeld ?ha_15 ?hh_15; (case hy_15 => (rintro w' ⟨s0_, s1_, s2_, s3_⟩; go_simp; with_reducible rfl)); (case ha_15 => (simp (disch := omega) only [Act.put, List.setIfInBounds_toArray, List.set_cons_zero, List.set_cons_succ, wrap_in]; rfl)))
      (refine take_ (i := 15) (N := some 37) (v := ?v_16) (a' := ?a_16) #[true, true, true, true, true, true, false, true, true, true, true, true, true, true, true, true, false, false, false, false, false] rfl rfl (by kernel_rfl) (fun _ _ _ h => h) (Or.inl ⟨by rfl, ?hy_16⟩) hHeld ?ha_16 ?hh_16; (case hy_16 => (rintro w' ⟨s0_, s1_, s2_, s3_⟩; go_simp; with_reducible rfl)); (case ha_16 => (simp (disch := omega) only [Act.put, List.setIfInBounds_toArray, List.set_cons_zero, List.set_cons_succ, wrap_in]; rfl)))
      (refine take_ (i := 16) (N := some 38) (v := ?v_17) (a' := ?a_17) #[true, true, true, true, true, true, false, true, true, true, true, true, true, true, true, true, true, false, false, false, false] rfl rfl (by kernel_rfl) (fun _ _ _ h => h) (Or.inl ⟨by rfl, ?hy_17⟩) hHeld ?ha_17 ?hh_17; (case hy_17 => (rintro w' ⟨s0_, s1_, s2_, s3_⟩; go_simp; with_reducible rfl)); (case ha_17 => (simp (disch := omega) only [Act.put, List.setIfInBounds_toArray, List.set_cons_zero, List.set_cons_succ, wrap_in]; rfl)))
      (refine take_ (i := 17) (N := some 39) (v := ?v_18) (a' := ?a_18) #[true, true, true, true, true, true, false, true, true, true, true, true, true, true, true, true, true, true, false, false, false] rfl rfl (by kernel_rfl) (fun _ _ _ h => h) (Or.inl ⟨by rfl, ?hy_18⟩) hHeld ?ha_18 ?hh_18; (case hy_18 => (rintro w' ⟨s0_, s1_, s2_, s3_⟩; go_simp; with_reducible rfl)); (case ha_18 => (simp (disch := omega) only [Act.put, List.setIfInBounds_toArray, List.set_cons_zero, List.set_cons_succ, wrap_in]; rfl)))
      (refine take_ (i := 18) (N := some 40) (v := ?v_19) (a' := ?a_19) #[true, true, true, true, true, true, false, true, true, true, true, true, true, true, true, true, true, true, true, false, false] rfl rfl (by kernel_rfl) (fun _ _ _ h => h) (Or.inl ⟨by rfl, ?hy_19⟩) hHeld ?ha_19 ?hh_19; (case hy_19 => (rintro w' ⟨s0_, s1_, s2_, s3_⟩; go_simp; with_reducible rfl)); (case ha_19 => (simp (disch := omega) only [Act.put, List.setIfInBounds_toArray, List.set_cons_zero, List.set_cons_succ, wrap_in]; rfl)))
      refine one_ (i := 6) (N := some 28) #[true, true, true, true, true, true, true, true, true, true, true, true, true, true, true, true, true, true, true, false, false] rfl rfl (by kernel_rfl) (by decide) (fun K hK => ?_)
      (refine goes_ Try.func31 (by kernel_rfl) rfl ?args_21 (by rfl) rfl rfl ?hargs_21 ?hc_21; (case hargs_21 => (go_simp; with_reducible rfl)))
      (refine P1.out.mono ?_; rintro e w1 ⟨p1, rfl, T1, B1⟩; refine ⟨_, rfl, ?_⟩)
      (refine hK.out _ _ ?hs_23 ?hn_23; (case hs_23 => (obtain ⟨s0_, s1_, s2_, s3_⟩ := hHeld; exact ⟨cell_below B1 s0_, cell_below B1 s1_, cell_below B1 s2_, cell_below B1 s3_⟩)); intro hHeld; clear hK K)
      (refine norm_ (a' := ?a_24) ?ha_24 ?hh_24; (case ha_24 => (simp (disch := omega) only [Act.put, List.setIfInBounds_toArray, List.set_cons_zero, List.set_cons_succ, wrap_in]; rfl)))
      refine one_ (i := 19) (N := some 41) #[true, true, true, true, true, true, true, true, true, true, true, true, true, true, true, true, true, true, true, true, false] rfl rfl (by kernel_rfl) (by decide) (fun K hK => ?_)
      (refine goes_ Try.func66 (by kernel_rfl) rfl ?args_26 (by rfl) rfl rfl ?hargs_26 ?hc_26; (case hargs_26 => (go_simp; with_reducible rfl)))
      (refine (join_any _ _ k' v' T1 (HR.out.drew.below B1) (by omega)).mono ?_; rintro e w2 ⟨p2, rfl, T2, B2⟩; refine ⟨_, rfl, ?_⟩)
      (refine hK.out _ _ ?hs_28 ?hn_28; (case hs_28 => (obtain ⟨s0_, s1_, s2_, s3_⟩ := hHeld; exact ⟨cell_below B2 s0_, cell_below B2 s1_, cell_below B2 s2_, cell_below B2 s3_⟩)); intro hHeld; clear hK K)
      (refine norm_ (a' := ?a_29) ?ha_29 ?hh_29; (case ha_29 => (simp (disch := omega) only [Act.put, List.setIfInBounds_toArray, List.set_cons_zero, List.set_cons_succ, wrap_in]; rfl)))
      (refine take_ (i := 20) (N := some 6) (v := ?v_30) (a' := ?a_30) #[true, true, true, true, true, true, true, true, true, true, true, true, true, true, true, true, true, true, true, true, true] rfl rfl (by kernel_rfl) (fun _ _ _ h => h) (Or.inl ⟨by rfl, ?hy_30⟩) hHeld ?ha_30 ?hh_30; (case hy_30 => (rintro w' ⟨s0_, s1_, s2_, s3_⟩; go_simp; with_reducible rfl)); (case ha_30 => (simp (disch := omega) only [Act.put, List.setIfInBounds_toArray, List.set_cons_zero, List.set_cons_succ, wrap_in]; rfl)))
      refine done_ (by kernel_rfl) ?_
      go_wp2_with (fail)
      go_ret
      exact ⟨_, rfl, by rw [HT.out]; exact T2, (Below.refl _ _).drew.trans (B1.trans (B2.mono B1.size))⟩
    | false =>
    cases hc2 : ltZ k' k with
    | true =>
      rw [hc1, if_neg (by decide), hc2, if_pos rfl] at htt
      have HT := Lib.hid htt
      have CC := Lib.hid (cmp_gt hc2 w)
      have P1 := Lib.hid (ihr HR.out.drew (by omega))
      clear htt hc1 hc2 ihl ihr
      go_enter Try.func31, Try.ntmps31
      go_wp2_with (fail)
      refine CC.out.mono ?_
      rintro e w_ ⟨rfl, rfl⟩
      go_wp2_with (fail)
      refine start_ (n := 21) (S := fun w' => w'.cell? ⟨b, 0, none⟩ = some (.pointer pl) ∧ w'.cell? ⟨b, 1, none⟩ = some (.pointer pr) ∧ w'.cell? ⟨b, 2, none⟩ = some ((.int .i64 k')) ∧ w'.cell? ⟨b, 3, none⟩ = some ((.int .i64 v'))) (ds := []) #[false, false, false, false, false, false, false, false, false, false, false, false, false, false, false, false, false, false, false, false, false] (by kernel_rfl) rfl rfl ⟨x0, x1, x2, x3⟩ (fun hHeld => ?_)
      (refine take_ (i := 0) (N := some 45) (v := ?v_33) (a' := ?a_33) #[true, false, false, false, false, false, false, false, false, false, false, false, false, false, false, false, false, false, false, false, false] rfl rfl (by kernel_rfl) (fun _ _ _ h => h) (Or.inl ⟨by rfl, ?hy_33⟩) hHeld ?ha_33 ?hh_33; (case hy_33 => (rintro w' ⟨s0_, s1_, s2_, s3_⟩; go_simp; with_reducible rfl)); (case ha_33 => (simp (disch := omega) only [Act.put, List.setIfInBounds_toArray, List.set_cons_zero, List.set_cons_succ, wrap_in]; rfl)))
      (refine take_ (i := 1) (N := some 46) (v := ?v_34) (a' := ?a_34) #[true, true, false, false, false, false, false, false, false, false, false, false, false, false, false, false, false, false, false, false, false] rfl rfl (by kernel_rfl) (fun _ _ _ h => h) (Or.inl ⟨by rfl, ?hy_34⟩) hHeld ?ha_34 ?hh_34; (case hy_34 => (rintro w' ⟨s0_, s1_, s2_, s3_⟩; go_simp; with_reducible rfl)); (case ha_34 => (simp (disch := omega) only [Act.put, List.setIfInBounds_toArray, List.set_cons_zero, List.set_cons_succ, wrap_in]; rfl)))
      (refine take_ (i := 2) (N := some 47) (v := ?v_35) (a' := ?a_35) #[true, true, true, false, false, false, false, false, false, false, false, false, false, false, false, false, false, false, false, false, false] rfl rfl (by kernel_rfl) (fun _ _ _ h => h) (Or.inl ⟨by rfl, ?hy_35⟩) hHeld ?ha_35 ?hh_35; (case hy_35 => (rintro w' ⟨s0_, s1_, s2_, s3_⟩; go_simp; with_reducible rfl)); (case ha_35 => (simp (disch := omega) only [Act.put, List.setIfInBounds_toArray, List.set_cons_zero, List.set_cons_succ, wrap_in]; rfl)))
      (refine take_ (i := 3) (N := some 48) (v := ?v_36) (a' := ?a_36) #[true, true, true, true, false, false, false, false, false, false, false, false, false, false, false, false, false, false, false, false, false] rfl rfl (by kernel_rfl) (fun _ _ _ h => h) (Or.inl ⟨by rfl, ?hy_36⟩) hHeld ?ha_36 ?hh_36; (case hy_36 => (rintro w' ⟨s0_, s1_, s2_, s3_⟩; go_simp; with_reducible rfl)); (case ha_36 => (simp (disch := omega) only [Act.put, List.setIfInBounds_toArray, List.set_cons_zero, List.set_cons_succ, wrap_in]; rfl)))
      (refine take_ (i := 4) (N := some 49) (v := ?v_37) (a' := ?a_37) #[true, true, true, true, true, false, false, false, false, false, false, false, false, false, false, false, false, false, false, false, false] rfl rfl (by kernel_rfl) (fun _ _ _ h => h) (Or.inl ⟨by rfl, ?hy_37⟩) hHeld ?ha_37 ?hh_37; (case hy_37 => (rintro w' ⟨s0_, s1_, s2_, s3_⟩; go_simp; with_reducible rfl)); (case ha_37 => (simp (disch := omega) only [Act.put, List.setIfInBounds_toArray, List.set_cons_zero, List.set_cons_succ, wrap_in]; rfl)))
      (refine take_ (i := 5) (N := some 50) (v := ?v_38) (a' := ?a_38) #[true, true, true, true, true, true, false, false, false, false, false, false, false, false, false, false, false, false, false, false, false] rfl rfl (by kernel_rfl) (fun _ _ _ h => h) (Or.inl ⟨by rfl, ?hy_38⟩) hHeld ?ha_38 ?hh_38; (case hy_38 => (rintro w' ⟨s0_, s1_, s2_, s3_⟩; go_simp; with_reducible rfl)); (case ha_38 => (simp (disch := omega) only [Act.put, List.setIfInBounds_toArray, List.set_cons_zero, List.set_cons_succ, wrap_in]; rfl)))
      (refine take_ (i := 6) (N := some 51) (v := ?v_39) (a' := ?a_39) #[true, true, true, true, true, true, true, false, false, false, false, false, false, false, false, false, false, false, false, false, false] rfl rfl (by kernel_rfl) (fun _ _ _ h => h) (Or.inl ⟨by rfl, ?hy_39⟩) hHeld ?ha_39 ?hh_39; (case hy_39 => (rintro w' ⟨s0_, s1_, s2_, s3_⟩; go_simp; with_reducible rfl)); (case ha_39 => (simp (disch := omega) only [Act.put, List.setIfInBounds_toArray, List.set_cons_zero, List.set_cons_succ, wrap_in]; rfl)))
      (refine take_ (i := 7) (N := some 52) (v := ?v_40) (a' := ?a_40) #[true, true, true, true, true, true, true, true, false, false, false, false, false, false, false, false, false, false, false, false, false] rfl rfl (by kernel_rfl) (fun _ _ _ h => h) (Or.inl ⟨by rfl, ?hy_40⟩) hHeld ?ha_40 ?hh_40; (case hy_40 => (rintro w' ⟨s0_, s1_, s2_, s3_⟩; go_simp; with_reducible rfl)); (case ha_40 => (simp (disch := omega) only [Act.put, List.setIfInBounds_toArray, List.set_cons_zero, List.set_cons_succ, wrap_in]; rfl)))
      (refine take_ (i := 8) (N := some 53) (v := ?v_41) (a' := ?a_41) #[true, true, true, true, true, true, true, true, true, false, false, false, false, false, false, false, false, false, false, false, false] rfl rfl (by kernel_rfl) (fun _ _ _ h => h) (Or.inl ⟨by rfl, ?hy_41⟩) hHeld ?ha_41 ?hh_41; (case hy_41 => (rintro w' ⟨s0_, s1_, s2_, s3_⟩; go_simp; with_reducible rfl)); (case ha_41 => (simp (disch := omega) only [Act.put, List.setIfInBounds_toArray, List.set_cons_zero, List.set_cons_succ, wrap_in]; rfl)))
      (refine take_ (i := 9) (N := some 54) (v := ?v_42) (a' := ?a_42) #[true, true, true, true, true, true, true, true, true, true, false, false, false, false, false, false, false, false, false, false, false] rfl rfl (by kernel_rfl) (fun _ _ _ h => h) (Or.inl ⟨by rfl, ?hy_42⟩) hHeld ?ha_42 ?hh_42; (case hy_42 => (rintro w' ⟨s0_, s1_, s2_, s3_⟩; go_simp; with_reducible rfl)); (case ha_42 => (simp (disch := omega) only [Act.put, List.setIfInBounds_toArray, List.set_cons_zero, List.set_cons_succ, wrap_in]; rfl)))
      (refine take_ (i := 10) (N := some 55) (v := ?v_43) (a' := ?a_43) #[true, true, true, true, true, true, true, true, true, true, true, false, false, false, false, false, false, false, false, false, false] rfl rfl (by kernel_rfl) (fun _ _ _ h => h) (Or.inl ⟨by rfl, ?hy_43⟩) hHeld ?ha_43 ?hh_43; (case hy_43 => (rintro w' ⟨s0_, s1_, s2_, s3_⟩; go_simp; with_reducible rfl)); (case ha_43 => (simp (disch := omega) only [Act.put, List.setIfInBounds_toArray, List.set_cons_zero, List.set_cons_succ, wrap_in]; rfl)))
      (refine take_ (i := 11) (N := some 56) (v := ?v_44) (a' := ?a_44) #[true, true, true, true, true, true, true, true, true, true, true, true, false, false, false, false, false, false, false, false, false] rfl rfl (by kernel_rfl) (fun _ _ _ h => h) (Or.inl ⟨by rfl, ?hy_44⟩) hHeld ?ha_44 ?hh_44; (case hy_44 => (rintro w' ⟨s0_, s1_, s2_, s3_⟩; go_simp; with_reducible rfl)); (case ha_44 => (simp (disch := omega) only [Act.put, List.setIfInBounds_toArray, List.set_cons_zero, List.set_cons_succ, wrap_in]; rfl)))
      (refine take_ (i := 12) (N := some 57) (v := ?v_45) (a' := ?a_45) #[true, true, true, true, true, true, true, true, true, true, true, true, true, false, false, false, false, false, false, false, false] rfl rfl (by kernel_rfl) (fun _ _ _ h => h) (Or.inl ⟨by rfl, ?hy_45⟩) hHeld ?ha_45 ?hh_45; (case hy_45 => (rintro w' ⟨s0_, s1_, s2_, s3_⟩; go_simp; with_reducible rfl)); (case ha_45 => (simp (disch := omega) only [Act.put, List.setIfInBounds_toArray, List.set_cons_zero, List.set_cons_succ, wrap_in]; rfl)))
      (refine take_ (i := 13) (N := some 58) (v := ?v_46) (a' := ?a_46) #[true, true, true, true, true, true, true, true, true, true, true, true, true, true, false, false, false, false, false, false, false] rfl rfl (by kernel_rfl) (fun _ _ _ h => h) (Or.inl ⟨by rfl, ?hy_46⟩) hHeld ?ha_46 ?hh_46; (case hy_46 => (rintro w' ⟨s0_, s1_, s2_, s3_⟩; go_simp; with_reducible rfl)); (case ha_46 => (simp (disch := omega) only [Act.put, List.setIfInBounds_toArray, List.set_cons_zero, List.set_cons_succ, wrap_in]; rfl)))
      (refine take_ (i := 14) (N := some 59) (v := ?v_47) (a' := ?a_47) #[true, true, true, true, true, true, true, true, true, true, true, true, true, true, true, false, false, false, false, false, false] rfl rfl (by kernel_rfl) (fun _ _ _ h => h) (Or.inl ⟨by rfl, ?hy_47⟩) hHeld ?ha_47 ?hh_47; (case hy_47 => (rintro w' ⟨s0_, s1_, s2_, s3_⟩; go_simp; with_reducible rfl)); (case ha_47 => (simp (disch := omega) only [Act.put, List.setIfInBounds_toArray, List.set_cons_zero, List.set_cons_succ, wrap_in]; rfl)))
      (refine take_ (i := 15) (N := some 60) (v := ?v_48) (a' := ?a_48) #[true, true, true, true, true, true, true, true, true, true, true, true, true, true, true, true, false, false, false, false, false] rfl rfl (by kernel_rfl) (fun _ _ _ h => h) (Or.inl ⟨by rfl, ?hy_48⟩) hHeld ?ha_48 ?hh_48; (case hy_48 => (rintro w' ⟨s0_, s1_, s2_, s3_⟩; go_simp; with_reducible rfl)); (case ha_48 => (simp (disch := omega) only [Act.put, List.setIfInBounds_toArray, List.set_cons_zero, List.set_cons_succ, wrap_in]; rfl)))
      (refine take_ (i := 16) (N := some 61) (v := ?v_49) (a' := ?a_49) #[true, true, true, true, true, true, true, true, true, true, true, true, true, true, true, true, true, false, false, false, false] rfl rfl (by kernel_rfl) (fun _ _ _ h => h) (Or.inl ⟨by rfl, ?hy_49⟩) hHeld ?ha_49 ?hh_49; (case hy_49 => (rintro w' ⟨s0_, s1_, s2_, s3_⟩; go_simp; with_reducible rfl)); (case ha_49 => (simp (disch := omega) only [Act.put, List.setIfInBounds_toArray, List.set_cons_zero, List.set_cons_succ, wrap_in]; rfl)))
      (refine take_ (i := 17) (N := some 62) (v := ?v_50) (a' := ?a_50) #[true, true, true, true, true, true, true, true, true, true, true, true, true, true, true, true, true, true, false, false, false] rfl rfl (by kernel_rfl) (fun _ _ _ h => h) (Or.inl ⟨by rfl, ?hy_50⟩) hHeld ?ha_50 ?hh_50; (case hy_50 => (rintro w' ⟨s0_, s1_, s2_, s3_⟩; go_simp; with_reducible rfl)); (case ha_50 => (simp (disch := omega) only [Act.put, List.setIfInBounds_toArray, List.set_cons_zero, List.set_cons_succ, wrap_in]; rfl)))
      refine one_ (i := 18) (N := some 63) #[true, true, true, true, true, true, true, true, true, true, true, true, true, true, true, true, true, true, true, false, false] rfl rfl (by kernel_rfl) (by decide) (fun K hK => ?_)
      (refine goes_ Try.func31 (by kernel_rfl) rfl ?args_52 (by rfl) rfl rfl ?hargs_52 ?hc_52; (case hargs_52 => (go_simp; with_reducible rfl)))
      (refine P1.out.mono ?_; rintro e w1 ⟨p1, rfl, T1, B1⟩; refine ⟨_, rfl, ?_⟩)
      (refine hK.out _ _ ?hs_54 ?hn_54; (case hs_54 => (obtain ⟨s0_, s1_, s2_, s3_⟩ := hHeld; exact ⟨cell_below B1 s0_, cell_below B1 s1_, cell_below B1 s2_, cell_below B1 s3_⟩)); intro hHeld; clear hK K)
      (refine norm_ (a' := ?a_55) ?ha_55 ?hh_55; (case ha_55 => (simp (disch := omega) only [Act.put, List.setIfInBounds_toArray, List.set_cons_zero, List.set_cons_succ, wrap_in]; rfl)))
      refine one_ (i := 19) (N := some 64) #[true, true, true, true, true, true, true, true, true, true, true, true, true, true, true, true, true, true, true, true, false] rfl rfl (by kernel_rfl) (by decide) (fun K hK => ?_)
      (refine goes_ Try.func66 (by kernel_rfl) rfl ?args_57 (by rfl) rfl rfl ?hargs_57 ?hc_57; (case hargs_57 => (go_simp; with_reducible rfl)))
      (refine (join_any _ _ k' v' (HL.out.drew.below B1) T1 (by omega)).mono ?_; rintro e w2 ⟨p2, rfl, T2, B2⟩; refine ⟨_, rfl, ?_⟩)
      (refine hK.out _ _ ?hs_59 ?hn_59; (case hs_59 => (obtain ⟨s0_, s1_, s2_, s3_⟩ := hHeld; exact ⟨cell_below B2 s0_, cell_below B2 s1_, cell_below B2 s2_, cell_below B2 s3_⟩)); intro hHeld; clear hK K)
      (refine norm_ (a' := ?a_60) ?ha_60 ?hh_60; (case ha_60 => (simp (disch := omega) only [Act.put, List.setIfInBounds_toArray, List.set_cons_zero, List.set_cons_succ, wrap_in]; rfl)))
      (refine take_ (i := 20) (N := some 6) (v := ?v_61) (a' := ?a_61) #[true, true, true, true, true, true, true, true, true, true, true, true, true, true, true, true, true, true, true, true, true] rfl rfl (by kernel_rfl) (fun _ _ _ h => h) (Or.inl ⟨by rfl, ?hy_61⟩) hHeld ?ha_61 ?hh_61; (case hy_61 => (rintro w' ⟨s0_, s1_, s2_, s3_⟩; go_simp; with_reducible rfl)); (case ha_61 => (simp (disch := omega) only [Act.put, List.setIfInBounds_toArray, List.set_cons_zero, List.set_cons_succ, wrap_in]; rfl)))
      refine done_ (by kernel_rfl) ?_
      go_wp2_with (fail)
      go_ret
      exact ⟨_, rfl, by rw [HT.out]; exact T2, (Below.refl _ _).drew.trans (B1.trans (B2.mono B1.size))⟩
    | false =>
      rw [hc1, if_neg (by decide), hc2, if_neg (by decide)] at htt
      have HT := Lib.hid htt
      have CC := Lib.hid (cmp_eq hc1 hc2 w)
      have N1 := Lib.hid (node_any HL.out.drew HR.out.drew (by omega) k v)
      clear htt hc1 hc2 ihl ihr
      go_enter Try.func31, Try.ntmps31
      go_wp2_with (fail)
      refine CC.out.mono ?_
      rintro e w_ ⟨rfl, rfl⟩
      go_wp2_with (fail)
      refine start_ (n := 12) (S := fun w' => w'.cell? ⟨b, 0, none⟩ = some (.pointer pl) ∧ w'.cell? ⟨b, 1, none⟩ = some (.pointer pr)) (ds := []) #[false, false, false, false, false, false, false, false, false, false, false, false] (by kernel_rfl) rfl rfl ⟨x0, x1⟩ (fun hHeld => ?_)
      (refine take_ (i := 0) (N := some 65) (v := ?v_64) (a' := ?a_64) #[true, false, false, false, false, false, false, false, false, false, false, false] rfl rfl (by kernel_rfl) (fun _ _ _ h => h) (Or.inl ⟨by rfl, ?hy_64⟩) hHeld ?ha_64 ?hh_64; (case hy_64 => (rintro w' ⟨s0_, s1_⟩; go_simp; with_reducible rfl)); (case ha_64 => (simp (disch := omega) only [Act.put, List.setIfInBounds_toArray, List.set_cons_zero, List.set_cons_succ, wrap_in]; rfl)))
      (refine take_ (i := 1) (N := some 66) (v := ?v_65) (a' := ?a_65) #[true, true, false, false, false, false, false, false, false, false, false, false] rfl rfl (by kernel_rfl) (fun _ _ _ h => h) (Or.inl ⟨by rfl, ?hy_65⟩) hHeld ?ha_65 ?hh_65; (case hy_65 => (rintro w' ⟨s0_, s1_⟩; go_simp; with_reducible rfl)); (case ha_65 => (simp (disch := omega) only [Act.put, List.setIfInBounds_toArray, List.set_cons_zero, List.set_cons_succ, wrap_in]; rfl)))
      (refine take_ (i := 2) (N := some 67) (v := ?v_66) (a' := ?a_66) #[true, true, true, false, false, false, false, false, false, false, false, false] rfl rfl (by kernel_rfl) (fun _ _ _ h => h) (Or.inl ⟨by rfl, ?hy_66⟩) hHeld ?ha_66 ?hh_66; (case hy_66 => (rintro w' ⟨s0_, s1_⟩; go_simp; with_reducible rfl)); (case ha_66 => (simp (disch := omega) only [Act.put, List.setIfInBounds_toArray, List.set_cons_zero, List.set_cons_succ, wrap_in]; rfl)))
      (refine take_ (i := 3) (N := some 68) (v := ?v_67) (a' := ?a_67) #[true, true, true, true, false, false, false, false, false, false, false, false] rfl rfl (by kernel_rfl) (fun _ _ _ h => h) (Or.inl ⟨by rfl, ?hy_67⟩) hHeld ?ha_67 ?hh_67; (case hy_67 => (rintro w' ⟨s0_, s1_⟩; go_simp; with_reducible rfl)); (case ha_67 => (simp (disch := omega) only [Act.put, List.setIfInBounds_toArray, List.set_cons_zero, List.set_cons_succ, wrap_in]; rfl)))
      (refine take_ (i := 4) (N := some 69) (v := ?v_68) (a' := ?a_68) #[true, true, true, true, true, false, false, false, false, false, false, false] rfl rfl (by kernel_rfl) (fun _ _ _ h => h) (Or.inl ⟨by rfl, ?hy_68⟩) hHeld ?ha_68 ?hh_68; (case hy_68 => (rintro w' ⟨s0_, s1_⟩; go_simp; with_reducible rfl)); (case ha_68 => (simp (disch := omega) only [Act.put, List.setIfInBounds_toArray, List.set_cons_zero, List.set_cons_succ, wrap_in]; rfl)))
      (refine take_ (i := 5) (N := some 70) (v := ?v_69) (a' := ?a_69) #[true, true, true, true, true, true, false, false, false, false, false, false] rfl rfl (by kernel_rfl) (fun _ _ _ h => h) (Or.inl ⟨by rfl, ?hy_69⟩) hHeld ?ha_69 ?hh_69; (case hy_69 => (rintro w' ⟨s0_, s1_⟩; go_simp; with_reducible rfl)); (case ha_69 => (simp (disch := omega) only [Act.put, List.setIfInBounds_toArray, List.set_cons_zero, List.set_cons_succ, wrap_in]; rfl)))
      (refine take_ (i := 6) (N := some 71) (v := ?v_70) (a' := ?a_70) #[true, true, true, true, true, true, true, false, false, false, false, false] rfl rfl (by kernel_rfl) (fun _ _ _ h => h) (Or.inl ⟨by rfl, ?hy_70⟩) hHeld ?ha_70 ?hh_70; (case hy_70 => (rintro w' ⟨s0_, s1_⟩; go_simp; with_reducible rfl)); (case ha_70 => (simp (disch := omega) only [Act.put, List.setIfInBounds_toArray, List.set_cons_zero, List.set_cons_succ, wrap_in]; rfl)))
      (refine take_ (i := 7) (N := some 72) (v := ?v_71) (a' := ?a_71) #[true, true, true, true, true, true, true, true, false, false, false, false] rfl rfl (by kernel_rfl) (fun _ _ _ h => h) (Or.inl ⟨by rfl, ?hy_71⟩) hHeld ?ha_71 ?hh_71; (case hy_71 => (rintro w' ⟨s0_, s1_⟩; go_simp; with_reducible rfl)); (case ha_71 => (simp (disch := omega) only [Act.put, List.setIfInBounds_toArray, List.set_cons_zero, List.set_cons_succ, wrap_in]; rfl)))
      (refine take_ (i := 8) (N := some 73) (v := ?v_72) (a' := ?a_72) #[true, true, true, true, true, true, true, true, true, false, false, false] rfl rfl (by kernel_rfl) (fun _ _ _ h => h) (Or.inl ⟨by rfl, ?hy_72⟩) hHeld ?ha_72 ?hh_72; (case hy_72 => (rintro w' ⟨s0_, s1_⟩; go_simp; with_reducible rfl)); (case ha_72 => (simp (disch := omega) only [Act.put, List.setIfInBounds_toArray, List.set_cons_zero, List.set_cons_succ, wrap_in]; rfl)))
      (refine take_ (i := 9) (N := some 74) (v := ?v_73) (a' := ?a_73) #[true, true, true, true, true, true, true, true, true, true, false, false] rfl rfl (by kernel_rfl) (fun _ _ _ h => h) (Or.inl ⟨by rfl, ?hy_73⟩) hHeld ?ha_73 ?hh_73; (case hy_73 => (rintro w' ⟨s0_, s1_⟩; go_simp; with_reducible rfl)); (case ha_73 => (simp (disch := omega) only [Act.put, List.setIfInBounds_toArray, List.set_cons_zero, List.set_cons_succ, wrap_in]; rfl)))
      refine one_ (i := 10) (N := some 75) #[true, true, true, true, true, true, true, true, true, true, true, false] rfl rfl (by kernel_rfl) (by decide) (fun K hK => ?_)
      (refine goes_ Try.func70 (by kernel_rfl) rfl ?args_75 (by rfl) rfl rfl ?hargs_75 ?hc_75; (case hargs_75 => (go_simp; with_reducible rfl)))
      (refine N1.out.mono ?_; rintro e w1 ⟨p1, rfl, T1, B1⟩; refine ⟨_, rfl, ?_⟩)
      (refine hK.out _ _ ?hs_77 ?hn_77; (case hs_77 => (obtain ⟨s0_, s1_⟩ := hHeld; exact ⟨cell_below B1 s0_, cell_below B1 s1_⟩)); intro hHeld; clear hK K)
      (refine norm_ (a' := ?a_78) ?ha_78 ?hh_78; (case ha_78 => (simp (disch := omega) only [Act.put, List.setIfInBounds_toArray, List.set_cons_zero, List.set_cons_succ, wrap_in]; rfl)))
      (refine take_ (i := 11) (N := some 6) (v := ?v_79) (a' := ?a_79) #[true, true, true, true, true, true, true, true, true, true, true, true] rfl rfl (by kernel_rfl) (fun _ _ _ h => h) (Or.inl ⟨by rfl, ?hy_79⟩) hHeld ?ha_79 ?hh_79; (case hy_79 => (rintro w' ⟨s0_, s1_⟩; go_simp; with_reducible rfl)); (case ha_79 => (simp (disch := omega) only [Act.put, List.setIfInBounds_toArray, List.set_cons_zero, List.set_cons_succ, wrap_in]; rfl)))
      refine done_ (by kernel_rfl) ?_
      go_wp2_with (fail)
      go_ret
      exact ⟨_, rfl, by rw [HT.out]; exact T1, (Below.refl _ _).drew.trans B1⟩
def GotP (o : Option Int) (e : Ending) : Prop := match o with
  | some v => e = .returned (.tuple #[(.int .i64 v), .bool true])
  | none => e = .returned (.tuple #[.int .i64 0, .bool false])
set_option maxRecDepth 100000 in
set_option maxHeartbeats 2000000 in
theorem get_any (k : Int) {t : Tr} {w : World} {p : Option Addr} (h : TreeAt w p t) : Calls Try.prog 18 #[.pointer p, (.int .i64 k)] w fun e w' => GotP (T.get ltZ k t) e ∧ w = w' := by
  have HH := Lib.hid h
  obtain ⟨tt, htt⟩ : ∃ tt, tt = T.get ltZ k t := ⟨_, rfl⟩
  rw [← htt]
  have HT := Lib.hid htt
  clear h htt
  go_enter Try.func18, Try.ntmps18
  go_wp2_with (fail)
  refine wp_loop_ghost_k (fun (n : Nat) (ac : Act) (wr : World) => ∃ u2 u3 u6 u7 u8 u9 u10 u11 u12 u13 u14 u15 u16 u17 u18 u19 u20 u21 u22 u23 u24 u25 u26 u27 u28 u29 u30 u31 u32 u33 v0 : Value, (∃ (s : Tr) (q : Option Addr), s.size = n ∧ v0 = .pointer q ∧ TreeAt w q s ∧ T.get ltZ k s = tt ∧ w = wr) ∧ ac = ({ tmps := #[v0, ((.int .i64 k)), u2, u3, .int .i64 0, .bool false, u6, u7, u8, u9, u10, u11, u12, u13, u14, u15, u16, u17, u18, u19, u20, u21, u22, u23, u24, u25, u26, u27, u28, u29, u30, u31, u32, u33], defers := [] } : Act)) (t.size) ?atStart ?round
  case' atStart => ((repeat apply Exists.intro); refine ⟨?_, rfl⟩)
  case' round => (intro n ac wr hcut; obtain ⟨u2, hcut⟩ := hcut; obtain ⟨u3, hcut⟩ := hcut; obtain ⟨u6, hcut⟩ := hcut; obtain ⟨u7, hcut⟩ := hcut; obtain ⟨u8, hcut⟩ := hcut; obtain ⟨u9, hcut⟩ := hcut; obtain ⟨u10, hcut⟩ := hcut; obtain ⟨u11, hcut⟩ := hcut; obtain ⟨u12, hcut⟩ := hcut; obtain ⟨u13, hcut⟩ := hcut; obtain ⟨u14, hcut⟩ := hcut; obtain ⟨u15, hcut⟩ := hcut; obtain ⟨u16, hcut⟩ := hcut; obtain ⟨u17, hcut⟩ := hcut; obtain ⟨u18, hcut⟩ := hcut; obtain ⟨u19, hcut⟩ := hcut; obtain ⟨u20, hcut⟩ := hcut; obtain ⟨u21, hcut⟩ := hcut; obtain ⟨u22, hcut⟩ := hcut; obtain ⟨u23, hcut⟩ := hcut; obtain ⟨u24, hcut⟩ := hcut; obtain ⟨u25, hcut⟩ := hcut; obtain ⟨u26, hcut⟩ := hcut; obtain ⟨u27, hcut⟩ := hcut; obtain ⟨u28, hcut⟩ := hcut; obtain ⟨u29, hcut⟩ := hcut; obtain ⟨u30, hcut⟩ := hcut; obtain ⟨u31, hcut⟩ := hcut; obtain ⟨u32, hcut⟩ := hcut; obtain ⟨u33, hcut⟩ := hcut; obtain ⟨v0, hcut⟩ := hcut; obtain ⟨hcut, hac⟩ := hcut; subst hac; intro _ _ _ _)
  case atStart => exact ⟨t, p, rfl, rfl, HH.out, HT.out.symm, rfl⟩
  case round =>
    obtain ⟨s, q, hn, rfl, hs, hg, rfl⟩ := hcut
    cases s with
    | nil =>
      obtain rfl : q = none := hs
      have HG := Lib.hid hg
      clear hg hn
      go_wp2_with (fail)
      go_ret2
      rw [← HG.out]
      exact ⟨rfl, rfl⟩
    | node l k' v' r =>
      simp only [T.size] at hn
      have HN := Lib.hid hn
      unfold T.get at hg
      obtain ⟨b, pl, pr, rfl, hb, hl, hr⟩ := hs
      have x0 := cell_blk hb 0 rfl
      have x1 := cell_blk hb 1 rfl
      have x2 := cell_blk hb 2 rfl
      have x3 := cell_blk hb 3 rfl
      have HL := Lib.hid hl
      have HR := Lib.hid hr
      clear hb hl hr hn
      cases hc1 : ltZ k k' with
      | true =>
        rw [hc1, if_pos rfl] at hg
        have HG := Lib.hid hg
        have CC := Lib.hid (cmp_lt hc1 w)
        clear hg hc1
        go_wp2_with (fail)
        refine CC.out.mono ?_
        rintro e w_ ⟨rfl, rfl⟩
        go_wp2_with (fail)
        go_roundg (l.size)
        case measure => have := HN.out; omega
        case rel => exact ⟨l, pl, rfl, rfl, HL.out, HG.out, rfl⟩
      | false =>
      cases hc2 : ltZ k' k with
      | true =>
        rw [hc1, if_neg (by decide), hc2, if_pos rfl] at hg
        have HG := Lib.hid hg
        have CC := Lib.hid (cmp_gt hc2 w)
        clear hg hc1 hc2
        go_wp2_with (fail)
        refine CC.out.mono ?_
        rintro e w_ ⟨rfl, rfl⟩
        go_wp2_with (fail)
        go_roundg (r.size)
        case measure => have := HN.out; omega
        case rel => exact ⟨r, pr, rfl, rfl, HR.out, HG.out, rfl⟩
      | false =>
        rw [hc1, if_neg (by decide), hc2, if_neg (by decide)] at hg
        have HG := Lib.hid hg
        have CC := Lib.hid (cmp_eq hc1 hc2 w)
        clear hg hc1 hc2
        go_wp2_with (fail)
        refine CC.out.mono ?_
        rintro e w_ ⟨rfl, rfl⟩
        go_wp2_with (fail)
        go_ret2
        rw [← HG.out]
        exact ⟨rfl, rfl⟩
end Ti
end Go.Proofs.Ytmichnnkkpgpmaa
