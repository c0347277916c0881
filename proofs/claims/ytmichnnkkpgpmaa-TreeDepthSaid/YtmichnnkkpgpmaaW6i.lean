/- Rank, At, last, both, Delete, Split, Join. Printed out of one text for each instance (wip/tools/inst.py). -/
import Derived.Test.YtmichnnkkpgpmaaW5i
import Derived.Test.YtmichnnkkpgpmaaM2
namespace Go.Proofs.Ytmichnnkkpgpmaa
set_option linter.unusedVariables false
set_option linter.unusedSimpArgs false
open Go.RowKit Go.Deep Go.Proofs.YtmichnnkkpgpmaaW.PrintLast
namespace Ti
set_option maxRecDepth 100000 in
set_option maxHeartbeats 2000000 in
theorem rank_any (k : Int) {t : Tr} {w : World} {p : Option Addr} (h : TreeAt w p t) (hs : t.size < big) : Calls Try.prog 19 #[.pointer p, (.int .i64 k)] w fun e w' => e = .returned (.int .i64 (T.rank ltZ k t : Int)) ∧ w = w' := by
  have HH := Lib.hid h
  obtain ⟨tt, htt⟩ : ∃ tt, tt = T.rank ltZ k t := ⟨_, rfl⟩
  rw [← htt]
  have HT := Lib.hid htt
  unfold big at hs
  clear h htt
  go_enter Try.func19, Try.ntmps19
  go_wp2_with (fail)
  refine wp_loop_ghost_k (fun (n : Nat) (ac : Act) (wr : World) => ∃ u2 u3 u4 u6 u7 u8 u9 u10 u11 u12 u13 u14 u15 u16 u17 u18 u19 u20 u21 u22 u23 u24 u25 u26 u27 u28 u29 u30 v0 v5 : Value, (∃ (s : Tr) (q : Option Addr) (a : Nat), s.size = n ∧ v0 = .pointer q ∧ v5 = .int .i64 a ∧ TreeAt w q s ∧ a + T.rank ltZ k s = tt ∧ a + s.size ≤ t.size ∧ w = wr) ∧ ac = ({ tmps := #[v0, ((.int .i64 k)), u2, u3, u4, v5, u6, u7, u8, u9, u10, u11, u12, u13, u14, u15, u16, u17, u18, u19, u20, u21, u22, u23, u24, u25, u26, u27, u28, u29, u30], defers := [] } : Act)) (t.size) ?atStart ?round
  case' atStart => ((repeat apply Exists.intro); refine ⟨?_, rfl⟩)
  case' round => (intro n ac wr hcut; obtain ⟨u2, hcut⟩ := hcut; obtain ⟨u3, hcut⟩ := hcut; obtain ⟨u4, hcut⟩ := hcut; obtain ⟨u6, hcut⟩ := hcut; obtain ⟨u7, hcut⟩ := hcut; obtain ⟨u8, hcut⟩ := hcut; obtain ⟨u9, hcut⟩ := hcut; obtain ⟨u10, hcut⟩ := hcut; obtain ⟨u11, hcut⟩ := hcut; obtain ⟨u12, hcut⟩ := hcut; obtain ⟨u13, hcut⟩ := hcut; obtain ⟨u14, hcut⟩ := hcut; obtain ⟨u15, hcut⟩ := hcut; obtain ⟨u16, hcut⟩ := hcut; obtain ⟨u17, hcut⟩ := hcut; obtain ⟨u18, hcut⟩ := hcut; obtain ⟨u19, hcut⟩ := hcut; obtain ⟨u20, hcut⟩ := hcut; obtain ⟨u21, hcut⟩ := hcut; obtain ⟨u22, hcut⟩ := hcut; obtain ⟨u23, hcut⟩ := hcut; obtain ⟨u24, hcut⟩ := hcut; obtain ⟨u25, hcut⟩ := hcut; obtain ⟨u26, hcut⟩ := hcut; obtain ⟨u27, hcut⟩ := hcut; obtain ⟨u28, hcut⟩ := hcut; obtain ⟨u29, hcut⟩ := hcut; obtain ⟨u30, hcut⟩ := hcut; obtain ⟨v0, hcut⟩ := hcut; obtain ⟨v5, hcut⟩ := hcut; obtain ⟨hcut, hac⟩ := hcut; subst hac; intro _ _ _ _)
  case atStart => exact ⟨t, p, 0, rfl, rfl, rfl, HH.out, by rw [HT.out]; omega, by omega, rfl⟩
  case round =>
    obtain ⟨s, q, a, hn, rfl, rfl, hs', hg, hle, rfl⟩ := hcut
    cases s with
    | nil =>
      obtain rfl : q = none := hs'
      have HG := Lib.hid hg
      clear hg hn
      go_wp2_with (fail)
      go_ret
      have := HG.out
      simp only [T.rank, Nat.add_zero] at this
      rw [← this]
      exact ⟨rfl, rfl⟩
    | node l k' v' r =>
      simp only [T.size] at hn hle
      have HN := Lib.hid hn
      unfold T.rank at hg
      obtain ⟨b, pl, pr, rfl, hb, hl, hr⟩ := hs'
      have x0 := cell_blk hb 0 rfl
      have x1 := cell_blk hb 1 rfl
      have x2 := cell_blk hb 2 rfl
      have HL := Lib.hid hl
      have HR := Lib.hid hr
      have LS := Lib.hid (less_any k' k w)
      have LN := Lib.hid (len_any hl)
      clear hb hl hr hn
      cases hc1 : ltZ k' k with
      | true =>
        rw [hc1] at LS
        rw [hc1, if_pos rfl] at hg
        have HG := Lib.hid hg
        clear hg hc1
        obtain ⟨ls, hls⟩ : ∃ ls, ls = l.size := ⟨_, rfl⟩
        rw [← hls] at LN hle
        have HLS := Lib.hid hls
        clear hls
        go_wp2_with (fail)
        refine LS.out.mono ?_
        rintro e w_ ⟨rfl, rfl⟩
        go_wp2_with (fail)
        refine LN.out.mono ?_
        rintro e w_ ⟨rfl, rfl⟩
        go_wp2_with (fail)
        go_roundg (r.size)
        case measure => have := HN.out; omega
        case rel => exact ⟨r, pr, a + (ls + 1), rfl, rfl, by go_num, HR.out, by have := HG.out; have := HLS.out; omega, by omega, rfl⟩
      | false =>
        rw [hc1] at LS
        rw [hc1, if_neg (by decide)] at hg
        have HG := Lib.hid hg
        clear hg hc1
        go_wp2_with (fail)
        refine LS.out.mono ?_
        rintro e w_ ⟨rfl, rfl⟩
        go_wp2_with (fail)
        go_roundg (l.size)
        case measure => have := HN.out; omega
        case rel => exact ⟨l, pl, a, rfl, rfl, rfl, HL.out, HG.out, by omega, rfl⟩
def AtP (o : Option (Int × Int)) (e : Ending) : Prop := match o with
  | some (k, v) => e = .returned (.tuple #[(.int .i64 k), (.int .i64 v), .bool true])
  | none => e = .returned (.tuple #[.int .i64 0, .int .i64 0, .bool false])
set_option maxRecDepth 100000 in
set_option maxHeartbeats 2000000 in
theorem at_any (i : Int) {t : Tr} {w : World} {p : Option Addr} (h : TreeAt w p t) (hs : t.size < big) (i0 : -9223372036854775808 ≤ i) (i1 : i ≤ 9223372036854775807) : Calls Try.prog 17 #[.pointer p, .int .i64 i] w fun e w' => AtP (T.at_ i t) e ∧ Below w.heap.size w w' := by
  have HH := Lib.hid h
  obtain ⟨tt, htt⟩ : ∃ tt, tt = T.at_ i t := ⟨_, rfl⟩
  rw [← htt]
  have HT := Lib.hid htt
  unfold big at hs
  clear h htt
  go_enter Try.func17, Try.ntmps17
  go_wp2_with (fail)
  refine wp_loop_ghost_k (fun (n : Nat) (ac : Act) (wr : World) => ∃ u2 u3 u7 u8 u9 u10 u11 u12 u13 u14 u15 u16 u17 u18 u19 u20 u21 u22 u23 u24 u25 u26 u27 u28 u29 u30 u31 u32 u33 u34 u35 u36 u37 u38 u39 u40 u41 u42 u43 u44 v0 v1 : Value, (∃ (s : Tr) (q : Option Addr) (j : Int), s.size = n ∧ v0 = .pointer q ∧ v1 = .int .i64 j ∧ TreeAt w q s ∧ T.at_ j s = tt ∧ s.size ≤ t.size ∧ -9223372036854775808 ≤ j ∧ j ≤ 9223372036854775807 ∧ w = wr) ∧ ac = ({ tmps := #[v0, v1, u2, u3, .int .i64 0, .int .i64 0, .bool false, u7, u8, u9, u10, u11, u12, u13, u14, u15, u16, u17, u18, u19, u20, u21, u22, u23, u24, u25, u26, u27, u28, u29, u30, u31, u32, u33, u34, u35, u36, u37, u38, u39, u40, u41, u42, u43, u44], defers := [] } : Act)) (t.size) ?atStart ?round
  case' atStart => ((repeat apply Exists.intro); refine ⟨?_, rfl⟩)
  case' round => (intro n ac wr hcut; obtain ⟨u2, hcut⟩ := hcut; obtain ⟨u3, hcut⟩ := hcut; obtain ⟨u7, hcut⟩ := hcut; obtain ⟨u8, hcut⟩ := hcut; obtain ⟨u9, hcut⟩ := hcut; obtain ⟨u10, hcut⟩ := hcut; obtain ⟨u11, hcut⟩ := hcut; obtain ⟨u12, hcut⟩ := hcut; obtain ⟨u13, hcut⟩ := hcut; obtain ⟨u14, hcut⟩ := hcut; obtain ⟨u15, hcut⟩ := hcut; obtain ⟨u16, hcut⟩ := hcut; obtain ⟨u17, hcut⟩ := hcut; obtain ⟨u18, hcut⟩ := hcut; obtain ⟨u19, hcut⟩ := hcut; obtain ⟨u20, hcut⟩ := hcut; obtain ⟨u21, hcut⟩ := hcut; obtain ⟨u22, hcut⟩ := hcut; obtain ⟨u23, hcut⟩ := hcut; obtain ⟨u24, hcut⟩ := hcut; obtain ⟨u25, hcut⟩ := hcut; obtain ⟨u26, hcut⟩ := hcut; obtain ⟨u27, hcut⟩ := hcut; obtain ⟨u28, hcut⟩ := hcut; obtain ⟨u29, hcut⟩ := hcut; obtain ⟨u30, hcut⟩ := hcut; obtain ⟨u31, hcut⟩ := hcut; obtain ⟨u32, hcut⟩ := hcut; obtain ⟨u33, hcut⟩ := hcut; obtain ⟨u34, hcut⟩ := hcut; obtain ⟨u35, hcut⟩ := hcut; obtain ⟨u36, hcut⟩ := hcut; obtain ⟨u37, hcut⟩ := hcut; obtain ⟨u38, hcut⟩ := hcut; obtain ⟨u39, hcut⟩ := hcut; obtain ⟨u40, hcut⟩ := hcut; obtain ⟨u41, hcut⟩ := hcut; obtain ⟨u42, hcut⟩ := hcut; obtain ⟨u43, hcut⟩ := hcut; obtain ⟨u44, hcut⟩ := hcut; obtain ⟨v0, hcut⟩ := hcut; obtain ⟨v1, hcut⟩ := hcut; obtain ⟨hcut, hac⟩ := hcut; subst hac; intro _ _ _ _)
  case atStart => exact ⟨t, p, i, rfl, rfl, rfl, HH.out, HT.out.symm, Nat.le_refl _, i0, i1, rfl⟩
  case round =>
    obtain ⟨s, q, j, hn, rfl, rfl, hs', hg, hle, j0, j1, rfl⟩ := hcut
    cases s with
    | nil =>
      obtain rfl : q = none := hs'
      have HG := Lib.hid hg
      clear hg hn
      go_wp2_with (fail)
      go_ret3
      rw [← HG.out]
      exact ⟨rfl, Below.refl _ _⟩
    | node l k' v' r =>
      simp only [T.size] at hn hle
      have HN := Lib.hid hn
      unfold T.at_ at hg
      obtain ⟨b, pl, pr, rfl, hb, hl, hr⟩ := hs'
      have x0 := cell_blk hb 0 rfl
      have x1 := cell_blk hb 1 rfl
      have x2 := cell_blk hb 2 rfl
      have x3 := cell_blk hb 3 rfl
      have HL := Lib.hid hl
      have HR := Lib.hid hr
      have LN := Lib.hid (len_any hl)
      obtain ⟨ls, hls⟩ : ∃ ls, ls = l.size := ⟨_, rfl⟩
      rw [← hls] at LN hle hg
      have HLS := Lib.hid hls
      clear hb hl hr hn hls
      by_cases hc1 : j < (ls : Int)
      · rw [if_pos hc1] at hg
        have HG := Lib.hid hg
        clear hg
        have t1 : decide (j < (ls : Int)) = true := by simpa using hc1
        go_wp2_with (fail)
        refine LN.out.mono ?_
        rintro e w_ ⟨rfl, rfl⟩
        go_wp2_with (fail)
        go_roundg (l.size)
        case measure => have := HN.out; omega
        case rel => exact ⟨l, pl, j, rfl, rfl, rfl, HL.out, HG.out, by have := HLS.out; omega, j0, j1, rfl⟩
      · rw [if_neg hc1] at hg
        have t1 : decide (j < (ls : Int)) = false := by simpa using hc1
        by_cases hc2 : j = (ls : Int)
        · rw [if_pos hc2] at hg
          subst hc2
          have HG := Lib.hid hg
          clear hg
          go_wp2_with (fail)
          refine LN.out.mono ?_
          rintro e w_ ⟨rfl, rfl⟩
          go_wp2_with (fail)
          refine start_ (n := 11) (S := fun w' => w'.cell? ⟨b, 2, none⟩ = some ((.int .i64 k')) ∧ w'.cell? ⟨b, 3, none⟩ = some ((.int .i64 v'))) (ds := []) #[false, false, false, false, false, false, false, false, false, false, false] (by kernel_rfl) rfl rfl ⟨x2, x3⟩ (fun hHeld => ?_)
          (refine take_ (i := 0) (N := some 35) (v := ?v_2) (a' := ?a_2) #[true, false, false, false, false, false, false, false, false, false, false] rfl rfl (by kernel_rfl) (fun _ _ _ h => h) (Or.inl ⟨by rfl, ?hy_2⟩) hHeld ?ha_2 ?hh_2; (case hy_2 => (rintro w' ⟨s0_, s1_⟩; go_simp; with_reducible rfl)); (case ha_2 => (simp (disch := omega) only [Act.put, List.setIfInBounds_toArray, List.set_cons_zero, List.set_cons_succ, wrap_in]; rfl)))
          (refine take_ (i := 1) (N := some 36) (v := ?v_3) (a' := ?a_3) #[true, true, false, false, false, false, false, false, false, false, false] rfl rfl (by kernel_rfl) (fun _ _ _ h => h) (Or.inl ⟨by rfl, ?hy_3⟩) hHeld ?ha_3 ?hh_3; (case hy_3 => (rintro w' ⟨s0_, s1_⟩; go_simp; with_reducible rfl)); (case ha_3 => (simp (disch := omega) only [Act.put, List.setIfInBounds_toArray, List.set_cons_zero, List.set_cons_succ, wrap_in]; rfl)))
          (refine take_ (i := 2) (N := some 37) (v := ?v_4) (a' := ?a_4) #[true, true, true, false, false, false, false, false, false, false, false] rfl rfl (by kernel_rfl) (fun _ _ _ h => h) (Or.inl ⟨by rfl, ?hy_4⟩) hHeld ?ha_4 ?hh_4; (case hy_4 => (rintro w' ⟨s0_, s1_⟩; go_simp; with_reducible rfl)); (case ha_4 => (simp (disch := omega) only [Act.put, List.setIfInBounds_toArray, List.set_cons_zero, List.set_cons_succ, wrap_in]; rfl)))
          (refine take_ (i := 3) (N := some 38) (v := ?v_5) (a' := ?a_5) #[true, true, true, true, false, false, false, false, false, false, false] rfl rfl (by kernel_rfl) (fun _ _ _ h => h) (Or.inl ⟨by rfl, ?hy_5⟩) hHeld ?ha_5 ?hh_5; (case hy_5 => (rintro w' ⟨s0_, s1_⟩; go_simp; with_reducible rfl)); (case ha_5 => (simp (disch := omega) only [Act.put, List.setIfInBounds_toArray, List.set_cons_zero, List.set_cons_succ, wrap_in]; rfl)))
          (refine take_ (i := 4) (N := some 39) (v := ?v_6) (a' := ?a_6) #[true, true, true, true, true, false, false, false, false, false, false] rfl rfl (by kernel_rfl) (fun _ _ _ h => h) (Or.inl ⟨by rfl, ?hy_6⟩) hHeld ?ha_6 ?hh_6; (case hy_6 => (rintro w' ⟨s0_, s1_⟩; go_simp; with_reducible rfl)); (case ha_6 => (simp (disch := omega) only [Act.put, List.setIfInBounds_toArray, List.set_cons_zero, List.set_cons_succ, wrap_in]; rfl)))
          (refine take_ (i := 5) (N := some 40) (v := ?v_7) (a' := ?a_7) #[true, true, true, true, true, true, false, false, false, false, false] rfl rfl (by kernel_rfl) (fun _ _ _ h => h) (Or.inl ⟨by rfl, ?hy_7⟩) hHeld ?ha_7 ?hh_7; (case hy_7 => (rintro w' ⟨s0_, s1_⟩; go_simp; with_reducible rfl)); (case ha_7 => (simp (disch := omega) only [Act.put, List.setIfInBounds_toArray, List.set_cons_zero, List.set_cons_succ, wrap_in]; rfl)))
          (refine take_ (i := 6) (N := some 41) (v := ?v_8) (a' := ?a_8) #[true, true, true, true, true, true, true, false, false, false, false] rfl rfl (by kernel_rfl) (fun _ _ _ h => h) (Or.inl ⟨by rfl, ?hy_8⟩) hHeld ?ha_8 ?hh_8; (case hy_8 => (rintro w' ⟨s0_, s1_⟩; go_simp; with_reducible rfl)); (case ha_8 => (simp (disch := omega) only [Act.put, List.setIfInBounds_toArray, List.set_cons_zero, List.set_cons_succ, wrap_in]; rfl)))
          (refine take_ (i := 7) (N := some 42) (v := ?v_9) (a' := ?a_9) #[true, true, true, true, true, true, true, true, false, false, false] rfl rfl (by kernel_rfl) (fun _ _ _ h => h) (Or.inl ⟨by rfl, ?hy_9⟩) hHeld ?ha_9 ?hh_9; (case hy_9 => (rintro w' ⟨s0_, s1_⟩; go_simp; with_reducible rfl)); (case ha_9 => (simp (disch := omega) only [Act.put, List.setIfInBounds_toArray, List.set_cons_zero, List.set_cons_succ, wrap_in]; rfl)))
          (refine take_ (i := 8) (N := some 4) (v := ?v_10) (a' := ?a_10) #[true, true, true, true, true, true, true, true, true, false, false] rfl rfl (by kernel_rfl) (fun _ _ _ h => h) (Or.inl ⟨by rfl, ?hy_10⟩) hHeld ?ha_10 ?hh_10; (case hy_10 => (rintro w' ⟨s0_, s1_⟩; go_simp; with_reducible rfl)); (case ha_10 => (simp (disch := omega) only [Act.put, List.setIfInBounds_toArray, List.set_cons_zero, List.set_cons_succ, wrap_in]; rfl)))
          (refine take_ (i := 9) (N := some 5) (v := ?v_11) (a' := ?a_11) #[true, true, true, true, true, true, true, true, true, true, false] rfl rfl (by kernel_rfl) (fun _ _ _ h => h) (Or.inl ⟨by rfl, ?hy_11⟩) hHeld ?ha_11 ?hh_11; (case hy_11 => (rintro w' ⟨s0_, s1_⟩; go_simp; with_reducible rfl)); (case ha_11 => (simp (disch := omega) only [Act.put, List.setIfInBounds_toArray, List.set_cons_zero, List.set_cons_succ, wrap_in]; rfl)))
          (refine take_ (i := 10) (N := some 6) (v := ?v_12) (a' := ?a_12) #[true, true, true, true, true, true, true, true, true, true, true] rfl rfl (by kernel_rfl) (fun _ _ _ h => h) (Or.inl ⟨by rfl, ?hy_12⟩) hHeld ?ha_12 ?hh_12; (case hy_12 => (rintro w' ⟨s0_, s1_⟩; go_simp; with_reducible rfl)); (case ha_12 => (simp (disch := omega) only [Act.put, List.setIfInBounds_toArray, List.set_cons_zero, List.set_cons_succ, wrap_in]; rfl)))
          refine done_ (by kernel_rfl) ?_
          go_wp2_with (fail)
          go_ret3
          rw [← HG.out]
          exact ⟨rfl, (Below.refl _ _).drew⟩
        · rw [if_neg hc2] at hg
          have t2 : (j == (ls : Int)) = false := by simpa using hc2
          have HG := Lib.hid hg
          clear hg
          go_wp2_with (fail)
          refine LN.out.mono ?_
          rintro e w_ ⟨rfl, rfl⟩
          go_wp2_with (fail)
          go_roundg (r.size)
          case measure => have := HN.out; omega
          case rel => exact ⟨r, pr, j - (ls + 1), rfl, rfl, by go_num, HR.out, HG.out, by have := HLS.out; omega, by omega, by omega, rfl⟩
def LastP (w : World) (t : Tr) (k : Int) (v : Int) (e : Ending) (w' : World) : Prop := ∃ p, e = .returned (.tuple #[.pointer p, (.int .i64 k), (.int .i64 v)]) ∧ TreeAt w' p t ∧ Below w.heap.size w w'
set_option maxRecDepth 100000 in
set_option maxHeartbeats 2000000 in
theorem last_any : ∀ (t : Tr) {t' : Tr} {k : Int} {v : Int} {w : World} {p : Option Addr}, TreeAt w p t → t.size < big → T.last t = some (t', k, v) → Calls Try.prog 101 #[.pointer p] w (LastP w t' k v) := by
  intro t
  induction t with
  | nil => intro t' k v w p _ _ h; cases h
  | node l k0 v0 r ihl ihr =>
    intro t' k v w p h hs hlast
    clear ihl
    simp only [T.size] at hs
    obtain ⟨b, pl, pr, rfl, hb, hl, hr⟩ := h
    have x0 := cell_blk hb 0 rfl
    have x1 := cell_blk hb 1 rfl
    have x2 := cell_blk hb 2 rfl
    have x3 := cell_blk hb 3 rfl
    unfold T.last at hlast
    have HL := Lib.hid hl
    have HR := Lib.hid hr
    clear hl
    cases hr2 : T.last r with
    | none =>
      rw [hr2] at hlast
      simp only [Option.some.injEq, Prod.mk.injEq] at hlast
      obtain ⟨rfl, rfl, rfl⟩ := hlast
      have := T.last_none r hr2
      subst this
      obtain rfl : pr = none := hr
      clear hr2 ihr hb
      go_enter Try.func101, Try.ntmps101
      go_wp2_with (fail)
      refine start_ (n := 15) (S := fun w' => w'.cell? ⟨b, 0, none⟩ = some (.pointer pl) ∧ w'.cell? ⟨b, 2, none⟩ = some ((.int .i64 k0)) ∧ w'.cell? ⟨b, 3, none⟩ = some ((.int .i64 v0))) (ds := []) #[false, false, false, false, false, false, false, false, false, false, false, false, false, false, false] (by kernel_rfl) rfl rfl ⟨x0, x2, x3⟩ (fun hHeld => ?_)
      (refine take_ (i := 0) (N := some 13) (v := ?v_15) (a' := ?a_15) #[true, false, false, false, false, false, false, false, false, false, false, false, false, false, false] rfl rfl (by kernel_rfl) (fun _ _ _ h => h) (Or.inl ⟨by rfl, ?hy_15⟩) hHeld ?ha_15 ?hh_15; (case hy_15 => (rintro w' ⟨s0_, s1_, s2_⟩; go_simp; with_reducible rfl)); (case ha_15 => (simp (disch := omega) only [Act.put, List.setIfInBounds_toArray, List.set_cons_zero, List.set_cons_succ, wrap_in]; rfl)))
      (refine take_ (i := 1) (N := some 14) (v := ?v_16) (a' := ?a_16) #[true, true, false, false, false, false, false, false, false, false, false, false, false, false, false] rfl rfl (by kernel_rfl) (fun _ _ _ h => h) (Or.inl ⟨by rfl, ?hy_16⟩) hHeld ?ha_16 ?hh_16; (case hy_16 => (rintro w' ⟨s0_, s1_, s2_⟩; go_simp; with_reducible rfl)); (case ha_16 => (simp (disch := omega) only [Act.put, List.setIfInBounds_toArray, List.set_cons_zero, List.set_cons_succ, wrap_in]; rfl)))
      (refine take_ (i := 2) (N := some 15) (v := ?v_17) (a' := ?a_17) #[true, true, true, false, false, false, false, false, false, false, false, false, false, false, false] rfl rfl (by kernel_rfl) (fun _ _ _ h => h) (Or.inl ⟨by rfl, ?hy_17⟩) hHeld ?ha_17 ?hh_17; (case hy_17 => (rintro w' ⟨s0_, s1_, s2_⟩; go_simp; with_reducible rfl)); (case ha_17 => (simp (disch := omega) only [Act.put, List.setIfInBounds_toArray, List.set_cons_zero, List.set_cons_succ, wrap_in]; rfl)))
      (refine take_ (i := 3) (N := some 16) (v := ?v_18) (a' := ?a_18) #[true, true, true, true, false, false, false, false, false, false, false, false, false, false, false] rfl rfl (by kernel_rfl) (fun _ _ _ h => h) (Or.inl ⟨by rfl, ?hy_18⟩) hHeld ?ha_18 ?hh_18; (case hy_18 => (rintro w' ⟨s0_, s1_, s2_⟩; go_simp; with_reducible rfl)); (case ha_18 => (simp (disch := omega) only [Act.put, List.setIfInBounds_toArray, List.set_cons_zero, List.set_cons_succ, wrap_in]; rfl)))
      (refine take_ (i := 4) (N := some 17) (v := ?v_19) (a' := ?a_19) #[true, true, true, true, true, false, false, false, false, false, false, false, false, false, false] rfl rfl (by kernel_rfl) (fun _ _ _ h => h) (Or.inl ⟨by rfl, ?hy_19⟩) hHeld ?ha_19 ?hh_19; (case hy_19 => (rintro w' ⟨s0_, s1_, s2_⟩; go_simp; with_reducible rfl)); (case ha_19 => (simp (disch := omega) only [Act.put, List.setIfInBounds_toArray, List.set_cons_zero, List.set_cons_succ, wrap_in]; rfl)))
      (refine take_ (i := 5) (N := some 18) (v := ?v_20) (a' := ?a_20) #[true, true, true, true, true, true, false, false, false, false, false, false, false, false, false] rfl rfl (by kernel_rfl) (fun _ _ _ h => h) (Or.inl ⟨by rfl, ?hy_20⟩) hHeld ?ha_20 ?hh_20; (case hy_20 => (rintro w' ⟨s0_, s1_, s2_⟩; go_simp; with_reducible rfl)); (case ha_20 => (simp (disch := omega) only [Act.put, List.setIfInBounds_toArray, List.set_cons_zero, List.set_cons_succ, wrap_in]; rfl)))
      (refine take_ (i := 6) (N := some 19) (v := ?v_21) (a' := ?a_21) #[true, true, true, true, true, true, true, false, false, false, false, false, false, false, false] rfl rfl (by kernel_rfl) (fun _ _ _ h => h) (Or.inl ⟨by rfl, ?hy_21⟩) hHeld ?ha_21 ?hh_21; (case hy_21 => (rintro w' ⟨s0_, s1_, s2_⟩; go_simp; with_reducible rfl)); (case ha_21 => (simp (disch := omega) only [Act.put, List.setIfInBounds_toArray, List.set_cons_zero, List.set_cons_succ, wrap_in]; rfl)))
      (refine take_ (i := 7) (N := some 20) (v := ?v_22) (a' := ?a_22) #[true, true, true, true, true, true, true, true, false, false, false, false, false, false, false] rfl rfl (by kernel_rfl) (fun _ _ _ h => h) (Or.inl ⟨by rfl, ?hy_22⟩) hHeld ?ha_22 ?hh_22; (case hy_22 => (rintro w' ⟨s0_, s1_, s2_⟩; go_simp; with_reducible rfl)); (case ha_22 => (simp (disch := omega) only [Act.put, List.setIfInBounds_toArray, List.set_cons_zero, List.set_cons_succ, wrap_in]; rfl)))
      (refine take_ (i := 8) (N := some 21) (v := ?v_23) (a' := ?a_23) #[true, true, true, true, true, true, true, true, true, false, false, false, false, false, false] rfl rfl (by kernel_rfl) (fun _ _ _ h => h) (Or.inl ⟨by rfl, ?hy_23⟩) hHeld ?ha_23 ?hh_23; (case hy_23 => (rintro w' ⟨s0_, s1_, s2_⟩; go_simp; with_reducible rfl)); (case ha_23 => (simp (disch := omega) only [Act.put, List.setIfInBounds_toArray, List.set_cons_zero, List.set_cons_succ, wrap_in]; rfl)))
      (refine take_ (i := 9) (N := some 22) (v := ?v_24) (a' := ?a_24) #[true, true, true, true, true, true, true, true, true, true, false, false, false, false, false] rfl rfl (by kernel_rfl) (fun _ _ _ h => h) (Or.inl ⟨by rfl, ?hy_24⟩) hHeld ?ha_24 ?hh_24; (case hy_24 => (rintro w' ⟨s0_, s1_, s2_⟩; go_simp; with_reducible rfl)); (case ha_24 => (simp (disch := omega) only [Act.put, List.setIfInBounds_toArray, List.set_cons_zero, List.set_cons_succ, wrap_in]; rfl)))
      (refine take_ (i := 10) (N := some 23) (v := ?v_25) (a' := ?a_25) #[true, true, true, true, true, true, true, true, true, true, true, false, false, false, false] rfl rfl (by kernel_rfl) (fun _ _ _ h => h) (Or.inl ⟨by rfl, ?hy_25⟩) hHeld ?ha_25 ?hh_25; (case hy_25 => (rintro w' ⟨s0_, s1_, s2_⟩; go_simp; with_reducible rfl)); (case ha_25 => (simp (disch := omega) only [Act.put, List.setIfInBounds_toArray, List.set_cons_zero, List.set_cons_succ, wrap_in]; rfl)))
      (refine take_ (i := 11) (N := some 24) (v := ?v_26) (a' := ?a_26) #[true, true, true, true, true, true, true, true, true, true, true, true, false, false, false] rfl rfl (by kernel_rfl) (fun _ _ _ h => h) (Or.inl ⟨by rfl, ?hy_26⟩) hHeld ?ha_26 ?hh_26; (case hy_26 => (rintro w' ⟨s0_, s1_, s2_⟩; go_simp; with_reducible rfl)); (case ha_26 => (simp (disch := omega) only [Act.put, List.setIfInBounds_toArray, List.set_cons_zero, List.set_cons_succ, wrap_in]; rfl)))
      (refine take_ (i := 12) (N := some 2) (v := ?v_27) (a' := ?a_27) #[true, true, true, true, true, true, true, true, true, true, true, true, true, false, false] rfl rfl (by kernel_rfl) (fun _ _ _ h => h) (Or.inl ⟨by rfl, ?hy_27⟩) hHeld ?ha_27 ?hh_27; (case hy_27 => (rintro w' ⟨s0_, s1_, s2_⟩; go_simp; with_reducible rfl)); (case ha_27 => (simp (disch := omega) only [Act.put, List.setIfInBounds_toArray, List.set_cons_zero, List.set_cons_succ, wrap_in]; rfl)))
      (refine take_ (i := 13) (N := some 3) (v := ?v_28) (a' := ?a_28) #[true, true, true, true, true, true, true, true, true, true, true, true, true, true, false] rfl rfl (by kernel_rfl) (fun _ _ _ h => h) (Or.inl ⟨by rfl, ?hy_28⟩) hHeld ?ha_28 ?hh_28; (case hy_28 => (rintro w' ⟨s0_, s1_, s2_⟩; go_simp; with_reducible rfl)); (case ha_28 => (simp (disch := omega) only [Act.put, List.setIfInBounds_toArray, List.set_cons_zero, List.set_cons_succ, wrap_in]; rfl)))
      (refine take_ (i := 14) (N := some 4) (v := ?v_29) (a' := ?a_29) #[true, true, true, true, true, true, true, true, true, true, true, true, true, true, true] rfl rfl (by kernel_rfl) (fun _ _ _ h => h) (Or.inl ⟨by rfl, ?hy_29⟩) hHeld ?ha_29 ?hh_29; (case hy_29 => (rintro w' ⟨s0_, s1_, s2_⟩; go_simp; with_reducible rfl)); (case ha_29 => (simp (disch := omega) only [Act.put, List.setIfInBounds_toArray, List.set_cons_zero, List.set_cons_succ, wrap_in]; rfl)))
      refine done_ (by kernel_rfl) ?_
      go_wp2_with (fail)
      go_ret3
      exact ⟨_, rfl, HL.out.drew, (Below.refl _ _).drew⟩
    | some y =>
      obtain ⟨r', k1, v1⟩ := y
      rw [hr2] at hlast
      simp only [Option.some.injEq, Prod.mk.injEq] at hlast
      obtain ⟨rfl, rfl, rfl⟩ := hlast
      have hsz : r'.size + 1 = r.size := by
        have := congrArg List.length (T.last_toList r _ _ _ hr2)
        rw [List.length_append, T.length_toList, T.length_toList] at this
        simpa using this.symm
      have IH := Lib.hid (ihr hr (by omega) hr2)
      cases r with
      | nil => cases hr2
      | node ra rk rv rb =>
      obtain ⟨b', _, _, rfl, _⟩ := hr
      have HB := Lib.hid hb
      clear hr2 ihr hb
      go_enter Try.func101, Try.ntmps101
      go_wp2_with (fail)
      refine IH.out.mono ?_
      rintro e w1 ⟨p1, rfl, T1, B1⟩
      have y0 := cell_below B1 x0
      have y2 := cell_below B1 x2
      have y3 := cell_below B1 x3
      have JJ := Lib.hid (join_any l r' k0 v0 (HL.out.below B1).drew T1.drew (by omega))
      have HB1 := Lib.hid B1
      clear T1 B1 x0 x1 x2 x3 IH
      go_wp2_with (fail)
      refine start_ (n := 19) (S := fun w' => w'.cell? ⟨b, 0, none⟩ = some (.pointer pl) ∧ w'.cell? ⟨b, 2, none⟩ = some ((.int .i64 k0)) ∧ w'.cell? ⟨b, 3, none⟩ = some ((.int .i64 v0))) (ds := []) #[false, false, false, false, false, false, false, false, false, false, false, false, false, false, false, false, false, false, false] (by kernel_rfl) rfl rfl ⟨y0, y2, y3⟩ (fun hHeld => ?_)
      (refine take_ (i := 0) (N := some 34) (v := ?v_32) (a' := ?a_32) #[true, false, false, false, false, false, false, false, false, false, false, false, false, false, false, false, false, false, false] rfl rfl (by kernel_rfl) (fun _ _ _ h => h) (Or.inl ⟨by rfl, ?hy_32⟩) hHeld ?ha_32 ?hh_32; (case hy_32 => (rintro w' ⟨s0_, s1_, s2_⟩; go_simp; with_reducible rfl)); (case ha_32 => (simp (disch := omega) only [Act.put, List.setIfInBounds_toArray, List.set_cons_zero, List.set_cons_succ, wrap_in]; rfl)))
      (refine take_ (i := 1) (N := some 35) (v := ?v_33) (a' := ?a_33) #[true, true, false, false, false, false, false, false, false, false, false, false, false, false, false, false, false, false, false] rfl rfl (by kernel_rfl) (fun _ _ _ h => h) (Or.inl ⟨by rfl, ?hy_33⟩) hHeld ?ha_33 ?hh_33; (case hy_33 => (rintro w' ⟨s0_, s1_, s2_⟩; go_simp; with_reducible rfl)); (case ha_33 => (simp (disch := omega) only [Act.put, List.setIfInBounds_toArray, List.set_cons_zero, List.set_cons_succ, wrap_in]; rfl)))
      (refine take_ (i := 2) (N := some 36) (v := ?v_34) (a' := ?a_34) #[true, true, true, false, false, false, false, false, false, false, false, false, false, false, false, false, false, false, false] rfl rfl (by kernel_rfl) (fun _ _ _ h => h) (Or.inl ⟨by rfl, ?hy_34⟩) hHeld ?ha_34 ?hh_34; (case hy_34 => (rintro w' ⟨s0_, s1_, s2_⟩; go_simp; with_reducible rfl)); (case ha_34 => (simp (disch := omega) only [Act.put, List.setIfInBounds_toArray, List.set_cons_zero, List.set_cons_succ, wrap_in]; rfl)))
      (refine take_ (i := 3) (N := some 37) (v := ?v_35) (a' := ?a_35) #[true, true, true, true, false, false, false, false, false, false, false, false, false, false, false, false, false, false, false] rfl rfl (by kernel_rfl) (fun _ _ _ h => h) (Or.inl ⟨by rfl, ?hy_35⟩) hHeld ?ha_35 ?hh_35; (case hy_35 => (rintro w' ⟨s0_, s1_, s2_⟩; go_simp; with_reducible rfl)); (case ha_35 => (simp (disch := omega) only [Act.put, List.setIfInBounds_toArray, List.set_cons_zero, List.set_cons_succ, wrap_in]; rfl)))
      (refine take_ (i := 4) (N := some 38) (v := ?v_36) (a' := ?a_36) #[true, true, true, true, true, false, false, false, false, false, false, false, false, false, false, false, false, false, false] rfl rfl (by kernel_rfl) (fun _ _ _ h => h) (Or.inl ⟨by rfl, ?hy_36⟩) hHeld ?ha_36 ?hh_36; (case hy_36 => (rintro w' ⟨s0_, s1_, s2_⟩; go_simp; with_reducible rfl)); (case ha_36 => (simp (disch := omega) only [Act.put, List.setIfInBounds_toArray, List.set_cons_zero, List.set_cons_succ, wrap_in]; rfl)))
      (refine take_ (i := 5) (N := some 39) (v := ?v_37) (a' := ?a_37) #[true, true, true, true, true, true, false, false, false, false, false, false, false, false, false, false, false, false, false] rfl rfl (by kernel_rfl) (fun _ _ _ h => h) (Or.inl ⟨by rfl, ?hy_37⟩) hHeld ?ha_37 ?hh_37; (case hy_37 => (rintro w' ⟨s0_, s1_, s2_⟩; go_simp; with_reducible rfl)); (case ha_37 => (simp (disch := omega) only [Act.put, List.setIfInBounds_toArray, List.set_cons_zero, List.set_cons_succ, wrap_in]; rfl)))
      (refine take_ (i := 6) (N := some 40) (v := ?v_38) (a' := ?a_38) #[true, true, true, true, true, true, true, false, false, false, false, false, false, false, false, false, false, false, false] rfl rfl (by kernel_rfl) (fun _ _ _ h => h) (Or.inl ⟨by rfl, ?hy_38⟩) hHeld ?ha_38 ?hh_38; (case hy_38 => (rintro w' ⟨s0_, s1_, s2_⟩; go_simp; with_reducible rfl)); (case ha_38 => (simp (disch := omega) only [Act.put, List.setIfInBounds_toArray, List.set_cons_zero, List.set_cons_succ, wrap_in]; rfl)))
      (refine take_ (i := 7) (N := some 41) (v := ?v_39) (a' := ?a_39) #[true, true, true, true, true, true, true, true, false, false, false, false, false, false, false, false, false, false, false] rfl rfl (by kernel_rfl) (fun _ _ _ h => h) (Or.inl ⟨by rfl, ?hy_39⟩) hHeld ?ha_39 ?hh_39; (case hy_39 => (rintro w' ⟨s0_, s1_, s2_⟩; go_simp; with_reducible rfl)); (case ha_39 => (simp (disch := omega) only [Act.put, List.setIfInBounds_toArray, List.set_cons_zero, List.set_cons_succ, wrap_in]; rfl)))
      (refine take_ (i := 8) (N := some 42) (v := ?v_40) (a' := ?a_40) #[true, true, true, true, true, true, true, true, true, false, false, false, false, false, false, false, false, false, false] rfl rfl (by kernel_rfl) (fun _ _ _ h => h) (Or.inl ⟨by rfl, ?hy_40⟩) hHeld ?ha_40 ?hh_40; (case hy_40 => (rintro w' ⟨s0_, s1_, s2_⟩; go_simp; with_reducible rfl)); (case ha_40 => (simp (disch := omega) only [Act.put, List.setIfInBounds_toArray, List.set_cons_zero, List.set_cons_succ, wrap_in]; rfl)))
      (refine take_ (i := 9) (N := some 43) (v := ?v_41) (a' := ?a_41) #[true, true, true, true, true, true, true, true, true, true, false, false, false, false, false, false, false, false, false] rfl rfl (by kernel_rfl) (fun _ _ _ h => h) (Or.inl ⟨by rfl, ?hy_41⟩) hHeld ?ha_41 ?hh_41; (case hy_41 => (rintro w' ⟨s0_, s1_, s2_⟩; go_simp; with_reducible rfl)); (case ha_41 => (simp (disch := omega) only [Act.put, List.setIfInBounds_toArray, List.set_cons_zero, List.set_cons_succ, wrap_in]; rfl)))
      (refine take_ (i := 10) (N := some 44) (v := ?v_42) (a' := ?a_42) #[true, true, true, true, true, true, true, true, true, true, true, false, false, false, false, false, false, false, false] rfl rfl (by kernel_rfl) (fun _ _ _ h => h) (Or.inl ⟨by rfl, ?hy_42⟩) hHeld ?ha_42 ?hh_42; (case hy_42 => (rintro w' ⟨s0_, s1_, s2_⟩; go_simp; with_reducible rfl)); (case ha_42 => (simp (disch := omega) only [Act.put, List.setIfInBounds_toArray, List.set_cons_zero, List.set_cons_succ, wrap_in]; rfl)))
      (refine take_ (i := 11) (N := some 45) (v := ?v_43) (a' := ?a_43) #[true, true, true, true, true, true, true, true, true, true, true, true, false, false, false, false, false, false, false] rfl rfl (by kernel_rfl) (fun _ _ _ h => h) (Or.inl ⟨by rfl, ?hy_43⟩) hHeld ?ha_43 ?hh_43; (case hy_43 => (rintro w' ⟨s0_, s1_, s2_⟩; go_simp; with_reducible rfl)); (case ha_43 => (simp (disch := omega) only [Act.put, List.setIfInBounds_toArray, List.set_cons_zero, List.set_cons_succ, wrap_in]; rfl)))
      (refine take_ (i := 12) (N := some 46) (v := ?v_44) (a' := ?a_44) #[true, true, true, true, true, true, true, true, true, true, true, true, true, false, false, false, false, false, false] rfl rfl (by kernel_rfl) (fun _ _ _ h => h) (Or.inl ⟨by rfl, ?hy_44⟩) hHeld ?ha_44 ?hh_44; (case hy_44 => (rintro w' ⟨s0_, s1_, s2_⟩; go_simp; with_reducible rfl)); (case ha_44 => (simp (disch := omega) only [Act.put, List.setIfInBounds_toArray, List.set_cons_zero, List.set_cons_succ, wrap_in]; rfl)))
      (refine take_ (i := 14) (N := some 48) (v := ?v_45) (a' := ?a_45) #[true, true, true, true, true, true, true, true, true, true, true, true, true, false, true, false, false, false, false] rfl rfl (by kernel_rfl) (fun _ _ _ h => h) (Or.inl ⟨by rfl, ?hy_45⟩) hHeld ?ha_45 ?hh_45; (case hy_45 => (rintro w' ⟨s0_, s1_, s2_⟩; go_simp; with_reducible rfl)); (case ha_45 => (simp (disch := omega) only [Act.put, List.setIfInBounds_toArray, List.set_cons_zero, List.set_cons_succ, wrap_in]; rfl)))
      (refine take_ (i := 15) (N := some 49) (v := ?v_46) (a' := ?a_46) #[true, true, true, true, true, true, true, true, true, true, true, true, true, false, true, true, false, false, false] rfl rfl (by kernel_rfl) (fun _ _ _ h => h) (Or.inl ⟨by rfl, ?hy_46⟩) hHeld ?ha_46 ?hh_46; (case hy_46 => (rintro w' ⟨s0_, s1_, s2_⟩; go_simp; with_reducible rfl)); (case ha_46 => (simp (disch := omega) only [Act.put, List.setIfInBounds_toArray, List.set_cons_zero, List.set_cons_succ, wrap_in]; rfl)))
      refine one_ (i := 13) (N := some 47) #[true, true, true, true, true, true, true, true, true, true, true, true, true, true, true, true, false, false, false] rfl rfl (by kernel_rfl) (by decide) (fun K hK => ?_)
      (refine goes_ Try.func66 (by kernel_rfl) rfl ?args_48 (by rfl) rfl rfl ?hargs_48 ?hc_48; (case hargs_48 => (go_simp; with_reducible rfl)))
      (refine JJ.out.mono ?_; rintro e w2 ⟨p2, rfl, T2, B2⟩; refine ⟨_, rfl, ?_⟩)
      (refine hK.out _ _ ?hs_50 ?hn_50; (case hs_50 => (obtain ⟨s0_, s1_, s2_⟩ := hHeld; exact ⟨cell_below B2 s0_, cell_below B2 s1_, cell_below B2 s2_⟩)); intro hHeld; clear hK K)
      (refine norm_ (a' := ?a_51) ?ha_51 ?hh_51; (case ha_51 => (simp (disch := omega) only [Act.put, List.setIfInBounds_toArray, List.set_cons_zero, List.set_cons_succ, wrap_in]; rfl)))
      (refine take_ (i := 16) (N := some 2) (v := ?v_52) (a' := ?a_52) #[true, true, true, true, true, true, true, true, true, true, true, true, true, true, true, true, true, false, false] rfl rfl (by kernel_rfl) (fun _ _ _ h => h) (Or.inl ⟨by rfl, ?hy_52⟩) hHeld ?ha_52 ?hh_52; (case hy_52 => (rintro w' ⟨s0_, s1_, s2_⟩; go_simp; with_reducible rfl)); (case ha_52 => (simp (disch := omega) only [Act.put, List.setIfInBounds_toArray, List.set_cons_zero, List.set_cons_succ, wrap_in]; rfl)))
      (refine take_ (i := 17) (N := some 3) (v := ?v_53) (a' := ?a_53) #[true, true, true, true, true, true, true, true, true, true, true, true, true, true, true, true, true, true, false] rfl rfl (by kernel_rfl) (fun _ _ _ h => h) (Or.inl ⟨by rfl, ?hy_53⟩) hHeld ?ha_53 ?hh_53; (case hy_53 => (rintro w' ⟨s0_, s1_, s2_⟩; go_simp; with_reducible rfl)); (case ha_53 => (simp (disch := omega) only [Act.put, List.setIfInBounds_toArray, List.set_cons_zero, List.set_cons_succ, wrap_in]; rfl)))
      (refine take_ (i := 18) (N := some 4) (v := ?v_54) (a' := ?a_54) #[true, true, true, true, true, true, true, true, true, true, true, true, true, true, true, true, true, true, true] rfl rfl (by kernel_rfl) (fun _ _ _ h => h) (Or.inl ⟨by rfl, ?hy_54⟩) hHeld ?ha_54 ?hh_54; (case hy_54 => (rintro w' ⟨s0_, s1_, s2_⟩; go_simp; with_reducible rfl)); (case ha_54 => (simp (disch := omega) only [Act.put, List.setIfInBounds_toArray, List.set_cons_zero, List.set_cons_succ, wrap_in]; rfl)))
      refine done_ (by kernel_rfl) ?_
      go_wp2_with (fail)
      go_ret3
      exact ⟨_, rfl, T2, HB1.out.trans (((Below.refl _ _).drew.trans B2).mono HB1.out.size)⟩
set_option maxRecDepth 100000 in
set_option maxHeartbeats 2000000 in
theorem both_any (l r : Tr) {w : World} {pl pr : Option Addr} (hl : TreeAt w pl l) (hr : TreeAt w pr r) (hs : l.size + r.size < big) :
    Calls Try.prog 67 #[.pointer pl, .pointer pr] w (NewT w (T.both l r)) := by
  obtain ⟨tt, htt⟩ : ∃ tt, tt = T.both l r := ⟨_, rfl⟩
  rw [← htt]
  unfold T.both at htt
  cases hlast : T.last l with
  | none =>
    rw [hlast] at htt
    subst htt
    have := T.last_none l hlast
    subst this
    obtain rfl : pl = none := hl
    have HR := Lib.hid hr
    clear hr hlast
    go_enter Try.func67, Try.ntmps67
    go_wp2_with (fail)
    go_ret
    exact ⟨_, rfl, HR.out, Below.refl _ _⟩
  | some y =>
    obtain ⟨l', k, v⟩ := y
    rw [hlast] at htt
    have HT := Lib.hid htt
    have hsz : l'.size + 1 = l.size := by
      have := congrArg List.length (T.last_toList l _ _ _ hlast)
      rw [List.length_append, T.length_toList, T.length_toList] at this
      simpa using this.symm
    have LL := Lib.hid (last_any l hl (by omega) hlast)
    have HR := Lib.hid hr
    cases l with
    | nil => cases hlast
    | node a k' v' b =>
    obtain ⟨b', _, _, rfl, _⟩ := hl
    clear htt hlast hr
    go_enter Try.func67, Try.ntmps67
    go_wp2_with (fail)
    refine LL.out.mono ?_
    rintro e w1 ⟨p1, rfl, T1, B1⟩
    have JJ := Lib.hid (join_any l' r k v T1 (HR.out.below B1) (by omega))
    have HB1 := Lib.hid B1
    clear T1 B1 LL
    go_wp2_with (fail)
    refine JJ.out.mono ?_
    rintro e w2 ⟨p2, rfl, T2, B2⟩
    go_wp2_with (fail)
    go_ret
    exact ⟨_, rfl, by rw [HT.out]; exact T2, HB1.out.trans (B2.mono HB1.out.size)⟩
end Ti
end Go.Proofs.Ytmichnnkkpgpmaa
