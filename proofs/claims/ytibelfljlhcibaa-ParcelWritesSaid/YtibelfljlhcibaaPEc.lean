/- The reference's reader: Leave. The reference's reader: value, Fixed. The reference's reader: Enter. The reference's reader: Enter. The reference's reader: turned, Clean, Real. The reference's reader: none at all. -/
import Derived.Test.YtibelfljlhcibaaPEb
namespace Go.Proofs.Ytibelfljlhcibaa
set_option linter.unusedVariables false
set_option linter.unusedSimpArgs false
open Go.RowKit Go.Deep Go.Proofs.YtibelfljlhcibaaW.PrintLast

section
variable {w w' w1 w2 : World} {F G : Nat → Prop} {k : Nat} {s s' : RS}
theorem EndsOk.leave {p : List Int} {i : Nat} {es : List Nat} (h : EndsOk p i es s) {l : List Int} (hl : s.outer.getLast? = some l) (h0 : s.left = []) : EndsOk p i es.dropLast { s with left := l, outer := s.outer.dropLast } := by
  obtain ⟨e, g1, g2, g3, g4⟩ := h.left_len
  obtain ⟨h1, h2, _, h4⟩ := h
  rw [h0] at g4
  simp only [List.length_nil] at g4
  have hei : e = i := by omega
  subst hei
  have hne : s.outer ≠ [] := by rintro hn; rw [hn] at hl; cases hl
  obtain ⟨m, hm⟩ : ∃ m, s.outer.length = m + 1 := ⟨s.outer.length - 1, by have := List.length_pos_iff.2 hne; omega⟩
  have hel : es.length = m + 2 := by omega
  have hlast : es[m + 1]? = some e := by rw [← g1, List.getLast?_eq_getElem?, hel]; rfl
  have hol : s.outer[m]? = some l := by rw [← hl, List.getLast?_eq_getElem?, hm]; rfl
  obtain ⟨a, ha⟩ : ∃ a, es[m]? = some a := ⟨_, List.getElem?_eq_getElem (by omega)⟩
  obtain ⟨q1, q2⟩ := h4 m a e l ha hlast hol
  have dl : es.dropLast.length = m + 1 := by rw [List.length_dropLast, hel]; rfl
  refine ⟨by simp only [List.length_dropLast]; omega, fun x hx => h2 x ((List.dropLast_sublist _).subset hx), ⟨a, ?_, q1, q2⟩, fun j a' b' l' hja hjb hjl => ?_⟩
  · rw [List.getLast?_eq_getElem?, dl, List.getElem?_dropLast, if_pos (by omega)]
    exact ha
  · rw [List.getElem?_dropLast] at hja hjb hjl
    split at hja
    · split at hjb
      · split at hjl
        · exact h4 j a' b' l' hja hjb hjl
        · cases hjl
      · cases hjb
    · cases hja
set_option maxHeartbeats 2000000 in
set_option maxRecDepth 100000 in
theorem refRLeave_any (h : RefLies w F k s) : Calls Try.prog 79 #[.pointer (some ⟨k, 0, none⟩)] w fun e w' => e = .returned (.tuple #[]) ∧ UpdQ F k w w' s.leave := by
  have DE := Lib.hid (refRDead_any h)
  have LF := Lib.hid (refLeft_any h)
  have H := Lib.hid h
  obtain ⟨c3, f3⟩ := h.ftCell
  obtain ⟨p, i, es, A, c, EA, ec, h1, h2, h3, h4, h5⟩ := h
  by_cases hf : s.ft = 0
  · rw [hf] at DE c3
    have hlen := h5.1
    obtain ⟨n, hn⟩ : ∃ n, es.length = n := ⟨_, rfl⟩
    have hcap := h4.le
    rw [hn] at hlen hcap h1
    have e2 : w.cell? ⟨k, 2, none⟩ = some (.slice EA n ec) := cell_blk h1 2 rfl
    have f2 : w.drew.frozen? ⟨k, 2, none⟩ = false := free_blk h1 2
    have f3' : w.drew.frozen? ⟨k, 3, none⟩ = false := free_blk h1 3
    have c3' : w.drew.cell? ⟨k, 3, none⟩ = some (.int .i64 0) := c3
    have e2' : w.drew.cell? ⟨k, 2, none⟩ = some (.slice EA n ec) := e2
    cases ho : s.outer.getLast? with
    | none =>
      have hoe : s.outer = [] := List.getLast?_eq_none_iff.1 ho
      have e1 : s.leave = { s with ft := 2 } := by unfold RS.leave; rw [if_pos hf, ho]
      rw [e1]
      rw [hoe] at hlen
      simp only [List.length_nil, Nat.zero_add] at hlen
      subst hlen
      clear h1 h2 h3 h4 h5 LF
      go_enter Try.func79, Try.ntmps79
      go_wp2_with (go_at_call 115; refine DE.out.mono ?_; rintro e w_ ⟨rfl, rfl⟩)
      ((try simp only [Exit.inBlock, Exit.then]); refine bodyPost_ret (results_none rfl _ _ _) rfl ?_)
      exact ⟨rfl, UpdQ.fault H.out 2⟩
    | some l =>
      have hne : s.outer ≠ [] := by rintro hn; rw [hn] at ho; cases ho
      have hpos := List.length_pos_iff.2 hne
      obtain ⟨m, rfl⟩ : ∃ m, n = m + 2 := ⟨n - 2, by omega⟩
      have HL := Lib.hid ho
      by_cases h0 : s.left = []
      · have e1 : s.leave = { s with left := l, outer := s.outer.dropLast } := by unfold RS.leave; rw [if_pos hf, ho]; simp only; rw [if_pos h0]
        have HE1 := Lib.hid e1
        have hR := (h4.take (m + 1))
        have htk : es.take (m + 1) = es.dropLast := by rw [List.dropLast_eq_take, hn]; rfl
        rw [htk] at hR
        have hdl : es.dropLast.length = m + 1 := by rw [List.length_dropLast, hn]; rfl
        have NEW := Lib.hid (show RefLies (w.drew.drew.setCell ⟨k, 2, none⟩ (.slice EA (m + 1) ec)) F k { s with left := l, outer := s.outer.dropLast } from
          ⟨p, i, es.dropLast, A, c, EA, ec, by rw [hdl]; exact setCell_heap w.drew.drew k 2 (.slice EA (m + 1) ec) _ _ _ h1, h2, (h3.keeps (KeepT.drew _ w)).keeps ((KeepT.drew _ w.drew).trans (KeepT.setCell (show w.drew.drew.heap[k]? = _ from h1) (Ne.symm tq_ne.1) 2 _)), (hR.keeps (KeepT.drew _ w)).keeps ((KeepT.drew _ w.drew).trans (KeepT.setCell (show w.drew.drew.heap[k]? = _ from h1) (Ne.symm tq_ne.2) 2 _)), h5.leave ho h0⟩)
        have HFK := Lib.hid h2
        rw [h0] at LF
        simp only [List.length_nil] at LF
        have q1 : ((m : Int) + 1) ≤ (ec : Int) := by omega
        have q2 : m + 1 ≤ ec := by omega
        have q3 : (1 : Int) ≤ (m : Int) + 2 := by omega
        have q4 : (m : Int) + 2 - 1 ≤ (ec : Int) := by omega
        have q5 : ((m : Int) + 2).toNat - 1 = m + 1 := by omega
        have hmx := h4.max
        simp only [maxLen] at hmx
        cases hEA : EA with
        | none =>
          exfalso
          rcases h4 with ⟨_, hc0, _⟩ | ⟨g, hg, _⟩
          · omega
          · rw [hEA] at hg; cases hg
        | some a =>
          subst hEA
          obtain ⟨g, hg⟩ : ∃ g, a = ⟨g, 0, none⟩ := by
            rcases h4 with ⟨hq, _⟩ | ⟨g, hg, _⟩
            · cases hq
            · exact ⟨g, by injection hg⟩
          subst hg
          clear h1 h2 h3 h4 h5 hR htk hdl e1 ho hlen hpos hcap hn
          go_enter Try.func79, Try.ntmps79
          go_wp2_with (first | (go_at_call 115; refine DE.out.mono ?_; rintro e w_ ⟨rfl, rfl⟩) | (go_at_call 122; refine LF.out.mono ?_; rintro e w_ ⟨rfl, rfl⟩))
          refine start_ (n := 15) (S := fun w' => w'.cell? ⟨k, 2, none⟩ = some (.slice (some ⟨g, 0, none⟩) (m + 2) ec)) (ds := [14]) #[false, false, false, false, false, false, false, false, false, false, false, false, false, false, false] (by kernel_rfl) rfl rfl e2' (fun hHeld => ?_)
          (refine take_ (i := 0) (N := some 19) (v := ?v_2) (a' := ?a_2) #[true, false, false, false, false, false, false, false, false, false, false, false, false, false, false] rfl rfl (by kernel_rfl) (fun _ _ _ h => h) (Or.inl ⟨by rfl, ?hy_2⟩) hHeld ?ha_2 ?hh_2; (case hy_2 => (rintro w' s0_; go_simp; with_reducible rfl)); (case ha_2 => (simp (disch := omega) only [Act.put, List.setIfInBounds_toArray, List.set_cons_zero, List.set_cons_succ, wrap_in]; rfl)))
          (refine take_ (i := 1) (N := some 20) (v := ?v_3) (a' := ?a_3) #[true, true, false, false, false, false, false, false, false, false, false, false, false, false, false] rfl rfl (by kernel_rfl) (fun _ _ _ h => h) (Or.inl ⟨by rfl, ?hy_3⟩) hHeld ?ha_3 ?hh_3; (case hy_3 => (rintro w' s0_; go_simp; with_reducible rfl)); (case ha_3 => (simp (disch := omega) only [Act.put, List.setIfInBounds_toArray, List.set_cons_zero, List.set_cons_succ, wrap_in]; rfl)))
          (refine take_ (i := 2) (N := some 21) (v := ?v_4) (a' := ?a_4) #[true, true, true, false, false, false, false, false, false, false, false, false, false, false, false] rfl rfl (by kernel_rfl) (fun _ _ _ h => h) (Or.inl ⟨by rfl, ?hy_4⟩) hHeld ?ha_4 ?hh_4; (case hy_4 => (rintro w' s0_; go_simp; with_reducible rfl)); (case ha_4 => (simp (disch := omega) only [Act.put, List.setIfInBounds_toArray, List.set_cons_zero, List.set_cons_succ, wrap_in]; rfl)))
          (refine take_ (i := 3) (N := some 22) (v := ?v_5) (a' := ?a_5) #[true, true, true, true, false, false, false, false, false, false, false, false, false, false, false] rfl rfl (by kernel_rfl) (fun _ _ _ h => h) (Or.inl ⟨by rfl, ?hy_5⟩) hHeld ?ha_5 ?hh_5; (case hy_5 => (rintro w' s0_; go_simp; with_reducible rfl)); (case ha_5 => (simp (disch := omega) only [Act.put, List.setIfInBounds_toArray, List.set_cons_zero, List.set_cons_succ, wrap_in]; rfl)))
          (refine take_ (i := 4) (N := some 23) (v := ?v_6) (a' := ?a_6) #[true, true, true, true, true, false, false, false, false, false, false, false, false, false, false] rfl rfl (by kernel_rfl) (fun _ _ _ h => h) (Or.inl ⟨by rfl, ?hy_6⟩) hHeld ?ha_6 ?hh_6; (case hy_6 => (rintro w' s0_; go_simp; with_reducible rfl)); (case ha_6 => (simp (disch := omega) only [Act.put, List.setIfInBounds_toArray, List.set_cons_zero, List.set_cons_succ, wrap_in]; rfl)))
          (refine take_ (i := 5) (N := some 24) (v := ?v_7) (a' := ?a_7) #[true, true, true, true, true, true, false, false, false, false, false, false, false, false, false] rfl rfl (by kernel_rfl) (fun _ _ _ h => h) (Or.inl ⟨by rfl, ?hy_7⟩) hHeld ?ha_7 ?hh_7; (case hy_7 => (rintro w' s0_; go_simp; with_reducible rfl)); (case ha_7 => (simp (disch := omega) only [Act.put, List.setIfInBounds_toArray, List.set_cons_zero, List.set_cons_succ, wrap_in]; rfl)))
          (refine take_ (i := 6) (N := some 25) (v := ?v_8) (a' := ?a_8) #[true, true, true, true, true, true, true, false, false, false, false, false, false, false, false] rfl rfl (by kernel_rfl) (fun _ _ _ h => h) (Or.inl ⟨by rfl, ?hy_8⟩) hHeld ?ha_8 ?hh_8; (case hy_8 => (rintro w' s0_; go_simp; with_reducible rfl)); (case ha_8 => (simp (disch := omega) only [Act.put, List.setIfInBounds_toArray, List.set_cons_zero, List.set_cons_succ, wrap_in]; rfl)))
          (refine take_ (i := 7) (N := some 26) (v := ?v_9) (a' := ?a_9) #[true, true, true, true, true, true, true, true, false, false, false, false, false, false, false] rfl rfl (by kernel_rfl) (fun _ _ _ h => h) (Or.inl ⟨by rfl, ?hy_9⟩) hHeld ?ha_9 ?hh_9; (case hy_9 => (rintro w' s0_; go_simp; with_reducible rfl)); (case ha_9 => (simp (disch := omega) only [Act.put, List.setIfInBounds_toArray, List.set_cons_zero, List.set_cons_succ, wrap_in]; rfl)))
          (refine take_ (i := 8) (N := some 27) (v := ?v_10) (a' := ?a_10) #[true, true, true, true, true, true, true, true, true, false, false, false, false, false, false] rfl rfl (by kernel_rfl) (fun _ _ _ h => h) (Or.inl ⟨by rfl, ?hy_10⟩) hHeld ?ha_10 ?hh_10; (case hy_10 => (rintro w' s0_; go_simp; with_reducible rfl)); (case ha_10 => (simp (disch := omega) only [Act.put, List.setIfInBounds_toArray, List.set_cons_zero, List.set_cons_succ, wrap_in]; rfl)))
          (refine take_ (i := 9) (N := some 28) (v := ?v_11) (a' := ?a_11) #[true, true, true, true, true, true, true, true, true, true, false, false, false, false, false] rfl rfl (by kernel_rfl) (fun _ _ _ h => h) (Or.inl ⟨by rfl, ?hy_11⟩) hHeld ?ha_11 ?hh_11; (case hy_11 => (rintro w' s0_; go_simp; with_reducible rfl)); (case ha_11 => (simp (disch := omega) only [Act.put, List.setIfInBounds_toArray, List.set_cons_zero, List.set_cons_succ, wrap_in]; rfl)))
          (refine take_ (i := 10) (N := some 29) (v := ?v_12) (a' := ?a_12) #[true, true, true, true, true, true, true, true, true, true, true, false, false, false, false] rfl rfl (by kernel_rfl) (fun _ _ _ h => h) (Or.inl ⟨by rfl, ?hy_12⟩) hHeld ?ha_12 ?hh_12; (case hy_12 => (rintro w' s0_; go_simp; with_reducible rfl)); (case ha_12 => (simp (disch := omega) only [Act.put, List.setIfInBounds_toArray, List.set_cons_zero, List.set_cons_succ, wrap_in]; rfl)))
          (refine take_ (i := 11) (N := some 30) (v := ?v_13) (a' := ?a_13) #[true, true, true, true, true, true, true, true, true, true, true, true, false, false, false] rfl rfl (by kernel_rfl) (fun _ _ _ h => h) (Or.inl ⟨by rfl, ?hy_13⟩) hHeld ?ha_13 ?hh_13; (case hy_13 => (rintro w' s0_; go_simp; with_reducible rfl)); (case ha_13 => (simp (disch := omega) only [Act.put, List.setIfInBounds_toArray, List.set_cons_zero, List.set_cons_succ, wrap_in]; rfl)))
          (refine take_ (i := 12) (N := some 31) (v := ?v_14) (a' := ?a_14) #[true, true, true, true, true, true, true, true, true, true, true, true, true, false, false] rfl rfl (by kernel_rfl) (fun _ _ _ h => h) (Or.inl ⟨by rfl, ?hy_14⟩) hHeld ?ha_14 ?hh_14; (case hy_14 => (rintro w' s0_; go_simp; with_reducible rfl)); (case ha_14 => (simp (disch := omega) only [Act.put, List.setIfInBounds_toArray, List.set_cons_zero, List.set_cons_succ, wrap_in]; rfl)))
          (refine take_ (i := 13) (N := some 32) (v := ?v_15) (a' := ?a_15) #[true, true, true, true, true, true, true, true, true, true, true, true, true, true, false] rfl rfl (by kernel_rfl) (fun _ _ _ h => h) (Or.inl ⟨by rfl, ?hy_15⟩) hHeld ?ha_15 ?hh_15; (case hy_15 => (rintro w' s0_; go_simp; with_reducible rfl)); (case ha_15 => (simp (disch := omega) only [Act.put, List.setIfInBounds_toArray, List.set_cons_zero, List.set_cons_succ, wrap_in]; rfl)))
          refine last_ (i := 14) (N := none) #[true, true, true, true, true, true, true, true, true, true, true, true, true, true, true] rfl rfl (by kernel_rfl) (by decide) (fun K hK => ?_)
          (refine skip_ (w1 := ?w1_17) (by rfl) rfl ?hr_17 ?hk_17; (case hr_17 => (go_simp; first | with_reducible rfl | (constructor <;> with_reducible rfl))))
          (refine hK.out _ _ ?hn_18; clear hK K; try clear hHeld)
          refine done_ (by kernel_rfl) ?_
          go_end0
          rw [HE1.out]
          exact ⟨rfl, NEW.out, ((Fr.drew F w).trans (Fr.drew F w.drew) fun _ _ h => h).trans (Fr.set (F := F) _ HFK.out _) fun _ _ h => h⟩
      · have e1 : s.leave = { s with ft := 12 } := by unfold RS.leave; rw [if_pos hf, ho]; simp only; rw [if_neg h0]
        rw [e1]
        have hlp := List.length_pos_iff.2 h0
        generalize s.left.length = L at *
        clear h1 h2 h3 h4 h5 ho
        go_enter Try.func79, Try.ntmps79
        go_wp2_with (first | (go_at_call 115; refine DE.out.mono ?_; rintro e w_ ⟨rfl, rfl⟩) | (go_at_call 122; refine LF.out.mono ?_; rintro e w_ ⟨rfl, rfl⟩))
        ((try simp only [Exit.inBlock, Exit.then]); refine bodyPost_ret (results_none rfl _ _ _) rfl ?_)
        exact ⟨rfl, UpdQ.after ((Below.refl _ _).drew) (UpdQ.fault H.out.drew 12)⟩
  · have hne : (s.ft != 0) = true := by simpa using hf
    have e1 : s.leave = s := by unfold RS.leave; rw [if_neg hf]
    rw [e1]
    rw [hne] at DE
    clear h1 h2 h3 h4 h5 LF
    go_enter Try.func79, Try.ntmps79
    go_wp2_with (go_at_call 115; refine DE.out.mono ?_; rintro e w_ ⟨rfl, rfl⟩)
    ((try simp only [Exit.inBlock, Exit.then]); refine bodyPost_ret (results_none rfl _ _ _) rfl ?_)
    exact ⟨rfl, UpdQ.refl H.out⟩
end
end Go.Proofs.Ytibelfljlhcibaa
namespace Go.Proofs.Ytibelfljlhcibaa
set_option linter.unusedVariables false
set_option linter.unusedSimpArgs false
open Go.RowKit Go.Deep Go.Proofs.YtibelfljlhcibaaW.PrintLast

section
variable {w w' w1 w2 : World} {F G : Nat → Prop} {k : Nat} {s s' : RS}
theorem upN_256 {l : List Int} (hb : Byt l) (hl : l.length ≤ 8) : upN l < 18446744073709551616 := by
  have h := upN_lt l hb
  have : 256 ^ l.length ≤ 256 ^ 8 := Nat.pow_le_pow_right (by decide) hl
  have h8 : (256 : Nat) ^ 8 = 18446744073709551616 := by decide
  omega
set_option maxRecDepth 100000 in
set_option maxHeartbeats 1000000 in
theorem refValue_any {A : Option Addr} {c : Nat} {p : List Int} (hy : BSrc w A p) (hb : Byt p) (hl : p.length ≤ 8) :
    Calls Try.prog 117 #[.slice A p.length c] w fun e w' => e = .returned (.int .u64 (upN p : Nat)) ∧ w = w' := by
  have HY := Lib.hid hy
  have HB := Lib.hid hb
  obtain ⟨n, hn⟩ : ∃ n, p.length = n := ⟨_, rfl⟩
  have HN := Lib.hid hn
  rw [hn] at hl ⊢
  clear hy hb hn
  go_enter Try.func117, Try.ntmps117
  go_wp2_with (fail)
  refine wp_loop_ghost_k (fun (a : Nat) (ac : Act) (wr : World) => ∃ u1 u2 u5 u6 u7 u8 u9 u10 u11 u12 u13 u14 u15 u16 u17 u18 u19 u20 v3 v4 : Value, (∃ j : Nat, a = j ∧ j ≤ n ∧ v3 = .int .u64 (upN (p.drop j) : Nat) ∧ v4 = .int .i64 ((j : Int) - 1) ∧ wr = w) ∧ ac = ({ tmps := #[.slice A n c, u1, u2, v3, v4, u5, u6, u7, u8, u9, u10, u11, u12, u13, u14, u15, u16, u17, u18, u19, u20], defers := [] } : Act)) (n) ?atStart ?round
  case' atStart => ((repeat apply Exists.intro); refine ⟨?_, rfl⟩)
  case' round => (intro a ac wr hcut; obtain ⟨u1, hcut⟩ := hcut; obtain ⟨u2, hcut⟩ := hcut; obtain ⟨u5, hcut⟩ := hcut; obtain ⟨u6, hcut⟩ := hcut; obtain ⟨u7, hcut⟩ := hcut; obtain ⟨u8, hcut⟩ := hcut; obtain ⟨u9, hcut⟩ := hcut; obtain ⟨u10, hcut⟩ := hcut; obtain ⟨u11, hcut⟩ := hcut; obtain ⟨u12, hcut⟩ := hcut; obtain ⟨u13, hcut⟩ := hcut; obtain ⟨u14, hcut⟩ := hcut; obtain ⟨u15, hcut⟩ := hcut; obtain ⟨u16, hcut⟩ := hcut; obtain ⟨u17, hcut⟩ := hcut; obtain ⟨u18, hcut⟩ := hcut; obtain ⟨u19, hcut⟩ := hcut; obtain ⟨u20, hcut⟩ := hcut; obtain ⟨v3, hcut⟩ := hcut; obtain ⟨v4, hcut⟩ := hcut; obtain ⟨hcut, hac⟩ := hcut; subst hac; intro _ _ _ _)
  case atStart => exact ⟨n, rfl, Nat.le_refl _, by rw [List.drop_eq_nil_of_le (by rw [HN.out]; exact Nat.le_refl _)]; rfl, rfl, rfl⟩
  case round =>
    obtain ⟨j, rfl, hjn, rfl, rfl, hwr⟩ := hcut
    subst hwr
    rcases a with _ | j
    · have q0 : ¬ (0 : Int) ≤ ((0 : Nat) : Int) - 1 := by omega
      obtain ⟨x, hx⟩ : ∃ x, upN (p.drop 0) = x := ⟨_, rfl⟩
      have HX := Lib.hid (show upN p = x by rw [← hx]; rfl)
      rw [hx]
      clear hx
      go_wp2_with (fail)
      go_ret
      exact ⟨by rw [HX.out]; rfl, rfl⟩
    · have hjl : j < p.length := by rw [HN.out]; omega
      obtain ⟨y, hy⟩ : ∃ y, p[j]? = some y := ⟨_, List.getElem?_eq_getElem hjl⟩
      have hyb := HB.out y (List.mem_of_getElem? hy)
      obtain ⟨g, o, hA, hBA⟩ := HY.out (by rintro h; rw [h] at hjl; simp at hjl)
      subst hA
      have xc : wr.cell? ⟨g, o + j, none⟩ = some (.int .u8 y) := hBA j y hy
      have hd : p.drop j = y :: p.drop (j + 1) := by
        rw [List.drop_eq_getElem_cons hjl]
        congr 1
        rw [List.getElem?_eq_getElem hjl] at hy
        injection hy
      obtain ⟨x, hx⟩ : ∃ x, upN (p.drop (j + 1)) = x := ⟨_, rfl⟩
      have hux : upN (p.drop j) = y.toNat + 256 * x := by rw [hd, upN, hx]
      have hlt : upN (p.drop j) < 18446744073709551616 := upN_256 (fun z hz => HB.out z (List.mem_of_mem_drop hz)) (by rw [List.length_drop, HN.out]; omega)
      rw [hux] at hlt
      have HUX := Lib.hid hux
      rw [hx]
      have b1 : (256 : Int) * (x : Int) ≤ 18446744073709551615 := by omega
      have b2 : (256 : Int) * (x : Int) + y ≤ 18446744073709551615 := by omega
      have b0 : (0 : Int) ≤ (x : Int) := by omega
      obtain ⟨y0, y1⟩ := hyb
      have q1 : ((j + 1 : Nat) : Int) - 1 = (j : Int) := by omega
      rw [q1]
      have q2 : (j : Int) < (n : Int) := by omega
      clear hy hBA hd hx hux hjl q1
      go_wp2_with (fail)
      go_roundg j
      case measure => omega
      case rel => exact ⟨j, rfl, by omega, by rw [HUX.out]; congr 1; push_cast; omega, rfl, rfl⟩
set_option maxHeartbeats 1000000 in
set_option maxRecDepth 100000 in
theorem refRFixed_any (h : RefLies w F k s) (hb : Byt s.left) (h47 : s.left.length ≤ 140737488355328) (size : Int) :
    Calls Try.prog 72 #[.pointer (some ⟨k, 0, none⟩), .int .i64 size] w fun e w' => e = .returned (.int .u64 ((s.fixed size).1 : Nat)) ∧ UpdQ F k w w' (s.fixed size).2 := by
  have DE := Lib.hid (refRDead_any h)
  have H := Lib.hid h
  obtain ⟨c3, f3⟩ := h.ftCell
  by_cases hf : s.ft = 0
  · rw [hf] at DE c3
    by_cases hneg : size < 1 ∨ 8 < size
    · have e1 : s.fixed size = (0, { s with ft := 2 }) := by unfold RS.fixed; rw [if_pos hf, if_pos hneg]
      rw [e1]
      obtain ⟨t1, ht1⟩ := named (decide (size < 1))
      obtain ⟨t2, ht2⟩ := named (decide (8 < size))
      have HT := Lib.hid (show (t1 || t2) = true by rw [← ht1, ← ht2]; simpa using hneg)
      clear h47 h hneg hb
      go_enter Try.func72, Try.ntmps72
      go_wp2_with (go_at_call 115; refine DE.out.mono ?_; rintro e w_ ⟨rfl, rfl⟩)
      all_goals first
        | (go_ret; exact ⟨rfl, UpdQ.fault H.out 2⟩)
        | (exfalso
           have hh := HT.out
           simp_all)
    · obtain ⟨m, rfl⟩ := Int.eq_ofNat_of_zero_le (show 0 ≤ size by omega)
      have hm1 : ¬ (m : Int) < 1 := by omega
      have hm8 : ¬ 8 < (m : Int) := by omega
      have hm8' : m ≤ 8 := by omega
      have e1 : s.fixed (m : Int) = (match s.next m with | none => (0, s.short) | some (p, s') => (upN p, s')) := by unfold RS.fixed; rw [if_pos hf, if_neg hneg]; rfl
      have E1 := Lib.hid e1
      have HB := Lib.hid hb
      have BY := Lib.hid (refBytes_any h m (by omega) h47)
      clear h47 h e1 hneg hb
      go_enter Try.func72, Try.ntmps72
      go_wp2_with (go_at_call 115; refine DE.out.mono ?_; rintro e w_ ⟨rfl, rfl⟩)
      refine BY.out.mono ?_
      intro e w2 hB
      unfold BytesP at hB
      cases hx : s.next m with
      | none =>
        rw [hx] at hB
        obtain ⟨rfl, hu⟩ := hB
        have HU := Lib.hid hu
        have HXN := Lib.hid hx
        have VA := Lib.hid (refValue_any (w := w2) (A := none) (c := 0) (p := []) (fun h => absurd rfl h) (fun x hx => by cases hx) (by simp))
        simp only [List.length_nil] at VA
        clear hu hx
        go_wp2_with (fail)
        refine VA.out.mono ?_
        rintro e w_ ⟨rfl, rfl⟩
        go_wp2_with (fail)
        go_ret
        rw [E1.out, HXN.out]
        exact ⟨rfl, HU.out⟩
      | some q =>
        obtain ⟨p, s2⟩ := q
        rw [hx] at hB
        obtain ⟨⟨A, c, rfl, hg⟩, hu⟩ := hB
        have hp : p = s.left.take m ∧ p.length = m := by
          unfold RS.next at hx
          split at hx
          · injection hx with hx; injection hx with h1 h2
            exact ⟨h1.symm, by rw [← h1, List.length_take]; omega⟩
          · cases hx
        have VA := Lib.hid (refValue_any (w := w2) (A := A) (c := c) (p := p) hg.srcB (by rw [hp.1]; exact fun x hx => HB.out x (List.mem_of_mem_take hx)) (by omega))
        have HU := Lib.hid hu
        have HXN := Lib.hid hx
        rw [hp.2] at VA ⊢
        obtain ⟨v, hv⟩ : ∃ v, upN p = v := ⟨_, rfl⟩
        have HV := Lib.hid hv
        rw [hv] at VA
        clear hg hu hx hp hv
        go_wp2_with (fail)
        refine VA.out.mono ?_
        rintro e w_ ⟨rfl, rfl⟩
        go_wp2_with (fail)
        go_ret
        rw [E1.out, HXN.out]
        exact ⟨by rw [← HV.out]; rfl, HU.out⟩
  · have hne : (s.ft != 0) = true := by simpa using hf
    have e1 : s.fixed size = (0, s) := by unfold RS.fixed; rw [if_neg hf]
    rw [e1]
    rw [hne] at DE
    clear h h47 hb
    go_enter Try.func72, Try.ntmps72
    go_wp2_with (go_at_call 115; refine DE.out.mono ?_; rintro e w_ ⟨rfl, rfl⟩)
    go_ret
    exact ⟨rfl, UpdQ.refl H.out⟩
end
end Go.Proofs.Ytibelfljlhcibaa
namespace Go.Proofs.Ytibelfljlhcibaa
set_option linter.unusedVariables false
set_option linter.unusedSimpArgs false
open Go.RowKit Go.Deep Go.Proofs.YtibelfljlhcibaaW.PrintLast

/-- The reader of the reference has turned; its blocks have grown. -/
def UpdQG (F : Nat → Prop) (k : Nat) (w w' : World) (s : RS) : Prop := RefLies w' (Gr F w w') k s ∧ Fr F w w'
section
variable {w w' w1 w2 : World} {F G : Nat → Prop} {k : Nat} {s s' : RS}
theorem UpdQ.g (h : UpdQ F k w w' s) : UpdQG F k w w' s := ⟨h.1.mono fun _ h => Or.inl h, h.2⟩
theorem EndsOk.enter {p : List Int} {i : Nat} {es : List Nat} (h : EndsOk p i es s) {n : Nat} (hn : n ≤ s.left.length) : EndsOk p i (es ++ [i + n]) { s with left := s.left.take n, outer := s.outer ++ [s.left.drop n] } := by
  obtain ⟨e, g1, g2, g3, g4⟩ := h.left_len
  obtain ⟨h1, h2, ⟨e', h3, h4, h5⟩, h6⟩ := h
  rw [g1] at h3; injection h3 with h3; subst h3
  rw [g4] at hn
  have htt : (p.take e).take (i + n) = p.take (i + n) := by rw [List.take_take, Nat.min_eq_left (by omega)]
  refine ⟨by simp only [List.length_append, List.length_cons, List.length_nil]; omega, fun x hx => ?_, ⟨i + n, by simp, by omega, ?_⟩, fun j a b l hja hjb hjl => ?_⟩
  · rcases List.mem_append.1 hx with hx | hx
    · exact h2 x hx
    · simp at hx; omega
  · simp only
    rw [h5, List.take_drop, htt]
  · simp only at hjl
    by_cases hj : j + 1 < es.length
    · rw [List.getElem?_append_left (by omega)] at hja
      rw [List.getElem?_append_left hj] at hjb
      rw [List.getElem?_append_left (by omega)] at hjl
      exact h6 j a b l hja hjb hjl
    · have hjo : j = s.outer.length := by
        rcases Nat.lt_or_ge j s.outer.length with h | h
        · omega
        · rcases Nat.lt_or_ge s.outer.length j with h' | h'
          · rw [List.getElem?_eq_none (by rw [List.length_append]; simp; omega)] at hjl; cases hjl
          · omega
      subst hjo
      rw [List.getElem?_append_left (by omega)] at hja
      rw [List.getElem?_append_right (by omega), show s.outer.length + 1 - es.length = 0 by omega] at hjb
      rw [List.getElem?_append_right (Nat.le_refl _), Nat.sub_self] at hjl
      simp only [List.getElem?_cons_zero, Option.some.injEq] at hjb hjl
      have hae : a = e := by
        rw [List.getLast?_eq_getElem?, show es.length - 1 = s.outer.length by omega, hja] at g1
        injection g1
      subst hae hjb hjl
      exact ⟨by omega, by rw [h5, List.drop_drop]⟩
/-- The ends of the frames have one more. -/
theorem refPush (h : RefLies w F k s) {n : Nat} (hn : n ≤ s.left.length) (h16 : s.outer.length ≤ 16) :
    ∃ (i : Nat) (EA : Option Addr) (ec : Nat) (EA' : Option Addr) (ec' : Nat) (w2 : World), w.cell? ⟨k, 2, none⟩ = some (.slice EA (s.outer.length + 1) ec) ∧ w.cell? ⟨k, 1, none⟩ = some (.int .i64 i) ∧ i + n ≤ 9223372036854775807 ∧
      (Builtin.append_ #[58, 58] 58 #[.slice EA (s.outer.length + 1) ec, .slice (some ⟨w.drew.heap.size, 0, none⟩) 1 1]).run Try.prog (w.drew.alloc (.cells #[.int .i64 ((i : Int) + (n : Int))] 3)) = .ok (.slice EA' (s.outer.length + 1 + 1) ec') w2 ∧
      w2.cell? ⟨k, 2, none⟩ = some (.slice EA (s.outer.length + 1) ec) ∧ w2.cell? ⟨k, 1, none⟩ = some (.int .i64 i) ∧ w2.frozen? ⟨k, 2, none⟩ = false ∧
      UpdQG F k w (w2.setCell ⟨k, 2, none⟩ (.slice EA' (s.outer.length + 1 + 1) ec')) { s with left := s.left.take n, outer := s.outer ++ [s.left.drop n] } := by
  obtain ⟨p, i, es, A, c, EA, ec, h1, h2, h3, h4, h5⟩ := h
  have hel := h5.1
  obtain ⟨e, g1, g2, g3, g4⟩ := h5.left_len
  have hcap := h3.le
  have hmax := h3.max
  simp only [maxLen] at hmax
  have ET := h5.enter hn
  obtain ⟨EA', ec', w2, hrun, R2, F2, K2⟩ := RowF.append (ys := [i + n]) elPos (((h4.keeps (KeepT.drew _ w)).keeps (KeepT.alloc _ w.drew (.cells #[.int .i64 ((i + n : Nat) : Int)] 3)))) 58 (some ⟨w.drew.heap.size, 0, none⟩) 1
    (fun _ => ⟨w.drew.heap.size, 0, rfl, fun q y hy j v hv => by
      have hi : q = 0 := by rcases q with _ | q; rfl; simp at hy
      subst hi
      simp at hy; subst hy
      have hj : j = 0 := by rcases j with _ | j; rfl; simp [encPos] at hv
      subst hj
      simp [encPos] at hv; subst hv
      exact cell_blk (blk_new w.drew _) 0 (by simp)⟩) (by simp only [maxLen, List.length_singleton]; omega) (by simp only [List.length_singleton]; omega)
  rw [hel] at hrun
  simp only [List.length_singleton] at hrun
  rw [show ((i + n : Nat) : Int) = (i : Int) + (n : Int) from Int.natCast_add i n] at hrun
  have hk2 := K2 TQ tq_ne.2 _ _ (blk_alloc (show w.drew.heap[k]? = _ from h1) (.cells #[.int .i64 ((i + n : Nat) : Int)] 3))
  rw [hel] at h1 hk2
  have hS := setCell_heap w2 k 2 (.slice EA' (s.outer.length + 1 + 1) ec') _ _ _ hk2
  have K1 : KeepT 5 w2 (w2.setCell ⟨k, 2, none⟩ (.slice EA' (s.outer.length + 1 + 1) ec')) := KeepT.setCell hk2 (Ne.symm tq_ne.1) 2 _
  have K3 : KeepT 3 w2 (w2.setCell ⟨k, 2, none⟩ (.slice EA' (s.outer.length + 1 + 1) ec')) := KeepT.setCell hk2 (Ne.symm tq_ne.2) 2 _
  have FA : Fr F w w2 := ((Fr.drew F w).trans (Fr.alloc F _ _) fun _ _ h => h).trans F2 fun _ _ h => h
  refine ⟨i, EA, ec, EA', ec', w2, cell_blk h1 2 rfl, cell_blk h1 1 rfl, by omega, hrun, cell_blk hk2 2 rfl, cell_blk hk2 1 rfl, free_blk hk2 2, ⟨p, i, es ++ [i + n], A, c, EA', ec', ?_, Or.inl h2, ?_, ?_, ET⟩, FA.trans (Fr.set (F := F) _ h2 _) fun _ _ h => h⟩
  · rw [List.length_append, hel]; exact hS
  · exact ((((h3.keeps (KeepT.drew _ w)).keeps (KeepT.alloc _ _ _)).keeps (K2 5 (by decide))).keeps K1).mono fun _ h => Or.inl h
  · refine (R2.keeps K3).mono fun x hx => ?_
    rcases hx with hx | hx
    · exact Or.inl hx
    · simp at hx
      exact Or.inr ⟨by omega, by rw [setCell_size]; omega⟩
end
end Go.Proofs.Ytibelfljlhcibaa
namespace Go.Proofs.Ytibelfljlhcibaa
set_option linter.unusedVariables false
set_option linter.unusedSimpArgs false
open Go.RowKit Go.Deep Go.Proofs.YtibelfljlhcibaaW.PrintLast

section
variable {w w' w1 w2 : World} {F G : Nat → Prop} {k : Nat} {s s' : RS}
theorem num_outer (s : RS) : s.num.2.outer = s.outer := by
  unfold RS.num
  split
  · split <;> rfl
  · rfl
theorem UpdQG.after (h : UpdQ F k w w1 s) (h' : UpdQG F k w1 w2 s') : UpdQG F k w w2 s' :=
  ⟨h'.1.mono fun x hx => by
    rcases hx with hx | hx
    · exact Or.inl hx
    · exact Or.inr ⟨Nat.le_trans h.2.size hx.1, hx.2⟩, h.2.trans h'.2 fun _ _ h => h⟩
theorem RefLies.endsCell (h : RefLies w F k s) : ∃ EA ec, w.cell? ⟨k, 2, none⟩ = some (.slice EA (s.outer.length + 1) ec) := by
  obtain ⟨p, i, es, A, c, EA, ec, h1, h2, h3, h4, h5⟩ := h
  exact ⟨EA, ec, by rw [← h5.1]; exact cell_blk h1 2 rfl⟩
set_option maxHeartbeats 4000000 in
set_option maxRecDepth 100000 in
theorem refREnter_any (h : RefLies w F k s) (hb : Byt s.left) (h47 : s.left.length ≤ 140737488355328) (h16 : s.outer.length ≤ 16) :
    Calls Try.prog 78 #[.pointer (some ⟨k, 0, none⟩)] w fun e w' => e = .returned (.int .i64 (s.enter.1 : Nat)) ∧ UpdQG F k w w' s.enter.2 := by
  have DE := Lib.hid (refRDead_any h)
  have H := Lib.hid h
  obtain ⟨c3, f3⟩ := h.ftCell
  by_cases hf : s.ft = 0
  · rw [hf] at DE c3
    obtain ⟨EA, ec, e2⟩ := h.endsCell
    by_cases ho : s.outer.length = 16
    · have e1 : s.enter = (0, { s with ft := 11 }) := by unfold RS.enter; rw [if_pos hf, if_pos ho]
      rw [e1]
      rw [ho] at e2
      clear h47 h hb h16
      go_enter Try.func78, Try.ntmps78
      go_wp2_with (go_at_call 115; refine DE.out.mono ?_; rintro e w_ ⟨rfl, rfl⟩)
      go_ret
      exact ⟨rfl, (UpdQ.fault H.out 11).g⟩
    · have hso := num_outer s
      have hsl := num_len s
      have hsb := RS.num_byt hb
      have hn64 := num_lt s hb
      have HEN := Lib.hid (show s.enter = (match s.size 18446744073709551615 with
        | (n, s') => if s'.ft = 0 then (n, { s' with left := s'.left.take n, outer := s'.outer ++ [s'.left.drop n] }) else (0, s')) by unfold RS.enter; rw [if_pos hf, if_neg ho])
      have HSZ := Lib.hid (show ∀ M, s.size M = (if s.num.2.ft = 0 then (if M < s.num.1 then (0, { s.num.2 with ft := 11 }) else if s.num.2.left.length < s.num.1 then (0, { s.num.2 with ft := 10 }) else (s.num.1, s.num.2)) else (0, s.num.2)) from fun M => rfl)
      have NU := Lib.hid (refNumber_any h hf hb h47)
      have hO : s.outer.length < 16 := by omega
      generalize hqq : s.num = q at *
      obtain ⟨n, s2⟩ := q
      simp only at hso hsl hsb hn64 HSZ NU
      obtain ⟨O, hOe⟩ : ∃ O, s.outer.length = O := ⟨_, rfl⟩
      rw [hOe] at e2 hO
      have HO := Lib.hid (show s2.outer.length ≤ 16 by rw [hso]; omega)
      have HL := Lib.hid (Nat.le_trans hsl h47)
      have qo : ¬ (16 : Int) < (O : Int) + 1 := by omega
      have hn64' := Lib.hid hn64
      clear h47 h hb h16 hqq ho hOe hso hsl hsb
      go_enter Try.func78, Try.ntmps78
      go_wp2_with (go_at_call 115; refine DE.out.mono ?_; rintro e w_ ⟨rfl, rfl⟩)
      refine NU.out.mono ?_
      rintro e w2 ⟨rfl, U2⟩
      obtain ⟨d3, g3⟩ := U2.1.ftCell
      have HU := Lib.hid U2
      have LF := Lib.hid (refLeft_any U2.1)
      clear U2 e2 c3 f3
      by_cases h2 : s2.ft = 0
      · rw [h2] at d3
        have g3' : w2.drew.frozen? ⟨k, 3, none⟩ = false := g3
        have d3' : w2.drew.cell? ⟨k, 3, none⟩ = some (.int .i64 0) := d3
        by_cases hl : s2.left.length < n
        · have HRES := Lib.hid (show s.enter = (0, { s2 with ft := 10 }) by
            rw [HEN.out, HSZ.out, if_pos h2, if_neg (show ¬ 18446744073709551615 < n by omega), if_pos hl]
            simp only
            rw [if_neg (by decide)])
          obtain ⟨L, hL⟩ : ∃ L, s2.left.length = L := ⟨_, rfl⟩
          have hLb : (L : Int) ≤ 140737488355328 := by have := HL.out; omega
          have hl' : (L : Int) < (n : Int) := by omega
          rw [hL] at LF
          clear hL hl
          go_wp2_with (go_at_call 122; refine LF.out.mono ?_; rintro e w_ ⟨rfl, rfl⟩)
          go_ret
          rw [HRES.out]
          exact ⟨rfl, (HU.out.trans (UpdQ.after ((Below.refl _ _).drew) (UpdQ.fault HU.out.1.drew 10))).g⟩
        · have HRES := Lib.hid (show s.enter = (n, { s2 with left := s2.left.take n, outer := s2.outer ++ [s2.left.drop n] }) by
            rw [HEN.out, HSZ.out, if_pos h2, if_neg (show ¬ 18446744073709551615 < n by omega), if_neg hl]
            simp only
            rw [if_pos h2])
          obtain ⟨i, EB, eb, EB', eb', w3, x2, x1, hin, hrun, y2, y1, fz, UP⟩ := refPush (HU.out.1.drew) (n := n) (by omega) HO.out
          obtain ⟨L, hL⟩ : ∃ L, s2.left.length = L := ⟨_, rfl⟩
          have hLb : (L : Int) ≤ 140737488355328 := by have := HL.out; omega
          have hl' : ¬ (L : Int) < (n : Int) := by omega
          have hnb : (n : Int) ≤ 9223372036854775807 := by omega
          rw [hL] at LF
          have HRUN := Lib.hid hrun
          have HX := Lib.hid (And.intro y2 y1)
          have HUP := Lib.hid UP
          generalize s2.outer.length + 1 = O2 at *
          have hin2 : (i : Int) + (n : Int) ≤ 9223372036854775807 := by omega
          clear hL hl hrun y2 y1 UP
          go_wp2_with (go_at_call 122; refine LF.out.mono ?_; rintro e w_ ⟨rfl, rfl⟩)
          refine start_ (n := 17) (S := fun w' => w'.cell? ⟨k, 2, none⟩ = some (.slice EB O2 eb) ∧ w'.cell? ⟨k, 1, none⟩ = some (.int .i64 i)) (ds := [16]) #[false, false, false, false, false, false, false, false, false, false, false, false, false, false, false, false, false] (by kernel_rfl) rfl rfl ⟨x2, x1⟩ (fun hHeld => ?_)
          (refine take_ (i := 0) (N := some 30) (v := ?v_31) (a' := ?a_31) #[true, false, false, false, false, false, false, false, false, false, false, false, false, false, false, false, false] rfl rfl (by kernel_rfl) (fun _ _ _ h => h) (Or.inl ⟨by rfl, ?hy_31⟩) hHeld ?ha_31 ?hh_31; (case hy_31 => (rintro w' ⟨s0_, s1_⟩; go_simp; with_reducible rfl)); (case ha_31 => (simp (disch := omega) only [Act.put, List.setIfInBounds_toArray, List.set_cons_zero, List.set_cons_succ, wrap_in]; rfl)))
          (refine take_ (i := 1) (N := some 31) (v := ?v_32) (a' := ?a_32) #[true, true, false, false, false, false, false, false, false, false, false, false, false, false, false, false, false] rfl rfl (by kernel_rfl) (fun _ _ _ h => h) (Or.inl ⟨by rfl, ?hy_32⟩) hHeld ?ha_32 ?hh_32; (case hy_32 => (rintro w' ⟨s0_, s1_⟩; go_simp; with_reducible rfl)); (case ha_32 => (simp (disch := omega) only [Act.put, List.setIfInBounds_toArray, List.set_cons_zero, List.set_cons_succ, wrap_in]; rfl)))
          (refine take_ (i := 2) (N := some 32) (v := ?v_33) (a' := ?a_33) #[true, true, true, false, false, false, false, false, false, false, false, false, false, false, false, false, false] rfl rfl (by kernel_rfl) (fun _ _ _ h => h) (Or.inl ⟨by rfl, ?hy_33⟩) hHeld ?ha_33 ?hh_33; (case hy_33 => (rintro w' ⟨s0_, s1_⟩; go_simp; with_reducible rfl)); (case ha_33 => (simp (disch := omega) only [Act.put, List.setIfInBounds_toArray, List.set_cons_zero, List.set_cons_succ, wrap_in]; rfl)))
          (refine take_ (i := 3) (N := some 33) (v := ?v_34) (a' := ?a_34) #[true, true, true, true, false, false, false, false, false, false, false, false, false, false, false, false, false] rfl rfl (by kernel_rfl) (fun _ _ _ h => h) (Or.inl ⟨by rfl, ?hy_34⟩) hHeld ?ha_34 ?hh_34; (case hy_34 => (rintro w' ⟨s0_, s1_⟩; go_simp; with_reducible rfl)); (case ha_34 => (simp (disch := omega) only [Act.put, List.setIfInBounds_toArray, List.set_cons_zero, List.set_cons_succ, wrap_in]; rfl)))
          (refine take_ (i := 4) (N := some 34) (v := ?v_35) (a' := ?a_35) #[true, true, true, true, true, false, false, false, false, false, false, false, false, false, false, false, false] rfl rfl (by kernel_rfl) (fun _ _ _ h => h) (Or.inl ⟨by rfl, ?hy_35⟩) hHeld ?ha_35 ?hh_35; (case hy_35 => (rintro w' ⟨s0_, s1_⟩; go_simp; with_reducible rfl)); (case ha_35 => (simp (disch := omega) only [Act.put, List.setIfInBounds_toArray, List.set_cons_zero, List.set_cons_succ, wrap_in]; rfl)))
          (refine take_ (i := 5) (N := some 35) (v := ?v_36) (a' := ?a_36) #[true, true, true, true, true, true, false, false, false, false, false, false, false, false, false, false, false] rfl rfl (by kernel_rfl) (fun _ _ _ h => h) (Or.inl ⟨by rfl, ?hy_36⟩) hHeld ?ha_36 ?hh_36; (case hy_36 => (rintro w' ⟨s0_, s1_⟩; go_simp; with_reducible rfl)); (case ha_36 => (simp (disch := omega) only [Act.put, List.setIfInBounds_toArray, List.set_cons_zero, List.set_cons_succ, wrap_in]; rfl)))
          (refine take_ (i := 6) (N := some 36) (v := ?v_37) (a' := ?a_37) #[true, true, true, true, true, true, true, false, false, false, false, false, false, false, false, false, false] rfl rfl (by kernel_rfl) (fun _ _ _ h => h) (Or.inl ⟨by rfl, ?hy_37⟩) hHeld ?ha_37 ?hh_37; (case hy_37 => (rintro w' ⟨s0_, s1_⟩; go_simp; with_reducible rfl)); (case ha_37 => (simp (disch := omega) only [Act.put, List.setIfInBounds_toArray, List.set_cons_zero, List.set_cons_succ, wrap_in]; rfl)))
          (refine take_ (i := 7) (N := some 37) (v := ?v_38) (a' := ?a_38) #[true, true, true, true, true, true, true, true, false, false, false, false, false, false, false, false, false] rfl rfl (by kernel_rfl) (fun _ _ _ h => h) (Or.inl ⟨by rfl, ?hy_38⟩) hHeld ?ha_38 ?hh_38; (case hy_38 => (rintro w' ⟨s0_, s1_⟩; go_simp; with_reducible rfl)); (case ha_38 => (simp (disch := omega) only [Act.put, List.setIfInBounds_toArray, List.set_cons_zero, List.set_cons_succ, wrap_in]; rfl)))
          (refine take_ (i := 8) (N := some 38) (v := ?v_39) (a' := ?a_39) #[true, true, true, true, true, true, true, true, true, false, false, false, false, false, false, false, false] rfl rfl (by kernel_rfl) (fun _ _ _ h => h) (Or.inl ⟨by rfl, ?hy_39⟩) hHeld ?ha_39 ?hh_39; (case hy_39 => (rintro w' ⟨s0_, s1_⟩; go_simp; with_reducible rfl)); (case ha_39 => (simp (disch := omega) only [Act.put, List.setIfInBounds_toArray, List.set_cons_zero, List.set_cons_succ, wrap_in]; rfl)))
          (refine take_ (i := 9) (N := some 39) (v := ?v_40) (a' := ?a_40) #[true, true, true, true, true, true, true, true, true, true, false, false, false, false, false, false, false] rfl rfl (by kernel_rfl) (fun _ _ _ h => h) (Or.inl ⟨by rfl, ?hy_40⟩) hHeld ?ha_40 ?hh_40; (case hy_40 => (rintro w' ⟨s0_, s1_⟩; go_simp; with_reducible rfl)); (case ha_40 => (simp (disch := omega) only [Act.put, List.setIfInBounds_toArray, List.set_cons_zero, List.set_cons_succ, wrap_in]; rfl)))
          (refine take_ (i := 10) (N := some 40) (v := ?v_41) (a' := ?a_41) #[true, true, true, true, true, true, true, true, true, true, true, false, false, false, false, false, false] rfl rfl (by kernel_rfl) (fun _ _ _ h => h) (Or.inl ⟨by rfl, ?hy_41⟩) hHeld ?ha_41 ?hh_41; (case hy_41 => (rintro w' ⟨s0_, s1_⟩; go_simp; with_reducible rfl)); (case ha_41 => (simp (disch := omega) only [Act.put, List.setIfInBounds_toArray, List.set_cons_zero, List.set_cons_succ, wrap_in]; rfl)))
          (refine take_ (i := 11) (N := some 41) (v := ?v_42) (a' := ?a_42) #[true, true, true, true, true, true, true, true, true, true, true, true, false, false, false, false, false] rfl rfl (by kernel_rfl) (fun _ _ _ h => h) (Or.inl ⟨by rfl, ?hy_42⟩) hHeld ?ha_42 ?hh_42; (case hy_42 => (rintro w' ⟨s0_, s1_⟩; go_simp; with_reducible rfl)); (case ha_42 => (simp (disch := omega) only [Act.put, List.setIfInBounds_toArray, List.set_cons_zero, List.set_cons_succ, wrap_in]; rfl)))
          refine one_ (i := 12) (N := some 42) #[true, true, true, true, true, true, true, true, true, true, true, true, true, false, false, false, false] rfl rfl (by kernel_rfl) (by decide) (fun K hK => ?_)
          (refine value_ (v := ?v_20) (w1 := ?w1_20) (by rfl) rfl ?hr_20 ?hk_20; (case hr_20 => (go_simp; first | with_reducible rfl | (constructor <;> with_reducible rfl))))
          (refine hK.out _ _ ?hs_21 ?hn_21; (case hs_21 => (obtain ⟨s0_, s1_⟩ := hHeld; exact ⟨cell_alloc_old s0_ _, cell_alloc_old s1_ _⟩)); intro hHeld; clear hK K)
          (refine norm_ (a' := ?a_22) ?ha_22 ?hh_22; (case ha_22 => (simp (disch := omega) only [Act.put, List.setIfInBounds_toArray, List.set_cons_zero, List.set_cons_succ, wrap_in]; rfl)))
          refine one_ (i := 13) (N := some 43) #[true, true, true, true, true, true, true, true, true, true, true, true, true, true, false, false, false] rfl rfl (by kernel_rfl) (by decide) (fun K hK => ?_)
          (have hrun := HRUN.out; refine value_ (by rfl) rfl (runapp_ hrun (by rfl) (by rfl) (by rfl) (by rfl)) ?hk_23)
          (refine hK.out _ _ ?hs_24 ?hn_24; (case hs_24 => (exact HX.out)); intro hHeld; clear hK K)
          (refine norm_ (a' := ?a_25) ?ha_25 ?hh_25; (case ha_25 => (simp (disch := omega) only [Act.put, List.setIfInBounds_toArray, List.set_cons_zero, List.set_cons_succ, wrap_in]; rfl)))
          (refine take_ (i := 14) (N := some 44) (v := ?v_26) (a' := ?a_26) #[true, true, true, true, true, true, true, true, true, true, true, true, true, true, true, false, false] rfl rfl (by kernel_rfl) (fun _ _ _ h => h) (Or.inl ⟨by rfl, ?hy_26⟩) hHeld ?ha_26 ?hh_26; (case hy_26 => (rintro w' ⟨s0_, s1_⟩; go_simp; with_reducible rfl)); (case ha_26 => (simp (disch := omega) only [Act.put, List.setIfInBounds_toArray, List.set_cons_zero, List.set_cons_succ, wrap_in]; rfl)))
          (refine take_ (i := 15) (N := some 45) (v := ?v_27) (a' := ?a_27) #[true, true, true, true, true, true, true, true, true, true, true, true, true, true, true, true, false] rfl rfl (by kernel_rfl) (fun _ _ _ h => h) (Or.inl ⟨by rfl, ?hy_27⟩) hHeld ?ha_27 ?hh_27; (case hy_27 => (rintro w' ⟨s0_, s1_⟩; go_simp; with_reducible rfl)); (case ha_27 => (simp (disch := omega) only [Act.put, List.setIfInBounds_toArray, List.set_cons_zero, List.set_cons_succ, wrap_in]; rfl)))
          refine last_ (i := 16) (N := none) #[true, true, true, true, true, true, true, true, true, true, true, true, true, true, true, true, true] rfl rfl (by kernel_rfl) (by decide) (fun K hK => ?_)
          (refine skip_ (w1 := ?w1_28) (by rfl) rfl ?hr_28 ?hk_28; (case hr_28 => (go_simp; first | with_reducible rfl | (constructor <;> with_reducible rfl))))
          (refine hK.out _ _ ?hn_29; clear hK K; try clear hHeld)
          refine done_ (by kernel_rfl) ?_
          go_wp2_with (fail)
          go_ret
          rw [HRES.out]
          exact ⟨rfl, UpdQG.after (HU.out.ahead ((Below.refl _ _).drew)) HUP.out⟩
      · have HRES := Lib.hid (show s.enter = (0, s2) by
          rw [HEN.out, HSZ.out, if_neg h2]
          simp only
          rw [if_neg h2])
        clear LF
        go_wp2_with (fail)
        go_ret
        rw [HRES.out]
        exact ⟨rfl, HU.out.g⟩
  · have hne : (s.ft != 0) = true := by simpa using hf
    have e1 : s.enter = (0, s) := by unfold RS.enter; rw [if_neg hf]
    rw [e1]
    rw [hne] at DE
    clear h h47 hb h16
    go_enter Try.func78, Try.ntmps78
    go_wp2_with (go_at_call 115; refine DE.out.mono ?_; rintro e w_ ⟨rfl, rfl⟩)
    go_ret
    exact ⟨rfl, (UpdQ.refl H.out).g⟩
end
end Go.Proofs.Ytibelfljlhcibaa
namespace Go.Proofs.Ytibelfljlhcibaa
set_option linter.unusedVariables false
set_option linter.unusedSimpArgs false
open Go.RowKit Go.Deep Go.Proofs.YtibelfljlhcibaaW.PrintLast

section
variable {w w' w1 w2 : World} {F G : Nat → Prop} {k : Nat} {s s' : RS}
set_option maxRecDepth 100000 in
set_option maxHeartbeats 1000000 in
theorem refTurned_any {A : Option Addr} {c : Nat} {p : List Int} (hy : BSrc w A p) (hl : p.length ≤ 140737488355328) :
    Calls Try.prog 120 #[.slice A p.length c] w fun e w' => ∃ A' c', e = .returned (.slice A' p.length c') ∧ GRow bc 5 1 w' w.heap.size A' c' p.reverse ∧ Below w.heap.size w w' := by
  have HY := Lib.hid hy
  obtain ⟨n, hn⟩ : ∃ n, p.length = n := ⟨_, rfl⟩
  have HN := Lib.hid hn
  rw [hn] at hl ⊢
  clear hy hn
  go_enter Try.func120, Try.ntmps120
  go_wp2_with (fail)
  refine wp_loop_ghost_k (fun (a : Nat) (ac : Act) (wr : World) => ∃ u1 u2 u5 u6 u7 u8 u9 u10 u11 u12 u13 u14 u15 u16 u17 u18 u19 v3 v4 : Value, (∃ (j d : Nat) (A' : Option Addr) (c' : Nat), a = j ∧ j + d = n ∧ v3 = .slice A' d c' ∧ v4 = .int .i64 ((j : Int) - 1) ∧ GRow bc 5 1 wr w.heap.size A' c' (p.drop j).reverse ∧ Below w.heap.size w wr) ∧ ac = ({ tmps := #[.slice A n c, u1, u2, v3, v4, u5, u6, u7, u8, u9, u10, u11, u12, u13, u14, u15, u16, u17, u18, u19], defers := [] } : Act)) (n) ?atStart ?round
  case' atStart => ((repeat apply Exists.intro); refine ⟨?_, rfl⟩)
  case' round => (intro a ac wr hcut; obtain ⟨u1, hcut⟩ := hcut; obtain ⟨u2, hcut⟩ := hcut; obtain ⟨u5, hcut⟩ := hcut; obtain ⟨u6, hcut⟩ := hcut; obtain ⟨u7, hcut⟩ := hcut; obtain ⟨u8, hcut⟩ := hcut; obtain ⟨u9, hcut⟩ := hcut; obtain ⟨u10, hcut⟩ := hcut; obtain ⟨u11, hcut⟩ := hcut; obtain ⟨u12, hcut⟩ := hcut; obtain ⟨u13, hcut⟩ := hcut; obtain ⟨u14, hcut⟩ := hcut; obtain ⟨u15, hcut⟩ := hcut; obtain ⟨u16, hcut⟩ := hcut; obtain ⟨u17, hcut⟩ := hcut; obtain ⟨u18, hcut⟩ := hcut; obtain ⟨u19, hcut⟩ := hcut; obtain ⟨v3, hcut⟩ := hcut; obtain ⟨v4, hcut⟩ := hcut; obtain ⟨hcut, hac⟩ := hcut; subst hac; intro _ _ _ _)
  case atStart => exact ⟨n, 0, none, 0, rfl, rfl, rfl, rfl, by rw [List.drop_eq_nil_of_le (by rw [HN.out]; exact Nat.le_refl _)]; exact GRow.nil, Below.refl _ _⟩
  case round =>
    obtain ⟨j, d, A', c', rfl, hjn, rfl, rfl, G, B⟩ := hcut
    have HG := Lib.hid G
    have HB := Lib.hid B
    rcases a with _ | j
    · have q0 : ¬ (0 : Int) ≤ ((0 : Nat) : Int) - 1 := by omega
      have hdn : d = n := by omega
      subst hdn
      clear G B
      go_wp2_with (fail)
      go_ret
      exact ⟨A', c', rfl, HG.out, HB.out⟩
    · have hjl : j < p.length := by rw [HN.out]; omega
      obtain ⟨y, hy⟩ : ∃ y, p[j]? = some y := ⟨_, List.getElem?_eq_getElem hjl⟩
      obtain ⟨g, o, hA, hBA⟩ := HY.out (by rintro h; rw [h] at hjl; simp at hjl)
      subst hA
      have hgl : g < w.heap.size := World.block_lt_of_cell? _ _ (hBA j y hy)
      have xc : wr.cell? ⟨g, o + j, none⟩ = some (.int .u8 y) := cell_same (hBA j y hy) (B.block g hgl)
      have hd : p.drop j = y :: p.drop (j + 1) := by
        rw [List.drop_eq_getElem_cons hjl]
        congr 1
        rw [List.getElem?_eq_getElem hjl] at hy
        injection hy
      have hlen : (p.drop (j + 1)).reverse.length = d := by rw [List.length_reverse, List.length_drop, HN.out]; omega
      obtain ⟨A1, c2, w2, hrun, G2, B2, _⟩ := GRow.push elBy HG.out 23 y HB.out HB.out.size (by rw [hlen]; simp only [maxLen]; omega) (by rw [hlen]; omega)
      rw [hlen] at hrun
      have HRUN := Lib.hid hrun
      have HG2 := Lib.hid (show GRow bc 5 1 w2 w.heap.size A1 c2 (p.drop j).reverse by rw [hd, List.reverse_cons]; exact G2)
      have HB2 := Lib.hid B2
      have q1 : ((j + 1 : Nat) : Int) - 1 = (j : Int) := by omega
      rw [q1]
      have q2 : (j : Int) < (n : Int) := by omega
      have HJ := Lib.hid hjn
      clear hy hBA hd hjl q1 hrun G2 B2 G B hlen hgl hjn
      go_wp2_with (refine wpList_app HRUN.out rfl rfl rfl (by rfl) (by rfl) ?_)
      go_roundg j
      case measure => omega
      case rel => exact ⟨j, d + 1, A1, c2, rfl, by have := HJ.out; omega, rfl, rfl, HG2.out, HB2.out⟩
set_option maxHeartbeats 400000 in
theorem refOdd_any (n : Nat) (w : World) : Calls Try.prog 133 #[.int .u64 n] w fun e w' => e = .returned (.bool (oddBits n)) ∧ w = w' := by
  have e1 : oddBits n = decide ((9218868437227405312 : Int) < (n : Int) % 9223372036854775808) := by
    unfold oddBits
    rw [decide_eq_decide]
    omega
  rw [e1]
  obtain ⟨m, hm⟩ : ∃ m : Int, (n : Int) % 9223372036854775808 = m := ⟨_, rfl⟩
  rw [hm]
  go_enter Try.func133, Try.ntmps133
  go_wp2_with (fail)
  go_ret
  exact ⟨rfl, rfl⟩
set_option maxHeartbeats 400000 in
theorem refClean_any (n : Nat) (w : World) : Calls Try.prog 121 #[.int .u64 n] w fun e w' => e = .returned (.int .u64 (cleanBits n : Nat)) ∧ w = w' := by
  have OD := Lib.hid (refOdd_any n w)
  unfold cleanBits nanBits
  obtain ⟨b, hb⟩ : ∃ b, oddBits n = b := ⟨_, rfl⟩
  rw [hb] at OD ⊢
  clear hb
  cases b
  · simp only [Bool.false_eq_true, if_false]
    go_enter Try.func121, Try.ntmps121
    go_wp2_with (fail)
    refine OD.out.mono ?_
    rintro e w_ ⟨rfl, rfl⟩
    go_wp2_with (fail)
    go_ret
    exact ⟨rfl, rfl⟩
  · simp only [if_true]
    go_enter Try.func121, Try.ntmps121
    go_wp2_with (fail)
    refine OD.out.mono ?_
    rintro e w_ ⟨rfl, rfl⟩
    go_wp2_with (fail)
    go_ret
    exact ⟨rfl, rfl⟩
set_option maxHeartbeats 2000000 in
set_option maxRecDepth 100000 in
theorem refRReal_any (h : RefLies w F k s) (hb : Byt s.left) (h47 : s.left.length ≤ 140737488355328) :
    Calls Try.prog 75 #[.pointer (some ⟨k, 0, none⟩)] w fun e w' => e = .returned (.int .u64 (s.real.1 : Nat)) ∧ UpdQ F k w w' s.real.2 := by
  have DE := Lib.hid (refRDead_any h)
  have H := Lib.hid h
  by_cases hf : s.ft = 0
  · rw [hf] at DE
    have e1 : s.real = (match s.next 8 with
      | none => (0, s.short)
      | some (p, s') => if cleanBits (upN p.reverse) = upN p.reverse then (upN p.reverse, s') else (0, { s' with ft := 11 })) := by unfold RS.real; rw [if_pos hf]; cases s.next 8 <;> rfl
    have E1 := Lib.hid e1
    have HB := Lib.hid hb
    have HF := Lib.hid hf
    have BY := Lib.hid (show Calls Try.prog 116 #[.pointer (some ⟨k, 0, none⟩), .int .i64 8] w (BytesP F k w s 8) from refBytes_any h 8 (by omega) h47)
    clear h47 h e1 hb
    go_enter Try.func75, Try.ntmps75
    go_wp2_with (go_at_call 115; refine DE.out.mono ?_; rintro e w_ ⟨rfl, rfl⟩)
    refine BY.out.mono ?_
    intro e w2 hB
    unfold BytesP at hB
    cases hx : s.next 8 with
    | none =>
      rw [hx] at hB
      obtain ⟨rfl, hu⟩ := hB
      have HU := Lib.hid hu
      have HXN := Lib.hid hx
      have TU := Lib.hid (refTurned_any (w := w2) (A := none) (c := 0) (p := []) (fun h => absurd rfl h) (by simp))
      simp only [List.length_nil, List.reverse_nil] at TU
      clear hu hx
      go_wp2_with (fail)
      refine TU.out.mono ?_
      rintro e w3 ⟨A', c', rfl, hg, hb3⟩
      have VA := Lib.hid (refValue_any (w := w3) (A := A') (c := c') (p := []) (fun h => absurd rfl h) (fun x hx => by cases hx) (by simp))
      simp only [List.length_nil] at VA
      have HU3 := Lib.hid (HU.out.ahead hb3)
      obtain ⟨c3, _⟩ := HU3.out.1.ftCell
      simp only [RS.short] at c3
      clear hg hb3
      go_wp2_with (fail)
      refine VA.out.mono ?_
      rintro e w_ ⟨rfl, rfl⟩
      go_wp2_with (fail)
      go_ret
      rw [E1.out, HXN.out]
      exact ⟨rfl, HU3.out⟩
    | some q =>
      obtain ⟨p, s2⟩ := q
      rw [hx] at hB
      obtain ⟨⟨A, c, rfl, hg⟩, hu⟩ := hB
      have hp : p = s.left.take 8 ∧ p.length = 8 ∧ s2.ft = s.ft := by
        unfold RS.next at hx
        split at hx
        · injection hx with hx; injection hx with h1 h2
          exact ⟨h1.symm, by rw [← h1, List.length_take]; omega, by rw [← h2]⟩
        · cases hx
      have hpb : Byt p := by rw [hp.1]; exact fun x hx => HB.out x (List.mem_of_mem_take hx)
      have hs2 : s2.ft = 0 := by rw [hp.2.2]; exact hf
      have TU := Lib.hid (refTurned_any (w := w2) (A := A) (c := c) (p := p) hg.srcB (by rw [hp.2.1]; omega))
      have HU := Lib.hid hu
      have HXN := Lib.hid hx
      have HP8 := Lib.hid hp.2.1
      have HPB := Lib.hid hpb
      rw [hp.2.1] at TU ⊢
      clear hg hu hx hp hpb
      go_wp2_with (fail)
      refine TU.out.mono ?_
      rintro e w3 ⟨A', c', rfl, hg3, hb3⟩
      have VA := Lib.hid (refValue_any (w := w3) (A := A') (c := c') (p := p.reverse) hg3.srcB (fun x hx => HPB.out x (List.mem_reverse.1 hx)) (by rw [List.length_reverse, HP8.out]; omega))
      rw [List.length_reverse, HP8.out] at VA
      have HU3 := Lib.hid (HU.out.ahead hb3)
      obtain ⟨c3, f3⟩ := HU3.out.1.ftCell
      rw [hs2] at c3
      obtain ⟨v, hv⟩ : ∃ v, upN p.reverse = v := ⟨_, rfl⟩
      have HV := Lib.hid hv
      rw [hv] at VA
      have CL := Lib.hid (refClean_any v w3)
      obtain ⟨t, ht⟩ := named ((v : Int) != (cleanBits v : Int))
      clear hg3 hb3 hv
      go_wp2_with (fail)
      refine VA.out.mono ?_
      rintro e w_ ⟨rfl, rfl⟩
      go_wp2_with (fail)
      refine CL.out.mono ?_
      rintro e w_ ⟨rfl, rfl⟩
      have HT := Lib.hid ht
      cases t
      · have hcl : cleanBits v = v := by simp at ht; omega
        have HCL := Lib.hid hcl
        clear hcl
        go_wp2_with (fail)
        go_ret
        rw [E1.out, HXN.out]
        simp only
        rw [HV.out, if_pos HCL.out]
        exact ⟨rfl, HU3.out⟩
      · have hcl : ¬ cleanBits v = v := by simp at ht; omega
        have HCL := Lib.hid hcl
        clear hcl
        go_wp2_with (fail)
        go_ret
        rw [E1.out, HXN.out]
        simp only
        rw [HV.out, if_neg HCL.out]
        exact ⟨rfl, HU3.out.setFault 11⟩
  · have hne : (s.ft != 0) = true := by simpa using hf
    have e1 : s.real = (0, s) := by unfold RS.real; rw [if_neg hf]
    rw [e1]
    rw [hne] at DE
    clear h h47 hb
    go_enter Try.func75, Try.ntmps75
    go_wp2_with (go_at_call 115; refine DE.out.mono ?_; rintro e w_ ⟨rfl, rfl⟩)
    go_ret
    exact ⟨rfl, UpdQ.refl H.out⟩
end
end Go.Proofs.Ytibelfljlhcibaa
namespace Go.Proofs.Ytibelfljlhcibaa
set_option linter.unusedVariables false
set_option linter.unusedSimpArgs false
open Go.RowKit Go.Deep Go.Proofs.YtibelfljlhcibaaW.PrintLast

set_option maxHeartbeats 400000 in
theorem refRDead_nil (w : World) : Calls Try.prog 115 #[.pointer none] w fun e w' => e = .returned (.bool true) ∧ w = w' := by
  go_enter Try.func115, Try.ntmps115
  go_wp2
  go_ret
  exact ⟨rfl, rfl⟩
set_option maxHeartbeats 400000 in
theorem refRByte_nil (w : World) : Calls Try.prog 71 #[.pointer none] w fun e w' => e = .returned (.int .i64 0) ∧ w = w' := by
  go_enter Try.func71, Try.ntmps71
  go_wp2_with (go_at_call 115; refine (refRDead_nil _).mono ?_; rintro e w_ ⟨rfl, rfl⟩)
  go_ret
  exact ⟨rfl, rfl⟩
set_option maxHeartbeats 400000 in
theorem refRFixed_nil (size : Int) (w : World) : Calls Try.prog 72 #[.pointer none, .int .i64 size] w fun e w' => e = .returned (.int .u64 0) ∧ w = w' := by
  go_enter Try.func72, Try.ntmps72
  go_wp2_with (go_at_call 115; refine (refRDead_nil _).mono ?_; rintro e w_ ⟨rfl, rfl⟩)
  go_ret
  exact ⟨rfl, rfl⟩
set_option maxHeartbeats 400000 in
theorem refRNum_nil (w : World) : Calls Try.prog 73 #[.pointer none] w fun e w' => e = .returned (.int .u64 0) ∧ w = w' := by
  go_enter Try.func73, Try.ntmps73
  go_wp2_with (go_at_call 115; refine (refRDead_nil _).mono ?_; rintro e w_ ⟨rfl, rfl⟩)
  go_ret
  exact ⟨rfl, rfl⟩
set_option maxHeartbeats 400000 in
theorem refRInt_nil (w : World) : Calls Try.prog 74 #[.pointer none] w fun e w' => e = .returned (.int .i64 0) ∧ w = w' := by
  go_enter Try.func74, Try.ntmps74
  go_wp2_with (go_at_call 115; refine (refRDead_nil _).mono ?_; rintro e w_ ⟨rfl, rfl⟩)
  go_ret
  exact ⟨rfl, rfl⟩
set_option maxHeartbeats 400000 in
theorem refRReal_nil (w : World) : Calls Try.prog 75 #[.pointer none] w fun e w' => e = .returned (.int .u64 0) ∧ w = w' := by
  go_enter Try.func75, Try.ntmps75
  go_wp2_with (go_at_call 115; refine (refRDead_nil _).mono ?_; rintro e w_ ⟨rfl, rfl⟩)
  go_ret
  exact ⟨rfl, rfl⟩
set_option maxHeartbeats 400000 in
theorem refRRaw_nil (n : Int) (w : World) : Calls Try.prog 76 #[.pointer none, .int .i64 n] w fun e w' => e = .returned (.slice none 0 0) ∧ w = w' := by
  go_enter Try.func76, Try.ntmps76
  go_wp2_with (go_at_call 115; refine (refRDead_nil _).mono ?_; rintro e w_ ⟨rfl, rfl⟩)
  go_ret
  exact ⟨rfl, rfl⟩
set_option maxHeartbeats 400000 in
theorem refRText_nil (n : Int) (w : World) : Calls Try.prog 77 #[.pointer none, .int .i64 n] w fun e w' => e = .returned (.slice none 0 0) ∧ w = w' := by
  go_enter Try.func77, Try.ntmps77
  go_wp2_with (go_at_call 115; refine (refRDead_nil _).mono ?_; rintro e w_ ⟨rfl, rfl⟩)
  go_ret
  exact ⟨rfl, rfl⟩
set_option maxHeartbeats 400000 in
theorem refREnter_nil (w : World) : Calls Try.prog 78 #[.pointer none] w fun e w' => e = .returned (.int .i64 0) ∧ w = w' := by
  go_enter Try.func78, Try.ntmps78
  go_wp2_with (go_at_call 115; refine (refRDead_nil _).mono ?_; rintro e w_ ⟨rfl, rfl⟩)
  go_ret
  exact ⟨rfl, rfl⟩
set_option maxHeartbeats 400000 in
theorem refRRest_nil (w : World) : Calls Try.prog 80 #[.pointer none] w fun e w' => e = .returned (.int .i64 0) ∧ w = w' := by
  go_enter Try.func80, Try.ntmps80
  go_wp2_with (go_at_call 115; refine (refRDead_nil _).mono ?_; rintro e w_ ⟨rfl, rfl⟩)
  go_ret
  exact ⟨rfl, rfl⟩
set_option maxHeartbeats 400000 in
theorem refRLeave_nil (w : World) : Calls Try.prog 79 #[.pointer none] w fun e w' => e = .returned (.tuple #[]) ∧ w = w' := by
  go_enter Try.func79, Try.ntmps79
  go_wp2_with (go_at_call 115; refine (refRDead_nil _).mono ?_; rintro e w_ ⟨rfl, rfl⟩)
  ((try simp only [Exit.inBlock, Exit.then]); refine bodyPost_ret (results_none rfl _ _ _) rfl ?_)
  exact ⟨rfl, rfl⟩
set_option maxHeartbeats 400000 in
theorem refRDone_nil (w : World) : Calls Try.prog 81 #[.pointer none] w fun e w' => e = .returned (.int .i64 1) ∧ w = w' := by
  go_enter Try.func81, Try.ntmps81
  go_wp2_with (fail)
  go_ret
  exact ⟨rfl, rfl⟩
end Go.Proofs.Ytibelfljlhcibaa
