/- The reference's Form; its writer's lay, Byte, Num, Text, Done. -/
import Derived.Test.YtjmmdpnphafdfaaPE1
namespace Go.Proofs.Ytjmmdpnphafdfaa
set_option linter.unusedVariables false
set_option linter.unusedSimpArgs false
open Go.RowKit Go.Deep Go.Proofs.YtjmmdpnphafdfaaW.PrintLast

/-- Bytes of one's own, or nil: what Form hands back. -/
def OwnR (N : Nat) (w' : World) (p : List Int) (e : Ending) : Prop := ∃ A c, e = .returned (.slice A p.length c) ∧ GRow bc 5 1 w' N A c p
theorem GRow.srcB {w : World} {N : Nat} {A : Option Addr} {c : Nat} {p : List Int} (h : GRow bc 5 1 w N A c p) : BSrc w A p := fun hne => by
  rcases h with ⟨_, _, h⟩ | ⟨g, h1, _, h3⟩
  · exact absurd h hne
  · exact ⟨g, 0, h1, h3.bsAt⟩
set_option maxRecDepth 100000 in
set_option maxHeartbeats 2000000 in
theorem refForm_any (n : Nat) (hn : n < 18446744073709551616) (w : World) :
    Calls Try.prog 70 #[.int .u64 n] w fun e w' => OwnR w.heap.size w' (formN n) e ∧ Below w.heap.size w w' := by
  have HL10 := Lib.hid (formN_len10 hn)
  go_enter Try.func70, Try.ntmps70
  go_wp2_with (fail)
  refine wp_loop_ghost_k (fun (m : Nat) (ac : Act) (wr : World) => ∃ u1 u2 u4 u5 u6 u7 u8 u9 u10 u11 u12 u13 u14 u15 u16 u17 u18 u19 v0 v3 : Value, (∃ (n' : Nat) (acc : List Int) (A : Option Addr) (c : Nat), m + acc.length = (formN n).length ∧ acc ++ formN n' = formN n ∧ n' ≤ n ∧ v0 = .int .u64 n' ∧ v3 = .slice A acc.length c ∧ GRow bc 5 1 wr w.heap.size A c acc ∧ Below w.heap.size w wr) ∧ ac = ({ tmps := #[v0, u1, u2, v3, u4, u5, u6, u7, u8, u9, u10, u11, u12, u13, u14, u15, u16, u17, u18, u19], defers := [] } : Act)) ((formN n).length) ?atStart ?round
  case' atStart => ((repeat apply Exists.intro); refine ⟨?_, rfl⟩)
  case' round => (intro m ac wr hcut; obtain ⟨u1, hcut⟩ := hcut; obtain ⟨u2, hcut⟩ := hcut; obtain ⟨u4, hcut⟩ := hcut; obtain ⟨u5, hcut⟩ := hcut; obtain ⟨u6, hcut⟩ := hcut; obtain ⟨u7, hcut⟩ := hcut; obtain ⟨u8, hcut⟩ := hcut; obtain ⟨u9, hcut⟩ := hcut; obtain ⟨u10, hcut⟩ := hcut; obtain ⟨u11, hcut⟩ := hcut; obtain ⟨u12, hcut⟩ := hcut; obtain ⟨u13, hcut⟩ := hcut; obtain ⟨u14, hcut⟩ := hcut; obtain ⟨u15, hcut⟩ := hcut; obtain ⟨u16, hcut⟩ := hcut; obtain ⟨u17, hcut⟩ := hcut; obtain ⟨u18, hcut⟩ := hcut; obtain ⟨u19, hcut⟩ := hcut; obtain ⟨v0, hcut⟩ := hcut; obtain ⟨v3, hcut⟩ := hcut; obtain ⟨hcut, hac⟩ := hcut; subst hac; intro _ _ _ _)
  case atStart => exact ⟨n, [], none, 0, rfl, rfl, Nat.le_refl _, rfl, rfl, GRow.nil, Below.refl _ _⟩
  case round =>
    obtain ⟨n', acc, A, c, hm, hacc, hle, rfl, rfl, G, B⟩ := hcut
    have HM := Lib.hid hm
    have HA := Lib.hid hacc
    have HG := Lib.hid G
    have HB := Lib.hid B
    have hlt64 : n' < 18446744073709551616 := by omega
    have hal : acc.length ≤ 10 := by have := HL10.out; omega
    clear hm hacc G B
    by_cases h : n' < 128
    · obtain ⟨A1, c1, w2, hrun, G2, B2, _⟩ := GRow.push elBy HG.out 22 (n' : Int) HB.out HB.out.size (by simp only [maxLen]; omega) (by omega)
      have HRUN := Lib.hid hrun
      have HG2 := Lib.hid G2
      have HB2 := Lib.hid B2
      clear hrun G2 B2
      go_wp2_with (refine wpList_app HRUN.out rfl rfl rfl (by rfl) (by rfl) ?_)
      go_ret
      rw [← HA.out, formN_small h]
      exact ⟨⟨A1, c1, by simp, HG2.out⟩, HB2.out⟩
    · obtain ⟨A1, c1, w2, hrun, G2, B2, _⟩ := GRow.push elBy HG.out 22 ((n' : Int) % 128 + 128) HB.out HB.out.size (by simp only [maxLen]; omega) (by omega)
      have HRUN := Lib.hid hrun
      have HG2 := Lib.hid G2
      have HB2 := Lib.hid B2
      clear hrun G2 B2
      go_wp2_with (refine wpList_app HRUN.out rfl rfl rfl (by rfl) (by rfl) ?_)
      go_roundg (m - 1)
      case measure =>
        have h1 := HM.out
        have h2 := congrArg List.length HA.out
        have h3 := formN_pos n'
        rw [List.length_append] at h2
        omega
      case rel =>
        have h2 := HA.out
        rw [formN_big h] at h2
        refine ⟨n' / 128, acc ++ [((n' % 128 + 128 : Nat) : Int)], A1, c1, ?_, by simpa using h2, by omega, by go_num, by simp, ?_, HB2.out⟩
        · have h1 := HM.out
          have h4 := congrArg List.length h2
          simp only [List.length_append, List.length_cons] at h4
          simp only [List.length_append, List.length_cons, List.length_nil]
          omega
        · have := HG2.out
          rw [show ((n' % 128 + 128 : Nat) : Int) = (n' : Int) % 128 + 128 by omega]
          exact this
section
variable {T : TypeId} {w wr : World} {F : Nat → Prop} {k : Nat} {s : WS}
/-- One byte more: what append does, and what lies behind the store. -/
theorem lay_push (hT : T ≠ 5 ∧ T ≠ 3) (U : UpdW T F k w wr s) (y : Int) (h63 : s.bs.length + 1 ≤ 140737488355328) :
    ∃ A c A' c' w2, wr.cell? ⟨k, 1, none⟩ = some (.slice A s.bs.length c) ∧
      (Builtin.append_ #[22, 22] 22 #[.slice A s.bs.length c, .slice (some ⟨wr.drew.heap.size, 0, none⟩) 1 1]).run Try.prog (wr.drew.alloc (.cells #[.int .u8 y] 5)) = .ok (.slice A' (s.bs.length + 1) c') w2 ∧
      w2.cell? ⟨k, 1, none⟩ = some (.slice A s.bs.length c) ∧ w2.frozen? ⟨k, 1, none⟩ = false ∧
      (∀ g, g < wr.heap.size → ¬ Gr F w wr g → w2.heap[g]? = wr.heap[g]?) ∧
      UpdW T F k w (w2.setCell ⟨k, 1, none⟩ (.slice A' (s.bs.length + 1) c')) { s with bs := s.bs ++ [y] } := by
  obtain ⟨⟨A, c, OA, oc, h1, h2, h3, h4⟩, hF⟩ := U
  have hb : BsAt (wr.drew.alloc (.cells #[.int .u8 y] 5)) wr.drew.heap.size 0 [y] := by
    intro j x hx
    rcases j with _ | j
    · simp at hx; subst hx
      exact cell_blk (blk_new wr.drew _) 0 rfl
    · simp at hx
  obtain ⟨A', c', w2, hrun, R2, F2, K2⟩ := RowF.append (ys := [y]) elBy ((h3.keeps (KeepT.drew _ wr)).keeps (KeepT.alloc _ wr.drew (.cells #[.int .u8 y] 5))) 22 (some ⟨wr.drew.heap.size, 0, none⟩) 1
    (BSrc.src (BSrc.ofAt hb)) (by simp only [maxLen, List.length_singleton]; omega) (by simp only [List.length_singleton]; omega)
  have hk2 := K2 T hT.1 _ _ (blk_alloc (show wr.drew.heap[k]? = _ from h1) (.cells #[.int .u8 y] 5))
  have hS := setCell_heap w2 k 1 (.slice A' (s.bs.length + 1) c') _ _ _ hk2
  have K1 : KeepT 5 w2 (w2.setCell ⟨k, 1, none⟩ (.slice A' (s.bs.length + 1) c')) := KeepT.setCell hk2 (Ne.symm hT.1) 1 _
  have K3 : KeepT 3 w2 (w2.setCell ⟨k, 1, none⟩ (.slice A' (s.bs.length + 1) c')) := KeepT.setCell hk2 (Ne.symm hT.2) 1 _
  have hz : w2.heap.size ≤ (w2.setCell ⟨k, 1, none⟩ (.slice A' (s.bs.length + 1) c')).heap.size := by rw [setCell_size]; exact Nat.le_refl _
  have FA : Fr (Gr F w wr) wr w2 := ((Fr.drew _ wr).trans (Fr.alloc _ _ _) fun _ _ h => h).trans F2 fun _ _ h => h
  refine ⟨A, c, A', c', w2, cell_blk h1 1 rfl, hrun, cell_blk hk2 1 rfl, free_blk hk2 1, fun g hl hg => FA.block g hl hg, ?_⟩
  refine UpdW.trans ⟨⟨A, c, OA, oc, h1, h2, h3, h4⟩, hF⟩ (s := s) ⟨⟨A', c', OA, oc, by simpa using hS, Or.inl h2, ?_, ?_⟩, FA.trans (Fr.set _ h2 _) fun _ _ h => h⟩
  · refine (R2.keeps K1).mono fun x hx => ?_
    rcases hx with hx | hx
    · exact Or.inl hx
    · simp at hx
      exact Or.inr ⟨by omega, by rw [setCell_size]; omega⟩
  · exact ((((h4.keeps (KeepT.drew _ wr)).keeps (KeepT.alloc _ wr.drew (.cells #[.int .u8 y] 5))).keeps (K2 3 (by decide))).keeps K3).mono fun _ h => Or.inl h
end
section
variable {w : World} {F : Nat → Prop} {k : Nat} {s : WS}
set_option maxRecDepth 100000 in
set_option maxHeartbeats 8000000 in
theorem refLay_any (h : WLies TE w F k s) (hok : s.Ok) (rf : Bool) {B : Option Addr} {cc : Nat} {ys : List Int} (hy : BSrc w B ys) (hd : ∀ g o, B = some ⟨g, o, none⟩ → ys ≠ [] → ¬ F g) (h63 : s.bs.length + ys.length ≤ 140737488355328) :
    Calls Try.prog 69 #[.pointer (some ⟨k, 0, none⟩), .bool rf, .slice B ys.length cc] w fun e w' => e = .returned (.tuple #[]) ∧ UpdW TE F k w w' (if rf then s.refuse 2 else s.lay ys) := by
  obtain ⟨S', hS'⟩ : ∃ x, (if rf then s.refuse 2 else s.lay ys) = x := ⟨_, rfl⟩
  have HS' := Lib.hid hS'
  rw [hS']
  clear hS'
  have WH := Lib.hid (refDead_any h)
  have H := Lib.hid h
  have HY := Lib.hid hy
  have HD := Lib.hid hd
  have hr0 := hok.room0
  have hr1 := hok.room1
  have hfit := hok.fit
  have hk := h.in_
  have H0 := h
  obtain ⟨A, c, OA, oc, h1, h2, h3, h4⟩ := h
  have e0 : w.cell? ⟨k, 0, none⟩ = some (.int .i64 s.room) := cell_blk h1 0 rfl
  have e1 : w.cell? ⟨k, 1, none⟩ = some (.slice A s.bs.length c) := cell_blk h1 1 rfl
  have e3 : w.cell? ⟨k, 3, none⟩ = some (.int .i64 s.ft) := cell_blk h1 3 rfl
  have f3 := free_blk h1 3
  clear h1 h2 h3 h4 H0 hy hd hok
  obtain ⟨t0, ht0⟩ := named (s.ft != 0)
  rw [ht0] at WH
  cases t0
  · have hf : s.ft = 0 := by simpa using ht0
    have HFT := Lib.hid hf
    clear ht0
    cases rf
    · obtain ⟨L, hL⟩ : ∃ L, s.bs.length = L := ⟨_, rfl⟩
      obtain ⟨n, hn⟩ : ∃ n, ys.length = n := ⟨_, rfl⟩
      have HLL := Lib.hid hL
      have HNN := Lib.hid hn
      rw [hL] at e1 h63 hfit
      rw [hn] at h63 ⊢
      obtain ⟨t1, ht1⟩ := named (decide (s.room - (L : Int) < (n : Int)))
      have HT1 := Lib.hid ht1
      generalize hro : s.room = room at *
      generalize hfft : s.ft = ft at *
      subst hf
      clear hL hn
      go_enter Try.func69, Try.ntmps69
      go_wp2_with (go_at_call 86; refine WH.out.mono ?_; rintro e w_ ⟨rfl, rfl⟩)
      refine start_ (n := 13) (S := fun w' => w'.cell? ⟨k, 0, none⟩ = some (.int .i64 room) ∧ w'.cell? ⟨k, 1, none⟩ = some (.slice A L c)) (ds := []) #[false, false, false, false, false, false, false, false, false, false, false, false, false] (by kernel_rfl) rfl rfl ⟨e0, e1⟩ (fun hHeld => ?_)
      (refine take_ (i := 0) (N := some 13) (v := ?v_2) (a' := ?a_2) #[true, false, false, false, false, false, false, false, false, false, false, false, false] rfl rfl (by kernel_rfl) (fun _ _ _ h => h) (Or.inl ⟨by rfl, ?hy_2⟩) hHeld ?ha_2 ?hh_2; (case hy_2 => (rintro w' ⟨s0_, s1_⟩; go_simp; with_reducible rfl)); (case ha_2 => (simp (disch := omega) only [Act.put, List.setIfInBounds_toArray, List.set_cons_zero, List.set_cons_succ, wrap_in]; rfl)))
      (refine take_ (i := 1) (N := some 14) (v := ?v_3) (a' := ?a_3) #[true, true, false, false, false, false, false, false, false, false, false, false, false] rfl rfl (by kernel_rfl) (fun _ _ _ h => h) (Or.inl ⟨by rfl, ?hy_3⟩) hHeld ?ha_3 ?hh_3; (case hy_3 => (rintro w' ⟨s0_, s1_⟩; go_simp; with_reducible rfl)); (case ha_3 => (simp (disch := omega) only [Act.put, List.setIfInBounds_toArray, List.set_cons_zero, List.set_cons_succ, wrap_in]; rfl)))
      (refine take_ (i := 2) (N := some 15) (v := ?v_4) (a' := ?a_4) #[true, true, true, false, false, false, false, false, false, false, false, false, false] rfl rfl (by kernel_rfl) (fun _ _ _ h => h) (Or.inl ⟨by rfl, ?hy_4⟩) hHeld ?ha_4 ?hh_4; (case hy_4 => (rintro w' ⟨s0_, s1_⟩; go_simp; with_reducible rfl)); (case ha_4 => (simp (disch := omega) only [Act.put, List.setIfInBounds_toArray, List.set_cons_zero, List.set_cons_succ, wrap_in]; rfl)))
      (refine take_ (i := 3) (N := some 16) (v := ?v_5) (a' := ?a_5) #[true, true, true, true, false, false, false, false, false, false, false, false, false] rfl rfl (by kernel_rfl) (fun _ _ _ h => h) (Or.inl ⟨by rfl, ?hy_5⟩) hHeld ?ha_5 ?hh_5; (case hy_5 => (rintro w' ⟨s0_, s1_⟩; go_simp; with_reducible rfl)); (case ha_5 => (simp (disch := omega) only [Act.put, List.setIfInBounds_toArray, List.set_cons_zero, List.set_cons_succ, wrap_in]; rfl)))
      (refine take_ (i := 4) (N := some 17) (v := ?v_6) (a' := ?a_6) #[true, true, true, true, true, false, false, false, false, false, false, false, false] rfl rfl (by kernel_rfl) (fun _ _ _ h => h) (Or.inl ⟨by rfl, ?hy_6⟩) hHeld ?ha_6 ?hh_6; (case hy_6 => (rintro w' ⟨s0_, s1_⟩; go_simp; with_reducible rfl)); (case ha_6 => (simp (disch := omega) only [Act.put, List.setIfInBounds_toArray, List.set_cons_zero, List.set_cons_succ, wrap_in]; rfl)))
      (refine take_ (i := 5) (N := some 18) (v := ?v_7) (a' := ?a_7) #[true, true, true, true, true, true, false, false, false, false, false, false, false] rfl rfl (by kernel_rfl) (fun _ _ _ h => h) (Or.inl ⟨by rfl, ?hy_7⟩) hHeld ?ha_7 ?hh_7; (case hy_7 => (rintro w' ⟨s0_, s1_⟩; go_simp; with_reducible rfl)); (case ha_7 => (simp (disch := omega) only [Act.put, List.setIfInBounds_toArray, List.set_cons_zero, List.set_cons_succ, wrap_in]; rfl)))
      (refine take_ (i := 6) (N := some 19) (v := ?v_8) (a' := ?a_8) #[true, true, true, true, true, true, true, false, false, false, false, false, false] rfl rfl (by kernel_rfl) (fun _ _ _ h => h) (Or.inl ⟨by rfl, ?hy_8⟩) hHeld ?ha_8 ?hh_8; (case hy_8 => (rintro w' ⟨s0_, s1_⟩; go_simp; with_reducible rfl)); (case ha_8 => (simp (disch := omega) only [Act.put, List.setIfInBounds_toArray, List.set_cons_zero, List.set_cons_succ, wrap_in]; rfl)))
      (refine take_ (i := 7) (N := some 20) (v := ?v_9) (a' := ?a_9) #[true, true, true, true, true, true, true, true, false, false, false, false, false] rfl rfl (by kernel_rfl) (fun _ _ _ h => h) (Or.inl ⟨by rfl, ?hy_9⟩) hHeld ?ha_9 ?hh_9; (case hy_9 => (rintro w' ⟨s0_, s1_⟩; go_simp; with_reducible rfl)); (case ha_9 => (simp (disch := omega) only [Act.put, List.setIfInBounds_toArray, List.set_cons_zero, List.set_cons_succ, wrap_in]; rfl)))
      (refine take_ (i := 8) (N := some 21) (v := ?v_10) (a' := ?a_10) #[true, true, true, true, true, true, true, true, true, false, false, false, false] rfl rfl (by kernel_rfl) (fun _ _ _ h => h) (Or.inl ⟨by rfl, ?hy_10⟩) hHeld ?ha_10 ?hh_10; (case hy_10 => (rintro w' ⟨s0_, s1_⟩; go_simp; with_reducible rfl)); (case ha_10 => (simp (disch := omega) only [Act.put, List.setIfInBounds_toArray, List.set_cons_zero, List.set_cons_succ, wrap_in]; rfl)))
      (refine take_ (i := 9) (N := some 22) (v := ?v_11) (a' := ?a_11) #[true, true, true, true, true, true, true, true, true, true, false, false, false] rfl rfl (by kernel_rfl) (fun _ _ _ h => h) (Or.inl ⟨by rfl, ?hy_11⟩) hHeld ?ha_11 ?hh_11; (case hy_11 => (rintro w' ⟨s0_, s1_⟩; go_simp; with_reducible rfl)); (case ha_11 => (simp (disch := omega) only [Act.put, List.setIfInBounds_toArray, List.set_cons_zero, List.set_cons_succ, wrap_in]; rfl)))
      (refine take_ (i := 10) (N := some 23) (v := ?v_12) (a' := ?a_12) #[true, true, true, true, true, true, true, true, true, true, true, false, false] rfl rfl (by kernel_rfl) (fun _ _ _ h => h) (Or.inl ⟨by rfl, ?hy_12⟩) hHeld ?ha_12 ?hh_12; (case hy_12 => (rintro w' ⟨s0_, s1_⟩; go_simp; with_reducible rfl)); (case ha_12 => (simp (disch := omega) only [Act.put, List.setIfInBounds_toArray, List.set_cons_zero, List.set_cons_succ, wrap_in]; rfl)))
      (refine take_ (i := 11) (N := some 24) (v := ?v_13) (a' := ?a_13) #[true, true, true, true, true, true, true, true, true, true, true, true, false] rfl rfl (by kernel_rfl) (fun _ _ _ h => h) (Or.inl ⟨by rfl, ?hy_13⟩) hHeld ?ha_13 ?hh_13; (case hy_13 => (rintro w' ⟨s0_, s1_⟩; go_simp; with_reducible rfl)); (case ha_13 => (simp (disch := omega) only [Act.put, List.setIfInBounds_toArray, List.set_cons_zero, List.set_cons_succ, wrap_in]; rfl)))
      (refine take_ (i := 12) (N := some 25) (v := ?v_14) (a' := ?a_14) #[true, true, true, true, true, true, true, true, true, true, true, true, true] rfl rfl (by kernel_rfl) (fun _ _ _ h => h) (Or.inl ⟨by rfl, ?hy_14⟩) hHeld ?ha_14 ?hh_14; (case hy_14 => (rintro w' ⟨s0_, s1_⟩; go_simp; with_reducible rfl)); (case ha_14 => (simp (disch := omega) only [Act.put, List.setIfInBounds_toArray, List.set_cons_zero, List.set_cons_succ, wrap_in]; rfl)))
      refine done_ (by kernel_rfl) ?_
      cases t1
      · have hc : ¬ room - (L : Int) < (n : Int) := of_decide_eq_false HT1.out
        have HLAY := Lib.hid (show S' = { s with bs := s.bs ++ ys } from by
          rw [← HS'.out]
          simp only [Bool.false_eq_true, if_false]
          unfold WS.lay
          rw [if_pos hfft, HLL.out, HNN.out, hro, if_neg hc])
        have HU0 := Lib.hid (UpdW.refl H.out.drew)
        clear hHeld e0 e1 e3 f3
        have hlw := HNN.out
        generalize hwd : w.drew = wd at *
        have HWD := Lib.hid hwd
        clear hwd ht1 hc
        go_wp2_with (fail)
        refine wp_loop_ghost_k (fun (m : Nat) (ac : Act) (wr : World) => ∃ u1 u3 u4 u5 u7 u8 u9 u10 u11 u12 u13 u14 u15 u16 u17 u18 u19 u20 u21 u22 u23 u24 u25 u26 u27 u28 u29 u30 u31 u32 u33 u34 u35 u36 u37 u38 u39 u40 u41 u42 u43 u44 u45 u46 u47 v6 : Value, (∃ j : Nat, m + j = n ∧ v6 = .int .i64 j ∧ UpdW TE F k w wr { s with bs := s.bs ++ ys.take j }) ∧ ac = ({ tmps := #[.pointer (some ⟨k, 0, none⟩), u1, .slice B n cc, u3, u4, u5, v6, u7, u8, u9, u10, u11, u12, u13, u14, u15, u16, u17, u18, u19, u20, u21, u22, u23, u24, u25, u26, u27, u28, u29, u30, u31, u32, u33, u34, u35, u36, u37, u38, u39, u40, u41, u42, u43, u44, u45, u46, u47], defers := [] } : Act)) (n) ?atStart ?round
        case' atStart => ((repeat apply Exists.intro); refine ⟨?_, rfl⟩)
        case' round => (intro m ac wr hcut; obtain ⟨u1, hcut⟩ := hcut; obtain ⟨u3, hcut⟩ := hcut; obtain ⟨u4, hcut⟩ := hcut; obtain ⟨u5, hcut⟩ := hcut; obtain ⟨u7, hcut⟩ := hcut; obtain ⟨u8, hcut⟩ := hcut; obtain ⟨u9, hcut⟩ := hcut; obtain ⟨u10, hcut⟩ := hcut; obtain ⟨u11, hcut⟩ := hcut; obtain ⟨u12, hcut⟩ := hcut; obtain ⟨u13, hcut⟩ := hcut; obtain ⟨u14, hcut⟩ := hcut; obtain ⟨u15, hcut⟩ := hcut; obtain ⟨u16, hcut⟩ := hcut; obtain ⟨u17, hcut⟩ := hcut; obtain ⟨u18, hcut⟩ := hcut; obtain ⟨u19, hcut⟩ := hcut; obtain ⟨u20, hcut⟩ := hcut; obtain ⟨u21, hcut⟩ := hcut; obtain ⟨u22, hcut⟩ := hcut; obtain ⟨u23, hcut⟩ := hcut; obtain ⟨u24, hcut⟩ := hcut; obtain ⟨u25, hcut⟩ := hcut; obtain ⟨u26, hcut⟩ := hcut; obtain ⟨u27, hcut⟩ := hcut; obtain ⟨u28, hcut⟩ := hcut; obtain ⟨u29, hcut⟩ := hcut; obtain ⟨u30, hcut⟩ := hcut; obtain ⟨u31, hcut⟩ := hcut; obtain ⟨u32, hcut⟩ := hcut; obtain ⟨u33, hcut⟩ := hcut; obtain ⟨u34, hcut⟩ := hcut; obtain ⟨u35, hcut⟩ := hcut; obtain ⟨u36, hcut⟩ := hcut; obtain ⟨u37, hcut⟩ := hcut; obtain ⟨u38, hcut⟩ := hcut; obtain ⟨u39, hcut⟩ := hcut; obtain ⟨u40, hcut⟩ := hcut; obtain ⟨u41, hcut⟩ := hcut; obtain ⟨u42, hcut⟩ := hcut; obtain ⟨u43, hcut⟩ := hcut; obtain ⟨u44, hcut⟩ := hcut; obtain ⟨u45, hcut⟩ := hcut; obtain ⟨u46, hcut⟩ := hcut; obtain ⟨u47, hcut⟩ := hcut; obtain ⟨v6, hcut⟩ := hcut; obtain ⟨hcut, hac⟩ := hcut; subst hac; intro _ _ _ _)
        case atStart =>
          refine ⟨0, rfl, rfl, ?_⟩
          rw [List.take_zero, List.append_nil]
          have := UpdW.refl H.out
          exact ⟨(show WLies TE wd (Gr F w wd) k s from by rw [← HWD.out]; exact H.out.drew.mono fun _ h => Or.inl h), by rw [← HWD.out]; exact Fr.drew F w⟩
        case round =>
          obtain ⟨j, hm, rfl, U⟩ := hcut
          have HM := Lib.hid hm
          have HU := Lib.hid U
          by_cases hj : j < n
          · obtain ⟨y, hy⟩ : ∃ y, ys[j]? = some y := ⟨_, List.getElem?_eq_getElem (by omega)⟩
            have hne : ys ≠ [] := by rintro rfl; simp at hy
            obtain ⟨g, o, hBg, hBA⟩ := HY.out hne
            subst hBg
            have hgF := HD.out g o rfl hne
            have hgl : g < w.heap.size := World.block_lt_of_cell? _ _ (hBA j y hy)
            have y0 : wr.cell? ⟨g, o + j, none⟩ = some (.int .u8 y) := cell_same (hBA j y hy) (U.2.block g hgl hgF)
            have hgr : ¬ Gr F w wr g := fun h => h.elim hgF fun h => by omega
            have ll : (s.bs ++ ys.take j).length = L + j := by rw [List.length_append, List.length_take, HLL.out]; omega
            have hgl' : g < wr.heap.size := World.block_lt_of_cell? _ _ y0
            obtain ⟨A', c', A2, c2, w2, x1, hrun, X1, xf, hsame, U2⟩ := lay_push te_ne U y (by show (s.bs ++ ys.take j).length + 1 ≤ _; rw [ll]; omega)
            simp only [ll] at x1 hrun X1 U2
            have Y1 : w2.cell? ⟨g, o + j, none⟩ = some (.int .u8 y) := cell_same y0 (hsame g hgl' hgr)
            have HRUN := Lib.hid hrun
            have HX := Lib.hid (And.intro X1 Y1)
            have HU2 := Lib.hid U2
            have HTK := Lib.hid (show s.bs ++ ys.take j ++ [y] = s.bs ++ ys.take (j + 1) by rw [List.take_add_one, hy, List.append_assoc]; rfl)
            clear hm hy hne hBA hlw U hrun X1 Y1 hsame U2 ll hgr hgF
            go_wp2_with (fail)
            refine start_ (n := 14) (S := fun w' => w'.cell? ⟨k, 1, none⟩ = some (.slice A' (L + j) c') ∧ w'.cell? ⟨g, o + j, none⟩ = some (.int .u8 y)) (ds := [13]) #[false, false, false, false, false, false, false, false, false, false, false, false, false, false] (by kernel_rfl) rfl rfl ⟨x1, y0⟩ (fun hHeld => ?_)
            (refine take_ (i := 0) (N := some 35) (v := ?v_27) (a' := ?a_27) #[true, false, false, false, false, false, false, false, false, false, false, false, false, false] rfl rfl (by kernel_rfl) (fun _ _ _ h => h) (Or.inl ⟨by rfl, ?hy_27⟩) hHeld ?ha_27 ?hh_27; (case hy_27 => (rintro w' ⟨s0_, s1_⟩; go_simp; with_reducible rfl)); (case ha_27 => (simp (disch := omega) only [Act.put, List.setIfInBounds_toArray, List.set_cons_zero, List.set_cons_succ, wrap_in]; rfl)))
            (refine take_ (i := 1) (N := some 36) (v := ?v_28) (a' := ?a_28) #[true, true, false, false, false, false, false, false, false, false, false, false, false, false] rfl rfl (by kernel_rfl) (fun _ _ _ h => h) (Or.inl ⟨by rfl, ?hy_28⟩) hHeld ?ha_28 ?hh_28; (case hy_28 => (rintro w' ⟨s0_, s1_⟩; go_simp; with_reducible rfl)); (case ha_28 => (simp (disch := omega) only [Act.put, List.setIfInBounds_toArray, List.set_cons_zero, List.set_cons_succ, wrap_in]; rfl)))
            (refine take_ (i := 2) (N := some 37) (v := ?v_29) (a' := ?a_29) #[true, true, true, false, false, false, false, false, false, false, false, false, false, false] rfl rfl (by kernel_rfl) (fun _ _ _ h => h) (Or.inl ⟨by rfl, ?hy_29⟩) hHeld ?ha_29 ?hh_29; (case hy_29 => (rintro w' ⟨s0_, s1_⟩; go_simp; with_reducible rfl)); (case ha_29 => (simp (disch := omega) only [Act.put, List.setIfInBounds_toArray, List.set_cons_zero, List.set_cons_succ, wrap_in]; rfl)))
            (refine take_ (i := 3) (N := some 38) (v := ?v_30) (a' := ?a_30) #[true, true, true, true, false, false, false, false, false, false, false, false, false, false] rfl rfl (by kernel_rfl) (fun _ _ _ h => h) (Or.inl ⟨by rfl, ?hy_30⟩) hHeld ?ha_30 ?hh_30; (case hy_30 => (rintro w' ⟨s0_, s1_⟩; go_simp; with_reducible rfl)); (case ha_30 => (simp (disch := omega) only [Act.put, List.setIfInBounds_toArray, List.set_cons_zero, List.set_cons_succ, wrap_in]; rfl)))
            (refine take_ (i := 4) (N := some 39) (v := ?v_31) (a' := ?a_31) #[true, true, true, true, true, false, false, false, false, false, false, false, false, false] rfl rfl (by kernel_rfl) (fun _ _ _ h => h) (Or.inl ⟨by rfl, ?hy_31⟩) hHeld ?ha_31 ?hh_31; (case hy_31 => (rintro w' ⟨s0_, s1_⟩; go_simp; with_reducible rfl)); (case ha_31 => (simp (disch := omega) only [Act.put, List.setIfInBounds_toArray, List.set_cons_zero, List.set_cons_succ, wrap_in]; rfl)))
            (refine take_ (i := 5) (N := some 40) (v := ?v_32) (a' := ?a_32) #[true, true, true, true, true, true, false, false, false, false, false, false, false, false] rfl rfl (by kernel_rfl) (fun _ _ _ h => h) (Or.inl ⟨by rfl, ?hy_32⟩) hHeld ?ha_32 ?hh_32; (case hy_32 => (rintro w' ⟨s0_, s1_⟩; go_simp; with_reducible rfl)); (case ha_32 => (simp (disch := omega) only [Act.put, List.setIfInBounds_toArray, List.set_cons_zero, List.set_cons_succ, wrap_in]; rfl)))
            (refine take_ (i := 6) (N := some 41) (v := ?v_33) (a' := ?a_33) #[true, true, true, true, true, true, true, false, false, false, false, false, false, false] rfl rfl (by kernel_rfl) (fun _ _ _ h => h) (Or.inl ⟨by rfl, ?hy_33⟩) hHeld ?ha_33 ?hh_33; (case hy_33 => (rintro w' ⟨s0_, s1_⟩; go_simp; with_reducible rfl)); (case ha_33 => (simp (disch := omega) only [Act.put, List.setIfInBounds_toArray, List.set_cons_zero, List.set_cons_succ, wrap_in]; rfl)))
            (refine take_ (i := 7) (N := some 42) (v := ?v_34) (a' := ?a_34) #[true, true, true, true, true, true, true, true, false, false, false, false, false, false] rfl rfl (by kernel_rfl) (fun _ _ _ h => h) (Or.inl ⟨by rfl, ?hy_34⟩) hHeld ?ha_34 ?hh_34; (case hy_34 => (rintro w' ⟨s0_, s1_⟩; go_simp; with_reducible rfl)); (case ha_34 => (simp (disch := omega) only [Act.put, List.setIfInBounds_toArray, List.set_cons_zero, List.set_cons_succ, wrap_in]; rfl)))
            (refine take_ (i := 8) (N := some 43) (v := ?v_35) (a' := ?a_35) #[true, true, true, true, true, true, true, true, true, false, false, false, false, false] rfl rfl (by kernel_rfl) (fun _ _ _ h => h) (Or.inl ⟨by rfl, ?hy_35⟩) hHeld ?ha_35 ?hh_35; (case hy_35 => (rintro w' ⟨s0_, s1_⟩; go_simp; with_reducible rfl)); (case ha_35 => (simp (disch := omega) only [Act.put, List.setIfInBounds_toArray, List.set_cons_zero, List.set_cons_succ, wrap_in]; rfl)))
            refine one_ (i := 9) (N := some 44) #[true, true, true, true, true, true, true, true, true, true, false, false, false, false] rfl rfl (by kernel_rfl) (by decide) (fun K hK => ?_)
            (refine value_ (v := ?v_16) (w1 := ?w1_16) (by rfl) rfl ?hr_16 ?hk_16; (case hr_16 => (go_simp; first | with_reducible rfl | (constructor <;> with_reducible rfl))))
            (refine hK.out _ _ ?hs_17 ?hn_17; (case hs_17 => (obtain ⟨s0_, s1_⟩ := hHeld; exact ⟨cell_alloc_old s0_ _, cell_alloc_old s1_ _⟩)); intro hHeld; clear hK K)
            (refine norm_ (a' := ?a_18) ?ha_18 ?hh_18; (case ha_18 => (simp (disch := omega) only [Act.put, List.setIfInBounds_toArray, List.set_cons_zero, List.set_cons_succ, wrap_in]; rfl)))
            refine one_ (i := 10) (N := some 45) #[true, true, true, true, true, true, true, true, true, true, true, false, false, false] rfl rfl (by kernel_rfl) (by decide) (fun K hK => ?_)
            (have hrun := HRUN.out; refine value_ (by rfl) rfl (runapp_ hrun (by rfl) (by rfl) (by rfl) (by rfl)) ?hk_19)
            (refine hK.out _ _ ?hs_20 ?hn_20; (case hs_20 => (exact HX.out)); intro hHeld; clear hK K)
            (refine norm_ (a' := ?a_21) ?ha_21 ?hh_21; (case ha_21 => (simp (disch := omega) only [Act.put, List.setIfInBounds_toArray, List.set_cons_zero, List.set_cons_succ, wrap_in]; rfl)))
            (refine take_ (i := 11) (N := some 46) (v := ?v_22) (a' := ?a_22) #[true, true, true, true, true, true, true, true, true, true, true, true, false, false] rfl rfl (by kernel_rfl) (fun _ _ _ h => h) (Or.inl ⟨by rfl, ?hy_22⟩) hHeld ?ha_22 ?hh_22; (case hy_22 => (rintro w' ⟨s0_, s1_⟩; go_simp; with_reducible rfl)); (case ha_22 => (simp (disch := omega) only [Act.put, List.setIfInBounds_toArray, List.set_cons_zero, List.set_cons_succ, wrap_in]; rfl)))
            (refine take_ (i := 12) (N := some 47) (v := ?v_23) (a' := ?a_23) #[true, true, true, true, true, true, true, true, true, true, true, true, true, false] rfl rfl (by kernel_rfl) (fun _ _ _ h => h) (Or.inl ⟨by rfl, ?hy_23⟩) hHeld ?ha_23 ?hh_23; (case hy_23 => (rintro w' ⟨s0_, s1_⟩; go_simp; with_reducible rfl)); (case ha_23 => (simp (disch := omega) only [Act.put, List.setIfInBounds_toArray, List.set_cons_zero, List.set_cons_succ, wrap_in]; rfl)))
            refine last_ (i := 13) (N := none) #[true, true, true, true, true, true, true, true, true, true, true, true, true, true] rfl rfl (by kernel_rfl) (by decide) (fun K hK => ?_)
            (refine skip_ (w1 := ?w1_24) (by rfl) rfl ?hr_24 ?hk_24; (case hr_24 => (go_simp; first | with_reducible rfl | (constructor <;> with_reducible rfl))))
            (refine hK.out _ _ ?hn_25; clear hK K; try clear hHeld)
            refine done_ (by kernel_rfl) ?_
            go_wp2_with (fail)
            go_roundg (m - 1)
            case measure => have := HM.out; omega
            case rel =>
              refine ⟨j + 1, by have := HM.out; omega, by go_num, ?_⟩
              have := HU2.out
              rw [HTK.out] at this
              exact this
          · have hjn : ys.take j = ys := List.take_of_length_le (by have := HNN.out; omega)
            have HJN := Lib.hid hjn
            clear hm U hjn
            go_wp2_with (fail)
            go_end0
            refine ⟨rfl, ?_⟩
            rw [HLAY.out]
            have := HU.out
            rw [HJN.out] at this
            exact this
      · have hc : room - (L : Int) < (n : Int) := of_decide_eq_true HT1.out
        have f3 : w.drew.frozen? ⟨k, 3, none⟩ = false := f3
        have e3 : w.drew.cell? ⟨k, 3, none⟩ = some (.int .i64 0) := e3
        go_wp2_with (fail)
        ((try simp only [Exit.inBlock, Exit.then]); refine bodyPost_ret (results_none rfl _ _ _) rfl ?_)
        refine ⟨rfl, ?_⟩
        have hlay : s.lay ys = { s with ft := 13 } := by
          unfold WS.lay
          rw [if_pos hfft, HLL.out, HNN.out, hro, if_pos hc]
        rw [← HS'.out]
        simp only [Bool.false_eq_true, if_false]
        rw [hlay]
        exact ⟨(H.out.drew.fault te_ne 13).mono fun _ h => Or.inl h, (Fr.drew F w).trans (Fr.set _ hk _) fun _ _ h => h⟩
    ·
      go_enter Try.func69, Try.ntmps69
      go_wp2_with (go_at_call 86; refine WH.out.mono ?_; rintro e w_ ⟨rfl, rfl⟩)
      ((try simp only [Exit.inBlock, Exit.then]); refine bodyPost_ret (results_none rfl _ _ _) rfl ?_)
      refine ⟨rfl, ?_⟩
      rw [← HS'.out, if_pos trivial]
      unfold WS.refuse
      rw [if_pos HFT.out]
      exact ⟨(H.out.fault te_ne 2).mono fun _ h => Or.inl h, Fr.set w hk _⟩
  · have hf : ¬ s.ft = 0 := by simpa using ht0
    have HSS := Lib.hid (show (if rf = true then s.refuse 2 else s.lay ys) = s from by
      unfold WS.refuse WS.lay
      cases rf <;> simp [hf])
    clear hf
    go_enter Try.func69, Try.ntmps69
    go_wp2_with (go_at_call 86; refine WH.out.mono ?_; rintro e w_ ⟨rfl, rfl⟩)
    ((try simp only [Exit.inBlock, Exit.then]); refine bodyPost_ret (results_none rfl _ _ _) rfl ?_)
    refine ⟨rfl, ?_⟩
    rw [← HS'.out, HSS.out]
    exact UpdW.refl H.out
end
end Go.Proofs.Ytjmmdpnphafdfaa
