/- The reference's Form; its writer's lay, Byte, Num, Text, Done. The reference's writer: Num, Raw, Byte, Text. The reference's writer: Done. The reference's reader: what lies there; dead, left. The reference's reader: Done. -/
import Derived.Test.YtibelfljlhcibaaPE1
namespace Go.Proofs.Ytibelfljlhcibaa
set_option linter.unusedVariables false
set_option linter.unusedSimpArgs false
open Go.RowKit Go.Deep Go.Proofs.YtibelfljlhcibaaW.PrintLast

/-- Bytes of one's own, or nil: what Form hands back. -/
def OwnR (N : Nat) (w' : World) (p : List Int) (e : Ending) : Prop := ∃ A c, e = .returned (.slice A p.length c) ∧ GRow bc 5 1 w' N A c p
theorem GRow.srcB {w : World} {N : Nat} {A : Option Addr} {c : Nat} {p : List Int} (h : GRow bc 5 1 w N A c p) : BSrc w A p := fun hne => by
  rcases h with ⟨_, _, h⟩ | ⟨g, h1, _, h3⟩
  · exact absurd h hne
  · exact ⟨g, 0, h1, h3.bsAt⟩
set_option maxRecDepth 100000 in
set_option maxHeartbeats 2000000 in
theorem refForm_any (n : Nat) (hn : n < 18446744073709551616) (w : World) :
    Calls Try.prog 125 #[.int .u64 n] w fun e w' => OwnR w.heap.size w' (formN n) e ∧ Below w.heap.size w w' := by
  have HL10 := Lib.hid (formN_len10 hn)
  go_enter Try.func125, Try.ntmps125
  go_wp2_with (fail)
  refine wp_loop_ghost_k (fun (m : Nat) (ac : Act) (wr : World) => ∃ u1 u2 u4 u5 u6 u7 u8 u9 u10 u11 u12 u13 u14 u15 u16 u17 u18 u19 v0 v3 : Value, (∃ (n' : Nat) (acc : List Int) (A : Option Addr) (c : Nat), m + acc.length = (formN n).length ∧ acc ++ formN n' = formN n ∧ n' ≤ n ∧ v0 = .int .u64 n' ∧ v3 = .slice A acc.length c ∧ GRow bc 5 1 wr w.heap.size A c acc ∧ Below w.heap.size w wr) ∧ ac = ({ tmps := #[v0, u1, u2, v3, u4, u5, u6, u7, u8, u9, u10, u11, u12, u13, u14, u15, u16, u17, u18, u19], defers := [] } : Act)) ((formN n).length) ?atStart ?round
  case' atStart => ((repeat apply Exists.intro); refine ⟨?_, rfl⟩)
  case' round => (intro m ac wr hcut; obtain ⟨u1, hcut⟩ := hcut; obtain ⟨u2, hcut⟩ := hcut; obtain ⟨u4, hcut⟩ := hcut; obtain ⟨u5, hcut⟩ := hcut; obtain ⟨u6, hcut⟩ := hcut; obtain ⟨u7, hcut⟩ := hcut; obtain ⟨u8, hcut⟩ := hcut; obtain ⟨u9, hcut⟩ := hcut; obtain ⟨u10, hcut⟩ := hcut; obtain ⟨u11, hcut⟩ := hcut; obtain ⟨u12, hcut⟩ := hcut; obtain ⟨u13, hcut⟩ := hcut; obtain ⟨u14, hcut⟩ := hcut; obtain ⟨u15, hcut⟩ := hcut; obtain ⟨u16, hcut⟩ := hcut; obtain ⟨u17, hcut⟩ := hcut; obtain ⟨u18, hcut⟩ := hcut; obtain ⟨u19, hcut⟩ := hcut; obtain ⟨v0, hcut⟩ := hcut; obtain ⟨v3, hcut⟩ := hcut; obtain ⟨hcut, hac⟩ := hcut; subst hac; intro _ _ _ _)
  case atStart => exact ⟨n, [], none, 0, rfl, rfl, Nat.le_refl _, rfl, rfl, GRow.nil, Below.refl _ _⟩
  case round =>
    obtain ⟨n', acc, A, c, hm, hacc, hle, rfl, rfl, G, B⟩ := hcut
    have HM := Lib.hid hm
    have HA := Lib.hid hacc
    have HG := Lib.hid G
    have HB := Lib.hid B
    have hlt64 : n' < 18446744073709551616 := by omega
    have hal : acc.length ≤ 10 := by have := HL10.out; omega
    clear hm hacc G B
    by_cases h : n' < 128
    · obtain ⟨A1, c1, w2, hrun, G2, B2, _⟩ := GRow.push elBy HG.out 23 (n' : Int) HB.out HB.out.size (by simp only [maxLen]; omega) (by omega)
      have HRUN := Lib.hid hrun
      have HG2 := Lib.hid G2
      have HB2 := Lib.hid B2
      clear hrun G2 B2
      go_wp2_with (refine wpList_app HRUN.out rfl rfl rfl (by rfl) (by rfl) ?_)
      go_ret
      rw [← HA.out, formN_small h]
      exact ⟨⟨A1, c1, by simp, HG2.out⟩, HB2.out⟩
    · obtain ⟨A1, c1, w2, hrun, G2, B2, _⟩ := GRow.push elBy HG.out 23 ((n' : Int) % 128 + 128) HB.out HB.out.size (by simp only [maxLen]; omega) (by omega)
      have HRUN := Lib.hid hrun
      have HG2 := Lib.hid G2
      have HB2 := Lib.hid B2
      clear hrun G2 B2
      go_wp2_with (refine wpList_app HRUN.out rfl rfl rfl (by rfl) (by rfl) ?_)
      go_roundg (m - 1)
      case measure =>
        have h1 := HM.out
        have h2 := congrArg List.length HA.out
        have h3 := formN_pos n'
        rw [List.length_append] at h2
        omega
      case rel =>
        have h2 := HA.out
        rw [formN_big h] at h2
        refine ⟨n' / 128, acc ++ [((n' % 128 + 128 : Nat) : Int)], A1, c1, ?_, by simpa using h2, by omega, by go_num, by simp, ?_, HB2.out⟩
        · have h1 := HM.out
          have h4 := congrArg List.length h2
          simp only [List.length_append, List.length_cons] at h4
          simp only [List.length_append, List.length_cons, List.length_nil]
          omega
        · have := HG2.out
          rw [show ((n' % 128 + 128 : Nat) : Int) = (n' : Int) % 128 + 128 by omega]
          exact this
section
variable {T : TypeId} {w wr : World} {F : Nat → Prop} {k : Nat} {s : WS}
/-- One byte more: what append does, and what lies behind the store. -/
theorem lay_push (hT : T ≠ 5 ∧ T ≠ 3) (U : UpdW T F k w wr s) (y : Int) (h63 : s.bs.length + 1 ≤ 140737488355328) :
    ∃ A c A' c' w2, wr.cell? ⟨k, 1, none⟩ = some (.slice A s.bs.length c) ∧
      (Builtin.append_ #[23, 23] 23 #[.slice A s.bs.length c, .slice (some ⟨wr.drew.heap.size, 0, none⟩) 1 1]).run Try.prog (wr.drew.alloc (.cells #[.int .u8 y] 5)) = .ok (.slice A' (s.bs.length + 1) c') w2 ∧
      w2.cell? ⟨k, 1, none⟩ = some (.slice A s.bs.length c) ∧ w2.frozen? ⟨k, 1, none⟩ = false ∧
      (∀ g, g < wr.heap.size → ¬ Gr F w wr g → w2.heap[g]? = wr.heap[g]?) ∧
      UpdW T F k w (w2.setCell ⟨k, 1, none⟩ (.slice A' (s.bs.length + 1) c')) { s with bs := s.bs ++ [y] } := by
  obtain ⟨⟨A, c, OA, oc, h1, h2, h3, h4⟩, hF⟩ := U
  have hb : BsAt (wr.drew.alloc (.cells #[.int .u8 y] 5)) wr.drew.heap.size 0 [y] := by
    intro j x hx
    rcases j with _ | j
    · simp at hx; subst hx
      exact cell_blk (blk_new wr.drew _) 0 rfl
    · simp at hx
  obtain ⟨A', c', w2, hrun, R2, F2, K2⟩ := RowF.append (ys := [y]) elBy ((h3.keeps (KeepT.drew _ wr)).keeps (KeepT.alloc _ wr.drew (.cells #[.int .u8 y] 5))) 23 (some ⟨wr.drew.heap.size, 0, none⟩) 1
    (BSrc.src (BSrc.ofAt hb)) (by simp only [maxLen, List.length_singleton]; omega) (by simp only [List.length_singleton]; omega)
  have hk2 := K2 T hT.1 _ _ (blk_alloc (show wr.drew.heap[k]? = _ from h1) (.cells #[.int .u8 y] 5))
  have hS := setCell_heap w2 k 1 (.slice A' (s.bs.length + 1) c') _ _ _ hk2
  have K1 : KeepT 5 w2 (w2.setCell ⟨k, 1, none⟩ (.slice A' (s.bs.length + 1) c')) := KeepT.setCell hk2 (Ne.symm hT.1) 1 _
  have K3 : KeepT 3 w2 (w2.setCell ⟨k, 1, none⟩ (.slice A' (s.bs.length + 1) c')) := KeepT.setCell hk2 (Ne.symm hT.2) 1 _
  have hz : w2.heap.size ≤ (w2.setCell ⟨k, 1, none⟩ (.slice A' (s.bs.length + 1) c')).heap.size := by rw [setCell_size]; exact Nat.le_refl _
  have FA : Fr (Gr F w wr) wr w2 := ((Fr.drew _ wr).trans (Fr.alloc _ _ _) fun _ _ h => h).trans F2 fun _ _ h => h
  refine ⟨A, c, A', c', w2, cell_blk h1 1 rfl, hrun, cell_blk hk2 1 rfl, free_blk hk2 1, fun g hl hg => FA.block g hl hg, ?_⟩
  refine UpdW.trans ⟨⟨A, c, OA, oc, h1, h2, h3, h4⟩, hF⟩ (s := s) ⟨⟨A', c', OA, oc, by simpa using hS, Or.inl h2, ?_, ?_⟩, FA.trans (Fr.set _ h2 _) fun _ _ h => h⟩
  · refine (R2.keeps K1).mono fun x hx => ?_
    rcases hx with hx | hx
    · exact Or.inl hx
    · simp at hx
      exact Or.inr ⟨by omega, by rw [setCell_size]; omega⟩
  · exact ((((h4.keeps (KeepT.drew _ wr)).keeps (KeepT.alloc _ wr.drew (.cells #[.int .u8 y] 5))).keeps (K2 3 (by decide))).keeps K3).mono fun _ h => Or.inl h
end
section
variable {w : World} {F : Nat → Prop} {k : Nat} {s : WS}
set_option maxRecDepth 100000 in
set_option maxHeartbeats 8000000 in
theorem refLay_any (h : WLies TE w F k s) (hok : s.Ok) (rf : Bool) {B : Option Addr} {cc : Nat} {ys : List Int} (hy : BSrc w B ys) (hd : ∀ g o, B = some ⟨g, o, none⟩ → ys ≠ [] → ¬ F g) (h63 : s.bs.length + ys.length ≤ 140737488355328) :
    Calls Try.prog 123 #[.pointer (some ⟨k, 0, none⟩), .bool rf, .slice B ys.length cc] w fun e w' => e = .returned (.tuple #[]) ∧ UpdW TE F k w w' (if rf then s.refuse 2 else s.lay ys) := by
  obtain ⟨S', hS'⟩ : ∃ x, (if rf then s.refuse 2 else s.lay ys) = x := ⟨_, rfl⟩
  have HS' := Lib.hid hS'
  rw [hS']
  clear hS'
  have WH := Lib.hid (refDead_any h)
  have H := Lib.hid h
  have HY := Lib.hid hy
  have HD := Lib.hid hd
  have hr0 := hok.room0
  have hr1 := hok.room1
  have hfit := hok.fit
  have hk := h.in_
  have H0 := h
  obtain ⟨A, c, OA, oc, h1, h2, h3, h4⟩ := h
  have e0 : w.cell? ⟨k, 0, none⟩ = some (.int .i64 s.room) := cell_blk h1 0 rfl
  have e1 : w.cell? ⟨k, 1, none⟩ = some (.slice A s.bs.length c) := cell_blk h1 1 rfl
  have e3 : w.cell? ⟨k, 3, none⟩ = some (.int .i64 s.ft) := cell_blk h1 3 rfl
  have f3 := free_blk h1 3
  clear h1 h2 h3 h4 H0 hy hd hok
  obtain ⟨t0, ht0⟩ := named (s.ft != 0)
  rw [ht0] at WH
  cases t0
  · have hf : s.ft = 0 := by simpa using ht0
    have HFT := Lib.hid hf
    clear ht0
    cases rf
    · obtain ⟨L, hL⟩ : ∃ L, s.bs.length = L := ⟨_, rfl⟩
      obtain ⟨n, hn⟩ : ∃ n, ys.length = n := ⟨_, rfl⟩
      have HLL := Lib.hid hL
      have HNN := Lib.hid hn
      rw [hL] at e1 h63 hfit
      rw [hn] at h63 ⊢
      obtain ⟨t1, ht1⟩ := named (decide (s.room - (L : Int) < (n : Int)))
      have HT1 := Lib.hid ht1
      generalize hro : s.room = room at *
      generalize hfft : s.ft = ft at *
      subst hf
      clear hL hn
      go_enter Try.func123, Try.ntmps123
      go_wp2_with (go_at_call 128; refine WH.out.mono ?_; rintro e w_ ⟨rfl, rfl⟩)
      refine start_ (n := 13) (S := fun w' => w'.cell? ⟨k, 0, none⟩ = some (.int .i64 room) ∧ w'.cell? ⟨k, 1, none⟩ = some (.slice A L c)) (ds := []) #[false, false, false, false, false, false, false, false, false, false, false, false, false] (by kernel_rfl) rfl rfl ⟨e0, e1⟩ (fun hHeld => ?_)
      (refine take_ (i := 0) (N := some 13) (v := ?v_2) (a' := ?a_2) #[true, false, false, false, false, false, false, false, false, false, false, false, false] rfl rfl (by kernel_rfl) (fun _ _ _ h => h) (Or.inl ⟨by rfl, ?hy_2⟩) hHeld ?ha_2 ?hh_2; (case hy_2 => (rintro w' ⟨s0_, s1_⟩; go_simp; with_reducible rfl)); (case ha_2 => (simp (disch := omega) only [Act.put, List.setIfInBounds_toArray, List.set_cons_zero, List.set_cons_succ, wrap_in]; rfl)))
      (refine take_ (i := 1) (N := some 14) (v := ?v_3) (a' := ?a_3) #[true, true, false, false, false, false, false, false, false, false, false, false, false] rfl rfl (by kernel_rfl) (fun _ _ _ h => h) (Or.inl ⟨by rfl, ?hy_3⟩) hHeld ?ha_3 ?hh_3; (case hy_3 => (rintro w' ⟨s0_, s1_⟩; go_simp; with_reducible rfl)); (case ha_3 => (simp (disch := omega) only [Act.put, List.setIfInBounds_toArray, List.set_cons_zero, List.set_cons_succ, wrap_in]; rfl)))
      (refine take_ (i := 2) (N := some 15) (v := ?v_4) (a' := ?a_4) #[true, true, true, false, false, false, false, false, false, false, false, false, false] rfl rfl (by kernel_rfl) (fun _ _ _ h => h) (Or.inl ⟨by rfl, ?hy_4⟩) hHeld ?ha_4 ?hh_4; (case hy_4 => (rintro w' ⟨s0_, s1_⟩; go_simp; with_reducible rfl)); (case ha_4 => (simp (disch := omega) only [Act.put, List.setIfInBounds_toArray, List.set_cons_zero, List.set_cons_succ, wrap_in]; rfl)))
      (refine take_ (i := 3) (N := some 16) (v := ?v_5) (a' := ?a_5) #[true, true, true, true, false, false, false, false, false, false, false, false, false] rfl rfl (by kernel_rfl) (fun _ _ _ h => h) (Or.inl ⟨by rfl, ?hy_5⟩) hHeld ?ha_5 ?hh_5; (case hy_5 => (rintro w' ⟨s0_, s1_⟩; go_simp; with_reducible rfl)); (case ha_5 => (simp (disch := omega) only [Act.put, List.setIfInBounds_toArray, List.set_cons_zero, List.set_cons_succ, wrap_in]; rfl)))
      (refine take_ (i := 4) (N := some 17) (v := ?v_6) (a' := ?a_6) #[true, true, true, true, true, false, false, false, false, false, false, false, false] rfl rfl (by kernel_rfl) (fun _ _ _ h => h) (Or.inl ⟨by rfl, ?hy_6⟩) hHeld ?ha_6 ?hh_6; (case hy_6 => (rintro w' ⟨s0_, s1_⟩; go_simp; with_reducible rfl)); (case ha_6 => (simp (disch := omega) only [Act.put, List.setIfInBounds_toArray, List.set_cons_zero, List.set_cons_succ, wrap_in]; rfl)))
      (refine take_ (i := 5) (N := some 18) (v := ?v_7) (a' := ?a_7) #[true, true, true, true, true, true, false, false, false, false, false, false, false] rfl rfl (by kernel_rfl) (fun _ _ _ h => h) (Or.inl ⟨by rfl, ?hy_7⟩) hHeld ?ha_7 ?hh_7; (case hy_7 => (rintro w' ⟨s0_, s1_⟩; go_simp; with_reducible rfl)); (case ha_7 => (simp (disch := omega) only [Act.put, List.setIfInBounds_toArray, List.set_cons_zero, List.set_cons_succ, wrap_in]; rfl)))
      (refine take_ (i := 6) (N := some 19) (v := ?v_8) (a' := ?a_8) #[true, true, true, true, true, true, true, false, false, false, false, false, false] rfl rfl (by kernel_rfl) (fun _ _ _ h => h) (Or.inl ⟨by rfl, ?hy_8⟩) hHeld ?ha_8 ?hh_8; (case hy_8 => (rintro w' ⟨s0_, s1_⟩; go_simp; with_reducible rfl)); (case ha_8 => (simp (disch := omega) only [Act.put, List.setIfInBounds_toArray, List.set_cons_zero, List.set_cons_succ, wrap_in]; rfl)))
      (refine take_ (i := 7) (N := some 20) (v := ?v_9) (a' := ?a_9) #[true, true, true, true, true, true, true, true, false, false, false, false, false] rfl rfl (by kernel_rfl) (fun _ _ _ h => h) (Or.inl ⟨by rfl, ?hy_9⟩) hHeld ?ha_9 ?hh_9; (case hy_9 => (rintro w' ⟨s0_, s1_⟩; go_simp; with_reducible rfl)); (case ha_9 => (simp (disch := omega) only [Act.put, List.setIfInBounds_toArray, List.set_cons_zero, List.set_cons_succ, wrap_in]; rfl)))
      (refine take_ (i := 8) (N := some 21) (v := ?v_10) (a' := ?a_10) #[true, true, true, true, true, true, true, true, true, false, false, false, false] rfl rfl (by kernel_rfl) (fun _ _ _ h => h) (Or.inl ⟨by rfl, ?hy_10⟩) hHeld ?ha_10 ?hh_10; (case hy_10 => (rintro w' ⟨s0_, s1_⟩; go_simp; with_reducible rfl)); (case ha_10 => (simp (disch := omega) only [Act.put, List.setIfInBounds_toArray, List.set_cons_zero, List.set_cons_succ, wrap_in]; rfl)))
      (refine take_ (i := 9) (N := some 22) (v := ?v_11) (a' := ?a_11) #[true, true, true, true, true, true, true, true, true, true, false, false, false] rfl rfl (by kernel_rfl) (fun _ _ _ h => h) (Or.inl ⟨by rfl, ?hy_11⟩) hHeld ?ha_11 ?hh_11; (case hy_11 => (rintro w' ⟨s0_, s1_⟩; go_simp; with_reducible rfl)); (case ha_11 => (simp (disch := omega) only [Act.put, List.setIfInBounds_toArray, List.set_cons_zero, List.set_cons_succ, wrap_in]; rfl)))
      (refine take_ (i := 10) (N := some 23) (v := ?v_12) (a' := ?a_12) #[true, true, true, true, true, true, true, true, true, true, true, false, false] rfl rfl (by kernel_rfl) (fun _ _ _ h => h) (Or.inl ⟨by rfl, ?hy_12⟩) hHeld ?ha_12 ?hh_12; (case hy_12 => (rintro w' ⟨s0_, s1_⟩; go_simp; with_reducible rfl)); (case ha_12 => (simp (disch := omega) only [Act.put, List.setIfInBounds_toArray, List.set_cons_zero, List.set_cons_succ, wrap_in]; rfl)))
      (refine take_ (i := 11) (N := some 24) (v := ?v_13) (a' := ?a_13) #[true, true, true, true, true, true, true, true, true, true, true, true, false] rfl rfl (by kernel_rfl) (fun _ _ _ h => h) (Or.inl ⟨by rfl, ?hy_13⟩) hHeld ?ha_13 ?hh_13; (case hy_13 => (rintro w' ⟨s0_, s1_⟩; go_simp; with_reducible rfl)); (case ha_13 => (simp (disch := omega) only [Act.put, List.setIfInBounds_toArray, List.set_cons_zero, List.set_cons_succ, wrap_in]; rfl)))
      (refine take_ (i := 12) (N := some 25) (v := ?v_14) (a' := ?a_14) #[true, true, true, true, true, true, true, true, true, true, true, true, true] rfl rfl (by kernel_rfl) (fun _ _ _ h => h) (Or.inl ⟨by rfl, ?hy_14⟩) hHeld ?ha_14 ?hh_14; (case hy_14 => (rintro w' ⟨s0_, s1_⟩; go_simp; with_reducible rfl)); (case ha_14 => (simp (disch := omega) only [Act.put, List.setIfInBounds_toArray, List.set_cons_zero, List.set_cons_succ, wrap_in]; rfl)))
      refine done_ (by kernel_rfl) ?_
      cases t1
      · have hc : ¬ room - (L : Int) < (n : Int) := of_decide_eq_false HT1.out
        have HLAY := Lib.hid (show S' = { s with bs := s.bs ++ ys } from by
          rw [← HS'.out]
          simp only [Bool.false_eq_true, if_false]
          unfold WS.lay
          rw [if_pos hfft, HLL.out, HNN.out, hro, if_neg hc])
        have HU0 := Lib.hid (UpdW.refl H.out.drew)
        clear hHeld e0 e1 e3 f3
        have hlw := HNN.out
        generalize hwd : w.drew = wd at *
        have HWD := Lib.hid hwd
        clear hwd ht1 hc
        go_wp2_with (fail)
        refine wp_loop_ghost_k (fun (m : Nat) (ac : Act) (wr : World) => ∃ u1 u3 u4 u5 u7 u8 u9 u10 u11 u12 u13 u14 u15 u16 u17 u18 u19 u20 u21 u22 u23 u24 u25 u26 u27 u28 u29 u30 u31 u32 u33 u34 u35 u36 u37 u38 u39 u40 u41 u42 u43 u44 u45 u46 u47 v6 : Value, (∃ j : Nat, m + j = n ∧ v6 = .int .i64 j ∧ UpdW TE F k w wr { s with bs := s.bs ++ ys.take j }) ∧ ac = ({ tmps := #[.pointer (some ⟨k, 0, none⟩), u1, .slice B n cc, u3, u4, u5, v6, u7, u8, u9, u10, u11, u12, u13, u14, u15, u16, u17, u18, u19, u20, u21, u22, u23, u24, u25, u26, u27, u28, u29, u30, u31, u32, u33, u34, u35, u36, u37, u38, u39, u40, u41, u42, u43, u44, u45, u46, u47], defers := [] } : Act)) (n) ?atStart ?round
        case' atStart => ((repeat apply Exists.intro); refine ⟨?_, rfl⟩)
        case' round => (intro m ac wr hcut; obtain ⟨u1, hcut⟩ := hcut; obtain ⟨u3, hcut⟩ := hcut; obtain ⟨u4, hcut⟩ := hcut; obtain ⟨u5, hcut⟩ := hcut; obtain ⟨u7, hcut⟩ := hcut; obtain ⟨u8, hcut⟩ := hcut; obtain ⟨u9, hcut⟩ := hcut; obtain ⟨u10, hcut⟩ := hcut; obtain ⟨u11, hcut⟩ := hcut; obtain ⟨u12, hcut⟩ := hcut; obtain ⟨u13, hcut⟩ := hcut; obtain ⟨u14, hcut⟩ := hcut; obtain ⟨u15, hcut⟩ := hcut; obtain ⟨u16, hcut⟩ := hcut; obtain ⟨u17, hcut⟩ := hcut; obtain ⟨u18, hcut⟩ := hcut; obtain ⟨u19, hcut⟩ := hcut; obtain ⟨u20, hcut⟩ := hcut; obtain ⟨u21, hcut⟩ := hcut; obtain ⟨u22, hcut⟩ := hcut; obtain ⟨u23, hcut⟩ := hcut; obtain ⟨u24, hcut⟩ := hcut; obtain ⟨u25, hcut⟩ := hcut; obtain ⟨u26, hcut⟩ := hcut; obtain ⟨u27, hcut⟩ := hcut; obtain ⟨u28, hcut⟩ := hcut; obtain ⟨u29, hcut⟩ := hcut; obtain ⟨u30, hcut⟩ := hcut; obtain ⟨u31, hcut⟩ := hcut; obtain ⟨u32, hcut⟩ := hcut; obtain ⟨u33, hcut⟩ := hcut; obtain ⟨u34, hcut⟩ := hcut; obtain ⟨u35, hcut⟩ := hcut; obtain ⟨u36, hcut⟩ := hcut; obtain ⟨u37, hcut⟩ := hcut; obtain ⟨u38, hcut⟩ := hcut; obtain ⟨u39, hcut⟩ := hcut; obtain ⟨u40, hcut⟩ := hcut; obtain ⟨u41, hcut⟩ := hcut; obtain ⟨u42, hcut⟩ := hcut; obtain ⟨u43, hcut⟩ := hcut; obtain ⟨u44, hcut⟩ := hcut; obtain ⟨u45, hcut⟩ := hcut; obtain ⟨u46, hcut⟩ := hcut; obtain ⟨u47, hcut⟩ := hcut; obtain ⟨v6, hcut⟩ := hcut; obtain ⟨hcut, hac⟩ := hcut; subst hac; intro _ _ _ _)
        case atStart =>
          refine ⟨0, rfl, rfl, ?_⟩
          rw [List.take_zero, List.append_nil]
          have := UpdW.refl H.out
          exact ⟨(show WLies TE wd (Gr F w wd) k s from by rw [← HWD.out]; exact H.out.drew.mono fun _ h => Or.inl h), by rw [← HWD.out]; exact Fr.drew F w⟩
        case round =>
          obtain ⟨j, hm, rfl, U⟩ := hcut
          have HM := Lib.hid hm
          have HU := Lib.hid U
          by_cases hj : j < n
          · obtain ⟨y, hy⟩ : ∃ y, ys[j]? = some y := ⟨_, List.getElem?_eq_getElem (by omega)⟩
            have hne : ys ≠ [] := by rintro rfl; simp at hy
            obtain ⟨g, o, hBg, hBA⟩ := HY.out hne
            subst hBg
            have hgF := HD.out g o rfl hne
            have hgl : g < w.heap.size := World.block_lt_of_cell? _ _ (hBA j y hy)
            have y0 : wr.cell? ⟨g, o + j, none⟩ = some (.int .u8 y) := cell_same (hBA j y hy) (U.2.block g hgl hgF)
            have hgr : ¬ Gr F w wr g := fun h => h.elim hgF fun h => by omega
            have ll : (s.bs ++ ys.take j).length = L + j := by rw [List.length_append, List.length_take, HLL.out]; omega
            have hgl' : g < wr.heap.size := World.block_lt_of_cell? _ _ y0
            obtain ⟨A', c', A2, c2, w2, x1, hrun, X1, xf, hsame, U2⟩ := lay_push te_ne U y (by show (s.bs ++ ys.take j).length + 1 ≤ _; rw [ll]; omega)
            simp only [ll] at x1 hrun X1 U2
            have Y1 : w2.cell? ⟨g, o + j, none⟩ = some (.int .u8 y) := cell_same y0 (hsame g hgl' hgr)
            have HRUN := Lib.hid hrun
            have HX := Lib.hid (And.intro X1 Y1)
            have HU2 := Lib.hid U2
            have HTK := Lib.hid (show s.bs ++ ys.take j ++ [y] = s.bs ++ ys.take (j + 1) by rw [List.take_add_one, hy, List.append_assoc]; rfl)
            clear hm hy hne hBA hlw U hrun X1 Y1 hsame U2 ll hgr hgF
            go_wp2_with (fail)
            refine start_ (n := 14) (S := fun w' => w'.cell? ⟨k, 1, none⟩ = some (.slice A' (L + j) c') ∧ w'.cell? ⟨g, o + j, none⟩ = some (.int .u8 y)) (ds := [13]) #[false, false, false, false, false, false, false, false, false, false, false, false, false, false] (by kernel_rfl) rfl rfl ⟨x1, y0⟩ (fun hHeld => ?_)
            (refine take_ (i := 0) (N := some 35) (v := ?v_27) (a' := ?a_27) #[true, false, false, false, false, false, false, false, false, false, false, false, false, false] rfl rfl (by kernel_rfl) (fun _ _ _ h => h) (Or.inl ⟨by rfl, ?hy_27⟩) hHeld ?ha_27 ?hh_27; (case hy_27 => (rintro w' ⟨s0_, s1_⟩; go_simp; with_reducible rfl)); (case ha_27 => (simp (disch := omega) only [Act.put, List.setIfInBounds_toArray, List.set_cons_zero, List.set_cons_succ, wrap_in]; rfl)))
            (refine take_ (i := 1) (N := some 36) (v := ?v_28) (a' := ?a_28) #[true, true, false, false, false, false, false, false, false, false, false, false, false, false] rfl rfl (by kernel_rfl) (fun _ _ _ h => h) (Or.inl ⟨by rfl, ?hy_28⟩) hHeld ?ha_28 ?hh_28; (case hy_28 => (rintro w' ⟨s0_, s1_⟩; go_simp; with_reducible rfl)); (case ha_28 => (simp (disch := omega) only [Act.put, List.setIfInBounds_toArray, List.set_cons_zero, List.set_cons_succ, wrap_in]; rfl)))
            (refine take_ (i := 2) (N := some 37) (v := ?v_29) (a' := ?a_29) #[true, true, true, false, false, false, false, false, false, false, false, false, false, false] rfl rfl (by kernel_rfl) (fun _ _ _ h => h) (Or.inl ⟨by rfl, ?hy_29⟩) hHeld ?ha_29 ?hh_29; (case hy_29 => (rintro w' ⟨s0_, s1_⟩; go_simp; with_reducible rfl)); (case ha_29 => (simp (disch := omega) only [Act.put, List.setIfInBounds_toArray, List.set_cons_zero, List.set_cons_succ, wrap_in]; rfl)))
            (refine take_ (i := 3) (N := some 38) (v := ?v_30) (a' := ?a_30) #[true, true, true, true, false, false, false, false, false, false, false, false, false, false] rfl rfl (by kernel_rfl) (fun _ _ _ h => h) (Or.inl ⟨by rfl, ?hy_30⟩) hHeld ?ha_30 ?hh_30; (case hy_30 => (rintro w' ⟨s0_, s1_⟩; go_simp; with_reducible rfl)); (case ha_30 => (simp (disch := omega) only [Act.put, List.setIfInBounds_toArray, List.set_cons_zero, List.set_cons_succ, wrap_in]; rfl)))
            (refine take_ (i := 4) (N := some 39) (v := ?v_31) (a' := ?a_31) #[true, true, true, true, true, false, false, false, false, false, false, false, false, false] rfl rfl (by kernel_rfl) (fun _ _ _ h => h) (Or.inl ⟨by rfl, ?hy_31⟩) hHeld ?ha_31 ?hh_31; (case hy_31 => (rintro w' ⟨s0_, s1_⟩; go_simp; with_reducible rfl)); (case ha_31 => (simp (disch := omega) only [Act.put, List.setIfInBounds_toArray, List.set_cons_zero, List.set_cons_succ, wrap_in]; rfl)))
            (refine take_ (i := 5) (N := some 40) (v := ?v_32) (a' := ?a_32) #[true, true, true, true, true, true, false, false, false, false, false, false, false, false] rfl rfl (by kernel_rfl) (fun _ _ _ h => h) (Or.inl ⟨by rfl, ?hy_32⟩) hHeld ?ha_32 ?hh_32; (case hy_32 => (rintro w' ⟨s0_, s1_⟩; go_simp; with_reducible rfl)); (case ha_32 => (simp (disch := omega) only [Act.put, List.setIfInBounds_toArray, List.set_cons_zero, List.set_cons_succ, wrap_in]; rfl)))
            (refine take_ (i := 6) (N := some 41) (v := ?v_33) (a' := ?a_33) #[true, true, true, true, true, true, true, false, false, false, false, false, false, false] rfl rfl (by kernel_rfl) (fun _ _ _ h => h) (Or.inl ⟨by rfl, ?hy_33⟩) hHeld ?ha_33 ?hh_33; (case hy_33 => (rintro w' ⟨s0_, s1_⟩; go_simp; with_reducible rfl)); (case ha_33 => (simp (disch := omega) only [Act.put, List.setIfInBounds_toArray, List.set_cons_zero, List.set_cons_succ, wrap_in]; rfl)))
            (refine take_ (i := 7) (N := some 42) (v := ?v_34) (a' := ?a_34) #[true, true, true, true, true, true, true, true, false, false, false, false, false, false] rfl rfl (by kernel_rfl) (fun _ _ _ h => h) (Or.inl ⟨by rfl, ?hy_34⟩) hHeld ?ha_34 ?hh_34; (case hy_34 => (rintro w' ⟨s0_, s1_⟩; go_simp; with_reducible rfl)); (case ha_34 => (simp (disch := omega) only [Act.put, List.setIfInBounds_toArray, List.set_cons_zero, List.set_cons_succ, wrap_in]; rfl)))
            (refine take_ (i := 8) (N := some 43) (v := ?v_35) (a' := ?a_35) #[true, true, true, true, true, true, true, true, true, false, false, false, false, false] rfl rfl (by kernel_rfl) (fun _ _ _ h => h) (Or.inl ⟨by rfl, ?hy_35⟩) hHeld ?ha_35 ?hh_35; (case hy_35 => (rintro w' ⟨s0_, s1_⟩; go_simp; with_reducible rfl)); (case ha_35 => (simp (disch := omega) only [Act.put, List.setIfInBounds_toArray, List.set_cons_zero, List.set_cons_succ, wrap_in]; rfl)))
            refine one_ (i := 9) (N := some 44) #[true, true, true, true, true, true, true, true, true, true, false, false, false, false] rfl rfl (by kernel_rfl) (by decide) (fun K hK => ?_)
            (refine value_ (v := ?v_16) (w1 := ?w1_16) (by rfl) rfl ?hr_16 ?hk_16; (case hr_16 => (go_simp; first | with_reducible rfl | (constructor <;> with_reducible rfl))))
            (refine hK.out _ _ ?hs_17 ?hn_17; (case hs_17 => (obtain ⟨s0_, s1_⟩ := hHeld; exact ⟨cell_alloc_old s0_ _, cell_alloc_old s1_ _⟩)); intro hHeld; clear hK K)
            (refine norm_ (a' := ?a_18) ?ha_18 ?hh_18; (case ha_18 => (simp (disch := omega) only [Act.put, List.setIfInBounds_toArray, List.set_cons_zero, List.set_cons_succ, wrap_in]; rfl)))
            refine one_ (i := 10) (N := some 45) #[true, true, true, true, true, true, true, true, true, true, true, false, false, false] rfl rfl (by kernel_rfl) (by decide) (fun K hK => ?_)
            (have hrun := HRUN.out; refine value_ (by rfl) rfl (runapp_ hrun (by rfl) (by rfl) (by rfl) (by rfl)) ?hk_19)
            (refine hK.out _ _ ?hs_20 ?hn_20; (case hs_20 => (exact HX.out)); intro hHeld; clear hK K)
            (refine norm_ (a' := ?a_21) ?ha_21 ?hh_21; (case ha_21 => (simp (disch := omega) only [Act.put, List.setIfInBounds_toArray, List.set_cons_zero, List.set_cons_succ, wrap_in]; rfl)))
            (refine take_ (i := 11) (N := some 46) (v := ?v_22) (a' := ?a_22) #[true, true, true, true, true, true, true, true, true, true, true, true, false, false] rfl rfl (by kernel_rfl) (fun _ _ _ h => h) (Or.inl ⟨by rfl, ?hy_22⟩) hHeld ?ha_22 ?hh_22; (case hy_22 => (rintro w' ⟨s0_, s1_⟩; go_simp; with_reducible rfl)); (case ha_22 => (simp (disch := omega) only [Act.put, List.setIfInBounds_toArray, List.set_cons_zero, List.set_cons_succ, wrap_in]; rfl)))
            (refine take_ (i := 12) (N := some 47) (v := ?v_23) (a' := ?a_23) #[true, true, true, true, true, true, true, true, true, true, true, true, true, false] rfl rfl (by kernel_rfl) (fun _ _ _ h => h) (Or.inl ⟨by rfl, ?hy_23⟩) hHeld ?ha_23 ?hh_23; (case hy_23 => (rintro w' ⟨s0_, s1_⟩; go_simp; with_reducible rfl)); (case ha_23 => (simp (disch := omega) only [Act.put, List.setIfInBounds_toArray, List.set_cons_zero, List.set_cons_succ, wrap_in]; rfl)))
            refine last_ (i := 13) (N := none) #[true, true, true, true, true, true, true, true, true, true, true, true, true, true] rfl rfl (by kernel_rfl) (by decide) (fun K hK => ?_)
            (refine skip_ (w1 := ?w1_24) (by rfl) rfl ?hr_24 ?hk_24; (case hr_24 => (go_simp; first | with_reducible rfl | (constructor <;> with_reducible rfl))))
            (refine hK.out _ _ ?hn_25; clear hK K; try clear hHeld)
            refine done_ (by kernel_rfl) ?_
            go_wp2_with (fail)
            go_roundg (m - 1)
            case measure => have := HM.out; omega
            case rel =>
              refine ⟨j + 1, by have := HM.out; omega, by go_num, ?_⟩
              have := HU2.out
              rw [HTK.out] at this
              exact this
          · have hjn : ys.take j = ys := List.take_of_length_le (by have := HNN.out; omega)
            have HJN := Lib.hid hjn
            clear hm U hjn
            go_wp2_with (fail)
            go_end0
            refine ⟨rfl, ?_⟩
            rw [HLAY.out]
            have := HU.out
            rw [HJN.out] at this
            exact this
      · have hc : room - (L : Int) < (n : Int) := of_decide_eq_true HT1.out
        have f3 : w.drew.frozen? ⟨k, 3, none⟩ = false := f3
        have e3 : w.drew.cell? ⟨k, 3, none⟩ = some (.int .i64 0) := e3
        go_wp2_with (fail)
        ((try simp only [Exit.inBlock, Exit.then]); refine bodyPost_ret (results_none rfl _ _ _) rfl ?_)
        refine ⟨rfl, ?_⟩
        have hlay : s.lay ys = { s with ft := 13 } := by
          unfold WS.lay
          rw [if_pos hfft, HLL.out, HNN.out, hro, if_pos hc]
        rw [← HS'.out]
        simp only [Bool.false_eq_true, if_false]
        rw [hlay]
        exact ⟨(H.out.drew.fault te_ne 13).mono fun _ h => Or.inl h, (Fr.drew F w).trans (Fr.set _ hk _) fun _ _ h => h⟩
    ·
      go_enter Try.func123, Try.ntmps123
      go_wp2_with (go_at_call 128; refine WH.out.mono ?_; rintro e w_ ⟨rfl, rfl⟩)
      ((try simp only [Exit.inBlock, Exit.then]); refine bodyPost_ret (results_none rfl _ _ _) rfl ?_)
      refine ⟨rfl, ?_⟩
      rw [← HS'.out, if_pos trivial]
      unfold WS.refuse
      rw [if_pos HFT.out]
      exact ⟨(H.out.fault te_ne 2).mono fun _ h => Or.inl h, Fr.set w hk _⟩
  · have hf : ¬ s.ft = 0 := by simpa using ht0
    have HSS := Lib.hid (show (if rf = true then s.refuse 2 else s.lay ys) = s from by
      unfold WS.refuse WS.lay
      cases rf <;> simp [hf])
    clear hf
    go_enter Try.func123, Try.ntmps123
    go_wp2_with (go_at_call 128; refine WH.out.mono ?_; rintro e w_ ⟨rfl, rfl⟩)
    ((try simp only [Exit.inBlock, Exit.then]); refine bodyPost_ret (results_none rfl _ _ _) rfl ?_)
    refine ⟨rfl, ?_⟩
    rw [← HS'.out, HSS.out]
    exact UpdW.refl H.out
end
end Go.Proofs.Ytibelfljlhcibaa
namespace Go.Proofs.Ytibelfljlhcibaa
set_option linter.unusedVariables false
set_option linter.unusedSimpArgs false
open Go.RowKit Go.Deep Go.Proofs.YtibelfljlhcibaaW.PrintLast

section
variable {T : TypeId} {w w' : World} {F G : Nat → Prop} {k : Nat} {s : WS}
theorem WLies.tight (h : WLies T w F k s) : WLies T w (fun b => F b ∧ b < w.heap.size) k s := by
  have hl := h.lt
  obtain ⟨A, c, OA, oc, h1, h2, h3, h4⟩ := h
  refine ⟨A, c, OA, oc, h1, ⟨h2, hl⟩, ?_, ?_⟩
  · rcases h3 with h3 | ⟨g, g1, g2, g3⟩
    · exact Or.inl h3
    · exact Or.inr ⟨g, g1, ⟨g2, g3.lt⟩, g3⟩
  · rcases h4 with h4 | ⟨g, g1, g2, g3⟩
    · exact Or.inl h4
    · exact Or.inr ⟨g, g1, ⟨g2, g3.lt⟩, g3⟩
theorem UpdW.weaken (h : UpdW T G k w w' s) (hG : ∀ b, G b → F b) : UpdW T F k w w' s :=
  ⟨h.1.mono fun x hx => hx.elim (fun h => Or.inl (hG x h)) Or.inr, h.2.mono hG⟩
theorem GRow.notF {N c : Nat} {A : Option Addr} {p : List Int} (h : GRow bc 5 1 w N A c p) : ∀ g o, A = some ⟨g, o, none⟩ → p ≠ [] → ¬ (F g ∧ g < N) := fun g o hA hne hg => by
  rcases h with ⟨_, _, h⟩ | ⟨g', h1, h2, _⟩
  · exact hne h
  · rw [h1] at hA
    injection hA with hA; injection hA with hA; omega
end
section
variable {w : World} {F : Nat → Prop} {k : Nat} {s : WS}
/-- lay behind calls that made memory alone, of what they made. -/
theorem refLay_new {w1 : World} (h : WLies TE w F k s) (hok : s.Ok) {A : Option Addr} {c : Nat} {p : List Int} (R : GRow bc 5 1 w1 w.heap.size A c p) (B1 : Below w.heap.size w w1) (h63 : s.bs.length + p.length ≤ 140737488355328) (rf : Bool) :
    Calls Try.prog 123 #[.pointer (some ⟨k, 0, none⟩), .bool rf, .slice A p.length c] w1 fun e w' => e = .returned (.tuple #[]) ∧ UpdW TE F k w w' (if rf then s.refuse 2 else s.lay p) :=
  (refLay_any (h.tight.below B1) hok rf (cc := c) R.srcB R.notF h63).mono fun e w' ⟨he, U⟩ => ⟨he, UpdW.weaken (UpdW.after B1 U) fun b hb => hb.1⟩
set_option maxHeartbeats 1000000 in
theorem refNum_any (h : WLies TE w F k s) (hok : s.Ok) (n : Nat) (hn : n < 18446744073709551616) (h63 : s.bs.length + 10 ≤ 140737488355328) :
    Calls Try.prog 84 #[.pointer (some ⟨k, 0, none⟩), .int .u64 n] w fun e w' => e = .returned (.tuple #[]) ∧ UpdW TE F k w w' (s.num n) := by
  have h10 := formN_len10 hn
  have FM := Lib.hid (refForm_any n hn w)
  have H := Lib.hid h
  have HO := Lib.hid hok
  clear h hok
  go_enter Try.func84, Try.ntmps84
  go_wp2_with (fail)
  refine FM.out.mono ?_
  rintro e w1 ⟨⟨A, c1, rfl, R⟩, B1⟩
  have LY := Lib.hid (refLay_new H.out HO.out R B1 (by omega) false)
  clear R B1
  go_wp2_with (fail)
  refine LY.out.mono ?_
  rintro e w2 ⟨rfl, W2⟩
  go_wp2_with (fail)
  go_end0
  exact ⟨rfl, W2⟩
set_option maxHeartbeats 1000000 in
theorem refRaw_any (h : WLies TE w F k s) (hok : s.Ok) {B : Option Addr} {cc : Nat} {ys : List Int} (hy : BSrc w B ys) (hd : ∀ g o, B = some ⟨g, o, none⟩ → ys ≠ [] → ¬ F g) (h63 : s.bs.length + ys.length ≤ 140737488355328) :
    Calls Try.prog 87 #[.pointer (some ⟨k, 0, none⟩), .slice B ys.length cc] w fun e w' => e = .returned (.tuple #[]) ∧ UpdW TE F k w w' (s.raw ys) := by
  have LY := Lib.hid (refLay_any h hok false (cc := cc) hy hd h63)
  clear h hok hy
  go_enter Try.func87, Try.ntmps87
  go_wp2_with (fail)
  refine LY.out.mono ?_
  rintro e w2 ⟨rfl, W2⟩
  go_wp2_with (fail)
  go_end0
  exact ⟨rfl, W2⟩
set_option maxHeartbeats 1000000 in
theorem refByte_any (h : WLies TE w F k s) (hok : s.Ok) (n : Int) (h63 : s.bs.length + 1 ≤ 140737488355328) :
    Calls Try.prog 82 #[.pointer (some ⟨k, 0, none⟩), .int .i64 n] w fun e w' => e = .returned (.tuple #[]) ∧ UpdW TE F k w w' (s.byte n) := by
  obtain ⟨y, hy⟩ : ∃ y, y = n % 256 := ⟨_, rfl⟩
  have B1 : Below w.heap.size w (w.alloc (.cells #[.int .u8 y] 5)) := (Below.refl _ _).alloc (Nat.le_refl _) _
  have hb : OwnB (w.alloc (.cells #[.int .u8 y] 5)) w.heap.size 1 [y] := ⟨by simp, by simp [maxLen], _, blk_new w _, rfl, by
    intro i x hx j v hv
    rcases i with _ | i
    · simp at hx; subst hx
      rcases j with _ | j
      · simpa [bc] using hv
      · simp [bc] at hv
    · simp at hx⟩
  have R : GRow bc 5 1 (w.alloc (.cells #[.int .u8 y] 5)) w.heap.size (some ⟨w.heap.size, 0, none⟩) 1 [y] := Or.inr ⟨_, rfl, Nat.le_refl _, hb⟩
  have LY := fun rf => refLay_new h hok R B1 (by simpa using h63) rf
  have HLY := Lib.hid LY
  have HY := Lib.hid hy
  clear h hok B1 hb R LY
  by_cases hr : n < 0 ∨ 255 < n
  · have HS := Lib.hid (show s.byte n = s.refuse 2 by unfold WS.byte; rw [if_pos hr])
    go_enter Try.func82, Try.ntmps82
    subst hy
    rcases hr with hr | hr
    · have z1 : decide (n < 0) = true := by simpa using hr
      go_wp2_with (fail)
      refine (HLY.out true).mono ?_
      rintro e w2 ⟨rfl, U⟩
      go_wp2_with (fail)
      go_end0
      exact ⟨rfl, by rw [HS.out]; exact U⟩
    · have z1 : decide (n < 0) = false := by simp; omega
      have z2 : decide (255 < n) = true := by simpa using hr
      go_wp2_with (fail)
      refine (HLY.out true).mono ?_
      rintro e w2 ⟨rfl, U⟩
      go_wp2_with (fail)
      go_end0
      exact ⟨rfl, by rw [HS.out]; exact U⟩
  · have z1 : decide (n < 0) = false := by simp; omega
    have z2 : decide (255 < n) = false := by simp; omega
    have hm : n % 256 = n := by omega
    have HS := Lib.hid (show s.byte n = s.lay [n % 256] by unfold WS.byte; rw [if_neg hr, hm])
    go_enter Try.func82, Try.ntmps82
    subst hy
    clear hm hr
    go_wp2_with (fail)
    refine (HLY.out false).mono ?_
    rintro e w2 ⟨rfl, U⟩
    go_wp2_with (fail)
    go_end0
    exact ⟨rfl, by rw [HS.out]; exact U⟩
set_option maxHeartbeats 4000000 in
set_option maxRecDepth 100000 in
theorem refText_any (h : WLies TE w F k s) (hok : s.Ok) {B : Option Addr} {cc : Nat} {ys : List Int} (hy : BSrc w B ys) (h63 : s.bs.length + 10 + ys.length ≤ 140737488355328) :
    Calls Try.prog 88 #[.pointer (some ⟨k, 0, none⟩), .slice B ys.length cc] w fun e w' => e = .returned (.tuple #[]) ∧ UpdW TE F k w w' (s.text ys) := by
  have hn64 : ys.length < 18446744073709551616 := by omega
  have FM := Lib.hid (refForm_any ys.length hn64 w)
  have h10 := formN_len10 hn64
  have H := Lib.hid h
  have HO := Lib.hid hok
  have HY := Lib.hid hy
  obtain ⟨n, hn⟩ : ∃ L, ys.length = L := ⟨_, rfl⟩
  have HN := Lib.hid hn
  have hLb : n ≤ 140737488355328 := by omega
  obtain ⟨fm, hfm⟩ : ∃ f, formN n = f := ⟨_, rfl⟩
  have HFM := Lib.hid hfm
  rw [hn] at FM h10 h63 ⊢
  rw [hfm] at FM h10
  clear h hok hy hn64 hn hfm
  go_enter Try.func88, Try.ntmps88
  go_wp2_with (fail)
  refine FM.out.mono ?_
  rintro e w1 ⟨⟨A, c1, rfl, R⟩, B1⟩
  have HR := Lib.hid R
  have HB1 := Lib.hid B1
  clear R B1
  go_wp2_with (fail)
  refine wp_loop_ghost_k (fun (m : Nat) (ac : Act) (wr : World) => ∃ u2 u3 u6 u7 u8 u9 u10 u11 u12 u13 u14 u15 u16 u17 u18 u19 u20 u21 u22 u23 u24 u25 v4 v5 : Value, (∃ (j : Nat) (A' : Option Addr) (c' : Nat), m + j = n ∧ v5 = .int .i64 j ∧ v4 = .slice A' (fm ++ ys.take j).length c' ∧ GRow bc 5 1 wr w.heap.size A' c' (fm ++ ys.take j) ∧ Below w.heap.size w wr) ∧ ac = ({ tmps := #[.pointer (some ⟨k, 0, none⟩), .slice B n cc, u2, u3, v4, v5, u6, u7, u8, u9, u10, u11, u12, u13, u14, u15, u16, u17, u18, u19, u20, u21, u22, u23, u24, u25], defers := [] } : Act)) (n) ?atStart ?round
  case' atStart => ((repeat apply Exists.intro); refine ⟨?_, rfl⟩)
  case' round => (intro m ac wr hcut; obtain ⟨u2, hcut⟩ := hcut; obtain ⟨u3, hcut⟩ := hcut; obtain ⟨u6, hcut⟩ := hcut; obtain ⟨u7, hcut⟩ := hcut; obtain ⟨u8, hcut⟩ := hcut; obtain ⟨u9, hcut⟩ := hcut; obtain ⟨u10, hcut⟩ := hcut; obtain ⟨u11, hcut⟩ := hcut; obtain ⟨u12, hcut⟩ := hcut; obtain ⟨u13, hcut⟩ := hcut; obtain ⟨u14, hcut⟩ := hcut; obtain ⟨u15, hcut⟩ := hcut; obtain ⟨u16, hcut⟩ := hcut; obtain ⟨u17, hcut⟩ := hcut; obtain ⟨u18, hcut⟩ := hcut; obtain ⟨u19, hcut⟩ := hcut; obtain ⟨u20, hcut⟩ := hcut; obtain ⟨u21, hcut⟩ := hcut; obtain ⟨u22, hcut⟩ := hcut; obtain ⟨u23, hcut⟩ := hcut; obtain ⟨u24, hcut⟩ := hcut; obtain ⟨u25, hcut⟩ := hcut; obtain ⟨v4, hcut⟩ := hcut; obtain ⟨v5, hcut⟩ := hcut; obtain ⟨hcut, hac⟩ := hcut; subst hac; intro _ _ _ _)
  case atStart => exact ⟨0, A, c1, rfl, rfl, by simp, by simpa using HR.out, HB1.out⟩
  case round =>
    obtain ⟨j, A', c', hm, rfl, rfl, G, B⟩ := hcut
    have HM := Lib.hid hm
    have HG := Lib.hid G
    have HB := Lib.hid B
    by_cases hj : j < n
    · have hlw := HN.out
      obtain ⟨y, hy⟩ : ∃ y, ys[j]? = some y := ⟨_, List.getElem?_eq_getElem (by omega)⟩
      have hne : ys ≠ [] := by rintro rfl; simp at hy
      obtain ⟨g, o, hBg, hBA⟩ := HY.out hne
      subst hBg
      have hgl : g < w.heap.size := World.block_lt_of_cell? _ _ (hBA j y hy)
      have y0 : wr.cell? ⟨g, o + j, none⟩ = some (.int .u8 y) := cell_same (hBA j y hy) (B.block g hgl)
      have ll : (fm ++ ys.take j).length = fm.length + j := by rw [List.length_append, List.length_take]; omega
      obtain ⟨A1, c2, w2, hrun, G2, B2, _⟩ := GRow.push elBy HG.out 23 y HB.out HB.out.size (by rw [ll]; simp only [maxLen]; omega) (by rw [ll]; omega)
      have HRUN := Lib.hid hrun
      have HG2 := Lib.hid G2
      have HB2 := Lib.hid B2
      have HTK := Lib.hid (show fm ++ ys.take j ++ [y] = fm ++ ys.take (j + 1) by rw [List.take_add_one, hy, List.append_assoc]; rfl)
      have HLL := Lib.hid ll
      clear hm hy hne hBA hlw G B hrun G2 B2 ll hgl
      go_wp2_with (refine wpList_app HRUN.out rfl rfl rfl (by rfl) (by rfl) ?_)
      go_roundg (m - 1)
      case measure => have := HM.out; omega
      case rel =>
        refine ⟨j + 1, A1, c2, by have := HM.out; omega, by go_num, ?_, ?_, HB2.out⟩
        · rw [← HTK.out]; simp; try omega
        · rw [← HTK.out]; exact HG2.out
    · have hlw := HN.out
      have hjn : ys.take j = ys := List.take_of_length_le (by omega)
      have HLL := Lib.hid (show (fm ++ ys.take j).length = fm.length + n by rw [hjn, List.length_append, hlw])
      have HTX := Lib.hid (show s.text ys = s.lay (fm ++ ys.take j) by unfold WS.text; rw [hjn, hlw, HFM.out])
      have LY := Lib.hid (show Calls Try.prog 123 #[.pointer (some ⟨k, 0, none⟩), .bool false, .slice A' (fm ++ ys.take j).length c'] wr fun e w' => e = .returned (.tuple #[]) ∧ UpdW TE F k w w' (s.lay (fm ++ ys.take j)) from refLay_new H.out HO.out G B (by rw [HLL.out]; omega) false)
      have HJ := Lib.hid hj
      clear hm G B hjn hlw hj
      generalize fm ++ ys.take j = tt at *
      go_wp2_with (fail)
      refine LY.out.mono ?_
      rintro e w4 ⟨rfl, U⟩
      go_wp2_with (fail)
      go_end0
      refine ⟨rfl, ?_⟩
      rw [HTX.out]
      exact U
end
end Go.Proofs.Ytibelfljlhcibaa
namespace Go.Proofs.Ytibelfljlhcibaa
set_option linter.unusedVariables false
set_option linter.unusedSimpArgs false
open Go.RowKit Go.Deep Go.Proofs.YtibelfljlhcibaaW.PrintLast

/-- What Done hands back. -/
def RefDoneP (w : World) (s : WS) (e : Ending) (w' : World) : Prop := ∃ A c, e = .returned (.tuple #[.slice A s.done.1.length c, .int .i64 s.done.2]) ∧ GRow bc 5 1 w' w.heap.size A c s.done.1 ∧ Below w.heap.size w w'
section
variable {w : World} {F : Nat → Prop} {k : Nat} {s : WS}
set_option maxHeartbeats 4000000 in
set_option maxRecDepth 100000 in
theorem refDone_any (h : WLies TE w F k s) (hbl : s.bs.length ≤ 140737488355328) :
    Calls Try.prog 93 #[.pointer (some ⟨k, 0, none⟩)] w (RefDoneP w s) := by
  have H := Lib.hid h
  obtain ⟨A, c, OA, oc, h1, h2, h3, h4⟩ := h
  obtain ⟨room, bs, op, ft⟩ := s
  simp only at hbl h1 h3 h4
  have e1 : w.cell? ⟨k, 1, none⟩ = some (.slice A bs.length c) := cell_blk h1 1 rfl
  have e2 : w.cell? ⟨k, 2, none⟩ = some (.slice OA op.length oc) := cell_blk h1 2 rfl
  have e3 : w.cell? ⟨k, 3, none⟩ = some (.int .i64 ft) := cell_blk h1 3 rfl
  have H3 := Lib.hid h3
  have HK := Lib.hid h1
  clear h1 h2 h3 h4
  obtain ⟨t0, ht0⟩ := named (ft != 0)
  go_enter Try.func93, Try.ntmps93
  cases t0
  · have hf : ft = 0 := by simpa using ht0
    subst hf
    cases op with
    | cons p ps =>
      simp only [List.length_cons] at e2
      go_wp2_with (fail)
      refine bodyPost_ret (v := .tuple #[.slice none 0 0, .int .i64 12]) (by simp [results, Try.results93, go_sem, *]) rfl ?_
      exact ⟨none, 0, rfl, GRow.nil, Below.refl _ _⟩
    | nil =>
      simp only [List.length_nil] at e2
      have HD := Lib.hid (show (WS.mk room bs [] 0).done = (bs, 0) from rfl)
      obtain ⟨n, hn⟩ : ∃ n, bs.length = n := ⟨_, rfl⟩
      have HN := Lib.hid hn
      rw [hn] at e1 hbl
      clear hn
      go_wp2_with (fail)
      refine wp_loop_ghost_k (fun (m : Nat) (ac : Act) (wr : World) => ∃ u1 u2 u3 u6 u7 u8 u9 u10 u11 u12 u13 u14 u15 u16 u17 u18 u19 u20 u21 u22 u23 u24 u25 u26 u27 u28 u29 u30 u31 u32 u33 u34 u35 u36 u37 u38 u39 u40 u41 u42 v4 v5 : Value, (∃ (j : Nat) (A' : Option Addr) (c' : Nat), m + j = n ∧ v5 = .int .i64 j ∧ v4 = .slice A' j c' ∧ GRow bc 5 1 wr w.heap.size A' c' (bs.take j) ∧ Below w.heap.size w wr) ∧ ac = ({ tmps := #[.pointer (some ⟨k, 0, none⟩), u1, u2, u3, v4, v5, u6, u7, u8, u9, u10, u11, u12, u13, u14, u15, u16, u17, u18, u19, u20, u21, u22, u23, u24, u25, u26, u27, u28, u29, u30, u31, u32, u33, u34, u35, u36, u37, u38, u39, u40, u41, u42], defers := [] } : Act)) (n) ?atStart ?round
      case' atStart => ((repeat apply Exists.intro); refine ⟨?_, rfl⟩)
      case' round => (intro m ac wr hcut; obtain ⟨u1, hcut⟩ := hcut; obtain ⟨u2, hcut⟩ := hcut; obtain ⟨u3, hcut⟩ := hcut; obtain ⟨u6, hcut⟩ := hcut; obtain ⟨u7, hcut⟩ := hcut; obtain ⟨u8, hcut⟩ := hcut; obtain ⟨u9, hcut⟩ := hcut; obtain ⟨u10, hcut⟩ := hcut; obtain ⟨u11, hcut⟩ := hcut; obtain ⟨u12, hcut⟩ := hcut; obtain ⟨u13, hcut⟩ := hcut; obtain ⟨u14, hcut⟩ := hcut; obtain ⟨u15, hcut⟩ := hcut; obtain ⟨u16, hcut⟩ := hcut; obtain ⟨u17, hcut⟩ := hcut; obtain ⟨u18, hcut⟩ := hcut; obtain ⟨u19, hcut⟩ := hcut; obtain ⟨u20, hcut⟩ := hcut; obtain ⟨u21, hcut⟩ := hcut; obtain ⟨u22, hcut⟩ := hcut; obtain ⟨u23, hcut⟩ := hcut; obtain ⟨u24, hcut⟩ := hcut; obtain ⟨u25, hcut⟩ := hcut; obtain ⟨u26, hcut⟩ := hcut; obtain ⟨u27, hcut⟩ := hcut; obtain ⟨u28, hcut⟩ := hcut; obtain ⟨u29, hcut⟩ := hcut; obtain ⟨u30, hcut⟩ := hcut; obtain ⟨u31, hcut⟩ := hcut; obtain ⟨u32, hcut⟩ := hcut; obtain ⟨u33, hcut⟩ := hcut; obtain ⟨u34, hcut⟩ := hcut; obtain ⟨u35, hcut⟩ := hcut; obtain ⟨u36, hcut⟩ := hcut; obtain ⟨u37, hcut⟩ := hcut; obtain ⟨u38, hcut⟩ := hcut; obtain ⟨u39, hcut⟩ := hcut; obtain ⟨u40, hcut⟩ := hcut; obtain ⟨u41, hcut⟩ := hcut; obtain ⟨u42, hcut⟩ := hcut; obtain ⟨v4, hcut⟩ := hcut; obtain ⟨v5, hcut⟩ := hcut; obtain ⟨hcut, hac⟩ := hcut; subst hac; intro _ _ _ _)
      case atStart => exact ⟨0, none, 0, rfl, rfl, rfl, GRow.nil, Below.refl _ _⟩
      case round =>
        obtain ⟨j, A', c', hm, rfl, rfl, G, B⟩ := hcut
        have x1 : wr.cell? ⟨k, 1, none⟩ = some (.slice A n c) := cell_same e1 (B.block k (blk_lt HK.out))
        have HM := Lib.hid hm
        have HG := Lib.hid G
        have HB := Lib.hid B
        by_cases hj : j < n
        · have hlw := HN.out
          obtain ⟨y, hy⟩ : ∃ y, bs[j]? = some y := ⟨_, List.getElem?_eq_getElem (by omega)⟩
          have hne : bs ≠ [] := by rintro rfl; simp at hy
          obtain ⟨g, o, hA, hBA⟩ := BSrc.ofRow H3.out hne
          subst hA
          have hgl : g < w.heap.size := World.block_lt_of_cell? _ _ (hBA j y hy)
          have y0 : wr.cell? ⟨g, o + j, none⟩ = some (.int .u8 y) := cell_same (hBA j y hy) (B.block g hgl)
          have ll : (bs.take j).length = j := by rw [List.length_take]; omega
          obtain ⟨A1, c2, w2, hrun, G2, B2, _⟩ := GRow.push elBy HG.out 23 y HB.out HB.out.size (by rw [ll]; simp only [maxLen]; omega) (by rw [ll]; omega)
          rw [ll] at hrun
          have HRUN := Lib.hid hrun
          have HG2 := Lib.hid G2
          have HB2 := Lib.hid B2
          have HTK := Lib.hid (show bs.take j ++ [y] = bs.take (j + 1) by rw [List.take_add_one, hy]; rfl)
          clear hm hy hne hBA hlw G B hrun G2 B2 ll hgl
          go_wp2_with (refine wpList_app HRUN.out rfl rfl rfl (by rfl) (by rfl) ?_)
          go_roundg (m - 1)
          case measure => have := HM.out; omega
          case rel =>
            refine ⟨j + 1, A1, c2, by have := HM.out; omega, by go_num, rfl, ?_, HB2.out⟩
            rw [← HTK.out]; exact HG2.out
        · have hlw := HN.out
          have hjn : bs.take j = bs := List.take_of_length_le (by omega)
          have HJN := Lib.hid hjn
          have HJ := Lib.hid (show bs.length = j by omega)
          clear hm G B hjn hlw
          go_wp2_with (fail)
          refine bodyPost_ret (v := .tuple #[.slice A' j c', .int .i64 0]) (by simp [results, Try.results93, go_sem, *]) rfl ?_
          unfold RefDoneP
          rw [HD.out]
          have hg := HG.out
          rw [HJN.out] at hg
          exact ⟨A', c', by rw [HJ.out], hg, HB.out⟩
  · have hf : ft ≠ 0 := by simpa using ht0
    have HD := Lib.hid (show (WS.mk room bs op ft).done = ([], ft) by unfold WS.done; rw [if_neg hf])
    go_wp2_with (fail)
    refine start_ (n := 6) (S := fun w' => w'.cell? ⟨k, 3, none⟩ = some (.int .i64 ft)) (ds := []) #[false, false, false, false, false, false] (by kernel_rfl) rfl rfl e3 (fun hHeld => ?_)
    (refine take_ (i := 0) (N := some 13) (v := ?v_37) (a' := ?a_37) #[true, false, false, false, false, false] rfl rfl (by kernel_rfl) (fun _ _ _ h => h) (Or.inl ⟨by rfl, ?hy_37⟩) hHeld ?ha_37 ?hh_37; (case hy_37 => (rintro w' s0_; go_simp; with_reducible rfl)); (case ha_37 => (simp (disch := omega) only [Act.put, List.setIfInBounds_toArray, List.set_cons_zero, List.set_cons_succ, wrap_in]; rfl)))
    (refine take_ (i := 1) (N := some 14) (v := ?v_38) (a' := ?a_38) #[true, true, false, false, false, false] rfl rfl (by kernel_rfl) (fun _ _ _ h => h) (Or.inl ⟨by rfl, ?hy_38⟩) hHeld ?ha_38 ?hh_38; (case hy_38 => (rintro w' s0_; go_simp; with_reducible rfl)); (case ha_38 => (simp (disch := omega) only [Act.put, List.setIfInBounds_toArray, List.set_cons_zero, List.set_cons_succ, wrap_in]; rfl)))
    (refine take_ (i := 2) (N := some 15) (v := ?v_39) (a' := ?a_39) #[true, true, true, false, false, false] rfl rfl (by kernel_rfl) (fun _ _ _ h => h) (Or.inl ⟨by rfl, ?hy_39⟩) hHeld ?ha_39 ?hh_39; (case hy_39 => (rintro w' s0_; go_simp; with_reducible rfl)); (case ha_39 => (simp (disch := omega) only [Act.put, List.setIfInBounds_toArray, List.set_cons_zero, List.set_cons_succ, wrap_in]; rfl)))
    (refine take_ (i := 3) (N := some 16) (v := ?v_40) (a' := ?a_40) #[true, true, true, true, false, false] rfl rfl (by kernel_rfl) (fun _ _ _ h => h) (Or.inl ⟨by rfl, ?hy_40⟩) hHeld ?ha_40 ?hh_40; (case hy_40 => (rintro w' s0_; go_simp; with_reducible rfl)); (case ha_40 => (simp (disch := omega) only [Act.put, List.setIfInBounds_toArray, List.set_cons_zero, List.set_cons_succ, wrap_in]; rfl)))
    (refine take_ (i := 4) (N := some 2) (v := ?v_41) (a' := ?a_41) #[true, true, true, true, true, false] rfl rfl (by kernel_rfl) (fun _ _ _ h => h) (Or.inl ⟨by rfl, ?hy_41⟩) hHeld ?ha_41 ?hh_41; (case hy_41 => (rintro w' s0_; go_simp; with_reducible rfl)); (case ha_41 => (simp (disch := omega) only [Act.put, List.setIfInBounds_toArray, List.set_cons_zero, List.set_cons_succ, wrap_in]; rfl)))
    (refine take_ (i := 5) (N := some 3) (v := ?v_42) (a' := ?a_42) #[true, true, true, true, true, true] rfl rfl (by kernel_rfl) (fun _ _ _ h => h) (Or.inl ⟨by rfl, ?hy_42⟩) hHeld ?ha_42 ?hh_42; (case hy_42 => (rintro w' s0_; go_simp; with_reducible rfl)); (case ha_42 => (simp (disch := omega) only [Act.put, List.setIfInBounds_toArray, List.set_cons_zero, List.set_cons_succ, wrap_in]; rfl)))
    refine done_ (by kernel_rfl) ?_
    go_wp2_with (fail)
    refine bodyPost_ret (v := .tuple #[.slice none 0 0, .int .i64 ft]) (by simp [results, Try.results93, go_sem, *]) rfl ?_
    unfold RefDoneP
    rw [HD.out]
    exact ⟨none, 0, rfl, GRow.nil, (Below.refl _ _).drew⟩
end
end Go.Proofs.Ytibelfljlhcibaa
namespace Go.Proofs.Ytibelfljlhcibaa
set_option linter.unusedVariables false
set_option linter.unusedSimpArgs false
open Go.RowKit Go.Deep Go.Proofs.YtibelfljlhcibaaW.PrintLast

abbrev TQ : TypeId := 101
theorem tq_ne : TQ ≠ 5 ∧ TQ ≠ 3 := by decide
/-- The ends of the frames, the whole's ahead, hold what a reader holds. -/
def EndsOk (p : List Int) (i : Nat) (es : List Nat) (s : RS) : Prop :=
  es.length = s.outer.length + 1 ∧ (∀ x ∈ es, x ≤ p.length) ∧
  (∃ e, es.getLast? = some e ∧ i ≤ e ∧ s.left = (p.take e).drop i) ∧
  ∀ (j : Nat) a b l, es[j]? = some a → es[j + 1]? = some b → s.outer[j]? = some l → b ≤ a ∧ l = (p.take a).drop b
/-- A reader of the reference at block k; its blocks are F's. -/
def RefLies (w : World) (F : Nat → Prop) (k : Nat) (s : RS) : Prop := ∃ (p : List Int) (i : Nat) (es : List Nat) (A : Option Addr) (c : Nat) (EA : Option Addr) (ec : Nat),
  w.heap[k]? = some (.cells #[.slice A p.length c, .int .i64 i, .slice EA es.length ec, .int .i64 s.ft] TQ (0, 0)) ∧ F k ∧
  RowF bc 5 1 w F A c p ∧ RowF encPos 3 1 w F EA ec es ∧ EndsOk p i es s
section
variable {w w' : World} {F G : Nat → Prop} {k : Nat} {s : RS}
theorem RefLies.lt (h : RefLies w F k s) : k < w.heap.size := by obtain ⟨_, _, _, _, _, _, _, h, _⟩ := h; exact blk_lt h
theorem RefLies.in_ (h : RefLies w F k s) : F k := by obtain ⟨_, _, _, _, _, _, _, _, h, _⟩ := h; exact h
theorem RefLies.mono (h : RefLies w F k s) (hF : ∀ x, F x → G x) : RefLies w G k s := by
  obtain ⟨p, i, es, A, c, EA, ec, h1, h2, h3, h4, h5⟩ := h
  exact ⟨p, i, es, A, c, EA, ec, h1, hF k h2, h3.mono hF, h4.mono hF, h5⟩
theorem RefLies.same (h : RefLies w F k s) (hk : ∀ b, F b → b < w.heap.size → w'.heap[b]? = w.heap[b]?) : RefLies w' F k s := by
  have hl := h.lt
  obtain ⟨p, i, es, A, c, EA, ec, h1, h2, h3, h4, h5⟩ := h
  exact ⟨p, i, es, A, c, EA, ec, (hk k h2 hl).trans h1, h2, h3.same hk, h4.same hk, h5⟩
theorem RefLies.below (h : RefLies w F k s) (hb : Below w.heap.size w w') : RefLies w' F k s := h.same fun b _ hl => hb.block b hl
theorem RefLies.drew (h : RefLies w F k s) : RefLies w.drew F k s := h.same fun _ _ _ => rfl
theorem RefLies.fault (h : RefLies w F k s) (e : Int) : RefLies (w.setCell ⟨k, 3, none⟩ (.int .i64 e)) F k { s with ft := e } := by
  obtain ⟨p, i, es, A, c, EA, ec, h1, h2, h3, h4, h5⟩ := h
  exact ⟨p, i, es, A, c, EA, ec, setCell_heap w k 3 _ _ _ _ h1, h2, h3.keeps (KeepT.setCell h1 (Ne.symm tq_ne.1) 3 _), h4.keeps (KeepT.setCell h1 (Ne.symm tq_ne.2) 3 _), h5⟩
theorem EndsOk.left_len {p : List Int} {i : Nat} {es : List Nat} (h : EndsOk p i es s) : ∃ e, es.getLast? = some e ∧ i ≤ e ∧ e ≤ p.length ∧ s.left.length = e - i := by
  obtain ⟨_, h2, ⟨e, h3, h4, h5⟩, _⟩ := h
  have := h2 e (List.mem_of_getLast? h3)
  exact ⟨e, h3, h4, this, by rw [h5, List.length_drop, List.length_take]; omega⟩
set_option maxHeartbeats 400000 in
theorem refRDead_any (h : RefLies w F k s) : Calls Try.prog 115 #[.pointer (some ⟨k, 0, none⟩)] w fun e w' => e = .returned (.bool (s.ft != 0)) ∧ w = w' := by
  obtain ⟨p, i, es, A, c, EA, ec, h1, h2, h3, h4, h5⟩ := h
  have e3 : w.cell? ⟨k, 3, none⟩ = some (.int .i64 s.ft) := cell_blk h1 3 rfl
  clear h1 h2 h3 h4 h5
  generalize s.ft = ft at *
  obtain ⟨t, ht⟩ := named (ft != 0)
  rw [ht]
  go_enter Try.func115, Try.ntmps115
  go_wp2
  all_goals
    go_ret
    first | exact ⟨rfl, rfl⟩ | simp_all
set_option maxHeartbeats 800000 in
theorem refLeft_any (h : RefLies w F k s) : Calls Try.prog 122 #[.pointer (some ⟨k, 0, none⟩)] w fun e w' => e = .returned (.int .i64 (s.left.length : Nat)) ∧ w' = w.drew := by
  obtain ⟨p, i, es, A, c, EA, ec, h1, h2, h3, h4, h5⟩ := h
  have hmax := h3.le
  have hmax' := h3.max
  have hmx := h4.le
  have hmx' := h4.max
  simp only [maxLen] at hmax' hmx'
  obtain ⟨e, g1, g2, g3, g4⟩ := h5.left_len
  obtain ⟨n, hn⟩ : ∃ n, es.length = n := ⟨_, rfl⟩
  have hes : es[n - 1]? = some e := by rw [← hn, ← List.getLast?_eq_getElem?]; exact g1
  have hpos : 0 < n := by rcases es with _ | ⟨_, _⟩; simp at g1; simp at hn; omega
  obtain ⟨g, hg, c0⟩ := h4.cell hes (j := 0) (v := .int .i64 (e : Int)) (by simp [encPos])
  subst hg
  rw [g4]
  rw [hn] at h1 hmx
  have e1 : w.cell? ⟨k, 1, none⟩ = some (.int .i64 i) := cell_blk h1 1 rfl
  have e2 : w.cell? ⟨k, 2, none⟩ = some (.slice (some ⟨g, 0, none⟩) n ec) := cell_blk h1 2 rfl
  obtain ⟨q, rfl⟩ : ∃ q, n = q + 1 := ⟨n - 1, by omega⟩
  have c1 : w.cell? ⟨g, q, none⟩ = some (.int .i64 e) := by simpa using c0
  clear h1 h2 h3 h4 h5 g1 hes c0 hn g4
  have hq : (q : Int) < (q : Int) + 1 := by omega
  go_enter Try.func122, Try.ntmps122
  go_wp2_with (fail)
  refine start_ (n := 18) (S := fun w' => w'.cell? ⟨k, 2, none⟩ = some (.slice (some ⟨g, 0, none⟩) (q + 1) ec) ∧ w'.cell? ⟨g, q, none⟩ = some (.int .i64 e) ∧ w'.cell? ⟨k, 1, none⟩ = some (.int .i64 i)) (ds := []) #[false, false, false, false, false, false, false, false, false, false, false, false, false, false, false, false, false, false] (by kernel_rfl) rfl rfl ⟨e2, c1, e1⟩ (fun hHeld => ?_)
  (refine take_ (i := 0) (N := some 3) (v := ?v_45) (a' := ?a_45) #[true, false, false, false, false, false, false, false, false, false, false, false, false, false, false, false, false, false] rfl rfl (by kernel_rfl) (fun _ _ _ h => h) (Or.inl ⟨by rfl, ?hy_45⟩) hHeld ?ha_45 ?hh_45; (case hy_45 => (rintro w' ⟨s0_, s1_, s2_⟩; go_simp; with_reducible rfl)); (case ha_45 => (simp (disch := omega) only [Act.put, List.setIfInBounds_toArray, List.set_cons_zero, List.set_cons_succ, wrap_in]; rfl)))
  (refine take_ (i := 1) (N := some 4) (v := ?v_46) (a' := ?a_46) #[true, true, false, false, false, false, false, false, false, false, false, false, false, false, false, false, false, false] rfl rfl (by kernel_rfl) (fun _ _ _ h => h) (Or.inl ⟨by rfl, ?hy_46⟩) hHeld ?ha_46 ?hh_46; (case hy_46 => (rintro w' ⟨s0_, s1_, s2_⟩; go_simp; with_reducible rfl)); (case ha_46 => (simp (disch := omega) only [Act.put, List.setIfInBounds_toArray, List.set_cons_zero, List.set_cons_succ, wrap_in]; rfl)))
  (refine take_ (i := 2) (N := some 5) (v := ?v_47) (a' := ?a_47) #[true, true, true, false, false, false, false, false, false, false, false, false, false, false, false, false, false, false] rfl rfl (by kernel_rfl) (fun _ _ _ h => h) (Or.inl ⟨by rfl, ?hy_47⟩) hHeld ?ha_47 ?hh_47; (case hy_47 => (rintro w' ⟨s0_, s1_, s2_⟩; go_simp; with_reducible rfl)); (case ha_47 => (simp (disch := omega) only [Act.put, List.setIfInBounds_toArray, List.set_cons_zero, List.set_cons_succ, wrap_in]; rfl)))
  (refine take_ (i := 3) (N := some 6) (v := ?v_48) (a' := ?a_48) #[true, true, true, true, false, false, false, false, false, false, false, false, false, false, false, false, false, false] rfl rfl (by kernel_rfl) (fun _ _ _ h => h) (Or.inl ⟨by rfl, ?hy_48⟩) hHeld ?ha_48 ?hh_48; (case hy_48 => (rintro w' ⟨s0_, s1_, s2_⟩; go_simp; with_reducible rfl)); (case ha_48 => (simp (disch := omega) only [Act.put, List.setIfInBounds_toArray, List.set_cons_zero, List.set_cons_succ, wrap_in]; rfl)))
  (refine take_ (i := 4) (N := some 7) (v := ?v_49) (a' := ?a_49) #[true, true, true, true, true, false, false, false, false, false, false, false, false, false, false, false, false, false] rfl rfl (by kernel_rfl) (fun _ _ _ h => h) (Or.inl ⟨by rfl, ?hy_49⟩) hHeld ?ha_49 ?hh_49; (case hy_49 => (rintro w' ⟨s0_, s1_, s2_⟩; go_simp; with_reducible rfl)); (case ha_49 => (simp (disch := omega) only [Act.put, List.setIfInBounds_toArray, List.set_cons_zero, List.set_cons_succ, wrap_in]; rfl)))
  (refine take_ (i := 5) (N := some 8) (v := ?v_50) (a' := ?a_50) #[true, true, true, true, true, true, false, false, false, false, false, false, false, false, false, false, false, false] rfl rfl (by kernel_rfl) (fun _ _ _ h => h) (Or.inl ⟨by rfl, ?hy_50⟩) hHeld ?ha_50 ?hh_50; (case hy_50 => (rintro w' ⟨s0_, s1_, s2_⟩; go_simp; with_reducible rfl)); (case ha_50 => (simp (disch := omega) only [Act.put, List.setIfInBounds_toArray, List.set_cons_zero, List.set_cons_succ, wrap_in]; rfl)))
  (refine take_ (i := 6) (N := some 9) (v := ?v_51) (a' := ?a_51) #[true, true, true, true, true, true, true, false, false, false, false, false, false, false, false, false, false, false] rfl rfl (by kernel_rfl) (fun _ _ _ h => h) (Or.inl ⟨by rfl, ?hy_51⟩) hHeld ?ha_51 ?hh_51; (case hy_51 => (rintro w' ⟨s0_, s1_, s2_⟩; go_simp; with_reducible rfl)); (case ha_51 => (simp (disch := omega) only [Act.put, List.setIfInBounds_toArray, List.set_cons_zero, List.set_cons_succ, wrap_in]; rfl)))
  (refine take_ (i := 7) (N := some 10) (v := ?v_52) (a' := ?a_52) #[true, true, true, true, true, true, true, true, false, false, false, false, false, false, false, false, false, false] rfl rfl (by kernel_rfl) (fun _ _ _ h => h) (Or.inl ⟨by rfl, ?hy_52⟩) hHeld ?ha_52 ?hh_52; (case hy_52 => (rintro w' ⟨s0_, s1_, s2_⟩; go_simp; with_reducible rfl)); (case ha_52 => (simp (disch := omega) only [Act.put, List.setIfInBounds_toArray, List.set_cons_zero, List.set_cons_succ, wrap_in]; rfl)))
  (refine take_ (i := 8) (N := some 11) (v := ?v_53) (a' := ?a_53) #[true, true, true, true, true, true, true, true, true, false, false, false, false, false, false, false, false, false] rfl rfl (by kernel_rfl) (fun _ _ _ h => h) (Or.inl ⟨by rfl, ?hy_53⟩) hHeld ?ha_53 ?hh_53; (case hy_53 => (rintro w' ⟨s0_, s1_, s2_⟩; go_simp; with_reducible rfl)); (case ha_53 => (simp (disch := omega) only [Act.put, List.setIfInBounds_toArray, List.set_cons_zero, List.set_cons_succ, wrap_in]; rfl)))
  (refine take_ (i := 9) (N := some 12) (v := ?v_54) (a' := ?a_54) #[true, true, true, true, true, true, true, true, true, true, false, false, false, false, false, false, false, false] rfl rfl (by kernel_rfl) (fun _ _ _ h => h) (Or.inl ⟨by rfl, ?hy_54⟩) hHeld ?ha_54 ?hh_54; (case hy_54 => (rintro w' ⟨s0_, s1_, s2_⟩; go_simp; with_reducible rfl)); (case ha_54 => (simp (disch := omega) only [Act.put, List.setIfInBounds_toArray, List.set_cons_zero, List.set_cons_succ, wrap_in]; rfl)))
  (refine take_ (i := 10) (N := some 13) (v := ?v_55) (a' := ?a_55) #[true, true, true, true, true, true, true, true, true, true, true, false, false, false, false, false, false, false] rfl rfl (by kernel_rfl) (fun _ _ _ h => h) (Or.inl ⟨by rfl, ?hy_55⟩) hHeld ?ha_55 ?hh_55; (case hy_55 => (rintro w' ⟨s0_, s1_, s2_⟩; go_simp; with_reducible rfl)); (case ha_55 => (simp (disch := omega) only [Act.put, List.setIfInBounds_toArray, List.set_cons_zero, List.set_cons_succ, wrap_in]; rfl)))
  (refine take_ (i := 11) (N := some 14) (v := ?v_56) (a' := ?a_56) #[true, true, true, true, true, true, true, true, true, true, true, true, false, false, false, false, false, false] rfl rfl (by kernel_rfl) (fun _ _ _ h => h) (Or.inl ⟨by rfl, ?hy_56⟩) hHeld ?ha_56 ?hh_56; (case hy_56 => (rintro w' ⟨s0_, s1_, s2_⟩; go_simp; with_reducible rfl)); (case ha_56 => (simp (disch := omega) only [Act.put, List.setIfInBounds_toArray, List.set_cons_zero, List.set_cons_succ, wrap_in]; rfl)))
  (refine take_ (i := 12) (N := some 15) (v := ?v_57) (a' := ?a_57) #[true, true, true, true, true, true, true, true, true, true, true, true, true, false, false, false, false, false] rfl rfl (by kernel_rfl) (fun _ _ _ h => h) (Or.inl ⟨by rfl, ?hy_57⟩) hHeld ?ha_57 ?hh_57; (case hy_57 => (rintro w' ⟨s0_, s1_, s2_⟩; go_simp; with_reducible rfl)); (case ha_57 => (simp (disch := omega) only [Act.put, List.setIfInBounds_toArray, List.set_cons_zero, List.set_cons_succ, wrap_in]; rfl)))
  (refine take_ (i := 13) (N := some 16) (v := ?v_58) (a' := ?a_58) #[true, true, true, true, true, true, true, true, true, true, true, true, true, true, false, false, false, false] rfl rfl (by kernel_rfl) (fun _ _ _ h => h) (Or.inl ⟨by rfl, ?hy_58⟩) hHeld ?ha_58 ?hh_58; (case hy_58 => (rintro w' ⟨s0_, s1_, s2_⟩; go_simp; with_reducible rfl)); (case ha_58 => (simp (disch := omega) only [Act.put, List.setIfInBounds_toArray, List.set_cons_zero, List.set_cons_succ, wrap_in]; rfl)))
  (refine take_ (i := 14) (N := some 17) (v := ?v_59) (a' := ?a_59) #[true, true, true, true, true, true, true, true, true, true, true, true, true, true, true, false, false, false] rfl rfl (by kernel_rfl) (fun _ _ _ h => h) (Or.inl ⟨by rfl, ?hy_59⟩) hHeld ?ha_59 ?hh_59; (case hy_59 => (rintro w' ⟨s0_, s1_, s2_⟩; go_simp; with_reducible rfl)); (case ha_59 => (simp (disch := omega) only [Act.put, List.setIfInBounds_toArray, List.set_cons_zero, List.set_cons_succ, wrap_in]; rfl)))
  (refine take_ (i := 15) (N := some 18) (v := ?v_60) (a' := ?a_60) #[true, true, true, true, true, true, true, true, true, true, true, true, true, true, true, true, false, false] rfl rfl (by kernel_rfl) (fun _ _ _ h => h) (Or.inl ⟨by rfl, ?hy_60⟩) hHeld ?ha_60 ?hh_60; (case hy_60 => (rintro w' ⟨s0_, s1_, s2_⟩; go_simp; with_reducible rfl)); (case ha_60 => (simp (disch := omega) only [Act.put, List.setIfInBounds_toArray, List.set_cons_zero, List.set_cons_succ, wrap_in]; rfl)))
  (refine take_ (i := 16) (N := some 19) (v := ?v_61) (a' := ?a_61) #[true, true, true, true, true, true, true, true, true, true, true, true, true, true, true, true, true, false] rfl rfl (by kernel_rfl) (fun _ _ _ h => h) (Or.inl ⟨by rfl, ?hy_61⟩) hHeld ?ha_61 ?hh_61; (case hy_61 => (rintro w' ⟨s0_, s1_, s2_⟩; go_simp; with_reducible rfl)); (case ha_61 => (simp (disch := omega) only [Act.put, List.setIfInBounds_toArray, List.set_cons_zero, List.set_cons_succ, wrap_in]; rfl)))
  (refine take_ (i := 17) (N := some 2) (v := ?v_62) (a' := ?a_62) #[true, true, true, true, true, true, true, true, true, true, true, true, true, true, true, true, true, true] rfl rfl (by kernel_rfl) (fun _ _ _ h => h) (Or.inl ⟨by rfl, ?hy_62⟩) hHeld ?ha_62 ?hh_62; (case hy_62 => (rintro w' ⟨s0_, s1_, s2_⟩; go_simp; with_reducible rfl)); (case ha_62 => (simp (disch := omega) only [Act.put, List.setIfInBounds_toArray, List.set_cons_zero, List.set_cons_succ, wrap_in]; rfl)))
  refine done_ (by kernel_rfl) ?_
  go_wp2_with (fail)
  go_ret
  exact ⟨by rw [show ((e - i : Nat) : Int) = (e : Int) - i by omega]; rfl, rfl⟩
end
end Go.Proofs.Ytibelfljlhcibaa
namespace Go.Proofs.Ytibelfljlhcibaa
set_option linter.unusedVariables false
set_option linter.unusedSimpArgs false
open Go.RowKit Go.Deep Go.Proofs.YtibelfljlhcibaaW.PrintLast

section
variable {w w' : World} {F G : Nat → Prop} {k : Nat} {s : RS}
set_option maxHeartbeats 1000000 in
theorem refRDone_any (h : RefLies w F k s) : Calls Try.prog 81 #[.pointer (some ⟨k, 0, none⟩)] w fun e w' => e = .returned (.int .i64 s.done) ∧ Below w.heap.size w w' := by
  have LF := Lib.hid (refLeft_any h)
  obtain ⟨p, i, es, A, c, EA, ec, h1, h2, h3, h4, h5⟩ := h
  have e3 : w.cell? ⟨k, 3, none⟩ = some (.int .i64 s.ft) := cell_blk h1 3 rfl
  have e2 : w.drew.cell? ⟨k, 2, none⟩ = some (.slice EA es.length ec) := cell_blk (show w.drew.heap[k]? = _ from h1) 2 rfl
  have hlen := h5.1
  clear h1 h2 h3 h4 h5
  obtain ⟨t0, ht0⟩ := named (s.ft != 0)
  go_enter Try.func81, Try.ntmps81
  cases t0
  · have hf : s.ft = 0 := by simpa using ht0
    rw [hf] at e3
    go_wp2_with (go_at_call 122; refine LF.out.mono ?_; rintro e w_ ⟨rfl, rfl⟩)
    · have ho : ¬ (s.left = [] ∧ s.outer = []) := fun hh => by simp_all
      have HD : s.done = 12 := by unfold RS.done; rw [if_pos hf, if_neg ho]
      go_ret
      exact ⟨by rw [HD]; rfl, (Below.refl _ _).drew⟩
    · have ho : s.left = [] ∧ s.outer = [] := ⟨by assumption, List.eq_nil_of_length_eq_zero (by omega)⟩
      have HD : s.done = 0 := by unfold RS.done; rw [if_pos hf, if_pos ho]
      go_ret
      exact ⟨by rw [HD]; rfl, (Below.refl _ _).drew⟩
    · have ho : ¬ (s.left = [] ∧ s.outer = []) := fun hh => by simp_all
      have HD : s.done = 12 := by unfold RS.done; rw [if_pos hf, if_neg ho]
      go_ret
      exact ⟨by rw [HD]; rfl, (Below.refl _ _).drew⟩
    · exfalso
      have : s.left ≠ [] := by assumption
      have := List.length_pos_iff.2 this
      omega
  · have hf : ¬ s.ft = 0 := by simpa using ht0
    generalize hs : s.ft = ft at *
    have HD := Lib.hid (show s.done = ft by unfold RS.done; rw [if_neg (by rw [hs]; exact hf), hs])
    go_wp2_with (fail)
    go_ret
    exact ⟨by rw [HD.out]; rfl, Below.refl _ _⟩
end
end Go.Proofs.Ytibelfljlhcibaa
