/- The reference's writer: Done. -/
import Derived.Test.YtjmmdpnphafdfaaPE4
namespace Go.Proofs.Ytjmmdpnphafdfaa
set_option linter.unusedVariables false
set_option linter.unusedSimpArgs false
open Go.RowKit Go.Deep Go.Proofs.YtjmmdpnphafdfaaW.PrintLast

/-- What Done hands back. -/
def RefDoneP (w : World) (s : WS) (e : Ending) (w' : World) : Prop := ∃ A c, e = .returned (.tuple #[.slice A s.done.1.length c, .int .i64 s.done.2]) ∧ GRow bc 5 1 w' w.heap.size A c s.done.1 ∧ Below w.heap.size w w'
section
variable {w : World} {F : Nat → Prop} {k : Nat} {s : WS}
set_option maxHeartbeats 4000000 in
set_option maxRecDepth 100000 in
theorem refDone_any (h : WLies TE w F k s) (hbl : s.bs.length ≤ 140737488355328) :
    Calls Try.prog 52 #[.pointer (some ⟨k, 0, none⟩)] w (RefDoneP w s) := by
  have H := Lib.hid h
  obtain ⟨A, c, OA, oc, h1, h2, h3, h4⟩ := h
  obtain ⟨room, bs, op, ft⟩ := s
  simp only at hbl h1 h3 h4
  have e1 : w.cell? ⟨k, 1, none⟩ = some (.slice A bs.length c) := cell_blk h1 1 rfl
  have e2 : w.cell? ⟨k, 2, none⟩ = some (.slice OA op.length oc) := cell_blk h1 2 rfl
  have e3 : w.cell? ⟨k, 3, none⟩ = some (.int .i64 ft) := cell_blk h1 3 rfl
  have H3 := Lib.hid h3
  have HK := Lib.hid h1
  clear h1 h2 h3 h4
  obtain ⟨t0, ht0⟩ := named (ft != 0)
  go_enter Try.func52, Try.ntmps52
  cases t0
  · have hf : ft = 0 := by simpa using ht0
    subst hf
    cases op with
    | cons p ps =>
      simp only [List.length_cons] at e2
      go_wp2_with (fail)
      refine bodyPost_ret (v := .tuple #[.slice none 0 0, .int .i64 12]) (by simp [results, Try.results52, go_sem, *]) rfl ?_
      exact ⟨none, 0, rfl, GRow.nil, Below.refl _ _⟩
    | nil =>
      simp only [List.length_nil] at e2
      have HD := Lib.hid (show (WS.mk room bs [] 0).done = (bs, 0) from rfl)
      obtain ⟨n, hn⟩ : ∃ n, bs.length = n := ⟨_, rfl⟩
      have HN := Lib.hid hn
      rw [hn] at e1 hbl
      clear hn
      go_wp2_with (fail)
      refine wp_loop_ghost_k (fun (m : Nat) (ac : Act) (wr : World) => ∃ u1 u2 u3 u6 u7 u8 u9 u10 u11 u12 u13 u14 u15 u16 u17 u18 u19 u20 u21 u22 u23 u24 u25 u26 u27 u28 u29 u30 u31 u32 u33 u34 u35 u36 u37 u38 u39 u40 u41 u42 v4 v5 : Value, (∃ (j : Nat) (A' : Option Addr) (c' : Nat), m + j = n ∧ v5 = .int .i64 j ∧ v4 = .slice A' j c' ∧ GRow bc 5 1 wr w.heap.size A' c' (bs.take j) ∧ Below w.heap.size w wr) ∧ ac = ({ tmps := #[.pointer (some ⟨k, 0, none⟩), u1, u2, u3, v4, v5, u6, u7, u8, u9, u10, u11, u12, u13, u14, u15, u16, u17, u18, u19, u20, u21, u22, u23, u24, u25, u26, u27, u28, u29, u30, u31, u32, u33, u34, u35, u36, u37, u38, u39, u40, u41, u42], defers := [] } : Act)) (n) ?atStart ?round
      case' atStart => ((repeat apply Exists.intro); refine ⟨?_, rfl⟩)
      case' round => (intro m ac wr hcut; obtain ⟨u1, hcut⟩ := hcut; obtain ⟨u2, hcut⟩ := hcut; obtain ⟨u3, hcut⟩ := hcut; obtain ⟨u6, hcut⟩ := hcut; obtain ⟨u7, hcut⟩ := hcut; obtain ⟨u8, hcut⟩ := hcut; obtain ⟨u9, hcut⟩ := hcut; obtain ⟨u10, hcut⟩ := hcut; obtain ⟨u11, hcut⟩ := hcut; obtain ⟨u12, hcut⟩ := hcut; obtain ⟨u13, hcut⟩ := hcut; obtain ⟨u14, hcut⟩ := hcut; obtain ⟨u15, hcut⟩ := hcut; obtain ⟨u16, hcut⟩ := hcut; obtain ⟨u17, hcut⟩ := hcut; obtain ⟨u18, hcut⟩ := hcut; obtain ⟨u19, hcut⟩ := hcut; obtain ⟨u20, hcut⟩ := hcut; obtain ⟨u21, hcut⟩ := hcut; obtain ⟨u22, hcut⟩ := hcut; obtain ⟨u23, hcut⟩ := hcut; obtain ⟨u24, hcut⟩ := hcut; obtain ⟨u25, hcut⟩ := hcut; obtain ⟨u26, hcut⟩ := hcut; obtain ⟨u27, hcut⟩ := hcut; obtain ⟨u28, hcut⟩ := hcut; obtain ⟨u29, hcut⟩ := hcut; obtain ⟨u30, hcut⟩ := hcut; obtain ⟨u31, hcut⟩ := hcut; obtain ⟨u32, hcut⟩ := hcut; obtain ⟨u33, hcut⟩ := hcut; obtain ⟨u34, hcut⟩ := hcut; obtain ⟨u35, hcut⟩ := hcut; obtain ⟨u36, hcut⟩ := hcut; obtain ⟨u37, hcut⟩ := hcut; obtain ⟨u38, hcut⟩ := hcut; obtain ⟨u39, hcut⟩ := hcut; obtain ⟨u40, hcut⟩ := hcut; obtain ⟨u41, hcut⟩ := hcut; obtain ⟨u42, hcut⟩ := hcut; obtain ⟨v4, hcut⟩ := hcut; obtain ⟨v5, hcut⟩ := hcut; obtain ⟨hcut, hac⟩ := hcut; subst hac; intro _ _ _ _)
      case atStart => exact ⟨0, none, 0, rfl, rfl, rfl, GRow.nil, Below.refl _ _⟩
      case round =>
        obtain ⟨j, A', c', hm, rfl, rfl, G, B⟩ := hcut
        have x1 : wr.cell? ⟨k, 1, none⟩ = some (.slice A n c) := cell_same e1 (B.block k (blk_lt HK.out))
        have HM := Lib.hid hm
        have HG := Lib.hid G
        have HB := Lib.hid B
        by_cases hj : j < n
        · have hlw := HN.out
          obtain ⟨y, hy⟩ : ∃ y, bs[j]? = some y := ⟨_, List.getElem?_eq_getElem (by omega)⟩
          have hne : bs ≠ [] := by rintro rfl; simp at hy
          obtain ⟨g, o, hA, hBA⟩ := BSrc.ofRow H3.out hne
          subst hA
          have hgl : g < w.heap.size := World.block_lt_of_cell? _ _ (hBA j y hy)
          have y0 : wr.cell? ⟨g, o + j, none⟩ = some (.int .u8 y) := cell_same (hBA j y hy) (B.block g hgl)
          have ll : (bs.take j).length = j := by rw [List.length_take]; omega
          obtain ⟨A1, c2, w2, hrun, G2, B2, _⟩ := GRow.push elBy HG.out 22 y HB.out HB.out.size (by rw [ll]; simp only [maxLen]; omega) (by rw [ll]; omega)
          rw [ll] at hrun
          have HRUN := Lib.hid hrun
          have HG2 := Lib.hid G2
          have HB2 := Lib.hid B2
          have HTK := Lib.hid (show bs.take j ++ [y] = bs.take (j + 1) by rw [List.take_add_one, hy]; rfl)
          clear hm hy hne hBA hlw G B hrun G2 B2 ll hgl
          go_wp2_with (refine wpList_app HRUN.out rfl rfl rfl (by rfl) (by rfl) ?_)
          go_roundg (m - 1)
          case measure => have := HM.out; omega
          case rel =>
            refine ⟨j + 1, A1, c2, by have := HM.out; omega, by go_num, rfl, ?_, HB2.out⟩
            rw [← HTK.out]; exact HG2.out
        · have hlw := HN.out
          have hjn : bs.take j = bs := List.take_of_length_le (by omega)
          have HJN := Lib.hid hjn
          have HJ := Lib.hid (show bs.length = j by omega)
          clear hm G B hjn hlw
          go_wp2_with (fail)
          refine bodyPost_ret (v := .tuple #[.slice A' j c', .int .i64 0]) (by simp [results, Try.results52, go_sem, *]) rfl ?_
          unfold RefDoneP
          rw [HD.out]
          have hg := HG.out
          rw [HJN.out] at hg
          exact ⟨A', c', by rw [HJ.out], hg, HB.out⟩
  · have hf : ft ≠ 0 := by simpa using ht0
    have HD := Lib.hid (show (WS.mk room bs op ft).done = ([], ft) by unfold WS.done; rw [if_neg hf])
    go_wp2_with (fail)
    refine start_ (n := 6) (S := fun w' => w'.cell? ⟨k, 3, none⟩ = some (.int .i64 ft)) (ds := []) #[false, false, false, false, false, false] (by kernel_rfl) rfl rfl e3 (fun hHeld => ?_)
    (refine take_ (i := 0) (N := some 13) (v := ?v_2) (a' := ?a_2) #[true, false, false, false, false, false] rfl rfl (by kernel_rfl) (fun _ _ _ h => h) (Or.inl ⟨by rfl, ?hy_2⟩) hHeld ?ha_2 ?hh_2; (case hy_2 => (rintro w' s0_; go_simp; with_reducible rfl)); (case ha_2 => (simp (disch := omega) only [Act.put, List.setIfInBounds_toArray, List.set_cons_zero, List.set_cons_succ, wrap_in]; rfl)))
    (refine take_ (i := 1) (N := some 14) (v := ?v_3) (a' := ?a_3) #[true, true, false, false, false, false] rfl rfl (by kernel_rfl) (fun _ _ _ h => h) (Or.inl ⟨by rfl, ?hy_3⟩) hHeld ?ha_3 ?hh_3; (case hy_3 => (rintro w' s0_; go_simp; with_reducible rfl)); (case ha_3 => (simp (disch := omega) only [Act.put, List.setIfInBounds_toArray, List.set_cons_zero, List.set_cons_succ, wrap_in]; rfl)))
    (refine take_ (i := 2) (N := some 15) (v := ?v_4) (a' := ?a_4) #[true, true, true, false, false, false] rfl rfl (by kernel_rfl) (fun _ _ _ h => h) (Or.inl ⟨by rfl, ?hy_4⟩) hHeld ?ha_4 ?hh_4; (case hy_4 => (rintro w' s0_; go_simp; with_reducible rfl)); (case ha_4 => (simp (disch := omega) only [Act.put, List.setIfInBounds_toArray, List.set_cons_zero, List.set_cons_succ, wrap_in]; rfl)))
    (refine take_ (i := 3) (N := some 16) (v := ?v_5) (a' := ?a_5) #[true, true, true, true, false, false] rfl rfl (by kernel_rfl) (fun _ _ _ h => h) (Or.inl ⟨by rfl, ?hy_5⟩) hHeld ?ha_5 ?hh_5; (case hy_5 => (rintro w' s0_; go_simp; with_reducible rfl)); (case ha_5 => (simp (disch := omega) only [Act.put, List.setIfInBounds_toArray, List.set_cons_zero, List.set_cons_succ, wrap_in]; rfl)))
    (refine take_ (i := 4) (N := some 2) (v := ?v_6) (a' := ?a_6) #[true, true, true, true, true, false] rfl rfl (by kernel_rfl) (fun _ _ _ h => h) (Or.inl ⟨by rfl, ?hy_6⟩) hHeld ?ha_6 ?hh_6; (case hy_6 => (rintro w' s0_; go_simp; with_reducible rfl)); (case ha_6 => (simp (disch := omega) only [Act.put, List.setIfInBounds_toArray, List.set_cons_zero, List.set_cons_succ, wrap_in]; rfl)))
    (refine take_ (i := 5) (N := some 3) (v := ?v_7) (a' := ?a_7) #[true, true, true, true, true, true] rfl rfl (by kernel_rfl) (fun _ _ _ h => h) (Or.inl ⟨by rfl, ?hy_7⟩) hHeld ?ha_7 ?hh_7; (case hy_7 => (rintro w' s0_; go_simp; with_reducible rfl)); (case ha_7 => (simp (disch := omega) only [Act.put, List.setIfInBounds_toArray, List.set_cons_zero, List.set_cons_succ, wrap_in]; rfl)))
    refine done_ (by kernel_rfl) ?_
    go_wp2_with (fail)
    refine bodyPost_ret (v := .tuple #[.slice none 0 0, .int .i64 ft]) (by simp [results, Try.results52, go_sem, *]) rfl ?_
    unfold RefDoneP
    rw [HD.out]
    exact ⟨none, 0, rfl, GRow.nil, (Below.refl _ _).drew⟩
end
end Go.Proofs.Ytjmmdpnphafdfaa
