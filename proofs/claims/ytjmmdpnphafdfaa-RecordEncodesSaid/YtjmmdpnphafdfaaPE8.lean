/- The reference's reader: Read (New). -/
import Derived.Test.YtjmmdpnphafdfaaPE7
namespace Go.Proofs.Ytjmmdpnphafdfaa
set_option linter.unusedVariables false
set_option linter.unusedSimpArgs false
open Go.RowKit Go.Deep Go.Proofs.YtjmmdpnphafdfaaW.PrintLast

def ReadI (w : World) (n : Nat) (p : List Int) (wr : World) (j : Nat) : Prop := Below w.heap.size w wr ∧ ∃ A c, wr.heap[w.heap.size + 1]? = some (.cells #[.slice A j c, .int .i64 0, .slice (some ⟨w.heap.size, 0, none⟩) 1 1, .int .i64 0] TQ (0, 0)) ∧
  RowF bc 5 1 wr (fun b => w.heap.size ≤ b ∧ b < wr.heap.size) A c (p.take j) ∧ wr.heap[w.heap.size]? = some (.cells #[.int .i64 n] 3 (0, 0))
theorem read_push {w wr : World} {n j : Nat} {p : List Int} (R : ReadI w n p wr j) {y : Int} (hy : p[j]? = some y) (h63 : p.length ≤ 140737488355328) :
    ∃ A c A' c' w2, wr.cell? ⟨w.heap.size + 1, 0, none⟩ = some (.slice A j c) ∧
      (Builtin.append_ #[22, 22] 22 #[.slice A j c, .slice (some ⟨wr.drew.heap.size, 0, none⟩) 1 1]).run Try.prog (wr.drew.alloc (.cells #[.int .u8 y] 5)) = .ok (.slice A' (j + 1) c') w2 ∧
      w2.cell? ⟨w.heap.size + 1, 0, none⟩ = some (.slice A j c) ∧ w2.frozen? ⟨w.heap.size + 1, 0, none⟩ = false ∧
      (∀ g, g < w.heap.size → w2.heap[g]? = wr.heap[g]?) ∧
      ReadI w n p (w2.setCell ⟨w.heap.size + 1, 0, none⟩ (.slice A' (j + 1) c')) (j + 1) := by
  obtain ⟨B, A, c, h1, h3, h5⟩ := R
  have hjl : j < p.length := by
    rcases Nat.lt_or_ge j p.length with h | h
    · exact h
    · rw [List.getElem?_eq_none h] at hy; cases hy
  have ll : (p.take j).length = j := by rw [List.length_take]; omega
  have hb : BsAt (wr.drew.alloc (.cells #[.int .u8 y] 5)) wr.drew.heap.size 0 [y] := by
    intro i x hx
    rcases i with _ | i
    · simp at hx; subst hx
      exact cell_blk (blk_new wr.drew _) 0 rfl
    · simp at hx
  obtain ⟨A', c', w2, hrun, R2, F2, K2⟩ := RowF.append (ys := [y]) elBy ((h3.keeps (KeepT.drew _ wr)).keeps (KeepT.alloc _ wr.drew (.cells #[.int .u8 y] 5))) 22 (some ⟨wr.drew.heap.size, 0, none⟩) 1
    (BSrc.src (BSrc.ofAt hb)) (by simp only [maxLen, List.length_singleton, ll]; omega) (by simp only [List.length_singleton, ll]; omega)
  rw [ll] at hrun
  simp only [List.length_singleton] at hrun
  have hk2 := K2 TQ tq_ne.1 _ _ (blk_alloc (show wr.drew.heap[w.heap.size + 1]? = _ from h1) (.cells #[.int .u8 y] 5))
  have he2 := K2 3 (by decide) _ _ (blk_alloc (show wr.drew.heap[w.heap.size]? = _ from h5) (.cells #[.int .u8 y] 5))
  have hS := setCell_heap w2 (w.heap.size + 1) 0 (.slice A' (j + 1) c') _ _ _ hk2
  have K1 : KeepT 5 w2 (w2.setCell ⟨w.heap.size + 1, 0, none⟩ (.slice A' (j + 1) c')) := KeepT.setCell hk2 (Ne.symm tq_ne.1) 0 _
  have K3 : KeepT 3 w2 (w2.setCell ⟨w.heap.size + 1, 0, none⟩ (.slice A' (j + 1) c')) := KeepT.setCell hk2 (Ne.symm tq_ne.2) 0 _
  have FA : Fr (fun b => w.heap.size ≤ b) wr w2 := (((Fr.drew _ wr).trans (Fr.alloc (fun b => w.heap.size ≤ b) _ _) fun _ _ h => h).trans F2 fun _ _ h => h.1)
  have FB : Fr (fun b => w.heap.size ≤ b) wr (w2.setCell ⟨w.heap.size + 1, 0, none⟩ (.slice A' (j + 1) c')) := FA.trans (Fr.set (F := fun b => w.heap.size ≤ b) _ (show w.heap.size ≤ w.heap.size + 1 by omega) _) fun _ _ h => h
  refine ⟨A, c, A', c', w2, cell_blk h1 0 rfl, hrun, cell_blk hk2 0 rfl, free_blk hk2 0, fun g hg => FA.block g (Nat.lt_of_lt_of_le hg B.size) (by omega), B.trans (FB.toBelow (fun _ h => h) B.size), A', c', by simpa using hS, ?_, K3 _ _ he2⟩
  have ht : p.take j ++ [y] = p.take (j + 1) := by rw [List.take_add_one, hy]; rfl
  rw [ht] at R2
  refine (R2.keeps K1).mono fun x hx => ?_
  rw [setCell_size]
  rcases hx with hx | hx
  · exact ⟨hx.1, by have := hx.2; have := FA.size; omega⟩
  · have := B.size
    simp at hx
    exact ⟨by omega, hx.2⟩
section
set_option maxHeartbeats 4000000 in
set_option maxRecDepth 100000 in
theorem refRead_any (w : World) {B : Option Addr} {cc : Nat} {p : List Int} (hy : BSrc w B p) (h63 : p.length ≤ 140737488355328) :
    Calls Try.prog 27 #[.slice B p.length cc] w fun e w' => ∃ k, e = .returned (.pointer (some ⟨k, 0, none⟩)) ∧ RefLies w' (fun b => w.heap.size ≤ b ∧ b < w'.heap.size) k ⟨p, [], 0⟩ ∧ Below w.heap.size w w' := by
  have HY := Lib.hid hy
  obtain ⟨n, hn⟩ : ∃ n, p.length = n := ⟨_, rfl⟩
  have HN := Lib.hid hn
  rw [hn] at h63 ⊢
  clear hy hn
  go_enter Try.func27, Try.ntmps27
  go_wp2_with (fail)
  refine wp_loop_ghost_k (fun (m : Nat) (ac : Act) (wr : World) => ∃ u1 u2 u5 u6 u7 u8 u9 u10 u11 u12 u13 u14 u15 u16 u17 u18 u19 u20 u21 u22 u23 u24 u25 u26 u27 u28 u29 v4 : Value, (∃ j : Nat, m + j = n ∧ v4 = .int .i64 j ∧ ReadI w n p wr j) ∧ ac = ({ tmps := #[.slice B n cc, u1, u2, .pointer (some ⟨w.heap.size + 1, 0, none⟩), v4, u5, u6, u7, u8, u9, u10, u11, u12, u13, u14, u15, u16, u17, u18, u19, u20, u21, u22, u23, u24, u25, u26, u27, u28, u29], defers := [] } : Act)) (n) ?atStart ?round
  case' atStart => ((repeat apply Exists.intro); refine ⟨?_, rfl⟩)
  case' round => (intro m ac wr hcut; obtain ⟨u1, hcut⟩ := hcut; obtain ⟨u2, hcut⟩ := hcut; obtain ⟨u5, hcut⟩ := hcut; obtain ⟨u6, hcut⟩ := hcut; obtain ⟨u7, hcut⟩ := hcut; obtain ⟨u8, hcut⟩ := hcut; obtain ⟨u9, hcut⟩ := hcut; obtain ⟨u10, hcut⟩ := hcut; obtain ⟨u11, hcut⟩ := hcut; obtain ⟨u12, hcut⟩ := hcut; obtain ⟨u13, hcut⟩ := hcut; obtain ⟨u14, hcut⟩ := hcut; obtain ⟨u15, hcut⟩ := hcut; obtain ⟨u16, hcut⟩ := hcut; obtain ⟨u17, hcut⟩ := hcut; obtain ⟨u18, hcut⟩ := hcut; obtain ⟨u19, hcut⟩ := hcut; obtain ⟨u20, hcut⟩ := hcut; obtain ⟨u21, hcut⟩ := hcut; obtain ⟨u22, hcut⟩ := hcut; obtain ⟨u23, hcut⟩ := hcut; obtain ⟨u24, hcut⟩ := hcut; obtain ⟨u25, hcut⟩ := hcut; obtain ⟨u26, hcut⟩ := hcut; obtain ⟨u27, hcut⟩ := hcut; obtain ⟨u28, hcut⟩ := hcut; obtain ⟨u29, hcut⟩ := hcut; obtain ⟨v4, hcut⟩ := hcut; obtain ⟨hcut, hac⟩ := hcut; subst hac; intro _ _ _ _)
  case atStart =>
    refine ⟨0, rfl, rfl, ((Below.refl _ _).alloc (Nat.le_refl _) _).alloc (by simp) _, none, 0, ?_, RowF.nil, ?_⟩
    · have := blk_new (w.alloc (.cells #[.int .i64 (n : Int)] 3)) (.cells #[.slice none 0 0, .int .i64 0, .slice (some ⟨w.heap.size, 0, none⟩) 1 1, .int .i64 0] TQ)
      simpa using this
    · exact blk_alloc (blk_new w (.cells #[.int .i64 (n : Int)] 3)) _
  case round =>
    obtain ⟨j, hm, rfl, R⟩ := hcut
    have HM := Lib.hid hm
    have HR := Lib.hid R
    by_cases hj : j < n
    · have hlw := HN.out
      obtain ⟨y, hy⟩ : ∃ y, p[j]? = some y := ⟨_, List.getElem?_eq_getElem (by omega)⟩
      have hne : p ≠ [] := by rintro rfl; simp at hy
      obtain ⟨g, o, hBg, hBA⟩ := HY.out hne
      subst hBg
      have hgl : g < w.heap.size := World.block_lt_of_cell? _ _ (hBA j y hy)
      have y0 : wr.cell? ⟨g, o + j, none⟩ = some (.int .u8 y) := cell_same (hBA j y hy) (R.1.block g hgl)
      obtain ⟨A, c, A', c', w2, x1, hrun, X1, xf, hsame, R2⟩ := read_push R hy (by omega)
      have Y1 : w2.cell? ⟨g, o + j, none⟩ = some (.int .u8 y) := cell_same y0 (hsame g hgl)
      have HRUN := Lib.hid hrun
      have HX := Lib.hid (And.intro X1 Y1)
      have HR2 := Lib.hid R2
      clear hm hy hne hBA hlw R hrun X1 Y1 hsame R2
      go_wp2_with (fail)
      refine start_ (n := 14) (S := fun w' => w'.cell? ⟨w.heap.size + 1, 0, none⟩ = some (.slice A j c) ∧ w'.cell? ⟨g, o + j, none⟩ = some (.int .u8 y)) (ds := [13]) #[false, false, false, false, false, false, false, false, false, false, false, false, false, false] (by kernel_rfl) rfl rfl ⟨x1, y0⟩ (fun hHeld => ?_)
      (refine take_ (i := 0) (N := some 16) (v := ?v_12) (a' := ?a_12) #[true, false, false, false, false, false, false, false, false, false, false, false, false, false] rfl rfl (by kernel_rfl) (fun _ _ _ h => h) (Or.inl ⟨by rfl, ?hy_12⟩) hHeld ?ha_12 ?hh_12; (case hy_12 => (rintro w' ⟨s0_, s1_⟩; go_simp; with_reducible rfl)); (case ha_12 => (simp (disch := omega) only [Act.put, List.setIfInBounds_toArray, List.set_cons_zero, List.set_cons_succ, wrap_in]; rfl)))
      (refine take_ (i := 1) (N := some 17) (v := ?v_13) (a' := ?a_13) #[true, true, false, false, false, false, false, false, false, false, false, false, false, false] rfl rfl (by kernel_rfl) (fun _ _ _ h => h) (Or.inl ⟨by rfl, ?hy_13⟩) hHeld ?ha_13 ?hh_13; (case hy_13 => (rintro w' ⟨s0_, s1_⟩; go_simp; with_reducible rfl)); (case ha_13 => (simp (disch := omega) only [Act.put, List.setIfInBounds_toArray, List.set_cons_zero, List.set_cons_succ, wrap_in]; rfl)))
      (refine take_ (i := 2) (N := some 18) (v := ?v_14) (a' := ?a_14) #[true, true, true, false, false, false, false, false, false, false, false, false, false, false] rfl rfl (by kernel_rfl) (fun _ _ _ h => h) (Or.inl ⟨by rfl, ?hy_14⟩) hHeld ?ha_14 ?hh_14; (case hy_14 => (rintro w' ⟨s0_, s1_⟩; go_simp; with_reducible rfl)); (case ha_14 => (simp (disch := omega) only [Act.put, List.setIfInBounds_toArray, List.set_cons_zero, List.set_cons_succ, wrap_in]; rfl)))
      (refine take_ (i := 3) (N := some 19) (v := ?v_15) (a' := ?a_15) #[true, true, true, true, false, false, false, false, false, false, false, false, false, false] rfl rfl (by kernel_rfl) (fun _ _ _ h => h) (Or.inl ⟨by rfl, ?hy_15⟩) hHeld ?ha_15 ?hh_15; (case hy_15 => (rintro w' ⟨s0_, s1_⟩; go_simp; with_reducible rfl)); (case ha_15 => (simp (disch := omega) only [Act.put, List.setIfInBounds_toArray, List.set_cons_zero, List.set_cons_succ, wrap_in]; rfl)))
      (refine take_ (i := 4) (N := some 20) (v := ?v_16) (a' := ?a_16) #[true, true, true, true, true, false, false, false, false, false, false, false, false, false] rfl rfl (by kernel_rfl) (fun _ _ _ h => h) (Or.inl ⟨by rfl, ?hy_16⟩) hHeld ?ha_16 ?hh_16; (case hy_16 => (rintro w' ⟨s0_, s1_⟩; go_simp; with_reducible rfl)); (case ha_16 => (simp (disch := omega) only [Act.put, List.setIfInBounds_toArray, List.set_cons_zero, List.set_cons_succ, wrap_in]; rfl)))
      (refine take_ (i := 5) (N := some 21) (v := ?v_17) (a' := ?a_17) #[true, true, true, true, true, true, false, false, false, false, false, false, false, false] rfl rfl (by kernel_rfl) (fun _ _ _ h => h) (Or.inl ⟨by rfl, ?hy_17⟩) hHeld ?ha_17 ?hh_17; (case hy_17 => (rintro w' ⟨s0_, s1_⟩; go_simp; with_reducible rfl)); (case ha_17 => (simp (disch := omega) only [Act.put, List.setIfInBounds_toArray, List.set_cons_zero, List.set_cons_succ, wrap_in]; rfl)))
      (refine take_ (i := 6) (N := some 22) (v := ?v_18) (a' := ?a_18) #[true, true, true, true, true, true, true, false, false, false, false, false, false, false] rfl rfl (by kernel_rfl) (fun _ _ _ h => h) (Or.inl ⟨by rfl, ?hy_18⟩) hHeld ?ha_18 ?hh_18; (case hy_18 => (rintro w' ⟨s0_, s1_⟩; go_simp; with_reducible rfl)); (case ha_18 => (simp (disch := omega) only [Act.put, List.setIfInBounds_toArray, List.set_cons_zero, List.set_cons_succ, wrap_in]; rfl)))
      (refine take_ (i := 7) (N := some 23) (v := ?v_19) (a' := ?a_19) #[true, true, true, true, true, true, true, true, false, false, false, false, false, false] rfl rfl (by kernel_rfl) (fun _ _ _ h => h) (Or.inl ⟨by rfl, ?hy_19⟩) hHeld ?ha_19 ?hh_19; (case hy_19 => (rintro w' ⟨s0_, s1_⟩; go_simp; with_reducible rfl)); (case ha_19 => (simp (disch := omega) only [Act.put, List.setIfInBounds_toArray, List.set_cons_zero, List.set_cons_succ, wrap_in]; rfl)))
      (refine take_ (i := 8) (N := some 24) (v := ?v_20) (a' := ?a_20) #[true, true, true, true, true, true, true, true, true, false, false, false, false, false] rfl rfl (by kernel_rfl) (fun _ _ _ h => h) (Or.inl ⟨by rfl, ?hy_20⟩) hHeld ?ha_20 ?hh_20; (case hy_20 => (rintro w' ⟨s0_, s1_⟩; go_simp; with_reducible rfl)); (case ha_20 => (simp (disch := omega) only [Act.put, List.setIfInBounds_toArray, List.set_cons_zero, List.set_cons_succ, wrap_in]; rfl)))
      refine one_ (i := 9) (N := some 25) #[true, true, true, true, true, true, true, true, true, true, false, false, false, false] rfl rfl (by kernel_rfl) (by decide) (fun K hK => ?_)
      (refine value_ (v := ?v_1) (w1 := ?w1_1) (by rfl) rfl ?hr_1 ?hk_1; (case hr_1 => (go_simp; first | with_reducible rfl | (constructor <;> with_reducible rfl))))
      (refine hK.out _ _ ?hs_2 ?hn_2; (case hs_2 => (obtain ⟨s0_, s1_⟩ := hHeld; exact ⟨cell_alloc_old s0_ _, cell_alloc_old s1_ _⟩)); intro hHeld; clear hK K)
      (refine norm_ (a' := ?a_3) ?ha_3 ?hh_3; (case ha_3 => (simp (disch := omega) only [Act.put, List.setIfInBounds_toArray, List.set_cons_zero, List.set_cons_succ, wrap_in]; rfl)))
      refine one_ (i := 10) (N := some 26) #[true, true, true, true, true, true, true, true, true, true, true, false, false, false] rfl rfl (by kernel_rfl) (by decide) (fun K hK => ?_)
      (have hrun := HRUN.out; refine value_ (by rfl) rfl (runapp_ hrun (by rfl) (by rfl) (by rfl) (by rfl)) ?hk_4)
      (refine hK.out _ _ ?hs_5 ?hn_5; (case hs_5 => (exact HX.out)); intro hHeld; clear hK K)
      (refine norm_ (a' := ?a_6) ?ha_6 ?hh_6; (case ha_6 => (simp (disch := omega) only [Act.put, List.setIfInBounds_toArray, List.set_cons_zero, List.set_cons_succ, wrap_in]; rfl)))
      (refine take_ (i := 11) (N := some 27) (v := ?v_7) (a' := ?a_7) #[true, true, true, true, true, true, true, true, true, true, true, true, false, false] rfl rfl (by kernel_rfl) (fun _ _ _ h => h) (Or.inl ⟨by rfl, ?hy_7⟩) hHeld ?ha_7 ?hh_7; (case hy_7 => (rintro w' ⟨s0_, s1_⟩; go_simp; with_reducible rfl)); (case ha_7 => (simp (disch := omega) only [Act.put, List.setIfInBounds_toArray, List.set_cons_zero, List.set_cons_succ, wrap_in]; rfl)))
      (refine take_ (i := 12) (N := some 28) (v := ?v_8) (a' := ?a_8) #[true, true, true, true, true, true, true, true, true, true, true, true, true, false] rfl rfl (by kernel_rfl) (fun _ _ _ h => h) (Or.inl ⟨by rfl, ?hy_8⟩) hHeld ?ha_8 ?hh_8; (case hy_8 => (rintro w' ⟨s0_, s1_⟩; go_simp; with_reducible rfl)); (case ha_8 => (simp (disch := omega) only [Act.put, List.setIfInBounds_toArray, List.set_cons_zero, List.set_cons_succ, wrap_in]; rfl)))
      refine last_ (i := 13) (N := none) #[true, true, true, true, true, true, true, true, true, true, true, true, true, true] rfl rfl (by kernel_rfl) (by decide) (fun K hK => ?_)
      (refine skip_ (w1 := ?w1_9) (by rfl) rfl ?hr_9 ?hk_9; (case hr_9 => (go_simp; first | with_reducible rfl | (constructor <;> with_reducible rfl))))
      (refine hK.out _ _ ?hn_10; clear hK K; try clear hHeld)
      refine done_ (by kernel_rfl) ?_
      go_wp2_with (fail)
      go_roundg (m - 1)
      case measure => have := HM.out; omega
      case rel => exact ⟨j + 1, by have := HM.out; omega, by go_num, HR2.out⟩
    · have hjn : j = n := by omega
      subst hjn
      clear hm R
      go_wp2_with (fail)
      go_ret
      obtain ⟨B1, A, c, h1, h3, h5⟩ := HR.out
      have hj := HN.out
      have ht : p.take j = p := List.take_of_length_le (by omega)
      rw [ht] at h3
      have hs := blk_lt h1
      refine ⟨_, rfl, ⟨p, 0, [j], A, c, _, 1, by rw [hj]; exact h1, ⟨by omega, hs⟩, h3, Or.inr ⟨_, rfl, ⟨Nat.le_refl _, by omega⟩, by simp, by simp [maxLen], _, h5, rfl, ?_⟩, rfl, ?_, ⟨j, rfl, Nat.zero_le _, by simp [← hj]⟩, ?_⟩, B1⟩
      · intro i x hx q v hv
        rcases i with _ | i
        · simp at hx; subst hx
          rcases q with _ | q
          · simpa [encPos] using hv
          · simp [encPos] at hv
        · simp at hx
      · intro x hx
        simp at hx; omega
      · intro i a b l _ hb _
        simp at hb
end
end Go.Proofs.Ytjmmdpnphafdfaa
