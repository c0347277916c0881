/- Writers: New, Num, Done; what the law's num answers. -/
import Derived.Test.YtibelfljlhcibaaA2
namespace Go.Proofs.Ytibelfljlhcibaa
set_option linter.unusedVariables false
set_option linter.unusedSimpArgs false
open Go.RowKit Go.Deep Go.Proofs.YtibelfljlhcibaaW.PrintLast

set_option maxHeartbeats 400000 in
theorem new_any (room : Int) (w : World) : Calls Try.prog 21 #[.int .i64 room] w fun e w' => e = .returned (.pointer (some ⟨w.heap.size, 0, none⟩)) ∧ WAt' w w' w.heap.size w.heap.size (max room 0) ([], 0) (.slice none 0 0) := by
  go_enter Try.func21, Try.ntmps21
  go_wp2
  all_goals
    go_ret
    refine ⟨rfl, none, 0, ⟨?_, Or.inl ⟨rfl, rfl, rfl⟩⟩, (Below.refl _ _).alloc (Nat.le_refl _) _⟩
    rw [blk_new]
    simp
    omega
set_option maxHeartbeats 400000 in
theorem wNum_any {w0 w : World} {N k c : Nat} {room ft : Int} {A : Option Addr} {bs : List Int} {op : Value} (h : WAt w N k room A c bs op ft) (B : Below N w0 w) (hN : N ≤ w.heap.size) (hNk : N ≤ k) (hr0 : 0 ≤ room) (hr1 : room ≤ 9223372036854775807) (hbl : (bs.length : Int) ≤ room) (n : Nat) (hn : n < 18446744073709551616) (h63 : bs.length + 10 ≤ 140737488355328) :
    Calls Try.prog 58 #[.pointer (some ⟨k, 0, none⟩), .int .u64 n] w fun e w' => e = .returned (.tuple #[]) ∧ WAt' w0 w' N k room (layS room bs ft (formN n)) op := by
  have h10 := formN_len10 hn
  have FM := Lib.hid (form_any n hn w)
  go_enter Try.func58, Try.ntmps58
  go_wp2_with (fail)
  refine FM.out.mono ?_
  rintro e w1 ⟨g, c1, rfl, hg, O, B1⟩
  have LY := Lib.hid (lay_any (h.below B1) (B.trans (B1.mono hN)) (Nat.le_trans hN B1.size) hNk hr0 hr1 hbl (cc := c1) O.bsAt (by intro h0; have := formN_pos n; rw [h0] at this; simp at this) (by omega))
  go_wp2_with (fail)
  refine LY.out.mono ?_
  rintro e w2 ⟨rfl, W2⟩
  go_wp2_with (fail)
  go_end0
  exact ⟨rfl, W2⟩
def DoneP (w w' : World) (bs : List Int) (ft : Int) (on : Nat) (e : Ending) : Prop := Below w.heap.size w w' ∧
  ((ft ≠ 0 ∧ e = .returned (.tuple #[.slice none 0 0, .int .i64 ft])) ∨ (ft = 0 ∧ 0 < on ∧ e = .returned (.tuple #[.slice none 0 0, .int .i64 12])) ∨
   (ft = 0 ∧ on = 0 ∧ ∃ g, e = .returned (.tuple #[.slice (some ⟨g, 0, none⟩) bs.length bs.length, .int .i64 0]) ∧ w.heap.size ≤ g ∧ OwnB w' g bs.length bs))
set_option maxRecDepth 100000 in
set_option maxHeartbeats 1000000 in
theorem wDone_any {w : World} {N k c oc on : Nat} {room ft : Int} {A OA : Option Addr} {bs : List Int} (h : WAt w N k room A c bs (.slice OA on oc) ft) (hbl : bs.length ≤ 140737488355328) :
    Calls Try.prog 24 #[.pointer (some ⟨k, 0, none⟩)] w fun e w' => DoneP w w' bs ft on e := by
  have e1 := h.c1
  have e2 := h.c2
  have e3 := h.c3
  have H := Lib.hid h
  clear h
  obtain ⟨t0, ht0⟩ := named (ft != 0)
  go_enter Try.func24, Try.ntmps24
  cases t0
  · have hf : ft = 0 := by simpa using ht0
    subst hf
    by_cases hon : 0 < on
    · go_wp2_with (fail)
      refine bodyPost_ret (v := .tuple #[.slice none 0 0, .int .i64 12]) (by simp [results, Try.results24, go_sem, *]) rfl ?_
      exact ⟨Below.refl _ _, Or.inr (Or.inl ⟨rfl, hon, rfl⟩)⟩
    · have hlt := H.out.lt
      have hy : ∀ w1, Below w.heap.size w w1 → bs ≠ [] → ∃ p q, A = some ⟨p, q, none⟩ ∧ BsAt w1 p q bs := by
        intro w1 hb hne
        rcases (H.out.below hb).row with ⟨_, _, h⟩ | ⟨g, h1, _, _, h4⟩
        · exact absurd h hne
        · exact ⟨g, 0, h1, h4.bsAt⟩
      have HY := Lib.hid hy
      clear hy
      go_wp2_with (first
        | (refine wpB_make _ rfl _ _ rfl bs.length (by rfl) (by rfl) (by omega) (fun w1 O1 G1 => ?_); have B1 := (Below.refl w.heap.size w).grown G1 (Nat.le_refl _) (by intro k hk; cases hk); have x1 := (H.out.below B1).c1; have HG := Lib.hid G1; clear G1)
        | (refine wpB_copy _ rfl _ _ rfl O1 rfl A c (HY.out _ B1) (by rfl) (by rfl) (fun w2 O2 G2 => ?_)))
      refine bodyPost_ret (v := .tuple #[.slice (some ⟨w.heap.size, 0, none⟩) bs.length bs.length, .int .i64 0]) (by simp [results, Try.results24, go_sem, *]) rfl ?_
      exact ⟨B1.grown G2 B1.size (by intro k hk; injection hk with hk; omega), Or.inr (Or.inr ⟨rfl, by omega, _, rfl, Nat.le_refl _, O2⟩)⟩
  · have hf : ft ≠ 0 := by simpa using ht0
    go_wp2_with (fail)
    refine start_ (n := 6) (S := fun w' => w'.cell? ⟨k, 3, none⟩ = some (.int .i64 ft)) (ds := []) #[false, false, false, false, false, false] (by kernel_rfl) rfl rfl e3 (fun hHeld => ?_)
    (refine take_ (i := 0) (N := some 14) (v := ?v_2) (a' := ?a_2) #[true, false, false, false, false, false] rfl rfl (by kernel_rfl) (fun _ _ _ h => h) (Or.inl ⟨by rfl, ?hy_2⟩) hHeld ?ha_2 ?hh_2; (case hy_2 => (rintro w' s0_; go_simp; with_reducible rfl)); (case ha_2 => (simp (disch := omega) only [Act.put, List.setIfInBounds_toArray, List.set_cons_zero, List.set_cons_succ, wrap_in]; rfl)))
    (refine take_ (i := 1) (N := some 15) (v := ?v_3) (a' := ?a_3) #[true, true, false, false, false, false] rfl rfl (by kernel_rfl) (fun _ _ _ h => h) (Or.inl ⟨by rfl, ?hy_3⟩) hHeld ?ha_3 ?hh_3; (case hy_3 => (rintro w' s0_; go_simp; with_reducible rfl)); (case ha_3 => (simp (disch := omega) only [Act.put, List.setIfInBounds_toArray, List.set_cons_zero, List.set_cons_succ, wrap_in]; rfl)))
    (refine take_ (i := 2) (N := some 16) (v := ?v_4) (a' := ?a_4) #[true, true, true, false, false, false] rfl rfl (by kernel_rfl) (fun _ _ _ h => h) (Or.inl ⟨by rfl, ?hy_4⟩) hHeld ?ha_4 ?hh_4; (case hy_4 => (rintro w' s0_; go_simp; with_reducible rfl)); (case ha_4 => (simp (disch := omega) only [Act.put, List.setIfInBounds_toArray, List.set_cons_zero, List.set_cons_succ, wrap_in]; rfl)))
    (refine take_ (i := 3) (N := some 17) (v := ?v_5) (a' := ?a_5) #[true, true, true, true, false, false] rfl rfl (by kernel_rfl) (fun _ _ _ h => h) (Or.inl ⟨by rfl, ?hy_5⟩) hHeld ?ha_5 ?hh_5; (case hy_5 => (rintro w' s0_; go_simp; with_reducible rfl)); (case ha_5 => (simp (disch := omega) only [Act.put, List.setIfInBounds_toArray, List.set_cons_zero, List.set_cons_succ, wrap_in]; rfl)))
    (refine take_ (i := 4) (N := some 2) (v := ?v_6) (a' := ?a_6) #[true, true, true, true, true, false] rfl rfl (by kernel_rfl) (fun _ _ _ h => h) (Or.inl ⟨by rfl, ?hy_6⟩) hHeld ?ha_6 ?hh_6; (case hy_6 => (rintro w' s0_; go_simp; with_reducible rfl)); (case ha_6 => (simp (disch := omega) only [Act.put, List.setIfInBounds_toArray, List.set_cons_zero, List.set_cons_succ, wrap_in]; rfl)))
    (refine take_ (i := 5) (N := some 3) (v := ?v_7) (a' := ?a_7) #[true, true, true, true, true, true] rfl rfl (by kernel_rfl) (fun _ _ _ h => h) (Or.inl ⟨by rfl, ?hy_7⟩) hHeld ?ha_7 ?hh_7; (case hy_7 => (rintro w' s0_; go_simp; with_reducible rfl)); (case ha_7 => (simp (disch := omega) only [Act.put, List.setIfInBounds_toArray, List.set_cons_zero, List.set_cons_succ, wrap_in]; rfl)))
    refine done_ (by kernel_rfl) ?_
    go_wp2_with (fail)
    refine bodyPost_ret (v := .tuple #[.slice none 0 0, .int .i64 ft]) (by simp [results, Try.results24, go_sem, *]) rfl ?_
    exact ⟨(Below.refl _ _).drew, Or.inl ⟨hf, rfl⟩⟩
end Go.Proofs.Ytibelfljlhcibaa
