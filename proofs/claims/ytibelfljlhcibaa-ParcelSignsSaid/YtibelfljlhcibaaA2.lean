/- A writer where it lies; what lay makes of it. -/
import Derived.Test.YtibelfljlhcibaaA1
namespace Go.Proofs.Ytibelfljlhcibaa
set_option linter.unusedVariables false
set_option linter.unusedSimpArgs false
open Go.RowKit Go.Deep Go.Proofs.YtibelfljlhcibaaW.PrintLast

/-- A slice of bytes of one's own, or none yet. -/
def BRow (w : World) (N k : Nat) (A : Option Addr) (c : Nat) (bs : List Int) : Prop :=
  (A = none ∧ c = 0 ∧ bs = []) ∨ ∃ g, A = some ⟨g, 0, none⟩ ∧ g ≠ k ∧ N ≤ g ∧ OwnB w g c bs
theorem BRow.moved {w w' : World} {N k c : Nat} {A : Option Addr} {bs : List Int} (h : BRow w N k A c bs) (hb : ∀ g, A = some ⟨g, 0, none⟩ → w'.heap[g]? = w.heap[g]?) : BRow w' N k A c bs := by
  rcases h with h | ⟨g, h1, h2, h3, h4⟩
  · exact Or.inl h
  · exact Or.inr ⟨g, h1, h2, h3, h4.moved (hb g h1)⟩
theorem BRow.lt {w : World} {N k c : Nat} {A : Option Addr} {bs : List Int} (h : BRow w N k A c bs) : ∀ g, A = some ⟨g, 0, none⟩ → g < w.heap.size ∧ g ≠ k := by
  intro g hg
  rcases h with ⟨h, _⟩ | ⟨g', h1, h2, h3, h4⟩
  · rw [h] at hg; cases hg
  · rw [h1] at hg; injection hg with hg; injection hg with hg; subst hg; exact ⟨h4.lt, h2⟩
theorem BRow.append {w0 w : World} {N k c : Nat} {A : Option Addr} {bs ys : List Int} (h : BRow w N k A c bs) (B : Below N w0 w) (hN : N ≤ w.heap.size) (hk : k < w.heap.size) {p q cc : Nat} (hy : BsAt w p q ys) (hne : ys ≠ []) (h63 : bs.length + ys.length ≤ 140737488355328) :
    ∃ A' c' w', (Builtin.append_ #[23, 23] 23 #[.slice A bs.length c, .slice (some ⟨p, q, none⟩) ys.length cc]).run Try.prog w = .ok (.slice A' (bs.length + ys.length) c') w' ∧
      BRow w' N k A' c' (bs ++ ys) ∧ Below N w0 w' ∧ w'.heap[k]? = w.heap[k]? := by
  rcases h with ⟨rfl, rfl, rfl⟩ | ⟨g, rfl, h2, h3, h4⟩
  · obtain ⟨c', w', hr, O, G⟩ := nilB_append (c := cc) hne hy (by simpa using h63)
    exact ⟨_, c', w', by simpa using hr, Or.inr ⟨_, rfl, by omega, hN, O⟩, B.grown G hN (by intro k hk; cases hk), G.block _ hk (by simp)⟩
  · obtain ⟨g', c', w', hr, O, G, hat⟩ := OwnB.append (c := cc) h4 hy h63
    refine ⟨_, c', w', hr, Or.inr ⟨g', rfl, ?_, ?_, O⟩, B.grown G hN (by intro k hk; injection hk with hk; omega), G.block _ hk (by simpa using Ne.symm h2)⟩
    · rcases hat with h | h <;> omega
    · rcases hat with h | h <;> omega
theorem cell_of' {w w' : World} {k o : Nat} {v : Value} (h : w.cell? ⟨k, o, none⟩ = some v) (hb : w'.heap[k]? = w.heap[k]?) : w'.cell? ⟨k, o, none⟩ = some v := by
  rw [World.cell?_of_block (w := w) hb]; exact h
/-- A writer at block k. -/
structure WAt (w : World) (N k : Nat) (room : Int) (A : Option Addr) (c : Nat) (bs : List Int) (op : Value) (ft : Int) : Prop where
  blk : w.heap[k]? = some (.cells #[.int .i64 room, .slice A bs.length c, op, .int .i64 ft] 93 (0, 0))
  row : BRow w N k A c bs
section
variable {w w' : World} {N k c : Nat} {room ft : Int} {A : Option Addr} {bs : List Int} {op : Value}
theorem WAt.lt (h : WAt w N k room A c bs op ft) : k < w.heap.size := blk_lt h.blk
theorem WAt.c0 (h : WAt w N k room A c bs op ft) : w.cell? ⟨k, 0, none⟩ = some (.int .i64 room) := cell_blk h.blk 0 rfl
theorem WAt.c1 (h : WAt w N k room A c bs op ft) : w.cell? ⟨k, 1, none⟩ = some (.slice A bs.length c) := cell_blk h.blk 1 rfl
theorem WAt.c2 (h : WAt w N k room A c bs op ft) : w.cell? ⟨k, 2, none⟩ = some op := cell_blk h.blk 2 rfl
theorem WAt.c3 (h : WAt w N k room A c bs op ft) : w.cell? ⟨k, 3, none⟩ = some (.int .i64 ft) := cell_blk h.blk 3 rfl
theorem WAt.free (h : WAt w N k room A c bs op ft) (o : Nat) : w.frozen? ⟨k, o, none⟩ = false := free_blk h.blk o
theorem WAt.moved (h : WAt w N k room A c bs op ft) (hk : w'.heap[k]? = w.heap[k]?) (hb : ∀ g, A = some ⟨g, 0, none⟩ → w'.heap[g]? = w.heap[g]?) : WAt w' N k room A c bs op ft := ⟨hk.trans h.blk, h.row.moved hb⟩
theorem WAt.below (h : WAt w N k room A c bs op ft) (hb : Below w.heap.size w w') : WAt w' N k room A c bs op ft := h.moved (hb.block _ h.lt) fun g hg => hb.block _ (h.row.lt g hg).1
theorem WAt.drew (h : WAt w N k room A c bs op ft) : WAt w.drew N k room A c bs op ft := h.moved rfl fun _ _ => rfl
theorem WAt.fault (h : WAt w N k room A c bs op ft) (e : Int) : WAt (w.setCell ⟨k, 3, none⟩ (.int .i64 e)) N k room A c bs op e :=
  ⟨setCell_heap w k 3 _ _ _ _ h.blk, h.row.moved fun g hg => Below.heap_setCell _ _ _ _ (h.row.lt g hg).2⟩
set_option maxHeartbeats 400000 in
theorem whole_any (h : WAt w N k room A c bs op ft) : Calls Try.prog 64 #[.pointer (some ⟨k, 0, none⟩)] w fun e w' => e = .returned (.bool (ft == 0)) ∧ w = w' := by
  have e3 := h.c3
  obtain ⟨t, ht⟩ := named (ft == 0)
  rw [ht]
  go_enter Try.func64, Try.ntmps64
  go_wp2
  all_goals
    go_ret
    first | exact ⟨rfl, rfl⟩ | simp_all
end
def layS (room : Int) (bs : List Int) (ft : Int) (ys : List Int) : List Int × Int := if ft = 0 then (if room - bs.length < ys.length then (bs, 13) else (bs ++ ys, 0)) else (bs, ft)
/-- A writer, behind a call. -/
def WAt' (w0 w : World) (N k : Nat) (room : Int) (r : List Int × Int) (op : Value) : Prop := ∃ A c, WAt w N k room A c r.1 op r.2 ∧ Below N w0 w
set_option maxRecDepth 100000 in
set_option maxHeartbeats 2000000 in
theorem lay_any {w0 w : World} {N k c : Nat} {room ft : Int} {A : Option Addr} {bs : List Int} {op : Value} (h : WAt w N k room A c bs op ft) (B : Below N w0 w) (hN : N ≤ w.heap.size) (hNk : N ≤ k) (hr0 : 0 ≤ room) (hr1 : room ≤ 9223372036854775807) (hbl : (bs.length : Int) ≤ room) {ys : List Int} {p q cc : Nat} (hy : BsAt w p q ys) (hne : ys ≠ []) (h63 : bs.length + ys.length ≤ 140737488355328) :
    Calls Try.prog 67 #[.pointer (some ⟨k, 0, none⟩), .slice (some ⟨p, q, none⟩) ys.length cc] w fun e w' => e = .returned (.tuple #[]) ∧ WAt' w0 w' N k room (layS room bs ft ys) op := by
  have H := Lib.hid h
  have HB := Lib.hid B
  have HY := Lib.hid hy
  have e0 := h.c0
  have e1 := h.c1
  have WH := Lib.hid (whole_any h)
  clear h B hy
  obtain ⟨t0, ht0⟩ := named (ft == 0)
  rw [ht0] at WH
  obtain ⟨t1, ht1⟩ := named (decide (room - (bs.length : Int) < (ys.length : Int)))
  go_enter Try.func67, Try.ntmps67
  go_wp2_with (go_at_call 64; refine WH.out.mono ?_; rintro e w_ ⟨rfl, rfl⟩)
  · go_end0
    have hf : ¬ ft = 0 := by simp_all
    refine ⟨rfl, A, c, ?_, HB.out⟩
    unfold layS
    rw [if_neg hf]
    exact H.out
  · have hf : ft = 0 := by simp_all
    subst hf
    refine start_ (n := 14) (S := fun w' => w'.cell? ⟨k, 0, none⟩ = some (.int .i64 room) ∧ w'.cell? ⟨k, 1, none⟩ = some (.slice A bs.length c)) (ds := []) #[false, false, false, false, false, false, false, false, false, false, false, false, false, false] (by kernel_rfl) rfl rfl ⟨e0, e1⟩ (fun hHeld => ?_)
    (refine take_ (i := 0) (N := some 18) (v := ?v_2) (a' := ?a_2) #[true, false, false, false, false, false, false, false, false, false, false, false, false, false] rfl rfl (by kernel_rfl) (fun _ _ _ h => h) (Or.inl ⟨by rfl, ?hy_2⟩) hHeld ?ha_2 ?hh_2; (case hy_2 => (rintro w' ⟨s0_, s1_⟩; go_simp; with_reducible rfl)); (case ha_2 => (simp (disch := omega) only [Act.put, List.setIfInBounds_toArray, List.set_cons_zero, List.set_cons_succ, wrap_in]; rfl)))
    (refine take_ (i := 1) (N := some 19) (v := ?v_3) (a' := ?a_3) #[true, true, false, false, false, false, false, false, false, false, false, false, false, false] rfl rfl (by kernel_rfl) (fun _ _ _ h => h) (Or.inl ⟨by rfl, ?hy_3⟩) hHeld ?ha_3 ?hh_3; (case hy_3 => (rintro w' ⟨s0_, s1_⟩; go_simp; with_reducible rfl)); (case ha_3 => (simp (disch := omega) only [Act.put, List.setIfInBounds_toArray, List.set_cons_zero, List.set_cons_succ, wrap_in]; rfl)))
    (refine take_ (i := 2) (N := some 20) (v := ?v_4) (a' := ?a_4) #[true, true, true, false, false, false, false, false, false, false, false, false, false, false] rfl rfl (by kernel_rfl) (fun _ _ _ h => h) (Or.inl ⟨by rfl, ?hy_4⟩) hHeld ?ha_4 ?hh_4; (case hy_4 => (rintro w' ⟨s0_, s1_⟩; go_simp; with_reducible rfl)); (case ha_4 => (simp (disch := omega) only [Act.put, List.setIfInBounds_toArray, List.set_cons_zero, List.set_cons_succ, wrap_in]; rfl)))
    (refine take_ (i := 3) (N := some 21) (v := ?v_5) (a' := ?a_5) #[true, true, true, true, false, false, false, false, false, false, false, false, false, false] rfl rfl (by kernel_rfl) (fun _ _ _ h => h) (Or.inl ⟨by rfl, ?hy_5⟩) hHeld ?ha_5 ?hh_5; (case hy_5 => (rintro w' ⟨s0_, s1_⟩; go_simp; with_reducible rfl)); (case ha_5 => (simp (disch := omega) only [Act.put, List.setIfInBounds_toArray, List.set_cons_zero, List.set_cons_succ, wrap_in]; rfl)))
    (refine take_ (i := 4) (N := some 22) (v := ?v_6) (a' := ?a_6) #[true, true, true, true, true, false, false, false, false, false, false, false, false, false] rfl rfl (by kernel_rfl) (fun _ _ _ h => h) (Or.inl ⟨by rfl, ?hy_6⟩) hHeld ?ha_6 ?hh_6; (case hy_6 => (rintro w' ⟨s0_, s1_⟩; go_simp; with_reducible rfl)); (case ha_6 => (simp (disch := omega) only [Act.put, List.setIfInBounds_toArray, List.set_cons_zero, List.set_cons_succ, wrap_in]; rfl)))
    (refine take_ (i := 5) (N := some 23) (v := ?v_7) (a' := ?a_7) #[true, true, true, true, true, true, false, false, false, false, false, false, false, false] rfl rfl (by kernel_rfl) (fun _ _ _ h => h) (Or.inl ⟨by rfl, ?hy_7⟩) hHeld ?ha_7 ?hh_7; (case hy_7 => (rintro w' ⟨s0_, s1_⟩; go_simp; with_reducible rfl)); (case ha_7 => (simp (disch := omega) only [Act.put, List.setIfInBounds_toArray, List.set_cons_zero, List.set_cons_succ, wrap_in]; rfl)))
    (refine take_ (i := 6) (N := some 24) (v := ?v_8) (a' := ?a_8) #[true, true, true, true, true, true, true, false, false, false, false, false, false, false] rfl rfl (by kernel_rfl) (fun _ _ _ h => h) (Or.inl ⟨by rfl, ?hy_8⟩) hHeld ?ha_8 ?hh_8; (case hy_8 => (rintro w' ⟨s0_, s1_⟩; go_simp; with_reducible rfl)); (case ha_8 => (simp (disch := omega) only [Act.put, List.setIfInBounds_toArray, List.set_cons_zero, List.set_cons_succ, wrap_in]; rfl)))
    (refine take_ (i := 7) (N := some 25) (v := ?v_9) (a' := ?a_9) #[true, true, true, true, true, true, true, true, false, false, false, false, false, false] rfl rfl (by kernel_rfl) (fun _ _ _ h => h) (Or.inl ⟨by rfl, ?hy_9⟩) hHeld ?ha_9 ?hh_9; (case hy_9 => (rintro w' ⟨s0_, s1_⟩; go_simp; with_reducible rfl)); (case ha_9 => (simp (disch := omega) only [Act.put, List.setIfInBounds_toArray, List.set_cons_zero, List.set_cons_succ, wrap_in]; rfl)))
    (refine take_ (i := 8) (N := some 26) (v := ?v_10) (a' := ?a_10) #[true, true, true, true, true, true, true, true, true, false, false, false, false, false] rfl rfl (by kernel_rfl) (fun _ _ _ h => h) (Or.inl ⟨by rfl, ?hy_10⟩) hHeld ?ha_10 ?hh_10; (case hy_10 => (rintro w' ⟨s0_, s1_⟩; go_simp; with_reducible rfl)); (case ha_10 => (simp (disch := omega) only [Act.put, List.setIfInBounds_toArray, List.set_cons_zero, List.set_cons_succ, wrap_in]; rfl)))
    (refine take_ (i := 9) (N := some 27) (v := ?v_11) (a' := ?a_11) #[true, true, true, true, true, true, true, true, true, true, false, false, false, false] rfl rfl (by kernel_rfl) (fun _ _ _ h => h) (Or.inl ⟨by rfl, ?hy_11⟩) hHeld ?ha_11 ?hh_11; (case hy_11 => (rintro w' ⟨s0_, s1_⟩; go_simp; with_reducible rfl)); (case ha_11 => (simp (disch := omega) only [Act.put, List.setIfInBounds_toArray, List.set_cons_zero, List.set_cons_succ, wrap_in]; rfl)))
    (refine take_ (i := 10) (N := some 28) (v := ?v_12) (a' := ?a_12) #[true, true, true, true, true, true, true, true, true, true, true, false, false, false] rfl rfl (by kernel_rfl) (fun _ _ _ h => h) (Or.inl ⟨by rfl, ?hy_12⟩) hHeld ?ha_12 ?hh_12; (case hy_12 => (rintro w' ⟨s0_, s1_⟩; go_simp; with_reducible rfl)); (case ha_12 => (simp (disch := omega) only [Act.put, List.setIfInBounds_toArray, List.set_cons_zero, List.set_cons_succ, wrap_in]; rfl)))
    (refine take_ (i := 11) (N := some 29) (v := ?v_13) (a' := ?a_13) #[true, true, true, true, true, true, true, true, true, true, true, true, false, false] rfl rfl (by kernel_rfl) (fun _ _ _ h => h) (Or.inl ⟨by rfl, ?hy_13⟩) hHeld ?ha_13 ?hh_13; (case hy_13 => (rintro w' ⟨s0_, s1_⟩; go_simp; with_reducible rfl)); (case ha_13 => (simp (disch := omega) only [Act.put, List.setIfInBounds_toArray, List.set_cons_zero, List.set_cons_succ, wrap_in]; rfl)))
    (refine take_ (i := 12) (N := some 30) (v := ?v_14) (a' := ?a_14) #[true, true, true, true, true, true, true, true, true, true, true, true, true, false] rfl rfl (by kernel_rfl) (fun _ _ _ h => h) (Or.inl ⟨by rfl, ?hy_14⟩) hHeld ?ha_14 ?hh_14; (case hy_14 => (rintro w' ⟨s0_, s1_⟩; go_simp; with_reducible rfl)); (case ha_14 => (simp (disch := omega) only [Act.put, List.setIfInBounds_toArray, List.set_cons_zero, List.set_cons_succ, wrap_in]; rfl)))
    (refine take_ (i := 13) (N := some 17) (v := ?v_15) (a' := ?a_15) #[true, true, true, true, true, true, true, true, true, true, true, true, true, true] rfl rfl (by kernel_rfl) (fun _ _ _ h => h) (Or.inl ⟨by rfl, ?hy_15⟩) hHeld ?ha_15 ?hh_15; (case hy_15 => (rintro w' ⟨s0_, s1_⟩; go_simp; with_reducible rfl)); (case ha_15 => (simp (disch := omega) only [Act.put, List.setIfInBounds_toArray, List.set_cons_zero, List.set_cons_succ, wrap_in]; rfl)))
    refine done_ (by kernel_rfl) ?_
    obtain ⟨A', c', w2, hrun, R2, B2, hk2⟩ := (H.out.drew.row).append (cc := cc) HB.out.drew hN (show k < w.drew.heap.size from H.out.lt) (show BsAt w.drew p q ys from HY.out) hne h63
    have HRUN := Lib.hid hrun
    have x1 := cell_of' (w' := w2) H.out.drew.c1 hk2
    have f1 := (World.frozen?_of_block (a := ⟨k, 1, none⟩) hk2).trans (H.out.drew.free 1)
    have e3 := H.out.c3
    have f3 := H.out.free 3
    clear hrun
    go_wp2_with (refine wpList_app HRUN.out rfl rfl rfl (by rfl) (by rfl) ?_)
    · go_end0
      have hc : room - (bs.length : Int) < (ys.length : Int) := of_decide_eq_true (ht1.trans (by assumption))
      refine ⟨rfl, A, c, ?_, HB.out.drew.setCell (by simpa using hNk) _⟩
      unfold layS
      rw [if_pos rfl, if_pos hc]
      exact H.out.drew.fault 13
    · go_end0
      have hc : ¬ room - (bs.length : Int) < (ys.length : Int) := of_decide_eq_false (ht1.trans (by assumption))
      refine ⟨rfl, A', c', ?_, B2.setCell (by simpa using hNk) _⟩
      unfold layS
      rw [if_pos rfl, if_neg hc]
      refine ⟨?_, R2.moved fun g hg => Below.heap_setCell _ _ _ _ (R2.lt g hg).2⟩
      have := setCell_heap w2 k 1 (.slice A' (bs.length + ys.length) c') _ _ _ (hk2.trans H.out.drew.blk)
      simpa using this
end Go.Proofs.Ytibelfljlhcibaa
