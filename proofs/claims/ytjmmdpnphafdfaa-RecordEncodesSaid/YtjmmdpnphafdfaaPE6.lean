/- The reference's reader: what lies there; dead, left. -/
import Derived.Test.YtjmmdpnphafdfaaPE5
namespace Go.Proofs.Ytjmmdpnphafdfaa
set_option linter.unusedVariables false
set_option linter.unusedSimpArgs false
open Go.RowKit Go.Deep Go.Proofs.YtjmmdpnphafdfaaW.PrintLast

abbrev TQ : TypeId := 75
theorem tq_ne : TQ ≠ 5 ∧ TQ ≠ 3 := by decide
/-- The ends of the frames, the whole's ahead, hold what a reader holds. -/
def EndsOk (p : List Int) (i : Nat) (es : List Nat) (s : RS) : Prop :=
  es.length = s.outer.length + 1 ∧ (∀ x ∈ es, x ≤ p.length) ∧
  (∃ e, es.getLast? = some e ∧ i ≤ e ∧ s.left = (p.take e).drop i) ∧
  ∀ (j : Nat) a b l, es[j]? = some a → es[j + 1]? = some b → s.outer[j]? = some l → b ≤ a ∧ l = (p.take a).drop b
/-- A reader of the reference at block k; its blocks are F's. -/
def RefLies (w : World) (F : Nat → Prop) (k : Nat) (s : RS) : Prop := ∃ (p : List Int) (i : Nat) (es : List Nat) (A : Option Addr) (c : Nat) (EA : Option Addr) (ec : Nat),
  w.heap[k]? = some (.cells #[.slice A p.length c, .int .i64 i, .slice EA es.length ec, .int .i64 s.ft] TQ (0, 0)) ∧ F k ∧
  RowF bc 5 1 w F A c p ∧ RowF encPos 3 1 w F EA ec es ∧ EndsOk p i es s
section
variable {w w' : World} {F G : Nat → Prop} {k : Nat} {s : RS}
theorem RefLies.lt (h : RefLies w F k s) : k < w.heap.size := by obtain ⟨_, _, _, _, _, _, _, h, _⟩ := h; exact blk_lt h
theorem RefLies.in_ (h : RefLies w F k s) : F k := by obtain ⟨_, _, _, _, _, _, _, _, h, _⟩ := h; exact h
theorem RefLies.mono (h : RefLies w F k s) (hF : ∀ x, F x → G x) : RefLies w G k s := by
  obtain ⟨p, i, es, A, c, EA, ec, h1, h2, h3, h4, h5⟩ := h
  exact ⟨p, i, es, A, c, EA, ec, h1, hF k h2, h3.mono hF, h4.mono hF, h5⟩
theorem RefLies.same (h : RefLies w F k s) (hk : ∀ b, F b → b < w.heap.size → w'.heap[b]? = w.heap[b]?) : RefLies w' F k s := by
  have hl := h.lt
  obtain ⟨p, i, es, A, c, EA, ec, h1, h2, h3, h4, h5⟩ := h
  exact ⟨p, i, es, A, c, EA, ec, (hk k h2 hl).trans h1, h2, h3.same hk, h4.same hk, h5⟩
theorem RefLies.below (h : RefLies w F k s) (hb : Below w.heap.size w w') : RefLies w' F k s := h.same fun b _ hl => hb.block b hl
theorem RefLies.drew (h : RefLies w F k s) : RefLies w.drew F k s := h.same fun _ _ _ => rfl
theorem RefLies.fault (h : RefLies w F k s) (e : Int) : RefLies (w.setCell ⟨k, 3, none⟩ (.int .i64 e)) F k { s with ft := e } := by
  obtain ⟨p, i, es, A, c, EA, ec, h1, h2, h3, h4, h5⟩ := h
  exact ⟨p, i, es, A, c, EA, ec, setCell_heap w k 3 _ _ _ _ h1, h2, h3.keeps (KeepT.setCell h1 (Ne.symm tq_ne.1) 3 _), h4.keeps (KeepT.setCell h1 (Ne.symm tq_ne.2) 3 _), h5⟩
theorem EndsOk.left_len {p : List Int} {i : Nat} {es : List Nat} (h : EndsOk p i es s) : ∃ e, es.getLast? = some e ∧ i ≤ e ∧ e ≤ p.length ∧ s.left.length = e - i := by
  obtain ⟨_, h2, ⟨e, h3, h4, h5⟩, _⟩ := h
  have := h2 e (List.mem_of_getLast? h3)
  exact ⟨e, h3, h4, this, by rw [h5, List.length_drop, List.length_take]; omega⟩
set_option maxHeartbeats 400000 in
theorem refRDead_any (h : RefLies w F k s) : Calls Try.prog 45 #[.pointer (some ⟨k, 0, none⟩)] w fun e w' => e = .returned (.bool (s.ft != 0)) ∧ w = w' := by
  obtain ⟨p, i, es, A, c, EA, ec, h1, h2, h3, h4, h5⟩ := h
  have e3 : w.cell? ⟨k, 3, none⟩ = some (.int .i64 s.ft) := cell_blk h1 3 rfl
  clear h1 h2 h3 h4 h5
  generalize s.ft = ft at *
  obtain ⟨t, ht⟩ := named (ft != 0)
  rw [ht]
  go_enter Try.func45, Try.ntmps45
  go_wp2
  all_goals
    go_ret
    first | exact ⟨rfl, rfl⟩ | simp_all
set_option maxHeartbeats 800000 in
theorem refLeft_any (h : RefLies w F k s) : Calls Try.prog 68 #[.pointer (some ⟨k, 0, none⟩)] w fun e w' => e = .returned (.int .i64 (s.left.length : Nat)) ∧ w' = w.drew := by
  obtain ⟨p, i, es, A, c, EA, ec, h1, h2, h3, h4, h5⟩ := h
  have hmax := h3.le
  have hmax' := h3.max
  have hmx := h4.le
  have hmx' := h4.max
  simp only [maxLen] at hmax' hmx'
  obtain ⟨e, g1, g2, g3, g4⟩ := h5.left_len
  obtain ⟨n, hn⟩ : ∃ n, es.length = n := ⟨_, rfl⟩
  have hes : es[n - 1]? = some e := by rw [← hn, ← List.getLast?_eq_getElem?]; exact g1
  have hpos : 0 < n := by rcases es with _ | ⟨_, _⟩; simp at g1; simp at hn; omega
  obtain ⟨g, hg, c0⟩ := h4.cell hes (j := 0) (v := .int .i64 (e : Int)) (by simp [encPos])
  subst hg
  rw [g4]
  rw [hn] at h1 hmx
  have e1 : w.cell? ⟨k, 1, none⟩ = some (.int .i64 i) := cell_blk h1 1 rfl
  have e2 : w.cell? ⟨k, 2, none⟩ = some (.slice (some ⟨g, 0, none⟩) n ec) := cell_blk h1 2 rfl
  obtain ⟨q, rfl⟩ : ∃ q, n = q + 1 := ⟨n - 1, by omega⟩
  have c1 : w.cell? ⟨g, q, none⟩ = some (.int .i64 e) := by simpa using c0
  clear h1 h2 h3 h4 h5 g1 hes c0 hn g4
  have hq : (q : Int) < (q : Int) + 1 := by omega
  go_enter Try.func68, Try.ntmps68
  go_wp2_with (fail)
  refine start_ (n := 18) (S := fun w' => w'.cell? ⟨k, 2, none⟩ = some (.slice (some ⟨g, 0, none⟩) (q + 1) ec) ∧ w'.cell? ⟨g, q, none⟩ = some (.int .i64 e) ∧ w'.cell? ⟨k, 1, none⟩ = some (.int .i64 i)) (ds := []) #[false, false, false, false, false, false, false, false, false, false, false, false, false, false, false, false, false, false] (by kernel_rfl) rfl rfl ⟨e2, c1, e1⟩ (fun hHeld => ?_)
  (refine take_ (i := 0) (N := some 3) (v := ?v_2) (a' := ?a_2) #[true, false, false, false, false, false, false, false, false, false, false, false, false, false, false, false, false, false] rfl rfl (by kernel_rfl) (fun _ _ _ h => h) (Or.inl ⟨by rfl, ?hy_2⟩) hHeld ?ha_2 ?hh_2; (case hy_2 => (rintro w' ⟨s0_, s1_, s2_⟩; go_simp; with_reducible rfl)); (case ha_2 => (simp (disch := omega) only [Act.put, List.setIfInBounds_toArray, List.set_cons_zero, List.set_cons_succ, wrap_in]; rfl)))
  (refine take_ (i := 1) (N := some 4) (v := ?v_3) (a' := ?a_3) #[true, true, false, false, false, false, false, false, false, false, false, false, false, false, false, false, false, false] rfl rfl (by kernel_rfl) (fun _ _ _ h => h) (Or.inl ⟨by rfl, ?hy_3⟩) hHeld ?ha_3 ?hh_3; (case hy_3 => (rintro w' ⟨s0_, s1_, s2_⟩; go_simp; with_reducible rfl)); (case ha_3 => (simp (disch := omega) only [Act.put, List.setIfInBounds_toArray, List.set_cons_zero, List.set_cons_succ, wrap_in]; rfl)))
  (refine take_ (i := 2) (N := some 5) (v := ?v_4) (a' := ?a_4) #[true, true, true, false, false, false, false, false, false, false, false, false, false, false, false, false, false, false] rfl rfl (by kernel_rfl) (fun _ _ _ h => h) (Or.inl ⟨by rfl, ?hy_4⟩) hHeld ?ha_4 ?hh_4; (case hy_4 => (rintro w' ⟨s0_, s1_, s2_⟩; go_simp; with_reducible rfl)); (case ha_4 => (simp (disch := omega) only [Act.put, List.setIfInBounds_toArray, List.set_cons_zero, List.set_cons_succ, wrap_in]; rfl)))
  (refine take_ (i := 3) (N := some 6) (v := ?v_5) (a' := ?a_5) #[true, true, true, true, false, false, false, false, false, false, false, false, false, false, false, false, false, false] rfl rfl (by kernel_rfl) (fun _ _ _ h => h) (Or.inl ⟨by rfl, ?hy_5⟩) hHeld ?ha_5 ?hh_5; (case hy_5 => (rintro w' ⟨s0_, s1_, s2_⟩; go_simp; with_reducible rfl)); (case ha_5 => (simp (disch := omega) only [Act.put, List.setIfInBounds_toArray, List.set_cons_zero, List.set_cons_succ, wrap_in]; rfl)))
  (refine take_ (i := 4) (N := some 7) (v := ?v_6) (a' := ?a_6) #[true, true, true, true, true, false, false, false, false, false, false, false, false, false, false, false, false, false] rfl rfl (by kernel_rfl) (fun _ _ _ h => h) (Or.inl ⟨by rfl, ?hy_6⟩) hHeld ?ha_6 ?hh_6; (case hy_6 => (rintro w' ⟨s0_, s1_, s2_⟩; go_simp; with_reducible rfl)); (case ha_6 => (simp (disch := omega) only [Act.put, List.setIfInBounds_toArray, List.set_cons_zero, List.set_cons_succ, wrap_in]; rfl)))
  (refine take_ (i := 5) (N := some 8) (v := ?v_7) (a' := ?a_7) #[true, true, true, true, true, true, false, false, false, false, false, false, false, false, false, false, false, false] rfl rfl (by kernel_rfl) (fun _ _ _ h => h) (Or.inl ⟨by rfl, ?hy_7⟩) hHeld ?ha_7 ?hh_7; (case hy_7 => (rintro w' ⟨s0_, s1_, s2_⟩; go_simp; with_reducible rfl)); (case ha_7 => (simp (disch := omega) only [Act.put, List.setIfInBounds_toArray, List.set_cons_zero, List.set_cons_succ, wrap_in]; rfl)))
  (refine take_ (i := 6) (N := some 9) (v := ?v_8) (a' := ?a_8) #[true, true, true, true, true, true, true, false, false, false, false, false, false, false, false, false, false, false] rfl rfl (by kernel_rfl) (fun _ _ _ h => h) (Or.inl ⟨by rfl, ?hy_8⟩) hHeld ?ha_8 ?hh_8; (case hy_8 => (rintro w' ⟨s0_, s1_, s2_⟩; go_simp; with_reducible rfl)); (case ha_8 => (simp (disch := omega) only [Act.put, List.setIfInBounds_toArray, List.set_cons_zero, List.set_cons_succ, wrap_in]; rfl)))
  (refine take_ (i := 7) (N := some 10) (v := ?v_9) (a' := ?a_9) #[true, true, true, true, true, true, true, true, false, false, false, false, false, false, false, false, false, false] rfl rfl (by kernel_rfl) (fun _ _ _ h => h) (Or.inl ⟨by rfl, ?hy_9⟩) hHeld ?ha_9 ?hh_9; (case hy_9 => (rintro w' ⟨s0_, s1_, s2_⟩; go_simp; with_reducible rfl)); (case ha_9 => (simp (disch := omega) only [Act.put, List.setIfInBounds_toArray, List.set_cons_zero, List.set_cons_succ, wrap_in]; rfl)))
  (refine take_ (i := 8) (N := some 11) (v := ?v_10) (a' := ?a_10) #[true, true, true, true, true, true, true, true, true, false, false, false, false, false, false, false, false, false] rfl rfl (by kernel_rfl) (fun _ _ _ h => h) (Or.inl ⟨by rfl, ?hy_10⟩) hHeld ?ha_10 ?hh_10; (case hy_10 => (rintro w' ⟨s0_, s1_, s2_⟩; go_simp; with_reducible rfl)); (case ha_10 => (simp (disch := omega) only [Act.put, List.setIfInBounds_toArray, List.set_cons_zero, List.set_cons_succ, wrap_in]; rfl)))
  (refine take_ (i := 9) (N := some 12) (v := ?v_11) (a' := ?a_11) #[true, true, true, true, true, true, true, true, true, true, false, false, false, false, false, false, false, false] rfl rfl (by kernel_rfl) (fun _ _ _ h => h) (Or.inl ⟨by rfl, ?hy_11⟩) hHeld ?ha_11 ?hh_11; (case hy_11 => (rintro w' ⟨s0_, s1_, s2_⟩; go_simp; with_reducible rfl)); (case ha_11 => (simp (disch := omega) only [Act.put, List.setIfInBounds_toArray, List.set_cons_zero, List.set_cons_succ, wrap_in]; rfl)))
  (refine take_ (i := 10) (N := some 13) (v := ?v_12) (a' := ?a_12) #[true, true, true, true, true, true, true, true, true, true, true, false, false, false, false, false, false, false] rfl rfl (by kernel_rfl) (fun _ _ _ h => h) (Or.inl ⟨by rfl, ?hy_12⟩) hHeld ?ha_12 ?hh_12; (case hy_12 => (rintro w' ⟨s0_, s1_, s2_⟩; go_simp; with_reducible rfl)); (case ha_12 => (simp (disch := omega) only [Act.put, List.setIfInBounds_toArray, List.set_cons_zero, List.set_cons_succ, wrap_in]; rfl)))
  (refine take_ (i := 11) (N := some 14) (v := ?v_13) (a' := ?a_13) #[true, true, true, true, true, true, true, true, true, true, true, true, false, false, false, false, false, false] rfl rfl (by kernel_rfl) (fun _ _ _ h => h) (Or.inl ⟨by rfl, ?hy_13⟩) hHeld ?ha_13 ?hh_13; (case hy_13 => (rintro w' ⟨s0_, s1_, s2_⟩; go_simp; with_reducible rfl)); (case ha_13 => (simp (disch := omega) only [Act.put, List.setIfInBounds_toArray, List.set_cons_zero, List.set_cons_succ, wrap_in]; rfl)))
  (refine take_ (i := 12) (N := some 15) (v := ?v_14) (a' := ?a_14) #[true, true, true, true, true, true, true, true, true, true, true, true, true, false, false, false, false, false] rfl rfl (by kernel_rfl) (fun _ _ _ h => h) (Or.inl ⟨by rfl, ?hy_14⟩) hHeld ?ha_14 ?hh_14; (case hy_14 => (rintro w' ⟨s0_, s1_, s2_⟩; go_simp; with_reducible rfl)); (case ha_14 => (simp (disch := omega) only [Act.put, List.setIfInBounds_toArray, List.set_cons_zero, List.set_cons_succ, wrap_in]; rfl)))
  (refine take_ (i := 13) (N := some 16) (v := ?v_15) (a' := ?a_15) #[true, true, true, true, true, true, true, true, true, true, true, true, true, true, false, false, false, false] rfl rfl (by kernel_rfl) (fun _ _ _ h => h) (Or.inl ⟨by rfl, ?hy_15⟩) hHeld ?ha_15 ?hh_15; (case hy_15 => (rintro w' ⟨s0_, s1_, s2_⟩; go_simp; with_reducible rfl)); (case ha_15 => (simp (disch := omega) only [Act.put, List.setIfInBounds_toArray, List.set_cons_zero, List.set_cons_succ, wrap_in]; rfl)))
  (refine take_ (i := 14) (N := some 17) (v := ?v_16) (a' := ?a_16) #[true, true, true, true, true, true, true, true, true, true, true, true, true, true, true, false, false, false] rfl rfl (by kernel_rfl) (fun _ _ _ h => h) (Or.inl ⟨by rfl, ?hy_16⟩) hHeld ?ha_16 ?hh_16; (case hy_16 => (rintro w' ⟨s0_, s1_, s2_⟩; go_simp; with_reducible rfl)); (case ha_16 => (simp (disch := omega) only [Act.put, List.setIfInBounds_toArray, List.set_cons_zero, List.set_cons_succ, wrap_in]; rfl)))
  (refine take_ (i := 15) (N := some 18) (v := ?v_17) (a' := ?a_17) #[true, true, true, true, true, true, true, true, true, true, true, true, true, true, true, true, false, false] rfl rfl (by kernel_rfl) (fun _ _ _ h => h) (Or.inl ⟨by rfl, ?hy_17⟩) hHeld ?ha_17 ?hh_17; (case hy_17 => (rintro w' ⟨s0_, s1_, s2_⟩; go_simp; with_reducible rfl)); (case ha_17 => (simp (disch := omega) only [Act.put, List.setIfInBounds_toArray, List.set_cons_zero, List.set_cons_succ, wrap_in]; rfl)))
  (refine take_ (i := 16) (N := some 19) (v := ?v_18) (a' := ?a_18) #[true, true, true, true, true, true, true, true, true, true, true, true, true, true, true, true, true, false] rfl rfl (by kernel_rfl) (fun _ _ _ h => h) (Or.inl ⟨by rfl, ?hy_18⟩) hHeld ?ha_18 ?hh_18; (case hy_18 => (rintro w' ⟨s0_, s1_, s2_⟩; go_simp; with_reducible rfl)); (case ha_18 => (simp (disch := omega) only [Act.put, List.setIfInBounds_toArray, List.set_cons_zero, List.set_cons_succ, wrap_in]; rfl)))
  (refine take_ (i := 17) (N := some 2) (v := ?v_19) (a' := ?a_19) #[true, true, true, true, true, true, true, true, true, true, true, true, true, true, true, true, true, true] rfl rfl (by kernel_rfl) (fun _ _ _ h => h) (Or.inl ⟨by rfl, ?hy_19⟩) hHeld ?ha_19 ?hh_19; (case hy_19 => (rintro w' ⟨s0_, s1_, s2_⟩; go_simp; with_reducible rfl)); (case ha_19 => (simp (disch := omega) only [Act.put, List.setIfInBounds_toArray, List.set_cons_zero, List.set_cons_succ, wrap_in]; rfl)))
  refine done_ (by kernel_rfl) ?_
  go_wp2_with (fail)
  go_ret
  exact ⟨by rw [show ((e - i : Nat) : Int) = (e : Int) - i by omega]; rfl, rfl⟩
end
end Go.Proofs.Ytjmmdpnphafdfaa
