/- take's deferred functions. Printed by a program of this claim's writer (wip/tools/genb1.py). -/
import Derived.Test.YtibelfljlhcibaaA4
import Derived.Recover
import Derived.Laws.Pointers
namespace Go.Proofs.Ytibelfljlhcibaa
set_option linter.unusedVariables false
set_option linter.unusedSimpArgs false
open Go.RowKit Go.Deep Go.Proofs.YtibelfljlhcibaaW.PrintLast

section
variable {w : World} {z2 z5 z4 k : Nat} {lv ov x : Value} {ft : Int}
set_option maxRecDepth 100000 in
theorem caught_u64 {u : TypeId} {pv : Value} {older : List PanicEntry} (h2 : w.cell? ⟨z2, 0, none⟩ = some (.pointer (some ⟨k, 0, none⟩))) (hk : w.heap[k]? = some (.cells #[lv, ov, .int .i64 ft] 89 (0, 0))) (h5 : w.cell? ⟨z5, 0, none⟩ = some (.int .u64 0)) (h4 : w.heap[z4]? = some (.cells #[x] 22 (0, 0))) (h4k : z4 ≠ k) (h2k : z2 ≠ k) (h5k : z5 ≠ k) :
    CallsD Try.prog 111 #[.pointer (some ⟨z2, 0, none⟩), .pointer (some ⟨z5, 0, none⟩), .pointer (some ⟨z4, 0, none⟩)] (.panicking ({ v := .iface u pv, recovered := false } :: older)) w fun e u' w' =>
      e = .returned (.tuple #[]) ∧ u' = .panicking ({ v := .iface u pv, recovered := true } :: older) ∧ w' = (w.setCell ⟨k, 2, none⟩ (.int .i64 10)).setCell ⟨z4, 0, none⟩ (.int .u64 0) := by
  have ck : w.cell? ⟨k, 2, none⟩ = some (.int .i64 ft) := cell_blk hk 2 rfl
  have fk : w.frozen? ⟨k, 2, none⟩ = false := free_blk hk 2
  have g2 : (w.setCell ⟨k, 2, none⟩ (.int .i64 10)).cell? ⟨z2, 0, none⟩ = some (.pointer (some ⟨k, 0, none⟩)) := cell_of' h2 (Below.heap_setCell _ _ _ _ h2k)
  have g5 : (w.setCell ⟨k, 2, none⟩ (.int .i64 10)).cell? ⟨z5, 0, none⟩ = some (.int .u64 0) := cell_of' h5 (Below.heap_setCell _ _ _ _ h5k)
  have gb : (w.setCell ⟨k, 2, none⟩ (.int .i64 10)).heap[z4]? = some (.cells #[x] 22 (0, 0)) := (Below.heap_setCell _ _ _ _ h4k).trans h4
  have g4 : (w.setCell ⟨k, 2, none⟩ (.int .i64 10)).cell? ⟨z4, 0, none⟩ = some x := cell_blk gb 0 rfl
  have f4 : (w.setCell ⟨k, 2, none⟩ (.int .i64 10)).frozen? ⟨z4, 0, none⟩ = false := free_blk gb 0
  have gk : (w.setCell ⟨k, 2, none⟩ (.int .i64 10)).cell? ⟨k, 2, none⟩ = some (.int .i64 10) := cell_blk (setCell_heap w k 2 _ _ _ _ hk) 2 rfl
  refine callsD_of_wpS Try.func111 rfl fun c₀ cs hu => ?_
  apply wpS_seq
  apply wpS_seq
  apply wpS_region
  simp [wpOpsS, go_sem, recoverD, hu, Try.ntmps111, Exit.thenS]
  apply wpS_seq
  apply wpS_region
  simp [wpOpsS, go_sem, Exit.thenS, Array.replicate]
  refine wpS_cond (t := true) (by simp [Act.eval, Array.replicate]) ?_
  simp only [if_true]
  apply wpS_region
  simp [wpOpsS, go_sem, h2, ck, fk, Exit.thenS, Array.replicate]
  apply wpS_seq
  apply wpS_region
  simp [wpOpsS, go_sem, g2, gk, Exit.thenS, Array.replicate]
  refine wpS_cond (t := true) (by simp [Act.eval, Array.replicate]) ?_
  simp only [if_true]
  apply wpS_region
  simp [wpOpsS, go_sem, g5, g4, f4, bodyPostS, results, Try.results111, Array.replicate]
set_option maxRecDepth 100000 in
theorem idle_u64 (h2 : w.cell? ⟨z2, 0, none⟩ = some (.pointer (some ⟨k, 0, none⟩))) (hk : w.heap[k]? = some (.cells #[lv, ov, .int .i64 ft] 89 (0, 0))) (h5 : w.cell? ⟨z5, 0, none⟩ = some (.int .u64 0)) (h4 : w.heap[z4]? = some (.cells #[x] 22 (0, 0))) :
    CallsD Try.prog 111 #[.pointer (some ⟨z2, 0, none⟩), .pointer (some ⟨z5, 0, none⟩), .pointer (some ⟨z4, 0, none⟩)] .returning w fun e u' w' =>
      e = .returned (.tuple #[]) ∧ u' = .returning ∧ w' = if ft = 0 then w else w.setCell ⟨z4, 0, none⟩ (.int .u64 0) := by
  have ck : w.cell? ⟨k, 2, none⟩ = some (.int .i64 ft) := cell_blk hk 2 rfl
  have g4 : w.cell? ⟨z4, 0, none⟩ = some x := cell_blk h4 0 rfl
  have f4 : w.frozen? ⟨z4, 0, none⟩ = false := free_blk h4 0
  refine callsD_of_wpS Try.func111 rfl fun c₀ cs hu => ?_
  apply wpS_seq
  apply wpS_seq
  apply wpS_region
  simp [wpOpsS, go_sem, recoverD, hu, Try.ntmps111, Exit.thenS]
  apply wpS_seq
  apply wpS_region
  simp [wpOpsS, go_sem, Exit.thenS, Array.replicate]
  refine wpS_cond (t := false) (by simp [Act.eval, Array.replicate]) ?_
  simp only [Bool.false_eq_true, if_false]
  refine wpS_of_wp (wp_skip ?_)
  simp only [Exit.thenS]
  apply wpS_seq
  apply wpS_region
  simp [wpOpsS, go_sem, h2, ck, Exit.thenS, Array.replicate]
  by_cases hf : ft = 0
  · refine wpS_cond (t := false) (by simp [Act.eval, Array.replicate, hf]) ?_
    simp only [Bool.false_eq_true, if_false]
    refine wpS_of_wp (wp_skip ?_)
    cases c₀
    simp_all [bodyPostS, results, Try.results111]
  · refine wpS_cond (t := true) (by simp [Act.eval, Array.replicate, hf]) ?_
    simp only [if_true]
    apply wpS_region
    cases c₀
    simp_all [wpOpsS, go_sem, g4, f4, h5, bodyPostS, results, Try.results111, Array.replicate]
end
section
variable {w : World} {z2 z5 z4 k : Nat} {lv ov x : Value} {ft : Int}
set_option maxRecDepth 100000 in
theorem caught_int {u : TypeId} {pv : Value} {older : List PanicEntry} (h2 : w.cell? ⟨z2, 0, none⟩ = some (.pointer (some ⟨k, 0, none⟩))) (hk : w.heap[k]? = some (.cells #[lv, ov, .int .i64 ft] 89 (0, 0))) (h5 : w.cell? ⟨z5, 0, none⟩ = some (.int .i64 0)) (h4 : w.heap[z4]? = some (.cells #[x] 3 (0, 0))) (h4k : z4 ≠ k) (h2k : z2 ≠ k) (h5k : z5 ≠ k) :
    CallsD Try.prog 112 #[.pointer (some ⟨z2, 0, none⟩), .pointer (some ⟨z5, 0, none⟩), .pointer (some ⟨z4, 0, none⟩)] (.panicking ({ v := .iface u pv, recovered := false } :: older)) w fun e u' w' =>
      e = .returned (.tuple #[]) ∧ u' = .panicking ({ v := .iface u pv, recovered := true } :: older) ∧ w' = (w.setCell ⟨k, 2, none⟩ (.int .i64 10)).setCell ⟨z4, 0, none⟩ (.int .i64 0) := by
  have ck : w.cell? ⟨k, 2, none⟩ = some (.int .i64 ft) := cell_blk hk 2 rfl
  have fk : w.frozen? ⟨k, 2, none⟩ = false := free_blk hk 2
  have g2 : (w.setCell ⟨k, 2, none⟩ (.int .i64 10)).cell? ⟨z2, 0, none⟩ = some (.pointer (some ⟨k, 0, none⟩)) := cell_of' h2 (Below.heap_setCell _ _ _ _ h2k)
  have g5 : (w.setCell ⟨k, 2, none⟩ (.int .i64 10)).cell? ⟨z5, 0, none⟩ = some (.int .i64 0) := cell_of' h5 (Below.heap_setCell _ _ _ _ h5k)
  have gb : (w.setCell ⟨k, 2, none⟩ (.int .i64 10)).heap[z4]? = some (.cells #[x] 3 (0, 0)) := (Below.heap_setCell _ _ _ _ h4k).trans h4
  have g4 : (w.setCell ⟨k, 2, none⟩ (.int .i64 10)).cell? ⟨z4, 0, none⟩ = some x := cell_blk gb 0 rfl
  have f4 : (w.setCell ⟨k, 2, none⟩ (.int .i64 10)).frozen? ⟨z4, 0, none⟩ = false := free_blk gb 0
  have gk : (w.setCell ⟨k, 2, none⟩ (.int .i64 10)).cell? ⟨k, 2, none⟩ = some (.int .i64 10) := cell_blk (setCell_heap w k 2 _ _ _ _ hk) 2 rfl
  refine callsD_of_wpS Try.func112 rfl fun c₀ cs hu => ?_
  apply wpS_seq
  apply wpS_seq
  apply wpS_region
  simp [wpOpsS, go_sem, recoverD, hu, Try.ntmps112, Exit.thenS]
  apply wpS_seq
  apply wpS_region
  simp [wpOpsS, go_sem, Exit.thenS, Array.replicate]
  refine wpS_cond (t := true) (by simp [Act.eval, Array.replicate]) ?_
  simp only [if_true]
  apply wpS_region
  simp [wpOpsS, go_sem, h2, ck, fk, Exit.thenS, Array.replicate]
  apply wpS_seq
  apply wpS_region
  simp [wpOpsS, go_sem, g2, gk, Exit.thenS, Array.replicate]
  refine wpS_cond (t := true) (by simp [Act.eval, Array.replicate]) ?_
  simp only [if_true]
  apply wpS_region
  simp [wpOpsS, go_sem, g5, g4, f4, bodyPostS, results, Try.results112, Array.replicate]
set_option maxRecDepth 100000 in
theorem idle_int (h2 : w.cell? ⟨z2, 0, none⟩ = some (.pointer (some ⟨k, 0, none⟩))) (hk : w.heap[k]? = some (.cells #[lv, ov, .int .i64 ft] 89 (0, 0))) (h5 : w.cell? ⟨z5, 0, none⟩ = some (.int .i64 0)) (h4 : w.heap[z4]? = some (.cells #[x] 3 (0, 0))) :
    CallsD Try.prog 112 #[.pointer (some ⟨z2, 0, none⟩), .pointer (some ⟨z5, 0, none⟩), .pointer (some ⟨z4, 0, none⟩)] .returning w fun e u' w' =>
      e = .returned (.tuple #[]) ∧ u' = .returning ∧ w' = if ft = 0 then w else w.setCell ⟨z4, 0, none⟩ (.int .i64 0) := by
  have ck : w.cell? ⟨k, 2, none⟩ = some (.int .i64 ft) := cell_blk hk 2 rfl
  have g4 : w.cell? ⟨z4, 0, none⟩ = some x := cell_blk h4 0 rfl
  have f4 : w.frozen? ⟨z4, 0, none⟩ = false := free_blk h4 0
  refine callsD_of_wpS Try.func112 rfl fun c₀ cs hu => ?_
  apply wpS_seq
  apply wpS_seq
  apply wpS_region
  simp [wpOpsS, go_sem, recoverD, hu, Try.ntmps112, Exit.thenS]
  apply wpS_seq
  apply wpS_region
  simp [wpOpsS, go_sem, Exit.thenS, Array.replicate]
  refine wpS_cond (t := false) (by simp [Act.eval, Array.replicate]) ?_
  simp only [Bool.false_eq_true, if_false]
  refine wpS_of_wp (wp_skip ?_)
  simp only [Exit.thenS]
  apply wpS_seq
  apply wpS_region
  simp [wpOpsS, go_sem, h2, ck, Exit.thenS, Array.replicate]
  by_cases hf : ft = 0
  · refine wpS_cond (t := false) (by simp [Act.eval, Array.replicate, hf]) ?_
    simp only [Bool.false_eq_true, if_false]
    refine wpS_of_wp (wp_skip ?_)
    cases c₀
    simp_all [bodyPostS, results, Try.results112]
  · refine wpS_cond (t := true) (by simp [Act.eval, Array.replicate, hf]) ?_
    simp only [if_true]
    apply wpS_region
    cases c₀
    simp_all [wpOpsS, go_sem, g4, f4, h5, bodyPostS, results, Try.results112, Array.replicate]
end
end Go.Proofs.Ytibelfljlhcibaa
