/- Readers: Done, Rest, Read; same. -/
import Derived.Test.YtibelfljlhcibaaB5
namespace Go.Proofs.Ytibelfljlhcibaa
set_option linter.unusedVariables false
set_option linter.unusedSimpArgs false
open Go.RowKit Go.Deep Go.Proofs.YtibelfljlhcibaaW.PrintLast

def doneF (bs : List Int) (ft : Int) : Int := if ft = 0 then (if bs = [] then 0 else 12) else ft
def restF (bs : List Int) (ft : Int) : Int := if ft = 0 then bs.length else 0
set_option maxHeartbeats 1000000 in
theorem rDone_any {w : World} {M k : Nat} {bs : List Int} {ft : Int} (h : RdAt w M k bs ft) : Calls Try.prog 18 #[.pointer (some ⟨k, 0, none⟩)] w fun e w' => e = .returned (.int .i64 (doneF bs ft)) ∧ w = w' := by
  obtain ⟨A, hk, hL⟩ := h
  have c0 : w.cell? ⟨k, 0, none⟩ = some (.slice A bs.length bs.length) := cell_blk hk 0 rfl
  have c1 : w.cell? ⟨k, 1, none⟩ = some (.slice none 0 0) := cell_blk hk 1 rfl
  have c2 : w.cell? ⟨k, 2, none⟩ = some (.int .i64 ft) := cell_blk hk 2 rfl
  clear hk hL
  obtain ⟨t0, ht0⟩ := named (ft != 0)
  go_enter Try.func18, Try.ntmps18
  cases t0
  · have hf : ft = 0 := by simpa using ht0
    subst hf
    cases bs with
    | nil =>
      simp only [List.length_nil] at c0
      go_wp2_with (fail)
      go_ret
      exact ⟨rfl, rfl⟩
    | cons x t =>
      simp only [List.length_cons] at c0
      go_wp2_with (fail)
      go_ret
      exact ⟨rfl, rfl⟩
  · have hf : ft ≠ 0 := by simpa using ht0
    go_wp2_with (fail)
    go_ret
    refine ⟨?_, rfl⟩
    unfold doneF
    rw [if_neg hf]
    rfl
set_option maxHeartbeats 1000000 in
theorem rRest_any {w : World} {M k : Nat} {bs : List Int} {ft : Int} (h : RdAt w M k bs ft) : Calls Try.prog 19 #[.pointer (some ⟨k, 0, none⟩)] w fun e w' => e = .returned (.int .i64 (restF bs ft)) ∧ w = w' := by
  obtain ⟨A, hk, hL⟩ := h
  have c0 : w.cell? ⟨k, 0, none⟩ = some (.slice A bs.length bs.length) := cell_blk hk 0 rfl
  have c2 : w.cell? ⟨k, 2, none⟩ = some (.int .i64 ft) := cell_blk hk 2 rfl
  clear hk hL
  obtain ⟨t0, ht0⟩ := named (ft != 0)
  go_enter Try.func19, Try.ntmps19
  cases t0
  · have hf : ft = 0 := by simpa using ht0
    subst hf
    go_wp2_with (fail)
    go_ret
    exact ⟨rfl, rfl⟩
  · have hf : ft ≠ 0 := by simpa using ht0
    go_wp2_with (fail)
    go_ret
    refine ⟨?_, rfl⟩
    unfold restF
    rw [if_neg hf]
    rfl
def ReadNew (w w' : World) (bs : List Int) (e : Ending) : Prop := ∃ k, e = .returned (.pointer (some ⟨k, 0, none⟩)) ∧ w.heap.size < k ∧ Below w.heap.size w w' ∧ RdAt w' (w.heap.size + 1) k bs 0
set_option maxRecDepth 100000 in
set_option maxHeartbeats 1000000 in
theorem read_any {w : World} {A : Option Addr} {cc : Nat} {bs : List Int} (hy : bs ≠ [] → ∃ p q, A = some ⟨p, q, none⟩ ∧ BsAt w p q bs) (hl : bs.length ≤ 140737488355328) : Calls Try.prog 16 #[.slice A bs.length cc] w fun e w' => ReadNew w w' bs e := by
  have HY := Lib.hid hy
  clear hy
  go_enter Try.func16, Try.ntmps16
  go_wp2_with (first
    | (refine wpB_make _ rfl _ _ rfl bs.length (by rfl) (by rfl) (by omega) (fun w1 O1 G1 => ?_); have B1 := (Below.refl w.heap.size w).grown G1 (Nat.le_refl _) (by intro k hk; cases hk); have HG := Lib.hid G1; clear G1)
    | (refine wpB_copy _ rfl _ _ rfl O1 rfl A cc (fun hne => (HY.out hne).elim fun p ⟨q, h1, h2⟩ => ⟨p, q, h1, h2.moved (HG.out.block p (by obtain ⟨x, t, rfl⟩ := List.exists_cons_of_ne_nil hne; exact World.block_lt_of_cell? _ _ (h2 0 x rfl)) (by simp))⟩) (by rfl) (by rfl) (fun w2 O2 G2 => ?_)))
  go_ret
  have B2 : Below w.heap.size w w2 := B1.grown G2 B1.size (by intro k hk; injection hk with hk; omega)
  have hlt := O2.lt
  refine ⟨_, rfl, hlt, B2.alloc B2.size _, some ⟨w.heap.size, 0, none⟩, blk_new w2 _, fun hne => ⟨_, 0, rfl, by omega, Nat.lt_succ_self _, ?_⟩⟩
  exact O2.bsAt.moved (Below.heap_alloc _ _ _ hlt)
end Go.Proofs.Ytibelfljlhcibaa
