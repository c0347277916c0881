/- A reader where it lies; next of one byte. -/
import Derived.Test.YtibelfljlhcibaaB2
import Derived.Lib.BoundsPanic
namespace Go.Proofs.Ytibelfljlhcibaa
set_option linter.unusedVariables false
set_option linter.unusedSimpArgs false
open Go.RowKit Go.Deep Go.Proofs.YtibelfljlhcibaaW.PrintLast

/-- What a reader has left: the bytes bs, in a block below M that is not the reader's own. -/
def LAt (w : World) (M k : Nat) (A : Option Addr) (bs : List Int) : Prop := bs ≠ [] → ∃ g o, A = some ⟨g, o, none⟩ ∧ g ≠ k ∧ g < M ∧ BsAt w g o bs
theorem LAt.moved {w w' : World} {M k : Nat} {A : Option Addr} {bs : List Int} (h : LAt w M k A bs) (hb : ∀ g, g < M → g ≠ k → w'.heap[g]? = w.heap[g]?) : LAt w' M k A bs := fun hne => by
  obtain ⟨g, o, h1, h2, h3, h5⟩ := h hne
  exact ⟨g, o, h1, h2, h3, h5.moved (hb g h3 h2)⟩
theorem LAt.below {w w' : World} {M k Z : Nat} {A : Option Addr} {bs : List Int} (h : LAt w M k A bs) (hM : M ≤ Z) (G : Below Z w w') : LAt w' M k A bs := h.moved fun g hg hne => G.block g (by omega)
theorem LAt.grown {w w' : World} {M k : Nat} {A : Option Addr} {bs : List Int} (h : LAt w M k A bs) (hM : M ≤ w.heap.size) (G : w.grownBy w' (some k)) : LAt w' M k A bs := h.moved fun g hg hne => G.block g (by omega) (by simpa using hne)
def next1P (M k : Nat) (w w' : World) (ov : Value) (ft : Int) (bs : List Int) (e : Ending) : Prop :=
  match bs with
  | [] => (∃ A, ReadP k w w' (.slice A 0 0) ov ft) ∧ ∃ u pv, e = .panicked [{ v := .iface u pv, recovered := false }]
  | x :: t => ∃ g o A'', e = .returned (.slice (some ⟨g, o, none⟩) 1 1) ∧ w'.cell? ⟨g, o, none⟩ = some (.int .u8 x) ∧ ReadP k w w' (.slice A'' t.length t.length) ov ft ∧ LAt w' M k A'' t
theorem bp1 (W : World) : ∃ v, (boundsPanic (α := Nat) .i64 1 0 .slice3Acap).run Try.prog W = .halt (.panic (.iface Try.prog.rt.boundsError v)) W.drew := by
  have hw : IntKind.i64.wrap 1 = 1 := by decide
  refine ⟨.agg #[.int .i64 1, .int .i64 0, .bool (W.tape W.drawn (.extern "runtime.boundsError.signed" 2) % 2 == 1), .int .u8 BoundsCode.slice3Acap.toNat], ?_⟩
  simp [boundsPanic, Question.forced, Question.cut, runtimePanic, goPanic, hw]
set_option maxRecDepth 100000 in
set_option maxHeartbeats 1000000 in
theorem next1_any {w : World} {M k : Nat} {A : Option Addr} {ov : Value} {ft : Int} {bs : List Int} (hk : w.heap[k]? = some (.cells #[.slice A bs.length bs.length, ov, .int .i64 ft] 89 (0, 0))) (hL : LAt w M k A bs) :
    Calls Try.prog 63 #[.pointer (some ⟨k, 0, none⟩), .int .i64 1] w fun e w' => next1P M k w w' ov ft bs e := by
  have c0 : w.cell? ⟨k, 0, none⟩ = some (.slice A bs.length bs.length) := cell_blk hk 0 rfl
  have f0 := free_blk hk 0
  have HK := Lib.hid hk
  go_enter Try.func63, Try.ntmps63
  cases bs with
  | nil =>
    simp only [List.length_nil] at c0
    clear hL hk
    obtain ⟨v, hv⟩ := bp1 w
    go_wp2_with (fail)
    refine ⟨rfl, ?_⟩
    exact ⟨⟨A, ⟨rfl, rfl, rfl, Nat.le_refl _, fun _ _ _ => rfl⟩, HK.out⟩, _, _, rfl⟩
  | cons x t =>
    obtain ⟨g, o, rfl, hgk, hg, hb⟩ := hL (by simp)
    have x0 := hb 0 x rfl
    rw [Nat.add_zero] at x0
    simp only [List.length_cons] at c0
    clear hL hk
    have GS : ∀ v : Value, w.grownBy (w.setCell ⟨k, 0, none⟩ v) (some k) := fun v => ⟨rfl, rfl, rfl, by simp [World.setCell], fun j hj hne => Below.heap_setCell _ _ _ _ (by simpa using hne)⟩
    have X0 : ∀ v : Value, (w.setCell ⟨k, 0, none⟩ v).cell? ⟨g, o, none⟩ = some (.int .u8 x) := fun v => cell_of' x0 (Below.heap_setCell _ _ _ _ hgk)
    have KK : ∀ v : Value, (w.setCell ⟨k, 0, none⟩ v).heap[k]? = some (.cells #[v, ov, .int .i64 ft] 89 (0, 0)) := fun v => setCell_heap w k 0 v _ _ _ HK.out
    have LL : ∀ v : Value, LAt (w.setCell ⟨k, 0, none⟩ v) M k (some ⟨g, o + 1, none⟩) t := fun v hne => ⟨g, o + 1, rfl, hgk, hg, fun j y hy => by
      have := hb (j + 1) y (by simpa using hy)
      rw [show o + (j + 1) = o + 1 + j by omega] at this
      exact cell_of' this (Below.heap_setCell _ _ _ _ hgk)⟩
    have HGS := Lib.hid GS
    have HX0 := Lib.hid X0
    have HKK := Lib.hid KK
    have HLL := Lib.hid LL
    clear GS X0 KK LL hb
    go_wp2_with (fail)
    · have ht : t = [] := by assumption
      subst ht
      go_ret
      exact ⟨g, o, some ⟨g, o, none⟩, rfl, HX0.out _, ⟨HGS.out _, HKK.out _⟩, fun h => absurd rfl h⟩
    · go_ret
      exact ⟨g, o, some ⟨g, o + 1, none⟩, rfl, HX0.out _, ⟨HGS.out _, HKK.out _⟩, HLL.out _⟩
end Go.Proofs.Ytibelfljlhcibaa
