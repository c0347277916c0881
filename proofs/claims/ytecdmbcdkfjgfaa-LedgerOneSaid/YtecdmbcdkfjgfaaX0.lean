/- How LedgerOne's and LedgerEnds' arguments read; what is kept from act to act. -/
import Derived.Test.YtecdmbcdkfjgfaaV7
import Derived.Test.YtecdmbcdkfjgfaaV8
import Derived.Test.YtecdmbcdkfjgfaaE1
namespace Go.Proofs.Ytecdmbcdkfjgfaa
set_option linter.unusedVariables false
set_option linter.unusedSimpArgs false
open Go.RowKit Go.Deep Go.Proofs.YtecdmbcdkfjgfaaW.PrintLast

structure Ac where
  kd : Int
  who : Int
  peer : Int
  n : Int
def RdAc : Rd Ac := Rd.iso (Rd.pair i64R (Rd.pair i64R (Rd.pair i64R (Rd.pair i64R Rd.unit)))) (fun l => (l.kd, l.who, l.peer, l.n, ()))
def Ac.cells (l : Ac) : List Value := [.int .i64 l.kd, .int .i64 l.who, .int .i64 l.peer, .int .i64 l.n]
theorem rdAc {w : World} {x : Ac} {cs : List Value} (h : RdAc.rd w x cs) : cs = x.cells := by
  obtain ⟨_, _, rfl, ⟨rfl, h1⟩, _, _, rfl, ⟨rfl, h2⟩, _, _, rfl, ⟨rfl, h3⟩, _, _, rfl, ⟨rfl, h4⟩, rfl⟩ := h
  rfl
theorem opens_Ac (W : World) : Opens Try.prog W 53 RdAc :=
  opens_iso _ (fun p => ⟨p.1, p.2.1, p.2.2.1, p.2.2.2.1⟩) (fun _ => rfl) (opens_struct Try.underlying53 (by kernel_rfl) (opensFs_cons rfl (by kernel_rfl) (opens_i64 W) (opensFs_cons rfl (by kernel_rfl) (opens_i64 W) (opensFs_cons rfl (by kernel_rfl) (opens_i64 W) (opensFs_cons rfl (by kernel_rfl) (opens_i64 W) (opensFs_nil _))))))
theorem opens_Acs (W : World) : Opens Try.prog W 55 (Rd.slice RdAc 32) :=
  opens_slice Try.underlying55 (opens_Ac W) (by kernel_rfl) (by decide) (by kernel_rfl)
theorem ac_at {w : World} {A : Option Addr} {xs : List Ac} (h : RdAc.elems w A xs) {i : Nat} (hi : i < xs.length) : ∃ b o, A = some ⟨b, o, none⟩ ∧ w.cell? ⟨b, o + i * 4, none⟩ = some (.int .i64 xs[i].kd) ∧ w.cell? ⟨b, o + i * 4 + 1, none⟩ = some (.int .i64 xs[i].who) ∧ w.cell? ⟨b, o + i * 4 + 2, none⟩ = some (.int .i64 xs[i].peer) ∧ w.cell? ⟨b, o + i * 4 + 3, none⟩ = some (.int .i64 xs[i].n) := by
  obtain ⟨b, o, cs, hA, hr, hc⟩ := h i xs[i] (List.getElem?_eq_getElem hi)
  obtain rfl := rdAc hr
  exact ⟨b, o, hA, hc 0 _ rfl, hc 1 _ rfl, hc 2 _ rfl, hc 3 _ rfl⟩
/-- A world of the law's own, in which all is well; k: how many messages at most. -/
def St (N b : Nat) (w : World) (W : Wd) (k : Nat) : Prop := ∃ g c s sv E H O, Rep w b g c s sv W ∧ Good W E H O ∧ W.sent.length ≤ k ∧ N ≤ b ∧ N ≤ g ∧ N ≤ s
theorem St.below {N b k : Nat} {w w' : World} {W : Wd} (h : St N b w W k) (hb : Below w.heap.size w w') : St N b w' W k := by
  obtain ⟨g, c, s, sv, E, H, O, R, h⟩ := h
  exact ⟨g, c, s, sv, E, H, O, R.below hb, h⟩
theorem St.begun {w w' : World} {n : Nat} {home : Int} (n8 : n ≤ 8) (h0 : 0 ≤ home) (hn : home < n) (h : Begun w w' (beganW n home)) : St w.heap.size w.heap.size w' (beganW n home) 0 ∧ Below w.heap.size w w' := by
  obtain ⟨g, c, hg, hB, R⟩ := h
  exact ⟨⟨g, c, _, _, _, _, _, R, began_good n8 h0 hn, by simp [beganW], Nat.le_refl _, hg, Nat.le_refl _⟩, hB⟩
end Go.Proofs.Ytecdmbcdkfjgfaa
