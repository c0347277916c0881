/- How the ledger laws' arguments read. -/
import Derived.Test.YtecdmbcdkfjgfaaK
import Derived.Test.YtecdmbcdkfjgfaaR
namespace Go.Proofs.Ytecdmbcdkfjgfaa
open Go.RowKit

structure Lg where
  ph : Int
  ep : Int
  pe : Int
structure Case where
  server : Int
  home : Int
  l : Lg
  record : Int
  epoch : Int
  peer : Int
  message : Int
  sent : Int
  sender : Int
abbrev i64R : Rd Int := Rd.int .i64
def RdLg : Rd Lg := Rd.iso (Rd.pair i64R (Rd.pair i64R (Rd.pair i64R Rd.unit))) (fun l => (l.ph, l.ep, l.pe, ()))
def RdCase : Rd Case := Rd.iso (Rd.pair i64R (Rd.pair i64R (Rd.pair RdLg (Rd.pair i64R (Rd.pair i64R (Rd.pair i64R (Rd.pair i64R (Rd.pair i64R (Rd.pair i64R Rd.unit)))))))))
  (fun c => (c.server, c.home, c.l, c.record, c.epoch, c.peer, c.message, c.sent, c.sender, ()))
def Lg.cells (l : Lg) : List Value := [.int .i64 l.ph, .int .i64 l.ep, .int .i64 l.pe]
def Case.cells (c : Case) : List Value := [.int .i64 c.server, .int .i64 c.home, .int .i64 c.l.ph, .int .i64 c.l.ep, .int .i64 c.l.pe, .int .i64 c.record, .int .i64 c.epoch, .int .i64 c.peer, .int .i64 c.message, .int .i64 c.sent, .int .i64 c.sender]
/-- An int of the machine. -/
def in64 (x : Int) : Prop := (Lit.int .i64 x).wf = true
def Lg.ok (l : Lg) : Prop := in64 l.ph ∧ in64 l.ep ∧ in64 l.pe
def Case.ok (c : Case) : Prop := in64 c.server ∧ in64 c.home ∧ c.l.ok ∧ in64 c.record ∧ in64 c.epoch ∧ in64 c.peer ∧ in64 c.message ∧ in64 c.sent ∧ in64 c.sender
theorem rdLg {w : World} {x : Lg} {cs : List Value} (h : RdLg.rd w x cs) : cs = x.cells ∧ x.ok := by
  obtain ⟨_, _, rfl, ⟨rfl, h1⟩, _, _, rfl, ⟨rfl, h2⟩, _, _, rfl, ⟨rfl, h3⟩, rfl⟩ := h
  exact ⟨rfl, h1, h2, h3⟩
theorem rdCase {w : World} {x : Case} {cs : List Value} (h : RdCase.rd w x cs) : cs = x.cells ∧ x.ok := by
  obtain ⟨_, _, rfl, ⟨rfl, h1⟩, _, _, rfl, ⟨rfl, h2⟩, _, _, rfl, h3, _, _, rfl, ⟨rfl, h4⟩, _, _, rfl, ⟨rfl, h5⟩, _, _, rfl, ⟨rfl, h6⟩, _, _, rfl, ⟨rfl, h7⟩, _, _, rfl, ⟨rfl, h8⟩, _, _, rfl, ⟨rfl, h9⟩, rfl⟩ := h
  obtain ⟨e3, k3⟩ := rdLg h3
  subst e3
  exact ⟨rfl, h1, h2, k3, h4, h5, h6, h7, h8, h9⟩
theorem opens_i64 (W : World) : Opens Try.prog W 3 i64R := opens_int Try.underlying3
theorem opens_Lg (W : World) : Opens Try.prog W 24 RdLg :=
  opens_iso _ (fun p => ⟨p.1, p.2.1, p.2.2.1⟩) (fun _ => rfl) (opens_struct Try.underlying24 (by kernel_rfl) (opensFs_cons rfl (by kernel_rfl) (opens_i64 W) (opensFs_cons rfl (by kernel_rfl) (opens_i64 W) (opensFs_cons rfl (by kernel_rfl) (opens_i64 W) (opensFs_nil _)))))
theorem opens_Case (W : World) : Opens Try.prog W 26 RdCase :=
  opens_iso _ (fun p => ⟨p.1, p.2.1, p.2.2.1, p.2.2.2.1, p.2.2.2.2.1, p.2.2.2.2.2.1, p.2.2.2.2.2.2.1, p.2.2.2.2.2.2.2.1, p.2.2.2.2.2.2.2.2.1⟩) (fun _ => rfl)
    (opens_struct Try.underlying26 (by kernel_rfl) (opensFs_cons rfl (by kernel_rfl) (opens_i64 W) (opensFs_cons rfl (by kernel_rfl) (opens_i64 W) (opensFs_cons rfl (by kernel_rfl) (opens_Lg W)
      (opensFs_cons rfl (by kernel_rfl) (opens_i64 W) (opensFs_cons rfl (by kernel_rfl) (opens_i64 W) (opensFs_cons rfl (by kernel_rfl) (opens_i64 W) (opensFs_cons rfl (by kernel_rfl) (opens_i64 W) (opensFs_cons rfl (by kernel_rfl) (opens_i64 W) (opensFs_cons rfl (by kernel_rfl) (opens_i64 W) (opensFs_nil _)))))))))))
theorem opens_Cases (W : World) : Opens Try.prog W 22 (Rd.slice RdCase 88) :=
  opens_slice Try.underlying22 (opens_Case W) (by kernel_rfl) (by decide) (by kernel_rfl)
/-- A case among those that came in: its cells. -/
theorem case_at {w : World} {A : Option Addr} {xs : List Case} (h : RdCase.elems w A xs) {i : Nat} (hi : i < xs.length) : ∃ b o, A = some ⟨b, o, none⟩ ∧ xs[i].ok ∧ ∀ j v, xs[i].cells[j]? = some v → w.cell? ⟨b, o + i * 11 + j, none⟩ = some v := by
  obtain ⟨b, o, cs, hA, hr, hc⟩ := h i xs[i] (List.getElem?_eq_getElem hi)
  obtain ⟨rfl, hok⟩ := rdCase hr
  exact ⟨b, o, hA, hok, hc⟩
theorem reach_maxLen {n k : Nat} (hk : 0 < k) (h : n * k ≤ reach) : n ≤ 9223372036854775807 := by
  unfold reach at h
  have : n * 1 ≤ n * k := Nat.mul_le_mul_left _ hk
  omega
end Go.Proofs.Ytecdmbcdkfjgfaa
