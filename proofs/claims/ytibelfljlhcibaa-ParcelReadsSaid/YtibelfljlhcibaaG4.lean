/- ParcelReads: every answer of readers, in turns. -/
import Derived.Test.YtibelfljlhcibaaG3
import Derived.Test.YtibelfljlhcibaaL5
import Derived.Test.YtibelfljlhcibaaPGa
import Derived.Test.YtibelfljlhcibaaRB
namespace Go.Proofs.Ytibelfljlhcibaa
set_option linter.unusedVariables false
set_option linter.unusedSimpArgs false
open Go.ChangeShapes Go.WideShapes Go.ChangeAt Go.RowKit Go.Deep Go.Proofs.YtibelfljlhcibaaW.PrintLast

theorem elPR : ElT Try.prog encPt 47 28 1 8 (.pointer none) := ⟨Try.underlying47, by kernel_rfl, rfl, by decide, fun _ => rfl, fun x u hu => by simp [encPt] at hu; subst hu; rfl⟩
theorem elQR : ElT Try.prog encPt 48 51 1 8 (.pointer none) := ⟨Try.underlying48, by kernel_rfl, rfl, by decide, fun _ => rfl, fun x u hu => by simp [encPt] at hu; subst hu; rfl⟩
theorem RLies_local : Local1 RLies := fun w w' f f' k s h hb hf => (h.same hb).mono hf
theorem RefLies_local : Local1 RefLies := fun w w' f f' k s h hb hf => (h.same hb).mono hf
abbrev PRq : ObP RS := ObQ RLies RefLies (GoodR 140737488351232)
theorem PRq_local : Local PRq := ObQ.local_ RLies_local RefLies_local
abbrev StR (w wr : World) (A : Option Addr) (cA : Nat) (B : Option Addr) (cB : Nat) (obs : Obs RS) : Prop := StI PRq 28 51 w wr A cA (ptsA obs) B cB (ptsB obs) obs
def TkStP (w : World) (A : Option Addr) (cA : Nat) (B : Option Addr) (cB : Nat) (n : Nat) (obs : Obs RS) (e : Ending) (w' : World) : Prop := e = .returned (.bool true) ∧ ∃ obs', obs'.length = obs.length ∧ obs'[n]? = some none ∧ StR w w' A cA B cB obs'
/-- A step by both of a pair, whichever it is. -/
theorem takes_st {w wr : World} {A B : Option Addr} {cA cB n : Nat} {obs : Obs RS} (h : StR w wr A cA B cB obs) (hn : obs[n]? = some none) {i : Nat} {o : Option (Nat × Nat × RS)} (hi : obs[i]? = some o) (kd wh x : Int) (x0 : -9223372036854775808 ≤ x) (x1 : x ≤ 9223372036854775807) :
    Calls Try.prog 35 #[.pointer (o.map fun x => ⟨x.1, 0, none⟩), .pointer (o.map fun x => ⟨x.2.1, 0, none⟩), .agg #[.int .i64 kd, .int .i64 wh, .int .i64 x]] wr (TkStP w A cA B cB n obs) := by
  rcases o with _ | ⟨k, m, s⟩
  · refine (takes_nil wr kd wh x).mono ?_
    rintro e w' ⟨rfl, hb⟩
    exact ⟨rfl, obs, rfl, hn, h.below PRq_local hb⟩
  · obtain ⟨F, h1, h2, h3⟩ := h
    obtain ⟨q1, q2, q3⟩ := h1.ob i k m s hi
    refine (takes_any (f := F (2 * i + 2)) (g := F (2 * i + 3)) ⟨fun b hb hg => by have := h1.fam.1 _ _ _ hb hg; omega, h1.fam.2 _, h1.fam.2 _⟩ q1 q2 q3 kd wh x x0 x1).mono ?_
    rintro e w' ⟨rfl, s', ht⟩
    refine ⟨rfl, obs.set i (some (k, m, s')), by simp, ?_, Stand.turnI PRq_local h1 h2 h3 hi ht⟩
    rw [List.getElem?_set_ne (by rintro rfl; rw [hn] at hi; cases hi)]
    exact hn
theorem tmod_fixG (a : Int) (n : Nat) (hn : 0 < n) : (if a.tmod n < 0 then a.tmod n + n else a.tmod n) = a % n := by
  rw [Int.tmod_eq_emod]
  have h0 := Int.emod_nonneg a (b := n) (by omega)
  have h1 := Int.emod_lt_of_pos a (b := n) (by omega)
  by_cases h : 0 ≤ a ∨ (n : Int) ∣ a
  · rw [if_pos h, if_neg (by omega)]; omega
  · rw [if_neg h]
    simp only [Int.natAbs_natCast]
    have hne : a % n ≠ 0 := fun hz => h (Or.inr (Int.dvd_of_emod_eq_zero hz))
    rw [if_pos (by omega)]; omega
/-- A place among n. -/
theorem place_any (a : Int) (n : Nat) (hn : 0 < n) (h1 : n ≤ 9000000000000) (a0 : -9223372036854775808 ≤ a) (a1 : a ≤ 9223372036854775807) (w : World) :
    Calls Try.prog 34 #[.int .i64 a, .int .i64 n] w fun e w' => e = .returned (.int .i64 ((a % (n : Int)).toNat : Nat)) ∧ w = w' := by
  have HF := Lib.hid (tmod_fixG a n hn)
  have b1 : a.tmod n < n := Int.tmod_lt_of_pos a (by omega)
  have b2 : -(n : Int) < a.tmod n := by have := Int.lt_tmod_of_pos a (b := n) (by omega); omega
  have HZ := Lib.hid (show (((a % (n : Int)).toNat : Nat) : Int) = a % (n : Int) from Int.toNat_of_nonneg (Int.emod_nonneg a (by omega)))
  rw [HZ.out]
  clear HZ
  go_enter Try.func34, Try.ntmps34
  go_wp2_with (fail)
  · go_ret
    rename_i h
    exact ⟨ret_i (by rw [← HF.out, if_pos h]), rfl⟩
  · go_ret
    rename_i h
    exact ⟨ret_i (by rw [← HF.out, if_neg (by omega)]), rfl⟩
abbrev RdTk : Rd (Int × Int × Int × Unit) := Rd.pair i64R (Rd.pair i64R (Rd.pair i64R Rd.unit))
theorem opens_Tk (W : World) : Opens Try.prog W 55 RdTk :=
  opens_struct Try.underlying55 (by kernel_rfl) (opensFs_cons rfl (by kernel_rfl) (opens_i64 W) (opensFs_cons rfl (by kernel_rfl) (opens_i64 W) (opensFs_cons rfl (by kernel_rfl) (opens_i64 W) (opensFs_nil _))))
theorem opens_Tks (W : World) : Opens Try.prog W 46 (Rd.slice RdTk 24) := opens_slice Try.underlying46 (opens_Tk W) (by kernel_rfl) (by decide) (by kernel_rfl)
theorem tk_at {w : World} {A : Option Addr} {xs : List (Int × Int × Int × Unit)} (h : RdTk.elems w A xs) {i : Nat} {x : Int × Int × Int × Unit} (hi : xs[i]? = some x) :
    ∃ b o, A = some ⟨b, o, none⟩ ∧ w.cell? ⟨b, o + i * 3, none⟩ = some (.int .i64 x.1) ∧ w.cell? ⟨b, o + i * 3 + 1, none⟩ = some (.int .i64 x.2.1) ∧ w.cell? ⟨b, o + i * 3 + 2, none⟩ = some (.int .i64 x.2.2.1) ∧ In64 x.1 ∧ In64 x.2.1 ∧ In64 x.2.2.1 := by
  obtain ⟨b, o, cs, hA, hr, hc⟩ := h i x hi
  obtain ⟨_, _, rfl, ⟨rfl, h1⟩, _, _, rfl, ⟨rfl, h2⟩, _, _, rfl, ⟨rfl, h3⟩, rfl⟩ := hr
  exact ⟨b, o, hA, hc 0 _ rfl, hc 1 _ rfl, hc 2 _ rfl, in64_wf h1, in64_wf h2, in64_wf h3⟩
end Go.Proofs.Ytibelfljlhcibaa
