/- ParcelWrites: P1.1 to P1.4, P1.8: every answer of every script of calls to writers of these rooms, in whatever turns, and to none at all, is the document's. Conditions: none beyond the statement's own. -/
import Derived.Test.YtibelfljlhcibaaG5
import Derived.Test.YtibelfljlhcibaaRB
namespace Go.Proofs.Ytibelfljlhcibaa
set_option linter.unusedVariables false
set_option linter.unusedSimpArgs false
open Go.ChangeShapes Go.WideShapes Go.ChangeAt Go.RowKit Go.Deep Go.Proofs.YtibelfljlhcibaaW.PrintLast

theorem elPW : ElT Try.prog encPt 62 34 1 8 (.pointer none) := ⟨Try.underlying62, by kernel_rfl, rfl, by decide, fun _ => rfl, fun x u hu => by simp [encPt] at hu; subst hu; rfl⟩
theorem elQW : ElT Try.prog encPt 63 64 1 8 (.pointer none) := ⟨Try.underlying63, by kernel_rfl, rfl, by decide, fun _ => rfl, fun x u hu => by simp [encPt] at hu; subst hu; rfl⟩
theorem WLies_local (T : TypeId) : Local1 (WLies T) := fun w w' f f' k s h hb hf => (h.same hb).mono hf
abbrev PWq : ObP WS := ObQ (WLies TW) (WLies TE) WS.Ok
theorem PWq_local : Local PWq := ObQ.local_ (WLies_local TW) (WLies_local TE)
/-- No writer holds more than L bytes. -/
def LenO (L : Nat) (obs : Obs WS) : Prop := ∀ (i k m : Nat) (s : WS), obs[i]? = some (some (k, m, s)) → s.bs.length ≤ L
abbrev StW (w wr : World) (A : Option Addr) (cA : Nat) (B : Option Addr) (cB : Nat) (obs : Obs WS) : Prop := StI PWq 34 64 w wr A cA (ptsA obs) B cB (ptsB obs) obs
theorem LenO.le {L M : Nat} {obs : Obs WS} (h : LenO L obs) (hm : L ≤ M) : LenO M obs := fun i k m s hs => Nat.le_trans (h i k m s hs) hm
def PtStP (w : World) (A : Option Addr) (cA : Nat) (B : Option Addr) (cB : Nat) (n L : Nat) (obs : Obs WS) (e : Ending) (w' : World) : Prop := e = .returned (.bool true) ∧ ∃ obs', obs'.length = obs.length ∧ obs'[n]? = some none ∧ LenO L obs' ∧ StW w w' A cA B cB obs'
/-- A step by both of a pair, whichever it is. -/
theorem puts_st {w wr : World} {A B : Option Addr} {cA cB n L : Nat} {obs : Obs WS} (h : StW w wr A cA B cB obs) (hn : obs[n]? = some none) (hL : LenO L obs) {i : Nat} {o : Option (Nat × Nat × WS)} (hi : obs[i]? = some o) (kd wh x : Int) (u : Nat) (hu : u < 18446744073709551616) (x0 : -9223372036854775808 ≤ x) (x1 : x ≤ 9223372036854775807)
    {C : Option Addr} {c : Nat} {p : List Int} (hp : BSrc w C p) (hb : Byt p) (hl : L + 100 + p.length ≤ 140737488355000) :
    Calls Try.prog 37 #[.pointer (o.map fun x => ⟨x.1, 0, none⟩), .pointer (o.map fun x => ⟨x.2.1, 0, none⟩), .agg #[.int .i64 kd, .int .i64 wh, .int .u64 u, .int .i64 x, .slice C p.length c]] wr (PtStP w A cA B cB n (L + growN kd p) obs) := by
  have hbk := h.back
  have hL' : ∀ obs' : Obs WS, obs' = obs → LenO (L + growN kd p) obs' := fun obs' e i k m s hs => by subst e; exact Nat.le_trans (hL i k m s hs) (by omega)
  rcases o with _ | ⟨k, m, s⟩
  · refine (puts_nil kd wh x u hu x0 x1 (hp.below hbk) hb (by omega)).mono ?_
    rintro e w' ⟨rfl, hb⟩
    exact ⟨rfl, obs, rfl, hn, hL' _ rfl, h.below PWq_local hb⟩
  · obtain ⟨F, h1, h2, h3⟩ := h
    obtain ⟨q1, q2, q3⟩ := h1.ob i k m s hi
    have hsl := hL i k m s hi
    have hsp : SlAt wr w.heap.size (C, p.length, c) p := (SlAt.ofSrc (x := (C, p.length, c)) hp rfl (Nat.le_refl _)).below h3
    refine (puts_any (N := w.heap.size) (f := F (2 * i + 2)) (g := F (2 * i + 3)) ⟨fun b hb hg => by have := h1.fam.1 _ _ _ hb hg; omega, h1.fam.2 _, h1.fam.2 _⟩ h3.size (fun b hb => by rcases hb with hb | hb <;> exact h2 _ _ hb) q1 q2 q3 kd wh x u hu x0 x1 hsp hb (by omega)).mono ?_
    rintro e w' ⟨rfl, s', ht, hs'⟩
    refine ⟨rfl, obs.set i (some (k, m, s')), by simp, ?_, ?_, Stand.turnI PWq_local h1 h2 h3 hi ht⟩
    · rw [List.getElem?_set_ne (by rintro rfl; rw [hn] at hi; cases hi)]
      exact hn
    · intro i2 k2 m2 s2 h2
      by_cases e2 : i2 = i
      · subst e2
        rw [List.getElem?_set_self (List.getElem?_eq_some_iff.1 hi).1] at h2
        simp at h2
        obtain ⟨_, _, rfl⟩ := h2
        omega
      · rw [List.getElem?_set_ne (Ne.symm e2)] at h2
        have := hL i2 k2 m2 s2 h2
        omega
theorem tmod_fixH (a : Int) (n : Nat) (hn : 0 < n) : (if a.tmod n < 0 then a.tmod n + n else a.tmod n) = a % n := by
  rw [Int.tmod_eq_emod]
  have h0 := Int.emod_nonneg a (b := n) (by omega)
  have h1 := Int.emod_lt_of_pos a (b := n) (by omega)
  by_cases h : 0 ≤ a ∨ (n : Int) ∣ a
  · rw [if_pos h, if_neg (by omega)]; omega
  · rw [if_neg h]
    simp only [Int.natAbs_natCast]
    have hne : a % n ≠ 0 := fun hz => h (Or.inr (Int.dvd_of_emod_eq_zero hz))
    rw [if_pos (by omega)]; omega
/-- A place among n. -/
theorem placeW_any (a : Int) (n : Nat) (hn : 0 < n) (h1 : n ≤ 90000000000000) (a0 : -9223372036854775808 ≤ a) (a1 : a ≤ 9223372036854775807) (w : World) :
    Calls Try.prog 34 #[.int .i64 a, .int .i64 n] w fun e w' => e = .returned (.int .i64 ((a % (n : Int)).toNat : Nat)) ∧ w = w' := by
  have HF := Lib.hid (tmod_fixH a n hn)
  have b1 : a.tmod n < n := Int.tmod_lt_of_pos a (by omega)
  have b2 : -(n : Int) < a.tmod n := by have := Int.lt_tmod_of_pos a (b := n) (by omega); omega
  have HZ := Lib.hid (show (((a % (n : Int)).toNat : Nat) : Int) = a % (n : Int) from Int.toNat_of_nonneg (Int.emod_nonneg a (by omega)))
  rw [HZ.out]
  clear HZ
  go_enter Try.func34, Try.ntmps34
  go_wp2_with (fail)
  · go_ret
    rename_i h
    exact ⟨ret_i (by rw [← HF.out, if_pos h]), rfl⟩
  · go_ret
    rename_i h
    exact ⟨ret_i (by rw [← HF.out, if_neg (by omega)]), rfl⟩
abbrev PutT := Int × Int × Int × Int × List Int × Unit
abbrev RdPt : Rd PutT := Rd.pair i64R (Rd.pair i64R (Rd.pair u64R (Rd.pair i64R (Rd.pair RdBs Rd.unit))))
theorem opens_Pt (W : World) : Opens Try.prog W 61 RdPt :=
  opens_struct Try.underlying61 (by kernel_rfl) (opensFs_cons rfl (by kernel_rfl) (opens_i64 W) (opensFs_cons rfl (by kernel_rfl) (opens_i64 W) (opensFs_cons rfl (by kernel_rfl) (opens_u64 W) (opensFs_cons rfl (by kernel_rfl) (opens_i64 W) (opensFs_cons rfl (by kernel_rfl) (opens_bs W) (opensFs_nil _))))))
theorem opens_Pts (W : World) : Opens Try.prog W 59 (Rd.slice RdPt 56) := opens_slice Try.underlying59 (opens_Pt W) (by kernel_rfl) (by decide) (by kernel_rfl)
theorem pt_at {w : World} {A : Option Addr} {xs : List PutT} (h : RdPt.elems w A xs) {i : Nat} {x : PutT} (hi : xs[i]? = some x) :
    ∃ b o C c, ∃ u : Nat, A = some ⟨b, o, none⟩ ∧ w.cell? ⟨b, o + i * 5, none⟩ = some (.int .i64 x.1) ∧ w.cell? ⟨b, o + i * 5 + 1, none⟩ = some (.int .i64 x.2.1) ∧ w.cell? ⟨b, o + i * 5 + 2, none⟩ = some (.int .u64 u) ∧ w.cell? ⟨b, o + i * 5 + 3, none⟩ = some (.int .i64 x.2.2.2.1) ∧ w.cell? ⟨b, o + i * 5 + 4, none⟩ = some (.slice C x.2.2.2.2.1.length c) ∧
      In64 x.1 ∧ In64 x.2.1 ∧ In64 x.2.2.2.1 ∧ u < 18446744073709551616 ∧ Byt x.2.2.2.2.1 ∧ BSrc w C x.2.2.2.2.1 ∧ x.2.2.2.2.1.length ≤ reach := by
  obtain ⟨b, o, cs, hA, hr, hc⟩ := h i x hi
  obtain ⟨_, _, rfl, ⟨rfl, h1⟩, _, _, rfl, ⟨rfl, h2⟩, _, _, rfl, ⟨rfl, h3⟩, _, _, rfl, ⟨rfl, h4⟩, _, _, rfl, ⟨C, c, rfl, _, _, h6, _, h7⟩, rfl⟩ := hr
  obtain ⟨u, hu, hu2⟩ := u64_wf h3
  obtain ⟨h8, h9⟩ := bs_elems h7
  refine ⟨b, o, C, c, u, hA, hc 0 _ rfl, hc 1 _ rfl, ?_, hc 3 _ rfl, hc 4 _ rfl, in64_wf h1, in64_wf h2, in64_wf h4, hu2, h8, h9, by simpa using h6⟩
  have := hc 2 _ rfl
  rw [hu] at this
  exact this
/-- So many bytes may be laid down. -/
def tot : List PutT → Nat
  | [] => 0
  | x :: t => 10 + x.2.2.2.2.1.length + tot t
theorem tot_app (a b : List PutT) : tot (a ++ b) = tot a + tot b := by
  induction a with
  | nil => simp [tot]
  | cons x t ih => simp only [List.cons_append, tot, ih]; omega
theorem tot_take {l : List PutT} {i : Nat} {x : PutT} (h : l[i]? = some x) : tot (l.take (i + 1)) = tot (l.take i) + (10 + x.2.2.2.2.1.length) := by
  rw [List.take_add_one, h, tot_app]
  simp [tot]
theorem tot_le (l : List PutT) (i : Nat) : tot (l.take i) ≤ tot l := by
  have := tot_app (l.take i) (l.drop i)
  rw [List.take_append_drop] at this
  omega
end Go.Proofs.Ytibelfljlhcibaa
