/- Readers: Leave. Readers: Enter. Readers: Enter itself. -/
import Derived.Test.YtibelfljlhcibaaPR1
import Derived.RegionTactic
import Derived.Test.YtibelfljlhcibaaPR4
import Derived.Test.YtibelfljlhcibaaPR5
namespace Go.Proofs.Ytibelfljlhcibaa
set_option linter.unusedVariables false
set_option linter.unusedSimpArgs false
open Go.RowKit Go.Deep Go.Proofs.YtibelfljlhcibaaW.PrintLast
section
variable {w w' w1 w2 : World} {F G : Nat → Prop} {k : Nat} {s s' : RS}
set_option maxRecDepth 100000 in
set_option maxHeartbeats 4000000 in
theorem rLeave_any (h : RLies w F k s) (hd : s.outer.length ≤ 16) : Calls Try.prog 42 #[.pointer (some ⟨k, 0, none⟩)] w fun e w' => e = .returned (.tuple #[]) ∧ UpdR F k w w' s.leave := by
  have H := Lib.hid h
  have hkF := h.in_
  obtain ⟨A, OA, oc, ss, hk, _, hL, hR, hO⟩ := h
  obtain ⟨left, outer, ft⟩ := s
  simp only at hd hk hL hR hO
  have c0 := cell_blk hk 0 rfl
  have c1 := cell_blk hk 1 rfl
  have c2 := cell_blk hk 2 rfl
  have f0 := free_blk hk 0
  have f1 := free_blk hk 1
  have f2 := free_blk hk 2
  have HK := Lib.hid hk
  have HL := Lib.hid hL
  have HR := Lib.hid hR
  have HO := Lib.hid hO
  have F2 : ∀ e, UpdR F k w (w.setCell ⟨k, 2, none⟩ (.int .i64 e)) ⟨left, outer, e⟩ := fun e => UpdR.fault H.out e
  have HF2 := Lib.hid F2
  clear hk hL hR hO F2
  obtain ⟨t0, ht0⟩ := named (ft != 0)
  by_cases h0 : ft = 0
  · subst h0
    have e0 : t0 = false := by rw [← ht0]; rfl
    subst e0
    by_cases ho : outer.length = 0
    · have hon : outer = [] := List.length_eq_zero_iff.1 ho
      subst hon
      simp only [List.length_nil] at c1
      go_enter Try.func42, Try.ntmps42
      go_wp2_with (fail)
      go_end0
      refine ⟨rfl, ?_⟩
      unfold RS.leave
      rw [if_pos rfl]
      exact HF2.out 2
    · obtain ⟨m, hm⟩ : ∃ m, outer.length = m + 1 := ⟨outer.length - 1, by omega⟩
      rw [hm] at c1
      have z1 : (((m + 1 : Nat) : Int) == 0) = false := by simp; omega
      have hmb : m ≤ 15 := by omega
      cases left with
      | cons x t =>
        simp only [List.length_cons] at c0
        go_enter Try.func42, Try.ntmps42
        go_wp2_with (fail)
        go_end0
        refine ⟨rfl, ?_⟩
        have he : (⟨x :: t, outer, 0⟩ : RS).leave = ⟨x :: t, outer, 12⟩ := by
          unfold RS.leave
          rw [if_pos rfl]
          cases hg : outer.getLast? with
          | none => rw [List.getLast?_eq_none_iff] at hg; rw [hg] at hm; simp at hm
          | some l => simp
        rw [he]
        exact HF2.out 12
      | nil =>
        simp only [List.length_nil] at c0
        have hsl : ss.length = m + 1 := by rw [HO.out.1, hm]
        obtain ⟨l, hl⟩ : ∃ l, outer[m]? = some l := ⟨_, List.getElem?_eq_getElem (by omega)⟩
        obtain ⟨⟨A9, n9, c9⟩, hs⟩ : ∃ s, ss[m]? = some s := ⟨_, List.getElem?_eq_getElem (by omega)⟩
        obtain ⟨hlc, hlb⟩ := HO.out.2 m _ _ hs hl
        injection hlc with hn9 hc9
        subst hn9; subst hc9
        obtain ⟨g, rfl, hcell⟩ := HR.out.cell hs (j := 0) (v := .slice A9 l.length l.length) rfl
        simp only [Nat.mul_one, Nat.add_zero] at hcell
        have q1 : (m : Int) < ((m + 1 : Nat) : Int) := by omega
        have hle : outer.length ≤ oc := by have := HR.out.le; omega
        have hoc : m ≤ oc := by omega
        have hoc2 : (m : Int) ≤ (oc : Int) := by omega
        have hd1 : (w.setCell ⟨k, 0, none⟩ (.slice A9 l.length l.length)).cell? ⟨k, 1, none⟩ = some (.slice (some ⟨g, 0, none⟩) (m + 1) oc) := by
          have := cell_blk (setCell_heap w k 0 (.slice A9 l.length l.length) _ _ _ HK.out) 1 rfl
          rw [hm] at this; exact this
        have hd2 : (w.setCell ⟨k, 1, none⟩ (.slice (some ⟨g, 0, none⟩) m oc)).cell? ⟨k, 0, none⟩ = some (.slice A 0 0) := cell_blk (setCell_heap w k 1 (.slice (some ⟨g, 0, none⟩) m oc) _ _ _ HK.out) 0 rfl
        have LV : UpdR F k w ((w.setCell ⟨k, 0, none⟩ (.slice A9 l.length l.length)).setCell ⟨k, 1, none⟩ (.slice (some ⟨g, 0, none⟩) m oc)).drew (⟨[], outer, 0⟩ : RS).leave := by
          have he : (⟨[], outer, 0⟩ : RS).leave = ⟨l, outer.take m, 0⟩ := by
            unfold RS.leave
            rw [if_pos rfl]
            have hg : outer.getLast? = some l := by rw [List.getLast?_eq_getElem?, hm]; exact hl
            simp only [hg]
            rw [if_pos trivial, List.dropLast_eq_take, hm]
            rfl
          rw [he]
          have K1 := fun (T : TypeId) (hne : T ≠ TR) => (KeepT.setCell HK.out hne 0 (.slice A9 l.length l.length))
          have hk1 := setCell_heap w k 0 (.slice A9 l.length l.length) _ _ _ HK.out
          have K2 := fun (T : TypeId) (hne : T ≠ TR) => (K1 T hne).trans (KeepT.setCell hk1 hne 1 (.slice (some ⟨g, 0, none⟩) m oc))
          have hk2 := setCell_heap _ k 1 (.slice (some ⟨g, 0, none⟩) m oc) _ _ _ hk1
          have hml : (outer.take m).length = m := by rw [List.length_take, hm]; omega
          refine ⟨⟨A9, some ⟨g, 0, none⟩, oc, ss.take m, ?_, hkF, hlb.keeps (K2 _ (by decide)), (HR.out.take m).keeps (K2 _ (by decide)), ?_⟩, ((Fr.set w hkF _).trans (Fr.set _ hkF _) fun _ _ h => h).trans (Fr.drew F _) fun _ _ h => h⟩
          · simp only [hml]
            exact hk2
          · refine ⟨by rw [hml, List.length_take, hsl]; omega, fun i s' l' hs' hl' => ?_⟩
            rw [List.getElem?_take] at hs' hl'
            split at hs'
            · rename_i hi
              rw [if_pos hi] at hl'
              obtain ⟨h1, h2⟩ := HO.out.2 i _ _ hs' hl'
              exact ⟨h1, h2.keeps (K2 _ (by decide))⟩
            · cases hs'
        have HLV := Lib.hid LV
        have HLB := Lib.hid hlb
        have HHL := Lib.hid hl
        have HHM := Lib.hid hm
        have HSL := Lib.hid hsl
        clear hs hl hlb hle hsl hm hd ho LV
        go_enter Try.func42, Try.ntmps42
        go_upto_region 2 with (fail)
        go_region
        all_goals
          go_wp2_with (fail)
          go_end0
          exact ⟨rfl, HLV.out⟩
  · have HN := Lib.hid h0
    have e0 : t0 = true := by rw [← ht0]; simpa using h0
    subst e0
    clear h0
    go_enter Try.func42, Try.ntmps42
    go_wp2_with (fail)
    go_end0
    refine ⟨rfl, ?_⟩
    have he : (⟨left, outer, ft⟩ : RS).leave = ⟨left, outer, ft⟩ := by unfold RS.leave; rw [if_neg HN.out]
    rw [he]
    exact UpdR.refl H.out
theorem rLeave_nil (w : World) : Calls Try.prog 42 #[.pointer none] w fun e w' => e = .returned (.tuple #[]) ∧ w = w' := by
  go_enter Try.func42, Try.ntmps42
  go_wp2_with (fail)
  go_end0
  exact ⟨rfl, rfl⟩
end
end Go.Proofs.Ytibelfljlhcibaa
namespace Go.Proofs.Ytibelfljlhcibaa
set_option linter.unusedVariables false
set_option linter.unusedSimpArgs false
open Go.RowKit Go.Deep Go.Proofs.YtibelfljlhcibaaW.PrintLast

def maxU : Nat := 18446744073709551615
def enterO (s : RS) : Option Nat × RS := if s.outer.length = 16 then (some 0, { s with ft := 11 }) else match (sizeO s maxU).1 with
  | none => (none, (sizeO s maxU).2)
  | some n => if (sizeO s maxU).2.ft = 0 then (some n, { (sizeO s maxU).2 with left := (sizeO s maxU).2.left.take n, outer := (sizeO s maxU).2.outer ++ [(sizeO s maxU).2.left.drop n] }) else (some n, (sizeO s maxU).2)
def Enter1P (F : Nat → Prop) (k : Nat) (w : World) (s : RS) (e : Ending) (w' : World) : Prop := UpdN true F k w w' (enterO s).2 ∧ match (enterO s).1 with
  | some n => e = .returned (.int .i64 (n : Int))
  | none => IsPanic e
section
variable {w w' w1 w2 : World} {F G : Nat → Prop} {k : Nat} {s s' : RS}
/-- What is left goes behind the others; the frame is what is left. -/
theorem enter_step {w3 w0 : World} {p l : List Int} {outer : List (List Int)} {A' : Option Addr} (U : UpdR F k w0 w3 ⟨l, outer, 0⟩) (hp : LB w3 F A' p) (ho : outer.length ≤ 16) :
    ∃ A OA oc A3 c3 w4, w3.heap[k]? = some (.cells #[.slice A l.length l.length, .slice OA outer.length oc, .int .i64 0] TR (0, 0)) ∧
      (Builtin.append_ #[45, 45] 45 #[.slice OA outer.length oc, .slice (some ⟨w3.drew.heap.size, 0, none⟩) 1 1]).run Try.prog (w3.drew.alloc (.cells #[.slice A l.length l.length] 23)) = .ok (.slice A3 (outer.length + 1) c3) w4 ∧
      w4.heap[k]? = some (.cells #[.slice A l.length l.length, .slice OA outer.length oc, .int .i64 0] TR (0, 0)) ∧ KeepT 28 w3 w4 ∧
      UpdN true F k w0 ((w4.setCell ⟨k, 1, none⟩ (.slice A3 (outer.length + 1) c3)).setCell ⟨k, 0, none⟩ (.slice A' p.length p.length)) ⟨p, outer ++ [l], 0⟩ := by
  obtain ⟨⟨A, OA, oc, ss, hk, hkF, hL, hR, hO⟩, hFr⟩ := U
  simp only at hk hL hR hO
  have hsl := hO.1
  obtain ⟨A3, c3, w4, hrun, R3, F3, K3⟩ := RowF.append (ys := [((A, l.length, l.length) : SlB)]) elSl ((hR.keeps (KeepT.drew _ w3)).keeps (KeepT.alloc _ w3.drew (.cells #[.slice A l.length l.length] 23))) 45 (some ⟨w3.drew.heap.size, 0, none⟩) 1
    (fun _ => ⟨w3.drew.heap.size, 0, rfl, fun i y hy j v hv => by
      have hi : i = 0 := by rcases i with _ | i; rfl; simp at hy
      subst hi
      simp at hy; subst hy
      have hj : j = 0 := by rcases j with _ | j; rfl; simp [encSl] at hv
      subst hj
      simp [encSl] at hv; subst hv
      exact cell_blk (blk_new w3.drew _) 0 rfl⟩) (by simp only [maxLen, List.length_singleton]; omega) (by simp only [List.length_singleton]; omega)
  have K34 : ∀ T, T ≠ 23 → KeepT T w3 w4 := fun T hT => ((KeepT.drew T w3).trans (KeepT.alloc T w3.drew _)).trans (K3 T hT)
  have hk4 := K34 TR (by decide) _ _ hk
  have hk5 := setCell_heap w4 k 1 (.slice A3 (outer.length + 1) c3) _ _ _ hk4
  have hk6 := setCell_heap _ k 0 (.slice A' p.length p.length) _ _ _ hk5
  have K46 : ∀ T, T ≠ TR → KeepT T w4 ((w4.setCell ⟨k, 1, none⟩ (.slice A3 (outer.length + 1) c3)).setCell ⟨k, 0, none⟩ (.slice A' p.length p.length)) := fun T hT => (KeepT.setCell hk4 hT 1 _).trans (KeepT.setCell hk5 hT 0 _)
  have Kb := (K34 5 (by decide)).trans (K46 5 (by decide))
  have hsz : ((w4.setCell ⟨k, 1, none⟩ (.slice A3 (outer.length + 1) c3)).setCell ⟨k, 0, none⟩ (.slice A' p.length p.length)).heap.size = w4.heap.size := by rw [setCell_size, setCell_size]
  have hs34 : w3.heap.size + 1 ≤ w4.heap.size := by have := F3.size; simpa using this
  have hs03 := hFr.size
  refine ⟨A, OA, oc, A3, c3, w4, hk, ?_, hk4, K34 _ (by decide), ⟨A', A3, c3, ss ++ [(A, l.length, l.length)], ?_, Or.inl hkF, ?_, ?_, ?_⟩, ?_⟩
  · rw [hsl] at hrun
    simpa [encSl] using hrun
  · simpa using hk6
  · exact (hp.keeps Kb).mono fun _ h => Or.inl h
  · refine (R3.keeps (K46 _ (by decide))).mono fun x hx => ?_
    rcases hx with hx | hx
    · exact Or.inl hx
    · refine Or.inr ⟨rfl, ?_, by rw [hsz]; exact hx.2⟩
      have := hx.1
      simp at this; omega
  · refine ⟨by simp [hsl], fun i s' l' hs' hl' => ?_⟩
    by_cases hi : i < outer.length
    · rw [List.getElem?_append_left (by omega)] at hs'
      rw [List.getElem?_append_left hi] at hl'
      obtain ⟨g1, g2⟩ := hO.2 i _ _ hs' hl'
      exact ⟨g1, (g2.keeps Kb).mono fun _ h => Or.inl h⟩
    · rw [List.getElem?_append_right (by omega)] at hs'
      rw [List.getElem?_append_right (by omega)] at hl'
      rw [hsl] at hs'
      have h0 : i - outer.length = 0 := by
        have := (List.getElem?_eq_some_iff.1 hl').1
        simp at this; omega
      rw [h0] at hs' hl'
      simp at hs' hl'
      subst hs'; subst hl'
      exact ⟨rfl, (hL.keeps Kb).mono fun _ h => Or.inl h⟩
  · refine hFr.trans (((((Fr.drew F w3).trans (Fr.alloc F _ _) fun _ _ h => h).trans F3 fun _ _ h => h).trans (Fr.set _ hkF _) fun _ _ h => h).trans (Fr.set _ hkF _) fun _ _ h => h) fun _ _ h => h
end
end Go.Proofs.Ytibelfljlhcibaa
namespace Go.Proofs.Ytibelfljlhcibaa
set_option linter.unusedVariables false
set_option linter.unusedSimpArgs false
open Go.RowKit Go.Deep Go.Proofs.YtibelfljlhcibaaW.PrintLast
section
variable {w w' w1 w2 : World} {F G : Nat → Prop} {k : Nat} {s s' : RS}
set_option maxRecDepth 100000 in
set_option maxHeartbeats 4000000 in
theorem enter1_any {z : Nat} (hz : w.heap[z]? = some (.cells #[.pointer (some ⟨k, 0, none⟩)] 28 (0, 0))) (h : RLies w F k s) (hft : s.ft = 0) (hb : Byt s.left) (hd : s.outer.length ≤ 16) (h63 : s.left.length ≤ 140737488355328) (hzF : ¬ F z) :
    Calls Try.prog 98 #[.pointer (some ⟨z, 0, none⟩)] w (Enter1P F k w s) := by
  have z0 := cell_blk hz 0 rfl
  have HZ := Lib.hid hz
  have hzl := blk_lt hz
  have hkF := h.in_
  have hzk : z ≠ k := by rintro rfl; exact hzF hkF
  by_cases h16 : s.outer.length = 16
  · have HR := Lib.hid (show Enter1P F k w s (.returned (.int .i64 0)) (w.setCell ⟨k, 2, none⟩ (.int .i64 11)) by
      unfold Enter1P enterO
      rw [if_pos h16]
      exact ⟨(UpdR.fault h 11).n true, rfl⟩)
    obtain ⟨A, OA, oc, ss, hk, _⟩ := h
    rw [h16] at hk
    have c1 := cell_blk hk 1 rfl
    have c2 := cell_blk hk 2 rfl
    have f2 := free_blk hk 2
    clear hk h16 hb hd hz
    go_enter Try.func98, Try.ntmps98
    go_wp2_with (fail)
    go_ret
    exact HR.out
  · have SZ := Lib.hid (size_any h hft hb (by omega) maxU (by decide))
    have hll := sizeO_left s maxU
    have hnl := readN_len s.left 0 0
    have hlen : (sizeO s maxU).2.left.length ≤ 140737488355328 := by rw [hll.1]; exact Nat.le_trans hnl h63
    have HLEN := Lib.hid hlen
    have HOU := Lib.hid hll.2
    obtain ⟨A, OA, oc, ss, hk, _⟩ := h
    obtain ⟨D, hD⟩ : ∃ D, D = s.outer.length := ⟨_, rfl⟩
    rw [← hD] at hk h16 hd
    have HD := Lib.hid hD
    have c1 := cell_blk hk 1 rfl
    have z1 : ((D : Int) == 16) = false := by simp; omega
    have H16 := Lib.hid h16
    clear hk hb hz hD hll hnl hlen h16
    go_enter Try.func98, Try.ntmps98
    go_wp2_with (fail)
    refine (show Calls Try.prog 96 #[.pointer (some ⟨k, 0, none⟩), .int .u64 18446744073709551615] w (SizeP F k w s maxU) from SZ.out).mono ?_
    rintro e w2 hn
    unfold SizeP at hn
    cases ho : (sizeO s maxU).1 with
    | none =>
      rw [ho] at hn
      obtain ⟨U, u, pv, rfl⟩ := hn
      have HU := Lib.hid (show Enter1P F k w s (.panicked [{ v := .iface u pv, recovered := false }]) w2 by
        unfold Enter1P enterO
        rw [if_neg (by rw [← HD.out]; exact H16.out), ho]
        exact ⟨U.n true, u, pv, rfl⟩)
      clear U ho
      go_wp2_with (fail)
      exact ⟨rfl, HU.out⟩
    | some n =>
      rw [ho] at hn
      obtain ⟨U, rfl⟩ := hn
      have hnf := sizeO_fits s maxU n ho
      have hou := HOU.out
      have HEO := Lib.hid (show enterO s = (if (sizeO s maxU).2.ft = 0 then (some n, { (sizeO s maxU).2 with left := (sizeO s maxU).2.left.take n, outer := (sizeO s maxU).2.outer ++ [(sizeO s maxU).2.left.drop n] }) else (some n, (sizeO s maxU).2)) by
        unfold enterO
        rw [if_neg (by rw [← HD.out]; exact H16.out), ho])
      have hlen := HLEN.out
      clear ho
      generalize sizeO s maxU = r at *
      obtain ⟨_, ⟨l1, o1, f1⟩⟩ := r
      simp only at U hnf hou hlen
      have hz2 := (U.2.block z hzl hzF).trans HZ.out
      have y0 := cell_blk hz2 0 rfl
      obtain ⟨A2, OA2, oc2, ss2, hk2, _⟩ := id U.1
      have k2 := cell_blk hk2 2 rfl
      have HU := Lib.hid U
      have hnb : n ≤ 140737488355328 := by omega
      by_cases h0 : f1 = 0
      · subst h0
        have NX := next_any U.1 n (by omega) (show l1.length ≤ _ by omega)
        unfold NextP RS.next at NX
        rw [if_pos (show n ≤ l1.length from hnf)] at NX
        obtain ⟨p, hp⟩ : ∃ p, p = l1.take n := ⟨_, rfl⟩
        have HPL := Lib.hid (show p.length = n by rw [hp, List.length_take]; omega)
        rw [← hp] at NX
        have HP := Lib.hid hp
        have HN := Lib.hid NX
        have HF := Lib.hid hnf
        have HZ2 := Lib.hid hz2
        have HOO := Lib.hid hou
        clear U NX hp hnf hk2 hz2 hou hlen
        go_wp2_with (fail)
        refine HN.out.mono ?_
        rintro e w3 ⟨⟨A', rfl, hA⟩, U3⟩
        have hz3 := (U3.2.block z (blk_lt HZ2.out) hzF).trans HZ2.out
        obtain ⟨A4, OA4, oc4, A5, c5, w4, hk3, hrun, hk4, KP, UN⟩ := enter_step (HU.out.trans U3) hA (show o1.length ≤ 16 by rw [HOO.out, ← HD.out]; exact hd)
        have e0 := cell_blk hk3 0 rfl
        have e1 := cell_blk hk3 1 rfl
        have ez := cell_blk hz3 0 rfl
        have g0 := cell_blk hk4 0 rfl
        have g1 := cell_blk hk4 1 rfl
        have gf := free_blk hk4 1
        have hz4 := KP _ _ hz3
        have gz := cell_blk hz4 0 rfl
        have hk5 := setCell_heap w4 k 1 (.slice A5 (o1.length + 1) c5) _ _ _ hk4
        have p0 := cell_blk hk5 0 rfl
        have pf := free_blk hk5 0
        have pz : (w4.setCell ⟨k, 1, none⟩ (.slice A5 (o1.length + 1) c5)).cell? ⟨z, 0, none⟩ = some (.pointer (some ⟨k, 0, none⟩)) := cell_blk ((Below.heap_setCell _ _ _ _ hzk).trans hz4) 0 rfl
        have HRUN := Lib.hid hrun
        have HX := Lib.hid (And.intro gz (And.intro g1 g0))
        have HUN := Lib.hid UN
        have HPL2 := HPL.out
        rw [HPL2]
        clear hrun UN hk3 hk4 hz3 hz4 KP hk5 gz g1 g0 U3 hA HPL2
        have HFIN := Lib.hid (show Enter1P F k w s (.returned (.int .i64 (n : Int))) ((w4.setCell ⟨k, 1, none⟩ (.slice A5 (o1.length + 1) c5)).setCell ⟨k, 0, none⟩ (.slice A' n n)) by
          unfold Enter1P
          rw [HEO.out]
          first | rw [if_pos rfl] | rw [if_pos trivial]
          have := HUN.out
          rw [HPL.out, HP.out] at this
          exact ⟨this, rfl⟩)
        obtain ⟨L, hL⟩ : ∃ L, L = (l1.drop n).length := ⟨_, rfl⟩
        rw [← hL] at e0 HRUN HX
        clear HUN HEO hL y0 k2 z1 c1
        have hob : o1.length ≤ 16 := by rw [HOO.out, ← HD.out]; exact hd
        go_upto_region 7 with (fail)
        refine start_ (n := 14) (S := fun w' => w'.cell? ⟨z, 0, none⟩ = some (.pointer (some ⟨k, 0, none⟩)) ∧ w'.cell? ⟨k, 1, none⟩ = some (.slice OA4 o1.length oc4) ∧ w'.cell? ⟨k, 0, none⟩ = some (.slice A4 L L)) (ds := [13]) #[false, false, false, false, false, false, false, false, false, false, false, false, false, false] (by kernel_rfl) rfl rfl ⟨ez, e1, e0⟩ (fun hHeld => ?_)
        (refine take_ (i := 0) (N := some 23) (v := ?v_12) (a' := ?a_12) #[true, false, false, false, false, false, false, false, false, false, false, false, false, false] rfl rfl (by kernel_rfl) (fun _ _ _ h => h) (Or.inl ⟨by rfl, ?hy_12⟩) hHeld ?ha_12 ?hh_12; (case hy_12 => (rintro w' ⟨s0_, s1_, s2_⟩; go_simp; with_reducible rfl)); (case ha_12 => (simp (disch := omega) only [Act.put, List.setIfInBounds_toArray, List.set_cons_zero, List.set_cons_succ, wrap_in]; rfl)))
        (refine take_ (i := 1) (N := some 24) (v := ?v_13) (a' := ?a_13) #[true, true, false, false, false, false, false, false, false, false, false, false, false, false] rfl rfl (by kernel_rfl) (fun _ _ _ h => h) (Or.inl ⟨by rfl, ?hy_13⟩) hHeld ?ha_13 ?hh_13; (case hy_13 => (rintro w' ⟨s0_, s1_, s2_⟩; go_simp; with_reducible rfl)); (case ha_13 => (simp (disch := omega) only [Act.put, List.setIfInBounds_toArray, List.set_cons_zero, List.set_cons_succ, wrap_in]; rfl)))
        (refine take_ (i := 2) (N := some 25) (v := ?v_14) (a' := ?a_14) #[true, true, true, false, false, false, false, false, false, false, false, false, false, false] rfl rfl (by kernel_rfl) (fun _ _ _ h => h) (Or.inl ⟨by rfl, ?hy_14⟩) hHeld ?ha_14 ?hh_14; (case hy_14 => (rintro w' ⟨s0_, s1_, s2_⟩; go_simp; with_reducible rfl)); (case ha_14 => (simp (disch := omega) only [Act.put, List.setIfInBounds_toArray, List.set_cons_zero, List.set_cons_succ, wrap_in]; rfl)))
        (refine take_ (i := 3) (N := some 26) (v := ?v_15) (a' := ?a_15) #[true, true, true, true, false, false, false, false, false, false, false, false, false, false] rfl rfl (by kernel_rfl) (fun _ _ _ h => h) (Or.inl ⟨by rfl, ?hy_15⟩) hHeld ?ha_15 ?hh_15; (case hy_15 => (rintro w' ⟨s0_, s1_, s2_⟩; go_simp; with_reducible rfl)); (case ha_15 => (simp (disch := omega) only [Act.put, List.setIfInBounds_toArray, List.set_cons_zero, List.set_cons_succ, wrap_in]; rfl)))
        (refine take_ (i := 4) (N := some 27) (v := ?v_16) (a' := ?a_16) #[true, true, true, true, true, false, false, false, false, false, false, false, false, false] rfl rfl (by kernel_rfl) (fun _ _ _ h => h) (Or.inl ⟨by rfl, ?hy_16⟩) hHeld ?ha_16 ?hh_16; (case hy_16 => (rintro w' ⟨s0_, s1_, s2_⟩; go_simp; with_reducible rfl)); (case ha_16 => (simp (disch := omega) only [Act.put, List.setIfInBounds_toArray, List.set_cons_zero, List.set_cons_succ, wrap_in]; rfl)))
        (refine take_ (i := 5) (N := some 28) (v := ?v_17) (a' := ?a_17) #[true, true, true, true, true, true, false, false, false, false, false, false, false, false] rfl rfl (by kernel_rfl) (fun _ _ _ h => h) (Or.inl ⟨by rfl, ?hy_17⟩) hHeld ?ha_17 ?hh_17; (case hy_17 => (rintro w' ⟨s0_, s1_, s2_⟩; go_simp; with_reducible rfl)); (case ha_17 => (simp (disch := omega) only [Act.put, List.setIfInBounds_toArray, List.set_cons_zero, List.set_cons_succ, wrap_in]; rfl)))
        (refine take_ (i := 6) (N := some 29) (v := ?v_18) (a' := ?a_18) #[true, true, true, true, true, true, true, false, false, false, false, false, false, false] rfl rfl (by kernel_rfl) (fun _ _ _ h => h) (Or.inl ⟨by rfl, ?hy_18⟩) hHeld ?ha_18 ?hh_18; (case hy_18 => (rintro w' ⟨s0_, s1_, s2_⟩; go_simp; with_reducible rfl)); (case ha_18 => (simp (disch := omega) only [Act.put, List.setIfInBounds_toArray, List.set_cons_zero, List.set_cons_succ, wrap_in]; rfl)))
        (refine take_ (i := 7) (N := some 30) (v := ?v_19) (a' := ?a_19) #[true, true, true, true, true, true, true, true, false, false, false, false, false, false] rfl rfl (by kernel_rfl) (fun _ _ _ h => h) (Or.inl ⟨by rfl, ?hy_19⟩) hHeld ?ha_19 ?hh_19; (case hy_19 => (rintro w' ⟨s0_, s1_, s2_⟩; go_simp; with_reducible rfl)); (case ha_19 => (simp (disch := omega) only [Act.put, List.setIfInBounds_toArray, List.set_cons_zero, List.set_cons_succ, wrap_in]; rfl)))
        (refine take_ (i := 8) (N := some 31) (v := ?v_20) (a' := ?a_20) #[true, true, true, true, true, true, true, true, true, false, false, false, false, false] rfl rfl (by kernel_rfl) (fun _ _ _ h => h) (Or.inl ⟨by rfl, ?hy_20⟩) hHeld ?ha_20 ?hh_20; (case hy_20 => (rintro w' ⟨s0_, s1_, s2_⟩; go_simp; with_reducible rfl)); (case ha_20 => (simp (disch := omega) only [Act.put, List.setIfInBounds_toArray, List.set_cons_zero, List.set_cons_succ, wrap_in]; rfl)))
        refine one_ (i := 9) (N := some 32) #[true, true, true, true, true, true, true, true, true, true, false, false, false, false] rfl rfl (by kernel_rfl) (by decide) (fun K hK => ?_)
        (refine value_ (v := ?v_1) (w1 := ?w1_1) (by rfl) rfl ?hr_1 ?hk_1; (case hr_1 => (go_simp; first | with_reducible rfl | (constructor <;> with_reducible rfl))))
        (refine hK.out _ _ ?hs_2 ?hn_2; (case hs_2 => (obtain ⟨s0_, s1_, s2_⟩ := hHeld; exact ⟨cell_alloc_old s0_ _, cell_alloc_old s1_ _, cell_alloc_old s2_ _⟩)); intro hHeld; clear hK K)
        (refine norm_ (a' := ?a_3) ?ha_3 ?hh_3; (case ha_3 => (simp (disch := omega) only [Act.put, List.setIfInBounds_toArray, List.set_cons_zero, List.set_cons_succ, wrap_in]; rfl)))
        refine one_ (i := 10) (N := some 33) #[true, true, true, true, true, true, true, true, true, true, true, false, false, false] rfl rfl (by kernel_rfl) (by decide) (fun K hK => ?_)
        (have hrun := HRUN.out; refine value_ (by rfl) rfl (runapp_ hrun (by rfl) (by rfl) (by rfl) (by rfl)) ?hk_4)
        (refine hK.out _ _ ?hs_5 ?hn_5; (case hs_5 => (exact HX.out)); intro hHeld; clear hK K)
        (refine norm_ (a' := ?a_6) ?ha_6 ?hh_6; (case ha_6 => (simp (disch := omega) only [Act.put, List.setIfInBounds_toArray, List.set_cons_zero, List.set_cons_succ, wrap_in]; rfl)))
        (refine take_ (i := 11) (N := some 34) (v := ?v_7) (a' := ?a_7) #[true, true, true, true, true, true, true, true, true, true, true, true, false, false] rfl rfl (by kernel_rfl) (fun _ _ _ h => h) (Or.inl ⟨by rfl, ?hy_7⟩) hHeld ?ha_7 ?hh_7; (case hy_7 => (rintro w' ⟨s0_, s1_, s2_⟩; go_simp; with_reducible rfl)); (case ha_7 => (simp (disch := omega) only [Act.put, List.setIfInBounds_toArray, List.set_cons_zero, List.set_cons_succ, wrap_in]; rfl)))
        (refine take_ (i := 12) (N := some 35) (v := ?v_8) (a' := ?a_8) #[true, true, true, true, true, true, true, true, true, true, true, true, true, false] rfl rfl (by kernel_rfl) (fun _ _ _ h => h) (Or.inl ⟨by rfl, ?hy_8⟩) hHeld ?ha_8 ?hh_8; (case hy_8 => (rintro w' ⟨s0_, s1_, s2_⟩; go_simp; with_reducible rfl)); (case ha_8 => (simp (disch := omega) only [Act.put, List.setIfInBounds_toArray, List.set_cons_zero, List.set_cons_succ, wrap_in]; rfl)))
        refine last_ (i := 13) (N := none) #[true, true, true, true, true, true, true, true, true, true, true, true, true, true] rfl rfl (by kernel_rfl) (by decide) (fun K hK => ?_)
        (refine skip_ (w1 := ?w1_9) (by rfl) rfl ?hr_9 ?hk_9; (case hr_9 => (go_simp; first | with_reducible rfl | (constructor <;> with_reducible rfl))))
        (refine hK.out _ _ ?hn_10; clear hK K; try clear hHeld)
        refine done_ (by kernel_rfl) ?_
        go_wp2_with (fail)
        go_ret
        exact HFIN.out
      · have HR := Lib.hid (show Enter1P F k w s (.returned (.int .i64 (n : Int))) w2 by
          unfold Enter1P
          rw [HEO.out, if_neg h0]
          exact ⟨HU.out.n true, rfl⟩)
        have t0 : (f1 == 0) = false := by simpa using h0
        clear U h0 hk2 hz2 hou hlen hnf
        go_wp2_with (fail)
        go_ret
        exact HR.out
theorem enter_eq (s : RS) (h : s.ft = 0) : s.enter = (match (enterO s).1 with | none => (0, (enterO s).2.short) | some p => if (enterO s).2.ft = 0 then (p, (enterO s).2) else (0, (enterO s).2)) := by
  unfold RS.enter enterO
  rw [if_pos h]
  by_cases h16 : s.outer.length = 16
  · rw [if_pos h16, if_pos h16]
    simp only
    rw [if_neg (show ¬ (11 : Int) = 0 by decide)]
  · rw [if_neg h16, if_neg h16]
    have := size_eq s maxU h
    unfold maxU at this ⊢
    rw [this]
    cases (sizeO s 18446744073709551615).1 with
    | none => rfl
    | some n =>
      simp only
      by_cases h1 : (sizeO s 18446744073709551615).2.ft = 0
      · rw [if_pos h1, if_pos h1]
        simp only
        rw [if_pos h1]
      · rw [if_neg h1, if_neg h1]
        simp only
        rw [if_neg h1]
def EnterP (F : Nat → Prop) (k : Nat) (w : World) (s : RS) (e : Ending) (w' : World) : Prop := e = .returned (.int .i64 (s.enter.1 : Nat)) ∧ RLies w' (Gr F w w') k s.enter.2 ∧ Fr F w w'
set_option maxHeartbeats 1000000 in
theorem rEnter_any (h : RLies w F k s) (hb : Byt s.left) (hd : s.outer.length ≤ 16) (h63 : s.left.length ≤ 140737488355328) :
    Calls Try.prog 40 #[.pointer (some ⟨k, 0, none⟩)] w (EnterP F k w s) := by
  have hmf : ∀ (fn : Fn) (first cap : Array Value) (w : World), (Instr.makeFunc fn first cap).run Try.prog w = .ok (.func fn first cap) w := fun _ _ _ _ => rfl
  have B1 : Below w.heap.size w (w.alloc (.cells #[.pointer (some ⟨k, 0, none⟩)] 28)) := (Below.refl _ _).alloc (Nat.le_refl _) _
  have BZ := blk_new w (.cells #[.pointer (some ⟨k, 0, none⟩)] 28)
  have z0 := cell_blk BZ 0 rfl
  have TK := Lib.hid (take_int true (h.tight.below B1) (f := 98) (first := #[]) (cap := #[.pointer (some ⟨w.heap.size, 0, none⟩)]) Try.func98 (by kernel_rfl) rfl (enterO s).2 (enterO s).1.isSome (fun x _ => x = (((enterO s).1.getD 0 : Nat) : Int)) (fun _ _ _ hx _ => hx)
    (fun h0 wd hB hz hL => (enter1_any (blk_below BZ hB) hL h0 hb hd h63 (fun hf => by have : w.heap.size < w.heap.size := hf.1.2; omega)).mono fun e w' hn => ⟨hn.1, by
      have h2 := hn.2
      cases ho : (enterO s).1 with
      | none => rw [ho] at h2; exact h2
      | some n => rw [ho] at h2; exact ⟨_, h2, rfl⟩⟩))
  have HH := Lib.hid h
  have HB1 := Lib.hid B1
  have TE := Lib.hid (fun h => enter_eq s h)
  clear h hb B1 BZ
  go_enter Try.func40, Try.ntmps40
  go_wp2_with (fail)
  refine TK.out.mono ?_
  rintro e w2 ht
  have HUP : ∀ s', UpdN true (fun b => F b ∧ b < w.heap.size) k (w.alloc (.cells #[.pointer (some ⟨k, 0, none⟩)] 28)) w2 s' → RLies w2 (Gr F w w2) k s' ∧ Fr F w w2 := fun s' U =>
    ⟨U.gr.mono fun x hx => by
      rcases hx with hx | hx
      · exact Or.inl hx.1
      · refine Or.inr ⟨?_, hx.2⟩
        have := hx.1
        simp at this; omega, (Fr.below F HB1.out).trans U.2 fun _ _ h => h.1⟩
  have hr : EnterP F k w s e w2 := by
    unfold EnterP
    unfold TakeP_int at ht
    by_cases h0 : s.ft = 0
    · rw [if_pos h0] at ht
      rw [TE.out h0]
      cases ho : (enterO s).1 with
      | none =>
        rw [ho] at ht
        simp only [Option.isSome_none, Bool.false_eq_true, false_and, if_false] at ht
        exact ⟨ht.1, HUP _ ht.2⟩
      | some p =>
        rw [ho] at ht
        simp only [Option.isSome_some, true_and, if_true] at ht
        by_cases h1 : (enterO s).2.ft = 0
        · rw [if_pos h1] at ht
          obtain ⟨⟨x, rfl, rfl⟩, hu⟩ := ht
          simp only [h1, if_true]
          exact ⟨rfl, HUP _ hu⟩
        · rw [if_neg h1] at ht
          simp only [h1, if_false]
          exact ⟨ht.1, HUP _ ht.2⟩
    · rw [if_neg h0] at ht
      have : s.enter = (0, s) := by unfold RS.enter; rw [if_neg h0]
      rw [this]
      have hB := HB1.out.trans (ht.2.mono HB1.out.size)
      exact ⟨ht.1, (HH.out.below hB).mono fun _ h => Or.inl h, Fr.below F hB⟩
  obtain ⟨rfl, hu⟩ := hr
  have HU := Lib.hid hu
  clear hu ht HUP
  go_wp2_with (fail)
  go_ret
  exact ⟨rfl, HU.out⟩
theorem rEnter_nil (w : World) : Calls Try.prog 40 #[.pointer none] w fun e w' => e = .returned (.int .i64 0) ∧ Below w.heap.size w w' := by
  have hmf : ∀ (fn : Fn) (first cap : Array Value) (w : World), (Instr.makeFunc fn first cap).run Try.prog w = .ok (.func fn first cap) w := fun _ _ _ _ => rfl
  have B1 : Below w.heap.size w (w.alloc (.cells #[.pointer none] 28)) := (Below.refl _ _).alloc (Nat.le_refl _) _
  have z0 := cell_blk (blk_new w (.cells #[.pointer none] 28)) 0 rfl
  have HB1 := Lib.hid B1
  clear B1
  go_enter Try.func40, Try.ntmps40
  go_wp2_with (fail)
  refine (take_nil_int _ _).mono ?_
  rintro e w2 ⟨rfl, B⟩
  have HB := Lib.hid (HB1.out.trans (B.mono HB1.out.size))
  clear B
  go_wp2_with (fail)
  go_ret
  exact ⟨rfl, HB.out⟩
end
end Go.Proofs.Ytibelfljlhcibaa
