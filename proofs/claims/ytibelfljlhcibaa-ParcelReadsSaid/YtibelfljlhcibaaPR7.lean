/- Readers: Real. -/
import Derived.Test.YtibelfljlhcibaaPV
import Derived.Test.YtibelfljlhcibaaPR3
import Derived.Test.YtibelfljlhcibaaPTf
import Derived.Test.YtibelfljlhcibaaPW5
import Derived.Laws.Cover3
namespace Go.Proofs.Ytibelfljlhcibaa
set_option linter.unusedVariables false
set_option linter.unusedSimpArgs false
open Go.RowKit Go.Deep Go.Proofs.YtibelfljlhcibaaW.PrintLast

def realO (s : RS) : Option Nat × RS := match s.next 8 with
  | none => (none, s)
  | some (p, s') => (some (upN p.reverse), if cleanBits (upN p.reverse) = upN p.reverse then s' else { s' with ft := 11 })
def Real1P (F : Nat → Prop) (k : Nat) (w : World) (s : RS) (e : Ending) (w' : World) : Prop := UpdR F k w w' (realO s).2 ∧ match (realO s).1 with
  | some b => e = .returned (.float .f64 b)
  | none => IsPanic e
theorem eight (p : List Int) (h : p.length = 8) : ∃ a b c d e f g i, p = [a, b, c, d, e, f, g, i] := by
  match p, h with
  | [a, b, c, d, e, f, g, i], _ => exact ⟨a, b, c, d, e, f, g, i, rfl⟩
section
variable {w w' w1 w2 : World} {F G : Nat → Prop} {k : Nat} {s s' : RS}
set_option maxRecDepth 100000 in
set_option maxHeartbeats 4000000 in
theorem real1_any {z : Nat} (hz : w.cell? ⟨z, 0, none⟩ = some (.pointer (some ⟨k, 0, none⟩))) (h : RLies w F k s) (hb : Byt s.left) (h63 : s.left.length ≤ 140737488355328) (hzF : ¬ F z) :
    Calls Try.prog 69 #[.pointer (some ⟨z, 0, none⟩)] w (Real1P F k w s) := by
  have hcf : ∀ (b : Int) w, (callFunc 26 #[.int .u64 b]).run Try.prog w = .ok (.value (.float .f64 b.toNat)) w := fun b w => by
    rw [run_callFunc_extern Try.func26 (by kernel_rfl) (by kernel_rfl) (by kernel_rfl) (e := Extern.MathFloatBits.float64frombits) (by kernel_rfl)]
    rfl
  have NX := Lib.hid (next_any h 8 (by omega) (by omega))
  have HZ := Lib.hid hz
  have HB := Lib.hid hb
  clear h hb
  go_enter Try.func69, Try.ntmps69
  go_wp2_with (fail)
  refine NX.out.mono ?_
  rintro e w2 hn
  unfold NextP at hn
  cases hnx : s.next 8 with
  | none =>
    rw [hnx] at hn
    obtain ⟨⟨u, pv, rfl⟩, U⟩ := hn
    have HR := Lib.hid (show Real1P F k w s (.panicked [{ v := .iface u pv, recovered := false }]) w2 by
      unfold Real1P realO
      rw [hnx]
      exact ⟨U, u, pv, rfl⟩)
    clear U hnx
    go_wp2_with (fail)
    exact ⟨rfl, HR.out⟩
  | some q =>
    obtain ⟨p, s1⟩ := q
    rw [hnx] at hn
    obtain ⟨⟨A, rfl, hA⟩, U⟩ := hn
    have hps : p.length = 8 ∧ Byt p := by
      unfold RS.next at hnx
      split at hnx
      · injection hnx with hnx
        injection hnx with h1 h2
        subst h1
        exact ⟨by rw [List.length_take]; omega, fun x hx => HB.out x (List.mem_of_mem_take hx)⟩
      · cases hnx
    have HNX := Lib.hid hnx
    have HU := Lib.hid U
    obtain ⟨hp8, hpb⟩ := hps
    obtain ⟨g, o, rfl, hba⟩ := hA.src (by intro h; rw [h] at hp8; simp at hp8)
    obtain ⟨x0, x1, x2, x3, x4, x5, x6, x7, hpe⟩ := eight p hp8
    have c0 := hba 0 x0 (by rw [hpe]; rfl)
    have c1 := hba 1 x1 (by rw [hpe]; rfl)
    have c2 := hba 2 x2 (by rw [hpe]; rfl)
    have c3 := hba 3 x3 (by rw [hpe]; rfl)
    have c4 := hba 4 x4 (by rw [hpe]; rfl)
    have c5 := hba 5 x5 (by rw [hpe]; rfl)
    have c6 := hba 6 x6 (by rw [hpe]; rfl)
    have c7 := hba 7 x7 (by rw [hpe]; rfl)
    rw [Nat.add_zero] at c0
    rw [hp8]
    have HPE := Lib.hid hpe
    have HPB := Lib.hid hpb
    clear U hA hnx hba hpe hpb hp8
    have ha : (Instr.arrayAt 94 (.slice (some ⟨g, o, none⟩) 8 8)).run Try.prog w2 = .ok (.pointer (some ⟨g, o, none⟩)) w2 := by
      apply run_arrayAt
      · exact Try.underlying94
      · exact Nat.le_refl 8
    go_wp2_with (fail)
    have O0 : Own bc 94 1 (w2.alloc (.cells #[.int .u8 x0, .int .u8 x1, .int .u8 x2, .int .u8 x3, .int .u8 x4, .int .u8 x5, .int .u8 x6, .int .u8 x7] 94)) w2.heap.size 8 p :=
      Own.fresh w2 (by decide) _ rfl _ (by rw [HPE.out]; simp) (fun i x hx j v hv => by
        have hj : j = 0 := by have := (List.getElem?_eq_some_iff.1 hv).1; simp [bc] at this; omega
        subst hj
        simp [bc] at hv; subst hv
        rw [HPE.out] at hx
        have hi : i < 8 := by have := (List.getElem?_eq_some_iff.1 hx).1; simpa using this
        rcases (by omega : i = 0 ∨ i = 1 ∨ i = 2 ∨ i = 3 ∨ i = 4 ∨ i = 5 ∨ i = 6 ∨ i = 7) with rfl | rfl | rfl | rfl | rfl | rfl | rfl | rfl <;> (simp at hx; subst hx; rfl))
    have hp8 : p.length = 8 := by rw [HPE.out]; rfl
    have B0 : Below w2.heap.size w2 (w2.alloc (.cells #[.int .u8 x0, .int .u8 x1, .int .u8 x2, .int .u8 x3, .int .u8 x4, .int .u8 x5, .int .u8 x6, .int .u8 x7] 94)) := (Below.refl _ _).alloc (Nat.le_refl _) _
    have RV := rev_any O0 (by omega) (by intro h; rw [h] at hp8; simp at hp8)
    rw [hp8] at RV
    have HB0 := Lib.hid B0
    have HP8 := Lib.hid hp8
    refine RV.mono ?_
    rintro e w3 ⟨rfl, O1, G1⟩
    have B1 : Below w2.heap.size w2 w3 := HB0.out.grown G1 HB0.out.size (by intro k hk; injection hk with hk; omega)
    have UP := up_u64 (cap := 8) (BSrc.ofAt (g := w2.heap.size) (o := 0) (fun j x hx => by have := O1.cell hx (j := 0) (v := .int .u8 x) rfl; simpa using this)) (p := p.reverse) (fun x hx => HPB.out x (List.mem_reverse.1 hx)) (by rw [List.length_reverse, HP8.out]; exact Nat.le_refl 8)
    rw [List.length_reverse, HP8.out] at UP
    obtain ⟨b, hbb⟩ : ∃ b, b = upN p.reverse := ⟨_, rfl⟩
    rw [← hbb] at UP
    have HUP := Lib.hid UP
    have HB1 := Lib.hid B1
    have fe : (FloatKind.f64.format.order b b != some Ordering.eq) = oddBits b := by
      have := floatEq_self b
      unfold Op.floatEq at this
      rw [bne, this, Bool.not_not]
    obtain ⟨t, ht⟩ := named (oddBits b)
    obtain ⟨t2, ht2⟩ := named ((b : Int) != 9221120237041090560)
    rw [ht] at fe
    have HRO := Lib.hid (show realO s = (some b, if cleanBits b = b then s1 else { s1 with ft := 11 }) by
      unfold realO
      rw [HNX.out]
      simp only [← hbb])
    have hcl : cleanBits b = if t then 9221120237041090560 else b := by unfold cleanBits; rw [ht]; rfl
    have HCL := Lib.hid hcl
    have HT2 := Lib.hid ht2
    have hz3 := (HB1.out.block z (by
      have := World.block_lt_of_cell? _ _ HZ.out
      have := HU.out.2.size
      simp only at *; omega)).trans (HU.out.2.block z (World.block_lt_of_cell? _ _ HZ.out) hzF)
    have z3 : w3.cell? ⟨z, 0, none⟩ = some (.pointer (some ⟨k, 0, none⟩)) := by rw [World.cell?_of_block (w := w) hz3]; exact HZ.out
    have HZ3 := Lib.hid z3
    have HU3 := Lib.hid (HU.out.ahead HB1.out)
    clear RV O0 B0 O1 G1 B1 UP hbb hcl ht hz3 z3 hp8 ha c0 c1 c2 c3 c4 c5 c6 c7
    go_wp2_with (fail)
    refine HUP.out.mono ?_
    rintro e w4 ⟨rfl, B4⟩
    have HU4 := Lib.hid (HU3.out.ahead B4)
    have z4 : w4.cell? ⟨z, 0, none⟩ = some (.pointer (some ⟨k, 0, none⟩)) := by
      rw [World.cell?_of_block (w := w3) (B4.block z (World.block_lt_of_cell? _ _ HZ3.out))]; exact HZ3.out
    obtain ⟨A9, OA9, oc9, ss9, hk9, _⟩ := id HU4.out.1
    have k9 := cell_blk hk9 2 rfl
    have f9 := free_blk hk9 2
    clear B4 hk9
    have HFIN0 := Lib.hid (fun (hc : cleanBits b = b) => (show Real1P F k w s (.returned (.float .f64 b)) w4 by
      unfold Real1P
      rw [HRO.out, if_pos hc]
      exact ⟨HU4.out, rfl⟩))
    have HFIN1 := Lib.hid (fun (hc : cleanBits b ≠ b) => (show Real1P F k w s (.returned (.float .f64 b)) (w4.setCell ⟨k, 2, none⟩ (.int .i64 11)) by
      unfold Real1P
      rw [HRO.out, if_neg hc]
      exact ⟨HU4.out.trans (UpdR.fault HU4.out.1 11), rfl⟩))
    cases t with
    | false =>
      have hc : cleanBits b = b := by rw [HCL.out]; rfl
      have HF := Lib.hid (HFIN0.out hc)
      clear hc
      go_wp2_with (fail)
      go_ret
      exact HF.out
    | true =>
      cases t2 with
      | false =>
        have hc : cleanBits b = b := by rw [HCL.out]; have := HT2.out; simp at this; simp; omega
        have HF := Lib.hid (HFIN0.out hc)
        clear hc
        go_wp2_with (fail)
        go_ret
        exact HF.out
      | true =>
        have hc : cleanBits b ≠ b := by rw [HCL.out]; have := HT2.out; simp at this; simp; omega
        have HF := Lib.hid (HFIN1.out hc)
        clear hc
        go_wp2_with (fail)
        go_ret
        exact HF.out
end
end Go.Proofs.Ytibelfljlhcibaa
