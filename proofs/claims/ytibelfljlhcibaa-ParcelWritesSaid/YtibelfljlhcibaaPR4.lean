/- Readers: size, copied, Text. -/
import Derived.Test.YtibelfljlhcibaaPR3
import Derived.Test.YtibelfljlhcibaaPTb
namespace Go.Proofs.Ytibelfljlhcibaa
set_option linter.unusedVariables false
set_option linter.unusedSimpArgs false
open Go.RowKit Go.Deep Go.Proofs.YtibelfljlhcibaaW.PrintLast

/-- A length off a reader without a fault. -/
def sizeO (s : RS) (most : Nat) : Option Nat × RS := match (numO s).1 with
  | none => (none, (numO s).2)
  | some n => if (numO s).2.ft = 0 then (if most < n then (some 0, { (numO s).2 with ft := 11 }) else if (numO s).2.left.length < n then (some 0, { (numO s).2 with ft := 10 }) else (some n, (numO s).2)) else (some 0, (numO s).2)
def SizeP (F : Nat → Prop) (k : Nat) (w : World) (s : RS) (most : Nat) (e : Ending) (w' : World) : Prop := UpdR F k w w' (sizeO s most).2 ∧ match (sizeO s most).1 with
  | some n => e = .returned (.int .i64 (n : Int))
  | none => IsPanic e
section
variable {w w' w1 w2 : World} {F G : Nat → Prop} {k : Nat} {s s' : RS}
set_option maxRecDepth 100000 in
set_option maxHeartbeats 2000000 in
theorem size_any (h : RLies w F k s) (hft : s.ft = 0) (hb : Byt s.left) (h63 : s.left.length ≤ 9223372036854775807) (most : Nat) (hm : most < 18446744073709551616) :
    Calls Try.prog 96 #[.pointer (some ⟨k, 0, none⟩), .int .u64 most] w (SizeP F k w s most) := by
  have NM := Lib.hid (num_any h hft hb h63)
  have hnl := readN_len s.left 0 0
  clear h hb
  go_enter Try.func96, Try.ntmps96
  go_wp2_with (fail)
  refine NM.out.mono ?_
  rintro e w2 hn
  unfold NumP at hn
  cases ho : (numO s).1 with
  | none =>
    rw [ho] at hn
    obtain ⟨U, u, pv, rfl⟩ := hn
    have HR := Lib.hid (show SizeP F k w s most (.panicked [{ v := .iface u pv, recovered := false }]) w2 by
      unfold SizeP sizeO
      rw [ho]
      exact ⟨U, u, pv, rfl⟩)
    clear U ho
    go_wp2_with (fail)
    exact ⟨rfl, HR.out⟩
  | some n =>
    rw [ho] at hn
    obtain ⟨U, rfl⟩ := hn
    have HO := Lib.hid ho
    have HU := Lib.hid U
    have hs2 : (numO s).2.left.length ≤ s.left.length := hnl
    generalize hs1 : (numO s).2 = s1 at *
    have HS1 := Lib.hid hs1
    obtain ⟨left, outer, ft⟩ := s1
    simp only at hs2
    obtain ⟨A, OA, oc, ss, hk, _⟩ := id U.1
    simp only at hk
    have c0 := cell_blk hk 0 rfl
    have c2 := cell_blk hk 2 rfl
    have f2 := free_blk hk 2
    have E0 := Lib.hid (show sizeO s most = if ft = 0 then (if most < n then (some 0, ⟨left, outer, 11⟩) else if left.length < n then (some 0, ⟨left, outer, 10⟩) else (some n, ⟨left, outer, ft⟩)) else (some 0, ⟨left, outer, ft⟩) by
      unfold sizeO
      rw [ho, hs1])
    have UF := Lib.hid (fun e => U.trans (UpdR.fault U.1 e))
    have k2 := cell_blk (setCell_heap w2 k 2 (.int .i64 11) _ _ _ hk) 2 rfl
    clear U ho hs1 hk hnl
    by_cases h0 : ft = 0
    · subst h0
      by_cases h1 : most < n
      · have z1 : decide (most < n) = true := by simpa using h1
        have HX := Lib.hid (show SizeP F k w s most (.returned (.int .i64 0)) (w2.setCell ⟨k, 2, none⟩ (.int .i64 11)) by
          unfold SizeP
          rw [E0.out, if_pos rfl, if_pos h1]
          exact ⟨UF.out 11, rfl⟩)
        go_wp2_with (fail)
        go_ret
        exact HX.out
      · have z1 : decide (most < n) = false := by simpa using h1
        by_cases h2 : left.length < n
        · have z2 : decide (left.length < n) = true := by simpa using h2
          have HX := Lib.hid (show SizeP F k w s most (.returned (.int .i64 0)) (w2.setCell ⟨k, 2, none⟩ (.int .i64 10)) by
            unfold SizeP
            rw [E0.out, if_pos rfl, if_neg h1, if_pos h2]
            exact ⟨UF.out 10, rfl⟩)
          go_wp2_with (fail)
          go_ret
          exact HX.out
        · have z2 : decide (left.length < n) = false := by simpa using h2
          have HX := Lib.hid (show SizeP F k w s most (.returned (.int .i64 (n : Int))) w2 by
            unfold SizeP
            rw [E0.out, if_pos rfl, if_neg h1, if_neg h2]
            exact ⟨HU.out, rfl⟩)
          have hnb : n ≤ 9223372036854775807 := by omega
          go_wp2_with (fail)
          go_ret
          exact HX.out
    · have HX := Lib.hid (show SizeP F k w s most (.returned (.int .i64 0)) w2 by
        unfold SizeP
        rw [E0.out, if_neg h0]
        exact ⟨HU.out, rfl⟩)
      have t0 : (ft == 0) = false := by simpa using h0
      have t1 : (ft != 0) = true := by simpa using h0
      clear h0
      go_wp2_with (fail)
      go_ret
      exact HX.out
/-- Bytes in memory of one's own, or nil. -/
def NewB (N : Nat) (w' : World) (p : List Int) (x : SlB) : Prop := x.2.1 = p.length ∧ RowF bc 5 1 w' (fun b => N ≤ b) x.1 x.2.2 p
def CopyP (w : World) (p : List Int) (e : Ending) (w' : World) : Prop := (∃ x : SlB, e = .returned (.slice x.1 x.2.1 x.2.2) ∧ NewB w.heap.size w' p x) ∧ Below w.heap.size w w'
theorem copied_any {A : Option Addr} {c : Nat} {p : List Int} (hp : BSrc w A p) (hl : p.length ≤ 140737488355328) :
    Calls Try.prog 97 #[.slice A p.length c] w (CopyP w p) := by
  cases p with
  | nil =>
    clear hp
    go_enter Try.func97, Try.ntmps97
    go_wp2_with (fail)
    go_ret
    exact ⟨⟨(none, 0, 0), rfl, rfl, RowF.nil⟩, Below.refl _ _⟩
  | cons x t =>
    obtain ⟨g, o, rfl, hb⟩ := hp (by simp)
    have HBB := Lib.hid hb
    have hgl := World.block_lt_of_cell? _ _ (hb 0 x rfl)
    clear hp hb
    generalize hpl : x :: t = p at *
    have hne : p ≠ [] := by rw [← hpl]; simp
    have hpos : 0 < p.length := List.length_pos_iff.2 hne
    have z1 : ((p.length : Int) == 0) = false := by simp; omega
    clear hpl
    have APP : ∀ w1, OwnB w1 w.heap.size p.length [] → w.grownBy w1 none → ∃ g' cap' w2, (Builtin.append_ #[23, 23] 23 #[.slice (some ⟨w.heap.size, 0, none⟩) 0 p.length, .slice (some ⟨g, o, none⟩) p.length c]).run Try.prog w1 = .ok (.slice (some ⟨g', 0, none⟩) p.length cap') w2 ∧
        OwnB w2 g' cap' p ∧ Below w.heap.size w w2 ∧ w.heap.size ≤ g' := fun w1 O1 G1 => by
      have B1 : Below w.heap.size w w1 := (Below.refl _ _).grown G1 (Nat.le_refl _) (by intro k hk; cases hk)
      obtain ⟨g', cap', w2, hr, O2, G2, hat⟩ := OwnB.append (c := c) O1 (ys := p) (HBB.out.moved (G1.block g hgl (by simp))) (by simp; omega)
      refine ⟨g', cap', w2, by simpa using hr, by simpa using O2, B1.grown G2 B1.size (by intro k hk; injection hk with hk; omega), ?_⟩
      have := B1.size
      rcases hat with h | h <;> omega
    have HAPP := Lib.hid APP
    clear APP hne
    go_enter Try.func97, Try.ntmps97
    go_wp2_with (first
      | (refine wpB_make0 _ rfl _ _ rfl p.length (by rfl) (by rfl) (by omega) (fun w1 O1 G1 => ?_); obtain ⟨g', cap', w2, hrun, O2, B2, hg'⟩ := HAPP.out w1 O1 G1; have HRUN := Lib.hid hrun; clear hrun O1 G1)
      | (refine wpList_app HRUN.out rfl rfl rfl (by rfl) (by rfl) ?_))
    go_ret
    exact ⟨⟨(some ⟨g', 0, none⟩, p.length, cap'), rfl, rfl, Or.inr ⟨g', rfl, hg', O2⟩⟩, B2⟩
theorem NewB.stable {N M : Nat} {w1 w2 : World} {p : List Int} {x : SlB} (h : NewB M w1 p x) (hM : N ≤ M) (hk : ∀ b, M ≤ b → b < w1.heap.size → w2.heap[b]? = w1.heap[b]?) : NewB N w2 p x :=
  ⟨h.1, (h.2.same fun b hb hl => hk b hb hl).mono fun b hb => Nat.le_trans hM hb⟩
/-- A text off a reader without a fault. -/
def textO (s : RS) (most : Nat) : Option (List Int) × RS := match (sizeO s most).1 with
  | none => (none, (sizeO s most).2)
  | some n => (some ((sizeO s most).2.left.take n), { (sizeO s most).2 with left := (sizeO s most).2.left.drop n })
theorem sizeO_fits (s : RS) (most n : Nat) (h : (sizeO s most).1 = some n) : n ≤ (sizeO s most).2.left.length := by
  unfold sizeO at h ⊢
  cases ho : (numO s).1 with
  | none => rw [ho] at h; cases h
  | some m =>
    rw [ho] at h
    simp only at h ⊢
    split at h
    · rename_i h0
      rw [if_pos h0]
      split at h
      · injection h with h; subst h; exact Nat.zero_le _
      · rename_i h1
        rw [if_neg h1]
        split at h
        · injection h with h; subst h; exact Nat.zero_le _
        · rename_i h2
          rw [if_neg h2]
          injection h with h; subst h; simp only; omega
    · injection h with h; subst h; exact Nat.zero_le _
theorem sizeO_left (s : RS) (most : Nat) : (sizeO s most).2.left = (numO s).2.left ∧ (sizeO s most).2.outer = s.outer := by
  unfold sizeO
  cases (numO s).1 with
  | none => exact ⟨rfl, rfl⟩
  | some m =>
    simp only
    (repeat' split) <;> exact ⟨rfl, rfl⟩
def Text1P (F : Nat → Prop) (k : Nat) (w : World) (s : RS) (mo : Nat) (e : Ending) (w' : World) : Prop := UpdR F k w w' (textO s mo).2 ∧ match (textO s mo).1 with
  | some p => ∃ x : SlB, e = .returned (.slice x.1 x.2.1 x.2.2) ∧ NewB w.heap.size w' p x
  | none => IsPanic e
set_option maxRecDepth 100000 in
set_option maxHeartbeats 2000000 in
theorem text1_any {z y : Nat} {most : Int} (hz : w.cell? ⟨z, 0, none⟩ = some (.pointer (some ⟨k, 0, none⟩))) (hy : w.cell? ⟨y, 0, none⟩ = some (.int .i64 most)) (hm : most ≤ 9223372036854775807) (h : RLies w F k s) (hft : s.ft = 0) (hb : Byt s.left) (h63 : s.left.length ≤ 140737488355328)
    (hzF : ¬ F z) :
    Calls Try.prog 95 #[.pointer (some ⟨z, 0, none⟩), .pointer (some ⟨y, 0, none⟩)] w (Text1P F k w s (max most 0).toNat) := by
  obtain ⟨mo, hmo⟩ : ∃ mo : Nat, (max most 0).toNat = mo := ⟨_, rfl⟩
  have SZ := Lib.hid (size_any h hft hb (by omega) mo (by omega))
  have HZ := Lib.hid hz
  have hll := sizeO_left s mo
  have hnl := readN_len s.left 0 0
  have hlen : (sizeO s mo).2.left.length ≤ 140737488355328 := by rw [hll.1]; exact Nat.le_trans hnl h63
  have HLEN := Lib.hid hlen
  rw [hmo]
  by_cases h0 : most < 0
  · obtain rfl : mo = 0 := by omega
    clear h hb hll hnl hmo hlen hz
    have hz := HZ.out
    have h1 : most ≤ 0 := by omega
    go_enter Try.func95, Try.ntmps95
    go_wp2_with (fail)
    all_goals try (exfalso; omega)
    refine SZ.out.mono ?_
    rintro e w2 hn
    unfold SizeP at hn
    cases ho : (sizeO s 0).1 with
    | none =>
      rw [ho] at hn
      obtain ⟨U, u, pv, rfl⟩ := hn
      have HU := Lib.hid (show Text1P F k w s 0 (.panicked [{ v := .iface u pv, recovered := false }]) w2 by
        unfold Text1P textO
        rw [ho]
        exact ⟨U, u, pv, rfl⟩)
      clear U ho
      go_wp2_with (fail)
      exact ⟨rfl, HU.out⟩
    | some n =>
      rw [ho] at hn
      obtain ⟨U, rfl⟩ := hn
      have hnf := sizeO_fits s 0 n ho
      have hz2 : w2.cell? ⟨z, 0, none⟩ = some (.pointer (some ⟨k, 0, none⟩)) := by
        rw [World.cell?_of_block (w := w) (U.2.block z (World.block_lt_of_cell? _ _ HZ.out) hzF)]
        exact HZ.out
      have NX := next_any U.1 n (by have := HLEN.out; omega) (by have := HLEN.out; omega)
      unfold NextP RS.next at NX
      rw [if_pos hnf] at NX
      obtain ⟨p, hp⟩ : ∃ p, p = (sizeO s 0).2.left.take n := ⟨_, rfl⟩
      rw [← hp] at NX
      have hpl : p.length ≤ 140737488355328 := by rw [hp, List.length_take]; have := HLEN.out; omega
      have HN := Lib.hid NX
      have HU := Lib.hid U
      have HG := Lib.hid (fun (w4 : World) (x : SlB) (hu : UpdR F k w w4 { (sizeO s 0).2 with left := (sizeO s 0).2.left.drop n }) (hx : NewB w.heap.size w4 p x) => (show Text1P F k w s 0 (.returned (.slice x.1 x.2.1 x.2.2)) w4 by
        unfold Text1P textO
        rw [ho]
        exact ⟨hu, x, rfl, by rw [← hp]; exact hx⟩))
      clear U ho NX hnf hp
      go_wp2_with (fail)
      refine HN.out.mono ?_
      rintro e w3 ⟨⟨A, rfl, hA⟩, U3⟩
      have CP := Lib.hid (copied_any (c := p.length) hA.src hpl)
      have HU3 := Lib.hid (HU.out.trans U3)
      have hss := HU3.out.2.size
      clear U3 hA
      go_wp2_with (fail)
      refine CP.out.mono ?_
      rintro e w4 ⟨⟨x, rfl, hx⟩, B4⟩
      have HX := Lib.hid hx
      have HB4 := Lib.hid B4
      clear hx B4
      go_wp2_with (fail)
      go_ret
      exact HG.out _ _ (HU3.out.ahead HB4.out) (HX.out.stable hss fun _ _ _ => rfl)
  · obtain rfl : most = (mo : Int) := by omega
    have hp : 0 ≤ mo := by omega
    have hmw : IntKind.u64.wrap (mo : Int) = (mo : Int) := by rw [IntKind.wrap_u64]; omega
    clear h hb hll hnl hmo hlen hz
    have hz := HZ.out
    go_enter Try.func95, Try.ntmps95
    go_wp2_with (fail)
    refine SZ.out.mono ?_
    rintro e w2 hn
    unfold SizeP at hn
    cases ho : (sizeO s mo).1 with
    | none =>
      rw [ho] at hn
      obtain ⟨U, u, pv, rfl⟩ := hn
      have HU := Lib.hid (show Text1P F k w s mo (.panicked [{ v := .iface u pv, recovered := false }]) w2 by
        unfold Text1P textO
        rw [ho]
        exact ⟨U, u, pv, rfl⟩)
      clear U ho
      go_wp2_with (fail)
      exact ⟨rfl, HU.out⟩
    | some n =>
      rw [ho] at hn
      obtain ⟨U, rfl⟩ := hn
      have hnf := sizeO_fits s mo n ho
      have hz2 : w2.cell? ⟨z, 0, none⟩ = some (.pointer (some ⟨k, 0, none⟩)) := by
        rw [World.cell?_of_block (w := w) (U.2.block z (World.block_lt_of_cell? _ _ HZ.out) hzF)]
        exact HZ.out
      have NX := next_any U.1 n (by have := HLEN.out; omega) (by have := HLEN.out; omega)
      unfold NextP RS.next at NX
      rw [if_pos hnf] at NX
      obtain ⟨p, hp⟩ : ∃ p, p = (sizeO s mo).2.left.take n := ⟨_, rfl⟩
      rw [← hp] at NX
      have hpl : p.length ≤ 140737488355328 := by rw [hp, List.length_take]; have := HLEN.out; omega
      have HN := Lib.hid NX
      have HU := Lib.hid U
      have HG := Lib.hid (fun (w4 : World) (x : SlB) (hu : UpdR F k w w4 { (sizeO s mo).2 with left := (sizeO s mo).2.left.drop n }) (hx : NewB w.heap.size w4 p x) => (show Text1P F k w s mo (.returned (.slice x.1 x.2.1 x.2.2)) w4 by
        unfold Text1P textO
        rw [ho]
        exact ⟨hu, x, rfl, by rw [← hp]; exact hx⟩))
      clear U ho NX hnf hp
      go_wp2_with (fail)
      refine HN.out.mono ?_
      rintro e w3 ⟨⟨A, rfl, hA⟩, U3⟩
      have CP := Lib.hid (copied_any (c := p.length) hA.src hpl)
      have HU3 := Lib.hid (HU.out.trans U3)
      have hss := HU3.out.2.size
      clear U3 hA
      go_wp2_with (fail)
      refine CP.out.mono ?_
      rintro e w4 ⟨⟨x, rfl, hx⟩, B4⟩
      have HX := Lib.hid hx
      have HB4 := Lib.hid B4
      clear hx B4
      go_wp2_with (fail)
      go_ret
      exact HG.out _ _ (HU3.out.ahead HB4.out) (HX.out.stable hss fun _ _ _ => rfl)
end
end Go.Proofs.Ytibelfljlhcibaa
