/- Readers: Raw, Fixed. -/
import Derived.Test.YtibelfljlhcibaaPR5
import Derived.Test.YtibelfljlhcibaaPV
import Derived.Laws.Cover3
namespace Go.Proofs.Ytibelfljlhcibaa
set_option linter.unusedVariables false
set_option linter.unusedSimpArgs false
open Go.RowKit Go.Deep Go.Proofs.YtibelfljlhcibaaW.PrintLast

def rawO (s : RS) (n : Int) : Option (List Int) × RS := if n < 0 then (some [], { s with ft := 2 }) else match s.next n.toNat with
  | none => (none, s)
  | some (p, s') => (some p, s')
def Raw1P (F : Nat → Prop) (k : Nat) (w : World) (s : RS) (n : Int) (e : Ending) (w' : World) : Prop := UpdR F k w w' (rawO s n).2 ∧ match (rawO s n).1 with
  | some p => ∃ x : SlB, e = .returned (.slice x.1 x.2.1 x.2.2) ∧ NewB w.heap.size w' p x
  | none => IsPanic e
def fixedO (s : RS) (n : Int) : Option Nat × RS := if n < 1 ∨ 8 < n then (some 0, { s with ft := 2 }) else match s.next n.toNat with
  | none => (none, s)
  | some (p, s') => (some (upN p), s')
def Fixed1P (F : Nat → Prop) (k : Nat) (w : World) (s : RS) (n : Int) (e : Ending) (w' : World) : Prop := UpdR F k w w' (fixedO s n).2 ∧ match (fixedO s n).1 with
  | some x => e = .returned (.int .u64 (x : Int))
  | none => IsPanic e
theorem next_ft {s s1 : RS} {n : Nat} {p : List Int} (hn : s.next n = some (p, s1)) : s1.ft = s.ft ∧ p.length = n ∧ (∀ x ∈ p, x ∈ s.left) := by
  unfold RS.next at hn
  split at hn
  · injection hn with hn; injection hn with h1 h2; subst h1; subst h2
    exact ⟨rfl, by rw [List.length_take]; omega, fun x hx => List.mem_of_mem_take hx⟩
  · cases hn
theorem raw_eq (s : RS) (n : Int) (h : s.ft = 0) : s.raw n = (match (rawO s n).1 with | none => ([], (rawO s n).2.short) | some p => if (rawO s n).2.ft = 0 then (p, (rawO s n).2) else ([], (rawO s n).2)) := by
  unfold RS.raw rawO
  rw [if_pos h]
  by_cases hn : n < 0
  · rw [if_pos hn, if_pos hn]
    simp only
    rw [if_neg (show ¬ (2 : Int) = 0 by decide)]
  · rw [if_neg hn, if_neg hn]
    cases hx : s.next n.toNat with
    | none => rfl
    | some q =>
      obtain ⟨p, s1⟩ := q
      simp only
      rw [if_pos ((next_ft hx).1.trans h)]
theorem fixed_eq (s : RS) (n : Int) (h : s.ft = 0) : s.fixed n = (match (fixedO s n).1 with | none => (0, (fixedO s n).2.short) | some x => if (fixedO s n).2.ft = 0 then (x, (fixedO s n).2) else (0, (fixedO s n).2)) := by
  unfold RS.fixed fixedO
  rw [if_pos h]
  by_cases hn : n < 1 ∨ 8 < n
  · rw [if_pos hn, if_pos hn]
    simp only
    rw [if_neg (show ¬ (2 : Int) = 0 by decide)]
  · rw [if_neg hn, if_neg hn]
    cases hx : s.next n.toNat with
    | none => rfl
    | some q =>
      obtain ⟨p, s1⟩ := q
      simp only
      rw [if_pos ((next_ft hx).1.trans h)]
section
variable {w w' w1 w2 : World} {F G : Nat → Prop} {k : Nat} {s s' : RS}
theorem TakeP_byt.gives {o r : Option (List Int) × RS} {q : List Int × RS} {N : Nat} {e : Ending} (hB : Below w.heap.size w w1) (h : RLies w F k s) (hN : w.heap.size ≤ N) (hs : ¬ s.ft = 0 → q = ([], s))
    (he : s.ft = 0 → q = (match o.1 with | none => ([], o.2.short) | some p => if o.2.ft = 0 then (p, o.2) else ([], o.2)))
    (ht : TakeP_byt false (fun b => F b ∧ b < w.heap.size) k w1 s o.2 o.1.isSome (fun x w' => NewB N w' (o.1.getD []) x) e w2) : ∃ x : SlB, e = .returned (.slice x.1 x.2.1 x.2.2) ∧ NewB w.heap.size w2 q.1 x ∧ UpdR F k w w2 q.2 := by
  unfold TakeP_byt at ht
  by_cases h0 : s.ft = 0
  · rw [if_pos h0] at ht
    rw [he h0]
    cases ho : o.1 with
    | none =>
      rw [ho] at ht
      simp only [Option.isSome_none, Bool.false_eq_true, false_and, if_false] at ht
      exact ⟨(none, 0, 0), ht.1, NewB.nil _ _, UpdR.after hB (ht.2.strict.mono fun _ h => h.1)⟩
    | some p =>
      rw [ho] at ht
      simp only [Option.isSome_some, true_and, if_true] at ht
      by_cases h1 : o.2.ft = 0
      · rw [if_pos h1] at ht
        obtain ⟨⟨x, rfl, hx⟩, hu⟩ := ht
        simp only [h1, if_true]
        exact ⟨x, rfl, hx.stable hN (fun _ _ _ => rfl), UpdR.after hB (hu.strict.mono fun _ h => h.1)⟩
      · rw [if_neg h1] at ht
        simp only [h1, if_false]
        exact ⟨(none, 0, 0), ht.1, NewB.nil _ _, UpdR.after hB (ht.2.strict.mono fun _ h => h.1)⟩
  · rw [if_neg h0] at ht
    rw [hs h0]
    exact ⟨(none, 0, 0), ht.1, NewB.nil _ _, UpdR.of_below h (hB.trans (ht.2.mono hB.size))⟩
theorem TakeP_u64.gives {o : Option Nat × RS} {q : Nat × RS} {e : Ending} (hB : Below w.heap.size w w1) (h : RLies w F k s) (hs : ¬ s.ft = 0 → q = (0, s))
    (he : s.ft = 0 → q = (match o.1 with | none => (0, o.2.short) | some p => if o.2.ft = 0 then (p, o.2) else (0, o.2)))
    (ht : TakeP_u64 false (fun b => F b ∧ b < w.heap.size) k w1 s o.2 o.1.isSome (fun x _ => x = ((o.1.getD 0 : Nat) : Int)) e w2) : e = .returned (.int .u64 (q.1 : Nat)) ∧ UpdR F k w w2 q.2 := by
  unfold TakeP_u64 at ht
  by_cases h0 : s.ft = 0
  · rw [if_pos h0] at ht
    rw [he h0]
    cases ho : o.1 with
    | none =>
      rw [ho] at ht
      simp only [Option.isSome_none, Bool.false_eq_true, false_and, if_false] at ht
      exact ⟨ht.1, UpdR.after hB (ht.2.strict.mono fun _ h => h.1)⟩
    | some p =>
      rw [ho] at ht
      simp only [Option.isSome_some, true_and, if_true] at ht
      by_cases h1 : o.2.ft = 0
      · rw [if_pos h1] at ht
        obtain ⟨⟨x, rfl, rfl⟩, hu⟩ := ht
        simp only [h1, if_true]
        exact ⟨rfl, UpdR.after hB (hu.strict.mono fun _ h => h.1)⟩
      · rw [if_neg h1] at ht
        simp only [h1, if_false]
        exact ⟨ht.1, UpdR.after hB (ht.2.strict.mono fun _ h => h.1)⟩
  · rw [if_neg h0] at ht
    rw [hs h0]
    exact ⟨ht.1, UpdR.of_below h (hB.trans (ht.2.mono hB.size))⟩
set_option maxRecDepth 100000 in
set_option maxHeartbeats 2000000 in
theorem raw1_any {z y : Nat} {n : Int} (hz : w.cell? ⟨z, 0, none⟩ = some (.pointer (some ⟨k, 0, none⟩))) (hy : w.cell? ⟨y, 0, none⟩ = some (.int .i64 n)) (hn : n ≤ 9223372036854775807) (h : RLies w F k s) (h63 : s.left.length ≤ 140737488355328) :
    Calls Try.prog 99 #[.pointer (some ⟨y, 0, none⟩), .pointer (some ⟨z, 0, none⟩)] w (Raw1P F k w s n) := by
  by_cases h0 : n < 0
  · have z1 : decide (n < 0) = true := by simpa using h0
    have HR := Lib.hid (show Raw1P F k w s n (.returned (.slice none 0 0)) (w.setCell ⟨k, 2, none⟩ (.int .i64 2)) by
      unfold Raw1P rawO
      rw [if_pos h0]
      exact ⟨UpdR.fault h 2, (none, 0, 0), rfl, NewB.nil _ _⟩)
    obtain ⟨A, OA, oc, ss, hk, _⟩ := h
    have c2 := cell_blk hk 2 rfl
    have f2 := free_blk hk 2
    clear hk h0
    go_enter Try.func99, Try.ntmps99
    go_wp2_with (fail)
    go_ret
    exact HR.out
  · obtain ⟨m, rfl⟩ := Int.eq_ofNat_of_zero_le (show 0 ≤ n by omega)
    have z1 : decide ((m : Int) < 0) = false := by simp
    have NX := Lib.hid (next_any h m (by omega) (by omega))
    clear h h0
    go_enter Try.func99, Try.ntmps99
    go_wp2_with (fail)
    refine NX.out.mono ?_
    rintro e w2 hn2
    unfold NextP at hn2
    cases hnx : s.next m with
    | none =>
      rw [hnx] at hn2
      obtain ⟨⟨u, pv, rfl⟩, U⟩ := hn2
      have HR := Lib.hid (show Raw1P F k w s (m : Int) (.panicked [{ v := .iface u pv, recovered := false }]) w2 by
        unfold Raw1P rawO
        rw [if_neg (by omega), Int.toNat_natCast, hnx]
        exact ⟨U, u, pv, rfl⟩)
      clear U hnx
      go_wp2_with (fail)
      exact ⟨rfl, HR.out⟩
    | some q =>
      obtain ⟨p, s1⟩ := q
      rw [hnx] at hn2
      obtain ⟨⟨A, rfl, hA⟩, U⟩ := hn2
      have hpl : p.length ≤ 140737488355328 := by
        unfold RS.next at hnx
        split at hnx
        · injection hnx with hnx; injection hnx with h1 h2; subst h1; rw [List.length_take]; omega
        · cases hnx
      have CP := Lib.hid (copied_any (c := p.length) hA.src hpl)
      have HU := Lib.hid U
      have HG := Lib.hid (fun (w4 : World) (x : SlB) (hu : UpdR F k w w4 s1) (hx : NewB w.heap.size w4 p x) => (show Raw1P F k w s (m : Int) (.returned (.slice x.1 x.2.1 x.2.2)) w4 by
        unfold Raw1P rawO
        rw [if_neg (by omega), Int.toNat_natCast, hnx]
        exact ⟨hu, x, rfl, hx⟩))
      have hss := U.2.size
      clear U hA hnx
      go_wp2_with (fail)
      refine CP.out.mono ?_
      rintro e w4 ⟨⟨x, rfl, hx⟩, B4⟩
      have HX := Lib.hid hx
      have HB4 := Lib.hid B4
      clear hx B4
      go_wp2_with (fail)
      go_ret
      exact HG.out _ _ (HU.out.ahead HB4.out) (HX.out.stable hss fun _ _ _ => rfl)
set_option maxRecDepth 100000 in
set_option maxHeartbeats 2000000 in
theorem rRaw_any (h : RLies w F k s) (h63 : s.left.length ≤ 140737488355328) (n : Int) (hn : n ≤ 9223372036854775807) :
    Calls Try.prog 41 #[.pointer (some ⟨k, 0, none⟩), .int .i64 n] w (GaveB F k w (s.raw n)) := by
  have hmf : ∀ (fn : Fn) (first cap : Array Value) (w : World), (Instr.makeFunc fn first cap).run Try.prog w = .ok (.func fn first cap) w := fun _ _ _ _ => rfl
  obtain ⟨b0, b1⟩ := two_blks w (.cells #[.pointer (some ⟨k, 0, none⟩)] 28) (.cells #[.int .i64 n] 3)
  have B2 : Below w.heap.size w ((w.alloc (.cells #[.pointer (some ⟨k, 0, none⟩)] 28)).alloc (.cells #[.int .i64 n] 3)) := ((Below.refl _ _).alloc (Nat.le_refl _) _).alloc (by simp) _
  have hs2 : ((w.alloc (.cells #[.pointer (some ⟨k, 0, none⟩)] 28)).alloc (.cells #[.int .i64 n] 3)).heap.size = w.heap.size + 2 := by simp
  have z0 := cell_blk b0 0 rfl
  have HH := Lib.hid h
  have TK := Lib.hid (take_byt false (h.tight.below B2) (f := 99) (first := #[]) (cap := #[.pointer (some ⟨w.heap.size + 1, 0, none⟩), .pointer (some ⟨w.heap.size, 0, none⟩)]) Try.func99 (by kernel_rfl) rfl (rawO s n).2 (rawO s n).1.isSome
    (fun x w' => NewB (w.heap.size + 5) w' ((rawO s n).1.getD []) x) (fun x w1 w2 hx hk => hx.stable (Nat.le_refl _) fun b hb _ => hk b (by rw [hs2]; omega))
    (fun h0 wd hB hz hL => (raw1_any (cell_blk (blk_below b0 hB) 0 rfl) (cell_blk (blk_below b1 hB) 0 rfl) hn hL h63).mono fun e w' hn => by
      refine ⟨hn.1.n false, ?_⟩
      have h2 := hn.2
      cases ho : (rawO s n).1 with
      | none => rw [ho] at h2; exact h2
      | some p =>
        rw [ho] at h2
        obtain ⟨x, he, hx⟩ := h2
        exact ⟨x, he, by rw [hz, hs2] at hx; exact hx⟩))
  have HB2 := Lib.hid B2
  clear h b0 b1 B2 hs2
  go_enter Try.func41, Try.ntmps41
  go_wp2_with (fail)
  refine TK.out.mono ?_
  rintro e w2 ht
  obtain ⟨x, rfl, hx, hu⟩ := TakeP_byt.gives (r := (none, s)) (q := s.raw n) HB2.out HH.out (by omega) (fun h => by unfold RS.raw; rw [if_neg h]) (fun h => raw_eq s n h) ht
  have HX := Lib.hid hx
  have HU := Lib.hid hu
  clear hx hu ht
  go_wp2_with (fail)
  go_ret
  exact ⟨⟨x, rfl, HX.out⟩, HU.out⟩
theorem rRaw_nil (w : World) (n : Int) : Calls Try.prog 41 #[.pointer none, .int .i64 n] w fun e w' => e = .returned (.slice none 0 0) ∧ Below w.heap.size w w' := by
  have hmf : ∀ (fn : Fn) (first cap : Array Value) (w : World), (Instr.makeFunc fn first cap).run Try.prog w = .ok (.func fn first cap) w := fun _ _ _ _ => rfl
  have B2 : Below w.heap.size w ((w.alloc (.cells #[.pointer none] 28)).alloc (.cells #[.int .i64 n] 3)) := ((Below.refl _ _).alloc (Nat.le_refl _) _).alloc (by simp) _
  have HB2 := Lib.hid B2
  obtain ⟨b0, b1⟩ := two_blks w (.cells #[.pointer none] 28) (.cells #[.int .i64 n] 3)
  have z0 := cell_blk b0 0 rfl
  clear B2 b0 b1
  go_enter Try.func41, Try.ntmps41
  go_wp2_with (fail)
  refine (take_nil_byt _ _).mono ?_
  rintro e w2 ⟨rfl, B⟩
  have HB := Lib.hid (HB2.out.trans (B.mono HB2.out.size))
  clear B
  go_wp2_with (fail)
  go_ret
  exact ⟨rfl, HB.out⟩
end
end Go.Proofs.Ytibelfljlhcibaa
