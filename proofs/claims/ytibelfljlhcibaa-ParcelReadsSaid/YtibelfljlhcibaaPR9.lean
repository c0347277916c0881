/- Readers: Fixed. -/
import Derived.Test.YtibelfljlhcibaaPR6
namespace Go.Proofs.Ytibelfljlhcibaa
set_option linter.unusedVariables false
set_option linter.unusedSimpArgs false
open Go.RowKit Go.Deep Go.Proofs.YtibelfljlhcibaaW.PrintLast
section
variable {w w' w1 w2 : World} {F G : Nat → Prop} {k : Nat} {s s' : RS}
theorem next_lit (h : RLies w F k s) (n : Nat) (i : Int) (hi : (n : Int) = i) (hn : n ≤ 100) (h63 : s.left.length ≤ 140737488355328) :
    Calls Try.prog 63 #[.pointer (some ⟨k, 0, none⟩), .int .i64 i] w (NextP F k w s n) := by
  subst hi
  exact next_any h n (by omega) (by omega)
set_option maxRecDepth 100000 in
set_option maxHeartbeats 1000000 in
theorem fixed1_bad {z y : Nat} {n : Int} (hz : w.cell? ⟨z, 0, none⟩ = some (.pointer (some ⟨k, 0, none⟩))) (hy : w.cell? ⟨y, 0, none⟩ = some (.int .i64 n)) (h : RLies w F k s) (hn : n < 1 ∨ 8 < n) :
    Calls Try.prog 107 #[.pointer (some ⟨y, 0, none⟩), .pointer (some ⟨z, 0, none⟩)] w (Fixed1P F k w s n) := by
  have HR := Lib.hid (show Fixed1P F k w s n (.returned (.int .u64 0)) (w.setCell ⟨k, 2, none⟩ (.int .i64 2)) by
    unfold Fixed1P fixedO
    rw [if_pos hn]
    exact ⟨UpdR.fault h 2, rfl⟩)
  obtain ⟨A, OA, oc, ss, hk, _⟩ := h
  have c2 := cell_blk hk 2 rfl
  have f2 := free_blk hk 2
  clear hk
  go_enter Try.func107, Try.ntmps107
  rcases hn with hn | hn
  · have z1 : decide (n < 1) = true := by simpa using hn
    go_wp2_with (fail)
    go_ret
    exact HR.out
  · have z1 : decide (n < 1) = false := by simp; omega
    have z2 : decide (8 < n) = true := by simpa using hn
    go_wp2_with (fail)
    go_ret
    exact HR.out
set_option maxRecDepth 100000 in
set_option maxHeartbeats 2000000 in
theorem fixed1_1 {z y : Nat} (hz : w.cell? ⟨z, 0, none⟩ = some (.pointer (some ⟨k, 0, none⟩))) (hy : w.cell? ⟨y, 0, none⟩ = some (.int .i64 1)) (h : RLies w F k s) (hb : Byt s.left) (h63 : s.left.length ≤ 140737488355328) :
    Calls Try.prog 107 #[.pointer (some ⟨y, 0, none⟩), .pointer (some ⟨z, 0, none⟩)] w (Fixed1P F k w s 1) := by
  have NX := Lib.hid (next_lit h 1 1 rfl (by omega) h63)
  have HB := Lib.hid hb
  clear h hb
  go_enter Try.func107, Try.ntmps107
  go_wp2_with (fail)
  refine NX.out.mono ?_
  rintro e w2 hn
  unfold NextP at hn
  cases hnx : s.next 1 with
  | none =>
    rw [hnx] at hn
    obtain ⟨⟨u, pv, rfl⟩, U⟩ := hn
    have HR := Lib.hid (show Fixed1P F k w s 1 (.panicked [{ v := .iface u pv, recovered := false }]) w2 by
      unfold Fixed1P fixedO
      rw [if_neg (by decide), show (1 : Int).toNat = 1 from rfl, hnx]
      exact ⟨U, u, pv, rfl⟩)
    clear U hnx
    go_wp2_with (fail)
    exact ⟨rfl, HR.out⟩
  | some q =>
    obtain ⟨p, s1⟩ := q
    rw [hnx] at hn
    obtain ⟨⟨A, rfl, hA⟩, U⟩ := hn
    obtain ⟨hft, hpl, hpin⟩ := next_ft hnx
    have hpb : Byt p := fun x hx => HB.out x (hpin x hx)
    obtain ⟨b, hbb⟩ : ∃ b, b = upN p := ⟨_, rfl⟩
    have hbl : b < 256 := by
      have := upN_lt p hpb
      rw [hpl, ← hbb] at this
      simp at this
      omega
    have HG := Lib.hid (fun (w4 : World) (hu : UpdR F k w w4 s1) => (show Fixed1P F k w s 1 (.returned (.int .u64 (b : Int))) w4 by
      unfold Fixed1P fixedO
      rw [if_neg (by decide), show (1 : Int).toNat = 1 from rfl, hnx]
      exact ⟨hu, by rw [hbb]⟩))
    have HU := Lib.hid U
    have UP := Lib.hid (show Calls Try.prog 108 #[.slice A 1 1] w2 _ from (by have := up_u8 (cap := p.length) hA.src hpb (by omega); rw [hpl, ← hbb] at this; exact this)); rw [hpl]; clear hA
    clear U hnx hft hpin hpb hbb
    (go_wp2_with (fail); refine UP.out.mono ?_; rintro e w4 ⟨rfl, B4⟩; have HB4 := Lib.hid B4; clear B4)
    go_wp2_with (fail)
    go_ret
    exact HG.out _ (HU.out.ahead HB4.out)
set_option maxRecDepth 100000 in
set_option maxHeartbeats 2000000 in
theorem fixed1_4 {z y : Nat} (hz : w.cell? ⟨z, 0, none⟩ = some (.pointer (some ⟨k, 0, none⟩))) (hy : w.cell? ⟨y, 0, none⟩ = some (.int .i64 4)) (h : RLies w F k s) (hb : Byt s.left) (h63 : s.left.length ≤ 140737488355328) :
    Calls Try.prog 107 #[.pointer (some ⟨y, 0, none⟩), .pointer (some ⟨z, 0, none⟩)] w (Fixed1P F k w s 4) := by
  have NX := Lib.hid (next_lit h 4 4 rfl (by omega) h63)
  have HB := Lib.hid hb
  clear h hb
  go_enter Try.func107, Try.ntmps107
  go_wp2_with (fail)
  refine NX.out.mono ?_
  rintro e w2 hn
  unfold NextP at hn
  cases hnx : s.next 4 with
  | none =>
    rw [hnx] at hn
    obtain ⟨⟨u, pv, rfl⟩, U⟩ := hn
    have HR := Lib.hid (show Fixed1P F k w s 4 (.panicked [{ v := .iface u pv, recovered := false }]) w2 by
      unfold Fixed1P fixedO
      rw [if_neg (by decide), show (4 : Int).toNat = 4 from rfl, hnx]
      exact ⟨U, u, pv, rfl⟩)
    clear U hnx
    go_wp2_with (fail)
    exact ⟨rfl, HR.out⟩
  | some q =>
    obtain ⟨p, s1⟩ := q
    rw [hnx] at hn
    obtain ⟨⟨A, rfl, hA⟩, U⟩ := hn
    obtain ⟨hft, hpl, hpin⟩ := next_ft hnx
    have hpb : Byt p := fun x hx => HB.out x (hpin x hx)
    obtain ⟨b, hbb⟩ : ∃ b, b = upN p := ⟨_, rfl⟩
    have hbl : b < 4294967296 := by
      have := upN_lt p hpb
      rw [hpl, ← hbb] at this
      simp at this
      omega
    have HG := Lib.hid (fun (w4 : World) (hu : UpdR F k w w4 s1) => (show Fixed1P F k w s 4 (.returned (.int .u64 (b : Int))) w4 by
      unfold Fixed1P fixedO
      rw [if_neg (by decide), show (4 : Int).toNat = 4 from rfl, hnx]
      exact ⟨hu, by rw [hbb]⟩))
    have HU := Lib.hid U
    have UP := Lib.hid (show Calls Try.prog 110 #[.slice A 4 4] w2 _ from (by have := up_u32 (cap := p.length) hA.src hpb (by omega); rw [hpl, ← hbb] at this; exact this)); rw [hpl]; clear hA
    clear U hnx hft hpin hpb hbb
    (go_wp2_with (fail); refine UP.out.mono ?_; rintro e w4 ⟨rfl, B4⟩; have HB4 := Lib.hid B4; clear B4)
    go_wp2_with (fail)
    go_ret
    exact HG.out _ (HU.out.ahead HB4.out)
set_option maxRecDepth 100000 in
set_option maxHeartbeats 2000000 in
theorem fixed1_3 {z y : Nat} (hz : w.cell? ⟨z, 0, none⟩ = some (.pointer (some ⟨k, 0, none⟩))) (hy : w.cell? ⟨y, 0, none⟩ = some (.int .i64 3)) (h : RLies w F k s) (hb : Byt s.left) (h63 : s.left.length ≤ 140737488355328) :
    Calls Try.prog 107 #[.pointer (some ⟨y, 0, none⟩), .pointer (some ⟨z, 0, none⟩)] w (Fixed1P F k w s 3) := by
  have NX := Lib.hid (next_lit h 3 3 rfl (by omega) h63)
  have HB := Lib.hid hb
  clear h hb
  go_enter Try.func107, Try.ntmps107
  go_wp2_with (fail)
  refine NX.out.mono ?_
  rintro e w2 hn
  unfold NextP at hn
  cases hnx : s.next 3 with
  | none =>
    rw [hnx] at hn
    obtain ⟨⟨u, pv, rfl⟩, U⟩ := hn
    have HR := Lib.hid (show Fixed1P F k w s 3 (.panicked [{ v := .iface u pv, recovered := false }]) w2 by
      unfold Fixed1P fixedO
      rw [if_neg (by decide), show (3 : Int).toNat = 3 from rfl, hnx]
      exact ⟨U, u, pv, rfl⟩)
    clear U hnx
    go_wp2_with (fail)
    exact ⟨rfl, HR.out⟩
  | some q =>
    obtain ⟨p, s1⟩ := q
    rw [hnx] at hn
    obtain ⟨⟨A, rfl, hA⟩, U⟩ := hn
    obtain ⟨hft, hpl, hpin⟩ := next_ft hnx
    have hpb : Byt p := fun x hx => HB.out x (hpin x hx)
    obtain ⟨b, hbb⟩ : ∃ b, b = upN p := ⟨_, rfl⟩
    have hbl : b < 18446744073709551616 := by
      have := upN_lt p hpb
      rw [hpl, ← hbb] at this
      simp at this
      omega
    have HG := Lib.hid (fun (w4 : World) (hu : UpdR F k w w4 s1) => (show Fixed1P F k w s 3 (.returned (.int .u64 (b : Int))) w4 by
      unfold Fixed1P fixedO
      rw [if_neg (by decide), show (3 : Int).toNat = 3 from rfl, hnx]
      exact ⟨hu, by rw [hbb]⟩))
    have HU := Lib.hid U
    have UP := Lib.hid (show Calls Try.prog 70 #[.slice A 3 3] w2 _ from (by have := up_u64 (cap := p.length) hA.src hpb (by omega); rw [hpl, ← hbb] at this; exact this)); rw [hpl]; clear hA
    clear U hnx hft hpin hpb hbb
    (go_wp2_with (fail); refine UP.out.mono ?_; rintro e w4 ⟨rfl, B4⟩; have HB4 := Lib.hid B4; clear B4)
    go_wp2_with (fail)
    go_ret
    exact HG.out _ (HU.out.ahead HB4.out)
set_option maxRecDepth 100000 in
set_option maxHeartbeats 2000000 in
theorem fixed1_5 {z y : Nat} (hz : w.cell? ⟨z, 0, none⟩ = some (.pointer (some ⟨k, 0, none⟩))) (hy : w.cell? ⟨y, 0, none⟩ = some (.int .i64 5)) (h : RLies w F k s) (hb : Byt s.left) (h63 : s.left.length ≤ 140737488355328) :
    Calls Try.prog 107 #[.pointer (some ⟨y, 0, none⟩), .pointer (some ⟨z, 0, none⟩)] w (Fixed1P F k w s 5) := by
  have NX := Lib.hid (next_lit h 5 5 rfl (by omega) h63)
  have HB := Lib.hid hb
  clear h hb
  go_enter Try.func107, Try.ntmps107
  go_wp2_with (fail)
  refine NX.out.mono ?_
  rintro e w2 hn
  unfold NextP at hn
  cases hnx : s.next 5 with
  | none =>
    rw [hnx] at hn
    obtain ⟨⟨u, pv, rfl⟩, U⟩ := hn
    have HR := Lib.hid (show Fixed1P F k w s 5 (.panicked [{ v := .iface u pv, recovered := false }]) w2 by
      unfold Fixed1P fixedO
      rw [if_neg (by decide), show (5 : Int).toNat = 5 from rfl, hnx]
      exact ⟨U, u, pv, rfl⟩)
    clear U hnx
    go_wp2_with (fail)
    exact ⟨rfl, HR.out⟩
  | some q =>
    obtain ⟨p, s1⟩ := q
    rw [hnx] at hn
    obtain ⟨⟨A, rfl, hA⟩, U⟩ := hn
    obtain ⟨hft, hpl, hpin⟩ := next_ft hnx
    have hpb : Byt p := fun x hx => HB.out x (hpin x hx)
    obtain ⟨b, hbb⟩ : ∃ b, b = upN p := ⟨_, rfl⟩
    have hbl : b < 18446744073709551616 := by
      have := upN_lt p hpb
      rw [hpl, ← hbb] at this
      simp at this
      omega
    have HG := Lib.hid (fun (w4 : World) (hu : UpdR F k w w4 s1) => (show Fixed1P F k w s 5 (.returned (.int .u64 (b : Int))) w4 by
      unfold Fixed1P fixedO
      rw [if_neg (by decide), show (5 : Int).toNat = 5 from rfl, hnx]
      exact ⟨hu, by rw [hbb]⟩))
    have HU := Lib.hid U
    have UP := Lib.hid (show Calls Try.prog 70 #[.slice A 5 5] w2 _ from (by have := up_u64 (cap := p.length) hA.src hpb (by omega); rw [hpl, ← hbb] at this; exact this)); rw [hpl]; clear hA
    clear U hnx hft hpin hpb hbb
    (go_wp2_with (fail); refine UP.out.mono ?_; rintro e w4 ⟨rfl, B4⟩; have HB4 := Lib.hid B4; clear B4)
    go_wp2_with (fail)
    go_ret
    exact HG.out _ (HU.out.ahead HB4.out)
set_option maxRecDepth 100000 in
set_option maxHeartbeats 2000000 in
theorem fixed1_6 {z y : Nat} (hz : w.cell? ⟨z, 0, none⟩ = some (.pointer (some ⟨k, 0, none⟩))) (hy : w.cell? ⟨y, 0, none⟩ = some (.int .i64 6)) (h : RLies w F k s) (hb : Byt s.left) (h63 : s.left.length ≤ 140737488355328) :
    Calls Try.prog 107 #[.pointer (some ⟨y, 0, none⟩), .pointer (some ⟨z, 0, none⟩)] w (Fixed1P F k w s 6) := by
  have NX := Lib.hid (next_lit h 6 6 rfl (by omega) h63)
  have HB := Lib.hid hb
  clear h hb
  go_enter Try.func107, Try.ntmps107
  go_wp2_with (fail)
  refine NX.out.mono ?_
  rintro e w2 hn
  unfold NextP at hn
  cases hnx : s.next 6 with
  | none =>
    rw [hnx] at hn
    obtain ⟨⟨u, pv, rfl⟩, U⟩ := hn
    have HR := Lib.hid (show Fixed1P F k w s 6 (.panicked [{ v := .iface u pv, recovered := false }]) w2 by
      unfold Fixed1P fixedO
      rw [if_neg (by decide), show (6 : Int).toNat = 6 from rfl, hnx]
      exact ⟨U, u, pv, rfl⟩)
    clear U hnx
    go_wp2_with (fail)
    exact ⟨rfl, HR.out⟩
  | some q =>
    obtain ⟨p, s1⟩ := q
    rw [hnx] at hn
    obtain ⟨⟨A, rfl, hA⟩, U⟩ := hn
    obtain ⟨hft, hpl, hpin⟩ := next_ft hnx
    have hpb : Byt p := fun x hx => HB.out x (hpin x hx)
    obtain ⟨b, hbb⟩ : ∃ b, b = upN p := ⟨_, rfl⟩
    have hbl : b < 18446744073709551616 := by
      have := upN_lt p hpb
      rw [hpl, ← hbb] at this
      simp at this
      omega
    have HG := Lib.hid (fun (w4 : World) (hu : UpdR F k w w4 s1) => (show Fixed1P F k w s 6 (.returned (.int .u64 (b : Int))) w4 by
      unfold Fixed1P fixedO
      rw [if_neg (by decide), show (6 : Int).toNat = 6 from rfl, hnx]
      exact ⟨hu, by rw [hbb]⟩))
    have HU := Lib.hid U
    have UP := Lib.hid (show Calls Try.prog 70 #[.slice A 6 6] w2 _ from (by have := up_u64 (cap := p.length) hA.src hpb (by omega); rw [hpl, ← hbb] at this; exact this)); rw [hpl]; clear hA
    clear U hnx hft hpin hpb hbb
    (go_wp2_with (fail); refine UP.out.mono ?_; rintro e w4 ⟨rfl, B4⟩; have HB4 := Lib.hid B4; clear B4)
    go_wp2_with (fail)
    go_ret
    exact HG.out _ (HU.out.ahead HB4.out)
set_option maxRecDepth 100000 in
set_option maxHeartbeats 2000000 in
theorem fixed1_7 {z y : Nat} (hz : w.cell? ⟨z, 0, none⟩ = some (.pointer (some ⟨k, 0, none⟩))) (hy : w.cell? ⟨y, 0, none⟩ = some (.int .i64 7)) (h : RLies w F k s) (hb : Byt s.left) (h63 : s.left.length ≤ 140737488355328) :
    Calls Try.prog 107 #[.pointer (some ⟨y, 0, none⟩), .pointer (some ⟨z, 0, none⟩)] w (Fixed1P F k w s 7) := by
  have NX := Lib.hid (next_lit h 7 7 rfl (by omega) h63)
  have HB := Lib.hid hb
  clear h hb
  go_enter Try.func107, Try.ntmps107
  go_wp2_with (fail)
  refine NX.out.mono ?_
  rintro e w2 hn
  unfold NextP at hn
  cases hnx : s.next 7 with
  | none =>
    rw [hnx] at hn
    obtain ⟨⟨u, pv, rfl⟩, U⟩ := hn
    have HR := Lib.hid (show Fixed1P F k w s 7 (.panicked [{ v := .iface u pv, recovered := false }]) w2 by
      unfold Fixed1P fixedO
      rw [if_neg (by decide), show (7 : Int).toNat = 7 from rfl, hnx]
      exact ⟨U, u, pv, rfl⟩)
    clear U hnx
    go_wp2_with (fail)
    exact ⟨rfl, HR.out⟩
  | some q =>
    obtain ⟨p, s1⟩ := q
    rw [hnx] at hn
    obtain ⟨⟨A, rfl, hA⟩, U⟩ := hn
    obtain ⟨hft, hpl, hpin⟩ := next_ft hnx
    have hpb : Byt p := fun x hx => HB.out x (hpin x hx)
    obtain ⟨b, hbb⟩ : ∃ b, b = upN p := ⟨_, rfl⟩
    have hbl : b < 18446744073709551616 := by
      have := upN_lt p hpb
      rw [hpl, ← hbb] at this
      simp at this
      omega
    have HG := Lib.hid (fun (w4 : World) (hu : UpdR F k w w4 s1) => (show Fixed1P F k w s 7 (.returned (.int .u64 (b : Int))) w4 by
      unfold Fixed1P fixedO
      rw [if_neg (by decide), show (7 : Int).toNat = 7 from rfl, hnx]
      exact ⟨hu, by rw [hbb]⟩))
    have HU := Lib.hid U
    have UP := Lib.hid (show Calls Try.prog 70 #[.slice A 7 7] w2 _ from (by have := up_u64 (cap := p.length) hA.src hpb (by omega); rw [hpl, ← hbb] at this; exact this)); rw [hpl]; clear hA
    clear U hnx hft hpin hpb hbb
    (go_wp2_with (fail); refine UP.out.mono ?_; rintro e w4 ⟨rfl, B4⟩; have HB4 := Lib.hid B4; clear B4)
    go_wp2_with (fail)
    go_ret
    exact HG.out _ (HU.out.ahead HB4.out)
set_option maxRecDepth 100000 in
set_option maxHeartbeats 2000000 in
theorem fixed1_8 {z y : Nat} (hz : w.cell? ⟨z, 0, none⟩ = some (.pointer (some ⟨k, 0, none⟩))) (hy : w.cell? ⟨y, 0, none⟩ = some (.int .i64 8)) (h : RLies w F k s) (hb : Byt s.left) (h63 : s.left.length ≤ 140737488355328) :
    Calls Try.prog 107 #[.pointer (some ⟨y, 0, none⟩), .pointer (some ⟨z, 0, none⟩)] w (Fixed1P F k w s 8) := by
  have NX := Lib.hid (next_lit h 8 8 rfl (by omega) h63)
  have HB := Lib.hid hb
  clear h hb
  go_enter Try.func107, Try.ntmps107
  go_wp2_with (fail)
  refine NX.out.mono ?_
  rintro e w2 hn
  unfold NextP at hn
  cases hnx : s.next 8 with
  | none =>
    rw [hnx] at hn
    obtain ⟨⟨u, pv, rfl⟩, U⟩ := hn
    have HR := Lib.hid (show Fixed1P F k w s 8 (.panicked [{ v := .iface u pv, recovered := false }]) w2 by
      unfold Fixed1P fixedO
      rw [if_neg (by decide), show (8 : Int).toNat = 8 from rfl, hnx]
      exact ⟨U, u, pv, rfl⟩)
    clear U hnx
    go_wp2_with (fail)
    exact ⟨rfl, HR.out⟩
  | some q =>
    obtain ⟨p, s1⟩ := q
    rw [hnx] at hn
    obtain ⟨⟨A, rfl, hA⟩, U⟩ := hn
    obtain ⟨hft, hpl, hpin⟩ := next_ft hnx
    have hpb : Byt p := fun x hx => HB.out x (hpin x hx)
    obtain ⟨b, hbb⟩ : ∃ b, b = upN p := ⟨_, rfl⟩
    have hbl : b < 18446744073709551616 := by
      have := upN_lt p hpb
      rw [hpl, ← hbb] at this
      simp at this
      omega
    have HG := Lib.hid (fun (w4 : World) (hu : UpdR F k w w4 s1) => (show Fixed1P F k w s 8 (.returned (.int .u64 (b : Int))) w4 by
      unfold Fixed1P fixedO
      rw [if_neg (by decide), show (8 : Int).toNat = 8 from rfl, hnx]
      exact ⟨hu, by rw [hbb]⟩))
    have HU := Lib.hid U
    have UP := Lib.hid (show Calls Try.prog 70 #[.slice A 8 8] w2 _ from (by have := up_u64 (cap := p.length) hA.src hpb (by omega); rw [hpl, ← hbb] at this; exact this)); rw [hpl]; clear hA
    clear U hnx hft hpin hpb hbb
    (go_wp2_with (fail); refine UP.out.mono ?_; rintro e w4 ⟨rfl, B4⟩; have HB4 := Lib.hid B4; clear B4)
    go_wp2_with (fail)
    go_ret
    exact HG.out _ (HU.out.ahead HB4.out)
set_option maxRecDepth 100000 in
set_option maxHeartbeats 2000000 in
theorem fixed1_2 {z y : Nat} (hz : w.cell? ⟨z, 0, none⟩ = some (.pointer (some ⟨k, 0, none⟩))) (hy : w.cell? ⟨y, 0, none⟩ = some (.int .i64 2)) (h : RLies w F k s) (hb : Byt s.left) (h63 : s.left.length ≤ 140737488355328) :
    Calls Try.prog 107 #[.pointer (some ⟨y, 0, none⟩), .pointer (some ⟨z, 0, none⟩)] w (Fixed1P F k w s 2) := by
  have NX := Lib.hid (next_lit h 2 2 rfl (by omega) h63)
  have HB := Lib.hid hb
  clear h hb
  go_enter Try.func107, Try.ntmps107
  go_wp2_with (fail)
  refine NX.out.mono ?_
  rintro e w2 hn
  unfold NextP at hn
  cases hnx : s.next 2 with
  | none =>
    rw [hnx] at hn
    obtain ⟨⟨u, pv, rfl⟩, U⟩ := hn
    have HR := Lib.hid (show Fixed1P F k w s 2 (.panicked [{ v := .iface u pv, recovered := false }]) w2 by
      unfold Fixed1P fixedO
      rw [if_neg (by decide), show (2 : Int).toNat = 2 from rfl, hnx]
      exact ⟨U, u, pv, rfl⟩)
    clear U hnx
    go_wp2_with (fail)
    exact ⟨rfl, HR.out⟩
  | some q =>
    obtain ⟨p, s1⟩ := q
    rw [hnx] at hn
    obtain ⟨⟨A, rfl, hA⟩, U⟩ := hn
    obtain ⟨hft, hpl, hpin⟩ := next_ft hnx
    have hpb : Byt p := fun x hx => HB.out x (hpin x hx)
    obtain ⟨b, hbb⟩ : ∃ b, b = upN p := ⟨_, rfl⟩
    have hbl : b < 65536 := by
      have := upN_lt p hpb
      rw [hpl, ← hbb] at this
      simpa using this
    have HG := Lib.hid (fun (w4 : World) (hu : UpdR F k w w4 s1) => (show Fixed1P F k w s 2 (.returned (.int .u64 (b : Int))) w4 by
      unfold Fixed1P fixedO
      rw [if_neg (by decide), show (2 : Int).toNat = 2 from rfl, hnx]
      exact ⟨hu, by rw [hbb]⟩))
    have HU := Lib.hid U
    obtain ⟨g, o, rfl, hba⟩ := hA.src (by intro h; rw [h] at hpl; simp at hpl)
    obtain ⟨x0, x1, hpe⟩ : ∃ x0 x1, p = [x0, x1] := by
      match p, hpl with
      | [a, b], _ => exact ⟨a, b, rfl⟩
    have c0 := hba 0 x0 (by rw [hpe]; rfl)
    have c1 := hba 1 x1 (by rw [hpe]; rfl)
    rw [Nat.add_zero] at c0
    have ha : (Instr.arrayAt 116 (.slice (some ⟨g, o, none⟩) 2 2)).run Try.prog w2 = .ok (.pointer (some ⟨g, o, none⟩)) w2 := by
      apply run_arrayAt
      · exact Try.underlying116
      · exact Nat.le_refl 2
    have B0 : Below w2.heap.size w2 (w2.alloc (.cells #[.int .u8 x0, .int .u8 x1] 116)) := (Below.refl _ _).alloc (Nat.le_refl _) _
    have hba' : BsAt (w2.alloc (.cells #[.int .u8 x0, .int .u8 x1] 116)) w2.heap.size 0 p := by
      rw [hpe]
      intro j x hx
      rcases j with _ | _ | j
      · simp at hx; subst hx; exact cell_blk (blk_new w2 _) 0 rfl
      · simp at hx; subst hx; exact cell_blk (blk_new w2 _) 1 rfl
      · simp at hx
    have UP := up_u16 (cap := 2) (BSrc.ofAt hba') hpb (by omega)
    rw [hpl, ← hbb] at UP
    have HUP := Lib.hid UP
    have HB0 := Lib.hid B0
    rw [hpl]
    clear U hnx hft hpin hpb hbb hA hba hpe B0 hba' UP hpl
    go_wp2_with (fail)
    refine HUP.out.mono ?_
    rintro e w4 ⟨rfl, B4⟩
    have HB4 := Lib.hid (HB0.out.trans (B4.mono HB0.out.size))
    clear B4
    go_wp2_with (fail)
    go_ret
    exact HG.out _ (HU.out.ahead HB4.out)
theorem fixed1_any {z y : Nat} {n : Int} (hz : w.cell? ⟨z, 0, none⟩ = some (.pointer (some ⟨k, 0, none⟩))) (hy : w.cell? ⟨y, 0, none⟩ = some (.int .i64 n)) (h : RLies w F k s) (hb : Byt s.left) (h63 : s.left.length ≤ 140737488355328) (hyF : ¬ F y) :
    Calls Try.prog 107 #[.pointer (some ⟨y, 0, none⟩), .pointer (some ⟨z, 0, none⟩)] w (Fixed1P F k w s n) := by
  by_cases hn : n < 1 ∨ 8 < n
  · exact fixed1_bad hz hy h hn
  · rcases (by omega : n = 1 ∨ n = 2 ∨ n = 3 ∨ n = 4 ∨ n = 5 ∨ n = 6 ∨ n = 7 ∨ n = 8) with rfl | rfl | rfl | rfl | rfl | rfl | rfl | rfl
    · exact fixed1_1 hz hy h hb h63
    · exact fixed1_2 hz hy h hb h63
    · exact fixed1_3 hz hy h hb h63
    · exact fixed1_4 hz hy h hb h63
    · exact fixed1_5 hz hy h hb h63
    · exact fixed1_6 hz hy h hb h63
    · exact fixed1_7 hz hy h hb h63
    · exact fixed1_8 hz hy h hb h63
set_option maxRecDepth 100000 in
set_option maxHeartbeats 2000000 in
theorem rFixed_any (h : RLies w F k s) (hb : Byt s.left) (h63 : s.left.length ≤ 140737488355328) (n : Int) :
    Calls Try.prog 56 #[.pointer (some ⟨k, 0, none⟩), .int .i64 n] w fun e w' => e = .returned (.int .u64 ((s.fixed n).1 : Nat)) ∧ UpdR F k w w' (s.fixed n).2 := by
  have hmf : ∀ (fn : Fn) (first cap : Array Value) (w : World), (Instr.makeFunc fn first cap).run Try.prog w = .ok (.func fn first cap) w := fun _ _ _ _ => rfl
  obtain ⟨b0, b1⟩ := two_blks w (.cells #[.pointer (some ⟨k, 0, none⟩)] 28) (.cells #[.int .i64 n] 3)
  have B2 : Below w.heap.size w ((w.alloc (.cells #[.pointer (some ⟨k, 0, none⟩)] 28)).alloc (.cells #[.int .i64 n] 3)) := ((Below.refl _ _).alloc (Nat.le_refl _) _).alloc (by simp) _
  have z0 := cell_blk b0 0 rfl
  have HH := Lib.hid h
  have TK := Lib.hid (take_u64 false (h.tight.below B2) (f := 107) (first := #[]) (cap := #[.pointer (some ⟨w.heap.size + 1, 0, none⟩), .pointer (some ⟨w.heap.size, 0, none⟩)]) Try.func107 (by kernel_rfl) rfl (fixedO s n).2 (fixedO s n).1.isSome
    (fun x _ => x = (((fixedO s n).1.getD 0 : Nat) : Int)) (fun _ _ _ hx _ => hx)
    (fun h0 wd hB hz hL => (fixed1_any (cell_blk (blk_below b0 hB) 0 rfl) (cell_blk (blk_below b1 hB) 0 rfl) hL hb h63 (fun hf => by have : w.heap.size + 1 < w.heap.size := hf.1.2; omega)).mono fun e w' hn => ⟨hn.1.n false, by
      have h2 := hn.2
      cases ho : (fixedO s n).1 with
      | none => rw [ho] at h2; exact h2
      | some n => rw [ho] at h2; exact ⟨_, h2, rfl⟩⟩))
  have HB2 := Lib.hid B2
  clear h hb b0 b1 B2
  go_enter Try.func56, Try.ntmps56
  go_wp2_with (fail)
  refine TK.out.mono ?_
  rintro e w2 ht
  obtain ⟨rfl, hu⟩ := TakeP_u64.gives (q := s.fixed n) HB2.out HH.out (fun h => by unfold RS.fixed; rw [if_neg h]) (fun h => fixed_eq s n h) ht
  have HU := Lib.hid hu
  clear hu ht
  go_wp2_with (fail)
  go_ret
  exact ⟨rfl, HU.out⟩
end
end Go.Proofs.Ytibelfljlhcibaa
