/- Readers: Num, Int, Byte, Done, Rest, Read. -/
import Derived.Test.YtibelfljlhcibaaPR2
import Derived.Test.YtibelfljlhcibaaPTu
import Derived.Test.YtibelfljlhcibaaPTi
namespace Go.Proofs.Ytibelfljlhcibaa
set_option linter.unusedVariables false
set_option linter.unusedSimpArgs false
open Go.RowKit Go.Deep Go.Proofs.YtibelfljlhcibaaW.PrintLast

theorem readN_lt : ∀ (l : List Int) (j n : Nat), Byt l → n < 128 ^ j → j ≤ 9 → ∀ m, (readN j n l).1 = some m → m < 18446744073709551616
  | [], j, n, _, _, _, m, h => by simp [readN] at h
  | c :: t, j, n, hb, hn, hj, m, h => by
    have hc := hb c List.mem_cons_self
    unfold readN at h
    split at h
    · injection h with h; subst h; decide
    · rename_i h1
      have hx : (c % 128).toNat ≤ 127 := by omega
      have hp : 128 ^ (j + 1) = 128 ^ j * 128 := Nat.pow_succ ..
      split at h
      · injection h with h; subst h
        by_cases h9 : j = 9
        · subst h9
          have : (c % 128).toNat ≤ 1 := by omega
          have p9 : (128 : Nat) ^ 9 = 9223372036854775808 := by decide
          rw [p9] at hn ⊢
          have := Nat.mul_le_mul_right 9223372036854775808 this
          omega
        · have h8 : 128 ^ j ≤ 72057594037927936 := Nat.le_trans (Nat.pow_le_pow_right (by decide) (by omega : j ≤ 8)) (by decide)
          have := Nat.mul_le_mul hx h8
          omega
      · refine readN_lt t (j + 1) _ (fun x hx => hb x (List.mem_cons_of_mem c hx)) ?_ (by omega) m h
        have := Nat.mul_le_mul_right (128 ^ j) hx
        omega
theorem readN_left : ∀ (l : List Int) (j n : Nat), ∀ x ∈ (readN j n l).2.2, x ∈ l
  | [], j, n, x, h => by simp [readN] at h
  | c :: t, j, n, x, h => by
    unfold readN at h
    split at h
    · exact List.mem_cons_of_mem _ h
    · split at h
      · exact List.mem_cons_of_mem _ h
      · exact List.mem_cons_of_mem _ (readN_left t _ _ x h)
theorem readN_len : ∀ (l : List Int) (j n : Nat), (readN j n l).2.2.length ≤ l.length
  | [], j, n => by simp [readN]
  | c :: t, j, n => by
    unfold readN
    split
    · simp
    · split
      · simp
      · have := readN_len t (j + 1) (n + (c % 128).toNat * 128 ^ j); simp; omega
section
variable {w w' w1 w2 : World} {F G : Nat → Prop} {k : Nat} {s s' : RS}
theorem num_eq (s : RS) (h : s.ft = 0) : s.num = (match (numO s).1 with | none => (0, (numO s).2.short) | some n => (if (numO s).2.ft = 0 then n else 0, (numO s).2)) := by
  unfold RS.num numO RS.short
  rw [if_pos h]
  generalize readN 0 0 s.left = r
  obtain ⟨o, e, t⟩ := r
  cases o <;> rfl
theorem num_lt (s : RS) (hb : Byt s.left) : s.num.1 < 18446744073709551616 := by
  unfold RS.num
  split
  · have := readN_lt s.left 0 0 hb (by simp) (by omega)
    generalize readN 0 0 s.left = r at *
    obtain ⟨o, e, t⟩ := r
    cases o with
    | none => simp
    | some m =>
      have := this m rfl
      simp only
      split <;> omega
  · simp
set_option maxHeartbeats 1000000 in
theorem rNum_any (h : RLies w F k s) (hb : Byt s.left) (h63 : s.left.length ≤ 9223372036854775807) :
    Calls Try.prog 17 #[.pointer (some ⟨k, 0, none⟩)] w fun e w' => e = .returned (.int .u64 (s.num.1 : Nat)) ∧ UpdR F k w w' s.num.2 := by
  have hmf : ∀ (fn : Fn) (first cap : Array Value) (w : World), (Instr.makeFunc fn first cap).run Try.prog w = .ok (.func fn first cap) w := fun _ _ _ _ => rfl
  have TK := Lib.hid (take_u64 false h (f := 60) (first := #[.pointer (some ⟨k, 0, none⟩)]) (cap := #[]) Try.func60 (by kernel_rfl) rfl (numO s).2 (numO s).1.isSome (fun x _ => x = (((numO s).1.getD 0 : Nat) : Int)) (fun _ _ _ hx _ => hx)
    (fun h0 wd hB hz hL => (num_any hL h0 hb h63).mono fun e w' hn => ⟨hn.1.n false, by
      have h2 := hn.2
      cases ho : (numO s).1 with
      | none => rw [ho] at h2; exact h2
      | some n => rw [ho] at h2; exact ⟨_, h2, rfl⟩⟩))
  have HH := Lib.hid h
  clear h hb
  go_enter Try.func17, Try.ntmps17
  go_wp2_with (fail)
  refine TK.out.mono ?_
  rintro e w2 ht
  have hr : e = .returned (.int .u64 (s.num.1 : Nat)) ∧ UpdR F k w w2 s.num.2 := by
    unfold TakeP_u64 at ht
    by_cases h0 : s.ft = 0
    · rw [if_pos h0] at ht
      rw [num_eq s h0]
      cases ho : (numO s).1 with
      | none =>
        rw [ho] at ht
        simp only [Option.isSome_none, Bool.false_eq_true, false_and, if_false] at ht
        exact ⟨ht.1, ht.2.strict⟩
      | some n =>
        rw [ho] at ht
        simp only [Option.isSome_some, true_and, if_true] at ht
        by_cases h1 : (numO s).2.ft = 0
        · rw [if_pos h1] at ht
          obtain ⟨⟨x, rfl, rfl⟩, hu⟩ := ht
          simp only [h1, if_true]
          exact ⟨rfl, hu.strict⟩
        · rw [if_neg h1] at ht
          simp only [h1, if_false]
          exact ⟨ht.1, ht.2.strict⟩
    · rw [if_neg h0] at ht
      have : s.num = (0, s) := by unfold RS.num; rw [if_neg h0]
      rw [this]
      exact ⟨ht.1, UpdR.of_below HH.out ht.2⟩
  obtain ⟨rfl, hu⟩ := hr
  have HU := Lib.hid hu
  clear hu ht
  go_wp2_with (fail)
  go_ret
  exact ⟨rfl, HU.out⟩
set_option maxHeartbeats 400000 in
theorem rInt_any (h : RLies w F k s) (hb : Byt s.left) (h63 : s.left.length ≤ 9223372036854775807) :
    Calls Try.prog 25 #[.pointer (some ⟨k, 0, none⟩)] w fun e w' => e = .returned (.int .i64 s.int.1) ∧ UpdR F k w w' s.int.2 := by
  have NM := Lib.hid (rNum_any h hb h63)
  have hlt := num_lt s hb
  have e2 : s.int = (unfoldZ s.num.1, s.num.2) := rfl
  have HE := Lib.hid e2
  generalize s.num.1 = z at *
  have UF := Lib.hid (unfold_any z hlt)
  clear h hb e2 hlt
  go_enter Try.func25, Try.ntmps25
  go_wp2_with (fail)
  refine NM.out.mono ?_
  rintro e w2 ⟨rfl, R2⟩
  have HR := Lib.hid R2
  clear R2
  go_wp2_with (fail)
  go_ret
  rw [HE.out]
  exact ⟨ret_i UF.out, HR.out⟩
/-- A byte off a reader without a fault. -/
def byteO (s : RS) : Option Int × RS := match s.left with
  | [] => (none, s)
  | x :: t => (some x, { s with left := t })
set_option maxHeartbeats 1000000 in
theorem byte1_any {z : Nat} (hz : w.cell? ⟨z, 0, none⟩ = some (.pointer (some ⟨k, 0, none⟩))) (h : RLies w F k s) (hb : Byt s.left) (h63 : s.left.length ≤ 9223372036854775807) :
    Calls Try.prog 62 #[.pointer (some ⟨z, 0, none⟩)] w fun e w' => UpdR F k w w' (byteO s).2 ∧ match (byteO s).1 with | some x => e = .returned (.int .i64 x) | none => IsPanic e := by
  have NX := Lib.hid (next1_any h h63)
  have HB := Lib.hid hb
  clear h hb
  unfold byteO
  go_enter Try.func62, Try.ntmps62
  cases hl : s.left with
  | nil =>
    have HL := Lib.hid hl
    clear hl
    go_wp2_with (fail)
    refine NX.out.mono ?_
    rintro e w2 hn
    rw [HL.out] at hn
    obtain ⟨⟨u, pv, rfl⟩, U⟩ := hn
    have HU := Lib.hid U
    clear U
    go_wp2_with (fail)
    refine ⟨rfl, ?_⟩
    exact ⟨HU.out, _, _, rfl⟩
  | cons c t =>
    have HL := Lib.hid hl
    obtain ⟨c0, c1⟩ := HB.out c (by rw [hl]; exact List.mem_cons_self)
    clear hl
    go_wp2_with (fail)
    refine NX.out.mono ?_
    rintro e w2 hn
    rw [HL.out] at hn
    obtain ⟨⟨g, o, rfl, x0⟩, U⟩ := hn
    have HU := Lib.hid U
    clear U
    go_wp2_with (fail)
    go_ret
    exact ⟨HU.out, rfl⟩
set_option maxHeartbeats 1000000 in
theorem rByte_any (h : RLies w F k s) (hb : Byt s.left) (h63 : s.left.length ≤ 9223372036854775807) :
    Calls Try.prog 20 #[.pointer (some ⟨k, 0, none⟩)] w fun e w' => e = .returned (.int .i64 s.byte.1) ∧ UpdR F k w w' s.byte.2 := by
  have hmf : ∀ (fn : Fn) (first cap : Array Value) (w : World), (Instr.makeFunc fn first cap).run Try.prog w = .ok (.func fn first cap) w := fun _ _ _ _ => rfl
  have B1 : Below w.heap.size w (w.alloc (.cells #[.pointer (some ⟨k, 0, none⟩)] 28)) := (Below.refl _ _).alloc (Nat.le_refl _) _
  have BZ := blk_new w (.cells #[.pointer (some ⟨k, 0, none⟩)] 28)
  have z0 := cell_blk BZ 0 rfl
  have TK := Lib.hid (take_int false (h.below B1) (f := 62) (first := #[]) (cap := #[.pointer (some ⟨w.heap.size, 0, none⟩)]) Try.func62 (by kernel_rfl) rfl (byteO s).2 (byteO s).1.isSome (fun x _ => x = (byteO s).1.getD 0) (fun _ _ _ hx _ => hx)
    (fun h0 wd hB hz hL => (byte1_any (cell_blk (blk_below BZ hB) 0 rfl) hL hb h63).mono fun e w' hn => ⟨hn.1.n false, by
      have h2 := hn.2
      cases ho : (byteO s).1 with
      | none => rw [ho] at h2; exact h2
      | some n => rw [ho] at h2; exact ⟨_, h2, rfl⟩⟩))
  have HH := Lib.hid h
  have HB1 := Lib.hid B1
  clear h hb B1 BZ
  go_enter Try.func20, Try.ntmps20
  go_wp2_with (fail)
  refine TK.out.mono ?_
  rintro e w2 ht
  have hr : e = .returned (.int .i64 s.byte.1) ∧ UpdR F k w w2 s.byte.2 := by
    unfold TakeP_int at ht
    by_cases h0 : s.ft = 0
    · rw [if_pos h0] at ht
      unfold RS.byte
      rw [if_pos h0]
      unfold byteO at ht
      cases hl : s.left with
      | nil =>
        rw [hl] at ht
        simp only [Option.isSome_none, Bool.false_eq_true, false_and, if_false] at ht
        exact ⟨ht.1, UpdR.after HB1.out ht.2.strict⟩
      | cons x t =>
        rw [hl] at ht
        simp only [Option.isSome_some, true_and] at ht
        rw [if_pos h0] at ht
        obtain ⟨⟨x', rfl, rfl⟩, hu⟩ := ht
        exact ⟨rfl, UpdR.after HB1.out hu.strict⟩
    · rw [if_neg h0] at ht
      have : s.byte = (0, s) := by unfold RS.byte; rw [if_neg h0]
      rw [this]
      exact ⟨ht.1, UpdR.of_below HH.out (HB1.out.trans (ht.2.mono HB1.out.size))⟩
  obtain ⟨rfl, hu⟩ := hr
  have HU := Lib.hid hu
  clear hu ht
  go_wp2_with (fail)
  go_ret
  exact ⟨rfl, HU.out⟩
set_option maxHeartbeats 1000000 in
theorem rDone_any (h : RLies w F k s) : Calls Try.prog 18 #[.pointer (some ⟨k, 0, none⟩)] w fun e w' => e = .returned (.int .i64 s.done) ∧ w = w' := by
  obtain ⟨A, OA, oc, ss, hk, _⟩ := h
  obtain ⟨left, outer, ft⟩ := s
  simp only at hk
  have c0 := cell_blk hk 0 rfl
  have c1 := cell_blk hk 1 rfl
  have c2 := cell_blk hk 2 rfl
  clear hk
  obtain ⟨t0, ht0⟩ := named (ft != 0)
  unfold RS.done
  go_enter Try.func18, Try.ntmps18
  cases t0
  · have hf : ft = 0 := by simpa using ht0
    subst hf
    cases left with
    | nil =>
      cases outer with
      | nil =>
        simp only [List.length_nil] at c0 c1
        go_wp2_with (fail)
        go_ret
        exact ⟨rfl, rfl⟩
      | cons y u =>
        simp only [List.length_nil, List.length_cons] at c0 c1
        go_wp2_with (fail)
        go_ret
        exact ⟨rfl, rfl⟩
    | cons x t =>
      simp only [List.length_cons] at c0
      go_wp2_with (fail)
      go_ret
      exact ⟨rfl, rfl⟩
  · have hf : ft ≠ 0 := by simpa using ht0
    go_wp2_with (fail)
    go_ret
    exact ⟨rfl, rfl⟩
theorem rDone_nil (w : World) : Calls Try.prog 18 #[.pointer none] w fun e w' => e = .returned (.int .i64 1) ∧ w = w' := by
  go_enter Try.func18, Try.ntmps18
  go_wp2_with (fail)
  go_ret
  exact ⟨rfl, rfl⟩
set_option maxHeartbeats 1000000 in
theorem rRest_any (h : RLies w F k s) : Calls Try.prog 19 #[.pointer (some ⟨k, 0, none⟩)] w fun e w' => e = .returned (.int .i64 (s.rest : Nat)) ∧ w = w' := by
  obtain ⟨A, OA, oc, ss, hk, _⟩ := h
  obtain ⟨left, outer, ft⟩ := s
  simp only at hk
  have c0 := cell_blk hk 0 rfl
  have c2 := cell_blk hk 2 rfl
  clear hk
  obtain ⟨t0, ht0⟩ := named (ft != 0)
  unfold RS.rest
  go_enter Try.func19, Try.ntmps19
  cases t0
  · have hf : ft = 0 := by simpa using ht0
    subst hf
    go_wp2_with (fail)
    go_ret
    exact ⟨rfl, rfl⟩
  · have hf : ft ≠ 0 := by simpa using ht0
    go_wp2_with (fail)
    go_ret
    exact ⟨rfl, rfl⟩
theorem rRest_nil (w : World) : Calls Try.prog 19 #[.pointer none] w fun e w' => e = .returned (.int .i64 0) ∧ w = w' := by
  go_enter Try.func19, Try.ntmps19
  go_wp2_with (fail)
  go_ret
  exact ⟨rfl, rfl⟩
def ReadNew (w : World) (bs : List Int) (e : Ending) (w' : World) : Prop := ∃ k, e = .returned (.pointer (some ⟨k, 0, none⟩)) ∧ w.heap.size ≤ k ∧ Below w.heap.size w w' ∧ RLies w' (fun b => w.heap.size ≤ b ∧ b < w'.heap.size) k ⟨bs, [], 0⟩
set_option maxRecDepth 100000 in
set_option maxHeartbeats 1000000 in
theorem read_any {w : World} {A : Option Addr} {cc : Nat} {bs : List Int} (hy : BSrc w A bs) (hl : bs.length ≤ 140737488355328) : Calls Try.prog 16 #[.slice A bs.length cc] w (ReadNew w bs) := by
  have HY := Lib.hid hy
  clear hy
  go_enter Try.func16, Try.ntmps16
  go_wp2_with (first
    | (refine wpB_make _ rfl _ _ rfl bs.length (by rfl) (by rfl) (by omega) (fun w1 O1 G1 => ?_); have B1 := (Below.refl w.heap.size w).grown G1 (Nat.le_refl _) (by intro k hk; cases hk); have HG := Lib.hid G1; clear G1)
    | (refine wpB_copy _ rfl _ _ rfl O1 rfl A cc (HY.out.below B1) (by rfl) (by rfl) (fun w2 O2 G2 => ?_)))
  go_ret
  have B2 : Below w.heap.size w w2 := B1.grown G2 B1.size (by intro k hk; injection hk with hk; omega)
  have hlt := O2.lt
  refine ⟨_, rfl, B2.size, B2.alloc B2.size _, some ⟨w.heap.size, 0, none⟩, none, 0, [], blk_new w2 _, ⟨B2.size, by simp⟩, fun hne => ?_, RowF.nil, rfl, fun i s l hs => by simp at hs⟩
  obtain ⟨cur, hc, _, hv⟩ := O2.blk
  exact ⟨_, 0, cur, rfl, ⟨Nat.le_refl _, by simp; omega⟩, blk_alloc hc _, fun j x hx => by have := hv j x hx 0 _ rfl; simpa using this⟩
end
end Go.Proofs.Ytibelfljlhcibaa
