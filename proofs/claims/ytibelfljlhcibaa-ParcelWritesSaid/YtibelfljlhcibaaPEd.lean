/- The reference's writer: digits, Fixed, Fold, Int, Real. The reference's writer: none at all. The reference's writer: Close. -/
import Derived.Test.YtibelfljlhcibaaPEc
namespace Go.Proofs.Ytibelfljlhcibaa
set_option linter.unusedVariables false
set_option linter.unusedSimpArgs false
open Go.RowKit Go.Deep Go.Proofs.YtibelfljlhcibaaW.PrintLast

section
variable {w w' w1 w2 : World} {F G : Nat → Prop} {k : Nat} {s s' : WS}
set_option maxRecDepth 100000 in
set_option maxHeartbeats 1000000 in
theorem refDigits_any (n : Nat) (hn : n < 18446744073709551616) (m : Nat) (hm : m ≤ 8) (w : World) :
    Calls Try.prog 124 #[.int .u64 n, .int .i64 m] w fun e w' => OwnR w.heap.size w' (lowN m n) e ∧ Below w.heap.size w w' := by
  have HN := Lib.hid hn
  clear hn
  go_enter Try.func124, Try.ntmps124
  go_wp2_with (fail)
  refine wp_loop_ghost_k (fun (a : Nat) (ac : Act) (wr : World) => ∃ u2 u3 u4 u7 u8 u9 u10 u11 u12 u13 u14 u15 u16 u17 u18 u19 u20 v0 v5 v6 : Value, (∃ (i : Nat) (x : Nat) (A' : Option Addr) (c' : Nat), a + i = m ∧ v0 = .int .u64 x ∧ x = n / 256 ^ i ∧ v5 = .slice A' i c' ∧ v6 = .int .i64 i ∧ GRow bc 5 1 wr w.heap.size A' c' (lowN i n) ∧ Below w.heap.size w wr) ∧ ac = ({ tmps := #[v0, .int .i64 m, u2, u3, u4, v5, v6, u7, u8, u9, u10, u11, u12, u13, u14, u15, u16, u17, u18, u19, u20], defers := [] } : Act)) (m) ?atStart ?round
  case' atStart => ((repeat apply Exists.intro); refine ⟨?_, rfl⟩)
  case' round => (intro a ac wr hcut; obtain ⟨u2, hcut⟩ := hcut; obtain ⟨u3, hcut⟩ := hcut; obtain ⟨u4, hcut⟩ := hcut; obtain ⟨u7, hcut⟩ := hcut; obtain ⟨u8, hcut⟩ := hcut; obtain ⟨u9, hcut⟩ := hcut; obtain ⟨u10, hcut⟩ := hcut; obtain ⟨u11, hcut⟩ := hcut; obtain ⟨u12, hcut⟩ := hcut; obtain ⟨u13, hcut⟩ := hcut; obtain ⟨u14, hcut⟩ := hcut; obtain ⟨u15, hcut⟩ := hcut; obtain ⟨u16, hcut⟩ := hcut; obtain ⟨u17, hcut⟩ := hcut; obtain ⟨u18, hcut⟩ := hcut; obtain ⟨u19, hcut⟩ := hcut; obtain ⟨u20, hcut⟩ := hcut; obtain ⟨v0, hcut⟩ := hcut; obtain ⟨v5, hcut⟩ := hcut; obtain ⟨v6, hcut⟩ := hcut; obtain ⟨hcut, hac⟩ := hcut; subst hac; intro _ _ _ _)
  case atStart => exact ⟨0, n, none, 0, rfl, rfl, by simp, rfl, rfl, GRow.nil, Below.refl _ _⟩
  case round =>
    obtain ⟨i, x, A', c', hi, rfl, hx, rfl, rfl, G, B⟩ := hcut
    have HI := Lib.hid hi
    have HX := Lib.hid hx
    have HG := Lib.hid G
    have HB := Lib.hid B
    have hx64 : x < 18446744073709551616 := by rw [hx]; exact Nat.lt_of_le_of_lt (Nat.div_le_self _ _) HN.out
    by_cases him : i < m
    · have hlen := lowN_len i n
      obtain ⟨A1, c2, w2, hrun, G2, B2, _⟩ := GRow.push elBy HG.out 23 ((x : Int) % 256) HB.out HB.out.size (by rw [hlen]; simp only [maxLen]; omega) (by rw [hlen]; omega)
      rw [hlen] at hrun
      have HRUN := Lib.hid hrun
      have HG2 := Lib.hid (show GRow bc 5 1 w2 w.heap.size A1 c2 (lowN (i + 1) n) by
        rw [lowN_succ, ← HX.out]
        have e : (((x % 256 : Nat) : Int)) = (x : Int) % 256 := by omega
        rw [e]
        exact G2)
      have HB2 := Lib.hid B2
      have HXN := Lib.hid (show x / 256 = n / 256 ^ (i + 1) by rw [HX.out, Nat.div_div_eq_div_mul, Nat.pow_succ])
      clear hi hx G B hrun G2 B2 hlen
      go_wp2_with (refine wpList_app HRUN.out rfl rfl rfl (by rfl) (by rfl) ?_)
      go_roundg (a - 1)
      case measure => have := HI.out; omega
      case rel => exact ⟨i + 1, x / 256, A1, c2, by have := HI.out; omega, by congr 1, HXN.out, rfl, by go_num, HG2.out, HB2.out⟩
    · have him' : i = m := by omega
      subst him'
      clear hi hx G B
      go_wp2_with (fail)
      go_ret
      exact ⟨⟨A', c', by rw [lowN_len]; rfl, HG.out⟩, HB.out⟩
set_option maxHeartbeats 1000000 in
theorem refWFixed_any (h : WLies TE w F k s) (hok : s.Ok) (n : Nat) (hn : n < 18446744073709551616) (size : Int) (h63 : s.bs.length + 10 ≤ 140737488355328) :
    Calls Try.prog 83 #[.pointer (some ⟨k, 0, none⟩), .int .u64 n, .int .i64 size] w fun e w' => e = .returned (.tuple #[]) ∧ UpdW TE F k w w' (s.fixed n size) := by
  have H := Lib.hid h
  have HO := Lib.hid hok
  by_cases hneg : size < 1 ∨ 8 < size
  · have e1 : s.fixed n size = s.refuse 2 := by unfold WS.fixed; rw [if_pos hneg]
    rw [e1]
    have LY := Lib.hid (refLay_any h hok true (B := none) (cc := 0) (ys := []) (fun h => absurd rfl h) (fun _ _ h => by cases h) (by simp only [List.length_nil]; omega))
    simp only [List.length_nil, if_true] at LY
    obtain ⟨t1, ht1⟩ := named (decide (size < 1))
    obtain ⟨t2, ht2⟩ := named (decide (8 < size))
    have HT := Lib.hid (show (t1 || t2) = true by rw [← ht1, ← ht2]; simpa using hneg)
    clear h hok hneg
    go_enter Try.func83, Try.ntmps83
    cases t1
    · cases t2
      · have := HT.out; cases this
      · go_wp2_with (fail)
        refine LY.out.mono ?_
        rintro e w2 ⟨rfl, W2⟩
        have HW := Lib.hid W2
        clear W2
        go_wp2_with (fail)
        ((try simp only [Exit.inBlock, Exit.then]); refine bodyPost_ret (results_none rfl _ _ _) rfl ?_)
        exact ⟨rfl, HW.out⟩
    · go_wp2_with (fail)
      refine LY.out.mono ?_
      rintro e w2 ⟨rfl, W2⟩
      have HW := Lib.hid W2
      clear W2
      go_wp2_with (fail)
      ((try simp only [Exit.inBlock, Exit.then]); refine bodyPost_ret (results_none rfl _ _ _) rfl ?_)
      exact ⟨rfl, HW.out⟩
  · obtain ⟨m, rfl⟩ := Int.eq_ofNat_of_zero_le (show 0 ≤ size by omega)
    have hm1 : ¬ (m : Int) < 1 := by omega
    have hm8 : ¬ 8 < (m : Int) := by omega
    have hm1' : (1 : Int) ≤ (m : Int) := by omega
    have hm8' : (m : Int) ≤ 8 := by omega
    have e1 : s.fixed n (m : Int) = s.lay (lowN m n) := by unfold WS.fixed; rw [if_neg hneg]; rfl
    rw [e1]
    have DG := Lib.hid (refDigits_any n hn m (by omega) w)
    clear h hok e1 hneg
    go_enter Try.func83, Try.ntmps83
    go_wp2_with (fail)
    refine DG.out.mono ?_
    rintro e w1 ⟨⟨A, c1, rfl, R⟩, B1⟩
    have LY := Lib.hid (refLay_new H.out HO.out R B1 (by rw [lowN_len]; omega) false)
    have hml := lowN_len m n
    rw [hml] at LY ⊢
    clear R B1
    go_wp2_with (fail)
    refine LY.out.mono ?_
    rintro e w2 ⟨rfl, W2⟩
    have HW := Lib.hid W2
    clear W2
    go_wp2_with (fail)
    go_end0
    exact ⟨rfl, HW.out⟩
set_option maxHeartbeats 1000000 in
theorem refFold_any (i : Int) (h0 : -9223372036854775808 ≤ i) (h1 : i ≤ 9223372036854775807) (w : World) : Calls Try.prog 126 #[.int .i64 i] w fun e w' => e = .returned (.int .u64 (foldZ i : Nat)) ∧ w = w' := by
  unfold foldZ
  by_cases hi : 0 ≤ i
  · rw [if_pos hi]
    have e1 : ((2 * i).toNat : Int) = 2 * i := by omega
    rw [e1]
    go_enter Try.func126, Try.ntmps126
    go_wp2_with (fail)
    go_ret
    exact ⟨rfl, rfl⟩
  · rw [if_neg hi]
    have e1 : ((-2 * i - 1).toNat : Int) = 2 * (-(i + 1)) + 1 := by omega
    rw [e1]
    have b1 : (0 : Int) ≤ -(i + 1) := by omega
    have b2 : -(i + 1) ≤ 9223372036854775807 := by omega
    go_enter Try.func126, Try.ntmps126
    go_wp2_with (fail)
    go_ret
    exact ⟨rfl, rfl⟩
set_option maxHeartbeats 1000000 in
theorem refWInt_any (h : WLies TE w F k s) (hok : s.Ok) (i : Int) (h0 : -9223372036854775808 ≤ i) (h1 : i ≤ 9223372036854775807) (h63 : s.bs.length + 10 ≤ 140737488355328) :
    Calls Try.prog 85 #[.pointer (some ⟨k, 0, none⟩), .int .i64 i] w fun e w' => e = .returned (.tuple #[]) ∧ UpdW TE F k w w' (s.int i) := by
  have hf := foldZ_lt h0 h1
  have FO := Lib.hid (refFold_any i h0 h1 w)
  have h10 := formN_len10 hf
  have FM := Lib.hid (refForm_any (foldZ i) hf w)
  have H := Lib.hid h
  have HO := Lib.hid hok
  unfold WS.int
  clear h hok
  go_enter Try.func85, Try.ntmps85
  go_wp2_with (fail)
  refine FO.out.mono ?_
  rintro e w_ ⟨rfl, rfl⟩
  go_wp2_with (fail)
  refine FM.out.mono ?_
  rintro e w1 ⟨⟨A, c1, rfl, R⟩, B1⟩
  have LY := Lib.hid (refLay_new H.out HO.out R B1 (by omega) false)
  clear R B1
  go_wp2_with (fail)
  refine LY.out.mono ?_
  rintro e w2 ⟨rfl, W2⟩
  have HW := Lib.hid W2
  clear W2
  go_wp2_with (fail)
  go_end0
  exact ⟨rfl, HW.out⟩
set_option maxHeartbeats 1000000 in
theorem refWReal_any (h : WLies TE w F k s) (hok : s.Ok) (n : Nat) (hn : n < 18446744073709551616) (h63 : s.bs.length + 10 ≤ 140737488355328) :
    Calls Try.prog 86 #[.pointer (some ⟨k, 0, none⟩), .int .u64 n] w fun e w' => e = .returned (.tuple #[]) ∧ UpdW TE F k w w' (s.real n) := by
  have hc : cleanBits n < 18446744073709551616 := by unfold cleanBits nanBits; split <;> omega
  have CL := Lib.hid (refClean_any n w)
  have DG := Lib.hid (show Calls Try.prog 124 #[.int .u64 (cleanBits n), .int .i64 8] w _ from refDigits_any (cleanBits n) hc 8 (by omega) w)
  have H := Lib.hid h
  have HO := Lib.hid hok
  unfold WS.real
  generalize cleanBits n = b at *
  clear h hok
  go_enter Try.func86, Try.ntmps86
  go_wp2_with (fail)
  refine CL.out.mono ?_
  rintro e w_ ⟨rfl, rfl⟩
  go_wp2_with (fail)
  refine DG.out.mono ?_
  rintro e w1 ⟨⟨A, c1, rfl, R⟩, B1⟩
  have hml := lowN_len 8 b
  have TU := Lib.hid (refTurned_any (w := w1) (A := A) (c := c1) (p := lowN 8 b) R.srcB (by rw [hml]; omega))
  rw [hml] at TU ⊢
  have HB1 := Lib.hid B1
  clear R B1
  go_wp2_with (fail)
  refine TU.out.mono ?_
  rintro e w2 ⟨A2, c2, rfl, R2, B2⟩
  have LY := Lib.hid (refLay_new H.out HO.out (GRow.le_ R2 HB1.out.size) (HB1.out.trans (B2.mono HB1.out.size)) (by rw [List.length_reverse, hml]; omega) false)
  rw [List.length_reverse, hml] at LY
  clear R2 B2
  go_wp2_with (fail)
  refine LY.out.mono ?_
  rintro e w3 ⟨rfl, W2⟩
  have HW := Lib.hid W2
  clear W2
  go_wp2_with (fail)
  go_end0
  exact ⟨rfl, HW.out⟩
end
end Go.Proofs.Ytibelfljlhcibaa
namespace Go.Proofs.Ytibelfljlhcibaa
set_option linter.unusedVariables false
set_option linter.unusedSimpArgs false
open Go.RowKit Go.Deep Go.Proofs.YtibelfljlhcibaaW.PrintLast

set_option maxHeartbeats 400000 in
theorem refLay_nil (w : World) (rf : Bool) (B : Option Addr) (n c : Nat) : Calls Try.prog 123 #[.pointer none, .bool rf, .slice B n c] w fun e w' => e = .returned (.tuple #[]) ∧ w = w' := by
  go_enter Try.func123, Try.ntmps123
  go_wp2_with (go_at_call 128; refine (refDead_nil _).mono ?_; rintro e w_ ⟨rfl, rfl⟩)
  ((try simp only [Exit.inBlock, Exit.then]); refine bodyPost_ret (results_none rfl _ _ _) rfl ?_)
  exact ⟨rfl, rfl⟩
set_option maxHeartbeats 400000 in
theorem refByte_nil (n : Int) (w : World) : Calls Try.prog 82 #[.pointer none, .int .i64 n] w fun e w' => e = .returned (.tuple #[]) ∧ Below w.heap.size w w' := by
  obtain ⟨t1, h1⟩ := named (decide (n < 0))
  obtain ⟨t2, h2⟩ := named (decide (255 < n))
  go_enter Try.func82, Try.ntmps82
  cases t1
  · cases t2
    ·
      go_wp2_with (fail)
      refine (refLay_nil _ _ _ _ _).mono ?_
      rintro e w_ ⟨rfl, rfl⟩
      go_wp2_with (fail)
      go_end0
      exact ⟨rfl, (Below.refl _ _).alloc (Nat.le_refl _) _⟩
    ·
      go_wp2_with (fail)
      refine (refLay_nil _ _ _ _ _).mono ?_
      rintro e w_ ⟨rfl, rfl⟩
      go_wp2_with (fail)
      go_end0
      exact ⟨rfl, (Below.refl _ _).alloc (Nat.le_refl _) _⟩
  ·
    go_wp2_with (fail)
    refine (refLay_nil _ _ _ _ _).mono ?_
    rintro e w_ ⟨rfl, rfl⟩
    go_wp2_with (fail)
    go_end0
    exact ⟨rfl, (Below.refl _ _).alloc (Nat.le_refl _) _⟩
set_option maxHeartbeats 400000 in
theorem refRaw_nil (w : World) (B : Option Addr) (n c : Nat) : Calls Try.prog 87 #[.pointer none, .slice B n c] w fun e w' => e = .returned (.tuple #[]) ∧ w = w' := by
  go_enter Try.func87, Try.ntmps87
  go_wp2_with (go_at_call 123; refine (refLay_nil _ _ _ _ _).mono ?_; rintro e w_ ⟨rfl, rfl⟩)
  go_end0
  exact ⟨rfl, rfl⟩
set_option maxHeartbeats 400000 in
theorem refNum_nil (n : Nat) (hn : n < 18446744073709551616) (w : World) : Calls Try.prog 84 #[.pointer none, .int .u64 n] w fun e w' => e = .returned (.tuple #[]) ∧ Below w.heap.size w w' := by
  have FM := Lib.hid (refForm_any n hn w)
  go_enter Try.func84, Try.ntmps84
  go_wp2_with (fail)
  refine FM.out.mono ?_
  rintro e w1 ⟨⟨A, c1, rfl, R⟩, B1⟩
  have HB := Lib.hid B1
  clear R B1
  generalize (formN n).length = L at *
  go_wp2_with (fail)
  refine (refLay_nil _ _ _ _ _).mono ?_
  rintro e w_ ⟨rfl, rfl⟩
  go_wp2_with (fail)
  go_end0
  exact ⟨rfl, HB.out⟩
set_option maxHeartbeats 400000 in
theorem refWInt_nil (i : Int) (h0 : -9223372036854775808 ≤ i) (h1 : i ≤ 9223372036854775807) (w : World) : Calls Try.prog 85 #[.pointer none, .int .i64 i] w fun e w' => e = .returned (.tuple #[]) ∧ Below w.heap.size w w' := by
  have FO := Lib.hid (refFold_any i h0 h1 w)
  have FM := Lib.hid (refForm_any (foldZ i) (foldZ_lt h0 h1) w)
  generalize foldZ i = n at *
  go_enter Try.func85, Try.ntmps85
  go_wp2_with (fail)
  refine FO.out.mono ?_
  rintro e w_ ⟨rfl, rfl⟩
  go_wp2_with (fail)
  refine FM.out.mono ?_
  rintro e w1 ⟨⟨A, c1, rfl, R⟩, B1⟩
  have HB := Lib.hid B1
  clear R B1
  generalize (formN n).length = L at *
  go_wp2_with (fail)
  refine (refLay_nil _ _ _ _ _).mono ?_
  rintro e w_ ⟨rfl, rfl⟩
  go_wp2_with (fail)
  go_end0
  exact ⟨rfl, HB.out⟩
set_option maxHeartbeats 400000 in
theorem refWReal_nil (n : Nat) (hn : n < 18446744073709551616) (w : World) : Calls Try.prog 86 #[.pointer none, .int .u64 n] w fun e w' => e = .returned (.tuple #[]) ∧ Below w.heap.size w w' := by
  have hc : cleanBits n < 18446744073709551616 := by unfold cleanBits nanBits; split <;> omega
  have CL := Lib.hid (refClean_any n w)
  have DG := Lib.hid (show Calls Try.prog 124 #[.int .u64 (cleanBits n), .int .i64 8] w _ from refDigits_any (cleanBits n) hc 8 (by omega) w)
  generalize cleanBits n = b at *
  go_enter Try.func86, Try.ntmps86
  go_wp2_with (fail)
  refine CL.out.mono ?_
  rintro e w_ ⟨rfl, rfl⟩
  go_wp2_with (fail)
  refine DG.out.mono ?_
  rintro e w1 ⟨⟨A, c1, rfl, R⟩, B1⟩
  have hml := lowN_len 8 b
  have TU := Lib.hid (refTurned_any (w := w1) (A := A) (c := c1) (p := lowN 8 b) R.srcB (by rw [hml]; omega))
  rw [hml] at TU ⊢
  have HB1 := Lib.hid B1
  clear R B1
  go_wp2_with (fail)
  refine TU.out.mono ?_
  rintro e w2 ⟨A2, c2, rfl, R2, B2⟩
  have HB2 := Lib.hid (HB1.out.trans (B2.mono HB1.out.size))
  clear R2 B2
  go_wp2_with (fail)
  refine (refLay_nil _ _ _ _ _).mono ?_
  rintro e w_ ⟨rfl, rfl⟩
  go_wp2_with (fail)
  go_end0
  exact ⟨rfl, HB2.out⟩
set_option maxHeartbeats 400000 in
theorem refWFixed_nil (n : Nat) (hn : n < 18446744073709551616) (size : Int) (w : World) : Calls Try.prog 83 #[.pointer none, .int .u64 n, .int .i64 size] w fun e w' => e = .returned (.tuple #[]) ∧ Below w.heap.size w w' := by
  obtain ⟨t1, ht1⟩ := named (decide (size < 1))
  obtain ⟨t2, ht2⟩ := named (decide (8 < size))
  cases t1
  · cases t2
    · obtain ⟨m, rfl⟩ := Int.eq_ofNat_of_zero_le (show 0 ≤ size by simp at ht1; omega)
      have DG := Lib.hid (refDigits_any n hn m (by simp at ht2; omega) w)
      go_enter Try.func83, Try.ntmps83
      go_wp2_with (fail)
      refine DG.out.mono ?_
      rintro e w1 ⟨⟨A, c1, rfl, R⟩, B1⟩
      have HB := Lib.hid B1
      clear R B1
      generalize (lowN m n).length = L at *
      go_wp2_with (fail)
      refine (refLay_nil _ _ _ _ _).mono ?_
      rintro e w_ ⟨rfl, rfl⟩
      go_wp2_with (fail)
      go_end0
      exact ⟨rfl, HB.out⟩
    ·
      go_enter Try.func83, Try.ntmps83
      go_wp2_with (fail)
      refine (refLay_nil _ _ _ _ _).mono ?_
      rintro e w_ ⟨rfl, rfl⟩
      go_wp2_with (fail)
      ((try simp only [Exit.inBlock, Exit.then]); refine bodyPost_ret (results_none rfl _ _ _) rfl ?_)
      exact ⟨rfl, Below.refl _ _⟩
  ·
    go_enter Try.func83, Try.ntmps83
    go_wp2_with (fail)
    refine (refLay_nil _ _ _ _ _).mono ?_
    rintro e w_ ⟨rfl, rfl⟩
    go_wp2_with (fail)
    ((try simp only [Exit.inBlock, Exit.then]); refine bodyPost_ret (results_none rfl _ _ _) rfl ?_)
    exact ⟨rfl, Below.refl _ _⟩
set_option maxHeartbeats 400000 in
theorem refWDone_nil (w : World) : Calls Try.prog 93 #[.pointer none] w fun e w' => e = .returned (.tuple #[.slice none 0 0, .int .i64 1]) ∧ w = w' := by
  go_enter Try.func93, Try.ntmps93
  go_wp2_with (fail)
  refine bodyPost_ret (v := .tuple #[.slice none 0 0, .int .i64 1]) (by simp [results, Try.results93, go_sem, *]) rfl ?_
  exact ⟨rfl, rfl⟩
set_option maxHeartbeats 400000 in
theorem refWClose_nil (w : World) : Calls Try.prog 91 #[.pointer none] w fun e w' => e = .returned (.tuple #[]) ∧ w = w' := by
  go_enter Try.func91, Try.ntmps91
  go_wp2_with (go_at_call 128; refine (refDead_nil _).mono ?_; rintro e w_ ⟨rfl, rfl⟩)
  ((try simp only [Exit.inBlock, Exit.then]); refine bodyPost_ret (results_none rfl _ _ _) rfl ?_)
  exact ⟨rfl, rfl⟩
set_option maxHeartbeats 4000000 in
set_option maxRecDepth 100000 in
theorem refText_nil {w : World} {B : Option Addr} {cc : Nat} {ys : List Int} (hy : BSrc w B ys) (h63 : 10 + ys.length ≤ 140737488355328) :
    Calls Try.prog 88 #[.pointer none, .slice B ys.length cc] w fun e w' => e = .returned (.tuple #[]) ∧ Below w.heap.size w w' := by
  have hn64 : ys.length < 18446744073709551616 := by omega
  have FM := Lib.hid (refForm_any ys.length hn64 w)
  have h10 := formN_len10 hn64
  have HY := Lib.hid hy
  obtain ⟨n, hn⟩ : ∃ L, ys.length = L := ⟨_, rfl⟩
  have HN := Lib.hid hn
  have hLb : n ≤ 140737488355328 := by omega
  obtain ⟨fm, hfm⟩ : ∃ f, formN n = f := ⟨_, rfl⟩
  have HFM := Lib.hid hfm
  rw [hn] at FM h10 h63 ⊢
  rw [hfm] at FM h10
  clear hy hn64 hn hfm
  go_enter Try.func88, Try.ntmps88
  go_wp2_with (fail)
  refine FM.out.mono ?_
  rintro e w1 ⟨⟨A, c1, rfl, R⟩, B1⟩
  have HR := Lib.hid R
  have HB1 := Lib.hid B1
  clear R B1
  go_wp2_with (fail)
  refine wp_loop_ghost_k (fun (m : Nat) (ac : Act) (wr : World) => ∃ u2 u3 u6 u7 u8 u9 u10 u11 u12 u13 u14 u15 u16 u17 u18 u19 u20 u21 u22 u23 u24 u25 v4 v5 : Value, (∃ (j : Nat) (A' : Option Addr) (c' : Nat), m + j = n ∧ v5 = .int .i64 j ∧ v4 = .slice A' (fm ++ ys.take j).length c' ∧ GRow bc 5 1 wr w.heap.size A' c' (fm ++ ys.take j) ∧ Below w.heap.size w wr) ∧ ac = ({ tmps := #[.pointer none, .slice B n cc, u2, u3, v4, v5, u6, u7, u8, u9, u10, u11, u12, u13, u14, u15, u16, u17, u18, u19, u20, u21, u22, u23, u24, u25], defers := [] } : Act)) (n) ?atStart ?round
  case' atStart => ((repeat apply Exists.intro); refine ⟨?_, rfl⟩)
  case' round => (intro m ac wr hcut; obtain ⟨u2, hcut⟩ := hcut; obtain ⟨u3, hcut⟩ := hcut; obtain ⟨u6, hcut⟩ := hcut; obtain ⟨u7, hcut⟩ := hcut; obtain ⟨u8, hcut⟩ := hcut; obtain ⟨u9, hcut⟩ := hcut; obtain ⟨u10, hcut⟩ := hcut; obtain ⟨u11, hcut⟩ := hcut; obtain ⟨u12, hcut⟩ := hcut; obtain ⟨u13, hcut⟩ := hcut; obtain ⟨u14, hcut⟩ := hcut; obtain ⟨u15, hcut⟩ := hcut; obtain ⟨u16, hcut⟩ := hcut; obtain ⟨u17, hcut⟩ := hcut; obtain ⟨u18, hcut⟩ := hcut; obtain ⟨u19, hcut⟩ := hcut; obtain ⟨u20, hcut⟩ := hcut; obtain ⟨u21, hcut⟩ := hcut; obtain ⟨u22, hcut⟩ := hcut; obtain ⟨u23, hcut⟩ := hcut; obtain ⟨u24, hcut⟩ := hcut; obtain ⟨u25, hcut⟩ := hcut; obtain ⟨v4, hcut⟩ := hcut; obtain ⟨v5, hcut⟩ := hcut; obtain ⟨hcut, hac⟩ := hcut; subst hac; intro _ _ _ _)
  case atStart => exact ⟨0, A, c1, rfl, rfl, by simp, by simpa using HR.out, HB1.out⟩
  case round =>
    obtain ⟨j, A', c', hm, rfl, rfl, G, B⟩ := hcut
    have HM := Lib.hid hm
    have HG := Lib.hid G
    have HB := Lib.hid B
    by_cases hj : j < n
    · have hlw := HN.out
      obtain ⟨y, hy⟩ : ∃ y, ys[j]? = some y := ⟨_, List.getElem?_eq_getElem (by omega)⟩
      have hne : ys ≠ [] := by rintro rfl; simp at hy
      obtain ⟨g, o, hBg, hBA⟩ := HY.out hne
      subst hBg
      have hgl : g < w.heap.size := World.block_lt_of_cell? _ _ (hBA j y hy)
      have y0 : wr.cell? ⟨g, o + j, none⟩ = some (.int .u8 y) := cell_same (hBA j y hy) (B.block g hgl)
      have ll : (fm ++ ys.take j).length = fm.length + j := by rw [List.length_append, List.length_take]; omega
      obtain ⟨A1, c2, w2, hrun, G2, B2, _⟩ := GRow.push elBy HG.out 23 y HB.out HB.out.size (by rw [ll]; simp only [maxLen]; omega) (by rw [ll]; omega)
      have HRUN := Lib.hid hrun
      have HG2 := Lib.hid G2
      have HB2 := Lib.hid B2
      have HTK := Lib.hid (show fm ++ ys.take j ++ [y] = fm ++ ys.take (j + 1) by rw [List.take_add_one, hy, List.append_assoc]; rfl)
      have HLL := Lib.hid ll
      clear hm hy hne hBA hlw G B hrun G2 B2 ll hgl
      go_wp2_with (refine wpList_app HRUN.out rfl rfl rfl (by rfl) (by rfl) ?_)
      go_roundg (m - 1)
      case measure => have := HM.out; omega
      case rel =>
        refine ⟨j + 1, A1, c2, by have := HM.out; omega, by go_num, ?_, ?_, HB2.out⟩
        · rw [← HTK.out]; simp; try omega
        · rw [← HTK.out]; exact HG2.out
    · have hlw := HN.out
      have hjn : ys.take j = ys := List.take_of_length_le (by omega)
      have HLL := Lib.hid (show (fm ++ ys.take j).length = fm.length + n by rw [hjn, List.length_append, hlw])
      have LY := Lib.hid (refLay_nil wr false A' (fm ++ ys.take j).length c')
      have HJ := Lib.hid hj
      clear hm G B hjn hlw hj
      generalize fm ++ ys.take j = tt at *
      go_wp2_with (fail)
      refine LY.out.mono ?_
      rintro e w4 ⟨rfl, rfl⟩
      go_wp2_with (fail)
      go_end0
      exact ⟨rfl, HB.out⟩
end Go.Proofs.Ytibelfljlhcibaa
namespace Go.Proofs.Ytibelfljlhcibaa
set_option linter.unusedVariables false
set_option linter.unusedSimpArgs false
open Go.RowKit Go.Deep Go.Proofs.YtibelfljlhcibaaW.PrintLast

theorem RowF.blw {α : Type} {enc : α → List Value} {e : TypeId} {sz : Nat} {w w' : World} {F : Nat → Prop} {A : Option Addr} {cap : Nat} {xs : List α} (h : RowF enc e sz w F A cap xs) (hb : Below w.heap.size w w') : RowF enc e sz w' F A cap xs := h.same fun b _ hl => hb.block b hl
/-- A byte more: what a round of a copying loop does. -/
theorem copy_round {w2 wr : World} {ys : List Int} {B A' : Option Addr} {c' i : Nat} {zs : List Int} (HB : BSrc w2 B ys) (G : GRow bc 5 1 wr w2.heap.size A' c' zs) (BB : Below w2.heap.size w2 wr) (hi : i < ys.length) (hz : zs.length + 1 ≤ 140737488355328) :
    ∃ g o y A1 c2 w3, B = some ⟨g, o, none⟩ ∧ ys[i]? = some y ∧ wr.cell? ⟨g, o + i, none⟩ = some (.int .u8 y) ∧
      (Builtin.append_ #[23, 23] 23 #[.slice A' zs.length c', .slice (some ⟨wr.heap.size, 0, none⟩) 1 1]).run Try.prog (wr.alloc (.cells #[.int .u8 y] 5)) = .ok (.slice A1 (zs.length + 1) c2) w3 ∧
      GRow bc 5 1 w3 w2.heap.size A1 c2 (zs ++ [y]) ∧ Below w2.heap.size w2 w3 := by
  obtain ⟨y, hy⟩ : ∃ y, ys[i]? = some y := ⟨_, List.getElem?_eq_getElem hi⟩
  obtain ⟨g, o, hBg, hBA⟩ := HB (by rintro rfl; simp at hi)
  have hgl : g < w2.heap.size := World.block_lt_of_cell? _ _ (hBA i y hy)
  obtain ⟨A1, c2, w3, hrun, G2, B2, _⟩ := GRow.push elBy G 23 y BB BB.size (by simp only [maxLen]; omega) (by omega)
  exact ⟨g, o, y, A1, c2, w3, hBg, hy, cell_same (hBA i y hy) (BB.block g hgl), hrun, G2, B2⟩
section
variable {w w' w1 w2 : World} {F G : Nat → Prop} {k : Nat} {s s' : WS}
set_option maxHeartbeats 8000000 in
set_option maxRecDepth 100000 in
theorem refWClose_any (h : WLies TE w F k s) (hok : s.Ok) (h63 : s.bs.length + 10 ≤ 140737488355328) :
    Calls Try.prog 91 #[.pointer (some ⟨k, 0, none⟩)] w fun e w' => e = .returned (.tuple #[]) ∧ UpdW TE F k w w' s.close := by
  have WH := Lib.hid (refDead_any h)
  have H := Lib.hid h
  have hk := h.in_
  obtain ⟨A, c, OA, oc, h1, h2, h3, h4⟩ := h
  obtain ⟨room, bs, op, ft⟩ := s
  simp only at h63 h1 h3 h4 WH
  have e0 : w.drew.cell? ⟨k, 0, none⟩ = some (.int .i64 room) := cell_blk (show w.drew.heap[k]? = _ from h1) 0 rfl
  have e1 : w.drew.cell? ⟨k, 1, none⟩ = some (.slice A bs.length c) := cell_blk (show w.drew.heap[k]? = _ from h1) 1 rfl
  have e2 : w.cell? ⟨k, 2, none⟩ = some (.slice OA op.length oc) := cell_blk h1 2 rfl
  have c3 : w.cell? ⟨k, 3, none⟩ = some (.int .i64 ft) := cell_blk h1 3 rfl
  have f3 := free_blk h1 3
  by_cases hf : ft = 0
  · subst hf
    cases ho : op.getLast? with
    | none =>
      have hoe : op = [] := List.getLast?_eq_none_iff.1 ho
      subst hoe
      simp only [List.length_nil] at e2
      clear h1 h2 h3 h4 e0 e1
      go_enter Try.func91, Try.ntmps91
      go_wp2_with (go_at_call 128; refine WH.out.mono ?_; rintro e w_ ⟨rfl, rfl⟩)
      ((try simp only [Exit.inBlock, Exit.then]); refine bodyPost_ret (results_none rfl _ _ _) rfl ?_)
      refine ⟨rfl, ?_⟩
      unfold WS.close
      simp only [if_pos, List.getLast?_nil]
      exact ⟨(H.out.fault te_ne 2).mono fun _ h => Or.inl h, Fr.set _ hk _⟩
    | some f =>
      have hne : op ≠ [] := by rintro hn; rw [hn] at ho; cases ho
      obtain ⟨m, hm⟩ : ∃ m, op.length = m + 1 := ⟨op.length - 1, by have := List.length_pos_iff.2 hne; omega⟩
      have hfm : op[m]? = some f := by rw [← ho, List.getLast?_eq_getElem?, hm]; rfl
      have hin : f ≤ bs.length := hok.in_ f (List.mem_of_getLast? ho)
      have hroom := hok.room1
      have hroom0 := hok.room0
      simp only at hroom hroom0
      obtain ⟨g, hOA, cg⟩ := h4.cell hfm (j := 0) (v := .int .i64 (f : Int)) (by simp [encPos])
      subst hOA
      have cg' : w.cell? ⟨g, m, none⟩ = some (.int .i64 (f : Int)) := by simpa using cg
      have hoc := h4.le
      have hocm := h4.max
      simp only [maxLen] at hocm
      rw [hm] at hoc e2
      obtain ⟨L, hL⟩ : ∃ L, bs.length = L := ⟨_, rfl⟩
      obtain ⟨fm, hfmE⟩ : ∃ x, formN (L - f) = x := ⟨_, rfl⟩
      obtain ⟨lf, hlf⟩ : ∃ x, fm.length = x := ⟨_, rfl⟩
      have HFM := Lib.hid hfmE
      have HLF := Lib.hid hlf
      have HL := Lib.hid hL
      rw [hL] at e1 h63 hin
      have FM := Lib.hid (refForm_any (L - f) (by omega) w.drew)
      rw [hfmE] at FM
      have hlf10 : lf ≤ 10 := by rw [← hlf, ← hfmE]; exact formN_len10 (by omega)
      have HCL := Lib.hid (show (WS.mk room bs op 0).close = (if room - (L : Int) < (lf : Int) then ⟨room, bs, op, 13⟩ else ⟨room, bs.take f ++ (fm ++ bs.drop f), op.dropLast, 0⟩) by
        unfold WS.close
        simp only [if_pos, ho]
        rw [hL, hfmE, hlf])
      obtain ⟨t, ht⟩ := named (decide (room < (L : Int) + (lf : Int)))
      have HT := Lib.hid ht
      have q0 : (m : Int) < (m : Int) + 1 := by omega
      have q1 : (L : Int) - (f : Int) = ((L - f : Nat) : Int) := by omega
      have q2 : ((L - f : Nat) : Int) ≤ 140737488355328 := by omega
      have H1 := Lib.hid h1
      have H3 := Lib.hid h3
      have H4 := Lib.hid h4
      have HIN := Lib.hid hin
      have q3 : m ≤ oc := by omega
      have q4 : (m : Int) ≤ (oc : Int) := by omega
      have HM := Lib.hid hm
      clear h1 h3 h4 cg hfm hne ho hfmE hlf hL hin hm hok hoc
      go_enter Try.func91, Try.ntmps91
      go_wp2_with (go_at_call 128; refine WH.out.mono ?_; rintro e w_ ⟨rfl, rfl⟩)
      refine start_ (n := 13) (S := fun w' => w'.cell? ⟨k, 2, none⟩ = some (.slice (some ⟨g, 0, none⟩) (m + 1) oc) ∧ w'.cell? ⟨g, m, none⟩ = some (.int .i64 (f : Int))) (ds := []) #[false, false, false, false, false, false, false, false, false, false, false, false, false] (by kernel_rfl) rfl rfl ⟨e2, cg'⟩ (fun hHeld => ?_)
      (refine take_ (i := 0) (N := some 19) (v := ?v_2) (a' := ?a_2) #[true, false, false, false, false, false, false, false, false, false, false, false, false] rfl rfl (by kernel_rfl) (fun _ _ _ h => h) (Or.inl ⟨by rfl, ?hy_2⟩) hHeld ?ha_2 ?hh_2; (case hy_2 => (rintro w' ⟨s0_, s1_⟩; go_simp; with_reducible rfl)); (case ha_2 => (simp (disch := omega) only [Act.put, List.setIfInBounds_toArray, List.set_cons_zero, List.set_cons_succ, wrap_in]; rfl)))
      (refine take_ (i := 1) (N := some 20) (v := ?v_3) (a' := ?a_3) #[true, true, false, false, false, false, false, false, false, false, false, false, false] rfl rfl (by kernel_rfl) (fun _ _ _ h => h) (Or.inl ⟨by rfl, ?hy_3⟩) hHeld ?ha_3 ?hh_3; (case hy_3 => (rintro w' ⟨s0_, s1_⟩; go_simp; with_reducible rfl)); (case ha_3 => (simp (disch := omega) only [Act.put, List.setIfInBounds_toArray, List.set_cons_zero, List.set_cons_succ, wrap_in]; rfl)))
      (refine take_ (i := 2) (N := some 21) (v := ?v_4) (a' := ?a_4) #[true, true, true, false, false, false, false, false, false, false, false, false, false] rfl rfl (by kernel_rfl) (fun _ _ _ h => h) (Or.inl ⟨by rfl, ?hy_4⟩) hHeld ?ha_4 ?hh_4; (case hy_4 => (rintro w' ⟨s0_, s1_⟩; go_simp; with_reducible rfl)); (case ha_4 => (simp (disch := omega) only [Act.put, List.setIfInBounds_toArray, List.set_cons_zero, List.set_cons_succ, wrap_in]; rfl)))
      (refine take_ (i := 3) (N := some 22) (v := ?v_5) (a' := ?a_5) #[true, true, true, true, false, false, false, false, false, false, false, false, false] rfl rfl (by kernel_rfl) (fun _ _ _ h => h) (Or.inl ⟨by rfl, ?hy_5⟩) hHeld ?ha_5 ?hh_5; (case hy_5 => (rintro w' ⟨s0_, s1_⟩; go_simp; with_reducible rfl)); (case ha_5 => (simp (disch := omega) only [Act.put, List.setIfInBounds_toArray, List.set_cons_zero, List.set_cons_succ, wrap_in]; rfl)))
      (refine take_ (i := 4) (N := some 23) (v := ?v_6) (a' := ?a_6) #[true, true, true, true, true, false, false, false, false, false, false, false, false] rfl rfl (by kernel_rfl) (fun _ _ _ h => h) (Or.inl ⟨by rfl, ?hy_6⟩) hHeld ?ha_6 ?hh_6; (case hy_6 => (rintro w' ⟨s0_, s1_⟩; go_simp; with_reducible rfl)); (case ha_6 => (simp (disch := omega) only [Act.put, List.setIfInBounds_toArray, List.set_cons_zero, List.set_cons_succ, wrap_in]; rfl)))
      (refine take_ (i := 5) (N := some 24) (v := ?v_7) (a' := ?a_7) #[true, true, true, true, true, true, false, false, false, false, false, false, false] rfl rfl (by kernel_rfl) (fun _ _ _ h => h) (Or.inl ⟨by rfl, ?hy_7⟩) hHeld ?ha_7 ?hh_7; (case hy_7 => (rintro w' ⟨s0_, s1_⟩; go_simp; with_reducible rfl)); (case ha_7 => (simp (disch := omega) only [Act.put, List.setIfInBounds_toArray, List.set_cons_zero, List.set_cons_succ, wrap_in]; rfl)))
      (refine take_ (i := 6) (N := some 25) (v := ?v_8) (a' := ?a_8) #[true, true, true, true, true, true, true, false, false, false, false, false, false] rfl rfl (by kernel_rfl) (fun _ _ _ h => h) (Or.inl ⟨by rfl, ?hy_8⟩) hHeld ?ha_8 ?hh_8; (case hy_8 => (rintro w' ⟨s0_, s1_⟩; go_simp; with_reducible rfl)); (case ha_8 => (simp (disch := omega) only [Act.put, List.setIfInBounds_toArray, List.set_cons_zero, List.set_cons_succ, wrap_in]; rfl)))
      (refine take_ (i := 7) (N := some 26) (v := ?v_9) (a' := ?a_9) #[true, true, true, true, true, true, true, true, false, false, false, false, false] rfl rfl (by kernel_rfl) (fun _ _ _ h => h) (Or.inl ⟨by rfl, ?hy_9⟩) hHeld ?ha_9 ?hh_9; (case hy_9 => (rintro w' ⟨s0_, s1_⟩; go_simp; with_reducible rfl)); (case ha_9 => (simp (disch := omega) only [Act.put, List.setIfInBounds_toArray, List.set_cons_zero, List.set_cons_succ, wrap_in]; rfl)))
      (refine take_ (i := 8) (N := some 27) (v := ?v_10) (a' := ?a_10) #[true, true, true, true, true, true, true, true, true, false, false, false, false] rfl rfl (by kernel_rfl) (fun _ _ _ h => h) (Or.inl ⟨by rfl, ?hy_10⟩) hHeld ?ha_10 ?hh_10; (case hy_10 => (rintro w' ⟨s0_, s1_⟩; go_simp; with_reducible rfl)); (case ha_10 => (simp (disch := omega) only [Act.put, List.setIfInBounds_toArray, List.set_cons_zero, List.set_cons_succ, wrap_in]; rfl)))
      (refine take_ (i := 9) (N := some 28) (v := ?v_11) (a' := ?a_11) #[true, true, true, true, true, true, true, true, true, true, false, false, false] rfl rfl (by kernel_rfl) (fun _ _ _ h => h) (Or.inl ⟨by rfl, ?hy_11⟩) hHeld ?ha_11 ?hh_11; (case hy_11 => (rintro w' ⟨s0_, s1_⟩; go_simp; with_reducible rfl)); (case ha_11 => (simp (disch := omega) only [Act.put, List.setIfInBounds_toArray, List.set_cons_zero, List.set_cons_succ, wrap_in]; rfl)))
      (refine take_ (i := 10) (N := some 29) (v := ?v_12) (a' := ?a_12) #[true, true, true, true, true, true, true, true, true, true, true, false, false] rfl rfl (by kernel_rfl) (fun _ _ _ h => h) (Or.inl ⟨by rfl, ?hy_12⟩) hHeld ?ha_12 ?hh_12; (case hy_12 => (rintro w' ⟨s0_, s1_⟩; go_simp; with_reducible rfl)); (case ha_12 => (simp (disch := omega) only [Act.put, List.setIfInBounds_toArray, List.set_cons_zero, List.set_cons_succ, wrap_in]; rfl)))
      (refine take_ (i := 11) (N := some 30) (v := ?v_13) (a' := ?a_13) #[true, true, true, true, true, true, true, true, true, true, true, true, false] rfl rfl (by kernel_rfl) (fun _ _ _ h => h) (Or.inl ⟨by rfl, ?hy_13⟩) hHeld ?ha_13 ?hh_13; (case hy_13 => (rintro w' ⟨s0_, s1_⟩; go_simp; with_reducible rfl)); (case ha_13 => (simp (disch := omega) only [Act.put, List.setIfInBounds_toArray, List.set_cons_zero, List.set_cons_succ, wrap_in]; rfl)))
      (refine take_ (i := 12) (N := some 2) (v := ?v_14) (a' := ?a_14) #[true, true, true, true, true, true, true, true, true, true, true, true, true] rfl rfl (by kernel_rfl) (fun _ _ _ h => h) (Or.inl ⟨by rfl, ?hy_14⟩) hHeld ?ha_14 ?hh_14; (case hy_14 => (rintro w' ⟨s0_, s1_⟩; go_simp; with_reducible rfl)); (case ha_14 => (simp (disch := omega) only [Act.put, List.setIfInBounds_toArray, List.set_cons_zero, List.set_cons_succ, wrap_in]; rfl)))
      refine done_ (by kernel_rfl) ?_
      go_wp2_with (fail)
      refine FM.out.mono ?_
      rintro e w1 ⟨⟨A1, c1, rfl, R⟩, B1⟩
      have B1' : Below w.heap.size w w1 := (Below.refl _ _).drew.trans B1
      have K1 := blk_below H1.out B1'
      have x0 : w1.cell? ⟨k, 0, none⟩ = some (.int .i64 room) := cell_blk K1 0 rfl
      have x1 : w1.cell? ⟨k, 1, none⟩ = some (.slice A L c) := by rw [← HL.out]; exact cell_blk K1 1 rfl
      have x2 : w1.drew.cell? ⟨k, 2, none⟩ = some (.slice (some ⟨g, 0, none⟩) (m + 1) oc) := by rw [← HM.out]; exact cell_blk (show w1.drew.heap[k]? = _ from K1) 2 rfl
      have g3 : w1.drew.frozen? ⟨k, 3, none⟩ = false := free_blk (show w1.drew.heap[k]? = _ from K1) 3
      have y3 : w1.drew.cell? ⟨k, 3, none⟩ = some (.int .i64 0) := cell_blk (show w1.drew.heap[k]? = _ from K1) 3 rfl
      have HK1 := Lib.hid K1
      have HR := Lib.hid R
      have HB1 := Lib.hid B1'
      have LI1 := Lib.hid (H.out.below B1')
      rw [HLF.out]
      clear R B1 B1' K1 e0 e1 e2 c3 f3 cg'
      go_wp2_with (fail)
      refine start_ (n := 13) (S := fun w' => w'.cell? ⟨k, 1, none⟩ = some (.slice A L c) ∧ w'.cell? ⟨k, 0, none⟩ = some (.int .i64 room)) (ds := []) #[false, false, false, false, false, false, false, false, false, false, false, false, false] (by kernel_rfl) rfl rfl ⟨x1, x0⟩ (fun hHeld => ?_)
      (refine take_ (i := 0) (N := some 40) (v := ?v_17) (a' := ?a_17) #[true, false, false, false, false, false, false, false, false, false, false, false, false] rfl rfl (by kernel_rfl) (fun _ _ _ h => h) (Or.inl ⟨by rfl, ?hy_17⟩) hHeld ?ha_17 ?hh_17; (case hy_17 => (rintro w' ⟨s0_, s1_⟩; go_simp; with_reducible rfl)); (case ha_17 => (simp (disch := omega) only [Act.put, List.setIfInBounds_toArray, List.set_cons_zero, List.set_cons_succ, wrap_in]; rfl)))
      (refine take_ (i := 1) (N := some 41) (v := ?v_18) (a' := ?a_18) #[true, true, false, false, false, false, false, false, false, false, false, false, false] rfl rfl (by kernel_rfl) (fun _ _ _ h => h) (Or.inl ⟨by rfl, ?hy_18⟩) hHeld ?ha_18 ?hh_18; (case hy_18 => (rintro w' ⟨s0_, s1_⟩; go_simp; with_reducible rfl)); (case ha_18 => (simp (disch := omega) only [Act.put, List.setIfInBounds_toArray, List.set_cons_zero, List.set_cons_succ, wrap_in]; rfl)))
      (refine take_ (i := 2) (N := some 42) (v := ?v_19) (a' := ?a_19) #[true, true, true, false, false, false, false, false, false, false, false, false, false] rfl rfl (by kernel_rfl) (fun _ _ _ h => h) (Or.inl ⟨by rfl, ?hy_19⟩) hHeld ?ha_19 ?hh_19; (case hy_19 => (rintro w' ⟨s0_, s1_⟩; go_simp; with_reducible rfl)); (case ha_19 => (simp (disch := omega) only [Act.put, List.setIfInBounds_toArray, List.set_cons_zero, List.set_cons_succ, wrap_in]; rfl)))
      (refine take_ (i := 3) (N := some 43) (v := ?v_20) (a' := ?a_20) #[true, true, true, true, false, false, false, false, false, false, false, false, false] rfl rfl (by kernel_rfl) (fun _ _ _ h => h) (Or.inl ⟨by rfl, ?hy_20⟩) hHeld ?ha_20 ?hh_20; (case hy_20 => (rintro w' ⟨s0_, s1_⟩; go_simp; with_reducible rfl)); (case ha_20 => (simp (disch := omega) only [Act.put, List.setIfInBounds_toArray, List.set_cons_zero, List.set_cons_succ, wrap_in]; rfl)))
      (refine take_ (i := 4) (N := some 44) (v := ?v_21) (a' := ?a_21) #[true, true, true, true, true, false, false, false, false, false, false, false, false] rfl rfl (by kernel_rfl) (fun _ _ _ h => h) (Or.inl ⟨by rfl, ?hy_21⟩) hHeld ?ha_21 ?hh_21; (case hy_21 => (rintro w' ⟨s0_, s1_⟩; go_simp; with_reducible rfl)); (case ha_21 => (simp (disch := omega) only [Act.put, List.setIfInBounds_toArray, List.set_cons_zero, List.set_cons_succ, wrap_in]; rfl)))
      (refine take_ (i := 5) (N := some 45) (v := ?v_22) (a' := ?a_22) #[true, true, true, true, true, true, false, false, false, false, false, false, false] rfl rfl (by kernel_rfl) (fun _ _ _ h => h) (Or.inl ⟨by rfl, ?hy_22⟩) hHeld ?ha_22 ?hh_22; (case hy_22 => (rintro w' ⟨s0_, s1_⟩; go_simp; with_reducible rfl)); (case ha_22 => (simp (disch := omega) only [Act.put, List.setIfInBounds_toArray, List.set_cons_zero, List.set_cons_succ, wrap_in]; rfl)))
      (refine take_ (i := 6) (N := some 46) (v := ?v_23) (a' := ?a_23) #[true, true, true, true, true, true, true, false, false, false, false, false, false] rfl rfl (by kernel_rfl) (fun _ _ _ h => h) (Or.inl ⟨by rfl, ?hy_23⟩) hHeld ?ha_23 ?hh_23; (case hy_23 => (rintro w' ⟨s0_, s1_⟩; go_simp; with_reducible rfl)); (case ha_23 => (simp (disch := omega) only [Act.put, List.setIfInBounds_toArray, List.set_cons_zero, List.set_cons_succ, wrap_in]; rfl)))
      (refine take_ (i := 7) (N := some 47) (v := ?v_24) (a' := ?a_24) #[true, true, true, true, true, true, true, true, false, false, false, false, false] rfl rfl (by kernel_rfl) (fun _ _ _ h => h) (Or.inl ⟨by rfl, ?hy_24⟩) hHeld ?ha_24 ?hh_24; (case hy_24 => (rintro w' ⟨s0_, s1_⟩; go_simp; with_reducible rfl)); (case ha_24 => (simp (disch := omega) only [Act.put, List.setIfInBounds_toArray, List.set_cons_zero, List.set_cons_succ, wrap_in]; rfl)))
      (refine take_ (i := 8) (N := some 48) (v := ?v_25) (a' := ?a_25) #[true, true, true, true, true, true, true, true, true, false, false, false, false] rfl rfl (by kernel_rfl) (fun _ _ _ h => h) (Or.inl ⟨by rfl, ?hy_25⟩) hHeld ?ha_25 ?hh_25; (case hy_25 => (rintro w' ⟨s0_, s1_⟩; go_simp; with_reducible rfl)); (case ha_25 => (simp (disch := omega) only [Act.put, List.setIfInBounds_toArray, List.set_cons_zero, List.set_cons_succ, wrap_in]; rfl)))
      (refine take_ (i := 9) (N := some 49) (v := ?v_26) (a' := ?a_26) #[true, true, true, true, true, true, true, true, true, true, false, false, false] rfl rfl (by kernel_rfl) (fun _ _ _ h => h) (Or.inl ⟨by rfl, ?hy_26⟩) hHeld ?ha_26 ?hh_26; (case hy_26 => (rintro w' ⟨s0_, s1_⟩; go_simp; with_reducible rfl)); (case ha_26 => (simp (disch := omega) only [Act.put, List.setIfInBounds_toArray, List.set_cons_zero, List.set_cons_succ, wrap_in]; rfl)))
      (refine take_ (i := 10) (N := some 50) (v := ?v_27) (a' := ?a_27) #[true, true, true, true, true, true, true, true, true, true, true, false, false] rfl rfl (by kernel_rfl) (fun _ _ _ h => h) (Or.inl ⟨by rfl, ?hy_27⟩) hHeld ?ha_27 ?hh_27; (case hy_27 => (rintro w' ⟨s0_, s1_⟩; go_simp; with_reducible rfl)); (case ha_27 => (simp (disch := omega) only [Act.put, List.setIfInBounds_toArray, List.set_cons_zero, List.set_cons_succ, wrap_in]; rfl)))
      (refine take_ (i := 11) (N := some 51) (v := ?v_28) (a' := ?a_28) #[true, true, true, true, true, true, true, true, true, true, true, true, false] rfl rfl (by kernel_rfl) (fun _ _ _ h => h) (Or.inl ⟨by rfl, ?hy_28⟩) hHeld ?ha_28 ?hh_28; (case hy_28 => (rintro w' ⟨s0_, s1_⟩; go_simp; with_reducible rfl)); (case ha_28 => (simp (disch := omega) only [Act.put, List.setIfInBounds_toArray, List.set_cons_zero, List.set_cons_succ, wrap_in]; rfl)))
      (refine take_ (i := 12) (N := some 52) (v := ?v_29) (a' := ?a_29) #[true, true, true, true, true, true, true, true, true, true, true, true, true] rfl rfl (by kernel_rfl) (fun _ _ _ h => h) (Or.inl ⟨by rfl, ?hy_29⟩) hHeld ?ha_29 ?hh_29; (case hy_29 => (rintro w' ⟨s0_, s1_⟩; go_simp; with_reducible rfl)); (case ha_29 => (simp (disch := omega) only [Act.put, List.setIfInBounds_toArray, List.set_cons_zero, List.set_cons_succ, wrap_in]; rfl)))
      refine done_ (by kernel_rfl) ?_
      cases t
      · have q5 : ((m : Int) + 1) - 1 = (m : Int) := by omega
        have KW : ((w1.setCell ⟨k, 2, none⟩ (.slice (some ⟨g, 0, none⟩) m oc)).drew.drew).heap[k]? = some (.cells #[.int .i64 room, .slice A bs.length c, .slice (some ⟨g, 0, none⟩) m oc, .int .i64 0] TE (0, 0)) := show (w1.setCell ⟨k, 2, none⟩ (.slice (some ⟨g, 0, none⟩) m oc)).heap[k]? = _ from setCell_heap w1 k 2 (.slice (some ⟨g, 0, none⟩) m oc) _ _ _ HK1.out
        have FW : Fr F w1 ((w1.setCell ⟨k, 2, none⟩ (.slice (some ⟨g, 0, none⟩) m oc)).drew.drew) := ((Fr.set (F := F) w1 hk _).trans (Fr.drew F _) fun _ _ h => h).trans (Fr.drew F _) fun _ _ h => h
        have KU : KeepT 5 w1 ((w1.setCell ⟨k, 2, none⟩ (.slice (some ⟨g, 0, none⟩) m oc)).drew.drew) := ((KeepT.setCell HK1.out (Ne.symm te_ne.1) 2 (.slice (some ⟨g, 0, none⟩) m oc)).trans (KeepT.drew _ _)).trans (KeepT.drew _ _)
        have KI : KeepT 3 w1 ((w1.setCell ⟨k, 2, none⟩ (.slice (some ⟨g, 0, none⟩) m oc)).drew.drew) := ((KeepT.setCell HK1.out (Ne.symm te_ne.2) 2 (.slice (some ⟨g, 0, none⟩) m oc)).trans (KeepT.drew _ _)).trans (KeepT.drew _ _)
        have SW : ((w1.setCell ⟨k, 2, none⟩ (.slice (some ⟨g, 0, none⟩) m oc)).drew.drew).heap.size = w1.heap.size := show (w1.setCell ⟨k, 2, none⟩ (.slice (some ⟨g, 0, none⟩) m oc)).heap.size = w1.heap.size from setCell_size _ _ _
        have fz : w1.drew.drew.frozen? ⟨k, 2, none⟩ = false := free_blk (show w1.drew.drew.heap[k]? = _ from HK1.out) 2
        go_wp2_with (fail)
        refine start_ (n := 15) (S := fun w' => w'.cell? ⟨k, 2, none⟩ = some (.slice (some ⟨g, 0, none⟩) (m + 1) oc)) (ds := [14]) #[false, false, false, false, false, false, false, false, false, false, false, false, false, false, false] (by kernel_rfl) rfl rfl x2 (fun hHeld => ?_)
        (refine take_ (i := 0) (N := some 56) (v := ?v_32) (a' := ?a_32) #[true, false, false, false, false, false, false, false, false, false, false, false, false, false, false] rfl rfl (by kernel_rfl) (fun _ _ _ h => h) (Or.inl ⟨by rfl, ?hy_32⟩) hHeld ?ha_32 ?hh_32; (case hy_32 => (rintro w' s0_; go_simp; with_reducible rfl)); (case ha_32 => (simp (disch := omega) only [Act.put, List.setIfInBounds_toArray, List.set_cons_zero, List.set_cons_succ, wrap_in]; rfl)))
        (refine take_ (i := 1) (N := some 57) (v := ?v_33) (a' := ?a_33) #[true, true, false, false, false, false, false, false, false, false, false, false, false, false, false] rfl rfl (by kernel_rfl) (fun _ _ _ h => h) (Or.inl ⟨by rfl, ?hy_33⟩) hHeld ?ha_33 ?hh_33; (case hy_33 => (rintro w' s0_; go_simp; with_reducible rfl)); (case ha_33 => (simp (disch := omega) only [Act.put, List.setIfInBounds_toArray, List.set_cons_zero, List.set_cons_succ, wrap_in]; rfl)))
        (refine take_ (i := 2) (N := some 58) (v := ?v_34) (a' := ?a_34) #[true, true, true, false, false, false, false, false, false, false, false, false, false, false, false] rfl rfl (by kernel_rfl) (fun _ _ _ h => h) (Or.inl ⟨by rfl, ?hy_34⟩) hHeld ?ha_34 ?hh_34; (case hy_34 => (rintro w' s0_; go_simp; with_reducible rfl)); (case ha_34 => (simp (disch := omega) only [Act.put, List.setIfInBounds_toArray, List.set_cons_zero, List.set_cons_succ, wrap_in]; rfl)))
        (refine take_ (i := 3) (N := some 59) (v := ?v_35) (a' := ?a_35) #[true, true, true, true, false, false, false, false, false, false, false, false, false, false, false] rfl rfl (by kernel_rfl) (fun _ _ _ h => h) (Or.inl ⟨by rfl, ?hy_35⟩) hHeld ?ha_35 ?hh_35; (case hy_35 => (rintro w' s0_; go_simp; with_reducible rfl)); (case ha_35 => (simp (disch := omega) only [Act.put, List.setIfInBounds_toArray, List.set_cons_zero, List.set_cons_succ, wrap_in]; rfl)))
        (refine take_ (i := 4) (N := some 60) (v := ?v_36) (a' := ?a_36) #[true, true, true, true, true, false, false, false, false, false, false, false, false, false, false] rfl rfl (by kernel_rfl) (fun _ _ _ h => h) (Or.inl ⟨by rfl, ?hy_36⟩) hHeld ?ha_36 ?hh_36; (case hy_36 => (rintro w' s0_; go_simp; with_reducible rfl)); (case ha_36 => (simp (disch := omega) only [Act.put, List.setIfInBounds_toArray, List.set_cons_zero, List.set_cons_succ, wrap_in]; rfl)))
        (refine take_ (i := 5) (N := some 61) (v := ?v_37) (a' := ?a_37) #[true, true, true, true, true, true, false, false, false, false, false, false, false, false, false] rfl rfl (by kernel_rfl) (fun _ _ _ h => h) (Or.inl ⟨by rfl, ?hy_37⟩) hHeld ?ha_37 ?hh_37; (case hy_37 => (rintro w' s0_; go_simp; with_reducible rfl)); (case ha_37 => (simp (disch := omega) only [Act.put, List.setIfInBounds_toArray, List.set_cons_zero, List.set_cons_succ, wrap_in]; rfl)))
        (refine take_ (i := 6) (N := some 62) (v := ?v_38) (a' := ?a_38) #[true, true, true, true, true, true, true, false, false, false, false, false, false, false, false] rfl rfl (by kernel_rfl) (fun _ _ _ h => h) (Or.inl ⟨by rfl, ?hy_38⟩) hHeld ?ha_38 ?hh_38; (case hy_38 => (rintro w' s0_; go_simp; with_reducible rfl)); (case ha_38 => (simp (disch := omega) only [Act.put, List.setIfInBounds_toArray, List.set_cons_zero, List.set_cons_succ, wrap_in]; rfl)))
        (refine take_ (i := 7) (N := some 63) (v := ?v_39) (a' := ?a_39) #[true, true, true, true, true, true, true, true, false, false, false, false, false, false, false] rfl rfl (by kernel_rfl) (fun _ _ _ h => h) (Or.inl ⟨by rfl, ?hy_39⟩) hHeld ?ha_39 ?hh_39; (case hy_39 => (rintro w' s0_; go_simp; with_reducible rfl)); (case ha_39 => (simp (disch := omega) only [Act.put, List.setIfInBounds_toArray, List.set_cons_zero, List.set_cons_succ, wrap_in]; rfl)))
        (refine take_ (i := 8) (N := some 64) (v := ?v_40) (a' := ?a_40) #[true, true, true, true, true, true, true, true, true, false, false, false, false, false, false] rfl rfl (by kernel_rfl) (fun _ _ _ h => h) (Or.inl ⟨by rfl, ?hy_40⟩) hHeld ?ha_40 ?hh_40; (case hy_40 => (rintro w' s0_; go_simp; with_reducible rfl)); (case ha_40 => (simp (disch := omega) only [Act.put, List.setIfInBounds_toArray, List.set_cons_zero, List.set_cons_succ, wrap_in]; rfl)))
        (refine take_ (i := 9) (N := some 65) (v := ?v_41) (a' := ?a_41) #[true, true, true, true, true, true, true, true, true, true, false, false, false, false, false] rfl rfl (by kernel_rfl) (fun _ _ _ h => h) (Or.inl ⟨by rfl, ?hy_41⟩) hHeld ?ha_41 ?hh_41; (case hy_41 => (rintro w' s0_; go_simp; with_reducible rfl)); (case ha_41 => (simp (disch := omega) only [Act.put, List.setIfInBounds_toArray, List.set_cons_zero, List.set_cons_succ, wrap_in]; rfl)))
        (refine take_ (i := 10) (N := some 66) (v := ?v_42) (a' := ?a_42) #[true, true, true, true, true, true, true, true, true, true, true, false, false, false, false] rfl rfl (by kernel_rfl) (fun _ _ _ h => h) (Or.inl ⟨by rfl, ?hy_42⟩) hHeld ?ha_42 ?hh_42; (case hy_42 => (rintro w' s0_; go_simp; with_reducible rfl)); (case ha_42 => (simp (disch := omega) only [Act.put, List.setIfInBounds_toArray, List.set_cons_zero, List.set_cons_succ, wrap_in]; rfl)))
        (refine take_ (i := 11) (N := some 67) (v := ?v_43) (a' := ?a_43) #[true, true, true, true, true, true, true, true, true, true, true, true, false, false, false] rfl rfl (by kernel_rfl) (fun _ _ _ h => h) (Or.inl ⟨by rfl, ?hy_43⟩) hHeld ?ha_43 ?hh_43; (case hy_43 => (rintro w' s0_; go_simp; with_reducible rfl)); (case ha_43 => (simp (disch := omega) only [Act.put, List.setIfInBounds_toArray, List.set_cons_zero, List.set_cons_succ, wrap_in]; rfl)))
        (refine take_ (i := 12) (N := some 68) (v := ?v_44) (a' := ?a_44) #[true, true, true, true, true, true, true, true, true, true, true, true, true, false, false] rfl rfl (by kernel_rfl) (fun _ _ _ h => h) (Or.inl ⟨by rfl, ?hy_44⟩) hHeld ?ha_44 ?hh_44; (case hy_44 => (rintro w' s0_; go_simp; with_reducible rfl)); (case ha_44 => (simp (disch := omega) only [Act.put, List.setIfInBounds_toArray, List.set_cons_zero, List.set_cons_succ, wrap_in]; rfl)))
        (refine take_ (i := 13) (N := some 69) (v := ?v_45) (a' := ?a_45) #[true, true, true, true, true, true, true, true, true, true, true, true, true, true, false] rfl rfl (by kernel_rfl) (fun _ _ _ h => h) (Or.inl ⟨by rfl, ?hy_45⟩) hHeld ?ha_45 ?hh_45; (case hy_45 => (rintro w' s0_; go_simp; with_reducible rfl)); (case ha_45 => (simp (disch := omega) only [Act.put, List.setIfInBounds_toArray, List.set_cons_zero, List.set_cons_succ, wrap_in]; rfl)))
        refine last_ (i := 14) (N := none) #[true, true, true, true, true, true, true, true, true, true, true, true, true, true, true] rfl rfl (by kernel_rfl) (by decide) (fun K hK => ?_)
        (refine skip_ (w1 := ?w1_47) (by rfl) rfl ?hr_47 ?hk_47; (case hr_47 => (go_simp; first | with_reducible rfl | (constructor <;> with_reducible rfl))))
        (refine hK.out _ _ ?hn_48; clear hK K; try clear hHeld)
        refine done_ (by kernel_rfl) ?_
        have hsame : w1.drew.drew.setCell ⟨k, 2, none⟩ (.slice (some ⟨g, 0, none⟩) m oc) = (w1.setCell ⟨k, 2, none⟩ (.slice (some ⟨g, 0, none⟩) m oc)).drew.drew := rfl
        try rw [hsame]
        clear hsame
        generalize (w1.setCell ⟨k, 2, none⟩ (.slice (some ⟨g, 0, none⟩) m oc)).drew.drew = w2 at *
        have BS := Lib.hid (show BSrc w2 A bs from BSrc.ofRow ((RowF.blw H3.out HB1.out).keeps KU))
        have FS := Lib.hid (show BSrc w2 A1 fm from (HR.out.keeps KU).srcB)
        have HKW := Lib.hid KW
        have HFW := Lib.hid FW
        have HSW := Lib.hid SW
        have HROP := Lib.hid (((RowF.blw H4.out HB1.out).keeps KI).take m)
        have HRBS := Lib.hid ((RowF.blw H3.out HB1.out).keeps KU)
        have z1 : w2.cell? ⟨k, 1, none⟩ = some (.slice A L c) := by rw [← HL.out]; exact cell_blk KW 1 rfl
        have hkl := blk_lt KW
        have HKL := Lib.hid hkl
        have hfL := HIN.out
        clear KW FW KU KI SW fz x0 x1 x2 g3 y3 hkl
        go_wp2_with (fail)
        refine wp_loop_ghost_k (fun (a : Nat) (ac : Act) (wr : World) => ∃ u1 u6 u7 u8 u9 u10 u11 u12 u13 u14 u15 u16 u17 u18 u19 u20 u21 u22 u23 u24 u25 u26 u27 u28 u29 u30 u31 u32 u33 u34 u35 u36 u37 u38 u39 u40 u41 u42 u43 u44 u45 u46 u47 u48 u49 u50 u51 u52 u53 u54 u55 u56 u57 u58 u59 u60 u61 u62 u63 u64 u65 u66 u67 u68 u69 u70 u71 u72 u73 u74 u75 u76 u77 u78 u79 u80 u81 u82 u83 u84 u85 u86 u87 u88 u89 u90 u91 u92 u93 u94 u95 u96 u97 u98 u99 u100 u101 u102 u103 u104 u105 u106 u107 u108 u109 u110 u111 u112 u113 u114 u115 u116 u117 u118 u119 u120 u121 v4 v5 : Value, (∃ (j : Nat) (A' : Option Addr) (c' : Nat), a + j = f ∧ v5 = .int .i64 j ∧ v4 = .slice A' j c' ∧ GRow bc 5 1 wr w2.heap.size A' c' (bs.take j) ∧ Below w2.heap.size w2 wr) ∧ ac = ({ tmps := #[.pointer (some ⟨k, 0, none⟩), u1, .int .i64 f, .slice A1 lf c1, v4, v5, u6, u7, u8, u9, u10, u11, u12, u13, u14, u15, u16, u17, u18, u19, u20, u21, u22, u23, u24, u25, u26, u27, u28, u29, u30, u31, u32, u33, u34, u35, u36, u37, u38, u39, u40, u41, u42, u43, u44, u45, u46, u47, u48, u49, u50, u51, u52, u53, u54, u55, u56, u57, u58, u59, u60, u61, u62, u63, u64, u65, u66, u67, u68, u69, u70, u71, u72, u73, u74, u75, u76, u77, u78, u79, u80, u81, u82, u83, u84, u85, u86, u87, u88, u89, u90, u91, u92, u93, u94, u95, u96, u97, u98, u99, u100, u101, u102, u103, u104, u105, u106, u107, u108, u109, u110, u111, u112, u113, u114, u115, u116, u117, u118, u119, u120, u121], defers := [] } : Act)) (f) ?atStart ?round
        case' atStart => ((repeat apply Exists.intro); refine ⟨?_, rfl⟩)
        case' round => (intro a ac wr hcut; obtain ⟨u1, hcut⟩ := hcut; obtain ⟨u6, hcut⟩ := hcut; obtain ⟨u7, hcut⟩ := hcut; obtain ⟨u8, hcut⟩ := hcut; obtain ⟨u9, hcut⟩ := hcut; obtain ⟨u10, hcut⟩ := hcut; obtain ⟨u11, hcut⟩ := hcut; obtain ⟨u12, hcut⟩ := hcut; obtain ⟨u13, hcut⟩ := hcut; obtain ⟨u14, hcut⟩ := hcut; obtain ⟨u15, hcut⟩ := hcut; obtain ⟨u16, hcut⟩ := hcut; obtain ⟨u17, hcut⟩ := hcut; obtain ⟨u18, hcut⟩ := hcut; obtain ⟨u19, hcut⟩ := hcut; obtain ⟨u20, hcut⟩ := hcut; obtain ⟨u21, hcut⟩ := hcut; obtain ⟨u22, hcut⟩ := hcut; obtain ⟨u23, hcut⟩ := hcut; obtain ⟨u24, hcut⟩ := hcut; obtain ⟨u25, hcut⟩ := hcut; obtain ⟨u26, hcut⟩ := hcut; obtain ⟨u27, hcut⟩ := hcut; obtain ⟨u28, hcut⟩ := hcut; obtain ⟨u29, hcut⟩ := hcut; obtain ⟨u30, hcut⟩ := hcut; obtain ⟨u31, hcut⟩ := hcut; obtain ⟨u32, hcut⟩ := hcut; obtain ⟨u33, hcut⟩ := hcut; obtain ⟨u34, hcut⟩ := hcut; obtain ⟨u35, hcut⟩ := hcut; obtain ⟨u36, hcut⟩ := hcut; obtain ⟨u37, hcut⟩ := hcut; obtain ⟨u38, hcut⟩ := hcut; obtain ⟨u39, hcut⟩ := hcut; obtain ⟨u40, hcut⟩ := hcut; obtain ⟨u41, hcut⟩ := hcut; obtain ⟨u42, hcut⟩ := hcut; obtain ⟨u43, hcut⟩ := hcut; obtain ⟨u44, hcut⟩ := hcut; obtain ⟨u45, hcut⟩ := hcut; obtain ⟨u46, hcut⟩ := hcut; obtain ⟨u47, hcut⟩ := hcut; obtain ⟨u48, hcut⟩ := hcut; obtain ⟨u49, hcut⟩ := hcut; obtain ⟨u50, hcut⟩ := hcut; obtain ⟨u51, hcut⟩ := hcut; obtain ⟨u52, hcut⟩ := hcut; obtain ⟨u53, hcut⟩ := hcut; obtain ⟨u54, hcut⟩ := hcut; obtain ⟨u55, hcut⟩ := hcut; obtain ⟨u56, hcut⟩ := hcut; obtain ⟨u57, hcut⟩ := hcut; obtain ⟨u58, hcut⟩ := hcut; obtain ⟨u59, hcut⟩ := hcut; obtain ⟨u60, hcut⟩ := hcut; obtain ⟨u61, hcut⟩ := hcut; obtain ⟨u62, hcut⟩ := hcut; obtain ⟨u63, hcut⟩ := hcut; obtain ⟨u64, hcut⟩ := hcut; obtain ⟨u65, hcut⟩ := hcut; obtain ⟨u66, hcut⟩ := hcut; obtain ⟨u67, hcut⟩ := hcut; obtain ⟨u68, hcut⟩ := hcut; obtain ⟨u69, hcut⟩ := hcut; obtain ⟨u70, hcut⟩ := hcut; obtain ⟨u71, hcut⟩ := hcut; obtain ⟨u72, hcut⟩ := hcut; obtain ⟨u73, hcut⟩ := hcut; obtain ⟨u74, hcut⟩ := hcut; obtain ⟨u75, hcut⟩ := hcut; obtain ⟨u76, hcut⟩ := hcut; obtain ⟨u77, hcut⟩ := hcut; obtain ⟨u78, hcut⟩ := hcut; obtain ⟨u79, hcut⟩ := hcut; obtain ⟨u80, hcut⟩ := hcut; obtain ⟨u81, hcut⟩ := hcut; obtain ⟨u82, hcut⟩ := hcut; obtain ⟨u83, hcut⟩ := hcut; obtain ⟨u84, hcut⟩ := hcut; obtain ⟨u85, hcut⟩ := hcut; obtain ⟨u86, hcut⟩ := hcut; obtain ⟨u87, hcut⟩ := hcut; obtain ⟨u88, hcut⟩ := hcut; obtain ⟨u89, hcut⟩ := hcut; obtain ⟨u90, hcut⟩ := hcut; obtain ⟨u91, hcut⟩ := hcut; obtain ⟨u92, hcut⟩ := hcut; obtain ⟨u93, hcut⟩ := hcut; obtain ⟨u94, hcut⟩ := hcut; obtain ⟨u95, hcut⟩ := hcut; obtain ⟨u96, hcut⟩ := hcut; obtain ⟨u97, hcut⟩ := hcut; obtain ⟨u98, hcut⟩ := hcut; obtain ⟨u99, hcut⟩ := hcut; obtain ⟨u100, hcut⟩ := hcut; obtain ⟨u101, hcut⟩ := hcut; obtain ⟨u102, hcut⟩ := hcut; obtain ⟨u103, hcut⟩ := hcut; obtain ⟨u104, hcut⟩ := hcut; obtain ⟨u105, hcut⟩ := hcut; obtain ⟨u106, hcut⟩ := hcut; obtain ⟨u107, hcut⟩ := hcut; obtain ⟨u108, hcut⟩ := hcut; obtain ⟨u109, hcut⟩ := hcut; obtain ⟨u110, hcut⟩ := hcut; obtain ⟨u111, hcut⟩ := hcut; obtain ⟨u112, hcut⟩ := hcut; obtain ⟨u113, hcut⟩ := hcut; obtain ⟨u114, hcut⟩ := hcut; obtain ⟨u115, hcut⟩ := hcut; obtain ⟨u116, hcut⟩ := hcut; obtain ⟨u117, hcut⟩ := hcut; obtain ⟨u118, hcut⟩ := hcut; obtain ⟨u119, hcut⟩ := hcut; obtain ⟨u120, hcut⟩ := hcut; obtain ⟨u121, hcut⟩ := hcut; obtain ⟨v4, hcut⟩ := hcut; obtain ⟨v5, hcut⟩ := hcut; obtain ⟨hcut, hac⟩ := hcut; subst hac; intro _ _ _ _)
        case atStart => exact ⟨0, none, 0, rfl, rfl, rfl, GRow.nil, Below.refl _ _⟩
        case round =>
          obtain ⟨j, A', c', hm1, rfl, rfl, G1, BB1⟩ := hcut
          have HM1 := Lib.hid hm1
          have HG1 := Lib.hid G1
          have HBB1 := Lib.hid BB1
          have x1 : wr.cell? ⟨k, 1, none⟩ = some (.slice A L c) := cell_same z1 (BB1.block k HKL.out)
          by_cases hj : j < f
          · have hlt : (bs.take j).length = j := by rw [List.length_take, HL.out]; omega
            obtain ⟨gb, ob, y, A2, c2, w3, hAb, hy, yc, hrun, G2, B2⟩ := copy_round BS.out HG1.out HBB1.out (i := j) (by rw [HL.out]; omega) (by rw [hlt]; omega)
            subst hAb
            rw [hlt] at hrun
            have HRUN := Lib.hid hrun
            have HG2 := Lib.hid (show GRow bc 5 1 w3 w2.heap.size A2 c2 (bs.take (j + 1)) by rw [List.take_add_one, hy]; exact G2)
            have HB2 := Lib.hid B2
            have qj : (j : Int) < (L : Int) := by omega
            have qf : (j : Int) < (f : Int) := by omega
            clear hm1 G1 BB1 hrun G2 B2 hlt hy
            go_wp2_with (refine wpList_app HRUN.out rfl rfl rfl (by rfl) (by rfl) ?_)
            go_roundg (a - 1)
            case measure => have := HM1.out; omega
            case rel => exact ⟨j + 1, A2, c2, by have := HM1.out; omega, by go_num, rfl, HG2.out, HB2.out⟩
          · have hjf : j = f := by omega
            subst hjf
            clear hm1 G1 BB1
            go_wp2_with (fail)
            refine wp_loop_ghost_k (fun (a2 : Nat) (ac : Act) (wq : World) => ∃ u1 u5 u7 u8 u9 u10 u11 u12 u13 u14 u15 u16 u17 u18 u19 u20 u21 u22 u23 u24 u25 u26 u27 u28 u29 u30 u31 u32 u33 u34 u35 u36 u37 u38 u39 u40 u41 u42 u43 u44 u45 u46 u47 u48 u49 u50 u51 u52 u53 u54 u55 u56 u57 u58 u59 u60 u61 u62 u63 u64 u65 u66 u67 u68 u69 u70 u71 u72 u73 u74 u75 u76 u77 u78 u79 u80 u81 u82 u83 u84 u85 u86 u87 u88 u89 u90 u91 u92 u93 u94 u95 u96 u97 u98 u99 u100 u101 u102 u103 u104 u105 u106 u107 u108 u109 u110 u111 u112 u113 u114 u115 u116 u117 u118 u119 u120 u121 v4 v6 : Value, (∃ (i : Nat) (A' : Option Addr) (c' : Nat), a2 + i = lf ∧ v6 = .int .i64 i ∧ v4 = .slice A' (j + i) c' ∧ GRow bc 5 1 wq w2.heap.size A' c' (bs.take j ++ fm.take i) ∧ Below w2.heap.size w2 wq) ∧ ac = ({ tmps := #[.pointer (some ⟨k, 0, none⟩), u1, .int .i64 j, .slice A1 lf c1, v4, u5, v6, u7, u8, u9, u10, u11, u12, u13, u14, u15, u16, u17, u18, u19, u20, u21, u22, u23, u24, u25, u26, u27, u28, u29, u30, u31, u32, u33, u34, u35, u36, u37, u38, u39, u40, u41, u42, u43, u44, u45, u46, u47, u48, u49, u50, u51, u52, u53, u54, u55, u56, u57, u58, u59, u60, u61, u62, u63, u64, u65, u66, u67, u68, u69, u70, u71, u72, u73, u74, u75, u76, u77, u78, u79, u80, u81, u82, u83, u84, u85, u86, u87, u88, u89, u90, u91, u92, u93, u94, u95, u96, u97, u98, u99, u100, u101, u102, u103, u104, u105, u106, u107, u108, u109, u110, u111, u112, u113, u114, u115, u116, u117, u118, u119, u120, u121], defers := [] } : Act)) (lf) ?atStart ?round
            case' atStart => ((repeat apply Exists.intro); refine ⟨?_, rfl⟩)
            case' round => (intro a2 ac wq hcut; obtain ⟨u1, hcut⟩ := hcut; obtain ⟨u5, hcut⟩ := hcut; obtain ⟨u7, hcut⟩ := hcut; obtain ⟨u8, hcut⟩ := hcut; obtain ⟨u9, hcut⟩ := hcut; obtain ⟨u10, hcut⟩ := hcut; obtain ⟨u11, hcut⟩ := hcut; obtain ⟨u12, hcut⟩ := hcut; obtain ⟨u13, hcut⟩ := hcut; obtain ⟨u14, hcut⟩ := hcut; obtain ⟨u15, hcut⟩ := hcut; obtain ⟨u16, hcut⟩ := hcut; obtain ⟨u17, hcut⟩ := hcut; obtain ⟨u18, hcut⟩ := hcut; obtain ⟨u19, hcut⟩ := hcut; obtain ⟨u20, hcut⟩ := hcut; obtain ⟨u21, hcut⟩ := hcut; obtain ⟨u22, hcut⟩ := hcut; obtain ⟨u23, hcut⟩ := hcut; obtain ⟨u24, hcut⟩ := hcut; obtain ⟨u25, hcut⟩ := hcut; obtain ⟨u26, hcut⟩ := hcut; obtain ⟨u27, hcut⟩ := hcut; obtain ⟨u28, hcut⟩ := hcut; obtain ⟨u29, hcut⟩ := hcut; obtain ⟨u30, hcut⟩ := hcut; obtain ⟨u31, hcut⟩ := hcut; obtain ⟨u32, hcut⟩ := hcut; obtain ⟨u33, hcut⟩ := hcut; obtain ⟨u34, hcut⟩ := hcut; obtain ⟨u35, hcut⟩ := hcut; obtain ⟨u36, hcut⟩ := hcut; obtain ⟨u37, hcut⟩ := hcut; obtain ⟨u38, hcut⟩ := hcut; obtain ⟨u39, hcut⟩ := hcut; obtain ⟨u40, hcut⟩ := hcut; obtain ⟨u41, hcut⟩ := hcut; obtain ⟨u42, hcut⟩ := hcut; obtain ⟨u43, hcut⟩ := hcut; obtain ⟨u44, hcut⟩ := hcut; obtain ⟨u45, hcut⟩ := hcut; obtain ⟨u46, hcut⟩ := hcut; obtain ⟨u47, hcut⟩ := hcut; obtain ⟨u48, hcut⟩ := hcut; obtain ⟨u49, hcut⟩ := hcut; obtain ⟨u50, hcut⟩ := hcut; obtain ⟨u51, hcut⟩ := hcut; obtain ⟨u52, hcut⟩ := hcut; obtain ⟨u53, hcut⟩ := hcut; obtain ⟨u54, hcut⟩ := hcut; obtain ⟨u55, hcut⟩ := hcut; obtain ⟨u56, hcut⟩ := hcut; obtain ⟨u57, hcut⟩ := hcut; obtain ⟨u58, hcut⟩ := hcut; obtain ⟨u59, hcut⟩ := hcut; obtain ⟨u60, hcut⟩ := hcut; obtain ⟨u61, hcut⟩ := hcut; obtain ⟨u62, hcut⟩ := hcut; obtain ⟨u63, hcut⟩ := hcut; obtain ⟨u64, hcut⟩ := hcut; obtain ⟨u65, hcut⟩ := hcut; obtain ⟨u66, hcut⟩ := hcut; obtain ⟨u67, hcut⟩ := hcut; obtain ⟨u68, hcut⟩ := hcut; obtain ⟨u69, hcut⟩ := hcut; obtain ⟨u70, hcut⟩ := hcut; obtain ⟨u71, hcut⟩ := hcut; obtain ⟨u72, hcut⟩ := hcut; obtain ⟨u73, hcut⟩ := hcut; obtain ⟨u74, hcut⟩ := hcut; obtain ⟨u75, hcut⟩ := hcut; obtain ⟨u76, hcut⟩ := hcut; obtain ⟨u77, hcut⟩ := hcut; obtain ⟨u78, hcut⟩ := hcut; obtain ⟨u79, hcut⟩ := hcut; obtain ⟨u80, hcut⟩ := hcut; obtain ⟨u81, hcut⟩ := hcut; obtain ⟨u82, hcut⟩ := hcut; obtain ⟨u83, hcut⟩ := hcut; obtain ⟨u84, hcut⟩ := hcut; obtain ⟨u85, hcut⟩ := hcut; obtain ⟨u86, hcut⟩ := hcut; obtain ⟨u87, hcut⟩ := hcut; obtain ⟨u88, hcut⟩ := hcut; obtain ⟨u89, hcut⟩ := hcut; obtain ⟨u90, hcut⟩ := hcut; obtain ⟨u91, hcut⟩ := hcut; obtain ⟨u92, hcut⟩ := hcut; obtain ⟨u93, hcut⟩ := hcut; obtain ⟨u94, hcut⟩ := hcut; obtain ⟨u95, hcut⟩ := hcut; obtain ⟨u96, hcut⟩ := hcut; obtain ⟨u97, hcut⟩ := hcut; obtain ⟨u98, hcut⟩ := hcut; obtain ⟨u99, hcut⟩ := hcut; obtain ⟨u100, hcut⟩ := hcut; obtain ⟨u101, hcut⟩ := hcut; obtain ⟨u102, hcut⟩ := hcut; obtain ⟨u103, hcut⟩ := hcut; obtain ⟨u104, hcut⟩ := hcut; obtain ⟨u105, hcut⟩ := hcut; obtain ⟨u106, hcut⟩ := hcut; obtain ⟨u107, hcut⟩ := hcut; obtain ⟨u108, hcut⟩ := hcut; obtain ⟨u109, hcut⟩ := hcut; obtain ⟨u110, hcut⟩ := hcut; obtain ⟨u111, hcut⟩ := hcut; obtain ⟨u112, hcut⟩ := hcut; obtain ⟨u113, hcut⟩ := hcut; obtain ⟨u114, hcut⟩ := hcut; obtain ⟨u115, hcut⟩ := hcut; obtain ⟨u116, hcut⟩ := hcut; obtain ⟨u117, hcut⟩ := hcut; obtain ⟨u118, hcut⟩ := hcut; obtain ⟨u119, hcut⟩ := hcut; obtain ⟨u120, hcut⟩ := hcut; obtain ⟨u121, hcut⟩ := hcut; obtain ⟨v4, hcut⟩ := hcut; obtain ⟨v6, hcut⟩ := hcut; obtain ⟨hcut, hac⟩ := hcut; subst hac; intro _ _ _ _)
            case atStart => exact ⟨0, A', c', rfl, rfl, rfl, by simpa using HG1.out, HBB1.out⟩
            case round =>
              obtain ⟨i, A3, c3, hm2, rfl, rfl, G3, BB3⟩ := hcut
              have HM2 := Lib.hid hm2
              have HG3 := Lib.hid G3
              have HBB3 := Lib.hid BB3
              have x1 : wq.cell? ⟨k, 1, none⟩ = some (.slice A L c) := cell_same z1 (BB3.block k HKL.out)
              by_cases hi : i < lf
              · have hlt : (bs.take j ++ fm.take i).length = j + i := by rw [List.length_append, List.length_take, List.length_take, HL.out, HLF.out]; omega
                obtain ⟨gb, ob, y, A4, c4, w3, hAb, hy, yc, hrun, G4, B4⟩ := copy_round FS.out HG3.out HBB3.out (i := i) (by rw [HLF.out]; omega) (by rw [hlt]; omega)
                subst hAb
                rw [hlt] at hrun
                have HRUN := Lib.hid hrun
                have HG4 := Lib.hid (show GRow bc 5 1 w3 w2.heap.size A4 c4 (bs.take j ++ fm.take (i + 1)) by rw [List.take_add_one, hy, ← List.append_assoc]; exact G4)
                have HB4 := Lib.hid B4
                have qi : (i : Int) < (lf : Int) := by omega
                clear hm2 G3 BB3 hrun G4 B4 hlt hy
                go_wp2_with (refine wpList_app HRUN.out rfl rfl rfl (by rfl) (by rfl) ?_)
                go_roundg (a2 - 1)
                case measure => have := HM2.out; omega
                case rel => exact ⟨i + 1, A4, c4, by have := HM2.out; omega, by go_num, rfl, HG4.out, HB4.out⟩
              · have hil : i = lf := by omega
                subst hil
                have htk : fm.take i = fm := List.take_of_length_le (by rw [HLF.out]; exact Nat.le_refl _)
                rw [htk] at HG3
                clear hm2 G3 BB3 htk
                go_wp2_with (fail)
                refine wp_loop_ghost_k (fun (a3 : Nat) (ac : Act) (wz : World) => ∃ u1 u2 u3 u5 u6 u8 u9 u10 u11 u12 u13 u14 u15 u16 u17 u18 u19 u20 u21 u22 u23 u24 u25 u26 u27 u28 u29 u30 u31 u32 u33 u34 u35 u36 u37 u38 u39 u40 u41 u42 u43 u44 u45 u46 u47 u48 u49 u50 u51 u52 u53 u54 u55 u56 u57 u58 u59 u60 u61 u62 u63 u64 u65 u66 u67 u68 u69 u70 u71 u72 u73 u74 u75 u76 u77 u78 u79 u80 u81 u82 u83 u84 u85 u86 u87 u88 u89 u90 u91 u92 u93 u94 u95 u96 u97 u98 u99 u100 u101 u102 u103 u104 u105 u106 u107 u108 u109 u110 u111 u112 u113 u114 u115 u116 u117 u118 u119 u120 u121 v4 v7 : Value, (∃ (q : Nat) (A' : Option Addr) (c' : Nat), a3 + q = L - j ∧ v7 = .int .i64 ((j + q : Nat) : Int) ∧ v4 = .slice A' (j + i + q) c' ∧ GRow bc 5 1 wz w2.heap.size A' c' (bs.take j ++ fm ++ (bs.drop j).take q) ∧ Below w2.heap.size w2 wz) ∧ ac = ({ tmps := #[.pointer (some ⟨k, 0, none⟩), u1, u2, u3, v4, u5, u6, v7, u8, u9, u10, u11, u12, u13, u14, u15, u16, u17, u18, u19, u20, u21, u22, u23, u24, u25, u26, u27, u28, u29, u30, u31, u32, u33, u34, u35, u36, u37, u38, u39, u40, u41, u42, u43, u44, u45, u46, u47, u48, u49, u50, u51, u52, u53, u54, u55, u56, u57, u58, u59, u60, u61, u62, u63, u64, u65, u66, u67, u68, u69, u70, u71, u72, u73, u74, u75, u76, u77, u78, u79, u80, u81, u82, u83, u84, u85, u86, u87, u88, u89, u90, u91, u92, u93, u94, u95, u96, u97, u98, u99, u100, u101, u102, u103, u104, u105, u106, u107, u108, u109, u110, u111, u112, u113, u114, u115, u116, u117, u118, u119, u120, u121], defers := [] } : Act)) (L - j) ?atStart ?round
                case' atStart => ((repeat apply Exists.intro); refine ⟨?_, rfl⟩)
                case' round => (intro a3 ac wz hcut; obtain ⟨u1, hcut⟩ := hcut; obtain ⟨u2, hcut⟩ := hcut; obtain ⟨u3, hcut⟩ := hcut; obtain ⟨u5, hcut⟩ := hcut; obtain ⟨u6, hcut⟩ := hcut; obtain ⟨u8, hcut⟩ := hcut; obtain ⟨u9, hcut⟩ := hcut; obtain ⟨u10, hcut⟩ := hcut; obtain ⟨u11, hcut⟩ := hcut; obtain ⟨u12, hcut⟩ := hcut; obtain ⟨u13, hcut⟩ := hcut; obtain ⟨u14, hcut⟩ := hcut; obtain ⟨u15, hcut⟩ := hcut; obtain ⟨u16, hcut⟩ := hcut; obtain ⟨u17, hcut⟩ := hcut; obtain ⟨u18, hcut⟩ := hcut; obtain ⟨u19, hcut⟩ := hcut; obtain ⟨u20, hcut⟩ := hcut; obtain ⟨u21, hcut⟩ := hcut; obtain ⟨u22, hcut⟩ := hcut; obtain ⟨u23, hcut⟩ := hcut; obtain ⟨u24, hcut⟩ := hcut; obtain ⟨u25, hcut⟩ := hcut; obtain ⟨u26, hcut⟩ := hcut; obtain ⟨u27, hcut⟩ := hcut; obtain ⟨u28, hcut⟩ := hcut; obtain ⟨u29, hcut⟩ := hcut; obtain ⟨u30, hcut⟩ := hcut; obtain ⟨u31, hcut⟩ := hcut; obtain ⟨u32, hcut⟩ := hcut; obtain ⟨u33, hcut⟩ := hcut; obtain ⟨u34, hcut⟩ := hcut; obtain ⟨u35, hcut⟩ := hcut; obtain ⟨u36, hcut⟩ := hcut; obtain ⟨u37, hcut⟩ := hcut; obtain ⟨u38, hcut⟩ := hcut; obtain ⟨u39, hcut⟩ := hcut; obtain ⟨u40, hcut⟩ := hcut; obtain ⟨u41, hcut⟩ := hcut; obtain ⟨u42, hcut⟩ := hcut; obtain ⟨u43, hcut⟩ := hcut; obtain ⟨u44, hcut⟩ := hcut; obtain ⟨u45, hcut⟩ := hcut; obtain ⟨u46, hcut⟩ := hcut; obtain ⟨u47, hcut⟩ := hcut; obtain ⟨u48, hcut⟩ := hcut; obtain ⟨u49, hcut⟩ := hcut; obtain ⟨u50, hcut⟩ := hcut; obtain ⟨u51, hcut⟩ := hcut; obtain ⟨u52, hcut⟩ := hcut; obtain ⟨u53, hcut⟩ := hcut; obtain ⟨u54, hcut⟩ := hcut; obtain ⟨u55, hcut⟩ := hcut; obtain ⟨u56, hcut⟩ := hcut; obtain ⟨u57, hcut⟩ := hcut; obtain ⟨u58, hcut⟩ := hcut; obtain ⟨u59, hcut⟩ := hcut; obtain ⟨u60, hcut⟩ := hcut; obtain ⟨u61, hcut⟩ := hcut; obtain ⟨u62, hcut⟩ := hcut; obtain ⟨u63, hcut⟩ := hcut; obtain ⟨u64, hcut⟩ := hcut; obtain ⟨u65, hcut⟩ := hcut; obtain ⟨u66, hcut⟩ := hcut; obtain ⟨u67, hcut⟩ := hcut; obtain ⟨u68, hcut⟩ := hcut; obtain ⟨u69, hcut⟩ := hcut; obtain ⟨u70, hcut⟩ := hcut; obtain ⟨u71, hcut⟩ := hcut; obtain ⟨u72, hcut⟩ := hcut; obtain ⟨u73, hcut⟩ := hcut; obtain ⟨u74, hcut⟩ := hcut; obtain ⟨u75, hcut⟩ := hcut; obtain ⟨u76, hcut⟩ := hcut; obtain ⟨u77, hcut⟩ := hcut; obtain ⟨u78, hcut⟩ := hcut; obtain ⟨u79, hcut⟩ := hcut; obtain ⟨u80, hcut⟩ := hcut; obtain ⟨u81, hcut⟩ := hcut; obtain ⟨u82, hcut⟩ := hcut; obtain ⟨u83, hcut⟩ := hcut; obtain ⟨u84, hcut⟩ := hcut; obtain ⟨u85, hcut⟩ := hcut; obtain ⟨u86, hcut⟩ := hcut; obtain ⟨u87, hcut⟩ := hcut; obtain ⟨u88, hcut⟩ := hcut; obtain ⟨u89, hcut⟩ := hcut; obtain ⟨u90, hcut⟩ := hcut; obtain ⟨u91, hcut⟩ := hcut; obtain ⟨u92, hcut⟩ := hcut; obtain ⟨u93, hcut⟩ := hcut; obtain ⟨u94, hcut⟩ := hcut; obtain ⟨u95, hcut⟩ := hcut; obtain ⟨u96, hcut⟩ := hcut; obtain ⟨u97, hcut⟩ := hcut; obtain ⟨u98, hcut⟩ := hcut; obtain ⟨u99, hcut⟩ := hcut; obtain ⟨u100, hcut⟩ := hcut; obtain ⟨u101, hcut⟩ := hcut; obtain ⟨u102, hcut⟩ := hcut; obtain ⟨u103, hcut⟩ := hcut; obtain ⟨u104, hcut⟩ := hcut; obtain ⟨u105, hcut⟩ := hcut; obtain ⟨u106, hcut⟩ := hcut; obtain ⟨u107, hcut⟩ := hcut; obtain ⟨u108, hcut⟩ := hcut; obtain ⟨u109, hcut⟩ := hcut; obtain ⟨u110, hcut⟩ := hcut; obtain ⟨u111, hcut⟩ := hcut; obtain ⟨u112, hcut⟩ := hcut; obtain ⟨u113, hcut⟩ := hcut; obtain ⟨u114, hcut⟩ := hcut; obtain ⟨u115, hcut⟩ := hcut; obtain ⟨u116, hcut⟩ := hcut; obtain ⟨u117, hcut⟩ := hcut; obtain ⟨u118, hcut⟩ := hcut; obtain ⟨u119, hcut⟩ := hcut; obtain ⟨u120, hcut⟩ := hcut; obtain ⟨u121, hcut⟩ := hcut; obtain ⟨v4, hcut⟩ := hcut; obtain ⟨v7, hcut⟩ := hcut; obtain ⟨hcut, hac⟩ := hcut; subst hac; intro _ _ _ _)
                case atStart => exact ⟨0, A3, c3, rfl, by simp, rfl, by simpa using HG3.out, HBB3.out⟩
                case round =>
                  obtain ⟨q, A5, c5, hm3, rfl, rfl, G5, BB5⟩ := hcut
                  have HM3 := Lib.hid hm3
                  have HG5 := Lib.hid G5
                  have HBB5 := Lib.hid BB5
                  have x1 : wz.cell? ⟨k, 1, none⟩ = some (.slice A L c) := cell_same z1 (BB5.block k HKL.out)
                  obtain ⟨r, hr⟩ : ∃ r, j + q = r := ⟨_, rfl⟩
                  rw [hr]
                  have HRR := Lib.hid hr
                  by_cases hq : r < L
                  · have hlt : (bs.take j ++ fm ++ (bs.drop j).take q).length = j + i + q := by rw [List.length_append, List.length_append, List.length_take, List.length_take, List.length_drop, HL.out, HLF.out]; omega
                    obtain ⟨gb, ob, y, A6, c6, w3, hAb, hy, yc, hrun, G6, B6⟩ := copy_round BS.out HG5.out HBB5.out (i := r) (by rw [HL.out]; omega) (by rw [hlt]; omega)
                    subst hAb
                    rw [hlt] at hrun
                    have HRUN := Lib.hid hrun
                    have HG6 := Lib.hid (show GRow bc 5 1 w3 w2.heap.size A6 c6 (bs.take j ++ fm ++ (bs.drop j).take (q + 1)) by
                      rw [List.take_add_one, List.getElem?_drop, hr, hy, ← List.append_assoc]; exact G6)
                    have HB6 := Lib.hid B6
                    have qr : (r : Int) < (L : Int) := by omega
                    clear hm3 G5 BB5 hrun G6 B6 hlt hy hr
                    go_wp2_with (refine wpList_app HRUN.out rfl rfl rfl (by rfl) (by rfl) ?_)
                    go_roundg (a3 - 1)
                    case measure => have := HM3.out; have := HRR.out; omega
                    case rel => exact ⟨q + 1, A6, c6, by have := HM3.out; have := HRR.out; omega, by have := HRR.out; go_num, rfl, HG6.out, HB6.out⟩
                  · have hqL : q = L - j := by omega
                    have htk : (bs.drop j).take q = bs.drop j := List.take_of_length_le (by rw [List.length_drop, HL.out]; omega)
                    rw [htk] at HG5
                    have fz := free_blk ((HBB5.out.block k HKL.out).trans HKW.out) 1
                    have HFIN := Lib.hid (show (bs.take j ++ fm ++ bs.drop j).length = j + i + q by rw [List.length_append, List.length_append, List.length_take, List.length_drop, HL.out, HLF.out]; omega)
                    have qr : ¬ (r : Int) < (L : Int) := by omega
                    clear hm3 G5 BB5 htk hqL hr
                    go_wp2_with (fail)
                    go_end0
                    refine ⟨rfl, ?_⟩
                    have hh := of_decide_eq_false HT.out
                    rw [HCL.out, if_neg (by omega)]
                    have hdl : op.dropLast.length = m := by rw [List.length_dropLast, HM.out]; rfl
                    have hdt : op.take m = op.dropLast := by rw [List.dropLast_eq_take, HM.out]; rfl
                    have hKz := (HBB5.out.block k HKL.out).trans HKW.out
                    have hs1 := HB1.out.size
                    have hs2 := HSW.out
                    have hs3 := HBB5.out.size
                    refine ⟨⟨A5, c5, some ⟨g, 0, none⟩, oc, ?_, Or.inl hk, ?_, ?_⟩, (((Fr.below F HB1.out).trans HFW.out fun _ _ h => h).trans (Fr.below F HBB5.out) fun _ _ h => h).trans (Fr.set (F := F) wz hk _) fun _ _ h => h⟩
                    · simp only
                      rw [hdl, ← List.append_assoc, HFIN.out]
                      exact setCell_heap wz k 1 _ _ _ _ hKz
                    · simp only
                      rw [← List.append_assoc]
                      have hg := HG5.out.keeps (KeepT.setCell hKz (Ne.symm te_ne.1) 1 (.slice A5 (j + i + q) c5))
                      rcases hg with hg | ⟨g5, r1, r2, r3⟩
                      · exact Or.inl hg
                      · exact Or.inr ⟨g5, r1, Or.inr ⟨by omega, r3.lt⟩, r3⟩
                    · simp only
                      rw [← hdt]
                      exact ((RowF.blw HROP.out HBB5.out).keeps (KeepT.setCell hKz (Ne.symm te_ne.2) 1 (.slice A5 (j + i + q) c5))).mono fun _ h => Or.inl h
      · go_wp2_with (fail)
        ((try simp only [Exit.inBlock, Exit.then]); refine bodyPost_ret (results_none rfl _ _ _) rfl ?_)
        have hh := of_decide_eq_true HT.out
        refine ⟨rfl, ?_⟩
        rw [HCL.out, if_pos (by omega)]
        exact UpdW.after (HB1.out.drew) ⟨((LI1.out.drew).fault te_ne 13).mono fun _ h => Or.inl h, Fr.set _ hk _⟩
  · have hne : (ft != 0) = true := by simpa using hf
    rw [hne] at WH
    have e1 : (WS.mk room bs op ft).close = WS.mk room bs op ft := by unfold WS.close; rw [if_neg hf]
    rw [e1]
    clear h1 h2 h3 h4 e0 e1 e2 c3 f3
    go_enter Try.func91, Try.ntmps91
    go_wp2_with (go_at_call 128; refine WH.out.mono ?_; rintro e w_ ⟨rfl, rfl⟩)
    ((try simp only [Exit.inBlock, Exit.then]); refine bodyPost_ret (results_none rfl _ _ _) rfl ?_)
    exact ⟨rfl, UpdW.refl H.out⟩
end
end Go.Proofs.Ytibelfljlhcibaa
