/- The nil writer: Byte, Num, Int, Raw. The nil writer: Text. The nil writer: Real. The nil writer: Fixed. -/
import Derived.Test.YtibelfljlhcibaaPW2
import Derived.Test.YtibelfljlhcibaaPWb
import Derived.Lib.AppendZeros
import Derived.Test.YtibelfljlhcibaaPW5
import Derived.Test.YtibelfljlhcibaaPW4
namespace Go.Proofs.Ytibelfljlhcibaa
set_option linter.unusedVariables false
set_option linter.unusedSimpArgs false
open Go.RowKit Go.Deep Go.Proofs.YtibelfljlhcibaaW.PrintLast
def NilP (w : World) (e : Ending) (w' : World) : Prop := e = .returned (.tuple #[]) ∧ Below w.heap.size w w'
set_option maxHeartbeats 400000 in
theorem wNum_nil (w : World) (n : Nat) (hn : n < 18446744073709551616) : Calls Try.prog 58 #[.pointer none, .int .u64 n] w (NilP w) := by
  have FM := Lib.hid (form_any n hn w)
  go_enter Try.func58, Try.ntmps58
  go_wp2_with (fail)
  refine FM.out.mono ?_
  rintro e w1 ⟨g, c1, rfl, hg, O, B1⟩
  have HB := Lib.hid B1
  clear O B1
  go_wp2_with (fail)
  refine (lay_nil w1 _).mono ?_
  rintro e w2 ⟨rfl, rfl⟩
  go_wp2_with (fail)
  go_end0
  exact ⟨rfl, HB.out⟩
set_option maxHeartbeats 400000 in
theorem wInt_nil (w : World) (i : Int) (i0 : -9223372036854775808 ≤ i) (i1 : i ≤ 9223372036854775807) : Calls Try.prog 22 #[.pointer none, .int .i64 i] w (NilP w) := by
  have NM := Lib.hid (wNum_nil w (foldZ i) (foldZ_lt i0 i1))
  have HF := Lib.hid (fold_bits i i0 i1)
  go_enter Try.func22, Try.ntmps22
  go_wp2_with (fail)
  rw [HF.out]
  refine NM.out.mono ?_
  rintro e w2 ⟨rfl, W2⟩
  go_wp2_with (fail)
  go_end0
  exact ⟨rfl, W2⟩
set_option maxHeartbeats 400000 in
theorem wRaw_nil (w : World) (v : Value) : Calls Try.prog 47 #[.pointer none, v] w (NilP w) := by
  go_enter Try.func47, Try.ntmps47
  go_wp2_with (fail)
  refine (lay_nil w _).mono ?_
  rintro e w2 ⟨rfl, rfl⟩
  go_wp2_with (fail)
  go_end0
  exact ⟨rfl, Below.refl _ _⟩
set_option maxHeartbeats 400000 in
theorem wByte_nil (w : World) (n : Int) : Calls Try.prog 45 #[.pointer none, .int .i64 n] w (NilP w) := by
  by_cases hr : n < 0 ∨ 255 < n
  · have HR := Lib.hid hr
    go_enter Try.func45, Try.ntmps45
    rcases hr with hr | hr
    · have z1 : decide (n < 0) = true := by simpa using hr
      go_wp2_with (fail)
      refine (refuse_nil w 2).mono ?_
      rintro e w2 ⟨rfl, rfl⟩
      go_wp2_with (fail)
      ((try simp only [Exit.inBlock, Exit.then]); refine bodyPost_ret (results_none rfl _ _ _) rfl ?_)
      exact ⟨rfl, Below.refl _ _⟩
    · have z1 : decide (n < 0) = false := by simp; omega
      have z2 : decide (255 < n) = true := by simpa using hr
      go_wp2_with (fail)
      refine (refuse_nil w 2).mono ?_
      rintro e w2 ⟨rfl, rfl⟩
      go_wp2_with (fail)
      ((try simp only [Exit.inBlock, Exit.then]); refine bodyPost_ret (results_none rfl _ _ _) rfl ?_)
      exact ⟨rfl, Below.refl _ _⟩
  · have n0 : 0 ≤ n := by omega
    have n1 : n ≤ 255 := by omega
    have B1 : Below w.heap.size w (w.alloc (.cells #[.int .u8 n] 5)) := (Below.refl _ _).alloc (Nat.le_refl _) _
    have HB := Lib.hid B1
    have z1 : decide (n < 0) = false := by simp; omega
    have z2 : decide (255 < n) = false := by simp; omega
    clear B1 hr
    go_enter Try.func45, Try.ntmps45
    go_wp2_with (fail)
    refine (lay_nil _ _).mono ?_
    rintro e w2 ⟨rfl, rfl⟩
    go_wp2_with (fail)
    go_end0
    exact ⟨rfl, HB.out⟩
end Go.Proofs.Ytibelfljlhcibaa
namespace Go.Proofs.Ytibelfljlhcibaa
set_option linter.unusedVariables false
set_option linter.unusedSimpArgs false
open Go.RowKit Go.Deep Go.Proofs.YtibelfljlhcibaaW.PrintLast
section
variable {w : World}
set_option maxRecDepth 100000 in
set_option maxHeartbeats 2000000 in
theorem wText_nil {B : Option Addr} {cc : Nat} {ys : List Int} (hy : BSrc w B ys) (h63 : 10 + ys.length ≤ 140737488355328) :
    Calls Try.prog 89 #[.pointer none, .slice B ys.length cc] w (NilP w) := by
  have hn64 : ys.length < 18446744073709551616 := by omega
  have FM := Lib.hid (form_any ys.length hn64 w)
  have h10 := formN_len10 hn64
  have h1 := formN_pos ys.length
  have HY := Lib.hid hy
  obtain ⟨L, hL⟩ : ∃ L, L = ys.length := ⟨_, rfl⟩
  have HL := Lib.hid hL
  have hLb : L ≤ 140737488355328 := by omega
  obtain ⟨fm, hfm⟩ : ∃ f, f = formN ys.length := ⟨_, rfl⟩
  rw [← hfm] at FM h10 h1
  rw [← hL] at FM h63 ⊢
  clear hy hn64 hL hfm
  go_enter Try.func89, Try.ntmps89
  go_wp2_with (fail)
  refine FM.out.mono ?_
  rintro e w1 ⟨g, c1, rfl, hg, O, B1⟩
  have BK := blk_new w1 (.cells #[.slice (some ⟨g, 0, none⟩) fm.length c1, .slice B L cc] 23)
  have B2 : Below w1.heap.size w1 (w1.alloc (.cells #[.slice (some ⟨g, 0, none⟩) fm.length c1, .slice B L cc] 23)) := (Below.refl _ _).alloc (Nat.le_refl _) _
  have BK' := BK
  rw [HL.out] at BK'
  have CC := concat2 (p := fm) (q := ys) BK' ((BSrc.ofOwn O).below (by rw [← HL.out]; exact B2)) (((HY.out.below B1)).below (by rw [← HL.out]; exact B2)) h1 (by rw [← HL.out]; omega)
  rw [← HL.out] at CC
  obtain ⟨tt, htt⟩ : ∃ tt, tt = fm ++ ys := ⟨_, rfl⟩
  rw [← htt] at CC
  have HC := Lib.hid CC
  have HB2 := Lib.hid (B1.trans (B2.mono B1.size))
  clear O B1 BK BK' B2 CC htt
  go_wp2_with (fail)
  refine HC.out.mono ?_
  rintro e w3 ⟨A3, c3, rfl, R3, B3⟩
  have HB3 := Lib.hid (HB2.out.trans (B3.mono HB2.out.size))
  clear R3 B3 HC
  go_wp2_with (fail)
  refine (lay_nil w3 _).mono ?_
  rintro e w4 ⟨rfl, rfl⟩
  go_wp2_with (fail)
  go_end0
  exact ⟨rfl, HB3.out⟩
end
end Go.Proofs.Ytibelfljlhcibaa
namespace Go.Proofs.Ytibelfljlhcibaa
set_option linter.unusedVariables false
set_option linter.unusedSimpArgs false
open Go.RowKit Go.Deep Go.Proofs.YtibelfljlhcibaaW.PrintLast
section
variable {w : World}
set_option maxRecDepth 100000 in
set_option maxHeartbeats 2000000 in
theorem wReal_nil (b : Nat) (hb : b < 18446744073709551616) :
    Calls Try.prog 27 #[.pointer none, .float .f64 b] w (NilP w) := by
  have hcf : ∀ w, (callFunc 29 #[.float .f64 b]).run Try.prog w = .ok (.value (.int .u64 (b : Int))) w := fun w => by
    rw [run_callFunc_extern Try.func29 (by kernel_rfl) (by kernel_rfl) (by kernel_rfl) (e := Extern.MathFloatBits.float64bits) (by kernel_rfl)]
    rfl
  have fe : (FloatKind.f64.format.order b b != some Ordering.eq) = oddBits b := by
    have := floatEq_self b
    unfold Op.floatEq at this
    rw [bne, this, Bool.not_not]
  obtain ⟨z, hz, hz64⟩ : ∃ z : Nat, cleanBits b = z ∧ z < 18446744073709551616 := ⟨_, rfl, by unfold cleanBits nanBits; split <;> omega⟩
  have O0 : Own bc 94 1 (w.alloc (.cells #[.int .u8 0, .int .u8 0, .int .u8 0, .int .u8 0, .int .u8 0, .int .u8 0, .int .u8 0, .int .u8 0] 94)) w.heap.size 8 (List.replicate 8 0) :=
    Own.fresh w (by decide) _ rfl _ (by simp) (fun i x hx j v hv => by
      have hi : i < 8 := by have := (List.getElem?_eq_some_iff.1 hx).1; simpa using this
      have hj : j = 0 := by have := (List.getElem?_eq_some_iff.1 hv).1; simp [bc] at this; omega
      subst hj
      rw [List.getElem?_replicate, if_pos hi] at hx
      injection hx with hx; subst hx
      simp [bc] at hv; subst hv
      rcases (by omega : i = 0 ∨ i = 1 ∨ i = 2 ∨ i = 3 ∨ i = 4 ∨ i = 5 ∨ i = 6 ∨ i = 7) with rfl | rfl | rfl | rfl | rfl | rfl | rfl | rfl <;> rfl)
  have B0 : Below w.heap.size w (w.alloc (.cells #[.int .u8 0, .int .u8 0, .int .u8 0, .int .u8 0, .int .u8 0, .int .u8 0, .int .u8 0, .int .u8 0] 94)) := (Below.refl _ _).alloc (Nat.le_refl _) _
  have DN := down_u64 O0 (by simp) z hz64
  simp only [List.length_replicate] at DN
  have HD := Lib.hid DN
  have HB0 := Lib.hid B0
  have hzz : z = if oddBits b then 9221120237041090560 else b := by rw [← hz]; rfl
  obtain ⟨t, ht⟩ := named (oddBits b)
  rw [ht] at fe hzz
  have HZZ := Lib.hid hzz
  clear hz DN O0 B0 hzz ht
  go_enter Try.func27, Try.ntmps27
  cases t with
  | true =>
    have := HZZ.out
    rw [if_pos rfl] at this
    subst this
    go_wp2_with (fail)
    refine HD.out.mono ?_
    rintro e w1 ⟨rfl, O1, G1⟩
    have B1 : Below w.heap.size w w1 := HB0.out.grown G1 HB0.out.size (by intro k hk; injection hk with hk; omega)
    have RV := rev_any O1 (by rw [lowN_len]; omega) (by intro h; have := lowN_len 8 9221120237041090560; rw [h] at this; simp at this)
    rw [lowN_len] at RV
    have HRV := Lib.hid RV
    have HB1 := Lib.hid B1
    clear O1 G1 B1 RV
    go_wp2_with (fail)
    refine HRV.out.mono ?_
    rintro e w2 ⟨rfl, O2, G2⟩
    have B2 : Below w.heap.size w w2 := HB1.out.grown G2 HB1.out.size (by intro k hk; injection hk with hk; omega)
    have HB2 := Lib.hid B2
    clear O2 G2 B2
    go_wp2_with (fail)
    refine (lay_nil w2 _).mono ?_
    rintro e w3 ⟨rfl, rfl⟩
    go_wp2_with (fail)
    go_end0
    exact ⟨rfl, HB2.out⟩
  | false =>
    have := HZZ.out
    rw [if_neg (by decide)] at this
    subst this
    go_wp2_with (fail)
    refine HD.out.mono ?_
    rintro e w1 ⟨rfl, O1, G1⟩
    have B1 : Below w.heap.size w w1 := HB0.out.grown G1 HB0.out.size (by intro k hk; injection hk with hk; omega)
    have RV := rev_any O1 (by rw [lowN_len]; omega) (by intro h; have := lowN_len 8 z; rw [h] at this; simp at this)
    rw [lowN_len] at RV
    have HRV := Lib.hid RV
    have HB1 := Lib.hid B1
    clear O1 G1 B1 RV
    go_wp2_with (fail)
    refine HRV.out.mono ?_
    rintro e w2 ⟨rfl, O2, G2⟩
    have B2 : Below w.heap.size w w2 := HB1.out.grown G2 HB1.out.size (by intro k hk; injection hk with hk; omega)
    have HB2 := Lib.hid B2
    clear O2 G2 B2
    go_wp2_with (fail)
    refine (lay_nil w2 _).mono ?_
    rintro e w3 ⟨rfl, rfl⟩
    go_wp2_with (fail)
    go_end0
    exact ⟨rfl, HB2.out⟩
end
end Go.Proofs.Ytibelfljlhcibaa
namespace Go.Proofs.Ytibelfljlhcibaa
set_option linter.unusedVariables false
set_option linter.unusedSimpArgs false
open Go.RowKit Go.Deep Go.Proofs.YtibelfljlhcibaaW.PrintLast
set_option maxHeartbeats 1000000 in
theorem wFixed_nil_1 (w : World) (n : Nat) (hn : n < 18446744073709551616) :
    Calls Try.prog 55 #[.pointer none, .int .u64 n, .int .i64 1] w (NilP w) := by
  have DN : ∀ w1 g c, OwnB w1 g c (List.replicate 1 0) → Calls Try.prog 104 #[.slice (some ⟨g, 0, none⟩) 1 c, .int .u8 ((n : Int) % 256)] w1 fun e' w' => e' = .returned (.tuple #[]) ∧ OwnB w' g c (lowN 1 n) ∧ w1.grownBy w' (some g) := fun w1 g c O => by
    have := down_u8 O (by simp) (n % 256) (by omega)
    rw [List.length_replicate] at this
    rw [show ((n % 256 : Nat) : Int) = (n : Int) % 256 by omega, show lowN 1 (n % 256) = lowN 1 n from lowN_mod 1 n 1 (by decide)] at this
    exact this
  have HD := Lib.hid DN
  clear DN
  go_enter Try.func55, Try.ntmps55
  go_wp2_with (refine wpB_make _ rfl _ _ rfl 1 (by rfl) (by rfl) (by omega) (fun w1 O1 G1 => ?_))
  have B1 : Below w.heap.size w w1 := (Below.refl _ _).grown G1 (Nat.le_refl _) (by intro k hk; cases hk)
  refine (HD.out _ _ _ O1).mono ?_
  rintro e w2 ⟨rfl, O2, G2⟩
  have B2 : Below w.heap.size w w2 := B1.grown G2 B1.size (by intro k hk; injection hk with hk; omega)
  have HB2 := Lib.hid B2
  clear O1 G1 B1 O2 G2 B2
  go_wp2_with (fail)
  refine (lay_nil w2 _).mono ?_
  rintro e w3 ⟨rfl, rfl⟩
  go_wp2_with (fail)
  go_end0
  exact ⟨rfl, HB2.out⟩
set_option maxHeartbeats 1000000 in
theorem wFixed_nil_2 (w : World) (n : Nat) (hn : n < 18446744073709551616) :
    Calls Try.prog 55 #[.pointer none, .int .u64 n, .int .i64 2] w (NilP w) := by
  have DN : ∀ w1 g c, OwnB w1 g c (List.replicate 2 0) → Calls Try.prog 105 #[.slice (some ⟨g, 0, none⟩) 2 c, .int .u16 ((n : Int) % 65536)] w1 fun e' w' => e' = .returned (.tuple #[]) ∧ OwnB w' g c (lowN 2 n) ∧ w1.grownBy w' (some g) := fun w1 g c O => by
    have := down_u16 O (by simp) (n % 65536) (by omega)
    rw [List.length_replicate] at this
    rw [show ((n % 65536 : Nat) : Int) = (n : Int) % 65536 by omega, show lowN 2 (n % 65536) = lowN 2 n from lowN_mod 2 n 2 (by decide)] at this
    exact this
  have HD := Lib.hid DN
  clear DN
  go_enter Try.func55, Try.ntmps55
  go_wp2_with (refine wpB_make _ rfl _ _ rfl 2 (by rfl) (by rfl) (by omega) (fun w1 O1 G1 => ?_))
  have B1 : Below w.heap.size w w1 := (Below.refl _ _).grown G1 (Nat.le_refl _) (by intro k hk; cases hk)
  refine (HD.out _ _ _ O1).mono ?_
  rintro e w2 ⟨rfl, O2, G2⟩
  have B2 : Below w.heap.size w w2 := B1.grown G2 B1.size (by intro k hk; injection hk with hk; omega)
  have HB2 := Lib.hid B2
  clear O1 G1 B1 O2 G2 B2
  go_wp2_with (fail)
  refine (lay_nil w2 _).mono ?_
  rintro e w3 ⟨rfl, rfl⟩
  go_wp2_with (fail)
  go_end0
  exact ⟨rfl, HB2.out⟩
set_option maxHeartbeats 1000000 in
theorem wFixed_nil_3 (w : World) (n : Nat) (hn : n < 18446744073709551616) :
    Calls Try.prog 55 #[.pointer none, .int .u64 n, .int .i64 3] w (NilP w) := by
  have DN : ∀ w1 g c, OwnB w1 g c (List.replicate 3 0) → Calls Try.prog 106 #[.slice (some ⟨g, 0, none⟩) 3 c, .int .u32 ((n : Int) % 4294967296)] w1 fun e' w' => e' = .returned (.tuple #[]) ∧ OwnB w' g c (lowN 3 n) ∧ w1.grownBy w' (some g) := fun w1 g c O => by
    have := down_u32 O (by simp) (n % 4294967296) (by omega)
    rw [List.length_replicate] at this
    rw [show ((n % 4294967296 : Nat) : Int) = (n : Int) % 4294967296 by omega, show lowN 3 (n % 4294967296) = lowN 3 n from lowN_mod 3 n 4 (by decide)] at this
    exact this
  have HD := Lib.hid DN
  clear DN
  go_enter Try.func55, Try.ntmps55
  go_wp2_with (refine wpB_make _ rfl _ _ rfl 3 (by rfl) (by rfl) (by omega) (fun w1 O1 G1 => ?_))
  have B1 : Below w.heap.size w w1 := (Below.refl _ _).grown G1 (Nat.le_refl _) (by intro k hk; cases hk)
  refine (HD.out _ _ _ O1).mono ?_
  rintro e w2 ⟨rfl, O2, G2⟩
  have B2 : Below w.heap.size w w2 := B1.grown G2 B1.size (by intro k hk; injection hk with hk; omega)
  have HB2 := Lib.hid B2
  clear O1 G1 B1 O2 G2 B2
  go_wp2_with (fail)
  refine (lay_nil w2 _).mono ?_
  rintro e w3 ⟨rfl, rfl⟩
  go_wp2_with (fail)
  go_end0
  exact ⟨rfl, HB2.out⟩
set_option maxHeartbeats 1000000 in
theorem wFixed_nil_4 (w : World) (n : Nat) (hn : n < 18446744073709551616) :
    Calls Try.prog 55 #[.pointer none, .int .u64 n, .int .i64 4] w (NilP w) := by
  have DN : ∀ w1 g c, OwnB w1 g c (List.replicate 4 0) → Calls Try.prog 106 #[.slice (some ⟨g, 0, none⟩) 4 c, .int .u32 ((n : Int) % 4294967296)] w1 fun e' w' => e' = .returned (.tuple #[]) ∧ OwnB w' g c (lowN 4 n) ∧ w1.grownBy w' (some g) := fun w1 g c O => by
    have := down_u32 O (by simp) (n % 4294967296) (by omega)
    rw [List.length_replicate] at this
    rw [show ((n % 4294967296 : Nat) : Int) = (n : Int) % 4294967296 by omega, show lowN 4 (n % 4294967296) = lowN 4 n from lowN_mod 4 n 4 (by decide)] at this
    exact this
  have HD := Lib.hid DN
  clear DN
  go_enter Try.func55, Try.ntmps55
  go_wp2_with (refine wpB_make _ rfl _ _ rfl 4 (by rfl) (by rfl) (by omega) (fun w1 O1 G1 => ?_))
  have B1 : Below w.heap.size w w1 := (Below.refl _ _).grown G1 (Nat.le_refl _) (by intro k hk; cases hk)
  refine (HD.out _ _ _ O1).mono ?_
  rintro e w2 ⟨rfl, O2, G2⟩
  have B2 : Below w.heap.size w w2 := B1.grown G2 B1.size (by intro k hk; injection hk with hk; omega)
  have HB2 := Lib.hid B2
  clear O1 G1 B1 O2 G2 B2
  go_wp2_with (fail)
  refine (lay_nil w2 _).mono ?_
  rintro e w3 ⟨rfl, rfl⟩
  go_wp2_with (fail)
  go_end0
  exact ⟨rfl, HB2.out⟩
set_option maxHeartbeats 1000000 in
theorem wFixed_nil_5 (w : World) (n : Nat) (hn : n < 18446744073709551616) :
    Calls Try.prog 55 #[.pointer none, .int .u64 n, .int .i64 5] w (NilP w) := by
  have DN : ∀ w1 g c, OwnB w1 g c (List.replicate 5 0) → Calls Try.prog 65 #[.slice (some ⟨g, 0, none⟩) 5 c, .int .u64 ((n : Int))] w1 fun e' w' => e' = .returned (.tuple #[]) ∧ OwnB w' g c (lowN 5 n) ∧ w1.grownBy w' (some g) := fun w1 g c O => by
    have := down_u64 O (by simp) (n) (by omega)
    rw [List.length_replicate] at this
    skip
    exact this
  have HD := Lib.hid DN
  clear DN
  go_enter Try.func55, Try.ntmps55
  go_wp2_with (refine wpB_make _ rfl _ _ rfl 5 (by rfl) (by rfl) (by omega) (fun w1 O1 G1 => ?_))
  have B1 : Below w.heap.size w w1 := (Below.refl _ _).grown G1 (Nat.le_refl _) (by intro k hk; cases hk)
  refine (HD.out _ _ _ O1).mono ?_
  rintro e w2 ⟨rfl, O2, G2⟩
  have B2 : Below w.heap.size w w2 := B1.grown G2 B1.size (by intro k hk; injection hk with hk; omega)
  have HB2 := Lib.hid B2
  clear O1 G1 B1 O2 G2 B2
  go_wp2_with (fail)
  refine (lay_nil w2 _).mono ?_
  rintro e w3 ⟨rfl, rfl⟩
  go_wp2_with (fail)
  go_end0
  exact ⟨rfl, HB2.out⟩
set_option maxHeartbeats 1000000 in
theorem wFixed_nil_6 (w : World) (n : Nat) (hn : n < 18446744073709551616) :
    Calls Try.prog 55 #[.pointer none, .int .u64 n, .int .i64 6] w (NilP w) := by
  have DN : ∀ w1 g c, OwnB w1 g c (List.replicate 6 0) → Calls Try.prog 65 #[.slice (some ⟨g, 0, none⟩) 6 c, .int .u64 ((n : Int))] w1 fun e' w' => e' = .returned (.tuple #[]) ∧ OwnB w' g c (lowN 6 n) ∧ w1.grownBy w' (some g) := fun w1 g c O => by
    have := down_u64 O (by simp) (n) (by omega)
    rw [List.length_replicate] at this
    skip
    exact this
  have HD := Lib.hid DN
  clear DN
  go_enter Try.func55, Try.ntmps55
  go_wp2_with (refine wpB_make _ rfl _ _ rfl 6 (by rfl) (by rfl) (by omega) (fun w1 O1 G1 => ?_))
  have B1 : Below w.heap.size w w1 := (Below.refl _ _).grown G1 (Nat.le_refl _) (by intro k hk; cases hk)
  refine (HD.out _ _ _ O1).mono ?_
  rintro e w2 ⟨rfl, O2, G2⟩
  have B2 : Below w.heap.size w w2 := B1.grown G2 B1.size (by intro k hk; injection hk with hk; omega)
  have HB2 := Lib.hid B2
  clear O1 G1 B1 O2 G2 B2
  go_wp2_with (fail)
  refine (lay_nil w2 _).mono ?_
  rintro e w3 ⟨rfl, rfl⟩
  go_wp2_with (fail)
  go_end0
  exact ⟨rfl, HB2.out⟩
set_option maxHeartbeats 1000000 in
theorem wFixed_nil_7 (w : World) (n : Nat) (hn : n < 18446744073709551616) :
    Calls Try.prog 55 #[.pointer none, .int .u64 n, .int .i64 7] w (NilP w) := by
  have DN : ∀ w1 g c, OwnB w1 g c (List.replicate 7 0) → Calls Try.prog 65 #[.slice (some ⟨g, 0, none⟩) 7 c, .int .u64 ((n : Int))] w1 fun e' w' => e' = .returned (.tuple #[]) ∧ OwnB w' g c (lowN 7 n) ∧ w1.grownBy w' (some g) := fun w1 g c O => by
    have := down_u64 O (by simp) (n) (by omega)
    rw [List.length_replicate] at this
    skip
    exact this
  have HD := Lib.hid DN
  clear DN
  go_enter Try.func55, Try.ntmps55
  go_wp2_with (refine wpB_make _ rfl _ _ rfl 7 (by rfl) (by rfl) (by omega) (fun w1 O1 G1 => ?_))
  have B1 : Below w.heap.size w w1 := (Below.refl _ _).grown G1 (Nat.le_refl _) (by intro k hk; cases hk)
  refine (HD.out _ _ _ O1).mono ?_
  rintro e w2 ⟨rfl, O2, G2⟩
  have B2 : Below w.heap.size w w2 := B1.grown G2 B1.size (by intro k hk; injection hk with hk; omega)
  have HB2 := Lib.hid B2
  clear O1 G1 B1 O2 G2 B2
  go_wp2_with (fail)
  refine (lay_nil w2 _).mono ?_
  rintro e w3 ⟨rfl, rfl⟩
  go_wp2_with (fail)
  go_end0
  exact ⟨rfl, HB2.out⟩
set_option maxHeartbeats 1000000 in
theorem wFixed_nil_8 (w : World) (n : Nat) (hn : n < 18446744073709551616) :
    Calls Try.prog 55 #[.pointer none, .int .u64 n, .int .i64 8] w (NilP w) := by
  have DN : ∀ w1 g c, OwnB w1 g c (List.replicate 8 0) → Calls Try.prog 65 #[.slice (some ⟨g, 0, none⟩) 8 c, .int .u64 ((n : Int))] w1 fun e' w' => e' = .returned (.tuple #[]) ∧ OwnB w' g c (lowN 8 n) ∧ w1.grownBy w' (some g) := fun w1 g c O => by
    have := down_u64 O (by simp) (n) (by omega)
    rw [List.length_replicate] at this
    skip
    exact this
  have HD := Lib.hid DN
  clear DN
  go_enter Try.func55, Try.ntmps55
  go_wp2_with (refine wpB_make _ rfl _ _ rfl 8 (by rfl) (by rfl) (by omega) (fun w1 O1 G1 => ?_))
  have B1 : Below w.heap.size w w1 := (Below.refl _ _).grown G1 (Nat.le_refl _) (by intro k hk; cases hk)
  refine (HD.out _ _ _ O1).mono ?_
  rintro e w2 ⟨rfl, O2, G2⟩
  have B2 : Below w.heap.size w w2 := B1.grown G2 B1.size (by intro k hk; injection hk with hk; omega)
  have HB2 := Lib.hid B2
  clear O1 G1 B1 O2 G2 B2
  go_wp2_with (fail)
  refine (lay_nil w2 _).mono ?_
  rintro e w3 ⟨rfl, rfl⟩
  go_wp2_with (fail)
  go_end0
  exact ⟨rfl, HB2.out⟩
set_option maxHeartbeats 1000000 in
theorem wFixed_nil_bad (w : World) (n : Nat) (size : Int) (hs : size < 1 ∨ 8 < size) :
    Calls Try.prog 55 #[.pointer none, .int .u64 n, .int .i64 size] w (NilP w) := by
  go_enter Try.func55, Try.ntmps55
  rcases hs with hs | hs
  · have z1 : decide (size < 1) = true := by simpa using hs
    go_wp2_with (fail)
    refine (refuse_nil w 2).mono ?_
    rintro e w2 ⟨rfl, rfl⟩
    go_wp2_with (fail)
    ((try simp only [Exit.inBlock, Exit.then]); refine bodyPost_ret (results_none rfl _ _ _) rfl ?_)
    exact ⟨rfl, Below.refl _ _⟩
  · have z1 : decide (size < 1) = false := by simp; omega
    have z2 : decide (8 < size) = true := by simpa using hs
    go_wp2_with (fail)
    refine (refuse_nil w 2).mono ?_
    rintro e w2 ⟨rfl, rfl⟩
    go_wp2_with (fail)
    ((try simp only [Exit.inBlock, Exit.then]); refine bodyPost_ret (results_none rfl _ _ _) rfl ?_)
    exact ⟨rfl, Below.refl _ _⟩
theorem wFixed_nil (w : World) (n : Nat) (hn : n < 18446744073709551616) (size : Int) :
    Calls Try.prog 55 #[.pointer none, .int .u64 n, .int .i64 size] w (NilP w) := by
  by_cases hs : size < 1 ∨ 8 < size
  · exact wFixed_nil_bad w n size hs
  · obtain ⟨z, rfl⟩ := Int.eq_ofNat_of_zero_le (show 0 ≤ size by omega)
    rcases (by omega : z = 1 ∨ z = 2 ∨ z = 3 ∨ z = 4 ∨ z = 5 ∨ z = 6 ∨ z = 7 ∨ z = 8) with rfl | rfl | rfl | rfl | rfl | rfl | rfl | rfl
    · exact wFixed_nil_1 w n hn
    · exact wFixed_nil_2 w n hn
    · exact wFixed_nil_3 w n hn
    · exact wFixed_nil_4 w n hn
    · exact wFixed_nil_5 w n hn
    · exact wFixed_nil_6 w n hn
    · exact wFixed_nil_7 w n hn
    · exact wFixed_nil_8 w n hn
end Go.Proofs.Ytibelfljlhcibaa
