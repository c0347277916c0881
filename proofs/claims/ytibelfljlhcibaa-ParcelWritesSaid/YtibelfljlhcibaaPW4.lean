/- Writers: Fixed. -/
import Derived.Test.YtibelfljlhcibaaPW2
import Derived.Test.YtibelfljlhcibaaPO
namespace Go.Proofs.Ytibelfljlhcibaa
set_option linter.unusedVariables false
set_option linter.unusedSimpArgs false
open Go.RowKit Go.Deep Go.Proofs.YtibelfljlhcibaaW.PrintLast
set_option maxHeartbeats 2000000 in
theorem down_u8 {w : World} {e : TypeId} {g c : Nat} {ys : List Int} (O : Own bc e 1 w g c ys) (hl : ys.length ≤ 8) (x : Nat) (hx : x < 256) :
    Calls Try.prog 104 #[.slice (some ⟨g, 0, none⟩) ys.length c, .int .u8 x] w fun e' w' => e' = .returned (.tuple #[]) ∧ Own bc e 1 w' g c (lowN ys.length x) ∧ w.grownBy w' (some g) := by
  have HO := Lib.hid O
  clear O
  go_enter Try.func104, Try.ntmps104
  go_wp2_with (fail)
  refine wp_loop_ghost_k (fun (m : Nat) (ac : Act) (wr : World) => ∃ u2 u3 u4 u5 u8 u9 u10 u11 u12 u13 u14 u15 u16 u17 v1 v7 : Value, (∃ (i x' : Nat), m + i = ys.length ∧ v1 = .int .u8 x' ∧ v7 = .int .i64 i ∧ x' = x / 256 ^ i ∧ Own bc e 1 wr g c (lowN i x ++ ys.drop i) ∧ w.grownBy wr (some g)) ∧ ac = ({ tmps := #[.slice (some ⟨g, 0, none⟩) ys.length c, v1, u2, u3, u4, u5, .int .i64 ys.length, v7, u8, u9, u10, u11, u12, u13, u14, u15, u16, u17], defers := [] } : Act)) (ys.length) ?atStart ?round
  case' atStart => ((repeat apply Exists.intro); refine ⟨?_, rfl⟩)
  case' round => (intro m ac wr hcut; obtain ⟨u2, hcut⟩ := hcut; obtain ⟨u3, hcut⟩ := hcut; obtain ⟨u4, hcut⟩ := hcut; obtain ⟨u5, hcut⟩ := hcut; obtain ⟨u8, hcut⟩ := hcut; obtain ⟨u9, hcut⟩ := hcut; obtain ⟨u10, hcut⟩ := hcut; obtain ⟨u11, hcut⟩ := hcut; obtain ⟨u12, hcut⟩ := hcut; obtain ⟨u13, hcut⟩ := hcut; obtain ⟨u14, hcut⟩ := hcut; obtain ⟨u15, hcut⟩ := hcut; obtain ⟨u16, hcut⟩ := hcut; obtain ⟨u17, hcut⟩ := hcut; obtain ⟨v1, hcut⟩ := hcut; obtain ⟨v7, hcut⟩ := hcut; obtain ⟨hcut, hac⟩ := hcut; subst hac; intro _ _ _ _)
  case atStart => exact ⟨0, x, rfl, rfl, rfl, by simp, by simpa [lowN] using HO.out, grown_refl _ _⟩
  case round =>
    obtain ⟨i, x', hm, rfl, rfl, hx', O, G⟩ := hcut
    have HM := Lib.hid hm
    have HX := Lib.hid hx'
    have HG := Lib.hid G
    have hxb : x' < 256 := by rw [hx']; exact Nat.lt_of_le_of_lt (Nat.div_le_self _ _) hx
    have hil : i ≤ ys.length := by omega
    by_cases hi : i < ys.length
    · have hlen : (lowN i x ++ ys.drop i).length = ys.length := by rw [List.length_append, lowN_len, List.length_drop]; omega
      obtain ⟨old, hold⟩ : ∃ y, (lowN i x ++ ys.drop i)[i]? = some y := ⟨_, List.getElem?_eq_getElem (by omega)⟩
      have c0 : wr.cell? ⟨g, i, none⟩ = some (.int .u8 old) := by have := O.cell hold (j := 0) (v := .int .u8 old) rfl; simpa using this
      have f0 := O.free i
      have HO' := Lib.hid O
      have i8 : i < 8 := by omega
      have z1 : decide (i < ys.length) = true := by simp; omega
      clear hm hx' O G hold hlen hl
      go_wp2_with (fail)
      go_roundg (m - 1)
      case measure => have := HM.out; omega
      case rel =>
        refine ⟨i + 1, x' / 256, by have := HM.out; omega, by go_num, by go_num, ?_, ?_, grown_trans HG.out (grown_set _ _ _ _)⟩
        · rw [HX.out, Nat.div_div_eq_div_mul, Nat.pow_succ]
        · rw [← low_step hi, ← HX.out]
          exact Own.set1 bc_len HO'.out (by rw [List.length_append, lowN_len, List.length_drop]; omega) (by simp [bc]; try omega)
    · have hie : i = ys.length := by omega
      have z1 : decide (i < ys.length) = false := by simp; omega
      have HE := Lib.hid hie
      have HO' := Lib.hid O
      clear hie hm hx' O G
      go_wp2_with (fail)
      go_end0
      refine ⟨rfl, ?_, HG.out⟩
      have := HO'.out
      rw [HE.out, List.drop_length, List.append_nil] at this
      exact this
set_option maxHeartbeats 2000000 in
theorem down_u16 {w : World} {e : TypeId} {g c : Nat} {ys : List Int} (O : Own bc e 1 w g c ys) (hl : ys.length ≤ 8) (x : Nat) (hx : x < 65536) :
    Calls Try.prog 105 #[.slice (some ⟨g, 0, none⟩) ys.length c, .int .u16 x] w fun e' w' => e' = .returned (.tuple #[]) ∧ Own bc e 1 w' g c (lowN ys.length x) ∧ w.grownBy w' (some g) := by
  have HO := Lib.hid O
  clear O
  go_enter Try.func105, Try.ntmps105
  go_wp2_with (fail)
  refine wp_loop_ghost_k (fun (m : Nat) (ac : Act) (wr : World) => ∃ u2 u3 u4 u5 u8 u9 u10 u11 u12 u13 u14 u15 u16 u17 u18 v1 v7 : Value, (∃ (i x' : Nat), m + i = ys.length ∧ v1 = .int .u16 x' ∧ v7 = .int .i64 i ∧ x' = x / 256 ^ i ∧ Own bc e 1 wr g c (lowN i x ++ ys.drop i) ∧ w.grownBy wr (some g)) ∧ ac = ({ tmps := #[.slice (some ⟨g, 0, none⟩) ys.length c, v1, u2, u3, u4, u5, .int .i64 ys.length, v7, u8, u9, u10, u11, u12, u13, u14, u15, u16, u17, u18], defers := [] } : Act)) (ys.length) ?atStart ?round
  case' atStart => ((repeat apply Exists.intro); refine ⟨?_, rfl⟩)
  case' round => (intro m ac wr hcut; obtain ⟨u2, hcut⟩ := hcut; obtain ⟨u3, hcut⟩ := hcut; obtain ⟨u4, hcut⟩ := hcut; obtain ⟨u5, hcut⟩ := hcut; obtain ⟨u8, hcut⟩ := hcut; obtain ⟨u9, hcut⟩ := hcut; obtain ⟨u10, hcut⟩ := hcut; obtain ⟨u11, hcut⟩ := hcut; obtain ⟨u12, hcut⟩ := hcut; obtain ⟨u13, hcut⟩ := hcut; obtain ⟨u14, hcut⟩ := hcut; obtain ⟨u15, hcut⟩ := hcut; obtain ⟨u16, hcut⟩ := hcut; obtain ⟨u17, hcut⟩ := hcut; obtain ⟨u18, hcut⟩ := hcut; obtain ⟨v1, hcut⟩ := hcut; obtain ⟨v7, hcut⟩ := hcut; obtain ⟨hcut, hac⟩ := hcut; subst hac; intro _ _ _ _)
  case atStart => exact ⟨0, x, rfl, rfl, rfl, by simp, by simpa [lowN] using HO.out, grown_refl _ _⟩
  case round =>
    obtain ⟨i, x', hm, rfl, rfl, hx', O, G⟩ := hcut
    have HM := Lib.hid hm
    have HX := Lib.hid hx'
    have HG := Lib.hid G
    have hxb : x' < 65536 := by rw [hx']; exact Nat.lt_of_le_of_lt (Nat.div_le_self _ _) hx
    have hil : i ≤ ys.length := by omega
    by_cases hi : i < ys.length
    · have hlen : (lowN i x ++ ys.drop i).length = ys.length := by rw [List.length_append, lowN_len, List.length_drop]; omega
      obtain ⟨old, hold⟩ : ∃ y, (lowN i x ++ ys.drop i)[i]? = some y := ⟨_, List.getElem?_eq_getElem (by omega)⟩
      have c0 : wr.cell? ⟨g, i, none⟩ = some (.int .u8 old) := by have := O.cell hold (j := 0) (v := .int .u8 old) rfl; simpa using this
      have f0 := O.free i
      have HO' := Lib.hid O
      have i8 : i < 8 := by omega
      have z1 : decide (i < ys.length) = true := by simp; omega
      clear hm hx' O G hold hlen hl
      go_wp2_with (fail)
      go_roundg (m - 1)
      case measure => have := HM.out; omega
      case rel =>
        refine ⟨i + 1, x' / 256, by have := HM.out; omega, by go_num, by go_num, ?_, ?_, grown_trans HG.out (grown_set _ _ _ _)⟩
        · rw [HX.out, Nat.div_div_eq_div_mul, Nat.pow_succ]
        · rw [← low_step hi, ← HX.out]
          exact Own.set1 bc_len HO'.out (by rw [List.length_append, lowN_len, List.length_drop]; omega) (by simp [bc]; try omega)
    · have hie : i = ys.length := by omega
      have z1 : decide (i < ys.length) = false := by simp; omega
      have HE := Lib.hid hie
      have HO' := Lib.hid O
      clear hie hm hx' O G
      go_wp2_with (fail)
      go_end0
      refine ⟨rfl, ?_, HG.out⟩
      have := HO'.out
      rw [HE.out, List.drop_length, List.append_nil] at this
      exact this
set_option maxHeartbeats 2000000 in
theorem down_u32 {w : World} {e : TypeId} {g c : Nat} {ys : List Int} (O : Own bc e 1 w g c ys) (hl : ys.length ≤ 8) (x : Nat) (hx : x < 4294967296) :
    Calls Try.prog 106 #[.slice (some ⟨g, 0, none⟩) ys.length c, .int .u32 x] w fun e' w' => e' = .returned (.tuple #[]) ∧ Own bc e 1 w' g c (lowN ys.length x) ∧ w.grownBy w' (some g) := by
  have HO := Lib.hid O
  clear O
  go_enter Try.func106, Try.ntmps106
  go_wp2_with (fail)
  refine wp_loop_ghost_k (fun (m : Nat) (ac : Act) (wr : World) => ∃ u2 u3 u4 u5 u8 u9 u10 u11 u12 u13 u14 u15 u16 u17 u18 v1 v7 : Value, (∃ (i x' : Nat), m + i = ys.length ∧ v1 = .int .u32 x' ∧ v7 = .int .i64 i ∧ x' = x / 256 ^ i ∧ Own bc e 1 wr g c (lowN i x ++ ys.drop i) ∧ w.grownBy wr (some g)) ∧ ac = ({ tmps := #[.slice (some ⟨g, 0, none⟩) ys.length c, v1, u2, u3, u4, u5, .int .i64 ys.length, v7, u8, u9, u10, u11, u12, u13, u14, u15, u16, u17, u18], defers := [] } : Act)) (ys.length) ?atStart ?round
  case' atStart => ((repeat apply Exists.intro); refine ⟨?_, rfl⟩)
  case' round => (intro m ac wr hcut; obtain ⟨u2, hcut⟩ := hcut; obtain ⟨u3, hcut⟩ := hcut; obtain ⟨u4, hcut⟩ := hcut; obtain ⟨u5, hcut⟩ := hcut; obtain ⟨u8, hcut⟩ := hcut; obtain ⟨u9, hcut⟩ := hcut; obtain ⟨u10, hcut⟩ := hcut; obtain ⟨u11, hcut⟩ := hcut; obtain ⟨u12, hcut⟩ := hcut; obtain ⟨u13, hcut⟩ := hcut; obtain ⟨u14, hcut⟩ := hcut; obtain ⟨u15, hcut⟩ := hcut; obtain ⟨u16, hcut⟩ := hcut; obtain ⟨u17, hcut⟩ := hcut; obtain ⟨u18, hcut⟩ := hcut; obtain ⟨v1, hcut⟩ := hcut; obtain ⟨v7, hcut⟩ := hcut; obtain ⟨hcut, hac⟩ := hcut; subst hac; intro _ _ _ _)
  case atStart => exact ⟨0, x, rfl, rfl, rfl, by simp, by simpa [lowN] using HO.out, grown_refl _ _⟩
  case round =>
    obtain ⟨i, x', hm, rfl, rfl, hx', O, G⟩ := hcut
    have HM := Lib.hid hm
    have HX := Lib.hid hx'
    have HG := Lib.hid G
    have hxb : x' < 4294967296 := by rw [hx']; exact Nat.lt_of_le_of_lt (Nat.div_le_self _ _) hx
    have hil : i ≤ ys.length := by omega
    by_cases hi : i < ys.length
    · have hlen : (lowN i x ++ ys.drop i).length = ys.length := by rw [List.length_append, lowN_len, List.length_drop]; omega
      obtain ⟨old, hold⟩ : ∃ y, (lowN i x ++ ys.drop i)[i]? = some y := ⟨_, List.getElem?_eq_getElem (by omega)⟩
      have c0 : wr.cell? ⟨g, i, none⟩ = some (.int .u8 old) := by have := O.cell hold (j := 0) (v := .int .u8 old) rfl; simpa using this
      have f0 := O.free i
      have HO' := Lib.hid O
      have i8 : i < 8 := by omega
      have z1 : decide (i < ys.length) = true := by simp; omega
      clear hm hx' O G hold hlen hl
      go_wp2_with (fail)
      go_roundg (m - 1)
      case measure => have := HM.out; omega
      case rel =>
        refine ⟨i + 1, x' / 256, by have := HM.out; omega, by go_num, by go_num, ?_, ?_, grown_trans HG.out (grown_set _ _ _ _)⟩
        · rw [HX.out, Nat.div_div_eq_div_mul, Nat.pow_succ]
        · rw [← low_step hi, ← HX.out]
          exact Own.set1 bc_len HO'.out (by rw [List.length_append, lowN_len, List.length_drop]; omega) (by simp [bc]; try omega)
    · have hie : i = ys.length := by omega
      have z1 : decide (i < ys.length) = false := by simp; omega
      have HE := Lib.hid hie
      have HO' := Lib.hid O
      clear hie hm hx' O G
      go_wp2_with (fail)
      go_end0
      refine ⟨rfl, ?_, HG.out⟩
      have := HO'.out
      rw [HE.out, List.drop_length, List.append_nil] at this
      exact this
set_option maxHeartbeats 2000000 in
theorem down_u64 {w : World} {e : TypeId} {g c : Nat} {ys : List Int} (O : Own bc e 1 w g c ys) (hl : ys.length ≤ 8) (x : Nat) (hx : x < 18446744073709551616) :
    Calls Try.prog 65 #[.slice (some ⟨g, 0, none⟩) ys.length c, .int .u64 x] w fun e' w' => e' = .returned (.tuple #[]) ∧ Own bc e 1 w' g c (lowN ys.length x) ∧ w.grownBy w' (some g) := by
  have HO := Lib.hid O
  clear O
  go_enter Try.func65, Try.ntmps65
  go_wp2_with (fail)
  refine wp_loop_ghost_k (fun (m : Nat) (ac : Act) (wr : World) => ∃ u2 u3 u4 u5 u8 u9 u10 u11 u12 u13 u14 u15 u16 u17 u18 v1 v7 : Value, (∃ (i x' : Nat), m + i = ys.length ∧ v1 = .int .u64 x' ∧ v7 = .int .i64 i ∧ x' = x / 256 ^ i ∧ Own bc e 1 wr g c (lowN i x ++ ys.drop i) ∧ w.grownBy wr (some g)) ∧ ac = ({ tmps := #[.slice (some ⟨g, 0, none⟩) ys.length c, v1, u2, u3, u4, u5, .int .i64 ys.length, v7, u8, u9, u10, u11, u12, u13, u14, u15, u16, u17, u18], defers := [] } : Act)) (ys.length) ?atStart ?round
  case' atStart => ((repeat apply Exists.intro); refine ⟨?_, rfl⟩)
  case' round => (intro m ac wr hcut; obtain ⟨u2, hcut⟩ := hcut; obtain ⟨u3, hcut⟩ := hcut; obtain ⟨u4, hcut⟩ := hcut; obtain ⟨u5, hcut⟩ := hcut; obtain ⟨u8, hcut⟩ := hcut; obtain ⟨u9, hcut⟩ := hcut; obtain ⟨u10, hcut⟩ := hcut; obtain ⟨u11, hcut⟩ := hcut; obtain ⟨u12, hcut⟩ := hcut; obtain ⟨u13, hcut⟩ := hcut; obtain ⟨u14, hcut⟩ := hcut; obtain ⟨u15, hcut⟩ := hcut; obtain ⟨u16, hcut⟩ := hcut; obtain ⟨u17, hcut⟩ := hcut; obtain ⟨u18, hcut⟩ := hcut; obtain ⟨v1, hcut⟩ := hcut; obtain ⟨v7, hcut⟩ := hcut; obtain ⟨hcut, hac⟩ := hcut; subst hac; intro _ _ _ _)
  case atStart => exact ⟨0, x, rfl, rfl, rfl, by simp, by simpa [lowN] using HO.out, grown_refl _ _⟩
  case round =>
    obtain ⟨i, x', hm, rfl, rfl, hx', O, G⟩ := hcut
    have HM := Lib.hid hm
    have HX := Lib.hid hx'
    have HG := Lib.hid G
    have hxb : x' < 18446744073709551616 := by rw [hx']; exact Nat.lt_of_le_of_lt (Nat.div_le_self _ _) hx
    have hil : i ≤ ys.length := by omega
    by_cases hi : i < ys.length
    · have hlen : (lowN i x ++ ys.drop i).length = ys.length := by rw [List.length_append, lowN_len, List.length_drop]; omega
      obtain ⟨old, hold⟩ : ∃ y, (lowN i x ++ ys.drop i)[i]? = some y := ⟨_, List.getElem?_eq_getElem (by omega)⟩
      have c0 : wr.cell? ⟨g, i, none⟩ = some (.int .u8 old) := by have := O.cell hold (j := 0) (v := .int .u8 old) rfl; simpa using this
      have f0 := O.free i
      have HO' := Lib.hid O
      have i8 : i < 8 := by omega
      have z1 : decide (i < ys.length) = true := by simp; omega
      clear hm hx' O G hold hlen hl
      go_wp2_with (fail)
      go_roundg (m - 1)
      case measure => have := HM.out; omega
      case rel =>
        refine ⟨i + 1, x' / 256, by have := HM.out; omega, by go_num, by go_num, ?_, ?_, grown_trans HG.out (grown_set _ _ _ _)⟩
        · rw [HX.out, Nat.div_div_eq_div_mul, Nat.pow_succ]
        · rw [← low_step hi, ← HX.out]
          exact Own.set1 bc_len HO'.out (by rw [List.length_append, lowN_len, List.length_drop]; omega) (by simp [bc]; try omega)
    · have hie : i = ys.length := by omega
      have z1 : decide (i < ys.length) = false := by simp; omega
      have HE := Lib.hid hie
      have HO' := Lib.hid O
      clear hie hm hx' O G
      go_wp2_with (fail)
      go_end0
      refine ⟨rfl, ?_, HG.out⟩
      have := HO'.out
      rw [HE.out, List.drop_length, List.append_nil] at this
      exact this
section
variable {w : World} {F : Nat → Prop} {k : Nat} {s : WS}
theorem fixed_in (s : WS) (n z : Nat) (h1 : 1 ≤ z) (h8 : z ≤ 8) : s.fixed n (z : Int) = s.lay (lowN z n) := by
  unfold WS.fixed
  rw [if_neg (by omega), Int.toNat_natCast]
set_option maxHeartbeats 1000000 in
theorem wFixed_1 (h : WLies TW w F k s) (hok : s.Ok) (n : Nat) (hn : n < 18446744073709551616) (h63 : s.bs.length + 8 ≤ 140737488355328) :
    Calls Try.prog 55 #[.pointer (some ⟨k, 0, none⟩), .int .u64 n, .int .i64 1] w fun e w' => e = .returned (.tuple #[]) ∧ UpdW TW F k w w' (s.lay (lowN 1 n)) := by
  have DN : ∀ w1 g c, OwnB w1 g c (List.replicate 1 0) → Calls Try.prog 104 #[.slice (some ⟨g, 0, none⟩) 1 c, .int .u8 ((n : Int) % 256)] w1 fun e' w' => e' = .returned (.tuple #[]) ∧ OwnB w' g c (lowN 1 n) ∧ w1.grownBy w' (some g) := fun w1 g c O => by
    have := down_u8 O (by simp) (n % 256) (by omega)
    rw [List.length_replicate] at this
    rw [show ((n % 256 : Nat) : Int) = (n : Int) % 256 by omega, show lowN 1 (n % 256) = lowN 1 n from lowN_mod 1 n 1 (by decide)] at this
    exact this
  have HD := Lib.hid DN
  have H := Lib.hid h
  have HO := Lib.hid hok
  clear h hok DN
  go_enter Try.func55, Try.ntmps55
  go_wp2_with (refine wpB_make _ rfl _ _ rfl 1 (by rfl) (by rfl) (by omega) (fun w1 O1 G1 => ?_))
  have B1 : Below w.heap.size w w1 := (Below.refl _ _).grown G1 (Nat.le_refl _) (by intro k hk; cases hk)
  refine (HD.out _ _ _ O1).mono ?_
  rintro e w2 ⟨rfl, O2, G2⟩
  have B2 : Below w.heap.size w w2 := B1.grown G2 B1.size (by intro k hk; injection hk with hk; omega)
  have LY := lay_any (H.out.below B2) HO.out.room0 HO.out.room1 HO.out.fit (cc := 1) (BSrc.ofOwn O2) (by rw [lowN_len]; omega)
  rw [lowN_len] at LY
  have HL := Lib.hid LY
  have HB2 := Lib.hid B2
  clear O1 G1 B1 O2 G2 B2 LY
  go_wp2_with (fail)
  refine HL.out.mono ?_
  rintro e w3 ⟨rfl, U⟩
  go_wp2_with (fail)
  go_end0
  exact ⟨rfl, UpdW.after HB2.out U⟩
set_option maxHeartbeats 1000000 in
theorem wFixed_2 (h : WLies TW w F k s) (hok : s.Ok) (n : Nat) (hn : n < 18446744073709551616) (h63 : s.bs.length + 8 ≤ 140737488355328) :
    Calls Try.prog 55 #[.pointer (some ⟨k, 0, none⟩), .int .u64 n, .int .i64 2] w fun e w' => e = .returned (.tuple #[]) ∧ UpdW TW F k w w' (s.lay (lowN 2 n)) := by
  have DN : ∀ w1 g c, OwnB w1 g c (List.replicate 2 0) → Calls Try.prog 105 #[.slice (some ⟨g, 0, none⟩) 2 c, .int .u16 ((n : Int) % 65536)] w1 fun e' w' => e' = .returned (.tuple #[]) ∧ OwnB w' g c (lowN 2 n) ∧ w1.grownBy w' (some g) := fun w1 g c O => by
    have := down_u16 O (by simp) (n % 65536) (by omega)
    rw [List.length_replicate] at this
    rw [show ((n % 65536 : Nat) : Int) = (n : Int) % 65536 by omega, show lowN 2 (n % 65536) = lowN 2 n from lowN_mod 2 n 2 (by decide)] at this
    exact this
  have HD := Lib.hid DN
  have H := Lib.hid h
  have HO := Lib.hid hok
  clear h hok DN
  go_enter Try.func55, Try.ntmps55
  go_wp2_with (refine wpB_make _ rfl _ _ rfl 2 (by rfl) (by rfl) (by omega) (fun w1 O1 G1 => ?_))
  have B1 : Below w.heap.size w w1 := (Below.refl _ _).grown G1 (Nat.le_refl _) (by intro k hk; cases hk)
  refine (HD.out _ _ _ O1).mono ?_
  rintro e w2 ⟨rfl, O2, G2⟩
  have B2 : Below w.heap.size w w2 := B1.grown G2 B1.size (by intro k hk; injection hk with hk; omega)
  have LY := lay_any (H.out.below B2) HO.out.room0 HO.out.room1 HO.out.fit (cc := 2) (BSrc.ofOwn O2) (by rw [lowN_len]; omega)
  rw [lowN_len] at LY
  have HL := Lib.hid LY
  have HB2 := Lib.hid B2
  clear O1 G1 B1 O2 G2 B2 LY
  go_wp2_with (fail)
  refine HL.out.mono ?_
  rintro e w3 ⟨rfl, U⟩
  go_wp2_with (fail)
  go_end0
  exact ⟨rfl, UpdW.after HB2.out U⟩
set_option maxHeartbeats 1000000 in
theorem wFixed_3 (h : WLies TW w F k s) (hok : s.Ok) (n : Nat) (hn : n < 18446744073709551616) (h63 : s.bs.length + 8 ≤ 140737488355328) :
    Calls Try.prog 55 #[.pointer (some ⟨k, 0, none⟩), .int .u64 n, .int .i64 3] w fun e w' => e = .returned (.tuple #[]) ∧ UpdW TW F k w w' (s.lay (lowN 3 n)) := by
  have DN : ∀ w1 g c, OwnB w1 g c (List.replicate 3 0) → Calls Try.prog 106 #[.slice (some ⟨g, 0, none⟩) 3 c, .int .u32 ((n : Int) % 4294967296)] w1 fun e' w' => e' = .returned (.tuple #[]) ∧ OwnB w' g c (lowN 3 n) ∧ w1.grownBy w' (some g) := fun w1 g c O => by
    have := down_u32 O (by simp) (n % 4294967296) (by omega)
    rw [List.length_replicate] at this
    rw [show ((n % 4294967296 : Nat) : Int) = (n : Int) % 4294967296 by omega, show lowN 3 (n % 4294967296) = lowN 3 n from lowN_mod 3 n 4 (by decide)] at this
    exact this
  have HD := Lib.hid DN
  have H := Lib.hid h
  have HO := Lib.hid hok
  clear h hok DN
  go_enter Try.func55, Try.ntmps55
  go_wp2_with (refine wpB_make _ rfl _ _ rfl 3 (by rfl) (by rfl) (by omega) (fun w1 O1 G1 => ?_))
  have B1 : Below w.heap.size w w1 := (Below.refl _ _).grown G1 (Nat.le_refl _) (by intro k hk; cases hk)
  refine (HD.out _ _ _ O1).mono ?_
  rintro e w2 ⟨rfl, O2, G2⟩
  have B2 : Below w.heap.size w w2 := B1.grown G2 B1.size (by intro k hk; injection hk with hk; omega)
  have LY := lay_any (H.out.below B2) HO.out.room0 HO.out.room1 HO.out.fit (cc := 3) (BSrc.ofOwn O2) (by rw [lowN_len]; omega)
  rw [lowN_len] at LY
  have HL := Lib.hid LY
  have HB2 := Lib.hid B2
  clear O1 G1 B1 O2 G2 B2 LY
  go_wp2_with (fail)
  refine HL.out.mono ?_
  rintro e w3 ⟨rfl, U⟩
  go_wp2_with (fail)
  go_end0
  exact ⟨rfl, UpdW.after HB2.out U⟩
set_option maxHeartbeats 1000000 in
theorem wFixed_4 (h : WLies TW w F k s) (hok : s.Ok) (n : Nat) (hn : n < 18446744073709551616) (h63 : s.bs.length + 8 ≤ 140737488355328) :
    Calls Try.prog 55 #[.pointer (some ⟨k, 0, none⟩), .int .u64 n, .int .i64 4] w fun e w' => e = .returned (.tuple #[]) ∧ UpdW TW F k w w' (s.lay (lowN 4 n)) := by
  have DN : ∀ w1 g c, OwnB w1 g c (List.replicate 4 0) → Calls Try.prog 106 #[.slice (some ⟨g, 0, none⟩) 4 c, .int .u32 ((n : Int) % 4294967296)] w1 fun e' w' => e' = .returned (.tuple #[]) ∧ OwnB w' g c (lowN 4 n) ∧ w1.grownBy w' (some g) := fun w1 g c O => by
    have := down_u32 O (by simp) (n % 4294967296) (by omega)
    rw [List.length_replicate] at this
    rw [show ((n % 4294967296 : Nat) : Int) = (n : Int) % 4294967296 by omega, show lowN 4 (n % 4294967296) = lowN 4 n from lowN_mod 4 n 4 (by decide)] at this
    exact this
  have HD := Lib.hid DN
  have H := Lib.hid h
  have HO := Lib.hid hok
  clear h hok DN
  go_enter Try.func55, Try.ntmps55
  go_wp2_with (refine wpB_make _ rfl _ _ rfl 4 (by rfl) (by rfl) (by omega) (fun w1 O1 G1 => ?_))
  have B1 : Below w.heap.size w w1 := (Below.refl _ _).grown G1 (Nat.le_refl _) (by intro k hk; cases hk)
  refine (HD.out _ _ _ O1).mono ?_
  rintro e w2 ⟨rfl, O2, G2⟩
  have B2 : Below w.heap.size w w2 := B1.grown G2 B1.size (by intro k hk; injection hk with hk; omega)
  have LY := lay_any (H.out.below B2) HO.out.room0 HO.out.room1 HO.out.fit (cc := 4) (BSrc.ofOwn O2) (by rw [lowN_len]; omega)
  rw [lowN_len] at LY
  have HL := Lib.hid LY
  have HB2 := Lib.hid B2
  clear O1 G1 B1 O2 G2 B2 LY
  go_wp2_with (fail)
  refine HL.out.mono ?_
  rintro e w3 ⟨rfl, U⟩
  go_wp2_with (fail)
  go_end0
  exact ⟨rfl, UpdW.after HB2.out U⟩
set_option maxHeartbeats 1000000 in
theorem wFixed_5 (h : WLies TW w F k s) (hok : s.Ok) (n : Nat) (hn : n < 18446744073709551616) (h63 : s.bs.length + 8 ≤ 140737488355328) :
    Calls Try.prog 55 #[.pointer (some ⟨k, 0, none⟩), .int .u64 n, .int .i64 5] w fun e w' => e = .returned (.tuple #[]) ∧ UpdW TW F k w w' (s.lay (lowN 5 n)) := by
  have DN : ∀ w1 g c, OwnB w1 g c (List.replicate 5 0) → Calls Try.prog 65 #[.slice (some ⟨g, 0, none⟩) 5 c, .int .u64 ((n : Int))] w1 fun e' w' => e' = .returned (.tuple #[]) ∧ OwnB w' g c (lowN 5 n) ∧ w1.grownBy w' (some g) := fun w1 g c O => by
    have := down_u64 O (by simp) (n) (by omega)
    rw [List.length_replicate] at this
    skip
    exact this
  have HD := Lib.hid DN
  have H := Lib.hid h
  have HO := Lib.hid hok
  clear h hok DN
  go_enter Try.func55, Try.ntmps55
  go_wp2_with (refine wpB_make _ rfl _ _ rfl 5 (by rfl) (by rfl) (by omega) (fun w1 O1 G1 => ?_))
  have B1 : Below w.heap.size w w1 := (Below.refl _ _).grown G1 (Nat.le_refl _) (by intro k hk; cases hk)
  refine (HD.out _ _ _ O1).mono ?_
  rintro e w2 ⟨rfl, O2, G2⟩
  have B2 : Below w.heap.size w w2 := B1.grown G2 B1.size (by intro k hk; injection hk with hk; omega)
  have LY := lay_any (H.out.below B2) HO.out.room0 HO.out.room1 HO.out.fit (cc := 5) (BSrc.ofOwn O2) (by rw [lowN_len]; omega)
  rw [lowN_len] at LY
  have HL := Lib.hid LY
  have HB2 := Lib.hid B2
  clear O1 G1 B1 O2 G2 B2 LY
  go_wp2_with (fail)
  refine HL.out.mono ?_
  rintro e w3 ⟨rfl, U⟩
  go_wp2_with (fail)
  go_end0
  exact ⟨rfl, UpdW.after HB2.out U⟩
set_option maxHeartbeats 1000000 in
theorem wFixed_6 (h : WLies TW w F k s) (hok : s.Ok) (n : Nat) (hn : n < 18446744073709551616) (h63 : s.bs.length + 8 ≤ 140737488355328) :
    Calls Try.prog 55 #[.pointer (some ⟨k, 0, none⟩), .int .u64 n, .int .i64 6] w fun e w' => e = .returned (.tuple #[]) ∧ UpdW TW F k w w' (s.lay (lowN 6 n)) := by
  have DN : ∀ w1 g c, OwnB w1 g c (List.replicate 6 0) → Calls Try.prog 65 #[.slice (some ⟨g, 0, none⟩) 6 c, .int .u64 ((n : Int))] w1 fun e' w' => e' = .returned (.tuple #[]) ∧ OwnB w' g c (lowN 6 n) ∧ w1.grownBy w' (some g) := fun w1 g c O => by
    have := down_u64 O (by simp) (n) (by omega)
    rw [List.length_replicate] at this
    skip
    exact this
  have HD := Lib.hid DN
  have H := Lib.hid h
  have HO := Lib.hid hok
  clear h hok DN
  go_enter Try.func55, Try.ntmps55
  go_wp2_with (refine wpB_make _ rfl _ _ rfl 6 (by rfl) (by rfl) (by omega) (fun w1 O1 G1 => ?_))
  have B1 : Below w.heap.size w w1 := (Below.refl _ _).grown G1 (Nat.le_refl _) (by intro k hk; cases hk)
  refine (HD.out _ _ _ O1).mono ?_
  rintro e w2 ⟨rfl, O2, G2⟩
  have B2 : Below w.heap.size w w2 := B1.grown G2 B1.size (by intro k hk; injection hk with hk; omega)
  have LY := lay_any (H.out.below B2) HO.out.room0 HO.out.room1 HO.out.fit (cc := 6) (BSrc.ofOwn O2) (by rw [lowN_len]; omega)
  rw [lowN_len] at LY
  have HL := Lib.hid LY
  have HB2 := Lib.hid B2
  clear O1 G1 B1 O2 G2 B2 LY
  go_wp2_with (fail)
  refine HL.out.mono ?_
  rintro e w3 ⟨rfl, U⟩
  go_wp2_with (fail)
  go_end0
  exact ⟨rfl, UpdW.after HB2.out U⟩
set_option maxHeartbeats 1000000 in
theorem wFixed_7 (h : WLies TW w F k s) (hok : s.Ok) (n : Nat) (hn : n < 18446744073709551616) (h63 : s.bs.length + 8 ≤ 140737488355328) :
    Calls Try.prog 55 #[.pointer (some ⟨k, 0, none⟩), .int .u64 n, .int .i64 7] w fun e w' => e = .returned (.tuple #[]) ∧ UpdW TW F k w w' (s.lay (lowN 7 n)) := by
  have DN : ∀ w1 g c, OwnB w1 g c (List.replicate 7 0) → Calls Try.prog 65 #[.slice (some ⟨g, 0, none⟩) 7 c, .int .u64 ((n : Int))] w1 fun e' w' => e' = .returned (.tuple #[]) ∧ OwnB w' g c (lowN 7 n) ∧ w1.grownBy w' (some g) := fun w1 g c O => by
    have := down_u64 O (by simp) (n) (by omega)
    rw [List.length_replicate] at this
    skip
    exact this
  have HD := Lib.hid DN
  have H := Lib.hid h
  have HO := Lib.hid hok
  clear h hok DN
  go_enter Try.func55, Try.ntmps55
  go_wp2_with (refine wpB_make _ rfl _ _ rfl 7 (by rfl) (by rfl) (by omega) (fun w1 O1 G1 => ?_))
  have B1 : Below w.heap.size w w1 := (Below.refl _ _).grown G1 (Nat.le_refl _) (by intro k hk; cases hk)
  refine (HD.out _ _ _ O1).mono ?_
  rintro e w2 ⟨rfl, O2, G2⟩
  have B2 : Below w.heap.size w w2 := B1.grown G2 B1.size (by intro k hk; injection hk with hk; omega)
  have LY := lay_any (H.out.below B2) HO.out.room0 HO.out.room1 HO.out.fit (cc := 7) (BSrc.ofOwn O2) (by rw [lowN_len]; omega)
  rw [lowN_len] at LY
  have HL := Lib.hid LY
  have HB2 := Lib.hid B2
  clear O1 G1 B1 O2 G2 B2 LY
  go_wp2_with (fail)
  refine HL.out.mono ?_
  rintro e w3 ⟨rfl, U⟩
  go_wp2_with (fail)
  go_end0
  exact ⟨rfl, UpdW.after HB2.out U⟩
set_option maxHeartbeats 1000000 in
theorem wFixed_8 (h : WLies TW w F k s) (hok : s.Ok) (n : Nat) (hn : n < 18446744073709551616) (h63 : s.bs.length + 8 ≤ 140737488355328) :
    Calls Try.prog 55 #[.pointer (some ⟨k, 0, none⟩), .int .u64 n, .int .i64 8] w fun e w' => e = .returned (.tuple #[]) ∧ UpdW TW F k w w' (s.lay (lowN 8 n)) := by
  have DN : ∀ w1 g c, OwnB w1 g c (List.replicate 8 0) → Calls Try.prog 65 #[.slice (some ⟨g, 0, none⟩) 8 c, .int .u64 ((n : Int))] w1 fun e' w' => e' = .returned (.tuple #[]) ∧ OwnB w' g c (lowN 8 n) ∧ w1.grownBy w' (some g) := fun w1 g c O => by
    have := down_u64 O (by simp) (n) (by omega)
    rw [List.length_replicate] at this
    skip
    exact this
  have HD := Lib.hid DN
  have H := Lib.hid h
  have HO := Lib.hid hok
  clear h hok DN
  go_enter Try.func55, Try.ntmps55
  go_wp2_with (refine wpB_make _ rfl _ _ rfl 8 (by rfl) (by rfl) (by omega) (fun w1 O1 G1 => ?_))
  have B1 : Below w.heap.size w w1 := (Below.refl _ _).grown G1 (Nat.le_refl _) (by intro k hk; cases hk)
  refine (HD.out _ _ _ O1).mono ?_
  rintro e w2 ⟨rfl, O2, G2⟩
  have B2 : Below w.heap.size w w2 := B1.grown G2 B1.size (by intro k hk; injection hk with hk; omega)
  have LY := lay_any (H.out.below B2) HO.out.room0 HO.out.room1 HO.out.fit (cc := 8) (BSrc.ofOwn O2) (by rw [lowN_len]; omega)
  rw [lowN_len] at LY
  have HL := Lib.hid LY
  have HB2 := Lib.hid B2
  clear O1 G1 B1 O2 G2 B2 LY
  go_wp2_with (fail)
  refine HL.out.mono ?_
  rintro e w3 ⟨rfl, U⟩
  go_wp2_with (fail)
  go_end0
  exact ⟨rfl, UpdW.after HB2.out U⟩
set_option maxHeartbeats 1000000 in
theorem wFixed_bad (h : WLies TW w F k s) (n : Nat) (size : Int) (hs : size < 1 ∨ 8 < size) :
    Calls Try.prog 55 #[.pointer (some ⟨k, 0, none⟩), .int .u64 n, .int .i64 size] w fun e w' => e = .returned (.tuple #[]) ∧ UpdW TW F k w w' (s.refuse 2) := by
  have RE := Lib.hid (refuse_any h 2)
  clear h
  go_enter Try.func55, Try.ntmps55
  rcases hs with hs | hs
  · have z1 : decide (size < 1) = true := by simpa using hs
    go_wp2_with (fail)
    refine RE.out.mono ?_
    rintro e w2 ⟨rfl, U⟩
    go_wp2_with (fail)
    ((try simp only [Exit.inBlock, Exit.then]); refine bodyPost_ret (results_none rfl _ _ _) rfl ?_)
    exact ⟨rfl, U⟩
  · have z1 : decide (size < 1) = false := by simp; omega
    have z2 : decide (8 < size) = true := by simpa using hs
    go_wp2_with (fail)
    refine RE.out.mono ?_
    rintro e w2 ⟨rfl, U⟩
    go_wp2_with (fail)
    ((try simp only [Exit.inBlock, Exit.then]); refine bodyPost_ret (results_none rfl _ _ _) rfl ?_)
    exact ⟨rfl, U⟩
theorem wFixed_any (h : WLies TW w F k s) (hok : s.Ok) (n : Nat) (hn : n < 18446744073709551616) (size : Int) (h63 : s.bs.length + 8 ≤ 140737488355328) :
    Calls Try.prog 55 #[.pointer (some ⟨k, 0, none⟩), .int .u64 n, .int .i64 size] w fun e w' => e = .returned (.tuple #[]) ∧ UpdW TW F k w w' (s.fixed n size) := by
  by_cases hs : size < 1 ∨ 8 < size
  · have : s.fixed n size = s.refuse 2 := by unfold WS.fixed; rw [if_pos hs]
    rw [this]
    exact wFixed_bad h n size hs
  · obtain ⟨z, rfl⟩ := Int.eq_ofNat_of_zero_le (show 0 ≤ size by omega)
    rw [fixed_in s n z (by omega) (by omega)]
    rcases (by omega : z = 1 ∨ z = 2 ∨ z = 3 ∨ z = 4 ∨ z = 5 ∨ z = 6 ∨ z = 7 ∨ z = 8) with rfl | rfl | rfl | rfl | rfl | rfl | rfl | rfl
    · exact wFixed_1 h hok n hn h63
    · exact wFixed_2 h hok n hn h63
    · exact wFixed_3 h hok n hn h63
    · exact wFixed_4 h hok n hn h63
    · exact wFixed_5 h hok n hn h63
    · exact wFixed_6 h hok n hn h63
    · exact wFixed_7 h hok n hn h63
    · exact wFixed_8 h hok n hn h63
end
end Go.Proofs.Ytibelfljlhcibaa
