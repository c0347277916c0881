/- The reference's writer: Num, Raw, Byte, Text. -/
import Derived.Test.YtjmmdpnphafdfaaPE3
namespace Go.Proofs.Ytjmmdpnphafdfaa
set_option linter.unusedVariables false
set_option linter.unusedSimpArgs false
open Go.RowKit Go.Deep Go.Proofs.YtjmmdpnphafdfaaW.PrintLast

section
variable {T : TypeId} {w w' : World} {F G : Nat → Prop} {k : Nat} {s : WS}
theorem WLies.tight (h : WLies T w F k s) : WLies T w (fun b => F b ∧ b < w.heap.size) k s := by
  have hl := h.lt
  obtain ⟨A, c, OA, oc, h1, h2, h3, h4⟩ := h
  refine ⟨A, c, OA, oc, h1, ⟨h2, hl⟩, ?_, ?_⟩
  · rcases h3 with h3 | ⟨g, g1, g2, g3⟩
    · exact Or.inl h3
    · exact Or.inr ⟨g, g1, ⟨g2, g3.lt⟩, g3⟩
  · rcases h4 with h4 | ⟨g, g1, g2, g3⟩
    · exact Or.inl h4
    · exact Or.inr ⟨g, g1, ⟨g2, g3.lt⟩, g3⟩
theorem UpdW.weaken (h : UpdW T G k w w' s) (hG : ∀ b, G b → F b) : UpdW T F k w w' s :=
  ⟨h.1.mono fun x hx => hx.elim (fun h => Or.inl (hG x h)) Or.inr, h.2.mono hG⟩
theorem GRow.notF {N c : Nat} {A : Option Addr} {p : List Int} (h : GRow bc 5 1 w N A c p) : ∀ g o, A = some ⟨g, o, none⟩ → p ≠ [] → ¬ (F g ∧ g < N) := fun g o hA hne hg => by
  rcases h with ⟨_, _, h⟩ | ⟨g', h1, h2, _⟩
  · exact hne h
  · rw [h1] at hA
    injection hA with hA; injection hA with hA; omega
end
section
variable {w : World} {F : Nat → Prop} {k : Nat} {s : WS}
/-- lay behind calls that made memory alone, of what they made. -/
theorem refLay_new {w1 : World} (h : WLies TE w F k s) (hok : s.Ok) {A : Option Addr} {c : Nat} {p : List Int} (R : GRow bc 5 1 w1 w.heap.size A c p) (B1 : Below w.heap.size w w1) (h63 : s.bs.length + p.length ≤ 140737488355328) (rf : Bool) :
    Calls Try.prog 69 #[.pointer (some ⟨k, 0, none⟩), .bool rf, .slice A p.length c] w1 fun e w' => e = .returned (.tuple #[]) ∧ UpdW TE F k w w' (if rf then s.refuse 2 else s.lay p) :=
  (refLay_any (h.tight.below B1) hok rf (cc := c) R.srcB R.notF h63).mono fun e w' ⟨he, U⟩ => ⟨he, UpdW.weaken (UpdW.after B1 U) fun b hb => hb.1⟩
set_option maxHeartbeats 1000000 in
theorem refNum_any (h : WLies TE w F k s) (hok : s.Ok) (n : Nat) (hn : n < 18446744073709551616) (h63 : s.bs.length + 10 ≤ 140737488355328) :
    Calls Try.prog 50 #[.pointer (some ⟨k, 0, none⟩), .int .u64 n] w fun e w' => e = .returned (.tuple #[]) ∧ UpdW TE F k w w' (s.num n) := by
  have h10 := formN_len10 hn
  have FM := Lib.hid (refForm_any n hn w)
  have H := Lib.hid h
  have HO := Lib.hid hok
  clear h hok
  go_enter Try.func50, Try.ntmps50
  go_wp2_with (fail)
  refine FM.out.mono ?_
  rintro e w1 ⟨⟨A, c1, rfl, R⟩, B1⟩
  have LY := Lib.hid (refLay_new H.out HO.out R B1 (by omega) false)
  clear R B1
  go_wp2_with (fail)
  refine LY.out.mono ?_
  rintro e w2 ⟨rfl, W2⟩
  go_wp2_with (fail)
  go_end0
  exact ⟨rfl, W2⟩
set_option maxHeartbeats 1000000 in
theorem refByte_any (h : WLies TE w F k s) (hok : s.Ok) (n : Int) (h63 : s.bs.length + 1 ≤ 140737488355328) :
    Calls Try.prog 49 #[.pointer (some ⟨k, 0, none⟩), .int .i64 n] w fun e w' => e = .returned (.tuple #[]) ∧ UpdW TE F k w w' (s.byte n) := by
  obtain ⟨y, hy⟩ : ∃ y, y = n % 256 := ⟨_, rfl⟩
  have B1 : Below w.heap.size w (w.alloc (.cells #[.int .u8 y] 5)) := (Below.refl _ _).alloc (Nat.le_refl _) _
  have hb : OwnB (w.alloc (.cells #[.int .u8 y] 5)) w.heap.size 1 [y] := ⟨by simp, by simp [maxLen], _, blk_new w _, rfl, by
    intro i x hx j v hv
    rcases i with _ | i
    · simp at hx; subst hx
      rcases j with _ | j
      · simpa [bc] using hv
      · simp [bc] at hv
    · simp at hx⟩
  have R : GRow bc 5 1 (w.alloc (.cells #[.int .u8 y] 5)) w.heap.size (some ⟨w.heap.size, 0, none⟩) 1 [y] := Or.inr ⟨_, rfl, Nat.le_refl _, hb⟩
  have LY := fun rf => refLay_new h hok R B1 (by simpa using h63) rf
  have HLY := Lib.hid LY
  have HY := Lib.hid hy
  clear h hok B1 hb R LY
  by_cases hr : n < 0 ∨ 255 < n
  · have HS := Lib.hid (show s.byte n = s.refuse 2 by unfold WS.byte; rw [if_pos hr])
    go_enter Try.func49, Try.ntmps49
    subst hy
    rcases hr with hr | hr
    · have z1 : decide (n < 0) = true := by simpa using hr
      go_wp2_with (fail)
      refine (HLY.out true).mono ?_
      rintro e w2 ⟨rfl, U⟩
      go_wp2_with (fail)
      go_end0
      exact ⟨rfl, by rw [HS.out]; exact U⟩
    · have z1 : decide (n < 0) = false := by simp; omega
      have z2 : decide (255 < n) = true := by simpa using hr
      go_wp2_with (fail)
      refine (HLY.out true).mono ?_
      rintro e w2 ⟨rfl, U⟩
      go_wp2_with (fail)
      go_end0
      exact ⟨rfl, by rw [HS.out]; exact U⟩
  · have z1 : decide (n < 0) = false := by simp; omega
    have z2 : decide (255 < n) = false := by simp; omega
    have hm : n % 256 = n := by omega
    have HS := Lib.hid (show s.byte n = s.lay [n % 256] by unfold WS.byte; rw [if_neg hr, hm])
    go_enter Try.func49, Try.ntmps49
    subst hy
    clear hm hr
    go_wp2_with (fail)
    refine (HLY.out false).mono ?_
    rintro e w2 ⟨rfl, U⟩
    go_wp2_with (fail)
    go_end0
    exact ⟨rfl, by rw [HS.out]; exact U⟩
set_option maxHeartbeats 4000000 in
set_option maxRecDepth 100000 in
theorem refText_any (h : WLies TE w F k s) (hok : s.Ok) {B : Option Addr} {cc : Nat} {ys : List Int} (hy : BSrc w B ys) (h63 : s.bs.length + 10 + ys.length ≤ 140737488355328) :
    Calls Try.prog 51 #[.pointer (some ⟨k, 0, none⟩), .slice B ys.length cc] w fun e w' => e = .returned (.tuple #[]) ∧ UpdW TE F k w w' (s.text ys) := by
  have hn64 : ys.length < 18446744073709551616 := by omega
  have FM := Lib.hid (refForm_any ys.length hn64 w)
  have h10 := formN_len10 hn64
  have H := Lib.hid h
  have HO := Lib.hid hok
  have HY := Lib.hid hy
  obtain ⟨n, hn⟩ : ∃ L, ys.length = L := ⟨_, rfl⟩
  have HN := Lib.hid hn
  have hLb : n ≤ 140737488355328 := by omega
  obtain ⟨fm, hfm⟩ : ∃ f, formN n = f := ⟨_, rfl⟩
  have HFM := Lib.hid hfm
  rw [hn] at FM h10 h63 ⊢
  rw [hfm] at FM h10
  clear h hok hy hn64 hn hfm
  go_enter Try.func51, Try.ntmps51
  go_wp2_with (fail)
  refine FM.out.mono ?_
  rintro e w1 ⟨⟨A, c1, rfl, R⟩, B1⟩
  have HR := Lib.hid R
  have HB1 := Lib.hid B1
  clear R B1
  go_wp2_with (fail)
  refine wp_loop_ghost_k (fun (m : Nat) (ac : Act) (wr : World) => ∃ u2 u3 u6 u7 u8 u9 u10 u11 u12 u13 u14 u15 u16 u17 u18 u19 u20 u21 u22 u23 u24 u25 v4 v5 : Value, (∃ (j : Nat) (A' : Option Addr) (c' : Nat), m + j = n ∧ v5 = .int .i64 j ∧ v4 = .slice A' (fm ++ ys.take j).length c' ∧ GRow bc 5 1 wr w.heap.size A' c' (fm ++ ys.take j) ∧ Below w.heap.size w wr) ∧ ac = ({ tmps := #[.pointer (some ⟨k, 0, none⟩), .slice B n cc, u2, u3, v4, v5, u6, u7, u8, u9, u10, u11, u12, u13, u14, u15, u16, u17, u18, u19, u20, u21, u22, u23, u24, u25], defers := [] } : Act)) (n) ?atStart ?round
  case' atStart => ((repeat apply Exists.intro); refine ⟨?_, rfl⟩)
  case' round => (intro m ac wr hcut; obtain ⟨u2, hcut⟩ := hcut; obtain ⟨u3, hcut⟩ := hcut; obtain ⟨u6, hcut⟩ := hcut; obtain ⟨u7, hcut⟩ := hcut; obtain ⟨u8, hcut⟩ := hcut; obtain ⟨u9, hcut⟩ := hcut; obtain ⟨u10, hcut⟩ := hcut; obtain ⟨u11, hcut⟩ := hcut; obtain ⟨u12, hcut⟩ := hcut; obtain ⟨u13, hcut⟩ := hcut; obtain ⟨u14, hcut⟩ := hcut; obtain ⟨u15, hcut⟩ := hcut; obtain ⟨u16, hcut⟩ := hcut; obtain ⟨u17, hcut⟩ := hcut; obtain ⟨u18, hcut⟩ := hcut; obtain ⟨u19, hcut⟩ := hcut; obtain ⟨u20, hcut⟩ := hcut; obtain ⟨u21, hcut⟩ := hcut; obtain ⟨u22, hcut⟩ := hcut; obtain ⟨u23, hcut⟩ := hcut; obtain ⟨u24, hcut⟩ := hcut; obtain ⟨u25, hcut⟩ := hcut; obtain ⟨v4, hcut⟩ := hcut; obtain ⟨v5, hcut⟩ := hcut; obtain ⟨hcut, hac⟩ := hcut; subst hac; intro _ _ _ _)
  case atStart => exact ⟨0, A, c1, rfl, rfl, by simp, by simpa using HR.out, HB1.out⟩
  case round =>
    obtain ⟨j, A', c', hm, rfl, rfl, G, B⟩ := hcut
    have HM := Lib.hid hm
    have HG := Lib.hid G
    have HB := Lib.hid B
    by_cases hj : j < n
    · have hlw := HN.out
      obtain ⟨y, hy⟩ : ∃ y, ys[j]? = some y := ⟨_, List.getElem?_eq_getElem (by omega)⟩
      have hne : ys ≠ [] := by rintro rfl; simp at hy
      obtain ⟨g, o, hBg, hBA⟩ := HY.out hne
      subst hBg
      have hgl : g < w.heap.size := World.block_lt_of_cell? _ _ (hBA j y hy)
      have y0 : wr.cell? ⟨g, o + j, none⟩ = some (.int .u8 y) := cell_same (hBA j y hy) (B.block g hgl)
      have ll : (fm ++ ys.take j).length = fm.length + j := by rw [List.length_append, List.length_take]; omega
      obtain ⟨A1, c2, w2, hrun, G2, B2, _⟩ := GRow.push elBy HG.out 22 y HB.out HB.out.size (by rw [ll]; simp only [maxLen]; omega) (by rw [ll]; omega)
      have HRUN := Lib.hid hrun
      have HG2 := Lib.hid G2
      have HB2 := Lib.hid B2
      have HTK := Lib.hid (show fm ++ ys.take j ++ [y] = fm ++ ys.take (j + 1) by rw [List.take_add_one, hy, List.append_assoc]; rfl)
      have HLL := Lib.hid ll
      clear hm hy hne hBA hlw G B hrun G2 B2 ll hgl
      go_wp2_with (refine wpList_app HRUN.out rfl rfl rfl (by rfl) (by rfl) ?_)
      go_roundg (m - 1)
      case measure => have := HM.out; omega
      case rel =>
        refine ⟨j + 1, A1, c2, by have := HM.out; omega, by go_num, ?_, ?_, HB2.out⟩
        · rw [← HTK.out]; simp; try omega
        · rw [← HTK.out]; exact HG2.out
    · have hlw := HN.out
      have hjn : ys.take j = ys := List.take_of_length_le (by omega)
      have HLL := Lib.hid (show (fm ++ ys.take j).length = fm.length + n by rw [hjn, List.length_append, hlw])
      have HTX := Lib.hid (show s.text ys = s.lay (fm ++ ys.take j) by unfold WS.text; rw [hjn, hlw, HFM.out])
      have LY := Lib.hid (show Calls Try.prog 69 #[.pointer (some ⟨k, 0, none⟩), .bool false, .slice A' (fm ++ ys.take j).length c'] wr fun e w' => e = .returned (.tuple #[]) ∧ UpdW TE F k w w' (s.lay (fm ++ ys.take j)) from refLay_new H.out HO.out G B (by rw [HLL.out]; omega) false)
      have HJ := Lib.hid hj
      clear hm G B hjn hlw hj
      generalize fm ++ ys.take j = tt at *
      go_wp2_with (fail)
      refine LY.out.mono ?_
      rintro e w4 ⟨rfl, U⟩
      go_wp2_with (fail)
      go_end0
      refine ⟨rfl, ?_⟩
      rw [HTX.out]
      exact U
end
end Go.Proofs.Ytjmmdpnphafdfaa
