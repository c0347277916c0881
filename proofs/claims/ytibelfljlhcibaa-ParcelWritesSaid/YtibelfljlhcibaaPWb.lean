/- Writers: Text. Writers: Text itself. -/
import Derived.Test.YtibelfljlhcibaaPW2
import Derived.Lib.AppendZeros
namespace Go.Proofs.Ytibelfljlhcibaa
set_option linter.unusedVariables false
set_option linter.unusedSimpArgs false
open Go.RowKit Go.Deep Go.Proofs.YtibelfljlhcibaaW.PrintLast

def GrowP (w : World) (n : Nat) (e : Ending) (w' : World) : Prop := ∃ c, e = .returned (.slice (some ⟨w.heap.size, 0, none⟩) 0 c) ∧ OwnB w' w.heap.size c [] ∧ Below w.heap.size w w'
theorem zeros_run (w : World) (n : Nat) (h0 : 0 < n) (hn : n ≤ 140737488355328) : ∃ c w', (Builtin.append_ #[23, 3] 23 #[.slice none 0 0, .int .i64 n]).run Try.prog w = .ok (.slice (some ⟨w.heap.size, 0, none⟩) n c) w' ∧ OwnB w' w.heap.size c [] ∧ Below w.heap.size w w' := by
  have info := infoB
  cases hi : Try.prog.info? 5 with
  | none => rw [hi] at info; cases info
  | some i =>
    rw [hi] at info
    simp only [Option.map_some, Option.some.injEq, Prod.mk.injEq] at info
    obtain ⟨i1, i2, i3⟩ := info
    have hr := Lib.run_append_nil_zeros (P := Try.prog) w 23 3 23 5 i _ .i64 .i64 Try.underlying23 Try.underlying3 hi i1 n h0 (by omega) (by omega) (by rw [i3]; omega)
    have hge := grownCap_ge w n 0 5
    have hcm : grownCap w n 0 5 ≤ maxLen := grownCap_le_maxLen w n 0 _ (by simp only [maxLen]; omega)
    refine ⟨_, _, hr, ⟨Nat.zero_le _, hcm, _, blk_new w.drew _, ?_, fun i x hx => by simp at hx⟩, ((Below.refl _ _).drew).alloc (Nat.le_refl _) _⟩
    simp only [Array.size_append, size_zeroCells, elBy.zs]
    omega
set_option maxRecDepth 100000 in
set_option maxHeartbeats 1000000 in
theorem grow_nil (w : World) (n : Nat) (h0 : 0 < n) (hn : n ≤ 140737488355328) : Calls Try.prog 134 #[.slice none 0 0, .int .i64 n] w (GrowP w n) := by
  obtain ⟨c, w1, hrun, O1, B1⟩ := zeros_run w n h0 hn
  have HRUN := Lib.hid hrun
  have HO := Lib.hid O1
  have HB := Lib.hid B1
  clear hrun O1 B1
  go_enter Try.func134, Try.ntmps134
  go_wp2_with (at_builtin; refine Lib.wpList_append_run _ rfl _ _ _ _ rfl _ _ rfl rfl _ _ HRUN.out ?_)
  go_ret
  exact ⟨c, rfl, HO.out, HB.out⟩
def ConcatP (w : World) (l : List Int) (e : Ending) (w' : World) : Prop := ∃ A c, e = .returned (.slice A l.length c) ∧ RowF bc 5 1 w' (fun b => w.heap.size ≤ b) A c l ∧ Below w.heap.size w w'
set_option maxRecDepth 100000 in
set_option maxHeartbeats 4000000 in
theorem concat2 {w : World} {g c1 c2 : Nat} {A1 A2 : Option Addr} {p q : List Int} (hg : w.heap[g]? = some (.cells #[.slice A1 p.length c1, .slice A2 q.length c2] 23 (0, 0))) (h1 : BSrc w A1 p) (h2 : BSrc w A2 q) (h0 : 0 < p.length) (hn : p.length + q.length ≤ 140737488355328) :
    Calls Try.prog 127 #[.slice (some ⟨g, 0, none⟩) 2 2] w (ConcatP w (p ++ q)) := by
  have G0 := cell_blk hg 0 rfl
  have G1 := cell_blk hg 1 rfl
  have HG := Lib.hid hg
  have H1 := Lib.hid h1
  have H2 := Lib.hid h2
  obtain ⟨P, hP⟩ : ∃ P, P = p.length := ⟨_, rfl⟩
  obtain ⟨Q, hQ⟩ : ∃ Q, Q = q.length := ⟨_, rfl⟩
  rw [← hP, ← hQ] at hn
  rw [← hP] at h0 G0
  rw [← hQ] at G1
  have HP := Lib.hid hP
  have HQ := Lib.hid hQ
  clear hg h1 h2 hP hQ
  go_enter Try.func127, Try.ntmps127
  go_wp2_with (fail)
  refine wp_loop_ghost_k (fun (m : Nat) (ac : Act) (wr : World) => ∃ u1 u2 u4 u5 u6 u7 u8 u12 u13 u14 u15 u16 u17 u18 u19 u20 u21 u22 u23 u24 u25 u26 u27 u28 u29 u30 u31 u32 u33 u34 u35 v3 v11 : Value, (∃ (i n : Nat), m + i = 2 ∧ v11 = .int .i64 i ∧ v3 = .int .i64 n ∧ (i = 0 ∧ n = 0 ∨ i = 1 ∧ n = P ∨ i = 2 ∧ n = P + Q) ∧ w = wr) ∧ ac = ({ tmps := #[.slice (some ⟨g, 0, none⟩) 2 2, u1, u2, v3, u4, u5, u6, u7, u8, .slice (some ⟨g, 0, none⟩) 2 2, .int .i64 2, v11, u12, u13, u14, u15, u16, u17, u18, u19, u20, u21, u22, u23, u24, u25, u26, u27, u28, u29, u30, u31, u32, u33, u34, u35], defers := [] } : Act)) (2) ?atStart ?round
  case' atStart => ((repeat apply Exists.intro); refine ⟨?_, rfl⟩)
  case' round => (intro m ac wr hcut; obtain ⟨u1, hcut⟩ := hcut; obtain ⟨u2, hcut⟩ := hcut; obtain ⟨u4, hcut⟩ := hcut; obtain ⟨u5, hcut⟩ := hcut; obtain ⟨u6, hcut⟩ := hcut; obtain ⟨u7, hcut⟩ := hcut; obtain ⟨u8, hcut⟩ := hcut; obtain ⟨u12, hcut⟩ := hcut; obtain ⟨u13, hcut⟩ := hcut; obtain ⟨u14, hcut⟩ := hcut; obtain ⟨u15, hcut⟩ := hcut; obtain ⟨u16, hcut⟩ := hcut; obtain ⟨u17, hcut⟩ := hcut; obtain ⟨u18, hcut⟩ := hcut; obtain ⟨u19, hcut⟩ := hcut; obtain ⟨u20, hcut⟩ := hcut; obtain ⟨u21, hcut⟩ := hcut; obtain ⟨u22, hcut⟩ := hcut; obtain ⟨u23, hcut⟩ := hcut; obtain ⟨u24, hcut⟩ := hcut; obtain ⟨u25, hcut⟩ := hcut; obtain ⟨u26, hcut⟩ := hcut; obtain ⟨u27, hcut⟩ := hcut; obtain ⟨u28, hcut⟩ := hcut; obtain ⟨u29, hcut⟩ := hcut; obtain ⟨u30, hcut⟩ := hcut; obtain ⟨u31, hcut⟩ := hcut; obtain ⟨u32, hcut⟩ := hcut; obtain ⟨u33, hcut⟩ := hcut; obtain ⟨u34, hcut⟩ := hcut; obtain ⟨u35, hcut⟩ := hcut; obtain ⟨v3, hcut⟩ := hcut; obtain ⟨v11, hcut⟩ := hcut; obtain ⟨hcut, hac⟩ := hcut; subst hac; intro _ _ _ _)
  case atStart => exact ⟨0, 0, rfl, rfl, rfl, Or.inl ⟨rfl, rfl⟩, rfl⟩
  case round =>
    obtain ⟨i, n, hm, rfl, rfl, hin, rfl⟩ := hcut
    have HM := Lib.hid hm
    rcases hin with ⟨rfl, rfl⟩ | ⟨rfl, rfl⟩ | ⟨rfl, hnn⟩
    · clear hm
      go_wp2_with (fail)
      go_roundg (m - 1)
      case measure => have := HM.out; omega
      case rel => exact ⟨1, P, by have := HM.out; omega, by go_num, by go_num, Or.inr (Or.inl ⟨rfl, rfl⟩), rfl⟩
    · clear hm
      go_wp2_with (fail)
      go_roundg (m - 1)
      case measure => have := HM.out; omega
      case rel => exact ⟨2, n + Q, by have := HM.out; omega, by go_num, by go_num, Or.inr (Or.inr ⟨rfl, rfl⟩), rfl⟩
    · clear hm
      have HGN := Lib.hid (grow_nil w n (by omega) (by omega))
      clear hnn
      go_wp2_with (fail)
      refine HGN.out.mono ?_
      rintro e w1 ⟨c, rfl, O1, B1⟩
      have HO := Lib.hid O1
      have HB := Lib.hid B1
      clear O1 B1 HGN
      go_wp2_with (fail)
      refine wp_loop_ghost_k (fun (m2 : Nat) (ac : Act) (wr : World) => ∃ u0 u1 u2 u3 u4 u5 u7 u8 u9 u10 u11 u12 u13 u14 u15 u16 u17 u18 u19 u20 u21 u22 u23 u24 u28 u29 u30 u31 u32 u33 u34 u35 v6 v27 : Value, (∃ (i : Nat) (A : Option Addr) (c : Nat) (xs : List Int), m2 + i = 2 ∧ v27 = .int .i64 i ∧ v6 = .slice A xs.length c ∧ (i = 0 ∧ xs = [] ∨ i = 1 ∧ xs = p ∨ i = 2 ∧ xs = p ++ q) ∧ RowF bc 5 1 wr (fun b => w.heap.size ≤ b) A c xs ∧ Below w.heap.size w wr) ∧ ac = ({ tmps := #[u0, u1, u2, u3, u4, u5, v6, u7, u8, u9, u10, u11, u12, u13, u14, u15, u16, u17, u18, u19, u20, u21, u22, u23, u24, .slice (some ⟨g, 0, none⟩) 2 2, .int .i64 2, v27, u28, u29, u30, u31, u32, u33, u34, u35], defers := [] } : Act)) (2) ?atStart ?round
      case' atStart => ((repeat apply Exists.intro); refine ⟨?_, rfl⟩)
      case' round => (intro m2 ac wr hcut; obtain ⟨u0, hcut⟩ := hcut; obtain ⟨u1, hcut⟩ := hcut; obtain ⟨u2, hcut⟩ := hcut; obtain ⟨u3, hcut⟩ := hcut; obtain ⟨u4, hcut⟩ := hcut; obtain ⟨u5, hcut⟩ := hcut; obtain ⟨u7, hcut⟩ := hcut; obtain ⟨u8, hcut⟩ := hcut; obtain ⟨u9, hcut⟩ := hcut; obtain ⟨u10, hcut⟩ := hcut; obtain ⟨u11, hcut⟩ := hcut; obtain ⟨u12, hcut⟩ := hcut; obtain ⟨u13, hcut⟩ := hcut; obtain ⟨u14, hcut⟩ := hcut; obtain ⟨u15, hcut⟩ := hcut; obtain ⟨u16, hcut⟩ := hcut; obtain ⟨u17, hcut⟩ := hcut; obtain ⟨u18, hcut⟩ := hcut; obtain ⟨u19, hcut⟩ := hcut; obtain ⟨u20, hcut⟩ := hcut; obtain ⟨u21, hcut⟩ := hcut; obtain ⟨u22, hcut⟩ := hcut; obtain ⟨u23, hcut⟩ := hcut; obtain ⟨u24, hcut⟩ := hcut; obtain ⟨u28, hcut⟩ := hcut; obtain ⟨u29, hcut⟩ := hcut; obtain ⟨u30, hcut⟩ := hcut; obtain ⟨u31, hcut⟩ := hcut; obtain ⟨u32, hcut⟩ := hcut; obtain ⟨u33, hcut⟩ := hcut; obtain ⟨u34, hcut⟩ := hcut; obtain ⟨u35, hcut⟩ := hcut; obtain ⟨v6, hcut⟩ := hcut; obtain ⟨v27, hcut⟩ := hcut; obtain ⟨hcut, hac⟩ := hcut; subst hac; intro _ _ _ _)
      case atStart => exact ⟨0, _, c, [], rfl, rfl, rfl, Or.inl ⟨rfl, rfl⟩, Or.inr ⟨_, rfl, Nat.le_refl _, HO.out⟩, HB.out⟩
      case round =>
        obtain ⟨i, A, c', xs, hm2, rfl, rfl, hx, R, B⟩ := hcut
        have HM2 := Lib.hid hm2
        have HR := Lib.hid R
        have HBB := Lib.hid B
        have e0 := cell_below B G0
        have e1 := cell_below B G1
        have hpq := HP.out
        have hqq := HQ.out
        rcases hx with ⟨rfl, hxs⟩ | ⟨rfl, hxs⟩ | ⟨rfl, hxs⟩
        · have hxl : xs.length = 0 := by rw [hxs]; rfl
          rw [hpq] at e0
          obtain ⟨A3, c3, w3, hrun, R3, F3, _⟩ := RowF.append (ys := p) elBy HR.out 23 A1 c1 (BSrc.src (H1.out.below HBB.out)) (by simp only [maxLen]; omega) (by omega)
          have R4 := Lib.hid (R3.mono (G := fun b => w.heap.size ≤ b) fun x hx => by
            rcases hx with hx | hx
            · exact hx
            · have := HBB.out.size; omega)
          have B4 := Lib.hid (HBB.out.trans (F3.toBelow (fun x hx => hx) HBB.out.size))
          have HRUN := Lib.hid hrun
          have HXS := Lib.hid hxs
          clear hrun R3 F3 hpq hqq hxs hxl hm2 R B
          go_wp2_with (have p3 := HRUN; refine wpList_app p3.out rfl rfl rfl (by rfl) (by rfl) ?_; clear p3 HRUN)
          go_roundg (m2 - 1)
          case measure => have := HM2.out; omega
          case rel => exact ⟨1, A3, c3, xs ++ p, by have := HM2.out; omega, by go_num, by simp, Or.inr (Or.inl ⟨rfl, by rw [HXS.out]; rfl⟩), R4.out, B4.out⟩
        · have hxl : xs.length = P := by rw [hxs]; exact hpq.symm
          rw [hqq] at e1
          obtain ⟨A3, c3, w3, hrun, R3, F3, _⟩ := RowF.append (ys := q) elBy HR.out 23 A2 c2 (BSrc.src (H2.out.below HBB.out)) (by simp only [maxLen]; omega) (by omega)
          have R4 := Lib.hid (R3.mono (G := fun b => w.heap.size ≤ b) fun x hx => by
            rcases hx with hx | hx
            · exact hx
            · have := HBB.out.size; omega)
          have B4 := Lib.hid (HBB.out.trans (F3.toBelow (fun x hx => hx) HBB.out.size))
          have HRUN := Lib.hid hrun
          have HXS := Lib.hid hxs
          clear hrun R3 F3 hpq hqq hxs hxl hm2 R B
          go_wp2_with (have p3 := HRUN; refine wpList_app p3.out rfl rfl rfl (by rfl) (by rfl) ?_; clear p3 HRUN)
          go_roundg (m2 - 1)
          case measure => have := HM2.out; omega
          case rel => exact ⟨2, A3, c3, xs ++ q, by have := HM2.out; omega, by go_num, by simp, Or.inr (Or.inr ⟨rfl, by rw [HXS.out]⟩), R4.out, B4.out⟩
        · have HXS := Lib.hid hxs
          clear hxs hpq hqq hm2 R B
          go_wp2_with (fail)
          go_ret
          rw [← HXS.out]
          exact ⟨A, c', rfl, HR.out, HBB.out⟩
end Go.Proofs.Ytibelfljlhcibaa
namespace Go.Proofs.Ytibelfljlhcibaa
set_option linter.unusedVariables false
set_option linter.unusedSimpArgs false
open Go.RowKit Go.Deep Go.Proofs.YtibelfljlhcibaaW.PrintLast

section
variable {w : World} {F : Nat → Prop} {k : Nat} {s : WS}
set_option maxRecDepth 100000 in
set_option maxHeartbeats 2000000 in
theorem wText_any (h : WLies TW w F k s) (hok : s.Ok) {B : Option Addr} {cc : Nat} {ys : List Int} (hy : BSrc w B ys) (h63 : s.bs.length + 10 + ys.length ≤ 140737488355328) :
    Calls Try.prog 89 #[.pointer (some ⟨k, 0, none⟩), .slice B ys.length cc] w fun e w' => e = .returned (.tuple #[]) ∧ UpdW TW F k w w' (s.text ys) := by
  have hn64 : ys.length < 18446744073709551616 := by omega
  have FM := Lib.hid (form_any ys.length hn64 w)
  have h10 := formN_len10 hn64
  have h1 := formN_pos ys.length
  have H := Lib.hid h
  have HO := Lib.hid hok
  have HY := Lib.hid hy
  obtain ⟨L, hL⟩ : ∃ L, L = ys.length := ⟨_, rfl⟩
  have HL := Lib.hid hL
  have hLb : L ≤ 140737488355328 := by omega
  obtain ⟨fm, hfm⟩ : ∃ f, f = formN ys.length := ⟨_, rfl⟩
  rw [← hfm] at FM h10 h1
  have HFM := Lib.hid hfm
  rw [← hL] at FM h63 ⊢
  clear h hok hy hn64 hL hfm
  go_enter Try.func89, Try.ntmps89
  go_wp2_with (fail)
  refine FM.out.mono ?_
  rintro e w1 ⟨g, c1, rfl, hg, O, B1⟩
  have BK := blk_new w1 (.cells #[.slice (some ⟨g, 0, none⟩) fm.length c1, .slice B L cc] 23)
  have B2 : Below w1.heap.size w1 (w1.alloc (.cells #[.slice (some ⟨g, 0, none⟩) fm.length c1, .slice B L cc] 23)) := (Below.refl _ _).alloc (Nat.le_refl _) _
  have BK' := BK
  rw [HL.out] at BK'
  have CC := concat2 (p := fm) (q := ys) BK' ((BSrc.ofOwn O).below (by rw [← HL.out]; exact B2)) (((HY.out.below B1)).below (by rw [← HL.out]; exact B2)) h1 (by rw [← HL.out]; omega)
  rw [← HL.out] at CC
  obtain ⟨tt, htt⟩ : ∃ tt, tt = fm ++ ys := ⟨_, rfl⟩
  rw [← htt] at CC
  have htl : tt.length = fm.length + L := by rw [htt, List.length_append, HL.out]
  have HTT := Lib.hid htt
  have HC := Lib.hid CC
  have HB2 := Lib.hid (B1.trans (B2.mono B1.size))
  have HTL := Lib.hid htl
  clear O B1 BK BK' B2 CC htt htl
  go_wp2_with (fail)
  refine HC.out.mono ?_
  rintro e w3 ⟨A3, c3, rfl, R3, B3⟩
  have HB3 := Lib.hid (HB2.out.trans (B3.mono HB2.out.size))
  have LY := lay_any (H.out.below HB3.out) HO.out.room0 HO.out.room1 HO.out.fit (cc := c3) (BSrc.ofRow R3) (by rw [HTL.out]; omega)
  have HLY := Lib.hid LY
  clear R3 B3 LY HC
  go_wp2_with (fail)
  refine HLY.out.mono ?_
  rintro e w4 ⟨rfl, U⟩
  go_wp2_with (fail)
  go_end0
  refine ⟨rfl, ?_⟩
  have e1 : s.text ys = s.lay tt := by unfold WS.text; rw [HTT.out, HFM.out]
  rw [e1]
  exact UpdW.after HB3.out U
end
end Go.Proofs.Ytibelfljlhcibaa
