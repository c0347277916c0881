/- The contract of the world's round. -/
import Derived.Test.YtecdmbcdkfjgfaaV4
import Derived.Test.YtecdmbcdkfjgfaaP6
namespace Go.Proofs.Ytecdmbcdkfjgfaa
set_option linter.unusedVariables false
set_option linter.unusedSimpArgs false
open Go.RowKit Go.Deep Go.Proofs.YtecdmbcdkfjgfaaW.PrintLast

def Rounded (I : Nat → Wd → List Ml → Prop) (w w' : World) (b g c s : Nat) : Prop := ∃ j V s' sv', I j V [] ∧ (s' = s ∨ w.heap.size ≤ s') ∧ Rep w' b g c s' sv' V ∧ Frm b g s w w'
theorem Rep.slice {w : World} {b g c s : Nat} {sv : Value} {W : Wd} (h : Rep w b g c s sv W) : ∃ A cs, sv = .slice A W.sent.length cs := by
  rcases h.snt with ⟨rfl, h1, _⟩ | ⟨cs, rfl, _⟩
  · rw [h1]; exact ⟨none, 0, rfl⟩
  · exact ⟨_, cs, rfl⟩
theorem Rep.msg {w : World} {b g c s cs : Nat} {A : Option Addr} {W : Wd} (h : Rep w b g c s (.slice A W.sent.length cs) W) {k : Nat} (hk : k < W.sent.length) :
    A = some ⟨s, 0, none⟩ ∧ w.cell? ⟨s, k * 4, none⟩ = some (.int .i64 W.sent[k].kd) ∧ w.cell? ⟨s, k * 4 + 1, none⟩ = some (.int .i64 W.sent[k].ep) ∧ w.cell? ⟨s, k * 4 + 2, none⟩ = some (.int .i64 W.sent[k].fr) ∧ w.cell? ⟨s, k * 4 + 3, none⟩ = some (.int .i64 W.sent[k].tt) := by
  rcases h.snt with ⟨h0, h1, _⟩ | ⟨cs', h0, h1, h2, hO⟩
  · rw [h1] at hk; simp at hk
  · injection h0 with h3
    have c0 := hO.cell (List.getElem?_eq_getElem hk) (j := 0) rfl
    rw [Nat.add_zero] at c0
    exact ⟨h3, c0, hO.cell (List.getElem?_eq_getElem hk) (j := 1) rfl, hO.cell (List.getElem?_eq_getElem hk) (j := 2) rfl, hO.cell (List.getElem?_eq_getElem hk) (j := 3) rfl⟩
set_option maxRecDepth 100000 in
set_option maxHeartbeats 4000000 in
theorem round_any {w : World} {b g c s : Nat} {sv : Value} {W : Wd} (R : Rep w b g c s sv W) (hn8 : W.row.length ≤ 8) (hroom : (W.sent.length + 64) * 32 ≤ 140737488355328) (I : Nat → Wd → List Ml → Prop)
    (h0 : I 0 (nagsW W W.row.length) (nagsR W.row W.row.length))
    (hstep : ∀ j V m p, I j V (m :: p) → j < 64 ∧ hearW V m false = (hearS V m false, true) ∧ ∃ rs, (hearS V m false).sent = V.sent ++ rs ∧ I (j + 1) (hearS V m false) (p ++ rs))
    (hbound : ∀ j V p, I j V p → V.sent.length ≤ W.sent.length + 40) :
    Calls Try.prog 24 #[.pointer (some ⟨b, 0, none⟩)] w fun e w' => e = .returned (.bool true) ∧ Rounded I w w' b g c s := by
  obtain ⟨A, cs, rfl⟩ := R.slice
  have HR := Lib.hid R
  have HS := Lib.hid hstep
  have HB := Lib.hid hbound
  have H0 := Lib.hid h0
  have HM := Lib.hid hroom
  have e0 := R.c0
  have e1 := R.c1
  clear R hstep hbound h0
  have hS : W.sent.length ≤ 5000000000000 := by omega
  clear hroom
  go_enter Try.func24, Try.ntmps24
  go_upto_region 3 with (fail)
  refine wp_loop_ghost_k (fun (m : Nat) (ac : Act) (wr : World) => ∃ u1 u2 u5 u6 u7 u8 u9 u10 u11 u12 u13 u14 u15 u16 u17 u18 u19 u20 u21 u22 u23 u24 u25 u26 u27 u28 u29 u30 u31 u32 u33 u34 u35 u36 u37 u38 u39 u40 u41 u42 u43 u44 u45 u46 u47 u48 v4 : Value, (∃ i : Nat, m + i = W.row.length ∧ v4 = .int .i64 i ∧ ∃ s' sv', (s' = s ∨ w.heap.size ≤ s') ∧ Rep wr b g c s' sv' (nagsW W i) ∧ Frm b g s w wr) ∧ ac = ({ tmps := #[.pointer (some ⟨b, 0, none⟩), u1, u2, .int .i64 (W.sent.length : Int), v4, u5, u6, u7, u8, u9, u10, u11, u12, u13, u14, u15, u16, u17, u18, u19, u20, u21, u22, u23, u24, u25, u26, u27, u28, u29, u30, u31, u32, u33, u34, u35, u36, u37, u38, u39, u40, u41, u42, u43, u44, u45, u46, u47, u48], defers := [] } : Act)) (W.row.length) ?atStart ?round
  case' atStart => ((repeat apply Exists.intro); refine ⟨?_, rfl⟩)
  case' round => (intro m ac wr hcut; obtain ⟨u1, hcut⟩ := hcut; obtain ⟨u2, hcut⟩ := hcut; obtain ⟨u5, hcut⟩ := hcut; obtain ⟨u6, hcut⟩ := hcut; obtain ⟨u7, hcut⟩ := hcut; obtain ⟨u8, hcut⟩ := hcut; obtain ⟨u9, hcut⟩ := hcut; obtain ⟨u10, hcut⟩ := hcut; obtain ⟨u11, hcut⟩ := hcut; obtain ⟨u12, hcut⟩ := hcut; obtain ⟨u13, hcut⟩ := hcut; obtain ⟨u14, hcut⟩ := hcut; obtain ⟨u15, hcut⟩ := hcut; obtain ⟨u16, hcut⟩ := hcut; obtain ⟨u17, hcut⟩ := hcut; obtain ⟨u18, hcut⟩ := hcut; obtain ⟨u19, hcut⟩ := hcut; obtain ⟨u20, hcut⟩ := hcut; obtain ⟨u21, hcut⟩ := hcut; obtain ⟨u22, hcut⟩ := hcut; obtain ⟨u23, hcut⟩ := hcut; obtain ⟨u24, hcut⟩ := hcut; obtain ⟨u25, hcut⟩ := hcut; obtain ⟨u26, hcut⟩ := hcut; obtain ⟨u27, hcut⟩ := hcut; obtain ⟨u28, hcut⟩ := hcut; obtain ⟨u29, hcut⟩ := hcut; obtain ⟨u30, hcut⟩ := hcut; obtain ⟨u31, hcut⟩ := hcut; obtain ⟨u32, hcut⟩ := hcut; obtain ⟨u33, hcut⟩ := hcut; obtain ⟨u34, hcut⟩ := hcut; obtain ⟨u35, hcut⟩ := hcut; obtain ⟨u36, hcut⟩ := hcut; obtain ⟨u37, hcut⟩ := hcut; obtain ⟨u38, hcut⟩ := hcut; obtain ⟨u39, hcut⟩ := hcut; obtain ⟨u40, hcut⟩ := hcut; obtain ⟨u41, hcut⟩ := hcut; obtain ⟨u42, hcut⟩ := hcut; obtain ⟨u43, hcut⟩ := hcut; obtain ⟨u44, hcut⟩ := hcut; obtain ⟨u45, hcut⟩ := hcut; obtain ⟨u46, hcut⟩ := hcut; obtain ⟨u47, hcut⟩ := hcut; obtain ⟨u48, hcut⟩ := hcut; obtain ⟨v4, hcut⟩ := hcut; obtain ⟨hcut, hac⟩ := hcut; subst hac; intro _ _ _ _)
  case atStart => exact ⟨0, rfl, rfl, s, _, Or.inl rfl, HR.out, Frm.refl _ _ _ _⟩
  case round =>
    obtain ⟨i, hi, rfl, s', sv', hs', R', F'⟩ := hcut
    have hile : i ≤ W.row.length := by omega
    have hrow : (nagsW W i).row = W.row := by rw [nagsW_eq]
    have hsl : (nagsW W i).sent.length ≤ W.sent.length + 8 := by
      have := nagsR_len W.row i
      rw [nagsW_eq, List.length_append]; omega
    have HI := Lib.hid hi
    replace e0 := R'.c0
    rw [hrow] at e0
    clear e1
    by_cases hlt : i < W.row.length
    · have NG := Lib.hid (wnag_any R' (i := i) (by rw [hrow]; exact hlt) (by have := HM.out; omega))
      have HF := Lib.hid F'
      have HS' := Lib.hid hs'
      clear hi R' F' hs' hsl hrow
      have q0 : (0 : Int) ≤ (i : Int) := by omega
      have q1 : (i : Int) < (W.row.length : Int) := by omega
      go_wp2_with (go_at_call 45; refine NG.out.mono ?_; rintro e w2 ⟨rfl, s2, sv2, hs2, R2, F2⟩)
      go_roundg (m - 1)
      case measure => have := HI.out; omega
      case rel =>
        refine ⟨i + 1, by have := HI.out; omega, by go_num, s2, sv2, ?_, R2, HF.out.trans F2 HS'.out⟩
        have := HF.out.size
        have := HS'.out
        omega
    · have : i = W.row.length := by omega
      subst this
      have HR1 := Lib.hid R'
      have HF := Lib.hid F'
      have HS' := Lib.hid hs'
      clear hlt hile HI hrow hsl hi R' F' hs'
      go_upto_region 7 with (fail)
      clear e0
      refine wp_loop_ghost_k (fun (m : Nat) (ac : Act) (wr : World) => ∃ u1 u2 u4 u6 u7 u8 u9 u10 u11 u12 u13 u14 u15 u16 u17 u18 u19 u20 u21 u22 u23 u24 u25 u26 u27 u28 u29 u30 u31 u32 u33 u34 u35 u36 u37 u38 u39 u40 u41 u42 u43 u44 u45 u46 u47 u48 v5 : Value, (∃ (j K : Nat) (V : Wd) (p pre : List Ml), m + j = 65 ∧ K = W.sent.length + j ∧ v5 = .int .i64 K ∧ I j V p ∧ V.sent = pre ++ p ∧ pre.length = K ∧ ∃ s' sv', (s' = s ∨ w.heap.size ≤ s') ∧ Rep wr b g c s' sv' V ∧ Frm b g s w wr) ∧ ac = ({ tmps := #[.pointer (some ⟨b, 0, none⟩), u1, u2, .int .i64 (W.sent.length : Int), u4, v5, u6, u7, u8, u9, u10, u11, u12, u13, u14, u15, u16, u17, u18, u19, u20, u21, u22, u23, u24, u25, u26, u27, u28, u29, u30, u31, u32, u33, u34, u35, u36, u37, u38, u39, u40, u41, u42, u43, u44, u45, u46, u47, u48], defers := [] } : Act)) (65) ?atStart ?round
      case' atStart => ((repeat apply Exists.intro); refine ⟨?_, rfl⟩)
      case' round => (intro m ac wr hcut; obtain ⟨u1, hcut⟩ := hcut; obtain ⟨u2, hcut⟩ := hcut; obtain ⟨u4, hcut⟩ := hcut; obtain ⟨u6, hcut⟩ := hcut; obtain ⟨u7, hcut⟩ := hcut; obtain ⟨u8, hcut⟩ := hcut; obtain ⟨u9, hcut⟩ := hcut; obtain ⟨u10, hcut⟩ := hcut; obtain ⟨u11, hcut⟩ := hcut; obtain ⟨u12, hcut⟩ := hcut; obtain ⟨u13, hcut⟩ := hcut; obtain ⟨u14, hcut⟩ := hcut; obtain ⟨u15, hcut⟩ := hcut; obtain ⟨u16, hcut⟩ := hcut; obtain ⟨u17, hcut⟩ := hcut; obtain ⟨u18, hcut⟩ := hcut; obtain ⟨u19, hcut⟩ := hcut; obtain ⟨u20, hcut⟩ := hcut; obtain ⟨u21, hcut⟩ := hcut; obtain ⟨u22, hcut⟩ := hcut; obtain ⟨u23, hcut⟩ := hcut; obtain ⟨u24, hcut⟩ := hcut; obtain ⟨u25, hcut⟩ := hcut; obtain ⟨u26, hcut⟩ := hcut; obtain ⟨u27, hcut⟩ := hcut; obtain ⟨u28, hcut⟩ := hcut; obtain ⟨u29, hcut⟩ := hcut; obtain ⟨u30, hcut⟩ := hcut; obtain ⟨u31, hcut⟩ := hcut; obtain ⟨u32, hcut⟩ := hcut; obtain ⟨u33, hcut⟩ := hcut; obtain ⟨u34, hcut⟩ := hcut; obtain ⟨u35, hcut⟩ := hcut; obtain ⟨u36, hcut⟩ := hcut; obtain ⟨u37, hcut⟩ := hcut; obtain ⟨u38, hcut⟩ := hcut; obtain ⟨u39, hcut⟩ := hcut; obtain ⟨u40, hcut⟩ := hcut; obtain ⟨u41, hcut⟩ := hcut; obtain ⟨u42, hcut⟩ := hcut; obtain ⟨u43, hcut⟩ := hcut; obtain ⟨u44, hcut⟩ := hcut; obtain ⟨u45, hcut⟩ := hcut; obtain ⟨u46, hcut⟩ := hcut; obtain ⟨u47, hcut⟩ := hcut; obtain ⟨u48, hcut⟩ := hcut; obtain ⟨v5, hcut⟩ := hcut; obtain ⟨hcut, hac⟩ := hcut; subst hac; intro _ _ _ _)
      case atStart => exact ⟨0, W.sent.length, _, _, W.sent, rfl, rfl, rfl, H0.out, by rw [nagsW_eq], rfl, _, _, HS'.out, HR1.out, HF.out⟩
      case round =>
        obtain ⟨j, K, V, p, pre, hj, hK, rfl, hI, hsent, hpre, s2, sv2, hs2, R2, F2⟩ := hcut
        obtain ⟨A2, cs2, rfl⟩ := R2.slice
        have hVl := HB.out j V p hI
        have hlen : V.sent.length = K + p.length := by rw [hsent, List.length_append, hpre]
        have HF2 := Lib.hid F2
        have HS2 := Lib.hid hs2
        have HJ := Lib.hid hj
        have HII := Lib.hid hI
        have HSE := Lib.hid hsent
        have HPRE := Lib.hid hpre
        have e1 := R2.c1
        clear F2 hs2 hI hpre HF HS' HR1
        cases p with
        | nil =>
          have hl0 : V.sent.length = K := by simpa using hlen
          rw [hl0] at e1
          have HR2 := Lib.hid R2
          clear R2 hsent hlen hVl hl0
          go_wp2_with (fail)
          go_ret
          exact ⟨rfl, j, V, s2, _, HII.out, HS2.out, HR2.out, HF2.out⟩
        | cons mm p =>
          obtain ⟨hj64, hW, rs, hrs, hI'⟩ := HS.out j V mm p HII.out
          have hKl : K < V.sent.length := by rw [hlen]; simp
          obtain ⟨hA2, x0, x1, x2, x3⟩ := R2.msg hKl
          have hget : V.sent[K] = mm := by
            have h1 : V.sent[K]? = some mm := by rw [hsent, List.getElem?_append_right (by have := HPRE.out; omega)]; simp [HPRE.out]
            rw [List.getElem?_eq_getElem hKl] at h1
            exact Option.some.inj h1
          rw [hget] at x0 x1 x2 x3
          subst hA2
          obtain ⟨kd, e, f, t⟩ := mm
          simp only at x0 x1 x2 x3
          have HE := Lib.hid (whear_any R2 kd e f t false (by have := HM.out; omega))
          rw [hW] at HE
          have HIN := Lib.hid hI'
          have HRS := Lib.hid hrs
          have HR2 := Lib.hid R2
          have HL := Lib.hid hlen
          have q0 : (0 : Int) ≤ (K : Int) := by omega
          have q1 : (K : Int) < (V.sent.length : Int) := by omega
          have q2 : (K : Int) ≤ (W.sent.length : Int) + 64 := by omega
          have q3 : K ≤ W.sent.length + 64 := by omega
          have HKK := Lib.hid hK
          have HJ64 := Lib.hid hj64
          clear hW hI' hrs R2 hget hsent hlen hVl hj hK hj64
          generalize hearS V ⟨kd, e, f, t⟩ false = V' at *
          simp only at HE
          go_wp2_with (go_at_call 46; refine HE.out.mono ?_; rintro e w2 ⟨rfl, s3, sv3, hs3, R3, F3⟩)
          go_roundg (m - 1)
          case measure => have := HJ.out; have := HJ64.out; omega
          case rel =>
            refine ⟨j + 1, K + 1, V', p ++ rs, pre ++ [⟨kd, e, f, t⟩], by have := HJ.out; have := HJ64.out; omega, by have := HKK.out; omega, by go_num, HIN.out, ?_, by simp [HPRE.out], s3, sv3, ?_, R3, HF2.out.trans F3 HS2.out⟩
            · rw [HRS.out, HSE.out]; simp
            · have := HF2.out.size
              have := HS2.out
              omega
end Go.Proofs.Ytecdmbcdkfjgfaa
