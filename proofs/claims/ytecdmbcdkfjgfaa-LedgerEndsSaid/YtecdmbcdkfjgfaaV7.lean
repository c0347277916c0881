/- The contracts of keyOf and one. -/
import Derived.Test.YtecdmbcdkfjgfaaV6
import Derived.Test.YtecdmbcdkfjgfaaP5
namespace Go.Proofs.Ytecdmbcdkfjgfaa
set_option linter.unusedVariables false
set_option linter.unusedSimpArgs false
open Go.RowKit Go.Deep Go.Proofs.YtecdmbcdkfjgfaaW.PrintLast

set_option maxHeartbeats 1000000 in
theorem keyOf_any (ph ep pe : Int) (h0 : 0 ≤ ep) (h1 : ep ≤ 1073741824) (w : World) :
    Calls Try.prog 47 #[.agg #[.int .i64 ph, .int .i64 ep, .int .i64 pe]] w fun e w' => e = .returned (.int .i64 (keyI ⟨ph, ep, pe⟩)) ∧ Below w.heap.size w w' := by
  have w1 : RowKit.wrap64 (2 * ep) = 2 * ep := IntWalk.wrap64_in _ (by omega)
  have w2 : RowKit.wrap64 (2 * ep + 1) = 2 * ep + 1 := IntWalk.wrap64_in _ (by omega)
  obtain ⟨t, ht⟩ := named (ph == 1)
  go_enter Try.func47, Try.ntmps47
  go_wp2
  all_goals
    go_ret
    refine ⟨ret_i ?_, (Below.refl _ _).alloc (Nat.le_refl _) _⟩
    unfold keyI
    simp_all
theorem ne_of_beq {a b : Int} (h : (a == b) = false) : ¬ a = b := by simpa using h
theorem lg_row {row : List Lg} {i : Nat} (h : i < row.length) : lgAt row i = row[i] := by
  unfold lgAt
  rw [List.getD_eq_getElem?_getD, Int.toNat_natCast, List.getElem?_eq_getElem h]; rfl
theorem vl_ok {n i : Int} {l : Lg} (h8 : n ≤ 8) (v : Vl n i l) : l.ok := by
  unfold Vl at v
  have hm : IntKind.i64.min = -9223372036854775808 := by decide
  have hx : IntKind.i64.max = 9223372036854775807 := by decide
  refine ⟨?_, ?_, ?_⟩ <;> (simp only [in64, Lit.wf, Bool.and_eq_true, decide_eq_true_eq]; omega)
theorem Rep.elems {w : World} {b g c s : Nat} {sv : Value} {W : Wd} (R : Rep w b g c s sv W) {E H : Int} {O : Int → Int → Int → Prop} (k : Core W.row.length (at0 W.row) E H O) : RdLg.elems w (some ⟨g, 0, none⟩) W.row :=
  Own.elems R.row (Nat.le_refl _) (fun _ _ => rfl) (fun l hl => by
    obtain ⟨i, hi, rfl⟩ := List.getElem_of_mem hl
    have v := k.val i (by omega) (by omega)
    rw [at0_nat _ _ hi] at v
    exact vl_ok k.n8 v)
set_option maxRecDepth 100000 in
set_option maxHeartbeats 8000000 in
theorem one_any {w : World} {b g c s : Nat} {sv : Value} {W : Wd} (R : Rep w b g c s sv W) {E H : Int} {O : Int → Int → Int → Prop} (k : Core W.row.length (at0 W.row) E H O) :
    Calls Try.prog 25 #[.pointer (some ⟨b, 0, none⟩)] w fun e w' => e = .returned (.bool true) ∧ Below w.heap.size w w' := by
  have HR := Lib.hid R
  have HK := Lib.hid k
  have hn8 : W.row.length ≤ 8 := by have := k.n8; omega
  have e0 := R.c0
  clear R k
  go_enter Try.func25, Try.ntmps25
  go_upto_region 3 with (fail)
  refine wp_loop_ghost_k (fun (m : Nat) (ac : Act) (wr : World) => ∃ u1 u2 u7 u8 u9 u10 u11 u12 u13 u14 u15 u16 u17 u18 u19 u20 u21 u22 u23 u24 u25 u26 u27 u28 u29 u30 u31 u32 u33 u34 u35 u36 u37 u38 u39 u40 u41 u42 u43 u44 u45 u46 u47 u48 u49 u50 u51 u52 u53 u54 u55 u56 u57 u58 u59 u60 u61 u62 u63 u64 u65 u66 u67 u68 u69 u70 u71 u72 u73 u74 u75 u76 u77 u78 u79 u80 u81 u82 u83 u84 u85 u86 u87 u88 u89 u90 u91 u92 u93 u94 u95 u96 u97 u98 u99 u100 u101 u102 u103 u104 u105 u106 u107 u108 u109 u110 u111 u112 u113 u114 u115 u116 u117 v3 v4 v5 v6 : Value, (∃ i : Nat, m + i = W.row.length ∧ v6 = .int .i64 i ∧ v3 = .int .i64 (oneSt W.row i).1 ∧ v4 = .int .i64 (oneSt W.row i).2.1 ∧ v5 = .int .i64 (oneSt W.row i).2.2 ∧ Below w.heap.size w wr) ∧ ac = ({ tmps := #[.pointer (some ⟨b, 0, none⟩), u1, u2, v3, v4, v5, v6, u7, u8, u9, u10, u11, u12, u13, u14, u15, u16, u17, u18, u19, u20, u21, u22, u23, u24, u25, u26, u27, u28, u29, u30, u31, u32, u33, u34, u35, u36, u37, u38, u39, u40, u41, u42, u43, u44, u45, u46, u47, u48, u49, u50, u51, u52, u53, u54, u55, u56, u57, u58, u59, u60, u61, u62, u63, u64, u65, u66, u67, u68, u69, u70, u71, u72, u73, u74, u75, u76, u77, u78, u79, u80, u81, u82, u83, u84, u85, u86, u87, u88, u89, u90, u91, u92, u93, u94, u95, u96, u97, u98, u99, u100, u101, u102, u103, u104, u105, u106, u107, u108, u109, u110, u111, u112, u113, u114, u115, u116, u117], defers := [] } : Act)) (W.row.length) ?atStart ?round
  case' atStart => ((repeat apply Exists.intro); refine ⟨?_, rfl⟩)
  case' round => (intro m ac wr hcut; obtain ⟨u1, hcut⟩ := hcut; obtain ⟨u2, hcut⟩ := hcut; obtain ⟨u7, hcut⟩ := hcut; obtain ⟨u8, hcut⟩ := hcut; obtain ⟨u9, hcut⟩ := hcut; obtain ⟨u10, hcut⟩ := hcut; obtain ⟨u11, hcut⟩ := hcut; obtain ⟨u12, hcut⟩ := hcut; obtain ⟨u13, hcut⟩ := hcut; obtain ⟨u14, hcut⟩ := hcut; obtain ⟨u15, hcut⟩ := hcut; obtain ⟨u16, hcut⟩ := hcut; obtain ⟨u17, hcut⟩ := hcut; obtain ⟨u18, hcut⟩ := hcut; obtain ⟨u19, hcut⟩ := hcut; obtain ⟨u20, hcut⟩ := hcut; obtain ⟨u21, hcut⟩ := hcut; obtain ⟨u22, hcut⟩ := hcut; obtain ⟨u23, hcut⟩ := hcut; obtain ⟨u24, hcut⟩ := hcut; obtain ⟨u25, hcut⟩ := hcut; obtain ⟨u26, hcut⟩ := hcut; obtain ⟨u27, hcut⟩ := hcut; obtain ⟨u28, hcut⟩ := hcut; obtain ⟨u29, hcut⟩ := hcut; obtain ⟨u30, hcut⟩ := hcut; obtain ⟨u31, hcut⟩ := hcut; obtain ⟨u32, hcut⟩ := hcut; obtain ⟨u33, hcut⟩ := hcut; obtain ⟨u34, hcut⟩ := hcut; obtain ⟨u35, hcut⟩ := hcut; obtain ⟨u36, hcut⟩ := hcut; obtain ⟨u37, hcut⟩ := hcut; obtain ⟨u38, hcut⟩ := hcut; obtain ⟨u39, hcut⟩ := hcut; obtain ⟨u40, hcut⟩ := hcut; obtain ⟨u41, hcut⟩ := hcut; obtain ⟨u42, hcut⟩ := hcut; obtain ⟨u43, hcut⟩ := hcut; obtain ⟨u44, hcut⟩ := hcut; obtain ⟨u45, hcut⟩ := hcut; obtain ⟨u46, hcut⟩ := hcut; obtain ⟨u47, hcut⟩ := hcut; obtain ⟨u48, hcut⟩ := hcut; obtain ⟨u49, hcut⟩ := hcut; obtain ⟨u50, hcut⟩ := hcut; obtain ⟨u51, hcut⟩ := hcut; obtain ⟨u52, hcut⟩ := hcut; obtain ⟨u53, hcut⟩ := hcut; obtain ⟨u54, hcut⟩ := hcut; obtain ⟨u55, hcut⟩ := hcut; obtain ⟨u56, hcut⟩ := hcut; obtain ⟨u57, hcut⟩ := hcut; obtain ⟨u58, hcut⟩ := hcut; obtain ⟨u59, hcut⟩ := hcut; obtain ⟨u60, hcut⟩ := hcut; obtain ⟨u61, hcut⟩ := hcut; obtain ⟨u62, hcut⟩ := hcut; obtain ⟨u63, hcut⟩ := hcut; obtain ⟨u64, hcut⟩ := hcut; obtain ⟨u65, hcut⟩ := hcut; obtain ⟨u66, hcut⟩ := hcut; obtain ⟨u67, hcut⟩ := hcut; obtain ⟨u68, hcut⟩ := hcut; obtain ⟨u69, hcut⟩ := hcut; obtain ⟨u70, hcut⟩ := hcut; obtain ⟨u71, hcut⟩ := hcut; obtain ⟨u72, hcut⟩ := hcut; obtain ⟨u73, hcut⟩ := hcut; obtain ⟨u74, hcut⟩ := hcut; obtain ⟨u75, hcut⟩ := hcut; obtain ⟨u76, hcut⟩ := hcut; obtain ⟨u77, hcut⟩ := hcut; obtain ⟨u78, hcut⟩ := hcut; obtain ⟨u79, hcut⟩ := hcut; obtain ⟨u80, hcut⟩ := hcut; obtain ⟨u81, hcut⟩ := hcut; obtain ⟨u82, hcut⟩ := hcut; obtain ⟨u83, hcut⟩ := hcut; obtain ⟨u84, hcut⟩ := hcut; obtain ⟨u85, hcut⟩ := hcut; obtain ⟨u86, hcut⟩ := hcut; obtain ⟨u87, hcut⟩ := hcut; obtain ⟨u88, hcut⟩ := hcut; obtain ⟨u89, hcut⟩ := hcut; obtain ⟨u90, hcut⟩ := hcut; obtain ⟨u91, hcut⟩ := hcut; obtain ⟨u92, hcut⟩ := hcut; obtain ⟨u93, hcut⟩ := hcut; obtain ⟨u94, hcut⟩ := hcut; obtain ⟨u95, hcut⟩ := hcut; obtain ⟨u96, hcut⟩ := hcut; obtain ⟨u97, hcut⟩ := hcut; obtain ⟨u98, hcut⟩ := hcut; obtain ⟨u99, hcut⟩ := hcut; obtain ⟨u100, hcut⟩ := hcut; obtain ⟨u101, hcut⟩ := hcut; obtain ⟨u102, hcut⟩ := hcut; obtain ⟨u103, hcut⟩ := hcut; obtain ⟨u104, hcut⟩ := hcut; obtain ⟨u105, hcut⟩ := hcut; obtain ⟨u106, hcut⟩ := hcut; obtain ⟨u107, hcut⟩ := hcut; obtain ⟨u108, hcut⟩ := hcut; obtain ⟨u109, hcut⟩ := hcut; obtain ⟨u110, hcut⟩ := hcut; obtain ⟨u111, hcut⟩ := hcut; obtain ⟨u112, hcut⟩ := hcut; obtain ⟨u113, hcut⟩ := hcut; obtain ⟨u114, hcut⟩ := hcut; obtain ⟨u115, hcut⟩ := hcut; obtain ⟨u116, hcut⟩ := hcut; obtain ⟨u117, hcut⟩ := hcut; obtain ⟨v3, hcut⟩ := hcut; obtain ⟨v4, hcut⟩ := hcut; obtain ⟨v5, hcut⟩ := hcut; obtain ⟨v6, hcut⟩ := hcut; obtain ⟨hcut, hac⟩ := hcut; subst hac; intro _ _ _ _)
  case atStart => exact ⟨0, rfl, rfl, rfl, rfl, rfl, Below.refl _ _⟩
  case round =>
    obtain ⟨i, hi, rfl, rfl, rfl, rfl, hB⟩ := hcut
    have hile : i ≤ W.row.length := by omega
    have sp := oneSt_spec HK.out i hile
    have HI := Lib.hid hi
    have KB := Lib.hid hB
    replace e0 := (HR.out.below hB).c0
    clear hi hB
    by_cases hlt : i < W.row.length
    · have hst : Hid (oneSt W.row (i + 1) = oneStep W.row (oneSt W.row i) i) := rfl
      generalize oneSt W.row i = st at *
      obtain ⟨best, ties, owners⟩ := st
      simp only at sp
      obtain ⟨⟨a1, a2⟩, ⟨a3, a4⟩, ⟨a5, a6⟩, _, _⟩ := sp
      have RX := HR.out.below KB.out
      have d0 := RX.row.cell (List.getElem?_eq_getElem hlt) (j := 0) rfl
      have d1 := RX.row.cell (List.getElem?_eq_getElem hlt) (j := 1) rfl
      have d2 := RX.row.cell (List.getElem?_eq_getElem hlt) (j := 2) rfl
      rw [Nat.add_zero] at d0
      have v := HK.out.val i (by omega) (by omega)
      rw [at0_nat _ _ hlt] at v
      have hv := valid_of HK.out.n8 (by omega) (by omega) v
      have hll := lg_row hlt
      generalize W.row[i] = l at *
      obtain ⟨ph, ep, pe⟩ := l
      simp only at d0 d1 d2 hv
      have hep : 0 ≤ ep ∧ ep ≤ 1073741824 := by unfold Vl at v; simp only at v; omega
      have HL := Lib.hid hll
      have VA := Lib.hid (fun w => valid_any i ph ep pe w)
      rw [hv] at VA
      clear RX v hll hv
      have q0 : (0 : Int) ≤ (i : Int) := by omega
      have q1 : (i : Int) < (W.row.length : Int) := by omega
      have G1 : Hid (RowKit.wrap64 (2 * ep) = 2 * ep) := IntWalk.wrap64_in _ (by omega)
      have G2 : Hid (RowKit.wrap64 (2 * ep + 1) = 2 * ep + 1) := IntWalk.wrap64_in _ (by omega)
      dsimp only
      by_cases hph : ph ≠ 1 ∧ ph ≠ 2 ∧ ph ≠ 3
      · have p1 : (ph != 1) = true := by simp [hph]
        have p2 : (ph != 2) = true := by simp [hph]
        have p3 : (ph != 3) = true := by simp [hph]
        have hS : Hid (oneSt W.row (i + 1) = (best, ties, owners)) := by
          unfold Hid; rw [hst.out]; unfold oneStep; rw [HL.out, if_pos hph]
        clear hst hph
        go_wp2_with (fail)
        refine (VA.out _).mono ?_
        rintro e w2 ⟨rfl, hb2⟩
        have K2 : Below w.heap.size w w2 := (KB.out.alloc KB.out.size _).trans (hb2.mono (by have := KB.out.size; simp; omega))
        have BX := blk_below (blk_new wr (.cells #[.int .i64 ph, .int .i64 ep, .int .i64 pe] 24)) hb2
        have n0 : w2.cell? ⟨wr.heap.size, 0, none⟩ = some (.int .i64 ph) := cell_blk BX 0 rfl
        have HK2 := Lib.hid K2
        clear K2 BX hb2 d0 d1 d2 e0
        go_wp2_with (fail)
        go_roundg (m - 1)
        case measure => have := HI.out; omega
        case rel =>
          refine ⟨i + 1, by have := HI.out; omega, by go_num, ?_, ?_, ?_, HK2.out⟩ <;> rw [hS.out]
      have hpp : ph = 1 ∨ ph = 2 ∨ ph = 3 := by omega
      clear hph
      obtain ⟨h0, h1⟩ := hep
      have hbest : best = -1 ∨ ∃ j : Nat, best = j ∧ j < i := by
        rcases Int.lt_or_le best 0 with h | h
        · left; omega
        · right; exact ⟨best.toNat, by omega, by omega⟩
      clear G1 G2
      rcases hpp with rfl | rfl | rfl
      · rcases hbest with rfl | ⟨j, rfl, hji⟩
        · have hS : Hid (oneSt W.row (i + 1) = ((i : Int), 0, owners + 1)) := by
            unfold Hid; rw [hst.out]; unfold oneStep; rw [HL.out]; simp
          clear hst
          go_wp2_with (fail)
          refine (VA.out _).mono ?_
          rintro e w2 ⟨rfl, hb2⟩
          have K2 : Below w.heap.size w w2 := (KB.out.alloc KB.out.size (.cells #[.int .i64 1, .int .i64 ep, .int .i64 pe] 24)).trans (hb2.mono (by have := KB.out.size; simp; omega))
          have BX := blk_below (blk_new wr (.cells #[.int .i64 1, .int .i64 ep, .int .i64 pe] 24)) hb2
          have n0 : w2.cell? ⟨wr.heap.size, 0, none⟩ = some (.int .i64 1) := cell_blk BX 0 rfl
          have n1 : w2.cell? ⟨wr.heap.size, 1, none⟩ = some (.int .i64 ep) := cell_blk BX 1 rfl
          have HK2 := Lib.hid K2
          have z2 : wr.heap.size < w2.heap.size := blk_lt BX
          clear K2 BX hb2
          clear d0 d1 d2 e0
          go_wp2_with (fail)
          go_roundg (m - 1)
          case measure => have := HI.out; omega
          case rel => refine ⟨i + 1, by have := HI.out; omega, by go_num, ?_, ?_, ?_, HK2.out⟩ <;> rw [hS.out] <;> first | rfl | go_num | simp_all
        · have hjl : j < W.row.length := by omega
          have hlj := lg_row hjl
          have hx0 : ∀ w2, Rep w2 b g c s sv W → w2.cell? ⟨g, j * 3, none⟩ = some (.int .i64 W.row[j].ph) := fun w2 h => by have := h.row.cell (List.getElem?_eq_getElem hjl) (j := 0) rfl; simpa using this
          have hx1 : ∀ w2, Rep w2 b g c s sv W → w2.cell? ⟨g, j * 3 + 1, none⟩ = some (.int .i64 W.row[j].ep) := fun w2 h => h.row.cell (List.getElem?_eq_getElem hjl) (j := 1) rfl
          have hx2 : ∀ w2, Rep w2 b g c s sv W → w2.cell? ⟨g, j * 3 + 2, none⟩ = some (.int .i64 W.row[j].pe) := fun w2 h => h.row.cell (List.getElem?_eq_getElem hjl) (j := 2) rfl
          have v := HK.out.val j (by omega) (by omega)
          rw [at0_nat _ _ hjl] at v
          generalize W.row[j] = lj at *
          obtain ⟨jp, je, jq⟩ := lj
          have hje : 0 ≤ je ∧ je ≤ 1073741824 := by unfold Vl at v; simp only at v; omega
          have KO := Lib.hid (fun w => keyOf_any jp je jq hje.1 hje.2 w)
          have HS0 : Hid (oneSt W.row (i + 1) = if keyI ⟨jp, je, jq⟩ < 2 * ep + 1 then ((i : Int), 0, owners + 1) else if 2 * ep + 1 = keyI ⟨jp, je, jq⟩ then ((j : Int), ties + 1, owners + 1) else ((j : Int), ties, owners + 1)) := by
            unfold Hid; rw [hst.out]; unfold oneStep; rw [HL.out, hlj]
            have hj0 : ¬ (j : Int) < 0 := by omega
            simp only [hj0, false_or]
            rw [if_neg (by simp)]
            have hk : keyI ⟨1, ep, pe⟩ = 2 * ep + 1 := by simp [keyI]
            rw [hk]
            simp
          generalize keyI ⟨jp, je, jq⟩ = kb at *
          have qj0 : (0 : Int) ≤ (j : Int) := by omega
          have qj1 : (j : Int) < (W.row.length : Int) := by omega
          obtain ⟨t1, ht1⟩ := named (decide (kb < 2 * ep + 1))
          obtain ⟨t2, ht2⟩ := named (2 * ep + 1 == kb)
          simp only at hx0 hx1 hx2
          clear hst v hlj hje
          have HX0 := Lib.hid hx0
          have HX1 := Lib.hid hx1
          have HX2 := Lib.hid hx2
          clear hx0 hx1 hx2
          go_wp2_with (fail)
          refine (VA.out _).mono ?_
          rintro e w2 ⟨rfl, hb2⟩
          have K2 : Below w.heap.size w w2 := (KB.out.alloc KB.out.size (.cells #[.int .i64 1, .int .i64 ep, .int .i64 pe] 24)).trans (hb2.mono (by have := KB.out.size; simp; omega))
          have BX := blk_below (blk_new wr (.cells #[.int .i64 1, .int .i64 ep, .int .i64 pe] 24)) hb2
          have n0 : w2.cell? ⟨wr.heap.size, 0, none⟩ = some (.int .i64 1) := cell_blk BX 0 rfl
          have n1 : w2.cell? ⟨wr.heap.size, 1, none⟩ = some (.int .i64 ep) := cell_blk BX 1 rfl
          have HK2 := Lib.hid K2
          have z2 : wr.heap.size < w2.heap.size := blk_lt BX
          have R2 := HR.out.below K2
          have e0 := R2.c0
          have x0 := HX0.out w2 R2
          have x1 := HX1.out w2 R2
          have x2 := HX2.out w2 R2
          have HBX := Lib.hid BX
          clear K2 BX hb2 R2
          clear d0 d1 d2
          go_wp2_with (fail)
          refine (KO.out _).mono ?_
          rintro e w3 ⟨rfl, hb3⟩
          have HK3 := Lib.hid (HK2.out.trans (hb3.mono HK2.out.size))
          have BX3 := Lib.hid (blk_below HBX.out hb3)
          have R3 := HR.out.below HK3.out
          replace e0 := R3.c0
          replace x0 := HX0.out w3 R3
          replace x1 := HX1.out w3 R3
          replace x2 := HX2.out w3 R3
          clear hb3 R3 n0 n1 HBX HK2
          go_wp2_with (fail)
          · have hS : Hid (oneSt W.row (i + 1) = ((i : Int), 0, owners + 1)) := by
              unfold Hid; rw [HS0.out, if_pos (of_decide_eq_true (ht1.trans ((by assumption : (j : Int) < 0 ∨ t1 = true).resolve_left (by omega))))]
            go_roundg (m - 1)
            case measure => have := HI.out; omega
            case rel => refine ⟨i + 1, by have := HI.out; omega, by go_num, ?_, ?_, ?_, HK3.out⟩ <;> rw [hS.out] <;> first | rfl | go_num | simp_all
          · refine (KO.out _).mono ?_
            rintro e w4 ⟨rfl, hb4⟩
            have HK4 := Lib.hid (HK3.out.trans (hb4.mono HK3.out.size))
            clear hb4 e0 x0 x1 x2 BX3 HK3
            go_wp2_with (fail)
            · have hS : Hid (oneSt W.row (i + 1) = ((j : Int), ties + 1, owners + 1)) := by
                unfold Hid; rw [HS0.out, if_neg (of_decide_eq_false (ht1.trans (by assumption : (0 : Int) ≤ (j : Int) ∧ t1 = false).2)), if_pos (eq_of_beq (ht2.trans (by assumption)))]
              go_roundg (m - 1)
              case measure => have := HI.out; omega
              case rel => refine ⟨i + 1, by have := HI.out; omega, by go_num, ?_, ?_, ?_, HK4.out⟩ <;> rw [hS.out] <;> first | rfl | go_num | simp_all
            · have hS : Hid (oneSt W.row (i + 1) = ((j : Int), ties, owners + 1)) := by
                unfold Hid; rw [HS0.out, if_neg (of_decide_eq_false (ht1.trans (by assumption : (0 : Int) ≤ (j : Int) ∧ t1 = false).2)), if_neg (ne_of_beq (ht2.trans (by assumption)))]
              go_roundg (m - 1)
              case measure => have := HI.out; omega
              case rel => refine ⟨i + 1, by have := HI.out; omega, by go_num, ?_, ?_, ?_, HK4.out⟩ <;> rw [hS.out] <;> first | rfl | go_num | simp_all
      · rcases hbest with rfl | ⟨j, rfl, hji⟩
        · have hS : Hid (oneSt W.row (i + 1) = ((i : Int), 0, owners)) := by
            unfold Hid; rw [hst.out]; unfold oneStep; rw [HL.out]; simp
          clear hst
          go_wp2_with (fail)
          refine (VA.out _).mono ?_
          rintro e w2 ⟨rfl, hb2⟩
          have K2 : Below w.heap.size w w2 := (KB.out.alloc KB.out.size (.cells #[.int .i64 2, .int .i64 ep, .int .i64 pe] 24)).trans (hb2.mono (by have := KB.out.size; simp; omega))
          have BX := blk_below (blk_new wr (.cells #[.int .i64 2, .int .i64 ep, .int .i64 pe] 24)) hb2
          have n0 : w2.cell? ⟨wr.heap.size, 0, none⟩ = some (.int .i64 2) := cell_blk BX 0 rfl
          have n1 : w2.cell? ⟨wr.heap.size, 1, none⟩ = some (.int .i64 ep) := cell_blk BX 1 rfl
          have HK2 := Lib.hid K2
          have z2 : wr.heap.size < w2.heap.size := blk_lt BX
          clear K2 BX hb2
          clear d0 d1 d2 e0
          go_wp2_with (fail)
          go_roundg (m - 1)
          case measure => have := HI.out; omega
          case rel => refine ⟨i + 1, by have := HI.out; omega, by go_num, ?_, ?_, ?_, HK2.out⟩ <;> rw [hS.out] <;> first | rfl | go_num | simp_all
        · have hjl : j < W.row.length := by omega
          have hlj := lg_row hjl
          have hx0 : ∀ w2, Rep w2 b g c s sv W → w2.cell? ⟨g, j * 3, none⟩ = some (.int .i64 W.row[j].ph) := fun w2 h => by have := h.row.cell (List.getElem?_eq_getElem hjl) (j := 0) rfl; simpa using this
          have hx1 : ∀ w2, Rep w2 b g c s sv W → w2.cell? ⟨g, j * 3 + 1, none⟩ = some (.int .i64 W.row[j].ep) := fun w2 h => h.row.cell (List.getElem?_eq_getElem hjl) (j := 1) rfl
          have hx2 : ∀ w2, Rep w2 b g c s sv W → w2.cell? ⟨g, j * 3 + 2, none⟩ = some (.int .i64 W.row[j].pe) := fun w2 h => h.row.cell (List.getElem?_eq_getElem hjl) (j := 2) rfl
          have v := HK.out.val j (by omega) (by omega)
          rw [at0_nat _ _ hjl] at v
          generalize W.row[j] = lj at *
          obtain ⟨jp, je, jq⟩ := lj
          have hje : 0 ≤ je ∧ je ≤ 1073741824 := by unfold Vl at v; simp only at v; omega
          have KO := Lib.hid (fun w => keyOf_any jp je jq hje.1 hje.2 w)
          have HS0 : Hid (oneSt W.row (i + 1) = if keyI ⟨jp, je, jq⟩ < 2 * ep then ((i : Int), 0, owners) else if 2 * ep = keyI ⟨jp, je, jq⟩ then ((j : Int), ties + 1, owners) else ((j : Int), ties, owners)) := by
            unfold Hid; rw [hst.out]; unfold oneStep; rw [HL.out, hlj]
            have hj0 : ¬ (j : Int) < 0 := by omega
            simp only [hj0, false_or]
            rw [if_neg (by simp)]
            have hk : keyI ⟨2, ep, pe⟩ = 2 * ep := by simp [keyI]
            rw [hk]
            simp
          generalize keyI ⟨jp, je, jq⟩ = kb at *
          have qj0 : (0 : Int) ≤ (j : Int) := by omega
          have qj1 : (j : Int) < (W.row.length : Int) := by omega
          obtain ⟨t1, ht1⟩ := named (decide (kb < 2 * ep))
          obtain ⟨t2, ht2⟩ := named (2 * ep == kb)
          simp only at hx0 hx1 hx2
          clear hst v hlj hje
          have HX0 := Lib.hid hx0
          have HX1 := Lib.hid hx1
          have HX2 := Lib.hid hx2
          clear hx0 hx1 hx2
          go_wp2_with (fail)
          refine (VA.out _).mono ?_
          rintro e w2 ⟨rfl, hb2⟩
          have K2 : Below w.heap.size w w2 := (KB.out.alloc KB.out.size (.cells #[.int .i64 2, .int .i64 ep, .int .i64 pe] 24)).trans (hb2.mono (by have := KB.out.size; simp; omega))
          have BX := blk_below (blk_new wr (.cells #[.int .i64 2, .int .i64 ep, .int .i64 pe] 24)) hb2
          have n0 : w2.cell? ⟨wr.heap.size, 0, none⟩ = some (.int .i64 2) := cell_blk BX 0 rfl
          have n1 : w2.cell? ⟨wr.heap.size, 1, none⟩ = some (.int .i64 ep) := cell_blk BX 1 rfl
          have HK2 := Lib.hid K2
          have z2 : wr.heap.size < w2.heap.size := blk_lt BX
          have R2 := HR.out.below K2
          have e0 := R2.c0
          have x0 := HX0.out w2 R2
          have x1 := HX1.out w2 R2
          have x2 := HX2.out w2 R2
          have HBX := Lib.hid BX
          clear K2 BX hb2 R2
          clear d0 d1 d2
          go_wp2_with (fail)
          refine (KO.out _).mono ?_
          rintro e w3 ⟨rfl, hb3⟩
          have HK3 := Lib.hid (HK2.out.trans (hb3.mono HK2.out.size))
          have BX3 := Lib.hid (blk_below HBX.out hb3)
          have R3 := HR.out.below HK3.out
          replace e0 := R3.c0
          replace x0 := HX0.out w3 R3
          replace x1 := HX1.out w3 R3
          replace x2 := HX2.out w3 R3
          clear hb3 R3 n0 n1 HBX HK2
          go_wp2_with (fail)
          · have hS : Hid (oneSt W.row (i + 1) = ((i : Int), 0, owners)) := by
              unfold Hid; rw [HS0.out, if_pos (of_decide_eq_true (ht1.trans ((by assumption : (j : Int) < 0 ∨ t1 = true).resolve_left (by omega))))]
            go_roundg (m - 1)
            case measure => have := HI.out; omega
            case rel => refine ⟨i + 1, by have := HI.out; omega, by go_num, ?_, ?_, ?_, HK3.out⟩ <;> rw [hS.out] <;> first | rfl | go_num | simp_all
          · refine (KO.out _).mono ?_
            rintro e w4 ⟨rfl, hb4⟩
            have HK4 := Lib.hid (HK3.out.trans (hb4.mono HK3.out.size))
            clear hb4 e0 x0 x1 x2 BX3 HK3
            go_wp2_with (fail)
            · have hS : Hid (oneSt W.row (i + 1) = ((j : Int), ties + 1, owners)) := by
                unfold Hid; rw [HS0.out, if_neg (of_decide_eq_false (ht1.trans (by assumption : (0 : Int) ≤ (j : Int) ∧ t1 = false).2)), if_pos (eq_of_beq (ht2.trans (by assumption)))]
              go_roundg (m - 1)
              case measure => have := HI.out; omega
              case rel => refine ⟨i + 1, by have := HI.out; omega, by go_num, ?_, ?_, ?_, HK4.out⟩ <;> rw [hS.out] <;> first | rfl | go_num | simp_all
            · have hS : Hid (oneSt W.row (i + 1) = ((j : Int), ties, owners)) := by
                unfold Hid; rw [HS0.out, if_neg (of_decide_eq_false (ht1.trans (by assumption : (0 : Int) ≤ (j : Int) ∧ t1 = false).2)), if_neg (ne_of_beq (ht2.trans (by assumption)))]
              go_roundg (m - 1)
              case measure => have := HI.out; omega
              case rel => refine ⟨i + 1, by have := HI.out; omega, by go_num, ?_, ?_, ?_, HK4.out⟩ <;> rw [hS.out] <;> first | rfl | go_num | simp_all
      · rcases hbest with rfl | ⟨j, rfl, hji⟩
        · have hS : Hid (oneSt W.row (i + 1) = ((i : Int), 0, owners)) := by
            unfold Hid; rw [hst.out]; unfold oneStep; rw [HL.out]; simp
          clear hst
          go_wp2_with (fail)
          refine (VA.out _).mono ?_
          rintro e w2 ⟨rfl, hb2⟩
          have K2 : Below w.heap.size w w2 := (KB.out.alloc KB.out.size (.cells #[.int .i64 3, .int .i64 ep, .int .i64 pe] 24)).trans (hb2.mono (by have := KB.out.size; simp; omega))
          have BX := blk_below (blk_new wr (.cells #[.int .i64 3, .int .i64 ep, .int .i64 pe] 24)) hb2
          have n0 : w2.cell? ⟨wr.heap.size, 0, none⟩ = some (.int .i64 3) := cell_blk BX 0 rfl
          have n1 : w2.cell? ⟨wr.heap.size, 1, none⟩ = some (.int .i64 ep) := cell_blk BX 1 rfl
          have HK2 := Lib.hid K2
          have z2 : wr.heap.size < w2.heap.size := blk_lt BX
          clear K2 BX hb2
          clear d0 d1 d2 e0
          go_wp2_with (fail)
          go_roundg (m - 1)
          case measure => have := HI.out; omega
          case rel => refine ⟨i + 1, by have := HI.out; omega, by go_num, ?_, ?_, ?_, HK2.out⟩ <;> rw [hS.out] <;> first | rfl | go_num | simp_all
        · have hjl : j < W.row.length := by omega
          have hlj := lg_row hjl
          have hx0 : ∀ w2, Rep w2 b g c s sv W → w2.cell? ⟨g, j * 3, none⟩ = some (.int .i64 W.row[j].ph) := fun w2 h => by have := h.row.cell (List.getElem?_eq_getElem hjl) (j := 0) rfl; simpa using this
          have hx1 : ∀ w2, Rep w2 b g c s sv W → w2.cell? ⟨g, j * 3 + 1, none⟩ = some (.int .i64 W.row[j].ep) := fun w2 h => h.row.cell (List.getElem?_eq_getElem hjl) (j := 1) rfl
          have hx2 : ∀ w2, Rep w2 b g c s sv W → w2.cell? ⟨g, j * 3 + 2, none⟩ = some (.int .i64 W.row[j].pe) := fun w2 h => h.row.cell (List.getElem?_eq_getElem hjl) (j := 2) rfl
          have v := HK.out.val j (by omega) (by omega)
          rw [at0_nat _ _ hjl] at v
          generalize W.row[j] = lj at *
          obtain ⟨jp, je, jq⟩ := lj
          have hje : 0 ≤ je ∧ je ≤ 1073741824 := by unfold Vl at v; simp only at v; omega
          have KO := Lib.hid (fun w => keyOf_any jp je jq hje.1 hje.2 w)
          have HS0 : Hid (oneSt W.row (i + 1) = if keyI ⟨jp, je, jq⟩ < 2 * ep then ((i : Int), 0, owners) else if 2 * ep = keyI ⟨jp, je, jq⟩ then ((j : Int), ties + 1, owners) else ((j : Int), ties, owners)) := by
            unfold Hid; rw [hst.out]; unfold oneStep; rw [HL.out, hlj]
            have hj0 : ¬ (j : Int) < 0 := by omega
            simp only [hj0, false_or]
            rw [if_neg (by simp)]
            have hk : keyI ⟨3, ep, pe⟩ = 2 * ep := by simp [keyI]
            rw [hk]
            simp
          generalize keyI ⟨jp, je, jq⟩ = kb at *
          have qj0 : (0 : Int) ≤ (j : Int) := by omega
          have qj1 : (j : Int) < (W.row.length : Int) := by omega
          obtain ⟨t1, ht1⟩ := named (decide (kb < 2 * ep))
          obtain ⟨t2, ht2⟩ := named (2 * ep == kb)
          simp only at hx0 hx1 hx2
          clear hst v hlj hje
          have HX0 := Lib.hid hx0
          have HX1 := Lib.hid hx1
          have HX2 := Lib.hid hx2
          clear hx0 hx1 hx2
          go_wp2_with (fail)
          refine (VA.out _).mono ?_
          rintro e w2 ⟨rfl, hb2⟩
          have K2 : Below w.heap.size w w2 := (KB.out.alloc KB.out.size (.cells #[.int .i64 3, .int .i64 ep, .int .i64 pe] 24)).trans (hb2.mono (by have := KB.out.size; simp; omega))
          have BX := blk_below (blk_new wr (.cells #[.int .i64 3, .int .i64 ep, .int .i64 pe] 24)) hb2
          have n0 : w2.cell? ⟨wr.heap.size, 0, none⟩ = some (.int .i64 3) := cell_blk BX 0 rfl
          have n1 : w2.cell? ⟨wr.heap.size, 1, none⟩ = some (.int .i64 ep) := cell_blk BX 1 rfl
          have HK2 := Lib.hid K2
          have z2 : wr.heap.size < w2.heap.size := blk_lt BX
          have R2 := HR.out.below K2
          have e0 := R2.c0
          have x0 := HX0.out w2 R2
          have x1 := HX1.out w2 R2
          have x2 := HX2.out w2 R2
          have HBX := Lib.hid BX
          clear K2 BX hb2 R2
          clear d0 d1 d2
          go_wp2_with (fail)
          refine (KO.out _).mono ?_
          rintro e w3 ⟨rfl, hb3⟩
          have HK3 := Lib.hid (HK2.out.trans (hb3.mono HK2.out.size))
          have BX3 := Lib.hid (blk_below HBX.out hb3)
          have R3 := HR.out.below HK3.out
          replace e0 := R3.c0
          replace x0 := HX0.out w3 R3
          replace x1 := HX1.out w3 R3
          replace x2 := HX2.out w3 R3
          clear hb3 R3 n0 n1 HBX HK2
          go_wp2_with (fail)
          · have hS : Hid (oneSt W.row (i + 1) = ((i : Int), 0, owners)) := by
              unfold Hid; rw [HS0.out, if_pos (of_decide_eq_true (ht1.trans ((by assumption : (j : Int) < 0 ∨ t1 = true).resolve_left (by omega))))]
            go_roundg (m - 1)
            case measure => have := HI.out; omega
            case rel => refine ⟨i + 1, by have := HI.out; omega, by go_num, ?_, ?_, ?_, HK3.out⟩ <;> rw [hS.out] <;> first | rfl | go_num | simp_all
          · refine (KO.out _).mono ?_
            rintro e w4 ⟨rfl, hb4⟩
            have HK4 := Lib.hid (HK3.out.trans (hb4.mono HK3.out.size))
            clear hb4 e0 x0 x1 x2 BX3 HK3
            go_wp2_with (fail)
            · have hS : Hid (oneSt W.row (i + 1) = ((j : Int), ties + 1, owners)) := by
                unfold Hid; rw [HS0.out, if_neg (of_decide_eq_false (ht1.trans (by assumption : (0 : Int) ≤ (j : Int) ∧ t1 = false).2)), if_pos (eq_of_beq (ht2.trans (by assumption)))]
              go_roundg (m - 1)
              case measure => have := HI.out; omega
              case rel => refine ⟨i + 1, by have := HI.out; omega, by go_num, ?_, ?_, ?_, HK4.out⟩ <;> rw [hS.out] <;> first | rfl | go_num | simp_all
            · have hS : Hid (oneSt W.row (i + 1) = ((j : Int), ties, owners)) := by
                unfold Hid; rw [HS0.out, if_neg (of_decide_eq_false (ht1.trans (by assumption : (0 : Int) ≤ (j : Int) ∧ t1 = false).2)), if_neg (ne_of_beq (ht2.trans (by assumption)))]
              go_roundg (m - 1)
              case measure => have := HI.out; omega
              case rel => refine ⟨i + 1, by have := HI.out; omega, by go_num, ?_, ?_, ?_, HK4.out⟩ <;> rw [hS.out] <;> first | rfl | go_num | simp_all
    · have : i = W.row.length := by omega
      subst this
      have hH0 := HK.out.h0
      have hHn := HK.out.hn
      have spH := sp.2.2.2.1 hHn
      rw [spH]
      have hcore := holder_core HK.out
      have score := sound_core HK.out
      have RX := HR.out.below KB.out
      have HO := Lib.hid (fun w A cap he => holder_any w A cap W.row (by omega) he)
      have SO := Lib.hid (fun w A cap he => sound_any w A cap W.row (by omega) he)
      rw [hcore] at HO
      rw [score] at SO
      clear hcore score
      have KC := Lib.hid HK.out
      obtain ⟨h, hh⟩ := Int.eq_ofNat_of_zero_le hH0
      rw [hh] at HO hHn
      have hhl : h < W.row.length := by omega
      have d0 := RX.row.cell (List.getElem?_eq_getElem hhl) (j := 0) rfl
      rw [Nat.add_zero] at d0
      have q0 : (0 : Int) ≤ (h : Int) := by omega
      have q1 : (h : Int) < (W.row.length : Int) := by omega
      have hlh : lgAt W.row H = W.row[h] := by rw [hh]; exact lg_row hhl
      rw [hlh]
      rw [hh]
      generalize W.row[h] = lh at *
      clear sp spH hlt hlh hh hH0
      have HRX := Lib.hid RX
      clear RX
      dsimp only
      by_cases hp : lh.ph = 1
      · rw [if_pos hp]
        rw [hp] at d0
        clear hp
        go_wp2_with (fail)
        refine (HO.out _ _ _ (HRX.out.elems KC.out)).mono ?_
        rintro e w3 ⟨rfl, hb3⟩
        have R3 := HRX.out.below hb3
        replace e0 := R3.c0
        have HR3 := Lib.hid R3
        have K3 := Lib.hid (KB.out.trans (hb3.mono KB.out.size))
        clear R3 hb3 d0
        go_wp2_with (fail)
        refine (SO.out _ _ _ (HR3.out.elems KC.out)).mono ?_
        rintro e w4 ⟨rfl, hb4⟩
        have K4 := Lib.hid (K3.out.trans (hb4.mono K3.out.size))
        clear hb4 e0
        go_wp2_with (fail)
        go_ret
        exact ⟨rfl, K4.out⟩
      · rw [if_neg hp]
        clear hp
        go_wp2_with (fail)
        refine (HO.out _ _ _ (HRX.out.elems KC.out)).mono ?_
        rintro e w3 ⟨rfl, hb3⟩
        have R3 := HRX.out.below hb3
        replace e0 := R3.c0
        have HR3 := Lib.hid R3
        have K3 := Lib.hid (KB.out.trans (hb3.mono KB.out.size))
        clear R3 hb3 d0
        go_wp2_with (fail)
        refine (SO.out _ _ _ (HR3.out.elems KC.out)).mono ?_
        rintro e w4 ⟨rfl, hb4⟩
        have K4 := Lib.hid (K3.out.trans (hb4.mono K3.out.size))
        clear hb4 e0
        go_wp2_with (fail)
        go_ret
        exact ⟨rfl, K4.out⟩
end Go.Proofs.Ytecdmbcdkfjgfaa
