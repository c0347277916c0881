/- The contract of the world's act. -/
import Derived.Test.YtecdmbcdkfjgfaaV4
import Derived.Test.YtecdmbcdkfjgfaaP4
namespace Go.Proofs.Ytecdmbcdkfjgfaa
set_option linter.unusedVariables false
set_option linter.unusedSimpArgs false
open Go.RowKit Go.Deep Go.Proofs.YtecdmbcdkfjgfaaW.PrintLast

set_option maxRecDepth 100000 in
set_option maxHeartbeats 4000000 in
theorem act_any {w : World} {b g c s : Nat} {sv : Value} {W : Wd} (R : Rep w b g c s sv W) (hn : 1 ≤ W.row.length) (hn2 : W.row.length ≤ 8) (k a p N : Int) (hb : (W.sent.length + 1) * 32 ≤ 140737488355328) :
    Calls Try.prog 23 #[.pointer (some ⟨b, 0, none⟩), .agg #[.int .i64 k, .int .i64 a, .int .i64 p, .int .i64 N]] w fun en w' =>
      en = .returned (.bool (actW W k a p N).2) ∧ ∃ s' sv', (s' = s ∨ w.heap.size ≤ s') ∧ Rep w' b g c s' sv' (actW W k a p N).1 ∧ Frm b g s w w' := by
  have HB := Lib.hid hb
  clear hb
  have a0 := Int.emod_nonneg a (b := (W.row.length : Int)) (by omega)
  have aN := Int.emod_lt_of_pos a (b := (W.row.length : Int)) (by omega)
  have PA := Lib.hid (fun w => (place_any a W.row.length (by omega) (by omega) w).mono fun e w' (h : _ ∧ w = w') => (⟨h.1, h.2.symm⟩ : _ ∧ w' = w))
  have PP := Lib.hid (fun w => (place_any p W.row.length (by omega) (by omega) w).mono fun e w' (h : _ ∧ w = w') => (⟨h.1, h.2.symm⟩ : _ ∧ w' = w))
  have A1 : Hid (k = 1 → actW W k a p N = ((takeW W (a % (W.row.length : Int)) 2 0 (p % (W.row.length : Int))).1, (takeW W (a % (W.row.length : Int)) 2 0 (p % (W.row.length : Int))).2 == (((at0 W.row (a % (W.row.length : Int))).ph == 1) && (p % (W.row.length : Int) != a % (W.row.length : Int)) && decide ((at0 W.row (a % (W.row.length : Int))).ep ≤ 1073741822)))) := fun h => by subst h; rfl
  have A2 : Hid (k = 2 → actW W k a p N = ((takeW W (a % (W.row.length : Int)) 3 0 0).1, (takeW W (a % (W.row.length : Int)) 3 0 0).2 == ((at0 W.row (a % (W.row.length : Int))).ph == 2))) := fun h => by subst h; rfl
  have A3 : Hid (k = 3 → actW W k a p N = (nagW W (a % (W.row.length : Int)), true)) := fun h => by subst h; rfl
  have A4 : Hid (k = 4 ∨ k = 5 → actW W k a p N = if 0 < W.sent.length then hearW W (W.sent.getD (N % W.sent.length).toNat ⟨0, 0, 0, 0⟩) (k == 5) else (W, true)) := fun h => by rcases h with h | h <;> subst h <;> rfl
  have A5 : Hid (¬ k = 1 → ¬ k = 2 → ¬ k = 3 → ¬ (k = 4 ∨ k = 5) → actW W k a p N = (W, true)) := fun h1 h2 h3 h4 => by unfold actW; simp only; rw [if_neg h1, if_neg h2, if_neg h3, if_neg h4]
  obtain ⟨i, hai⟩ := Int.eq_ofNat_of_zero_le a0
  rw [hai] at PA A1 A2 A3 aN
  generalize p % (W.row.length : Int) = bp at *
  have hi : i < W.row.length := by omega
  have q0 : (0 : Int) ≤ (i : Int) := by omega
  have q1 : (i : Int) < (W.row.length : Int) := by omega
  have ht : at0 W.row i = W.row[i] := at0_nat _ _ hi
  rw [ht] at A1 A2
  clear a0 hai ht aN
  have e0 := R.c0
  have e1 := R.c1
  have d0 := R.row.cell (List.getElem?_eq_getElem hi) (j := 0) rfl
  have d1 := R.row.cell (List.getElem?_eq_getElem hi) (j := 1) rfl
  rw [Nat.add_zero] at d0
  have TK1 := Lib.hid (fun w1 (h : Rep w1 b g c s sv W) => take_any h hi 2 0 bp)
  have TK2 := Lib.hid (fun w1 (h : Rep w1 b g c s sv W) => take_any h hi 3 0 0)
  have NG := Lib.hid (fun w1 (h : Rep w1 b g c s sv W) => wnag_any h hi HB.out)
  generalize takeW W i 2 0 bp = T1 at *
  generalize takeW W i 3 0 0 = T2 at *
  obtain ⟨W1, t1⟩ := T1
  obtain ⟨W2, t2⟩ := T2
  generalize hl : W.row[i] = l at *
  obtain ⟨ph, ep, pe⟩ := l
  simp only at d0 d1 A1 A2 TK1 TK2
  have HR := Lib.hid R
  generalize actW W k a p N = RES at *
  clear R
  go_enter Try.func23, Try.ntmps23
  have BM := blk_new w (.cells #[.int .i64 k, .int .i64 a, .int .i64 p, .int .i64 N] 53)
  have m0 : (w.alloc (.cells #[.int .i64 k, .int .i64 a, .int .i64 p, .int .i64 N] 53)).cell? ⟨w.heap.size, 0, none⟩ = some (.int .i64 k) := cell_blk BM 0 rfl
  have m1 : (w.alloc (.cells #[.int .i64 k, .int .i64 a, .int .i64 p, .int .i64 N] 53)).cell? ⟨w.heap.size, 1, none⟩ = some (.int .i64 a) := cell_blk BM 1 rfl
  have m2 : (w.alloc (.cells #[.int .i64 k, .int .i64 a, .int .i64 p, .int .i64 N] 53)).cell? ⟨w.heap.size, 2, none⟩ = some (.int .i64 p) := cell_blk BM 2 rfl
  have m3 : (w.alloc (.cells #[.int .i64 k, .int .i64 a, .int .i64 p, .int .i64 N] 53)).cell? ⟨w.heap.size, 3, none⟩ = some (.int .i64 N) := cell_blk BM 3 rfl
  have e0' := cell_alloc_old e0 (.cells #[.int .i64 k, .int .i64 a, .int .i64 p, .int .i64 N] 53)
  replace e1 := cell_alloc_old e1 (.cells #[.int .i64 k, .int .i64 a, .int .i64 p, .int .i64 N] 53)
  replace d0 := cell_alloc_old d0 (.cells #[.int .i64 k, .int .i64 a, .int .i64 p, .int .i64 N] 53)
  replace d1 := cell_alloc_old d1 (.cells #[.int .i64 k, .int .i64 a, .int .i64 p, .int .i64 N] 53)
  have HF := Lib.hid (Frm.alloc b g s w (.cells #[.int .i64 k, .int .i64 a, .int .i64 p, .int .i64 N] 53))
  replace HR := Lib.hid (HR.out.alloc (.cells #[.int .i64 k, .int .i64 a, .int .i64 p, .int .i64 N] 53))
  clear BM e0 e1 d0 d1
  go_upto_region 2 with (fail)
  generalize w.alloc (.cells #[.int .i64 k, .int .i64 a, .int .i64 p, .int .i64 N] 53) = w0 at *
  have hsz := HF.out.size
  generalize w.heap.size = z at *
  refine wp_cut (fun (ac : Act) (wq : World) => ∃ u1 u2 u4 u8 u9 u10 u11 u12 u13 u14 u15 u16 u17 u18 u19 u20 u21 u22 u23 u24 u25 u26 u27 u28 u29 u30 u31 u32 u33 u34 u35 u36 u37 u38 u39 u40 u41 u42 u43 u44 u45 u46 u47 u48 u49 u50 u51 u52 u53 u54 u55 u56 u57 u58 u59 u60 u61 u62 u63 u64 u65 u66 u67 u68 u69 u70 u71 u72 u73 u74 u75 u76 u77 u78 u79 u80 u81 u82 u83 u84 u85 u86 u87 u88 u89 u90 u91 u92 u93 u94 u95 u96 u97 u98 u99 u100 u101 u102 u103 u104 u105 u106 u107 u108 : Value, (Rep wq b g c s sv W ∧ Frm b g s w wq ∧ wq.cell? ⟨z, 0, none⟩ = some (.int .i64 k) ∧ wq.cell? ⟨z, 3, none⟩ = some (.int .i64 N)) ∧ ac = ({ tmps := #[.pointer (some ⟨b, 0, none⟩), u1, u2, .pointer (some ⟨z, 0, none⟩), u4, .int .i64 (W.row.length : Int), .int .i64 i, .int .i64 bp, u8, u9, u10, u11, u12, u13, u14, u15, u16, u17, u18, u19, u20, u21, u22, u23, u24, u25, u26, u27, u28, u29, u30, u31, u32, u33, u34, u35, u36, u37, u38, u39, u40, u41, u42, u43, u44, u45, u46, u47, u48, u49, u50, u51, u52, u53, u54, u55, u56, u57, u58, u59, u60, u61, u62, u63, u64, u65, u66, u67, u68, u69, u70, u71, u72, u73, u74, u75, u76, u77, u78, u79, u80, u81, u82, u83, u84, u85, u86, u87, u88, u89, u90, u91, u92, u93, u94, u95, u96, u97, u98, u99, u100, u101, u102, u103, u104, u105, u106, u107, u108], defers := [] } : Act)) ?rest ?first
  case' rest => (intro ac wq hcut; obtain ⟨u1, hcut⟩ := hcut; obtain ⟨u2, hcut⟩ := hcut; obtain ⟨u4, hcut⟩ := hcut; obtain ⟨u8, hcut⟩ := hcut; obtain ⟨u9, hcut⟩ := hcut; obtain ⟨u10, hcut⟩ := hcut; obtain ⟨u11, hcut⟩ := hcut; obtain ⟨u12, hcut⟩ := hcut; obtain ⟨u13, hcut⟩ := hcut; obtain ⟨u14, hcut⟩ := hcut; obtain ⟨u15, hcut⟩ := hcut; obtain ⟨u16, hcut⟩ := hcut; obtain ⟨u17, hcut⟩ := hcut; obtain ⟨u18, hcut⟩ := hcut; obtain ⟨u19, hcut⟩ := hcut; obtain ⟨u20, hcut⟩ := hcut; obtain ⟨u21, hcut⟩ := hcut; obtain ⟨u22, hcut⟩ := hcut; obtain ⟨u23, hcut⟩ := hcut; obtain ⟨u24, hcut⟩ := hcut; obtain ⟨u25, hcut⟩ := hcut; obtain ⟨u26, hcut⟩ := hcut; obtain ⟨u27, hcut⟩ := hcut; obtain ⟨u28, hcut⟩ := hcut; obtain ⟨u29, hcut⟩ := hcut; obtain ⟨u30, hcut⟩ := hcut; obtain ⟨u31, hcut⟩ := hcut; obtain ⟨u32, hcut⟩ := hcut; obtain ⟨u33, hcut⟩ := hcut; obtain ⟨u34, hcut⟩ := hcut; obtain ⟨u35, hcut⟩ := hcut; obtain ⟨u36, hcut⟩ := hcut; obtain ⟨u37, hcut⟩ := hcut; obtain ⟨u38, hcut⟩ := hcut; obtain ⟨u39, hcut⟩ := hcut; obtain ⟨u40, hcut⟩ := hcut; obtain ⟨u41, hcut⟩ := hcut; obtain ⟨u42, hcut⟩ := hcut; obtain ⟨u43, hcut⟩ := hcut; obtain ⟨u44, hcut⟩ := hcut; obtain ⟨u45, hcut⟩ := hcut; obtain ⟨u46, hcut⟩ := hcut; obtain ⟨u47, hcut⟩ := hcut; obtain ⟨u48, hcut⟩ := hcut; obtain ⟨u49, hcut⟩ := hcut; obtain ⟨u50, hcut⟩ := hcut; obtain ⟨u51, hcut⟩ := hcut; obtain ⟨u52, hcut⟩ := hcut; obtain ⟨u53, hcut⟩ := hcut; obtain ⟨u54, hcut⟩ := hcut; obtain ⟨u55, hcut⟩ := hcut; obtain ⟨u56, hcut⟩ := hcut; obtain ⟨u57, hcut⟩ := hcut; obtain ⟨u58, hcut⟩ := hcut; obtain ⟨u59, hcut⟩ := hcut; obtain ⟨u60, hcut⟩ := hcut; obtain ⟨u61, hcut⟩ := hcut; obtain ⟨u62, hcut⟩ := hcut; obtain ⟨u63, hcut⟩ := hcut; obtain ⟨u64, hcut⟩ := hcut; obtain ⟨u65, hcut⟩ := hcut; obtain ⟨u66, hcut⟩ := hcut; obtain ⟨u67, hcut⟩ := hcut; obtain ⟨u68, hcut⟩ := hcut; obtain ⟨u69, hcut⟩ := hcut; obtain ⟨u70, hcut⟩ := hcut; obtain ⟨u71, hcut⟩ := hcut; obtain ⟨u72, hcut⟩ := hcut; obtain ⟨u73, hcut⟩ := hcut; obtain ⟨u74, hcut⟩ := hcut; obtain ⟨u75, hcut⟩ := hcut; obtain ⟨u76, hcut⟩ := hcut; obtain ⟨u77, hcut⟩ := hcut; obtain ⟨u78, hcut⟩ := hcut; obtain ⟨u79, hcut⟩ := hcut; obtain ⟨u80, hcut⟩ := hcut; obtain ⟨u81, hcut⟩ := hcut; obtain ⟨u82, hcut⟩ := hcut; obtain ⟨u83, hcut⟩ := hcut; obtain ⟨u84, hcut⟩ := hcut; obtain ⟨u85, hcut⟩ := hcut; obtain ⟨u86, hcut⟩ := hcut; obtain ⟨u87, hcut⟩ := hcut; obtain ⟨u88, hcut⟩ := hcut; obtain ⟨u89, hcut⟩ := hcut; obtain ⟨u90, hcut⟩ := hcut; obtain ⟨u91, hcut⟩ := hcut; obtain ⟨u92, hcut⟩ := hcut; obtain ⟨u93, hcut⟩ := hcut; obtain ⟨u94, hcut⟩ := hcut; obtain ⟨u95, hcut⟩ := hcut; obtain ⟨u96, hcut⟩ := hcut; obtain ⟨u97, hcut⟩ := hcut; obtain ⟨u98, hcut⟩ := hcut; obtain ⟨u99, hcut⟩ := hcut; obtain ⟨u100, hcut⟩ := hcut; obtain ⟨u101, hcut⟩ := hcut; obtain ⟨u102, hcut⟩ := hcut; obtain ⟨u103, hcut⟩ := hcut; obtain ⟨u104, hcut⟩ := hcut; obtain ⟨u105, hcut⟩ := hcut; obtain ⟨u106, hcut⟩ := hcut; obtain ⟨u107, hcut⟩ := hcut; obtain ⟨u108, hcut⟩ := hcut; obtain ⟨hcut, hac⟩ := hcut; subst hac)
  case' first => intro _ _ _ _
  case first =>
    refine start_ (n := 10) (S := fun w' => w'.cell? ⟨z, 1, none⟩ = some (.int .i64 a) ∧ w'.cell? ⟨z, 2, none⟩ = some (.int .i64 p)) (ds := []) #[false, false, false, false, false, false, false, false, false, false] (by kernel_rfl) rfl rfl ⟨m1, m2⟩ (fun hHeld => ?_)
    (refine take_ (i := 0) (N := some 15) (v := ?v_12) (a' := ?a_12) #[true, false, false, false, false, false, false, false, false, false] rfl rfl (by kernel_rfl) (fun _ _ _ h => h) (Or.inl ⟨by rfl, ?hy_12⟩) hHeld ?ha_12 ?hh_12; (case hy_12 => (rintro w' ⟨s0_, s1_⟩; go_simp; with_reducible rfl)); (case ha_12 => (simp (disch := omega) only [Act.put, List.setIfInBounds_toArray, List.set_cons_zero, List.set_cons_succ, wrap_in]; rfl)))
    (refine take_ (i := 1) (N := some 16) (v := ?v_13) (a' := ?a_13) #[true, true, false, false, false, false, false, false, false, false] rfl rfl (by kernel_rfl) (fun _ _ _ h => h) (Or.inl ⟨by rfl, ?hy_13⟩) hHeld ?ha_13 ?hh_13; (case hy_13 => (rintro w' ⟨s0_, s1_⟩; go_simp; with_reducible rfl)); (case ha_13 => (simp (disch := omega) only [Act.put, List.setIfInBounds_toArray, List.set_cons_zero, List.set_cons_succ, wrap_in]; rfl)))
    (refine take_ (i := 2) (N := some 17) (v := ?v_14) (a' := ?a_14) #[true, true, true, false, false, false, false, false, false, false] rfl rfl (by kernel_rfl) (fun _ _ _ h => h) (Or.inl ⟨by rfl, ?hy_14⟩) hHeld ?ha_14 ?hh_14; (case hy_14 => (rintro w' ⟨s0_, s1_⟩; go_simp; with_reducible rfl)); (case ha_14 => (simp (disch := omega) only [Act.put, List.setIfInBounds_toArray, List.set_cons_zero, List.set_cons_succ, wrap_in]; rfl)))
    (refine take_ (i := 4) (N := some 19) (v := ?v_15) (a' := ?a_15) #[true, true, true, false, true, false, false, false, false, false] rfl rfl (by kernel_rfl) (fun _ _ _ h => h) (Or.inl ⟨by rfl, ?hy_15⟩) hHeld ?ha_15 ?hh_15; (case hy_15 => (rintro w' ⟨s0_, s1_⟩; go_simp; with_reducible rfl)); (case ha_15 => (simp (disch := omega) only [Act.put, List.setIfInBounds_toArray, List.set_cons_zero, List.set_cons_succ, wrap_in]; rfl)))
    (refine take_ (i := 5) (N := some 20) (v := ?v_16) (a' := ?a_16) #[true, true, true, false, true, true, false, false, false, false] rfl rfl (by kernel_rfl) (fun _ _ _ h => h) (Or.inl ⟨by rfl, ?hy_16⟩) hHeld ?ha_16 ?hh_16; (case hy_16 => (rintro w' ⟨s0_, s1_⟩; go_simp; with_reducible rfl)); (case ha_16 => (simp (disch := omega) only [Act.put, List.setIfInBounds_toArray, List.set_cons_zero, List.set_cons_succ, wrap_in]; rfl)))
    (refine take_ (i := 6) (N := some 21) (v := ?v_17) (a' := ?a_17) #[true, true, true, false, true, true, true, false, false, false] rfl rfl (by kernel_rfl) (fun _ _ _ h => h) (Or.inl ⟨by rfl, ?hy_17⟩) hHeld ?ha_17 ?hh_17; (case hy_17 => (rintro w' ⟨s0_, s1_⟩; go_simp; with_reducible rfl)); (case ha_17 => (simp (disch := omega) only [Act.put, List.setIfInBounds_toArray, List.set_cons_zero, List.set_cons_succ, wrap_in]; rfl)))
    refine one_ (i := 3) (N := some 18) #[true, true, true, true, true, true, true, false, false, false] rfl rfl (by kernel_rfl) (by decide) (fun K hK => ?_)
    (refine goes_ Try.func22 (by kernel_rfl) rfl ?args_1 (by rfl) rfl rfl ?hargs_1 ?hc_1; (case hargs_1 => (go_simp; with_reducible rfl)))
    (refine (PA.out _).mono ?_; rintro e w_ ⟨rfl, rfl⟩; refine ⟨_, rfl, ?_⟩)
    (refine hK.out _ _ ?hs_3 ?hn_3; (case hs_3 => (exact hHeld)); intro hHeld; clear hK K)
    (refine norm_ (a' := ?a_4) ?ha_4 ?hh_4; (case ha_4 => (simp (disch := omega) only [Act.put, List.setIfInBounds_toArray, List.set_cons_zero, List.set_cons_succ, wrap_in]; rfl)))
    refine one_ (i := 7) (N := some 22) #[true, true, true, true, true, true, true, true, false, false] rfl rfl (by kernel_rfl) (by decide) (fun K hK => ?_)
    (refine goes_ Try.func22 (by kernel_rfl) rfl ?args_5 (by rfl) rfl rfl ?hargs_5 ?hc_5; (case hargs_5 => (go_simp; with_reducible rfl)))
    (refine (PP.out _).mono ?_; rintro e w_ ⟨rfl, rfl⟩; refine ⟨_, rfl, ?_⟩)
    (refine hK.out _ _ ?hs_7 ?hn_7; (case hs_7 => (exact hHeld)); intro hHeld; clear hK K)
    (refine norm_ (a' := ?a_8) ?ha_8 ?hh_8; (case ha_8 => (simp (disch := omega) only [Act.put, List.setIfInBounds_toArray, List.set_cons_zero, List.set_cons_succ, wrap_in]; rfl)))
    (refine take_ (i := 8) (N := some 6) (v := ?v_9) (a' := ?a_9) #[true, true, true, true, true, true, true, true, true, false] rfl rfl (by kernel_rfl) (fun _ _ _ h => h) (Or.inl ⟨by rfl, ?hy_9⟩) hHeld ?ha_9 ?hh_9; (case hy_9 => (rintro w' ⟨s0_, s1_⟩; go_simp; with_reducible rfl)); (case ha_9 => (simp (disch := omega) only [Act.put, List.setIfInBounds_toArray, List.set_cons_zero, List.set_cons_succ, wrap_in]; rfl)))
    (refine take_ (i := 9) (N := some 7) (v := ?v_10) (a' := ?a_10) #[true, true, true, true, true, true, true, true, true, true] rfl rfl (by kernel_rfl) (fun _ _ _ h => h) (Or.inl ⟨by rfl, ?hy_10⟩) hHeld ?ha_10 ?hh_10; (case hy_10 => (rintro w' ⟨s0_, s1_⟩; go_simp; with_reducible rfl)); (case ha_10 => (simp (disch := omega) only [Act.put, List.setIfInBounds_toArray, List.set_cons_zero, List.set_cons_succ, wrap_in]; rfl)))
    refine done_ (by kernel_rfl) ?_
    all_goals go_wp2_with (fail)
    all_goals go_meet
    all_goals exact ⟨HR.out.drew, HF.out.trans (Frm.drew b g s _) (Or.inl rfl), m0, m3⟩
  case rest =>
  obtain ⟨RQ, FQ, m0, m3⟩ := hcut
  have e0 := RQ.c0
  have e1 := RQ.c1
  have d0 := RQ.row.cell (List.getElem?_eq_getElem hi) (j := 0) rfl
  have d1 := RQ.row.cell (List.getElem?_eq_getElem hi) (j := 1) rfl
  rw [Nat.add_zero, hl] at d0
  rw [hl] at d1
  clear HR HF
  have HR := Lib.hid RQ
  have HF := Lib.hid FQ
  clear RQ FQ PA PP
  simp only [Lg.cells] at d0 d1
  by_cases k1 : k = 1
  · subst k1
    obtain ⟨p1, hp1⟩ := named (ph == 1)
    obtain ⟨p2, hp2⟩ := named (bp != (i : Int))
    obtain ⟨p3, hp3⟩ := named (decide (ep ≤ 1073741822))
    rw [hp1, hp2, hp3] at A1
    go_wp2_with (go_at_call 44; refine (TK1.out _ HR.out).mono ?_; rintro e w2 ⟨rfl, R2, F2⟩)
    all_goals
      go_ret
      rw [A1.out (by trivial)]
      refine ⟨?_, s, sv, Or.inl rfl, R2, HF.out.trans F2 (Or.inl rfl)⟩
      simp_all
  by_cases k2 : k = 2
  · subst k2
    obtain ⟨p1, hp1⟩ := named (ph == 2)
    rw [hp1] at A2
    go_wp2_with (go_at_call 44; refine (TK2.out _ HR.out).mono ?_; rintro e w2 ⟨rfl, R2, F2⟩)
    all_goals
      go_ret
      rw [A2.out (by trivial)]
      refine ⟨?_, s, sv, Or.inl rfl, R2, HF.out.trans F2 (Or.inl rfl)⟩
      simp_all
  by_cases k3 : k = 3
  · subst k3
    go_wp2_with (go_at_call 45; refine (NG.out _ HR.out).mono ?_; rintro e w2 ⟨rfl, s', sv', hs', R2, F2⟩)
    all_goals
      go_ret
      rw [A3.out (by trivial)]
      refine ⟨rfl, s', sv', ?_, R2, HF.out.trans F2 (Or.inl rfl)⟩
      have := HF.out.size
      omega
  by_cases k4 : k = 4 ∨ k = 5
  · have A6 := Lib.hid (A4.out k4)
    obtain ⟨t4, ht4⟩ := named (k == 4)
    obtain ⟨t5, ht5⟩ := named (k == 5)
    have h1 : (k == 1) = false := by simpa using k1
    have h2 : (k == 2) = false := by simpa using k2
    have h3 : (k == 3) = false := by simpa using k3
    have K4 := Lib.hid k4
    clear A1 A2 A3 A4 A5 k1 k2 k3 k4
    rcases HR.out.snt with ⟨rfl, hs0, hsb⟩ | ⟨cs, rfl, hsb, hsg, hO⟩
    · have hs1 : ¬ 0 < W.sent.length := by rw [hs0]; simp
      have HS1 := Lib.hid hs1
      clear hs1 hs0
      go_wp2_with (fail)
      all_goals first
        | (exfalso; have := K4.out; simp_all; done)
        | (go_ret
           rw [A6.out, if_neg HS1.out]
           exact ⟨rfl, s, _, Or.inl rfl, HR.out, HF.out⟩)
    · by_cases hlen : 0 < W.sent.length
      · have HS1 := Lib.hid hlen
        have n0 := Int.emod_nonneg N (b := (W.sent.length : Int)) (by omega)
        have nN := Int.emod_lt_of_pos N (b := (W.sent.length : Int)) (by omega)
        have PN := Lib.hid (fun w => place_any N W.sent.length (by omega) (by have := HB.out; omega) w)
        obtain ⟨j, hj⟩ := Int.eq_ofNat_of_zero_le n0
        rw [hj] at PN A6 nN
        rw [if_pos HS1.out] at A6
        clear n0 hj
        have hjl : j < W.sent.length := by omega
        have r0 : (0 : Int) ≤ (j : Int) := by omega
        have r1 : (j : Int) < (W.sent.length : Int) := by omega
        have hget : W.sent.getD (j : Int).toNat ⟨0, 0, 0, 0⟩ = W.sent[j] := by rw [Int.toNat_natCast, List.getD_eq_getElem?_getD, List.getElem?_eq_getElem hjl]; rfl
        rw [hget] at A6
        have x0 := hO.cell (List.getElem?_eq_getElem hjl) (j := 0) rfl
        have x1 := hO.cell (List.getElem?_eq_getElem hjl) (j := 1) rfl
        have x2 := hO.cell (List.getElem?_eq_getElem hjl) (j := 2) rfl
        have x3 := hO.cell (List.getElem?_eq_getElem hjl) (j := 3) rfl
        rw [Nat.add_zero] at x0
        clear hget hO
        generalize W.sent[j] = m at *
        obtain ⟨kd, e, f, t⟩ := m
        simp only at x0 x1 x2 x3
        have HE := Lib.hid (fun w1 (h : Rep w1 b g c s (.slice (some ⟨s, 0, none⟩) W.sent.length cs) W) => whear_any h kd e f t (k == 5) HB.out)
        rw [ht5] at HE A6
        generalize hearW W ⟨kd, e, f, t⟩ t5 = H1 at *
        go_upto_region 15 with (fail)
        all_goals first
        | (exfalso; have := K4.out; simp_all; done)
        | skip
        · skip
          refine start_ (n := 20) (S := fun w' => w'.cell? ⟨b, 1, none⟩ = some (.slice (some ⟨s, 0, none⟩) W.sent.length cs) ∧ w'.cell? ⟨z, 0, none⟩ = some (.int .i64 k) ∧ w'.cell? ⟨z, 3, none⟩ = some (.int .i64 N) ∧ w'.cell? ⟨s, j * 4, none⟩ = some (.int .i64 kd) ∧ w'.cell? ⟨s, j * 4 + 1, none⟩ = some (.int .i64 e) ∧ w'.cell? ⟨s, j * 4 + 2, none⟩ = some (.int .i64 f) ∧ w'.cell? ⟨s, j * 4 + 3, none⟩ = some (.int .i64 t)) (ds := [18]) #[false, false, false, false, false, false, false, false, false, false, false, false, false, false, false, false, false, false, false, false] (by kernel_rfl) rfl rfl ⟨e1, m0, m3, x0, x1, x2, x3⟩ (fun hHeld => ?_)
          (refine take_ (i := 0) (N := some 90) (v := ?v_32) (a' := ?a_32) #[true, false, false, false, false, false, false, false, false, false, false, false, false, false, false, false, false, false, false, false] rfl rfl (by kernel_rfl) (fun _ _ _ h => h) (Or.inl ⟨by rfl, ?hy_32⟩) hHeld ?ha_32 ?hh_32; (case hy_32 => (rintro w' ⟨s0_, s1_, s2_, s3_, s4_, s5_, s6_⟩; go_simp; with_reducible rfl)); (case ha_32 => (simp (disch := omega) only [Act.put, List.setIfInBounds_toArray, List.set_cons_zero, List.set_cons_succ, wrap_in]; rfl)))
          (refine take_ (i := 1) (N := some 91) (v := ?v_33) (a' := ?a_33) #[true, true, false, false, false, false, false, false, false, false, false, false, false, false, false, false, false, false, false, false] rfl rfl (by kernel_rfl) (fun _ _ _ h => h) (Or.inl ⟨by rfl, ?hy_33⟩) hHeld ?ha_33 ?hh_33; (case hy_33 => (rintro w' ⟨s0_, s1_, s2_, s3_, s4_, s5_, s6_⟩; go_simp; with_reducible rfl)); (case ha_33 => (simp (disch := omega) only [Act.put, List.setIfInBounds_toArray, List.set_cons_zero, List.set_cons_succ, wrap_in]; rfl)))
          (refine take_ (i := 2) (N := some 92) (v := ?v_34) (a' := ?a_34) #[true, true, true, false, false, false, false, false, false, false, false, false, false, false, false, false, false, false, false, false] rfl rfl (by kernel_rfl) (fun _ _ _ h => h) (Or.inl ⟨by rfl, ?hy_34⟩) hHeld ?ha_34 ?hh_34; (case hy_34 => (rintro w' ⟨s0_, s1_, s2_, s3_, s4_, s5_, s6_⟩; go_simp; with_reducible rfl)); (case ha_34 => (simp (disch := omega) only [Act.put, List.setIfInBounds_toArray, List.set_cons_zero, List.set_cons_succ, wrap_in]; rfl)))
          (refine take_ (i := 3) (N := some 93) (v := ?v_35) (a' := ?a_35) #[true, true, true, true, false, false, false, false, false, false, false, false, false, false, false, false, false, false, false, false] rfl rfl (by kernel_rfl) (fun _ _ _ h => h) (Or.inl ⟨by rfl, ?hy_35⟩) hHeld ?ha_35 ?hh_35; (case hy_35 => (rintro w' ⟨s0_, s1_, s2_, s3_, s4_, s5_, s6_⟩; go_simp; with_reducible rfl)); (case ha_35 => (simp (disch := omega) only [Act.put, List.setIfInBounds_toArray, List.set_cons_zero, List.set_cons_succ, wrap_in]; rfl)))
          (refine take_ (i := 4) (N := some 94) (v := ?v_36) (a' := ?a_36) #[true, true, true, true, true, false, false, false, false, false, false, false, false, false, false, false, false, false, false, false] rfl rfl (by kernel_rfl) (fun _ _ _ h => h) (Or.inl ⟨by rfl, ?hy_36⟩) hHeld ?ha_36 ?hh_36; (case hy_36 => (rintro w' ⟨s0_, s1_, s2_, s3_, s4_, s5_, s6_⟩; go_simp; with_reducible rfl)); (case ha_36 => (simp (disch := omega) only [Act.put, List.setIfInBounds_toArray, List.set_cons_zero, List.set_cons_succ, wrap_in]; rfl)))
          (refine take_ (i := 5) (N := some 95) (v := ?v_37) (a' := ?a_37) #[true, true, true, true, true, true, false, false, false, false, false, false, false, false, false, false, false, false, false, false] rfl rfl (by kernel_rfl) (fun _ _ _ h => h) (Or.inl ⟨by rfl, ?hy_37⟩) hHeld ?ha_37 ?hh_37; (case hy_37 => (rintro w' ⟨s0_, s1_, s2_, s3_, s4_, s5_, s6_⟩; go_simp; with_reducible rfl)); (case ha_37 => (simp (disch := omega) only [Act.put, List.setIfInBounds_toArray, List.set_cons_zero, List.set_cons_succ, wrap_in]; rfl)))
          (refine take_ (i := 6) (N := some 96) (v := ?v_38) (a' := ?a_38) #[true, true, true, true, true, true, true, false, false, false, false, false, false, false, false, false, false, false, false, false] rfl rfl (by kernel_rfl) (fun _ _ _ h => h) (Or.inl ⟨by rfl, ?hy_38⟩) hHeld ?ha_38 ?hh_38; (case hy_38 => (rintro w' ⟨s0_, s1_, s2_, s3_, s4_, s5_, s6_⟩; go_simp; with_reducible rfl)); (case ha_38 => (simp (disch := omega) only [Act.put, List.setIfInBounds_toArray, List.set_cons_zero, List.set_cons_succ, wrap_in]; rfl)))
          (refine take_ (i := 7) (N := some 97) (v := ?v_39) (a' := ?a_39) #[true, true, true, true, true, true, true, true, false, false, false, false, false, false, false, false, false, false, false, false] rfl rfl (by kernel_rfl) (fun _ _ _ h => h) (Or.inl ⟨by rfl, ?hy_39⟩) hHeld ?ha_39 ?hh_39; (case hy_39 => (rintro w' ⟨s0_, s1_, s2_, s3_, s4_, s5_, s6_⟩; go_simp; with_reducible rfl)); (case ha_39 => (simp (disch := omega) only [Act.put, List.setIfInBounds_toArray, List.set_cons_zero, List.set_cons_succ, wrap_in]; rfl)))
          (refine take_ (i := 8) (N := some 98) (v := ?v_40) (a' := ?a_40) #[true, true, true, true, true, true, true, true, true, false, false, false, false, false, false, false, false, false, false, false] rfl rfl (by kernel_rfl) (fun _ _ _ h => h) (Or.inl ⟨by rfl, ?hy_40⟩) hHeld ?ha_40 ?hh_40; (case hy_40 => (rintro w' ⟨s0_, s1_, s2_, s3_, s4_, s5_, s6_⟩; go_simp; with_reducible rfl)); (case ha_40 => (simp (disch := omega) only [Act.put, List.setIfInBounds_toArray, List.set_cons_zero, List.set_cons_succ, wrap_in]; rfl)))
          (refine take_ (i := 9) (N := some 99) (v := ?v_41) (a' := ?a_41) #[true, true, true, true, true, true, true, true, true, true, false, false, false, false, false, false, false, false, false, false] rfl rfl (by kernel_rfl) (fun _ _ _ h => h) (Or.inl ⟨by rfl, ?hy_41⟩) hHeld ?ha_41 ?hh_41; (case hy_41 => (rintro w' ⟨s0_, s1_, s2_, s3_, s4_, s5_, s6_⟩; go_simp; with_reducible rfl)); (case ha_41 => (simp (disch := omega) only [Act.put, List.setIfInBounds_toArray, List.set_cons_zero, List.set_cons_succ, wrap_in]; rfl)))
          (refine take_ (i := 10) (N := some 100) (v := ?v_42) (a' := ?a_42) #[true, true, true, true, true, true, true, true, true, true, true, false, false, false, false, false, false, false, false, false] rfl rfl (by kernel_rfl) (fun _ _ _ h => h) (Or.inl ⟨by rfl, ?hy_42⟩) hHeld ?ha_42 ?hh_42; (case hy_42 => (rintro w' ⟨s0_, s1_, s2_, s3_, s4_, s5_, s6_⟩; go_simp; with_reducible rfl)); (case ha_42 => (simp (disch := omega) only [Act.put, List.setIfInBounds_toArray, List.set_cons_zero, List.set_cons_succ, wrap_in]; rfl)))
          (refine take_ (i := 11) (N := some 101) (v := ?v_43) (a' := ?a_43) #[true, true, true, true, true, true, true, true, true, true, true, true, false, false, false, false, false, false, false, false] rfl rfl (by kernel_rfl) (fun _ _ _ h => h) (Or.inl ⟨by rfl, ?hy_43⟩) hHeld ?ha_43 ?hh_43; (case hy_43 => (rintro w' ⟨s0_, s1_, s2_, s3_, s4_, s5_, s6_⟩; go_simp; with_reducible rfl)); (case ha_43 => (simp (disch := omega) only [Act.put, List.setIfInBounds_toArray, List.set_cons_zero, List.set_cons_succ, wrap_in]; rfl)))
          (refine take_ (i := 15) (N := some 105) (v := ?v_44) (a' := ?a_44) #[true, true, true, true, true, true, true, true, true, true, true, true, false, false, false, true, false, false, false, false] rfl rfl (by kernel_rfl) (fun _ _ _ h => h) (Or.inl ⟨by rfl, ?hy_44⟩) hHeld ?ha_44 ?hh_44; (case hy_44 => (rintro w' ⟨s0_, s1_, s2_, s3_, s4_, s5_, s6_⟩; go_simp; with_reducible rfl)); (case ha_44 => (simp (disch := omega) only [Act.put, List.setIfInBounds_toArray, List.set_cons_zero, List.set_cons_succ, wrap_in]; rfl)))
          (refine take_ (i := 16) (N := some 106) (v := ?v_45) (a' := ?a_45) #[true, true, true, true, true, true, true, true, true, true, true, true, false, false, false, true, true, false, false, false] rfl rfl (by kernel_rfl) (fun _ _ _ h => h) (Or.inl ⟨by rfl, ?hy_45⟩) hHeld ?ha_45 ?hh_45; (case hy_45 => (rintro w' ⟨s0_, s1_, s2_, s3_, s4_, s5_, s6_⟩; go_simp; with_reducible rfl)); (case ha_45 => (simp (disch := omega) only [Act.put, List.setIfInBounds_toArray, List.set_cons_zero, List.set_cons_succ, wrap_in]; rfl)))
          (refine take_ (i := 17) (N := some 107) (v := ?v_46) (a' := ?a_46) #[true, true, true, true, true, true, true, true, true, true, true, true, false, false, false, true, true, true, false, false] rfl rfl (by kernel_rfl) (fun _ _ _ h => h) (Or.inl ⟨by rfl, ?hy_46⟩) hHeld ?ha_46 ?hh_46; (case hy_46 => (rintro w' ⟨s0_, s1_, s2_, s3_, s4_, s5_, s6_⟩; go_simp; with_reducible rfl)); (case ha_46 => (simp (disch := omega) only [Act.put, List.setIfInBounds_toArray, List.set_cons_zero, List.set_cons_succ, wrap_in]; rfl)))
          refine one_ (i := 12) (N := some 102) #[true, true, true, true, true, true, true, true, true, true, true, true, true, false, false, true, true, true, false, false] rfl rfl (by kernel_rfl) (by decide) (fun K hK => ?_)
          (refine goes_ Try.func22 (by kernel_rfl) rfl ?args_18 (by rfl) rfl rfl ?hargs_18 ?hc_18; (case hargs_18 => (go_simp; with_reducible rfl)))
          (refine (PN.out _).mono ?_; rintro e w_ ⟨rfl, rfl⟩; refine ⟨_, rfl, ?_⟩)
          (refine hK.out _ _ ?hs_20 ?hn_20; (case hs_20 => (exact hHeld)); intro hHeld; clear hK K)
          (refine norm_ (a' := ?a_21) ?ha_21 ?hh_21; (case ha_21 => (simp (disch := omega) only [Act.put, List.setIfInBounds_toArray, List.set_cons_zero, List.set_cons_succ, wrap_in]; rfl)))
          (refine take_ (i := 13) (N := some 103) (v := ?v_22) (a' := ?a_22) #[true, true, true, true, true, true, true, true, true, true, true, true, true, true, false, true, true, true, false, false] rfl rfl (by kernel_rfl) (fun _ _ _ h => h) (Or.inl ⟨by rfl, ?hy_22⟩) hHeld ?ha_22 ?hh_22; (case hy_22 => (rintro w' ⟨s0_, s1_, s2_, s3_, s4_, s5_, s6_⟩; go_simp; with_reducible rfl)); (case ha_22 => (simp (disch := omega) only [Act.put, List.setIfInBounds_toArray, List.set_cons_zero, List.set_cons_succ, wrap_in]; rfl)))
          refine one_ (i := 14) (N := some 104) #[true, true, true, true, true, true, true, true, true, true, true, true, true, true, true, true, true, true, false, false] rfl rfl (by kernel_rfl) (by decide) (fun K hK => ?_)
          (refine value_ (v := ?v_23) (w1 := ?w1_23) (by rfl) rfl ?hr_23 ?hk_23; (case hr_23 => (go_simp; first | with_reducible rfl | (constructor <;> with_reducible rfl))))
          (refine hK.out _ _ ?hs_24 ?hn_24; (case hs_24 => (exact hHeld)); intro hHeld; clear hK K)
          (refine norm_ (a' := ?a_25) ?ha_25 ?hh_25; (case ha_25 => (simp (disch := omega) only [Act.put, List.setIfInBounds_toArray, List.set_cons_zero, List.set_cons_succ, wrap_in]; rfl)))
          refine last_ (i := 18) (N := some 108) #[true, true, true, true, true, true, true, true, true, true, true, true, true, true, true, true, true, true, true, false] rfl rfl (by kernel_rfl) (by decide) (fun K hK => ?_)
          (refine goes_ Try.func46 (by kernel_rfl) rfl ?args_26 (by rfl) rfl rfl ?hargs_26 ?hc_26; (case hargs_26 => (go_simp; with_reducible rfl)))
          (refine (HE.out _ HR.out.drew).mono ?_; rintro e w3 ⟨rfl, s', sv', hs', R3, F3⟩; refine ⟨_, rfl, ?_⟩)
          (refine hK.out _ _ ?hn_28; clear hK K hHeld)
          (refine norm_ (a' := ?a_29) ?ha_29 ?hh_29; (case ha_29 => (simp (disch := omega) only [Act.put, List.setIfInBounds_toArray, List.set_cons_zero, List.set_cons_succ, wrap_in]; rfl)))
          (refine pure_ (i := 19) (N := some 4) (v := ?v_30) (a' := ?a_30) #[true, true, true, true, true, true, true, true, true, true, true, true, true, true, true, true, true, true, true, true] rfl rfl (by kernel_rfl) (fun _ _ _ h => h) (Or.inl ⟨by rfl, ?hy_30⟩) ?ha_30 ?hh_30; (case hy_30 => (intro w'; go_simp; with_reducible rfl)); (case ha_30 => (simp (disch := omega) only [Act.put, List.setIfInBounds_toArray, List.set_cons_zero, List.set_cons_succ, wrap_in]; rfl)))
          refine done_ (by kernel_rfl) ?_
          go_wp2_with (fail)
          have fin : ∃ s' sv', (s' = s ∨ w.heap.size ≤ s') ∧ Rep w3 b g c s' sv' H1.1 ∧ Frm b g s w w3 := by
            refine ⟨s', sv', ?_, R3, HF.out.trans ((Frm.drew b g s _).trans F3 (Or.inl rfl)) (Or.inl rfl)⟩
            have := HF.out.size
            simp at hs'
            omega
          go_ret
          rw [A6.out]
          first
          | exact ⟨rfl, fin⟩
          | simpa using fin
        · obtain rfl : t5 = true := by assumption
          refine start_ (n := 20) (S := fun w' => w'.cell? ⟨b, 1, none⟩ = some (.slice (some ⟨s, 0, none⟩) W.sent.length cs) ∧ w'.cell? ⟨z, 0, none⟩ = some (.int .i64 k) ∧ w'.cell? ⟨z, 3, none⟩ = some (.int .i64 N) ∧ w'.cell? ⟨s, j * 4, none⟩ = some (.int .i64 kd) ∧ w'.cell? ⟨s, j * 4 + 1, none⟩ = some (.int .i64 e) ∧ w'.cell? ⟨s, j * 4 + 2, none⟩ = some (.int .i64 f) ∧ w'.cell? ⟨s, j * 4 + 3, none⟩ = some (.int .i64 t)) (ds := [18]) #[false, false, false, false, false, false, false, false, false, false, false, false, false, false, false, false, false, false, false, false] (by kernel_rfl) rfl rfl ⟨e1, m0, m3, x0, x1, x2, x3⟩ (fun hHeld => ?_)
          (refine take_ (i := 0) (N := some 90) (v := ?v_61) (a' := ?a_61) #[true, false, false, false, false, false, false, false, false, false, false, false, false, false, false, false, false, false, false, false] rfl rfl (by kernel_rfl) (fun _ _ _ h => h) (Or.inl ⟨by rfl, ?hy_61⟩) hHeld ?ha_61 ?hh_61; (case hy_61 => (rintro w' ⟨s0_, s1_, s2_, s3_, s4_, s5_, s6_⟩; go_simp; with_reducible rfl)); (case ha_61 => (simp (disch := omega) only [Act.put, List.setIfInBounds_toArray, List.set_cons_zero, List.set_cons_succ, wrap_in]; rfl)))
          (refine take_ (i := 1) (N := some 91) (v := ?v_62) (a' := ?a_62) #[true, true, false, false, false, false, false, false, false, false, false, false, false, false, false, false, false, false, false, false] rfl rfl (by kernel_rfl) (fun _ _ _ h => h) (Or.inl ⟨by rfl, ?hy_62⟩) hHeld ?ha_62 ?hh_62; (case hy_62 => (rintro w' ⟨s0_, s1_, s2_, s3_, s4_, s5_, s6_⟩; go_simp; with_reducible rfl)); (case ha_62 => (simp (disch := omega) only [Act.put, List.setIfInBounds_toArray, List.set_cons_zero, List.set_cons_succ, wrap_in]; rfl)))
          (refine take_ (i := 2) (N := some 92) (v := ?v_63) (a' := ?a_63) #[true, true, true, false, false, false, false, false, false, false, false, false, false, false, false, false, false, false, false, false] rfl rfl (by kernel_rfl) (fun _ _ _ h => h) (Or.inl ⟨by rfl, ?hy_63⟩) hHeld ?ha_63 ?hh_63; (case hy_63 => (rintro w' ⟨s0_, s1_, s2_, s3_, s4_, s5_, s6_⟩; go_simp; with_reducible rfl)); (case ha_63 => (simp (disch := omega) only [Act.put, List.setIfInBounds_toArray, List.set_cons_zero, List.set_cons_succ, wrap_in]; rfl)))
          (refine take_ (i := 3) (N := some 93) (v := ?v_64) (a' := ?a_64) #[true, true, true, true, false, false, false, false, false, false, false, false, false, false, false, false, false, false, false, false] rfl rfl (by kernel_rfl) (fun _ _ _ h => h) (Or.inl ⟨by rfl, ?hy_64⟩) hHeld ?ha_64 ?hh_64; (case hy_64 => (rintro w' ⟨s0_, s1_, s2_, s3_, s4_, s5_, s6_⟩; go_simp; with_reducible rfl)); (case ha_64 => (simp (disch := omega) only [Act.put, List.setIfInBounds_toArray, List.set_cons_zero, List.set_cons_succ, wrap_in]; rfl)))
          (refine take_ (i := 4) (N := some 94) (v := ?v_65) (a' := ?a_65) #[true, true, true, true, true, false, false, false, false, false, false, false, false, false, false, false, false, false, false, false] rfl rfl (by kernel_rfl) (fun _ _ _ h => h) (Or.inl ⟨by rfl, ?hy_65⟩) hHeld ?ha_65 ?hh_65; (case hy_65 => (rintro w' ⟨s0_, s1_, s2_, s3_, s4_, s5_, s6_⟩; go_simp; with_reducible rfl)); (case ha_65 => (simp (disch := omega) only [Act.put, List.setIfInBounds_toArray, List.set_cons_zero, List.set_cons_succ, wrap_in]; rfl)))
          (refine take_ (i := 5) (N := some 95) (v := ?v_66) (a' := ?a_66) #[true, true, true, true, true, true, false, false, false, false, false, false, false, false, false, false, false, false, false, false] rfl rfl (by kernel_rfl) (fun _ _ _ h => h) (Or.inl ⟨by rfl, ?hy_66⟩) hHeld ?ha_66 ?hh_66; (case hy_66 => (rintro w' ⟨s0_, s1_, s2_, s3_, s4_, s5_, s6_⟩; go_simp; with_reducible rfl)); (case ha_66 => (simp (disch := omega) only [Act.put, List.setIfInBounds_toArray, List.set_cons_zero, List.set_cons_succ, wrap_in]; rfl)))
          (refine take_ (i := 6) (N := some 96) (v := ?v_67) (a' := ?a_67) #[true, true, true, true, true, true, true, false, false, false, false, false, false, false, false, false, false, false, false, false] rfl rfl (by kernel_rfl) (fun _ _ _ h => h) (Or.inl ⟨by rfl, ?hy_67⟩) hHeld ?ha_67 ?hh_67; (case hy_67 => (rintro w' ⟨s0_, s1_, s2_, s3_, s4_, s5_, s6_⟩; go_simp; with_reducible rfl)); (case ha_67 => (simp (disch := omega) only [Act.put, List.setIfInBounds_toArray, List.set_cons_zero, List.set_cons_succ, wrap_in]; rfl)))
          (refine take_ (i := 7) (N := some 97) (v := ?v_68) (a' := ?a_68) #[true, true, true, true, true, true, true, true, false, false, false, false, false, false, false, false, false, false, false, false] rfl rfl (by kernel_rfl) (fun _ _ _ h => h) (Or.inl ⟨by rfl, ?hy_68⟩) hHeld ?ha_68 ?hh_68; (case hy_68 => (rintro w' ⟨s0_, s1_, s2_, s3_, s4_, s5_, s6_⟩; go_simp; with_reducible rfl)); (case ha_68 => (simp (disch := omega) only [Act.put, List.setIfInBounds_toArray, List.set_cons_zero, List.set_cons_succ, wrap_in]; rfl)))
          (refine take_ (i := 8) (N := some 98) (v := ?v_69) (a' := ?a_69) #[true, true, true, true, true, true, true, true, true, false, false, false, false, false, false, false, false, false, false, false] rfl rfl (by kernel_rfl) (fun _ _ _ h => h) (Or.inl ⟨by rfl, ?hy_69⟩) hHeld ?ha_69 ?hh_69; (case hy_69 => (rintro w' ⟨s0_, s1_, s2_, s3_, s4_, s5_, s6_⟩; go_simp; with_reducible rfl)); (case ha_69 => (simp (disch := omega) only [Act.put, List.setIfInBounds_toArray, List.set_cons_zero, List.set_cons_succ, wrap_in]; rfl)))
          (refine take_ (i := 9) (N := some 99) (v := ?v_70) (a' := ?a_70) #[true, true, true, true, true, true, true, true, true, true, false, false, false, false, false, false, false, false, false, false] rfl rfl (by kernel_rfl) (fun _ _ _ h => h) (Or.inl ⟨by rfl, ?hy_70⟩) hHeld ?ha_70 ?hh_70; (case hy_70 => (rintro w' ⟨s0_, s1_, s2_, s3_, s4_, s5_, s6_⟩; go_simp; with_reducible rfl)); (case ha_70 => (simp (disch := omega) only [Act.put, List.setIfInBounds_toArray, List.set_cons_zero, List.set_cons_succ, wrap_in]; rfl)))
          (refine take_ (i := 10) (N := some 100) (v := ?v_71) (a' := ?a_71) #[true, true, true, true, true, true, true, true, true, true, true, false, false, false, false, false, false, false, false, false] rfl rfl (by kernel_rfl) (fun _ _ _ h => h) (Or.inl ⟨by rfl, ?hy_71⟩) hHeld ?ha_71 ?hh_71; (case hy_71 => (rintro w' ⟨s0_, s1_, s2_, s3_, s4_, s5_, s6_⟩; go_simp; with_reducible rfl)); (case ha_71 => (simp (disch := omega) only [Act.put, List.setIfInBounds_toArray, List.set_cons_zero, List.set_cons_succ, wrap_in]; rfl)))
          (refine take_ (i := 11) (N := some 101) (v := ?v_72) (a' := ?a_72) #[true, true, true, true, true, true, true, true, true, true, true, true, false, false, false, false, false, false, false, false] rfl rfl (by kernel_rfl) (fun _ _ _ h => h) (Or.inl ⟨by rfl, ?hy_72⟩) hHeld ?ha_72 ?hh_72; (case hy_72 => (rintro w' ⟨s0_, s1_, s2_, s3_, s4_, s5_, s6_⟩; go_simp; with_reducible rfl)); (case ha_72 => (simp (disch := omega) only [Act.put, List.setIfInBounds_toArray, List.set_cons_zero, List.set_cons_succ, wrap_in]; rfl)))
          (refine take_ (i := 15) (N := some 105) (v := ?v_73) (a' := ?a_73) #[true, true, true, true, true, true, true, true, true, true, true, true, false, false, false, true, false, false, false, false] rfl rfl (by kernel_rfl) (fun _ _ _ h => h) (Or.inl ⟨by rfl, ?hy_73⟩) hHeld ?ha_73 ?hh_73; (case hy_73 => (rintro w' ⟨s0_, s1_, s2_, s3_, s4_, s5_, s6_⟩; go_simp; with_reducible rfl)); (case ha_73 => (simp (disch := omega) only [Act.put, List.setIfInBounds_toArray, List.set_cons_zero, List.set_cons_succ, wrap_in]; rfl)))
          (refine take_ (i := 16) (N := some 106) (v := ?v_74) (a' := ?a_74) #[true, true, true, true, true, true, true, true, true, true, true, true, false, false, false, true, true, false, false, false] rfl rfl (by kernel_rfl) (fun _ _ _ h => h) (Or.inl ⟨by rfl, ?hy_74⟩) hHeld ?ha_74 ?hh_74; (case hy_74 => (rintro w' ⟨s0_, s1_, s2_, s3_, s4_, s5_, s6_⟩; go_simp; with_reducible rfl)); (case ha_74 => (simp (disch := omega) only [Act.put, List.setIfInBounds_toArray, List.set_cons_zero, List.set_cons_succ, wrap_in]; rfl)))
          (refine take_ (i := 17) (N := some 107) (v := ?v_75) (a' := ?a_75) #[true, true, true, true, true, true, true, true, true, true, true, true, false, false, false, true, true, true, false, false] rfl rfl (by kernel_rfl) (fun _ _ _ h => h) (Or.inl ⟨by rfl, ?hy_75⟩) hHeld ?ha_75 ?hh_75; (case hy_75 => (rintro w' ⟨s0_, s1_, s2_, s3_, s4_, s5_, s6_⟩; go_simp; with_reducible rfl)); (case ha_75 => (simp (disch := omega) only [Act.put, List.setIfInBounds_toArray, List.set_cons_zero, List.set_cons_succ, wrap_in]; rfl)))
          refine one_ (i := 12) (N := some 102) #[true, true, true, true, true, true, true, true, true, true, true, true, true, false, false, true, true, true, false, false] rfl rfl (by kernel_rfl) (by decide) (fun K hK => ?_)
          (refine goes_ Try.func22 (by kernel_rfl) rfl ?args_47 (by rfl) rfl rfl ?hargs_47 ?hc_47; (case hargs_47 => (go_simp; with_reducible rfl)))
          (refine (PN.out _).mono ?_; rintro e w_ ⟨rfl, rfl⟩; refine ⟨_, rfl, ?_⟩)
          (refine hK.out _ _ ?hs_49 ?hn_49; (case hs_49 => (exact hHeld)); intro hHeld; clear hK K)
          (refine norm_ (a' := ?a_50) ?ha_50 ?hh_50; (case ha_50 => (simp (disch := omega) only [Act.put, List.setIfInBounds_toArray, List.set_cons_zero, List.set_cons_succ, wrap_in]; rfl)))
          (refine take_ (i := 13) (N := some 103) (v := ?v_51) (a' := ?a_51) #[true, true, true, true, true, true, true, true, true, true, true, true, true, true, false, true, true, true, false, false] rfl rfl (by kernel_rfl) (fun _ _ _ h => h) (Or.inl ⟨by rfl, ?hy_51⟩) hHeld ?ha_51 ?hh_51; (case hy_51 => (rintro w' ⟨s0_, s1_, s2_, s3_, s4_, s5_, s6_⟩; go_simp; with_reducible rfl)); (case ha_51 => (simp (disch := omega) only [Act.put, List.setIfInBounds_toArray, List.set_cons_zero, List.set_cons_succ, wrap_in]; rfl)))
          refine one_ (i := 14) (N := some 104) #[true, true, true, true, true, true, true, true, true, true, true, true, true, true, true, true, true, true, false, false] rfl rfl (by kernel_rfl) (by decide) (fun K hK => ?_)
          (refine value_ (v := ?v_52) (w1 := ?w1_52) (by rfl) rfl ?hr_52 ?hk_52; (case hr_52 => (go_simp; first | with_reducible rfl | (constructor <;> with_reducible rfl))))
          (refine hK.out _ _ ?hs_53 ?hn_53; (case hs_53 => (exact hHeld)); intro hHeld; clear hK K)
          (refine norm_ (a' := ?a_54) ?ha_54 ?hh_54; (case ha_54 => (simp (disch := omega) only [Act.put, List.setIfInBounds_toArray, List.set_cons_zero, List.set_cons_succ, wrap_in]; rfl)))
          refine last_ (i := 18) (N := some 108) #[true, true, true, true, true, true, true, true, true, true, true, true, true, true, true, true, true, true, true, false] rfl rfl (by kernel_rfl) (by decide) (fun K hK => ?_)
          (refine goes_ Try.func46 (by kernel_rfl) rfl ?args_55 (by rfl) rfl rfl ?hargs_55 ?hc_55; (case hargs_55 => (go_simp; with_reducible rfl)))
          (refine (HE.out _ HR.out.drew).mono ?_; rintro e w3 ⟨rfl, s', sv', hs', R3, F3⟩; refine ⟨_, rfl, ?_⟩)
          (refine hK.out _ _ ?hn_57; clear hK K hHeld)
          (refine norm_ (a' := ?a_58) ?ha_58 ?hh_58; (case ha_58 => (simp (disch := omega) only [Act.put, List.setIfInBounds_toArray, List.set_cons_zero, List.set_cons_succ, wrap_in]; rfl)))
          (refine pure_ (i := 19) (N := some 4) (v := ?v_59) (a' := ?a_59) #[true, true, true, true, true, true, true, true, true, true, true, true, true, true, true, true, true, true, true, true] rfl rfl (by kernel_rfl) (fun _ _ _ h => h) (Or.inl ⟨by rfl, ?hy_59⟩) ?ha_59 ?hh_59; (case hy_59 => (intro w'; go_simp; with_reducible rfl)); (case ha_59 => (simp (disch := omega) only [Act.put, List.setIfInBounds_toArray, List.set_cons_zero, List.set_cons_succ, wrap_in]; rfl)))
          refine done_ (by kernel_rfl) ?_
          go_wp2_with (fail)
          have fin : ∃ s' sv', (s' = s ∨ w.heap.size ≤ s') ∧ Rep w3 b g c s' sv' H1.1 ∧ Frm b g s w w3 := by
            refine ⟨s', sv', ?_, R3, HF.out.trans ((Frm.drew b g s _).trans F3 (Or.inl rfl)) (Or.inl rfl)⟩
            have := HF.out.size
            simp at hs'
            omega
          go_ret
          rw [A6.out]
          first
          | exact ⟨rfl, fin⟩
          | simpa using fin
      · have HS1 := Lib.hid hlen
        clear hO
        go_wp2_with (fail)
        all_goals first
        | (exfalso; have := K4.out; simp_all; done)
        | (go_ret
           rw [A6.out, if_neg HS1.out]
           exact ⟨rfl, s, _, Or.inl rfl, HR.out, HF.out⟩)
  · have h1 : (k == 1) = false := by simpa using k1
    have h2 : (k == 2) = false := by simpa using k2
    have h3 : (k == 3) = false := by simpa using k3
    have h4 : (k == 4) = false := by simp; omega
    have h5 : (k == 5) = false := by simp; omega
    have A6 := Lib.hid (A5.out k1 k2 k3 k4)
    clear A1 A2 A3 A4 A5 k1 k2 k3 k4
    go_wp2_with (fail)
    go_ret
    rw [A6.out]
    exact ⟨rfl, s, sv, Or.inl rfl, HR.out, HF.out⟩
end Go.Proofs.Ytecdmbcdkfjgfaa
