/- LedgerRows: for every row of ledgers the program's holder and soundness are the document's, and the row stays. -/
import Derived.Test.YtecdmbcdkfjgfaaG5
import Derived.Test.YtecdmbcdkfjgfaaS
import Derived.Test.YtecdmbcdkfjgfaaWLast
namespace Go.Proofs.Ytecdmbcdkfjgfaa
set_option linter.unusedVariables false
set_option linter.unusedSimpArgs false
open Go.RowKit Go.Proofs.YtecdmbcdkfjgfaaW.PrintLast

theorem opens_Lgs (W : World) : Opens Try.prog W 40 (Rd.slice RdLg 24) :=
  opens_slice Try.underlying40 (opens_Lg W) (by kernel_rfl) (by decide) (by kernel_rfl)
theorem infoLg : (Try.prog.info? 24).map (fun i => (i.zero, i.size, i.bytes)) = some (some (.agg #[.int .i64 0, .int .i64 0, .int .i64 0]), 3, 24) := by kernel_rfl
theorem lg_len (l : Lg) : l.cells.length = 3 := rfl
theorem lg_one (l : Lg) : ∀ u ∈ l.cells, u.oneCell' = true := by intro u hu; simp [Lg.cells] at hu; rcases hu with rfl | rfl | rfl <;> rfl
theorem lg_append {w : World} {g c : Nat} {xs : List Lg} (h : Own Lg.cells 24 3 w g c xs) (ys : List Lg) (A : Option Addr) (cap : Nat)
    (hys : ys ≠ [] → ∃ B O, A = some ⟨B, O, none⟩ ∧ ∀ (k : Nat) y, ys[k]? = some y → ∀ j v, y.cells[j]? = some v → w.cell? ⟨B, O + k * 3 + j, none⟩ = some v) (hb : (xs.length + ys.length) * 24 ≤ 140737488355328) :
    ∃ g' cap' w', (Builtin.append_ #[40, 40] 40 #[.slice (some ⟨g, 0, none⟩) xs.length c, .slice A ys.length cap]).run Try.prog w = .ok (.slice (some ⟨g', 0, none⟩) (xs.length + ys.length) cap') w' ∧
      Own Lg.cells 24 3 w' g' cap' (xs ++ ys) ∧ w.grownBy w' (some g) ∧ (g' = g ∨ g' = w.heap.size) := by
  obtain ⟨i, hi, hz0, hz1, hz2⟩ := info_parts infoLg
  exact own_append 40 40 Try.underlying40 hi hz0 hz1 hz2 rfl (by decide) lg_len lg_one h ys A cap hys (by simp only [maxLen]; omega) hb
theorem elems_hys {w : World} {A : Option Addr} {row : List Lg} (he : RdLg.elems w A row) : row ≠ [] → ∃ B O, A = some ⟨B, O, none⟩ ∧ ∀ (k : Nat) y, row[k]? = some y → ∀ j v, y.cells[j]? = some v → w.cell? ⟨B, O + k * 3 + j, none⟩ = some v := by
  intro hne
  obtain ⟨b, o, cs, hA, _, _⟩ := he 0 (row[0]'(List.length_pos_iff.2 hne)) (List.getElem?_eq_getElem (List.length_pos_iff.2 hne))
  refine ⟨b, o, hA, fun k y hy j v hv => ?_⟩
  obtain ⟨b', o', cs', hA', hr, hc⟩ := he k y hy
  rw [hA] at hA'
  injection hA' with hA'
  simp only [Addr.mk.injEq, and_true] at hA'
  obtain ⟨rfl, rfl⟩ := hA'
  obtain ⟨rfl, _⟩ := rdLg hr
  exact hc j v hv
theorem lg_append0 {w : World} {A : Option Addr} {cap k c0 : Nat} {row : List Lg} (h : Own Lg.cells 24 3 w k c0 []) (he : RdLg.elems w A row) (hb : row.length * 24 ≤ reach) :
    ∃ g cap' w', (Builtin.append_ #[40, 40] 40 #[.slice (some ⟨k, 0, none⟩) 0 c0, .slice A row.length cap]).run Try.prog w = .ok (.slice (some ⟨g, 0, none⟩) row.length cap') w' ∧
      Own Lg.cells 24 3 w' g cap' row ∧ w.grownBy w' (some k) ∧ (g = k ∨ g = w.heap.size) := by
  have := lg_append h row A cap (elems_hys he) (by simp only [List.length_nil, reach] at hb ⊢; omega)
  simpa using this
theorem lg_append1 {w : World} {g c k c1 : Nat} {row : List Lg} {m : Lg} (h : Own Lg.cells 24 3 w g c row) (hm : w.heap[k]? = some (.cells #[.int .i64 m.ph, .int .i64 m.ep, .int .i64 m.pe] 24 (0, 0))) (hb : row.length * 24 ≤ reach) :
    ∃ g' cap' w', (Builtin.append_ #[40, 40] 40 #[.slice (some ⟨g, 0, none⟩) row.length c, .slice (some ⟨k, 0, none⟩) 1 c1]).run Try.prog w = .ok (.slice (some ⟨g', 0, none⟩) (row.length + 1) cap') w' ∧
      Own Lg.cells 24 3 w' g' cap' (row ++ [m]) ∧ w.grownBy w' (some g) ∧ (g' = g ∨ g' = w.heap.size) :=
  lg_append h [m] (some ⟨k, 0, none⟩) c1 (fun _ => ⟨k, 0, rfl, fun i y hy j v hv => by
    cases i with
    | zero =>
      simp at hy; subst hy
      simpa using cell_blk hm j (by simpa [Lg.cells] using hv)
    | succ i => simp at hy⟩) (by simp only [List.length_cons, List.length_nil, reach] at hb ⊢; omega)
theorem own_empty (w : World) : Own Lg.cells 24 3 (w.alloc (.cells #[] 24)) w.heap.size 0 [] :=
  Own.fresh w (by decide) #[] rfl [] (Nat.le_refl _) (by simp)
theorem own_empty' (w : World) (o : Obj) : Own Lg.cells 24 3 ((w.alloc o).alloc (.cells #[] 24)) (w.heap.size + 1) 0 [] := by
  have := own_empty (w.alloc o)
  rwa [World.size_alloc] at this
theorem in64_wf {x : Int} (h : in64 x) : (Lit.int .i64 x).wf = true := h
theorem Own.elems {w : World} {g c : Nat} {xs : List Lg} (h : Own Lg.cells 24 3 w g c xs) {row : List Lg} (hle : row.length ≤ xs.length) (hr : ∀ i : Nat, i < row.length → row[i]? = xs[i]?) (hok : ∀ l ∈ row, l.ok) : RdLg.elems w (some ⟨g, 0, none⟩) row := by
  intro i x hx
  have hi : i < row.length := (List.getElem?_eq_some_iff.1 hx).1
  refine ⟨g, 0, x.cells, rfl, ?_, fun j v hv => ?_⟩
  · have := hok x (List.mem_of_getElem? hx)
    exact ⟨_, _, rfl, ⟨rfl, this.1⟩, _, _, rfl, ⟨rfl, this.2.1⟩, _, _, rfl, ⟨rfl, this.2.2⟩, rfl⟩
  · rw [Nat.zero_add]
    exact h.cell (by rw [← hr i hi]; exact hx) hv
theorem row_ok {w : World} {A : Option Addr} {row : List Lg} (he : RdLg.elems w A row) : ∀ l ∈ row, l.ok := by
  intro l hl
  obtain ⟨i, hi, rfl⟩ := List.getElem_of_mem hl
  obtain ⟨_, _, _, hok, _⟩ := lg_at he hi
  exact hok
theorem in64_ge {x : Int} (h : in64 x) : -9223372036854775808 ≤ x := by
  simp only [in64, Lit.wf, Bool.and_eq_true, decide_eq_true_eq] at h
  have h1 : IntKind.i64.min = -9223372036854775808 := by decide
  omega
theorem ep_ge {row : List Lg} (h : ∀ l ∈ row, l.ok) (k : Int) : -9223372036854775808 ≤ (lgAt row k).ep := by
  unfold lgAt
  rw [List.getD_eq_getElem?_getD]
  by_cases hk : k.toNat < row.length
  · rw [List.getElem?_eq_getElem hk]
    exact in64_ge (h _ (List.getElem_mem hk)).2.1
  · rw [List.getElem?_eq_none (by omega)]
    decide

section
variable (w : World) (A : Option Addr) (cap : Nat) {n : Nat} {row : List Lg} (hn : row.length = n) (hlen : n ≤ 9223372036854775807) (he : RdLg.elems w A row)
include hn hlen he
theorem holder_n : Calls Try.prog 15 #[.slice A n cap] w fun e w' => e = .returned (.int .i64 (holderF row)) ∧ Below w.heap.size w w' := by
  subst hn; exact holder_any w A cap row hlen he
theorem refHolder_n : Calls Try.prog 16 #[.slice A n cap] w fun e w' => e = .returned (.int .i64 (refHolderF row)) ∧ w = w' := by
  subst hn; exact refHolder_any w A cap row hlen he
theorem sound_n : Calls Try.prog 17 #[.slice A n cap] w fun e w' => e = .returned (.bool (soundF row)) ∧ Below w.heap.size w w' := by
  subst hn; exact sound_any w A cap row hlen he
theorem refSound_n : Calls Try.prog 18 #[.slice A n cap] w fun e w' => e = .returned (.bool (refSoundF row)) ∧ Below w.heap.size w w' := by
  subst hn; exact refSound_any w A cap row hlen he
end

set_option maxRecDepth 100000 in
set_option maxHeartbeats 8000000 in
theorem LedgerRows_walk (w : World) (A : Option Addr) (cap : Nat) (row : List Lg) (hc : row.length ≤ cap) (hm : cap ≤ maxLen) (hb : row.length * 24 ≤ reach) (hn : A = none → cap = 0) (he : RdLg.elems w A row) :
    Calls Try.prog 5 #[.slice A row.length cap] w fun e w' => e = .returned (.bool true) ∧ Below w.heap.size w w' := by
  have hlen := reach_maxLen (by decide) hb
  clear hm hn
  go_enter Try.func5, Try.ntmps5
  go_upto_region 2 with (fail)
  have M0 := blk_new w (.cells #[.int .i64 77, .int .i64 0, .int .i64 0] 24)
  have m0 : (w.alloc (.cells #[.int .i64 77, .int .i64 0, .int .i64 0] 24)).cell? ⟨w.heap.size, 0, none⟩ = some (.int .i64 77) := cell_blk M0 0 rfl
  have m1 : (w.alloc (.cells #[.int .i64 77, .int .i64 0, .int .i64 0] 24)).cell? ⟨w.heap.size, 1, none⟩ = some (.int .i64 0) := cell_blk M0 1 rfl
  have m2 : (w.alloc (.cells #[.int .i64 77, .int .i64 0, .int .i64 0] 24)).cell? ⟨w.heap.size, 2, none⟩ = some (.int .i64 0) := cell_blk M0 2 rfl
  have B0 : Below w.heap.size w (w.alloc (.cells #[.int .i64 77, .int .i64 0, .int .i64 0] 24)) := (Below.refl _ _).alloc (Nat.le_refl _) _
  have z0 : (w.alloc (.cells #[.int .i64 77, .int .i64 0, .int .i64 0] 24)).heap.size = w.heap.size + 1 := by simp
  generalize w.alloc (.cells #[.int .i64 77, .int .i64 0, .int .i64 0] 24) = wm at *
  have HEm := Lib.hid (Rd.elems_below B0 he)
  have HB := Lib.hid hb
  have KB := Lib.hid B0
  clear hb B0
  have Z0 := Lib.hid z0
  clear z0
  have Zs := Lib.hid (Nat.le_refl wm.heap.size)
  refine wp_cut (fun (ac : Act) (wc : World) => ∃ u1 u2 u5 u6 u7 u8 u9 u10 u11 u12 u13 u14 u15 u16 u17 u18 u19 u20 u21 u22 u23 u24 u25 u26 u27 u28 u29 u30 u31 u32 u33 u34 u35 u36 u37 u38 u39 u40 u41 u42 u43 u44 u45 u46 u47 u48 u49 u50 u51 u52 u53 u54 u55 u56 u57 u58 u59 u60 u61 u62 u63 u64 u65 u66 u67 u68 u69 u70 u71 u72 u73 u74 u75 u76 u77 u78 u79 u80 u81 u82 u83 u84 u85 u86 u87 u88 u89 v4 : Value, ((∃ g c : Nat, v4 = .slice (some ⟨g, 0, none⟩) row.length c ∧ w.heap.size < g ∧ Own Lg.cells 24 3 wc g c (row ++ [⟨77, 0, 0⟩])) ∧ wc.heap[w.heap.size]? = some (.cells #[.int .i64 77, .int .i64 0, .int .i64 0] 24 (0, 0)) ∧ Below w.heap.size w wc) ∧ ac = ({ tmps := #[.slice A row.length cap, u1, u2, .pointer (some ⟨w.heap.size, 0, none⟩), v4, u5, u6, u7, u8, u9, u10, u11, u12, u13, u14, u15, u16, u17, u18, u19, u20, u21, u22, u23, u24, u25, u26, u27, u28, u29, u30, u31, u32, u33, u34, u35, u36, u37, u38, u39, u40, u41, u42, u43, u44, u45, u46, u47, u48, u49, u50, u51, u52, u53, u54, u55, u56, u57, u58, u59, u60, u61, u62, u63, u64, u65, u66, u67, u68, u69, u70, u71, u72, u73, u74, u75, u76, u77, u78, u79, u80, u81, u82, u83, u84, u85, u86, u87, u88, u89], defers := [] } : Act)) ?rest ?first
  case' rest => (intro ac wc hcut; obtain ⟨u1, hcut⟩ := hcut; obtain ⟨u2, hcut⟩ := hcut; obtain ⟨u5, hcut⟩ := hcut; obtain ⟨u6, hcut⟩ := hcut; obtain ⟨u7, hcut⟩ := hcut; obtain ⟨u8, hcut⟩ := hcut; obtain ⟨u9, hcut⟩ := hcut; obtain ⟨u10, hcut⟩ := hcut; obtain ⟨u11, hcut⟩ := hcut; obtain ⟨u12, hcut⟩ := hcut; obtain ⟨u13, hcut⟩ := hcut; obtain ⟨u14, hcut⟩ := hcut; obtain ⟨u15, hcut⟩ := hcut; obtain ⟨u16, hcut⟩ := hcut; obtain ⟨u17, hcut⟩ := hcut; obtain ⟨u18, hcut⟩ := hcut; obtain ⟨u19, hcut⟩ := hcut; obtain ⟨u20, hcut⟩ := hcut; obtain ⟨u21, hcut⟩ := hcut; obtain ⟨u22, hcut⟩ := hcut; obtain ⟨u23, hcut⟩ := hcut; obtain ⟨u24, hcut⟩ := hcut; obtain ⟨u25, hcut⟩ := hcut; obtain ⟨u26, hcut⟩ := hcut; obtain ⟨u27, hcut⟩ := hcut; obtain ⟨u28, hcut⟩ := hcut; obtain ⟨u29, hcut⟩ := hcut; obtain ⟨u30, hcut⟩ := hcut; obtain ⟨u31, hcut⟩ := hcut; obtain ⟨u32, hcut⟩ := hcut; obtain ⟨u33, hcut⟩ := hcut; obtain ⟨u34, hcut⟩ := hcut; obtain ⟨u35, hcut⟩ := hcut; obtain ⟨u36, hcut⟩ := hcut; obtain ⟨u37, hcut⟩ := hcut; obtain ⟨u38, hcut⟩ := hcut; obtain ⟨u39, hcut⟩ := hcut; obtain ⟨u40, hcut⟩ := hcut; obtain ⟨u41, hcut⟩ := hcut; obtain ⟨u42, hcut⟩ := hcut; obtain ⟨u43, hcut⟩ := hcut; obtain ⟨u44, hcut⟩ := hcut; obtain ⟨u45, hcut⟩ := hcut; obtain ⟨u46, hcut⟩ := hcut; obtain ⟨u47, hcut⟩ := hcut; obtain ⟨u48, hcut⟩ := hcut; obtain ⟨u49, hcut⟩ := hcut; obtain ⟨u50, hcut⟩ := hcut; obtain ⟨u51, hcut⟩ := hcut; obtain ⟨u52, hcut⟩ := hcut; obtain ⟨u53, hcut⟩ := hcut; obtain ⟨u54, hcut⟩ := hcut; obtain ⟨u55, hcut⟩ := hcut; obtain ⟨u56, hcut⟩ := hcut; obtain ⟨u57, hcut⟩ := hcut; obtain ⟨u58, hcut⟩ := hcut; obtain ⟨u59, hcut⟩ := hcut; obtain ⟨u60, hcut⟩ := hcut; obtain ⟨u61, hcut⟩ := hcut; obtain ⟨u62, hcut⟩ := hcut; obtain ⟨u63, hcut⟩ := hcut; obtain ⟨u64, hcut⟩ := hcut; obtain ⟨u65, hcut⟩ := hcut; obtain ⟨u66, hcut⟩ := hcut; obtain ⟨u67, hcut⟩ := hcut; obtain ⟨u68, hcut⟩ := hcut; obtain ⟨u69, hcut⟩ := hcut; obtain ⟨u70, hcut⟩ := hcut; obtain ⟨u71, hcut⟩ := hcut; obtain ⟨u72, hcut⟩ := hcut; obtain ⟨u73, hcut⟩ := hcut; obtain ⟨u74, hcut⟩ := hcut; obtain ⟨u75, hcut⟩ := hcut; obtain ⟨u76, hcut⟩ := hcut; obtain ⟨u77, hcut⟩ := hcut; obtain ⟨u78, hcut⟩ := hcut; obtain ⟨u79, hcut⟩ := hcut; obtain ⟨u80, hcut⟩ := hcut; obtain ⟨u81, hcut⟩ := hcut; obtain ⟨u82, hcut⟩ := hcut; obtain ⟨u83, hcut⟩ := hcut; obtain ⟨u84, hcut⟩ := hcut; obtain ⟨u85, hcut⟩ := hcut; obtain ⟨u86, hcut⟩ := hcut; obtain ⟨u87, hcut⟩ := hcut; obtain ⟨u88, hcut⟩ := hcut; obtain ⟨u89, hcut⟩ := hcut; obtain ⟨v4, hcut⟩ := hcut; obtain ⟨hcut, hac⟩ := hcut; subst hac)
  case' first => intro _ _ _ _
  case first =>
    refine start_ (n := 10) (S := fun w' => w'.cell? ⟨w.heap.size, 0, none⟩ = some (.int .i64 77) ∧ w'.cell? ⟨w.heap.size, 1, none⟩ = some (.int .i64 0) ∧ w'.cell? ⟨w.heap.size, 2, none⟩ = some (.int .i64 0)) (ds := []) #[false, false, false, false, false, false, false, false, false, false] (by kernel_rfl) rfl rfl ⟨m0, m1, m2⟩ (fun hHeld => ?_)
    (refine take_ (i := 1) (N := some 10) (v := ?v_43) (a' := ?a_43) #[false, true, false, false, false, false, false, false, false, false] rfl rfl (by kernel_rfl) (fun _ _ _ h => h) (Or.inl ⟨by rfl, ?hy_43⟩) hHeld ?ha_43 ?hh_43; (case hy_43 => (rintro w' ⟨s0_, s1_, s2_⟩; go_simp; with_reducible rfl)); (case ha_43 => (simp (disch := omega) only [Act.put, List.setIfInBounds_toArray, List.set_cons_zero, List.set_cons_succ, wrap_in]; rfl)))
    (refine take_ (i := 3) (N := some 12) (v := ?v_44) (a' := ?a_44) #[false, true, false, true, false, false, false, false, false, false] rfl rfl (by kernel_rfl) (fun _ _ _ h => h) (Or.inl ⟨by rfl, ?hy_44⟩) hHeld ?ha_44 ?hh_44; (case hy_44 => (rintro w' ⟨s0_, s1_, s2_⟩; go_simp; with_reducible rfl)); (case ha_44 => (simp (disch := omega) only [Act.put, List.setIfInBounds_toArray, List.set_cons_zero, List.set_cons_succ, wrap_in]; rfl)))
    (refine take_ (i := 6) (N := some 15) (v := ?v_45) (a' := ?a_45) #[false, true, false, true, false, false, true, false, false, false] rfl rfl (by kernel_rfl) (fun _ _ _ h => h) (Or.inl ⟨by rfl, ?hy_45⟩) hHeld ?ha_45 ?hh_45; (case hy_45 => (rintro w' ⟨s0_, s1_, s2_⟩; go_simp; with_reducible rfl)); (case ha_45 => (simp (disch := omega) only [Act.put, List.setIfInBounds_toArray, List.set_cons_zero, List.set_cons_succ, wrap_in]; rfl)))
    (refine take_ (i := 7) (N := some 16) (v := ?v_46) (a' := ?a_46) #[false, true, false, true, false, false, true, true, false, false] rfl rfl (by kernel_rfl) (fun _ _ _ h => h) (Or.inl ⟨by rfl, ?hy_46⟩) hHeld ?ha_46 ?hh_46; (case hy_46 => (rintro w' ⟨s0_, s1_, s2_⟩; go_simp; with_reducible rfl)); (case ha_46 => (simp (disch := omega) only [Act.put, List.setIfInBounds_toArray, List.set_cons_zero, List.set_cons_succ, wrap_in]; rfl)))
    refine two_ (i := 0) (j := 4) (Ni := some 9) (Nj := some 13) #[true, true, false, true, false, false, true, true, false, false] #[false, true, false, true, true, false, true, true, false, false] rfl rfl rfl rfl (by kernel_rfl) (by decide) (by decide) (fun K hK => ?b1_1) (fun K hK => ?b2_1)
    (case' b1_1 => ((refine value_ (v := ?v_2) (w1 := ?w1_2) (by rfl) rfl ?hr_2 ?hk_2; (case hr_2 => (go_simp; first | with_reducible rfl | (constructor <;> with_reducible rfl)))); (refine hK.out _ _ ?hs_3 ?hn_3; (case hs_3 => (obtain ⟨s0_, s1_, s2_⟩ := hHeld; exact ⟨cell_alloc_old s0_ _, cell_alloc_old s1_ _, cell_alloc_old s2_ _⟩)); intro hHeld; clear hK K); (refine norm_ (a' := ?a_4) ?ha_4 ?hh_4; (case ha_4 => (simp (disch := omega) only [Act.put, List.setIfInBounds_toArray, List.set_cons_zero, List.set_cons_succ, wrap_in]; rfl))); refine two_ (i := 2) (j := 4) (Ni := some 11) (Nj := some 13) #[true, true, true, true, false, false, true, true, false, false] #[true, true, false, true, true, false, true, true, false, false] rfl rfl rfl rfl (by kernel_rfl) (by decide) (by decide) (fun K hK => ?b1_5) (fun K hK => ?b2_5); (case' b1_5 => ((have B0_ := ((Below.refl wm.heap.size wm).alloc (Nat.le_refl _) (.cells #[] 24)).drew; obtain ⟨g1, c1, w1, hrun, O1, G1, at1⟩ := lg_append0 (cap := cap) (own_empty wm).drew (Rd.elems_below (B0_.mono (Nat.le_refl _)) HEm.out) HB.out; have L1 : w.heap.size < g1 := (by have := Z0.out; rcases at1 with h | h <;> (try simp at h) <;> omega); have B1 : Below wm.heap.size wm w1 := B0_.grown G1 (by simp <;> omega) (by intro k hk; injection hk with hk; omega); have Lg1 : wm.heap.size ≤ g1 := (by rcases at1 with h | h <;> (try simp at h) <;> omega); refine value_ (by rfl) rfl (runapp_ hrun (by rfl) (by rfl) (by rfl) (by rfl)) ?hk_6); (refine hK.out _ _ ?hs_7 ?hn_7; (case hs_7 => (obtain ⟨s0_, s1_, s2_⟩ := hHeld; have hne : ∀ k, k = wm.heap.size ∨ k = wm.heap.size + 1 → some w.heap.size ≠ some k := (by intro k hk h; injection h with h; have := Z0.out; omega); exact ⟨G1.cell s0_ (hne _ (by simp)), G1.cell s1_ (hne _ (by simp)), G1.cell s2_ (hne _ (by simp))⟩)); intro hHeld; clear hK K); (refine norm_ (a' := ?a_8) ?ha_8 ?hh_8; (case ha_8 => (simp (disch := omega) only [Act.put, List.setIfInBounds_toArray, List.set_cons_zero, List.set_cons_succ, wrap_in]; rfl))); refine one_ (i := 4) (N := some 13) #[true, true, true, true, true, false, true, true, false, false] rfl rfl (by kernel_rfl) (by decide) (fun K hK => ?_); (refine value_ (v := ?v_9) (w1 := ?w1_9) (by rfl) rfl ?hr_9 ?hk_9; (case hr_9 => (go_simp; first | with_reducible rfl | (constructor <;> with_reducible rfl)))); (refine hK.out _ _ ?hs_10 ?hn_10; (case hs_10 => (obtain ⟨s0_, s1_, s2_⟩ := hHeld; exact ⟨cell_alloc_old s0_ _, cell_alloc_old s1_ _, cell_alloc_old s2_ _⟩)); intro hHeld; clear hK K); (refine norm_ (a' := ?a_11) ?ha_11 ?hh_11; (case ha_11 => (simp (disch := omega) only [Act.put, List.setIfInBounds_toArray, List.set_cons_zero, List.set_cons_succ, wrap_in]; rfl))); refine one_ (i := 5) (N := some 14) #[true, true, true, true, true, true, true, true, false, false] rfl rfl (by kernel_rfl) (by decide) (fun K hK => ?_); (obtain ⟨g2, c2, w2, hrun, O2, G2, at2⟩ := lg_append1 (c1 := 1) (m := ⟨77, 0, 0⟩) (O1.alloc _) (blk_new w1 _) HB.out; have B0_ : Below wm.heap.size wm _ := B1.alloc B1.size (.cells #[.int .i64 77, .int .i64 0, .int .i64 0] 24); have B2 : Below wm.heap.size wm w2 := B0_.grown G2 B0_.size (by intro k hk; injection hk with hk; omega); have C2 : row.length ≤ c2 := (by have := O2.le; simp at this; omega); have L2 : w.heap.size < g2 := (by have := Z0.out; have := B1.size; rcases at2 with h | h <;> (try simp at h) <;> omega); refine value_ (by rfl) rfl (runapp_ hrun (by rfl) (by rfl) (by rfl) (by rfl)) ?hk_12); (refine hK.out _ _ ?hs_13 ?hn_13; (case hs_13 => (obtain ⟨s0_, s1_, s2_⟩ := hHeld; have hne : some w.heap.size ≠ some g1 := (by intro h; injection h with h; omega); exact ⟨G2.cell s0_ hne, G2.cell s1_ hne, G2.cell s2_ hne⟩)); intro hHeld; clear hK K); (refine norm_ (a' := ?a_14) ?ha_14 ?hh_14; (case ha_14 => (simp (disch := omega) only [Act.put, List.setIfInBounds_toArray, List.set_cons_zero, List.set_cons_succ, wrap_in]; rfl))); (refine take_ (i := 8) (N := some 17) (v := ?v_15) (a' := ?a_15) #[true, true, true, true, true, true, true, true, true, false] rfl rfl (by kernel_rfl) (fun _ _ _ h => h) (Or.inl ⟨by rfl, ?hy_15⟩) hHeld ?ha_15 ?hh_15; (case hy_15 => (rintro w' ⟨s0_, s1_, s2_⟩; go_simp; with_reducible rfl)); (case ha_15 => (simp (disch := omega) only [Act.put, List.setIfInBounds_toArray, List.set_cons_zero, List.set_cons_succ, wrap_in]; rfl))); (refine take_ (i := 9) (N := some 4) (v := ?v_16) (a' := ?a_16) #[true, true, true, true, true, true, true, true, true, true] rfl rfl (by kernel_rfl) (fun _ _ _ h => h) (Or.inl ⟨by rfl, ?hy_16⟩) hHeld ?ha_16 ?hh_16; (case hy_16 => (rintro w' ⟨s0_, s1_, s2_⟩; go_simp; with_reducible rfl)); (case ha_16 => (simp (disch := omega) only [Act.put, List.setIfInBounds_toArray, List.set_cons_zero, List.set_cons_succ, wrap_in]; rfl))); refine done_ (by kernel_rfl) ?_)); (case' b2_5 => ((refine value_ (v := ?v_17) (w1 := ?w1_17) (by rfl) rfl ?hr_17 ?hk_17; (case hr_17 => (go_simp; first | with_reducible rfl | (constructor <;> with_reducible rfl)))); (refine hK.out _ _ ?hs_18 ?hn_18; (case hs_18 => (obtain ⟨s0_, s1_, s2_⟩ := hHeld; exact ⟨cell_alloc_old s0_ _, cell_alloc_old s1_ _, cell_alloc_old s2_ _⟩)); intro hHeld; clear hK K); (refine norm_ (a' := ?a_19) ?ha_19 ?hh_19; (case ha_19 => (simp (disch := omega) only [Act.put, List.setIfInBounds_toArray, List.set_cons_zero, List.set_cons_succ, wrap_in]; rfl))); refine one_ (i := 2) (N := some 11) #[true, true, true, true, true, false, true, true, false, false] rfl rfl (by kernel_rfl) (by decide) (fun K hK => ?_); (have B0_ := (((Below.refl wm.heap.size wm).alloc (Nat.le_refl _) (.cells #[] 24)).alloc (by simp) (.cells #[.int .i64 77, .int .i64 0, .int .i64 0] 24)).drew; obtain ⟨g1, c1, w1, hrun, O1, G1, at1⟩ := lg_append0 (cap := cap) ((own_empty wm).alloc _).drew (Rd.elems_below (B0_.mono (Nat.le_refl _)) HEm.out) HB.out; have L1 : w.heap.size < g1 := (by have := Z0.out; rcases at1 with h | h <;> (try simp at h) <;> omega); have B1 : Below wm.heap.size wm w1 := B0_.grown G1 (by simp <;> omega) (by intro k hk; injection hk with hk; omega); have Lg1 : wm.heap.size ≤ g1 := (by rcases at1 with h | h <;> (try simp at h) <;> omega); refine value_ (by rfl) rfl (runapp_ hrun (by rfl) (by rfl) (by rfl) (by rfl)) ?hk_20); (refine hK.out _ _ ?hs_21 ?hn_21; (case hs_21 => (obtain ⟨s0_, s1_, s2_⟩ := hHeld; have hne : ∀ k, k = wm.heap.size ∨ k = wm.heap.size + 1 → some w.heap.size ≠ some k := (by intro k hk h; injection h with h; have := Z0.out; omega); exact ⟨G1.cell s0_ (hne _ (by simp)), G1.cell s1_ (hne _ (by simp)), G1.cell s2_ (hne _ (by simp))⟩)); intro hHeld; clear hK K); (refine norm_ (a' := ?a_22) ?ha_22 ?hh_22; (case ha_22 => (simp (disch := omega) only [Act.put, List.setIfInBounds_toArray, List.set_cons_zero, List.set_cons_succ, wrap_in]; rfl))); refine one_ (i := 5) (N := some 14) #[true, true, true, true, true, true, true, true, false, false] rfl rfl (by kernel_rfl) (by decide) (fun K hK => ?_); (obtain ⟨g2, c2, w2, hrun, O2, G2, at2⟩ := lg_append1 (c1 := 1) (m := ⟨77, 0, 0⟩) O1 ((G1.block _ (by simp) (by simp)).trans (two_blks wm _ _).2) HB.out; have B0_ : Below wm.heap.size wm _ := B1; have B2 : Below wm.heap.size wm w2 := B0_.grown G2 B0_.size (by intro k hk; injection hk with hk; omega); have C2 : row.length ≤ c2 := (by have := O2.le; simp at this; omega); have L2 : w.heap.size < g2 := (by have := Z0.out; have := B1.size; rcases at2 with h | h <;> (try simp at h) <;> omega); refine value_ (by rfl) rfl (runapp_ hrun (by rfl) (by rfl) (by rfl) (by rfl)) ?hk_23); (refine hK.out _ _ ?hs_24 ?hn_24; (case hs_24 => (obtain ⟨s0_, s1_, s2_⟩ := hHeld; have hne : some w.heap.size ≠ some g1 := (by intro h; injection h with h; omega); exact ⟨G2.cell s0_ hne, G2.cell s1_ hne, G2.cell s2_ hne⟩)); intro hHeld; clear hK K); (refine norm_ (a' := ?a_25) ?ha_25 ?hh_25; (case ha_25 => (simp (disch := omega) only [Act.put, List.setIfInBounds_toArray, List.set_cons_zero, List.set_cons_succ, wrap_in]; rfl))); (refine take_ (i := 8) (N := some 17) (v := ?v_26) (a' := ?a_26) #[true, true, true, true, true, true, true, true, true, false] rfl rfl (by kernel_rfl) (fun _ _ _ h => h) (Or.inl ⟨by rfl, ?hy_26⟩) hHeld ?ha_26 ?hh_26; (case hy_26 => (rintro w' ⟨s0_, s1_, s2_⟩; go_simp; with_reducible rfl)); (case ha_26 => (simp (disch := omega) only [Act.put, List.setIfInBounds_toArray, List.set_cons_zero, List.set_cons_succ, wrap_in]; rfl))); (refine take_ (i := 9) (N := some 4) (v := ?v_27) (a' := ?a_27) #[true, true, true, true, true, true, true, true, true, true] rfl rfl (by kernel_rfl) (fun _ _ _ h => h) (Or.inl ⟨by rfl, ?hy_27⟩) hHeld ?ha_27 ?hh_27; (case hy_27 => (rintro w' ⟨s0_, s1_, s2_⟩; go_simp; with_reducible rfl)); (case ha_27 => (simp (disch := omega) only [Act.put, List.setIfInBounds_toArray, List.set_cons_zero, List.set_cons_succ, wrap_in]; rfl))); refine done_ (by kernel_rfl) ?_))))
    (case' b2_1 => ((refine value_ (v := ?v_28) (w1 := ?w1_28) (by rfl) rfl ?hr_28 ?hk_28; (case hr_28 => (go_simp; first | with_reducible rfl | (constructor <;> with_reducible rfl)))); (refine hK.out _ _ ?hs_29 ?hn_29; (case hs_29 => (obtain ⟨s0_, s1_, s2_⟩ := hHeld; exact ⟨cell_alloc_old s0_ _, cell_alloc_old s1_ _, cell_alloc_old s2_ _⟩)); intro hHeld; clear hK K); (refine norm_ (a' := ?a_30) ?ha_30 ?hh_30; (case ha_30 => (simp (disch := omega) only [Act.put, List.setIfInBounds_toArray, List.set_cons_zero, List.set_cons_succ, wrap_in]; rfl))); refine one_ (i := 0) (N := some 9) #[true, true, false, true, true, false, true, true, false, false] rfl rfl (by kernel_rfl) (by decide) (fun K hK => ?_); (refine value_ (v := ?v_31) (w1 := ?w1_31) (by rfl) rfl ?hr_31 ?hk_31; (case hr_31 => (go_simp; first | with_reducible rfl | (constructor <;> with_reducible rfl)))); (refine hK.out _ _ ?hs_32 ?hn_32; (case hs_32 => (obtain ⟨s0_, s1_, s2_⟩ := hHeld; exact ⟨cell_alloc_old s0_ _, cell_alloc_old s1_ _, cell_alloc_old s2_ _⟩)); intro hHeld; clear hK K); (refine norm_ (a' := ?a_33) ?ha_33 ?hh_33; (case ha_33 => (simp (disch := omega) only [Act.put, List.setIfInBounds_toArray, List.set_cons_zero, List.set_cons_succ, wrap_in]; rfl))); refine one_ (i := 2) (N := some 11) #[true, true, true, true, true, false, true, true, false, false] rfl rfl (by kernel_rfl) (by decide) (fun K hK => ?_); (have B0_ := (((Below.refl wm.heap.size wm).alloc (Nat.le_refl _) (.cells #[.int .i64 77, .int .i64 0, .int .i64 0] 24)).alloc (by simp) (.cells #[] 24)).drew; obtain ⟨g1, c1, w1, hrun, O1, G1, at1⟩ := lg_append0 (cap := cap) (own_empty' wm _).drew (Rd.elems_below (B0_.mono (Nat.le_refl _)) HEm.out) HB.out; have L1 : w.heap.size < g1 := (by have := Z0.out; rcases at1 with h | h <;> (try simp at h) <;> omega); have B1 : Below wm.heap.size wm w1 := B0_.grown G1 (by simp <;> omega) (by intro k hk; injection hk with hk; omega); have Lg1 : wm.heap.size ≤ g1 := (by rcases at1 with h | h <;> (try simp at h) <;> omega); refine value_ (by rfl) rfl (runapp_ hrun (by rfl) (by rfl) (by rfl) (by rfl)) ?hk_34); (refine hK.out _ _ ?hs_35 ?hn_35; (case hs_35 => (obtain ⟨s0_, s1_, s2_⟩ := hHeld; have hne : ∀ k, k = wm.heap.size ∨ k = wm.heap.size + 1 → some w.heap.size ≠ some k := (by intro k hk h; injection h with h; have := Z0.out; omega); exact ⟨G1.cell s0_ (hne _ (by simp)), G1.cell s1_ (hne _ (by simp)), G1.cell s2_ (hne _ (by simp))⟩)); intro hHeld; clear hK K); (refine norm_ (a' := ?a_36) ?ha_36 ?hh_36; (case ha_36 => (simp (disch := omega) only [Act.put, List.setIfInBounds_toArray, List.set_cons_zero, List.set_cons_succ, wrap_in]; rfl))); refine one_ (i := 5) (N := some 14) #[true, true, true, true, true, true, true, true, false, false] rfl rfl (by kernel_rfl) (by decide) (fun K hK => ?_); (obtain ⟨g2, c2, w2, hrun, O2, G2, at2⟩ := lg_append1 (c1 := 1) (m := ⟨77, 0, 0⟩) O1 ((G1.block _ (by simp; omega) (by simp)).trans (two_blks wm _ _).1) HB.out; have B0_ : Below wm.heap.size wm _ := B1; have B2 : Below wm.heap.size wm w2 := B0_.grown G2 B0_.size (by intro k hk; injection hk with hk; omega); have C2 : row.length ≤ c2 := (by have := O2.le; simp at this; omega); have L2 : w.heap.size < g2 := (by have := Z0.out; have := B1.size; rcases at2 with h | h <;> (try simp at h) <;> omega); refine value_ (by rfl) rfl (runapp_ hrun (by rfl) (by rfl) (by rfl) (by rfl)) ?hk_37); (refine hK.out _ _ ?hs_38 ?hn_38; (case hs_38 => (obtain ⟨s0_, s1_, s2_⟩ := hHeld; have hne : some w.heap.size ≠ some g1 := (by intro h; injection h with h; omega); exact ⟨G2.cell s0_ hne, G2.cell s1_ hne, G2.cell s2_ hne⟩)); intro hHeld; clear hK K); (refine norm_ (a' := ?a_39) ?ha_39 ?hh_39; (case ha_39 => (simp (disch := omega) only [Act.put, List.setIfInBounds_toArray, List.set_cons_zero, List.set_cons_succ, wrap_in]; rfl))); (refine take_ (i := 8) (N := some 17) (v := ?v_40) (a' := ?a_40) #[true, true, true, true, true, true, true, true, true, false] rfl rfl (by kernel_rfl) (fun _ _ _ h => h) (Or.inl ⟨by rfl, ?hy_40⟩) hHeld ?ha_40 ?hh_40; (case hy_40 => (rintro w' ⟨s0_, s1_, s2_⟩; go_simp; with_reducible rfl)); (case ha_40 => (simp (disch := omega) only [Act.put, List.setIfInBounds_toArray, List.set_cons_zero, List.set_cons_succ, wrap_in]; rfl))); (refine take_ (i := 9) (N := some 4) (v := ?v_41) (a' := ?a_41) #[true, true, true, true, true, true, true, true, true, true] rfl rfl (by kernel_rfl) (fun _ _ _ h => h) (Or.inl ⟨by rfl, ?hy_41⟩) hHeld ?ha_41 ?hh_41; (case hy_41 => (rintro w' ⟨s0_, s1_, s2_⟩; go_simp; with_reducible rfl)); (case ha_41 => (simp (disch := omega) only [Act.put, List.setIfInBounds_toArray, List.set_cons_zero, List.set_cons_succ, wrap_in]; rfl))); refine done_ (by kernel_rfl) ?_))
    all_goals go_wp2_with (fail)
    all_goals go_meet
    all_goals exact ⟨⟨g2, c2, rfl, L2, O2⟩, blk_below M0 B2, KB.out.trans (B2.mono KB.out.size)⟩
  case rest =>
    obtain ⟨⟨g, c, rfl, hg, O⟩, MB, hB⟩ := hcut
    have hok := row_ok he
    have hep := ep_ge hok
    have Ein : RdLg.elems wc (some ⟨g, 0, none⟩) row := Own.elems O (by simp) (fun i hi => by rw [List.getElem?_append_left hi]) hok
    have Erow := Rd.elems_below hB he
    have OH := Lib.hid O
    have MH := Lib.hid MB
    have BH := Lib.hid hB
    have OK := Lib.hid hok
    have EP := Lib.hid hep
    have HE := Lib.hid he
    have HE1 := Lib.hid Ein
    have HE2 := Lib.hid Erow
    clear O MB hB hok hep he Ein Erow m0 m1 m2 M0 HEm KB Z0 Zs
    go_wp2_with (fail)
    refine (holder_any wc _ _ row hlen HE1.out).mono ?_
    rintro e w1 ⟨rfl, hb1⟩
    have H1 := Lib.hid hb1
    clear hb1
    go_wp2_with (fail)
    refine (refHolder_any w1 _ _ row hlen (Rd.elems_below (H1.out.mono (Nat.le_refl _)) HE2.out)).mono ?_
    rintro e w2 ⟨rfl, rfl⟩
    rw [← holder_eq row EP.out]
    go_wp2_with (fail)
    refine (sound_any w1 _ _ row hlen (Rd.elems_below H1.out HE1.out)).mono ?_
    rintro e w2 ⟨rfl, hb2⟩
    have H2 := Lib.hid (H1.out.trans (hb2.mono H1.out.size))
    clear hb2
    go_wp2_with (fail)
    refine (refSound_any w2 _ _ row hlen (Rd.elems_below H2.out HE2.out)).mono ?_
    rintro e w3 ⟨rfl, hb3⟩
    have H3 := Lib.hid (H2.out.trans (hb3.mono H2.out.size))
    clear hb3
    rw [← sound_eq row EP.out]
    generalize soundF row = sb
    have O3 := Lib.hid (OH.out.below H3.out)
    have M3 := Lib.hid (blk_below MH.out H3.out)
    have B3 := Lib.hid (BH.out.trans (H3.out.mono BH.out.size))
    clear OH MH BH H1 H2 H3 HE1 HE2
    go_wp2_with (fail)
    have hlen' : row.length ≤ 6000000000000 := by have := HB.out; simp only [reach] at this; omega
    refine wp_loop_ghost_k (fun (n : Nat) (ac : Act) (wr : World) => ∃ u1 u2 u6 u7 u8 u9 u10 u11 u12 u13 u14 u15 u16 u17 u18 u19 u20 u21 u22 u23 u24 u25 u26 u27 u28 u29 u30 u31 u32 u33 u34 u35 u36 u37 u38 u39 u40 u41 u42 u43 u44 u45 u46 u47 u48 u49 u50 u51 u52 u53 u54 u55 u56 u57 u58 u59 u60 u61 u62 u63 u64 u65 u66 u67 u68 u69 u70 u71 u72 u73 u74 u75 u76 u77 u78 u79 u80 u81 u82 u83 u84 u85 u86 u87 u88 u89 v5 : Value, (∃ i : Nat, n + i = row.length ∧ v5 = .int .i64 i ∧ Own Lg.cells 24 3 wr g c (row ++ [⟨77, 0, 0⟩]) ∧ wr.heap[w.heap.size]? = some (.cells #[.int .i64 77, .int .i64 0, .int .i64 0] 24 (0, 0)) ∧ Below w.heap.size w wr) ∧ ac = ({ tmps := #[.slice A row.length cap, u1, u2, .pointer (some ⟨w.heap.size, 0, none⟩), .slice (some ⟨g, 0, none⟩) row.length c, v5, u6, u7, u8, u9, u10, u11, u12, u13, u14, u15, u16, u17, u18, u19, u20, u21, u22, u23, u24, u25, u26, u27, u28, u29, u30, u31, u32, u33, u34, u35, u36, u37, u38, u39, u40, u41, u42, u43, u44, u45, u46, u47, u48, u49, u50, u51, u52, u53, u54, u55, u56, u57, u58, u59, u60, u61, u62, u63, u64, u65, u66, u67, u68, u69, u70, u71, u72, u73, u74, u75, u76, u77, u78, u79, u80, u81, u82, u83, u84, u85, u86, u87, u88, u89], defers := [] } : Act)) (row.length) ?atStart ?round
    case' atStart => ((repeat apply Exists.intro); refine ⟨?_, rfl⟩)
    case' round => (intro n ac wr hcut; obtain ⟨u1, hcut⟩ := hcut; obtain ⟨u2, hcut⟩ := hcut; obtain ⟨u6, hcut⟩ := hcut; obtain ⟨u7, hcut⟩ := hcut; obtain ⟨u8, hcut⟩ := hcut; obtain ⟨u9, hcut⟩ := hcut; obtain ⟨u10, hcut⟩ := hcut; obtain ⟨u11, hcut⟩ := hcut; obtain ⟨u12, hcut⟩ := hcut; obtain ⟨u13, hcut⟩ := hcut; obtain ⟨u14, hcut⟩ := hcut; obtain ⟨u15, hcut⟩ := hcut; obtain ⟨u16, hcut⟩ := hcut; obtain ⟨u17, hcut⟩ := hcut; obtain ⟨u18, hcut⟩ := hcut; obtain ⟨u19, hcut⟩ := hcut; obtain ⟨u20, hcut⟩ := hcut; obtain ⟨u21, hcut⟩ := hcut; obtain ⟨u22, hcut⟩ := hcut; obtain ⟨u23, hcut⟩ := hcut; obtain ⟨u24, hcut⟩ := hcut; obtain ⟨u25, hcut⟩ := hcut; obtain ⟨u26, hcut⟩ := hcut; obtain ⟨u27, hcut⟩ := hcut; obtain ⟨u28, hcut⟩ := hcut; obtain ⟨u29, hcut⟩ := hcut; obtain ⟨u30, hcut⟩ := hcut; obtain ⟨u31, hcut⟩ := hcut; obtain ⟨u32, hcut⟩ := hcut; obtain ⟨u33, hcut⟩ := hcut; obtain ⟨u34, hcut⟩ := hcut; obtain ⟨u35, hcut⟩ := hcut; obtain ⟨u36, hcut⟩ := hcut; obtain ⟨u37, hcut⟩ := hcut; obtain ⟨u38, hcut⟩ := hcut; obtain ⟨u39, hcut⟩ := hcut; obtain ⟨u40, hcut⟩ := hcut; obtain ⟨u41, hcut⟩ := hcut; obtain ⟨u42, hcut⟩ := hcut; obtain ⟨u43, hcut⟩ := hcut; obtain ⟨u44, hcut⟩ := hcut; obtain ⟨u45, hcut⟩ := hcut; obtain ⟨u46, hcut⟩ := hcut; obtain ⟨u47, hcut⟩ := hcut; obtain ⟨u48, hcut⟩ := hcut; obtain ⟨u49, hcut⟩ := hcut; obtain ⟨u50, hcut⟩ := hcut; obtain ⟨u51, hcut⟩ := hcut; obtain ⟨u52, hcut⟩ := hcut; obtain ⟨u53, hcut⟩ := hcut; obtain ⟨u54, hcut⟩ := hcut; obtain ⟨u55, hcut⟩ := hcut; obtain ⟨u56, hcut⟩ := hcut; obtain ⟨u57, hcut⟩ := hcut; obtain ⟨u58, hcut⟩ := hcut; obtain ⟨u59, hcut⟩ := hcut; obtain ⟨u60, hcut⟩ := hcut; obtain ⟨u61, hcut⟩ := hcut; obtain ⟨u62, hcut⟩ := hcut; obtain ⟨u63, hcut⟩ := hcut; obtain ⟨u64, hcut⟩ := hcut; obtain ⟨u65, hcut⟩ := hcut; obtain ⟨u66, hcut⟩ := hcut; obtain ⟨u67, hcut⟩ := hcut; obtain ⟨u68, hcut⟩ := hcut; obtain ⟨u69, hcut⟩ := hcut; obtain ⟨u70, hcut⟩ := hcut; obtain ⟨u71, hcut⟩ := hcut; obtain ⟨u72, hcut⟩ := hcut; obtain ⟨u73, hcut⟩ := hcut; obtain ⟨u74, hcut⟩ := hcut; obtain ⟨u75, hcut⟩ := hcut; obtain ⟨u76, hcut⟩ := hcut; obtain ⟨u77, hcut⟩ := hcut; obtain ⟨u78, hcut⟩ := hcut; obtain ⟨u79, hcut⟩ := hcut; obtain ⟨u80, hcut⟩ := hcut; obtain ⟨u81, hcut⟩ := hcut; obtain ⟨u82, hcut⟩ := hcut; obtain ⟨u83, hcut⟩ := hcut; obtain ⟨u84, hcut⟩ := hcut; obtain ⟨u85, hcut⟩ := hcut; obtain ⟨u86, hcut⟩ := hcut; obtain ⟨u87, hcut⟩ := hcut; obtain ⟨u88, hcut⟩ := hcut; obtain ⟨u89, hcut⟩ := hcut; obtain ⟨v5, hcut⟩ := hcut; obtain ⟨hcut, hac⟩ := hcut; subst hac; intro _ _ _ _)
    case atStart => exact ⟨0, rfl, rfl, O3.out, M3.out, B3.out⟩
    case round =>
      obtain ⟨i, hi, rfl, hO, hM, hB⟩ := hcut
      have HI := Lib.hid hi
      have hile : i ≤ row.length := by omega
      clear hi
      by_cases hlt : i < row.length
      · have Ein : RdLg.elems wr (some ⟨g, 0, none⟩) row := Own.elems hO (by simp) (fun i hi => by rw [List.getElem?_append_left hi]) OK.out
        obtain ⟨b, o, rfl, _, c0, c1, c2⟩ := lg_at (Rd.elems_below hB HE.out) hlt
        obtain ⟨b', o', hA', _, d0, d1, d2⟩ := lg_at Ein hlt
        injection hA' with hA'
        simp only [Addr.mk.injEq, and_true] at hA'
        obtain ⟨rfl, rfl⟩ := hA'
        have HO := Lib.hid hO
        have HM := Lib.hid hM
        have KB := Lib.hid hB
        clear hO hM hB Ein
        simp only [Nat.zero_add] at d0 d1 d2
        generalize row[i] = l at *
        obtain ⟨ph, ep, pe⟩ := l
        simp only at c0 c1 c2 d0 d1 d2
        have q0 : (0 : Int) ≤ (i : Int) := by omega
        have q1 : (i : Int) < (row.length : Int) := by omega
        go_wp2_with (fail)
        refine start_ (n := 9) (S := fun w' => w'.cell? ⟨g, i * 3, none⟩ = some (.int .i64 ph) ∧ w'.cell? ⟨g, i * 3 + 1, none⟩ = some (.int .i64 ep) ∧ w'.cell? ⟨g, i * 3 + 2, none⟩ = some (.int .i64 pe) ∧ w'.cell? ⟨b, o + i * 3, none⟩ = some (.int .i64 ph) ∧ w'.cell? ⟨b, o + i * 3 + 1, none⟩ = some (.int .i64 ep) ∧ w'.cell? ⟨b, o + i * 3 + 2, none⟩ = some (.int .i64 pe)) (ds := []) #[false, false, false, false, false, false, false, false, false] (by kernel_rfl) rfl rfl ⟨d0, d1, d2, c0, c1, c2⟩ (fun hHeld => ?_)
        (refine take_ (i := 0) (N := some 36) (v := ?v_48) (a' := ?a_48) #[true, false, false, false, false, false, false, false, false] rfl rfl (by kernel_rfl) (fun _ _ _ h => h) (Or.inl ⟨by rfl, ?hy_48⟩) hHeld ?ha_48 ?hh_48; (case hy_48 => (rintro w' ⟨s0_, s1_, s2_, s3_, s4_, s5_⟩; go_simp; with_reducible rfl)); (case ha_48 => (simp (disch := omega) only [Act.put, List.setIfInBounds_toArray, List.set_cons_zero, List.set_cons_succ, wrap_in]; rfl)))
        (refine take_ (i := 1) (N := some 37) (v := ?v_49) (a' := ?a_49) #[true, true, false, false, false, false, false, false, false] rfl rfl (by kernel_rfl) (fun _ _ _ h => h) (Or.inl ⟨by rfl, ?hy_49⟩) hHeld ?ha_49 ?hh_49; (case hy_49 => (rintro w' ⟨s0_, s1_, s2_, s3_, s4_, s5_⟩; go_simp; with_reducible rfl)); (case ha_49 => (simp (disch := omega) only [Act.put, List.setIfInBounds_toArray, List.set_cons_zero, List.set_cons_succ, wrap_in]; rfl)))
        (refine take_ (i := 2) (N := some 38) (v := ?v_50) (a' := ?a_50) #[true, true, true, false, false, false, false, false, false] rfl rfl (by kernel_rfl) (fun _ _ _ h => h) (Or.inl ⟨by rfl, ?hy_50⟩) hHeld ?ha_50 ?hh_50; (case hy_50 => (rintro w' ⟨s0_, s1_, s2_, s3_, s4_, s5_⟩; go_simp; with_reducible rfl)); (case ha_50 => (simp (disch := omega) only [Act.put, List.setIfInBounds_toArray, List.set_cons_zero, List.set_cons_succ, wrap_in]; rfl)))
        (refine take_ (i := 3) (N := some 39) (v := ?v_51) (a' := ?a_51) #[true, true, true, true, false, false, false, false, false] rfl rfl (by kernel_rfl) (fun _ _ _ h => h) (Or.inl ⟨by rfl, ?hy_51⟩) hHeld ?ha_51 ?hh_51; (case hy_51 => (rintro w' ⟨s0_, s1_, s2_, s3_, s4_, s5_⟩; go_simp; with_reducible rfl)); (case ha_51 => (simp (disch := omega) only [Act.put, List.setIfInBounds_toArray, List.set_cons_zero, List.set_cons_succ, wrap_in]; rfl)))
        (refine take_ (i := 4) (N := some 40) (v := ?v_52) (a' := ?a_52) #[true, true, true, true, true, false, false, false, false] rfl rfl (by kernel_rfl) (fun _ _ _ h => h) (Or.inl ⟨by rfl, ?hy_52⟩) hHeld ?ha_52 ?hh_52; (case hy_52 => (rintro w' ⟨s0_, s1_, s2_, s3_, s4_, s5_⟩; go_simp; with_reducible rfl)); (case ha_52 => (simp (disch := omega) only [Act.put, List.setIfInBounds_toArray, List.set_cons_zero, List.set_cons_succ, wrap_in]; rfl)))
        (refine take_ (i := 5) (N := some 41) (v := ?v_53) (a' := ?a_53) #[true, true, true, true, true, true, false, false, false] rfl rfl (by kernel_rfl) (fun _ _ _ h => h) (Or.inl ⟨by rfl, ?hy_53⟩) hHeld ?ha_53 ?hh_53; (case hy_53 => (rintro w' ⟨s0_, s1_, s2_, s3_, s4_, s5_⟩; go_simp; with_reducible rfl)); (case ha_53 => (simp (disch := omega) only [Act.put, List.setIfInBounds_toArray, List.set_cons_zero, List.set_cons_succ, wrap_in]; rfl)))
        (refine take_ (i := 6) (N := some 42) (v := ?v_54) (a' := ?a_54) #[true, true, true, true, true, true, true, false, false] rfl rfl (by kernel_rfl) (fun _ _ _ h => h) (Or.inl ⟨by rfl, ?hy_54⟩) hHeld ?ha_54 ?hh_54; (case hy_54 => (rintro w' ⟨s0_, s1_, s2_, s3_, s4_, s5_⟩; go_simp; with_reducible rfl)); (case ha_54 => (simp (disch := omega) only [Act.put, List.setIfInBounds_toArray, List.set_cons_zero, List.set_cons_succ, wrap_in]; rfl)))
        (refine take_ (i := 7) (N := some 43) (v := ?v_55) (a' := ?a_55) #[true, true, true, true, true, true, true, true, false] rfl rfl (by kernel_rfl) (fun _ _ _ h => h) (Or.inl ⟨by rfl, ?hy_55⟩) hHeld ?ha_55 ?hh_55; (case hy_55 => (rintro w' ⟨s0_, s1_, s2_, s3_, s4_, s5_⟩; go_simp; with_reducible rfl)); (case ha_55 => (simp (disch := omega) only [Act.put, List.setIfInBounds_toArray, List.set_cons_zero, List.set_cons_succ, wrap_in]; rfl)))
        (refine take_ (i := 8) (N := some 44) (v := ?v_56) (a' := ?a_56) #[true, true, true, true, true, true, true, true, true] rfl rfl (by kernel_rfl) (fun _ _ _ h => h) (Or.inl ⟨by rfl, ?hy_56⟩) hHeld ?ha_56 ?hh_56; (case hy_56 => (rintro w' ⟨s0_, s1_, s2_, s3_, s4_, s5_⟩; go_simp; with_reducible rfl)); (case ha_56 => (simp (disch := omega) only [Act.put, List.setIfInBounds_toArray, List.set_cons_zero, List.set_cons_succ, wrap_in]; rfl)))
        refine done_ (by kernel_rfl) ?_
        go_wp2_with (fail)
        go_roundg (n - 1)
        case measure => have := HI.out; omega
        case rel => exact ⟨i + 1, by have := HI.out; omega, by go_num, HO.out.drew, HM.out, KB.out.drew⟩
      · have : i = row.length := by omega
        subst this
        clear hlt hile HI
        have O4 := Lib.hid hO
        have M4 := Lib.hid hM
        have B4 := Lib.hid hB
        clear hO hM hB
        go_wp2_with (fail)
        refine wp_loop_ghost_k (fun (n : Nat) (ac : Act) (wr : World) => ∃ u1 u2 u5 u7 u8 u9 u10 u11 u12 u13 u14 u15 u16 u17 u18 u19 u20 u21 u22 u23 u24 u25 u26 u27 u28 u29 u30 u31 u32 u33 u34 u35 u36 u37 u38 u39 u40 u41 u42 u43 u44 u45 u46 u47 u48 u49 u50 u51 u52 u53 u54 u55 u56 u57 u58 u59 u60 u61 u62 u63 u64 u65 u66 u67 u68 u69 u70 u71 u72 u73 u74 u75 u76 u77 u78 u79 u80 u81 u82 u83 u84 u85 u86 u87 u88 u89 v6 : Value, (∃ i : Nat, n + i = row.length ∧ v6 = .int .i64 i ∧ (∃ xs : List Lg, xs.length = row.length + 1 ∧ (∀ k, k < i → xs[k]? = row.reverse[k]?) ∧ xs[row.length]? = some ⟨77, 0, 0⟩ ∧ Own Lg.cells 24 3 wr g c xs) ∧ wr.heap[w.heap.size]? = some (.cells #[.int .i64 77, .int .i64 0, .int .i64 0] 24 (0, 0)) ∧ Below w.heap.size w wr) ∧ ac = ({ tmps := #[.slice A row.length cap, u1, u2, .pointer (some ⟨w.heap.size, 0, none⟩), .slice (some ⟨g, 0, none⟩) row.length c, u5, v6, u7, u8, u9, u10, u11, u12, u13, u14, u15, u16, u17, u18, u19, u20, u21, u22, u23, u24, u25, u26, u27, u28, u29, u30, u31, u32, u33, u34, u35, u36, u37, u38, u39, u40, u41, u42, u43, u44, u45, u46, u47, u48, u49, u50, u51, u52, u53, u54, u55, u56, u57, u58, u59, u60, u61, u62, u63, u64, u65, u66, u67, u68, u69, u70, u71, u72, u73, u74, u75, u76, u77, u78, u79, u80, u81, u82, u83, u84, u85, u86, u87, u88, u89], defers := [] } : Act)) (row.length) ?atStart ?round
        case' atStart => ((repeat apply Exists.intro); refine ⟨?_, rfl⟩)
        case' round => (intro n ac wr hcut; obtain ⟨u1, hcut⟩ := hcut; obtain ⟨u2, hcut⟩ := hcut; obtain ⟨u5, hcut⟩ := hcut; obtain ⟨u7, hcut⟩ := hcut; obtain ⟨u8, hcut⟩ := hcut; obtain ⟨u9, hcut⟩ := hcut; obtain ⟨u10, hcut⟩ := hcut; obtain ⟨u11, hcut⟩ := hcut; obtain ⟨u12, hcut⟩ := hcut; obtain ⟨u13, hcut⟩ := hcut; obtain ⟨u14, hcut⟩ := hcut; obtain ⟨u15, hcut⟩ := hcut; obtain ⟨u16, hcut⟩ := hcut; obtain ⟨u17, hcut⟩ := hcut; obtain ⟨u18, hcut⟩ := hcut; obtain ⟨u19, hcut⟩ := hcut; obtain ⟨u20, hcut⟩ := hcut; obtain ⟨u21, hcut⟩ := hcut; obtain ⟨u22, hcut⟩ := hcut; obtain ⟨u23, hcut⟩ := hcut; obtain ⟨u24, hcut⟩ := hcut; obtain ⟨u25, hcut⟩ := hcut; obtain ⟨u26, hcut⟩ := hcut; obtain ⟨u27, hcut⟩ := hcut; obtain ⟨u28, hcut⟩ := hcut; obtain ⟨u29, hcut⟩ := hcut; obtain ⟨u30, hcut⟩ := hcut; obtain ⟨u31, hcut⟩ := hcut; obtain ⟨u32, hcut⟩ := hcut; obtain ⟨u33, hcut⟩ := hcut; obtain ⟨u34, hcut⟩ := hcut; obtain ⟨u35, hcut⟩ := hcut; obtain ⟨u36, hcut⟩ := hcut; obtain ⟨u37, hcut⟩ := hcut; obtain ⟨u38, hcut⟩ := hcut; obtain ⟨u39, hcut⟩ := hcut; obtain ⟨u40, hcut⟩ := hcut; obtain ⟨u41, hcut⟩ := hcut; obtain ⟨u42, hcut⟩ := hcut; obtain ⟨u43, hcut⟩ := hcut; obtain ⟨u44, hcut⟩ := hcut; obtain ⟨u45, hcut⟩ := hcut; obtain ⟨u46, hcut⟩ := hcut; obtain ⟨u47, hcut⟩ := hcut; obtain ⟨u48, hcut⟩ := hcut; obtain ⟨u49, hcut⟩ := hcut; obtain ⟨u50, hcut⟩ := hcut; obtain ⟨u51, hcut⟩ := hcut; obtain ⟨u52, hcut⟩ := hcut; obtain ⟨u53, hcut⟩ := hcut; obtain ⟨u54, hcut⟩ := hcut; obtain ⟨u55, hcut⟩ := hcut; obtain ⟨u56, hcut⟩ := hcut; obtain ⟨u57, hcut⟩ := hcut; obtain ⟨u58, hcut⟩ := hcut; obtain ⟨u59, hcut⟩ := hcut; obtain ⟨u60, hcut⟩ := hcut; obtain ⟨u61, hcut⟩ := hcut; obtain ⟨u62, hcut⟩ := hcut; obtain ⟨u63, hcut⟩ := hcut; obtain ⟨u64, hcut⟩ := hcut; obtain ⟨u65, hcut⟩ := hcut; obtain ⟨u66, hcut⟩ := hcut; obtain ⟨u67, hcut⟩ := hcut; obtain ⟨u68, hcut⟩ := hcut; obtain ⟨u69, hcut⟩ := hcut; obtain ⟨u70, hcut⟩ := hcut; obtain ⟨u71, hcut⟩ := hcut; obtain ⟨u72, hcut⟩ := hcut; obtain ⟨u73, hcut⟩ := hcut; obtain ⟨u74, hcut⟩ := hcut; obtain ⟨u75, hcut⟩ := hcut; obtain ⟨u76, hcut⟩ := hcut; obtain ⟨u77, hcut⟩ := hcut; obtain ⟨u78, hcut⟩ := hcut; obtain ⟨u79, hcut⟩ := hcut; obtain ⟨u80, hcut⟩ := hcut; obtain ⟨u81, hcut⟩ := hcut; obtain ⟨u82, hcut⟩ := hcut; obtain ⟨u83, hcut⟩ := hcut; obtain ⟨u84, hcut⟩ := hcut; obtain ⟨u85, hcut⟩ := hcut; obtain ⟨u86, hcut⟩ := hcut; obtain ⟨u87, hcut⟩ := hcut; obtain ⟨u88, hcut⟩ := hcut; obtain ⟨u89, hcut⟩ := hcut; obtain ⟨v6, hcut⟩ := hcut; obtain ⟨hcut, hac⟩ := hcut; subst hac; intro _ _ _ _)
        case atStart => exact ⟨0, rfl, rfl, ⟨_, by simp, by omega, by simp, O4.out⟩, M4.out, B4.out⟩
        case round =>
          obtain ⟨i, hi, rfl, ⟨xs, hxl, hxr, hxm, hO⟩, hM, hB⟩ := hcut
          have HI := Lib.hid hi
          have hile : i ≤ row.length := by omega
          clear hi
          by_cases hlt : i < row.length
          · obtain ⟨r, hr⟩ : ∃ r : Nat, r + 1 + i = row.length := ⟨row.length - 1 - i, by omega⟩
            have hrl : r < row.length := by omega
            have hri : (row.length : Int) - 1 - (i : Int) = (r : Int) := by omega
            obtain ⟨b, o, rfl, hok1, c0, c1, c2⟩ := lg_at (Rd.elems_below hB HE.out) hrl
            have hil : i < xs.length := by omega
            have d0 := hO.cell (List.getElem?_eq_getElem hil) (j := 0) rfl
            have d1 := hO.cell (List.getElem?_eq_getElem hil) (j := 1) rfl
            have d2 := hO.cell (List.getElem?_eq_getElem hil) (j := 2) rfl
            have f0 := hO.free (i * 3)
            have f1 := hO.free (i * 3 + 1)
            have f2 := hO.free (i * 3 + 2)
            rw [Nat.add_zero] at d0
            have hset := Lib.hid (hO.set3 lg_len hil (y := row[r]) (a := .int .i64 row[r].ph) (b := .int .i64 row[r].ep) (c := .int .i64 row[r].pe) rfl)
            have hrev : row.reverse[i]? = some row[r] := by
              rw [List.getElem?_reverse hlt, show row.length - 1 - i = r by omega, List.getElem?_eq_getElem hrl]
            have HX : Hid (xs.length = row.length + 1 ∧ (∀ k, k < i → xs[k]? = row.reverse[k]?) ∧ xs[row.length]? = some ⟨77, 0, 0⟩ ∧ row.reverse[i]? = some row[r]) := ⟨hxl, hxr, hxm, hrev⟩
            have HM := Lib.hid hM
            have KB := Lib.hid hB
            clear hO hM hB hxl hxr hxm hrev
            generalize row[r] = l at *
            obtain ⟨ph, ep, pe⟩ := l
            generalize xs[i] = l' at *
            obtain ⟨ph', ep', pe'⟩ := l'
            simp only at c0 c1 c2
            have q0 : (0 : Int) ≤ (i : Int) := by omega
            have q1 : (i : Int) < (row.length : Int) := by omega
            have q2 : (0 : Int) ≤ (r : Int) := by omega
            have q3 : (r : Int) < (row.length : Int) := by omega
            have HR := Lib.hid hr
            clear hr
            go_wp2_with (fail)
            go_roundg (n - 1)
            case measure => have := HI.out; omega
            case rel =>
              go_light
              obtain ⟨x1, x2, x3, x4⟩ := HX.out
              have hne : w.heap.size ≠ g := by omega
              have hle : w.heap.size ≤ g := by omega
              refine ⟨i + 1, by have := HI.out; omega, by go_num, ⟨xs.set i ⟨ph, ep, pe⟩, by rw [List.length_set, x1], fun k hk => ?_, ?_, hset.out⟩, ?_, ((KB.out.setCell hle _).setCell hle _).setCell hle _⟩
              · rw [List.getElem?_set]
                by_cases hki : i = k
                · subst hki
                  rw [if_pos rfl, if_pos hil, x4]
                · rw [if_neg hki]
                  exact x2 k (by omega)
              · rw [List.getElem?_set, if_neg (by omega), x3]
              · rw [Below.heap_setCell _ _ _ _ hne, Below.heap_setCell _ _ _ _ hne, Below.heap_setCell _ _ _ _ hne]
                exact HM.out
          · have : i = row.length := by omega
            subst this
            clear hlt hile HI O3 M3 B3 O4 M4 B4
            obtain ⟨rev, hrev⟩ : ∃ rev, rev = row.reverse := ⟨_, rfl⟩
            have hrl : rev.length = row.length := by rw [hrev, List.length_reverse]
            have hrok : ∀ l ∈ rev, l.ok := fun l hl => OK.out l (by rw [hrev, List.mem_reverse] at hl; exact hl)
            have hrep := ep_ge hrok
            have Ein : RdLg.elems wr (some ⟨g, 0, none⟩) rev := Own.elems hO (by omega) (fun i hi => by rw [hxr i (by omega), hrev]) hrok
            have d0 := hO.cell hxm (j := 0) rfl
            have d1 := hO.cell hxm (j := 1) rfl
            have d2 := hO.cell hxm (j := 2) rfl
            rw [Nat.add_zero] at d0
            have hgl := hO.lt
            have m0 : wr.cell? ⟨w.heap.size, 0, none⟩ = some (.int .i64 77) := cell_blk hM 0 rfl
            have m1 : wr.cell? ⟨w.heap.size, 1, none⟩ = some (.int .i64 0) := cell_blk hM 1 rfl
            have m2 : wr.cell? ⟨w.heap.size, 2, none⟩ = some (.int .i64 0) := cell_blk hM 2 rfl
            have hcl : row.length + 1 ≤ c := by have := hO.le; omega
            have RL := Lib.hid hrl
            have KB := Lib.hid hB
            have EPR := Lib.hid hrep
            obtain ⟨g3, c3, w5, hrun, O5, G5, at5⟩ := lg_append0 (cap := c) (own_empty wr) (Rd.elems_below ((Below.refl wr.heap.size wr).alloc (Nat.le_refl _) (.cells #[] 24)) Ein) (by rw [hrl]; exact HB.out)
            have BR : Below wr.heap.size wr w5 := ((Below.refl wr.heap.size wr).alloc (Nat.le_refl _) (.cells #[] 24)).grown G5 (by simp) (by intro k hk; injection hk with hk; omega)
            have Ein5 := Lib.hid (Rd.elems_below BR Ein)
            have Et5 : RdLg.elems w5 (some ⟨g3, 0, none⟩) rev := Own.elems O5 (Nat.le_refl _) (fun _ _ => rfl) hrok
            have ET5 := Lib.hid Et5
            replace d0 := cell_below BR d0
            replace d1 := cell_below BR d1
            replace d2 := cell_below BR d2
            replace m0 := cell_below BR m0
            replace m1 := cell_below BR m1
            replace m2 := cell_below BR m2
            have K5 := Lib.hid (KB.out.trans (BR.mono KB.out.size))
            rw [hrl] at hrun
            have hrun' := Lib.hid hrun
            have HA := Lib.hid (And.intro hrok hrep)
            clear hO hM hB hxl hxr hxm Ein Et5 O5 G5 at5 BR hrun hrl hrok hrep KB
            go_wp2_with (refine wpList_app hrun'.out rfl rfl rfl (by rfl) (by rfl) ?_)
            have q0 : (0 : Int) ≤ (row.length : Int) := by omega
            have q1 : (row.length : Int) < (row.length : Int) + 1 := by omega
            have q2 : (0 : Int) ≤ (row.length : Int) + 1 := by omega
            have q3 : (row.length : Int) + 1 ≤ (c : Int) := by omega
            have H0 := Lib.hid ((Below.refl w5.heap.size w5).drew)
            refine start_ (n := 26) (S := fun w' => w'.cell? ⟨g, row.length * 3, none⟩ = some (.int .i64 77) ∧ w'.cell? ⟨g, row.length * 3 + 1, none⟩ = some (.int .i64 0) ∧ w'.cell? ⟨g, row.length * 3 + 2, none⟩ = some (.int .i64 0) ∧ w'.cell? ⟨w.heap.size, 0, none⟩ = some (.int .i64 77) ∧ w'.cell? ⟨w.heap.size, 1, none⟩ = some (.int .i64 0) ∧ w'.cell? ⟨w.heap.size, 2, none⟩ = some (.int .i64 0)) (ds := []) #[false, false, false, false, false, false, false, false, false, false, false, false, false, false, false, false, false, false, false, false, false, false, false, false, false, false] (by kernel_rfl) rfl rfl ⟨d0, d1, d2, m0, m1, m2⟩ (fun hHeld => ?_)
            (refine take_ (i := 0) (N := some 65) (v := ?v_59) (a' := ?a_59) #[true, false, false, false, false, false, false, false, false, false, false, false, false, false, false, false, false, false, false, false, false, false, false, false, false, false] rfl rfl (by kernel_rfl) (fun _ _ _ h => h) (Or.inl ⟨by rfl, ?hy_59⟩) hHeld ?ha_59 ?hh_59; (case hy_59 => (rintro w' ⟨s0_, s1_, s2_, s3_, s4_, s5_⟩; go_simp; with_reducible rfl)); (case ha_59 => (simp (disch := omega) only [Act.put, List.setIfInBounds_toArray, List.set_cons_zero, List.set_cons_succ, wrap_in]; rfl)))
            (refine take_ (i := 2) (N := some 67) (v := ?v_60) (a' := ?a_60) #[true, false, true, false, false, false, false, false, false, false, false, false, false, false, false, false, false, false, false, false, false, false, false, false, false, false] rfl rfl (by kernel_rfl) (fun _ _ _ h => h) (Or.inl ⟨by rfl, ?hy_60⟩) hHeld ?ha_60 ?hh_60; (case hy_60 => (rintro w' ⟨s0_, s1_, s2_, s3_, s4_, s5_⟩; go_simp; with_reducible rfl)); (case ha_60 => (simp (disch := omega) only [Act.put, List.setIfInBounds_toArray, List.set_cons_zero, List.set_cons_succ, wrap_in]; rfl)))
            refine one_ (i := 1) (N := some 66) #[true, true, true, false, false, false, false, false, false, false, false, false, false, false, false, false, false, false, false, false, false, false, false, false, false, false] rfl rfl (by kernel_rfl) (by decide) (fun K hK => ?_)
            (refine goes_ Try.func15 (by kernel_rfl) rfl ?args_62 (by rfl) rfl rfl ?hargs_62 ?hc_62; (case hargs_62 => (go_simp; with_reducible rfl)))
            (refine (holder_n _ (some ⟨g, 0, none⟩) c RL.out hlen (Rd.elems_below H0.out Ein5.out)).mono ?_; rintro e w6 ⟨rfl, hb6⟩; have H6 := Lib.hid (H0.out.trans (hb6.mono H0.out.size)); refine ⟨_, rfl, ?_⟩)
            (refine hK.out _ _ ?hs_64 ?hn_64; (case hs_64 => (obtain ⟨s0_, s1_, s2_, s3_, s4_, s5_⟩ := hHeld; exact ⟨cell_below hb6 s0_, cell_below hb6 s1_, cell_below hb6 s2_, cell_below hb6 s3_, cell_below hb6 s4_, cell_below hb6 s5_⟩)); intro hHeld; clear hK K)
            (refine norm_ (a' := ?a_65) ?ha_65 ?hh_65; (case ha_65 => (simp (disch := omega) only [Act.put, List.setIfInBounds_toArray, List.set_cons_zero, List.set_cons_succ, wrap_in]; rfl)))
            refine one_ (i := 3) (N := some 68) #[true, true, true, true, false, false, false, false, false, false, false, false, false, false, false, false, false, false, false, false, false, false, false, false, false, false] rfl rfl (by kernel_rfl) (by decide) (fun K hK => ?_)
            (refine goes_ Try.func16 (by kernel_rfl) rfl ?args_67 (by rfl) rfl rfl ?hargs_67 ?hc_67; (case hargs_67 => (go_simp; with_reducible rfl)))
            (refine (refHolder_n _ (some ⟨g3, 0, none⟩) c3 RL.out hlen (Rd.elems_below H6.out ET5.out)).mono ?_; rintro e w7 ⟨rfl, rfl⟩; rw [← holder_eq rev EPR.out]; refine ⟨_, rfl, ?_⟩)
            (refine hK.out _ _ ?hs_69 ?hn_69; (case hs_69 => (exact hHeld)); intro hHeld; clear hK K)
            (refine norm_ (a' := ?a_70) ?ha_70 ?hh_70; (case ha_70 => (simp (disch := omega) only [Act.put, List.setIfInBounds_toArray, List.set_cons_zero, List.set_cons_succ, wrap_in]; rfl)))
            (refine take_ (i := 4) (N := some 69) (v := ?v_71) (a' := ?a_71) #[true, true, true, true, true, false, false, false, false, false, false, false, false, false, false, false, false, false, false, false, false, false, false, false, false, false] rfl rfl (by kernel_rfl) (fun _ _ _ h => h) (Or.inl ⟨by rfl, ?hy_71⟩) hHeld ?ha_71 ?hh_71; (case hy_71 => (rintro w' ⟨s0_, s1_, s2_, s3_, s4_, s5_⟩; go_simp; with_reducible rfl)); (case ha_71 => (simp (disch := omega) only [Act.put, List.setIfInBounds_toArray, List.set_cons_zero, List.set_cons_succ, wrap_in]; rfl)))
            (refine take_ (i := 5) (N := some 70) (v := ?v_72) (a' := ?a_72) #[true, true, true, true, true, true, false, false, false, false, false, false, false, false, false, false, false, false, false, false, false, false, false, false, false, false] rfl rfl (by kernel_rfl) (fun _ _ _ h => h) (Or.inl ⟨by rfl, ?hy_72⟩) hHeld ?ha_72 ?hh_72; (case hy_72 => (rintro w' ⟨s0_, s1_, s2_, s3_, s4_, s5_⟩; go_simp; with_reducible rfl)); (case ha_72 => (simp (disch := omega) only [Act.put, List.setIfInBounds_toArray, List.set_cons_zero, List.set_cons_succ, wrap_in]; rfl)))
            first | (refine take_ (i := 6) (N := some 71) (v := undef) (a' := ?a_73) #[true, true, true, true, true, true, true, false, false, false, false, false, false, false, false, false, false, false, false, false, false, false, false, false, false, false] rfl rfl (by kernel_rfl) (fun _ _ _ h => h) (Or.inr ⟨by rfl, rfl⟩) hHeld ?ha_73 ?hh_73; (case ha_73 => (simp (disch := omega) only [Act.put, List.setIfInBounds_toArray, List.set_cons_zero, List.set_cons_succ, wrap_in]; rfl))) | (refine take_ (i := 6) (N := some 71) (v := ?v_73) (a' := ?a_73) #[true, true, true, true, true, true, true, false, false, false, false, false, false, false, false, false, false, false, false, false, false, false, false, false, false, false] rfl rfl (by kernel_rfl) (fun _ _ _ h => h) (Or.inl ⟨by rfl, ?hy_73⟩) hHeld ?ha_73 ?hh_73; (case hy_73 => (rintro w' ⟨s0_, s1_, s2_, s3_, s4_, s5_⟩; go_simp; with_reducible rfl)); (case ha_73 => (simp (disch := omega) only [Act.put, List.setIfInBounds_toArray, List.set_cons_zero, List.set_cons_succ, wrap_in]; rfl)))
            first | (refine take_ (i := 8) (N := some 73) (v := undef) (a' := ?a_74) #[true, true, true, true, true, true, true, false, true, false, false, false, false, false, false, false, false, false, false, false, false, false, false, false, false, false] rfl rfl (by kernel_rfl) (fun _ _ _ h => h) (Or.inr ⟨by rfl, rfl⟩) hHeld ?ha_74 ?hh_74; (case ha_74 => (simp (disch := omega) only [Act.put, List.setIfInBounds_toArray, List.set_cons_zero, List.set_cons_succ, wrap_in]; rfl))) | (refine take_ (i := 8) (N := some 73) (v := ?v_74) (a' := ?a_74) #[true, true, true, true, true, true, true, false, true, false, false, false, false, false, false, false, false, false, false, false, false, false, false, false, false, false] rfl rfl (by kernel_rfl) (fun _ _ _ h => h) (Or.inl ⟨by rfl, ?hy_74⟩) hHeld ?ha_74 ?hh_74; (case hy_74 => (rintro w' ⟨s0_, s1_, s2_, s3_, s4_, s5_⟩; go_simp; with_reducible rfl)); (case ha_74 => (simp (disch := omega) only [Act.put, List.setIfInBounds_toArray, List.set_cons_zero, List.set_cons_succ, wrap_in]; rfl)))
            refine one_ (i := 7) (N := some 72) #[true, true, true, true, true, true, true, true, true, false, false, false, false, false, false, false, false, false, false, false, false, false, false, false, false, false] rfl rfl (by kernel_rfl) (by decide) (fun K hK => ?_)
            (refine goes_ Try.func17 (by kernel_rfl) rfl ?args_76 (by rfl) rfl rfl ?hargs_76 ?hc_76; (case hargs_76 => (go_simp; with_reducible rfl)))
            (refine (sound_n _ (some ⟨g, 0, none⟩) c RL.out hlen (Rd.elems_below H6.out Ein5.out)).mono ?_; rintro e w7 ⟨rfl, hb7⟩; have H7 := Lib.hid (H6.out.trans (hb7.mono H6.out.size)); refine ⟨_, rfl, ?_⟩)
            (refine hK.out _ _ ?hs_78 ?hn_78; (case hs_78 => (obtain ⟨s0_, s1_, s2_, s3_, s4_, s5_⟩ := hHeld; exact ⟨cell_below hb7 s0_, cell_below hb7 s1_, cell_below hb7 s2_, cell_below hb7 s3_, cell_below hb7 s4_, cell_below hb7 s5_⟩)); intro hHeld; clear hK K)
            (refine norm_ (a' := ?a_79) ?ha_79 ?hh_79; (case ha_79 => (simp (disch := omega) only [Act.put, List.setIfInBounds_toArray, List.set_cons_zero, List.set_cons_succ, wrap_in]; rfl)))
            refine one_ (i := 9) (N := some 74) #[true, true, true, true, true, true, true, true, true, true, false, false, false, false, false, false, false, false, false, false, false, false, false, false, false, false] rfl rfl (by kernel_rfl) (by decide) (fun K hK => ?_)
            (refine goes_ Try.func18 (by kernel_rfl) rfl ?args_81 (by rfl) rfl rfl ?hargs_81 ?hc_81; (case hargs_81 => (go_simp; with_reducible rfl)))
            (refine (refSound_n _ (some ⟨g3, 0, none⟩) c3 RL.out hlen (Rd.elems_below H7.out ET5.out)).mono ?_; rintro e w8 ⟨rfl, hb8⟩; have H8 := Lib.hid (H7.out.trans (hb8.mono H7.out.size)); rw [← sound_eq rev EPR.out]; refine ⟨_, rfl, ?_⟩)
            (refine hK.out _ _ ?hs_83 ?hn_83; (case hs_83 => (obtain ⟨s0_, s1_, s2_, s3_, s4_, s5_⟩ := hHeld; exact ⟨cell_below hb8 s0_, cell_below hb8 s1_, cell_below hb8 s2_, cell_below hb8 s3_, cell_below hb8 s4_, cell_below hb8 s5_⟩)); intro hHeld; clear hK K)
            (refine norm_ (a' := ?a_84) ?ha_84 ?hh_84; (case ha_84 => (simp (disch := omega) only [Act.put, List.setIfInBounds_toArray, List.set_cons_zero, List.set_cons_succ, wrap_in]; rfl)))
            first | (refine take_ (i := 10) (N := some 75) (v := undef) (a' := ?a_85) #[true, true, true, true, true, true, true, true, true, true, true, false, false, false, false, false, false, false, false, false, false, false, false, false, false, false] rfl rfl (by kernel_rfl) (fun _ _ _ h => h) (Or.inr ⟨by rfl, rfl⟩) hHeld ?ha_85 ?hh_85; (case ha_85 => (simp (disch := omega) only [Act.put, List.setIfInBounds_toArray, List.set_cons_zero, List.set_cons_succ, wrap_in]; rfl))) | (refine take_ (i := 10) (N := some 75) (v := ?v_85) (a' := ?a_85) #[true, true, true, true, true, true, true, true, true, true, true, false, false, false, false, false, false, false, false, false, false, false, false, false, false, false] rfl rfl (by kernel_rfl) (fun _ _ _ h => h) (Or.inl ⟨by rfl, ?hy_85⟩) hHeld ?ha_85 ?hh_85; (case hy_85 => (rintro w' ⟨s0_, s1_, s2_, s3_, s4_, s5_⟩; go_simp; with_reducible rfl)); (case ha_85 => (simp (disch := omega) only [Act.put, List.setIfInBounds_toArray, List.set_cons_zero, List.set_cons_succ, wrap_in]; rfl)))
            (refine take_ (i := 11) (N := some 76) (v := ?v_86) (a' := ?a_86) #[true, true, true, true, true, true, true, true, true, true, true, true, false, false, false, false, false, false, false, false, false, false, false, false, false, false] rfl rfl (by kernel_rfl) (fun _ _ _ h => h) (Or.inl ⟨by rfl, ?hy_86⟩) hHeld ?ha_86 ?hh_86; (case hy_86 => (rintro w' ⟨s0_, s1_, s2_, s3_, s4_, s5_⟩; go_simp; with_reducible rfl)); (case ha_86 => (simp (disch := omega) only [Act.put, List.setIfInBounds_toArray, List.set_cons_zero, List.set_cons_succ, wrap_in]; rfl)))
            (refine take_ (i := 12) (N := some 77) (v := ?v_87) (a' := ?a_87) #[true, true, true, true, true, true, true, true, true, true, true, true, true, false, false, false, false, false, false, false, false, false, false, false, false, false] rfl rfl (by kernel_rfl) (fun _ _ _ h => h) (Or.inl ⟨by rfl, ?hy_87⟩) hHeld ?ha_87 ?hh_87; (case hy_87 => (rintro w' ⟨s0_, s1_, s2_, s3_, s4_, s5_⟩; go_simp; with_reducible rfl)); (case ha_87 => (simp (disch := omega) only [Act.put, List.setIfInBounds_toArray, List.set_cons_zero, List.set_cons_succ, wrap_in]; rfl)))
            first | (refine take_ (i := 13) (N := some 78) (v := undef) (a' := ?a_88) #[true, true, true, true, true, true, true, true, true, true, true, true, true, true, false, false, false, false, false, false, false, false, false, false, false, false] rfl rfl (by kernel_rfl) (fun _ _ _ h => h) (Or.inr ⟨by rfl, rfl⟩) hHeld ?ha_88 ?hh_88; (case ha_88 => (simp (disch := omega) only [Act.put, List.setIfInBounds_toArray, List.set_cons_zero, List.set_cons_succ, wrap_in]; rfl))) | (refine take_ (i := 13) (N := some 78) (v := ?v_88) (a' := ?a_88) #[true, true, true, true, true, true, true, true, true, true, true, true, true, true, false, false, false, false, false, false, false, false, false, false, false, false] rfl rfl (by kernel_rfl) (fun _ _ _ h => h) (Or.inl ⟨by rfl, ?hy_88⟩) hHeld ?ha_88 ?hh_88; (case hy_88 => (rintro w' ⟨s0_, s1_, s2_, s3_, s4_, s5_⟩; go_simp; with_reducible rfl)); (case ha_88 => (simp (disch := omega) only [Act.put, List.setIfInBounds_toArray, List.set_cons_zero, List.set_cons_succ, wrap_in]; rfl)))
            first | (refine take_ (i := 14) (N := some 79) (v := undef) (a' := ?a_89) #[true, true, true, true, true, true, true, true, true, true, true, true, true, true, true, false, false, false, false, false, false, false, false, false, false, false] rfl rfl (by kernel_rfl) (fun _ _ _ h => h) (Or.inr ⟨by rfl, rfl⟩) hHeld ?ha_89 ?hh_89; (case ha_89 => (simp (disch := omega) only [Act.put, List.setIfInBounds_toArray, List.set_cons_zero, List.set_cons_succ, wrap_in]; rfl))) | (refine take_ (i := 14) (N := some 79) (v := ?v_89) (a' := ?a_89) #[true, true, true, true, true, true, true, true, true, true, true, true, true, true, true, false, false, false, false, false, false, false, false, false, false, false] rfl rfl (by kernel_rfl) (fun _ _ _ h => h) (Or.inl ⟨by rfl, ?hy_89⟩) hHeld ?ha_89 ?hh_89; (case hy_89 => (rintro w' ⟨s0_, s1_, s2_, s3_, s4_, s5_⟩; go_simp; with_reducible rfl)); (case ha_89 => (simp (disch := omega) only [Act.put, List.setIfInBounds_toArray, List.set_cons_zero, List.set_cons_succ, wrap_in]; rfl)))
            first | (refine take_ (i := 15) (N := some 80) (v := undef) (a' := ?a_90) #[true, true, true, true, true, true, true, true, true, true, true, true, true, true, true, true, false, false, false, false, false, false, false, false, false, false] rfl rfl (by kernel_rfl) (fun _ _ _ h => h) (Or.inr ⟨by rfl, rfl⟩) hHeld ?ha_90 ?hh_90; (case ha_90 => (simp (disch := omega) only [Act.put, List.setIfInBounds_toArray, List.set_cons_zero, List.set_cons_succ, wrap_in]; rfl))) | (refine take_ (i := 15) (N := some 80) (v := ?v_90) (a' := ?a_90) #[true, true, true, true, true, true, true, true, true, true, true, true, true, true, true, true, false, false, false, false, false, false, false, false, false, false] rfl rfl (by kernel_rfl) (fun _ _ _ h => h) (Or.inl ⟨by rfl, ?hy_90⟩) hHeld ?ha_90 ?hh_90; (case hy_90 => (rintro w' ⟨s0_, s1_, s2_, s3_, s4_, s5_⟩; go_simp; with_reducible rfl)); (case ha_90 => (simp (disch := omega) only [Act.put, List.setIfInBounds_toArray, List.set_cons_zero, List.set_cons_succ, wrap_in]; rfl)))
            first | (refine take_ (i := 16) (N := some 81) (v := undef) (a' := ?a_91) #[true, true, true, true, true, true, true, true, true, true, true, true, true, true, true, true, true, false, false, false, false, false, false, false, false, false] rfl rfl (by kernel_rfl) (fun _ _ _ h => h) (Or.inr ⟨by rfl, rfl⟩) hHeld ?ha_91 ?hh_91; (case ha_91 => (simp (disch := omega) only [Act.put, List.setIfInBounds_toArray, List.set_cons_zero, List.set_cons_succ, wrap_in]; rfl))) | (refine take_ (i := 16) (N := some 81) (v := ?v_91) (a' := ?a_91) #[true, true, true, true, true, true, true, true, true, true, true, true, true, true, true, true, true, false, false, false, false, false, false, false, false, false] rfl rfl (by kernel_rfl) (fun _ _ _ h => h) (Or.inl ⟨by rfl, ?hy_91⟩) hHeld ?ha_91 ?hh_91; (case hy_91 => (rintro w' ⟨s0_, s1_, s2_, s3_, s4_, s5_⟩; go_simp; with_reducible rfl)); (case ha_91 => (simp (disch := omega) only [Act.put, List.setIfInBounds_toArray, List.set_cons_zero, List.set_cons_succ, wrap_in]; rfl)))
            first | (refine take_ (i := 17) (N := some 82) (v := undef) (a' := ?a_92) #[true, true, true, true, true, true, true, true, true, true, true, true, true, true, true, true, true, true, false, false, false, false, false, false, false, false] rfl rfl (by kernel_rfl) (fun _ _ _ h => h) (Or.inr ⟨by rfl, rfl⟩) hHeld ?ha_92 ?hh_92; (case ha_92 => (simp (disch := omega) only [Act.put, List.setIfInBounds_toArray, List.set_cons_zero, List.set_cons_succ, wrap_in]; rfl))) | (refine take_ (i := 17) (N := some 82) (v := ?v_92) (a' := ?a_92) #[true, true, true, true, true, true, true, true, true, true, true, true, true, true, true, true, true, true, false, false, false, false, false, false, false, false] rfl rfl (by kernel_rfl) (fun _ _ _ h => h) (Or.inl ⟨by rfl, ?hy_92⟩) hHeld ?ha_92 ?hh_92; (case hy_92 => (rintro w' ⟨s0_, s1_, s2_, s3_, s4_, s5_⟩; go_simp; with_reducible rfl)); (case ha_92 => (simp (disch := omega) only [Act.put, List.setIfInBounds_toArray, List.set_cons_zero, List.set_cons_succ, wrap_in]; rfl)))
            first | (refine take_ (i := 18) (N := some 83) (v := undef) (a' := ?a_93) #[true, true, true, true, true, true, true, true, true, true, true, true, true, true, true, true, true, true, true, false, false, false, false, false, false, false] rfl rfl (by kernel_rfl) (fun _ _ _ h => h) (Or.inr ⟨by rfl, rfl⟩) hHeld ?ha_93 ?hh_93; (case ha_93 => (simp (disch := omega) only [Act.put, List.setIfInBounds_toArray, List.set_cons_zero, List.set_cons_succ, wrap_in]; rfl))) | (refine take_ (i := 18) (N := some 83) (v := ?v_93) (a' := ?a_93) #[true, true, true, true, true, true, true, true, true, true, true, true, true, true, true, true, true, true, true, false, false, false, false, false, false, false] rfl rfl (by kernel_rfl) (fun _ _ _ h => h) (Or.inl ⟨by rfl, ?hy_93⟩) hHeld ?ha_93 ?hh_93; (case hy_93 => (rintro w' ⟨s0_, s1_, s2_, s3_, s4_, s5_⟩; go_simp; with_reducible rfl)); (case ha_93 => (simp (disch := omega) only [Act.put, List.setIfInBounds_toArray, List.set_cons_zero, List.set_cons_succ, wrap_in]; rfl)))
            first | (refine take_ (i := 19) (N := some 84) (v := undef) (a' := ?a_94) #[true, true, true, true, true, true, true, true, true, true, true, true, true, true, true, true, true, true, true, true, false, false, false, false, false, false] rfl rfl (by kernel_rfl) (fun _ _ _ h => h) (Or.inr ⟨by rfl, rfl⟩) hHeld ?ha_94 ?hh_94; (case ha_94 => (simp (disch := omega) only [Act.put, List.setIfInBounds_toArray, List.set_cons_zero, List.set_cons_succ, wrap_in]; rfl))) | (refine take_ (i := 19) (N := some 84) (v := ?v_94) (a' := ?a_94) #[true, true, true, true, true, true, true, true, true, true, true, true, true, true, true, true, true, true, true, true, false, false, false, false, false, false] rfl rfl (by kernel_rfl) (fun _ _ _ h => h) (Or.inl ⟨by rfl, ?hy_94⟩) hHeld ?ha_94 ?hh_94; (case hy_94 => (rintro w' ⟨s0_, s1_, s2_, s3_, s4_, s5_⟩; go_simp; with_reducible rfl)); (case ha_94 => (simp (disch := omega) only [Act.put, List.setIfInBounds_toArray, List.set_cons_zero, List.set_cons_succ, wrap_in]; rfl)))
            first | (refine take_ (i := 20) (N := some 85) (v := undef) (a' := ?a_95) #[true, true, true, true, true, true, true, true, true, true, true, true, true, true, true, true, true, true, true, true, true, false, false, false, false, false] rfl rfl (by kernel_rfl) (fun _ _ _ h => h) (Or.inr ⟨by rfl, rfl⟩) hHeld ?ha_95 ?hh_95; (case ha_95 => (simp (disch := omega) only [Act.put, List.setIfInBounds_toArray, List.set_cons_zero, List.set_cons_succ, wrap_in]; rfl))) | (refine take_ (i := 20) (N := some 85) (v := ?v_95) (a' := ?a_95) #[true, true, true, true, true, true, true, true, true, true, true, true, true, true, true, true, true, true, true, true, true, false, false, false, false, false] rfl rfl (by kernel_rfl) (fun _ _ _ h => h) (Or.inl ⟨by rfl, ?hy_95⟩) hHeld ?ha_95 ?hh_95; (case hy_95 => (rintro w' ⟨s0_, s1_, s2_, s3_, s4_, s5_⟩; go_simp; with_reducible rfl)); (case ha_95 => (simp (disch := omega) only [Act.put, List.setIfInBounds_toArray, List.set_cons_zero, List.set_cons_succ, wrap_in]; rfl)))
            first | (refine take_ (i := 21) (N := some 86) (v := undef) (a' := ?a_96) #[true, true, true, true, true, true, true, true, true, true, true, true, true, true, true, true, true, true, true, true, true, true, false, false, false, false] rfl rfl (by kernel_rfl) (fun _ _ _ h => h) (Or.inr ⟨by rfl, rfl⟩) hHeld ?ha_96 ?hh_96; (case ha_96 => (simp (disch := omega) only [Act.put, List.setIfInBounds_toArray, List.set_cons_zero, List.set_cons_succ, wrap_in]; rfl))) | (refine take_ (i := 21) (N := some 86) (v := ?v_96) (a' := ?a_96) #[true, true, true, true, true, true, true, true, true, true, true, true, true, true, true, true, true, true, true, true, true, true, false, false, false, false] rfl rfl (by kernel_rfl) (fun _ _ _ h => h) (Or.inl ⟨by rfl, ?hy_96⟩) hHeld ?ha_96 ?hh_96; (case hy_96 => (rintro w' ⟨s0_, s1_, s2_, s3_, s4_, s5_⟩; go_simp; with_reducible rfl)); (case ha_96 => (simp (disch := omega) only [Act.put, List.setIfInBounds_toArray, List.set_cons_zero, List.set_cons_succ, wrap_in]; rfl)))
            refine one_ (i := 22) (N := some 87) #[true, true, true, true, true, true, true, true, true, true, true, true, true, true, true, true, true, true, true, true, true, true, true, false, false, false] rfl rfl (by kernel_rfl) (by decide) (fun K hK => ?_)
            first | (refine off_ (by rfl) ?hk_98) | (refine value_ (v := ?v_98) (w1 := ?w1_98) (by rfl) rfl ?hr_98 ?hk_98; (case hr_98 => (go_simp; first | with_reducible rfl | (constructor <;> with_reducible rfl))))
            (refine hK.out _ _ hHeld ?hn_99; intro _; clear hK K)
            (refine norm_ (a' := ?a_100) ?ha_100 ?hh_100; (case ha_100 => (simp (disch := omega) only [Act.put, List.setIfInBounds_toArray, List.set_cons_zero, List.set_cons_succ, wrap_in]; rfl)))
            first | (refine take_ (i := 23) (N := some 88) (v := undef) (a' := ?a_101) #[true, true, true, true, true, true, true, true, true, true, true, true, true, true, true, true, true, true, true, true, true, true, true, true, false, false] rfl rfl (by kernel_rfl) (fun _ _ _ h => h) (Or.inr ⟨by rfl, rfl⟩) hHeld ?ha_101 ?hh_101; (case ha_101 => (simp (disch := omega) only [Act.put, List.setIfInBounds_toArray, List.set_cons_zero, List.set_cons_succ, wrap_in]; rfl))) | (refine take_ (i := 23) (N := some 88) (v := ?v_101) (a' := ?a_101) #[true, true, true, true, true, true, true, true, true, true, true, true, true, true, true, true, true, true, true, true, true, true, true, true, false, false] rfl rfl (by kernel_rfl) (fun _ _ _ h => h) (Or.inl ⟨by rfl, ?hy_101⟩) hHeld ?ha_101 ?hh_101; (case hy_101 => (rintro w' ⟨s0_, s1_, s2_, s3_, s4_, s5_⟩; go_simp; with_reducible rfl)); (case ha_101 => (simp (disch := omega) only [Act.put, List.setIfInBounds_toArray, List.set_cons_zero, List.set_cons_succ, wrap_in]; rfl)))
            (refine take_ (i := 24) (N := some 89) (v := ?v_102) (a' := ?a_102) #[true, true, true, true, true, true, true, true, true, true, true, true, true, true, true, true, true, true, true, true, true, true, true, true, true, false] rfl rfl (by kernel_rfl) (fun _ _ _ h => h) (Or.inl ⟨by rfl, ?hy_102⟩) hHeld ?ha_102 ?hh_102; (case hy_102 => (rintro w' ⟨s0_, s1_, s2_, s3_, s4_, s5_⟩; go_simp; with_reducible rfl)); (case ha_102 => (simp (disch := omega) only [Act.put, List.setIfInBounds_toArray, List.set_cons_zero, List.set_cons_succ, wrap_in]; rfl)))
            (refine take_ (i := 25) (N := some 2) (v := ?v_103) (a' := ?a_103) #[true, true, true, true, true, true, true, true, true, true, true, true, true, true, true, true, true, true, true, true, true, true, true, true, true, true] rfl rfl (by kernel_rfl) (fun _ _ _ h => h) (Or.inl ⟨by rfl, ?hy_103⟩) hHeld ?ha_103 ?hh_103; (case hy_103 => (rintro w' ⟨s0_, s1_, s2_, s3_, s4_, s5_⟩; go_simp; with_reducible rfl)); (case ha_103 => (simp (disch := omega) only [Act.put, List.setIfInBounds_toArray, List.set_cons_zero, List.set_cons_succ, wrap_in]; rfl)))
            refine done_ (by kernel_rfl) ?_
            go_wp2_with (fail)
            go_ret
            exact ⟨rfl, K5.out.trans (H8.out.mono K5.out.size)⟩
namespace ledgerRows
open Go.ChangeShapes Go.WideShapes Go.ChangeAt Go.RowKit
open Go.ChangeMaps (open_string shut_string)
theorem own : ownKnob Try.prog.godebug = none := by kernel_rfl
theorem laidOut : laidOutB Try.prog = true := by kernel_rfl
set_option maxRecDepth 100000 in
theorem lifted (os : Os) (started : os.Started) (H : Type) (enc : TypeId × Value → H) :
    ReturnsInHanded {} Try.checked os 5 .any (Rows.ledgerRowsSpec.pre6 enc Try.prog Try.f5 Rows.ledgerRowsRow.domain false) (Rows.ledgerRowsSpec.post enc Try.prog Try.f5 false true false false) := by
  refine returnsInHanded_of_change_sized (C := Try.checked) own started (by kernel_rfl) Try.func5
    (ChangeSpec.witness6 (enc := enc) (C := Try.checked) false ⟨#[], #[.slice none 0 0], []⟩ 8 (by kernel_rfl) (by kernel_rfl) (by kernel_rfl) (by kernel_rfl)) ?_
  intro W base args ds gs before hval0 hW hcnd hsz0 _
  have hsz : (DataW.weightsEach Try.prog (Try.f5.params.toList ++ Rows.ledgerRowsSpec.plain.varTypes Try.prog) (ds ++ gs)).all (· ≤ reachBytes) = true := hsz0
  have hval : ∀ (j : Nat) t v, Try.f5.params[j]? = some t → args[j]? = some v → Value.okWide Try.prog W .any base t v := hval0
  have hW' := hW
  obtain ⟨p, q, hA0, hV, rfl, hfz, hnd⟩ := hW
  have hA : DataW.TrodAll enc Try.prog W 0 (fun _ => true) true Try.f5.params.toList args.toList ds p := hA0
  rw [Try.params5] at hA hval hsz
  obtain ⟨v0, vs0, d0, ds0, p0, q0, hargs, rfl, rfl, h0, r0⟩ := trodAll_cons hA
  obtain ⟨rfl, rfl, rfl⟩ := trodAll_nil r0
  obtain rfl : args = #[v0] := by cases args; simp_all
  obtain ⟨rfl, rfl⟩ := trodVars_none hV
  obtain ⟨a0, len0, cap0, rfl⟩ := okWide_slice Try.underlying40 (hval 0 40 v0 rfl rfl)
  have k0 := h0
  have lt0 : ∀ x ∈ p0, x.block < W.heap.size := by obtain ⟨m, hm⟩ := k0; exact DataW.trod_lt m _ _ _ hm
  obtain ⟨xs0, rfl, hc0, hm0, hb0, hn0, he0⟩ := opened_slice (opens_Lgs W) h0 (weights_at hsz (j := 0) (t := 40) rfl rfl)
  clear hA0 hval0 hsz0 hsz
  refine (LedgerRows_walk W a0 cap0 xs0 hc0 hm0 hb0 hn0 he0).mono fun e W' ⟨he, bel⟩ => ?_
  subst he
  exact ⟨_, rfl, _, _, _, [], _, [], hW', trodAll_mk1 (shut_bool Try.underlying4 _), (trodAll_cons_mk (Below.trod laidOut (by kernel_rfl) (of_decide_eq_true (by kernel_rfl)) k0 bel lt0) trodAll_mk0), rfl, bel.frame _, fun h => by cases h⟩
theorem over : Rows.ledgerRowsRow.holds Try.pinned (OpenSpec.ofChange Rows.ledgerRowsSpec) :=
  OpenClaim.holds_of_wide 5 Try.f5 rfl rfl rfl rfl rfl rfl rfl ⟨rfl, rfl, rfl, rfl, rfl⟩ rfl rfl rfl rfl rfl (by kernel_rfl) Try.func5 (by kernel_rfl)
    (of_decide_eq_true (by kernel_rfl)) (by unfold Func.isWrapper; first | (rw [if_pos (by decide +kernel)]; kernel_rfl) | (rw [if_neg (by decide +kernel)]; exact ⟨rfl, rfl⟩))
    (fun os started H enc _ => lifted os started H enc)
theorem proved : Rows.LedgerRowsSaid := over
end ledgerRows
theorem ledgerRows_holds : Rows.LedgerRowsSaid := ledgerRows.proved
#print axioms ledgerRows_holds
end Go.Proofs.Ytecdmbcdkfjgfaa
