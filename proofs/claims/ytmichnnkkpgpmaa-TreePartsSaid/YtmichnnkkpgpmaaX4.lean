/- TreeParts: a tree that is split is joined again. -/
import Derived.Test.YtmichnnkkpgpmaaQ7
namespace Go.Proofs.Ytmichnnkkpgpmaa
set_option linter.unusedVariables false
set_option linter.unusedSimpArgs false
open Go.RowKit Go.Deep Go.Shelf Go.Proofs.YtmichnnkkpgpmaaW.PrintLast
attribute [local go_sem] Oper.semAt_some

theorem ownFrom_blk {β : Type} {B D : Nat} {o : Obj} (hD : D < B) : OwnFrom B (fun (_ : β) W => W.heap[D]? = some o) := fun _ W W' row hs hg hr => by
  show W'.heap[D]? = some o
  rw [hg.block D (blk_lt hs) (by intro h; have := (hr D h.symm).1; omega)]; exact hs
def OverK (key : Int) (pre : List (Int × Int)) : Prop := ∃ x ∈ pre, ¬ x.1 < key
def UnderK (key : Int) (pre : List (Int × Int)) : Prop := ∃ x ∈ pre, ¬ key ≤ x.1
set_option maxRecDepth 100000 in
set_option maxHeartbeats 16000000 in
theorem parts_1 (w : World) (A : Option Addr) (cap : Nat) (ops : List OpV) (hl : ops.length ≤ cap) (hcap : cap ≤ maxLen) (hlr : ops.length * 32 ≤ reach) (hA : A = none → cap = 0) (he : RdOp.elems w A ops)
    (key : Int) (hkey : (Lit.int .i64 key).wf = true) (value : Int) (hvalue : (Lit.int .i64 value).wf = true) :
    Calls Try.prog 7 #[.slice A ops.length cap, .int .i64 key, .int .i64 value] w fun e w' => e = .returned (.bool true) ∧ Below w.heap.size w w' := by
  unfold maxLen at hcap
  unfold reach at hlr
  have HE := Lib.hid he
  obtain ⟨K, hG, hK, hLL⟩ := made_good ops
  obtain ⟨l, hll⟩ : ∃ l, l = madeL ops := ⟨_, rfl⟩
  rw [← hll] at hG hLL
  have HLD := Lib.hid hll
  have hlp : 1 ≤ l.length := List.length_pos_iff.2 hG.ne
  obtain ⟨t, ht⟩ : ∃ t, l[l.length - 1]? = some t := ⟨_, List.getElem?_eq_getElem (by omega)⟩
  have hgt := hG.all t (List.mem_of_getElem? ht)
  have hsz := hgt.size
  have HGT := Lib.hid hgt
  have HT := Lib.hid ht
  have hnf : ∀ (cap : Array Value) (W : World), Sem.run Try.prog (binOp BinOp.eql 54 (.func (.func 68) #[] cap) Value.nilFunc) W = .ok (.bool false) W := fun _ _ => rfl
  have ss := T.size_split ltZ key t
  have sb := T.size_both (T.splitL ltZ key t) (T.splitR ltZ key t)
  have hub : (T.both (T.splitL ltZ key t) (T.splitR ltZ key t)).toList = t.toList := by
    rw [T.toList_both, T.toList_splitL swoZ key t hgt.rises, T.toList_splitR swoZ key t hgt.rises]; exact (und_from _ key hgt.rises).symm
  have hms := meets_split hgt.rises key
  obtain ⟨a, ha⟩ : ∃ a, a = T.splitL ltZ key t := ⟨_, rfl⟩
  obtain ⟨b, hb⟩ : ∃ b, b = T.splitR ltZ key t := ⟨_, rfl⟩
  rw [← ha, ← hb] at ss sb hub hms
  have hal : a.toList = T.und ltZ key t.toList := by rw [ha]; exact T.toList_splitL swoZ key t hgt.rises
  have hbl : b.toList = T.from_ ltZ key t.toList := by rw [hb]; exact T.toList_splitR swoZ key t hgt.rises
  have hrk : T.rank ltZ key t = a.size := by rw [T.rank_und swoZ key t hgt.rises, ← hal, T.length_toList]
  have HA := Lib.hid ha
  have HBB := Lib.hid hb
  have HUB := Lib.hid hub
  have HMS := Lib.hid hms
  have HAL := Lib.hid hal
  have HBL := Lib.hid hbl
  have HRK := Lib.hid hrk
  have s0 : t.size < 4611686018427387904 := by omega
  have HSS := Lib.hid ss
  have HSB := Lib.hid sb
  clear he hll hG ht hA hgt ha hb hub hms hal hbl hrk ss sb hkey hvalue
  refine (callsIn_wide (n := 4)).1 ?_
  refine callsIn_of_wp_marks Try.func7 rfl trivial ?_ rfl
  refine wpIn_wide.2 ?_
  simp only [Try.ntmps7, List.size_toArray, List.length_cons, List.length_nil, Nat.reduceAdd, Nat.reduceSub, Array.replicate_succ, Array.replicate_zero, List.push_toArray, List.append_toArray, List.nil_append, List.cons_append]
  obtain ⟨h0, h1⟩ := two_blks w (.cells #[.int .i64 key] 3) (.cells #[.bool false] 4)
  have HB0 : Below w.heap.size w ((w.alloc (.cells #[.int .i64 key] 3)).alloc (.cells #[.bool false] 4)) := ((Below.refl _ w).alloc (Nat.le_refl _) _).alloc (by simp) _
  obtain ⟨W0, hW0⟩ : ∃ W0, ((w.alloc (.cells #[.int .i64 key] 3)).alloc (.cells #[.bool false] 4)) = W0 := ⟨_, rfl⟩
  have KN := Lib.hid (known_any W0)
  have HW := Lib.hid hW0
  rw [hW0] at h0 h1 HB0
  have KB0 := Lib.hid HB0
  have H0 := Lib.hid h0
  have H1 := Lib.hid h1
  clear hW0 h0 h1 HB0
  go_wp2_with (fail)
  rw [HW.out]
  refine KN.out.mono ?_
  rintro e w1 ⟨rfl, B1⟩
  have MA := made_any w1 A cap ops (by omega) (Rd.elems_below (KB0.out.trans (B1.mono KB0.out.size)) HE.out)
  rw [← HLD.out] at MA
  have HMA := Lib.hid MA
  have HB1 := Lib.hid B1
  clear MA B1 KN
  go_wp2_with (fail)
  refine HMA.out.mono ?_
  rintro e w2 ⟨B, c, ps, rfl, F, B2⟩
  obtain ⟨g, p, hBe, d0, T2⟩ := F.at_ HT.out
  subst hBe
  have HB2 := Lib.hid (HB1.out.trans (B2.mono HB1.out.size))
  have HT2 := Lib.hid T2
  have q0 : (0 : Int) ≤ (l.length : Int) - 1 := by omega
  have q1 : (l.length : Int) - 1 < (l.length : Int) := by omega
  have q2 : ((l.length : Int) - 1).toNat = l.length - 1 := by omega
  have c0 := cell_blk (blk_below H0.out HB2.out) 0 rfl
  have SP := Ti.split_any key t T2 (by unfold Ti.big; omega)
  rw [← HA.out, ← HBB.out] at SP
  have HSP := Lib.hid SP
  clear F B2 T2 HMA SP
  go_wp2_with (fail)
  refine HSP.out.mono ?_
  rintro e w3 ⟨pa, pb, rfl, TA, TB, B3⟩
  have HB3 := Lib.hid (HB2.out.trans (B3.mono HB2.out.size))
  have HT3 := Lib.hid (HT2.out.below B3)
  have JO := Ti.Join_any a b TA TB (by have := HSS.out; unfold Ti.big; omega)
  rw [HMS.out] at JO
  have HJO := Lib.hid JO
  have HTA := Lib.hid TA
  have HTB := Lib.hid TB
  clear B3 TA TB JO HSP c0 d0
  go_wp2_with (fail)
  refine HJO.out.mono ?_
  rintro e w4 ⟨B4, he⟩
  rw [if_pos rfl] at he
  obtain ⟨pu, rfl, TU⟩ := he
  have HB4 := Lib.hid (HB3.out.trans (B4.mono HB3.out.size))
  have HT4 := Lib.hid (HT3.out.below B4)
  have HTA4 := Lib.hid (HTA.out.below B4)
  have HTB4 := Lib.hid (HTB.out.below B4)
  have HTU := Lib.hid TU
  clear B4 TU HJO
  go_upto_region 7 with (fail)
  refine wp_cut (fun (ac : Act) (wx : World) => ∃ u0 u1 u3 u5 u7 u11 u12 u13 u14 u15 u16 u17 u18 u19 u20 u21 u22 u23 u24 u25 u26 u27 u28 u29 u30 u31 u32 u33 u34 u35 u36 u37 u38 u39 u40 u41 u42 u43 u44 u45 u46 u47 u48 u49 u50 u51 u52 u53 u54 u55 u56 u57 u58 u59 u60 u61 u62 u63 u64 u65 u66 u67 u68 u69 u70 u71 u72 u73 u75 u76 u77 u78 u79 u80 u81 u82 u83 u84 u85 u86 u87 u88 u89 u90 u91 u92 u93 u94 u95 u96 u97 u98 u99 u100 u101 u102 u103 u104 u105 u106 u107 u108 u109 u110 u111 u112 u113 u114 u115 u116 u117 u118 u119 u120 u121 u122 u123 u124 u125 u126 u127 u128 u129 u130 u131 u132 u133 u134 u135 u136 u137 u138 u139 u140 u141 u142 u143 u144 u145 u146 u147 u148 u149 u150 u151 u152 u153 u154 u155 u156 u157 u158 u159 u160 u161 : Value, (Below w4.heap.size w4 wx) ∧ ac = ({ tmps := #[u0, u1, .int .i64 value, u3, .pointer (some ⟨w.heap.size, 0, none⟩), u5, .pointer (some ⟨w.heap.size + 1, 0, none⟩), u7, .pointer p, .pointer pa, .pointer pb, u11, u12, u13, u14, u15, u16, u17, u18, u19, u20, u21, u22, u23, u24, u25, u26, u27, u28, u29, u30, u31, u32, u33, u34, u35, u36, u37, u38, u39, u40, u41, u42, u43, u44, u45, u46, u47, u48, u49, u50, u51, u52, u53, u54, u55, u56, u57, u58, u59, u60, u61, u62, u63, u64, u65, u66, u67, u68, u69, u70, u71, u72, u73, .bool false, u75, u76, u77, u78, u79, u80, u81, u82, u83, u84, u85, u86, u87, u88, u89, u90, u91, u92, u93, u94, u95, u96, u97, u98, u99, u100, u101, u102, u103, u104, u105, u106, u107, u108, u109, u110, u111, u112, u113, u114, u115, u116, u117, u118, u119, u120, u121, u122, u123, u124, u125, u126, u127, u128, u129, u130, u131, u132, u133, u134, u135, u136, u137, u138, u139, u140, u141, u142, u143, u144, u145, u146, u147, u148, u149, u150, u151, u152, u153, u154, u155, u156, u157, u158, u159, u160, u161], defers := [] } : Act)) ?rest ?first
  case' rest => (intro ac wx hcut; obtain ⟨u0, hcut⟩ := hcut; obtain ⟨u1, hcut⟩ := hcut; obtain ⟨u3, hcut⟩ := hcut; obtain ⟨u5, hcut⟩ := hcut; obtain ⟨u7, hcut⟩ := hcut; obtain ⟨u11, hcut⟩ := hcut; obtain ⟨u12, hcut⟩ := hcut; obtain ⟨u13, hcut⟩ := hcut; obtain ⟨u14, hcut⟩ := hcut; obtain ⟨u15, hcut⟩ := hcut; obtain ⟨u16, hcut⟩ := hcut; obtain ⟨u17, hcut⟩ := hcut; obtain ⟨u18, hcut⟩ := hcut; obtain ⟨u19, hcut⟩ := hcut; obtain ⟨u20, hcut⟩ := hcut; obtain ⟨u21, hcut⟩ := hcut; obtain ⟨u22, hcut⟩ := hcut; obtain ⟨u23, hcut⟩ := hcut; obtain ⟨u24, hcut⟩ := hcut; obtain ⟨u25, hcut⟩ := hcut; obtain ⟨u26, hcut⟩ := hcut; obtain ⟨u27, hcut⟩ := hcut; obtain ⟨u28, hcut⟩ := hcut; obtain ⟨u29, hcut⟩ := hcut; obtain ⟨u30, hcut⟩ := hcut; obtain ⟨u31, hcut⟩ := hcut; obtain ⟨u32, hcut⟩ := hcut; obtain ⟨u33, hcut⟩ := hcut; obtain ⟨u34, hcut⟩ := hcut; obtain ⟨u35, hcut⟩ := hcut; obtain ⟨u36, hcut⟩ := hcut; obtain ⟨u37, hcut⟩ := hcut; obtain ⟨u38, hcut⟩ := hcut; obtain ⟨u39, hcut⟩ := hcut; obtain ⟨u40, hcut⟩ := hcut; obtain ⟨u41, hcut⟩ := hcut; obtain ⟨u42, hcut⟩ := hcut; obtain ⟨u43, hcut⟩ := hcut; obtain ⟨u44, hcut⟩ := hcut; obtain ⟨u45, hcut⟩ := hcut; obtain ⟨u46, hcut⟩ := hcut; obtain ⟨u47, hcut⟩ := hcut; obtain ⟨u48, hcut⟩ := hcut; obtain ⟨u49, hcut⟩ := hcut; obtain ⟨u50, hcut⟩ := hcut; obtain ⟨u51, hcut⟩ := hcut; obtain ⟨u52, hcut⟩ := hcut; obtain ⟨u53, hcut⟩ := hcut; obtain ⟨u54, hcut⟩ := hcut; obtain ⟨u55, hcut⟩ := hcut; obtain ⟨u56, hcut⟩ := hcut; obtain ⟨u57, hcut⟩ := hcut; obtain ⟨u58, hcut⟩ := hcut; obtain ⟨u59, hcut⟩ := hcut; obtain ⟨u60, hcut⟩ := hcut; obtain ⟨u61, hcut⟩ := hcut; obtain ⟨u62, hcut⟩ := hcut; obtain ⟨u63, hcut⟩ := hcut; obtain ⟨u64, hcut⟩ := hcut; obtain ⟨u65, hcut⟩ := hcut; obtain ⟨u66, hcut⟩ := hcut; obtain ⟨u67, hcut⟩ := hcut; obtain ⟨u68, hcut⟩ := hcut; obtain ⟨u69, hcut⟩ := hcut; obtain ⟨u70, hcut⟩ := hcut; obtain ⟨u71, hcut⟩ := hcut; obtain ⟨u72, hcut⟩ := hcut; obtain ⟨u73, hcut⟩ := hcut; obtain ⟨u75, hcut⟩ := hcut; obtain ⟨u76, hcut⟩ := hcut; obtain ⟨u77, hcut⟩ := hcut; obtain ⟨u78, hcut⟩ := hcut; obtain ⟨u79, hcut⟩ := hcut; obtain ⟨u80, hcut⟩ := hcut; obtain ⟨u81, hcut⟩ := hcut; obtain ⟨u82, hcut⟩ := hcut; obtain ⟨u83, hcut⟩ := hcut; obtain ⟨u84, hcut⟩ := hcut; obtain ⟨u85, hcut⟩ := hcut; obtain ⟨u86, hcut⟩ := hcut; obtain ⟨u87, hcut⟩ := hcut; obtain ⟨u88, hcut⟩ := hcut; obtain ⟨u89, hcut⟩ := hcut; obtain ⟨u90, hcut⟩ := hcut; obtain ⟨u91, hcut⟩ := hcut; obtain ⟨u92, hcut⟩ := hcut; obtain ⟨u93, hcut⟩ := hcut; obtain ⟨u94, hcut⟩ := hcut; obtain ⟨u95, hcut⟩ := hcut; obtain ⟨u96, hcut⟩ := hcut; obtain ⟨u97, hcut⟩ := hcut; obtain ⟨u98, hcut⟩ := hcut; obtain ⟨u99, hcut⟩ := hcut; obtain ⟨u100, hcut⟩ := hcut; obtain ⟨u101, hcut⟩ := hcut; obtain ⟨u102, hcut⟩ := hcut; obtain ⟨u103, hcut⟩ := hcut; obtain ⟨u104, hcut⟩ := hcut; obtain ⟨u105, hcut⟩ := hcut; obtain ⟨u106, hcut⟩ := hcut; obtain ⟨u107, hcut⟩ := hcut; obtain ⟨u108, hcut⟩ := hcut; obtain ⟨u109, hcut⟩ := hcut; obtain ⟨u110, hcut⟩ := hcut; obtain ⟨u111, hcut⟩ := hcut; obtain ⟨u112, hcut⟩ := hcut; obtain ⟨u113, hcut⟩ := hcut; obtain ⟨u114, hcut⟩ := hcut; obtain ⟨u115, hcut⟩ := hcut; obtain ⟨u116, hcut⟩ := hcut; obtain ⟨u117, hcut⟩ := hcut; obtain ⟨u118, hcut⟩ := hcut; obtain ⟨u119, hcut⟩ := hcut; obtain ⟨u120, hcut⟩ := hcut; obtain ⟨u121, hcut⟩ := hcut; obtain ⟨u122, hcut⟩ := hcut; obtain ⟨u123, hcut⟩ := hcut; obtain ⟨u124, hcut⟩ := hcut; obtain ⟨u125, hcut⟩ := hcut; obtain ⟨u126, hcut⟩ := hcut; obtain ⟨u127, hcut⟩ := hcut; obtain ⟨u128, hcut⟩ := hcut; obtain ⟨u129, hcut⟩ := hcut; obtain ⟨u130, hcut⟩ := hcut; obtain ⟨u131, hcut⟩ := hcut; obtain ⟨u132, hcut⟩ := hcut; obtain ⟨u133, hcut⟩ := hcut; obtain ⟨u134, hcut⟩ := hcut; obtain ⟨u135, hcut⟩ := hcut; obtain ⟨u136, hcut⟩ := hcut; obtain ⟨u137, hcut⟩ := hcut; obtain ⟨u138, hcut⟩ := hcut; obtain ⟨u139, hcut⟩ := hcut; obtain ⟨u140, hcut⟩ := hcut; obtain ⟨u141, hcut⟩ := hcut; obtain ⟨u142, hcut⟩ := hcut; obtain ⟨u143, hcut⟩ := hcut; obtain ⟨u144, hcut⟩ := hcut; obtain ⟨u145, hcut⟩ := hcut; obtain ⟨u146, hcut⟩ := hcut; obtain ⟨u147, hcut⟩ := hcut; obtain ⟨u148, hcut⟩ := hcut; obtain ⟨u149, hcut⟩ := hcut; obtain ⟨u150, hcut⟩ := hcut; obtain ⟨u151, hcut⟩ := hcut; obtain ⟨u152, hcut⟩ := hcut; obtain ⟨u153, hcut⟩ := hcut; obtain ⟨u154, hcut⟩ := hcut; obtain ⟨u155, hcut⟩ := hcut; obtain ⟨u156, hcut⟩ := hcut; obtain ⟨u157, hcut⟩ := hcut; obtain ⟨u158, hcut⟩ := hcut; obtain ⟨u159, hcut⟩ := hcut; obtain ⟨u160, hcut⟩ := hcut; obtain ⟨u161, hcut⟩ := hcut; obtain ⟨hcut, hac⟩ := hcut; subst hac)
  case' first => intro _ _ _ _
  case first =>
    obtain ⟨sa, hsa⟩ : ∃ sa, sa = a.size := ⟨_, rfl⟩
    obtain ⟨sb, hsb⟩ : ∃ sb, sb = b.size := ⟨_, rfl⟩
    obtain ⟨st, hst⟩ : ∃ st, st = t.size := ⟨_, rfl⟩
    have t1 : ((sa : Int) + (sb : Int) != (st : Int)) = false := by have := HSS.out; simp; omega
    have z1 : (sa : Int) ≤ 5000000000000 := by have := HSS.out; omega
    have z2 : (sb : Int) ≤ 5000000000000 := by have := HSS.out; omega
    have c0 := cell_blk (blk_below H0.out HB4.out) 0 rfl
    have RU := row_any HTU.out.drew (by have := HSB.out; have := HSS.out; omega)
    rw [HUB.out] at RU
    have HRU := Lib.hid RU
    have hfl := flatI_len t.toList
    rw [T.length_toList] at hfl
    have HFL := Lib.hid hfl
    have RT : ∀ w', Below w4.drew.heap.size w4.drew w' → Calls Try.prog 30 #[.pointer p] w' (RowP w' (flatI t.toList)) := fun w' hb => row_any (HT4.out.drew.below hb) (by omega)
    have LA : ∀ w', Below w4.drew.heap.size w4.drew w' → Calls Try.prog 16 #[.pointer pa] w' fun e w2 => e = .returned (.int .i64 (sa : Int)) ∧ w' = w2 := fun w' hb => by rw [hsa]; exact Ti.len_any (HTA4.out.drew.below hb)
    have LB : ∀ w', Below w4.drew.heap.size w4.drew w' → Calls Try.prog 16 #[.pointer pb] w' fun e w2 => e = .returned (.int .i64 (sb : Int)) ∧ w' = w2 := fun w' hb => by rw [hsb]; exact Ti.len_any (HTB4.out.drew.below hb)
    have LT : ∀ w', Below w4.drew.heap.size w4.drew w' → Calls Try.prog 16 #[.pointer p] w' fun e w2 => e = .returned (.int .i64 (st : Int)) ∧ w' = w2 := fun w' hb => by rw [hst]; exact Ti.len_any (HT4.out.drew.below hb)
    have RK : ∀ w', Below w4.drew.heap.size w4.drew w' → Calls Try.prog 19 #[.pointer p, .int .i64 key] w' fun e w2 => e = .returned (.int .i64 (sa : Int)) ∧ w' = w2 := fun w' hb => by rw [hsa, ← HRK.out]; exact Ti.rank_any key (HT4.out.drew.below hb) s0
    have HRT := Lib.hid RT
    have HLA := Lib.hid LA
    have HLB := Lib.hid LB
    have HLT := Lib.hid LT
    have HRKK := Lib.hid RK
    clear RU hfl RT LA LB LT RK hsa hsb hst
    refine wp_region_noPanic ?_
    refine start_ (n := 29) (S := fun w' => w'.cell? ⟨w.heap.size, 0, none⟩ = some (.int .i64 key)) (ds := []) #[false, false, false, false, false, false, false, false, false, false, false, false, false, false, false, false, false, false, false, false, false, false, false, false, false, false, false, false, false] (by kernel_rfl) rfl rfl c0 (fun hHeld => ?_)
    (refine take_ (i := 0) (N := some 46) (v := ?v_2) (a' := ?a_2) #[true, false, false, false, false, false, false, false, false, false, false, false, false, false, false, false, false, false, false, false, false, false, false, false, false, false, false, false, false] rfl rfl (by kernel_rfl) (fun _ _ _ h => h) (Or.inl ⟨by rfl, ?hy_2⟩) hHeld ?ha_2 ?hh_2; (case hy_2 => (rintro w' s0_; go_simp; with_reducible rfl)); (case ha_2 => (simp (disch := omega) only [Act.put, List.setIfInBounds_toArray, List.set_cons_zero, List.set_cons_succ, wrap_in]; rfl)))
    refine one_ (i := 1) (N := some 47) #[true, true, false, false, false, false, false, false, false, false, false, false, false, false, false, false, false, false, false, false, false, false, false, false, false, false, false, false, false] rfl rfl (by kernel_rfl) (by decide) (fun K hK => ?_)
    (refine goes_ Try.func24 (by kernel_rfl) rfl ?args_4 (by rfl) rfl rfl ?hargs_4 ?hc_4; (case hargs_4 => (go_simp; with_reducible rfl)))
    (refine (num_any 0 _).mono ?_; rintro e w_ ⟨rfl, rfl⟩; refine ⟨_, rfl, ?_⟩)
    (refine hK.out _ _ ?hs_6 ?hn_6; (case hs_6 => (exact hHeld)); intro hHeld; clear hK K)
    (refine norm_ (a' := ?a_7) ?ha_7 ?hh_7; (case ha_7 => (simp (disch := omega) only [Act.put, List.setIfInBounds_toArray, List.set_cons_zero, List.set_cons_succ, wrap_in]; rfl)))
    (refine take_ (i := 2) (N := some 48) (v := ?v_8) (a' := ?a_8) #[true, true, true, false, false, false, false, false, false, false, false, false, false, false, false, false, false, false, false, false, false, false, false, false, false, false, false, false, false] rfl rfl (by kernel_rfl) (fun _ _ _ h => h) (Or.inl ⟨by rfl, ?hy_8⟩) hHeld ?ha_8 ?hh_8; (case hy_8 => (rintro w' s0_; go_simp; with_reducible rfl)); (case ha_8 => (simp (disch := omega) only [Act.put, List.setIfInBounds_toArray, List.set_cons_zero, List.set_cons_succ, wrap_in]; rfl)))
    (refine take_ (i := 3) (N := some 49) (v := ?v_9) (a' := ?a_9) #[true, true, true, true, false, false, false, false, false, false, false, false, false, false, false, false, false, false, false, false, false, false, false, false, false, false, false, false, false] rfl rfl (by kernel_rfl) (fun _ _ _ h => h) (Or.inl ⟨by rfl, ?hy_9⟩) hHeld ?ha_9 ?hh_9; (case hy_9 => (rintro w' s0_; go_simp; with_reducible rfl)); (case ha_9 => (simp (disch := omega) only [Act.put, List.setIfInBounds_toArray, List.set_cons_zero, List.set_cons_succ, wrap_in]; rfl)))
    first | (refine take_ (i := 4) (N := some 50) (v := undef) (a' := ?a_10) #[true, true, true, true, true, false, false, false, false, false, false, false, false, false, false, false, false, false, false, false, false, false, false, false, false, false, false, false, false] rfl rfl (by kernel_rfl) (fun _ _ _ h => h) (Or.inr ⟨by rfl, rfl⟩) hHeld ?ha_10 ?hh_10; (case ha_10 => (simp (disch := omega) only [Act.put, List.setIfInBounds_toArray, List.set_cons_zero, List.set_cons_succ, wrap_in]; rfl))) | (refine take_ (i := 4) (N := some 50) (v := ?v_10) (a' := ?a_10) #[true, true, true, true, true, false, false, false, false, false, false, false, false, false, false, false, false, false, false, false, false, false, false, false, false, false, false, false, false] rfl rfl (by kernel_rfl) (fun _ _ _ h => h) (Or.inl ⟨by rfl, ?hy_10⟩) hHeld ?ha_10 ?hh_10; (case hy_10 => (rintro w' s0_; go_simp; with_reducible rfl)); (case ha_10 => (simp (disch := omega) only [Act.put, List.setIfInBounds_toArray, List.set_cons_zero, List.set_cons_succ, wrap_in]; rfl)))
    first | (refine take_ (i := 6) (N := some 52) (v := undef) (a' := ?a_11) #[true, true, true, true, true, false, true, false, false, false, false, false, false, false, false, false, false, false, false, false, false, false, false, false, false, false, false, false, false] rfl rfl (by kernel_rfl) (fun _ _ _ h => h) (Or.inr ⟨by rfl, rfl⟩) hHeld ?ha_11 ?hh_11; (case ha_11 => (simp (disch := omega) only [Act.put, List.setIfInBounds_toArray, List.set_cons_zero, List.set_cons_succ, wrap_in]; rfl))) | (refine take_ (i := 6) (N := some 52) (v := ?v_11) (a' := ?a_11) #[true, true, true, true, true, false, true, false, false, false, false, false, false, false, false, false, false, false, false, false, false, false, false, false, false, false, false, false, false] rfl rfl (by kernel_rfl) (fun _ _ _ h => h) (Or.inl ⟨by rfl, ?hy_11⟩) hHeld ?ha_11 ?hh_11; (case hy_11 => (rintro w' s0_; go_simp; with_reducible rfl)); (case ha_11 => (simp (disch := omega) only [Act.put, List.setIfInBounds_toArray, List.set_cons_zero, List.set_cons_succ, wrap_in]; rfl)))
    refine one_ (i := 5) (N := some 51) #[true, true, true, true, true, true, true, false, false, false, false, false, false, false, false, false, false, false, false, false, false, false, false, false, false, false, false, false, false] rfl rfl (by kernel_rfl) (by decide) (fun K hK => ?_)
    (refine goes_ Try.func30 (by kernel_rfl) rfl ?args_13 (by rfl) rfl rfl ?hargs_13 ?hc_13; (case hargs_13 => (go_simp; with_reducible rfl)))
    (refine HRU.out.mono ?_; rintro e w5 ⟨Au, cu, rfl, RU, B5⟩; refine ⟨_, rfl, ?_⟩)
    (refine hK.out _ _ ?hs_15 ?hn_15; (case hs_15 => (have s0_ := hHeld; exact cell_below B5 s0_)); intro hHeld; clear hK K)
    (refine norm_ (a' := ?a_16) ?ha_16 ?hh_16; (case ha_16 => (simp (disch := omega) only [Act.put, List.setIfInBounds_toArray, List.set_cons_zero, List.set_cons_succ, wrap_in]; rfl)))
    refine one_ (i := 7) (N := some 53) #[true, true, true, true, true, true, true, true, false, false, false, false, false, false, false, false, false, false, false, false, false, false, false, false, false, false, false, false, false] rfl rfl (by kernel_rfl) (by decide) (fun K hK => ?_)
    (refine goes_ Try.func30 (by kernel_rfl) rfl ?args_18 (by rfl) rfl rfl ?hargs_18 ?hc_18; (case hargs_18 => (go_simp; with_reducible rfl)))
    (refine (HRT.out w5 B5).mono ?_; rintro e w6 ⟨At, ct, rfl, RT, B6⟩; refine ⟨_, rfl, ?_⟩)
    (refine hK.out _ _ ?hs_20 ?hn_20; (case hs_20 => (have s0_ := hHeld; exact cell_below B6 s0_)); intro hHeld; clear hK K)
    (refine norm_ (a' := ?a_21) ?ha_21 ?hh_21; (case ha_21 => (simp (disch := omega) only [Act.put, List.setIfInBounds_toArray, List.set_cons_zero, List.set_cons_succ, wrap_in]; rfl)))
    refine one_ (i := 8) (N := some 54) #[true, true, true, true, true, true, true, true, true, false, false, false, false, false, false, false, false, false, false, false, false, false, false, false, false, false, false, false, false] rfl rfl (by kernel_rfl) (by decide) (fun K hK => ?_)
    (refine goes_ Try.func32 (by kernel_rfl) rfl ?args_23 (by rfl) rfl rfl ?hargs_23 ?hc_23; (case hargs_23 => (go_simp; with_reducible rfl)))
    (refine (alike_any (RU.keeps (KeepT.below B6)) RT (by have := HFL.out; omega)).mono ?_; rintro e w7 ⟨rfl, B7⟩; have B8 := Lib.hid (B5.trans ((B6.trans (B7.mono B6.size)).mono B5.size)); refine ⟨_, rfl, ?_⟩)
    (refine hK.out _ _ ?hs_25 ?hn_25; (case hs_25 => (have s0_ := hHeld; exact cell_below B7 s0_)); intro hHeld; clear hK K)
    (refine norm_ (a' := ?a_26) ?ha_26 ?hh_26; (case ha_26 => (simp (disch := omega) only [Act.put, List.setIfInBounds_toArray, List.set_cons_zero, List.set_cons_succ, wrap_in]; rfl)))
    first | (refine take_ (i := 9) (N := some 55) (v := undef) (a' := ?a_27) #[true, true, true, true, true, true, true, true, true, true, false, false, false, false, false, false, false, false, false, false, false, false, false, false, false, false, false, false, false] rfl rfl (by kernel_rfl) (fun _ _ _ h => h) (Or.inr ⟨by rfl, rfl⟩) hHeld ?ha_27 ?hh_27; (case ha_27 => (simp (disch := omega) only [Act.put, List.setIfInBounds_toArray, List.set_cons_zero, List.set_cons_succ, wrap_in]; rfl))) | (refine take_ (i := 9) (N := some 55) (v := ?v_27) (a' := ?a_27) #[true, true, true, true, true, true, true, true, true, true, false, false, false, false, false, false, false, false, false, false, false, false, false, false, false, false, false, false, false] rfl rfl (by kernel_rfl) (fun _ _ _ h => h) (Or.inl ⟨by rfl, ?hy_27⟩) hHeld ?ha_27 ?hh_27; (case hy_27 => (rintro w' s0_; go_simp; with_reducible rfl)); (case ha_27 => (simp (disch := omega) only [Act.put, List.setIfInBounds_toArray, List.set_cons_zero, List.set_cons_succ, wrap_in]; rfl)))
    (refine take_ (i := 10) (N := some 56) (v := ?v_28) (a' := ?a_28) #[true, true, true, true, true, true, true, true, true, true, true, false, false, false, false, false, false, false, false, false, false, false, false, false, false, false, false, false, false] rfl rfl (by kernel_rfl) (fun _ _ _ h => h) (Or.inl ⟨by rfl, ?hy_28⟩) hHeld ?ha_28 ?hh_28; (case hy_28 => (rintro w' s0_; go_simp; with_reducible rfl)); (case ha_28 => (simp (disch := omega) only [Act.put, List.setIfInBounds_toArray, List.set_cons_zero, List.set_cons_succ, wrap_in]; rfl)))
    (refine take_ (i := 11) (N := some 57) (v := ?v_29) (a' := ?a_29) #[true, true, true, true, true, true, true, true, true, true, true, true, false, false, false, false, false, false, false, false, false, false, false, false, false, false, false, false, false] rfl rfl (by kernel_rfl) (fun _ _ _ h => h) (Or.inl ⟨by rfl, ?hy_29⟩) hHeld ?ha_29 ?hh_29; (case hy_29 => (rintro w' s0_; go_simp; with_reducible rfl)); (case ha_29 => (simp (disch := omega) only [Act.put, List.setIfInBounds_toArray, List.set_cons_zero, List.set_cons_succ, wrap_in]; rfl)))
    first | (refine take_ (i := 12) (N := some 58) (v := undef) (a' := ?a_30) #[true, true, true, true, true, true, true, true, true, true, true, true, true, false, false, false, false, false, false, false, false, false, false, false, false, false, false, false, false] rfl rfl (by kernel_rfl) (fun _ _ _ h => h) (Or.inr ⟨by rfl, rfl⟩) hHeld ?ha_30 ?hh_30; (case ha_30 => (simp (disch := omega) only [Act.put, List.setIfInBounds_toArray, List.set_cons_zero, List.set_cons_succ, wrap_in]; rfl))) | (refine take_ (i := 12) (N := some 58) (v := ?v_30) (a' := ?a_30) #[true, true, true, true, true, true, true, true, true, true, true, true, true, false, false, false, false, false, false, false, false, false, false, false, false, false, false, false, false] rfl rfl (by kernel_rfl) (fun _ _ _ h => h) (Or.inl ⟨by rfl, ?hy_30⟩) hHeld ?ha_30 ?hh_30; (case hy_30 => (rintro w' s0_; go_simp; with_reducible rfl)); (case ha_30 => (simp (disch := omega) only [Act.put, List.setIfInBounds_toArray, List.set_cons_zero, List.set_cons_succ, wrap_in]; rfl)))
    first | (refine take_ (i := 14) (N := some 60) (v := undef) (a' := ?a_31) #[true, true, true, true, true, true, true, true, true, true, true, true, true, false, true, false, false, false, false, false, false, false, false, false, false, false, false, false, false] rfl rfl (by kernel_rfl) (fun _ _ _ h => h) (Or.inr ⟨by rfl, rfl⟩) hHeld ?ha_31 ?hh_31; (case ha_31 => (simp (disch := omega) only [Act.put, List.setIfInBounds_toArray, List.set_cons_zero, List.set_cons_succ, wrap_in]; rfl))) | (refine take_ (i := 14) (N := some 60) (v := ?v_31) (a' := ?a_31) #[true, true, true, true, true, true, true, true, true, true, true, true, true, false, true, false, false, false, false, false, false, false, false, false, false, false, false, false, false] rfl rfl (by kernel_rfl) (fun _ _ _ h => h) (Or.inl ⟨by rfl, ?hy_31⟩) hHeld ?ha_31 ?hh_31; (case hy_31 => (rintro w' s0_; go_simp; with_reducible rfl)); (case ha_31 => (simp (disch := omega) only [Act.put, List.setIfInBounds_toArray, List.set_cons_zero, List.set_cons_succ, wrap_in]; rfl)))
    first | (refine take_ (i := 15) (N := some 61) (v := undef) (a' := ?a_32) #[true, true, true, true, true, true, true, true, true, true, true, true, true, false, true, true, false, false, false, false, false, false, false, false, false, false, false, false, false] rfl rfl (by kernel_rfl) (fun _ _ _ h => h) (Or.inr ⟨by rfl, rfl⟩) hHeld ?ha_32 ?hh_32; (case ha_32 => (simp (disch := omega) only [Act.put, List.setIfInBounds_toArray, List.set_cons_zero, List.set_cons_succ, wrap_in]; rfl))) | (refine take_ (i := 15) (N := some 61) (v := ?v_32) (a' := ?a_32) #[true, true, true, true, true, true, true, true, true, true, true, true, true, false, true, true, false, false, false, false, false, false, false, false, false, false, false, false, false] rfl rfl (by kernel_rfl) (fun _ _ _ h => h) (Or.inl ⟨by rfl, ?hy_32⟩) hHeld ?ha_32 ?hh_32; (case hy_32 => (rintro w' s0_; go_simp; with_reducible rfl)); (case ha_32 => (simp (disch := omega) only [Act.put, List.setIfInBounds_toArray, List.set_cons_zero, List.set_cons_succ, wrap_in]; rfl)))
    refine one_ (i := 13) (N := some 59) #[true, true, true, true, true, true, true, true, true, true, true, true, true, true, true, true, false, false, false, false, false, false, false, false, false, false, false, false, false] rfl rfl (by kernel_rfl) (by decide) (fun K hK => ?_)
    (refine goes_ Try.func16 (by kernel_rfl) rfl ?args_34 (by rfl) rfl rfl ?hargs_34 ?hc_34; (case hargs_34 => (go_simp; with_reducible rfl)))
    (refine (HLA.out _ B8.out).mono ?_; rintro e w_ ⟨rfl, rfl⟩; refine ⟨_, rfl, ?_⟩)
    (refine hK.out _ _ ?hs_36 ?hn_36; (case hs_36 => (exact hHeld)); intro hHeld; clear hK K)
    (refine norm_ (a' := ?a_37) ?ha_37 ?hh_37; (case ha_37 => (simp (disch := omega) only [Act.put, List.setIfInBounds_toArray, List.set_cons_zero, List.set_cons_succ, wrap_in]; rfl)))
    refine one_ (i := 16) (N := some 62) #[true, true, true, true, true, true, true, true, true, true, true, true, true, true, true, true, true, false, false, false, false, false, false, false, false, false, false, false, false] rfl rfl (by kernel_rfl) (by decide) (fun K hK => ?_)
    (refine goes_ Try.func19 (by kernel_rfl) rfl ?args_39 (by rfl) rfl rfl ?hargs_39 ?hc_39; (case hargs_39 => (go_simp; with_reducible rfl)))
    (refine (HRKK.out _ B8.out).mono ?_; rintro e w_ ⟨rfl, rfl⟩; refine ⟨_, rfl, ?_⟩)
    (refine hK.out _ _ ?hs_41 ?hn_41; (case hs_41 => (exact hHeld)); intro hHeld; clear hK K)
    (refine norm_ (a' := ?a_42) ?ha_42 ?hh_42; (case ha_42 => (simp (disch := omega) only [Act.put, List.setIfInBounds_toArray, List.set_cons_zero, List.set_cons_succ, wrap_in]; rfl)))
    first | (refine take_ (i := 17) (N := some 63) (v := undef) (a' := ?a_43) #[true, true, true, true, true, true, true, true, true, true, true, true, true, true, true, true, true, true, false, false, false, false, false, false, false, false, false, false, false] rfl rfl (by kernel_rfl) (fun _ _ _ h => h) (Or.inr ⟨by rfl, rfl⟩) hHeld ?ha_43 ?hh_43; (case ha_43 => (simp (disch := omega) only [Act.put, List.setIfInBounds_toArray, List.set_cons_zero, List.set_cons_succ, wrap_in]; rfl))) | (refine take_ (i := 17) (N := some 63) (v := ?v_43) (a' := ?a_43) #[true, true, true, true, true, true, true, true, true, true, true, true, true, true, true, true, true, true, false, false, false, false, false, false, false, false, false, false, false] rfl rfl (by kernel_rfl) (fun _ _ _ h => h) (Or.inl ⟨by rfl, ?hy_43⟩) hHeld ?ha_43 ?hh_43; (case hy_43 => (rintro w' s0_; go_simp; with_reducible rfl)); (case ha_43 => (simp (disch := omega) only [Act.put, List.setIfInBounds_toArray, List.set_cons_zero, List.set_cons_succ, wrap_in]; rfl)))
    (refine take_ (i := 18) (N := some 64) (v := ?v_44) (a' := ?a_44) #[true, true, true, true, true, true, true, true, true, true, true, true, true, true, true, true, true, true, true, false, false, false, false, false, false, false, false, false, false] rfl rfl (by kernel_rfl) (fun _ _ _ h => h) (Or.inl ⟨by rfl, ?hy_44⟩) hHeld ?ha_44 ?hh_44; (case hy_44 => (rintro w' s0_; go_simp; with_reducible rfl)); (case ha_44 => (simp (disch := omega) only [Act.put, List.setIfInBounds_toArray, List.set_cons_zero, List.set_cons_succ, wrap_in]; rfl)))
    (refine take_ (i := 19) (N := some 65) (v := ?v_45) (a' := ?a_45) #[true, true, true, true, true, true, true, true, true, true, true, true, true, true, true, true, true, true, true, true, false, false, false, false, false, false, false, false, false] rfl rfl (by kernel_rfl) (fun _ _ _ h => h) (Or.inl ⟨by rfl, ?hy_45⟩) hHeld ?ha_45 ?hh_45; (case hy_45 => (rintro w' s0_; go_simp; with_reducible rfl)); (case ha_45 => (simp (disch := omega) only [Act.put, List.setIfInBounds_toArray, List.set_cons_zero, List.set_cons_succ, wrap_in]; rfl)))
    first | (refine take_ (i := 20) (N := some 66) (v := undef) (a' := ?a_46) #[true, true, true, true, true, true, true, true, true, true, true, true, true, true, true, true, true, true, true, true, true, false, false, false, false, false, false, false, false] rfl rfl (by kernel_rfl) (fun _ _ _ h => h) (Or.inr ⟨by rfl, rfl⟩) hHeld ?ha_46 ?hh_46; (case ha_46 => (simp (disch := omega) only [Act.put, List.setIfInBounds_toArray, List.set_cons_zero, List.set_cons_succ, wrap_in]; rfl))) | (refine take_ (i := 20) (N := some 66) (v := ?v_46) (a' := ?a_46) #[true, true, true, true, true, true, true, true, true, true, true, true, true, true, true, true, true, true, true, true, true, false, false, false, false, false, false, false, false] rfl rfl (by kernel_rfl) (fun _ _ _ h => h) (Or.inl ⟨by rfl, ?hy_46⟩) hHeld ?ha_46 ?hh_46; (case hy_46 => (rintro w' s0_; go_simp; with_reducible rfl)); (case ha_46 => (simp (disch := omega) only [Act.put, List.setIfInBounds_toArray, List.set_cons_zero, List.set_cons_succ, wrap_in]; rfl)))
    first | (refine take_ (i := 22) (N := some 68) (v := undef) (a' := ?a_47) #[true, true, true, true, true, true, true, true, true, true, true, true, true, true, true, true, true, true, true, true, true, false, true, false, false, false, false, false, false] rfl rfl (by kernel_rfl) (fun _ _ _ h => h) (Or.inr ⟨by rfl, rfl⟩) hHeld ?ha_47 ?hh_47; (case ha_47 => (simp (disch := omega) only [Act.put, List.setIfInBounds_toArray, List.set_cons_zero, List.set_cons_succ, wrap_in]; rfl))) | (refine take_ (i := 22) (N := some 68) (v := ?v_47) (a' := ?a_47) #[true, true, true, true, true, true, true, true, true, true, true, true, true, true, true, true, true, true, true, true, true, false, true, false, false, false, false, false, false] rfl rfl (by kernel_rfl) (fun _ _ _ h => h) (Or.inl ⟨by rfl, ?hy_47⟩) hHeld ?ha_47 ?hh_47; (case hy_47 => (rintro w' s0_; go_simp; with_reducible rfl)); (case ha_47 => (simp (disch := omega) only [Act.put, List.setIfInBounds_toArray, List.set_cons_zero, List.set_cons_succ, wrap_in]; rfl)))
    first | (refine take_ (i := 25) (N := some 71) (v := undef) (a' := ?a_48) #[true, true, true, true, true, true, true, true, true, true, true, true, true, true, true, true, true, true, true, true, true, false, true, false, false, true, false, false, false] rfl rfl (by kernel_rfl) (fun _ _ _ h => h) (Or.inr ⟨by rfl, rfl⟩) hHeld ?ha_48 ?hh_48; (case ha_48 => (simp (disch := omega) only [Act.put, List.setIfInBounds_toArray, List.set_cons_zero, List.set_cons_succ, wrap_in]; rfl))) | (refine take_ (i := 25) (N := some 71) (v := ?v_48) (a' := ?a_48) #[true, true, true, true, true, true, true, true, true, true, true, true, true, true, true, true, true, true, true, true, true, false, true, false, false, true, false, false, false] rfl rfl (by kernel_rfl) (fun _ _ _ h => h) (Or.inl ⟨by rfl, ?hy_48⟩) hHeld ?ha_48 ?hh_48; (case hy_48 => (rintro w' s0_; go_simp; with_reducible rfl)); (case ha_48 => (simp (disch := omega) only [Act.put, List.setIfInBounds_toArray, List.set_cons_zero, List.set_cons_succ, wrap_in]; rfl)))
    refine one_ (i := 21) (N := some 67) #[true, true, true, true, true, true, true, true, true, true, true, true, true, true, true, true, true, true, true, true, true, true, true, false, false, true, false, false, false] rfl rfl (by kernel_rfl) (by decide) (fun K hK => ?_)
    (refine goes_ Try.func16 (by kernel_rfl) rfl ?args_50 (by rfl) rfl rfl ?hargs_50 ?hc_50; (case hargs_50 => (go_simp; with_reducible rfl)))
    (refine (HLA.out _ B8.out).mono ?_; rintro e w_ ⟨rfl, rfl⟩; refine ⟨_, rfl, ?_⟩)
    (refine hK.out _ _ ?hs_52 ?hn_52; (case hs_52 => (exact hHeld)); intro hHeld; clear hK K)
    (refine norm_ (a' := ?a_53) ?ha_53 ?hh_53; (case ha_53 => (simp (disch := omega) only [Act.put, List.setIfInBounds_toArray, List.set_cons_zero, List.set_cons_succ, wrap_in]; rfl)))
    refine one_ (i := 23) (N := some 69) #[true, true, true, true, true, true, true, true, true, true, true, true, true, true, true, true, true, true, true, true, true, true, true, true, false, true, false, false, false] rfl rfl (by kernel_rfl) (by decide) (fun K hK => ?_)
    (refine goes_ Try.func16 (by kernel_rfl) rfl ?args_55 (by rfl) rfl rfl ?hargs_55 ?hc_55; (case hargs_55 => (go_simp; with_reducible rfl)))
    (refine (HLB.out _ B8.out).mono ?_; rintro e w_ ⟨rfl, rfl⟩; refine ⟨_, rfl, ?_⟩)
    (refine hK.out _ _ ?hs_57 ?hn_57; (case hs_57 => (exact hHeld)); intro hHeld; clear hK K)
    (refine norm_ (a' := ?a_58) ?ha_58 ?hh_58; (case ha_58 => (simp (disch := omega) only [Act.put, List.setIfInBounds_toArray, List.set_cons_zero, List.set_cons_succ, wrap_in]; rfl)))
    first | (refine take_ (i := 24) (N := some 70) (v := undef) (a' := ?a_59) #[true, true, true, true, true, true, true, true, true, true, true, true, true, true, true, true, true, true, true, true, true, true, true, true, true, true, false, false, false] rfl rfl (by kernel_rfl) (fun _ _ _ h => h) (Or.inr ⟨by rfl, rfl⟩) hHeld ?ha_59 ?hh_59; (case ha_59 => (simp (disch := omega) only [Act.put, List.setIfInBounds_toArray, List.set_cons_zero, List.set_cons_succ, wrap_in]; rfl))) | (refine take_ (i := 24) (N := some 70) (v := ?v_59) (a' := ?a_59) #[true, true, true, true, true, true, true, true, true, true, true, true, true, true, true, true, true, true, true, true, true, true, true, true, true, true, false, false, false] rfl rfl (by kernel_rfl) (fun _ _ _ h => h) (Or.inl ⟨by rfl, ?hy_59⟩) hHeld ?ha_59 ?hh_59; (case hy_59 => (rintro w' s0_; go_simp; with_reducible rfl)); (case ha_59 => (simp (disch := omega) only [Act.put, List.setIfInBounds_toArray, List.set_cons_zero, List.set_cons_succ, wrap_in]; rfl)))
    refine one_ (i := 26) (N := some 72) #[true, true, true, true, true, true, true, true, true, true, true, true, true, true, true, true, true, true, true, true, true, true, true, true, true, true, true, false, false] rfl rfl (by kernel_rfl) (by decide) (fun K hK => ?_)
    (refine goes_ Try.func16 (by kernel_rfl) rfl ?args_61 (by rfl) rfl rfl ?hargs_61 ?hc_61; (case hargs_61 => (go_simp; with_reducible rfl)))
    (refine (HLT.out _ B8.out).mono ?_; rintro e w_ ⟨rfl, rfl⟩; refine ⟨_, rfl, ?_⟩)
    (refine hK.out _ _ ?hs_63 ?hn_63; (case hs_63 => (exact hHeld)); intro hHeld; clear hK K)
    (refine norm_ (a' := ?a_64) ?ha_64 ?hh_64; (case ha_64 => (simp (disch := omega) only [Act.put, List.setIfInBounds_toArray, List.set_cons_zero, List.set_cons_succ, wrap_in]; rfl)))
    first | (refine take_ (i := 27) (N := some 73) (v := undef) (a' := ?a_65) #[true, true, true, true, true, true, true, true, true, true, true, true, true, true, true, true, true, true, true, true, true, true, true, true, true, true, true, true, false] rfl rfl (by kernel_rfl) (fun _ _ _ h => h) (Or.inr ⟨by rfl, rfl⟩) hHeld ?ha_65 ?hh_65; (case ha_65 => (simp (disch := omega) only [Act.put, List.setIfInBounds_toArray, List.set_cons_zero, List.set_cons_succ, wrap_in]; rfl))) | (refine take_ (i := 27) (N := some 73) (v := ?v_65) (a' := ?a_65) #[true, true, true, true, true, true, true, true, true, true, true, true, true, true, true, true, true, true, true, true, true, true, true, true, true, true, true, true, false] rfl rfl (by kernel_rfl) (fun _ _ _ h => h) (Or.inl ⟨by rfl, ?hy_65⟩) hHeld ?ha_65 ?hh_65; (case hy_65 => (rintro w' s0_; go_simp; with_reducible rfl)); (case ha_65 => (simp (disch := omega) only [Act.put, List.setIfInBounds_toArray, List.set_cons_zero, List.set_cons_succ, wrap_in]; rfl)))
    (refine take_ (i := 28) (N := some 74) (v := ?v_66) (a' := ?a_66) #[true, true, true, true, true, true, true, true, true, true, true, true, true, true, true, true, true, true, true, true, true, true, true, true, true, true, true, true, true] rfl rfl (by kernel_rfl) (fun _ _ _ h => h) (Or.inl ⟨by rfl, ?hy_66⟩) hHeld ?ha_66 ?hh_66; (case hy_66 => (rintro w' s0_; go_simp; with_reducible rfl)); (case ha_66 => (simp (disch := omega) only [Act.put, List.setIfInBounds_toArray, List.set_cons_zero, List.set_cons_succ, wrap_in]; rfl)))
    refine done_ (by kernel_rfl) ?_
    refine NoPanic.normal ?_
    go_wp2_with (fail)
    go_meet
    exact (Below.refl _ _).drew.trans B8.out
  case rest =>
  have HBX := Lib.hid hcut
  have HBX0 := Lib.hid (HB4.out.trans (hcut.mono HB4.out.size))
  have HTX := Lib.hid (HT4.out.below hcut)
  have HTAX := Lib.hid (HTA4.out.below hcut)
  have HTBX := Lib.hid (HTB4.out.below hcut)
  clear hcut
  go_wp2_with (fail)
  refine (Ti.all_any _).mono ?_
  rintro e w_ ⟨rfl, rfl⟩
  go_wp2_with (fail)
  refine (Ti.all_any _).mono ?_
  rintro e w_ ⟨rfl, rfl⟩
  go_wp2_with (fail)
  obtain ⟨g0, g1⟩ := two_blks wx (.cells #[.pointer pa] 35) (.cells #[.pointer pb] 35)
  have HBW : Below wx.heap.size wx ((wx.alloc (.cells #[.pointer pa] 35)).alloc (.cells #[.pointer pb] 35)) := ((Below.refl _ wx).alloc (Nat.le_refl _) _).alloc (by simp) _
  have HSW : ((wx.alloc (.cells #[.pointer pa] 35)).alloc (.cells #[.pointer pb] 35)).heap.size = wx.heap.size + 2 := by simp
  obtain ⟨W1, hW1⟩ : ∃ W1, ((wx.alloc (.cells #[.pointer pa] 35)).alloc (.cells #[.pointer pb] 35)) = W1 := ⟨_, rfl⟩
  rw [hW1] at g0 g1 HBW HSW ⊢
  clear hW1
  have HLA := Lib.hid (Ti.Lies.below HBW (Ti.Lies.of (Nat.le_refl _) HTAX.out))
  have HLB := Lib.hid (Ti.Lies.below HBW (Ti.Lies.of (Nat.le_refl _) HTBX.out))
  have hbox : w.heap.size + 1 < wx.heap.size := by have := blk_lt (blk_below H1.out HBX0.out); exact this
  have G0 := Lib.hid g0
  have G1 := Lib.hid g1
  have HBW1 := Lib.hid HBW
  have HCK := Lib.hid (fun W (hW : Below wx.heap.size wx W) => (show W.heap[w.heap.size]? = some (.cells #[.int .i64 key] 3 (0, 0)) from by rw [hW.block _ (by omega)]; exact blk_below H0.out HBX0.out))
  have HCR := Lib.hid (fun W (hW : Below wx.heap.size wx W) => (show W.heap[w.heap.size + 1]? = some (.cells #[.bool false] 4 (0, 0)) from by rw [hW.block _ (by omega)]; exact blk_below H1.out HBX0.out))
  clear g0 g1 HBW
  refine (wpIn_wide (n := 4)).1 ?_
  refine wpIn_rangeFunc_ownF rfl (by decide) (gf := 68) (lb := #[.pointer (some ⟨wx.heap.size, 0, none⟩)]) rfl trivial (enters_of Try.func68 (by kernel_rfl) rfl)
    (Ti.all_stops 3 wx.heap.size wx.heap.size pa a W1 (by omega) (by omega) (cell_blk G0.out 0 rfl) HLA.out) belowK_t (belowK_b (by omega)) (Below.refl _ _) (fun _ => rfl)
    (fun pre W => W.heap[wx.heap.size + 1]? = some (.cells #[.pointer pb] 35 (0, 0)) ∧ Below wx.heap.size wx W) (fun c pre W => c = .ret ∧ OverK key pre)
    (OwnFrom.and (Own.from (fun s A B row hs hg hr => Ti.blk_own hs hg hr) _) (ownFrom_below (Nat.le_refl _) (by omega))) (fun c => fun _ _ _ _ hs _ _ => hs) ⟨G1.out, HBW1.out⟩ ?a1 ?assign ?body ?done ?stop
  case' assign =>
    intro l x W K hK
    unfold Ti.encs
    gi_wp2
    exact hK
  case body =>
    rintro l pre ⟨k, v⟩ W ⟨hgb, hB⟩ _
    have HGB := Lib.hid hgb
    clear hgb
    have c0 := cell_blk (HCK.out W hB) 0 rfl
    have c1 := cell_blk (HCR.out W hB) 0 rfl
    have f1 := free_blk (HCR.out W hB) 0
    by_cases hlt : k < key
    · have z1 : decide (key ≤ k) = false := by simp; omega
      have hB' := Lib.hid hB
      clear hB
      gi_wp2
      exact ⟨KeepsOthers.refl _, Below.refl _ _, HGB.out, hB'.out⟩
    · have z1 : decide (key ≤ k) = true := by simp; omega
      clear hB
      gi_wp2
      exact ⟨KeepsOthers.setCell _ _ _, rfl, ⟨(k, v), by simp, by simp only; omega⟩⟩
  case stop =>
    rintro D c pre W hD hpre ⟨rfl, x, hx, hn⟩ hK
    exfalso
    obtain ⟨r, hr⟩ := hpre
    have hm : x ∈ a.toList := by rw [← hr]; exact List.mem_append_left _ hx
    rw [HAL.out] at hm
    exact hn (und_below hm)
  case done =>
    rintro D ys W hD rfl ⟨hgb, hB⟩ hK
    have HK := Lib.hid hK
    have HBD := Lib.hid hB
    have HGB := Lib.hid hgb
    have hDlt := blk_lt hK
    have hBlt := blk_lt hgb
    have hlw : wx.heap.size ≤ W.heap.size := hB.size
    have HLBW := Lib.hid (HLB.out.below (below_btw HBW1.out hB (by omega)))
    clear hK hB hgb
    go_wp2_with (fail)
    refine (wpIn_wide (n := 4)).1 ?_
    refine wpIn_rangeFunc_ownF rfl (by decide) (gf := 68) (lb := #[.pointer (some ⟨wx.heap.size + 1, 0, none⟩)]) rfl trivial (enters_of Try.func68 (by kernel_rfl) rfl)
      (Ti.all_stops 3 (wx.heap.size + 1) wx.heap.size pb b W (by omega) (by omega) (cell_blk HGB.out 0 rfl) HLBW.out) belowK_t (belowK_b (by omega)) (Below.refl _ _) (fun _ => rfl)
      (fun pre W' => W'.heap[D]? = some (.deferred (some [])) ∧ Below wx.heap.size wx W') (fun c pre W' => c = .ret ∧ UnderK key pre)
      (OwnFrom.and (ownFrom_blk hDlt) (ownFrom_below (Nat.le_refl _) (by omega))) (fun c => fun _ _ _ _ hs _ _ => hs) ⟨HK.out, HBD.out⟩ ?a2 ?assign2 ?body2 ?done2 ?stop2
    case' assign2 =>
      intro l x W K hK
      unfold Ti.encs
      gi_wp2
      exact hK
    case body2 =>
      rintro l pre ⟨k, v⟩ W ⟨hgb, hB⟩ _
      have HGB2 := Lib.hid hgb
      clear hgb
      have c0 := cell_blk (HCK.out W hB) 0 rfl
      have c1 := cell_blk (HCR.out W hB) 0 rfl
      have f1 := free_blk (HCR.out W hB) 0
      by_cases hlt : key ≤ k
      · have z1 : decide (k < key) = false := by simp; omega
        have hB' := Lib.hid hB
        clear hB
        gi_wp2
        exact ⟨KeepsOthers.refl _, Below.refl _ _, HGB2.out, hB'.out⟩
      · have z1 : decide (k < key) = true := by simp; omega
        clear hB
        gi_wp2
        exact ⟨KeepsOthers.setCell _ _ _, rfl, ⟨(k, v), by simp, by simp only; omega⟩⟩
    case stop2 =>
      rintro D c pre W hD hpre ⟨rfl, x, hx, hn⟩ hK
      exfalso
      obtain ⟨r, hr⟩ := hpre
      have hm : x ∈ b.toList := by rw [← hr]; exact List.mem_append_left _ hx
      rw [HBL.out] at hm
      exact hn (from_above hm)
    case done2 =>
      rintro D2 ys W2 hD2 rfl ⟨hDD, hB⟩ hK2
      have HDD := Lib.hid hDD
      have HK2 := Lib.hid hK2
      have HB2 := Lib.hid hB
      have c0 := cell_blk (HCK.out W2 hB) 0 rfl
      have HBox := Lib.hid (HCK.out W2 hB)
      have HRes := Lib.hid (HCR.out W2 hB)
      have HTW := Lib.hid (HTX.out.below hB)
      have GT := Ti.get_any key (HTX.out.below hB)
      rw [T.get_look swoZ key t HGT.out.rises] at GT
      have HGTT := Lib.hid GT
      have PU := Lib.hid (Ti.put_any key value t HTW.out (by unfold Ti.big; omega))
      obtain ⟨ph, pn⟩ := look_full HGT.out.rises key
      have psz := put_size HGT.out.rises key value
      have pd := put_del HGT.out.rises key value
      clear hDD hK2 hB GT
      have lp : T.look ltZ key (T.put ltZ key value t).toList = some value := by
        rw [T.toList_put swoZ key value t HGT.out.rises, T.look_put swoZ, eqvZ]; simp
      have rp := T.rises_put swoZ (k := key) (v := value) HGT.out.rises
      obtain ⟨pt, hpt⟩ : ∃ pt, pt = T.put ltZ key value t := ⟨_, rfl⟩
      rw [← hpt] at PU psz pd lp rp
      obtain ⟨dt, hdt⟩ : ∃ dt, dt = T.del ltZ key pt := ⟨_, rfl⟩
      have sd := T.size_del ltZ key pt
      rw [← hdt] at pd sd
      have HDT := Lib.hid hdt
      have PD := Lib.hid pd
      have LP := Lib.hid lp
      have RP := Lib.hid rp
      have SD := Lib.hid sd
      clear hpt hdt pd lp rp sd
      obtain ⟨st, hst⟩ : ∃ st, st = t.size := ⟨_, rfl⟩
      obtain ⟨sp, hsp⟩ : ∃ sp, sp = pt.size := ⟨_, rfl⟩
      rw [← hst, ← hsp] at psz
      have HST := Lib.hid hst
      have HSP := Lib.hid hsp
      have zst : (st : Int) ≤ 4398046510976 := by omega
      clear hst hsp
      cases hlk : T.look ltZ key t.toList with
      | none =>
        rw [hlk] at HGTT psz
        have hps : sp = st + 1 := by simpa using psz
        have HSN := Lib.hid (sans_none HGT.out.rises hlk)
        have t1 : ((sp : Int) != (st : Int) + 1) = false := by simp; omega
        have zsp : (sp : Int) ≤ 4398046510977 := by omega
        clear ph pn psz hlk hps
        go_wp2_with (fail)
        refine HGTT.out.mono ?_
        rintro e w_ ⟨he, rfl⟩
        change e = .returned (.tuple #[.int .i64 0, .bool false]) at he
        subst he
        go_wp2_with (fail)
        refine PU.out.mono ?_
        rintro e w3 ⟨pp, rfl, T3, B3⟩
        have d0 := cell_blk (blk_below HBox.out B3) 0 rfl
        have GP := Ti.get_any key T3
        rw [T.get_look swoZ key _ RP.out, LP.out] at GP
        have DP := Ti.del_any key pt T3 (by unfold Ti.big; have := HSP.out; omega)
        rw [← HDT.out] at DP
        have HGP := Lib.hid GP
        have HDP := Lib.hid DP
        have HB3 := Lib.hid B3
        have HT3 := Lib.hid T3
        clear c0 GP DP B3 T3 PU
        go_wp2_with (fail)
        refine HGP.out.mono ?_
        rintro e w_ ⟨he, rfl⟩
        change e = .returned (.tuple #[.int .i64 value, .bool true]) at he
        subst he
        go_wp2_with (fail)
        refine HDP.out.mono ?_
        rintro e w4 ⟨pd, rfl, T4, B4⟩
        rw [PD.out.2]
        have HB4 := Lib.hid (HB3.out.trans (B4.mono HB3.out.size))
        have HT4 := Lib.hid T4
        have LPP := Ti.len_any (HT3.out.below B4)
        rw [← HSP.out] at LPP
        have LTT := Ti.len_any (HTW.out.below HB4.out)
        rw [← HST.out] at LTT
        have HLPP := Lib.hid LPP
        have HLTT := Lib.hid LTT
        have e0 := cell_blk (blk_below HBox.out HB4.out) 0 rfl
        clear d0 T4 B4 LPP LTT
        go_wp2_with (fail)
        refine HLPP.out.mono ?_
        rintro e w_ ⟨rfl, rfl⟩
        go_wp2_with (fail)
        refine HLTT.out.mono ?_
        rintro e w_ ⟨rfl, rfl⟩
        have HEQ := Lib.hid (PD.out.1.trans HSN.out)
        have RU := row_any HT4.out (by have := And.intro SD.out HSP.out; omega)
        rw [HEQ.out] at RU
        have HRU := Lib.hid RU
        clear RU
        go_wp2_with (fail)
        refine HRU.out.mono ?_
        rintro e w5 ⟨Au, cu, rfl, R5, B5⟩
        have HB5 := Lib.hid (HB4.out.trans (B5.mono HB4.out.size))
        have RT := Lib.hid (row_any (HTW.out.below HB5.out) (by omega))
        have HR5 := Lib.hid R5
        clear R5 B5 HRU
        go_wp2_with (fail)
        refine RT.out.mono ?_
        rintro e w6 ⟨At, ct, rfl, R6, B6⟩
        have HB6 := Lib.hid (HB5.out.trans (B6.mono HB5.out.size))
        have AL := Lib.hid (alike_any (HR5.out.keeps (KeepT.below B6)) R6 (by rw [flatI_len, T.length_toList]; omega))
        clear R6 B6 RT
        go_wp2_with (fail)
        refine AL.out.mono ?_
        rintro e w7 ⟨rfl, B7⟩
        have HB7 := Lib.hid (HB6.out.trans (B7.mono HB6.out.size))
        have r7 := blk_below HRes.out HB7.out
        have k7 := cell_blk r7 0 rfl
        have f7 := free_blk r7 0
        have s7 := Ti.set_blk r7 (.bool true)
        have HR7 := Lib.hid s7
        have BF := Lib.hid (HB7.out.block)
        clear B7 AL r7 s7
        go_wp2_with (fail)
        have BALL := KB0.out.trans ((HBX0.out.trans ((HB2.out.trans (HB7.out.mono HB2.out.size)).mono HBX0.out.size)).mono KB0.out.size)
        have BX := BALL.setCell (p := ⟨w.heap.size + 1, 0, none⟩) (by simp) (.bool true)
        have k2 := (KeepsOthers.setCell w7 ⟨w.heap.size + 1, 0, none⟩ (.bool true)).same D2 _ (blk_below HK2.out HB7.out) rfl
        have k1 := (KeepsOthers.setCell w7 ⟨w.heap.size + 1, 0, none⟩ (.bool true)).same D _ (blk_below HDD.out HB7.out) rfl
        have hs7 := HR7.out
        clear BALL
        obtain ⟨X, hX⟩ : ∃ X, X = w7.setCell ⟨w.heap.size + 1, 0, none⟩ (.bool true) := ⟨_, rfl⟩
        rw [← hX] at k1 k2 hs7 BX ⊢
        have hDD2 : D ≠ D2 := by omega
        have k1' : (X.putObj D2 (.deferred none)).heap[D]? = some (.deferred (some [])) := by rw [World.putObj_heap_other hDD2]; exact k1
        refine ⟨by simp, .inl ⟨_, _, rfl, run_takeDeferred k2, ⟨by simp, .inl ⟨_, _, rfl, run_takeDeferred k1', ?_⟩⟩⟩⟩
        have e1 := Ti.blk_own hs7 (grownBy_putObj' _ D2 (.deferred none)) (fun r e => by cases e; exact ⟨_, k2, rfl⟩)
        have e2 := Ti.blk_own e1 (grownBy_putObj' _ D (.deferred none)) (fun r e => by cases e; exact ⟨_, k1', rfl⟩)
        have hDw : w.heap.size ≤ D ∧ w.heap.size ≤ D2 := by omega
        refine ⟨.bool true, ?_, rfl, ?_⟩
        · simp [results, Try.f7, go_sem, cell_blk e2 0 rfl]
        · exact (BX.trans (belowK_b (w := w) (Nat.le_refl _) _ D2 _ _ hDw.2 k2 rfl rfl)).trans (belowK_b (w := w) (Nat.le_refl _) _ D _ _ hDw.1 k1' rfl rfl)
      | some was =>
        rw [hlk] at HGTT psz
        have hps : sp = st := by simpa using psz
        have HPB := Lib.hid (put_back (d := dt.1) HGT.out.rises PD.out.1 hlk)
        have t1 : ((sp : Int) != (st : Int)) = false := by simp; omega
        have zsp : (sp : Int) ≤ 4398046510977 := by omega
        clear ph pn psz hlk hps
        go_wp2_with (fail)
        refine HGTT.out.mono ?_
        rintro e w_ ⟨he, rfl⟩
        change e = .returned (.tuple #[.int .i64 was, .bool true]) at he
        subst he
        go_wp2_with (fail)
        refine PU.out.mono ?_
        rintro e w3 ⟨pp, rfl, T3, B3⟩
        have d0 := cell_blk (blk_below HBox.out B3) 0 rfl
        have GP := Ti.get_any key T3
        rw [T.get_look swoZ key _ RP.out, LP.out] at GP
        have DP := Ti.del_any key pt T3 (by unfold Ti.big; have := HSP.out; omega)
        rw [← HDT.out] at DP
        have HGP := Lib.hid GP
        have HDP := Lib.hid DP
        have HB3 := Lib.hid B3
        have HT3 := Lib.hid T3
        clear c0 GP DP B3 T3 PU
        go_wp2_with (fail)
        refine HGP.out.mono ?_
        rintro e w_ ⟨he, rfl⟩
        change e = .returned (.tuple #[.int .i64 value, .bool true]) at he
        subst he
        go_wp2_with (fail)
        refine HDP.out.mono ?_
        rintro e w4 ⟨pd, rfl, T4, B4⟩
        rw [PD.out.2]
        have HB4 := Lib.hid (HB3.out.trans (B4.mono HB3.out.size))
        have HT4 := Lib.hid T4
        have LPP := Ti.len_any (HT3.out.below B4)
        rw [← HSP.out] at LPP
        have LTT := Ti.len_any (HTW.out.below HB4.out)
        rw [← HST.out] at LTT
        have HLPP := Lib.hid LPP
        have HLTT := Lib.hid LTT
        have e0 := cell_blk (blk_below HBox.out HB4.out) 0 rfl
        clear d0 T4 B4 LPP LTT
        go_wp2_with (fail)
        refine HLPP.out.mono ?_
        rintro e w_ ⟨rfl, rfl⟩
        go_wp2_with (fail)
        refine HLTT.out.mono ?_
        rintro e w_ ⟨rfl, rfl⟩
        have PB := Lib.hid (Ti.put_any key was dt.1 HT4.out (by unfold Ti.big; have := SD.out; have := HSP.out; omega))
        go_wp2_with (fail)
        refine PB.out.mono ?_
        rintro e w9 ⟨p9, rfl, T9, B9⟩
        have HT9 := Lib.hid T9
        have HB9 := Lib.hid (HB4.out.trans (B9.mono HB4.out.size))
        have SZ9 := Lib.hid (T.size_put ltZ key was dt.1).2
        clear T9 B9 PB
        have RU := row_any HT9.out (by have := And.intro SZ9.out (And.intro SD.out HSP.out); omega)
        rw [HPB.out] at RU
        have HRU := Lib.hid RU
        clear RU
        go_wp2_with (fail)
        refine HRU.out.mono ?_
        rintro e w5 ⟨Au, cu, rfl, R5, B5⟩
        have HB5 := Lib.hid (HB9.out.trans (B5.mono HB9.out.size))
        have RT := Lib.hid (row_any (HTW.out.below HB5.out) (by omega))
        have HR5 := Lib.hid R5
        clear R5 B5 HRU
        go_wp2_with (fail)
        refine RT.out.mono ?_
        rintro e w6 ⟨At, ct, rfl, R6, B6⟩
        have HB6 := Lib.hid (HB5.out.trans (B6.mono HB5.out.size))
        have AL := Lib.hid (alike_any (HR5.out.keeps (KeepT.below B6)) R6 (by rw [flatI_len, T.length_toList]; omega))
        clear R6 B6 RT
        go_wp2_with (fail)
        refine AL.out.mono ?_
        rintro e w7 ⟨rfl, B7⟩
        have HB7 := Lib.hid (HB6.out.trans (B7.mono HB6.out.size))
        have r7 := blk_below HRes.out HB7.out
        have k7 := cell_blk r7 0 rfl
        have f7 := free_blk r7 0
        have s7 := Ti.set_blk r7 (.bool true)
        have HR7 := Lib.hid s7
        have BF := Lib.hid (HB7.out.block)
        clear B7 AL r7 s7
        go_wp2_with (fail)
        have BALL := KB0.out.trans ((HBX0.out.trans ((HB2.out.trans (HB7.out.mono HB2.out.size)).mono HBX0.out.size)).mono KB0.out.size)
        have BX := BALL.setCell (p := ⟨w.heap.size + 1, 0, none⟩) (by simp) (.bool true)
        have k2 := (KeepsOthers.setCell w7 ⟨w.heap.size + 1, 0, none⟩ (.bool true)).same D2 _ (blk_below HK2.out HB7.out) rfl
        have k1 := (KeepsOthers.setCell w7 ⟨w.heap.size + 1, 0, none⟩ (.bool true)).same D _ (blk_below HDD.out HB7.out) rfl
        have hs7 := HR7.out
        clear BALL
        obtain ⟨X, hX⟩ : ∃ X, X = w7.setCell ⟨w.heap.size + 1, 0, none⟩ (.bool true) := ⟨_, rfl⟩
        rw [← hX] at k1 k2 hs7 BX ⊢
        have hDD2 : D ≠ D2 := by omega
        have k1' : (X.putObj D2 (.deferred none)).heap[D]? = some (.deferred (some [])) := by rw [World.putObj_heap_other hDD2]; exact k1
        refine ⟨by simp, .inl ⟨_, _, rfl, run_takeDeferred k2, ⟨by simp, .inl ⟨_, _, rfl, run_takeDeferred k1', ?_⟩⟩⟩⟩
        have e1 := Ti.blk_own hs7 (grownBy_putObj' _ D2 (.deferred none)) (fun r e => by cases e; exact ⟨_, k2, rfl⟩)
        have e2 := Ti.blk_own e1 (grownBy_putObj' _ D (.deferred none)) (fun r e => by cases e; exact ⟨_, k1', rfl⟩)
        have hDw : w.heap.size ≤ D ∧ w.heap.size ≤ D2 := by omega
        refine ⟨.bool true, ?_, rfl, ?_⟩
        · simp [results, Try.f7, go_sem, cell_blk e2 0 rfl]
        · exact (BX.trans (belowK_b (w := w) (Nat.le_refl _) _ D2 _ _ hDw.2 k2 rfl rfl)).trans (belowK_b (w := w) (Nat.le_refl _) _ D _ _ hDw.1 k1' rfl rfl)
namespace treeParts
open Go.ChangeShapes Go.WideShapes Go.ChangeAt Go.RowKit
open Go.ChangeMaps (open_string shut_string)
theorem own : ownKnob Try.prog.godebug = none := by kernel_rfl
theorem laidOut : laidOutB Try.prog = true := by kernel_rfl
set_option maxRecDepth 100000 in
theorem lifted (os : Os) (started : os.Started) (H : Type) (enc : TypeId × Value → H) :
    ReturnsInHanded {} Try.checked os 7 .any (Rows.treePartsSpec.pre6 enc Try.prog Try.f7 Rows.treePartsRow.domain false) (Rows.treePartsSpec.post enc Try.prog Try.f7 false true false false) := by
  refine returnsInHanded_of_change_sized (C := Try.checked) own started (by kernel_rfl) Try.func7
    (ChangeSpec.witness6 (enc := enc) (C := Try.checked) false ⟨#[], #[.slice none 0 0, .int .i64 0, .int .i64 0], []⟩ 8 (by kernel_rfl) (by kernel_rfl) (by kernel_rfl) (by kernel_rfl)) ?_
  intro W base args ds gs before hval0 hW hcnd hsz0 _
  have hsz : (DataW.weightsEach Try.prog (Try.f7.params.toList ++ Rows.treePartsSpec.plain.varTypes Try.prog) (ds ++ gs)).all (· ≤ reachBytes) = true := hsz0
  have hval : ∀ (j : Nat) t v, Try.f7.params[j]? = some t → args[j]? = some v → Value.okWide Try.prog W .any base t v := hval0
  have hW' := hW
  obtain ⟨p, q, hA0, hV, rfl, hfz, hnd⟩ := hW
  have hA : DataW.TrodAll enc Try.prog W 0 (fun _ => true) true Try.f7.params.toList args.toList ds p := hA0
  rw [Try.params7] at hA hval hsz
  obtain ⟨v0, vs0, d0, ds0, p0, q0, hargs, rfl, rfl, h0, r0⟩ := trodAll_cons hA
  obtain ⟨v1, vs1, d1, ds1, p1, q1, rfl, rfl, rfl, h1, r1⟩ := trodAll_cons r0
  obtain ⟨v2, vs2, d2, ds2, p2, q2, rfl, rfl, rfl, h2, r2⟩ := trodAll_cons r1
  obtain ⟨rfl, rfl, rfl⟩ := trodAll_nil r2
  obtain rfl : args = #[v0, v1, v2] := by cases args; simp_all
  obtain ⟨rfl, rfl⟩ := trodVars_none hV
  obtain ⟨a0, len0, cap0, rfl⟩ := okWide_slice Try.underlying31 (hval 0 31 v0 rfl rfl)
  have k0 := h0
  have lt0 : ∀ x ∈ p0, x.block < W.heap.size := by obtain ⟨m, hm⟩ := k0; exact DataW.trod_lt m _ _ _ hm
  obtain ⟨xs0, rfl, hc0, hm0, hb0, hn0, he0⟩ := opened_slice (opens_Ops W) h0 (weights_at hsz (j := 0) (t := 31) rfl rfl)
  obtain ⟨a1, rfl, rfl, rfl, w1⟩ := open_int Try.underlying3 (hval 1 3 v1 rfl rfl) h1
  obtain ⟨a2, rfl, rfl, rfl, w2⟩ := open_int Try.underlying3 (hval 2 3 v2 rfl rfl) h2
  clear hA0 hval0 hsz0 hsz
  refine (parts_1 W a0 cap0 xs0 hc0 hm0 hb0 hn0 he0 a1 w1 a2 w2).mono fun e W' ⟨he, bel⟩ => ?_
  subst he
  exact ⟨_, rfl, _, _, _, [], _, [], hW', trodAll_mk1 (shut_bool Try.underlying4 _), (trodAll_cons_mk (Below.trod laidOut (by kernel_rfl) (of_decide_eq_true (by kernel_rfl)) k0 bel lt0) (trodAll_cons_mk (shut_int Try.underlying3 w1) (trodAll_cons_mk (shut_int Try.underlying3 w2) trodAll_mk0))), rfl, bel.frame _, fun h => by cases h⟩
theorem over : Rows.treePartsRow.holds Try.pinned (OpenSpec.ofChange Rows.treePartsSpec) :=
  OpenClaim.holds_of_wide 7 Try.f7 rfl rfl rfl rfl rfl rfl rfl ⟨rfl, rfl, rfl, rfl, rfl⟩ rfl rfl rfl rfl rfl (by kernel_rfl) Try.func7 (by kernel_rfl)
    (of_decide_eq_true (by kernel_rfl)) (by unfold Func.isWrapper; first | (rw [if_pos (by decide +kernel)]; kernel_rfl) | (rw [if_neg (by decide +kernel)]; exact ⟨rfl, rfl⟩))
    (fun os started H enc _ => lifted os started H enc)
theorem proved : Rows.TreePartsSaid := over
end treeParts
theorem treeParts_holds : Rows.TreePartsSaid := treeParts.proved
#print axioms treeParts_holds
end Go.Proofs.Ytmichnnkkpgpmaa
