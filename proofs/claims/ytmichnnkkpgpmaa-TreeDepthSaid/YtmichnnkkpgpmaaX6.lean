/- TreeDepth: no way of making trees makes them deep. -/
import Derived.Test.YtmichnnkkpgpmaaD1
namespace Go.Proofs.Ytmichnnkkpgpmaa
set_option linter.unusedVariables false
set_option linter.unusedSimpArgs false
open Go.RowKit Go.Deep Go.Shelf Go.Proofs.YtmichnnkkpgpmaaW.PrintLast
attribute [local go_sem] Oper.semAt_some

theorem ownFrom_blkD {β : Type} {B D : Nat} {o : Obj} (hD : D < B) : OwnFrom B (fun (_ : β) W => W.heap[D]? = some o) := fun _ W W' row hs hg hr => by
  show W'.heap[D]? = some o
  rw [hg.block D (blk_lt hs) (by intro h; have := (hr D h.symm).1; omega)]; exact hs
def lastK (pre : List (Int × Int)) : Int := (pre.getLast?.map (·.1)).getD 0
def LastAt (lb kb : Nat) (pre : List (Int × Int)) (W : World) : Prop := W.heap[lb]? = some (.cells #[.int .i64 (lastK pre)] 3 (0, 0)) ∧ W.heap[kb]? = some (.cells #[.int .i64 (pre.length : Int)] 3 (0, 0))
theorem LastAt.own {lb kb : Nat} {pre : List (Int × Int)} {W W' : World} {row : Option Nat} (h : LastAt lb kb pre W) (hg : W.grownBy W' row) (hr : ∀ r, row = some r → ∃ o : Obj, W.heap[r]? = some o ∧ o.isCells = false) : LastAt lb kb pre W' :=
  ⟨Ti.blk_own h.1 hg hr, Ti.blk_own h.2 hg hr⟩
theorem ownFrom_last {lb kb : Nat} (B : Nat) : OwnFrom B (fun (pre : List (Int × Int)) W => LastAt lb kb pre W) := Own.from (fun (s : List (Int × Int)) A B row hs hg hr => LastAt.own (pre := s) hs hg hr) _
def Unris (pre : List (Int × Int)) : Prop := ¬ T.Rises ltZ pre
theorem unris_snoc {pre : List (Int × Int)} {k v : Int} (h0 : 0 < pre.length) (hk : k ≤ lastK pre) : Unris (pre ++ [(k, v)]) := by
  intro h
  obtain ⟨x, hx⟩ : ∃ x, pre.getLast? = some x := by
    cases h1 : pre.getLast? with
    | none => rw [List.getLast?_eq_none_iff] at h1; subst h1; simp at h0
    | some x => exact ⟨x, rfl⟩
  have hm : x ∈ pre := List.mem_of_getLast? hx
  have h1 := (List.pairwise_append.1 h).2.2 x hm (k, v) (by simp)
  simp only [ltZ] at h1
  have h2 := of_decide_eq_true h1
  unfold lastK at hk
  rw [hx] at hk
  simp at hk
  omega
theorem lastK_snoc (pre : List (Int × Int)) (k v : Int) : lastK (pre ++ [(k, v)]) = k := by simp [lastK]
def Sound6 (l : List TI) : Prop := ∀ t ∈ l, RB t ∧ t.size ≤ 4398046520000
theorem Good.rb {K : List Int} {t : TI} (h : Good K t) : RB t := ⟨h.rises, h.bal⟩
set_option maxRecDepth 100000 in
set_option maxHeartbeats 16000000 in
theorem depth_1 (w : World) (A : Option Addr) (cap : Nat) (ops : List OpV) (hl : ops.length ≤ cap) (hcap : cap ≤ maxLen) (hlr : ops.length * 32 ≤ reach) (hA : A = none → cap = 0) (he : RdOp.elems w A ops)
    (fr : Int) (hfr : (Lit.int .i64 fr).wf = true) (bw : Int) (hbw : (Lit.int .i64 bw).wf = true) (n : Int) (hn : (Lit.int .i64 n).wf = true) :
    Calls Try.prog 5 #[.slice A ops.length cap, .int .i64 fr, .int .i64 bw, .int .i64 n] w fun e w' => e = .returned (.bool true) ∧ Below w.heap.size w w' := by
  unfold maxLen at hcap
  unfold reach at hlr
  have HE := Lib.hid he
  obtain ⟨K, hG, hK, hLL⟩ := made_good ops
  obtain ⟨l, hll⟩ : ∃ l, l = madeL ops := ⟨_, rfl⟩
  rw [← hll] at hG hLL
  have HLD := Lib.hid hll
  have hlp : 1 ≤ l.length := List.length_pos_iff.2 hG.ne
  obtain ⟨t, ht⟩ : ∃ t, l[l.length - 1]? = some t := ⟨_, List.getElem?_eq_getElem (by omega)⟩
  have hgt := hG.all t (List.mem_of_getElem? ht)
  have hsz := hgt.size
  have hlong : l.length ≤ 8796093022300 := by omega
  have HS0 := Lib.hid (show Sound6 l from fun t ht => ⟨(hG.all t ht).rb, by have := (hG.all t ht).size; omega⟩)
  have HRBT := Lib.hid hgt.rb
  have hts : t.size ≤ 4398046510976 := by omega
  have HT := Lib.hid ht
  have hnf : ∀ (cap : Array Value) (W : World), Sem.run Try.prog (binOp BinOp.eql 54 (.func (.func 68) #[] cap) Value.nilFunc) W = .ok (.bool false) W := fun _ _ => rfl
  clear he hll hG ht hA hgt hfr hbw hn hl
  refine (callsIn_wide (n := 4)).1 ?_
  refine callsIn_of_wp_marks Try.func5 rfl trivial ?_ rfl
  refine wpIn_wide.2 ?_
  simp only [Try.ntmps5, List.size_toArray, List.length_cons, List.length_nil, Nat.reduceAdd, Nat.reduceSub, Array.replicate_succ, Array.replicate_zero, List.push_toArray, List.append_toArray, List.nil_append, List.cons_append]
  have h0 := blk_new w (.cells #[.bool false] 4)
  have HB0 : Below w.heap.size w (w.alloc (.cells #[.bool false] 4)) := (Below.refl _ w).alloc (Nat.le_refl _) _
  obtain ⟨W0, hW0⟩ : ∃ W0, (w.alloc (.cells #[.bool false] 4)) = W0 := ⟨_, rfl⟩
  have KN := Lib.hid (known_any W0)
  have HW := Lib.hid hW0
  rw [hW0] at h0 HB0
  have KB0 := Lib.hid HB0
  have H0 := Lib.hid h0
  clear hW0 h0 HB0
  go_wp2_with (fail)
  rw [HW.out]
  refine KN.out.mono ?_
  rintro e w1 ⟨rfl, B1⟩
  have MA := made_any w1 A cap ops (by omega) (Rd.elems_below (KB0.out.trans (B1.mono KB0.out.size)) HE.out)
  rw [← HLD.out] at MA
  have HMA := Lib.hid MA
  have HB1 := Lib.hid B1
  clear MA B1 KN
  go_wp2_with (fail)
  refine HMA.out.mono ?_
  rintro e w2 ⟨B, c, ps, rfl, F, B2⟩
  have HF := Lib.hid F
  have HB2 := Lib.hid (HB1.out.trans (B2.mono HB1.out.size))
  have hw12 := B2.size
  clear F B2 HMA
  obtain ⟨b, hb⟩ : ∃ b, b = (decide (0 < n) && decide (n ≤ 3000)) := ⟨_, rfl⟩
  have HBD := Lib.hid hb
  clear hb
  go_upto_region 4 with (fail)
  refine wp_cut (fun (ac : Act) (wx : World) => ∃ u0 u4 u5 u6 u7 u10 u11 u12 u13 u14 u15 u16 u17 u18 u19 u20 u21 u22 u23 u24 u25 u26 u27 u28 u29 u30 u31 u33 u34 u35 u36 u37 u38 u39 u40 u41 u42 u43 u44 u45 u46 u47 u48 u49 u50 u51 u52 u53 u54 u55 u56 u57 u58 u59 u60 u61 u62 u63 u64 u65 u66 u67 u68 u69 u70 u71 u72 u73 u74 u75 u76 u77 u78 u79 u80 u81 u82 u83 u84 u85 u86 u87 u88 u89 u90 u91 u92 u93 u94 u95 u96 u97 u98 u99 u100 u101 u102 u103 u104 u105 u106 u107 u108 u109 u110 u111 u112 u113 u114 u115 u116 u117 u118 u119 u120 u121 u122 u123 u124 u125 u126 u127 u128 u129 u130 u131 u132 u133 : Value, (w2 = wx) ∧ ac = ({ tmps := #[u0, .int .i64 fr, .int .i64 bw, .int .i64 n, u4, u5, u6, u7, .pointer (some ⟨w.heap.size, 0, none⟩), .slice B l.length c, u10, u11, u12, u13, u14, u15, u16, u17, u18, u19, u20, u21, u22, u23, u24, u25, u26, u27, u28, u29, u30, u31, .bool b, u33, u34, u35, u36, u37, u38, u39, u40, u41, u42, u43, u44, u45, u46, u47, u48, u49, u50, u51, u52, u53, u54, u55, u56, u57, u58, u59, u60, u61, u62, u63, u64, u65, u66, u67, u68, u69, u70, u71, u72, u73, u74, u75, u76, u77, u78, u79, u80, u81, u82, u83, u84, u85, u86, u87, u88, u89, u90, u91, u92, u93, u94, u95, u96, u97, u98, u99, u100, u101, u102, u103, u104, u105, u106, u107, u108, u109, u110, u111, u112, u113, u114, u115, u116, u117, u118, u119, u120, u121, u122, u123, u124, u125, u126, u127, u128, u129, u130, u131, u132, u133], defers := [] } : Act)) ?rest ?first
  case' rest => (intro ac wx hcut; obtain ⟨u0, hcut⟩ := hcut; obtain ⟨u4, hcut⟩ := hcut; obtain ⟨u5, hcut⟩ := hcut; obtain ⟨u6, hcut⟩ := hcut; obtain ⟨u7, hcut⟩ := hcut; obtain ⟨u10, hcut⟩ := hcut; obtain ⟨u11, hcut⟩ := hcut; obtain ⟨u12, hcut⟩ := hcut; obtain ⟨u13, hcut⟩ := hcut; obtain ⟨u14, hcut⟩ := hcut; obtain ⟨u15, hcut⟩ := hcut; obtain ⟨u16, hcut⟩ := hcut; obtain ⟨u17, hcut⟩ := hcut; obtain ⟨u18, hcut⟩ := hcut; obtain ⟨u19, hcut⟩ := hcut; obtain ⟨u20, hcut⟩ := hcut; obtain ⟨u21, hcut⟩ := hcut; obtain ⟨u22, hcut⟩ := hcut; obtain ⟨u23, hcut⟩ := hcut; obtain ⟨u24, hcut⟩ := hcut; obtain ⟨u25, hcut⟩ := hcut; obtain ⟨u26, hcut⟩ := hcut; obtain ⟨u27, hcut⟩ := hcut; obtain ⟨u28, hcut⟩ := hcut; obtain ⟨u29, hcut⟩ := hcut; obtain ⟨u30, hcut⟩ := hcut; obtain ⟨u31, hcut⟩ := hcut; obtain ⟨u33, hcut⟩ := hcut; obtain ⟨u34, hcut⟩ := hcut; obtain ⟨u35, hcut⟩ := hcut; obtain ⟨u36, hcut⟩ := hcut; obtain ⟨u37, hcut⟩ := hcut; obtain ⟨u38, hcut⟩ := hcut; obtain ⟨u39, hcut⟩ := hcut; obtain ⟨u40, hcut⟩ := hcut; obtain ⟨u41, hcut⟩ := hcut; obtain ⟨u42, hcut⟩ := hcut; obtain ⟨u43, hcut⟩ := hcut; obtain ⟨u44, hcut⟩ := hcut; obtain ⟨u45, hcut⟩ := hcut; obtain ⟨u46, hcut⟩ := hcut; obtain ⟨u47, hcut⟩ := hcut; obtain ⟨u48, hcut⟩ := hcut; obtain ⟨u49, hcut⟩ := hcut; obtain ⟨u50, hcut⟩ := hcut; obtain ⟨u51, hcut⟩ := hcut; obtain ⟨u52, hcut⟩ := hcut; obtain ⟨u53, hcut⟩ := hcut; obtain ⟨u54, hcut⟩ := hcut; obtain ⟨u55, hcut⟩ := hcut; obtain ⟨u56, hcut⟩ := hcut; obtain ⟨u57, hcut⟩ := hcut; obtain ⟨u58, hcut⟩ := hcut; obtain ⟨u59, hcut⟩ := hcut; obtain ⟨u60, hcut⟩ := hcut; obtain ⟨u61, hcut⟩ := hcut; obtain ⟨u62, hcut⟩ := hcut; obtain ⟨u63, hcut⟩ := hcut; obtain ⟨u64, hcut⟩ := hcut; obtain ⟨u65, hcut⟩ := hcut; obtain ⟨u66, hcut⟩ := hcut; obtain ⟨u67, hcut⟩ := hcut; obtain ⟨u68, hcut⟩ := hcut; obtain ⟨u69, hcut⟩ := hcut; obtain ⟨u70, hcut⟩ := hcut; obtain ⟨u71, hcut⟩ := hcut; obtain ⟨u72, hcut⟩ := hcut; obtain ⟨u73, hcut⟩ := hcut; obtain ⟨u74, hcut⟩ := hcut; obtain ⟨u75, hcut⟩ := hcut; obtain ⟨u76, hcut⟩ := hcut; obtain ⟨u77, hcut⟩ := hcut; obtain ⟨u78, hcut⟩ := hcut; obtain ⟨u79, hcut⟩ := hcut; obtain ⟨u80, hcut⟩ := hcut; obtain ⟨u81, hcut⟩ := hcut; obtain ⟨u82, hcut⟩ := hcut; obtain ⟨u83, hcut⟩ := hcut; obtain ⟨u84, hcut⟩ := hcut; obtain ⟨u85, hcut⟩ := hcut; obtain ⟨u86, hcut⟩ := hcut; obtain ⟨u87, hcut⟩ := hcut; obtain ⟨u88, hcut⟩ := hcut; obtain ⟨u89, hcut⟩ := hcut; obtain ⟨u90, hcut⟩ := hcut; obtain ⟨u91, hcut⟩ := hcut; obtain ⟨u92, hcut⟩ := hcut; obtain ⟨u93, hcut⟩ := hcut; obtain ⟨u94, hcut⟩ := hcut; obtain ⟨u95, hcut⟩ := hcut; obtain ⟨u96, hcut⟩ := hcut; obtain ⟨u97, hcut⟩ := hcut; obtain ⟨u98, hcut⟩ := hcut; obtain ⟨u99, hcut⟩ := hcut; obtain ⟨u100, hcut⟩ := hcut; obtain ⟨u101, hcut⟩ := hcut; obtain ⟨u102, hcut⟩ := hcut; obtain ⟨u103, hcut⟩ := hcut; obtain ⟨u104, hcut⟩ := hcut; obtain ⟨u105, hcut⟩ := hcut; obtain ⟨u106, hcut⟩ := hcut; obtain ⟨u107, hcut⟩ := hcut; obtain ⟨u108, hcut⟩ := hcut; obtain ⟨u109, hcut⟩ := hcut; obtain ⟨u110, hcut⟩ := hcut; obtain ⟨u111, hcut⟩ := hcut; obtain ⟨u112, hcut⟩ := hcut; obtain ⟨u113, hcut⟩ := hcut; obtain ⟨u114, hcut⟩ := hcut; obtain ⟨u115, hcut⟩ := hcut; obtain ⟨u116, hcut⟩ := hcut; obtain ⟨u117, hcut⟩ := hcut; obtain ⟨u118, hcut⟩ := hcut; obtain ⟨u119, hcut⟩ := hcut; obtain ⟨u120, hcut⟩ := hcut; obtain ⟨u121, hcut⟩ := hcut; obtain ⟨u122, hcut⟩ := hcut; obtain ⟨u123, hcut⟩ := hcut; obtain ⟨u124, hcut⟩ := hcut; obtain ⟨u125, hcut⟩ := hcut; obtain ⟨u126, hcut⟩ := hcut; obtain ⟨u127, hcut⟩ := hcut; obtain ⟨u128, hcut⟩ := hcut; obtain ⟨u129, hcut⟩ := hcut; obtain ⟨u130, hcut⟩ := hcut; obtain ⟨u131, hcut⟩ := hcut; obtain ⟨u132, hcut⟩ := hcut; obtain ⟨u133, hcut⟩ := hcut; obtain ⟨hcut, hac⟩ := hcut; subst hac)
  case' first => intro _ _ _ _
  case first =>
    by_cases h1 : 0 < n
    · by_cases h2 : n ≤ 3000
      · have hbt := HBD.out
        simp [h1, h2] at hbt
        subst hbt
        go_wp2_with (fail)
        go_meet
        rfl
      · have z1 : decide (n ≤ 3000) = false := by simp; omega
        have hbt := HBD.out
        simp [h1, h2] at hbt
        subst hbt
        go_wp2_with (fail)
        go_meet
        rfl
    · have z1 : decide (0 < n) = false := by simp; omega
      have hbt := HBD.out
      simp [h1] at hbt
      subst hbt
      go_wp2_with (fail)
      go_meet
      rfl
  case rest =>
  subst hcut
  go_upto_if 32 with (fail)
  refine wp_cut (fun (ac : Act) (wx : World) => ∃ u0 u1 u2 u3 u4 u5 u6 u7 u10 u11 u12 u13 u14 u15 u16 u17 u18 u19 u20 u21 u22 u23 u24 u25 u26 u27 u28 u29 u30 u31 u32 u33 u34 u35 u36 u37 u38 u39 u40 u41 u42 u43 u44 u45 u46 u47 u48 u49 u50 u51 u52 u53 u54 u55 u56 u57 u58 u59 u60 u61 u62 u63 u64 u65 u66 u67 u68 u69 u70 u71 u72 u73 u74 u75 u76 u77 u78 u79 u80 u81 u82 u83 u84 u85 u86 u87 u88 u89 u90 u91 u92 u93 u94 u95 u96 u97 u98 u99 u100 u101 u102 u103 u104 u105 u106 u107 u108 u109 u110 u111 u112 u113 u114 u115 u116 u117 u118 u119 u120 u121 u122 u123 u124 u125 u126 u127 u128 u129 u130 u131 u132 u133 v9 : Value, (∃ (l' : List TI) (ps' : List (Option Addr)) (B' : Option Addr) (c' : Nat), v9 = .slice B' l'.length c' ∧ Forest wx w1.heap.size B' c' l' ps' ∧ Sound6 l' ∧ l'.length ≤ 8796093022306 ∧ Below w1.heap.size w2 wx) ∧ ac = ({ tmps := #[u0, u1, u2, u3, u4, u5, u6, u7, .pointer (some ⟨w.heap.size, 0, none⟩), v9, u10, u11, u12, u13, u14, u15, u16, u17, u18, u19, u20, u21, u22, u23, u24, u25, u26, u27, u28, u29, u30, u31, u32, u33, u34, u35, u36, u37, u38, u39, u40, u41, u42, u43, u44, u45, u46, u47, u48, u49, u50, u51, u52, u53, u54, u55, u56, u57, u58, u59, u60, u61, u62, u63, u64, u65, u66, u67, u68, u69, u70, u71, u72, u73, u74, u75, u76, u77, u78, u79, u80, u81, u82, u83, u84, u85, u86, u87, u88, u89, u90, u91, u92, u93, u94, u95, u96, u97, u98, u99, u100, u101, u102, u103, u104, u105, u106, u107, u108, u109, u110, u111, u112, u113, u114, u115, u116, u117, u118, u119, u120, u121, u122, u123, u124, u125, u126, u127, u128, u129, u130, u131, u132, u133], defers := [] } : Act)) ?rest ?first
  case' rest => (intro ac wx hcut; obtain ⟨u0, hcut⟩ := hcut; obtain ⟨u1, hcut⟩ := hcut; obtain ⟨u2, hcut⟩ := hcut; obtain ⟨u3, hcut⟩ := hcut; obtain ⟨u4, hcut⟩ := hcut; obtain ⟨u5, hcut⟩ := hcut; obtain ⟨u6, hcut⟩ := hcut; obtain ⟨u7, hcut⟩ := hcut; obtain ⟨u10, hcut⟩ := hcut; obtain ⟨u11, hcut⟩ := hcut; obtain ⟨u12, hcut⟩ := hcut; obtain ⟨u13, hcut⟩ := hcut; obtain ⟨u14, hcut⟩ := hcut; obtain ⟨u15, hcut⟩ := hcut; obtain ⟨u16, hcut⟩ := hcut; obtain ⟨u17, hcut⟩ := hcut; obtain ⟨u18, hcut⟩ := hcut; obtain ⟨u19, hcut⟩ := hcut; obtain ⟨u20, hcut⟩ := hcut; obtain ⟨u21, hcut⟩ := hcut; obtain ⟨u22, hcut⟩ := hcut; obtain ⟨u23, hcut⟩ := hcut; obtain ⟨u24, hcut⟩ := hcut; obtain ⟨u25, hcut⟩ := hcut; obtain ⟨u26, hcut⟩ := hcut; obtain ⟨u27, hcut⟩ := hcut; obtain ⟨u28, hcut⟩ := hcut; obtain ⟨u29, hcut⟩ := hcut; obtain ⟨u30, hcut⟩ := hcut; obtain ⟨u31, hcut⟩ := hcut; obtain ⟨u32, hcut⟩ := hcut; obtain ⟨u33, hcut⟩ := hcut; obtain ⟨u34, hcut⟩ := hcut; obtain ⟨u35, hcut⟩ := hcut; obtain ⟨u36, hcut⟩ := hcut; obtain ⟨u37, hcut⟩ := hcut; obtain ⟨u38, hcut⟩ := hcut; obtain ⟨u39, hcut⟩ := hcut; obtain ⟨u40, hcut⟩ := hcut; obtain ⟨u41, hcut⟩ := hcut; obtain ⟨u42, hcut⟩ := hcut; obtain ⟨u43, hcut⟩ := hcut; obtain ⟨u44, hcut⟩ := hcut; obtain ⟨u45, hcut⟩ := hcut; obtain ⟨u46, hcut⟩ := hcut; obtain ⟨u47, hcut⟩ := hcut; obtain ⟨u48, hcut⟩ := hcut; obtain ⟨u49, hcut⟩ := hcut; obtain ⟨u50, hcut⟩ := hcut; obtain ⟨u51, hcut⟩ := hcut; obtain ⟨u52, hcut⟩ := hcut; obtain ⟨u53, hcut⟩ := hcut; obtain ⟨u54, hcut⟩ := hcut; obtain ⟨u55, hcut⟩ := hcut; obtain ⟨u56, hcut⟩ := hcut; obtain ⟨u57, hcut⟩ := hcut; obtain ⟨u58, hcut⟩ := hcut; obtain ⟨u59, hcut⟩ := hcut; obtain ⟨u60, hcut⟩ := hcut; obtain ⟨u61, hcut⟩ := hcut; obtain ⟨u62, hcut⟩ := hcut; obtain ⟨u63, hcut⟩ := hcut; obtain ⟨u64, hcut⟩ := hcut; obtain ⟨u65, hcut⟩ := hcut; obtain ⟨u66, hcut⟩ := hcut; obtain ⟨u67, hcut⟩ := hcut; obtain ⟨u68, hcut⟩ := hcut; obtain ⟨u69, hcut⟩ := hcut; obtain ⟨u70, hcut⟩ := hcut; obtain ⟨u71, hcut⟩ := hcut; obtain ⟨u72, hcut⟩ := hcut; obtain ⟨u73, hcut⟩ := hcut; obtain ⟨u74, hcut⟩ := hcut; obtain ⟨u75, hcut⟩ := hcut; obtain ⟨u76, hcut⟩ := hcut; obtain ⟨u77, hcut⟩ := hcut; obtain ⟨u78, hcut⟩ := hcut; obtain ⟨u79, hcut⟩ := hcut; obtain ⟨u80, hcut⟩ := hcut; obtain ⟨u81, hcut⟩ := hcut; obtain ⟨u82, hcut⟩ := hcut; obtain ⟨u83, hcut⟩ := hcut; obtain ⟨u84, hcut⟩ := hcut; obtain ⟨u85, hcut⟩ := hcut; obtain ⟨u86, hcut⟩ := hcut; obtain ⟨u87, hcut⟩ := hcut; obtain ⟨u88, hcut⟩ := hcut; obtain ⟨u89, hcut⟩ := hcut; obtain ⟨u90, hcut⟩ := hcut; obtain ⟨u91, hcut⟩ := hcut; obtain ⟨u92, hcut⟩ := hcut; obtain ⟨u93, hcut⟩ := hcut; obtain ⟨u94, hcut⟩ := hcut; obtain ⟨u95, hcut⟩ := hcut; obtain ⟨u96, hcut⟩ := hcut; obtain ⟨u97, hcut⟩ := hcut; obtain ⟨u98, hcut⟩ := hcut; obtain ⟨u99, hcut⟩ := hcut; obtain ⟨u100, hcut⟩ := hcut; obtain ⟨u101, hcut⟩ := hcut; obtain ⟨u102, hcut⟩ := hcut; obtain ⟨u103, hcut⟩ := hcut; obtain ⟨u104, hcut⟩ := hcut; obtain ⟨u105, hcut⟩ := hcut; obtain ⟨u106, hcut⟩ := hcut; obtain ⟨u107, hcut⟩ := hcut; obtain ⟨u108, hcut⟩ := hcut; obtain ⟨u109, hcut⟩ := hcut; obtain ⟨u110, hcut⟩ := hcut; obtain ⟨u111, hcut⟩ := hcut; obtain ⟨u112, hcut⟩ := hcut; obtain ⟨u113, hcut⟩ := hcut; obtain ⟨u114, hcut⟩ := hcut; obtain ⟨u115, hcut⟩ := hcut; obtain ⟨u116, hcut⟩ := hcut; obtain ⟨u117, hcut⟩ := hcut; obtain ⟨u118, hcut⟩ := hcut; obtain ⟨u119, hcut⟩ := hcut; obtain ⟨u120, hcut⟩ := hcut; obtain ⟨u121, hcut⟩ := hcut; obtain ⟨u122, hcut⟩ := hcut; obtain ⟨u123, hcut⟩ := hcut; obtain ⟨u124, hcut⟩ := hcut; obtain ⟨u125, hcut⟩ := hcut; obtain ⟨u126, hcut⟩ := hcut; obtain ⟨u127, hcut⟩ := hcut; obtain ⟨u128, hcut⟩ := hcut; obtain ⟨u129, hcut⟩ := hcut; obtain ⟨u130, hcut⟩ := hcut; obtain ⟨u131, hcut⟩ := hcut; obtain ⟨u132, hcut⟩ := hcut; obtain ⟨u133, hcut⟩ := hcut; obtain ⟨v9, hcut⟩ := hcut; obtain ⟨hcut, hac⟩ := hcut; subst hac)
  case' first => intro _ _ _ _
  case first =>
    cases b with
    | true =>
      --[A
      have hb := HBD.out
      simp at hb
      obtain ⟨n', rfl⟩ := Int.eq_ofNat_of_zero_le (show 0 ≤ n by omega)
      have hn1 : 0 < n' := by omega
      have hn2 : n' ≤ 3000 := by omega
      obtain ⟨g, p, hBe, d0, T2⟩ := HF.out.at_ HT.out
      subst hBe
      have q0 : (0 : Int) ≤ (l.length : Int) - 1 := by omega
      have q1 : (l.length : Int) - 1 < (l.length : Int) := by omega
      have q2 : ((l.length : Int) - 1).toNat = l.length - 1 := by omega
      have RU := Lib.hid (run_any T2 HRBT.out (by omega) fr bw n' hn2)
      clear T2
      go_wp2_with (fail)
      refine RU.out.mono ?_
      rintro e w3 ⟨p3, u3, rfl, T3, R3, s3, B3⟩
      have HB3 := Lib.hid B3
      have HT3 := Lib.hid T3
      have HR3 := Lib.hid R3
      have SP := fun kk => Ti.split_any kk u3 T3 (by unfold Ti.big; omega)
      have HSP := Lib.hid SP
      clear SP T3 R3 B3 RU d0 q0 q1 q2
      go_wp2_with (fail)
      refine (HSP.out _).mono ?_
      rintro e w4 ⟨pa, pb, rfl, TA, TB, B4⟩
      obtain ⟨kk, hkk⟩ : ∃ kk, kk = wrap64 (fr + wrap64 (bw * ((n' : Int) / 3))) := ⟨_, rfl⟩
      rw [← hkk] at TA TB
      have ss := T.size_split ltZ kk u3
      have sb := T.size_both (T.splitL ltZ kk u3) (T.splitR ltZ kk u3)
      have hms := meets_split HR3.out.1 kk
      have hub : (T.both (T.splitL ltZ kk u3) (T.splitR ltZ kk u3)).toList = u3.toList := by
        rw [T.toList_both, T.toList_splitL swoZ kk u3 HR3.out.1, T.toList_splitR swoZ kk u3 HR3.out.1]; exact (und_from _ kk HR3.out.1).symm
      obtain ⟨RA, RB'⟩ := HR3.out.split kk
      obtain ⟨a, ha⟩ : ∃ a, a = T.splitL ltZ kk u3 := ⟨_, rfl⟩
      obtain ⟨b, hb'⟩ : ∃ b, b = T.splitR ltZ kk u3 := ⟨_, rfl⟩
      rw [← ha, ← hb'] at ss sb hub hms
      rw [← ha] at RA TA
      rw [← hb'] at RB' TB
      have RU : RB (T.both a b) := ⟨by rw [hub]; exact HR3.out.1, T.bal_both a b RA.2 RB'.2⟩
      obtain ⟨u, hu⟩ : ∃ u, u = T.both a b := ⟨_, rfl⟩
      have JO := Ti.Join_any a b TA TB (by unfold Ti.big; omega)
      rw [hms] at JO
      rw [← hu] at sb JO RU
      have su : u.size = u3.size := by omega
      obtain ⟨s3', hs3⟩ : ∃ s, s = u3.size := ⟨_, rfl⟩
      have HJO := Lib.hid JO
      have HTA := Lib.hid TA
      have HTB := Lib.hid TB
      have HB4 := Lib.hid (HB3.out.trans (B4.mono HB3.out.size))
      have HT4 := Lib.hid (HT3.out.below B4)
      have HRA := Lib.hid RA
      have HRB := Lib.hid RB'
      have HRU := Lib.hid RU
      have HSU := Lib.hid su
      have HS3 := Lib.hid hs3
      have HSS := Lib.hid ss
      have h3s : u3.size ≤ 4398046513976 := by omega
      clear hkk ha hb' hub hms RA RB' TA TB RU hu JO su hs3 ss sb B4 HSP HT3
      go_wp2_with (fail)
      refine HJO.out.mono ?_
      rintro e w5 ⟨B5, he⟩
      rw [if_pos rfl] at he
      obtain ⟨pu, rfl, TU⟩ := he
      have HB5 := Lib.hid (HB4.out.trans (B5.mono HB4.out.size))
      have HT5 := Lib.hid (HT4.out.below B5)
      have HTA5 := Lib.hid (HTA.out.below B5)
      have HTB5 := Lib.hid (HTB.out.below B5)
      have LU := Ti.len_any TU
      rw [HSU.out, ← HS3.out] at LU
      have LT := Ti.len_any HT5.out
      rw [← HS3.out] at LT
      have HTU := Lib.hid TU
      have HLU := Lib.hid LU
      have HLT := Lib.hid LT
      have DE := Lib.hid (Ti.del_any fr a HTA5.out (by unfold Ti.big; have := HSS.out; omega))
      have NU := Lib.hid (num_any 0 w5)
      clear B5 TU LU LT HJO
      go_wp2_with (fail)
      refine NU.out.mono ?_
      rintro e w_ ⟨rfl, rfl⟩
      go_wp2_with (fail)
      refine HLU.out.mono ?_
      rintro e w_ ⟨rfl, rfl⟩
      go_wp2_with (fail)
      refine HLT.out.mono ?_
      rintro e w_ ⟨rfl, rfl⟩
      go_wp2_with (fail)
      refine DE.out.mono ?_
      rintro e w6 ⟨pc, rfl, TC, B6⟩
      have HB6 := Lib.hid (HB5.out.trans (B6.mono HB5.out.size))
      have HTC := Lib.hid TC
      have sc := T.size_del ltZ fr a
      have ZI := Lib.hid (zig_any w6 fr bw n' hn2)
      have HSC := Lib.hid sc
      have BB6 := Lib.hid B6
      clear DE TC B6 sc
      go_wp2_with (fail)
      refine ZI.out.mono ?_
      rintro e w7 ⟨pz, z, rfl, TZ, RZ, sz, B7⟩
      have B57 := BB6.out.trans (B7.mono BB6.out.size)
      have B27 := HB5.out.trans (B57.mono HB5.out.size)
      obtain ⟨A8, c8, w8, hr8, F8, B8⟩ := (HF.out.below B27).pushL (qs := [p3, pa, pb, pu, pc, pz]) (us := [u3, a, b, u, (T.del ltZ fr a).1, z]) rfl (fun i q v hq hv => by
        rcases i with _ | _ | _ | _ | _ | _ | i
        · simp at hq hv; subst hq hv; exact HT5.out.below B57
        · simp at hq hv; subst hq hv; exact HTA5.out.below B57
        · simp at hq hv; subst hq hv; exact HTB5.out.below B57
        · simp at hq hv; subst hq hv; exact HTU.out.below B57
        · simp at hq hv; subst hq hv; exact HTC.out.below B7
        · simp at hq hv; subst hq hv; exact TZ
        · simp at hq) (B27.mono hw12) (Nat.le_trans hw12 B27.size) (by simp; omega)
      have HR8 := Lib.hid (show (Builtin.append_ #[33, 33] 33 #[.slice (some ⟨g, 0, none⟩) l.length c, .slice (some ⟨w7.heap.size, 0, none⟩) 6 6]).run Try.prog (w7.alloc (.cells #[.pointer p3, .pointer pa, .pointer pb, .pointer pu, .pointer pc, .pointer pz] 35)) = .ok (.slice A8 (l.length + 6) c8) w8 from hr8)
      have HF8 := Lib.hid F8
      have HB8 := Lib.hid B8
      have HRZ := Lib.hid RZ
      clear hr8 F8 B8 B57 B27 B7 TZ RZ ZI
      go_wp2_with (have p3 := HR8; refine wpList_app p3.out rfl rfl rfl (by rfl) (by rfl) ?_; clear p3 HR8)
      go_meet
      refine ⟨l ++ [u3, a, b, u, (T.del ltZ fr a).1, z], _, A8, c8, by simp, HF8.out, ?_, by simp; omega, HB8.out⟩
      intro x hx
      have e1 := HSS.out
      have e2 := HSU.out
      have e3 := HSC.out
      rcases List.mem_append.1 hx with hx | hx
      · exact HS0.out x hx
      · simp at hx
        rcases hx with rfl | rfl | rfl | rfl | rfl | rfl
        · exact ⟨HR3.out, by omega⟩
        · exact ⟨HRA.out, by omega⟩
        · exact ⟨HRB.out, by omega⟩
        · exact ⟨HRU.out, by omega⟩
        · exact ⟨HRA.out.del fr, by omega⟩
        · exact ⟨HRZ.out, by omega⟩
      --A]
    | false =>
      go_wp2_with (fail)
      go_meet
      exact ⟨l, ps, B, c, rfl, HF.out, HS0.out, by omega, Below.refl _ _⟩
  case rest =>
    obtain ⟨l', ps', B', c', rfl, F', S', hl', BX⟩ := hcut
    have HFX := Lib.hid F'
    have HSX := Lib.hid S'
    have HBX := Lib.hid BX
    have HBX0 := Lib.hid (HB2.out.trans (BX.mono HB1.out.size))
    clear F' S' BX
    go_wp2_with (fail)
    refine wp_loop_ghost_k (fun (m : Nat) (ac : Act) (wr : World) => ∃ u0 u1 u2 u3 u4 u5 u6 u7 u10 u11 u12 u13 u14 u15 u16 u18 u19 u20 u21 u22 u23 u24 u25 u26 u27 u28 u29 u30 u31 u32 u33 u34 u35 u36 u37 u38 u39 u40 u41 u42 u43 u44 u45 u46 u47 u48 u49 u50 u51 u52 u53 u54 u55 u56 u57 u58 u59 u60 u61 u62 u63 u64 u65 u66 u67 u68 u69 u70 u71 u72 u73 u74 u75 u76 u77 u78 u79 u80 u81 u82 u83 u84 u85 u86 u87 u88 u89 u90 u91 u92 u93 u94 u95 u96 u97 u98 u99 u100 u101 u102 u103 u104 u105 u106 u107 u108 u109 u110 u111 u112 u113 u114 u115 u116 u117 u118 u119 u120 u121 u122 u123 u124 u125 u126 u127 u128 u129 u130 u131 u132 u133 v17 : Value, ∃ ds : List Deferred, (∃ (i : Nat) (Es : List Nat), m + i = l'.length ∧ v17 = .int .i64 i ∧ MarkL wx.heap.size wr ds Es ∧ Below wx.heap.size wx wr) ∧ ac = ({ tmps := #[u0, u1, u2, u3, u4, u5, u6, u7, .pointer (some ⟨w.heap.size, 0, none⟩), .slice B' l'.length c', u10, u11, u12, u13, u14, u15, u16, v17, u18, u19, u20, u21, u22, u23, u24, u25, u26, u27, u28, u29, u30, u31, u32, u33, u34, u35, u36, u37, u38, u39, u40, u41, u42, u43, u44, u45, u46, u47, u48, u49, u50, u51, u52, u53, u54, u55, u56, u57, u58, u59, u60, u61, u62, u63, u64, u65, u66, u67, u68, u69, u70, u71, u72, u73, u74, u75, u76, u77, u78, u79, u80, u81, u82, u83, u84, u85, u86, u87, u88, u89, u90, u91, u92, u93, u94, u95, u96, u97, u98, u99, u100, u101, u102, u103, u104, u105, u106, u107, u108, u109, u110, u111, u112, u113, u114, u115, u116, u117, u118, u119, u120, u121, u122, u123, u124, u125, u126, u127, u128, u129, u130, u131, u132, u133], defers := ds } : Act)) (l'.length) ?atStart ?round
    case' atStart => ((repeat apply Exists.intro); refine ⟨?_, rfl⟩)
    case' round => (intro m ac wr hcut; obtain ⟨u0, hcut⟩ := hcut; obtain ⟨u1, hcut⟩ := hcut; obtain ⟨u2, hcut⟩ := hcut; obtain ⟨u3, hcut⟩ := hcut; obtain ⟨u4, hcut⟩ := hcut; obtain ⟨u5, hcut⟩ := hcut; obtain ⟨u6, hcut⟩ := hcut; obtain ⟨u7, hcut⟩ := hcut; obtain ⟨u10, hcut⟩ := hcut; obtain ⟨u11, hcut⟩ := hcut; obtain ⟨u12, hcut⟩ := hcut; obtain ⟨u13, hcut⟩ := hcut; obtain ⟨u14, hcut⟩ := hcut; obtain ⟨u15, hcut⟩ := hcut; obtain ⟨u16, hcut⟩ := hcut; obtain ⟨u18, hcut⟩ := hcut; obtain ⟨u19, hcut⟩ := hcut; obtain ⟨u20, hcut⟩ := hcut; obtain ⟨u21, hcut⟩ := hcut; obtain ⟨u22, hcut⟩ := hcut; obtain ⟨u23, hcut⟩ := hcut; obtain ⟨u24, hcut⟩ := hcut; obtain ⟨u25, hcut⟩ := hcut; obtain ⟨u26, hcut⟩ := hcut; obtain ⟨u27, hcut⟩ := hcut; obtain ⟨u28, hcut⟩ := hcut; obtain ⟨u29, hcut⟩ := hcut; obtain ⟨u30, hcut⟩ := hcut; obtain ⟨u31, hcut⟩ := hcut; obtain ⟨u32, hcut⟩ := hcut; obtain ⟨u33, hcut⟩ := hcut; obtain ⟨u34, hcut⟩ := hcut; obtain ⟨u35, hcut⟩ := hcut; obtain ⟨u36, hcut⟩ := hcut; obtain ⟨u37, hcut⟩ := hcut; obtain ⟨u38, hcut⟩ := hcut; obtain ⟨u39, hcut⟩ := hcut; obtain ⟨u40, hcut⟩ := hcut; obtain ⟨u41, hcut⟩ := hcut; obtain ⟨u42, hcut⟩ := hcut; obtain ⟨u43, hcut⟩ := hcut; obtain ⟨u44, hcut⟩ := hcut; obtain ⟨u45, hcut⟩ := hcut; obtain ⟨u46, hcut⟩ := hcut; obtain ⟨u47, hcut⟩ := hcut; obtain ⟨u48, hcut⟩ := hcut; obtain ⟨u49, hcut⟩ := hcut; obtain ⟨u50, hcut⟩ := hcut; obtain ⟨u51, hcut⟩ := hcut; obtain ⟨u52, hcut⟩ := hcut; obtain ⟨u53, hcut⟩ := hcut; obtain ⟨u54, hcut⟩ := hcut; obtain ⟨u55, hcut⟩ := hcut; obtain ⟨u56, hcut⟩ := hcut; obtain ⟨u57, hcut⟩ := hcut; obtain ⟨u58, hcut⟩ := hcut; obtain ⟨u59, hcut⟩ := hcut; obtain ⟨u60, hcut⟩ := hcut; obtain ⟨u61, hcut⟩ := hcut; obtain ⟨u62, hcut⟩ := hcut; obtain ⟨u63, hcut⟩ := hcut; obtain ⟨u64, hcut⟩ := hcut; obtain ⟨u65, hcut⟩ := hcut; obtain ⟨u66, hcut⟩ := hcut; obtain ⟨u67, hcut⟩ := hcut; obtain ⟨u68, hcut⟩ := hcut; obtain ⟨u69, hcut⟩ := hcut; obtain ⟨u70, hcut⟩ := hcut; obtain ⟨u71, hcut⟩ := hcut; obtain ⟨u72, hcut⟩ := hcut; obtain ⟨u73, hcut⟩ := hcut; obtain ⟨u74, hcut⟩ := hcut; obtain ⟨u75, hcut⟩ := hcut; obtain ⟨u76, hcut⟩ := hcut; obtain ⟨u77, hcut⟩ := hcut; obtain ⟨u78, hcut⟩ := hcut; obtain ⟨u79, hcut⟩ := hcut; obtain ⟨u80, hcut⟩ := hcut; obtain ⟨u81, hcut⟩ := hcut; obtain ⟨u82, hcut⟩ := hcut; obtain ⟨u83, hcut⟩ := hcut; obtain ⟨u84, hcut⟩ := hcut; obtain ⟨u85, hcut⟩ := hcut; obtain ⟨u86, hcut⟩ := hcut; obtain ⟨u87, hcut⟩ := hcut; obtain ⟨u88, hcut⟩ := hcut; obtain ⟨u89, hcut⟩ := hcut; obtain ⟨u90, hcut⟩ := hcut; obtain ⟨u91, hcut⟩ := hcut; obtain ⟨u92, hcut⟩ := hcut; obtain ⟨u93, hcut⟩ := hcut; obtain ⟨u94, hcut⟩ := hcut; obtain ⟨u95, hcut⟩ := hcut; obtain ⟨u96, hcut⟩ := hcut; obtain ⟨u97, hcut⟩ := hcut; obtain ⟨u98, hcut⟩ := hcut; obtain ⟨u99, hcut⟩ := hcut; obtain ⟨u100, hcut⟩ := hcut; obtain ⟨u101, hcut⟩ := hcut; obtain ⟨u102, hcut⟩ := hcut; obtain ⟨u103, hcut⟩ := hcut; obtain ⟨u104, hcut⟩ := hcut; obtain ⟨u105, hcut⟩ := hcut; obtain ⟨u106, hcut⟩ := hcut; obtain ⟨u107, hcut⟩ := hcut; obtain ⟨u108, hcut⟩ := hcut; obtain ⟨u109, hcut⟩ := hcut; obtain ⟨u110, hcut⟩ := hcut; obtain ⟨u111, hcut⟩ := hcut; obtain ⟨u112, hcut⟩ := hcut; obtain ⟨u113, hcut⟩ := hcut; obtain ⟨u114, hcut⟩ := hcut; obtain ⟨u115, hcut⟩ := hcut; obtain ⟨u116, hcut⟩ := hcut; obtain ⟨u117, hcut⟩ := hcut; obtain ⟨u118, hcut⟩ := hcut; obtain ⟨u119, hcut⟩ := hcut; obtain ⟨u120, hcut⟩ := hcut; obtain ⟨u121, hcut⟩ := hcut; obtain ⟨u122, hcut⟩ := hcut; obtain ⟨u123, hcut⟩ := hcut; obtain ⟨u124, hcut⟩ := hcut; obtain ⟨u125, hcut⟩ := hcut; obtain ⟨u126, hcut⟩ := hcut; obtain ⟨u127, hcut⟩ := hcut; obtain ⟨u128, hcut⟩ := hcut; obtain ⟨u129, hcut⟩ := hcut; obtain ⟨u130, hcut⟩ := hcut; obtain ⟨u131, hcut⟩ := hcut; obtain ⟨u132, hcut⟩ := hcut; obtain ⟨u133, hcut⟩ := hcut; obtain ⟨v17, hcut⟩ := hcut; obtain ⟨ds, hcut⟩ := hcut; obtain ⟨hcut, hac⟩ := hcut; subst hac; intro _ _ _ _)
    case atStart => exact ⟨0, [], rfl, rfl, ⟨rfl, List.nodup_nil, fun E h => by cases h⟩, Below.refl _ _⟩
    case round =>
      obtain ⟨i, Es, hm, rfl, ML, hB⟩ := hcut
      have HM := Lib.hid hm
      have HML := Lib.hid ML
      have HB := Lib.hid hB
      have hile : i ≤ l'.length := by omega
      clear hm ML hB
      by_cases hlt : i < l'.length
      · obtain ⟨ti, hti⟩ : ∃ t, l'[i]? = some t := ⟨_, List.getElem?_eq_getElem hlt⟩
        obtain ⟨⟨hris, hbal⟩, hts⟩ := HSX.out ti (List.mem_of_getElem? hti)
        obtain ⟨g', p', hBe, d1, T1⟩ := (HFX.out.below HB.out).at_ hti
        subst hBe
        have HT1 := Lib.hid T1
        have HRIS := Lib.hid hris
        obtain ⟨dd, hdd⟩ : ∃ d, d = ti.depth := ⟨_, rfl⟩
        obtain ⟨sz, hsz2⟩ : ∃ d, d = ti.size := ⟨_, rfl⟩
        obtain ⟨bb, hbb⟩ : ∃ d, d = T.bins sz := ⟨_, rfl⟩
        have hdb := T.depth_bins ti hbal
        have hb63 : bb ≤ 63 := by rw [hbb]; exact bins_64 (by omega)
        rw [← hdd, ← hsz2, ← hbb] at hdb
        have DE := Ti.depth_any T1
        rw [← hdd] at DE
        have LE := Ti.len_any T1
        rw [← hsz2] at LE
        have DI := digits_any sz (by omega) wr
        rw [← hbb] at DI
        have HDE := Lib.hid DE
        have HLE := Lib.hid LE
        have HDI := Lib.hid DI
        have HSZ := Lib.hid hsz2
        have y1 : decide (2 * (bb : Int) < (dd : Int)) = false := by simp; omega
        have y2 : decide (dd < bb) = false := by simp; omega
        have z1 : decide (i < l'.length) = true := by simp; omega
        have HLT := Lib.hid hlt
        have hszb : sz ≤ 4398046520000 := by omega
        clear T1 hris hbal hti DE LE DI hdd hsz2 hbb hdb hts
        go_wp2_with (fail)
        refine HDE.out.mono ?_
        rintro e w_ ⟨rfl, rfl⟩
        go_wp2_with (fail)
        refine HLE.out.mono ?_
        rintro e w_ ⟨rfl, rfl⟩
        go_wp2_with (fail)
        refine HDI.out.mono ?_
        rintro e w_ ⟨rfl, rfl⟩
        go_wp2_with (fail)
        refine HDE.out.mono ?_
        rintro e w_ ⟨rfl, rfl⟩
        go_wp2_with (fail)
        refine HLE.out.mono ?_
        rintro e w_ ⟨rfl, rfl⟩
        go_wp2_with (fail)
        refine HDI.out.mono ?_
        rintro e w_ ⟨rfl, rfl⟩
        go_wp2_with (fail)
        refine (Ti.all_any _).mono ?_
        rintro e w_ ⟨rfl, rfl⟩
        go_wp2_with (fail)
        --[R
        obtain ⟨g0, g1, g2⟩ := three_blks wr (.cells #[.int .i64 0] 3) (.cells #[.int .i64 0] 3) (.cells #[.pointer p'] 35)
        have HBW : Below wr.heap.size wr (((wr.alloc (.cells #[.int .i64 0] 3)).alloc (.cells #[.int .i64 0] 3)).alloc (.cells #[.pointer p'] 35)) := (((Below.refl _ wr).alloc (Nat.le_refl _) _).alloc (by simp) _).alloc (by simp; omega) _
        have HSW : (((wr.alloc (.cells #[.int .i64 0] 3)).alloc (.cells #[.int .i64 0] 3)).alloc (.cells #[.pointer p'] 35)).heap.size = wr.heap.size + 2 + 1 := by simp
        obtain ⟨W1, hW1⟩ : ∃ W1, (((wr.alloc (.cells #[.int .i64 0] 3)).alloc (.cells #[.int .i64 0] 3)).alloc (.cells #[.pointer p'] 35)) = W1 := ⟨_, rfl⟩
        rw [hW1] at g0 g1 g2 HBW HSW ⊢
        clear hW1
        have HL1 := Lib.hid (Ti.Lies.below HBW (Ti.Lies.of (Nat.le_refl _) HT1.out))
        have KBX := blk_below (blk_below H0.out HBX0.out) HB.out
        have hbox : w.heap.size < wr.heap.size := blk_lt KBX
        have HCR := Lib.hid (fun W (hW : Below wr.heap.size wr W) => blk_below KBX hW)
        have G0 := Lib.hid g0
        have G1 := Lib.hid g1
        have G2 := Lib.hid g2
        have HBW1 := Lib.hid HBW
        have htl : ti.toList.length = sz := by rw [T.length_toList]; exact HSZ.out.symm
        clear g0 g1 g2 HBW KBX
        refine (wpIn_wide (n := 4)).1 ?_
        refine wpIn_rangeFunc_ownF rfl (by decide) (gf := 68) (lb := #[.pointer (some ⟨wr.heap.size + 1 + 1, 0, none⟩)]) rfl trivial (enters_of Try.func68 (by kernel_rfl) rfl)
          (Ti.all_stops 3 (wr.heap.size + 1 + 1) wr.heap.size p' ti W1 (by omega) (by omega) (cell_blk G2.out 0 rfl) HL1.out) belowK_t (belowK_b (by omega)) (Below.refl _ _) (fun _ => rfl)
          (fun pre W => LastAt wr.heap.size (wr.heap.size + 1) pre W ∧ Below wr.heap.size wr W) (fun c pre W => c = .ret ∧ Unris pre)
          (OwnFrom.and (ownFrom_last _) (ownFrom_below (Nat.le_refl _) (by omega))) (fun c => fun _ _ _ _ hs _ _ => hs)
          ⟨⟨G0.out, G1.out⟩, HBW1.out⟩ ?a1 ?assign ?body ?done ?stop
        case' assign =>
          intro l x W K hK
          unfold Ti.encs
          gi_wp2
          exact hK
        case stop =>
          rintro D c pre W hD hpre ⟨rfl, hu⟩ hK
          exact absurd (List.Pairwise.sublist hpre.sublist HRIS.out) hu
        case body =>
          rintro l'' pre ⟨k, v⟩ W ⟨⟨e0, e1⟩, hB'⟩ hlt2
          rw [htl] at hlt2
          obtain ⟨pl, hpl0⟩ : ∃ x, x = pre.length := ⟨_, rfl⟩
          rw [← hpl0] at e1 hlt2
          have HPL := Lib.hid hpl0
          obtain ⟨lk, hlk⟩ : ∃ x, x = lastK pre := ⟨_, rfl⟩
          rw [← hlk] at e0
          have HLK := Lib.hid hlk
          have hpl : pl ≤ 4398046520000 := by omega
          have c0 := cell_blk e0 0 rfl
          have c1 := cell_blk e1 0 rfl
          have f0 := free_blk e0 0
          have f1 := free_blk e1 0
          have bx := HCR.out W hB'
          have c2 := cell_blk bx 0 rfl
          have f2 := free_blk bx 0
          have s1 := Ti.set_blk e0 (.int .i64 k)
          have t1 : (W.setCell ⟨wr.heap.size, 0, none⟩ (.int .i64 k)).heap[wr.heap.size + 1]? = _ := (Below.heap_setCell W ⟨wr.heap.size, 0, none⟩ (.int .i64 k) (wr.heap.size + 1) (by simp)).trans e1
          have d1 := cell_blk t1 0 rfl
          have g1 := free_blk t1 0
          have s2 : ((W.setCell ⟨wr.heap.size, 0, none⟩ (.int .i64 k)).setCell ⟨wr.heap.size + 1, 0, none⟩ (.int .i64 ((pl : Int) + 1))).heap[wr.heap.size]? = _ := (Below.heap_setCell _ ⟨wr.heap.size + 1, 0, none⟩ (.int .i64 ((pl : Int) + 1)) wr.heap.size (by simp)).trans s1
          have t2 := Ti.set_blk t1 (.int .i64 ((pl : Int) + 1))
          have HF := Lib.hid (And.intro s2 t2)
          have KO := Lib.hid ((KeepsOthers.setCell W ⟨wr.heap.size, 0, none⟩ (.int .i64 k)).trans (KeepsOthers.setCell _ ⟨wr.heap.size + 1, 0, none⟩ (.int .i64 ((pl : Int) + 1))))
          have B1' := Lib.hid ((hB'.setCell (p := ⟨wr.heap.size, 0, none⟩) (Nat.le_refl _) (.int .i64 k)).setCell (p := ⟨wr.heap.size + 1, 0, none⟩) (by simp) (.int .i64 ((pl : Int) + 1)))
          have HBB := Lib.hid hB'
          clear hpl0 hlk e0 e1 bx s1 t1 s2 t2 hB' hlt hile
          by_cases h0 : 0 < pl
          · have z2 : decide ((0 : Int) < (pl : Int)) = true := by simp; omega
            by_cases hk : k ≤ lk
            · have z3 : decide (k ≤ lk) = true := by simpa using hk
              gi_wp2
              exact ⟨KeepsOthers.setCell _ _ _, rfl, unris_snoc (by rw [← HPL.out]; exact h0) (by rw [← HLK.out]; exact hk)⟩
            · have z3 : decide (k ≤ lk) = false := by simpa using hk
              gi_wp2
              refine ⟨KO.out, below_btw HBB.out B1'.out KO.out.size, ⟨?_, ?_⟩, B1'.out⟩
              · rw [lastK_snoc]; exact HF.out.1
              · rw [List.length_append, ← HPL.out]; exact HF.out.2
          · have z2 : decide ((0 : Int) < (pl : Int)) = false := by simp; omega
            gi_wp2
            refine ⟨KO.out, below_btw HBB.out B1'.out KO.out.size, ⟨?_, ?_⟩, B1'.out⟩
            · rw [lastK_snoc]; exact HF.out.1
            · rw [List.length_append, ← HPL.out]; exact HF.out.2
        case done =>
          rintro E ys W hD rfl ⟨⟨e0, e1⟩, hB'⟩ hK
          rw [htl] at e1
          have c1 := cell_blk e1 0 rfl
          have HK := Lib.hid hK
          have HBD := Lib.hid hB'
          have LE := Lib.hid (Ti.len_any ((HT1.out.below hB').drew))
          have HLEN := Lib.hid (show (ti.size : Int) = sz by rw [HSZ.out])
          have hEn : E ∉ Es := fun h => by have := blk_lt (HML.out.lie E h).2; omega
          have hwx := HB.out.size
          have hib : i ≤ 8796093022306 := by omega
          have HW1 := Lib.hid (And.intro hD HSW)
          clear e0 e1 hK hB' hlt z1 hile hnf y1 y2 htl hlp
          go_upto_region 29 with (fail)
          refine wp_region_noPanic ?_
          refine start_ (n := 4) (S := fun w' => w'.cell? ⟨wr.heap.size + 1, 0, none⟩ = some (.int .i64 (sz : Int))) (ds := []) #[false, false, false, false] (by kernel_rfl) rfl rfl c1 (fun hHeld => ?_)
          (refine take_ (i := 0) (N := some 130) (v := ?v_2) (a' := ?a_2) #[true, false, false, false] rfl rfl (by kernel_rfl) (fun _ _ _ h => h) (Or.inl ⟨by rfl, ?hy_2⟩) hHeld ?ha_2 ?hh_2; (case hy_2 => (rintro w' s0_; go_simp; with_reducible rfl)); (case ha_2 => (simp (disch := omega) only [Act.put, List.setIfInBounds_toArray, List.set_cons_zero, List.set_cons_succ, wrap_in]; rfl)))
          (refine take_ (i := 1) (N := some 131) (v := ?v_3) (a' := ?a_3) #[true, true, false, false] rfl rfl (by kernel_rfl) (fun _ _ _ h => h) (Or.inl ⟨by rfl, ?hy_3⟩) hHeld ?ha_3 ?hh_3; (case hy_3 => (rintro w' s0_; go_simp; with_reducible rfl)); (case ha_3 => (simp (disch := omega) only [Act.put, List.setIfInBounds_toArray, List.set_cons_zero, List.set_cons_succ, wrap_in]; rfl)))
          refine one_ (i := 2) (N := some 132) #[true, true, true, false] rfl rfl (by kernel_rfl) (by decide) (fun K hK => ?_)
          (refine goes_ Try.func16 (by kernel_rfl) rfl ?args_5 (by rfl) rfl rfl ?hargs_5 ?hc_5; (case hargs_5 => (go_simp; with_reducible rfl)))
          (refine LE.out.mono ?_; rintro e w_ ⟨rfl, rfl⟩; rw [HLEN.out]; refine ⟨_, rfl, ?_⟩)
          (refine hK.out _ _ ?hs_7 ?hn_7; (case hs_7 => (exact hHeld)); intro hHeld; clear hK K)
          (refine norm_ (a' := ?a_8) ?ha_8 ?hh_8; (case ha_8 => (simp (disch := omega) only [Act.put, List.setIfInBounds_toArray, List.set_cons_zero, List.set_cons_succ, wrap_in]; rfl)))
          (refine take_ (i := 3) (N := some 133) (v := ?v_9) (a' := ?a_9) #[true, true, true, true] rfl rfl (by kernel_rfl) (fun _ _ _ h => h) (Or.inl ⟨by rfl, ?hy_9⟩) hHeld ?ha_9 ?hh_9; (case hy_9 => (rintro w' s0_; go_simp; with_reducible rfl)); (case ha_9 => (simp (disch := omega) only [Act.put, List.setIfInBounds_toArray, List.set_cons_zero, List.set_cons_succ, wrap_in]; rfl)))
          refine done_ (by kernel_rfl) ?_
          refine NoPanic.normal ?_
          go_wp2_with (fail)
          go_roundg (m - 1)
          case measure => have := HM.out; have := HLT.out; omega
          case rel => exact ⟨i + 1, E :: Es, by have := HM.out; have := HLT.out; omega, by go_num, ((HML.out.below HBD.out).below (Below.refl _ _).drew).cons HK.out (by have := HW1.out; omega) hEn, HB.out.trans (HBD.out.drew.mono HB.out.size)⟩
        --R]
      · --[Z
        have hie : i = l'.length := by omega
        subst hie
        have z1 : decide (l'.length < l'.length) = false := by simp
        have KBX := blk_below (blk_below H0.out HBX0.out) HB.out
        have c1 := cell_blk KBX 0 rfl
        have f1 := free_blk KBX 0
        have s1 := Ti.set_blk KBX (.bool true)
        have HS1 := Lib.hid s1
        have BA := Lib.hid ((KB0.out.trans ((HBX0.out.trans (HB.out.mono HBX0.out.size)).mono KB0.out.size)).setCell (p := ⟨w.heap.size, 0, none⟩) (Nat.le_refl _) (.bool true))
        have HBX2 := Lib.hid KBX
        clear s1 KBX
        go_wp2_with (fail)
        obtain ⟨he, nd, li⟩ := HML.out
        subst he
        have hbw : w.heap.size < wr.heap.size := blk_lt HBX2.out
        have hwx2 : w.heap.size < wx.heap.size := by have := blk_lt (blk_below H0.out HBX0.out); exact this
        refine leaves_marks (fun W => W.heap[w.heap.size]? = some (.cells #[.bool true] 4 (0, 0)) ∧ Below w.heap.size w W) Es _ nd ?_ ⟨HS1.out, BA.out⟩ ?_ ?_
        · intro E hE
          rw [Below.heap_setCell _ _ _ _ (by have := (li E hE).1; simp only; omega)]
          exact (li E hE).2
        · rintro W E hE ⟨h1, h2⟩ h3
          exact ⟨Ti.blk_own h1 (grownBy_putObj' _ E (.deferred none)) (fun r e => by cases e; exact ⟨_, h3, rfl⟩), h2.trans (belowK_b (w := w) (Nat.le_refl _) _ E _ _ (by have := (li E hE).1; omega) h3 rfl rfl)⟩
        · rintro W ⟨h1, h2⟩
          refine ⟨.bool true, ?_, rfl, ?_⟩
          · simp [results, Try.f5, go_sem, cell_blk h1 0 rfl]
          · exact h2
        --Z]
namespace treeDepth
open Go.ChangeShapes Go.WideShapes Go.ChangeAt Go.RowKit
open Go.ChangeMaps (open_string shut_string)
theorem own : ownKnob Try.prog.godebug = none := by kernel_rfl
theorem laidOut : laidOutB Try.prog = true := by kernel_rfl
set_option maxRecDepth 100000 in
theorem lifted (os : Os) (started : os.Started) (H : Type) (enc : TypeId × Value → H) :
    ReturnsInHanded {} Try.checked os 5 .any (Rows.treeDepthSpec.pre6 enc Try.prog Try.f5 Rows.treeDepthRow.domain false) (Rows.treeDepthSpec.post enc Try.prog Try.f5 false true false false) := by
  refine returnsInHanded_of_change_sized (C := Try.checked) own started (by kernel_rfl) Try.func5
    (ChangeSpec.witness6 (enc := enc) (C := Try.checked) false ⟨#[], #[.slice none 0 0, .int .i64 0, .int .i64 0, .int .i64 0], []⟩ 8 (by kernel_rfl) (by kernel_rfl) (by kernel_rfl) (by kernel_rfl)) ?_
  intro W base args ds gs before hval0 hW hcnd hsz0 _
  have hsz : (DataW.weightsEach Try.prog (Try.f5.params.toList ++ Rows.treeDepthSpec.plain.varTypes Try.prog) (ds ++ gs)).all (· ≤ reachBytes) = true := hsz0
  have hval : ∀ (j : Nat) t v, Try.f5.params[j]? = some t → args[j]? = some v → Value.okWide Try.prog W .any base t v := hval0
  have hW' := hW
  obtain ⟨p, q, hA0, hV, rfl, hfz, hnd⟩ := hW
  have hA : DataW.TrodAll enc Try.prog W 0 (fun _ => true) true Try.f5.params.toList args.toList ds p := hA0
  rw [Try.params5] at hA hval hsz
  obtain ⟨v0, vs0, d0, ds0, p0, q0, hargs, rfl, rfl, h0, r0⟩ := trodAll_cons hA
  obtain ⟨v1, vs1, d1, ds1, p1, q1, rfl, rfl, rfl, h1, r1⟩ := trodAll_cons r0
  obtain ⟨v2, vs2, d2, ds2, p2, q2, rfl, rfl, rfl, h2, r2⟩ := trodAll_cons r1
  obtain ⟨v3, vs3, d3, ds3, p3, q3, rfl, rfl, rfl, h3, r3⟩ := trodAll_cons r2
  obtain ⟨rfl, rfl, rfl⟩ := trodAll_nil r3
  obtain rfl : args = #[v0, v1, v2, v3] := by cases args; simp_all
  obtain ⟨rfl, rfl⟩ := trodVars_none hV
  obtain ⟨a0, len0, cap0, rfl⟩ := okWide_slice Try.underlying31 (hval 0 31 v0 rfl rfl)
  have k0 := h0
  have lt0 : ∀ x ∈ p0, x.block < W.heap.size := by obtain ⟨m, hm⟩ := k0; exact DataW.trod_lt m _ _ _ hm
  obtain ⟨xs0, rfl, hc0, hm0, hb0, hn0, he0⟩ := opened_slice (opens_Ops W) h0 (weights_at hsz (j := 0) (t := 31) rfl rfl)
  obtain ⟨a1, rfl, rfl, rfl, w1⟩ := open_int Try.underlying3 (hval 1 3 v1 rfl rfl) h1
  obtain ⟨a2, rfl, rfl, rfl, w2⟩ := open_int Try.underlying3 (hval 2 3 v2 rfl rfl) h2
  obtain ⟨a3, rfl, rfl, rfl, w3⟩ := open_int Try.underlying3 (hval 3 3 v3 rfl rfl) h3
  clear hA0 hval0 hsz0 hsz
  refine (depth_1 W a0 cap0 xs0 hc0 hm0 hb0 hn0 he0 a1 w1 a2 w2 a3 w3).mono fun e W' ⟨he, bel⟩ => ?_
  subst he
  exact ⟨_, rfl, _, _, _, [], _, [], hW', trodAll_mk1 (shut_bool Try.underlying4 _), (trodAll_cons_mk (Below.trod laidOut (by kernel_rfl) (of_decide_eq_true (by kernel_rfl)) k0 bel lt0) (trodAll_cons_mk (shut_int Try.underlying3 w1) (trodAll_cons_mk (shut_int Try.underlying3 w2) (trodAll_cons_mk (shut_int Try.underlying3 w3) trodAll_mk0)))), rfl, bel.frame _, fun h => by cases h⟩
theorem over : Rows.treeDepthRow.holds Try.pinned (OpenSpec.ofChange Rows.treeDepthSpec) :=
  OpenClaim.holds_of_wide 5 Try.f5 rfl rfl rfl rfl rfl rfl rfl ⟨rfl, rfl, rfl, rfl, rfl⟩ rfl rfl rfl rfl rfl (by kernel_rfl) Try.func5 (by kernel_rfl)
    (of_decide_eq_true (by kernel_rfl)) (by unfold Func.isWrapper; first | (rw [if_pos (by decide +kernel)]; kernel_rfl) | (rw [if_neg (by decide +kernel)]; exact ⟨rfl, rfl⟩))
    (fun os started H enc _ => lifted os started H enc)
theorem proved : Rows.TreeDepthSaid := over
end treeDepth
theorem treeDepth_holds : Rows.TreeDepthSaid := treeDepth.proved
#print axioms treeDepth_holds
end Go.Proofs.Ytmichnnkkpgpmaa
