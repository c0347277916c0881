/- TreeStays: what is done to trees leaves them as they were. -/
import Derived.Test.YtmichnnkkpgpmaaQ8
namespace Go.Proofs.Ytmichnnkkpgpmaa
set_option linter.unusedVariables false
set_option linter.unusedSimpArgs false
open Go.RowKit Go.Deep Go.Shelf Go.Proofs.YtmichnnkkpgpmaaW.PrintLast
attribute [local go_sem] Oper.semAt_some

theorem ownFrom_blkS {β : Type} {B D : Nat} {o : Obj} (hD : D < B) : OwnFrom B (fun (_ : β) W => W.heap[D]? = some o) := fun _ W W' row hs hg hr => by
  show W'.heap[D]? = some o
  rw [hg.block D (blk_lt hs) (by intro h; have := (hr D h.symm).1; omega)]; exact hs
/-- What the body of the range keeps: the row seen so far, and the tree under way. -/
def SeenAt (N sb : Nat) (pre : List (Int × Int)) (W : World) : Prop := ∃ A c, W.heap[sb]? = some (.cells #[.slice A (flatI pre).length c] 22 (0, 0)) ∧ GRow encI 3 1 W N A c (flatI pre)
def UAt (ub n : Nat) (pre : List (Int × Int)) (W : World) : Prop := ∃ pu u, W.heap[ub]? = some (.cells #[.pointer pu] 35 (0, 0)) ∧ Ti.TreeAt W pu u ∧ u.size ≤ n + pre.length
theorem SeenAt.own {N sb : Nat} {pre : List (Int × Int)} {W W' : World} {row : Option Nat} (h : SeenAt N sb pre W) (hg : W.grownBy W' row) (hr : ∀ r, row = some r → ∃ o : Obj, W.heap[r]? = some o ∧ o.isCells = false) : SeenAt N sb pre W' :=
  h.elim fun A h => h.elim fun c h => ⟨A, c, Ti.blk_own h.1 hg hr, h.2.own hg hr⟩
theorem UAt.own {ub n : Nat} {pre : List (Int × Int)} {W W' : World} {row : Option Nat} (h : UAt ub n pre W) (hg : W.grownBy W' row) (hr : ∀ r, row = some r → ∃ o : Obj, W.heap[r]? = some o ∧ o.isCells = false) : UAt ub n pre W' :=
  h.elim fun p h => h.elim fun u h => ⟨p, u, Ti.blk_own h.1 hg hr, Ti.treeAt_own h.2.1 hg hr, h.2.2⟩
theorem ownFrom_seen {N sb : Nat} (B : Nat) : OwnFrom B (fun (pre : List (Int × Int)) W => SeenAt N sb pre W) := Own.from (fun (s : List (Int × Int)) A B row hs hg hr => SeenAt.own (pre := s) hs hg hr) _
theorem ownFrom_u {ub n : Nat} (B : Nat) : OwnFrom B (fun (pre : List (Int × Int)) W => UAt ub n pre W) := Own.from (fun (s : List (Int × Int)) A B row hs hg hr => UAt.own (pre := s) hs hg hr) _
theorem keepsOthers_below {w w' : World} (h : Below w.heap.size w w') : KeepsOthers w w' := ⟨h.size, fun k o ho _ => blk_below ho h⟩
set_option maxRecDepth 100000 in
set_option maxHeartbeats 16000000 in
theorem stays_1 (w : World) (A : Option Addr) (cap : Nat) (ops : List OpV) (hl : ops.length ≤ cap) (hcap : cap ≤ maxLen) (hlr : ops.length * 32 ≤ reach) (hA : A = none → cap = 0) (he : RdOp.elems w A ops)
    (A2 : Option Addr) (cap2 : Nat) (ops2 : List OpV) (hl2 : ops2.length ≤ cap2) (hcap2 : cap2 ≤ maxLen) (hlr2 : ops2.length * 32 ≤ reach) (hA2 : A2 = none → cap2 = 0) (he2 : RdOp.elems w A2 ops2)
    (key : Int) (hkey : (Lit.int .i64 key).wf = true) (value : Int) (hvalue : (Lit.int .i64 value).wf = true) :
    Calls Try.prog 6 #[.slice A ops.length cap, .slice A2 ops2.length cap2, .int .i64 key, .int .i64 value] w fun e w' => e = .returned (.bool true) ∧ Below w.heap.size w w' := by
  unfold maxLen at hcap hcap2
  unfold reach at hlr hlr2
  have HE := Lib.hid he
  have HE2 := Lib.hid he2
  obtain ⟨K, hG, hK, hLL⟩ := made_good ops
  obtain ⟨l, hll⟩ : ∃ l, l = madeL ops := ⟨_, rfl⟩
  rw [← hll] at hG hLL
  have HLD := Lib.hid hll
  have hlp : 1 ≤ l.length := List.length_pos_iff.2 hG.ne
  obtain ⟨t, ht⟩ : ∃ t, l[l.length - 1]? = some t := ⟨_, List.getElem?_eq_getElem (by omega)⟩
  have hgt := hG.all t (List.mem_of_getElem? ht)
  have hsz := hgt.size
  have hsall : ∀ t ∈ l, t.size ≤ ops.length := fun t ht => Nat.le_trans (hG.all t ht).size hK
  have HSA := Lib.hid hsall
  have HG := Lib.hid hG
  have HT := Lib.hid ht
  have hsl := T.length_toList t
  have hnf : ∀ (cap : Array Value) (W : World), Sem.run Try.prog (binOp BinOp.eql 54 (.func (.func 68) #[] cap) Value.nilFunc) W = .ok (.bool false) W := fun _ _ => rfl
  clear he he2 hll hG ht hA hA2 hgt hkey hvalue hsall hl hl2
  refine (callsIn_wide (n := 4)).1 ?_
  refine callsIn_of_wp_marks Try.func6 rfl trivial ?_ rfl
  refine wpIn_wide.2 ?_
  simp only [Try.ntmps6, List.size_toArray, List.length_cons, List.length_nil, Nat.reduceAdd, Nat.reduceSub, Array.replicate_succ, Array.replicate_zero, List.push_toArray, List.append_toArray, List.nil_append, List.cons_append]
  obtain ⟨h0, h1⟩ := two_blks w (.cells #[.int .i64 key] 3) (.cells #[.int .i64 value] 3)
  have HB0 : Below w.heap.size w ((w.alloc (.cells #[.int .i64 key] 3)).alloc (.cells #[.int .i64 value] 3)) := ((Below.refl _ w).alloc (Nat.le_refl _) _).alloc (by simp) _
  obtain ⟨W0, hW0⟩ : ∃ W0, ((w.alloc (.cells #[.int .i64 key] 3)).alloc (.cells #[.int .i64 value] 3)) = W0 := ⟨_, rfl⟩
  have KN := Lib.hid (known_any W0)
  have HW := Lib.hid hW0
  rw [hW0] at h0 h1 HB0
  have KB0 := Lib.hid HB0
  have H0 := Lib.hid h0
  have H1 := Lib.hid h1
  clear hW0 h0 h1 HB0
  go_wp2_with (fail)
  rw [HW.out]
  refine KN.out.mono ?_
  rintro e w1 ⟨rfl, B1⟩
  have MA := made_any w1 A cap ops (by omega) (Rd.elems_below (KB0.out.trans (B1.mono KB0.out.size)) HE.out)
  rw [← HLD.out] at MA
  have HMA := Lib.hid MA
  have HB1 := Lib.hid B1
  clear MA B1 KN
  go_wp2_with (fail)
  refine HMA.out.mono ?_
  rintro e w2 ⟨B, c, ps, rfl, F, B2⟩
  obtain ⟨g, p, hBe, d0, T2⟩ := F.at_ HT.out
  subst hBe
  have HF := Lib.hid F
  have HB2 := Lib.hid (HB1.out.trans (B2.mono HB1.out.size))
  have HT2 := Lib.hid T2
  clear F B2 T2 HMA d0
  go_wp2_with (fail)
  refine wp_loop_ghost_k (fun (m : Nat) (ac : Act) (wr : World) => ∃ u0 u2 u3 u4 u5 u8 u12 u13 u14 u15 u16 u17 u18 u19 u20 u21 u22 u23 u24 u25 u26 u27 u28 u29 u30 u31 u32 u33 u34 u35 u36 u37 u38 u39 u40 u41 u42 u43 u44 u45 u46 u47 u48 u49 u50 u51 u52 u53 u54 u55 u56 u57 u58 u59 u60 u61 u62 u63 u64 u65 u66 u67 u68 u69 u70 u71 u72 u73 u74 u75 u76 u77 u78 u79 u80 u81 u82 u83 u84 u85 u86 u87 u88 u89 u90 u91 u92 u93 u94 u95 u96 u97 u98 u99 u100 u101 u102 u103 u104 u105 u106 u107 u108 u109 u110 u111 u112 u113 u114 u115 u116 u117 u118 u119 u120 u121 u122 u123 u124 u125 u126 u127 u128 u129 u130 u131 u132 u133 u134 u135 u136 u137 u138 u139 u140 u141 u142 u143 u144 u145 u146 u147 u148 u149 u150 u151 u152 u153 u154 u155 u156 u157 u158 u159 u160 u161 u162 u163 u164 u165 u166 v10 v11 : Value, (∃ (i : Nat) (D : Option Addr) (d : Nat) (ss : List SlV), m + i = l.length ∧ v10 = .slice D i d ∧ v11 = .int .i64 i ∧ Wases wr w2.heap.size D d l i ss ∧ Below w2.heap.size w2 wr) ∧ ac = ({ tmps := #[u0, .slice A2 ops2.length cap2, u2, u3, u4, u5, .pointer (some ⟨w.heap.size, 0, none⟩), .pointer (some ⟨w.heap.size + 1, 0, none⟩), u8, .slice (some ⟨g, 0, none⟩) l.length c, v10, v11, u12, u13, u14, u15, u16, u17, u18, u19, u20, u21, u22, u23, u24, u25, u26, u27, u28, u29, u30, u31, u32, u33, u34, u35, u36, u37, u38, u39, u40, u41, u42, u43, u44, u45, u46, u47, u48, u49, u50, u51, u52, u53, u54, u55, u56, u57, u58, u59, u60, u61, u62, u63, u64, u65, u66, u67, u68, u69, u70, u71, u72, u73, u74, u75, u76, u77, u78, u79, u80, u81, u82, u83, u84, u85, u86, u87, u88, u89, u90, u91, u92, u93, u94, u95, u96, u97, u98, u99, u100, u101, u102, u103, u104, u105, u106, u107, u108, u109, u110, u111, u112, u113, u114, u115, u116, u117, u118, u119, u120, u121, u122, u123, u124, u125, u126, u127, u128, u129, u130, u131, u132, u133, u134, u135, u136, u137, u138, u139, u140, u141, u142, u143, u144, u145, u146, u147, u148, u149, u150, u151, u152, u153, u154, u155, u156, u157, u158, u159, u160, u161, u162, u163, u164, u165, u166], defers := [] } : Act)) (l.length) ?atStart ?round
  case' atStart => ((repeat apply Exists.intro); refine ⟨?_, rfl⟩)
  case' round => (intro m ac wr hcut; obtain ⟨u0, hcut⟩ := hcut; obtain ⟨u2, hcut⟩ := hcut; obtain ⟨u3, hcut⟩ := hcut; obtain ⟨u4, hcut⟩ := hcut; obtain ⟨u5, hcut⟩ := hcut; obtain ⟨u8, hcut⟩ := hcut; obtain ⟨u12, hcut⟩ := hcut; obtain ⟨u13, hcut⟩ := hcut; obtain ⟨u14, hcut⟩ := hcut; obtain ⟨u15, hcut⟩ := hcut; obtain ⟨u16, hcut⟩ := hcut; obtain ⟨u17, hcut⟩ := hcut; obtain ⟨u18, hcut⟩ := hcut; obtain ⟨u19, hcut⟩ := hcut; obtain ⟨u20, hcut⟩ := hcut; obtain ⟨u21, hcut⟩ := hcut; obtain ⟨u22, hcut⟩ := hcut; obtain ⟨u23, hcut⟩ := hcut; obtain ⟨u24, hcut⟩ := hcut; obtain ⟨u25, hcut⟩ := hcut; obtain ⟨u26, hcut⟩ := hcut; obtain ⟨u27, hcut⟩ := hcut; obtain ⟨u28, hcut⟩ := hcut; obtain ⟨u29, hcut⟩ := hcut; obtain ⟨u30, hcut⟩ := hcut; obtain ⟨u31, hcut⟩ := hcut; obtain ⟨u32, hcut⟩ := hcut; obtain ⟨u33, hcut⟩ := hcut; obtain ⟨u34, hcut⟩ := hcut; obtain ⟨u35, hcut⟩ := hcut; obtain ⟨u36, hcut⟩ := hcut; obtain ⟨u37, hcut⟩ := hcut; obtain ⟨u38, hcut⟩ := hcut; obtain ⟨u39, hcut⟩ := hcut; obtain ⟨u40, hcut⟩ := hcut; obtain ⟨u41, hcut⟩ := hcut; obtain ⟨u42, hcut⟩ := hcut; obtain ⟨u43, hcut⟩ := hcut; obtain ⟨u44, hcut⟩ := hcut; obtain ⟨u45, hcut⟩ := hcut; obtain ⟨u46, hcut⟩ := hcut; obtain ⟨u47, hcut⟩ := hcut; obtain ⟨u48, hcut⟩ := hcut; obtain ⟨u49, hcut⟩ := hcut; obtain ⟨u50, hcut⟩ := hcut; obtain ⟨u51, hcut⟩ := hcut; obtain ⟨u52, hcut⟩ := hcut; obtain ⟨u53, hcut⟩ := hcut; obtain ⟨u54, hcut⟩ := hcut; obtain ⟨u55, hcut⟩ := hcut; obtain ⟨u56, hcut⟩ := hcut; obtain ⟨u57, hcut⟩ := hcut; obtain ⟨u58, hcut⟩ := hcut; obtain ⟨u59, hcut⟩ := hcut; obtain ⟨u60, hcut⟩ := hcut; obtain ⟨u61, hcut⟩ := hcut; obtain ⟨u62, hcut⟩ := hcut; obtain ⟨u63, hcut⟩ := hcut; obtain ⟨u64, hcut⟩ := hcut; obtain ⟨u65, hcut⟩ := hcut; obtain ⟨u66, hcut⟩ := hcut; obtain ⟨u67, hcut⟩ := hcut; obtain ⟨u68, hcut⟩ := hcut; obtain ⟨u69, hcut⟩ := hcut; obtain ⟨u70, hcut⟩ := hcut; obtain ⟨u71, hcut⟩ := hcut; obtain ⟨u72, hcut⟩ := hcut; obtain ⟨u73, hcut⟩ := hcut; obtain ⟨u74, hcut⟩ := hcut; obtain ⟨u75, hcut⟩ := hcut; obtain ⟨u76, hcut⟩ := hcut; obtain ⟨u77, hcut⟩ := hcut; obtain ⟨u78, hcut⟩ := hcut; obtain ⟨u79, hcut⟩ := hcut; obtain ⟨u80, hcut⟩ := hcut; obtain ⟨u81, hcut⟩ := hcut; obtain ⟨u82, hcut⟩ := hcut; obtain ⟨u83, hcut⟩ := hcut; obtain ⟨u84, hcut⟩ := hcut; obtain ⟨u85, hcut⟩ := hcut; obtain ⟨u86, hcut⟩ := hcut; obtain ⟨u87, hcut⟩ := hcut; obtain ⟨u88, hcut⟩ := hcut; obtain ⟨u89, hcut⟩ := hcut; obtain ⟨u90, hcut⟩ := hcut; obtain ⟨u91, hcut⟩ := hcut; obtain ⟨u92, hcut⟩ := hcut; obtain ⟨u93, hcut⟩ := hcut; obtain ⟨u94, hcut⟩ := hcut; obtain ⟨u95, hcut⟩ := hcut; obtain ⟨u96, hcut⟩ := hcut; obtain ⟨u97, hcut⟩ := hcut; obtain ⟨u98, hcut⟩ := hcut; obtain ⟨u99, hcut⟩ := hcut; obtain ⟨u100, hcut⟩ := hcut; obtain ⟨u101, hcut⟩ := hcut; obtain ⟨u102, hcut⟩ := hcut; obtain ⟨u103, hcut⟩ := hcut; obtain ⟨u104, hcut⟩ := hcut; obtain ⟨u105, hcut⟩ := hcut; obtain ⟨u106, hcut⟩ := hcut; obtain ⟨u107, hcut⟩ := hcut; obtain ⟨u108, hcut⟩ := hcut; obtain ⟨u109, hcut⟩ := hcut; obtain ⟨u110, hcut⟩ := hcut; obtain ⟨u111, hcut⟩ := hcut; obtain ⟨u112, hcut⟩ := hcut; obtain ⟨u113, hcut⟩ := hcut; obtain ⟨u114, hcut⟩ := hcut; obtain ⟨u115, hcut⟩ := hcut; obtain ⟨u116, hcut⟩ := hcut; obtain ⟨u117, hcut⟩ := hcut; obtain ⟨u118, hcut⟩ := hcut; obtain ⟨u119, hcut⟩ := hcut; obtain ⟨u120, hcut⟩ := hcut; obtain ⟨u121, hcut⟩ := hcut; obtain ⟨u122, hcut⟩ := hcut; obtain ⟨u123, hcut⟩ := hcut; obtain ⟨u124, hcut⟩ := hcut; obtain ⟨u125, hcut⟩ := hcut; obtain ⟨u126, hcut⟩ := hcut; obtain ⟨u127, hcut⟩ := hcut; obtain ⟨u128, hcut⟩ := hcut; obtain ⟨u129, hcut⟩ := hcut; obtain ⟨u130, hcut⟩ := hcut; obtain ⟨u131, hcut⟩ := hcut; obtain ⟨u132, hcut⟩ := hcut; obtain ⟨u133, hcut⟩ := hcut; obtain ⟨u134, hcut⟩ := hcut; obtain ⟨u135, hcut⟩ := hcut; obtain ⟨u136, hcut⟩ := hcut; obtain ⟨u137, hcut⟩ := hcut; obtain ⟨u138, hcut⟩ := hcut; obtain ⟨u139, hcut⟩ := hcut; obtain ⟨u140, hcut⟩ := hcut; obtain ⟨u141, hcut⟩ := hcut; obtain ⟨u142, hcut⟩ := hcut; obtain ⟨u143, hcut⟩ := hcut; obtain ⟨u144, hcut⟩ := hcut; obtain ⟨u145, hcut⟩ := hcut; obtain ⟨u146, hcut⟩ := hcut; obtain ⟨u147, hcut⟩ := hcut; obtain ⟨u148, hcut⟩ := hcut; obtain ⟨u149, hcut⟩ := hcut; obtain ⟨u150, hcut⟩ := hcut; obtain ⟨u151, hcut⟩ := hcut; obtain ⟨u152, hcut⟩ := hcut; obtain ⟨u153, hcut⟩ := hcut; obtain ⟨u154, hcut⟩ := hcut; obtain ⟨u155, hcut⟩ := hcut; obtain ⟨u156, hcut⟩ := hcut; obtain ⟨u157, hcut⟩ := hcut; obtain ⟨u158, hcut⟩ := hcut; obtain ⟨u159, hcut⟩ := hcut; obtain ⟨u160, hcut⟩ := hcut; obtain ⟨u161, hcut⟩ := hcut; obtain ⟨u162, hcut⟩ := hcut; obtain ⟨u163, hcut⟩ := hcut; obtain ⟨u164, hcut⟩ := hcut; obtain ⟨u165, hcut⟩ := hcut; obtain ⟨u166, hcut⟩ := hcut; obtain ⟨v10, hcut⟩ := hcut; obtain ⟨v11, hcut⟩ := hcut; obtain ⟨hcut, hac⟩ := hcut; subst hac; intro _ _ _ _)
  case atStart => exact ⟨0, none, 0, [], rfl, rfl, rfl, Wases.nil, Below.refl _ _⟩
  case round =>
    obtain ⟨i, D, d, ss, hm, rfl, rfl, S, hB⟩ := hcut
    have HM := Lib.hid hm
    have HS := Lib.hid S
    have HB := Lib.hid hB
    have hile : i ≤ l.length := by omega
    clear hm S hB
    by_cases hlt : i < l.length
    · --[A
      obtain ⟨ti, hti⟩ : ∃ t, l[i]? = some t := ⟨_, List.getElem?_eq_getElem hlt⟩
      have hts := HSA.out ti (List.mem_of_getElem? hti)
      obtain ⟨g', p', hBe, d1, T1⟩ := (HF.out.below HB.out).at_ hti
      injection hBe with hBe
      injection hBe with hBe
      subst hBe
      have RO := row_any T1 (by omega)
      have HRO := Lib.hid RO
      have HTI := Lib.hid hti
      have z1 : decide (i < l.length) = true := by simp; omega
      clear T1 RO hti
      go_wp2_with (fail)
      refine HRO.out.mono ?_
      rintro e w3 ⟨B3, c3, rfl, R3, hB3⟩
      obtain ⟨A4, c4, w4, hrun, S4, hB4⟩ := (HS.out.below hB3).push HTI.out R3 (HB.out.trans (hB3.mono HB.out.size)) (Nat.le_trans HB.out.size hB3.size) (by omega)
      have HR4 := Lib.hid hrun
      have HS4 := Lib.hid S4
      have HB4 := Lib.hid hB4
      clear hrun S4 hB4 R3 hB3 HRO d1
      go_wp2_with (have p3 := HR4; refine wpList_app p3.out rfl rfl rfl (by rfl) (by rfl) ?_; clear p3 HR4)
      go_roundg (m - 1)
      case measure => have := HM.out; omega
      case rel => exact ⟨i + 1, A4, c4, _, by have := HM.out; omega, by simp, by go_num, HS4.out, HB4.out⟩
      --A]
    · have hie : i = l.length := by omega
      subst hie
      have z1 : decide (l.length < l.length) = false := by simp
      have q0 : (0 : Int) ≤ (l.length : Int) - 1 := by omega
      have q1 : (l.length : Int) - 1 < (l.length : Int) := by omega
      have q2 : ((l.length : Int) - 1).toNat = l.length - 1 := by omega
      obtain ⟨g', p', hBe, d0, T1⟩ := (HF.out.below HB.out).at_ HT.out
      injection hBe with hBe
      injection hBe with hBe
      subst hBe
      have HT1 := Lib.hid T1
      have HFX := Lib.hid (HF.out.below HB.out)
      have HBX0 := Lib.hid (HB2.out.trans (HB.out.mono HB2.out.size))
      clear T1
      go_wp2_with (fail)
      refine (Ti.all_any _).mono ?_
      rintro e w_ ⟨rfl, rfl⟩
      go_wp2_with (fail)
      obtain ⟨g0, g1'⟩ := two_blks wr (.cells #[.pointer p'] 35) (.cells #[.slice none 0 0] 22)
      have HBW : Below wr.heap.size wr (((wr.alloc (.cells #[.pointer p'] 35)).alloc (.cells #[.slice none 0 0] 22)).alloc (.cells #[.pointer p'] 35)) := (((Below.refl _ wr).alloc (Nat.le_refl _) _).alloc (by simp) _).alloc (by simp; omega) _
      have HSW : (((wr.alloc (.cells #[.pointer p'] 35)).alloc (.cells #[.slice none 0 0] 22)).alloc (.cells #[.pointer p'] 35)).heap.size = wr.heap.size + 2 + 1 := by simp
      have g2 := blk_new ((wr.alloc (.cells #[.pointer p'] 35)).alloc (.cells #[.slice none 0 0] 22)) (.cells #[.pointer p'] 35)
      rw [show ((wr.alloc (.cells #[.pointer p'] 35)).alloc (.cells #[.slice none 0 0] 22)).heap.size = wr.heap.size + 1 + 1 by simp] at g2
      have g0' := blk_alloc g0 (.cells #[.pointer p'] 35)
      have g1 := blk_alloc g1' (.cells #[.pointer p'] 35)
      clear g0 g1'
      obtain ⟨W1, hW1⟩ : ∃ W1, (((wr.alloc (.cells #[.pointer p'] 35)).alloc (.cells #[.slice none 0 0] 22)).alloc (.cells #[.pointer p'] 35)) = W1 := ⟨_, rfl⟩
      rw [hW1] at g0' g1 g2 HBW HSW ⊢
      clear hW1
      have HL1 := Lib.hid (Ti.Lies.below HBW (Ti.Lies.of (Nat.le_refl _) HT1.out))
      have hbox : w.heap.size + 1 < wr.heap.size := by have := blk_lt (blk_below H1.out HBX0.out); exact this
      have G0 := Lib.hid g0'
      have G1 := Lib.hid g1
      have G2 := Lib.hid g2
      have HBW1 := Lib.hid HBW
      have HCK := Lib.hid (fun W (hW : Below wr.heap.size wr W) => (show W.heap[w.heap.size]? = some (.cells #[.int .i64 key] 3 (0, 0)) from by rw [hW.block _ (by omega)]; exact blk_below H0.out HBX0.out))
      have HCV := Lib.hid (fun W (hW : Below wr.heap.size wr W) => (show W.heap[w.heap.size + 1]? = some (.cells #[.int .i64 value] 3 (0, 0)) from by rw [hW.block _ (by omega)]; exact blk_below H1.out HBX0.out))
      clear g0' g1 g2 HBW
      refine (wpIn_wide (n := 4)).1 ?_
      refine wpIn_rangeFunc_ownF rfl (by decide) (gf := 68) (lb := #[.pointer (some ⟨wr.heap.size + 1 + 1, 0, none⟩)]) rfl trivial (enters_of Try.func68 (by kernel_rfl) rfl)
        (Ti.all_stops 3 (wr.heap.size + 1 + 1) wr.heap.size p' t W1 (by omega) (by omega) (cell_blk G2.out 0 rfl) HL1.out) belowK_t (belowK_b (by omega)) (Below.refl _ _) (fun _ => rfl)
        (fun pre W => SeenAt wr.heap.size (wr.heap.size + 1) pre W ∧ UAt wr.heap.size t.size pre W ∧ Below wr.heap.size wr W) (fun c pre W => False ∧ Below wr.heap.size wr W)
        (OwnFrom.and (ownFrom_seen _) (OwnFrom.and (ownFrom_u _) (ownFrom_below (Nat.le_refl _) (by omega)))) (fun c => OwnFrom.and (Own.from (fun s A B row hs hg hr => hs) _) (ownFrom_below (Nat.le_refl _) (by omega)))
        ⟨⟨none, 0, G1.out, GRow.nil⟩, ⟨p', t, G0.out, HT1.out.below HBW1.out, by simp⟩, HBW1.out⟩ ?a1 ?assign ?body ?done ?stop
      case' assign =>
        intro l x W K hK
        unfold Ti.encs
        gi_wp2
        exact hK
      case stop =>
        rintro D c pre W hD hpre ⟨hf, _⟩ hK
        exact hf.elim
      case body =>
        --[B
        rintro l' pre ⟨k, v⟩ W ⟨⟨A', c', g0, R⟩, ⟨pu, u, b0, TU, hus⟩, hB⟩ hlt2
        rw [hsl] at hlt2
        have hfl := flatI_len pre
        have c0 := cell_blk g0 0 rfl
        have hN : wr.heap.size ≤ W.heap.size := hB.size
        have R1 := R.keeps (KeepT.alloc 3 W (.cells #[.int .i64 k, .int .i64 v] 3))
        have hB1 := hB.alloc hN (.cells #[.int .i64 k, .int .i64 v] 3)
        obtain ⟨A3, c3, w3, hr, R2, B2, h4, h5⟩ := GRow.append (ys := [k, v]) elI R1 22 (some ⟨W.heap.size, 0, none⟩) 2 (fun _ => ⟨W.heap.size, 0, rfl, fun i y hy j u hu => by
          have hk : i < 2 := (List.getElem?_eq_some_iff.1 hy).1
          have hj : j = 0 := by have := (List.getElem?_eq_some_iff.1 hu).1; simp [encI] at this; omega
          subst hj
          simp [encI] at hu; subst hu
          rcases i with _ | _ | i
          · simp at hy; subst hy; exact cell_blk (blk_new W _) 0 rfl
          · simp at hy; subst hy; exact cell_blk (blk_new W _) 1 rfl
          · omega⟩) hB1 (by simp; omega) (by simp only [maxLen, List.length_cons, List.length_nil]; omega) (by simp only [List.length_cons, List.length_nil]; omega)
        have KO : KeepsOthers W w3 := (KeepsOthers.alloc W (.cells #[.int .i64 k, .int .i64 v] 3)).trans (keeps_app R1 (by
          have hA : A' ≠ some ⟨W.heap.size, 0, none⟩ := by
            rintro rfl
            rcases R with ⟨h, _⟩ | ⟨g, h1, _, h3⟩
            · cases h
            · injection h1 with h1; injection h1 with h1; have := h3.lt; omega
          have := blk_lt (h5 W.heap.size _ hA (blk_new W _))
          simp; omega) h5)
        have g1 := h4 22 (by decide) _ _ (blk_alloc g0 (.cells #[.int .i64 k, .int .i64 v] 3))
        have b1 := h4 35 (by decide) _ _ (blk_alloc b0 (.cells #[.int .i64 k, .int .i64 v] 3))
        have TU1 := (TU.keeps (KeepT.alloc 110 W (.cells #[.int .i64 k, .int .i64 v] 3))).keeps (h4 110 (by decide))
        have f1 := free_blk g1 0
        have cc1 := cell_blk g1 0 rfl
        have R3 := R2.keeps (KeepT.setCell g1 (by decide) 0 (.slice A3 ((flatI pre).length + 2) c3))
        have g2 := Ti.set_blk g1 (.slice A3 ((flatI pre).length + 2) c3)
        have b2 := (KeepT.setCell g1 (T := 35) (by decide) 0 (.slice A3 ((flatI pre).length + 2) c3)) _ _ b1
        have TU2 := TU1.keeps (KeepT.setCell g1 (T := 110) (by decide) 0 (.slice A3 ((flatI pre).length + 2) c3))
        have B3 := B2.setCell (p := ⟨wr.heap.size + 1, 0, none⟩) (by simp) (.slice A3 ((flatI pre).length + 2) c3)
        have KO3 := KO.trans (KeepsOthers.setCell w3 ⟨wr.heap.size + 1, 0, none⟩ (.slice A3 ((flatI pre).length + 2) c3))
        have d1 := cell_blk b1 0 rfl
        have d2 := cell_blk (HCK.out w3 B2) 0 rfl
        have d3 := cell_blk (HCV.out w3 B2) 0 rfl
        have PU : ∀ kk, Calls Try.prog 31 #[.pointer pu, .int .i64 kk, .int .i64 value] _ _ := fun kk => Ti.put_any kk value u TU2 (by unfold Ti.big; omega)
        have HPU := Lib.hid PU
        have HR := Lib.hid hr
        have HHB := Lib.hid hB
        have HR3 := Lib.hid R3
        have HG2 := Lib.hid g2
        have HB3 := Lib.hid B3
        have HKO3 := Lib.hid KO3
        have HU2 := Lib.hid b2
        clear R3 g2 B3 KO3 b2 TU2 PU hr KO B2 R R1 R2 h4 h5 hB1 g0 g1 b0 b1 TU TU1 hfl hB
        gi_wp2_with (have p3 := HR; refine wpListIn_app p3.out rfl rfl rfl (by rfl) (by rfl) ?_; clear p3 HR)
        refine ⟨trivial, (callsIn_wide.2 (HPU.out _)).mono ?_⟩
        rintro e w4 ⟨p4, rfl, T4, B4⟩
        have b4 := blk_below HU2.out B4
        have f4 := free_blk b4 0
        have c4 := cell_blk b4 0 rfl
        have g4 := blk_below HG2.out B4
        have R4 := HR3.out.keeps (KeepT.below B4)
        have TD := T4.keeps (KeepT.setCell b4 (T := 110) (by decide) 0 (.pointer p4))
        have g5 := (KeepT.setCell b4 (T := 22) (by decide) 0 (.pointer p4)) _ _ g4
        have R5 := R4.keeps (KeepT.setCell b4 (T := 3) (by decide) 0 (.pointer p4))
        have b5 := Ti.set_blk b4 (.pointer p4)
        have d5 := cell_blk b5 0 rfl
        have B5 := (HB3.out.trans (B4.mono HB3.out.size)).setCell (p := ⟨wr.heap.size, 0, none⟩) (Nat.le_refl _) (.pointer p4)
        have KO5 := (HKO3.out.trans (keepsOthers_below B4)).trans (KeepsOthers.setCell w4 ⟨wr.heap.size, 0, none⟩ (.pointer p4))
        have sp := (T.size_put ltZ (wrap64 (k + key)) value u).2
        obtain ⟨q, hq⟩ : ∃ q, q = T.put ltZ (wrap64 (k + key)) value u := ⟨_, rfl⟩
        rw [← hq] at TD sp
        have DE := Lib.hid (Ti.del_any k q TD (by unfold Ti.big; omega))
        have sd := T.size_del ltZ k q
        have HB5 := Lib.hid B5
        have HKO5 := Lib.hid KO5
        have HR5 := Lib.hid R5
        have HG5 := Lib.hid g5
        have HB5' := Lib.hid b5
        clear HPU T4 TD g4 R4 g5 R5 b5 B5 KO5 hq B4
        gi_wp2_with (fail)
        refine ⟨trivial, (callsIn_wide.2 DE.out).mono ?_⟩
        rintro e w6 ⟨p6, rfl, T6, B6⟩
        have b6 := blk_below HB5'.out B6
        have f6 := free_blk b6 0
        have c6 := cell_blk b6 0 rfl
        have g6 := blk_below HG5.out B6
        have R6 := HR5.out.keeps (KeepT.below B6)
        have T7 := Lib.hid (T6.keeps (KeepT.setCell b6 (T := 110) (by decide) 0 (.pointer p6)))
        have g7 := Lib.hid ((KeepT.setCell b6 (T := 22) (by decide) 0 (.pointer p6)) _ _ g6)
        have R7 := Lib.hid (R6.keeps (KeepT.setCell b6 (T := 3) (by decide) 0 (.pointer p6)))
        have b7 := Lib.hid (Ti.set_blk b6 (.pointer p6))
        have B7 := Lib.hid ((HB5.out.trans (B6.mono HB5.out.size)).setCell (p := ⟨wr.heap.size, 0, none⟩) (Nat.le_refl _) (.pointer p6))
        have KO7 := Lib.hid ((HKO5.out.trans (keepsOthers_below B6)).trans (KeepsOthers.setCell w6 ⟨wr.heap.size, 0, none⟩ (.pointer p6)))
        clear T6 g6 R6 B6 DE
        gi_wp2_with (fail)
        refine ⟨KO7.out, below_btw HHB.out B7.out KO7.out.size, ⟨A3, c3, ?_, ?_⟩, ⟨p6, _, b7.out, T7.out, ?_⟩, B7.out⟩
        · rw [flatI_snoc, List.length_append]; exact g7.out
        · rw [flatI_snoc]; exact R7.out
        · rw [List.length_append]; simp only [List.length_singleton]; omega
        --B]
      case done =>
        rintro E ys W hD rfl ⟨⟨A', c', gs, R⟩, ⟨pu, u, gu, TU, hus⟩, hB⟩ hK
        have HK := Lib.hid hK
        have HBD := Lib.hid hB
        have HRS := Lib.hid R
        have HFD := Lib.hid (HFX.out.below hB)
        have HSD := Lib.hid (HS.out.below hB)
        have c0 := cell_blk gs 0 rfl
        have hfl := flatI_len t.toList
        obtain ⟨gw, Bw, cw, rfl, c1, RW⟩ := HSD.out.get (by omega) HT.out
        obtain ⟨_, Nw, RW⟩ := RW
        have al := Lib.hid (alike_any (w := W.drew) (R.keeps (KeepT.drew _ _)) (RW.keeps (KeepT.drew _ _)) (by omega))
        have hwl : W.heap.size > E := blk_lt hK
        have HCS := Lib.hid c0
        have HCW := Lib.hid c1
        clear R TU hB hK gs gu RW
        go_upto_region 21 with (fail)
        clear q0 q1 hlt z1 hile hnf hus hfl hwl hsl c0 c1
        have i1 : (1 : Int) ≤ (l.length : Int) := by omega
        have q1 : (l.length : Int) - 1 < (l.length : Int) := by omega
        refine wp_region_noPanic ?_
        refine start_ (n := 9) (S := fun w' => w'.cell? ⟨wr.heap.size + 1, 0, none⟩ = some (.slice A' (flatI t.toList).length c') ∧ w'.cell? ⟨gw, l.length - 1, none⟩ = some (.slice Bw (flatI t.toList).length cw)) (ds := []) #[false, false, false, false, false, false, false, false, false] (by kernel_rfl) rfl rfl ⟨HCS.out, HCW.out⟩ (fun hHeld => ?_)
        (refine take_ (i := 0) (N := some 73) (v := ?v_2) (a' := ?a_2) #[true, false, false, false, false, false, false, false, false] rfl rfl (by kernel_rfl) (fun _ _ _ h => h) (Or.inl ⟨by rfl, ?hy_2⟩) hHeld ?ha_2 ?hh_2; (case hy_2 => (rintro w' ⟨s0_, s1_⟩; go_simp; with_reducible rfl)); (case ha_2 => (simp (disch := omega) only [Act.put, List.setIfInBounds_toArray, List.set_cons_zero, List.set_cons_succ, wrap_in]; rfl)))
        (refine take_ (i := 1) (N := some 74) (v := ?v_3) (a' := ?a_3) #[true, true, false, false, false, false, false, false, false] rfl rfl (by kernel_rfl) (fun _ _ _ h => h) (Or.inl ⟨by rfl, ?hy_3⟩) hHeld ?ha_3 ?hh_3; (case hy_3 => (rintro w' ⟨s0_, s1_⟩; go_simp; with_reducible rfl)); (case ha_3 => (simp (disch := omega) only [Act.put, List.setIfInBounds_toArray, List.set_cons_zero, List.set_cons_succ, wrap_in]; rfl)))
        (refine take_ (i := 2) (N := some 75) (v := ?v_4) (a' := ?a_4) #[true, true, true, false, false, false, false, false, false] rfl rfl (by kernel_rfl) (fun _ _ _ h => h) (Or.inl ⟨by rfl, ?hy_4⟩) hHeld ?ha_4 ?hh_4; (case hy_4 => (rintro w' ⟨s0_, s1_⟩; go_simp; with_reducible rfl)); (case ha_4 => (simp (disch := omega) only [Act.put, List.setIfInBounds_toArray, List.set_cons_zero, List.set_cons_succ, wrap_in]; rfl)))
        (refine take_ (i := 3) (N := some 76) (v := ?v_5) (a' := ?a_5) #[true, true, true, true, false, false, false, false, false] rfl rfl (by kernel_rfl) (fun _ _ _ h => h) (Or.inl ⟨by rfl, ?hy_5⟩) hHeld ?ha_5 ?hh_5; (case hy_5 => (rintro w' ⟨s0_, s1_⟩; go_simp; with_reducible rfl)); (case ha_5 => (simp (disch := omega) only [Act.put, List.setIfInBounds_toArray, List.set_cons_zero, List.set_cons_succ, wrap_in]; rfl)))
        (refine take_ (i := 4) (N := some 77) (v := ?v_6) (a' := ?a_6) #[true, true, true, true, true, false, false, false, false] rfl rfl (by kernel_rfl) (fun _ _ _ h => h) (Or.inl ⟨by rfl, ?hy_6⟩) hHeld ?ha_6 ?hh_6; (case hy_6 => (rintro w' ⟨s0_, s1_⟩; go_simp; with_reducible rfl)); (case ha_6 => (simp (disch := omega) only [Act.put, List.setIfInBounds_toArray, List.set_cons_zero, List.set_cons_succ, wrap_in]; rfl)))
        (refine take_ (i := 5) (N := some 78) (v := ?v_7) (a' := ?a_7) #[true, true, true, true, true, true, false, false, false] rfl rfl (by kernel_rfl) (fun _ _ _ h => h) (Or.inl ⟨by rfl, ?hy_7⟩) hHeld ?ha_7 ?hh_7; (case hy_7 => (rintro w' ⟨s0_, s1_⟩; go_simp; with_reducible rfl)); (case ha_7 => (simp (disch := omega) only [Act.put, List.setIfInBounds_toArray, List.set_cons_zero, List.set_cons_succ, wrap_in]; rfl)))
        (refine take_ (i := 6) (N := some 79) (v := ?v_8) (a' := ?a_8) #[true, true, true, true, true, true, true, false, false] rfl rfl (by kernel_rfl) (fun _ _ _ h => h) (Or.inl ⟨by rfl, ?hy_8⟩) hHeld ?ha_8 ?hh_8; (case hy_8 => (rintro w' ⟨s0_, s1_⟩; go_simp; with_reducible rfl)); (case ha_8 => (simp (disch := omega) only [Act.put, List.setIfInBounds_toArray, List.set_cons_zero, List.set_cons_succ, wrap_in]; rfl)))
        refine one_ (i := 7) (N := some 80) #[true, true, true, true, true, true, true, true, false] rfl rfl (by kernel_rfl) (by decide) (fun K hK => ?_)
        (refine goes_ Try.func32 (by kernel_rfl) rfl ?args_10 (by rfl) rfl rfl ?hargs_10 ?hc_10; (case hargs_10 => (go_simp; with_reducible rfl)))
        (refine al.out.mono ?_; rintro e w5 ⟨rfl, B5⟩; have B8 := Lib.hid B5; refine ⟨_, rfl, ?_⟩)
        (refine hK.out _ _ ?hs_12 ?hn_12; (case hs_12 => (obtain ⟨s0_, s1_⟩ := hHeld; exact ⟨cell_below B5 s0_, cell_below B5 s1_⟩)); intro hHeld; clear hK K)
        (refine norm_ (a' := ?a_13) ?ha_13 ?hh_13; (case ha_13 => (simp (disch := omega) only [Act.put, List.setIfInBounds_toArray, List.set_cons_zero, List.set_cons_succ, wrap_in]; rfl)))
        (refine take_ (i := 8) (N := some 81) (v := ?v_14) (a' := ?a_14) #[true, true, true, true, true, true, true, true, true] rfl rfl (by kernel_rfl) (fun _ _ _ h => h) (Or.inl ⟨by rfl, ?hy_14⟩) hHeld ?ha_14 ?hh_14; (case hy_14 => (rintro w' ⟨s0_, s1_⟩; go_simp; with_reducible rfl)); (case ha_14 => (simp (disch := omega) only [Act.put, List.setIfInBounds_toArray, List.set_cons_zero, List.set_cons_succ, wrap_in]; rfl)))
        refine done_ (by kernel_rfl) ?_
        refine NoPanic.normal ?_
        go_wp2_with (fail)
        have HB8 := Lib.hid B8.out
        have HFY := Lib.hid ((HFD.out.keeps (KeepT.drew _ W) (KeepT.drew _ W)).below B8.out)
        have HSY := Lib.hid ((HSD.out.below (Below.refl _ W).drew).below B8.out)
        have HBY := Lib.hid (HBD.out.drew.trans (B8.out.mono HBD.out.drew.size))
        have HKY := Lib.hid (blk_below (w := W.drew) HK.out B8.out)
        refine wp_loop_ghost_k (fun (m2 : Nat) (ac : Act) (wz : World) => ∃ u0 u2 u3 u4 u5 u6 u7 u8 u11 u12 u13 u14 u15 u16 u17 u19 u20 u21 u22 u23 u24 u25 u26 u27 u28 u29 u30 u31 u32 u33 u34 u35 u36 u37 u38 u39 u40 u41 u42 u43 u44 u45 u46 u47 u48 u49 u50 u51 u52 u53 u54 u55 u56 u57 u58 u59 u60 u61 u62 u63 u64 u65 u66 u67 u68 u69 u70 u71 u72 u73 u74 u75 u76 u77 u78 u79 u80 u81 u82 u83 u84 u85 u86 u87 u88 u89 u90 u91 u92 u93 u94 u95 u96 u97 u98 u99 u100 u101 u102 u103 u104 u105 u106 u107 u108 u109 u110 u111 u112 u113 u114 u115 u116 u117 u118 u119 u120 u121 u122 u123 u124 u125 u126 u127 u128 u129 u130 u131 u132 u133 u134 u135 u136 u137 u138 u139 u140 u141 u142 u143 u144 u145 u146 u147 u148 u149 u150 u151 u152 u153 u154 u155 u156 u157 u158 u159 u160 u161 u162 u163 u164 u165 u166 v18 : Value, (∃ (i : Nat), m2 + i = ops2.length ∧ v18 = .int .i64 i ∧ Below w5.heap.size w5 wz) ∧ ac = ({ tmps := #[u0, .slice A2 ops2.length cap2, u2, u3, u4, u5, u6, u7, u8, .slice (some ⟨g, 0, none⟩) l.length c, .slice (some ⟨gw, 0, none⟩) l.length d, u11, u12, u13, u14, u15, u16, u17, v18, u19, u20, u21, u22, u23, u24, u25, u26, u27, u28, u29, u30, u31, u32, u33, u34, u35, u36, u37, u38, u39, u40, u41, u42, u43, u44, u45, u46, u47, u48, u49, u50, u51, u52, u53, u54, u55, u56, u57, u58, u59, u60, u61, u62, u63, u64, u65, u66, u67, u68, u69, u70, u71, u72, u73, u74, u75, u76, u77, u78, u79, u80, u81, u82, u83, u84, u85, u86, u87, u88, u89, u90, u91, u92, u93, u94, u95, u96, u97, u98, u99, u100, u101, u102, u103, u104, u105, u106, u107, u108, u109, u110, u111, u112, u113, u114, u115, u116, u117, u118, u119, u120, u121, u122, u123, u124, u125, u126, u127, u128, u129, u130, u131, u132, u133, u134, u135, u136, u137, u138, u139, u140, u141, u142, u143, u144, u145, u146, u147, u148, u149, u150, u151, u152, u153, u154, u155, u156, u157, u158, u159, u160, u161, u162, u163, u164, u165, u166], defers := [{ target := .collected E, args := #[] }] } : Act)) (ops2.length) ?atStart ?round
        case' atStart => ((repeat apply Exists.intro); refine ⟨?_, rfl⟩)
        case' round => (intro m2 ac wz hcut; obtain ⟨u0, hcut⟩ := hcut; obtain ⟨u2, hcut⟩ := hcut; obtain ⟨u3, hcut⟩ := hcut; obtain ⟨u4, hcut⟩ := hcut; obtain ⟨u5, hcut⟩ := hcut; obtain ⟨u6, hcut⟩ := hcut; obtain ⟨u7, hcut⟩ := hcut; obtain ⟨u8, hcut⟩ := hcut; obtain ⟨u11, hcut⟩ := hcut; obtain ⟨u12, hcut⟩ := hcut; obtain ⟨u13, hcut⟩ := hcut; obtain ⟨u14, hcut⟩ := hcut; obtain ⟨u15, hcut⟩ := hcut; obtain ⟨u16, hcut⟩ := hcut; obtain ⟨u17, hcut⟩ := hcut; obtain ⟨u19, hcut⟩ := hcut; obtain ⟨u20, hcut⟩ := hcut; obtain ⟨u21, hcut⟩ := hcut; obtain ⟨u22, hcut⟩ := hcut; obtain ⟨u23, hcut⟩ := hcut; obtain ⟨u24, hcut⟩ := hcut; obtain ⟨u25, hcut⟩ := hcut; obtain ⟨u26, hcut⟩ := hcut; obtain ⟨u27, hcut⟩ := hcut; obtain ⟨u28, hcut⟩ := hcut; obtain ⟨u29, hcut⟩ := hcut; obtain ⟨u30, hcut⟩ := hcut; obtain ⟨u31, hcut⟩ := hcut; obtain ⟨u32, hcut⟩ := hcut; obtain ⟨u33, hcut⟩ := hcut; obtain ⟨u34, hcut⟩ := hcut; obtain ⟨u35, hcut⟩ := hcut; obtain ⟨u36, hcut⟩ := hcut; obtain ⟨u37, hcut⟩ := hcut; obtain ⟨u38, hcut⟩ := hcut; obtain ⟨u39, hcut⟩ := hcut; obtain ⟨u40, hcut⟩ := hcut; obtain ⟨u41, hcut⟩ := hcut; obtain ⟨u42, hcut⟩ := hcut; obtain ⟨u43, hcut⟩ := hcut; obtain ⟨u44, hcut⟩ := hcut; obtain ⟨u45, hcut⟩ := hcut; obtain ⟨u46, hcut⟩ := hcut; obtain ⟨u47, hcut⟩ := hcut; obtain ⟨u48, hcut⟩ := hcut; obtain ⟨u49, hcut⟩ := hcut; obtain ⟨u50, hcut⟩ := hcut; obtain ⟨u51, hcut⟩ := hcut; obtain ⟨u52, hcut⟩ := hcut; obtain ⟨u53, hcut⟩ := hcut; obtain ⟨u54, hcut⟩ := hcut; obtain ⟨u55, hcut⟩ := hcut; obtain ⟨u56, hcut⟩ := hcut; obtain ⟨u57, hcut⟩ := hcut; obtain ⟨u58, hcut⟩ := hcut; obtain ⟨u59, hcut⟩ := hcut; obtain ⟨u60, hcut⟩ := hcut; obtain ⟨u61, hcut⟩ := hcut; obtain ⟨u62, hcut⟩ := hcut; obtain ⟨u63, hcut⟩ := hcut; obtain ⟨u64, hcut⟩ := hcut; obtain ⟨u65, hcut⟩ := hcut; obtain ⟨u66, hcut⟩ := hcut; obtain ⟨u67, hcut⟩ := hcut; obtain ⟨u68, hcut⟩ := hcut; obtain ⟨u69, hcut⟩ := hcut; obtain ⟨u70, hcut⟩ := hcut; obtain ⟨u71, hcut⟩ := hcut; obtain ⟨u72, hcut⟩ := hcut; obtain ⟨u73, hcut⟩ := hcut; obtain ⟨u74, hcut⟩ := hcut; obtain ⟨u75, hcut⟩ := hcut; obtain ⟨u76, hcut⟩ := hcut; obtain ⟨u77, hcut⟩ := hcut; obtain ⟨u78, hcut⟩ := hcut; obtain ⟨u79, hcut⟩ := hcut; obtain ⟨u80, hcut⟩ := hcut; obtain ⟨u81, hcut⟩ := hcut; obtain ⟨u82, hcut⟩ := hcut; obtain ⟨u83, hcut⟩ := hcut; obtain ⟨u84, hcut⟩ := hcut; obtain ⟨u85, hcut⟩ := hcut; obtain ⟨u86, hcut⟩ := hcut; obtain ⟨u87, hcut⟩ := hcut; obtain ⟨u88, hcut⟩ := hcut; obtain ⟨u89, hcut⟩ := hcut; obtain ⟨u90, hcut⟩ := hcut; obtain ⟨u91, hcut⟩ := hcut; obtain ⟨u92, hcut⟩ := hcut; obtain ⟨u93, hcut⟩ := hcut; obtain ⟨u94, hcut⟩ := hcut; obtain ⟨u95, hcut⟩ := hcut; obtain ⟨u96, hcut⟩ := hcut; obtain ⟨u97, hcut⟩ := hcut; obtain ⟨u98, hcut⟩ := hcut; obtain ⟨u99, hcut⟩ := hcut; obtain ⟨u100, hcut⟩ := hcut; obtain ⟨u101, hcut⟩ := hcut; obtain ⟨u102, hcut⟩ := hcut; obtain ⟨u103, hcut⟩ := hcut; obtain ⟨u104, hcut⟩ := hcut; obtain ⟨u105, hcut⟩ := hcut; obtain ⟨u106, hcut⟩ := hcut; obtain ⟨u107, hcut⟩ := hcut; obtain ⟨u108, hcut⟩ := hcut; obtain ⟨u109, hcut⟩ := hcut; obtain ⟨u110, hcut⟩ := hcut; obtain ⟨u111, hcut⟩ := hcut; obtain ⟨u112, hcut⟩ := hcut; obtain ⟨u113, hcut⟩ := hcut; obtain ⟨u114, hcut⟩ := hcut; obtain ⟨u115, hcut⟩ := hcut; obtain ⟨u116, hcut⟩ := hcut; obtain ⟨u117, hcut⟩ := hcut; obtain ⟨u118, hcut⟩ := hcut; obtain ⟨u119, hcut⟩ := hcut; obtain ⟨u120, hcut⟩ := hcut; obtain ⟨u121, hcut⟩ := hcut; obtain ⟨u122, hcut⟩ := hcut; obtain ⟨u123, hcut⟩ := hcut; obtain ⟨u124, hcut⟩ := hcut; obtain ⟨u125, hcut⟩ := hcut; obtain ⟨u126, hcut⟩ := hcut; obtain ⟨u127, hcut⟩ := hcut; obtain ⟨u128, hcut⟩ := hcut; obtain ⟨u129, hcut⟩ := hcut; obtain ⟨u130, hcut⟩ := hcut; obtain ⟨u131, hcut⟩ := hcut; obtain ⟨u132, hcut⟩ := hcut; obtain ⟨u133, hcut⟩ := hcut; obtain ⟨u134, hcut⟩ := hcut; obtain ⟨u135, hcut⟩ := hcut; obtain ⟨u136, hcut⟩ := hcut; obtain ⟨u137, hcut⟩ := hcut; obtain ⟨u138, hcut⟩ := hcut; obtain ⟨u139, hcut⟩ := hcut; obtain ⟨u140, hcut⟩ := hcut; obtain ⟨u141, hcut⟩ := hcut; obtain ⟨u142, hcut⟩ := hcut; obtain ⟨u143, hcut⟩ := hcut; obtain ⟨u144, hcut⟩ := hcut; obtain ⟨u145, hcut⟩ := hcut; obtain ⟨u146, hcut⟩ := hcut; obtain ⟨u147, hcut⟩ := hcut; obtain ⟨u148, hcut⟩ := hcut; obtain ⟨u149, hcut⟩ := hcut; obtain ⟨u150, hcut⟩ := hcut; obtain ⟨u151, hcut⟩ := hcut; obtain ⟨u152, hcut⟩ := hcut; obtain ⟨u153, hcut⟩ := hcut; obtain ⟨u154, hcut⟩ := hcut; obtain ⟨u155, hcut⟩ := hcut; obtain ⟨u156, hcut⟩ := hcut; obtain ⟨u157, hcut⟩ := hcut; obtain ⟨u158, hcut⟩ := hcut; obtain ⟨u159, hcut⟩ := hcut; obtain ⟨u160, hcut⟩ := hcut; obtain ⟨u161, hcut⟩ := hcut; obtain ⟨u162, hcut⟩ := hcut; obtain ⟨u163, hcut⟩ := hcut; obtain ⟨u164, hcut⟩ := hcut; obtain ⟨u165, hcut⟩ := hcut; obtain ⟨u166, hcut⟩ := hcut; obtain ⟨v18, hcut⟩ := hcut; obtain ⟨hcut, hac⟩ := hcut; subst hac; intro _ _ _ _)
        case atStart => exact ⟨0, rfl, rfl, Below.refl _ _⟩
        case round =>
          obtain ⟨i, hm, rfl, hBz⟩ := hcut
          have HMZ := Lib.hid hm
          have HBZ := Lib.hid hBz
          have hile : i ≤ ops2.length := by omega
          clear hm hBz
          by_cases hlt : i < ops2.length
          · --[C
            obtain ⟨o, hoo⟩ : ∃ o, ops2[i]? = some o := ⟨_, List.getElem?_eq_getElem hlt⟩
            obtain ⟨bb, of, rfl, q0, q1, q2, q3, i0, i1', i2, i3⟩ := op_at HE2.out hoo
            have HBA := KB0.out.trans ((HBX0.out.trans ((HBY.out.trans (HBZ.out.mono HBY.out.size)).mono HBX0.out.size)).mono KB0.out.size)
            have x0 := cell_below HBA q0
            have x1 := cell_below HBA q1
            have x2 := cell_below HBA q2
            have x3 := cell_below HBA q3
            obtain ⟨ki, fr, ke, va⟩ := o
            simp only at x0 x1 x2 x3 i0 i1' i2 i3
            have z1 : decide (i < ops2.length) = true := by simp; omega
            clear q0 q1 q2 q3 hoo HBA
            go_upto_region 27 with (fail)
            have BK := blk_new wz (.cells #[.int .i64 ki, .int .i64 fr, .int .i64 ke, .int .i64 va] 62)
            have y0 := cell_blk BK 0 rfl
            have y1 := cell_blk BK 1 rfl
            have y2 := cell_blk BK 2 rfl
            have y3 := cell_blk BK 3 rfl
            have F1 := (HFY.out.below HBZ.out).below ((Below.refl _ _).alloc (Nat.le_refl _) (.cells #[.int .i64 ki, .int .i64 fr, .int .i64 ke, .int .i64 va] 62))
            have HB1z := Lib.hid (HBZ.out.alloc HBZ.out.size (.cells #[.int .i64 ki, .int .i64 fr, .int .i64 ke, .int .i64 va] 62))
            obtain ⟨g', p2, hBe, d0, T1⟩ := F1.at_ (nth_at HG.out.ne fr)
            injection hBe with hBe
            injection hBe with hBe
            subst hBe
            have hts := HSA.out _ (nth_mem HG.out.ne fr)
            have r0 := rnd_lt fr (show 0 < l.length by omega)
            obtain ⟨rr, hrr⟩ : ∃ rr, rr = rnd fr l.length := ⟨_, rfl⟩
            have RR := round_any fr l.length i1'.1 i1'.2 hlp (by omega) (wz.alloc (.cells #[.int .i64 ki, .int .i64 fr, .int .i64 ke, .int .i64 va] 62))
            rw [← hrr] at RR r0 d0
            obtain ⟨tt, htt⟩ : ∃ t, t = nth l fr := ⟨_, rfl⟩
            rw [← htt] at T1 hts
            have HRR := Lib.hid RR
            have HT1 := Lib.hid T1
            have HF1 := Lib.hid F1
            have HLT := Lib.hid hlt
            have hib : i ≤ 4398046510976 := by omega
            clear BK T1 F1 RR hrr htt x0 x1 x2 x3 hlt z1 hile
            go_wp2_with (fail)
            refine HRR.out.mono ?_
            rintro e w_ ⟨rfl, rfl⟩
            go_upto_region 29 with (fail)
            by_cases k0 : ki = 0
            · --[E
              subst k0
              have PU := Lib.hid (Ti.put_any ke va tt HT1.out (by unfold Ti.big; omega))
              go_wp2_with (fail)
              refine PU.out.mono ?_
              rintro e w6 ⟨p6, rfl, T6, B6⟩
              have HB6 := Lib.hid (HB1z.out.trans (B6.mono HB1z.out.size))
              clear T6 B6 PU
              go_wp2_with (fail)
              go_roundg (m2 - 1)
              case measure => have := HMZ.out; have := HLT.out; omega
              case rel => exact ⟨i + 1, by have := HMZ.out; have := HLT.out; omega, by go_num, HB6.out⟩
              --E]
            · by_cases k1 : ki = 1
              · --[F
                subst k1
                have DE := Lib.hid (Ti.del_any ke tt HT1.out (by unfold Ti.big; omega))
                clear k0
                go_wp2_with (fail)
                refine DE.out.mono ?_
                rintro e w6 ⟨p6, rfl, T6, B6⟩
                have HB6 := Lib.hid (HB1z.out.trans (B6.mono HB1z.out.size))
                clear T6 B6 DE
                go_wp2_with (fail)
                go_roundg (m2 - 1)
                case measure => have := HMZ.out; have := HLT.out; omega
                case rel => exact ⟨i + 1, by have := HMZ.out; have := HLT.out; omega, by go_num, HB6.out⟩
                --F]
              · by_cases k6 : ki = 6
                · --[G
                  subst k6
                  have SP := Lib.hid (Ti.split_any ke tt HT1.out (by unfold Ti.big; omega))
                  have ss2 := T.size_split ltZ ke tt
                  clear k0 k1
                  go_wp2_with (fail)
                  refine SP.out.mono ?_
                  rintro e w6 ⟨p6, q6, rfl, T6, T6', B6⟩
                  have HB6 := Lib.hid (HB1z.out.trans (B6.mono HB1z.out.size))
                  have HT6' := Lib.hid T6'
                  have b6 := blk_below (blk_new wz (.cells #[.int .i64 6, .int .i64 fr, .int .i64 ke, .int .i64 va] 62)) B6
                  have y60 := cell_blk b6 2 rfl
                  have y61 := cell_blk b6 3 rfl
                  have HBK6 := Lib.hid b6
                  have PU := Lib.hid (fun kk => Ti.put_any kk va _ T6 (by unfold Ti.big; omega))
                  have HS2 := Lib.hid ss2
                  clear T6 T6' B6 SP b6 ss2 y0 y1 y2 y3
                  go_wp2_with (fail)
                  refine (PU.out _).mono ?_
                  rintro e w7 ⟨p7, rfl, T7, B7⟩
                  have HB7 := Lib.hid (HB6.out.trans (B7.mono HB6.out.size))
                  have b7 := blk_below HBK6.out B7
                  have y70 := cell_blk b7 2 rfl
                  have y71 := cell_blk b7 3 rfl
                  have PV := Lib.hid (Ti.put_any ke va _ (HT6'.out.below B7) (by have := HS2.out; unfold Ti.big; omega))
                  clear T7 B7 PU y60 y61 b7
                  go_wp2_with (fail)
                  refine PV.out.mono ?_
                  rintro e w8 ⟨p8, rfl, T8, B8'⟩
                  have HB8' := Lib.hid (HB7.out.trans (B8'.mono HB7.out.size))
                  clear T8 B8' PV
                  go_wp2_with (fail)
                  go_roundg (m2 - 1)
                  case measure => have := HMZ.out; have := HLT.out; omega
                  case rel => exact ⟨i + 1, by have := HMZ.out; have := HLT.out; omega, by go_num, HB8'.out⟩
                  --G]
                · by_cases k7 : ki = 7
                  · --[H
                    subst k7
                    obtain ⟨g', p3, hBe, d1, T2⟩ := HF1.out.at_ (nth_at HG.out.ne ke)
                    injection hBe with hBe
                    injection hBe with hBe
                    subst hBe
                    have hus := HSA.out _ (nth_mem HG.out.ne ke)
                    have r1 := rnd_lt ke (show 0 < l.length by omega)
                    obtain ⟨rs, hrs⟩ : ∃ rs, rs = rnd ke l.length := ⟨_, rfl⟩
                    have RR := round_any ke l.length i2.1 i2.2 hlp (by omega) (wz.alloc (.cells #[.int .i64 7, .int .i64 fr, .int .i64 ke, .int .i64 va] 62))
                    rw [← hrs] at RR r1 d1
                    obtain ⟨uu, huu⟩ : ∃ u, u = nth l ke := ⟨_, rfl⟩
                    rw [← huu] at T2 hus
                    have JO := Lib.hid (Ti.Join_any tt uu HT1.out T2 (by unfold Ti.big; omega))
                    have HRS2 := Lib.hid RR
                    clear RR hrs huu T2 k0 k1 k6
                    go_wp2_with (fail)
                    refine HRS2.out.mono ?_
                    rintro e w_ ⟨rfl, rfl⟩
                    go_wp2_with (fail)
                    refine JO.out.mono ?_
                    rintro e w6 ⟨B6, he⟩
                    have HB6 := Lib.hid (HB1z.out.trans (B6.mono HB1z.out.size))
                    have he' : ∃ v, e = .returned v := by
                      split at he
                      · obtain ⟨p9, rfl, _⟩ := he; exact ⟨_, rfl⟩
                      · exact ⟨_, he⟩
                    obtain ⟨v9, rfl⟩ := he'
                    clear he B6 JO
                    go_wp2_with (fail)
                    go_roundg (m2 - 1)
                    case measure => have := HMZ.out; have := HLT.out; omega
                    case rel => exact ⟨i + 1, by have := HMZ.out; have := HLT.out; omega, by go_num, HB6.out⟩
                    --H]
                  · --[I
                    have g0 : (ki == 0) = false := by simpa using k0
                    have g1 : (ki == 1) = false := by simpa using k1
                    have g6 : (ki == 6) = false := by simpa using k6
                    have g7 : (ki == 7) = false := by simpa using k7
                    clear k0 k1 k6 k7
                    go_wp2_with (fail)
                    go_roundg (m2 - 1)
                    case measure => have := HMZ.out; have := HLT.out; omega
                    case rel => exact ⟨i + 1, by have := HMZ.out; have := HLT.out; omega, by go_num, HB1z.out⟩
                    --I]
            --C]
          · have z1 : decide (i < ops2.length) = false := by simp; omega
            go_wp2_with (fail)
            refine wp_loop_ghost_k (fun (m3 : Nat) (ac : Act) (wv : World) => ∃ u0 u1 u2 u3 u4 u5 u6 u7 u8 u11 u12 u13 u14 u15 u16 u17 u18 u19 u20 u21 u22 u24 u25 u26 u27 u28 u29 u30 u31 u32 u33 u34 u35 u36 u37 u38 u39 u40 u41 u42 u43 u44 u45 u46 u47 u48 u49 u50 u51 u52 u53 u54 u55 u56 u57 u58 u59 u60 u61 u62 u63 u64 u65 u66 u67 u68 u69 u70 u71 u72 u73 u74 u75 u76 u77 u78 u79 u80 u81 u82 u83 u84 u85 u86 u87 u88 u89 u90 u91 u92 u93 u94 u95 u96 u97 u98 u99 u100 u101 u102 u103 u104 u105 u106 u107 u108 u109 u110 u111 u112 u113 u114 u115 u116 u117 u118 u119 u120 u121 u122 u123 u124 u125 u126 u127 u128 u129 u130 u131 u132 u133 u134 u135 u136 u137 u138 u139 u140 u141 u142 u143 u144 u145 u146 u147 u148 u149 u150 u151 u152 u153 u154 u155 u156 u157 u158 u159 u160 u161 u162 u163 u164 u165 u166 v23 : Value, (∃ (j : Nat), m3 + j = l.length ∧ v23 = .int .i64 j ∧ Below wz.heap.size wz wv) ∧ ac = ({ tmps := #[u0, u1, u2, u3, u4, u5, u6, u7, u8, .slice (some ⟨g, 0, none⟩) l.length c, .slice (some ⟨gw, 0, none⟩) l.length d, u11, u12, u13, u14, u15, u16, u17, u18, u19, u20, u21, u22, v23, u24, u25, u26, u27, u28, u29, u30, u31, u32, u33, u34, u35, u36, u37, u38, u39, u40, u41, u42, u43, u44, u45, u46, u47, u48, u49, u50, u51, u52, u53, u54, u55, u56, u57, u58, u59, u60, u61, u62, u63, u64, u65, u66, u67, u68, u69, u70, u71, u72, u73, u74, u75, u76, u77, u78, u79, u80, u81, u82, u83, u84, u85, u86, u87, u88, u89, u90, u91, u92, u93, u94, u95, u96, u97, u98, u99, u100, u101, u102, u103, u104, u105, u106, u107, u108, u109, u110, u111, u112, u113, u114, u115, u116, u117, u118, u119, u120, u121, u122, u123, u124, u125, u126, u127, u128, u129, u130, u131, u132, u133, u134, u135, u136, u137, u138, u139, u140, u141, u142, u143, u144, u145, u146, u147, u148, u149, u150, u151, u152, u153, u154, u155, u156, u157, u158, u159, u160, u161, u162, u163, u164, u165, u166], defers := [{ target := .collected E, args := #[] }] } : Act)) (l.length) ?atStart ?round
            case' atStart => ((repeat apply Exists.intro); refine ⟨?_, rfl⟩)
            case' round => (intro m3 ac wv hcut; obtain ⟨u0, hcut⟩ := hcut; obtain ⟨u1, hcut⟩ := hcut; obtain ⟨u2, hcut⟩ := hcut; obtain ⟨u3, hcut⟩ := hcut; obtain ⟨u4, hcut⟩ := hcut; obtain ⟨u5, hcut⟩ := hcut; obtain ⟨u6, hcut⟩ := hcut; obtain ⟨u7, hcut⟩ := hcut; obtain ⟨u8, hcut⟩ := hcut; obtain ⟨u11, hcut⟩ := hcut; obtain ⟨u12, hcut⟩ := hcut; obtain ⟨u13, hcut⟩ := hcut; obtain ⟨u14, hcut⟩ := hcut; obtain ⟨u15, hcut⟩ := hcut; obtain ⟨u16, hcut⟩ := hcut; obtain ⟨u17, hcut⟩ := hcut; obtain ⟨u18, hcut⟩ := hcut; obtain ⟨u19, hcut⟩ := hcut; obtain ⟨u20, hcut⟩ := hcut; obtain ⟨u21, hcut⟩ := hcut; obtain ⟨u22, hcut⟩ := hcut; obtain ⟨u24, hcut⟩ := hcut; obtain ⟨u25, hcut⟩ := hcut; obtain ⟨u26, hcut⟩ := hcut; obtain ⟨u27, hcut⟩ := hcut; obtain ⟨u28, hcut⟩ := hcut; obtain ⟨u29, hcut⟩ := hcut; obtain ⟨u30, hcut⟩ := hcut; obtain ⟨u31, hcut⟩ := hcut; obtain ⟨u32, hcut⟩ := hcut; obtain ⟨u33, hcut⟩ := hcut; obtain ⟨u34, hcut⟩ := hcut; obtain ⟨u35, hcut⟩ := hcut; obtain ⟨u36, hcut⟩ := hcut; obtain ⟨u37, hcut⟩ := hcut; obtain ⟨u38, hcut⟩ := hcut; obtain ⟨u39, hcut⟩ := hcut; obtain ⟨u40, hcut⟩ := hcut; obtain ⟨u41, hcut⟩ := hcut; obtain ⟨u42, hcut⟩ := hcut; obtain ⟨u43, hcut⟩ := hcut; obtain ⟨u44, hcut⟩ := hcut; obtain ⟨u45, hcut⟩ := hcut; obtain ⟨u46, hcut⟩ := hcut; obtain ⟨u47, hcut⟩ := hcut; obtain ⟨u48, hcut⟩ := hcut; obtain ⟨u49, hcut⟩ := hcut; obtain ⟨u50, hcut⟩ := hcut; obtain ⟨u51, hcut⟩ := hcut; obtain ⟨u52, hcut⟩ := hcut; obtain ⟨u53, hcut⟩ := hcut; obtain ⟨u54, hcut⟩ := hcut; obtain ⟨u55, hcut⟩ := hcut; obtain ⟨u56, hcut⟩ := hcut; obtain ⟨u57, hcut⟩ := hcut; obtain ⟨u58, hcut⟩ := hcut; obtain ⟨u59, hcut⟩ := hcut; obtain ⟨u60, hcut⟩ := hcut; obtain ⟨u61, hcut⟩ := hcut; obtain ⟨u62, hcut⟩ := hcut; obtain ⟨u63, hcut⟩ := hcut; obtain ⟨u64, hcut⟩ := hcut; obtain ⟨u65, hcut⟩ := hcut; obtain ⟨u66, hcut⟩ := hcut; obtain ⟨u67, hcut⟩ := hcut; obtain ⟨u68, hcut⟩ := hcut; obtain ⟨u69, hcut⟩ := hcut; obtain ⟨u70, hcut⟩ := hcut; obtain ⟨u71, hcut⟩ := hcut; obtain ⟨u72, hcut⟩ := hcut; obtain ⟨u73, hcut⟩ := hcut; obtain ⟨u74, hcut⟩ := hcut; obtain ⟨u75, hcut⟩ := hcut; obtain ⟨u76, hcut⟩ := hcut; obtain ⟨u77, hcut⟩ := hcut; obtain ⟨u78, hcut⟩ := hcut; obtain ⟨u79, hcut⟩ := hcut; obtain ⟨u80, hcut⟩ := hcut; obtain ⟨u81, hcut⟩ := hcut; obtain ⟨u82, hcut⟩ := hcut; obtain ⟨u83, hcut⟩ := hcut; obtain ⟨u84, hcut⟩ := hcut; obtain ⟨u85, hcut⟩ := hcut; obtain ⟨u86, hcut⟩ := hcut; obtain ⟨u87, hcut⟩ := hcut; obtain ⟨u88, hcut⟩ := hcut; obtain ⟨u89, hcut⟩ := hcut; obtain ⟨u90, hcut⟩ := hcut; obtain ⟨u91, hcut⟩ := hcut; obtain ⟨u92, hcut⟩ := hcut; obtain ⟨u93, hcut⟩ := hcut; obtain ⟨u94, hcut⟩ := hcut; obtain ⟨u95, hcut⟩ := hcut; obtain ⟨u96, hcut⟩ := hcut; obtain ⟨u97, hcut⟩ := hcut; obtain ⟨u98, hcut⟩ := hcut; obtain ⟨u99, hcut⟩ := hcut; obtain ⟨u100, hcut⟩ := hcut; obtain ⟨u101, hcut⟩ := hcut; obtain ⟨u102, hcut⟩ := hcut; obtain ⟨u103, hcut⟩ := hcut; obtain ⟨u104, hcut⟩ := hcut; obtain ⟨u105, hcut⟩ := hcut; obtain ⟨u106, hcut⟩ := hcut; obtain ⟨u107, hcut⟩ := hcut; obtain ⟨u108, hcut⟩ := hcut; obtain ⟨u109, hcut⟩ := hcut; obtain ⟨u110, hcut⟩ := hcut; obtain ⟨u111, hcut⟩ := hcut; obtain ⟨u112, hcut⟩ := hcut; obtain ⟨u113, hcut⟩ := hcut; obtain ⟨u114, hcut⟩ := hcut; obtain ⟨u115, hcut⟩ := hcut; obtain ⟨u116, hcut⟩ := hcut; obtain ⟨u117, hcut⟩ := hcut; obtain ⟨u118, hcut⟩ := hcut; obtain ⟨u119, hcut⟩ := hcut; obtain ⟨u120, hcut⟩ := hcut; obtain ⟨u121, hcut⟩ := hcut; obtain ⟨u122, hcut⟩ := hcut; obtain ⟨u123, hcut⟩ := hcut; obtain ⟨u124, hcut⟩ := hcut; obtain ⟨u125, hcut⟩ := hcut; obtain ⟨u126, hcut⟩ := hcut; obtain ⟨u127, hcut⟩ := hcut; obtain ⟨u128, hcut⟩ := hcut; obtain ⟨u129, hcut⟩ := hcut; obtain ⟨u130, hcut⟩ := hcut; obtain ⟨u131, hcut⟩ := hcut; obtain ⟨u132, hcut⟩ := hcut; obtain ⟨u133, hcut⟩ := hcut; obtain ⟨u134, hcut⟩ := hcut; obtain ⟨u135, hcut⟩ := hcut; obtain ⟨u136, hcut⟩ := hcut; obtain ⟨u137, hcut⟩ := hcut; obtain ⟨u138, hcut⟩ := hcut; obtain ⟨u139, hcut⟩ := hcut; obtain ⟨u140, hcut⟩ := hcut; obtain ⟨u141, hcut⟩ := hcut; obtain ⟨u142, hcut⟩ := hcut; obtain ⟨u143, hcut⟩ := hcut; obtain ⟨u144, hcut⟩ := hcut; obtain ⟨u145, hcut⟩ := hcut; obtain ⟨u146, hcut⟩ := hcut; obtain ⟨u147, hcut⟩ := hcut; obtain ⟨u148, hcut⟩ := hcut; obtain ⟨u149, hcut⟩ := hcut; obtain ⟨u150, hcut⟩ := hcut; obtain ⟨u151, hcut⟩ := hcut; obtain ⟨u152, hcut⟩ := hcut; obtain ⟨u153, hcut⟩ := hcut; obtain ⟨u154, hcut⟩ := hcut; obtain ⟨u155, hcut⟩ := hcut; obtain ⟨u156, hcut⟩ := hcut; obtain ⟨u157, hcut⟩ := hcut; obtain ⟨u158, hcut⟩ := hcut; obtain ⟨u159, hcut⟩ := hcut; obtain ⟨u160, hcut⟩ := hcut; obtain ⟨u161, hcut⟩ := hcut; obtain ⟨u162, hcut⟩ := hcut; obtain ⟨u163, hcut⟩ := hcut; obtain ⟨u164, hcut⟩ := hcut; obtain ⟨u165, hcut⟩ := hcut; obtain ⟨u166, hcut⟩ := hcut; obtain ⟨v23, hcut⟩ := hcut; obtain ⟨hcut, hac⟩ := hcut; subst hac; intro _ _ _ _)
            case atStart => exact ⟨0, rfl, rfl, Below.refl _ _⟩
            case round =>
              obtain ⟨j, hm, rfl, hBv⟩ := hcut
              have HMV := Lib.hid hm
              have HBV := Lib.hid hBv
              have hjle : j ≤ l.length := by omega
              clear hm hBv
              by_cases hjl : j < l.length
              · --[D
                obtain ⟨tj, htj⟩ : ∃ t, l[j]? = some t := ⟨_, List.getElem?_eq_getElem hjl⟩
                have hts := HSA.out tj (List.mem_of_getElem? htj)
                have hb5 := HBZ.out.trans (HBV.out.mono HBZ.out.size)
                obtain ⟨g', pj, hBe, dj, Tj⟩ := (HFY.out.below hb5).at_ htj
                injection hBe with hBe
                injection hBe with hBe
                subst hBe
                obtain ⟨gx, Bj, cj, hBe, ej, _, Nj, RJ⟩ := (HSY.out.below hb5).get hjl htj
                injection hBe with hBe
                injection hBe with hBe
                subst hBe
                have hfj := flatI_len tj.toList
                have htl := T.length_toList tj
                have HRU := Lib.hid (row_any Tj.drew (by omega))
                have HRJ := Lib.hid (RJ.keeps (KeepT.drew _ _))
                have HLJ := Lib.hid (show (flatI tj.toList).length ≤ 100000000000000 by omega)
                have z2 : decide (j < l.length) = true := by simp; omega
                clear Tj RJ hfj htl hb5 htj hts z1 hlt
                go_wp2_with (fail)
                have j1 : (j : Int) < (l.length : Int) := by omega
                clear hjl z2
                refine wp_region_noPanic ?_
                refine start_ (n := 11) (S := fun w' => w'.cell? ⟨g, j, none⟩ = some (.pointer pj) ∧ w'.cell? ⟨gw, j, none⟩ = some (.slice Bj (flatI tj.toList).length cj)) (ds := []) #[false, false, false, false, false, false, false, false, false, false, false] (by kernel_rfl) rfl rfl ⟨dj, ej⟩ (fun hHeld => ?_)
                (refine take_ (i := 0) (N := some 156) (v := ?v_17) (a' := ?a_17) #[true, false, false, false, false, false, false, false, false, false, false] rfl rfl (by kernel_rfl) (fun _ _ _ h => h) (Or.inl ⟨by rfl, ?hy_17⟩) hHeld ?ha_17 ?hh_17; (case hy_17 => (rintro w' ⟨s0_, s1_⟩; go_simp; with_reducible rfl)); (case ha_17 => (simp (disch := omega) only [Act.put, List.setIfInBounds_toArray, List.set_cons_zero, List.set_cons_succ, wrap_in]; rfl)))
                (refine take_ (i := 1) (N := some 157) (v := ?v_18) (a' := ?a_18) #[true, true, false, false, false, false, false, false, false, false, false] rfl rfl (by kernel_rfl) (fun _ _ _ h => h) (Or.inl ⟨by rfl, ?hy_18⟩) hHeld ?ha_18 ?hh_18; (case hy_18 => (rintro w' ⟨s0_, s1_⟩; go_simp; with_reducible rfl)); (case ha_18 => (simp (disch := omega) only [Act.put, List.setIfInBounds_toArray, List.set_cons_zero, List.set_cons_succ, wrap_in]; rfl)))
                (refine take_ (i := 2) (N := some 158) (v := ?v_19) (a' := ?a_19) #[true, true, true, false, false, false, false, false, false, false, false] rfl rfl (by kernel_rfl) (fun _ _ _ h => h) (Or.inl ⟨by rfl, ?hy_19⟩) hHeld ?ha_19 ?hh_19; (case hy_19 => (rintro w' ⟨s0_, s1_⟩; go_simp; with_reducible rfl)); (case ha_19 => (simp (disch := omega) only [Act.put, List.setIfInBounds_toArray, List.set_cons_zero, List.set_cons_succ, wrap_in]; rfl)))
                (refine take_ (i := 3) (N := some 159) (v := ?v_20) (a' := ?a_20) #[true, true, true, true, false, false, false, false, false, false, false] rfl rfl (by kernel_rfl) (fun _ _ _ h => h) (Or.inl ⟨by rfl, ?hy_20⟩) hHeld ?ha_20 ?hh_20; (case hy_20 => (rintro w' ⟨s0_, s1_⟩; go_simp; with_reducible rfl)); (case ha_20 => (simp (disch := omega) only [Act.put, List.setIfInBounds_toArray, List.set_cons_zero, List.set_cons_succ, wrap_in]; rfl)))
                (refine take_ (i := 5) (N := some 161) (v := ?v_21) (a' := ?a_21) #[true, true, true, true, false, true, false, false, false, false, false] rfl rfl (by kernel_rfl) (fun _ _ _ h => h) (Or.inl ⟨by rfl, ?hy_21⟩) hHeld ?ha_21 ?hh_21; (case hy_21 => (rintro w' ⟨s0_, s1_⟩; go_simp; with_reducible rfl)); (case ha_21 => (simp (disch := omega) only [Act.put, List.setIfInBounds_toArray, List.set_cons_zero, List.set_cons_succ, wrap_in]; rfl)))
                (refine take_ (i := 6) (N := some 162) (v := ?v_22) (a' := ?a_22) #[true, true, true, true, false, true, true, false, false, false, false] rfl rfl (by kernel_rfl) (fun _ _ _ h => h) (Or.inl ⟨by rfl, ?hy_22⟩) hHeld ?ha_22 ?hh_22; (case hy_22 => (rintro w' ⟨s0_, s1_⟩; go_simp; with_reducible rfl)); (case ha_22 => (simp (disch := omega) only [Act.put, List.setIfInBounds_toArray, List.set_cons_zero, List.set_cons_succ, wrap_in]; rfl)))
                (refine take_ (i := 7) (N := some 163) (v := ?v_23) (a' := ?a_23) #[true, true, true, true, false, true, true, true, false, false, false] rfl rfl (by kernel_rfl) (fun _ _ _ h => h) (Or.inl ⟨by rfl, ?hy_23⟩) hHeld ?ha_23 ?hh_23; (case hy_23 => (rintro w' ⟨s0_, s1_⟩; go_simp; with_reducible rfl)); (case ha_23 => (simp (disch := omega) only [Act.put, List.setIfInBounds_toArray, List.set_cons_zero, List.set_cons_succ, wrap_in]; rfl)))
                (refine take_ (i := 8) (N := some 164) (v := ?v_24) (a' := ?a_24) #[true, true, true, true, false, true, true, true, true, false, false] rfl rfl (by kernel_rfl) (fun _ _ _ h => h) (Or.inl ⟨by rfl, ?hy_24⟩) hHeld ?ha_24 ?hh_24; (case hy_24 => (rintro w' ⟨s0_, s1_⟩; go_simp; with_reducible rfl)); (case ha_24 => (simp (disch := omega) only [Act.put, List.setIfInBounds_toArray, List.set_cons_zero, List.set_cons_succ, wrap_in]; rfl)))
                refine one_ (i := 4) (N := some 160) #[true, true, true, true, true, true, true, true, true, false, false] rfl rfl (by kernel_rfl) (by decide) (fun K hK => ?_)
                (refine goes_ Try.func30 (by kernel_rfl) rfl ?args_26 (by rfl) rfl rfl ?hargs_26 ?hc_26; (case hargs_26 => (go_simp; with_reducible rfl)))
                (refine HRU.out.mono ?_; rintro e w8 ⟨Au, cu, rfl, RU, B9⟩; refine ⟨_, rfl, ?_⟩)
                (refine hK.out _ _ ?hs_28 ?hn_28; (case hs_28 => (obtain ⟨s0_, s1_⟩ := hHeld; exact ⟨cell_below B9 s0_, cell_below B9 s1_⟩)); intro hHeld; clear hK K)
                (refine norm_ (a' := ?a_29) ?ha_29 ?hh_29; (case ha_29 => (simp (disch := omega) only [Act.put, List.setIfInBounds_toArray, List.set_cons_zero, List.set_cons_succ, wrap_in]; rfl)))
                refine one_ (i := 9) (N := some 165) #[true, true, true, true, true, true, true, true, true, true, false] rfl rfl (by kernel_rfl) (by decide) (fun K hK => ?_)
                (refine goes_ Try.func32 (by kernel_rfl) rfl ?args_31 (by rfl) rfl rfl ?hargs_31 ?hc_31; (case hargs_31 => (go_simp; with_reducible rfl)))
                (refine (alike_any RU (HRJ.out.keeps (KeepT.below B9)) HLJ.out).mono ?_; rintro e w9 ⟨rfl, B10⟩; have B11 := Lib.hid (B9.trans (B10.mono B9.size)); refine ⟨_, rfl, ?_⟩)
                (refine hK.out _ _ ?hs_33 ?hn_33; (case hs_33 => (obtain ⟨s0_, s1_⟩ := hHeld; exact ⟨cell_below B10 s0_, cell_below B10 s1_⟩)); intro hHeld; clear hK K)
                (refine norm_ (a' := ?a_34) ?ha_34 ?hh_34; (case ha_34 => (simp (disch := omega) only [Act.put, List.setIfInBounds_toArray, List.set_cons_zero, List.set_cons_succ, wrap_in]; rfl)))
                (refine take_ (i := 10) (N := some 166) (v := ?v_35) (a' := ?a_35) #[true, true, true, true, true, true, true, true, true, true, true] rfl rfl (by kernel_rfl) (fun _ _ _ h => h) (Or.inl ⟨by rfl, ?hy_35⟩) hHeld ?ha_35 ?hh_35; (case hy_35 => (rintro w' ⟨s0_, s1_⟩; go_simp; with_reducible rfl)); (case ha_35 => (simp (disch := omega) only [Act.put, List.setIfInBounds_toArray, List.set_cons_zero, List.set_cons_succ, wrap_in]; rfl)))
                refine done_ (by kernel_rfl) ?_
                refine NoPanic.normal ?_
                go_wp2_with (fail)
                go_roundg (m3 - 1)
                case measure => have := HMV.out; omega
                case rel => exact ⟨j + 1, by have := HMV.out; omega, by go_num, HBV.out.drew.trans (B11.out.mono HBV.out.size)⟩
                --D]
              · have z2 : decide (j < l.length) = false := by simp; omega
                go_wp2_with (fail)
                have kE := blk_below (blk_below HKY.out HBZ.out) HBV.out
                have BALL := KB0.out.trans ((HBX0.out.trans ((HBY.out.trans ((HBZ.out.trans (HBV.out.mono HBZ.out.size)).mono HBY.out.size)).mono HBX0.out.size)).mono KB0.out.size)
                refine ⟨by simp, .inl ⟨_, _, rfl, run_takeDeferred kE, ?_⟩⟩
                refine ⟨.bool true, ?_, rfl, ?_⟩
                · simp [results, Try.f6, go_sem]
                · exact BALL.trans (belowK_b (w := w) (Nat.le_refl _) _ E _ _ (by omega) kE rfl rfl)
namespace treeStays
open Go.ChangeShapes Go.WideShapes Go.ChangeAt Go.RowKit
open Go.ChangeMaps (open_string shut_string)
theorem own : ownKnob Try.prog.godebug = none := by kernel_rfl
theorem laidOut : laidOutB Try.prog = true := by kernel_rfl
set_option maxRecDepth 100000 in
theorem lifted (os : Os) (started : os.Started) (H : Type) (enc : TypeId × Value → H) :
    ReturnsInHanded {} Try.checked os 6 .any (Rows.treeStaysSpec.pre6 enc Try.prog Try.f6 Rows.treeStaysRow.domain false) (Rows.treeStaysSpec.post enc Try.prog Try.f6 false true false false) := by
  refine returnsInHanded_of_change_sized (C := Try.checked) own started (by kernel_rfl) Try.func6
    (ChangeSpec.witness6 (enc := enc) (C := Try.checked) false ⟨#[], #[.slice none 0 0, .slice none 0 0, .int .i64 0, .int .i64 0], []⟩ 8 (by kernel_rfl) (by kernel_rfl) (by kernel_rfl) (by kernel_rfl)) ?_
  intro W base args ds gs before hval0 hW hcnd hsz0 _
  have hsz : (DataW.weightsEach Try.prog (Try.f6.params.toList ++ Rows.treeStaysSpec.plain.varTypes Try.prog) (ds ++ gs)).all (· ≤ reachBytes) = true := hsz0
  have hval : ∀ (j : Nat) t v, Try.f6.params[j]? = some t → args[j]? = some v → Value.okWide Try.prog W .any base t v := hval0
  have hW' := hW
  obtain ⟨p, q, hA0, hV, rfl, hfz, hnd⟩ := hW
  have hA : DataW.TrodAll enc Try.prog W 0 (fun _ => true) true Try.f6.params.toList args.toList ds p := hA0
  rw [Try.params6] at hA hval hsz
  obtain ⟨v0, vs0, d0, ds0, p0, q0, hargs, rfl, rfl, h0, r0⟩ := trodAll_cons hA
  obtain ⟨v1, vs1, d1, ds1, p1, q1, rfl, rfl, rfl, h1, r1⟩ := trodAll_cons r0
  obtain ⟨v2, vs2, d2, ds2, p2, q2, rfl, rfl, rfl, h2, r2⟩ := trodAll_cons r1
  obtain ⟨v3, vs3, d3, ds3, p3, q3, rfl, rfl, rfl, h3, r3⟩ := trodAll_cons r2
  obtain ⟨rfl, rfl, rfl⟩ := trodAll_nil r3
  obtain rfl : args = #[v0, v1, v2, v3] := by cases args; simp_all
  obtain ⟨rfl, rfl⟩ := trodVars_none hV
  obtain ⟨a0, len0, cap0, rfl⟩ := okWide_slice Try.underlying31 (hval 0 31 v0 rfl rfl)
  have k0 := h0
  have lt0 : ∀ x ∈ p0, x.block < W.heap.size := by obtain ⟨m, hm⟩ := k0; exact DataW.trod_lt m _ _ _ hm
  obtain ⟨xs0, rfl, hc0, hm0, hb0, hn0, he0⟩ := opened_slice (opens_Ops W) h0 (weights_at hsz (j := 0) (t := 31) rfl rfl)
  obtain ⟨a1, len1, cap1, rfl⟩ := okWide_slice Try.underlying31 (hval 1 31 v1 rfl rfl)
  have k1 := h1
  have lt1 : ∀ x ∈ p1, x.block < W.heap.size := by obtain ⟨m, hm⟩ := k1; exact DataW.trod_lt m _ _ _ hm
  obtain ⟨xs1, rfl, hc1, hm1, hb1, hn1, he1⟩ := opened_slice (opens_Ops W) h1 (weights_at hsz (j := 1) (t := 31) rfl rfl)
  obtain ⟨a2, rfl, rfl, rfl, w2⟩ := open_int Try.underlying3 (hval 2 3 v2 rfl rfl) h2
  obtain ⟨a3, rfl, rfl, rfl, w3⟩ := open_int Try.underlying3 (hval 3 3 v3 rfl rfl) h3
  clear hA0 hval0 hsz0 hsz
  refine (stays_1 W a0 cap0 xs0 hc0 hm0 hb0 hn0 he0 a1 cap1 xs1 hc1 hm1 hb1 hn1 he1 a2 w2 a3 w3).mono fun e W' ⟨he, bel⟩ => ?_
  subst he
  exact ⟨_, rfl, _, _, _, [], _, [], hW', trodAll_mk1 (shut_bool Try.underlying4 _), (trodAll_cons_mk (Below.trod laidOut (by kernel_rfl) (of_decide_eq_true (by kernel_rfl)) k0 bel lt0) (trodAll_cons_mk (Below.trod laidOut (by kernel_rfl) (of_decide_eq_true (by kernel_rfl)) k1 bel lt1) (trodAll_cons_mk (shut_int Try.underlying3 w2) (trodAll_cons_mk (shut_int Try.underlying3 w3) trodAll_mk0)))), rfl, bel.frame _, fun h => by cases h⟩
theorem over : Rows.treeStaysRow.holds Try.pinned (OpenSpec.ofChange Rows.treeStaysSpec) :=
  OpenClaim.holds_of_wide 6 Try.f6 rfl rfl rfl rfl rfl rfl rfl ⟨rfl, rfl, rfl, rfl, rfl⟩ rfl rfl rfl rfl rfl (by kernel_rfl) Try.func6 (by kernel_rfl)
    (of_decide_eq_true (by kernel_rfl)) (by unfold Func.isWrapper; first | (rw [if_pos (by decide +kernel)]; kernel_rfl) | (rw [if_neg (by decide +kernel)]; exact ⟨rfl, rfl⟩))
    (fun os started H enc _ => lifted os started H enc)
theorem proved : Rows.TreeStaysSaid := over
end treeStays
theorem treeStays_holds : Rows.TreeStaysSaid := treeStays.proved
#print axioms treeStays_holds
end Go.Proofs.Ytmichnnkkpgpmaa
