/- TreeLists: what a value points to is handed on: the loop that puts. -/
import Derived.Test.YtmichnnkkpgpmaaW5b
import Derived.Test.YtmichnnkkpgpmaaM2
import Derived.Test.YtmichnnkkpgpmaaE
namespace Go.Proofs.Ytmichnnkkpgpmaa
set_option linter.unusedVariables false
set_option linter.unusedSimpArgs false
open Go.RowKit Go.Deep Go.Proofs.YtmichnnkkpgpmaaW.PrintLast

theorem swoZ : Swo ltZ := ⟨fun a => by simp [ltZ], fun h h' => by simp [ltZ] at *; omega, fun h h' => by simp [ltZ] at *; omega⟩
theorem eqvZ (a b : Int) : T.eqv ltZ a b = (a == b) := by
  unfold T.eqv ltZ
  by_cases h : a = b
  · subst h; simp
  · have : (a == b) = false := by simpa using h
    rw [this]
    simp only [Bool.and_eq_false_iff, Bool.not_eq_false', decide_eq_true_eq]; omega
/-- The last one of a key. -/
def lastOf (k : Int) (es : List (Int × Sl)) : Option Sl := (es.reverse.find? fun e => e.1 == k).map (·.2)
theorem lastOf_snoc (k k' : Int) (v : Sl) (es : List (Int × Sl)) : lastOf k' (es ++ [(k, v)]) = if k == k' then some v else lastOf k' es := by
  unfold lastOf
  rw [List.reverse_append]
  simp only [List.reverse_cons, List.reverse_nil, List.nil_append, List.singleton_append, List.find?_cons]
  cases h : k == k' <;> simp
/-- A list that was put: it has a first byte, in memory since N. -/
def VB (w : World) (N : Nat) (v : Sl) : Prop := ∃ g n c cur x, v = (some ⟨g, 0, none⟩, n, c) ∧ 1 ≤ n ∧ N ≤ g ∧ w.heap[g]? = some (.cells cur 5 (0, 0)) ∧ cur[0]? = some (.int .u8 x)
theorem VB.keeps {w w' : World} {N : Nat} {v : Sl} (h : VB w N v) (hk : KeepT 5 w w') : VB w' N v := by
  obtain ⟨g, n, c, cur, x, h1, h2, h3, h4, h5⟩ := h
  exact ⟨g, n, c, cur, x, h1, h2, h3, hk _ _ h4, h5⟩
/-- What the first loop keeps. -/
structure Putting (w0 w : World) (ks : List Int) (i : Nat) (t : Tb.Tr) (p : Option Addr) (Ao : Option Addr) (co : Nat) (Af : Option Addr) (cf : Nat) (vs : List Sl) : Prop where
  len : vs.length = i
  tree : Tb.TreeAt w p t
  own : GRow encSl 25 1 w w0.heap.size Ao co vs
  of_ : GRow encI 3 1 w w0.heap.size Af cf (ks.take i)
  vb : ∀ v ∈ vs, VB w w0.heap.size v
  rises : T.Rises ltZ t.toList
  size : t.size ≤ i
  last : ∀ k, T.look ltZ k t.toList = lastOf k ((ks.take i).zip vs)
  below : Below w0.heap.size w0 w
theorem Putting.step_law {w0 w : World} {ks : List Int} {i : Nat} {t : Tb.Tr} {p Ao : Option Addr} {co : Nat} {Af : Option Addr} {cf : Nat} {vs : List Sl} (h : Putting w0 w ks i t p Ao co Af cf vs) {k : Int} (hk : ks[i]? = some k) (v : Sl) :
    T.Rises ltZ (T.put ltZ k v t).toList ∧ (T.put ltZ k v t).size ≤ i + 1 ∧ ∀ k', T.look ltZ k' (T.put ltZ k v t).toList = lastOf k' ((ks.take (i + 1)).zip (vs ++ [v])) := by
  refine ⟨T.rises_put swoZ h.rises, by have := T.size_put ltZ k v t; have := h.size; omega, fun k' => ?_⟩
  rw [T.toList_put swoZ k v t h.rises, T.look_put swoZ]
  have hlt : i < ks.length := (List.getElem?_eq_some_iff.1 hk).1
  rw [List.take_add_one, hk, Option.toList_some, List.zip_append (by rw [List.length_take, h.len]; omega)]
  simp only [List.zip_cons_cons, List.zip_nil_left]
  rw [lastOf_snoc, eqvZ, h.last]
theorem VB.store {w : World} {N : Nat} {v : Sl} (h : VB w N v) (g : Nat) (x : Int) : VB (w.setCell ⟨g, 0, none⟩ (.int .u8 x)) N v := by
  obtain ⟨g', n, c, cur, y, h1, h2, h3, h4, h5⟩ := h
  by_cases hg : g' = g
  · subst hg
    refine ⟨g', n, c, _, x, h1, h2, h3, setCell_heap w g' 0 _ _ _ _ h4, ?_⟩
    have := (Array.getElem?_eq_some_iff.1 h5).1
    simp [this]
  · refine ⟨g', n, c, cur, y, h1, h2, h3, ?_, h5⟩
    rw [Below.heap_setCell _ _ _ _ (by simpa using hg)]; exact h4
theorem Putting.store {w0 w : World} {ks : List Int} {i : Nat} {t : Tb.Tr} {p Ao : Option Addr} {co : Nat} {Af : Option Addr} {cf : Nat} {vs : List Sl} (h : Putting w0 w ks i t p Ao co Af cf vs) {g n c : Nat} (hv : (some ⟨g, 0, none⟩, n, c) ∈ vs) (x : Int) :
    Putting w0 (w.setCell ⟨g, 0, none⟩ (.int .u8 x)) ks i t p Ao co Af cf vs := by
  obtain ⟨g', n', c', cur, y, h1, h2, h3, h4, h5⟩ := h.vb _ hv
  injection h1 with h1 _; injection h1 with h1; injection h1 with h1
  subst h1
  exact ⟨h.len, h.tree.keeps (KeepT.setCell h4 (by decide) _ _), h.own.keeps (KeepT.setCell h4 (by decide) _ _), h.of_.keeps (KeepT.setCell h4 (by decide) _ _), fun v hv => (h.vb v hv).store _ _, h.rises, h.size, h.last, h.below.setCell (by simpa using h3) _⟩
theorem Putting.moved {w0 w w' : World} {ks : List Int} {i : Nat} {t : Tb.Tr} {p Ao : Option Addr} {co : Nat} {Af : Option Addr} {cf : Nat} {vs : List Sl} (h : Putting w0 w ks i t p Ao co Af cf vs) (hh : w'.heap = w.heap) (hb : Below w0.heap.size w0 w') : Putting w0 w' ks i t p Ao co Af cf vs := by
  have hk : ∀ T, KeepT T w w' := fun T b cs hc => by rw [hh]; exact hc
  exact ⟨h.len, h.tree.keeps (hk _), h.own.keeps (hk _), h.of_.keeps (hk _), fun v hv => (h.vb v hv).keeps (hk _), h.rises, h.size, h.last, hb⟩
theorem lastOf_at (ks : List Int) (vs : List Sl) (hl : vs.length = ks.length) (k : Int) (j : Nat) (v : Sl) (hk : ks[j]? = some k) (hv : vs[j]? = some v) (hno : ∀ x, j < x → x < ks.length → ks[x]? ≠ some k) : lastOf k (ks.zip vs) = some v := by
  unfold lastOf
  have hz : (ks.zip vs)[j]? = some (k, v) := by rw [List.getElem?_zip_eq_some]; exact ⟨hk, hv⟩
  have hlt := (List.getElem?_eq_some_iff.1 hz).1
  have hsplit : ks.zip vs = (ks.zip vs).take j ++ (k, v) :: (ks.zip vs).drop (j + 1) := by
    rw [← (List.getElem?_eq_some_iff.1 hz).2, ← List.drop_eq_getElem_cons hlt, List.take_append_drop]
  rw [hsplit, List.reverse_append, List.reverse_cons, List.append_assoc, List.find?_append]
  rw [List.find?_eq_none.2 (fun e he => by
    rw [List.mem_reverse] at he
    obtain ⟨x, hx⟩ := List.mem_iff_getElem?.1 he
    rw [List.getElem?_drop] at hx
    obtain ⟨h1, h2⟩ := List.getElem?_zip_eq_some.1 hx
    have hlt2 := (List.getElem?_eq_some_iff.1 h1).1
    have := hno (j + 1 + x) (by omega) hlt2
    intro hc
    have hc : e.1 = k := by simpa using hc
    rw [hc] at h1
    exact this h1)]
  simp
def RoundP (n : Nat) (e : Ending) : Prop := ∃ k : Nat, k < n ∧ e = .returned (.int .i64 k)
set_option maxHeartbeats 1000000 in
theorem round_any (x : Int) (n : Nat) (hx : (Lit.int .i64 x).wf = true) (hn : 1 ≤ n) (hn' : n ≤ 1000000000000000) (w : World) : Calls Try.prog 13 #[.int .i64 x, .int .i64 n] w fun e w' => RoundP n e ∧ w = w' := by
  simp only [Lit.wf, Bool.and_eq_true, decide_eq_true_eq] at hx
  have h1 : IntKind.i64.min = -9223372036854775808 := by decide
  have h2 : IntKind.i64.max = 9223372036854775807 := by decide
  rw [h1, h2] at hx
  obtain ⟨x0, x1⟩ := hx
  clear h1 h2
  have q0 : (1 : Int) ≤ (n : Int) := by omega
  have q1 : (n : Int) ≤ 1000000000000000 := by omega
  have m0 := Int.tmod_lt_of_pos x (show (0 : Int) < n by omega)
  have m1 : -(n : Int) < x.tmod n := by
    have := Int.lt_tmod_of_pos x (show (0 : Int) < n by omega)
    omega
  by_cases hneg : x.tmod n < 0
  · have t1 : decide (x.tmod n < 0) = true := by simpa using hneg
    go_enter Try.func13, Try.ntmps13
    go_wp2_with (fail)
    go_ret
    exact ⟨⟨(x.tmod n + n).toNat, by omega, ret_i (by omega)⟩, rfl⟩
  · have t1 : decide (x.tmod n < 0) = false := by simpa using hneg
    go_enter Try.func13, Try.ntmps13
    go_wp2_with (fail)
    go_ret
    exact ⟨⟨(x.tmod n).toNat, by omega, ret_i (by omega)⟩, rfl⟩
set_option maxRecDepth 100000 in
set_option maxHeartbeats 8000000 in
theorem lists_1 (w : World) (A : Option Addr) (cap : Nat) (ks : List Int) (hk : ks.length ≤ cap) (hcap : cap ≤ maxLen) (hks : ks.length * 8 ≤ reach) (hA : A = none → cap = 0) (hke : i64R.elems w A ks)
    (A' : Option Addr) (cap' : Nat) (ls : List (List Int)) (hl : ls.length ≤ cap') (hcap' : cap' ≤ maxLen) (hls : ls.length * 24 ≤ reach) (hA' : A' = none → cap' = 0) (hle : (Rd.slice u8R 1).elems w A' ls)
    (at_ : Int) (hat : (Lit.int .i64 at_).wf = true) (mark : Int) (hmark : (Lit.int .u8 mark).wf = true) :
    Calls Try.prog 3 #[.slice A ks.length cap, .slice A' ls.length cap', .int .i64 at_, .int .u8 mark] w fun e w' => e = .returned (.bool true) ∧ Below w.heap.size w w' := by
  unfold maxLen at hcap hcap'
  unfold reach at hks hls
  obtain ⟨L, hL⟩ : ∃ L, L = min ks.length ls.length := ⟨_, rfl⟩
  have HKE := Lib.hid hke
  have HLE := Lib.hid hle
  have HL := Lib.hid hL
  have HAT := Lib.hid hat
  have HMK := Lib.hid hmark
  have l1 : L ≤ ks.length := by omega
  have l2 : L ≤ ls.length := by omega
  have l3 : L ≤ 5864062014805 := by omega
  clear hke hle hL hat hmark hA hA'
  go_enter Try.func3, Try.ntmps3
  go_wp2_with (fail)
  refine wp_loop_ghost_k (fun (m : Nat) (ac : Act) (wr : World) => ∃ u4 u5 u6 u7 u8 u13 u14 u15 u16 u17 u18 u19 u20 u21 u22 u23 u24 u25 u26 u27 u28 u29 u30 u31 u32 u33 u34 u35 u36 u37 u38 u39 u40 u41 u42 u43 u44 u45 u46 u47 u48 u49 u50 u51 u52 u53 u54 u55 u56 u57 u58 u59 u60 u61 u62 u63 u64 u65 u66 u67 u68 u69 u70 u71 u72 u73 u74 u75 u76 u77 u78 u79 u80 u81 u82 u83 u84 u85 u86 u87 u88 u89 u90 u91 u92 u93 u94 u95 u96 u97 u98 u99 u100 u101 u102 u103 u104 u105 u106 u107 u108 u109 u110 u111 u112 u113 u114 u115 u116 u117 u118 u119 u120 u121 u122 u123 u124 u125 u126 u127 u128 u129 u130 u131 u132 u133 u134 u135 u136 u137 u138 u139 u140 u141 u142 u143 u144 u145 u146 u147 u148 u149 u150 u151 u152 v9 v10 v11 v12 : Value, (∃ (i : Nat) (t : Tb.Tr) (p Ao : Option Addr) (co : Nat) (Af : Option Addr) (cf : Nat) (vs : List Sl), m + i = L ∧ v9 = .pointer p ∧ v10 = .slice Ao i co ∧ v11 = .slice Af i cf ∧ v12 = .int .i64 i ∧ Putting w wr ks i t p Ao co Af cf vs) ∧ ac = ({ tmps := #[.slice A ks.length cap, .slice A' ls.length cap', .int .i64 at_, .int .u8 mark, u4, u5, u6, u7, u8, v9, v10, v11, v12, u13, u14, u15, u16, u17, u18, u19, u20, u21, u22, u23, u24, u25, u26, u27, u28, u29, u30, u31, u32, u33, u34, u35, u36, u37, u38, u39, u40, u41, u42, u43, u44, u45, u46, u47, u48, u49, u50, u51, u52, u53, u54, u55, u56, u57, u58, u59, u60, u61, u62, u63, u64, u65, u66, u67, u68, u69, u70, u71, u72, u73, u74, u75, u76, u77, u78, u79, u80, u81, u82, u83, u84, u85, u86, u87, u88, u89, u90, u91, u92, u93, u94, u95, u96, u97, u98, u99, u100, u101, u102, u103, u104, u105, u106, u107, u108, u109, u110, u111, u112, u113, u114, u115, u116, u117, u118, u119, u120, u121, u122, u123, u124, u125, u126, u127, u128, u129, u130, u131, u132, u133, u134, u135, u136, u137, u138, u139, u140, u141, u142, u143, u144, u145, u146, u147, u148, u149, u150, u151, u152], defers := [] } : Act)) (L) ?atStart ?round
  case' atStart => ((repeat apply Exists.intro); refine ⟨?_, rfl⟩)
  case' round => (intro m ac wr hcut; obtain ⟨u4, hcut⟩ := hcut; obtain ⟨u5, hcut⟩ := hcut; obtain ⟨u6, hcut⟩ := hcut; obtain ⟨u7, hcut⟩ := hcut; obtain ⟨u8, hcut⟩ := hcut; obtain ⟨u13, hcut⟩ := hcut; obtain ⟨u14, hcut⟩ := hcut; obtain ⟨u15, hcut⟩ := hcut; obtain ⟨u16, hcut⟩ := hcut; obtain ⟨u17, hcut⟩ := hcut; obtain ⟨u18, hcut⟩ := hcut; obtain ⟨u19, hcut⟩ := hcut; obtain ⟨u20, hcut⟩ := hcut; obtain ⟨u21, hcut⟩ := hcut; obtain ⟨u22, hcut⟩ := hcut; obtain ⟨u23, hcut⟩ := hcut; obtain ⟨u24, hcut⟩ := hcut; obtain ⟨u25, hcut⟩ := hcut; obtain ⟨u26, hcut⟩ := hcut; obtain ⟨u27, hcut⟩ := hcut; obtain ⟨u28, hcut⟩ := hcut; obtain ⟨u29, hcut⟩ := hcut; obtain ⟨u30, hcut⟩ := hcut; obtain ⟨u31, hcut⟩ := hcut; obtain ⟨u32, hcut⟩ := hcut; obtain ⟨u33, hcut⟩ := hcut; obtain ⟨u34, hcut⟩ := hcut; obtain ⟨u35, hcut⟩ := hcut; obtain ⟨u36, hcut⟩ := hcut; obtain ⟨u37, hcut⟩ := hcut; obtain ⟨u38, hcut⟩ := hcut; obtain ⟨u39, hcut⟩ := hcut; obtain ⟨u40, hcut⟩ := hcut; obtain ⟨u41, hcut⟩ := hcut; obtain ⟨u42, hcut⟩ := hcut; obtain ⟨u43, hcut⟩ := hcut; obtain ⟨u44, hcut⟩ := hcut; obtain ⟨u45, hcut⟩ := hcut; obtain ⟨u46, hcut⟩ := hcut; obtain ⟨u47, hcut⟩ := hcut; obtain ⟨u48, hcut⟩ := hcut; obtain ⟨u49, hcut⟩ := hcut; obtain ⟨u50, hcut⟩ := hcut; obtain ⟨u51, hcut⟩ := hcut; obtain ⟨u52, hcut⟩ := hcut; obtain ⟨u53, hcut⟩ := hcut; obtain ⟨u54, hcut⟩ := hcut; obtain ⟨u55, hcut⟩ := hcut; obtain ⟨u56, hcut⟩ := hcut; obtain ⟨u57, hcut⟩ := hcut; obtain ⟨u58, hcut⟩ := hcut; obtain ⟨u59, hcut⟩ := hcut; obtain ⟨u60, hcut⟩ := hcut; obtain ⟨u61, hcut⟩ := hcut; obtain ⟨u62, hcut⟩ := hcut; obtain ⟨u63, hcut⟩ := hcut; obtain ⟨u64, hcut⟩ := hcut; obtain ⟨u65, hcut⟩ := hcut; obtain ⟨u66, hcut⟩ := hcut; obtain ⟨u67, hcut⟩ := hcut; obtain ⟨u68, hcut⟩ := hcut; obtain ⟨u69, hcut⟩ := hcut; obtain ⟨u70, hcut⟩ := hcut; obtain ⟨u71, hcut⟩ := hcut; obtain ⟨u72, hcut⟩ := hcut; obtain ⟨u73, hcut⟩ := hcut; obtain ⟨u74, hcut⟩ := hcut; obtain ⟨u75, hcut⟩ := hcut; obtain ⟨u76, hcut⟩ := hcut; obtain ⟨u77, hcut⟩ := hcut; obtain ⟨u78, hcut⟩ := hcut; obtain ⟨u79, hcut⟩ := hcut; obtain ⟨u80, hcut⟩ := hcut; obtain ⟨u81, hcut⟩ := hcut; obtain ⟨u82, hcut⟩ := hcut; obtain ⟨u83, hcut⟩ := hcut; obtain ⟨u84, hcut⟩ := hcut; obtain ⟨u85, hcut⟩ := hcut; obtain ⟨u86, hcut⟩ := hcut; obtain ⟨u87, hcut⟩ := hcut; obtain ⟨u88, hcut⟩ := hcut; obtain ⟨u89, hcut⟩ := hcut; obtain ⟨u90, hcut⟩ := hcut; obtain ⟨u91, hcut⟩ := hcut; obtain ⟨u92, hcut⟩ := hcut; obtain ⟨u93, hcut⟩ := hcut; obtain ⟨u94, hcut⟩ := hcut; obtain ⟨u95, hcut⟩ := hcut; obtain ⟨u96, hcut⟩ := hcut; obtain ⟨u97, hcut⟩ := hcut; obtain ⟨u98, hcut⟩ := hcut; obtain ⟨u99, hcut⟩ := hcut; obtain ⟨u100, hcut⟩ := hcut; obtain ⟨u101, hcut⟩ := hcut; obtain ⟨u102, hcut⟩ := hcut; obtain ⟨u103, hcut⟩ := hcut; obtain ⟨u104, hcut⟩ := hcut; obtain ⟨u105, hcut⟩ := hcut; obtain ⟨u106, hcut⟩ := hcut; obtain ⟨u107, hcut⟩ := hcut; obtain ⟨u108, hcut⟩ := hcut; obtain ⟨u109, hcut⟩ := hcut; obtain ⟨u110, hcut⟩ := hcut; obtain ⟨u111, hcut⟩ := hcut; obtain ⟨u112, hcut⟩ := hcut; obtain ⟨u113, hcut⟩ := hcut; obtain ⟨u114, hcut⟩ := hcut; obtain ⟨u115, hcut⟩ := hcut; obtain ⟨u116, hcut⟩ := hcut; obtain ⟨u117, hcut⟩ := hcut; obtain ⟨u118, hcut⟩ := hcut; obtain ⟨u119, hcut⟩ := hcut; obtain ⟨u120, hcut⟩ := hcut; obtain ⟨u121, hcut⟩ := hcut; obtain ⟨u122, hcut⟩ := hcut; obtain ⟨u123, hcut⟩ := hcut; obtain ⟨u124, hcut⟩ := hcut; obtain ⟨u125, hcut⟩ := hcut; obtain ⟨u126, hcut⟩ := hcut; obtain ⟨u127, hcut⟩ := hcut; obtain ⟨u128, hcut⟩ := hcut; obtain ⟨u129, hcut⟩ := hcut; obtain ⟨u130, hcut⟩ := hcut; obtain ⟨u131, hcut⟩ := hcut; obtain ⟨u132, hcut⟩ := hcut; obtain ⟨u133, hcut⟩ := hcut; obtain ⟨u134, hcut⟩ := hcut; obtain ⟨u135, hcut⟩ := hcut; obtain ⟨u136, hcut⟩ := hcut; obtain ⟨u137, hcut⟩ := hcut; obtain ⟨u138, hcut⟩ := hcut; obtain ⟨u139, hcut⟩ := hcut; obtain ⟨u140, hcut⟩ := hcut; obtain ⟨u141, hcut⟩ := hcut; obtain ⟨u142, hcut⟩ := hcut; obtain ⟨u143, hcut⟩ := hcut; obtain ⟨u144, hcut⟩ := hcut; obtain ⟨u145, hcut⟩ := hcut; obtain ⟨u146, hcut⟩ := hcut; obtain ⟨u147, hcut⟩ := hcut; obtain ⟨u148, hcut⟩ := hcut; obtain ⟨u149, hcut⟩ := hcut; obtain ⟨u150, hcut⟩ := hcut; obtain ⟨u151, hcut⟩ := hcut; obtain ⟨u152, hcut⟩ := hcut; obtain ⟨v9, hcut⟩ := hcut; obtain ⟨v10, hcut⟩ := hcut; obtain ⟨v11, hcut⟩ := hcut; obtain ⟨v12, hcut⟩ := hcut; obtain ⟨hcut, hac⟩ := hcut; subst hac; intro _ _ _ _)
  case atStart => exact ⟨0, .nil, none, none, 0, none, 0, [], rfl, rfl, rfl, rfl, rfl, rfl, rfl, GRow.nil, GRow.nil, by simp, List.Pairwise.nil, Nat.le_refl _, fun _ => rfl, Below.refl _ _⟩
  case round =>
    obtain ⟨i, t, p, Ao, co, Af, cf, vs, hm, rfl, rfl, rfl, rfl, P⟩ := hcut
    have HM := Lib.hid hm
    have HP := Lib.hid P
    have hil : i ≤ L := by omega
    clear hm P
    by_cases hlt : i < L
    · --[A
      have z1 : decide (i < ks.length) = true := by simp; omega
      have z2 : decide (i < ls.length) = true := by simp; omega
      have z3 : i < ls.length := by omega
      have z4 : i < ks.length := by omega
      have hk := List.getElem?_eq_getElem z4
      have hl' := List.getElem?_eq_getElem z3
      generalize ks[i] = k at hk
      generalize ls[i] = l at hl'
      obtain ⟨kb, ko, rfl, kc, hkw⟩ := int_at HKE.out hk
      obtain ⟨lb, lo, B, c, rfl, lc, hc1, hc2, hc3, hc4, hc5⟩ := list_at HLE.out hl'
      have hN := HP.out.below.size
      have lc1 := cell_alloc_old (cell_below HP.out.below lc) (.cells #[.int .u8 1] 5)
      have E0 : GRow bc 5 1 (wr.alloc (.cells #[.int .u8 1] 5)) w.heap.size (some ⟨wr.heap.size, 0, none⟩) 1 [1] :=
        Or.inr ⟨_, rfl, hN, Own.fresh wr (by decide) #[.int .u8 1] rfl [1] (by simp) (fun i x hx j v hv => by
          rcases i with _ | i
          · simp at hx; subst hx
            rcases j with _ | j
            · simp [bc] at hv; subst hv; rfl
            · simp [bc] at hv
          · simp at hx)⟩
      have bb : ∀ x, l ≠ [] → ∃ g O, B = some ⟨g, O, none⟩ ∧ ∀ (k : Nat) y, l[k]? = some y → ∀ j v, (bc y)[j]? = some v → (wr.alloc (.cells #[.int .u8 x] 5)).cell? ⟨g, O + k * 1 + j, none⟩ = some v := fun x hne => by
        obtain ⟨g, O, h1, h2⟩ := bytes_at hc5 hne
        exact ⟨g, O, h1, fun k y hy j v hv => cell_alloc_old (cell_below HP.out.below (h2.cells k y hy j v hv)) _⟩
      unfold reach at hc3
      obtain ⟨A1, c1, w1, hrun1, G1, B1, K1, M1⟩ := GRow.append (ys := l) elB E0 25 B c (bb 1) (HP.out.below.alloc hN _) (by simp; omega) (by simp only [maxLen, List.length_singleton]; omega) (by simp; omega)
      have HR1 := Lib.hid hrun1
      obtain ⟨g1, rfl⟩ : ∃ g1, A1 = some ⟨g1, 0, none⟩ := by
        rcases G1 with ⟨_, _, h⟩ | ⟨g, h, _⟩
        · simp at h
        · exact ⟨g, h⟩
      have kc1 := cell_below B1 kc
      have KT : ∀ T, T ≠ 5 → KeepT T wr w1 := fun T hT => (KeepT.alloc T wr _).trans (K1 T hT)
      have T1 := HP.out.tree.keeps (KT _ (by decide))
      have V1 : VB w1 w.heap.size (some ⟨g1, 0, none⟩, 1 + l.length, c1) := by
        rcases G1 with ⟨_, _, h⟩ | ⟨g, h, hg, hO⟩
        · simp at h
        · injection h with h; injection h with h; subst h
          obtain ⟨cur, hb, hs, hc⟩ := hO.blk
          exact ⟨g1, _, _, cur, 1, rfl, by omega, hg, hb, by simpa using hc 0 1 rfl 0 _ rfl⟩
      have VS1 : ∀ v ∈ vs, VB w1 w.heap.size v := fun v hv => by
        obtain ⟨g, n, c', cur, x, h1, h2, h3, h4, h5⟩ := HP.out.vb v hv
        have hb := blk_lt h4
        exact ⟨g, n, c', cur, x, h1, h2, h3, M1 g _ (by intro h; injection h with h; injection h with h; omega) (blk_alloc h4 _), h5⟩
      have O1 := HP.out.own.keeps (KT _ (by decide))
      have F1 := HP.out.of_.keeps (KT _ (by decide))
      have HV1 := Lib.hid V1
      have HVS1 := Lib.hid VS1
      have HK := Lib.hid hk
      have HB1 := Lib.hid B1
      have HO1 := Lib.hid O1
      have HF1 := Lib.hid F1
      have HKC := Lib.hid kc
      have PU := Lib.hid (Tb.put_any k (some ⟨g1, 0, none⟩, 1 + l.length, c1) t T1 (by have := HP.out.size; unfold Tb.big; omega))
      clear hrun1 kc lc E0 bb hc5 hk hl' G1 B1 K1 M1 T1 KT V1 VS1 O1 F1
      go_wp2_with (refine wpList_app HR1.out rfl rfl rfl (by rfl) (by rfl) ?_)
      refine PU.out.mono ?_
      rintro e w2 ⟨p2, rfl, T2, B2⟩
      have hN1 := HB1.out.size
      obtain ⟨A3, c3, w3, hrun3, G3, B3, K3, M3⟩ := GRow.push elSl (HO1.out.keeps (KeepT.below B2)) 23 (some ⟨g1, 0, none⟩, 1 + l.length, c1) (HB1.out.trans (B2.mono hN1)) (by have := B2.size; omega) (by rw [HP.out.len]; simp only [maxLen]; omega) (by rw [HP.out.len]; omega)
      rw [HP.out.len] at hrun3
      have HR3 := Lib.hid hrun3
      have kc3 := cell_below B3 HKC.out
      have F3 := (HF1.out.keeps (KeepT.below B2)).keeps (K3 _ (by decide))
      have T3 := T2.keeps (K3 _ (by decide))
      have V3 := (HV1.out.keeps (KeepT.below B2)).keeps (K3 _ (by decide))
      have VS3 : ∀ v ∈ vs, VB w3 w.heap.size v := fun v hv => ((HVS1.out v hv).keeps (KeepT.below B2)).keeps (K3 _ (by decide))
      obtain ⟨A4, c4, w4, hrun4, G4, B4, K4, M4⟩ := GRow.push elI F3 22 k B3 B3.size (by rw [List.length_take]; simp only [maxLen]; omega) (by rw [List.length_take]; omega)
      have hti : (ks.take i).length = i := by rw [List.length_take]; omega
      rw [hti] at hrun4
      have HR4 := Lib.hid hrun4
      have PS := Lib.hid (HP.out.step_law HK.out (some ⟨g1, 0, none⟩, 1 + l.length, c1))
      have FIN : Putting w w4 ks (i + 1) (T.put ltZ k (some ⟨g1, 0, none⟩, 1 + l.length, c1) t) p2 A3 c3 A4 c4 (vs ++ [(some ⟨g1, 0, none⟩, 1 + l.length, c1)]) :=
        ⟨by simp [HP.out.len], T3.keeps (K4 _ (by decide)), G3.keeps (K4 _ (by decide)), by rw [List.take_add_one, HK.out]; exact G4, fun v hv => by
          rcases List.mem_append.1 hv with h | h
          · exact (VS3 v h).keeps (K4 _ (by decide))
          · rw [List.mem_singleton.1 h]; exact V3.keeps (K4 _ (by decide)), PS.out.1, PS.out.2.1, PS.out.2.2, B4⟩
      have HFIN := Lib.hid FIN
      clear T2 B2 hrun3 hrun4 G3 B3 K3 M3 F3 T3 V3 VS3 G4 B4 K4 M4 FIN hti
      go_wp2_with (first | (have p3 := HR3; refine wpList_app p3.out rfl rfl rfl (by rfl) (by rfl) ?_; clear p3 HR3) | (have p4 := HR4; refine wpList_app p4.out rfl rfl rfl (by rfl) (by rfl) ?_; clear p4 HR4))
      go_roundg (m - 1)
      case measure => have := HM.out; omega
      case rel => exact ⟨i + 1, _, _, _, _, _, _, _, by have := HM.out; omega, rfl, by go_num, by go_num, by go_num, HFIN.out⟩
      --A]
    · have hiL : i = L := by omega
      subst hiL
      have hl1 : ks.length ≤ i ∨ ls.length ≤ i := by have := HL.out; omega
      go_upto_region 5 with (fail)
      refine wp_cut (fun (ac : Act) (wx : World) => ∃ u0 u1 u4 u5 u6 u7 u8 u12 u13 u14 u15 u16 u17 u18 u19 u20 u21 u22 u23 u24 u25 u26 u27 u28 u29 u30 u32 u33 u34 u35 u36 u37 u38 u39 u40 u41 u42 u43 u44 u45 u46 u47 u48 u49 u50 u51 u52 u53 u54 u55 u56 u57 u58 u59 u60 u61 u62 u63 u64 u65 u66 u67 u68 u69 u70 u71 u72 u73 u74 u75 u76 u77 u78 u79 u80 u81 u82 u83 u84 u85 u86 u87 u88 u89 u90 u91 u92 u93 u94 u95 u96 u97 u98 u99 u100 u101 u102 u103 u104 u105 u106 u107 u108 u109 u110 u111 u112 u113 u114 u115 u116 u117 u118 u119 u120 u121 u122 u123 u124 u125 u126 u127 u128 u129 u130 u131 u132 u133 u134 u135 u136 u137 u138 u139 u140 u141 u142 u143 u144 u145 u146 u147 u148 u149 u150 u151 u152 : Value, (wx = wr) ∧ ac = ({ tmps := #[u0, u1, .int .i64 at_, .int .u8 mark, u4, u5, u6, u7, u8, .pointer p, .slice Ao i co, .slice Af i cf, u12, u13, u14, u15, u16, u17, u18, u19, u20, u21, u22, u23, u24, u25, u26, u27, u28, u29, u30, .bool false, u32, u33, u34, u35, u36, u37, u38, u39, u40, u41, u42, u43, u44, u45, u46, u47, u48, u49, u50, u51, u52, u53, u54, u55, u56, u57, u58, u59, u60, u61, u62, u63, u64, u65, u66, u67, u68, u69, u70, u71, u72, u73, u74, u75, u76, u77, u78, u79, u80, u81, u82, u83, u84, u85, u86, u87, u88, u89, u90, u91, u92, u93, u94, u95, u96, u97, u98, u99, u100, u101, u102, u103, u104, u105, u106, u107, u108, u109, u110, u111, u112, u113, u114, u115, u116, u117, u118, u119, u120, u121, u122, u123, u124, u125, u126, u127, u128, u129, u130, u131, u132, u133, u134, u135, u136, u137, u138, u139, u140, u141, u142, u143, u144, u145, u146, u147, u148, u149, u150, u151, u152], defers := [] } : Act)) ?rest ?first
      case' rest => (intro ac wx hcut; obtain ⟨u0, hcut⟩ := hcut; obtain ⟨u1, hcut⟩ := hcut; obtain ⟨u4, hcut⟩ := hcut; obtain ⟨u5, hcut⟩ := hcut; obtain ⟨u6, hcut⟩ := hcut; obtain ⟨u7, hcut⟩ := hcut; obtain ⟨u8, hcut⟩ := hcut; obtain ⟨u12, hcut⟩ := hcut; obtain ⟨u13, hcut⟩ := hcut; obtain ⟨u14, hcut⟩ := hcut; obtain ⟨u15, hcut⟩ := hcut; obtain ⟨u16, hcut⟩ := hcut; obtain ⟨u17, hcut⟩ := hcut; obtain ⟨u18, hcut⟩ := hcut; obtain ⟨u19, hcut⟩ := hcut; obtain ⟨u20, hcut⟩ := hcut; obtain ⟨u21, hcut⟩ := hcut; obtain ⟨u22, hcut⟩ := hcut; obtain ⟨u23, hcut⟩ := hcut; obtain ⟨u24, hcut⟩ := hcut; obtain ⟨u25, hcut⟩ := hcut; obtain ⟨u26, hcut⟩ := hcut; obtain ⟨u27, hcut⟩ := hcut; obtain ⟨u28, hcut⟩ := hcut; obtain ⟨u29, hcut⟩ := hcut; obtain ⟨u30, hcut⟩ := hcut; obtain ⟨u32, hcut⟩ := hcut; obtain ⟨u33, hcut⟩ := hcut; obtain ⟨u34, hcut⟩ := hcut; obtain ⟨u35, hcut⟩ := hcut; obtain ⟨u36, hcut⟩ := hcut; obtain ⟨u37, hcut⟩ := hcut; obtain ⟨u38, hcut⟩ := hcut; obtain ⟨u39, hcut⟩ := hcut; obtain ⟨u40, hcut⟩ := hcut; obtain ⟨u41, hcut⟩ := hcut; obtain ⟨u42, hcut⟩ := hcut; obtain ⟨u43, hcut⟩ := hcut; obtain ⟨u44, hcut⟩ := hcut; obtain ⟨u45, hcut⟩ := hcut; obtain ⟨u46, hcut⟩ := hcut; obtain ⟨u47, hcut⟩ := hcut; obtain ⟨u48, hcut⟩ := hcut; obtain ⟨u49, hcut⟩ := hcut; obtain ⟨u50, hcut⟩ := hcut; obtain ⟨u51, hcut⟩ := hcut; obtain ⟨u52, hcut⟩ := hcut; obtain ⟨u53, hcut⟩ := hcut; obtain ⟨u54, hcut⟩ := hcut; obtain ⟨u55, hcut⟩ := hcut; obtain ⟨u56, hcut⟩ := hcut; obtain ⟨u57, hcut⟩ := hcut; obtain ⟨u58, hcut⟩ := hcut; obtain ⟨u59, hcut⟩ := hcut; obtain ⟨u60, hcut⟩ := hcut; obtain ⟨u61, hcut⟩ := hcut; obtain ⟨u62, hcut⟩ := hcut; obtain ⟨u63, hcut⟩ := hcut; obtain ⟨u64, hcut⟩ := hcut; obtain ⟨u65, hcut⟩ := hcut; obtain ⟨u66, hcut⟩ := hcut; obtain ⟨u67, hcut⟩ := hcut; obtain ⟨u68, hcut⟩ := hcut; obtain ⟨u69, hcut⟩ := hcut; obtain ⟨u70, hcut⟩ := hcut; obtain ⟨u71, hcut⟩ := hcut; obtain ⟨u72, hcut⟩ := hcut; obtain ⟨u73, hcut⟩ := hcut; obtain ⟨u74, hcut⟩ := hcut; obtain ⟨u75, hcut⟩ := hcut; obtain ⟨u76, hcut⟩ := hcut; obtain ⟨u77, hcut⟩ := hcut; obtain ⟨u78, hcut⟩ := hcut; obtain ⟨u79, hcut⟩ := hcut; obtain ⟨u80, hcut⟩ := hcut; obtain ⟨u81, hcut⟩ := hcut; obtain ⟨u82, hcut⟩ := hcut; obtain ⟨u83, hcut⟩ := hcut; obtain ⟨u84, hcut⟩ := hcut; obtain ⟨u85, hcut⟩ := hcut; obtain ⟨u86, hcut⟩ := hcut; obtain ⟨u87, hcut⟩ := hcut; obtain ⟨u88, hcut⟩ := hcut; obtain ⟨u89, hcut⟩ := hcut; obtain ⟨u90, hcut⟩ := hcut; obtain ⟨u91, hcut⟩ := hcut; obtain ⟨u92, hcut⟩ := hcut; obtain ⟨u93, hcut⟩ := hcut; obtain ⟨u94, hcut⟩ := hcut; obtain ⟨u95, hcut⟩ := hcut; obtain ⟨u96, hcut⟩ := hcut; obtain ⟨u97, hcut⟩ := hcut; obtain ⟨u98, hcut⟩ := hcut; obtain ⟨u99, hcut⟩ := hcut; obtain ⟨u100, hcut⟩ := hcut; obtain ⟨u101, hcut⟩ := hcut; obtain ⟨u102, hcut⟩ := hcut; obtain ⟨u103, hcut⟩ := hcut; obtain ⟨u104, hcut⟩ := hcut; obtain ⟨u105, hcut⟩ := hcut; obtain ⟨u106, hcut⟩ := hcut; obtain ⟨u107, hcut⟩ := hcut; obtain ⟨u108, hcut⟩ := hcut; obtain ⟨u109, hcut⟩ := hcut; obtain ⟨u110, hcut⟩ := hcut; obtain ⟨u111, hcut⟩ := hcut; obtain ⟨u112, hcut⟩ := hcut; obtain ⟨u113, hcut⟩ := hcut; obtain ⟨u114, hcut⟩ := hcut; obtain ⟨u115, hcut⟩ := hcut; obtain ⟨u116, hcut⟩ := hcut; obtain ⟨u117, hcut⟩ := hcut; obtain ⟨u118, hcut⟩ := hcut; obtain ⟨u119, hcut⟩ := hcut; obtain ⟨u120, hcut⟩ := hcut; obtain ⟨u121, hcut⟩ := hcut; obtain ⟨u122, hcut⟩ := hcut; obtain ⟨u123, hcut⟩ := hcut; obtain ⟨u124, hcut⟩ := hcut; obtain ⟨u125, hcut⟩ := hcut; obtain ⟨u126, hcut⟩ := hcut; obtain ⟨u127, hcut⟩ := hcut; obtain ⟨u128, hcut⟩ := hcut; obtain ⟨u129, hcut⟩ := hcut; obtain ⟨u130, hcut⟩ := hcut; obtain ⟨u131, hcut⟩ := hcut; obtain ⟨u132, hcut⟩ := hcut; obtain ⟨u133, hcut⟩ := hcut; obtain ⟨u134, hcut⟩ := hcut; obtain ⟨u135, hcut⟩ := hcut; obtain ⟨u136, hcut⟩ := hcut; obtain ⟨u137, hcut⟩ := hcut; obtain ⟨u138, hcut⟩ := hcut; obtain ⟨u139, hcut⟩ := hcut; obtain ⟨u140, hcut⟩ := hcut; obtain ⟨u141, hcut⟩ := hcut; obtain ⟨u142, hcut⟩ := hcut; obtain ⟨u143, hcut⟩ := hcut; obtain ⟨u144, hcut⟩ := hcut; obtain ⟨u145, hcut⟩ := hcut; obtain ⟨u146, hcut⟩ := hcut; obtain ⟨u147, hcut⟩ := hcut; obtain ⟨u148, hcut⟩ := hcut; obtain ⟨u149, hcut⟩ := hcut; obtain ⟨u150, hcut⟩ := hcut; obtain ⟨u151, hcut⟩ := hcut; obtain ⟨u152, hcut⟩ := hcut; obtain ⟨hcut, hac⟩ := hcut; subst hac)
      case' first => intro _ _ _ _
      case first =>
        by_cases h1 : i < ks.length
        · have z1 : decide (i < ks.length) = true := by simp; omega
          have z2 : decide (i < ls.length) = false := by simp; omega
          go_wp2_with (fail)
          all_goals go_meet
          all_goals rfl
        · have z1 : decide (i < ks.length) = false := by simp; omega
          go_wp2_with (fail)
          all_goals go_meet
          all_goals rfl
      case rest =>
      subst hcut
      clear hl1
      by_cases h0 : i = 0
      · --[B
        subst h0
        have ht : t = .nil := by
          cases t with
          | nil => rfl
          | node a k v b => have := HP.out.size; simp [T.size] at this
        subst ht
        have GG := Lib.hid (Tb.get_any 0 HP.out.tree)
        go_wp2_with (fail)
        refine GG.out.mono ?_
        rintro e w_ ⟨rfl, rfl⟩
        go_wp2_with (fail)
        go_ret
        exact ⟨rfl, HP.out.below⟩
        --B]
      · --[C
        have hvne : vs ≠ [] := by intro h; have := HP.out.len; rw [h] at this; simp at this; omega
        obtain ⟨go, rfl⟩ := HP.out.own.some_ hvne
        have hkne : ks.take i ≠ [] := by intro h; have := congrArg List.length h; rw [List.length_take, List.length_nil] at this; omega
        obtain ⟨gf, rfl⟩ := HP.out.of_.some_ hkne
        have RR := Lib.hid (round_any at_ i HAT.out (by omega) (by omega) wx)
        have z1 : ((i : Int) == 0) = false := by simp; omega
        go_wp2_with (fail)
        refine RR.out.mono ?_
        rintro e w_ ⟨⟨k, hk, rfl⟩, rfl⟩
        have hvk := List.getElem?_eq_getElem (show k < vs.length by rw [HP.out.len]; exact hk)
        obtain ⟨g, n, c, cur, x, h1, h2, h3, h4, h5⟩ := HP.out.vb _ (List.getElem_mem (show k < vs.length by rw [HP.out.len]; exact hk))
        have hmem : (some ⟨g, 0, none⟩, n, c) ∈ vs := by rw [← h1]; exact List.getElem_mem _
        rw [h1] at hvk
        have c1 := HP.out.own.cell' hvk (j := 0) rfl
        have f1 := free_blk h4 0
        have c2 := cell_blk h4 0 h5
        have P2 := Lib.hid (HP.out.store hmem mark)
        have HK := Lib.hid h4
        simp only [Nat.mul_one, Nat.add_zero] at c1
        clear h1 h4 h5 hvk hmem h3 RR
        go_wp2_with (fail)
        refine wp_loop_ghost_k (fun (m2 : Nat) (ac : Act) (wr : World) => ∃ u0 u1 u2 u4 u5 u6 u7 u8 u12 u13 u14 u15 u16 u18 u19 u20 u21 u22 u23 u24 u25 u26 u27 u28 u29 u30 u31 u32 u33 u34 u35 u36 u37 u38 u39 u40 u41 u42 u43 u44 u45 u46 u47 u48 u49 u50 u51 u52 u53 u54 u55 u56 u57 u58 u59 u60 u61 u62 u63 u64 u65 u66 u67 u68 u69 u70 u71 u72 u73 u74 u75 u76 u77 u78 u79 u80 u81 u82 u83 u84 u85 u86 u87 u88 u89 u90 u91 u92 u93 u94 u95 u96 u97 u98 u99 u100 u101 u102 u103 u104 u105 u106 u107 u108 u109 u110 u111 u112 u113 u114 u115 u116 u117 u118 u119 u120 u121 u122 u123 u124 u125 u126 u127 u128 u129 u130 u131 u132 u133 u134 u135 u136 u137 u138 u139 u140 u141 u142 u143 u144 u145 u146 u147 u148 u149 u150 u151 u152 v17 : Value, (∃ j : Nat, m2 + j = i ∧ v17 = .int .i64 j ∧ Putting w wr ks i t p (some ⟨go, 0, none⟩) co (some ⟨gf, 0, none⟩) cf vs) ∧ ac = ({ tmps := #[u0, u1, u2, .int .u8 mark, u4, u5, u6, u7, u8, .pointer p, .slice (some ⟨go, 0, none⟩) i co, .slice (some ⟨gf, 0, none⟩) i cf, u12, u13, u14, u15, u16, v17, u18, u19, u20, u21, u22, u23, u24, u25, u26, u27, u28, u29, u30, u31, u32, u33, u34, u35, u36, u37, u38, u39, u40, u41, u42, u43, u44, u45, u46, u47, u48, u49, u50, u51, u52, u53, u54, u55, u56, u57, u58, u59, u60, u61, u62, u63, u64, u65, u66, u67, u68, u69, u70, u71, u72, u73, u74, u75, u76, u77, u78, u79, u80, u81, u82, u83, u84, u85, u86, u87, u88, u89, u90, u91, u92, u93, u94, u95, u96, u97, u98, u99, u100, u101, u102, u103, u104, u105, u106, u107, u108, u109, u110, u111, u112, u113, u114, u115, u116, u117, u118, u119, u120, u121, u122, u123, u124, u125, u126, u127, u128, u129, u130, u131, u132, u133, u134, u135, u136, u137, u138, u139, u140, u141, u142, u143, u144, u145, u146, u147, u148, u149, u150, u151, u152], defers := [] } : Act)) (i) ?atStart ?round
        case' atStart => ((repeat apply Exists.intro); refine ⟨?_, rfl⟩)
        case' round => (intro m2 ac wr hcut; obtain ⟨u0, hcut⟩ := hcut; obtain ⟨u1, hcut⟩ := hcut; obtain ⟨u2, hcut⟩ := hcut; obtain ⟨u4, hcut⟩ := hcut; obtain ⟨u5, hcut⟩ := hcut; obtain ⟨u6, hcut⟩ := hcut; obtain ⟨u7, hcut⟩ := hcut; obtain ⟨u8, hcut⟩ := hcut; obtain ⟨u12, hcut⟩ := hcut; obtain ⟨u13, hcut⟩ := hcut; obtain ⟨u14, hcut⟩ := hcut; obtain ⟨u15, hcut⟩ := hcut; obtain ⟨u16, hcut⟩ := hcut; obtain ⟨u18, hcut⟩ := hcut; obtain ⟨u19, hcut⟩ := hcut; obtain ⟨u20, hcut⟩ := hcut; obtain ⟨u21, hcut⟩ := hcut; obtain ⟨u22, hcut⟩ := hcut; obtain ⟨u23, hcut⟩ := hcut; obtain ⟨u24, hcut⟩ := hcut; obtain ⟨u25, hcut⟩ := hcut; obtain ⟨u26, hcut⟩ := hcut; obtain ⟨u27, hcut⟩ := hcut; obtain ⟨u28, hcut⟩ := hcut; obtain ⟨u29, hcut⟩ := hcut; obtain ⟨u30, hcut⟩ := hcut; obtain ⟨u31, hcut⟩ := hcut; obtain ⟨u32, hcut⟩ := hcut; obtain ⟨u33, hcut⟩ := hcut; obtain ⟨u34, hcut⟩ := hcut; obtain ⟨u35, hcut⟩ := hcut; obtain ⟨u36, hcut⟩ := hcut; obtain ⟨u37, hcut⟩ := hcut; obtain ⟨u38, hcut⟩ := hcut; obtain ⟨u39, hcut⟩ := hcut; obtain ⟨u40, hcut⟩ := hcut; obtain ⟨u41, hcut⟩ := hcut; obtain ⟨u42, hcut⟩ := hcut; obtain ⟨u43, hcut⟩ := hcut; obtain ⟨u44, hcut⟩ := hcut; obtain ⟨u45, hcut⟩ := hcut; obtain ⟨u46, hcut⟩ := hcut; obtain ⟨u47, hcut⟩ := hcut; obtain ⟨u48, hcut⟩ := hcut; obtain ⟨u49, hcut⟩ := hcut; obtain ⟨u50, hcut⟩ := hcut; obtain ⟨u51, hcut⟩ := hcut; obtain ⟨u52, hcut⟩ := hcut; obtain ⟨u53, hcut⟩ := hcut; obtain ⟨u54, hcut⟩ := hcut; obtain ⟨u55, hcut⟩ := hcut; obtain ⟨u56, hcut⟩ := hcut; obtain ⟨u57, hcut⟩ := hcut; obtain ⟨u58, hcut⟩ := hcut; obtain ⟨u59, hcut⟩ := hcut; obtain ⟨u60, hcut⟩ := hcut; obtain ⟨u61, hcut⟩ := hcut; obtain ⟨u62, hcut⟩ := hcut; obtain ⟨u63, hcut⟩ := hcut; obtain ⟨u64, hcut⟩ := hcut; obtain ⟨u65, hcut⟩ := hcut; obtain ⟨u66, hcut⟩ := hcut; obtain ⟨u67, hcut⟩ := hcut; obtain ⟨u68, hcut⟩ := hcut; obtain ⟨u69, hcut⟩ := hcut; obtain ⟨u70, hcut⟩ := hcut; obtain ⟨u71, hcut⟩ := hcut; obtain ⟨u72, hcut⟩ := hcut; obtain ⟨u73, hcut⟩ := hcut; obtain ⟨u74, hcut⟩ := hcut; obtain ⟨u75, hcut⟩ := hcut; obtain ⟨u76, hcut⟩ := hcut; obtain ⟨u77, hcut⟩ := hcut; obtain ⟨u78, hcut⟩ := hcut; obtain ⟨u79, hcut⟩ := hcut; obtain ⟨u80, hcut⟩ := hcut; obtain ⟨u81, hcut⟩ := hcut; obtain ⟨u82, hcut⟩ := hcut; obtain ⟨u83, hcut⟩ := hcut; obtain ⟨u84, hcut⟩ := hcut; obtain ⟨u85, hcut⟩ := hcut; obtain ⟨u86, hcut⟩ := hcut; obtain ⟨u87, hcut⟩ := hcut; obtain ⟨u88, hcut⟩ := hcut; obtain ⟨u89, hcut⟩ := hcut; obtain ⟨u90, hcut⟩ := hcut; obtain ⟨u91, hcut⟩ := hcut; obtain ⟨u92, hcut⟩ := hcut; obtain ⟨u93, hcut⟩ := hcut; obtain ⟨u94, hcut⟩ := hcut; obtain ⟨u95, hcut⟩ := hcut; obtain ⟨u96, hcut⟩ := hcut; obtain ⟨u97, hcut⟩ := hcut; obtain ⟨u98, hcut⟩ := hcut; obtain ⟨u99, hcut⟩ := hcut; obtain ⟨u100, hcut⟩ := hcut; obtain ⟨u101, hcut⟩ := hcut; obtain ⟨u102, hcut⟩ := hcut; obtain ⟨u103, hcut⟩ := hcut; obtain ⟨u104, hcut⟩ := hcut; obtain ⟨u105, hcut⟩ := hcut; obtain ⟨u106, hcut⟩ := hcut; obtain ⟨u107, hcut⟩ := hcut; obtain ⟨u108, hcut⟩ := hcut; obtain ⟨u109, hcut⟩ := hcut; obtain ⟨u110, hcut⟩ := hcut; obtain ⟨u111, hcut⟩ := hcut; obtain ⟨u112, hcut⟩ := hcut; obtain ⟨u113, hcut⟩ := hcut; obtain ⟨u114, hcut⟩ := hcut; obtain ⟨u115, hcut⟩ := hcut; obtain ⟨u116, hcut⟩ := hcut; obtain ⟨u117, hcut⟩ := hcut; obtain ⟨u118, hcut⟩ := hcut; obtain ⟨u119, hcut⟩ := hcut; obtain ⟨u120, hcut⟩ := hcut; obtain ⟨u121, hcut⟩ := hcut; obtain ⟨u122, hcut⟩ := hcut; obtain ⟨u123, hcut⟩ := hcut; obtain ⟨u124, hcut⟩ := hcut; obtain ⟨u125, hcut⟩ := hcut; obtain ⟨u126, hcut⟩ := hcut; obtain ⟨u127, hcut⟩ := hcut; obtain ⟨u128, hcut⟩ := hcut; obtain ⟨u129, hcut⟩ := hcut; obtain ⟨u130, hcut⟩ := hcut; obtain ⟨u131, hcut⟩ := hcut; obtain ⟨u132, hcut⟩ := hcut; obtain ⟨u133, hcut⟩ := hcut; obtain ⟨u134, hcut⟩ := hcut; obtain ⟨u135, hcut⟩ := hcut; obtain ⟨u136, hcut⟩ := hcut; obtain ⟨u137, hcut⟩ := hcut; obtain ⟨u138, hcut⟩ := hcut; obtain ⟨u139, hcut⟩ := hcut; obtain ⟨u140, hcut⟩ := hcut; obtain ⟨u141, hcut⟩ := hcut; obtain ⟨u142, hcut⟩ := hcut; obtain ⟨u143, hcut⟩ := hcut; obtain ⟨u144, hcut⟩ := hcut; obtain ⟨u145, hcut⟩ := hcut; obtain ⟨u146, hcut⟩ := hcut; obtain ⟨u147, hcut⟩ := hcut; obtain ⟨u148, hcut⟩ := hcut; obtain ⟨u149, hcut⟩ := hcut; obtain ⟨u150, hcut⟩ := hcut; obtain ⟨u151, hcut⟩ := hcut; obtain ⟨u152, hcut⟩ := hcut; obtain ⟨v17, hcut⟩ := hcut; obtain ⟨hcut, hac⟩ := hcut; subst hac; intro _ _ _ _)
        case atStart => exact ⟨0, rfl, rfl, P2.out⟩
        case round =>
          obtain ⟨j, hm2, rfl, P⟩ := hcut
          have HM2 := Lib.hid hm2
          have HP := Lib.hid P
          have hjle : j ≤ i := by omega
          clear hm2 P c1 f1 c2 HK P2
          by_cases hj : j < i
          · have htl : (ks.take i).length = i := by rw [List.length_take]; omega
            have hkj := List.getElem?_eq_getElem (show j < (ks.take i).length by omega)
            generalize (ks.take i)[j] = kj at hkj
            have HKJ := Lib.hid hkj
            have HTL := Lib.hid htl
            have hN := HP.out.below
            have HNB := Lib.hid hN
            have z0 : decide (j < i) = true := by simp; omega
            clear hkj htl hN
            go_wp2_with (fail)
            refine wp_loop_ghost_k (fun (m3 : Nat) (ac : Act) (wq : World) => ∃ u0 u1 u2 u4 u5 u6 u7 u8 u12 u13 u14 u15 u16 u20 u21 u22 u23 u24 u25 u26 u27 u28 u29 u30 u31 u32 u33 u34 u35 u36 u37 u38 u39 u40 u41 u42 u43 u44 u45 u46 u47 u48 u49 u50 u51 u52 u53 u54 u55 u56 u57 u58 u59 u60 u61 u62 u63 u64 u65 u66 u67 u68 u69 u70 u71 u72 u73 u74 u75 u76 u77 u78 u79 u80 u81 u82 u83 u84 u85 u86 u87 u88 u89 u90 u91 u92 u93 u94 u95 u96 u97 u98 u99 u100 u101 u102 u103 u104 u105 u106 u107 u108 u109 u110 u111 u112 u113 u114 u115 u116 u117 u118 u119 u120 u121 u122 u123 u124 u125 u126 u127 u128 u129 u130 u131 u132 u133 u134 u135 u136 u137 u138 u139 u140 u141 u142 u143 u144 u145 u146 u147 u148 u149 u150 u151 u152 v18 v19 : Value, (∃ (q l : Nat), m3 + q = i ∧ j ≤ q ∧ j ≤ l ∧ l < i ∧ v18 = .int .i64 l ∧ v19 = .int .i64 q ∧ (ks.take i)[l]? = some kj ∧ (∀ x, l < x → x < q → (ks.take i)[x]? ≠ some kj) ∧ wq.heap = wr.heap ∧ Below w.heap.size w wq) ∧ ac = ({ tmps := #[u0, u1, u2, .int .u8 mark, u4, u5, u6, u7, u8, .pointer p, .slice (some ⟨go, 0, none⟩) i co, .slice (some ⟨gf, 0, none⟩) i cf, u12, u13, u14, u15, u16, .int .i64 j, v18, v19, u20, u21, u22, u23, u24, u25, u26, u27, u28, u29, u30, u31, u32, u33, u34, u35, u36, u37, u38, u39, u40, u41, u42, u43, u44, u45, u46, u47, u48, u49, u50, u51, u52, u53, u54, u55, u56, u57, u58, u59, u60, u61, u62, u63, u64, u65, u66, u67, u68, u69, u70, u71, u72, u73, u74, u75, u76, u77, u78, u79, u80, u81, u82, u83, u84, u85, u86, u87, u88, u89, u90, u91, u92, u93, u94, u95, u96, u97, u98, u99, u100, u101, u102, u103, u104, u105, u106, u107, u108, u109, u110, u111, u112, u113, u114, u115, u116, u117, u118, u119, u120, u121, u122, u123, u124, u125, u126, u127, u128, u129, u130, u131, u132, u133, u134, u135, u136, u137, u138, u139, u140, u141, u142, u143, u144, u145, u146, u147, u148, u149, u150, u151, u152], defers := [] } : Act)) (i - j) ?atStart ?round
            case' atStart => ((repeat apply Exists.intro); refine ⟨?_, rfl⟩)
            case' round => (intro m3 ac wq hcut; obtain ⟨u0, hcut⟩ := hcut; obtain ⟨u1, hcut⟩ := hcut; obtain ⟨u2, hcut⟩ := hcut; obtain ⟨u4, hcut⟩ := hcut; obtain ⟨u5, hcut⟩ := hcut; obtain ⟨u6, hcut⟩ := hcut; obtain ⟨u7, hcut⟩ := hcut; obtain ⟨u8, hcut⟩ := hcut; obtain ⟨u12, hcut⟩ := hcut; obtain ⟨u13, hcut⟩ := hcut; obtain ⟨u14, hcut⟩ := hcut; obtain ⟨u15, hcut⟩ := hcut; obtain ⟨u16, hcut⟩ := hcut; obtain ⟨u20, hcut⟩ := hcut; obtain ⟨u21, hcut⟩ := hcut; obtain ⟨u22, hcut⟩ := hcut; obtain ⟨u23, hcut⟩ := hcut; obtain ⟨u24, hcut⟩ := hcut; obtain ⟨u25, hcut⟩ := hcut; obtain ⟨u26, hcut⟩ := hcut; obtain ⟨u27, hcut⟩ := hcut; obtain ⟨u28, hcut⟩ := hcut; obtain ⟨u29, hcut⟩ := hcut; obtain ⟨u30, hcut⟩ := hcut; obtain ⟨u31, hcut⟩ := hcut; obtain ⟨u32, hcut⟩ := hcut; obtain ⟨u33, hcut⟩ := hcut; obtain ⟨u34, hcut⟩ := hcut; obtain ⟨u35, hcut⟩ := hcut; obtain ⟨u36, hcut⟩ := hcut; obtain ⟨u37, hcut⟩ := hcut; obtain ⟨u38, hcut⟩ := hcut; obtain ⟨u39, hcut⟩ := hcut; obtain ⟨u40, hcut⟩ := hcut; obtain ⟨u41, hcut⟩ := hcut; obtain ⟨u42, hcut⟩ := hcut; obtain ⟨u43, hcut⟩ := hcut; obtain ⟨u44, hcut⟩ := hcut; obtain ⟨u45, hcut⟩ := hcut; obtain ⟨u46, hcut⟩ := hcut; obtain ⟨u47, hcut⟩ := hcut; obtain ⟨u48, hcut⟩ := hcut; obtain ⟨u49, hcut⟩ := hcut; obtain ⟨u50, hcut⟩ := hcut; obtain ⟨u51, hcut⟩ := hcut; obtain ⟨u52, hcut⟩ := hcut; obtain ⟨u53, hcut⟩ := hcut; obtain ⟨u54, hcut⟩ := hcut; obtain ⟨u55, hcut⟩ := hcut; obtain ⟨u56, hcut⟩ := hcut; obtain ⟨u57, hcut⟩ := hcut; obtain ⟨u58, hcut⟩ := hcut; obtain ⟨u59, hcut⟩ := hcut; obtain ⟨u60, hcut⟩ := hcut; obtain ⟨u61, hcut⟩ := hcut; obtain ⟨u62, hcut⟩ := hcut; obtain ⟨u63, hcut⟩ := hcut; obtain ⟨u64, hcut⟩ := hcut; obtain ⟨u65, hcut⟩ := hcut; obtain ⟨u66, hcut⟩ := hcut; obtain ⟨u67, hcut⟩ := hcut; obtain ⟨u68, hcut⟩ := hcut; obtain ⟨u69, hcut⟩ := hcut; obtain ⟨u70, hcut⟩ := hcut; obtain ⟨u71, hcut⟩ := hcut; obtain ⟨u72, hcut⟩ := hcut; obtain ⟨u73, hcut⟩ := hcut; obtain ⟨u74, hcut⟩ := hcut; obtain ⟨u75, hcut⟩ := hcut; obtain ⟨u76, hcut⟩ := hcut; obtain ⟨u77, hcut⟩ := hcut; obtain ⟨u78, hcut⟩ := hcut; obtain ⟨u79, hcut⟩ := hcut; obtain ⟨u80, hcut⟩ := hcut; obtain ⟨u81, hcut⟩ := hcut; obtain ⟨u82, hcut⟩ := hcut; obtain ⟨u83, hcut⟩ := hcut; obtain ⟨u84, hcut⟩ := hcut; obtain ⟨u85, hcut⟩ := hcut; obtain ⟨u86, hcut⟩ := hcut; obtain ⟨u87, hcut⟩ := hcut; obtain ⟨u88, hcut⟩ := hcut; obtain ⟨u89, hcut⟩ := hcut; obtain ⟨u90, hcut⟩ := hcut; obtain ⟨u91, hcut⟩ := hcut; obtain ⟨u92, hcut⟩ := hcut; obtain ⟨u93, hcut⟩ := hcut; obtain ⟨u94, hcut⟩ := hcut; obtain ⟨u95, hcut⟩ := hcut; obtain ⟨u96, hcut⟩ := hcut; obtain ⟨u97, hcut⟩ := hcut; obtain ⟨u98, hcut⟩ := hcut; obtain ⟨u99, hcut⟩ := hcut; obtain ⟨u100, hcut⟩ := hcut; obtain ⟨u101, hcut⟩ := hcut; obtain ⟨u102, hcut⟩ := hcut; obtain ⟨u103, hcut⟩ := hcut; obtain ⟨u104, hcut⟩ := hcut; obtain ⟨u105, hcut⟩ := hcut; obtain ⟨u106, hcut⟩ := hcut; obtain ⟨u107, hcut⟩ := hcut; obtain ⟨u108, hcut⟩ := hcut; obtain ⟨u109, hcut⟩ := hcut; obtain ⟨u110, hcut⟩ := hcut; obtain ⟨u111, hcut⟩ := hcut; obtain ⟨u112, hcut⟩ := hcut; obtain ⟨u113, hcut⟩ := hcut; obtain ⟨u114, hcut⟩ := hcut; obtain ⟨u115, hcut⟩ := hcut; obtain ⟨u116, hcut⟩ := hcut; obtain ⟨u117, hcut⟩ := hcut; obtain ⟨u118, hcut⟩ := hcut; obtain ⟨u119, hcut⟩ := hcut; obtain ⟨u120, hcut⟩ := hcut; obtain ⟨u121, hcut⟩ := hcut; obtain ⟨u122, hcut⟩ := hcut; obtain ⟨u123, hcut⟩ := hcut; obtain ⟨u124, hcut⟩ := hcut; obtain ⟨u125, hcut⟩ := hcut; obtain ⟨u126, hcut⟩ := hcut; obtain ⟨u127, hcut⟩ := hcut; obtain ⟨u128, hcut⟩ := hcut; obtain ⟨u129, hcut⟩ := hcut; obtain ⟨u130, hcut⟩ := hcut; obtain ⟨u131, hcut⟩ := hcut; obtain ⟨u132, hcut⟩ := hcut; obtain ⟨u133, hcut⟩ := hcut; obtain ⟨u134, hcut⟩ := hcut; obtain ⟨u135, hcut⟩ := hcut; obtain ⟨u136, hcut⟩ := hcut; obtain ⟨u137, hcut⟩ := hcut; obtain ⟨u138, hcut⟩ := hcut; obtain ⟨u139, hcut⟩ := hcut; obtain ⟨u140, hcut⟩ := hcut; obtain ⟨u141, hcut⟩ := hcut; obtain ⟨u142, hcut⟩ := hcut; obtain ⟨u143, hcut⟩ := hcut; obtain ⟨u144, hcut⟩ := hcut; obtain ⟨u145, hcut⟩ := hcut; obtain ⟨u146, hcut⟩ := hcut; obtain ⟨u147, hcut⟩ := hcut; obtain ⟨u148, hcut⟩ := hcut; obtain ⟨u149, hcut⟩ := hcut; obtain ⟨u150, hcut⟩ := hcut; obtain ⟨u151, hcut⟩ := hcut; obtain ⟨u152, hcut⟩ := hcut; obtain ⟨v18, hcut⟩ := hcut; obtain ⟨v19, hcut⟩ := hcut; obtain ⟨hcut, hac⟩ := hcut; subst hac; intro _ _ _ _)
            case atStart => exact ⟨j, j, by omega, Nat.le_refl _, Nat.le_refl _, hj, rfl, rfl, HKJ.out, fun x h1 h2 => by omega, rfl, HNB.out⟩
            case round =>
              obtain ⟨q, l, hm3, hjq, hjl, hli, rfl, rfl, hkl, hno, hh, hB⟩ := hcut
              have HM3 := Lib.hid hm3
              have HKL := Lib.hid hkl
              have HNO := Lib.hid hno
              have HH := Lib.hid hh
              have HBB := Lib.hid hB
              have hqi : q ≤ i := by omega
              clear hm3 hkl hno hh hB
              by_cases hq : q < i
              · --[D
                obtain ⟨kq, hkq⟩ : ∃ kq, (ks.take i)[q]? = some kq := ⟨_, List.getElem?_eq_getElem (show q < (ks.take i).length by rw [HTL.out]; omega)⟩
                have d0 : wq.cell? ⟨gf, q, none⟩ = some (.int .i64 kq) := cell_same (by have := HP.out.of_.cell' hkq (j := 0) rfl; simpa using this) (by rw [HH.out])
                have d1 : wq.cell? ⟨gf, j, none⟩ = some (.int .i64 kj) := cell_same (by have := HP.out.of_.cell' HKJ.out (j := 0) rfl; simpa using this) (by rw [HH.out])
                have HKQ := Lib.hid hkq
                have z1 : decide (q < i) = true := by simp; omega
                obtain ⟨t5, ht5⟩ := named (kq == kj)
                clear hkq
                go_wp2_with (fail)
                refine start_ (n := 9) (S := fun w' => w'.cell? ⟨gf, q, none⟩ = some (.int .i64 kq) ∧ w'.cell? ⟨gf, j, none⟩ = some (.int .i64 kj)) (ds := []) #[false, false, false, false, false, false, false, false, false] (by kernel_rfl) rfl rfl ⟨d0, d1⟩ (fun hHeld => ?_)
                (refine take_ (i := 0) (N := some 97) (v := ?v_2) (a' := ?a_2) #[true, false, false, false, false, false, false, false, false] rfl rfl (by kernel_rfl) (fun _ _ _ h => h) (Or.inl ⟨by rfl, ?hy_2⟩) hHeld ?ha_2 ?hh_2; (case hy_2 => (rintro w' ⟨s0_, s1_⟩; go_simp; with_reducible rfl)); (case ha_2 => (simp (disch := omega) only [Act.put, List.setIfInBounds_toArray, List.set_cons_zero, List.set_cons_succ, wrap_in]; rfl)))
                (refine take_ (i := 1) (N := some 98) (v := ?v_3) (a' := ?a_3) #[true, true, false, false, false, false, false, false, false] rfl rfl (by kernel_rfl) (fun _ _ _ h => h) (Or.inl ⟨by rfl, ?hy_3⟩) hHeld ?ha_3 ?hh_3; (case hy_3 => (rintro w' ⟨s0_, s1_⟩; go_simp; with_reducible rfl)); (case ha_3 => (simp (disch := omega) only [Act.put, List.setIfInBounds_toArray, List.set_cons_zero, List.set_cons_succ, wrap_in]; rfl)))
                (refine take_ (i := 2) (N := some 99) (v := ?v_4) (a' := ?a_4) #[true, true, true, false, false, false, false, false, false] rfl rfl (by kernel_rfl) (fun _ _ _ h => h) (Or.inl ⟨by rfl, ?hy_4⟩) hHeld ?ha_4 ?hh_4; (case hy_4 => (rintro w' ⟨s0_, s1_⟩; go_simp; with_reducible rfl)); (case ha_4 => (simp (disch := omega) only [Act.put, List.setIfInBounds_toArray, List.set_cons_zero, List.set_cons_succ, wrap_in]; rfl)))
                (refine take_ (i := 3) (N := some 100) (v := ?v_5) (a' := ?a_5) #[true, true, true, true, false, false, false, false, false] rfl rfl (by kernel_rfl) (fun _ _ _ h => h) (Or.inl ⟨by rfl, ?hy_5⟩) hHeld ?ha_5 ?hh_5; (case hy_5 => (rintro w' ⟨s0_, s1_⟩; go_simp; with_reducible rfl)); (case ha_5 => (simp (disch := omega) only [Act.put, List.setIfInBounds_toArray, List.set_cons_zero, List.set_cons_succ, wrap_in]; rfl)))
                (refine take_ (i := 4) (N := some 101) (v := ?v_6) (a' := ?a_6) #[true, true, true, true, true, false, false, false, false] rfl rfl (by kernel_rfl) (fun _ _ _ h => h) (Or.inl ⟨by rfl, ?hy_6⟩) hHeld ?ha_6 ?hh_6; (case hy_6 => (rintro w' ⟨s0_, s1_⟩; go_simp; with_reducible rfl)); (case ha_6 => (simp (disch := omega) only [Act.put, List.setIfInBounds_toArray, List.set_cons_zero, List.set_cons_succ, wrap_in]; rfl)))
                (refine take_ (i := 5) (N := some 102) (v := ?v_7) (a' := ?a_7) #[true, true, true, true, true, true, false, false, false] rfl rfl (by kernel_rfl) (fun _ _ _ h => h) (Or.inl ⟨by rfl, ?hy_7⟩) hHeld ?ha_7 ?hh_7; (case hy_7 => (rintro w' ⟨s0_, s1_⟩; go_simp; with_reducible rfl)); (case ha_7 => (simp (disch := omega) only [Act.put, List.setIfInBounds_toArray, List.set_cons_zero, List.set_cons_succ, wrap_in]; rfl)))
                (refine take_ (i := 6) (N := some 103) (v := ?v_8) (a' := ?a_8) #[true, true, true, true, true, true, true, false, false] rfl rfl (by kernel_rfl) (fun _ _ _ h => h) (Or.inl ⟨by rfl, ?hy_8⟩) hHeld ?ha_8 ?hh_8; (case hy_8 => (rintro w' ⟨s0_, s1_⟩; go_simp; with_reducible rfl)); (case ha_8 => (simp (disch := omega) only [Act.put, List.setIfInBounds_toArray, List.set_cons_zero, List.set_cons_succ, wrap_in]; rfl)))
                (refine take_ (i := 7) (N := some 104) (v := ?v_9) (a' := ?a_9) #[true, true, true, true, true, true, true, true, false] rfl rfl (by kernel_rfl) (fun _ _ _ h => h) (Or.inl ⟨by rfl, ?hy_9⟩) hHeld ?ha_9 ?hh_9; (case hy_9 => (rintro w' ⟨s0_, s1_⟩; go_simp; with_reducible rfl)); (case ha_9 => (simp (disch := omega) only [Act.put, List.setIfInBounds_toArray, List.set_cons_zero, List.set_cons_succ, wrap_in]; rfl)))
                (refine take_ (i := 8) (N := some 105) (v := ?v_10) (a' := ?a_10) #[true, true, true, true, true, true, true, true, true] rfl rfl (by kernel_rfl) (fun _ _ _ h => h) (Or.inl ⟨by rfl, ?hy_10⟩) hHeld ?ha_10 ?hh_10; (case hy_10 => (rintro w' ⟨s0_, s1_⟩; go_simp; with_reducible rfl)); (case ha_10 => (simp (disch := omega) only [Act.put, List.setIfInBounds_toArray, List.set_cons_zero, List.set_cons_succ, wrap_in]; rfl)))
                refine done_ (by kernel_rfl) ?_
                cases t5
                · go_wp2_with (fail)
                  go_roundg (m3 - 1)
                  case measure => have := HM3.out; omega
                  case rel => exact ⟨q + 1, l, by have := HM3.out; omega, by omega, hjl, hli, rfl, by go_num, HKL.out, fun x h1 h2 => by
                    by_cases hx : x = q
                    · subst hx; rw [HKQ.out]; intro h; injection h with h; subst h; simp at ht5
                    · exact HNO.out x h1 (by omega), HH.out, HBB.out.drew⟩
                · go_wp2_with (fail)
                  go_roundg (m3 - 1)
                  case measure => have := HM3.out; omega
                  case rel => exact ⟨q + 1, q, by have := HM3.out; omega, by omega, hjq, hq, rfl, by go_num, by rw [HKQ.out]; simp at ht5; rw [ht5], fun x h1 h2 => by omega, HH.out, HBB.out.drew⟩
                --D]
              · --[F
                have hqe : q = i := by omega
                subst hqe
                have P2 := HP.out.moved HH.out HBB.out
                have hlv : l < vs.length := by rw [HP.out.len]; exact hli
                have hvl := List.getElem?_eq_getElem hlv
                obtain ⟨g2, n2, c2, cur2, x2, h1, h2, h3, h4, h5⟩ := P2.vb _ (List.getElem_mem hlv)
                have hmem : (some ⟨g2, 0, none⟩, n2, c2) ∈ vs := by rw [← h1]; exact List.getElem_mem _
                rw [h1] at hvl
                have hget : T.get ltZ kj t = some (some ⟨g2, 0, none⟩, n2, c2) := by
                  rw [T.get_look swoZ kj t P2.rises, P2.last kj]
                  exact lastOf_at (ks.take q) vs (by rw [P2.len, HTL.out]) kj l _ HKL.out hvl (fun x h1 h2 => HNO.out x h1 (by rw [HTL.out] at h2; exact h2))
                have GG := Tb.get_any kj P2.tree
                rw [hget] at GG
                have KGG := Lib.hid GG
                have d1 : wq.cell? ⟨gf, j, none⟩ = some (.int .i64 kj) := by have := P2.of_.cell' HKJ.out (j := 0) rfl; simpa using this
                have o1 : wq.cell? ⟨go, l, none⟩ = some (.slice (some ⟨g2, 0, none⟩) n2 c2) := by have := P2.own.cell' hvl (j := 0) rfl; simpa using this
                have b1 : wq.cell? ⟨g2, 0, none⟩ = some (.int .u8 x2) := cell_blk h4 0 h5
                have fb1 : wq.drew.frozen? ⟨g2, 0, none⟩ = false := free_blk h4 0
                have P3 := Lib.hid (fun x => (P2.moved (w' := wq.drew) rfl P2.below.drew).store hmem x)
                have KC := Lib.hid h4
                have h5' := (Array.getElem?_eq_some_iff.1 h5).1
                have HCS := Lib.hid h5'
                have z1 : decide (q < q) = false := by simp
                have z2 : 0 < n2 := by omega
                have z3 : l < q := hli
                have HVL := Lib.hid hvl
                clear P2 hlv hvl h1 h4 h5 hmem hget GG h3 h5'
                go_wp2_with (fail)
                refine KGG.out.mono ?_
                rintro e w_ ⟨rfl, rfl⟩
                clear d1
                go_wp2_with (fail)
                refine start_ (n := 24) (S := fun w' => w'.cell? ⟨go, l, none⟩ = some (.slice (some ⟨g2, 0, none⟩) n2 c2) ∧ w'.cell? ⟨g2, 0, none⟩ = some (.int .u8 x2)) (ds := []) #[false, false, false, false, false, false, false, false, false, false, false, false, false, false, false, false, false, false, false, false, false, false, false, false] (by kernel_rfl) rfl rfl ⟨o1, b1⟩ (fun hHeld => ?_)
                (refine take_ (i := 0) (N := some 116) (v := ?v_13) (a' := ?a_13) #[true, false, false, false, false, false, false, false, false, false, false, false, false, false, false, false, false, false, false, false, false, false, false, false] rfl rfl (by kernel_rfl) (fun _ _ _ h => h) (Or.inl ⟨by rfl, ?hy_13⟩) hHeld ?ha_13 ?hh_13; (case hy_13 => (rintro w' ⟨s0_, s1_⟩; go_simp; with_reducible rfl)); (case ha_13 => (simp (disch := omega) only [Act.put, List.setIfInBounds_toArray, List.set_cons_zero, List.set_cons_succ, wrap_in]; rfl)))
                (refine take_ (i := 1) (N := some 117) (v := ?v_14) (a' := ?a_14) #[true, true, false, false, false, false, false, false, false, false, false, false, false, false, false, false, false, false, false, false, false, false, false, false] rfl rfl (by kernel_rfl) (fun _ _ _ h => h) (Or.inl ⟨by rfl, ?hy_14⟩) hHeld ?ha_14 ?hh_14; (case hy_14 => (rintro w' ⟨s0_, s1_⟩; go_simp; with_reducible rfl)); (case ha_14 => (simp (disch := omega) only [Act.put, List.setIfInBounds_toArray, List.set_cons_zero, List.set_cons_succ, wrap_in]; rfl)))
                (refine take_ (i := 2) (N := some 118) (v := ?v_15) (a' := ?a_15) #[true, true, true, false, false, false, false, false, false, false, false, false, false, false, false, false, false, false, false, false, false, false, false, false] rfl rfl (by kernel_rfl) (fun _ _ _ h => h) (Or.inl ⟨by rfl, ?hy_15⟩) hHeld ?ha_15 ?hh_15; (case hy_15 => (rintro w' ⟨s0_, s1_⟩; go_simp; with_reducible rfl)); (case ha_15 => (simp (disch := omega) only [Act.put, List.setIfInBounds_toArray, List.set_cons_zero, List.set_cons_succ, wrap_in]; rfl)))
                first | (refine take_ (i := 3) (N := some 119) (v := undef) (a' := ?a_16) #[true, true, true, true, false, false, false, false, false, false, false, false, false, false, false, false, false, false, false, false, false, false, false, false] rfl rfl (by kernel_rfl) (fun _ _ _ h => h) (Or.inr ⟨by rfl, rfl⟩) hHeld ?ha_16 ?hh_16; (case ha_16 => (simp (disch := omega) only [Act.put, List.setIfInBounds_toArray, List.set_cons_zero, List.set_cons_succ, wrap_in]; rfl))) | (refine take_ (i := 3) (N := some 119) (v := ?v_16) (a' := ?a_16) #[true, true, true, true, false, false, false, false, false, false, false, false, false, false, false, false, false, false, false, false, false, false, false, false] rfl rfl (by kernel_rfl) (fun _ _ _ h => h) (Or.inl ⟨by rfl, ?hy_16⟩) hHeld ?ha_16 ?hh_16; (case hy_16 => (rintro w' ⟨s0_, s1_⟩; go_simp; with_reducible rfl)); (case ha_16 => (simp (disch := omega) only [Act.put, List.setIfInBounds_toArray, List.set_cons_zero, List.set_cons_succ, wrap_in]; rfl)))
                first | (refine take_ (i := 4) (N := some 120) (v := undef) (a' := ?a_17) #[true, true, true, true, true, false, false, false, false, false, false, false, false, false, false, false, false, false, false, false, false, false, false, false] rfl rfl (by kernel_rfl) (fun _ _ _ h => h) (Or.inr ⟨by rfl, rfl⟩) hHeld ?ha_17 ?hh_17; (case ha_17 => (simp (disch := omega) only [Act.put, List.setIfInBounds_toArray, List.set_cons_zero, List.set_cons_succ, wrap_in]; rfl))) | (refine take_ (i := 4) (N := some 120) (v := ?v_17) (a' := ?a_17) #[true, true, true, true, true, false, false, false, false, false, false, false, false, false, false, false, false, false, false, false, false, false, false, false] rfl rfl (by kernel_rfl) (fun _ _ _ h => h) (Or.inl ⟨by rfl, ?hy_17⟩) hHeld ?ha_17 ?hh_17; (case hy_17 => (rintro w' ⟨s0_, s1_⟩; go_simp; with_reducible rfl)); (case ha_17 => (simp (disch := omega) only [Act.put, List.setIfInBounds_toArray, List.set_cons_zero, List.set_cons_succ, wrap_in]; rfl)))
                first | (refine take_ (i := 5) (N := some 121) (v := undef) (a' := ?a_18) #[true, true, true, true, true, true, false, false, false, false, false, false, false, false, false, false, false, false, false, false, false, false, false, false] rfl rfl (by kernel_rfl) (fun _ _ _ h => h) (Or.inr ⟨by rfl, rfl⟩) hHeld ?ha_18 ?hh_18; (case ha_18 => (simp (disch := omega) only [Act.put, List.setIfInBounds_toArray, List.set_cons_zero, List.set_cons_succ, wrap_in]; rfl))) | (refine take_ (i := 5) (N := some 121) (v := ?v_18) (a' := ?a_18) #[true, true, true, true, true, true, false, false, false, false, false, false, false, false, false, false, false, false, false, false, false, false, false, false] rfl rfl (by kernel_rfl) (fun _ _ _ h => h) (Or.inl ⟨by rfl, ?hy_18⟩) hHeld ?ha_18 ?hh_18; (case hy_18 => (rintro w' ⟨s0_, s1_⟩; go_simp; with_reducible rfl)); (case ha_18 => (simp (disch := omega) only [Act.put, List.setIfInBounds_toArray, List.set_cons_zero, List.set_cons_succ, wrap_in]; rfl)))
                first | (refine take_ (i := 6) (N := some 122) (v := undef) (a' := ?a_19) #[true, true, true, true, true, true, true, false, false, false, false, false, false, false, false, false, false, false, false, false, false, false, false, false] rfl rfl (by kernel_rfl) (fun _ _ _ h => h) (Or.inr ⟨by rfl, rfl⟩) hHeld ?ha_19 ?hh_19; (case ha_19 => (simp (disch := omega) only [Act.put, List.setIfInBounds_toArray, List.set_cons_zero, List.set_cons_succ, wrap_in]; rfl))) | (refine take_ (i := 6) (N := some 122) (v := ?v_19) (a' := ?a_19) #[true, true, true, true, true, true, true, false, false, false, false, false, false, false, false, false, false, false, false, false, false, false, false, false] rfl rfl (by kernel_rfl) (fun _ _ _ h => h) (Or.inl ⟨by rfl, ?hy_19⟩) hHeld ?ha_19 ?hh_19; (case hy_19 => (rintro w' ⟨s0_, s1_⟩; go_simp; with_reducible rfl)); (case ha_19 => (simp (disch := omega) only [Act.put, List.setIfInBounds_toArray, List.set_cons_zero, List.set_cons_succ, wrap_in]; rfl)))
                first | (refine take_ (i := 7) (N := some 123) (v := undef) (a' := ?a_20) #[true, true, true, true, true, true, true, true, false, false, false, false, false, false, false, false, false, false, false, false, false, false, false, false] rfl rfl (by kernel_rfl) (fun _ _ _ h => h) (Or.inr ⟨by rfl, rfl⟩) hHeld ?ha_20 ?hh_20; (case ha_20 => (simp (disch := omega) only [Act.put, List.setIfInBounds_toArray, List.set_cons_zero, List.set_cons_succ, wrap_in]; rfl))) | (refine take_ (i := 7) (N := some 123) (v := ?v_20) (a' := ?a_20) #[true, true, true, true, true, true, true, true, false, false, false, false, false, false, false, false, false, false, false, false, false, false, false, false] rfl rfl (by kernel_rfl) (fun _ _ _ h => h) (Or.inl ⟨by rfl, ?hy_20⟩) hHeld ?ha_20 ?hh_20; (case hy_20 => (rintro w' ⟨s0_, s1_⟩; go_simp; with_reducible rfl)); (case ha_20 => (simp (disch := omega) only [Act.put, List.setIfInBounds_toArray, List.set_cons_zero, List.set_cons_succ, wrap_in]; rfl)))
                first | (refine take_ (i := 8) (N := some 124) (v := undef) (a' := ?a_21) #[true, true, true, true, true, true, true, true, true, false, false, false, false, false, false, false, false, false, false, false, false, false, false, false] rfl rfl (by kernel_rfl) (fun _ _ _ h => h) (Or.inr ⟨by rfl, rfl⟩) hHeld ?ha_21 ?hh_21; (case ha_21 => (simp (disch := omega) only [Act.put, List.setIfInBounds_toArray, List.set_cons_zero, List.set_cons_succ, wrap_in]; rfl))) | (refine take_ (i := 8) (N := some 124) (v := ?v_21) (a' := ?a_21) #[true, true, true, true, true, true, true, true, true, false, false, false, false, false, false, false, false, false, false, false, false, false, false, false] rfl rfl (by kernel_rfl) (fun _ _ _ h => h) (Or.inl ⟨by rfl, ?hy_21⟩) hHeld ?ha_21 ?hh_21; (case hy_21 => (rintro w' ⟨s0_, s1_⟩; go_simp; with_reducible rfl)); (case ha_21 => (simp (disch := omega) only [Act.put, List.setIfInBounds_toArray, List.set_cons_zero, List.set_cons_succ, wrap_in]; rfl)))
                first | (refine take_ (i := 9) (N := some 125) (v := undef) (a' := ?a_22) #[true, true, true, true, true, true, true, true, true, true, false, false, false, false, false, false, false, false, false, false, false, false, false, false] rfl rfl (by kernel_rfl) (fun _ _ _ h => h) (Or.inr ⟨by rfl, rfl⟩) hHeld ?ha_22 ?hh_22; (case ha_22 => (simp (disch := omega) only [Act.put, List.setIfInBounds_toArray, List.set_cons_zero, List.set_cons_succ, wrap_in]; rfl))) | (refine take_ (i := 9) (N := some 125) (v := ?v_22) (a' := ?a_22) #[true, true, true, true, true, true, true, true, true, true, false, false, false, false, false, false, false, false, false, false, false, false, false, false] rfl rfl (by kernel_rfl) (fun _ _ _ h => h) (Or.inl ⟨by rfl, ?hy_22⟩) hHeld ?ha_22 ?hh_22; (case hy_22 => (rintro w' ⟨s0_, s1_⟩; go_simp; with_reducible rfl)); (case ha_22 => (simp (disch := omega) only [Act.put, List.setIfInBounds_toArray, List.set_cons_zero, List.set_cons_succ, wrap_in]; rfl)))
                first | (refine take_ (i := 10) (N := some 126) (v := undef) (a' := ?a_23) #[true, true, true, true, true, true, true, true, true, true, true, false, false, false, false, false, false, false, false, false, false, false, false, false] rfl rfl (by kernel_rfl) (fun _ _ _ h => h) (Or.inr ⟨by rfl, rfl⟩) hHeld ?ha_23 ?hh_23; (case ha_23 => (simp (disch := omega) only [Act.put, List.setIfInBounds_toArray, List.set_cons_zero, List.set_cons_succ, wrap_in]; rfl))) | (refine take_ (i := 10) (N := some 126) (v := ?v_23) (a' := ?a_23) #[true, true, true, true, true, true, true, true, true, true, true, false, false, false, false, false, false, false, false, false, false, false, false, false] rfl rfl (by kernel_rfl) (fun _ _ _ h => h) (Or.inl ⟨by rfl, ?hy_23⟩) hHeld ?ha_23 ?hh_23; (case hy_23 => (rintro w' ⟨s0_, s1_⟩; go_simp; with_reducible rfl)); (case ha_23 => (simp (disch := omega) only [Act.put, List.setIfInBounds_toArray, List.set_cons_zero, List.set_cons_succ, wrap_in]; rfl)))
                (refine take_ (i := 11) (N := some 127) (v := ?v_24) (a' := ?a_24) #[true, true, true, true, true, true, true, true, true, true, true, true, false, false, false, false, false, false, false, false, false, false, false, false] rfl rfl (by kernel_rfl) (fun _ _ _ h => h) (Or.inl ⟨by rfl, ?hy_24⟩) hHeld ?ha_24 ?hh_24; (case hy_24 => (rintro w' ⟨s0_, s1_⟩; go_simp; with_reducible rfl)); (case ha_24 => (simp (disch := omega) only [Act.put, List.setIfInBounds_toArray, List.set_cons_zero, List.set_cons_succ, wrap_in]; rfl)))
                (refine take_ (i := 12) (N := some 128) (v := ?v_25) (a' := ?a_25) #[true, true, true, true, true, true, true, true, true, true, true, true, true, false, false, false, false, false, false, false, false, false, false, false] rfl rfl (by kernel_rfl) (fun _ _ _ h => h) (Or.inl ⟨by rfl, ?hy_25⟩) hHeld ?ha_25 ?hh_25; (case hy_25 => (rintro w' ⟨s0_, s1_⟩; go_simp; with_reducible rfl)); (case ha_25 => (simp (disch := omega) only [Act.put, List.setIfInBounds_toArray, List.set_cons_zero, List.set_cons_succ, wrap_in]; rfl)))
                first | (refine take_ (i := 13) (N := some 129) (v := undef) (a' := ?a_26) #[true, true, true, true, true, true, true, true, true, true, true, true, true, true, false, false, false, false, false, false, false, false, false, false] rfl rfl (by kernel_rfl) (fun _ _ _ h => h) (Or.inr ⟨by rfl, rfl⟩) hHeld ?ha_26 ?hh_26; (case ha_26 => (simp (disch := omega) only [Act.put, List.setIfInBounds_toArray, List.set_cons_zero, List.set_cons_succ, wrap_in]; rfl))) | (refine take_ (i := 13) (N := some 129) (v := ?v_26) (a' := ?a_26) #[true, true, true, true, true, true, true, true, true, true, true, true, true, true, false, false, false, false, false, false, false, false, false, false] rfl rfl (by kernel_rfl) (fun _ _ _ h => h) (Or.inl ⟨by rfl, ?hy_26⟩) hHeld ?ha_26 ?hh_26; (case hy_26 => (rintro w' ⟨s0_, s1_⟩; go_simp; with_reducible rfl)); (case ha_26 => (simp (disch := omega) only [Act.put, List.setIfInBounds_toArray, List.set_cons_zero, List.set_cons_succ, wrap_in]; rfl)))
                first | (refine take_ (i := 14) (N := some 130) (v := undef) (a' := ?a_27) #[true, true, true, true, true, true, true, true, true, true, true, true, true, true, true, false, false, false, false, false, false, false, false, false] rfl rfl (by kernel_rfl) (fun _ _ _ h => h) (Or.inr ⟨by rfl, rfl⟩) hHeld ?ha_27 ?hh_27; (case ha_27 => (simp (disch := omega) only [Act.put, List.setIfInBounds_toArray, List.set_cons_zero, List.set_cons_succ, wrap_in]; rfl))) | (refine take_ (i := 14) (N := some 130) (v := ?v_27) (a' := ?a_27) #[true, true, true, true, true, true, true, true, true, true, true, true, true, true, true, false, false, false, false, false, false, false, false, false] rfl rfl (by kernel_rfl) (fun _ _ _ h => h) (Or.inl ⟨by rfl, ?hy_27⟩) hHeld ?ha_27 ?hh_27; (case hy_27 => (rintro w' ⟨s0_, s1_⟩; go_simp; with_reducible rfl)); (case ha_27 => (simp (disch := omega) only [Act.put, List.setIfInBounds_toArray, List.set_cons_zero, List.set_cons_succ, wrap_in]; rfl)))
                first | (refine take_ (i := 15) (N := some 131) (v := undef) (a' := ?a_28) #[true, true, true, true, true, true, true, true, true, true, true, true, true, true, true, true, false, false, false, false, false, false, false, false] rfl rfl (by kernel_rfl) (fun _ _ _ h => h) (Or.inr ⟨by rfl, rfl⟩) hHeld ?ha_28 ?hh_28; (case ha_28 => (simp (disch := omega) only [Act.put, List.setIfInBounds_toArray, List.set_cons_zero, List.set_cons_succ, wrap_in]; rfl))) | (refine take_ (i := 15) (N := some 131) (v := ?v_28) (a' := ?a_28) #[true, true, true, true, true, true, true, true, true, true, true, true, true, true, true, true, false, false, false, false, false, false, false, false] rfl rfl (by kernel_rfl) (fun _ _ _ h => h) (Or.inl ⟨by rfl, ?hy_28⟩) hHeld ?ha_28 ?hh_28; (case hy_28 => (rintro w' ⟨s0_, s1_⟩; go_simp; with_reducible rfl)); (case ha_28 => (simp (disch := omega) only [Act.put, List.setIfInBounds_toArray, List.set_cons_zero, List.set_cons_succ, wrap_in]; rfl)))
                first | (refine take_ (i := 16) (N := some 132) (v := undef) (a' := ?a_29) #[true, true, true, true, true, true, true, true, true, true, true, true, true, true, true, true, true, false, false, false, false, false, false, false] rfl rfl (by kernel_rfl) (fun _ _ _ h => h) (Or.inr ⟨by rfl, rfl⟩) hHeld ?ha_29 ?hh_29; (case ha_29 => (simp (disch := omega) only [Act.put, List.setIfInBounds_toArray, List.set_cons_zero, List.set_cons_succ, wrap_in]; rfl))) | (refine take_ (i := 16) (N := some 132) (v := ?v_29) (a' := ?a_29) #[true, true, true, true, true, true, true, true, true, true, true, true, true, true, true, true, true, false, false, false, false, false, false, false] rfl rfl (by kernel_rfl) (fun _ _ _ h => h) (Or.inl ⟨by rfl, ?hy_29⟩) hHeld ?ha_29 ?hh_29; (case hy_29 => (rintro w' ⟨s0_, s1_⟩; go_simp; with_reducible rfl)); (case ha_29 => (simp (disch := omega) only [Act.put, List.setIfInBounds_toArray, List.set_cons_zero, List.set_cons_succ, wrap_in]; rfl)))
                first | (refine take_ (i := 17) (N := some 133) (v := undef) (a' := ?a_30) #[true, true, true, true, true, true, true, true, true, true, true, true, true, true, true, true, true, true, false, false, false, false, false, false] rfl rfl (by kernel_rfl) (fun _ _ _ h => h) (Or.inr ⟨by rfl, rfl⟩) hHeld ?ha_30 ?hh_30; (case ha_30 => (simp (disch := omega) only [Act.put, List.setIfInBounds_toArray, List.set_cons_zero, List.set_cons_succ, wrap_in]; rfl))) | (refine take_ (i := 17) (N := some 133) (v := ?v_30) (a' := ?a_30) #[true, true, true, true, true, true, true, true, true, true, true, true, true, true, true, true, true, true, false, false, false, false, false, false] rfl rfl (by kernel_rfl) (fun _ _ _ h => h) (Or.inl ⟨by rfl, ?hy_30⟩) hHeld ?ha_30 ?hh_30; (case hy_30 => (rintro w' ⟨s0_, s1_⟩; go_simp; with_reducible rfl)); (case ha_30 => (simp (disch := omega) only [Act.put, List.setIfInBounds_toArray, List.set_cons_zero, List.set_cons_succ, wrap_in]; rfl)))
                first | (refine take_ (i := 18) (N := some 134) (v := undef) (a' := ?a_31) #[true, true, true, true, true, true, true, true, true, true, true, true, true, true, true, true, true, true, true, false, false, false, false, false] rfl rfl (by kernel_rfl) (fun _ _ _ h => h) (Or.inr ⟨by rfl, rfl⟩) hHeld ?ha_31 ?hh_31; (case ha_31 => (simp (disch := omega) only [Act.put, List.setIfInBounds_toArray, List.set_cons_zero, List.set_cons_succ, wrap_in]; rfl))) | (refine take_ (i := 18) (N := some 134) (v := ?v_31) (a' := ?a_31) #[true, true, true, true, true, true, true, true, true, true, true, true, true, true, true, true, true, true, true, false, false, false, false, false] rfl rfl (by kernel_rfl) (fun _ _ _ h => h) (Or.inl ⟨by rfl, ?hy_31⟩) hHeld ?ha_31 ?hh_31; (case hy_31 => (rintro w' ⟨s0_, s1_⟩; go_simp; with_reducible rfl)); (case ha_31 => (simp (disch := omega) only [Act.put, List.setIfInBounds_toArray, List.set_cons_zero, List.set_cons_succ, wrap_in]; rfl)))
                first | (refine take_ (i := 19) (N := some 135) (v := undef) (a' := ?a_32) #[true, true, true, true, true, true, true, true, true, true, true, true, true, true, true, true, true, true, true, true, false, false, false, false] rfl rfl (by kernel_rfl) (fun _ _ _ h => h) (Or.inr ⟨by rfl, rfl⟩) hHeld ?ha_32 ?hh_32; (case ha_32 => (simp (disch := omega) only [Act.put, List.setIfInBounds_toArray, List.set_cons_zero, List.set_cons_succ, wrap_in]; rfl))) | (refine take_ (i := 19) (N := some 135) (v := ?v_32) (a' := ?a_32) #[true, true, true, true, true, true, true, true, true, true, true, true, true, true, true, true, true, true, true, true, false, false, false, false] rfl rfl (by kernel_rfl) (fun _ _ _ h => h) (Or.inl ⟨by rfl, ?hy_32⟩) hHeld ?ha_32 ?hh_32; (case hy_32 => (rintro w' ⟨s0_, s1_⟩; go_simp; with_reducible rfl)); (case ha_32 => (simp (disch := omega) only [Act.put, List.setIfInBounds_toArray, List.set_cons_zero, List.set_cons_succ, wrap_in]; rfl)))
                first | (refine take_ (i := 20) (N := some 136) (v := undef) (a' := ?a_33) #[true, true, true, true, true, true, true, true, true, true, true, true, true, true, true, true, true, true, true, true, true, false, false, false] rfl rfl (by kernel_rfl) (fun _ _ _ h => h) (Or.inr ⟨by rfl, rfl⟩) hHeld ?ha_33 ?hh_33; (case ha_33 => (simp (disch := omega) only [Act.put, List.setIfInBounds_toArray, List.set_cons_zero, List.set_cons_succ, wrap_in]; rfl))) | (refine take_ (i := 20) (N := some 136) (v := ?v_33) (a' := ?a_33) #[true, true, true, true, true, true, true, true, true, true, true, true, true, true, true, true, true, true, true, true, true, false, false, false] rfl rfl (by kernel_rfl) (fun _ _ _ h => h) (Or.inl ⟨by rfl, ?hy_33⟩) hHeld ?ha_33 ?hh_33; (case hy_33 => (rintro w' ⟨s0_, s1_⟩; go_simp; with_reducible rfl)); (case ha_33 => (simp (disch := omega) only [Act.put, List.setIfInBounds_toArray, List.set_cons_zero, List.set_cons_succ, wrap_in]; rfl)))
                first | (refine take_ (i := 21) (N := some 137) (v := undef) (a' := ?a_34) #[true, true, true, true, true, true, true, true, true, true, true, true, true, true, true, true, true, true, true, true, true, true, false, false] rfl rfl (by kernel_rfl) (fun _ _ _ h => h) (Or.inr ⟨by rfl, rfl⟩) hHeld ?ha_34 ?hh_34; (case ha_34 => (simp (disch := omega) only [Act.put, List.setIfInBounds_toArray, List.set_cons_zero, List.set_cons_succ, wrap_in]; rfl))) | (refine take_ (i := 21) (N := some 137) (v := ?v_34) (a' := ?a_34) #[true, true, true, true, true, true, true, true, true, true, true, true, true, true, true, true, true, true, true, true, true, true, false, false] rfl rfl (by kernel_rfl) (fun _ _ _ h => h) (Or.inl ⟨by rfl, ?hy_34⟩) hHeld ?ha_34 ?hh_34; (case hy_34 => (rintro w' ⟨s0_, s1_⟩; go_simp; with_reducible rfl)); (case ha_34 => (simp (disch := omega) only [Act.put, List.setIfInBounds_toArray, List.set_cons_zero, List.set_cons_succ, wrap_in]; rfl)))
                first | (refine take_ (i := 22) (N := some 138) (v := undef) (a' := ?a_35) #[true, true, true, true, true, true, true, true, true, true, true, true, true, true, true, true, true, true, true, true, true, true, true, false] rfl rfl (by kernel_rfl) (fun _ _ _ h => h) (Or.inr ⟨by rfl, rfl⟩) hHeld ?ha_35 ?hh_35; (case ha_35 => (simp (disch := omega) only [Act.put, List.setIfInBounds_toArray, List.set_cons_zero, List.set_cons_succ, wrap_in]; rfl))) | (refine take_ (i := 22) (N := some 138) (v := ?v_35) (a' := ?a_35) #[true, true, true, true, true, true, true, true, true, true, true, true, true, true, true, true, true, true, true, true, true, true, true, false] rfl rfl (by kernel_rfl) (fun _ _ _ h => h) (Or.inl ⟨by rfl, ?hy_35⟩) hHeld ?ha_35 ?hh_35; (case hy_35 => (rintro w' ⟨s0_, s1_⟩; go_simp; with_reducible rfl)); (case ha_35 => (simp (disch := omega) only [Act.put, List.setIfInBounds_toArray, List.set_cons_zero, List.set_cons_succ, wrap_in]; rfl)))
                (refine take_ (i := 23) (N := some 139) (v := ?v_36) (a' := ?a_36) #[true, true, true, true, true, true, true, true, true, true, true, true, true, true, true, true, true, true, true, true, true, true, true, true] rfl rfl (by kernel_rfl) (fun _ _ _ h => h) (Or.inl ⟨by rfl, ?hy_36⟩) hHeld ?ha_36 ?hh_36; (case hy_36 => (rintro w' ⟨s0_, s1_⟩; go_simp; with_reducible rfl)); (case ha_36 => (simp (disch := omega) only [Act.put, List.setIfInBounds_toArray, List.set_cons_zero, List.set_cons_succ, wrap_in]; rfl)))
                refine done_ (by kernel_rfl) ?_
                have o2 : ∀ x, (wq.drew.setCell ⟨g2, 0, none⟩ (.int .u8 x)).cell? ⟨go, l, none⟩ = some (.slice (some ⟨g2, 0, none⟩) n2 c2) := fun x => by
                  have := (P3.out x).own.cell' (i := l) (x := (some ⟨g2, 0, none⟩, n2, c2)) HVL.out (j := 0) rfl
                  simpa using this
                have b2 : ∀ x, (wq.drew.setCell ⟨g2, 0, none⟩ (.int .u8 x)).cell? ⟨g2, 0, none⟩ = some (.int .u8 x) := fun x => cell_blk (setCell_heap wq.drew g2 0 _ _ _ _ KC.out) 0 (by have := HCS.out; simp [this])
                have o3 : (wq.setCell ⟨g2, 0, none⟩ (.int .u8 ((l : Int) % 256))).cell? ⟨go, l, none⟩ = some (.slice (some ⟨g2, 0, none⟩) n2 c2) := o2 _
                have b3 : (wq.setCell ⟨g2, 0, none⟩ (.int .u8 ((l : Int) % 256))).cell? ⟨g2, 0, none⟩ = some (.int .u8 ((l : Int) % 256)) := b2 _
                clear o2 b2
                go_wp2_with (fail)
                go_roundg (m2 - 1)
                case measure => have := HM2.out; omega
                case rel => exact ⟨j + 1, by have := HM2.out; omega, by go_num, P3.out _⟩
                --F]
          · have z1 : decide (j < i) = false := by simp; omega
            go_wp2_with (fail)
            go_ret
            exact ⟨rfl, HP.out.below⟩
        --C]
namespace treeLists
open Go.ChangeShapes Go.WideShapes Go.ChangeAt Go.RowKit
open Go.ChangeMaps (open_string shut_string)
theorem own : ownKnob Try.prog.godebug = none := by kernel_rfl
theorem laidOut : laidOutB Try.prog = true := by kernel_rfl
set_option maxRecDepth 100000 in
theorem lifted (os : Os) (started : os.Started) (H : Type) (enc : TypeId × Value → H) :
    ReturnsInHanded {} Try.checked os 3 .any (Rows.treeListsSpec.pre6 enc Try.prog Try.f3 Rows.treeListsRow.domain false) (Rows.treeListsSpec.post enc Try.prog Try.f3 false true false false) := by
  refine returnsInHanded_of_change_sized (C := Try.checked) own started (by kernel_rfl) Try.func3
    (ChangeSpec.witness6 (enc := enc) (C := Try.checked) false ⟨#[], #[.slice none 0 0, .slice none 0 0, .int .i64 0, .int .u8 0], []⟩ 8 (by kernel_rfl) (by kernel_rfl) (by kernel_rfl) (by kernel_rfl)) ?_
  intro W base args ds gs before hval0 hW hcnd hsz0 _
  have hsz : (DataW.weightsEach Try.prog (Try.f3.params.toList ++ Rows.treeListsSpec.plain.varTypes Try.prog) (ds ++ gs)).all (· ≤ reachBytes) = true := hsz0
  have hval : ∀ (j : Nat) t v, Try.f3.params[j]? = some t → args[j]? = some v → Value.okWide Try.prog W .any base t v := hval0
  have hW' := hW
  obtain ⟨p, q, hA0, hV, rfl, hfz, hnd⟩ := hW
  have hA : DataW.TrodAll enc Try.prog W 0 (fun _ => true) true Try.f3.params.toList args.toList ds p := hA0
  rw [Try.params3] at hA hval hsz
  obtain ⟨v0, vs0, d0, ds0, p0, q0, hargs, rfl, rfl, h0, r0⟩ := trodAll_cons hA
  obtain ⟨v1, vs1, d1, ds1, p1, q1, rfl, rfl, rfl, h1, r1⟩ := trodAll_cons r0
  obtain ⟨v2, vs2, d2, ds2, p2, q2, rfl, rfl, rfl, h2, r2⟩ := trodAll_cons r1
  obtain ⟨v3, vs3, d3, ds3, p3, q3, rfl, rfl, rfl, h3, r3⟩ := trodAll_cons r2
  obtain ⟨rfl, rfl, rfl⟩ := trodAll_nil r3
  obtain rfl : args = #[v0, v1, v2, v3] := by cases args; simp_all
  obtain ⟨rfl, rfl⟩ := trodVars_none hV
  obtain ⟨a0, len0, cap0, rfl⟩ := okWide_slice Try.underlying22 (hval 0 22 v0 rfl rfl)
  have k0 := h0
  have lt0 : ∀ x ∈ p0, x.block < W.heap.size := by obtain ⟨m, hm⟩ := k0; exact DataW.trod_lt m _ _ _ hm
  obtain ⟨xs0, rfl, hc0, hm0, hb0, hn0, he0⟩ := opened_slice (opens_ints W) h0 (weights_at hsz (j := 0) (t := 22) rfl rfl)
  obtain ⟨a1, len1, cap1, rfl⟩ := okWide_slice Try.underlying23 (hval 1 23 v1 rfl rfl)
  have k1 := h1
  have lt1 : ∀ x ∈ p1, x.block < W.heap.size := by obtain ⟨m, hm⟩ := k1; exact DataW.trod_lt m _ _ _ hm
  obtain ⟨xs1, rfl, hc1, hm1, hb1, hn1, he1⟩ := opened_slice (opens_lists W) h1 (weights_at hsz (j := 1) (t := 23) rfl rfl)
  obtain ⟨a2, rfl, rfl, rfl, w2⟩ := open_int Try.underlying3 (hval 2 3 v2 rfl rfl) h2
  obtain ⟨a3, rfl, rfl, rfl, w3⟩ := open_int Try.underlying5 (hval 3 5 v3 rfl rfl) h3
  clear hA0 hval0 hsz0 hsz
  refine (lists_1 W a0 cap0 xs0 hc0 hm0 hb0 hn0 he0 a1 cap1 xs1 hc1 hm1 hb1 hn1 he1 a2 w2 a3 w3).mono fun e W' ⟨he, bel⟩ => ?_
  subst he
  exact ⟨_, rfl, _, _, _, [], _, [], hW', trodAll_mk1 (shut_bool Try.underlying4 _), (trodAll_cons_mk (Below.trod laidOut (by kernel_rfl) (of_decide_eq_true (by kernel_rfl)) k0 bel lt0) (trodAll_cons_mk (Below.trod laidOut (by kernel_rfl) (of_decide_eq_true (by kernel_rfl)) k1 bel lt1) (trodAll_cons_mk (shut_int Try.underlying3 w2) (trodAll_cons_mk (shut_int Try.underlying5 w3) trodAll_mk0)))), rfl, bel.frame _, fun h => by cases h⟩
theorem over : Rows.treeListsRow.holds Try.pinned (OpenSpec.ofChange Rows.treeListsSpec) :=
  OpenClaim.holds_of_wide 3 Try.f3 rfl rfl rfl rfl rfl rfl rfl ⟨rfl, rfl, rfl, rfl, rfl⟩ rfl rfl rfl rfl rfl (by kernel_rfl) Try.func3 (by kernel_rfl)
    (of_decide_eq_true (by kernel_rfl)) (by unfold Func.isWrapper; first | (rw [if_pos (by decide +kernel)]; kernel_rfl) | (rw [if_neg (by decide +kernel)]; exact ⟨rfl, rfl⟩))
    (fun os started H enc _ => lifted os started H enc)
theorem proved : Rows.TreeListsSaid := over
end treeLists
theorem treeLists_holds : Rows.TreeListsSaid := treeLists.proved
#print axioms treeLists_holds
end Go.Proofs.Ytmichnnkkpgpmaa
