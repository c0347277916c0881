/- digits, run, zig: what TreeDepth calls. -/
import Derived.Test.YtmichnnkkpgpmaaQ8
namespace Go.Proofs.Ytmichnnkkpgpmaa
set_option linter.unusedVariables false
set_option linter.unusedSimpArgs false
open Go.RowKit Go.Deep Go.Shelf Go.Proofs.YtmichnnkkpgpmaaW.PrintLast

/-- A tree whose keys rise, balanced. -/
def RB (t : TI) : Prop := T.Rises ltZ t.toList ∧ T.Bal t
theorem RB.nil : RB .nil := ⟨List.Pairwise.nil, trivial⟩
theorem RB.put {t : TI} (h : RB t) (k v : Int) : RB (T.put ltZ k v t) := ⟨T.rises_put swoZ h.1, T.bal_put ltZ k v t h.2⟩
theorem RB.split {t : TI} (h : RB t) (k : Int) : RB (T.splitL ltZ k t) ∧ RB (T.splitR ltZ k t) := by
  refine ⟨⟨?_, (T.bal_split ltZ k t h.2).1⟩, ⟨?_, (T.bal_split ltZ k t h.2).2⟩⟩
  · rw [T.toList_splitL swoZ k t h.1]; exact h.1.und_
  · rw [T.toList_splitR swoZ k t h.1]; exact h.1.from_'
theorem RB.del {t : TI} (h : RB t) (k : Int) : RB (T.del ltZ k t).1 := by
  refine ⟨?_, T.bal_del ltZ k t h.2⟩
  rw [(T.del_law swoZ k t h.1).1]; exact h.1.sans_
theorem bins_64 {n : Nat} (h : n ≤ 4611686018427387904) : T.bins n ≤ 63 := T.bins_le (by omega)
set_option maxHeartbeats 1000000 in
theorem digits_any (n : Nat) (hn : n ≤ 4611686018427387904) (w : World) : Calls Try.prog 28 #[.int .i64 n] w fun e w' => e = .returned (.int .i64 (T.bins n)) ∧ w = w' := by
  have hb := bins_64 hn
  go_enter Try.func28, Try.ntmps28
  go_upto_region 2 with (fail)
  refine wp_loop_ghost_k (fun (m : Nat) (ac : Act) (wr : World) => ∃ u1 u2 u4 u5 u6 u7 u8 u9 u10 v0 v3 : Value, (∃ (n' : Nat) (k : Nat), m = n' ∧ v0 = .int .i64 n' ∧ v3 = .int .i64 k ∧ k + T.bins n' = T.bins n ∧ n' ≤ n ∧ w = wr) ∧ ac = ({ tmps := #[v0, u1, u2, v3, u4, u5, u6, u7, u8, u9, u10], defers := [] } : Act)) (n) ?atStart ?round
  case' atStart => ((repeat apply Exists.intro); refine ⟨?_, rfl⟩)
  case' round => (intro m ac wr hcut; obtain ⟨u1, hcut⟩ := hcut; obtain ⟨u2, hcut⟩ := hcut; obtain ⟨u4, hcut⟩ := hcut; obtain ⟨u5, hcut⟩ := hcut; obtain ⟨u6, hcut⟩ := hcut; obtain ⟨u7, hcut⟩ := hcut; obtain ⟨u8, hcut⟩ := hcut; obtain ⟨u9, hcut⟩ := hcut; obtain ⟨u10, hcut⟩ := hcut; obtain ⟨v0, hcut⟩ := hcut; obtain ⟨v3, hcut⟩ := hcut; obtain ⟨hcut, hac⟩ := hcut; subst hac; intro _ _ _ _)
  case atStart => exact ⟨n, 0, rfl, rfl, rfl, by omega, Nat.le_refl _, rfl⟩
  case round =>
    obtain ⟨n', k, hm, rfl, rfl, hk, hle, rfl⟩ := hcut
    have HM := Lib.hid hm
    have HK := Lib.hid hk
    have hk0 : k ≤ 63 := by omega
    clear hm hk
    by_cases h : n' = 0
    · subst h
      have z1 : decide ((0 : Int) < ((0 : Nat) : Int)) = false := by simp
      go_wp2_with (fail)
      go_ret
      refine ⟨ret_i ?_, rfl⟩
      have := HK.out
      rw [T.bins_zero] at this
      omega
    · have hp : 0 < n' := by omega
      have z1 : decide ((0 : Int) < (n' : Int)) = true := by simp; omega
      have HB := Lib.hid (T.bins_pos h)
      clear h
      go_wp2_with (fail)
      go_roundg (n' / 2)
      case measure => have := HM.out; omega
      case rel => exact ⟨n' / 2, k + 1, rfl, by go_num, by go_num, by have := HK.out; have := HB.out; omega, by omega, rfl⟩
/-- What a row of puts makes. -/
def RunP (w : World) (n : Nat) (e : Ending) (w' : World) : Prop := ∃ p u, e = .returned (.pointer p) ∧ Ti.TreeAt w' p u ∧ RB u ∧ u.size ≤ n ∧ Below w.heap.size w w'
set_option maxHeartbeats 2000000 in
theorem run_any {t : TI} {w : World} {p : Option Addr} (h : Ti.TreeAt w p t) (hr : RB t) (hs : t.size ≤ 4398046511104) (from_ by_ : Int) (n : Nat) (hn : n ≤ 3000) : Calls Try.prog 21 #[.pointer p, .int .i64 from_, .int .i64 by_, .int .i64 n] w (RunP w (t.size + n)) := by
  have HH := Lib.hid h
  have HR := Lib.hid hr
  clear h hr
  go_enter Try.func21, Try.ntmps21
  go_upto_region 2 with (fail)
  refine wp_loop_ghost_k (fun (m : Nat) (ac : Act) (wr : World) => ∃ u4 u5 u6 u7 u8 u10 u11 u12 u13 u14 u15 u16 u17 u18 u19 u20 u21 u22 u23 v0 v9 : Value, (∃ (i : Nat) (q : Option Addr) (u : TI), m + i = n ∧ v0 = .pointer q ∧ v9 = .int .i64 i ∧ Ti.TreeAt wr q u ∧ RB u ∧ u.size ≤ t.size + i ∧ Below w.heap.size w wr) ∧ ac = ({ tmps := #[v0, .int .i64 from_, .int .i64 by_, .int .i64 n, u4, u5, u6, u7, u8, v9, u10, u11, u12, u13, u14, u15, u16, u17, u18, u19, u20, u21, u22, u23], defers := [] } : Act)) (n) ?atStart ?round
  case' atStart => ((repeat apply Exists.intro); refine ⟨?_, rfl⟩)
  case' round => (intro m ac wr hcut; obtain ⟨u4, hcut⟩ := hcut; obtain ⟨u5, hcut⟩ := hcut; obtain ⟨u6, hcut⟩ := hcut; obtain ⟨u7, hcut⟩ := hcut; obtain ⟨u8, hcut⟩ := hcut; obtain ⟨u10, hcut⟩ := hcut; obtain ⟨u11, hcut⟩ := hcut; obtain ⟨u12, hcut⟩ := hcut; obtain ⟨u13, hcut⟩ := hcut; obtain ⟨u14, hcut⟩ := hcut; obtain ⟨u15, hcut⟩ := hcut; obtain ⟨u16, hcut⟩ := hcut; obtain ⟨u17, hcut⟩ := hcut; obtain ⟨u18, hcut⟩ := hcut; obtain ⟨u19, hcut⟩ := hcut; obtain ⟨u20, hcut⟩ := hcut; obtain ⟨u21, hcut⟩ := hcut; obtain ⟨u22, hcut⟩ := hcut; obtain ⟨u23, hcut⟩ := hcut; obtain ⟨v0, hcut⟩ := hcut; obtain ⟨v9, hcut⟩ := hcut; obtain ⟨hcut, hac⟩ := hcut; subst hac; intro _ _ _ _)
  case atStart => exact ⟨0, p, t, rfl, rfl, rfl, HH.out, HR.out, Nat.le_refl _, Below.refl _ _⟩
  case round =>
    obtain ⟨i, q, u, hm, rfl, rfl, T1, R1, hu, hB⟩ := hcut
    have HM := Lib.hid hm
    have HT := Lib.hid T1
    have HRB := Lib.hid R1
    have HB := Lib.hid hB
    have hi : i ≤ n := by omega
    clear hm T1 R1 hB
    by_cases hlt : i < n
    · have z1 : decide (i < n) = true := by simp; omega
      have PU := Lib.hid (fun kk => Ti.put_any kk (i : Int) u HT.out (by unfold Ti.big; omega))
      go_wp2_with (fail)
      refine (PU.out _).mono ?_
      rintro e w2 ⟨p2, rfl, T2, B2⟩
      have HT2 := Lib.hid T2
      have HB2 := Lib.hid (HB.out.trans (B2.mono HB.out.size))
      clear T2 B2 PU
      go_wp2_with (fail)
      go_roundg (m - 1)
      case measure => have := HM.out; omega
      case rel => exact ⟨i + 1, p2, _, by have := HM.out; omega, rfl, by go_num, HT2.out, HRB.out.put _ _, by have := (T.size_put ltZ (wrap64 (from_ + wrap64 ((i : Int) * by_))) (i : Int) u).2; omega, HB2.out⟩
    · have hin : i = n := by omega
      subst hin
      have z1 : decide (i < i) = false := by simp
      go_wp2_with (fail)
      go_ret
      exact ⟨q, u, rfl, HT.out, HRB.out, hu, HB.out⟩
set_option maxHeartbeats 2000000 in
theorem zig_any (w : World) (from_ by_ : Int) (n : Nat) (hn : n ≤ 3000) : Calls Try.prog 26 #[.int .i64 from_, .int .i64 by_, .int .i64 n] w (RunP w n) := by
  go_enter Try.func26, Try.ntmps26
  go_upto_region 3 with (fail)
  refine wp_loop_ghost_k (fun (m : Nat) (ac : Act) (wr : World) => ∃ u3 u4 u5 u6 u9 u10 u11 u12 u13 u14 u15 u16 u17 u18 u19 u20 u21 u22 u23 u24 u25 u26 u27 u28 u29 u30 u31 u32 u33 v7 v8 : Value, (∃ (i : Nat) (q : Option Addr) (u : TI), m + i = n ∧ v7 = .pointer q ∧ v8 = .int .i64 i ∧ Ti.TreeAt wr q u ∧ RB u ∧ u.size ≤ i ∧ Below w.heap.size w wr) ∧ ac = ({ tmps := #[.int .i64 from_, .int .i64 by_, .int .i64 n, u3, u4, u5, u6, v7, v8, u9, u10, u11, u12, u13, u14, u15, u16, u17, u18, u19, u20, u21, u22, u23, u24, u25, u26, u27, u28, u29, u30, u31, u32, u33], defers := [] } : Act)) (n) ?atStart ?round
  case' atStart => ((repeat apply Exists.intro); refine ⟨?_, rfl⟩)
  case' round => (intro m ac wr hcut; obtain ⟨u3, hcut⟩ := hcut; obtain ⟨u4, hcut⟩ := hcut; obtain ⟨u5, hcut⟩ := hcut; obtain ⟨u6, hcut⟩ := hcut; obtain ⟨u9, hcut⟩ := hcut; obtain ⟨u10, hcut⟩ := hcut; obtain ⟨u11, hcut⟩ := hcut; obtain ⟨u12, hcut⟩ := hcut; obtain ⟨u13, hcut⟩ := hcut; obtain ⟨u14, hcut⟩ := hcut; obtain ⟨u15, hcut⟩ := hcut; obtain ⟨u16, hcut⟩ := hcut; obtain ⟨u17, hcut⟩ := hcut; obtain ⟨u18, hcut⟩ := hcut; obtain ⟨u19, hcut⟩ := hcut; obtain ⟨u20, hcut⟩ := hcut; obtain ⟨u21, hcut⟩ := hcut; obtain ⟨u22, hcut⟩ := hcut; obtain ⟨u23, hcut⟩ := hcut; obtain ⟨u24, hcut⟩ := hcut; obtain ⟨u25, hcut⟩ := hcut; obtain ⟨u26, hcut⟩ := hcut; obtain ⟨u27, hcut⟩ := hcut; obtain ⟨u28, hcut⟩ := hcut; obtain ⟨u29, hcut⟩ := hcut; obtain ⟨u30, hcut⟩ := hcut; obtain ⟨u31, hcut⟩ := hcut; obtain ⟨u32, hcut⟩ := hcut; obtain ⟨u33, hcut⟩ := hcut; obtain ⟨v7, hcut⟩ := hcut; obtain ⟨v8, hcut⟩ := hcut; obtain ⟨hcut, hac⟩ := hcut; subst hac; intro _ _ _ _)
  case atStart => exact ⟨0, none, .nil, rfl, rfl, rfl, rfl, RB.nil, Nat.le_refl _, Below.refl _ _⟩
  case round =>
    obtain ⟨i, q, u, hm, rfl, rfl, T1, R1, hu, hB⟩ := hcut
    have HM := Lib.hid hm
    have HT := Lib.hid T1
    have HRB := Lib.hid R1
    have HB := Lib.hid hB
    have hi : i ≤ n := by omega
    clear hm T1 R1 hB
    by_cases hlt : i < n
    · have z1 : decide (i < n) = true := by simp; omega
      have PU := Lib.hid (fun kk => Ti.put_any kk (i : Int) u HT.out (by unfold Ti.big; omega))
      obtain ⟨b, hb⟩ := named ((i : Int) % 2 == 1)
      go_wp2_with (fail)
      all_goals
        refine (PU.out _).mono ?_
        rintro e w2 ⟨p2, rfl, T2, B2⟩
        have HT2 := Lib.hid T2
        have HB2 := Lib.hid (HB.out.trans (B2.mono HB.out.size))
        clear T2 B2 PU
        go_wp2_with (fail)
        go_roundg (m - 1)
        case measure => have := HM.out; omega
        case rel => exact ⟨i + 1, p2, _, by have := HM.out; omega, rfl, by go_num, HT2.out, HRB.out.put _ _, by refine Nat.le_trans (T.size_put ltZ _ (i : Int) u).2 (by omega), HB2.out⟩
    · have hin : i = n := by omega
      subst hin
      have z1 : decide (i < i) = false := by simp
      go_wp2_with (fail)
      go_ret
      exact ⟨q, u, rfl, HT.out, HRB.out, hu, HB.out⟩
/-- Marks of loops over functions: their blocks. -/
def markOf (E : Nat) : Deferred := { target := .collected E, args := #[] }
theorem leaves_marks {F : Fence} {n : Nat} {P : Program} {fn : Func} {tmps : Array Value} {R : Ending → World → Prop} (Inv : World → Prop) : ∀ (Es : List Nat) (w : World), Es.Nodup → (∀ E ∈ Es, w.heap[E]? = some (.deferred (some []))) → Inv w →
    (∀ W E, E ∈ Es → Inv W → W.heap[E]? = some (.deferred (some [])) → Inv (W.putObj E (.deferred none))) → (∀ W, Inv W → LeavesInM F n P fn tmps R [] .returning W) → LeavesInM F n P fn tmps R (Es.map markOf) .returning w
  | [], w, _, _, h0, _, hend => hend w h0
  | E :: Es, w, hnd, hE, h0, hI, hend => by
    have hk := hE E (List.mem_cons_self)
    have hnd' := List.nodup_cons.1 hnd
    refine ⟨by simp, .inl ⟨E, _, rfl, run_takeDeferred hk, ?_⟩⟩
    refine leaves_marks Inv Es _ hnd'.2 (fun D hD => ?_) (hI w E List.mem_cons_self h0 hk) (fun W D hD => hI W D (List.mem_cons_of_mem _ hD)) hend
    have hne : D ≠ E := by rintro rfl; exact hnd'.1 hD
    rw [World.putObj_heap_other hne]
    exact hE D (List.mem_cons_of_mem _ hD)
/-- The marks of a frame, as they lie. -/
structure MarkL (N : Nat) (w : World) (ds : List Deferred) (Es : List Nat) : Prop where
  eq : ds = Es.map markOf
  nodup : Es.Nodup
  lie : ∀ E ∈ Es, N ≤ E ∧ w.heap[E]? = some (.deferred (some []))
theorem MarkL.below {N : Nat} {w w' : World} {ds : List Deferred} {Es : List Nat} (h : MarkL N w ds Es) (hb : Below w.heap.size w w') : MarkL N w' ds Es := ⟨h.eq, h.nodup, fun E hE => ⟨(h.lie E hE).1, blk_below (h.lie E hE).2 hb⟩⟩
theorem MarkL.cons {N D : Nat} {w : World} {ds : List Deferred} {Es : List Nat} (h : MarkL N w ds Es) (hD : w.heap[D]? = some (.deferred (some []))) (hN : N ≤ D) (hne : D ∉ Es) : MarkL N w ({ target := .collected D, args := #[] } :: ds) (D :: Es) :=
  ⟨by rw [h.eq]; rfl, List.nodup_cons.2 ⟨hne, h.nodup⟩, fun E hE => by
    rcases List.mem_cons.1 hE with rfl | hE
    · exact ⟨hN, hD⟩
    · exact h.lie E hE⟩
/-- append of several trees that were just laid down. -/
theorem Forest.pushL {w0 w : World} {N : Nat} {A : Option Addr} {c : Nat} {l : List TI} {ps : List (Option Addr)} (h : Forest w N A c l ps) {qs : List (Option Addr)} {us : List TI} (hql : qs.length = us.length) (ht : ∀ (i : Nat) q u, qs[i]? = some q → us[i]? = some u → Ti.TreeAt w q u) (hB : Below N w0 w) (hN : N ≤ w.heap.size) (hl : l.length + us.length ≤ 9000000000000) :
    ∃ A' c' w', (Builtin.append_ #[33, 33] 33 #[.slice A l.length c, .slice (some ⟨w.heap.size, 0, none⟩) us.length us.length]).run Try.prog (w.alloc (.cells (qs.map Value.pointer).toArray 35)) = .ok (.slice A' (l.length + us.length) c') w' ∧
      Forest w' N A' c' (l ++ us) (ps ++ qs) ∧ Below N w0 w' := by
  have h1 := h.row.keeps (KeepT.alloc 35 w (.cells (qs.map Value.pointer).toArray 35))
  obtain ⟨A', c', w', hr, h2, h3, h4, h5⟩ := GRow.append (ys := qs) elP h1 33 (some ⟨w.heap.size, 0, none⟩) us.length (fun _ => ⟨w.heap.size, 0, rfl, fun k y hy j v hv => by
    have hj : j = 0 := by have := (List.getElem?_eq_some_iff.1 hv).1; simp [encP] at this; omega
    subst hj
    simp [encP] at hv; subst hv
    refine cell_blk (blk_new w _) _ ?_
    simp [hy]⟩) (hB.alloc hN _) (by simp; omega) (by rw [h.len]; simp only [maxLen]; omega) (by rw [h.len]; omega)
  rw [h.len, hql] at hr
  have hk := (KeepT.alloc 110 w (.cells (qs.map Value.pointer).toArray 35)).trans (h4 110 (by decide))
  refine ⟨A', c', w', hr, ⟨h2, by simp [h.len, hql], fun i p' t' hp' ht' => ?_⟩, h3⟩
  by_cases hi : i < l.length
  · rw [List.getElem?_append_left (by rw [h.len]; exact hi)] at hp'
    rw [List.getElem?_append_left hi] at ht'
    exact (h.tree i p' t' hp' ht').keeps hk
  · rw [List.getElem?_append_right (by rw [h.len]; omega), h.len] at hp'
    rw [List.getElem?_append_right (by omega)] at ht'
    exact (ht _ _ _ hp' ht').keeps hk
end Go.Proofs.Ytmichnnkkpgpmaa
