/- Seek. Printed out of one text for each instance (wip/tools/inst.py). -/
import Derived.Test.YtmichnnkkpgpmaaW9i
import Derived.RangeFuncFrom
namespace Go.Proofs.Ytmichnnkkpgpmaa
set_option linter.unusedVariables false
set_option linter.unusedSimpArgs false
open Go.RowKit Go.Deep Go.Shelf Go.Proofs.YtmichnnkkpgpmaaW.PrintLast
attribute [local go_sem] Oper.semAt_some
namespace Ti
theorem blk_own {W W' : World} {row : Option Nat} {b : Nat} {cs : Array Value} {t : TypeId} (h : W.heap[b]? = some (.cells cs t (0, 0))) (hg : W.grownBy W' row) (hr : ∀ r, row = some r → ∃ o : Obj, W.heap[r]? = some o ∧ o.isCells = false) : W'.heap[b]? = some (.cells cs t (0, 0)) := by
  rw [grownBy_keeps_cells hg hr h rfl]; exact h
theorem set_blk {w : World} {b : Nat} {v : Value} {t : TypeId} (h : w.heap[b]? = some (.cells #[v] t (0, 0))) (u : Value) : (w.setCell ⟨b, 0, none⟩ u).heap[b]? = some (.cells #[u] t (0, 0)) := by
  simpa using setCell_heap w b 0 u _ _ _ h
theorem set_oth {w : World} {b b' : Nat} {o : Obj} (h : w.heap[b]? = some o) (hne : b ≠ b') (u : Value) : (w.setCell ⟨b', 0, none⟩ u).heap[b]? = some o := by
  rw [Below.heap_setCell _ _ _ _ (by simpa using hne)]; exact h
/-- Three boxes written, one behind the other. -/
theorem set3_blk {w : World} {b : Nat} {v0 v1 v2 : Value} {t0 t1 t2 : TypeId} (h0 : w.heap[b]? = some (.cells #[v0] t0 (0, 0))) (h1 : w.heap[b + 1]? = some (.cells #[v1] t1 (0, 0))) (h2 : w.heap[b + 1 + 1]? = some (.cells #[v2] t2 (0, 0))) (u0 u1 u2 : Value) :
    (((w.setCell ⟨b, 0, none⟩ u0).setCell ⟨b + 1, 0, none⟩ u1).setCell ⟨b + 1 + 1, 0, none⟩ u2).heap[b]? = some (.cells #[u0] t0 (0, 0)) ∧
    (((w.setCell ⟨b, 0, none⟩ u0).setCell ⟨b + 1, 0, none⟩ u1).setCell ⟨b + 1 + 1, 0, none⟩ u2).heap[b + 1]? = some (.cells #[u1] t1 (0, 0)) ∧
    (((w.setCell ⟨b, 0, none⟩ u0).setCell ⟨b + 1, 0, none⟩ u1).setCell ⟨b + 1 + 1, 0, none⟩ u2).heap[b + 1 + 1]? = some (.cells #[u2] t2 (0, 0)) :=
  ⟨set_oth (set_oth (set_blk h0 u0) (by omega) u1) (by omega) u2, set_oth (set_blk (set_oth h1 (by omega) u0) u1) (by omega) u2, set_blk (set_oth (set_oth h2 (by omega) u0) (by omega) u1) u2⟩
set_option maxRecDepth 100000 in
set_option maxHeartbeats 4000000 in
theorem seek_any (key : Int) {t : Tr} {w : World} {p : Option Addr} (h : TreeAt w p t) : Calls Try.prog 20 #[.pointer p, (.int .i64 key)] w fun e w' => AtP (T.fromL ltZ key t).head? e ∧ Below w.heap.size w w' := by
  have HH := Lib.hid h
  have hn := h
  clear h hn
  obtain ⟨tt, htt⟩ : ∃ tt, tt = (T.fromL ltZ key t).head? := ⟨_, rfl⟩
  rw [← htt]
  have HT := Lib.hid htt
  clear htt
  refine (callsIn_wide (n := 4)).1 ?_
  refine callsIn_of_wp_marks Try.func20 rfl trivial ?_ rfl
  simp only [Try.ntmps20, List.size_toArray, List.length_cons, List.length_nil, Nat.reduceAdd, Nat.reduceSub, Array.replicate_succ, Array.replicate_zero, List.push_toArray, List.append_toArray, List.nil_append, List.cons_append]
  gi_wp2_with (fail)
  refine ⟨trivial, (callsIn_wide.2 (From_any (p := p) key _)).mono ?_⟩
  rintro e w_ ⟨rfl, rfl⟩
  gi_wp2_with (fail)
  obtain ⟨h0, h1, h2, h3, h4⟩ := five_blks w (.cells #[.int .i64 0] 3) (.cells #[.int .i64 0] 3) (.cells #[.bool false] 4) (.cells #[.pointer p] 35) (.cells #[(.int .i64 key)] 3)
  have HB : Below w.heap.size w (((((w.alloc (.cells #[.int .i64 0] 3)).alloc (.cells #[.int .i64 0] 3)).alloc (.cells #[.bool false] 4)).alloc (.cells #[.pointer p] 35)).alloc (.cells #[(.int .i64 key)] 3)) :=
    (((((Below.refl _ w).alloc (Nat.le_refl _) _).alloc (by simp) _).alloc (by simp; omega) _).alloc (by simp; omega) _).alloc (by simp; omega) _
  have HS : ((((((w.alloc (.cells #[.int .i64 0] 3)).alloc (.cells #[.int .i64 0] 3)).alloc (.cells #[.bool false] 4)).alloc (.cells #[.pointer p] 35)).alloc (.cells #[(.int .i64 key)] 3))).heap.size = w.heap.size + 1 + 1 + 1 + 1 + 1 := by simp
  obtain ⟨W0, hW0⟩ : ∃ W0, (((((w.alloc (.cells #[.int .i64 0] 3)).alloc (.cells #[.int .i64 0] 3)).alloc (.cells #[.bool false] 4)).alloc (.cells #[.pointer p] 35)).alloc (.cells #[(.int .i64 key)] 3)) = W0 := ⟨_, rfl⟩
  rw [hW0] at h0 h1 h2 h3 h4 HB HS ⊢
  have HL := Lies.below HB (Lies.of (Nat.le_refl _) HH.out)
  have hlt : ∀ k, k ≤ 4 → w.heap.size + k < W0.heap.size := fun k hk => by omega
  clear hW0
  refine wpIn_rangeFunc_ownF rfl (by decide) (gf := 97) (lb := #[.pointer (some ⟨w.heap.size + 1 + 1 + 1, 0, none⟩), .pointer (some ⟨w.heap.size + 1 + 1 + 1 + 1, 0, none⟩)]) rfl trivial (enters_of Try.func97 (by kernel_rfl) rfl)
    (from_stops key 3 (w.heap.size + 1 + 1 + 1) (w.heap.size + 1 + 1 + 1 + 1) w.heap.size p t W0 (by omega) (by omega) (by omega) (cell_blk h3 0 rfl) (cell_blk h4 0 rfl) HL) belowK_t (belowK_b (by omega)) (Below.refl _ _) (fun _ => rfl)
    (fun pre W => (pre = [] ∧ W.heap[w.heap.size]? = some (.cells #[.int .i64 0] 3 (0, 0)) ∧ W.heap[w.heap.size + 1]? = some (.cells #[.int .i64 0] 3 (0, 0)) ∧ W.heap[w.heap.size + 1 + 1]? = some (.cells #[.bool false] 4 (0, 0))) ∧ Below w.heap.size w W)
    (fun c pre W => (c = .ret ∧ ∃ x, pre = [x] ∧ W.heap[w.heap.size]? = some (.cells #[(.int .i64 (x.1))] 3 (0, 0)) ∧ W.heap[w.heap.size + 1]? = some (.cells #[(.int .i64 (x.2))] 3 (0, 0)) ∧ W.heap[w.heap.size + 1 + 1]? = some (.cells #[.bool true] 4 (0, 0))) ∧ Below w.heap.size w W)
    (OwnFrom.and (Own.from (fun s A B row hs hg hr => ⟨hs.1, blk_own hs.2.1 hg hr, blk_own hs.2.2.1 hg hr, blk_own hs.2.2.2 hg hr⟩) _) (ownFrom_below (Nat.le_refl _) (by omega)))
    (fun c => OwnFrom.and (Own.from (fun s A B row hs hg hr => ⟨hs.1, hs.2.elim fun x hx => ⟨x, hx.1, blk_own hx.2.1 hg hr, blk_own hx.2.2.1 hg hr, blk_own hx.2.2.2 hg hr⟩⟩) _) (ownFrom_below (Nat.le_refl _) (by omega)))
    ⟨⟨rfl, h0, h1, h2⟩, HB⟩
    (fun x => { tmps := #[.pointer p, (.int .i64 key), undef, undef, .pointer (some ⟨w.heap.size, 0, none⟩), .pointer (some ⟨w.heap.size + 1, 0, none⟩), .pointer (some ⟨w.heap.size + 1 + 1, 0, none⟩), (.int .i64 (x.1)), (.int .i64 (x.2)), .pointer p, (.int .i64 key), .func (.func 97) #[] #[.pointer (some ⟨w.heap.size + 1 + 1 + 1, 0, none⟩), .pointer (some ⟨w.heap.size + 1 + 1 + 1 + 1, 0, none⟩)], (.int .i64 (x.1)), (.int .i64 (x.2)), undef, undef, undef, undef], defers := [] }) ?assign ?body ?done ?stop
  case assign =>
    intro l x W K hK
    unfold encs
    gi_wp2
    exact hK
  case body =>
    rintro l pre x W ⟨⟨rfl, g0, g1, g2⟩, hB⟩ _
    have c0 := cell_blk g0 0 rfl
    have c1 := cell_blk g1 0 rfl
    have c2 := cell_blk g2 0 rfl
    have f0 := free_blk g0 0
    have f1 := free_blk g1 0
    have f2 := free_blk g2 0
    have B3 := set3_blk g0 g1 g2 ((.int .i64 (x.1))) ((.int .i64 (x.2))) (.bool true)
    have KB3 := Lib.hid B3
    clear B3
    gi_wp2
    exact ⟨((KeepsOthers.setCell _ _ _).trans (KeepsOthers.setCell _ _ _)).trans (KeepsOthers.setCell _ _ _), ⟨rfl, x, rfl, KB3.out.1, KB3.out.2.1, KB3.out.2.2⟩,
      ((hB.setCell (p := ⟨w.heap.size, 0, none⟩) (Nat.le_refl _) _).setCell (p := ⟨w.heap.size + 1, 0, none⟩) (by simp) _).setCell (p := ⟨w.heap.size + 1 + 1, 0, none⟩) (by simp; omega) _⟩
  case done =>
    rintro D ys W hD rfl ⟨⟨hnil, g0, g1, g2⟩, hB⟩ hK
    have c0 := cell_blk g0 0 rfl
    have c1 := cell_blk g1 0 rfl
    have c2 := cell_blk g2 0 rfl
    have f0 := free_blk g0 0
    have f1 := free_blk g1 0
    have f2 := free_blk g2 0
    have HN := Lib.hid hnil
    have B3 := set3_blk (w := W) g0 g1 g2 (.int .i64 0) (.int .i64 0) (.bool false)
    have KB3 := Lib.hid B3
    have HK := Lib.hid hK
    have KS := Lib.hid (And.intro (cell_blk (set_blk (w := W.drew) g0 (.int .i64 0)) 0 rfl) (cell_blk (set_oth (w := W.drew) (b' := w.heap.size) g1 (by omega) (.int .i64 0)) 0 rfl))
    have HB3 := Lib.hid hB
    clear B3 hnil hK hB
    gi_wp2
    refine wpIn_wide.2 ?_
    refine wp_region_noPanic ?_
    refine start_ (n := 5) (S := fun w' => w'.cell? ⟨w.heap.size, 0, none⟩ = some (.int .i64 0) ∧ w'.cell? ⟨w.heap.size + 1, 0, none⟩ = some (.int .i64 0)) (ds := [3, 4]) #[false, false, false, false, false] (by kernel_rfl) rfl rfl ⟨c0, c1⟩ (fun hHeld => ?_)
    (refine take_ (i := 0) (N := some 16) (v := ?v_2) (a' := ?a_2) #[true, false, false, false, false] rfl rfl (by kernel_rfl) (fun _ _ _ h => h) (Or.inl ⟨by rfl, ?hy_2⟩) hHeld ?ha_2 ?hh_2; (case hy_2 => (rintro w' ⟨s0_, s1_⟩; go_simp; with_reducible rfl)); (case ha_2 => (simp (disch := omega) only [Act.put, List.setIfInBounds_toArray, List.set_cons_zero, List.set_cons_succ, wrap_in]; rfl)))
    (refine take_ (i := 1) (N := some 17) (v := ?v_3) (a' := ?a_3) #[true, true, false, false, false] rfl rfl (by kernel_rfl) (fun _ _ _ h => h) (Or.inl ⟨by rfl, ?hy_3⟩) hHeld ?ha_3 ?hh_3; (case hy_3 => (rintro w' ⟨s0_, s1_⟩; go_simp; with_reducible rfl)); (case ha_3 => (simp (disch := omega) only [Act.put, List.setIfInBounds_toArray, List.set_cons_zero, List.set_cons_succ, wrap_in]; rfl)))
    refine one_ (i := 2) (N := none) #[true, true, true, false, false] rfl rfl (by kernel_rfl) (by decide) (fun K hK => ?_)
    (refine skip_ (w1 := ?w1_5) (by rfl) rfl ?hr_5 ?hk_5; (case hr_5 => (go_simp; first | with_reducible rfl | (constructor <;> with_reducible rfl))))
    (refine hK.out _ _ ?hs_6 ?hn_6; (case hs_6 => (exact KS.out)); intro hHeld; clear hK K)
    refine last_ (i := 3) (N := none) #[true, true, true, true, false] rfl rfl (by kernel_rfl) (by decide) (fun K hK => ?_)
    (refine skip_ (w1 := ?w1_8) (by rfl) rfl ?hr_8 ?hk_8; (case hr_8 => (go_simp; first | with_reducible rfl | (constructor <;> with_reducible rfl))))
    (refine hK.out _ _ ?hn_9; clear hK K; try clear hHeld)
    refine last_ (i := 4) (N := none) #[true, true, true, true, true] rfl rfl (by kernel_rfl) (by decide) (fun K hK => ?_)
    (refine skip_ (w1 := ?w1_11) (by rfl) rfl ?hr_11 ?hk_11; (case hr_11 => (go_simp; first | with_reducible rfl | (constructor <;> with_reducible rfl))))
    (refine hK.out _ _ ?hn_12; clear hK K; try clear hHeld)
    refine done_ (by kernel_rfl) ?_
    refine NoPanic.normal ?_
    gi_wp2
    obtain ⟨X, hX⟩ : ∃ X, X = ((W.setCell ⟨w.heap.size, 0, none⟩ (.int .i64 0)).setCell ⟨w.heap.size + 1, 0, none⟩ (.int .i64 0)).setCell ⟨w.heap.size + 1 + 1, 0, none⟩ (.bool false) := ⟨_, rfl⟩
    have hK' : X.drew.heap[D]? = some (.deferred (some [])) := by rw [hX]; exact ((((KeepsOthers.setCell W ⟨w.heap.size, 0, none⟩ (.int .i64 0)).trans (KeepsOthers.setCell _ ⟨w.heap.size + 1, 0, none⟩ (.int .i64 0))).trans (KeepsOthers.setCell _ ⟨w.heap.size + 1 + 1, 0, none⟩ (.bool false)))).same D _ HK.out rfl
    have BX : Below w.heap.size w X.drew := by rw [hX]; exact ((((HB3.out).setCell (p := ⟨w.heap.size, 0, none⟩) (Nat.le_refl _) _).setCell (p := ⟨w.heap.size + 1, 0, none⟩) (by simp) _).setCell (p := ⟨w.heap.size + 1 + 1, 0, none⟩) (by simp; omega) _).drew
    have hb3 := KB3.out
    rw [← hX] at hb3 ⊢
    refine ⟨by simp, .inl ⟨_, _, rfl, run_takeDeferred hK', ?_⟩⟩
    have e0 := blk_own (W := X.drew) hb3.1 (grownBy_putObj' _ D (.deferred none)) (fun r e => by cases e; exact ⟨_, hK', rfl⟩)
    have e1 := blk_own (W := X.drew) hb3.2.1 (grownBy_putObj' _ D (.deferred none)) (fun r e => by cases e; exact ⟨_, hK', rfl⟩)
    have e2 := blk_own (W := X.drew) hb3.2.2 (grownBy_putObj' _ D (.deferred none)) (fun r e => by cases e; exact ⟨_, hK', rfl⟩)
    refine ⟨.tuple #[.int .i64 0, .int .i64 0, .bool false], ?_, ?_, BX.trans (belowK_b (w := w) (Nat.le_refl _) _ D _ _ (by omega) hK' rfl rfl)⟩
    · simp [results, Try.f20, go_sem, cell_blk e0 0 rfl, cell_blk e1 0 rfl, cell_blk e2 0 rfl]
    · rw [HT.out, HN.out]
      exact rfl
  case stop =>
    rintro D c pre W hD hpre ⟨⟨rfl, x, rfl, g0, g1, g2⟩, hB⟩ hK
    have HK := Lib.hid hK
    clear hK
    gi_wp2
    refine ⟨by simp, .inl ⟨_, _, rfl, run_takeDeferred HK.out, ?_⟩⟩
    have e0 := blk_own g0 (grownBy_putObj' _ D (.deferred none)) (fun r e => by cases e; exact ⟨_, HK.out, rfl⟩)
    have e1 := blk_own g1 (grownBy_putObj' _ D (.deferred none)) (fun r e => by cases e; exact ⟨_, HK.out, rfl⟩)
    have e2 := blk_own g2 (grownBy_putObj' _ D (.deferred none)) (fun r e => by cases e; exact ⟨_, HK.out, rfl⟩)
    refine ⟨.tuple #[(.int .i64 (x.1)), (.int .i64 (x.2)), .bool true], ?_, ?_, hB.trans (belowK_b (w := w) (Nat.le_refl _) W D _ _ (by omega) HK.out rfl rfl)⟩
    · simp [results, Try.f20, go_sem, cell_blk e0 0 rfl, cell_blk e1 0 rfl, cell_blk e2 0 rfl]
    · rw [HT.out]
      obtain ⟨r, hr⟩ := hpre
      rw [← hr]
      exact rfl
end Ti
end Go.Proofs.Ytmichnnkkpgpmaa
