/- row: what a tree holds, entry by entry. -/
import Derived.Test.YtmichnnkkpgpmaaQ4
namespace Go.Proofs.Ytmichnnkkpgpmaa
set_option linter.unusedVariables false
set_option linter.unusedSimpArgs false
open Go.RowKit Go.Deep Go.Shelf Go.Proofs.YtmichnnkkpgpmaaW.PrintLast
attribute [local go_sem] Oper.semAt_some

theorem wpListIn_app {F : Fence} {m : Nat} {P : Program} {ops : Array Oper} {rest : List Oper} {o : Oper} {a : Act} {w w1 : World} {Q : Exit → Act → World → Prop} {s x : Operand} {t ty : TypeId} {v y r : Value} (hr : (Builtin.append_ #[t, t] ty #[v, y]).run P w = .ok r w1)
    (hgd : o.guard = none) (ho : o.op = .call { callee := .builtin .append, args := #[s, x], argTypes := #[t, t] }) (hty : o.type = ty) (hs : a.eval s = v) (hx : a.eval x = y)
    (h : wpListIn F m P ops Q rest (a.put o.dst r) w1) : wpListIn F m P ops Q (o :: rest) a w := by
  refine wpListIn_plain hgd fun K hK => ?_
  unfold Oper.wpIn
  refine ⟨by simp [Oper.about, ho, resolve, Target.leads, Sem.run_pure], ?_⟩
  rw [Oper.semAt_plain F _ _ (by rw [ho]; intro c hc'; cases hc'), runapp_ hr ho hty hs hx]
  exact hK _ _ h
theorem GRow.own {α : Type} {enc : α → List Value} {e sz : Nat} {W W' : World} {N : Nat} {A : Option Addr} {c : Nat} {xs : List α} {row : Option Nat} (h : GRow enc e sz W N A c xs) (hg : W.grownBy W' row) (hr : ∀ r, row = some r → ∃ o : Obj, W.heap[r]? = some o ∧ o.isCells = false) : GRow enc e sz W' N A c xs := by
  rcases h with h | ⟨g, h1, h2, h3⟩
  · exact Or.inl h
  · obtain ⟨cur, hb, hrest⟩ := h3.blk
    exact Or.inr ⟨g, h1, h2, h3.le, h3.max, cur, by rw [grownBy_keeps_cells hg hr hb rfl]; exact hb, hrest⟩
/-- append leaves whatever is no cells as it is. -/
theorem keeps_app {α : Type} {enc : α → List Value} {e sz : Nat} {W W' : World} {N : Nat} {A : Option Addr} {c : Nat} {xs : List α} (h : GRow enc e sz W N A c xs) (hs : W.heap.size ≤ W'.heap.size) (hk : ∀ b cs, A ≠ some ⟨b, 0, none⟩ → W.heap[b]? = some cs → W'.heap[b]? = some cs) : KeepsOthers W W' := by
  refine ⟨hs, fun k o ho hc => hk k o ?_ ho⟩
  rintro rfl
  rcases h with ⟨h, _⟩ | ⟨g, h1, _, h3⟩
  · cases h
  · injection h1 with h1; injection h1 with h1; subst h1
    obtain ⟨cur, hb, _⟩ := h3.blk
    rw [ho] at hb; injection hb with hb; subst hb; cases hc
theorem below_btw {n : Nat} {w W W' : World} (h : Below n w W) (h' : Below n w W') (hs : W.heap.size ≤ W'.heap.size) : Below n W W' :=
  ⟨h'.os.trans h.os.symm, h'.tape.trans h.tape.symm, h'.output.trans h.output.symm, hs, fun k hk => (h'.block k hk).trans (h.block k hk).symm⟩
def flatI (l : List (Int × Int)) : List Int := l.flatMap fun e => [e.1, e.2]
theorem flatI_snoc (l : List (Int × Int)) (e : Int × Int) : flatI (l ++ [e]) = flatI l ++ [e.1, e.2] := by simp [flatI]
theorem flatI_len : ∀ (l : List (Int × Int)), (flatI l).length = 2 * l.length
  | [] => rfl
  | e :: l => by have := flatI_len l; simp [flatI] at this ⊢; omega
def RowP (w : World) (l : List Int) (e : Ending) (w' : World) : Prop := ∃ A c, e = .returned (.slice A l.length c) ∧ GRow encI 3 1 w' w.heap.size A c l ∧ Below w.heap.size w w'
set_option maxRecDepth 100000 in
set_option maxHeartbeats 4000000 in
theorem row_any {t : TI} {w : World} {p : Option Addr} (h : Ti.TreeAt w p t) (hs : t.size ≤ 5000000000000) : Calls Try.prog 30 #[.pointer p] w (RowP w (flatI t.toList)) := by
  have HH := Lib.hid h
  have hsl := T.length_toList t
  have hnf : ∀ (cap : Array Value) (W : World), Sem.run Try.prog (binOp BinOp.eql 54 (.func (.func 68) #[] cap) Value.nilFunc) W = .ok (.bool false) W := fun _ _ => rfl
  clear h
  refine (callsIn_wide (n := 4)).1 ?_
  refine callsIn_of_wp_marks Try.func30 rfl trivial ?_ rfl
  simp only [Try.ntmps30, List.size_toArray, List.length_cons, List.length_nil, Nat.reduceAdd, Nat.reduceSub, Array.replicate_succ, Array.replicate_zero, List.push_toArray, List.append_toArray, List.nil_append, List.cons_append]
  gi_wp2_with (fail)
  refine ⟨trivial, (callsIn_wide.2 (Ti.all_any (p := p) _)).mono ?_⟩
  rintro e w_ ⟨rfl, rfl⟩
  gi_wp2_with (fail)
  obtain ⟨h0, h1⟩ := two_blks w (.cells #[.slice none 0 0] 22) (.cells #[.pointer p] 35)
  have HB : Below w.heap.size w ((w.alloc (.cells #[.slice none 0 0] 22)).alloc (.cells #[.pointer p] 35)) :=
    ((Below.refl _ w).alloc (Nat.le_refl _) _).alloc (by simp) _
  have HS : ((w.alloc (.cells #[.slice none 0 0] 22)).alloc (.cells #[.pointer p] 35)).heap.size = w.heap.size + 1 + 1 := by simp
  obtain ⟨W0, hW0⟩ : ∃ W0, ((w.alloc (.cells #[.slice none 0 0] 22)).alloc (.cells #[.pointer p] 35)) = W0 := ⟨_, rfl⟩
  rw [hW0] at h0 h1 HB HS ⊢
  have HL := Ti.Lies.below HB (Ti.Lies.of (Nat.le_refl _) HH.out)
  clear hW0
  refine wpIn_rangeFunc_ownF rfl (by decide) (gf := 68) (lb := #[.pointer (some ⟨w.heap.size + 1, 0, none⟩)]) rfl trivial (enters_of Try.func68 (by kernel_rfl) rfl)
    (Ti.all_stops 3 (w.heap.size + 1) w.heap.size p t W0 (by omega) (by omega) (cell_blk h1 0 rfl) HL) belowK_t (belowK_b (by omega)) (Below.refl _ _) (fun _ => rfl)
    (fun pre W => (∃ A c, W.heap[w.heap.size]? = some (.cells #[.slice A (flatI pre).length c] 22 (0, 0)) ∧ GRow encI 3 1 W w.heap.size A c (flatI pre)) ∧ Below w.heap.size w W)
    (fun c pre W => False ∧ Below w.heap.size w W)
    (OwnFrom.and (Own.from (fun s A B row hs hg hr => hs.elim fun A' hs => hs.elim fun c hs => ⟨A', c, Ti.blk_own hs.1 hg hr, hs.2.own hg hr⟩) _) (ownFrom_below (Nat.le_refl _) (by omega)))
    (fun c => OwnFrom.and (Own.from (fun s A B row hs hg hr => hs) _) (ownFrom_below (Nat.le_refl _) (by omega)))
    ⟨⟨none, 0, h0, GRow.nil⟩, HB⟩
    (fun x => { tmps := #[.pointer p, undef, .slice none 0 0, .pointer (some ⟨w.heap.size, 0, none⟩), .func (.func 68) #[] #[.pointer (some ⟨w.heap.size + 1, 0, none⟩)], .int .i64 x.1, .int .i64 x.2, .pointer p, .func (.func 68) #[] #[.pointer (some ⟨w.heap.size + 1, 0, none⟩)], .func (.func 68) #[] #[.pointer (some ⟨w.heap.size + 1, 0, none⟩)], .bool false, .func (.func 68) #[] #[.pointer (some ⟨w.heap.size + 1, 0, none⟩)], .int .i64 x.1, .int .i64 x.2, undef, undef, undef, undef, undef, undef], defers := [] }) ?assign ?body ?done ?stop
  case assign =>
    intro l x W K hK
    unfold Ti.encs
    gi_wp2
    exact hK
  case body =>
    rintro l pre ⟨k, v⟩ W ⟨⟨A, c, g0, R⟩, hB⟩ hlt
    rw [hsl] at hlt
    have hfl := flatI_len pre
    have c0 := cell_blk g0 0 rfl
    have hN : w.heap.size ≤ W.heap.size := hB.size
    have R1 := R.keeps (KeepT.alloc 3 W (.cells #[.int .i64 k, .int .i64 v] 3))
    have hB1 := hB.alloc hN (.cells #[.int .i64 k, .int .i64 v] 3)
    obtain ⟨A', c', w', hr, R2, B2, h4, h5⟩ := GRow.append (ys := [k, v]) elI R1 22 (some ⟨W.heap.size, 0, none⟩) 2 (fun _ => ⟨W.heap.size, 0, rfl, fun i y hy j u hu => by
      have hk : i < 2 := (List.getElem?_eq_some_iff.1 hy).1
      have hj : j = 0 := by have := (List.getElem?_eq_some_iff.1 hu).1; simp [encI] at this; omega
      subst hj
      simp [encI] at hu; subst hu
      rcases i with _ | _ | i
      · simp at hy; subst hy; exact cell_blk (blk_new W _) 0 rfl
      · simp at hy; subst hy; exact cell_blk (blk_new W _) 1 rfl
      · omega⟩) hB1 (by simp; omega) (by simp only [maxLen, List.length_cons, List.length_nil]; omega) (by simp only [List.length_cons, List.length_nil]; omega)
    have KO : KeepsOthers W w' := (KeepsOthers.alloc W (.cells #[.int .i64 k, .int .i64 v] 3)).trans (keeps_app R1 (by
      have hA : A ≠ some ⟨W.heap.size, 0, none⟩ := by
        rintro rfl
        rcases R with ⟨h, _⟩ | ⟨g, h1, _, h3⟩
        · cases h
        · injection h1 with h1; injection h1 with h1; have := h3.lt; omega
      have := blk_lt (h5 W.heap.size _ hA (blk_new W _))
      simp; omega) h5)
    have g1 := h4 22 (by decide) _ _ (blk_alloc g0 (.cells #[.int .i64 k, .int .i64 v] 3))
    have f1 := free_blk g1 0
    have cc1 := cell_blk g1 0 rfl
    have R3 := R2.keeps (KeepT.setCell g1 (by decide) 0 (.slice A' ((flatI pre).length + 2) c'))
    have g2 := Ti.set_blk g1 (.slice A' ((flatI pre).length + 2) c')
    have HR := Lib.hid hr
    have HKO := Lib.hid KO
    have HB2 := Lib.hid B2
    have HR3 := Lib.hid R3
    have HG2 := Lib.hid g2
    have HB := Lib.hid hB
    clear hr KO B2 R3 g2 hB R R1 R2 h4 h5 hB1 g0 g1 hfl
    gi_wp2_with (have p3 := HR; refine wpListIn_app p3.out rfl rfl rfl (by rfl) (by rfl) ?_; clear p3 HR)
    refine ⟨HKO.out.trans (KeepsOthers.setCell _ _ _), ?_, ⟨A', c', ?_, ?_⟩, HB2.out.setCell (p := ⟨w.heap.size, 0, none⟩) (Nat.le_refl _) _⟩
    · exact (below_btw HB.out HB2.out HKO.out.size).setCell (p := ⟨w.heap.size, 0, none⟩) (Nat.le_refl _) _
    · rw [flatI_snoc, List.length_append]; exact HG2.out
    · rw [flatI_snoc]; exact HR3.out
  case done =>
    rintro D ys W hD rfl ⟨⟨A, c, g0, R⟩, hB⟩ hK
    have c0 := cell_blk g0 0 rfl
    have HR := Lib.hid R
    have HK := Lib.hid hK
    have HB2 := Lib.hid hB
    clear R hK hB
    gi_wp2
    refine ⟨by simp, .inl ⟨_, _, rfl, run_takeDeferred HK.out, ?_⟩⟩
    refine ⟨_, results_tmp rfl _ _ _, A, c, rfl, ?_, HB2.out.trans (belowK_b (w := w) (Nat.le_refl _) W D _ _ (by omega) HK.out rfl rfl)⟩
    exact HR.out.own (grownBy_putObj' _ D (.deferred none)) (fun r e => by cases e; exact ⟨_, HK.out, rfl⟩)
  case stop =>
    rintro D c pre W hD hpre ⟨hf, _⟩ hK
    exact hf.elim
end Go.Proofs.Ytmichnnkkpgpmaa
