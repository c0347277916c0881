/- A row of rows where it lies. -/
import Derived.Test.YtmichnnkkpgpmaaQ7
namespace Go.Proofs.Ytmichnnkkpgpmaa
set_option linter.unusedVariables false
set_option linter.unusedSimpArgs false
open Go.RowKit Go.Deep Go.Shelf Go.Proofs.YtmichnnkkpgpmaaW.PrintLast

abbrev SlV := Option Addr × Nat × Nat
def encRw (s : SlV) : List Value := [.slice s.1 s.2.1 s.2.2]
theorem elSlI : ElT Try.prog encRw 57 22 1 24 (.slice none 0 0) := ⟨Try.underlying57, by kernel_rfl, rfl, by decide, fun _ => rfl, fun x u hu => by simp [encRw] at hu; subst hu; rfl⟩
def RowAt (w : World) (s : SlV) (t : TI) : Prop := s.2.1 = (flatI t.toList).length ∧ ∃ N, GRow encI 3 1 w N s.1 s.2.2 (flatI t.toList)
structure Wases (w : World) (N : Nat) (A : Option Addr) (c : Nat) (l : List TI) (n : Nat) (ss : List SlV) : Prop where
  row : GRow encRw 22 1 w N A c ss
  len : ss.length = n
  at_ : ∀ (i : Nat) (s : SlV) (t : TI), ss[i]? = some s → l[i]? = some t → RowAt w s t
theorem RowAt.keeps {w w' : World} {s : SlV} {t : TI} (h : RowAt w s t) (hk : KeepT 3 w w') : RowAt w' s t := ⟨h.1, h.2.elim fun N hN => ⟨N, hN.keeps hk⟩⟩
theorem Wases.below {w w' : World} {N : Nat} {A : Option Addr} {c : Nat} {l : List TI} {n : Nat} {ss : List SlV} (h : Wases w N A c l n ss) (hb : Below w.heap.size w w') : Wases w' N A c l n ss :=
  ⟨h.row.keeps (KeepT.below hb), h.len, fun i s t hs ht => (h.at_ i s t hs ht).keeps (KeepT.below hb)⟩
theorem Wases.nil {w : World} {N : Nat} {l : List TI} : Wases w N none 0 l 0 [] := ⟨GRow.nil, rfl, fun i s t hs => by simp at hs⟩
theorem Wases.get {w : World} {N : Nat} {A : Option Addr} {c : Nat} {l : List TI} {n : Nat} {ss : List SlV} (h : Wases w N A c l n ss) {i : Nat} {t : TI} (hi : i < n) (ht : l[i]? = some t) :
    ∃ g B c', A = some ⟨g, 0, none⟩ ∧ w.cell? ⟨g, i, none⟩ = some (.slice B (flatI t.toList).length c') ∧ RowAt w (B, (flatI t.toList).length, c') t := by
  obtain ⟨⟨B, n', c'⟩, hs⟩ : ∃ s, ss[i]? = some s := ⟨_, List.getElem?_eq_getElem (by rw [h.len]; exact hi)⟩
  obtain ⟨g, h1, h2⟩ := h.row.cell hs (j := 0) rfl
  have hr := h.at_ i _ t hs ht
  have hn : n' = (flatI t.toList).length := hr.1
  subst hn
  exact ⟨g, B, c', h1, by simpa using h2, hr⟩
theorem fits24 {n cap : Nat} (h0 : 1000 ≤ n) (hnc : n ≤ cap) (hg : cap < n + 1) (hn : n ≤ 8900000000000) : Builtin.nextslicecap (n + 1) cap * 24 ≤ 281474976710656 := by
  have hc : cap = n := by omega
  subst hc
  have h1 : ¬ (cap + 1 > 2 * cap) := by omega
  have h2 : ¬ (cap < 256) := by omega
  have h3 : ¬ (cap ≥ cap + 1) := by omega
  have h4 : cap + (cap + 768) / 4 ≥ cap + 1 := by omega
  unfold Builtin.nextslicecap
  rw [if_neg h1, if_neg h2]
  have e : Builtin.growBy (cap + 1) 4 cap = cap + (cap + 768) / 4 := by
    rw [Builtin.growBy, if_neg h3, Builtin.growBy, if_pos h4]
  rw [e]; omega
/-- append of one slice to a long row of slices: beyond 2^47 bytes too. -/
theorem own_pushBig {w : World} {g cap : Nat} {ss : List SlV} (h : Own encRw 22 1 w g cap ss) (x : SlV) (a : Addr) (ha : w.cell? a = some (.slice x.1 x.2.1 x.2.2)) (h0 : 1000 ≤ ss.length) (hn : ss.length ≤ 8900000000000) (ty : TypeId) :
    ∃ g' cap' w', (Builtin.append_ #[57, 57] ty #[.slice (some ⟨g, 0, none⟩) ss.length cap, .slice (some a) 1 1]).run Try.prog w = .ok (.slice (some ⟨g', 0, none⟩) (ss.length + 1) cap') w' ∧
      Own encRw 22 1 w' g' cap' (ss ++ [x]) ∧ w.grownBy w' (some g) ∧ (g' = g ∨ g' = w.heap.size) := by
  have info := elSlI.info
  cases hi : Try.prog.info? 22 with
  | none => rw [hi] at info; cases info
  | some i =>
    rw [hi] at info
    simp only [Option.map_some, Option.some.injEq, Prod.mk.injEq] at info
    obtain ⟨i1, i2, i3⟩ := info
    have hrow := h.toRow (by decide) elSlI.len
    have hl1 : (ss.flatMap encRw).length = ss.length * i.size := by rw [i2]; exact hrow.1
    have hlen : (ss.flatMap encRw ++ [Value.slice x.1 x.2.1 x.2.2]).length = (ss.length + 1) * 1 := by rw [List.length_append, hl1, i2]; simp
    have hfm : (ss ++ [x]).flatMap encRw = ss.flatMap encRw ++ [Value.slice x.1 x.2.1 x.2.2] := by simp [encRw]
    have hnews : ∀ (j : Nat) (u : Value), [Value.slice x.1 x.2.1 x.2.2][j]? = some u → w.cell? (a.add j) = some u := by
      intro j u hu
      rcases j with _ | j
      · simp at hu; subst hu; rw [show a.add 0 = a from by cases a; rfl]; exact ha
      · simp at hu
    obtain ⟨cur, hg, hcs, _⟩ := h.blk
    have hle := h.le
    have hmx := h.max
    by_cases hroom : ss.length + 1 ≤ cap
    · have hr := run_append_room (P := Try.prog) w 57 ty 22 i Try.underlying57 hi g ss.length cap cur hg a 1 1 [.slice x.1 x.2.1 x.2.2] (by rw [i2]; rfl) hnews (by intro u hu; simp at hu; subst hu; rfl) hroom (by rw [i2, hcs]; simp; omega)
      refine ⟨g, cap, _, hr, Own.ofRow (by decide) elSlI.len ?_, ⟨rfl, rfl, rfl, by simp, fun k _ hk => setRow_other w g k _ (fun e => hk (by simp [e]))⟩, Or.inl rfl⟩
      rw [List.length_append, hfm]
      refine ⟨hlen, Or.inr ⟨g, cap, _, rfl, Nat.zero_le _, setRow_heap w g cur _ _ _ hg, hroom, hmx, ?_, ?_⟩⟩
      · simp only [List.size_toArray, List.length_append, List.length_take, List.length_drop, Array.length_toList, List.length_singleton, i2, hcs]
        omega
      · obtain ⟨_, h0 | ⟨g', cap', cur', hv, _, hg', _, _, _, ht⟩⟩ := hrow
        · cases h0.1
        · simp only [Value.slice.injEq, Option.some.injEq, Addr.mk.injEq, and_true] at hv
          obtain ⟨rfl, _, rfl⟩ := hv
          obtain ⟨hcc, _⟩ := Obj.cells.inj (Option.some.inj (hg.symm.trans hg'))
          subst hcc
          rw [i2, ht]
          simp only [List.append_assoc]
          rw [← List.append_assoc]
          exact (by rw [show (ss.length + [x].length) * 1 = (ss.flatMap encRw ++ [Value.slice x.1 x.2.1 x.2.2]).length from hlen.symm]; exact List.take_left)
    · have hr := run_append_grow (P := Try.prog) w 57 ty 22 i _ Try.underlying57 hi i1 ⟨g, 0, none⟩ ss.length cap _ hl1 (hrow.cells (g := g) rfl) a 1 1 [.slice x.1 x.2.1 x.2.2] (by rw [i2]; rfl) hnews (by omega) (by omega) (by rw [i3]; exact fits24 h0 hle (by omega) hn)
      refine ⟨w.heap.size, _, _, hr, Own.ofRow (by decide) elSlI.len ?_, ⟨rfl, rfl, rfl, by simp, fun k hk _ => ((Below.refl w.drew.heap.size w.drew).alloc (Nat.le_refl _) _).block k hk⟩, Or.inr rfl⟩
      have hge := grownCap_ge w (ss.length + 1) cap 22
      have hcm : grownCap w (ss.length + 1) cap 22 ≤ maxLen := grownCap_le_maxLen w (ss.length + 1) cap _ (by simp only [maxLen]; omega)
      rw [List.length_append, hfm]
      refine ⟨hlen, Or.inr ⟨w.heap.size, _, _, rfl, Nat.zero_le _, heap_alloc_new w.drew _, hge, hcm, ?_, ?_⟩⟩
      · simp only [Array.size_append, List.size_toArray, size_zeroCells, elSlI.zs, hl1, i2, List.length_singleton]
        omega
      · simp only [Array.toList_append]
        rw [show (ss.length + [x].length) * 1 = (ss.flatMap encRw ++ [Value.slice x.1 x.2.1 x.2.2]).length from hlen.symm]
        exact List.take_left
theorem GRow.pushBig {w0 w : World} {N : Nat} {A : Option Addr} {c : Nat} {ss : List SlV} (h : GRow encRw 22 1 w N A c ss) (ty : TypeId) (x : SlV) (hB : Below N w0 w) (hN : N ≤ w.heap.size) (hn : ss.length ≤ 8900000000000) :
    ∃ A' cap' w', (Builtin.append_ #[57, 57] ty #[.slice A ss.length c, .slice (some ⟨w.heap.size, 0, none⟩) 1 1]).run Try.prog (w.alloc (.cells (encRw x).toArray 22)) = .ok (.slice A' (ss.length + 1) cap') w' ∧
      GRow encRw 22 1 w' N A' cap' (ss ++ [x]) ∧ Below N w0 w' ∧ (∀ T, T ≠ 22 → KeepT T w w') := by
  by_cases hs : ss.length < 1000
  · obtain ⟨A', c', w', h1, h2, h3, h4, _⟩ := GRow.push elSlI h ty x hB hN (by simp only [maxLen]; omega) (by omega)
    exact ⟨A', c', w', h1, h2, h3, h4⟩
  · rcases h with ⟨_, _, rfl⟩ | ⟨g, rfl, hg, h⟩
    · simp at hs
    · have hb1 := hB.alloc hN (.cells (encRw x).toArray 22)
      have h1 : Own encRw 22 1 (w.alloc (.cells (encRw x).toArray 22)) g c ss := by
        obtain ⟨cur, hb, hr⟩ := h.blk
        exact ⟨h.le, h.max, cur, blk_alloc hb _, hr⟩
      obtain ⟨g', cap', w', hr, hown, hgr, hat⟩ := own_pushBig h1 x ⟨w.heap.size, 0, none⟩ (cell_blk (blk_new w _) 0 rfl) (by omega) hn ty
      obtain ⟨cur, hcur, _⟩ := h1.blk
      refine ⟨_, cap', w', hr, Or.inr ⟨g', rfl, ?_, hown⟩, hb1.grown hgr (by simp; omega) (by intro k hk; injection hk with hk; omega), fun T hT => (KeepT.alloc T w _).trans (KeepT.grown hgr hcur hT)⟩
      rcases hat with hat | hat
      · omega
      · rw [hat]; simp; omega
theorem Wases.push {w0 w : World} {N : Nat} {A : Option Addr} {c : Nat} {l : List TI} {n : Nat} {ss : List SlV} (h : Wases w N A c l n ss) {B : Option Addr} {c' : Nat} {t : TI} (ht : l[n]? = some t) {M : Nat} (hR : GRow encI 3 1 w M B c' (flatI t.toList)) (hB : Below N w0 w) (hN : N ≤ w.heap.size) (hl : n ≤ 8900000000000) :
    ∃ A' c2 w', (Builtin.append_ #[57, 57] 57 #[.slice A n c, .slice (some ⟨w.heap.size, 0, none⟩) 1 1]).run Try.prog (w.alloc (.cells #[.slice B (flatI t.toList).length c'] 22)) = .ok (.slice A' (n + 1) c2) w' ∧
      Wases w' N A' c2 l (n + 1) (ss ++ [(B, (flatI t.toList).length, c')]) ∧ Below N w0 w' := by
  obtain ⟨A', c2, w', h1, h2, h3, h4⟩ := GRow.pushBig h.row 57 (B, (flatI t.toList).length, c') hB hN (by rw [h.len]; omega)
  rw [h.len] at h1
  have hk := h4 3 (by decide)
  refine ⟨A', c2, w', h1, ⟨h2, by simp [h.len], fun i s t' hs ht' => ?_⟩, h3⟩
  by_cases hi : i < n
  · rw [List.getElem?_append_left (by rw [h.len]; exact hi)] at hs
    exact (h.at_ i s t' hs ht').keeps hk
  · have h0 : i = n := by
      have := (List.getElem?_eq_some_iff.1 hs).1
      simp [h.len] at this; omega
    subst h0
    rw [List.getElem?_append_right (by rw [h.len]; exact Nat.le_refl _), h.len, Nat.sub_self] at hs
    simp at hs
    rw [ht] at ht'
    injection ht' with ht'
    subst hs ht'
    exact ⟨rfl, M, hR.keeps hk⟩
theorem Ti.treeAt_own {W W' : World} {p : Option Addr} {t : TI} {row : Option Nat} (h : Ti.TreeAt W p t) (hg : W.grownBy W' row) (hr : ∀ r, row = some r → ∃ o : Obj, W.heap[r]? = some o ∧ o.isCells = false) : Ti.TreeAt W' p t :=
  h.keeps (fun b cs hb => (grownBy_keeps_cells hg hr hb rfl).trans hb)
end Go.Proofs.Ytmichnnkkpgpmaa
