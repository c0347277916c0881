/- The world of the ledger laws where it lies: a struct of two slices behind a pointer. -/
import Derived.Test.YtecdmbcdkfjgfaaS
import Derived.Test.YtecdmbcdkfjgfaaP3
import Derived.Test.YtecdmbcdkfjgfaaL
namespace Go.Proofs.Ytecdmbcdkfjgfaa
set_option linter.unusedVariables false
set_option linter.unusedSimpArgs false
open Go.RowKit Go.Deep

/-- Of the blocks that there were just b, g and s may have turned. -/
structure Frm (b g s : Nat) (w w' : World) : Prop where
  os : w'.os = w.os
  tape : w'.tape = w.tape
  output : w'.output = w.output
  size : w.heap.size ≤ w'.heap.size
  block : ∀ k, k < w.heap.size → k ≠ b → k ≠ g → k ≠ s → w'.heap[k]? = w.heap[k]?
theorem Frm.refl (b g s : Nat) (w : World) : Frm b g s w w := ⟨rfl, rfl, rfl, Nat.le_refl _, fun _ _ _ _ _ => rfl⟩
theorem Frm.trans {b g s s' : Nat} {w w1 w2 : World} (h : Frm b g s w w1) (h' : Frm b g s' w1 w2) (hs : s' = s ∨ w.heap.size ≤ s') : Frm b g s w w2 :=
  ⟨h'.os.trans h.os, h'.tape.trans h.tape, h'.output.trans h.output, Nat.le_trans h.size h'.size, fun k hk hb hg hs' =>
    (h'.block k (Nat.lt_of_lt_of_le hk h.size) hb hg (by rcases hs with rfl | hs <;> omega)).trans (h.block k hk hb hg hs')⟩
theorem Frm.ofBelow {w w' : World} (b g s : Nat) (h : Below w.heap.size w w') : Frm b g s w w' := ⟨h.os, h.tape, h.output, h.size, fun k hk _ _ _ => h.block k hk⟩
theorem Frm.below {b g s N : Nat} {w w' : World} (h : Frm b g s w w') (hN : N ≤ w.heap.size) (hb : N ≤ b) (hg : N ≤ g) (hs : N ≤ s) : Below N w w' := ⟨h.os, h.tape, h.output, h.size, fun k hk => h.block k (by omega) (by omega) (by omega) (by omega)⟩
theorem Frm.setB {w : World} {a : Addr} (g s : Nat) (v : Value) : Frm a.block g s w (w.setCell a v) := ⟨rfl, rfl, rfl, by simp [World.setCell], fun k _ hb _ _ => Below.heap_setCell _ _ _ _ hb⟩
theorem Frm.setG {w : World} {a : Addr} (b s : Nat) (v : Value) : Frm b a.block s w (w.setCell a v) := ⟨rfl, rfl, rfl, by simp [World.setCell], fun k _ _ hg _ => Below.heap_setCell _ _ _ _ hg⟩
theorem Frm.grown {w w' : World} {b g s : Nat} (h : w.grownBy w' (some s)) : Frm b g s w w' := ⟨h.os, h.tape, h.output, h.size, fun k hk _ _ hs => h.block k hk (by simpa using hs)⟩
theorem Frm.alloc (b g s : Nat) (w : World) (o : Obj) : Frm b g s w (w.alloc o) := Frm.ofBelow b g s ((Below.refl _ _).alloc (Nat.le_refl _) _)
theorem Frm.drew (b g s : Nat) (w : World) : Frm b g s w w.drew := Frm.ofBelow b g s (Below.refl _ _).drew
theorem Frm.at {w w' : World} {b g s k : Nat} {o : Obj} (h : Frm b g s w w') (hk : w.heap[k]? = some o) (hb : k ≠ b) (hg : k ≠ g) (hs : k ≠ s) : w'.heap[k]? = some o := by rw [h.block k (blk_lt hk) hb hg hs]; exact hk

def Ml.cells (m : Ml) : List Value := [.int .i64 m.kd, .int .i64 m.ep, .int .i64 m.fr, .int .i64 m.tt]
theorem ml_len (m : Ml) : m.cells.length = 4 := rfl
theorem ml_one (m : Ml) : ∀ u ∈ m.cells, u.oneCell' = true := by intro u hu; simp [Ml.cells] at hu; rcases hu with rfl | rfl | rfl | rfl <;> rfl
theorem lgl (l : Lg) : l.cells.length = 3 := rfl
theorem infoMl : (Try.prog.info? 74).map (fun i => (i.zero, i.size, i.bytes)) = some (some (.agg #[.int .i64 0, .int .i64 0, .int .i64 0, .int .i64 0]), 4, 32) := by kernel_rfl

/-- The world's struct at block b: its row at block g, its messages at block s (s = b where there are none yet). -/
structure Rep (w : World) (b g c s : Nat) (sv : Value) (W : Wd) : Prop where
  blk : w.heap[b]? = some (.cells #[.slice (some ⟨g, 0, none⟩) W.row.length c, sv] 49 (0, 0))
  row : Own Lg.cells 24 3 w g c W.row
  bg : b ≠ g
  snt : (sv = .slice none 0 0 ∧ W.sent = [] ∧ s = b) ∨ (∃ cs, sv = .slice (some ⟨s, 0, none⟩) W.sent.length cs ∧ s ≠ b ∧ s ≠ g ∧ Own Ml.cells 74 4 w s cs W.sent)
section
variable {w w' : World} {b g c s : Nat} {sv : Value} {W : Wd}
theorem Rep.lt (h : Rep w b g c s sv W) : b < w.heap.size ∧ g < w.heap.size ∧ s < w.heap.size := by
  refine ⟨blk_lt h.blk, h.row.lt, ?_⟩
  rcases h.snt with ⟨_, _, rfl⟩ | ⟨cs, _, _, _, h'⟩
  · exact blk_lt h.blk
  · exact h'.lt
theorem Rep.moved (h : Rep w b g c s sv W) (hb : w'.heap[b]? = w.heap[b]?) (hg : w'.heap[g]? = w.heap[g]?) (hs : w'.heap[s]? = w.heap[s]?) : Rep w' b g c s sv W := by
  refine ⟨hb.trans h.blk, h.row.moved hg, h.bg, ?_⟩
  rcases h.snt with h' | ⟨cs, h1, h2, h3, h4⟩
  · exact Or.inl h'
  · exact Or.inr ⟨cs, h1, h2, h3, h4.moved hs⟩
theorem Rep.below (h : Rep w b g c s sv W) (hb : Below w.heap.size w w') : Rep w' b g c s sv W := h.moved (hb.block _ h.lt.1) (hb.block _ h.lt.2.1) (hb.block _ h.lt.2.2)
theorem Rep.drew (h : Rep w b g c s sv W) : Rep w.drew b g c s sv W := h.moved rfl rfl rfl
theorem Rep.alloc (h : Rep w b g c s sv W) (o : Obj) : Rep (w.alloc o) b g c s sv W := h.below ((Below.refl _ _).alloc (Nat.le_refl _) _)
theorem Rep.c0 (h : Rep w b g c s sv W) : w.cell? ⟨b, 0, none⟩ = some (.slice (some ⟨g, 0, none⟩) W.row.length c) := cell_blk h.blk 0 rfl
theorem Rep.c1 (h : Rep w b g c s sv W) : w.cell? ⟨b, 1, none⟩ = some sv := cell_blk h.blk 1 rfl
theorem Rep.free (h : Rep w b g c s sv W) (o : Nat) : w.frozen? ⟨b, o, none⟩ = false := free_blk h.blk o
/-- A ledger is set. -/
theorem Rep.set (h : Rep w b g c s sv W) {i : Nat} (hi : i < W.row.length) (l : Lg) :
    Rep (((w.setCell ⟨g, i * 3, none⟩ (.int .i64 l.ph)).setCell ⟨g, i * 3 + 1, none⟩ (.int .i64 l.ep)).setCell ⟨g, i * 3 + 2, none⟩ (.int .i64 l.pe)) b g c s sv (put W i l) := by
  have hl : (put W i l).row.length = W.row.length := put_len W i l
  refine ⟨?_, ?_, h.bg, ?_⟩
  · rw [Below.heap_setCell _ _ _ _ h.bg, Below.heap_setCell _ _ _ _ h.bg, Below.heap_setCell _ _ _ _ h.bg, hl]; exact h.blk
  · exact h.row.set3 lgl hi rfl
  · rcases h.snt with h' | ⟨cs, h1, h2, h3, h4⟩
    · exact Or.inl h'
    · exact Or.inr ⟨cs, h1, h2, h3, ((h4.other h3 _).other h3 _).other h3 _⟩
theorem Frm.set3 (b s : Nat) {g a1 a2 a3 : Nat} (v1 v2 v3 : Value) : Frm b g s w (((w.setCell ⟨g, a1, none⟩ v1).setCell ⟨g, a2, none⟩ v2).setCell ⟨g, a3, none⟩ v3) :=
  (Frm.trans (Frm.trans (Frm.setG (a := ⟨g, a1, none⟩) b s v1) (Frm.setG (a := ⟨g, a2, none⟩) b s v2) (Or.inl rfl)) (Frm.setG (a := ⟨g, a3, none⟩) b s v3) (Or.inl rfl))
/-- A message is appended, and the field set. -/
theorem Rep.append (h : Rep w b g c s sv W) {k c1 : Nat} {m : Ml} (hk : w.heap[k]? = some (.cells #[.int .i64 m.kd, .int .i64 m.ep, .int .i64 m.fr, .int .i64 m.tt] 74 (0, 0))) (hb : (W.sent.length + 1) * 32 ≤ 140737488355328) :
    ∃ s' cs' w1, (Builtin.append_ #[47, 47] 47 #[sv, .slice (some ⟨k, 0, none⟩) 1 c1]).run Try.prog w = .ok (.slice (some ⟨s', 0, none⟩) (W.sent.length + 1) cs') w1 ∧
      (s' = s ∨ w.heap.size ≤ s') ∧ Rep (w1.setCell ⟨b, 1, none⟩ (.slice (some ⟨s', 0, none⟩) (W.sent.length + 1) cs')) b g c s' (.slice (some ⟨s', 0, none⟩) (W.sent.length + 1) cs') (send W m) ∧ Frm b g s w w1 ∧ w1.heap[b]? = w.heap[b]? ∧ w1.heap[g]? = w.heap[g]? := by
  have info := infoMl
  cases hi : Try.prog.info? 74 with
  | none => rw [hi] at info; cases info
  | some i =>
    rw [hi] at info
    simp only [Option.map_some, Option.some.injEq, Prod.mk.injEq] at info
    obtain ⟨i1, i2, i3⟩ := info
    have hcell : ∀ j v, m.cells[j]? = some v → w.cell? ⟨k, 0 + j, none⟩ = some v := by
      intro j v hv
      rw [Nat.zero_add]
      refine cell_blk hk j ?_
      rw [← hv]
      rcases j with _ | _ | _ | _ | j <;> rfl
    have fin : ∀ {s' cs' : Nat} {w1 : World}, Own Ml.cells 74 4 w1 s' cs' (W.sent ++ [m]) → Frm b g s w w1 → (s' = s ∧ s ≠ b ∨ s' = w.heap.size) → w1.heap[b]? = w.heap[b]? → w1.heap[g]? = w.heap[g]? → s ≠ g →
        (s' = s ∨ w.heap.size ≤ s') ∧ Rep (w1.setCell ⟨b, 1, none⟩ (.slice (some ⟨s', 0, none⟩) (W.sent.length + 1) cs')) b g c s' (.slice (some ⟨s', 0, none⟩) (W.sent.length + 1) cs') (send W m) ∧ Frm b g s w w1 ∧ w1.heap[b]? = w.heap[b]? ∧ w1.heap[g]? = w.heap[g]? := by
      intro s' cs' w1 O F hs hB hG hsg
      have hlt := h.lt
      have hsb : s' ≠ b := by rcases hs with ⟨rfl, hs⟩ | rfl <;> omega
      have hsg' : s' ≠ g := by rcases hs with ⟨rfl, hs⟩ | rfl <;> omega
      have B1 := hB.trans h.blk
      refine ⟨by rcases hs with ⟨rfl, hs⟩ | rfl <;> simp, ⟨?_, ?_, h.bg, Or.inr ⟨cs', by simp [send], hsb, hsg', ?_⟩⟩, F, hB, hG⟩
      · have := setCell_heap w1 b 1 (.slice (some ⟨s', 0, none⟩) (W.sent.length + 1) cs') _ _ _ B1
        simpa [send] using this
      · exact (h.row.moved hG).other (Ne.symm h.bg) _
      · exact O.other hsb _
    rcases h.snt with ⟨rfl, hs0, rfl⟩ | ⟨cs, rfl, hsb, hsg, hO⟩
    · obtain ⟨g', cap', w', hr, hown, hgr, hat, hlt⟩ := run_append_lies (P := Try.prog) w 47 47 0 74 i _ 4 32 Try.underlying47 hi i1 i2 i3 rfl (by decide) (.slice none 0 0) 0 [] (World.ownsRow_nil w 0 _ 4)
        ⟨k, 0, none⟩ 1 c1 m.cells (ml_len m) (fun j u hu => by rw [Addr.add_mid]; exact hcell j u hu) (ml_one m) (by decide) (by decide) (by decide) (Nat.zero_le _) w.heap.size rfl
      refine ⟨g', cap', w', by rw [hs0]; exact hr, ?_⟩
      have hgs : g' = w.heap.size := by
        rcases hat with hat | hat
        · simp [Value.ownBlock] at hat
        · exact hat
      have O : Own Ml.cells 74 4 w' g' cap' [m] := Own.ofRow (by decide) ml_len (by simpa using hown)
      have := fin (s' := g') (cs' := cap') (w1 := w') (by rw [hs0]; exact O) ⟨hgr.os, hgr.tape, hgr.output, hgr.size, fun k hk _ _ _ => hgr.block k hk (by simp [Value.ownBlock])⟩ (Or.inr hgs) (hgr.block _ h.lt.1 (by simp [Value.ownBlock])) (hgr.block _ h.lt.2.1 (by simp [Value.ownBlock])) h.bg
      exact this
    · obtain ⟨g', cap', w1, hr, O, hgr, hat⟩ := own_append (P := Try.prog) 47 47 Try.underlying47 hi i1 i2 i3 rfl (by decide) ml_len ml_one hO [m] (some ⟨k, 0, none⟩) c1
        (fun _ => ⟨k, 0, rfl, fun k' y hy j v hv => by
          have h0 : k' = 0 := by
            rcases k' with _ | k'
            · rfl
            · simp at hy
          subst h0
          simp at hy; subst hy
          have := hcell j v hv
          simpa using this⟩) (by simp [maxLen]; omega) (by simp; omega)
      refine ⟨g', cap', w1, by simpa using hr, ?_⟩
      have hne : ∀ x, x ≠ s → some x ≠ some s := fun x hx h => hx (by injection h)
      have := fin (s' := g') (cs' := cap') (w1 := w1) O (Frm.grown hgr) (hat.elim (fun e => Or.inl ⟨e, hsb⟩) Or.inr) (hgr.block _ h.lt.1 (hne _ (Ne.symm hsb))) (hgr.block _ h.lt.2.1 (hne _ (Ne.symm hsg))) hsg
      simpa using this
theorem cell_of {k o : Nat} {v : Value} (h : w.cell? ⟨k, o, none⟩ = some v) (hb : w'.heap[k]? = w.heap[k]?) : w'.cell? ⟨k, o, none⟩ = some v := by
  rw [World.cell?_of_block (w := w) hb]; exact h
theorem Rep.far (h : Rep w b g c s sv W) {k : Nat} (hb : k ≠ b) (hg : k ≠ g) (hs : k ≠ s) (o : Nat) (v : Value) : Rep (w.setCell ⟨k, o, none⟩ v) b g c s sv W :=
  h.moved (Below.heap_setCell _ _ _ _ (Ne.symm hb)) (Below.heap_setCell _ _ _ _ (Ne.symm hg)) (Below.heap_setCell _ _ _ _ (Ne.symm hs))
theorem Frm.new (h : Frm b g s w w') {k : Nat} (hk : w.heap.size ≤ k) (o : Nat) (v : Value) : Frm b g s w (w'.setCell ⟨k, o, none⟩ v) :=
  ⟨h.os, h.tape, h.output, by simpa [World.setCell] using h.size, fun j hj hb hg hs => (Below.heap_setCell _ _ _ _ (by simp only; omega)).trans (h.block j hj hb hg hs)⟩
theorem set_new3 {k : Nat} {t : TypeId} {x y z u v t' : Value} (h : w.heap[k]? = some (.cells #[x, y, z] t (0, 0))) :
    (((w.setCell ⟨k, 0, none⟩ u).setCell ⟨k, 1, none⟩ v).setCell ⟨k, 2, none⟩ t').heap[k]? = some (.cells #[u, v, t'] t (0, 0)) :=
  setCell_heap _ k _ _ _ _ _ (setCell_heap _ k _ _ _ _ _ (setCell_heap _ k _ _ _ _ _ h))
end
end Go.Proofs.Ytecdmbcdkfjgfaa
