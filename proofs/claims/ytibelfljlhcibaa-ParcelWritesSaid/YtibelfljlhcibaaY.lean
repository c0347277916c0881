/- Slices of bytes. -/
import Derived.Test.YtibelfljlhcibaaS
import Derived.OwnWalk
import Derived.Laws.CopyOwn
namespace Go.Proofs.Ytibelfljlhcibaa
set_option linter.unusedVariables false
set_option linter.unusedSimpArgs false
open Go.RowKit Go.Deep

def bc (x : Int) : List Value := [.int .u8 x]
theorem bc_len (x : Int) : (bc x).length = 1 := rfl
theorem bc_one (x : Int) : ∀ u ∈ bc x, u.oneCell' = true := by intro u hu; simp [bc] at hu; subst hu; rfl
theorem infoB : (Try.prog.info? 5).map (fun i => (i.zero, i.size, i.bytes)) = some (some (.int .u8 0), 1, 1) := by kernel_rfl
abbrev OwnB (w : World) (g cap : Nat) (bs : List Int) : Prop := Own bc 5 1 w g cap bs
/-- The bytes that lie from an address on. -/
def BsAt (w : World) (g o : Nat) (bs : List Int) : Prop := ∀ j x, bs[j]? = some x → w.cell? ⟨g, o + j, none⟩ = some (.int .u8 x)
section
variable {w w' : World} {g cap o : Nat} {bs : List Int}
theorem Own.bsAt (h : OwnB w g cap bs) : BsAt w g 0 bs := fun j x hx => by
  have := h.cell hx (j := 0) (v := .int .u8 x) rfl
  rw [Nat.zero_add]
  simpa using this
theorem BsAt.moved (h : BsAt w g o bs) (hb : w'.heap[g]? = w.heap[g]?) : BsAt w' g o bs := fun j x hx => by
  rw [World.cell?_of_block (w := w) hb]; exact h j x hx
theorem OwnB.append (h : OwnB w g cap bs) {ys : List Int} {k p c : Nat} (hy : BsAt w k p ys) (h63 : bs.length + ys.length ≤ 140737488355328) :
    ∃ g' cap' w', (Builtin.append_ #[23, 23] 23 #[.slice (some ⟨g, 0, none⟩) bs.length cap, .slice (some ⟨k, p, none⟩) ys.length c]).run Try.prog w = .ok (.slice (some ⟨g', 0, none⟩) (bs.length + ys.length) cap') w' ∧
      OwnB w' g' cap' (bs ++ ys) ∧ w.grownBy w' (some g) ∧ (g' = g ∨ g' = w.heap.size) := by
  have info := infoB
  cases hi : Try.prog.info? 5 with
  | none => rw [hi] at info; cases info
  | some i =>
    rw [hi] at info
    simp only [Option.map_some, Option.some.injEq, Prod.mk.injEq] at info
    obtain ⟨i1, i2, i3⟩ := info
    exact own_append (P := Try.prog) 23 23 Try.underlying23 hi i1 i2 i3 rfl (by decide) bc_len bc_one h ys (some ⟨k, p, none⟩) c
      (fun _ => ⟨k, p, rfl, fun j y hyy j' v hv => by
        have h0 : j' = 0 := by
          rcases j' with _ | j'
          · rfl
          · simp [bc] at hv
        subst h0
        simp [bc] at hv; subst hv
        have := hy j y hyy
        simpa using this⟩) (by simp only [maxLen]; omega) (by omega)
theorem nilB_append {ys : List Int} {k p c : Nat} (hne : ys ≠ []) (hy : BsAt w k p ys) (h63 : ys.length ≤ 140737488355328) :
    ∃ cap' w', (Builtin.append_ #[23, 23] 23 #[.slice none 0 0, .slice (some ⟨k, p, none⟩) ys.length c]).run Try.prog w = .ok (.slice (some ⟨w.heap.size, 0, none⟩) ys.length cap') w' ∧
      OwnB w' w.heap.size cap' ys ∧ w.grownBy w' none := by
  have info := infoB
  cases hi : Try.prog.info? 5 with
  | none => rw [hi] at info; cases info
  | some i =>
    rw [hi] at info
    simp only [Option.map_some, Option.some.injEq, Prod.mk.injEq] at info
    obtain ⟨i1, i2, i3⟩ := info
    have hpos : 0 < ys.length := List.length_pos_iff.2 hne
    obtain ⟨g', cap', w', hr, hown, hgr, hat, hlt⟩ := run_append_lies (P := Try.prog) w 23 23 0 5 i _ 1 1 Try.underlying23 hi i1 i2 i3 rfl (by decide) (.slice none 0 0) 0 [] (World.ownsRow_nil w 0 _ 1)
      ⟨k, p, none⟩ ys.length c (ys.flatMap bc) (flat_len bc_len ys) (fun j u hu => by
        rw [flat_get (by decide) bc_len] at hu
        rw [Addr.add_mid]
        simp only [Nat.div_one, Nat.mod_one] at hu
        cases hyj : ys[j]? with
        | none => rw [hyj] at hu; cases hu
        | some y =>
          rw [hyj] at hu
          simp [bc] at hu; subst hu
          exact hy j y hyj) (fun u hu => by
        obtain ⟨y, _, hyy⟩ := List.mem_flatMap.1 hu
        exact bc_one y u hyy) hpos (by simp only [maxLen]; omega) (by omega) (Nat.zero_le _) w.heap.size rfl
    have hgs : g' = w.heap.size := by
      rcases hat with hat | hat
      · simp [Value.ownBlock] at hat
      · exact hat
    subst hgs
    refine ⟨cap', w', by simpa using hr, Own.ofRow (by decide) bc_len (by simpa using hown), by simpa [Value.ownBlock] using hgr⟩
/-- make([]byte, 0, n). -/
theorem wpB_make0 (w : World) {ops : Array Oper} {rest : List Oper} {o : Oper} {a : Act} {Q : Exit → Act → World → Prop} (hg : o.guard = none) (l c : Operand) (hop : o.op = Op.makeSlice 23 l c) (n : Nat) (hl : a.eval l = .int .i64 0) (hc : a.eval c = .int .i64 (n : Int)) (hn : n ≤ 140737488355328)
    (hK : ∀ w', OwnB w' w.heap.size n [] → w.grownBy w' none → wpList Try.prog ops Q rest (a.put o.dst (.slice (some ⟨w.heap.size, 0, none⟩) 0 n)) w') : wpList Try.prog ops Q (o :: rest) a w := by
  have info := infoB
  cases hi : Try.prog.info? 5 with
  | none => rw [hi] at info; cases info
  | some i =>
    rw [hi] at info
    simp only [Option.map_some, Option.some.injEq, Prod.mk.injEq] at info
    obtain ⟨i1, i2, i3⟩ := info
    refine wpList_make_own w hg l c 23 hop 0 5 i _ 1 Try.underlying23 hi i1 i2 .i64 .i64 n n hl hc rfl (by rw [i3]; omega) (by simp only [maxLen]; omega) (Nat.zero_le _) fun w' h1 h2 => hK w' (Own.ofRow (by decide) bc_len (by simpa using h1)) h2
theorem zerosB (n : Nat) : (madeCells (Value.int .u8 0).cells (n * 1)).toList = (List.replicate n (0 : Int)).flatMap bc := by
  rw [Nat.mul_one]
  apply List.ext_getElem?
  intro j
  rw [flat_get (by decide) bc_len]
  simp only [madeCells, Array.toList_map, Array.toList_range, List.getElem?_map, Nat.div_one, Nat.mod_one]
  by_cases hj : j < n
  · rw [List.getElem?_eq_getElem (by simpa using hj), List.getElem?_eq_getElem (by simpa using hj)]
    simp [bc, Value.cells, Nat.mod_one]
  · rw [List.getElem?_eq_none (by simpa using hj), List.getElem?_eq_none (by simpa using hj)]; rfl
/-- make([]byte, n). -/
theorem wpB_make (w : World) {ops : Array Oper} {rest : List Oper} {o : Oper} {a : Act} {Q : Exit → Act → World → Prop} (hg : o.guard = none) (l c : Operand) (hop : o.op = Op.makeSlice 23 l c) (n : Nat) (hl : a.eval l = .int .i64 (n : Int)) (hc : a.eval c = .int .i64 (n : Int)) (hn : n ≤ 140737488355328)
    (hK : ∀ w', OwnB w' w.heap.size n (List.replicate n 0) → w.grownBy w' none → wpList Try.prog ops Q rest (a.put o.dst (.slice (some ⟨w.heap.size, 0, none⟩) n n)) w') : wpList Try.prog ops Q (o :: rest) a w := by
  have info := infoB
  cases hi : Try.prog.info? 5 with
  | none => rw [hi] at info; cases info
  | some i =>
    rw [hi] at info
    simp only [Option.map_some, Option.some.injEq, Prod.mk.injEq] at info
    obtain ⟨i1, i2, i3⟩ := info
    refine wpList_make_full w hg l c 23 hop 0 5 i _ 1 Try.underlying23 hi i1 i2 .i64 .i64 n n n hl hc rfl rfl (by rw [i3]; omega) (by simp only [maxLen]; omega) (Nat.zero_le _) fun w' h1 h2 => hK w' (Own.ofRow (by decide) bc_len ?_) h2
    rw [List.length_replicate, ← zerosB]
    exact h1
/-- copy over a slice of one's own, whole. -/
theorem wpB_copy (w : World) {ops : Array Oper} {rest : List Oper} {o : Oper} {a : Act} {Q : Exit → Act → World → Prop} (hgd : o.guard = none) (d s : Operand)
    (ho : o.op = .call { callee := .builtin .copy, args := #[d, s], argTypes := #[23, 23] }) {g n : Nat} {zs ys : List Int} (h : OwnB w g n zs) (hn : ys.length = n) (A : Option Addr) (cc : Nat) (hy : ys ≠ [] → ∃ p q, A = some ⟨p, q, none⟩ ∧ BsAt w p q ys)
    (hd : a.eval d = .slice (some ⟨g, 0, none⟩) n n) (hs : a.eval s = .slice A n cc)
    (hK : ∀ w', OwnB w' g n ys → w.grownBy w' (some g) → wpList Try.prog ops Q rest (a.put o.dst (goInt n)) w') : wpList Try.prog ops Q (o :: rest) a w := by
  have hsz : (Try.prog.info? 5).map (·.size) = some 1 := by
    have := infoB
    cases hi : Try.prog.info? 5 with
    | none => rw [hi] at this; cases this
    | some i => rw [hi] at this; simp at this; simp [this]
  obtain ⟨cur, hg, hcs, hc⟩ := h.blk
  by_cases hne : ys = []
  · subst hne
    simp at hn
    subst hn
    refine wpList_copy_nothing hgd d s _ _ ho 5 Try.underlying23 hsz (some ⟨g, 0, none⟩) A 0 0 0 cc hd hs (by simp) ?_
    exact hK w ⟨Nat.le_refl _, by decide, cur, hg, hcs, by simp⟩ ⟨rfl, rfl, rfl, Nat.le_refl _, fun _ _ _ => rfl⟩
  · obtain ⟨p, q, rfl, hb⟩ := hy hne
    have hfl : (ys.flatMap bc).length = n := by rw [flat_len bc_len, Nat.mul_one, hn]
    refine wpList_copy_own hgd d s _ _ ho 5 Try.underlying23 hsz g 0 n n ⟨p, q, none⟩ n cc hd hs cur _ hg (ys.flatMap bc) (by rw [hfl]; simp) (fun j u hu => by
        rw [flat_get (by decide) bc_len] at hu
        rw [Addr.add_mid]
        simp only [Nat.div_one, Nat.mod_one] at hu
        cases hyj : ys[j]? with
        | none => rw [hyj] at hu; cases hu
        | some y =>
          rw [hyj] at hu
          simp [bc] at hu; subst hu
          exact hb j y hyj) (by rw [hfl, hcs]; omega) (fun u hu => by
        obtain ⟨y, _, hyy⟩ := List.mem_flatMap.1 hu
        exact bc_one y u hyy) ?_
    rw [hfl]
    have hrow : (cur.toList.take 0 ++ (ys.flatMap bc ++ cur.toList.drop (0 + (ys.flatMap bc).length))).toArray = (ys.flatMap bc).toArray := by
      rw [hfl]
      have : cur.toList.drop (0 + n) = [] := by rw [List.drop_eq_nil_iff]; simp [hcs]
      rw [this]; simp
    rw [hfl] at hrow
    rw [hrow]
    refine hK _ ⟨by omega, h.max, (ys.flatMap bc).toArray, ?_, by simp [hfl], ?_⟩ ⟨rfl, rfl, rfl, by rw [size_setRow]; exact Nat.le_refl _, fun k _ hk => setRow_other _ _ _ _ (by simpa using hk)⟩
    · exact setRow_heap _ _ _ _ _ _ hg
    · intro i x hx j v hv
      have h0 : j = 0 := by
        rcases j with _ | j
        · rfl
        · simp [bc] at hv
      subst h0
      rw [List.getElem?_toArray, flat_get (by decide) bc_len]
      simp only [Nat.mul_one, Nat.add_zero, Nat.div_one, Nat.mod_one, hx, Option.bind_some]
      exact hv
end
end Go.Proofs.Ytibelfljlhcibaa
