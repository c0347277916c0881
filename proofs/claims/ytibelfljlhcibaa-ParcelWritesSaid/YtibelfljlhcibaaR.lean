/- How a law's arguments read: one relation a kind ('Rd'), opened out of the row's own reading, kept where nothing old is written. -/
import Derived.Test.YtibelfljlhcibaaRows
import Derived.ProofKit
import Derived.OpenShut
import Derived.SizedLaws
import Derived.Below
import Derived.Deep.Slices
namespace Go.Proofs.Ytibelfljlhcibaa
open Go.ChangeShapes Go.WideShapes Go.ChangeAt Go.RowKit Go.Deep

def reach : Nat := 140737488351232
/-- What an element's cells say. -/
structure Rd (α : Type) where
  sz : Nat
  rd : World → α → List Value → Prop
  len : ∀ {w x cs}, rd w x cs → cs.length = sz
  below : ∀ {w w' : World} {x cs}, Below w.heap.size w w' → rd w x cs → rd w' x cs

theorem cell_lt {w : World} {a : Addr} {v : Value} (h : w.cell? a = some v) : a.block < w.heap.size := by
  unfold World.cell? at h
  split at h
  · rename_i h'; exact (Array.getElem?_eq_some_iff.1 h').1
  · simp at h
theorem cell_below {w w' : World} (hb : Below w.heap.size w w') {a : Addr} {v : Value} (h : w.cell? a = some v) : w'.cell? a = some v := by
  rw [hb.cell (cell_lt h)]; exact h

/-- The elements of a slice. -/
def Rd.elems {α : Type} (R : Rd α) (w : World) (A : Option Addr) (xs : List α) : Prop :=
  ∀ i x, xs[i]? = some x → ∃ b o cs, A = some ⟨b, o, none⟩ ∧ R.rd w x cs ∧ ∀ j v, cs[j]? = some v → w.cell? ⟨b, o + i * R.sz + j, none⟩ = some v
theorem Rd.elems_below {α : Type} {R : Rd α} {w w' : World} {A : Option Addr} {xs : List α} (hb : Below w.heap.size w w') (h : R.elems w A xs) : R.elems w' A xs := by
  intro i x hx
  obtain ⟨b, o, cs, hA, hr, hc⟩ := h i x hx
  exact ⟨b, o, cs, hA, R.below hb hr, fun j v hv => cell_below hb (hc j v hv)⟩

namespace Rd
/-- One cell that is a literal. -/
def lit {α : Type} (enc : α → Value) (ok : α → Prop) : Rd α where
  sz := 1
  rd := fun _ x cs => cs = [enc x] ∧ ok x
  len := by rintro w x cs ⟨rfl, _⟩; rfl
  below := fun _ h => h
def int (k : IntKind) : Rd Int := lit (Value.int k) (fun x => (Lit.int k x).wf = true)
def bool : Rd Bool := lit Value.bool (fun _ => True)
def str : Rd ByteArray := lit Value.string (fun s => s.size ≤ reach)
/-- A slice: B the bytes of an element. -/
def slice {α : Type} (R : Rd α) (B : Nat) : Rd (List α) where
  sz := 1
  rd := fun w xs cs => ∃ A cap, cs = [.slice A xs.length cap] ∧ xs.length ≤ cap ∧ cap ≤ maxLen ∧ xs.length * B ≤ reach ∧ (A = none → cap = 0) ∧ R.elems w A xs
  len := by rintro w x cs ⟨A, cap, rfl, _⟩; rfl
  below := by rintro w w' x cs hb ⟨A, cap, rfl, h1, h2, h3, h4, h5⟩; exact ⟨A, cap, rfl, h1, h2, h3, h4, Rd.elems_below hb h5⟩
def unit : Rd Unit where
  sz := 0
  rd := fun _ _ cs => cs = []
  len := by rintro w x cs rfl; rfl
  below := fun _ h => h
def pair {α β : Type} (R : Rd α) (S : Rd β) : Rd (α × β) where
  sz := R.sz + S.sz
  rd := fun w x cs => ∃ c d, cs = c ++ d ∧ R.rd w x.1 c ∧ S.rd w x.2 d
  len := by rintro w x cs ⟨c, d, rfl, h1, h2⟩; rw [List.length_append, R.len h1, S.len h2]
  below := by rintro w w' x cs hb ⟨c, d, rfl, h1, h2⟩; exact ⟨c, d, rfl, R.below hb h1, S.below hb h2⟩
def iso {α β : Type} (R : Rd α) (f : β → α) : Rd β where
  sz := R.sz
  rd := fun w x cs => R.rd w (f x) cs
  len := fun h => R.len h
  below := fun hb h => R.below hb h
end Rd

/-- Whatever reads at type t reads so. -/
def Opens {α : Type} (P : Program) (W : World) (t : TypeId) (R : Rd α) : Prop :=
  ∀ (H : Type) (enc : TypeId × Value → H) (fuel : Nat) (cs : List Value) (d : DataW H) (ps : List MemPlace), DataW.trod enc P W 0 (fun _ => true) true fuel t cs = some (d, ps) →
    (∀ n ∈ d.weights P t, n ≤ reach) → ∃ x, R.rd W x cs
def OpensFs {α : Type} (P : Program) (W : World) (fs : List Field) (off : Nat) (R : Rd α) : Prop :=
  ∀ (H : Type) (enc : TypeId × Value → H) (fuel : Nat) (cs : List Value) (ds : List (DataW H)), cs.length = off + R.sz → ds.length = fs.length →
    (∀ (i : Nat) (f : Field) (d : DataW H), fs[i]? = some f → ds[i]? = some d → ∃ ps, DataW.trod enc P W 0 (fun _ => true) true fuel f.type ((cs.drop f.offset).take (P.cellsOf f.type)) = some (d, ps)) →
    (∀ n ∈ DataW.weightsEach P (fs.map (·.type)) ds, n ≤ reach) → ∃ x, R.rd W x (cs.drop off)

section
variable {P : Program} {W : World} {t e : TypeId}
theorem opens_int {k : IntKind} (ht : P.underlying t = some (.int k)) : Opens P W t (Rd.int k) := by
  intro H enc fuel cs d ps h _
  cases fuel with
  | zero => simp [DataW.trod] at h
  | succ n =>
    rw [DataW.trod_step] at h; unfold DataW.trodStep at h; rw [ht] at h
    split at h <;> simp_all
    exact ⟨_, rfl, h.1.2⟩
theorem opens_bool (ht : P.underlying t = some .bool) : Opens P W t Rd.bool := by
  intro H enc fuel cs d ps h _
  cases fuel with
  | zero => simp [DataW.trod] at h
  | succ n =>
    rw [DataW.trod_step] at h; unfold DataW.trodStep at h; rw [ht] at h
    split at h <;> simp_all
    exact Bool.exists_bool.1 (⟨_, rfl, trivial⟩ : ∃ x, Rd.bool.rd W x [Value.bool _])
theorem opens_str (ht : P.underlying t = some .string) : Opens P W t Rd.str := by
  intro H enc fuel cs d ps h hw
  cases fuel with
  | zero => simp [DataW.trod] at h
  | succ n =>
    rw [DataW.trod_step] at h; unfold DataW.trodStep at h; rw [ht] at h
    split at h <;> simp_all
    obtain ⟨_, rfl, rfl⟩ := h
    refine ⟨_, rfl, ?_⟩
    simpa [DataW.weights] using hw
theorem weightsAll_mem {H : Type} {e : TypeId} : ∀ {ds : List (DataW H)} {i : Nat} {d : DataW H}, ds[i]? = some d → ∀ n ∈ d.weights P e, n ∈ DataW.weightsAll P e ds
  | d0 :: ds, 0, d, h, n, hn => by
    simp only [List.getElem?_cons_zero, Option.some.injEq] at h; subst h
    simp only [DataW.weightsAll, List.mem_append]; exact Or.inl hn
  | d0 :: ds, i + 1, d, h, n, hn => by
    simp only [List.getElem?_cons_succ] at h
    simp only [DataW.weightsAll, List.mem_append]; exact Or.inr (weightsAll_mem h n hn)
  | [], _, _, h, _, _ => by simp at h
theorem opens_slice {α : Type} {R : Rd α} {B : Nat} (ht : P.underlying t = some (.slice e)) (hR : Opens P W e R) (hs : P.cellsOf e = R.sz) (hpos : 0 < R.sz) (hB : P.bytesOf e = B) : Opens P W t (Rd.slice R B) := by
  intro H enc fuel cs d ps h hw
  rcases open_slice ht h with ⟨rfl, hx⟩ | ⟨a, len, cap, m, n, D, Pl, rfl, hb, hl, hm, hmm, hx, hel⟩
  · exact ⟨[], none, 0, rfl, Nat.le_refl _, by decide, by simp, fun _ => rfl, fun i x hx => by simp at hx⟩
  · obtain ⟨rfl, rfl⟩ := Prod.mk.inj hx
    simp only [if_true] at hmm
    subst hmm
    have hw' : ∀ i, i < len → ∀ k ∈ (D i).weights P e, k ≤ reach := by
      intro i hi k hk
      refine hw k ?_
      simp only [DataW.weights, ht, List.mem_cons, List.mem_append]
      refine Or.inr (Or.inl ?_)
      refine weightsAll_mem (ds := (List.range len).map D) (i := i) (d := D i) (by simp [hi]) k hk
    have hone : ∀ i, i < len → ∃ x, ∃ cs, R.rd W x cs ∧ ∀ j v, cs[j]? = some v → W.cell? ((a.add (i * R.sz)).add j) = some v := by
      intro i hi
      obtain ⟨cs', hc, htr⟩ := hel i (Nat.lt_of_lt_of_le hi hl)
      rw [hs] at hc
      obtain ⟨_, hlen, hcell⟩ := World.cells?_some hc
      obtain ⟨x, hx⟩ := hR H enc n cs' _ _ htr (hw' i hi)
      refine ⟨x, cs', hx, fun j v hv => ?_⟩
      have hj : j < cs'.length := (List.getElem?_eq_some_iff.1 hv).1
      rw [hcell j (by omega), hv]
    have hbytes : len * B ≤ reach := by
      have := hw ((len + (m - len)) * P.bytesOf e) (by simp [DataW.weights, ht])
      rw [hB] at this
      exact Nat.le_trans (Nat.mul_le_mul_right _ (by omega)) this
    by_cases hz : len = 0
    · subst hz
      exact ⟨[], some a, m, rfl, hl, hm, by simp, fun h => by simp at h, fun i x hx => by simp at hx⟩
    · classical
      have hne : ∀ i, ∃ x, i < len → ∃ cs, R.rd W x cs ∧ ∀ j v, cs[j]? = some v → W.cell? ((a.add (i * R.sz)).add j) = some v := by
        intro i
        by_cases hi : i < len
        · obtain ⟨x, hx⟩ := hone i hi; exact ⟨x, fun _ => hx⟩
        · obtain ⟨x, _⟩ := hone 0 (by omega); exact ⟨x, fun h => absurd h hi⟩
      have hspot : a = ⟨a.block, a.off, none⟩ := by
        obtain ⟨x, cs', hx, hc⟩ := hone 0 (by omega)
        have hl0 := R.len hx
        obtain ⟨v, hv⟩ : ∃ v, cs'[0]? = some v := ⟨_, List.getElem?_eq_getElem (by omega)⟩
        have h0 := hc 0 v hv
        simp only [Nat.zero_mul, Addr.add, if_true] at h0
        unfold World.cell? at h0
        split at h0
        · split at h0
          · simp at h0
          · rename_i hsp
            cases a with
            | mk b o s => cases s with
              | none => rfl
              | some q => simp at hsp
        · simp at h0
      refine ⟨(List.range len).map fun i => Classical.choose (hne i), some a, m, by simp, by simpa using hl, hm, by simpa using hbytes, fun h => by simp at h, ?_⟩
      intro i x hx
      simp only [List.getElem?_map, Option.map_eq_some_iff] at hx
      obtain ⟨i', hi', rfl⟩ := hx
      have hi2 : i < len ∧ i' = i := by
        have := List.getElem?_eq_some_iff.1 hi'
        obtain ⟨h1, h2⟩ := this
        simp at h1 h2
        exact ⟨h1, h2.symm⟩
      obtain ⟨hi, rfl⟩ := hi2
      obtain ⟨cs', hx, hc⟩ := Classical.choose_spec (hne i') hi
      refine ⟨a.block, a.off, cs', congrArg some hspot, hx, fun j v hv => ?_⟩
      have h := hc j v hv
      rw [add_add, hspot] at h
      unfold Addr.add at h
      split at h
      · rename_i h0
        have h1 : i' * R.sz = 0 := by omega
        have h2 : j = 0 := by omega
        subst h2
        rw [h1]; exact h
      · rw [Nat.add_assoc]; exact h
theorem opensFs_nil (off : Nat) : OpensFs P W [] off Rd.unit := by
  intro H enc fuel cs ds hl _ _ _
  exact ⟨(), List.drop_of_length_le (by rw [hl]; exact Nat.le_refl _)⟩
theorem opensFs_cons {α β : Type} {R : Rd α} {S : Rd β} {f : Field} {fs : List Field} {off : Nat} (hf : f.offset = off) (hs : P.cellsOf f.type = R.sz) (hR : Opens P W f.type R) (hS : OpensFs P W fs (off + R.sz) S) : OpensFs P W (f :: fs) off (Rd.pair R S) := by
  intro H enc fuel cs ds hl hd htr hw
  cases ds with
  | nil => simp at hd
  | cons d ds =>
    obtain ⟨ps, h0⟩ := htr 0 f d rfl rfl
    rw [hf, hs] at h0
    obtain ⟨x, hx⟩ := hR H enc fuel _ d ps h0 (fun n hn => hw n (by simp only [List.map_cons, DataW.weightsEach, List.mem_append]; exact Or.inl hn))
    obtain ⟨y, hy⟩ := hS H enc fuel cs ds (by rw [hl]; show off + (R.sz + S.sz) = _; omega) (by simpa using hd) (fun i g d' hg hd' => htr (i + 1) g d' (by simpa using hg) (by simpa using hd')) (fun n hn => hw n (by simp only [List.map_cons, DataW.weightsEach, List.mem_append]; exact Or.inr hn))
    refine ⟨(x, y), _, _, ?_, hx, hy⟩
    rw [← List.drop_drop, List.take_append_drop]
theorem opens_struct {α : Type} {R : Rd α} {fs : Array Field} (ht : P.underlying t = some (.struct fs)) (hs : P.cellsOf t = R.sz) (hR : OpensFs P W fs.toList 0 R) : Opens P W t R := by
  intro H enc fuel cs d ps h hw
  obtain ⟨xs, n, rfl, hx, hl, hxl, hf⟩ := DataW.trod_struct ht h
  obtain ⟨rfl, rfl⟩ := Prod.mk.inj hx
  obtain ⟨x, hx⟩ := hR H enc n cs (xs.map (·.1)) (by rw [hl, hs]; omega) (by simpa using hxl) (fun i f d hfi hd => by
      have h1 := hf i f (by simpa using hfi)
      simp only [List.getElem?_map, Option.map_eq_some_iff] at hd
      obtain ⟨y, hy, rfl⟩ := hd
      exact ⟨y.2, by rw [h1, hy]⟩) (fun k hk => hw k (by simp only [DataW.weights, ht]; exact hk))
  exact ⟨x, by simpa using hx⟩
theorem opens_iso {α β : Type} {R : Rd α} (f : β → α) (g : α → β) (hfg : ∀ a, f (g a) = a) (hR : Opens P W t R) : Opens P W t (Rd.iso R f) := by
  intro H enc fuel cs d ps h hw
  obtain ⟨x, hx⟩ := hR H enc fuel cs d ps h hw
  exact ⟨g x, by show R.rd W (f (g x)) cs; rw [hfg]; exact hx⟩
end
/-- A slice that came in, opened. -/
theorem opened_slice {α : Type} {R : Rd α} {B : Nat} {P : Program} {W : World} {t : TypeId} {A : Option Addr} {len cap : Nat} {H : Type} {enc : TypeId × Value → H} {d : DataW H} {ps : List MemPlace} (hO : Opens P W t (Rd.slice R B))
    (h : DataW.Trod enc P W 0 (fun _ => true) true t (.slice A len cap) d ps) (hw : ∀ n ∈ d.weights P t, n ≤ reach) : ∃ xs : List α, len = xs.length ∧ xs.length ≤ cap ∧ cap ≤ maxLen ∧ xs.length * B ≤ reach ∧ (A = none → cap = 0) ∧ R.elems W A xs := by
  obtain ⟨fuel, hf⟩ := h
  obtain ⟨xs, A', cap', hc, h1, h2, h3, h4, h5⟩ := hO H enc fuel _ d ps hf hw
  simp [Value.cells] at hc
  obtain ⟨rfl, rfl, rfl⟩ := hc
  exact ⟨xs, rfl, h1, h2, h3, h4, h5⟩
theorem weights_at {H : Type} {P : Program} {ts : List TypeId} {ds : List (DataW H)} (hsz : (DataW.weightsEach P ts ds).all (· ≤ reachBytes) = true) {j : Nat} {t : TypeId} {d : DataW H} (ht : ts[j]? = some t) (hd : ds[j]? = some d) : ∀ n ∈ d.weights P t, n ≤ reach := by
  intro n hn
  have h := List.all_eq_true.1 hsz n (DataW.weights_mem_each ht hd n hn)
  exact of_decide_eq_true h
end Go.Proofs.Ytibelfljlhcibaa
