/- round, known; how scripts read. -/
import Derived.Test.YtmichnnkkpgpmaaQ1
import Derived.Test.YtmichnnkkpgpmaaWAi
import Derived.Test.YtmichnnkkpgpmaaE
namespace Go.Proofs.Ytmichnnkkpgpmaa
set_option linter.unusedVariables false
set_option linter.unusedSimpArgs false
open Go.RowKit Go.Deep Go.Proofs.YtmichnnkkpgpmaaW.PrintLast

set_option maxHeartbeats 1000000 in
theorem round_any (x : Int) (n : Nat) (x0 : -9223372036854775808 ≤ x) (x1 : x ≤ 9223372036854775807) (hn : 1 ≤ n) (hn' : n ≤ 1000000000000000) (w : World) :
    Calls Try.prog 13 #[.int .i64 x, .int .i64 n] w fun e w' => e = .returned (.int .i64 (rnd x n : Nat)) ∧ w = w' := by
  have q0 : (1 : Int) ≤ (n : Int) := by omega
  have q1 : (n : Int) ≤ 1000000000000000 := by omega
  have m0 := Int.tmod_lt_of_pos x (show (0 : Int) < n by omega)
  have m1 : -(n : Int) < x.tmod n := by
    have := Int.lt_tmod_of_pos x (show (0 : Int) < n by omega)
    omega
  have hr : ((rnd x n : Nat) : Int) = x % (n : Int) := by
    unfold rnd
    have := Int.emod_nonneg x (show (n : Int) ≠ 0 by omega)
    omega
  have ht : x.tmod n = if x % (n : Int) = 0 ∨ 0 ≤ x then x % n else x % n - n := by
    rw [Int.tmod_eq_emod]
    have hs : (if 0 ≤ x ∨ (n : Int) ∣ x then (0 : Int) else ((n : Int).natAbs : Int)) = if x % (n : Int) = 0 ∨ 0 ≤ x then 0 else (n : Int) := by
      have hd : (n : Int) ∣ x ↔ x % (n : Int) = 0 := Int.dvd_iff_emod_eq_zero ..
      by_cases h0 : 0 ≤ x
      · rw [if_pos (Or.inl h0), if_pos (Or.inr h0)]
      · by_cases h1 : x % (n : Int) = 0
        · rw [if_pos (Or.inr (hd.2 h1)), if_pos (Or.inl h1)]
        · rw [if_neg (by rintro (h | h); exact h0 h; exact h1 (hd.1 h)), if_neg (by rintro (h | h); exact h1 h; exact h0 h)]; simp
    first
      | (rw [hs]; split <;> omega)
      | (split <;> split <;> simp_all <;> omega)
  have e0 := Int.emod_nonneg x (show (n : Int) ≠ 0 by omega)
  have e1 := Int.emod_lt_of_pos x (show (0 : Int) < n by omega)
  have HR := Lib.hid hr
  have HT := Lib.hid ht
  clear hr ht
  by_cases hneg : x.tmod n < 0
  · have t1 : decide (x.tmod n < 0) = true := by simpa using hneg
    go_enter Try.func13, Try.ntmps13
    go_wp2_with (fail)
    go_ret
    exact ⟨ret_i (by rw [HR.out]; have := HT.out; split at this <;> omega), rfl⟩
  · have t1 : decide (x.tmod n < 0) = false := by simpa using hneg
    go_enter Try.func13, Try.ntmps13
    go_wp2_with (fail)
    go_ret
    exact ⟨ret_i (by rw [HR.out]; have := HT.out; split at this <;> omega), rfl⟩
set_option maxHeartbeats 400000 in
theorem new_any (w : World) : Calls Try.prog 36 #[] w fun e w' => e = .returned (.pointer none) ∧ w = w' := by
  go_enter Try.func36, Try.ntmps36
  go_wp2
  go_ret
  exact ⟨rfl, rfl⟩
def RdOp : Rd OpV := Rd.iso (Rd.pair i64R (Rd.pair i64R (Rd.pair i64R (Rd.pair i64R Rd.unit)))) (fun l => (l.kind, l.from_, l.key, l.value, ()))
theorem opens_Op (W : World) : Opens Try.prog W 62 RdOp :=
  opens_iso _ (fun p => ⟨p.1, p.2.1, p.2.2.1, p.2.2.2.1⟩) (fun _ => rfl) (opens_struct Try.underlying62 (by kernel_rfl) (opensFs_cons rfl (by kernel_rfl) (opens_int Try.underlying3) (opensFs_cons rfl (by kernel_rfl) (opens_int Try.underlying3) (opensFs_cons rfl (by kernel_rfl) (opens_int Try.underlying3) (opensFs_cons rfl (by kernel_rfl) (opens_int Try.underlying3) (opensFs_nil _))))))
theorem opens_Ops (W : World) : Opens Try.prog W 31 (Rd.slice RdOp 32) :=
  opens_slice Try.underlying31 (opens_Op W) (by kernel_rfl) (by decide) (by kernel_rfl)
def in64 (x : Int) : Prop := -9223372036854775808 ≤ x ∧ x ≤ 9223372036854775807
theorem in64_wf {x : Int} (h : (Lit.int .i64 x).wf = true) : in64 x := by
  simp only [Lit.wf, Bool.and_eq_true, decide_eq_true_eq] at h
  have h1 : IntKind.i64.min = -9223372036854775808 := by decide
  have h2 : IntKind.i64.max = 9223372036854775807 := by decide
  unfold in64; omega
theorem op_at {w : World} {A : Option Addr} {xs : List OpV} (h : RdOp.elems w A xs) {i : Nat} {x : OpV} (hi : xs[i]? = some x) : ∃ b o, A = some ⟨b, o, none⟩ ∧ w.cell? ⟨b, o + i * 4, none⟩ = some (.int .i64 x.kind) ∧ w.cell? ⟨b, o + i * 4 + 1, none⟩ = some (.int .i64 x.from_) ∧ w.cell? ⟨b, o + i * 4 + 2, none⟩ = some (.int .i64 x.key) ∧ w.cell? ⟨b, o + i * 4 + 3, none⟩ = some (.int .i64 x.value) ∧ in64 x.kind ∧ in64 x.from_ ∧ in64 x.key ∧ in64 x.value := by
  obtain ⟨b, o, cs, hA, hr, hc⟩ := h i x hi
  obtain ⟨_, _, rfl, ⟨rfl, h1⟩, _, _, rfl, ⟨rfl, h2⟩, _, _, rfl, ⟨rfl, h3⟩, _, _, rfl, ⟨rfl, h4⟩, rfl⟩ := hr
  exact ⟨b, o, hA, hc 0 _ rfl, hc 1 _ rfl, hc 2 _ rfl, hc 3 _ rfl, in64_wf h1, in64_wf h2, in64_wf h3, in64_wf h4⟩
def encP (p : Option Addr) : List Value := [.pointer p]
theorem elP : ElT Try.prog encP 33 35 1 8 (.pointer none) := ⟨Try.underlying33, by kernel_rfl, rfl, by decide, fun _ => rfl, fun x u hu => by simp [encP] at hu; subst hu; rfl⟩
/-- A row of trees where it lies. -/
structure Forest (w : World) (N : Nat) (A : Option Addr) (c : Nat) (l : List TI) (ps : List (Option Addr)) : Prop where
  row : GRow encP 35 1 w N A c ps
  len : ps.length = l.length
  tree : ∀ (i : Nat) (p : Option Addr) (t : TI), ps[i]? = some p → l[i]? = some t → Ti.TreeAt w p t
theorem Forest.keeps {w w' : World} {N : Nat} {A : Option Addr} {c : Nat} {l : List TI} {ps : List (Option Addr)} (h : Forest w N A c l ps) (h1 : KeepT 35 w w') (h2 : KeepT 110 w w') : Forest w' N A c l ps :=
  ⟨h.row.keeps h1, h.len, fun i p t hp ht => (h.tree i p t hp ht).keeps h2⟩
theorem Forest.below {w w' : World} {N : Nat} {A : Option Addr} {c : Nat} {l : List TI} {ps : List (Option Addr)} (h : Forest w N A c l ps) (hb : Below w.heap.size w w') : Forest w' N A c l ps := h.keeps (KeepT.below hb) (KeepT.below hb)
theorem Forest.at_ {w : World} {N : Nat} {A : Option Addr} {c : Nat} {l : List TI} {ps : List (Option Addr)} (h : Forest w N A c l ps) {i : Nat} {t : TI} (ht : l[i]? = some t) : ∃ g p, A = some ⟨g, 0, none⟩ ∧ w.cell? ⟨g, i, none⟩ = some (.pointer p) ∧ Ti.TreeAt w p t := by
  have hi : i < ps.length := by rw [h.len]; exact (List.getElem?_eq_some_iff.1 ht).1
  have hp := List.getElem?_eq_getElem hi
  obtain ⟨g, h1, h2⟩ := h.row.cell hp (j := 0) rfl
  exact ⟨g, _, h1, by simpa using h2, h.tree i _ t hp ht⟩
/-- One tree more, that was just laid down. -/
theorem Forest.push {w0 w : World} {N : Nat} {A : Option Addr} {c : Nat} {l : List TI} {ps : List (Option Addr)} (h : Forest w N A c l ps) {p : Option Addr} {t : TI} (ht : Ti.TreeAt w p t) (hB : Below N w0 w) (hN : N ≤ w.heap.size) (hl : l.length ≤ 9000000000000) :
    ∃ A' c' w', (Builtin.append_ #[33, 33] 33 #[.slice A l.length c, .slice (some ⟨w.heap.size, 0, none⟩) 1 1]).run Try.prog (w.alloc (.cells #[.pointer p] 35)) = .ok (.slice A' (l.length + 1) c') w' ∧
      Forest w' N A' c' (l ++ [t]) (ps ++ [p]) ∧ Below N w0 w' := by
  obtain ⟨A', c', w', h1, h2, h3, h4, h5⟩ := GRow.push elP h.row 33 p hB hN (by rw [h.len]; simp only [maxLen]; omega) (by rw [h.len]; omega)
  rw [h.len] at h1
  have hk := h4 110 (by decide)
  refine ⟨A', c', w', h1, ⟨h2, by simp [h.len], fun i p' t' hp' ht' => ?_⟩, h3⟩
  by_cases hi : i < l.length
  · rw [List.getElem?_append_left (by rw [h.len]; exact hi)] at hp'
    rw [List.getElem?_append_left hi] at ht'
    exact (h.tree i p' t' hp' ht').keeps hk
  · have h0 : i = l.length := by
      have := (List.getElem?_eq_some_iff.1 ht').1
      simp at this; omega
    subst h0
    rw [List.getElem?_append_right (by rw [h.len]; exact Nat.le_refl _), h.len, Nat.sub_self] at hp'
    rw [List.getElem?_append_right (Nat.le_refl _), Nat.sub_self] at ht'
    simp at hp' ht'
    subst hp' ht'
    exact ht.keeps hk
end Go.Proofs.Ytmichnnkkpgpmaa
