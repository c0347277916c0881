/- lent, kept. -/
import Derived.Test.YtjmmdpnphafdfaaX5
namespace Go.Proofs.Ytjmmdpnphafdfaa
set_option linter.unusedVariables false
set_option linter.unusedSimpArgs false
open Go.ChangeShapes Go.WideShapes Go.ChangeAt Go.RowKit Go.Deep Go.Proofs.YtjmmdpnphafdfaaW.PrintLast

/-- Bytes lent: in memory of their own from N on, two marks behind them. -/
def LentB (w : World) (N : Nat) (x : SlB) (p : List Int) : Prop := ∃ g, x = (some ⟨g, 0, none⟩, p.length, x.2.2) ∧ N ≤ g ∧ OwnB w g x.2.2 (p ++ [201, 77])
theorem LentB.below {w w' : World} {N : Nat} {x : SlB} {p : List Int} (h : LentB w N x p) (hb : Below w.heap.size w w') : LentB w' N x p := by
  obtain ⟨g, h1, h2, h3⟩ := h
  exact ⟨g, h1, h2, h3.moved (hb.block g h3.lt)⟩
theorem LentB.src {w : World} {N : Nat} {x : SlB} {p : List Int} (h : LentB w N x p) : BSrc w x.1 p := by
  obtain ⟨g, h1, h2, h3⟩ := h
  rw [h1]
  refine BSrc.ofAt fun j y hy => h3.bsAt j y ?_
  rw [List.getElem?_append_left (by
    rcases Nat.lt_or_ge j p.length with h | h
    · exact h
    · rw [List.getElem?_eq_none h] at hy; cases hy)]
  exact hy
theorem LentB.slAt {w : World} {N : Nat} {x : SlB} {p : List Int} (h : LentB w N x p) : SlAt w w.heap.size x p := by
  refine SlAt.ofSrc h.src ?_ (Nat.le_refl _)
  obtain ⟨g, h1, _⟩ := h
  rw [h1]
set_option maxRecDepth 100000 in
set_option maxHeartbeats 200000 in
theorem lent_any {w : World} {B : Option Addr} {c0 : Nat} {p : List Int} (hy : BSrc w B p) (hl : p.length + 2 ≤ 140737488355328) :
    Calls Try.prog 12 #[.slice B p.length c0] w fun e w' => ∃ x : SlB, e = .returned (.slice x.1 x.2.1 x.2.2) ∧ LentB w' w.heap.size x p ∧ Below w.heap.size w w' := by
  have b0 := blk_new w (.cells #[] 5 (0, 0))
  have B0 : Below w.heap.size w (w.alloc (.cells #[] 5 (0, 0))) := (Below.refl _ _).alloc (Nat.le_refl _) _
  have O0 : OwnB (w.alloc (.cells #[] 5 (0, 0))) w.heap.size 0 [] := ⟨Nat.le_refl _, by simp [maxLen], _, b0, rfl, by simp⟩
  obtain ⟨A1, c1, w1, hr1, G1, B1, _⟩ := GRow.append (N := w.heap.size) (w0 := w) elBy (Or.inr ⟨_, rfl, Nat.le_refl _, O0⟩) 22 B c0 (BSrc.src (hy.below B0)) B0 (by simp) (by simp only [maxLen, List.length_nil]; omega) (by simp only [List.length_nil]; omega)
  simp only [List.length_nil, Nat.zero_add, List.nil_append] at hr1 G1
  have HR1 := Lib.hid hr1
  obtain ⟨n, hn⟩ : ∃ n, p.length = n := ⟨_, rfl⟩
  have b1 := blk_new w1 (.cells #[.int .u8 201, .int .u8 77] 5 (0, 0))
  have K1 : KeepT 5 w1 (w1.alloc (.cells #[.int .u8 201, .int .u8 77] 5 (0, 0))) := KeepT.alloc _ _ _
  have hb : BsAt (w1.alloc (.cells #[.int .u8 201, .int .u8 77] 5 (0, 0))) w1.heap.size 0 [201, 77] := by
    intro i x hx
    rcases i with _ | _ | i
    · simp at hx; subst hx; exact cell_blk b1 0 rfl
    · simp at hx; subst hx; exact cell_blk b1 1 rfl
    · simp at hx
  obtain ⟨A2, c2, w2, hr2, G2, B2, _⟩ := GRow.append (N := w.heap.size) (w0 := w) elBy (G1.keeps K1) 22 (some ⟨w1.heap.size, 0, none⟩) 2 (BSrc.src (BSrc.ofAt hb)) (B1.alloc B1.size _) (by simp only [World.size_alloc]; have := B1.size; omega) (by simp only [maxLen, List.length_cons, List.length_nil]; omega) (by simp only [List.length_cons, List.length_nil]; omega)
  simp only [List.length_cons, List.length_nil] at hr2
  have HR2 := Lib.hid hr2
  obtain ⟨g, hg⟩ := G2.some_ (by simp)
  subst hg
  have hc2 : n ≤ c2 := by have := G2.le; rw [List.length_append, hn] at this; omega
  have HG2 := Lib.hid G2
  have HB2 := Lib.hid B2
  rw [hn] at HR1 HR2 ⊢
  have HN := Lib.hid hn
  clear b0 B0 O0 hr1 G1 B1 b1 K1 hb hr2 G2 B2 hy hn
  go_enter Try.func12, Try.ntmps12
  go_upto_region 2 with (refine wpList_app HR1.out rfl rfl rfl (by rfl) (by rfl) ?_)
  go_wp2_with (refine wpList_app HR2.out rfl rfl rfl (by rfl) (by rfl) ?_)
  go_ret
  refine ⟨(some ⟨g, 0, none⟩, n, c2), rfl, ⟨g, by rw [HN.out], ?_⟩, HB2.out⟩
  rcases HG2.out with ⟨h, _⟩ | ⟨g', h, h1, h2⟩
  · cases h
  · injection h with h; injection h with h; subst h
    exact ⟨h1, h2⟩
set_option maxRecDepth 100000 in
set_option maxHeartbeats 400000 in
theorem kept_any {w : World} {N : Nat} {x : SlB} {B : Option Addr} {c0 : Nat} {p : List Int} (h : LentB w N x p) (hy : BSrc w B p) (hl : p.length + 2 ≤ 140737488355328) :
    Calls Try.prog 14 #[.slice x.1 x.2.1 x.2.2, .slice B p.length c0] w fun e w' => e = .returned (.bool true) ∧ Below w.heap.size w w' := by
  have hs := h.src
  obtain ⟨A, l, c⟩ := x
  obtain ⟨g, hx, hg, O⟩ := h
  simp only [Prod.mk.injEq] at hx hs O
  obtain ⟨rfl, rfl, _⟩ := hx
  have hle := O.le
  rw [List.length_append] at hle
  simp only [List.length_cons, List.length_nil] at hle
  have SM := Lib.hid (same_any (c := c) (c' := c0) hs hy (by omega) (by omega))
  rw [decide_eq_true rfl] at SM
  have x0 : w.cell? ⟨g, p.length, none⟩ = some (.int .u8 201) := by
    have := O.bsAt p.length 201 (by simp)
    simpa using this
  have x1 : w.cell? ⟨g, p.length + 1, none⟩ = some (.int .u8 77) := by
    have := O.bsAt (p.length + 1) 77 (by simp)
    simpa using this
  have hgl := O.lt
  generalize p.length = n at *
  have q1 : (n : Int) + 2 ≤ (c : Int) := by omega
  have q2 : n + 2 ≤ c := by omega
  have q3 : (n : Int) < (n : Int) + 2 := by omega
  have q4 : (n : Int) + 1 < (n : Int) + 2 := by omega
  have q5 : n + 2 ≤ 140737488355328 := by omega
  clear O hs hy hle hl
  go_enter Try.func14, Try.ntmps14
  go_wp2_with (fail)
  refine SM.out.mono ?_
  rintro e w2 ⟨rfl, hb2⟩
  have y0 := cell_same x0 (hb2.block g hgl)
  have y1 := cell_same x1 (hb2.block g hgl)
  have HB := Lib.hid hb2
  clear x0 x1 hb2
  go_wp2_with (fail)
  go_ret
  exact ⟨rfl, HB.out⟩
theorem LentB.low {w : World} {N M : Nat} {x : SlB} {p : List Int} (h : LentB w N x p) (hM : M ≤ N) : LentB w M x p := by
  obtain ⟨g, h1, h2, h3⟩ := h
  exact ⟨g, h1, by omega, h3⟩
theorem LentB.other {w w' : World} {N : Nat} {x : SlB} {p : List Int} (h : LentB w N x p) {F : Nat → Prop} (hf : Fr F w w') (hF : ∀ b, N ≤ b → ¬ F b) : LentB w' N x p := by
  obtain ⟨g, h1, h2, h3⟩ := h
  exact ⟨g, h1, h2, h3.moved (hf.block g h3.lt (hF g h2))⟩
end Go.Proofs.Ytjmmdpnphafdfaa
