/- The contract of form: the groups of seven bits of a number. -/
import Derived.Test.YtibelfljlhcibaaY
import Derived.Test.YtibelfljlhcibaaWLast
namespace Go.Proofs.Ytibelfljlhcibaa
set_option linter.unusedVariables false
set_option linter.unusedSimpArgs false
open Go.RowKit Go.Deep Go.Proofs.YtibelfljlhcibaaW.PrintLast

/-- The groups of seven bits of a number, the lowest first. -/
def formN (n : Nat) : List Int := if n < 128 then [(n : Int)] else ((n % 128 + 128 : Nat) : Int) :: formN (n / 128)
termination_by n
decreasing_by omega
theorem formN_small {n : Nat} (h : n < 128) : formN n = [(n : Int)] := by rw [formN, if_pos h]
theorem formN_big {n : Nat} (h : ¬ n < 128) : formN n = ((n % 128 + 128 : Nat) : Int) :: formN (n / 128) := by rw [formN, if_neg h]
theorem formN_len : ∀ (k n : Nat), n < 128 ^ (k + 1) → (formN n).length ≤ k + 1
  | 0, n, h => by rw [formN_small (by simpa using h)]; simp
  | k + 1, n, h => by
    by_cases hn : n < 128
    · rw [formN_small hn]; simp
    · rw [formN_big hn, List.length_cons]
      have := formN_len k (n / 128) (by rw [Nat.pow_succ] at h; omega)
      omega
theorem formN_len10 {n : Nat} (h : n < 18446744073709551616) : (formN n).length ≤ 10 := formN_len 9 n (Nat.lt_of_lt_of_le h (by decide))
theorem formN_pos (n : Nat) : 1 ≤ (formN n).length := by
  rw [formN]; split <;> simp
set_option maxHeartbeats 1000000 in
set_option maxRecDepth 100000 in
theorem or128 (n : Nat) : bits BinOp.or IntKind.u8 ((n : Int) % 256) 128 = ((n % 128 + 128 : Nat) : Int) := by
  have h : ∀ k : Fin 256, bits BinOp.or IntKind.u8 ((k.val : Nat) : Int) 128 = ((k.val % 128 + 128 : Nat) : Int) := by decide
  have h1 := h ⟨n % 256, by omega⟩
  simp only at h1
  rw [show ((n : Int) % 256) = ((n % 256 : Nat) : Int) by omega, h1]
  omega
/-- append of one byte that was just laid down. -/
theorem OwnB.push {w0 w : World} {g c : Nat} {bs : List Int} (h : OwnB w g c bs) (x : Int) (hl : bs.length ≤ 1000000) (B : Below w0.heap.size w0 w) (hg : w0.heap.size ≤ g) :
    ∃ g' c' w', (Builtin.append_ #[23, 23] 23 #[.slice (some ⟨g, 0, none⟩) bs.length c, .slice (some ⟨w.heap.size, 0, none⟩) 1 1]).run Try.prog (w.alloc (.cells #[.int .u8 x] 5)) = .ok (.slice (some ⟨g', 0, none⟩) (bs.length + 1) c') w' ∧
      OwnB w' g' c' (bs ++ [x]) ∧ Below w0.heap.size w0 w' ∧ w0.heap.size ≤ g' := by
  have hx : BsAt (w.alloc (.cells #[.int .u8 x] 5)) w.heap.size 0 [x] := by
    intro j y hy
    rcases j with _ | j
    · simp at hy; subst hy
      exact cell_blk (blk_new w _) 0 rfl
    · simp at hy
  obtain ⟨g', c', w', hr, O, G, hat⟩ := OwnB.append (h.alloc (.cells #[.int .u8 x] 5)) (ys := [x]) (c := 1) hx (by simp; omega)
  refine ⟨g', c', w', hr, O, ((B.alloc B.size _)).grown G (by have := B.size; simp; omega) (by intro k hk; injection hk with hk; omega), ?_⟩
  have := B.size
  rcases hat with h | h
  · omega
  · simp at h; omega
set_option maxRecDepth 100000 in
theorem form_any (n : Nat) (hn : n < 18446744073709551616) (w : World) :
    Calls Try.prog 101 #[.int .u64 n] w fun e w' => ∃ g c, e = .returned (.slice (some ⟨g, 0, none⟩) (formN n).length c) ∧ w.heap.size ≤ g ∧ OwnB w' g c (formN n) ∧ Below w.heap.size w w' := by
  go_enter Try.func101, Try.ntmps101
  go_wp2_with (refine wpB_make0 _ rfl _ _ rfl 10 (by rfl) (by rfl) (by omega) (fun w1 O1 G1 => ?_))
  have B1 : Below w.heap.size w w1 := (Below.refl _ _).grown G1 (Nat.le_refl _) (by intro k hk; cases hk)
  have HO := Lib.hid O1
  have HB := Lib.hid B1
  clear O1 B1 G1
  refine wp_loop_ghost_k (fun (m : Nat) (ac : Act) (wr : World) => ∃ u1 u2 u4 u5 u6 u7 u8 u9 u10 u11 u12 u13 u14 u15 u16 u17 u18 u19 v0 v3 : Value, (∃ (n' : Nat) (acc : List Int) (g c : Nat), m + acc.length = (formN n).length ∧ acc ++ formN n' = formN n ∧ n' ≤ n ∧ v0 = .int .u64 n' ∧ v3 = .slice (some ⟨g, 0, none⟩) acc.length c ∧ w.heap.size ≤ g ∧ OwnB wr g c acc ∧ Below w.heap.size w wr) ∧ ac = ({ tmps := #[v0, u1, u2, v3, u4, u5, u6, u7, u8, u9, u10, u11, u12, u13, u14, u15, u16, u17, u18, u19], defers := [] } : Act)) ((formN n).length) ?atStart ?round
  case' atStart => ((repeat apply Exists.intro); refine ⟨?_, rfl⟩)
  case' round => (intro m ac wr hcut; obtain ⟨u1, hcut⟩ := hcut; obtain ⟨u2, hcut⟩ := hcut; obtain ⟨u4, hcut⟩ := hcut; obtain ⟨u5, hcut⟩ := hcut; obtain ⟨u6, hcut⟩ := hcut; obtain ⟨u7, hcut⟩ := hcut; obtain ⟨u8, hcut⟩ := hcut; obtain ⟨u9, hcut⟩ := hcut; obtain ⟨u10, hcut⟩ := hcut; obtain ⟨u11, hcut⟩ := hcut; obtain ⟨u12, hcut⟩ := hcut; obtain ⟨u13, hcut⟩ := hcut; obtain ⟨u14, hcut⟩ := hcut; obtain ⟨u15, hcut⟩ := hcut; obtain ⟨u16, hcut⟩ := hcut; obtain ⟨u17, hcut⟩ := hcut; obtain ⟨u18, hcut⟩ := hcut; obtain ⟨u19, hcut⟩ := hcut; obtain ⟨v0, hcut⟩ := hcut; obtain ⟨v3, hcut⟩ := hcut; obtain ⟨hcut, hac⟩ := hcut; subst hac; intro _ _ _ _)
  case atStart => exact ⟨n, [], _, _, rfl, rfl, Nat.le_refl _, rfl, rfl, Nat.le_refl _, HO.out, HB.out⟩
  case round =>
    obtain ⟨n', acc, g, c, hm, hacc, hle, rfl, rfl, hg, O, B⟩ := hcut
    have HM := Lib.hid hm
    have HA := Lib.hid hacc
    have HO := Lib.hid O
    have HB := Lib.hid B
    have hlt64 : n' < 18446744073709551616 := by omega
    have hal : acc.length ≤ 10 := by have := formN_len10 hn; omega
    clear hm hacc O B
    by_cases h : n' < 128
    · obtain ⟨g1, c1, w2, hrun, O2, B2, hg2⟩ := HO.out.push (n' : Int) (by omega) HB.out hg
      have HRUN := Lib.hid hrun
      clear hrun
      go_wp2_with (refine wpList_app HRUN.out rfl rfl rfl (by rfl) (by rfl) ?_)
      go_ret
      rw [← HA.out, formN_small h]
      exact ⟨g1, c1, by simp, hg2, O2, B2⟩
    · obtain ⟨g1, c1, w2, hrun, O2, B2, hg2⟩ := HO.out.push (bits BinOp.or IntKind.u8 ((n' : Int) % 256) 128) (by omega) HB.out hg
      have HRUN := Lib.hid hrun
      clear hrun
      go_wp2_with (refine wpList_app HRUN.out rfl rfl rfl (by rfl) (by rfl) ?_)
      go_roundg (m - 1)
      case measure =>
        have h1 := HM.out
        have h2 := congrArg List.length HA.out
        have h3 := formN_pos n'
        rw [List.length_append] at h2
        omega
      case rel =>
        have h2 := HA.out
        rw [formN_big h] at h2
        refine ⟨n' / 128, acc ++ [((n' % 128 + 128 : Nat) : Int)], g1, c1, ?_, by simpa using h2, by omega, by go_num, by simp, hg2, by rw [← or128]; exact O2, B2⟩
        have h1 := HM.out
        have h4 := congrArg List.length h2
        simp only [List.length_append, List.length_cons] at h4
        simp only [List.length_append, List.length_cons, List.length_nil]
        omega
end Go.Proofs.Ytibelfljlhcibaa
