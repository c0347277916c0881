/- The law's own words: same, lent, kept, spoil. -/
import Derived.Test.YtibelfljlhcibaaPW1
import Derived.Test.YtibelfljlhcibaaPS
import Derived.Test.YtibelfljlhcibaaAP2
import Derived.Laws.BitsAllLaws
namespace Go.Proofs.Ytibelfljlhcibaa
set_option linter.unusedVariables false
set_option linter.unusedSimpArgs false
open Go.RowKit Go.Deep Go.Proofs.YtibelfljlhcibaaW.PrintLast

set_option maxRecDepth 100000 in
set_option maxHeartbeats 4000000 in
theorem same_any {w : World} {A B : Option Addr} {c c' : Nat} {a b : List Int} (hA : BSrc w A a) (hB : BSrc w B b) (la : a.length ≤ 140737488355328) (lb : b.length ≤ 140737488355328) :
    Calls Try.prog 15 #[.slice A a.length c, .slice B b.length c'] w fun e w' => e = .returned (.bool (decide (a = b))) ∧ Below w.heap.size w w' := by
  by_cases hl : a.length = b.length
  · have HA := Lib.hid hA
    have HB := Lib.hid hB
    have HL := Lib.hid hl
    rw [← hl]
    obtain ⟨n, hn⟩ : ∃ n, a.length = n := ⟨_, rfl⟩
    have HN := Lib.hid hn
    rw [hn] at la ⊢
    clear hA hB hl hn lb
    go_enter Try.func15, Try.ntmps15
    go_upto_region 4 with (fail)
    refine wp_loop_ghost_k (fun (m : Nat) (ac : Act) (wr : World) => ∃ u2 u3 u4 u6 u7 u8 u9 u10 u11 u12 u13 u14 u15 u16 u17 u18 u19 u20 u21 u22 u23 u24 u25 v5 : Value, (∃ i : Nat, m + i = n ∧ v5 = .int .i64 i ∧ a.take i = b.take i ∧ Below w.heap.size w wr ∧ wr.heap = w.heap) ∧ ac = ({ tmps := #[.slice A n c, .slice B n c', u2, u3, u4, v5, u6, u7, u8, u9, u10, u11, u12, u13, u14, u15, u16, u17, u18, u19, u20, u21, u22, u23, u24, u25], defers := [] } : Act)) (n) ?atStart ?round
    case' atStart => ((repeat apply Exists.intro); refine ⟨?_, rfl⟩)
    case' round => (intro m ac wr hcut; obtain ⟨u2, hcut⟩ := hcut; obtain ⟨u3, hcut⟩ := hcut; obtain ⟨u4, hcut⟩ := hcut; obtain ⟨u6, hcut⟩ := hcut; obtain ⟨u7, hcut⟩ := hcut; obtain ⟨u8, hcut⟩ := hcut; obtain ⟨u9, hcut⟩ := hcut; obtain ⟨u10, hcut⟩ := hcut; obtain ⟨u11, hcut⟩ := hcut; obtain ⟨u12, hcut⟩ := hcut; obtain ⟨u13, hcut⟩ := hcut; obtain ⟨u14, hcut⟩ := hcut; obtain ⟨u15, hcut⟩ := hcut; obtain ⟨u16, hcut⟩ := hcut; obtain ⟨u17, hcut⟩ := hcut; obtain ⟨u18, hcut⟩ := hcut; obtain ⟨u19, hcut⟩ := hcut; obtain ⟨u20, hcut⟩ := hcut; obtain ⟨u21, hcut⟩ := hcut; obtain ⟨u22, hcut⟩ := hcut; obtain ⟨u23, hcut⟩ := hcut; obtain ⟨u24, hcut⟩ := hcut; obtain ⟨u25, hcut⟩ := hcut; obtain ⟨v5, hcut⟩ := hcut; obtain ⟨hcut, hac⟩ := hcut; subst hac; intro _ _ _ _)
    case atStart => exact ⟨0, rfl, rfl, by simp, Below.refl _ _, rfl⟩
    case round =>
      obtain ⟨i, hi, rfl, ht, hB, hh⟩ := hcut
      have HI := Lib.hid hi
      have HBB := Lib.hid hB
      have HH := Lib.hid hh
      have HT := Lib.hid ht
      have hile : i ≤ n := by omega
      clear hi hB hh ht
      by_cases hlt : i < n
      · have hia : i < a.length := by rw [HN.out]; exact hlt
        have hib : i < b.length := by rw [← HL.out, HN.out]; exact hlt
        obtain ⟨g, o, hAe, HAb⟩ := HA.out (by rintro rfl; simp at hia)
        obtain ⟨g', o', hBe, HBb⟩ := HB.out (by rintro rfl; simp at hib)
        subst hAe
        subst hBe
        obtain ⟨x, hx⟩ : ∃ x, a[i]? = some x := ⟨_, List.getElem?_eq_getElem hia⟩
        obtain ⟨y, hy⟩ : ∃ y, b[i]? = some y := ⟨_, List.getElem?_eq_getElem hib⟩
        have x0 : wr.cell? ⟨g, o + i, none⟩ = some (.int .u8 x) := cell_of' (HAb i _ hx) (by rw [HH.out])
        have y0 : wr.cell? ⟨g', o' + i, none⟩ = some (.int .u8 y) := cell_of' (HBb i _ hy) (by rw [HH.out])
        have HAI := Lib.hid hx
        have HBI := Lib.hid hy
        clear HAb HBb hia hib hx hy
        have q0 : (0 : Int) ≤ (i : Int) := by omega
        have q1 : (i : Int) < (n : Int) := by omega
        obtain ⟨t1, h1⟩ := named (x != y)
        go_wp2_with (fail)
        refine start_ (n := 9) (S := fun w' => w'.cell? ⟨g, o + i, none⟩ = some (.int .u8 x) ∧ w'.cell? ⟨g', o' + i, none⟩ = some (.int .u8 y)) (ds := []) #[false, false, false, false, false, false, false, false, false] (by kernel_rfl) rfl rfl ⟨x0, y0⟩ (fun hHeld => ?_)
        (refine take_ (i := 0) (N := some 17) (v := ?v_2) (a' := ?a_2) #[true, false, false, false, false, false, false, false, false] rfl rfl (by kernel_rfl) (fun _ _ _ h => h) (Or.inl ⟨by rfl, ?hy_2⟩) hHeld ?ha_2 ?hh_2; (case hy_2 => (rintro w' ⟨s0_, s1_⟩; go_simp; with_reducible rfl)); (case ha_2 => (simp (disch := omega) only [Act.put, List.setIfInBounds_toArray, List.set_cons_zero, List.set_cons_succ, wrap_in]; rfl)))
        (refine take_ (i := 1) (N := some 18) (v := ?v_3) (a' := ?a_3) #[true, true, false, false, false, false, false, false, false] rfl rfl (by kernel_rfl) (fun _ _ _ h => h) (Or.inl ⟨by rfl, ?hy_3⟩) hHeld ?ha_3 ?hh_3; (case hy_3 => (rintro w' ⟨s0_, s1_⟩; go_simp; with_reducible rfl)); (case ha_3 => (simp (disch := omega) only [Act.put, List.setIfInBounds_toArray, List.set_cons_zero, List.set_cons_succ, wrap_in]; rfl)))
        (refine take_ (i := 2) (N := some 19) (v := ?v_4) (a' := ?a_4) #[true, true, true, false, false, false, false, false, false] rfl rfl (by kernel_rfl) (fun _ _ _ h => h) (Or.inl ⟨by rfl, ?hy_4⟩) hHeld ?ha_4 ?hh_4; (case hy_4 => (rintro w' ⟨s0_, s1_⟩; go_simp; with_reducible rfl)); (case ha_4 => (simp (disch := omega) only [Act.put, List.setIfInBounds_toArray, List.set_cons_zero, List.set_cons_succ, wrap_in]; rfl)))
        (refine take_ (i := 3) (N := some 20) (v := ?v_5) (a' := ?a_5) #[true, true, true, true, false, false, false, false, false] rfl rfl (by kernel_rfl) (fun _ _ _ h => h) (Or.inl ⟨by rfl, ?hy_5⟩) hHeld ?ha_5 ?hh_5; (case hy_5 => (rintro w' ⟨s0_, s1_⟩; go_simp; with_reducible rfl)); (case ha_5 => (simp (disch := omega) only [Act.put, List.setIfInBounds_toArray, List.set_cons_zero, List.set_cons_succ, wrap_in]; rfl)))
        (refine take_ (i := 4) (N := some 21) (v := ?v_6) (a' := ?a_6) #[true, true, true, true, true, false, false, false, false] rfl rfl (by kernel_rfl) (fun _ _ _ h => h) (Or.inl ⟨by rfl, ?hy_6⟩) hHeld ?ha_6 ?hh_6; (case hy_6 => (rintro w' ⟨s0_, s1_⟩; go_simp; with_reducible rfl)); (case ha_6 => (simp (disch := omega) only [Act.put, List.setIfInBounds_toArray, List.set_cons_zero, List.set_cons_succ, wrap_in]; rfl)))
        (refine take_ (i := 5) (N := some 22) (v := ?v_7) (a' := ?a_7) #[true, true, true, true, true, true, false, false, false] rfl rfl (by kernel_rfl) (fun _ _ _ h => h) (Or.inl ⟨by rfl, ?hy_7⟩) hHeld ?ha_7 ?hh_7; (case hy_7 => (rintro w' ⟨s0_, s1_⟩; go_simp; with_reducible rfl)); (case ha_7 => (simp (disch := omega) only [Act.put, List.setIfInBounds_toArray, List.set_cons_zero, List.set_cons_succ, wrap_in]; rfl)))
        (refine take_ (i := 6) (N := some 23) (v := ?v_8) (a' := ?a_8) #[true, true, true, true, true, true, true, false, false] rfl rfl (by kernel_rfl) (fun _ _ _ h => h) (Or.inl ⟨by rfl, ?hy_8⟩) hHeld ?ha_8 ?hh_8; (case hy_8 => (rintro w' ⟨s0_, s1_⟩; go_simp; with_reducible rfl)); (case ha_8 => (simp (disch := omega) only [Act.put, List.setIfInBounds_toArray, List.set_cons_zero, List.set_cons_succ, wrap_in]; rfl)))
        (refine take_ (i := 7) (N := some 24) (v := ?v_9) (a' := ?a_9) #[true, true, true, true, true, true, true, true, false] rfl rfl (by kernel_rfl) (fun _ _ _ h => h) (Or.inl ⟨by rfl, ?hy_9⟩) hHeld ?ha_9 ?hh_9; (case hy_9 => (rintro w' ⟨s0_, s1_⟩; go_simp; with_reducible rfl)); (case ha_9 => (simp (disch := omega) only [Act.put, List.setIfInBounds_toArray, List.set_cons_zero, List.set_cons_succ, wrap_in]; rfl)))
        (refine take_ (i := 8) (N := some 25) (v := ?v_10) (a' := ?a_10) #[true, true, true, true, true, true, true, true, true] rfl rfl (by kernel_rfl) (fun _ _ _ h => h) (Or.inl ⟨by rfl, ?hy_10⟩) hHeld ?ha_10 ?hh_10; (case hy_10 => (rintro w' ⟨s0_, s1_⟩; go_simp; with_reducible rfl)); (case ha_10 => (simp (disch := omega) only [Act.put, List.setIfInBounds_toArray, List.set_cons_zero, List.set_cons_succ, wrap_in]; rfl)))
        refine done_ (by kernel_rfl) ?_
        cases t1
        · have hxy : x = y := by simpa using h1
          have HXY := Lib.hid hxy
          clear hxy
          go_wp2_with (fail)
          go_roundg (m - 1)
          case measure => have := HI.out; omega
          case rel => exact ⟨i + 1, by have := HI.out; omega, by go_num, by rw [List.take_add_one, List.take_add_one, HAI.out, HBI.out, HT.out, HXY.out], HBB.out.drew, HH.out⟩
        · have hxy : ¬ x = y := by simpa using h1
          have HXY := Lib.hid hxy
          clear hxy
          go_wp2_with (fail)
          go_ret
          refine ⟨by rw [decide_eq_false (show ¬ a = b from fun e => by have h1 := HAI.out; rw [e, HBI.out] at h1; exact HXY.out (Option.some.inj h1).symm)]; rfl, HBB.out.drew⟩
      · go_wp2_with (fail)
        go_ret
        have hin : i = n := by omega
        have h2 := HT.out
        rw [hin, List.take_of_length_le (Nat.le_of_eq HN.out), List.take_of_length_le (Nat.le_of_eq (HL.out.symm.trans HN.out))] at h2
        exact ⟨by rw [decide_eq_true h2]; rfl, HBB.out⟩
  · have HNE := Lib.hid (show decide (a = b) = false from decide_eq_false (fun e => hl (congrArg List.length e)))
    have hl' : ¬ (a.length : Int) = (b.length : Int) := by omega
    generalize a.length = n at *
    generalize b.length = k at *
    clear hA hB hl
    go_enter Try.func15, Try.ntmps15
    go_wp2_with (fail)
    go_ret
    exact ⟨by rw [HNE.out]; rfl, Below.refl _ _⟩
/-- Bytes lent: in memory of their own from N on, two marks behind them. -/
def LentB (w : World) (N : Nat) (x : SlB) (p : List Int) : Prop := ∃ g, x = (some ⟨g, 0, none⟩, p.length, x.2.2) ∧ N ≤ g ∧ OwnB w g x.2.2 (p ++ [201, 77])
theorem LentB.below {w w' : World} {N : Nat} {x : SlB} {p : List Int} (h : LentB w N x p) (hb : Below w.heap.size w w') : LentB w' N x p := by
  obtain ⟨g, h1, h2, h3⟩ := h
  exact ⟨g, h1, h2, h3.moved (hb.block g h3.lt)⟩
theorem LentB.src {w : World} {N : Nat} {x : SlB} {p : List Int} (h : LentB w N x p) : BSrc w x.1 p := by
  obtain ⟨g, h1, h2, h3⟩ := h
  rw [h1]
  refine BSrc.ofAt fun j y hy => h3.bsAt j y ?_
  rw [List.getElem?_append_left (by
    rcases Nat.lt_or_ge j p.length with h | h
    · exact h
    · rw [List.getElem?_eq_none h] at hy; cases hy)]
  exact hy
theorem LentB.slAt {w : World} {N : Nat} {x : SlB} {p : List Int} (h : LentB w N x p) : SlAt w w.heap.size x p := by
  refine SlAt.ofSrc h.src ?_ (Nat.le_refl _)
  obtain ⟨g, h1, _⟩ := h
  rw [h1]
set_option maxRecDepth 100000 in
set_option maxHeartbeats 200000 in
theorem lent_any {w : World} {B : Option Addr} {c0 : Nat} {p : List Int} (hy : BSrc w B p) (hl : p.length + 2 ≤ 140737488355328) :
    Calls Try.prog 30 #[.slice B p.length c0] w fun e w' => ∃ x : SlB, e = .returned (.slice x.1 x.2.1 x.2.2) ∧ LentB w' w.heap.size x p ∧ Below w.heap.size w w' := by
  have b0 := blk_new w (.cells #[] 5 (0, 0))
  have B0 : Below w.heap.size w (w.alloc (.cells #[] 5 (0, 0))) := (Below.refl _ _).alloc (Nat.le_refl _) _
  have O0 : OwnB (w.alloc (.cells #[] 5 (0, 0))) w.heap.size 0 [] := ⟨Nat.le_refl _, by simp [maxLen], _, b0, rfl, by simp⟩
  obtain ⟨A1, c1, w1, hr1, G1, B1, _⟩ := GRow.append (N := w.heap.size) (w0 := w) elBy (Or.inr ⟨_, rfl, Nat.le_refl _, O0⟩) 23 B c0 (BSrc.src (hy.below B0)) B0 (by simp) (by simp only [maxLen, List.length_nil]; omega) (by simp only [List.length_nil]; omega)
  simp only [List.length_nil, Nat.zero_add, List.nil_append] at hr1 G1
  have HR1 := Lib.hid hr1
  obtain ⟨n, hn⟩ : ∃ n, p.length = n := ⟨_, rfl⟩
  have b1 := blk_new w1 (.cells #[.int .u8 201, .int .u8 77] 5 (0, 0))
  have K1 : KeepT 5 w1 (w1.alloc (.cells #[.int .u8 201, .int .u8 77] 5 (0, 0))) := KeepT.alloc _ _ _
  have hb : BsAt (w1.alloc (.cells #[.int .u8 201, .int .u8 77] 5 (0, 0))) w1.heap.size 0 [201, 77] := by
    intro i x hx
    rcases i with _ | _ | i
    · simp at hx; subst hx; exact cell_blk b1 0 rfl
    · simp at hx; subst hx; exact cell_blk b1 1 rfl
    · simp at hx
  obtain ⟨A2, c2, w2, hr2, G2, B2, _⟩ := GRow.append (N := w.heap.size) (w0 := w) elBy (G1.keeps K1) 23 (some ⟨w1.heap.size, 0, none⟩) 2 (BSrc.src (BSrc.ofAt hb)) (B1.alloc B1.size _) (by simp only [World.size_alloc]; have := B1.size; omega) (by simp only [maxLen, List.length_cons, List.length_nil]; omega) (by simp only [List.length_cons, List.length_nil]; omega)
  simp only [List.length_cons, List.length_nil] at hr2
  have HR2 := Lib.hid hr2
  obtain ⟨g, hg⟩ := G2.some_ (by simp)
  subst hg
  have hc2 : n ≤ c2 := by have := G2.le; rw [List.length_append, hn] at this; omega
  have HG2 := Lib.hid G2
  have HB2 := Lib.hid B2
  rw [hn] at HR1 HR2 ⊢
  have HN := Lib.hid hn
  clear b0 B0 O0 hr1 G1 B1 b1 K1 hb hr2 G2 B2 hy hn
  go_enter Try.func30, Try.ntmps30
  go_upto_region 2 with (refine wpList_app HR1.out rfl rfl rfl (by rfl) (by rfl) ?_)
  go_wp2_with (refine wpList_app HR2.out rfl rfl rfl (by rfl) (by rfl) ?_)
  go_ret
  refine ⟨(some ⟨g, 0, none⟩, n, c2), rfl, ⟨g, by rw [HN.out], ?_⟩, HB2.out⟩
  rcases HG2.out with ⟨h, _⟩ | ⟨g', h, h1, h2⟩
  · cases h
  · injection h with h; injection h with h; subst h
    exact ⟨h1, h2⟩
set_option maxRecDepth 100000 in
set_option maxHeartbeats 400000 in
theorem kept_any {w : World} {N : Nat} {x : SlB} {B : Option Addr} {c0 : Nat} {p : List Int} (h : LentB w N x p) (hy : BSrc w B p) (hl : p.length + 2 ≤ 140737488355328) :
    Calls Try.prog 31 #[.slice x.1 x.2.1 x.2.2, .slice B p.length c0] w fun e w' => e = .returned (.bool true) ∧ Below w.heap.size w w' := by
  have hs := h.src
  obtain ⟨A, l, c⟩ := x
  obtain ⟨g, hx, hg, O⟩ := h
  simp only [Prod.mk.injEq] at hx hs O
  obtain ⟨rfl, rfl, _⟩ := hx
  have hle := O.le
  rw [List.length_append] at hle
  simp only [List.length_cons, List.length_nil] at hle
  have SM := Lib.hid (same_any (c := c) (c' := c0) hs hy (by omega) (by omega))
  rw [decide_eq_true rfl] at SM
  have x0 : w.cell? ⟨g, p.length, none⟩ = some (.int .u8 201) := by
    have := O.bsAt p.length 201 (by simp)
    simpa using this
  have x1 : w.cell? ⟨g, p.length + 1, none⟩ = some (.int .u8 77) := by
    have := O.bsAt (p.length + 1) 77 (by simp)
    simpa using this
  have hgl := O.lt
  generalize p.length = n at *
  have q1 : (n : Int) + 2 ≤ (c : Int) := by omega
  have q2 : n + 2 ≤ c := by omega
  have q3 : (n : Int) < (n : Int) + 2 := by omega
  have q4 : (n : Int) + 1 < (n : Int) + 2 := by omega
  have q5 : n + 2 ≤ 140737488355328 := by omega
  clear O hs hy hle hl
  go_enter Try.func31, Try.ntmps31
  go_wp2_with (fail)
  refine SM.out.mono ?_
  rintro e w2 ⟨rfl, hb2⟩
  have y0 := cell_same x0 (hb2.block g hgl)
  have y1 := cell_same x1 (hb2.block g hgl)
  have HB := Lib.hid hb2
  clear x0 x1 hb2
  go_wp2_with (fail)
  go_ret
  exact ⟨rfl, HB.out⟩
theorem LentB.low {w : World} {N M : Nat} {x : SlB} {p : List Int} (h : LentB w N x p) (hM : M ≤ N) : LentB w M x p := by
  obtain ⟨g, h1, h2, h3⟩ := h
  exact ⟨g, h1, by omega, h3⟩
theorem LentB.other {w w' : World} {N : Nat} {x : SlB} {p : List Int} (h : LentB w N x p) {F : Nat → Prop} (hf : Fr F w w') (hF : ∀ b, N ≤ b → ¬ F b) : LentB w' N x p := by
  obtain ⟨g, h1, h2, h3⟩ := h
  exact ⟨g, h1, h2, h3.moved (hf.block g h3.lt (hF g h2))⟩
theorem LentB.new {w : World} {N M hi : Nat} {x : SlB} {p : List Int} (h : LentB w N x p) (h1 : M ≤ N) (hg : ∀ g, x.1 = some ⟨g, 0, none⟩ → g < hi) : NewIn w M hi x p := by
  obtain ⟨g, q1, q2, q3⟩ := h
  have hgg := hg g (by rw [q1])
  refine ⟨by rw [q1], Or.inr ⟨g, by rw [q1], ⟨by omega, hgg⟩, ?_⟩⟩
  have := q3.take p.length
  rw [List.take_left'] at this
  · exact this
  · rfl
theorem NewIn.blw {w w' : World} {lo hi : Nat} {x : SlB} {p : List Int} (h : NewIn w lo hi x p) (hb : Below w.heap.size w w') : NewIn w' lo hi x p := h.same fun b _ _ hl => hb.block b hl
theorem NewIn.frr {w w' : World} {lo hi : Nat} {x : SlB} {p : List Int} {F : Nat → Prop} (h : NewIn w lo hi x p) (hf : Fr F w w') (hd : ∀ b, lo ≤ b → b < hi → ¬ F b) : NewIn w' lo hi x p := h.same fun b h1 h2 hl => hf.block b hl (hd b h1 h2)
theorem NewIn.src {w : World} {lo hi : Nat} {x : SlB} {p : List Int} (h : NewIn w lo hi x p) : BSrc w x.1 p := BSrc.ofRow h.2
def x255 (y : Int) : Int := ((y.toNat ^^^ 255 : Nat) : Int)
theorem x255_byt {xs : List Int} (h : Byt xs) : Byt (xs.map x255) := by
  intro y hy
  obtain ⟨z, hz, rfl⟩ := List.mem_map.1 hy
  have hb := h z hz
  unfold x255
  have := Nat.xor_lt_two_pow (x := z.toNat) (y := 255) (n := 8) (by omega) (by omega)
  omega
theorem x255_bits {y : Int} (h0 : 0 ≤ y) (h1 : y < 256) : bits BinOp.xor IntKind.u8 y 255 = x255 y := u8_xor y 255 h0 h1 (by omega) (by omega)
set_option maxRecDepth 100000 in
set_option maxHeartbeats 1000000 in
theorem spoil_any {w : World} {lo hi : Nat} {s : SlB} {xs : List Int} (h : NewIn w lo hi s xs) (hb : Byt xs) (hl : xs.length ≤ 140737488355000) :
    Calls Try.prog 32 #[.slice s.1 s.2.1 s.2.2] w fun e w' => e = .returned (.tuple #[]) ∧ NewIn w' lo hi s (xs.map x255) ∧ Fr (fun b => lo ≤ b ∧ b < hi) w w' ∧ w'.heap.size = w.heap.size := by
  obtain ⟨A, n, c⟩ := s
  obtain ⟨hn, R⟩ := h
  simp only at hn R ⊢
  have HB := Lib.hid hb
  have HN := Lib.hid hn
  have HR := Lib.hid R
  have hnl : n ≤ 140737488355000 := by omega
  clear hb hn R hl
  go_enter Try.func32, Try.ntmps32
  go_wp2_with (fail)
  refine wp_loop_ghost_k (fun (a : Nat) (ac : Act) (wr : World) => ∃ u1 u3 u4 u5 u6 u7 u8 u9 u10 u11 u12 u13 u14 u15 u16 v2 : Value, (∃ k : Nat, a + k = n ∧ v2 = .int .i64 k ∧ RowF bc 5 1 wr (fun b => lo ≤ b ∧ b < hi) A c ((xs.take k).map x255 ++ xs.drop k) ∧ Fr (fun b => lo ≤ b ∧ b < hi) w wr ∧ wr.heap.size = w.heap.size) ∧ ac = ({ tmps := #[.slice A n c, u1, v2, u3, u4, u5, u6, u7, u8, u9, u10, u11, u12, u13, u14, u15, u16], defers := [] } : Act)) (n) ?atStart ?round
  case' atStart => ((repeat apply Exists.intro); refine ⟨?_, rfl⟩)
  case' round => (intro a ac wr hcut; obtain ⟨u1, hcut⟩ := hcut; obtain ⟨u3, hcut⟩ := hcut; obtain ⟨u4, hcut⟩ := hcut; obtain ⟨u5, hcut⟩ := hcut; obtain ⟨u6, hcut⟩ := hcut; obtain ⟨u7, hcut⟩ := hcut; obtain ⟨u8, hcut⟩ := hcut; obtain ⟨u9, hcut⟩ := hcut; obtain ⟨u10, hcut⟩ := hcut; obtain ⟨u11, hcut⟩ := hcut; obtain ⟨u12, hcut⟩ := hcut; obtain ⟨u13, hcut⟩ := hcut; obtain ⟨u14, hcut⟩ := hcut; obtain ⟨u15, hcut⟩ := hcut; obtain ⟨u16, hcut⟩ := hcut; obtain ⟨v2, hcut⟩ := hcut; obtain ⟨hcut, hac⟩ := hcut; subst hac; intro _ _ _ _)
  case atStart => exact ⟨0, rfl, rfl, by simpa using HR.out, Fr.refl _ _, rfl⟩
  case round =>
    obtain ⟨k, hk, rfl, R, FR, SZ⟩ := hcut
    have HK := Lib.hid hk
    have HFR := Lib.hid FR
    have HSZ := Lib.hid SZ
    clear hk FR SZ
    by_cases hkn : k < n
    · have hkx : k < xs.length := by rw [← HN.out]; exact hkn
      have hlen : ((xs.take k).map x255).length = k := by rw [List.length_map, List.length_take]; omega
      rcases R with ⟨_, _, h0⟩ | ⟨g, rfl, hg, O⟩
      · exfalso
        have := congrArg List.length h0
        rw [List.length_append, hlen, List.length_drop] at this
        simp at this; omega
      · have hy : ((xs.take k).map x255 ++ xs.drop k)[k]? = some xs[k] := by
          rw [List.getElem?_append_right (by omega), hlen, Nat.sub_self, List.getElem?_drop, Nat.add_zero]
          exact List.getElem?_eq_getElem hkx
        have hyb := HB.out _ (List.getElem_mem hkx)
        have O2 := Own.set1 (fun _ => rfl) O (i := k) (by rw [List.length_append, hlen, List.length_drop]; omega) (x := x255 xs[k]) (v := .int .u8 (x255 xs[k])) (by simp [bc])
        have hset : ((xs.take k).map x255 ++ xs.drop k).set k (x255 xs[k]) = (xs.take (k + 1)).map x255 ++ xs.drop (k + 1) := by
          rw [List.set_append_right _ _ (by omega), hlen, Nat.sub_self, List.drop_eq_getElem_cons hkx, List.set_cons_zero, List.take_add_one, List.getElem?_eq_getElem hkx, List.map_append, List.append_assoc]
          rfl
        rw [hset] at O2
        have c0 : wr.cell? ⟨g, k, none⟩ = some (.int .u8 xs[k]) := by
          have := O.cell hy (j := 0) (v := .int .u8 xs[k]) (by simp [bc])
          simpa using this
        have fz := O.free k
        have hx := x255_bits hyb.1 hyb.2
        have HG := Lib.hid hg
        have HO2 := Lib.hid O2
        have q1 : (k : Int) < (n : Int) := by omega
        generalize xs[k] = y at *
        clear O hy hyb O2 hset hlen hg
        go_wp2_with (fail)
        go_roundg (a - 1)
        case measure => have := HK.out; omega
        case rel => exact ⟨k + 1, by have := HK.out; omega, by go_num, Or.inr ⟨g, rfl, HG.out, HO2.out⟩, HFR.out.trans (Fr.set (F := fun b => lo ≤ b ∧ b < hi) wr HG.out _) fun _ _ h => h, by rw [setCell_size]; exact HSZ.out⟩
    · have HRR := Lib.hid R
      clear R
      go_wp2_with (fail)
      go_end0
      have hkk : k = xs.length := by rw [← HN.out]; have := HK.out; omega
      have hR := HRR.out
      rw [hkk, List.take_length, List.drop_length, List.append_nil] at hR
      exact ⟨rfl, ⟨by rw [List.length_map]; exact HN.out, hR⟩, HFR.out, HSZ.out⟩
end Go.Proofs.Ytibelfljlhcibaa
