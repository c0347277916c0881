/- A record lent, each text apart; turn; apart over intervals. -/
import Derived.Test.YtjmmdpnphafdfaaX7
import Derived.Test.YtjmmdpnphafdfaaAP3
import Derived.Laws.BitsAllLaws
namespace Go.Proofs.Ytjmmdpnphafdfaa
set_option linter.unusedVariables false
set_option linter.unusedSimpArgs false
open Go.ChangeShapes Go.WideShapes Go.ChangeAt Go.RowKit Go.Deep Go.Proofs.YtjmmdpnphafdfaaW.PrintLast

attribute [local go_sem] run_store_func
theorem LentB.new {w : World} {N M hi : Nat} {x : SlB} {p : List Int} (h : LentB w N x p) (h1 : M ≤ N) (hg : ∀ g, x.1 = some ⟨g, 0, none⟩ → g < hi) : NewIn w M hi x p := by
  obtain ⟨g, q1, q2, q3⟩ := h
  have hgg := hg g (by rw [q1])
  refine ⟨by rw [q1], Or.inr ⟨g, by rw [q1], ⟨by omega, hgg⟩, ?_⟩⟩
  have := q3.take p.length
  rw [List.take_left'] at this
  · exact this
  · rfl
theorem NewIn.blw {w w' : World} {lo hi : Nat} {x : SlB} {p : List Int} (h : NewIn w lo hi x p) (hb : Below w.heap.size w w') : NewIn w' lo hi x p := h.same fun b _ _ hl => hb.block b hl
theorem NewIn.frr {w w' : World} {lo hi : Nat} {x : SlB} {p : List Int} {F : Nat → Prop} (h : NewIn w lo hi x p) (hf : Fr F w w') (hd : ∀ b, lo ≤ b → b < hi → ¬ F b) : NewIn w' lo hi x p := h.same fun b h1 h2 hl => hf.block b hl (hd b h1 h2)
theorem NewIn.src {w : World} {lo hi : Nat} {x : SlB} {p : List Int} (h : NewIn w lo hi x p) : BSrc w x.1 p := BSrc.ofRow h.2
def x85 (y : Int) : Int := ((y.toNat ^^^ 85 : Nat) : Int)
theorem x85_byt {xs : List Int} (h : Byt xs) : Byt (xs.map x85) := by
  intro y hy
  obtain ⟨z, hz, rfl⟩ := List.mem_map.1 hy
  have hb := h z hz
  unfold x85
  have := Nat.xor_lt_two_pow (x := z.toNat) (y := 85) (n := 8) (by omega) (by omega)
  omega
theorem x85_bits {y : Int} (h0 : 0 ≤ y) (h1 : y < 256) : bits BinOp.xor IntKind.u8 y 85 = x85 y := u8_xor y 85 h0 h1 (by omega) (by omega)
set_option maxRecDepth 100000 in
set_option maxHeartbeats 1000000 in
theorem turn_any {w : World} {lo hi : Nat} {s : SlB} {xs : List Int} (h : NewIn w lo hi s xs) (hb : Byt xs) (hl : xs.length ≤ 140737488355000) :
    Calls Try.prog 25 #[.slice s.1 s.2.1 s.2.2] w fun e w' => e = .returned (.tuple #[]) ∧ NewIn w' lo hi s (xs.map x85) ∧ Fr (fun b => lo ≤ b ∧ b < hi) w w' ∧ w'.heap.size = w.heap.size := by
  obtain ⟨A, n, c⟩ := s
  obtain ⟨hn, R⟩ := h
  simp only at hn R ⊢
  have HB := Lib.hid hb
  have HN := Lib.hid hn
  have HR := Lib.hid R
  have hnl : n ≤ 140737488355000 := by omega
  clear hb hn R hl
  go_enter Try.func25, Try.ntmps25
  go_wp2_with (fail)
  refine wp_loop_ghost_k (fun (a : Nat) (ac : Act) (wr : World) => ∃ u1 u3 u4 u5 u6 u7 u8 u9 u10 u11 u12 u13 u14 u15 u16 v2 : Value, (∃ k : Nat, a + k = n ∧ v2 = .int .i64 k ∧ RowF bc 5 1 wr (fun b => lo ≤ b ∧ b < hi) A c ((xs.take k).map x85 ++ xs.drop k) ∧ Fr (fun b => lo ≤ b ∧ b < hi) w wr ∧ wr.heap.size = w.heap.size) ∧ ac = ({ tmps := #[.slice A n c, u1, v2, u3, u4, u5, u6, u7, u8, u9, u10, u11, u12, u13, u14, u15, u16], defers := [] } : Act)) (n) ?atStart ?round
  case' atStart => ((repeat apply Exists.intro); refine ⟨?_, rfl⟩)
  case' round => (intro a ac wr hcut; obtain ⟨u1, hcut⟩ := hcut; obtain ⟨u3, hcut⟩ := hcut; obtain ⟨u4, hcut⟩ := hcut; obtain ⟨u5, hcut⟩ := hcut; obtain ⟨u6, hcut⟩ := hcut; obtain ⟨u7, hcut⟩ := hcut; obtain ⟨u8, hcut⟩ := hcut; obtain ⟨u9, hcut⟩ := hcut; obtain ⟨u10, hcut⟩ := hcut; obtain ⟨u11, hcut⟩ := hcut; obtain ⟨u12, hcut⟩ := hcut; obtain ⟨u13, hcut⟩ := hcut; obtain ⟨u14, hcut⟩ := hcut; obtain ⟨u15, hcut⟩ := hcut; obtain ⟨u16, hcut⟩ := hcut; obtain ⟨v2, hcut⟩ := hcut; obtain ⟨hcut, hac⟩ := hcut; subst hac; intro _ _ _ _)
  case atStart => exact ⟨0, rfl, rfl, by simpa using HR.out, Fr.refl _ _, rfl⟩
  case round =>
    obtain ⟨k, hk, rfl, R, FR, SZ⟩ := hcut
    have HK := Lib.hid hk
    have HFR := Lib.hid FR
    have HSZ := Lib.hid SZ
    clear hk FR SZ
    by_cases hkn : k < n
    · have hkx : k < xs.length := by rw [← HN.out]; exact hkn
      have hlen : ((xs.take k).map x85).length = k := by rw [List.length_map, List.length_take]; omega
      rcases R with ⟨_, _, h0⟩ | ⟨g, rfl, hg, O⟩
      · exfalso
        have := congrArg List.length h0
        rw [List.length_append, hlen, List.length_drop] at this
        simp at this; omega
      · have hy : ((xs.take k).map x85 ++ xs.drop k)[k]? = some xs[k] := by
          rw [List.getElem?_append_right (by omega), hlen, Nat.sub_self, List.getElem?_drop, Nat.add_zero]
          exact List.getElem?_eq_getElem hkx
        have hyb := HB.out _ (List.getElem_mem hkx)
        have O2 := Own.set1 (fun _ => rfl) O (i := k) (by rw [List.length_append, hlen, List.length_drop]; omega) (x := x85 xs[k]) (v := .int .u8 (x85 xs[k])) (by simp [bc])
        have hset : ((xs.take k).map x85 ++ xs.drop k).set k (x85 xs[k]) = (xs.take (k + 1)).map x85 ++ xs.drop (k + 1) := by
          rw [List.set_append_right _ _ (by omega), hlen, Nat.sub_self, List.drop_eq_getElem_cons hkx, List.set_cons_zero, List.take_add_one, List.getElem?_eq_getElem hkx, List.map_append, List.append_assoc]
          rfl
        rw [hset] at O2
        have c0 : wr.cell? ⟨g, k, none⟩ = some (.int .u8 xs[k]) := by
          have := O.cell hy (j := 0) (v := .int .u8 xs[k]) (by simp [bc])
          simpa using this
        have fz := O.free k
        have hx := x85_bits hyb.1 hyb.2
        have HG := Lib.hid hg
        have HO2 := Lib.hid O2
        have q1 : (k : Int) < (n : Int) := by omega
        generalize xs[k] = y at *
        clear O hy hyb O2 hset hlen hg
        go_wp2_with (fail)
        go_roundg (a - 1)
        case measure => have := HK.out; omega
        case rel => exact ⟨k + 1, by have := HK.out; omega, by go_num, Or.inr ⟨g, rfl, HG.out, HO2.out⟩, HFR.out.trans (Fr.set (F := fun b => lo ≤ b ∧ b < hi) wr HG.out _) fun _ _ h => h, by rw [setCell_size]; exact HSZ.out⟩
    · have HRR := Lib.hid R
      clear R
      go_wp2_with (fail)
      go_end0
      have hkk : k = xs.length := by rw [← HN.out]; have := HK.out; omega
      have hR := HRR.out
      rw [hkk, List.take_length, List.drop_length, List.append_nil] at hR
      exact ⟨rfl, ⟨by rw [List.length_map]; exact HN.out, hR⟩, HFR.out, HSZ.out⟩
/-- A list in its interval. -/
structure Ent where
  s : SlB
  x : List Int
  lo : Nat
  hi : Nat
theorem apart_iv {w : World} {ps : List Ent} {z cz : Nat} {cur : Array Value} (h : ∀ e ∈ ps, NewIn w e.lo e.hi e.s e.x ∧ e.hi ≤ w.heap.size ∧ e.x.length ≤ 140737488355000)
    (hd : ps.Pairwise fun e f => e.hi ≤ f.lo ∨ f.hi ≤ e.lo) (hz : w.heap[z]? = some (.cells cur 22 (0, 0))) (hzc : ∀ (j : Nat) (s : SlB), (ps.map Ent.s)[j]? = some s → cur[j]? = some (.slice s.1 s.2.1 s.2.2)) (hzF : ∀ e ∈ ps, e.hi ≤ z) (hps : ps.length ≤ 4194304) :
    Calls Try.prog 26 #[.slice (some ⟨z, 0, none⟩) ps.length cz] w fun e w' => e = .returned (.bool true) ∧ Fr (fun b => ∃ e ∈ ps, e.lo ≤ b ∧ b < e.hi) w w' := by
  have := apart_any (w := w) (F := fun j b => ∃ e, ps[j]? = some e ∧ e.lo ≤ b ∧ b < e.hi) (ss := ps.map Ent.s) (X := fun j => match ps[j]? with | some e => e.x | none => []) (z := z) (cz := cz) (cur := cur) ⟨?_, ?_⟩ ?_ hz hzc ?_ ?_ (by rw [List.length_map]; exact hps)
  · rw [List.length_map] at this
    refine this.mono fun e w' hh => ⟨hh.1, hh.2.mono ?_⟩
    rintro b ⟨j, e, he, hb⟩
    exact ⟨e, List.mem_of_getElem? he, hb⟩
  · rintro i j b ⟨e, he, h1, h2⟩ ⟨f, hf, h3, h4⟩
    rw [List.pairwise_iff_getElem] at hd
    obtain ⟨hi, rfl⟩ := List.getElem?_eq_some_iff.1 he
    obtain ⟨hj, rfl⟩ := List.getElem?_eq_some_iff.1 hf
    rcases Nat.lt_trichotomy i j with hlt | heq | hgt
    · have := hd i j hi hj hlt; omega
    · exact heq
    · have := hd j i hj hi hgt; omega
  · rintro i b ⟨e, he, h1, h2⟩
    have := (h e (List.mem_of_getElem? he)).2.1
    omega
  · intro j s hs
    rw [List.getElem?_map] at hs
    cases he : ps[j]? with
    | none => rw [he] at hs; cases hs
    | some e =>
      rw [he] at hs
      simp only [Option.map_some, Option.some.injEq] at hs
      subst hs
      obtain ⟨q1, _⟩ := h e (List.mem_of_getElem? he)
      have hX : (match ps[j]? with | some e => e.x | none => []) = e.x := by rw [he]
      show e.s.2.1 = (match ps[j]? with | some e => e.x | none => []).length ∧ RowF bc 5 1 w (fun b => ∃ e, ps[j]? = some e ∧ e.lo ≤ b ∧ b < e.hi) e.s.1 e.s.2.2 (match ps[j]? with | some e => e.x | none => [])
      rw [hX]
      exact ⟨q1.1, q1.2.mono fun b hb => ⟨e, he, hb⟩⟩
  · rintro j ⟨e, he, h1, h2⟩
    have := hzF e (List.mem_of_getElem? he)
    omega
  · intro j
    cases he : ps[j]? with
    | none => simp
    | some e => exact (h e (List.mem_of_getElem? he)).2.2
set_option maxRecDepth 100000 in
set_option maxHeartbeats 1000000 in
theorem lentRec_sep {w : World} {r : RZ} {K V C : SlB} (h : RecIn w r K V C) : Calls Try.prog 18 #[recV r K V C] w fun e w' => ∃ K' V' C' m1 m2, e = .returned (recV r K' V' C') ∧ w.heap.size ≤ m1 ∧ m1 ≤ m2 ∧ m2 ≤ w'.heap.size ∧ NewIn w' w.heap.size m1 K' r.op.key ∧ NewIn w' m1 m2 V' r.op.val ∧ NewIn w' m2 w'.heap.size C' r.copy ∧ Below w.heap.size w w' := by
  obtain ⟨x1, x2⟩ := two_blks w (.cells (recCells r K V C) TRec (0, 0)) (.cells (recCells RZ.none zSl zSl zSl) TRec (0, 0))
  have B1 : Below w.heap.size w ((w.alloc (.cells (recCells r K V C) TRec (0, 0))).alloc (.cells (recCells RZ.none zSl zSl zSl) TRec (0, 0))) := ((Below.refl _ _).alloc (Nat.le_refl _) _).alloc (by simp) _
  have S1 : ((w.alloc (.cells (recCells r K V C) TRec (0, 0))).alloc (.cells (recCells RZ.none zSl zSl zSl) TRec (0, 0))).heap.size = w.heap.size + 2 := by simp
  unfold recV
  generalize hw1 : (w.alloc (.cells (recCells r K V C) TRec (0, 0))).alloc (.cells (recCells RZ.none zSl zSl zSl) TRec (0, 0)) = w1 at *
  have RI := Lib.hid h
  have HB1 := Lib.hid B1
  have HS1 := Lib.hid S1
  have HX := Lib.hid x1
  have HY := Lib.hid x2
  unfold recCells RZ.none OpZ.none zSl at hw1
  unfold recCells
  have HW1 := Lib.hid hw1
  clear h x1 x2 B1 S1 hw1
  go_enter Try.func18, Try.ntmps18
  go_upto_region 1 with (fail)
  rw [HW1.out]
  have hrr : reach = 140737488351232 := rfl
  have HLN := Lib.hid (show r.op.key.length + 2 ≤ 140737488355328 ∧ r.op.val.length + 2 ≤ 140737488355328 ∧ r.copy.length + 2 ≤ 140737488355328 from by have := RI.out.lk; have := RI.out.lv; have := RI.out.lc; omega)
  clear hrr
  have e7 : w1.cell? ⟨w.heap.size, 7, none⟩ = some (.slice K.1 r.op.key.length K.2.2) := by rw [← RI.out.key.1]; exact cell_blk HX.out 7 rfl
  have LE := Lib.hid (lent_any (w := w1) (c0 := K.2.2) (RI.out.key.src.below HB1.out) HLN.out.1)
  go_wp2_with (fail)
  refine LE.out.mono ?_
  rintro e w2 ⟨y1, rfl, L1, hb2⟩
  have X2 := blk_below HX.out hb2
  have Y2 := blk_below HY.out hb2
  have s2 := blk_lt HY.out
  have t2 := HB1.out.size
  have c7 := cell_blk X2 7 rfl
  have f7 := free_blk X2 7
  have X3 : (w2.setCell ⟨w.heap.size, 7, none⟩ (.slice y1.1 y1.2.1 y1.2.2)).heap[w.heap.size]? = some (.cells (recCells r y1 V C) TRec (0, 0)) := setCell_heap w2 w.heap.size 7 (.slice y1.1 y1.2.1 y1.2.2) _ _ _ X2
  have F3 : Fr (fun b => b = w.heap.size) w2 (w2.setCell ⟨w.heap.size, 7, none⟩ (.slice y1.1 y1.2.1 y1.2.2)) := Fr.set (F := fun b => b = w.heap.size) w2 rfl _
  clear e7 LE
  go_upto_region 2 with (fail)
  generalize w2.setCell ⟨w.heap.size, 7, none⟩ (.slice y1.1 y1.2.1 y1.2.2) = w3 at *
  have LH1 := Lib.hid (L1.other F3 fun b hb => by omega)
  have HG1 := Lib.hid (fun g (hg : y1.1 = some ⟨g, 0, none⟩) => show g < w3.heap.size from by
    obtain ⟨g', q1, _, q3⟩ := L1
    rw [q1] at hg
    injection hg with hg; injection hg with hg; subst hg
    have := q3.lt; have := F3.size; omega)
  have HZ1 := Lib.hid (show w.heap.size + 2 ≤ w1.heap.size ∧ w1.heap.size ≤ w3.heap.size from ⟨by omega, by have := F3.size; have := hb2.size; omega⟩)
  clear HX
  have HX := Lib.hid X3
  have HYn := Lib.hid ((F3.block (w.heap.size + 1) (blk_lt Y2) (by omega)).trans Y2)
  clear HY
  have HY := HYn
  clear HYn
  have HBn := Lib.hid ((HB1.out.trans (hb2.mono HB1.out.size)).trans (F3.toBelow (fun b hb => by omega) (by have := HB1.out.size; have := hb2.size; omega)))
  clear HB1
  have HB1 := HBn
  clear HBn
  clear L1 hb2 X2 Y2 s2 t2 c7 f7 X3 F3
  have e8 : w3.cell? ⟨w.heap.size, 8, none⟩ = some (.slice V.1 r.op.val.length V.2.2) := by rw [← RI.out.val.1]; exact cell_blk HX.out 8 rfl
  have LE := Lib.hid (lent_any (w := w3) (c0 := V.2.2) (RI.out.val.src.below HB1.out) HLN.out.2.1)
  go_wp2_with (fail)
  refine LE.out.mono ?_
  rintro e w4 ⟨y2, rfl, L2, hb4⟩
  have X4 := blk_below HX.out hb4
  have Y4 := blk_below HY.out hb4
  have s4 := blk_lt HY.out
  have t4 := HB1.out.size
  have LH1 := Lib.hid (LH1.out.below hb4)
  have c8 := cell_blk X4 8 rfl
  have f8 := free_blk X4 8
  have X5 : (w4.setCell ⟨w.heap.size, 8, none⟩ (.slice y2.1 y2.2.1 y2.2.2)).heap[w.heap.size]? = some (.cells (recCells r y1 y2 C) TRec (0, 0)) := setCell_heap w4 w.heap.size 8 (.slice y2.1 y2.2.1 y2.2.2) _ _ _ X4
  have F5 : Fr (fun b => b = w.heap.size) w4 (w4.setCell ⟨w.heap.size, 8, none⟩ (.slice y2.1 y2.2.1 y2.2.2)) := Fr.set (F := fun b => b = w.heap.size) w4 rfl _
  clear e8 LE
  go_upto_region 3 with (fail)
  generalize w4.setCell ⟨w.heap.size, 8, none⟩ (.slice y2.1 y2.2.1 y2.2.2) = w5 at *
  have LH1 := Lib.hid (LH1.out.other F5 fun b hb => by have := HS1.out; first | omega | (have := HZ2.out; omega) | (have := HZ1.out; omega))
  have LH2 := Lib.hid (L2.other F5 fun b hb => by omega)
  have HG2 := Lib.hid (fun g (hg : y2.1 = some ⟨g, 0, none⟩) => show g < w5.heap.size from by
    obtain ⟨g', q1, _, q3⟩ := L2
    rw [q1] at hg
    injection hg with hg; injection hg with hg; subst hg
    have := q3.lt; have := F5.size; omega)
  have HZ2 := Lib.hid (show w.heap.size + 2 ≤ w3.heap.size ∧ w3.heap.size ≤ w5.heap.size from ⟨by omega, by have := F5.size; have := hb4.size; omega⟩)
  clear HX
  have HX := Lib.hid X5
  have HYn := Lib.hid ((F5.block (w.heap.size + 1) (blk_lt Y4) (by omega)).trans Y4)
  clear HY
  have HY := HYn
  clear HYn
  have HBn := Lib.hid ((HB1.out.trans (hb4.mono HB1.out.size)).trans (F5.toBelow (fun b hb => by omega) (by have := HB1.out.size; have := hb4.size; omega)))
  clear HB1
  have HB1 := HBn
  clear HBn
  clear L2 hb4 X4 Y4 s4 t4 c8 f8 X5 F5
  have e10 : w5.cell? ⟨w.heap.size, 10, none⟩ = some (.slice C.1 r.copy.length C.2.2) := by rw [← RI.out.copy.1]; exact cell_blk HX.out 10 rfl
  have LE := Lib.hid (lent_any (w := w5) (c0 := C.2.2) (RI.out.copy.src.below HB1.out) HLN.out.2.2)
  go_wp2_with (fail)
  refine LE.out.mono ?_
  rintro e w6 ⟨y3, rfl, L3, hb6⟩
  have X6 := blk_below HX.out hb6
  have Y6 := blk_below HY.out hb6
  have s6 := blk_lt HY.out
  have t6 := HB1.out.size
  have LH1 := Lib.hid (LH1.out.below hb6)
  have LH2 := Lib.hid (LH2.out.below hb6)
  have c10 := cell_blk X6 10 rfl
  have f10 := free_blk X6 10
  have X7 : (w6.setCell ⟨w.heap.size, 10, none⟩ (.slice y3.1 y3.2.1 y3.2.2)).heap[w.heap.size]? = some (.cells (recCells r y1 y2 y3) TRec (0, 0)) := setCell_heap w6 w.heap.size 10 (.slice y3.1 y3.2.1 y3.2.2) _ _ _ X6
  have F7 : Fr (fun b => b = w.heap.size) w6 (w6.setCell ⟨w.heap.size, 10, none⟩ (.slice y3.1 y3.2.1 y3.2.2)) := Fr.set (F := fun b => b = w.heap.size) w6 rfl _
  clear e10 LE
  go_upto_region 4 with (fail)
  generalize w6.setCell ⟨w.heap.size, 10, none⟩ (.slice y3.1 y3.2.1 y3.2.2) = w7 at *
  have LH1 := Lib.hid (LH1.out.other F7 fun b hb => by have := HS1.out; first | omega | (have := HZ2.out; omega) | (have := HZ1.out; omega))
  have LH2 := Lib.hid (LH2.out.other F7 fun b hb => by have := HS1.out; first | omega | (have := HZ2.out; omega) | (have := HZ1.out; omega))
  have LH3 := Lib.hid (L3.other F7 fun b hb => by omega)
  have HG3 := Lib.hid (fun g (hg : y3.1 = some ⟨g, 0, none⟩) => show g < w7.heap.size from by
    obtain ⟨g', q1, _, q3⟩ := L3
    rw [q1] at hg
    injection hg with hg; injection hg with hg; subst hg
    have := q3.lt; have := F7.size; omega)
  have HZ3 := Lib.hid (show w.heap.size + 2 ≤ w5.heap.size ∧ w5.heap.size ≤ w7.heap.size from ⟨by omega, by have := F7.size; have := hb6.size; omega⟩)
  clear HX
  have HX := Lib.hid X7
  have HYn := Lib.hid ((F7.block (w.heap.size + 1) (blk_lt Y6) (by omega)).trans Y6)
  clear HY
  have HY := HYn
  clear HYn
  have HBn := Lib.hid ((HB1.out.trans (hb6.mono HB1.out.size)).trans (F7.toBelow (fun b hb => by omega) (by have := HB1.out.size; have := hb6.size; omega)))
  clear HB1
  have HB1 := HBn
  clear HBn
  clear L3 hb6 X6 Y6 s6 t6 c10 f10 X7 F7
  have e0 : w7.cell? ⟨w.heap.size, 0, none⟩ = some (.int .i64 r.kind) := cell_blk HX.out 0 rfl
  have e1 : w7.cell? ⟨w.heap.size, 1, none⟩ = some (.int .i64 r.shard) := cell_blk HX.out 1 rfl
  have e2 : w7.cell? ⟨w.heap.size, 2, none⟩ = some (.int .i64 r.epoch) := cell_blk HX.out 2 rfl
  have e3 : w7.cell? ⟨w.heap.size, 3, none⟩ = some (.int .i64 r.peer) := cell_blk HX.out 3 rfl
  have e4 : w7.cell? ⟨w.heap.size, 4, none⟩ = some (.int .i64 r.client) := cell_blk HX.out 4 rfl
  have e5 : w7.cell? ⟨w.heap.size, 5, none⟩ = some (.int .i64 r.seq) := cell_blk HX.out 5 rfl
  have e6 : w7.cell? ⟨w.heap.size, 6, none⟩ = some (.int .i64 r.op.kind) := cell_blk HX.out 6 rfl
  have e7 : w7.cell? ⟨w.heap.size, 7, none⟩ = some (.slice y1.1 y1.2.1 y1.2.2) := cell_blk HX.out 7 rfl
  have e8 : w7.cell? ⟨w.heap.size, 8, none⟩ = some (.slice y2.1 y2.2.1 y2.2.2) := cell_blk HX.out 8 rfl
  have e9 : w7.cell? ⟨w.heap.size, 9, none⟩ = some (.int .i64 r.op.rev) := cell_blk HX.out 9 rfl
  have e10 : w7.cell? ⟨w.heap.size, 10, none⟩ = some (.slice y3.1 y3.2.1 y3.2.2) := cell_blk HX.out 10 rfl
  have t0 : w7.cell? ⟨w.heap.size + 1, 0, none⟩ = some (.int .i64 0) := cell_blk HY.out 0 rfl
  have f0 := free_blk HY.out 0
  have t1 : w7.cell? ⟨w.heap.size + 1, 1, none⟩ = some (.int .i64 0) := cell_blk HY.out 1 rfl
  have f1 := free_blk HY.out 1
  have t2 : w7.cell? ⟨w.heap.size + 1, 2, none⟩ = some (.int .i64 0) := cell_blk HY.out 2 rfl
  have f2 := free_blk HY.out 2
  have t3 : w7.cell? ⟨w.heap.size + 1, 3, none⟩ = some (.int .i64 0) := cell_blk HY.out 3 rfl
  have f3 := free_blk HY.out 3
  have t4 : w7.cell? ⟨w.heap.size + 1, 4, none⟩ = some (.int .i64 0) := cell_blk HY.out 4 rfl
  have f4 := free_blk HY.out 4
  have t5 : w7.cell? ⟨w.heap.size + 1, 5, none⟩ = some (.int .i64 0) := cell_blk HY.out 5 rfl
  have f5 := free_blk HY.out 5
  have t6 : w7.cell? ⟨w.heap.size + 1, 6, none⟩ = some (.int .i64 0) := cell_blk HY.out 6 rfl
  have f6 := free_blk HY.out 6
  have t7 : w7.cell? ⟨w.heap.size + 1, 7, none⟩ = some (.slice none 0 0) := cell_blk HY.out 7 rfl
  have f7 := free_blk HY.out 7
  have t8 : w7.cell? ⟨w.heap.size + 1, 8, none⟩ = some (.slice none 0 0) := cell_blk HY.out 8 rfl
  have f8 := free_blk HY.out 8
  have t9 : w7.cell? ⟨w.heap.size + 1, 9, none⟩ = some (.int .i64 0) := cell_blk HY.out 9 rfl
  have f9 := free_blk HY.out 9
  have t10 : w7.cell? ⟨w.heap.size + 1, 10, none⟩ = some (.slice none 0 0) := cell_blk HY.out 10 rfl
  have f10 := free_blk HY.out 10
  go_wp2_with (fail)
  refine bodyPost_ret (v := recV r y1 y2 y3) ?_ rfl ?_
  · unfold recV recCells
    simp [results, Try.results18, go_sem, *]
  · have FR := set11_fr w7 (w.heap.size + 1) (.int .i64 r.kind) (.int .i64 r.shard) (.int .i64 r.epoch) (.int .i64 r.peer) (.int .i64 r.client) (.int .i64 r.seq) (.int .i64 r.op.kind) (.slice y1.1 y1.2.1 y1.2.2) (.slice y2.1 y2.2.1 y2.2.2) (.int .i64 r.op.rev) (.slice y3.1 y3.2.1 y3.2.2)
    have S1 := set11_size w7 (w.heap.size + 1) (.int .i64 r.kind) (.int .i64 r.shard) (.int .i64 r.epoch) (.int .i64 r.peer) (.int .i64 r.client) (.int .i64 r.seq) (.int .i64 r.op.kind) (.slice y1.1 y1.2.1 y1.2.2) (.slice y2.1 y2.2.1 y2.2.2) (.int .i64 r.op.rev) (.slice y3.1 y3.2.1 y3.2.2)
    have b1 := HZ1.out
    have b2 := HZ2.out
    have b3 := HZ3.out
    exact ⟨y1, y2, y3, w3.heap.size, w5.heap.size, rfl, by omega, by omega, by simp only [setCell_size]; omega, (LH1.out.other FR fun b hb => by have := HS1.out; omega).new (by omega) (fun g hg => HG1.out g hg), (LH2.out.other FR fun b hb => by have := HS1.out; omega).new (Nat.le_refl _) (fun g hg => HG2.out g hg), (LH3.out.other FR fun b hb => by have := HS1.out; omega).new (Nat.le_refl _) (fun g hg => by simp only [setCell_size]; exact HG3.out g hg), HB1.out.trans (FR.toBelow (fun b hb => by omega) HB1.out.size)⟩
end Go.Proofs.Ytjmmdpnphafdfaa
