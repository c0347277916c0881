/- Records: Sound. -/
import Derived.Test.YtjmmdpnphafdfaaRW5
namespace Go.Proofs.Ytjmmdpnphafdfaa
set_option linter.unusedVariables false
set_option linter.unusedSimpArgs false
open Go.RowKit Go.Deep Go.Proofs.YtjmmdpnphafdfaaW.PrintLast

attribute [local go_sem] run_store_func
def soundB (r : RZ) : Bool := thereOf r.kind && (!decide (r.shard < 0) && (!decide (64 ≤ r.shard) && (decide (BareR r) && (psOf r.kind).all (fun p => goodP p r))))
theorem soundB_eq (r : RZ) : soundB r = decide (SoundR r) := by
  rw [Bool.eq_iff_iff, decide_eq_true_eq]
  unfold soundB thereOf BareR psOf SoundR
  simp only [Bool.and_eq_true, Bool.or_eq_true, decide_eq_true_eq, Bool.not_eq_true', decide_eq_false_iff_not]
  by_cases k1 : r.kind = 1
  · simp only [if_pos k1, List.all_cons, List.all_nil, goodP, Bool.and_eq_true, decide_eq_true_eq, bne_iff_ne]
    constructor
    · rintro ⟨_, h1, h2, ⟨h3, h4, h5⟩, h6, h7, ⟨h8, h9⟩, _⟩
      exact ⟨by omega, Or.inl ⟨k1, h6, h7, h9, h8, h3, h4, h5⟩⟩
    · rintro ⟨h0, h | h | h | h⟩
      · obtain ⟨_, h6, h7, h9, h8, h3, h4, h5⟩ := h
        exact ⟨Or.inl k1, by omega, by omega, ⟨h3, h4, h5⟩, h6, h7, ⟨h8, h9⟩, trivial⟩
      all_goals exact absurd h.1 (by omega)
  · by_cases k2 : r.kind = 2
    · simp only [if_neg k1, if_pos k2, List.all_cons, List.all_nil, goodP, Bool.and_eq_true, decide_eq_true_eq, bne_iff_ne]
      constructor
      · rintro ⟨_, h1, h2, ⟨h3, h4, h5, h6, h7⟩, h8, _⟩
        exact ⟨by omega, Or.inr (Or.inl ⟨k2, h8, h3, h4, h5, h6, h7⟩)⟩
      · rintro ⟨h0, h | h | h | h⟩
        · exact absurd h.1 k1
        · obtain ⟨_, h8, h3, h4, h5, h6, h7⟩ := h
          exact ⟨Or.inr (Or.inl k2), by omega, by omega, ⟨h3, h4, h5, h6, h7⟩, h8, trivial⟩
        all_goals exact absurd h.1 (by omega)
    · by_cases k4 : r.kind = 4
      · simp only [if_neg k1, if_neg k2, if_pos k4, List.all_cons, List.all_nil, goodP, Bool.and_eq_true, decide_eq_true_eq, bne_iff_ne]
        constructor
        · rintro ⟨_, h1, h2, ⟨h3, h4, h5⟩, h6, h7, h8, _⟩
          exact ⟨by omega, Or.inr (Or.inr (Or.inl ⟨k4, h6, h7, h8, h3, h4, h5⟩))⟩
        · rintro ⟨h0, h | h | h | h⟩
          · exact absurd h.1 k1
          · exact absurd h.1 k2
          · obtain ⟨_, h6, h7, h8, h3, h4, h5⟩ := h
            exact ⟨Or.inr (Or.inr (Or.inl k4)), by omega, by omega, ⟨h3, h4, h5⟩, h6, h7, h8, trivial⟩
          · exact absurd h.1 (by omega)
      · simp only [if_neg k1, if_neg k2, if_neg k4, List.all_nil, decide_eq_true_eq]
        constructor
        · rintro ⟨h, h1, h2, ⟨h3, h4, h5, h6, h7, h8⟩, _⟩
          exact ⟨by omega, Or.inr (Or.inr (Or.inr ⟨by omega, h3, h4, h5, h6, h7, h8⟩))⟩
        · rintro ⟨h0, h | h | h | h⟩
          · exact absurd h.1 k1
          · exact absurd h.1 k2
          · exact absurd h.1 k4
          · obtain ⟨h, h3, h4, h5, h6, h7, h8⟩ := h
            exact ⟨Or.inr (Or.inr (Or.inr (by omega))), by omega, by omega, ⟨h3, h4, h5, h6, h7, h8⟩, trivial⟩
theorem psOf_len (k : Int) : (psOf k).length ≤ 3 := by
  unfold psOf
  split
  · simp
  · split
    · simp
    · split <;> simp
set_option maxRecDepth 100000 in
set_option maxHeartbeats 8000000 in
theorem sound_any {r : RZ} (h : r.Wf) (K V C : SlB) (hK : K.2.1 = r.op.key.length) (hV : V.2.1 = r.op.val.length) (hC : C.2.1 = r.copy.length) (w : World) :
    Calls Try.prog 21 #[recV r K V C] w fun e w' => e = .returned (.bool (soundB r)) ∧ Below w.heap.size w w' := by
  obtain ⟨S, hS⟩ : ∃ S, soundB r = S := ⟨_, rfl⟩
  have HS := Lib.hid hS
  rw [hS]
  clear hS
  have BA := Lib.hid (fun w1 : World => bare_any h K V C hK hV hC w1)
  have HL := Lib.hid (show K.2.1 = r.op.key.length ∧ V.2.1 = r.op.val.length ∧ C.2.1 = r.copy.length from ⟨hK, hV, hC⟩)
  have PA := Lib.hid (fun w1 : World => parts_any r.kind w1)
  have hb := blk_new w (.cells (recCells r K V C) TRec (0, 0))
  have B1 : Below w.heap.size w (w.alloc (.cells (recCells r K V C) TRec (0, 0))) := (Below.refl _ _).alloc (Nat.le_refl _) _
  have B1s : (w.alloc (.cells (recCells r K V C) TRec (0, 0))).heap.size = w.heap.size + 1 := World.size_alloc _ _
  obtain ⟨t1, h1⟩ := named (decide (r.shard < 0))
  obtain ⟨t2, h2⟩ := named (decide (64 ≤ r.shard))
  obtain ⟨t3, h3⟩ := named (decide (BareR r))
  rw [h3] at BA
  have HSS := Lib.hid (show S = (thereOf r.kind && (!t1 && (!t2 && (t3 && (psOf r.kind).all (fun p => goodP p r))))) by rw [← HS.out, ← h1, ← h2, ← h3]; rfl)
  have H3 := Lib.hid h3
  clear h hK hV hC h3
  unfold recV recCells at BA ⊢
  generalize hW1 : w.alloc (.cells (recCells r K V C) TRec (0, 0)) = w1 at *
  have HB := Lib.hid hb
  have HB1 := Lib.hid B1
  have e0 : w1.cell? ⟨w.heap.size, 0, none⟩ = some (.int .i64 r.kind) := cell_blk hb 0 rfl
  unfold recCells at hW1
  have HW1 := Lib.hid hW1
  clear hW1 hb B1
  go_enter Try.func21, Try.ntmps21
  go_wp2_with (fail)
  rw [HW1.out]
  refine (PA.out w1).mono ?_
  rintro e w2 ⟨A, rfl, hb2, P2⟩
  have R2 := blk_below HB.out hb2
  have B2 := HB1.out.trans (hb2.mono HB1.out.size)
  have e1 : w2.cell? ⟨w.heap.size, 1, none⟩ = some (.int .i64 r.shard) := cell_blk R2 1 rfl
  have e0 : w2.cell? ⟨w.heap.size, 0, none⟩ = some (.int .i64 r.kind) := cell_blk R2 0 rfl
  have e1 : w2.cell? ⟨w.heap.size, 1, none⟩ = some (.int .i64 r.shard) := cell_blk R2 1 rfl
  have e2 : w2.cell? ⟨w.heap.size, 2, none⟩ = some (.int .i64 r.epoch) := cell_blk R2 2 rfl
  have e3 : w2.cell? ⟨w.heap.size, 3, none⟩ = some (.int .i64 r.peer) := cell_blk R2 3 rfl
  have e4 : w2.cell? ⟨w.heap.size, 4, none⟩ = some (.int .i64 r.client) := cell_blk R2 4 rfl
  have e5 : w2.cell? ⟨w.heap.size, 5, none⟩ = some (.int .i64 r.seq) := cell_blk R2 5 rfl
  have e6 : w2.cell? ⟨w.heap.size, 6, none⟩ = some (.int .i64 r.op.kind) := cell_blk R2 6 rfl
  have e7 : w2.cell? ⟨w.heap.size, 7, none⟩ = some (.slice K.1 K.2.1 K.2.2) := cell_blk R2 7 rfl
  have e8 : w2.cell? ⟨w.heap.size, 8, none⟩ = some (.slice V.1 V.2.1 V.2.2) := cell_blk R2 8 rfl
  have e9 : w2.cell? ⟨w.heap.size, 9, none⟩ = some (.int .i64 r.op.rev) := cell_blk R2 9 rfl
  have e10 : w2.cell? ⟨w.heap.size, 10, none⟩ = some (.slice C.1 C.2.1 C.2.2) := cell_blk R2 10 rfl
  have HR2 := Lib.hid R2
  have HB2 := Lib.hid B2
  have HP2 := Lib.hid P2
  clear R2 B2 P2
  generalize htp : thereOf r.kind = tp at *
  cases tp
  ·
    go_wp2_with (fail)
    go_ret
    exact ⟨by rw [HSS.out]; rfl, HB2.out⟩
  · cases t1
    · cases t2
      · go_wp2_with (fail)
        refine (BA.out w2).mono ?_
        rintro e w3 ⟨rfl, hb3⟩
        cases t3
        · go_wp2_with (fail)
          go_ret
          exact ⟨by rw [HSS.out]; rfl, HB2.out.trans (hb3.mono HB2.out.size)⟩
        · generalize hps : psOf r.kind = ps at *
          have HB3 := Lib.hid (HB2.out.trans (hb3.mono HB2.out.size))
          have HR3 := Lib.hid (blk_below HR2.out hb3)
          have HP3 := Lib.hid (HP2.out.fr (F := fun _ => False) (Fr.below _ hb3) (fun _ h => h.elim))
          have psl : ps.length ≤ 3 := by rw [← hps]; exact psOf_len _
          clear hb3 e0 e1 e2 e3 e4 e5 e6 e7 e8 e9 e10 hps HB2 HR2 HP2
          go_wp2_with (fail)
          refine wp_loop_ghost_k (fun (m : Nat) (ac : Act) (wr : World) => ∃ u3 u4 u5 u6 u7 u8 u9 u10 u11 u12 u13 u14 u15 u16 u17 u18 u19 u20 u21 u22 u23 u24 u25 u26 u27 u28 u29 u33 u34 u35 u36 u37 u38 u39 u40 v0 v32 : Value, (∃ i : Nat, m + i = ps.length ∧ v32 = .int .i64 i ∧ (ps.take i).all (fun p => goodP p r) = true ∧ wr.heap[w.heap.size]? = some (.cells (recCells r K V C) TRec (0, 0)) ∧ PartsAt wr w1.heap.size w2.heap.size A ps ∧ Below w.heap.size w wr) ∧ ac = ({ tmps := #[v0, .pointer (some ⟨w.heap.size, 0, none⟩), .bool false, u3, u4, u5, u6, u7, u8, u9, u10, u11, u12, u13, u14, u15, u16, u17, u18, u19, u20, u21, u22, u23, u24, u25, u26, u27, u28, u29, .slice A ps.length ps.length, .int .i64 ps.length, v32, u33, u34, u35, u36, u37, u38, u39, u40], defers := [] } : Act)) (ps.length) ?atStart ?round
          case' atStart => ((repeat apply Exists.intro); refine ⟨?_, rfl⟩)
          case' round => (intro m ac wr hcut; obtain ⟨u3, hcut⟩ := hcut; obtain ⟨u4, hcut⟩ := hcut; obtain ⟨u5, hcut⟩ := hcut; obtain ⟨u6, hcut⟩ := hcut; obtain ⟨u7, hcut⟩ := hcut; obtain ⟨u8, hcut⟩ := hcut; obtain ⟨u9, hcut⟩ := hcut; obtain ⟨u10, hcut⟩ := hcut; obtain ⟨u11, hcut⟩ := hcut; obtain ⟨u12, hcut⟩ := hcut; obtain ⟨u13, hcut⟩ := hcut; obtain ⟨u14, hcut⟩ := hcut; obtain ⟨u15, hcut⟩ := hcut; obtain ⟨u16, hcut⟩ := hcut; obtain ⟨u17, hcut⟩ := hcut; obtain ⟨u18, hcut⟩ := hcut; obtain ⟨u19, hcut⟩ := hcut; obtain ⟨u20, hcut⟩ := hcut; obtain ⟨u21, hcut⟩ := hcut; obtain ⟨u22, hcut⟩ := hcut; obtain ⟨u23, hcut⟩ := hcut; obtain ⟨u24, hcut⟩ := hcut; obtain ⟨u25, hcut⟩ := hcut; obtain ⟨u26, hcut⟩ := hcut; obtain ⟨u27, hcut⟩ := hcut; obtain ⟨u28, hcut⟩ := hcut; obtain ⟨u29, hcut⟩ := hcut; obtain ⟨u33, hcut⟩ := hcut; obtain ⟨u34, hcut⟩ := hcut; obtain ⟨u35, hcut⟩ := hcut; obtain ⟨u36, hcut⟩ := hcut; obtain ⟨u37, hcut⟩ := hcut; obtain ⟨u38, hcut⟩ := hcut; obtain ⟨u39, hcut⟩ := hcut; obtain ⟨u40, hcut⟩ := hcut; obtain ⟨v0, hcut⟩ := hcut; obtain ⟨v32, hcut⟩ := hcut; obtain ⟨hcut, hac⟩ := hcut; subst hac; intro _ _ _ _)
          case atStart => exact ⟨0, rfl, rfl, rfl, HR3.out, HP3.out, HB3.out⟩
          case round =>
            obtain ⟨i, hm, rfl, hall, RC, PP, BB⟩ := hcut
            have HM := Lib.hid hm
            have HALL := Lib.hid hall
            have HRC := Lib.hid RC
            have HBB := Lib.hid BB
            have hkl := blk_lt RC
            clear hall RC BB
            by_cases hi : i < ps.length
            · have HPP := Lib.hid PP
              obtain ⟨p, hp⟩ : ∃ p, ps[i]? = some p := ⟨_, List.getElem?_eq_getElem hi⟩
              obtain ⟨vss, v1, v2, v3⟩ := PP
              obtain ⟨vs, hvs⟩ : ∃ vs, vss[i]? = some vs := ⟨_, List.getElem?_eq_getElem (by omega)⟩
              obtain ⟨PT, vl⟩ := v2 i p vs hp hvs
              obtain ⟨g, hA, hg, hc⟩ := v3 i vs hvs
              have HST := Lib.hid (show (ps.take (i + 1)).all (fun p => goodP p r) = goodP p r by
                rw [List.take_add_one, hp, List.all_append, HALL.out]
                simp)
              have HFL := Lib.hid (show goodP p r = false → ps.all (fun p => goodP p r) = false from fun h => by
                rw [List.all_eq_false]
                exact ⟨p, List.mem_of_getElem? hp, by simp [h]⟩)
              clear v1 v2 v3 hvs hm hp
              subst hA
              cases p
              ·
                obtain ⟨a, l, mm, hbd, rfl, pa, pl, pm⟩ := PT
                have c0 := hc 0 _ rfl
                have c1 := hc 1 _ rfl
                have c2 := hc 2 _ rfl
                simp only [Nat.add_zero] at c0
                unfold fnV ptrV at c0 c1 c2
                clear hc vl hbd
                have HPA := Lib.hid (show _ ∧ _ ∧ _ from ⟨pa, pl, pm⟩)
                clear pa pl pm
                go_wp2_with (fail)
                generalize hw4 : wr.alloc _ = w4
                have hb4 : Below wr.heap.size wr w4 := by rw [← hw4]; exact (Below.refl _ _).alloc (Nat.le_refl _) _
                clear hw4
                refine (good_peer (blk_below HRC.out hb4) (blk_below HPA.out.1 hb4) (blk_below HPA.out.2.1 hb4) (blk_below HPA.out.2.2 hb4)).mono ?_
                rintro e w5 ⟨rfl, hb5⟩
                have HB5 := Lib.hid (hb4.trans (hb5.mono hb4.size))
                clear hb5 hb4
                generalize hgb : goodP .peer r = gb at *
                cases gb
                · go_wp2_with (fail)
                  go_ret
                  exact ⟨by rw [HSS.out, HFL.out (by trivial)]; rfl, HBB.out.trans (HB5.out.mono HBB.out.size)⟩
                · go_wp2_with (fail)
                  go_roundg (m - 1)
                  case measure => have := HM.out; omega
                  case rel => exact ⟨i + 1, by have := HM.out; omega, by go_num, HST.out, blk_below HRC.out HB5.out, HPP.out.fr (F := fun _ => False) (Fr.below _ HB5.out) (fun _ h => h.elim), HBB.out.trans (HB5.out.mono HBB.out.size)⟩
              ·
                obtain ⟨a, l, mm, hbd, rfl, pa, pl, pm⟩ := PT
                have c0 := hc 0 _ rfl
                have c1 := hc 1 _ rfl
                have c2 := hc 2 _ rfl
                simp only [Nat.add_zero] at c0
                unfold fnV ptrV at c0 c1 c2
                clear hc vl hbd
                have HPA := Lib.hid (show _ ∧ _ ∧ _ from ⟨pa, pl, pm⟩)
                clear pa pl pm
                go_wp2_with (fail)
                generalize hw4 : wr.alloc _ = w4
                have hb4 : Below wr.heap.size wr w4 := by rw [← hw4]; exact (Below.refl _ _).alloc (Nat.le_refl _) _
                clear hw4
                refine (good_client (blk_below HRC.out hb4) (blk_below HPA.out.1 hb4) (blk_below HPA.out.2.1 hb4) (blk_below HPA.out.2.2 hb4)).mono ?_
                rintro e w5 ⟨rfl, hb5⟩
                have HB5 := Lib.hid (hb4.trans (hb5.mono hb4.size))
                clear hb5 hb4
                generalize hgb : goodP .client r = gb at *
                cases gb
                · go_wp2_with (fail)
                  go_ret
                  exact ⟨by rw [HSS.out, HFL.out (by trivial)]; rfl, HBB.out.trans (HB5.out.mono HBB.out.size)⟩
                · go_wp2_with (fail)
                  go_roundg (m - 1)
                  case measure => have := HM.out; omega
                  case rel => exact ⟨i + 1, by have := HM.out; omega, by go_num, HST.out, blk_below HRC.out HB5.out, HPP.out.fr (F := fun _ => False) (Fr.below _ HB5.out) (fun _ h => h.elim), HBB.out.trans (HB5.out.mono HBB.out.size)⟩
              ·
                obtain ⟨a, l, mm, hbd, rfl, pa, pl, pm⟩ := PT
                have c0 := hc 0 _ rfl
                have c1 := hc 1 _ rfl
                have c2 := hc 2 _ rfl
                simp only [Nat.add_zero] at c0
                unfold fnV ptrV at c0 c1 c2
                clear hc vl hbd
                have HPA := Lib.hid (show _ ∧ _ ∧ _ from ⟨pa, pl, pm⟩)
                clear pa pl pm
                go_wp2_with (fail)
                generalize hw4 : wr.alloc _ = w4
                have hb4 : Below wr.heap.size wr w4 := by rw [← hw4]; exact (Below.refl _ _).alloc (Nat.le_refl _) _
                clear hw4
                refine (good_seq (blk_below HRC.out hb4) (blk_below HPA.out.1 hb4) (blk_below HPA.out.2.1 hb4) (blk_below HPA.out.2.2 hb4)).mono ?_
                rintro e w5 ⟨rfl, hb5⟩
                have HB5 := Lib.hid (hb4.trans (hb5.mono hb4.size))
                clear hb5 hb4
                generalize hgb : goodP .seq r = gb at *
                cases gb
                · go_wp2_with (fail)
                  go_ret
                  exact ⟨by rw [HSS.out, HFL.out (by trivial)]; rfl, HBB.out.trans (HB5.out.mono HBB.out.size)⟩
                · go_wp2_with (fail)
                  go_roundg (m - 1)
                  case measure => have := HM.out; omega
                  case rel => exact ⟨i + 1, by have := HM.out; omega, by go_num, HST.out, blk_below HRC.out HB5.out, HPP.out.fr (F := fun _ => False) (Fr.below _ HB5.out) (fun _ h => h.elim), HBB.out.trans (HB5.out.mono HBB.out.size)⟩
              ·
                obtain ⟨a, l, mm, hbd, rfl, pa, pl, pm⟩ := PT
                have c0 := hc 0 _ rfl
                have c1 := hc 1 _ rfl
                have c2 := hc 2 _ rfl
                simp only [Nat.add_zero] at c0
                unfold fnV ptrV at c0 c1 c2
                clear hc vl hbd
                have HPA := Lib.hid (show _ ∧ _ ∧ _ from ⟨pa, pl, pm⟩)
                clear pa pl pm
                go_wp2_with (fail)
                generalize hw4 : wr.alloc _ = w4
                have hb4 : Below wr.heap.size wr w4 := by rw [← hw4]; exact (Below.refl _ _).alloc (Nat.le_refl _) _
                clear hw4
                refine (good_epoch (blk_below HRC.out hb4) (blk_below HPA.out.1 hb4) (blk_below HPA.out.2.1 hb4) (blk_below HPA.out.2.2 hb4)).mono ?_
                rintro e w5 ⟨rfl, hb5⟩
                have HB5 := Lib.hid (hb4.trans (hb5.mono hb4.size))
                clear hb5 hb4
                generalize hgb : goodP .epoch r = gb at *
                cases gb
                · go_wp2_with (fail)
                  go_ret
                  exact ⟨by rw [HSS.out, HFL.out (by trivial)]; rfl, HBB.out.trans (HB5.out.mono HBB.out.size)⟩
                · go_wp2_with (fail)
                  go_roundg (m - 1)
                  case measure => have := HM.out; omega
                  case rel => exact ⟨i + 1, by have := HM.out; omega, by go_num, HST.out, blk_below HRC.out HB5.out, HPP.out.fr (F := fun _ => False) (Fr.below _ HB5.out) (fun _ h => h.elim), HBB.out.trans (HB5.out.mono HBB.out.size)⟩
              · obtain rfl := PT
                have c0 := hc 0 _ rfl
                have c1 := hc 1 _ rfl
                have c2 := hc 2 _ rfl
                simp only [Nat.add_zero] at c0
                unfold fnV at c0 c1 c2
                clear hc vl
                go_wp2_with (fail)
                generalize hw4 : wr.alloc _ = w4
                have hb4 : Below wr.heap.size wr w4 := by rw [← hw4]; exact (Below.refl _ _).alloc (Nat.le_refl _) _
                clear hw4
                refine (good_write (blk_below HRC.out hb4) HL.out.1 HL.out.2.1).mono ?_
                rintro e w5 ⟨rfl, hb5⟩
                have HB5 := Lib.hid (hb4.trans (hb5.mono hb4.size))
                clear hb5 hb4
                generalize hgb : goodP .write r = gb at *
                cases gb
                · go_wp2_with (fail)
                  go_ret
                  exact ⟨by rw [HSS.out, HFL.out (by trivial)]; rfl, HBB.out.trans (HB5.out.mono HBB.out.size)⟩
                · go_wp2_with (fail)
                  go_roundg (m - 1)
                  case measure => have := HM.out; omega
                  case rel => exact ⟨i + 1, by have := HM.out; omega, by go_num, HST.out, blk_below HRC.out HB5.out, HPP.out.fr (F := fun _ => False) (Fr.below _ HB5.out) (fun _ h => h.elim), HBB.out.trans (HB5.out.mono HBB.out.size)⟩
              · obtain rfl := PT
                have c0 := hc 0 _ rfl
                have c1 := hc 1 _ rfl
                have c2 := hc 2 _ rfl
                simp only [Nat.add_zero] at c0
                unfold fnV at c0 c1 c2
                clear hc vl
                go_wp2_with (fail)
                generalize hw4 : wr.alloc _ = w4
                have hb4 : Below wr.heap.size wr w4 := by rw [← hw4]; exact (Below.refl _ _).alloc (Nat.le_refl _) _
                clear hw4
                refine (good_copied (blk_below HRC.out hb4) HL.out.2.2).mono ?_
                rintro e w5 ⟨rfl, hb5⟩
                have HB5 := Lib.hid (hb4.trans (hb5.mono hb4.size))
                clear hb5 hb4
                generalize hgb : goodP .copied r = gb at *
                cases gb
                · go_wp2_with (fail)
                  go_ret
                  exact ⟨by rw [HSS.out, HFL.out (by trivial)]; rfl, HBB.out.trans (HB5.out.mono HBB.out.size)⟩
                · go_wp2_with (fail)
                  go_roundg (m - 1)
                  case measure => have := HM.out; omega
                  case rel => exact ⟨i + 1, by have := HM.out; omega, by go_num, HST.out, blk_below HRC.out HB5.out, HPP.out.fr (F := fun _ => False) (Fr.below _ HB5.out) (fun _ h => h.elim), HBB.out.trans (HB5.out.mono HBB.out.size)⟩
            · go_wp2_with (fail)
              go_ret
              have hi : i = ps.length := by omega
              have := HALL.out
              rw [hi, List.take_length] at this
              exact ⟨by rw [HSS.out, this]; rfl, HBB.out⟩
      ·
        go_wp2_with (fail)
        go_ret
        exact ⟨by rw [HSS.out]; rfl, HB2.out⟩
    ·
      go_wp2_with (fail)
      go_ret
      exact ⟨by rw [HSS.out]; rfl, HB2.out⟩
end Go.Proofs.Ytjmmdpnphafdfaa
