/- RecordUnused: a record in which a field that its kind has not says something has no form. -/
import Derived.Test.YtjmmdpnphafdfaaX2
import Derived.Deep.CutBlock
namespace Go.Proofs.Ytjmmdpnphafdfaa
set_option linter.unusedVariables false
set_option linter.unusedSimpArgs false
open Go.ChangeShapes Go.WideShapes Go.ChangeAt Go.RowKit Go.Deep Go.Proofs.YtjmmdpnphafdfaaW.PrintLast

theorem SoundR.not_write {r : RZ} (h : SoundR r) (k : ¬ r.kind = 1) : r.client = 0 ∧ r.seq = 0 ∧ NoOp r.op := by
  obtain ⟨_, h | h | h | h⟩ := h
  · exact absurd h.1 k
  · exact ⟨h.2.2.2.1, h.2.2.2.2.1, h.2.2.2.2.2.1⟩
  · exact ⟨h.2.2.2.2.1, h.2.2.2.2.2.1, h.2.2.2.2.2.2⟩
  · exact ⟨h.2.2.2.1, h.2.2.2.2.1, h.2.2.2.2.2.1⟩
theorem SoundR.not_install {r : RZ} (h : SoundR r) (k : ¬ r.kind = 4) : r.epoch = 0 ∧ r.copy.length = 0 ∧ (¬ r.kind = 2 → r.peer = 0) := by
  obtain ⟨_, h | h | h | h⟩ := h
  · obtain ⟨_, _, _, _, _, h1, h2, h3⟩ := h; exact ⟨h1, h3, fun _ => h2⟩
  · obtain ⟨k2, _, h1, _, _, _, h3⟩ := h; exact ⟨h1, h3, fun hk => absurd k2 hk⟩
  · exact absurd h.1 k
  · obtain ⟨_, h1, h2, _, _, _, h3⟩ := h; exact ⟨h1, h3, fun _ => h2⟩
theorem SoundR.write_op {r : RZ} (h : SoundR r) (k : r.kind = 1) : RightO r.op := by
  obtain ⟨_, h | h | h | h⟩ := h
  · exact h.2.2.2.1
  all_goals exact absurd h.1 (by omega)
/-- A record whose box lies in block kr, as it is now; u: does a field that it has not say something? -/
def Turn (w0 : World) (kr : Nat) (v : Value) (wx : World) : Prop := ∃ (r : RZ) (K V C : SlB) (u : Bool), v = .bool u ∧ wx.heap[kr]? = some (.cells (recCells r K V C) TRec (0, 0)) ∧ RecIn wx r K V C ∧ (u = true → ¬ SoundR r) ∧ Below w0.heap.size w0 wx
theorem Turn.mk {w0 wx : World} {kr : Nat} {r : RZ} {K V C : SlB} {u : Bool} (h1 : wx.heap[kr]? = some (.cells (recCells r K V C) TRec (0, 0))) (h2 : RecIn wx r K V C) (h3 : u = true → ¬ SoundR r) (h4 : Below w0.heap.size w0 wx) : Turn w0 kr (.bool u) wx := ⟨r, K, V, C, u, rfl, h1, h2, h3, h4⟩
theorem src_set {w : World} {kr j : Nat} {v : Value} {N : Nat} {x : SlB} {p : List Int} {cs : Array Value} {T : TypeId} (hk : w.heap[kr]? = some (.cells cs T (0, 0))) (hT : T ≠ 5) (h : SlAt w N x p) (hb : ∀ g o, x.1 = some ⟨g, o, none⟩ → p ≠ [] → g ≠ kr) : SlAt (w.setCell ⟨kr, j, none⟩ v) N x p :=
  ⟨h.1, fun hne => by
    obtain ⟨g, o, h1, h2⟩ := h.2.1 hne
    exact ⟨g, o, h1, h2.moved (set_other w j v (hb g o h1 hne))⟩, h.2.2⟩
theorem RecIn.set {w : World} {r : RZ} {K V C : SlB} {kr : Nat} {cs : Array Value} (hk : w.heap[kr]? = some (.cells cs TRec (0, 0))) (hwf : r.Wf) (hby : r.Byt)
    (sK : SlAt w w.heap.size K r.op.key) (nK : ∀ g o, K.1 = some ⟨g, o, none⟩ → r.op.key ≠ [] → g ≠ kr) (sV : SlAt w w.heap.size V r.op.val) (nV : ∀ g o, V.1 = some ⟨g, o, none⟩ → r.op.val ≠ [] → g ≠ kr) (sC : SlAt w w.heap.size C r.copy) (nC : ∀ g o, C.1 = some ⟨g, o, none⟩ → r.copy ≠ [] → g ≠ kr)
    (lk : r.op.key.length ≤ reach) (lv : r.op.val.length ≤ reach) (lc : r.copy.length ≤ reach) (j : Nat) (v : Value) : RecIn (w.setCell ⟨kr, j, none⟩ v) r K V C := by
  refine ⟨hwf, hby, ?_, ?_, ?_, lk, lv, lc⟩
  · rw [setCell_size]; exact src_set hk (by decide) sK nK
  · rw [setCell_size]; exact src_set hk (by decide) sV nV
  · rw [setCell_size]; exact src_set hk (by decide) sC nC
theorem ne_at {w : World} {kr : Nat} {x : SlB} {p : List Int} (h : SlAt w kr x p) : ∀ g o, x.1 = some ⟨g, o, none⟩ → p ≠ [] → g ≠ kr := fun g o e hne => by have := h.2.2 hne g o e; omega
/-- A text of the record turned, where it lies: one new byte. -/
theorem one_byte {w : World} {g : Nat} (h : w.heap[g]? = some (.cells #[.int .u8 0] 5 (0, 0))) : OwnB w g 1 [0] := OwnB.lit (xs := [0]) (by decide) h
theorem zero_byt : Byt [0] := fun x hx => by rw [List.mem_singleton] at hx; subst hx; omega
set_option maxRecDepth 100000 in
set_option maxHeartbeats 16000000 in
theorem unused_1 {w : World} {r : RZ} {K V C : SlB} (h : RecIn w r K V C) (field : Int) :
    Calls Try.prog 7 #[recV r K V C, .int .i64 field] w fun e w' => e = .returned (.bool true) ∧ Below w.heap.size w w' := by
  have nR := blk_new w (.cells (recCells r K V C) TRec (0, 0))
  have bR : Below w.heap.size w (w.alloc (.cells (recCells r K V C) TRec (0, 0))) := (Below.refl _ _).alloc (Nat.le_refl _) _
  unfold recV
  have sK := h.key.below bR
  have sV := h.val.below bR
  have sC := h.copy.below bR
  generalize hw1 : w.alloc (.cells (recCells r K V C) TRec (0, 0)) = w1 at *
  have RI := Lib.hid (h.below bR)
  have HS1 := Lib.hid (show SlAt w1 w.heap.size K r.op.key ∧ SlAt w1 w.heap.size V r.op.val ∧ SlAt w1 w.heap.size C r.copy from ⟨sK, sV, sC⟩)
  have HB1 := Lib.hid bR
  have HN := Lib.hid nR
  have AW := Lib.hid (awake_any w1)
  clear h nR bR sK sV sC
  unfold recCells at hw1 ⊢
  have HW1 := Lib.hid hw1
  clear hw1
  go_enter Try.func7, Try.ntmps7
  go_upto_region 1 with (fail)
  rw [HW1.out]
  go_wp2_with (fail)
  refine AW.out.mono ?_
  rintro e w2 ⟨rfl, hb2⟩
  have HB2 := Lib.hid (HB1.out.trans (hb2.mono HB1.out.size))
  have HN2 := Lib.hid (blk_below HN.out hb2)
  have RI2 := Lib.hid (RI.out.below hb2)
  have HS2 := Lib.hid (show SlAt w2 w.heap.size K r.op.key ∧ SlAt w2 w.heap.size V r.op.val ∧ SlAt w2 w.heap.size C r.copy from ⟨HS1.out.1.below hb2, HS1.out.2.1.below hb2, HS1.out.2.2.below hb2⟩)
  have EN := Lib.hid (encode_any RI2.out.wf RI2.out.byt RI2.out.key RI2.out.val RI2.out.copy)
  unfold recV recCells at EN
  have e0 : w2.cell? ⟨w.heap.size, 0, none⟩ = some (.int .i64 r.kind) := cell_blk HN2.out 0 rfl
  have e1 : w2.cell? ⟨w.heap.size, 1, none⟩ = some (.int .i64 r.shard) := cell_blk HN2.out 1 rfl
  have e2 : w2.cell? ⟨w.heap.size, 2, none⟩ = some (.int .i64 r.epoch) := cell_blk HN2.out 2 rfl
  have e3 : w2.cell? ⟨w.heap.size, 3, none⟩ = some (.int .i64 r.peer) := cell_blk HN2.out 3 rfl
  have e4 : w2.cell? ⟨w.heap.size, 4, none⟩ = some (.int .i64 r.client) := cell_blk HN2.out 4 rfl
  have e5 : w2.cell? ⟨w.heap.size, 5, none⟩ = some (.int .i64 r.seq) := cell_blk HN2.out 5 rfl
  have e6 : w2.cell? ⟨w.heap.size, 6, none⟩ = some (.int .i64 r.op.kind) := cell_blk HN2.out 6 rfl
  have e7 : w2.cell? ⟨w.heap.size, 7, none⟩ = some (.slice K.1 K.2.1 K.2.2) := cell_blk HN2.out 7 rfl
  have e8 : w2.cell? ⟨w.heap.size, 8, none⟩ = some (.slice V.1 V.2.1 V.2.2) := cell_blk HN2.out 8 rfl
  have e9 : w2.cell? ⟨w.heap.size, 9, none⟩ = some (.int .i64 r.op.rev) := cell_blk HN2.out 9 rfl
  have e10 : w2.cell? ⟨w.heap.size, 10, none⟩ = some (.slice C.1 C.2.1 C.2.2) := cell_blk HN2.out 10 rfl
  clear hb2
  go_wp2_with (fail)
  refine EN.out.mono ?_
  rintro e w3 ⟨hb3, ⟨SR, g, rfl, hg, O⟩ | ⟨NS, rfl⟩⟩
  · have HB3 := Lib.hid (HB2.out.trans (hb3.mono HB2.out.size))
    have HN3 := Lib.hid (blk_below HN2.out hb3)
    have RI3 := Lib.hid (RI2.out.below hb3)
    have HS3 := Lib.hid (show SlAt w3 w.heap.size K r.op.key ∧ SlAt w3 w.heap.size V r.op.val ∧ SlAt w3 w.heap.size C r.copy from ⟨HS2.out.1.below hb3, HS2.out.2.1.below hb3, HS2.out.2.2.below hb3⟩)
    have HSR := Lib.hid SR
    generalize (formR r).length = n at *
    clear O hb3 SR EN
    have e0 : w3.cell? ⟨w.heap.size, 0, none⟩ = some (.int .i64 r.kind) := cell_blk HN3.out 0 rfl
    have e1 : w3.cell? ⟨w.heap.size, 1, none⟩ = some (.int .i64 r.shard) := cell_blk HN3.out 1 rfl
    have e2 : w3.cell? ⟨w.heap.size, 2, none⟩ = some (.int .i64 r.epoch) := cell_blk HN3.out 2 rfl
    have e3 : w3.cell? ⟨w.heap.size, 3, none⟩ = some (.int .i64 r.peer) := cell_blk HN3.out 3 rfl
    have e4 : w3.cell? ⟨w.heap.size, 4, none⟩ = some (.int .i64 r.client) := cell_blk HN3.out 4 rfl
    have e5 : w3.cell? ⟨w.heap.size, 5, none⟩ = some (.int .i64 r.seq) := cell_blk HN3.out 5 rfl
    have e6 : w3.cell? ⟨w.heap.size, 6, none⟩ = some (.int .i64 r.op.kind) := cell_blk HN3.out 6 rfl
    have e7 : w3.cell? ⟨w.heap.size, 7, none⟩ = some (.slice K.1 K.2.1 K.2.2) := cell_blk HN3.out 7 rfl
    have e8 : w3.cell? ⟨w.heap.size, 8, none⟩ = some (.slice V.1 V.2.1 V.2.2) := cell_blk HN3.out 8 rfl
    have e9 : w3.cell? ⟨w.heap.size, 9, none⟩ = some (.int .i64 r.op.rev) := cell_blk HN3.out 9 rfl
    have e10 : w3.cell? ⟨w.heap.size, 10, none⟩ = some (.slice C.1 C.2.1 C.2.2) := cell_blk HN3.out 10 rfl
    obtain ⟨tw, htw⟩ := named (r.kind == 1)
    obtain ⟨ti, hti⟩ := named (r.kind == 4)
    go_upto_region 6 with (fail)
    refine start_ (n := 8) (S := fun w' => w'.cell? ⟨w.heap.size, 0, none⟩ = some (.int .i64 r.kind)) (ds := []) #[false, false, false, false, false, false, false, false] (by kernel_rfl) rfl rfl e0 (fun hHeld => ?_)
    (refine take_ (i := 0) (N := some 23) (v := ?v_2) (a' := ?a_2) #[true, false, false, false, false, false, false, false] rfl rfl (by kernel_rfl) (fun _ _ _ h => h) (Or.inl ⟨by rfl, ?hy_2⟩) hHeld ?ha_2 ?hh_2; (case hy_2 => (rintro w' s0_; go_simp; with_reducible rfl)); (case ha_2 => (simp (disch := omega) only [Act.put, List.setIfInBounds_toArray, List.set_cons_zero, List.set_cons_succ, wrap_in]; rfl)))
    (refine take_ (i := 1) (N := some 24) (v := ?v_3) (a' := ?a_3) #[true, true, false, false, false, false, false, false] rfl rfl (by kernel_rfl) (fun _ _ _ h => h) (Or.inl ⟨by rfl, ?hy_3⟩) hHeld ?ha_3 ?hh_3; (case hy_3 => (rintro w' s0_; go_simp; with_reducible rfl)); (case ha_3 => (simp (disch := omega) only [Act.put, List.setIfInBounds_toArray, List.set_cons_zero, List.set_cons_succ, wrap_in]; rfl)))
    (refine take_ (i := 2) (N := some 25) (v := ?v_4) (a' := ?a_4) #[true, true, true, false, false, false, false, false] rfl rfl (by kernel_rfl) (fun _ _ _ h => h) (Or.inl ⟨by rfl, ?hy_4⟩) hHeld ?ha_4 ?hh_4; (case hy_4 => (rintro w' s0_; go_simp; with_reducible rfl)); (case ha_4 => (simp (disch := omega) only [Act.put, List.setIfInBounds_toArray, List.set_cons_zero, List.set_cons_succ, wrap_in]; rfl)))
    (refine take_ (i := 3) (N := some 26) (v := ?v_5) (a' := ?a_5) #[true, true, true, true, false, false, false, false] rfl rfl (by kernel_rfl) (fun _ _ _ h => h) (Or.inl ⟨by rfl, ?hy_5⟩) hHeld ?ha_5 ?hh_5; (case hy_5 => (rintro w' s0_; go_simp; with_reducible rfl)); (case ha_5 => (simp (disch := omega) only [Act.put, List.setIfInBounds_toArray, List.set_cons_zero, List.set_cons_succ, wrap_in]; rfl)))
    (refine take_ (i := 4) (N := some 27) (v := ?v_6) (a' := ?a_6) #[true, true, true, true, true, false, false, false] rfl rfl (by kernel_rfl) (fun _ _ _ h => h) (Or.inl ⟨by rfl, ?hy_6⟩) hHeld ?ha_6 ?hh_6; (case hy_6 => (rintro w' s0_; go_simp; with_reducible rfl)); (case ha_6 => (simp (disch := omega) only [Act.put, List.setIfInBounds_toArray, List.set_cons_zero, List.set_cons_succ, wrap_in]; rfl)))
    (refine take_ (i := 5) (N := some 28) (v := ?v_7) (a' := ?a_7) #[true, true, true, true, true, true, false, false] rfl rfl (by kernel_rfl) (fun _ _ _ h => h) (Or.inl ⟨by rfl, ?hy_7⟩) hHeld ?ha_7 ?hh_7; (case hy_7 => (rintro w' s0_; go_simp; with_reducible rfl)); (case ha_7 => (simp (disch := omega) only [Act.put, List.setIfInBounds_toArray, List.set_cons_zero, List.set_cons_succ, wrap_in]; rfl)))
    (refine take_ (i := 6) (N := some 7) (v := ?v_8) (a' := ?a_8) #[true, true, true, true, true, true, true, false] rfl rfl (by kernel_rfl) (fun _ _ _ h => h) (Or.inl ⟨by rfl, ?hy_8⟩) hHeld ?ha_8 ?hh_8; (case hy_8 => (rintro w' s0_; go_simp; with_reducible rfl)); (case ha_8 => (simp (disch := omega) only [Act.put, List.setIfInBounds_toArray, List.set_cons_zero, List.set_cons_succ, wrap_in]; rfl)))
    (refine take_ (i := 7) (N := some 8) (v := ?v_9) (a' := ?a_9) #[true, true, true, true, true, true, true, true] rfl rfl (by kernel_rfl) (fun _ _ _ h => h) (Or.inl ⟨by rfl, ?hy_9⟩) hHeld ?ha_9 ?hh_9; (case hy_9 => (rintro w' s0_; go_simp; with_reducible rfl)); (case ha_9 => (simp (disch := omega) only [Act.put, List.setIfInBounds_toArray, List.set_cons_zero, List.set_cons_succ, wrap_in]; rfl)))
    refine done_ (by kernel_rfl) ?_
    have HB3 := Lib.hid (show Below w.heap.size w w3.drew from HB3.out.drew)
    have HN3 := Lib.hid (show w3.drew.heap[w.heap.size]? = _ from HN3.out)
    have RI3 := Lib.hid (RI3.out.below ((Below.refl w3.heap.size w3).drew))
    have HS3 := Lib.hid (show SlAt w3.drew w.heap.size K r.op.key ∧ SlAt w3.drew w.heap.size V r.op.val ∧ SlAt w3.drew w.heap.size C r.copy from HS3.out)
    generalize w3.drew = w4 at *
    clear e0 e1 e2 e3 e4 e5 e6 e7 e8 e9 e10
    go_upto_block 0 with (fail)
    refine wp_cut (fun (ac : Act) (wx : World) => ∃ u0 u1 u3 u5 u6 u7 u8 u10 u11 u12 u13 u14 u15 u16 u17 u18 u19 u20 u21 u22 u23 u24 u25 u26 u27 u28 u29 u30 u31 u32 u33 u34 u35 u36 u37 u38 u39 u40 u41 u42 u43 u44 u45 u46 u47 u48 u49 u50 u51 u52 u53 u54 u55 u56 u57 u58 u59 u60 u61 u62 u63 u64 u65 u66 u67 u68 u69 u70 u71 u72 u73 u74 u75 u76 u77 u78 u79 u80 u81 u82 u83 u84 u85 u86 u87 u88 u89 u90 u91 u92 u93 u94 u95 u96 u97 u98 u99 u100 u101 u102 u103 u104 u105 u106 u107 u108 u109 u110 u111 u112 u113 u114 v9 : Value, (Turn w w.heap.size v9 wx) ∧ ac = ({ tmps := #[u0, u1, .pointer (some ⟨w.heap.size, 0, none⟩), u3, .bool false, u5, u6, u7, u8, v9, u10, u11, u12, u13, u14, u15, u16, u17, u18, u19, u20, u21, u22, u23, u24, u25, u26, u27, u28, u29, u30, u31, u32, u33, u34, u35, u36, u37, u38, u39, u40, u41, u42, u43, u44, u45, u46, u47, u48, u49, u50, u51, u52, u53, u54, u55, u56, u57, u58, u59, u60, u61, u62, u63, u64, u65, u66, u67, u68, u69, u70, u71, u72, u73, u74, u75, u76, u77, u78, u79, u80, u81, u82, u83, u84, u85, u86, u87, u88, u89, u90, u91, u92, u93, u94, u95, u96, u97, u98, u99, u100, u101, u102, u103, u104, u105, u106, u107, u108, u109, u110, u111, u112, u113, u114], defers := [] } : Act)) ?rest ?first
    case' rest => (intro ac wx hcut; obtain ⟨u0, hcut⟩ := hcut; obtain ⟨u1, hcut⟩ := hcut; obtain ⟨u3, hcut⟩ := hcut; obtain ⟨u5, hcut⟩ := hcut; obtain ⟨u6, hcut⟩ := hcut; obtain ⟨u7, hcut⟩ := hcut; obtain ⟨u8, hcut⟩ := hcut; obtain ⟨u10, hcut⟩ := hcut; obtain ⟨u11, hcut⟩ := hcut; obtain ⟨u12, hcut⟩ := hcut; obtain ⟨u13, hcut⟩ := hcut; obtain ⟨u14, hcut⟩ := hcut; obtain ⟨u15, hcut⟩ := hcut; obtain ⟨u16, hcut⟩ := hcut; obtain ⟨u17, hcut⟩ := hcut; obtain ⟨u18, hcut⟩ := hcut; obtain ⟨u19, hcut⟩ := hcut; obtain ⟨u20, hcut⟩ := hcut; obtain ⟨u21, hcut⟩ := hcut; obtain ⟨u22, hcut⟩ := hcut; obtain ⟨u23, hcut⟩ := hcut; obtain ⟨u24, hcut⟩ := hcut; obtain ⟨u25, hcut⟩ := hcut; obtain ⟨u26, hcut⟩ := hcut; obtain ⟨u27, hcut⟩ := hcut; obtain ⟨u28, hcut⟩ := hcut; obtain ⟨u29, hcut⟩ := hcut; obtain ⟨u30, hcut⟩ := hcut; obtain ⟨u31, hcut⟩ := hcut; obtain ⟨u32, hcut⟩ := hcut; obtain ⟨u33, hcut⟩ := hcut; obtain ⟨u34, hcut⟩ := hcut; obtain ⟨u35, hcut⟩ := hcut; obtain ⟨u36, hcut⟩ := hcut; obtain ⟨u37, hcut⟩ := hcut; obtain ⟨u38, hcut⟩ := hcut; obtain ⟨u39, hcut⟩ := hcut; obtain ⟨u40, hcut⟩ := hcut; obtain ⟨u41, hcut⟩ := hcut; obtain ⟨u42, hcut⟩ := hcut; obtain ⟨u43, hcut⟩ := hcut; obtain ⟨u44, hcut⟩ := hcut; obtain ⟨u45, hcut⟩ := hcut; obtain ⟨u46, hcut⟩ := hcut; obtain ⟨u47, hcut⟩ := hcut; obtain ⟨u48, hcut⟩ := hcut; obtain ⟨u49, hcut⟩ := hcut; obtain ⟨u50, hcut⟩ := hcut; obtain ⟨u51, hcut⟩ := hcut; obtain ⟨u52, hcut⟩ := hcut; obtain ⟨u53, hcut⟩ := hcut; obtain ⟨u54, hcut⟩ := hcut; obtain ⟨u55, hcut⟩ := hcut; obtain ⟨u56, hcut⟩ := hcut; obtain ⟨u57, hcut⟩ := hcut; obtain ⟨u58, hcut⟩ := hcut; obtain ⟨u59, hcut⟩ := hcut; obtain ⟨u60, hcut⟩ := hcut; obtain ⟨u61, hcut⟩ := hcut; obtain ⟨u62, hcut⟩ := hcut; obtain ⟨u63, hcut⟩ := hcut; obtain ⟨u64, hcut⟩ := hcut; obtain ⟨u65, hcut⟩ := hcut; obtain ⟨u66, hcut⟩ := hcut; obtain ⟨u67, hcut⟩ := hcut; obtain ⟨u68, hcut⟩ := hcut; obtain ⟨u69, hcut⟩ := hcut; obtain ⟨u70, hcut⟩ := hcut; obtain ⟨u71, hcut⟩ := hcut; obtain ⟨u72, hcut⟩ := hcut; obtain ⟨u73, hcut⟩ := hcut; obtain ⟨u74, hcut⟩ := hcut; obtain ⟨u75, hcut⟩ := hcut; obtain ⟨u76, hcut⟩ := hcut; obtain ⟨u77, hcut⟩ := hcut; obtain ⟨u78, hcut⟩ := hcut; obtain ⟨u79, hcut⟩ := hcut; obtain ⟨u80, hcut⟩ := hcut; obtain ⟨u81, hcut⟩ := hcut; obtain ⟨u82, hcut⟩ := hcut; obtain ⟨u83, hcut⟩ := hcut; obtain ⟨u84, hcut⟩ := hcut; obtain ⟨u85, hcut⟩ := hcut; obtain ⟨u86, hcut⟩ := hcut; obtain ⟨u87, hcut⟩ := hcut; obtain ⟨u88, hcut⟩ := hcut; obtain ⟨u89, hcut⟩ := hcut; obtain ⟨u90, hcut⟩ := hcut; obtain ⟨u91, hcut⟩ := hcut; obtain ⟨u92, hcut⟩ := hcut; obtain ⟨u93, hcut⟩ := hcut; obtain ⟨u94, hcut⟩ := hcut; obtain ⟨u95, hcut⟩ := hcut; obtain ⟨u96, hcut⟩ := hcut; obtain ⟨u97, hcut⟩ := hcut; obtain ⟨u98, hcut⟩ := hcut; obtain ⟨u99, hcut⟩ := hcut; obtain ⟨u100, hcut⟩ := hcut; obtain ⟨u101, hcut⟩ := hcut; obtain ⟨u102, hcut⟩ := hcut; obtain ⟨u103, hcut⟩ := hcut; obtain ⟨u104, hcut⟩ := hcut; obtain ⟨u105, hcut⟩ := hcut; obtain ⟨u106, hcut⟩ := hcut; obtain ⟨u107, hcut⟩ := hcut; obtain ⟨u108, hcut⟩ := hcut; obtain ⟨u109, hcut⟩ := hcut; obtain ⟨u110, hcut⟩ := hcut; obtain ⟨u111, hcut⟩ := hcut; obtain ⟨u112, hcut⟩ := hcut; obtain ⟨u113, hcut⟩ := hcut; obtain ⟨u114, hcut⟩ := hcut; obtain ⟨v9, hcut⟩ := hcut; obtain ⟨hcut, hac⟩ := hcut; subst hac)
    case' first => intro _ _ _ _
    case first =>
      have o1 : In64 1 := ⟨by omega, by omega⟩
      have o2 : In64 2 := ⟨by omega, by omega⟩
      obtain ⟨t2, ht2⟩ := named (r.kind != 2)
      obtain ⟨t3, ht3⟩ := named (r.op.kind == 3)
      obtain ⟨t4, ht4⟩ := named (r.op.kind != 4)
      have HTW := Lib.hid htw
      have HTI := Lib.hid hti
      have HT2 := Lib.hid ht2
      have HT3 := Lib.hid ht3
      have HT4 := Lib.hid ht4
      have q := RI3.out.wf
      have x0 : w4.cell? ⟨w.heap.size, 0, none⟩ = some (.int .i64 r.kind) := cell_blk HN3.out 0 rfl
      have x6 : w4.cell? ⟨w.heap.size, 6, none⟩ = some (.int .i64 r.op.kind) := cell_blk HN3.out 6 rfl
      have HQ := Lib.hid q
      have HO := Lib.hid (show In64 1 ∧ In64 2 from ⟨o1, o2⟩)
      clear q o1 o2 htw hti
      by_cases f0 : field = 0
      · subst f0
        have HT := Lib.hid (show ∀ u : Bool, (u = true → ¬ SoundR { r with client := 1 }) → Turn w w.heap.size (.bool u) (w4.setCell ⟨w.heap.size, 4, none⟩ (.int .i64 1)) from fun u hu => by
          have q := HQ.out
          have o1 := HO.out.1
          have o2 := HO.out.2
          exact Turn.mk (r := { r with client := 1 }) (K := K) (V := V) (C := C) ((setCell_heap w4 w.heap.size 4 (.int .i64 1) _ _ _ HN3.out).trans rfl) (RecIn.set (r := { r with client := 1 }) HN3.out ⟨q.epoch, q.peer, o1, q.seq, q.okind, q.rev, q.key, q.val, q.copy⟩ ⟨RI3.out.byt.key, RI3.out.byt.val, RI3.out.byt.copy⟩ RI3.out.key (ne_at HS3.out.1) RI3.out.val (ne_at HS3.out.2.1) RI3.out.copy (ne_at HS3.out.2.2) RI3.out.lk RI3.out.lv RI3.out.lc 4 _) hu (HB3.out.setCell (by exact Nat.le_refl _) _))
        have xj : w4.cell? ⟨w.heap.size, 4, none⟩ = some (.int .i64 r.client) := cell_blk HN3.out 4 rfl
        have fj := free_blk HN3.out 4
        cases tw
        · go_wp2_with (fail)
          go_meet
          exact HT.out true (fun _ hs => by have t := hs.not_write (by have := HTW.out; simpa using this); have := t.1; simp at this)
        · go_wp2_with (fail)
          go_meet
          exact HT.out false (fun h => by cases h)
      ·
        by_cases f1 : field = 1
        · subst f1
          have HT := Lib.hid (show ∀ u : Bool, (u = true → ¬ SoundR { r with seq := 1 }) → Turn w w.heap.size (.bool u) (w4.setCell ⟨w.heap.size, 5, none⟩ (.int .i64 1)) from fun u hu => by
            have q := HQ.out
            have o1 := HO.out.1
            have o2 := HO.out.2
            exact Turn.mk (r := { r with seq := 1 }) (K := K) (V := V) (C := C) ((setCell_heap w4 w.heap.size 5 (.int .i64 1) _ _ _ HN3.out).trans rfl) (RecIn.set (r := { r with seq := 1 }) HN3.out ⟨q.epoch, q.peer, q.client, o1, q.okind, q.rev, q.key, q.val, q.copy⟩ ⟨RI3.out.byt.key, RI3.out.byt.val, RI3.out.byt.copy⟩ RI3.out.key (ne_at HS3.out.1) RI3.out.val (ne_at HS3.out.2.1) RI3.out.copy (ne_at HS3.out.2.2) RI3.out.lk RI3.out.lv RI3.out.lc 5 _) hu (HB3.out.setCell (by exact Nat.le_refl _) _))
          have xj : w4.cell? ⟨w.heap.size, 5, none⟩ = some (.int .i64 r.seq) := cell_blk HN3.out 5 rfl
          have fj := free_blk HN3.out 5
          cases tw
          · go_wp2_with (fail)
            go_meet
            exact HT.out true (fun _ hs => by have t := hs.not_write (by have := HTW.out; simpa using this); have := t.2.1; simp at this)
          · go_wp2_with (fail)
            go_meet
            exact HT.out false (fun h => by cases h)
        ·
          by_cases f2 : field = 2
          · subst f2
            have HT := Lib.hid (show ∀ u : Bool, (u = true → ¬ SoundR { r with peer := 1 }) → Turn w w.heap.size (.bool u) (w4.setCell ⟨w.heap.size, 3, none⟩ (.int .i64 1)) from fun u hu => by
              have q := HQ.out
              have o1 := HO.out.1
              have o2 := HO.out.2
              exact Turn.mk (r := { r with peer := 1 }) (K := K) (V := V) (C := C) ((setCell_heap w4 w.heap.size 3 (.int .i64 1) _ _ _ HN3.out).trans rfl) (RecIn.set (r := { r with peer := 1 }) HN3.out ⟨q.epoch, o1, q.client, q.seq, q.okind, q.rev, q.key, q.val, q.copy⟩ ⟨RI3.out.byt.key, RI3.out.byt.val, RI3.out.byt.copy⟩ RI3.out.key (ne_at HS3.out.1) RI3.out.val (ne_at HS3.out.2.1) RI3.out.copy (ne_at HS3.out.2.2) RI3.out.lk RI3.out.lv RI3.out.lc 3 _) hu (HB3.out.setCell (by exact Nat.le_refl _) _))
            have xj : w4.cell? ⟨w.heap.size, 3, none⟩ = some (.int .i64 r.peer) := cell_blk HN3.out 3 rfl
            have fj := free_blk HN3.out 3
            cases ti
            · cases t2
              · go_wp2_with (fail)
                go_meet
                exact HT.out false (fun h => by cases h)
              · go_wp2_with (fail)
                go_meet
                exact HT.out true (fun _ hs => by have t := (hs.not_install (by have := HTI.out; simpa using this)).2.2 (by have := HT2.out; simpa using this); simp at t)
            · go_wp2_with (fail)
              go_meet
              exact HT.out false (fun h => by cases h)
          ·
            by_cases f3 : field = 3
            · subst f3
              have HT := Lib.hid (show ∀ u : Bool, (u = true → ¬ SoundR { r with epoch := 1 }) → Turn w w.heap.size (.bool u) (w4.setCell ⟨w.heap.size, 2, none⟩ (.int .i64 1)) from fun u hu => by
                have q := HQ.out
                have o1 := HO.out.1
                have o2 := HO.out.2
                exact Turn.mk (r := { r with epoch := 1 }) (K := K) (V := V) (C := C) ((setCell_heap w4 w.heap.size 2 (.int .i64 1) _ _ _ HN3.out).trans rfl) (RecIn.set (r := { r with epoch := 1 }) HN3.out ⟨o1, q.peer, q.client, q.seq, q.okind, q.rev, q.key, q.val, q.copy⟩ ⟨RI3.out.byt.key, RI3.out.byt.val, RI3.out.byt.copy⟩ RI3.out.key (ne_at HS3.out.1) RI3.out.val (ne_at HS3.out.2.1) RI3.out.copy (ne_at HS3.out.2.2) RI3.out.lk RI3.out.lv RI3.out.lc 2 _) hu (HB3.out.setCell (by exact Nat.le_refl _) _))
              have xj : w4.cell? ⟨w.heap.size, 2, none⟩ = some (.int .i64 r.epoch) := cell_blk HN3.out 2 rfl
              have fj := free_blk HN3.out 2
              cases ti
              · go_wp2_with (fail)
                go_meet
                exact HT.out true (fun _ hs => by have t := hs.not_install (by have := HTI.out; simpa using this); have := t.1; simp at this)
              · go_wp2_with (fail)
                go_meet
                exact HT.out false (fun h => by cases h)
            ·
              by_cases f4 : field = 4
              · subst f4
                have HT := Lib.hid (show ∀ u : Bool, (u = true → ¬ SoundR { r with copy := [0] }) → Turn w w.heap.size (.bool u) ((w4.alloc (.cells #[.int .u8 0] 5 (0, 0))).setCell ⟨w.heap.size, 10, none⟩ (.slice (some ⟨w4.heap.size, 0, none⟩) 1 1)) from fun u hu => by
                  have q := HQ.out
                  have nB := blk_new w4 (.cells #[.int .u8 0] 5 (0, 0))
                  have bB : Below w4.heap.size w4 (w4.alloc (.cells #[.int .u8 0] 5 (0, 0))) := (Below.refl _ _).alloc (Nat.le_refl _) _
                  have hz := blk_lt HN3.out
                  generalize (w4.alloc (.cells #[.int .u8 0] 5 (0, 0))) = w5 at *
                  have r5 := RI3.out.below bB
                  have OB := one_byte nB
                  have sB : SlAt w5 w5.heap.size (some ⟨w4.heap.size, 0, none⟩, 1, 1) [0] := SlAt.ofSrc (BSrc.ofOwn OB) rfl (Nat.le_refl _)
                  have nN : ∀ g o, (some (⟨w4.heap.size, 0, none⟩ : Addr)) = some ⟨g, o, none⟩ → ([0] : List Int) ≠ [] → g ≠ w.heap.size := fun g o e _ => by injection e with e; injection e with e _; omega
                  exact Turn.mk (r := { r with copy := [0] }) (K := K) (V := V) (C := (some ⟨w4.heap.size, 0, none⟩, 1, 1)) ((setCell_heap w5 w.heap.size 10 _ _ _ _ (blk_below HN3.out bB)).trans rfl) (RecIn.set (r := { r with copy := [0] }) (blk_below HN3.out bB) ⟨q.epoch, q.peer, q.client, q.seq, q.okind, q.rev, q.key, q.val, (by simp)⟩ ⟨RI3.out.byt.key, RI3.out.byt.val, zero_byt⟩ r5.key (ne_at HS3.out.1) r5.val (ne_at HS3.out.2.1) sB nN RI3.out.lk RI3.out.lv (show (1 : Nat) ≤ reach by decide) 10 _) hu ((HB3.out.trans (bB.mono HB3.out.size)).setCell (by exact Nat.le_refl _) _))
                have xj := cell_alloc_old (show w4.cell? ⟨w.heap.size, 10, none⟩ = some (.slice C.1 C.2.1 C.2.2) from cell_blk HN3.out 10 rfl) (.cells #[.int .u8 0] 5 (0, 0))
                have fj := free_blk (blk_alloc HN3.out (.cells #[.int .u8 0] 5 (0, 0))) 10
                cases ti
                · go_wp2_with (fail)
                  go_meet
                  exact HT.out true (fun _ hs => by have t := hs.not_install (by have := HTI.out; simpa using this); have := t.2.1; simp at this)
                · go_wp2_with (fail)
                  go_meet
                  exact HT.out false (fun h => by cases h)
              ·
                by_cases f5 : field = 5
                · subst f5
                  have HT := Lib.hid (show ∀ u : Bool, (u = true → ¬ SoundR { r with op := { r.op with kind := 2 } }) → Turn w w.heap.size (.bool u) (w4.setCell ⟨w.heap.size, 6, none⟩ (.int .i64 2)) from fun u hu => by
                    have q := HQ.out
                    have o1 := HO.out.1
                    have o2 := HO.out.2
                    exact Turn.mk (r := { r with op := { r.op with kind := 2 } }) (K := K) (V := V) (C := C) ((setCell_heap w4 w.heap.size 6 (.int .i64 2) _ _ _ HN3.out).trans rfl) (RecIn.set (r := { r with op := { r.op with kind := 2 } }) HN3.out ⟨q.epoch, q.peer, q.client, q.seq, o2, q.rev, q.key, q.val, q.copy⟩ ⟨RI3.out.byt.key, RI3.out.byt.val, RI3.out.byt.copy⟩ RI3.out.key (ne_at HS3.out.1) RI3.out.val (ne_at HS3.out.2.1) RI3.out.copy (ne_at HS3.out.2.2) RI3.out.lk RI3.out.lv RI3.out.lc 6 _) hu (HB3.out.setCell (by exact Nat.le_refl _) _))
                  have fj := free_blk HN3.out 6
                  cases tw
                  · go_wp2_with (fail)
                    go_meet
                    exact HT.out true (fun _ hs => by have t := hs.not_write (by have := HTW.out; simpa using this); have := t.2.2.1; simp at this)
                  · go_wp2_with (fail)
                    go_meet
                    exact HT.out false (fun h => by cases h)
                ·
                  by_cases f6 : field = 6
                  · subst f6
                    have HT := Lib.hid (show ∀ u : Bool, (u = true → ¬ SoundR { r with op := { r.op with key := [0] } }) → Turn w w.heap.size (.bool u) ((w4.alloc (.cells #[.int .u8 0] 5 (0, 0))).setCell ⟨w.heap.size, 7, none⟩ (.slice (some ⟨w4.heap.size, 0, none⟩) 1 1)) from fun u hu => by
                      have q := HQ.out
                      have nB := blk_new w4 (.cells #[.int .u8 0] 5 (0, 0))
                      have bB : Below w4.heap.size w4 (w4.alloc (.cells #[.int .u8 0] 5 (0, 0))) := (Below.refl _ _).alloc (Nat.le_refl _) _
                      have hz := blk_lt HN3.out
                      generalize (w4.alloc (.cells #[.int .u8 0] 5 (0, 0))) = w5 at *
                      have r5 := RI3.out.below bB
                      have OB := one_byte nB
                      have sB : SlAt w5 w5.heap.size (some ⟨w4.heap.size, 0, none⟩, 1, 1) [0] := SlAt.ofSrc (BSrc.ofOwn OB) rfl (Nat.le_refl _)
                      have nN : ∀ g o, (some (⟨w4.heap.size, 0, none⟩ : Addr)) = some ⟨g, o, none⟩ → ([0] : List Int) ≠ [] → g ≠ w.heap.size := fun g o e _ => by injection e with e; injection e with e _; omega
                      exact Turn.mk (r := { r with op := { r.op with key := [0] } }) (K := (some ⟨w4.heap.size, 0, none⟩, 1, 1)) (V := V) (C := C) ((setCell_heap w5 w.heap.size 7 _ _ _ _ (blk_below HN3.out bB)).trans rfl) (RecIn.set (r := { r with op := { r.op with key := [0] } }) (blk_below HN3.out bB) ⟨q.epoch, q.peer, q.client, q.seq, q.okind, q.rev, (by simp), q.val, q.copy⟩ ⟨zero_byt, RI3.out.byt.val, RI3.out.byt.copy⟩ sB nN r5.val (ne_at HS3.out.2.1) r5.copy (ne_at HS3.out.2.2) (show (1 : Nat) ≤ reach by decide) RI3.out.lv RI3.out.lc 7 _) hu ((HB3.out.trans (bB.mono HB3.out.size)).setCell (by exact Nat.le_refl _) _))
                    have xj := cell_alloc_old (show w4.cell? ⟨w.heap.size, 7, none⟩ = some (.slice K.1 K.2.1 K.2.2) from cell_blk HN3.out 7 rfl) (.cells #[.int .u8 0] 5 (0, 0))
                    have fj := free_blk (blk_alloc HN3.out (.cells #[.int .u8 0] 5 (0, 0))) 7
                    cases tw
                    · go_wp2_with (fail)
                      go_meet
                      exact HT.out true (fun _ hs => by have t := hs.not_write (by have := HTW.out; simpa using this); have := t.2.2.2.2.1; simp at this)
                    · go_wp2_with (fail)
                      go_meet
                      exact HT.out false (fun h => by cases h)
                  ·
                    by_cases f7 : field = 7
                    · subst f7
                      have HT := Lib.hid (show ∀ u : Bool, (u = true → ¬ SoundR { r with op := { r.op with val := [0] } }) → Turn w w.heap.size (.bool u) ((w4.alloc (.cells #[.int .u8 0] 5 (0, 0))).setCell ⟨w.heap.size, 8, none⟩ (.slice (some ⟨w4.heap.size, 0, none⟩) 1 1)) from fun u hu => by
                        have q := HQ.out
                        have nB := blk_new w4 (.cells #[.int .u8 0] 5 (0, 0))
                        have bB : Below w4.heap.size w4 (w4.alloc (.cells #[.int .u8 0] 5 (0, 0))) := (Below.refl _ _).alloc (Nat.le_refl _) _
                        have hz := blk_lt HN3.out
                        generalize (w4.alloc (.cells #[.int .u8 0] 5 (0, 0))) = w5 at *
                        have r5 := RI3.out.below bB
                        have OB := one_byte nB
                        have sB : SlAt w5 w5.heap.size (some ⟨w4.heap.size, 0, none⟩, 1, 1) [0] := SlAt.ofSrc (BSrc.ofOwn OB) rfl (Nat.le_refl _)
                        have nN : ∀ g o, (some (⟨w4.heap.size, 0, none⟩ : Addr)) = some ⟨g, o, none⟩ → ([0] : List Int) ≠ [] → g ≠ w.heap.size := fun g o e _ => by injection e with e; injection e with e _; omega
                        exact Turn.mk (r := { r with op := { r.op with val := [0] } }) (K := K) (V := (some ⟨w4.heap.size, 0, none⟩, 1, 1)) (C := C) ((setCell_heap w5 w.heap.size 8 _ _ _ _ (blk_below HN3.out bB)).trans rfl) (RecIn.set (r := { r with op := { r.op with val := [0] } }) (blk_below HN3.out bB) ⟨q.epoch, q.peer, q.client, q.seq, q.okind, q.rev, q.key, (by simp), q.copy⟩ ⟨RI3.out.byt.key, zero_byt, RI3.out.byt.copy⟩ r5.key (ne_at HS3.out.1) sB nN r5.copy (ne_at HS3.out.2.2) RI3.out.lk (show (1 : Nat) ≤ reach by decide) RI3.out.lc 8 _) hu ((HB3.out.trans (bB.mono HB3.out.size)).setCell (by exact Nat.le_refl _) _))
                      have xj := cell_alloc_old (show w4.cell? ⟨w.heap.size, 8, none⟩ = some (.slice V.1 V.2.1 V.2.2) from cell_blk HN3.out 8 rfl) (.cells #[.int .u8 0] 5 (0, 0))
                      have fj := free_blk (blk_alloc HN3.out (.cells #[.int .u8 0] 5 (0, 0))) 8
                      cases tw
                      · go_wp2_with (fail)
                        go_meet
                        exact HT.out true (fun _ hs => by have t := hs.not_write (by have := HTW.out; simpa using this); have := t.2.2.2.2.2; simp at this)
                      · cases t3
                        · go_wp2_with (fail)
                          go_meet
                          exact HT.out false (fun h => by cases h)
                        · go_wp2_with (fail)
                          go_meet
                          exact HT.out true (fun _ hs => by have t := hs.write_op (by have := HTW.out; simpa using this); have h3 : r.op.kind = 3 := (by have := HT3.out; simpa using this); unfold RightO at t; simp at t; omega)
                    ·
                      by_cases f8 : field = 8
                      · subst f8
                        have HT := Lib.hid (show ∀ u : Bool, (u = true → ¬ SoundR { r with op := { r.op with rev := 1 } }) → Turn w w.heap.size (.bool u) (w4.setCell ⟨w.heap.size, 9, none⟩ (.int .i64 1)) from fun u hu => by
                          have q := HQ.out
                          have o1 := HO.out.1
                          have o2 := HO.out.2
                          exact Turn.mk (r := { r with op := { r.op with rev := 1 } }) (K := K) (V := V) (C := C) ((setCell_heap w4 w.heap.size 9 (.int .i64 1) _ _ _ HN3.out).trans rfl) (RecIn.set (r := { r with op := { r.op with rev := 1 } }) HN3.out ⟨q.epoch, q.peer, q.client, q.seq, q.okind, o1, q.key, q.val, q.copy⟩ ⟨RI3.out.byt.key, RI3.out.byt.val, RI3.out.byt.copy⟩ RI3.out.key (ne_at HS3.out.1) RI3.out.val (ne_at HS3.out.2.1) RI3.out.copy (ne_at HS3.out.2.2) RI3.out.lk RI3.out.lv RI3.out.lc 9 _) hu (HB3.out.setCell (by exact Nat.le_refl _) _))
                        have xj : w4.cell? ⟨w.heap.size, 9, none⟩ = some (.int .i64 r.op.rev) := cell_blk HN3.out 9 rfl
                        have fj := free_blk HN3.out 9
                        cases tw
                        · go_wp2_with (fail)
                          go_meet
                          exact HT.out true (fun _ hs => by have t := hs.not_write (by have := HTW.out; simpa using this); have := t.2.2.2.1; simp at this)
                        · cases t4
                          · go_wp2_with (fail)
                            go_meet
                            exact HT.out false (fun h => by cases h)
                          · go_wp2_with (fail)
                            go_meet
                            exact HT.out true (fun _ hs => by have t := hs.write_op (by have := HTW.out; simpa using this); have h4 : ¬ r.op.kind = 4 := (by have := HT4.out; simpa using this); unfold RightO at t; simp only at t; omega)
                      ·
                        go_wp2_with (fail)
                        all_goals go_meet
                        all_goals exact Turn.mk (u := false) HN3.out RI3.out (fun h => by cases h) HB3.out
    case rest =>
      obtain ⟨r', K', V', C', u, rfl, HX, RX, HU, BX⟩ := hcut
      have HRX := Lib.hid RX
      have HBX := Lib.hid BX
      have HUU := Lib.hid HU
      have EN := Lib.hid (encode_any RX.wf RX.byt RX.key RX.val RX.copy)
      unfold recV recCells at EN
      have e0 : wx.cell? ⟨w.heap.size, 0, none⟩ = some (.int .i64 r'.kind) := cell_blk HX 0 rfl
      have e1 : wx.cell? ⟨w.heap.size, 1, none⟩ = some (.int .i64 r'.shard) := cell_blk HX 1 rfl
      have e2 : wx.cell? ⟨w.heap.size, 2, none⟩ = some (.int .i64 r'.epoch) := cell_blk HX 2 rfl
      have e3 : wx.cell? ⟨w.heap.size, 3, none⟩ = some (.int .i64 r'.peer) := cell_blk HX 3 rfl
      have e4 : wx.cell? ⟨w.heap.size, 4, none⟩ = some (.int .i64 r'.client) := cell_blk HX 4 rfl
      have e5 : wx.cell? ⟨w.heap.size, 5, none⟩ = some (.int .i64 r'.seq) := cell_blk HX 5 rfl
      have e6 : wx.cell? ⟨w.heap.size, 6, none⟩ = some (.int .i64 r'.op.kind) := cell_blk HX 6 rfl
      have e7 : wx.cell? ⟨w.heap.size, 7, none⟩ = some (.slice K'.1 K'.2.1 K'.2.2) := cell_blk HX 7 rfl
      have e8 : wx.cell? ⟨w.heap.size, 8, none⟩ = some (.slice V'.1 V'.2.1 V'.2.2) := cell_blk HX 8 rfl
      have e9 : wx.cell? ⟨w.heap.size, 9, none⟩ = some (.int .i64 r'.op.rev) := cell_blk HX 9 rfl
      have e10 : wx.cell? ⟨w.heap.size, 10, none⟩ = some (.slice C'.1 C'.2.1 C'.2.2) := cell_blk HX 10 rfl
      clear HX RX HU BX
      go_wp2_with (fail)
      refine EN.out.mono ?_
      rintro e w5 ⟨hb5, ⟨SR', g', rfl, hg', O'⟩ | ⟨NS', rfl⟩⟩
      · have hu : u = false := by
          cases u
          · rfl
          · exact absurd SR' (HUU.out rfl)
        subst hu
        generalize (formR r').length = n' at *
        go_wp2_with (fail)
        go_ret
        exact ⟨rfl, HBX.out.trans (hb5.mono HBX.out.size)⟩
      · cases u
        · go_wp2_with (fail)
          go_ret
          exact ⟨rfl, HBX.out.trans (hb5.mono HBX.out.size)⟩
        · go_wp2_with (fail)
          go_ret
          exact ⟨rfl, HBX.out.trans (hb5.mono HBX.out.size)⟩
  · go_wp2_with (fail)
    go_ret
    exact ⟨rfl, HB2.out.trans (hb3.mono HB2.out.size)⟩
theorem RecordUnused_walk (w : World) (cs : Array Value) (x : _) (hx : RdRec.rd w x cs.toList) (field : Int) (hf : (Lit.int .i64 field).wf = true) :
    Calls Try.prog 7 #[.agg cs, .int .i64 field] w fun e w' => e = .returned (.bool true) ∧ Below w.heap.size w w' := by
  obtain ⟨r, K, V, C, hv, h⟩ := rec_of hx
  rw [hv]
  exact unused_1 h field
namespace recordUnused
open Go.ChangeShapes Go.WideShapes Go.ChangeAt Go.RowKit
open Go.ChangeMaps (open_string shut_string)
theorem own : ownKnob Try.prog.godebug = none := by kernel_rfl
theorem laidOut : laidOutB Try.prog = true := by kernel_rfl
set_option maxRecDepth 100000 in
theorem lifted (os : Os) (started : os.Started) (H : Type) (enc : TypeId × Value → H) :
    ReturnsInHanded {} Try.checked os 7 .any (Rows.recordUnusedSpec.pre6 enc Try.prog Try.f7 Rows.recordUnusedRow.domain false) (Rows.recordUnusedSpec.post enc Try.prog Try.f7 false true false false) := by
  refine returnsInHanded_of_change_sized (C := Try.checked) own started (by kernel_rfl) Try.func7
    (ChangeSpec.witness6 (enc := enc) (C := Try.checked) false ⟨#[], #[.agg #[.int .i64 0, .int .i64 0, .int .i64 0, .int .i64 0, .int .i64 0, .int .i64 0, .int .i64 0, .slice none 0 0, .slice none 0 0, .int .i64 0, .slice none 0 0], .int .i64 0], []⟩ 8 (by kernel_rfl) (by kernel_rfl) (by kernel_rfl) (by kernel_rfl)) ?_
  intro W base args ds gs before hval0 hW hcnd hsz0 _
  have hsz : (DataW.weightsEach Try.prog (Try.f7.params.toList ++ Rows.recordUnusedSpec.plain.varTypes Try.prog) (ds ++ gs)).all (· ≤ reachBytes) = true := hsz0
  have hval : ∀ (j : Nat) t v, Try.f7.params[j]? = some t → args[j]? = some v → Value.okWide Try.prog W .any base t v := hval0
  have hW' := hW
  obtain ⟨p, q, hA0, hV, rfl, hfz, hnd⟩ := hW
  have hA : DataW.TrodAll enc Try.prog W 0 (fun _ => true) true Try.f7.params.toList args.toList ds p := hA0
  rw [Try.params7] at hA hval hsz
  obtain ⟨v0, vs0, d0, ds0, p0, q0, hargs, rfl, rfl, h0, r0⟩ := trodAll_cons hA
  obtain ⟨v1, vs1, d1, ds1, p1, q1, rfl, rfl, rfl, h1, r1⟩ := trodAll_cons r0
  obtain ⟨rfl, rfl, rfl⟩ := trodAll_nil r1
  obtain rfl : args = #[v0, v1] := by cases args; simp_all
  obtain ⟨rfl, rfl⟩ := trodVars_none hV
  obtain ⟨a0, rfl, z0⟩ := okWide_struct Try.underlying26 (hval 0 26 v0 rfl rfl)
  have k0 := h0
  have lt0 : ∀ x ∈ p0, x.block < W.heap.size := by obtain ⟨m, hm⟩ := k0; exact DataW.trod_lt m _ _ _ hm
  obtain ⟨xs0, hx0⟩ := opened_struct (opens_rec W) h0 (weights_at hsz (j := 0) (t := 26) rfl rfl)
  obtain ⟨a1, rfl, rfl, rfl, w1⟩ := open_int Try.underlying3 (hval 1 3 v1 rfl rfl) h1
  clear hA0 hval0 hsz0 hsz
  refine (RecordUnused_walk W a0 xs0 hx0 a1 w1).mono fun e W' ⟨he, bel⟩ => ?_
  subst he
  exact ⟨_, rfl, _, _, _, [], _, [], hW', trodAll_mk1 (shut_bool Try.underlying4 _), (trodAll_cons_mk (Below.trod laidOut (by kernel_rfl) (of_decide_eq_true (by kernel_rfl)) k0 bel lt0) (trodAll_cons_mk (shut_int Try.underlying3 w1) trodAll_mk0)), rfl, bel.frame _, fun h => by cases h⟩
theorem over : Rows.recordUnusedRow.holds Try.pinned (OpenSpec.ofChange Rows.recordUnusedSpec) :=
  OpenClaim.holds_of_wide 7 Try.f7 rfl rfl rfl rfl rfl rfl rfl ⟨rfl, rfl, rfl, rfl, rfl⟩ rfl rfl rfl rfl rfl (by kernel_rfl) Try.func7 (by kernel_rfl)
    (of_decide_eq_true (by kernel_rfl)) (by unfold Func.isWrapper; first | (rw [if_pos (by decide +kernel)]; kernel_rfl) | (rw [if_neg (by decide +kernel)]; exact ⟨rfl, rfl⟩))
    (fun os started H enc _ => lifted os started H enc)
theorem proved : Rows.RecordUnusedSaid := over
end recordUnused
theorem recordUnused_holds : Rows.RecordUnusedSaid := recordUnused.proved
#print axioms recordUnused_holds
end Go.Proofs.Ytjmmdpnphafdfaa
