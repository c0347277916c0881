/- RecordBack: what is encoded is decoded to the same record. -/
import Derived.Test.YtjmmdpnphafdfaaX2
namespace Go.Proofs.Ytjmmdpnphafdfaa
set_option linter.unusedVariables false
set_option linter.unusedSimpArgs false
open Go.ChangeShapes Go.WideShapes Go.ChangeAt Go.RowKit Go.Deep Go.Proofs.YtjmmdpnphafdfaaW.PrintLast

def encB (r : RZ) : List Int := if SoundR r then formR r else []
def encE (r : RZ) : Int := if SoundR r then 0 else 160
theorem encB_len (r : RZ) : (encB r).length ≤ 300000 := by
  unfold encB
  split
  · rename_i h
    have := formR_room h
    have := h.lens
    omega
  · simp
/-- What Encode hands back, sound or not. -/
def EncU (w : World) (r : RZ) (e : Ending) (w' : World) : Prop := ∃ A c, e = .returned (.tuple #[.slice A (encB r).length c, .int .i64 (encE r)]) ∧ BSrc w' A (encB r) ∧ Below w.heap.size w w'
theorem encode_u {w : World} {r : RZ} {K V C : SlB} (h : RecIn w r K V C) : Calls Try.prog 19 #[recV r K V C] w (EncU w r) := by
  refine (encode_any h.wf h.byt h.key h.val h.copy).mono ?_
  rintro e w' ⟨hb, ⟨hs, g, rfl, hg, O⟩ | ⟨hs, rfl⟩⟩
  · refine ⟨some ⟨g, 0, none⟩, (formR r).length, ?_, ?_, hb⟩
    · unfold encB encE; rw [if_pos hs, if_pos hs]
    · unfold encB; rw [if_pos hs]; exact BSrc.ofOwn O
  · refine ⟨none, 0, ?_, ?_, hb⟩
    · unfold encB encE; rw [if_neg hs, if_neg hs]; rfl
    · unfold encB; rw [if_neg hs]; exact fun h => absurd rfl h
set_option maxRecDepth 100000 in
set_option maxHeartbeats 16000000 in
theorem back_1 {w : World} {r q : RZ} {K V C K' V' C' : SlB} (h : RecIn w r K V C) (h' : RecIn w q K' V' C') :
    Calls Try.prog 8 #[recV r K V C, recV q K' V' C'] w fun e w' => e = .returned (.bool true) ∧ Below w.heap.size w w' := by
  obtain ⟨x1, x2⟩ := two_blks w (.cells (recCells r K V C) TRec (0, 0)) (.cells (recCells q K' V' C') TRec (0, 0))
  have B1 : Below w.heap.size w ((w.alloc (.cells (recCells r K V C) TRec (0, 0))).alloc (.cells (recCells q K' V' C') TRec (0, 0))) := ((Below.refl _ _).alloc (Nat.le_refl _) _).alloc (by simp) _
  unfold recV
  generalize hw1 : (w.alloc (.cells (recCells r K V C) TRec (0, 0))).alloc (.cells (recCells q K' V' C') TRec (0, 0)) = w1 at *
  have RI := Lib.hid (h.below B1)
  have QI := Lib.hid (h'.below B1)
  have HB1 := Lib.hid B1
  have HX := Lib.hid x1
  have HY := Lib.hid x2
  have AW := Lib.hid (awake_any w1)
  clear h h' x1 x2 B1
  unfold recCells at hw1 ⊢
  have HW1 := Lib.hid hw1
  clear hw1
  go_enter Try.func8, Try.ntmps8
  go_upto_region 1 with (fail)
  rw [HW1.out]
  go_wp2_with (fail)
  refine AW.out.mono ?_
  rintro e w2 ⟨rfl, hb2⟩
  have HB2 := Lib.hid (HB1.out.trans (hb2.mono HB1.out.size))
  have HX := Lib.hid (blk_below HX.out hb2)
  have HY := Lib.hid (blk_below HY.out hb2)
  have RI := Lib.hid (RI.out.below hb2)
  have QI := Lib.hid (QI.out.below hb2)
  have EN := Lib.hid (encode_u RI.out)
  unfold recV recCells at EN
  have e0 : w2.cell? ⟨w.heap.size, 0, none⟩ = some (.int .i64 r.kind) := cell_blk HX.out 0 rfl
  have e1 : w2.cell? ⟨w.heap.size, 1, none⟩ = some (.int .i64 r.shard) := cell_blk HX.out 1 rfl
  have e2 : w2.cell? ⟨w.heap.size, 2, none⟩ = some (.int .i64 r.epoch) := cell_blk HX.out 2 rfl
  have e3 : w2.cell? ⟨w.heap.size, 3, none⟩ = some (.int .i64 r.peer) := cell_blk HX.out 3 rfl
  have e4 : w2.cell? ⟨w.heap.size, 4, none⟩ = some (.int .i64 r.client) := cell_blk HX.out 4 rfl
  have e5 : w2.cell? ⟨w.heap.size, 5, none⟩ = some (.int .i64 r.seq) := cell_blk HX.out 5 rfl
  have e6 : w2.cell? ⟨w.heap.size, 6, none⟩ = some (.int .i64 r.op.kind) := cell_blk HX.out 6 rfl
  have e7 : w2.cell? ⟨w.heap.size, 7, none⟩ = some (.slice K.1 K.2.1 K.2.2) := cell_blk HX.out 7 rfl
  have e8 : w2.cell? ⟨w.heap.size, 8, none⟩ = some (.slice V.1 V.2.1 V.2.2) := cell_blk HX.out 8 rfl
  have e9 : w2.cell? ⟨w.heap.size, 9, none⟩ = some (.int .i64 r.op.rev) := cell_blk HX.out 9 rfl
  have e10 : w2.cell? ⟨w.heap.size, 10, none⟩ = some (.slice C.1 C.2.1 C.2.2) := cell_blk HX.out 10 rfl
  clear hb2
  go_wp2_with (fail)
  refine EN.out.mono ?_
  rintro e w3 ⟨A1, c1, rfl, S1, hb3⟩
  have HB3 := Lib.hid (HB2.out.trans (hb3.mono HB2.out.size))
  have HX := Lib.hid (blk_below HX.out hb3)
  have HY := Lib.hid (blk_below HY.out hb3)
  have RI := Lib.hid (RI.out.below hb3)
  have QI := Lib.hid (QI.out.below hb3)
  have HS1 := Lib.hid S1
  have EQ := Lib.hid (encode_u QI.out)
  unfold recV recCells at EQ
  clear EN e0 e1 e2 e3 e4 e5 e6 e7 e8 e9 e10 S1 hb3
  have d0 : w3.cell? ⟨w.heap.size + 1, 0, none⟩ = some (.int .i64 q.kind) := cell_blk HY.out 0 rfl
  have d1 : w3.cell? ⟨w.heap.size + 1, 1, none⟩ = some (.int .i64 q.shard) := cell_blk HY.out 1 rfl
  have d2 : w3.cell? ⟨w.heap.size + 1, 2, none⟩ = some (.int .i64 q.epoch) := cell_blk HY.out 2 rfl
  have d3 : w3.cell? ⟨w.heap.size + 1, 3, none⟩ = some (.int .i64 q.peer) := cell_blk HY.out 3 rfl
  have d4 : w3.cell? ⟨w.heap.size + 1, 4, none⟩ = some (.int .i64 q.client) := cell_blk HY.out 4 rfl
  have d5 : w3.cell? ⟨w.heap.size + 1, 5, none⟩ = some (.int .i64 q.seq) := cell_blk HY.out 5 rfl
  have d6 : w3.cell? ⟨w.heap.size + 1, 6, none⟩ = some (.int .i64 q.op.kind) := cell_blk HY.out 6 rfl
  have d7 : w3.cell? ⟨w.heap.size + 1, 7, none⟩ = some (.slice K'.1 K'.2.1 K'.2.2) := cell_blk HY.out 7 rfl
  have d8 : w3.cell? ⟨w.heap.size + 1, 8, none⟩ = some (.slice V'.1 V'.2.1 V'.2.2) := cell_blk HY.out 8 rfl
  have d9 : w3.cell? ⟨w.heap.size + 1, 9, none⟩ = some (.int .i64 q.op.rev) := cell_blk HY.out 9 rfl
  have d10 : w3.cell? ⟨w.heap.size + 1, 10, none⟩ = some (.slice C'.1 C'.2.1 C'.2.2) := cell_blk HY.out 10 rfl
  go_wp2_with (fail)
  refine EQ.out.mono ?_
  rintro e w4 ⟨A2, c2, rfl, S2, hb4⟩
  have HB4 := Lib.hid (HB3.out.trans (hb4.mono HB3.out.size))
  have HX := Lib.hid (blk_below HX.out hb4)
  have HY := Lib.hid (blk_below HY.out hb4)
  have RI := Lib.hid (RI.out.below hb4)
  have QI := Lib.hid (QI.out.below hb4)
  have HS1 := Lib.hid (HS1.out.below hb4)
  have HS2 := Lib.hid S2
  have SZ := Lib.hid (rsize_any RI.out.wf RI.out.byt RI.out.key RI.out.val RI.out.copy.1)
  unfold recV recCells at SZ
  clear EQ d0 d1 d2 d3 d4 d5 d6 d7 d8 d9 d10 S2 hb4
  have e0 : w4.cell? ⟨w.heap.size, 0, none⟩ = some (.int .i64 r.kind) := cell_blk HX.out 0 rfl
  have e1 : w4.cell? ⟨w.heap.size, 1, none⟩ = some (.int .i64 r.shard) := cell_blk HX.out 1 rfl
  have e2 : w4.cell? ⟨w.heap.size, 2, none⟩ = some (.int .i64 r.epoch) := cell_blk HX.out 2 rfl
  have e3 : w4.cell? ⟨w.heap.size, 3, none⟩ = some (.int .i64 r.peer) := cell_blk HX.out 3 rfl
  have e4 : w4.cell? ⟨w.heap.size, 4, none⟩ = some (.int .i64 r.client) := cell_blk HX.out 4 rfl
  have e5 : w4.cell? ⟨w.heap.size, 5, none⟩ = some (.int .i64 r.seq) := cell_blk HX.out 5 rfl
  have e6 : w4.cell? ⟨w.heap.size, 6, none⟩ = some (.int .i64 r.op.kind) := cell_blk HX.out 6 rfl
  have e7 : w4.cell? ⟨w.heap.size, 7, none⟩ = some (.slice K.1 K.2.1 K.2.2) := cell_blk HX.out 7 rfl
  have e8 : w4.cell? ⟨w.heap.size, 8, none⟩ = some (.slice V.1 V.2.1 V.2.2) := cell_blk HX.out 8 rfl
  have e9 : w4.cell? ⟨w.heap.size, 9, none⟩ = some (.int .i64 r.op.rev) := cell_blk HX.out 9 rfl
  have e10 : w4.cell? ⟨w.heap.size, 10, none⟩ = some (.slice C.1 C.2.1 C.2.2) := cell_blk HX.out 10 rfl
  go_wp2_with (fail)
  refine SZ.out.mono ?_
  rintro e w5 ⟨hb5, rfl⟩
  have HB5 := Lib.hid (HB4.out.trans (hb5.mono HB4.out.size))
  have HX := Lib.hid (blk_below HX.out hb5)
  have HY := Lib.hid (blk_below HY.out hb5)
  have RI := Lib.hid (RI.out.below hb5)
  have QI := Lib.hid (QI.out.below hb5)
  have HS1 := Lib.hid (HS1.out.below hb5)
  have HS2 := Lib.hid (HS2.out.below hb5)
  clear SZ e0 e1 e2 e3 e4 e5 e6 e7 e8 e9 e10 hb5
  have HL1 := Lib.hid (encB_len r)
  have HL2 := Lib.hid (encB_len q)
  go_upto_region 6 with (fail)
  obtain ⟨E1, hE1⟩ : ∃ x, encE r = x := ⟨_, rfl⟩
  obtain ⟨E2, hE2⟩ : ∃ x, encE q = x := ⟨_, rfl⟩
  rw [hE1, hE2]
  have HE1 := Lib.hid hE1
  have HE2 := Lib.hid hE2
  clear hE1 hE2
  refine wp_cut (fun (ac : Act) (wx : World) => ∃ u0 u1 u7 u8 u11 u12 u13 u14 u15 u16 u17 u18 u19 u20 u21 u22 u23 u24 u25 u26 u27 u28 u29 u30 u31 u32 u33 u34 u35 u36 u37 u38 u39 u40 u41 u42 u43 u45 u46 u47 u48 u49 u50 u51 u52 u53 u54 u55 u56 u57 u58 u59 u60 u61 u62 u63 u64 u65 u66 u67 u68 u69 u70 u71 u72 u73 u74 u75 u76 u77 u78 u79 u80 u81 u82 u83 u84 u85 u86 u87 u88 u89 u90 u91 u92 u93 v44 : Value, (v44 = .bool false ∧ Below w5.heap.size w5 wx) ∧ ac = ({ tmps := #[u0, u1, .pointer (some ⟨w.heap.size, 0, none⟩), .pointer (some ⟨w.heap.size + 1, 0, none⟩), .bool false, .slice A1 (encB r).length c1, .int .i64 E1, u7, u8, .int .i64 (sizeR r).1, .int .i64 (sizeR r).2, u11, u12, u13, u14, u15, u16, u17, u18, u19, u20, u21, u22, u23, u24, u25, u26, u27, u28, u29, u30, u31, u32, u33, u34, u35, u36, u37, u38, u39, u40, u41, u42, u43, v44, u45, u46, u47, u48, u49, u50, u51, u52, u53, u54, u55, u56, u57, u58, u59, u60, u61, u62, u63, u64, u65, u66, u67, u68, u69, u70, u71, u72, u73, u74, u75, u76, u77, u78, u79, u80, u81, u82, u83, u84, u85, u86, u87, u88, u89, u90, u91, u92, u93], defers := [] } : Act)) ?rest ?first
  case' rest => (intro ac wx hcut; obtain ⟨u0, hcut⟩ := hcut; obtain ⟨u1, hcut⟩ := hcut; obtain ⟨u7, hcut⟩ := hcut; obtain ⟨u8, hcut⟩ := hcut; obtain ⟨u11, hcut⟩ := hcut; obtain ⟨u12, hcut⟩ := hcut; obtain ⟨u13, hcut⟩ := hcut; obtain ⟨u14, hcut⟩ := hcut; obtain ⟨u15, hcut⟩ := hcut; obtain ⟨u16, hcut⟩ := hcut; obtain ⟨u17, hcut⟩ := hcut; obtain ⟨u18, hcut⟩ := hcut; obtain ⟨u19, hcut⟩ := hcut; obtain ⟨u20, hcut⟩ := hcut; obtain ⟨u21, hcut⟩ := hcut; obtain ⟨u22, hcut⟩ := hcut; obtain ⟨u23, hcut⟩ := hcut; obtain ⟨u24, hcut⟩ := hcut; obtain ⟨u25, hcut⟩ := hcut; obtain ⟨u26, hcut⟩ := hcut; obtain ⟨u27, hcut⟩ := hcut; obtain ⟨u28, hcut⟩ := hcut; obtain ⟨u29, hcut⟩ := hcut; obtain ⟨u30, hcut⟩ := hcut; obtain ⟨u31, hcut⟩ := hcut; obtain ⟨u32, hcut⟩ := hcut; obtain ⟨u33, hcut⟩ := hcut; obtain ⟨u34, hcut⟩ := hcut; obtain ⟨u35, hcut⟩ := hcut; obtain ⟨u36, hcut⟩ := hcut; obtain ⟨u37, hcut⟩ := hcut; obtain ⟨u38, hcut⟩ := hcut; obtain ⟨u39, hcut⟩ := hcut; obtain ⟨u40, hcut⟩ := hcut; obtain ⟨u41, hcut⟩ := hcut; obtain ⟨u42, hcut⟩ := hcut; obtain ⟨u43, hcut⟩ := hcut; obtain ⟨u45, hcut⟩ := hcut; obtain ⟨u46, hcut⟩ := hcut; obtain ⟨u47, hcut⟩ := hcut; obtain ⟨u48, hcut⟩ := hcut; obtain ⟨u49, hcut⟩ := hcut; obtain ⟨u50, hcut⟩ := hcut; obtain ⟨u51, hcut⟩ := hcut; obtain ⟨u52, hcut⟩ := hcut; obtain ⟨u53, hcut⟩ := hcut; obtain ⟨u54, hcut⟩ := hcut; obtain ⟨u55, hcut⟩ := hcut; obtain ⟨u56, hcut⟩ := hcut; obtain ⟨u57, hcut⟩ := hcut; obtain ⟨u58, hcut⟩ := hcut; obtain ⟨u59, hcut⟩ := hcut; obtain ⟨u60, hcut⟩ := hcut; obtain ⟨u61, hcut⟩ := hcut; obtain ⟨u62, hcut⟩ := hcut; obtain ⟨u63, hcut⟩ := hcut; obtain ⟨u64, hcut⟩ := hcut; obtain ⟨u65, hcut⟩ := hcut; obtain ⟨u66, hcut⟩ := hcut; obtain ⟨u67, hcut⟩ := hcut; obtain ⟨u68, hcut⟩ := hcut; obtain ⟨u69, hcut⟩ := hcut; obtain ⟨u70, hcut⟩ := hcut; obtain ⟨u71, hcut⟩ := hcut; obtain ⟨u72, hcut⟩ := hcut; obtain ⟨u73, hcut⟩ := hcut; obtain ⟨u74, hcut⟩ := hcut; obtain ⟨u75, hcut⟩ := hcut; obtain ⟨u76, hcut⟩ := hcut; obtain ⟨u77, hcut⟩ := hcut; obtain ⟨u78, hcut⟩ := hcut; obtain ⟨u79, hcut⟩ := hcut; obtain ⟨u80, hcut⟩ := hcut; obtain ⟨u81, hcut⟩ := hcut; obtain ⟨u82, hcut⟩ := hcut; obtain ⟨u83, hcut⟩ := hcut; obtain ⟨u84, hcut⟩ := hcut; obtain ⟨u85, hcut⟩ := hcut; obtain ⟨u86, hcut⟩ := hcut; obtain ⟨u87, hcut⟩ := hcut; obtain ⟨u88, hcut⟩ := hcut; obtain ⟨u89, hcut⟩ := hcut; obtain ⟨u90, hcut⟩ := hcut; obtain ⟨u91, hcut⟩ := hcut; obtain ⟨u92, hcut⟩ := hcut; obtain ⟨u93, hcut⟩ := hcut; obtain ⟨v44, hcut⟩ := hcut; obtain ⟨hcut, hac⟩ := hcut; subst hac)
  case' first => intro _ _ _ _
  case first =>
    have e0 : w5.cell? ⟨w.heap.size, 0, none⟩ = some (.int .i64 r.kind) := cell_blk HX.out 0 rfl
    have e1 : w5.cell? ⟨w.heap.size, 1, none⟩ = some (.int .i64 r.shard) := cell_blk HX.out 1 rfl
    have e2 : w5.cell? ⟨w.heap.size, 2, none⟩ = some (.int .i64 r.epoch) := cell_blk HX.out 2 rfl
    have e3 : w5.cell? ⟨w.heap.size, 3, none⟩ = some (.int .i64 r.peer) := cell_blk HX.out 3 rfl
    have e4 : w5.cell? ⟨w.heap.size, 4, none⟩ = some (.int .i64 r.client) := cell_blk HX.out 4 rfl
    have e5 : w5.cell? ⟨w.heap.size, 5, none⟩ = some (.int .i64 r.seq) := cell_blk HX.out 5 rfl
    have e6 : w5.cell? ⟨w.heap.size, 6, none⟩ = some (.int .i64 r.op.kind) := cell_blk HX.out 6 rfl
    have e7 : w5.cell? ⟨w.heap.size, 7, none⟩ = some (.slice K.1 K.2.1 K.2.2) := cell_blk HX.out 7 rfl
    have e8 : w5.cell? ⟨w.heap.size, 8, none⟩ = some (.slice V.1 V.2.1 V.2.2) := cell_blk HX.out 8 rfl
    have e9 : w5.cell? ⟨w.heap.size, 9, none⟩ = some (.int .i64 r.op.rev) := cell_blk HX.out 9 rfl
    have e10 : w5.cell? ⟨w.heap.size, 10, none⟩ = some (.slice C.1 C.2.1 C.2.2) := cell_blk HX.out 10 rfl
    have d0 : w5.cell? ⟨w.heap.size + 1, 0, none⟩ = some (.int .i64 q.kind) := cell_blk HY.out 0 rfl
    have d1 : w5.cell? ⟨w.heap.size + 1, 1, none⟩ = some (.int .i64 q.shard) := cell_blk HY.out 1 rfl
    have d2 : w5.cell? ⟨w.heap.size + 1, 2, none⟩ = some (.int .i64 q.epoch) := cell_blk HY.out 2 rfl
    have d3 : w5.cell? ⟨w.heap.size + 1, 3, none⟩ = some (.int .i64 q.peer) := cell_blk HY.out 3 rfl
    have d4 : w5.cell? ⟨w.heap.size + 1, 4, none⟩ = some (.int .i64 q.client) := cell_blk HY.out 4 rfl
    have d5 : w5.cell? ⟨w.heap.size + 1, 5, none⟩ = some (.int .i64 q.seq) := cell_blk HY.out 5 rfl
    have d6 : w5.cell? ⟨w.heap.size + 1, 6, none⟩ = some (.int .i64 q.op.kind) := cell_blk HY.out 6 rfl
    have d7 : w5.cell? ⟨w.heap.size + 1, 7, none⟩ = some (.slice K'.1 K'.2.1 K'.2.2) := cell_blk HY.out 7 rfl
    have d8 : w5.cell? ⟨w.heap.size + 1, 8, none⟩ = some (.slice V'.1 V'.2.1 V'.2.2) := cell_blk HY.out 8 rfl
    have d9 : w5.cell? ⟨w.heap.size + 1, 9, none⟩ = some (.int .i64 q.op.rev) := cell_blk HY.out 9 rfl
    have d10 : w5.cell? ⟨w.heap.size + 1, 10, none⟩ = some (.slice C'.1 C'.2.1 C'.2.2) := cell_blk HY.out 10 rfl
    by_cases s1 : SoundR r
    · by_cases s2 : SoundR q
      · obtain rfl : E1 = 0 := by rw [← HE1.out]; exact if_pos s1
        obtain rfl : E2 = 0 := by rw [← HE2.out]; exact if_pos s2
        have SM := Lib.hid (fun (u : World) (hu : Below w5.heap.size w5 u) => same_any (c := c1) (c' := c2) (HS1.out.below hu) (HS2.out.below hu) (by have := HL1.out; omega) (by have := HL2.out; omega))
        have SR := Lib.hid (fun (u : World) (hu : Below w5.heap.size w5 u) => sameRec_any (RI.out.lie.below hu) (QI.out.lie.below hu))
        have hbb : decide (encB r = encB q) = sameRB r q := by
          rw [Bool.eq_iff_iff, decide_eq_true_eq, sameRB_iff]
          unfold encB
          rw [if_pos s1, if_pos s2]
          exact ⟨fun h => form_inj s1 s2 h, fun h => by rw [h]⟩
        rw [hbb] at SM
        unfold recV recCells at SR
        generalize sameRB r q = bb at *
        clear hbb s1 s2
        generalize (encB r).length = n1 at *
        generalize (encB q).length = n2 at *
        refine start_ (n := 15) (S := fun w' => w'.cell? ⟨w.heap.size, 0, none⟩ = some (.int .i64 r.kind) ∧ w'.cell? ⟨w.heap.size, 1, none⟩ = some (.int .i64 r.shard) ∧ w'.cell? ⟨w.heap.size, 2, none⟩ = some (.int .i64 r.epoch) ∧ w'.cell? ⟨w.heap.size, 3, none⟩ = some (.int .i64 r.peer) ∧ w'.cell? ⟨w.heap.size, 4, none⟩ = some (.int .i64 r.client) ∧ w'.cell? ⟨w.heap.size, 5, none⟩ = some (.int .i64 r.seq) ∧ w'.cell? ⟨w.heap.size, 6, none⟩ = some (.int .i64 r.op.kind) ∧ w'.cell? ⟨w.heap.size, 7, none⟩ = some (.slice K.1 K.2.1 K.2.2) ∧ w'.cell? ⟨w.heap.size, 8, none⟩ = some (.slice V.1 V.2.1 V.2.2) ∧ w'.cell? ⟨w.heap.size, 9, none⟩ = some (.int .i64 r.op.rev) ∧ w'.cell? ⟨w.heap.size, 10, none⟩ = some (.slice C.1 C.2.1 C.2.2) ∧ w'.cell? ⟨w.heap.size + 1, 0, none⟩ = some (.int .i64 q.kind) ∧ w'.cell? ⟨w.heap.size + 1, 1, none⟩ = some (.int .i64 q.shard) ∧ w'.cell? ⟨w.heap.size + 1, 2, none⟩ = some (.int .i64 q.epoch) ∧ w'.cell? ⟨w.heap.size + 1, 3, none⟩ = some (.int .i64 q.peer) ∧ w'.cell? ⟨w.heap.size + 1, 4, none⟩ = some (.int .i64 q.client) ∧ w'.cell? ⟨w.heap.size + 1, 5, none⟩ = some (.int .i64 q.seq) ∧ w'.cell? ⟨w.heap.size + 1, 6, none⟩ = some (.int .i64 q.op.kind) ∧ w'.cell? ⟨w.heap.size + 1, 7, none⟩ = some (.slice K'.1 K'.2.1 K'.2.2) ∧ w'.cell? ⟨w.heap.size + 1, 8, none⟩ = some (.slice V'.1 V'.2.1 V'.2.2) ∧ w'.cell? ⟨w.heap.size + 1, 9, none⟩ = some (.int .i64 q.op.rev) ∧ w'.cell? ⟨w.heap.size + 1, 10, none⟩ = some (.slice C'.1 C'.2.1 C'.2.2)) (ds := []) #[false, false, false, false, false, false, false, false, false, false, false, false, false, false, false] (by kernel_rfl) rfl rfl ⟨e0, e1, e2, e3, e4, e5, e6, e7, e8, e9, e10, d0, d1, d2, d3, d4, d5, d6, d7, d8, d9, d10⟩ (fun hHeld => ?_)
        (refine take_ (i := 0) (N := some 30) (v := ?v_2) (a' := ?a_2) #[true, false, false, false, false, false, false, false, false, false, false, false, false, false, false] rfl rfl (by kernel_rfl) (fun _ _ _ h => h) (Or.inl ⟨by rfl, ?hy_2⟩) hHeld ?ha_2 ?hh_2; (case hy_2 => (rintro w' ⟨s0_, s1_, s2_, s3_, s4_, s5_, s6_, s7_, s8_, s9_, s10_, s11_, s12_, s13_, s14_, s15_, s16_, s17_, s18_, s19_, s20_, s21_⟩; go_simp; with_reducible rfl)); (case ha_2 => (simp (disch := omega) only [Act.put, List.setIfInBounds_toArray, List.set_cons_zero, List.set_cons_succ, wrap_in]; rfl)))
        (refine take_ (i := 1) (N := some 31) (v := ?v_3) (a' := ?a_3) #[true, true, false, false, false, false, false, false, false, false, false, false, false, false, false] rfl rfl (by kernel_rfl) (fun _ _ _ h => h) (Or.inl ⟨by rfl, ?hy_3⟩) hHeld ?ha_3 ?hh_3; (case hy_3 => (rintro w' ⟨s0_, s1_, s2_, s3_, s4_, s5_, s6_, s7_, s8_, s9_, s10_, s11_, s12_, s13_, s14_, s15_, s16_, s17_, s18_, s19_, s20_, s21_⟩; go_simp; with_reducible rfl)); (case ha_3 => (simp (disch := omega) only [Act.put, List.setIfInBounds_toArray, List.set_cons_zero, List.set_cons_succ, wrap_in]; rfl)))
        (refine take_ (i := 2) (N := some 32) (v := ?v_4) (a' := ?a_4) #[true, true, true, false, false, false, false, false, false, false, false, false, false, false, false] rfl rfl (by kernel_rfl) (fun _ _ _ h => h) (Or.inl ⟨by rfl, ?hy_4⟩) hHeld ?ha_4 ?hh_4; (case hy_4 => (rintro w' ⟨s0_, s1_, s2_, s3_, s4_, s5_, s6_, s7_, s8_, s9_, s10_, s11_, s12_, s13_, s14_, s15_, s16_, s17_, s18_, s19_, s20_, s21_⟩; go_simp; with_reducible rfl)); (case ha_4 => (simp (disch := omega) only [Act.put, List.setIfInBounds_toArray, List.set_cons_zero, List.set_cons_succ, wrap_in]; rfl)))
        first | (refine take_ (i := 3) (N := some 33) (v := undef) (a' := ?a_5) #[true, true, true, true, false, false, false, false, false, false, false, false, false, false, false] rfl rfl (by kernel_rfl) (fun _ _ _ h => h) (Or.inr ⟨by rfl, rfl⟩) hHeld ?ha_5 ?hh_5; (case ha_5 => (simp (disch := omega) only [Act.put, List.setIfInBounds_toArray, List.set_cons_zero, List.set_cons_succ, wrap_in]; rfl))) | (refine take_ (i := 3) (N := some 33) (v := ?v_5) (a' := ?a_5) #[true, true, true, true, false, false, false, false, false, false, false, false, false, false, false] rfl rfl (by kernel_rfl) (fun _ _ _ h => h) (Or.inl ⟨by rfl, ?hy_5⟩) hHeld ?ha_5 ?hh_5; (case hy_5 => (rintro w' ⟨s0_, s1_, s2_, s3_, s4_, s5_, s6_, s7_, s8_, s9_, s10_, s11_, s12_, s13_, s14_, s15_, s16_, s17_, s18_, s19_, s20_, s21_⟩; go_simp; with_reducible rfl)); (case ha_5 => (simp (disch := omega) only [Act.put, List.setIfInBounds_toArray, List.set_cons_zero, List.set_cons_succ, wrap_in]; rfl)))
        first | (refine take_ (i := 4) (N := some 34) (v := undef) (a' := ?a_6) #[true, true, true, true, true, false, false, false, false, false, false, false, false, false, false] rfl rfl (by kernel_rfl) (fun _ _ _ h => h) (Or.inr ⟨by rfl, rfl⟩) hHeld ?ha_6 ?hh_6; (case ha_6 => (simp (disch := omega) only [Act.put, List.setIfInBounds_toArray, List.set_cons_zero, List.set_cons_succ, wrap_in]; rfl))) | (refine take_ (i := 4) (N := some 34) (v := ?v_6) (a' := ?a_6) #[true, true, true, true, true, false, false, false, false, false, false, false, false, false, false] rfl rfl (by kernel_rfl) (fun _ _ _ h => h) (Or.inl ⟨by rfl, ?hy_6⟩) hHeld ?ha_6 ?hh_6; (case hy_6 => (rintro w' ⟨s0_, s1_, s2_, s3_, s4_, s5_, s6_, s7_, s8_, s9_, s10_, s11_, s12_, s13_, s14_, s15_, s16_, s17_, s18_, s19_, s20_, s21_⟩; go_simp; with_reducible rfl)); (case ha_6 => (simp (disch := omega) only [Act.put, List.setIfInBounds_toArray, List.set_cons_zero, List.set_cons_succ, wrap_in]; rfl)))
        (refine take_ (i := 5) (N := some 35) (v := ?v_7) (a' := ?a_7) #[true, true, true, true, true, true, false, false, false, false, false, false, false, false, false] rfl rfl (by kernel_rfl) (fun _ _ _ h => h) (Or.inl ⟨by rfl, ?hy_7⟩) hHeld ?ha_7 ?hh_7; (case hy_7 => (rintro w' ⟨s0_, s1_, s2_, s3_, s4_, s5_, s6_, s7_, s8_, s9_, s10_, s11_, s12_, s13_, s14_, s15_, s16_, s17_, s18_, s19_, s20_, s21_⟩; go_simp; with_reducible rfl)); (case ha_7 => (simp (disch := omega) only [Act.put, List.setIfInBounds_toArray, List.set_cons_zero, List.set_cons_succ, wrap_in]; rfl)))
        (refine take_ (i := 6) (N := some 36) (v := ?v_8) (a' := ?a_8) #[true, true, true, true, true, true, true, false, false, false, false, false, false, false, false] rfl rfl (by kernel_rfl) (fun _ _ _ h => h) (Or.inl ⟨by rfl, ?hy_8⟩) hHeld ?ha_8 ?hh_8; (case hy_8 => (rintro w' ⟨s0_, s1_, s2_, s3_, s4_, s5_, s6_, s7_, s8_, s9_, s10_, s11_, s12_, s13_, s14_, s15_, s16_, s17_, s18_, s19_, s20_, s21_⟩; go_simp; with_reducible rfl)); (case ha_8 => (simp (disch := omega) only [Act.put, List.setIfInBounds_toArray, List.set_cons_zero, List.set_cons_succ, wrap_in]; rfl)))
        first | (refine take_ (i := 7) (N := some 37) (v := undef) (a' := ?a_9) #[true, true, true, true, true, true, true, true, false, false, false, false, false, false, false] rfl rfl (by kernel_rfl) (fun _ _ _ h => h) (Or.inr ⟨by rfl, rfl⟩) hHeld ?ha_9 ?hh_9; (case ha_9 => (simp (disch := omega) only [Act.put, List.setIfInBounds_toArray, List.set_cons_zero, List.set_cons_succ, wrap_in]; rfl))) | (refine take_ (i := 7) (N := some 37) (v := ?v_9) (a' := ?a_9) #[true, true, true, true, true, true, true, true, false, false, false, false, false, false, false] rfl rfl (by kernel_rfl) (fun _ _ _ h => h) (Or.inl ⟨by rfl, ?hy_9⟩) hHeld ?ha_9 ?hh_9; (case hy_9 => (rintro w' ⟨s0_, s1_, s2_, s3_, s4_, s5_, s6_, s7_, s8_, s9_, s10_, s11_, s12_, s13_, s14_, s15_, s16_, s17_, s18_, s19_, s20_, s21_⟩; go_simp; with_reducible rfl)); (case ha_9 => (simp (disch := omega) only [Act.put, List.setIfInBounds_toArray, List.set_cons_zero, List.set_cons_succ, wrap_in]; rfl)))
        first | (refine take_ (i := 8) (N := some 38) (v := undef) (a' := ?a_10) #[true, true, true, true, true, true, true, true, true, false, false, false, false, false, false] rfl rfl (by kernel_rfl) (fun _ _ _ h => h) (Or.inr ⟨by rfl, rfl⟩) hHeld ?ha_10 ?hh_10; (case ha_10 => (simp (disch := omega) only [Act.put, List.setIfInBounds_toArray, List.set_cons_zero, List.set_cons_succ, wrap_in]; rfl))) | (refine take_ (i := 8) (N := some 38) (v := ?v_10) (a' := ?a_10) #[true, true, true, true, true, true, true, true, true, false, false, false, false, false, false] rfl rfl (by kernel_rfl) (fun _ _ _ h => h) (Or.inl ⟨by rfl, ?hy_10⟩) hHeld ?ha_10 ?hh_10; (case hy_10 => (rintro w' ⟨s0_, s1_, s2_, s3_, s4_, s5_, s6_, s7_, s8_, s9_, s10_, s11_, s12_, s13_, s14_, s15_, s16_, s17_, s18_, s19_, s20_, s21_⟩; go_simp; with_reducible rfl)); (case ha_10 => (simp (disch := omega) only [Act.put, List.setIfInBounds_toArray, List.set_cons_zero, List.set_cons_succ, wrap_in]; rfl)))
        first | (refine take_ (i := 10) (N := some 40) (v := undef) (a' := ?a_11) #[true, true, true, true, true, true, true, true, true, false, true, false, false, false, false] rfl rfl (by kernel_rfl) (fun _ _ _ h => h) (Or.inr ⟨by rfl, rfl⟩) hHeld ?ha_11 ?hh_11; (case ha_11 => (simp (disch := omega) only [Act.put, List.setIfInBounds_toArray, List.set_cons_zero, List.set_cons_succ, wrap_in]; rfl))) | (refine take_ (i := 10) (N := some 40) (v := ?v_11) (a' := ?a_11) #[true, true, true, true, true, true, true, true, true, false, true, false, false, false, false] rfl rfl (by kernel_rfl) (fun _ _ _ h => h) (Or.inl ⟨by rfl, ?hy_11⟩) hHeld ?ha_11 ?hh_11; (case hy_11 => (rintro w' ⟨s0_, s1_, s2_, s3_, s4_, s5_, s6_, s7_, s8_, s9_, s10_, s11_, s12_, s13_, s14_, s15_, s16_, s17_, s18_, s19_, s20_, s21_⟩; go_simp; with_reducible rfl)); (case ha_11 => (simp (disch := omega) only [Act.put, List.setIfInBounds_toArray, List.set_cons_zero, List.set_cons_succ, wrap_in]; rfl)))
        first | (refine take_ (i := 11) (N := some 41) (v := undef) (a' := ?a_12) #[true, true, true, true, true, true, true, true, true, false, true, true, false, false, false] rfl rfl (by kernel_rfl) (fun _ _ _ h => h) (Or.inr ⟨by rfl, rfl⟩) hHeld ?ha_12 ?hh_12; (case ha_12 => (simp (disch := omega) only [Act.put, List.setIfInBounds_toArray, List.set_cons_zero, List.set_cons_succ, wrap_in]; rfl))) | (refine take_ (i := 11) (N := some 41) (v := ?v_12) (a' := ?a_12) #[true, true, true, true, true, true, true, true, true, false, true, true, false, false, false] rfl rfl (by kernel_rfl) (fun _ _ _ h => h) (Or.inl ⟨by rfl, ?hy_12⟩) hHeld ?ha_12 ?hh_12; (case hy_12 => (rintro w' ⟨s0_, s1_, s2_, s3_, s4_, s5_, s6_, s7_, s8_, s9_, s10_, s11_, s12_, s13_, s14_, s15_, s16_, s17_, s18_, s19_, s20_, s21_⟩; go_simp; with_reducible rfl)); (case ha_12 => (simp (disch := omega) only [Act.put, List.setIfInBounds_toArray, List.set_cons_zero, List.set_cons_succ, wrap_in]; rfl)))
        refine one_ (i := 9) (N := some 39) #[true, true, true, true, true, true, true, true, true, true, true, true, false, false, false] rfl rfl (by kernel_rfl) (by decide) (fun K hK => ?_)
        (refine goes_ Try.func23 (by kernel_rfl) rfl ?args_14 (by rfl) rfl rfl ?hargs_14 ?hc_14; (case hargs_14 => (go_simp; with_reducible rfl)))
        (refine (SM.out _ (by first | exact Below.refl _ _ | exact (Below.refl _ _).drew)).mono ?_; rintro e w6 ⟨rfl, hb6⟩; refine ⟨_, rfl, ?_⟩)
        (refine hK.out _ _ ?hs_16 ?hn_16; (case hs_16 => (obtain ⟨s0_, s1_, s2_, s3_, s4_, s5_, s6_, s7_, s8_, s9_, s10_, s11_, s12_, s13_, s14_, s15_, s16_, s17_, s18_, s19_, s20_, s21_⟩ := hHeld; exact ⟨cell_below hb6 s0_, cell_below hb6 s1_, cell_below hb6 s2_, cell_below hb6 s3_, cell_below hb6 s4_, cell_below hb6 s5_, cell_below hb6 s6_, cell_below hb6 s7_, cell_below hb6 s8_, cell_below hb6 s9_, cell_below hb6 s10_, cell_below hb6 s11_, cell_below hb6 s12_, cell_below hb6 s13_, cell_below hb6 s14_, cell_below hb6 s15_, cell_below hb6 s16_, cell_below hb6 s17_, cell_below hb6 s18_, cell_below hb6 s19_, cell_below hb6 s20_, cell_below hb6 s21_⟩)); intro hHeld; clear hK K)
        (refine norm_ (a' := ?a_17) ?ha_17 ?hh_17; (case ha_17 => (simp (disch := omega) only [Act.put, List.setIfInBounds_toArray, List.set_cons_zero, List.set_cons_succ, wrap_in]; rfl)))
        refine one_ (i := 12) (N := some 42) #[true, true, true, true, true, true, true, true, true, true, true, true, true, false, false] rfl rfl (by kernel_rfl) (by decide) (fun K hK => ?_)
        (refine goes_ Try.func15 (by kernel_rfl) rfl ?args_19 (by rfl) rfl rfl ?hargs_19 ?hc_19; (case hargs_19 => (go_simp; with_reducible rfl)))
        (refine (SR.out _ (by first | exact hb6 | exact (Below.refl w5.heap.size w5).drew.trans hb6)).mono ?_; rintro e w7 ⟨rfl, hb7⟩; refine ⟨_, rfl, ?_⟩)
        (refine hK.out _ _ ?hs_21 ?hn_21; (case hs_21 => (obtain ⟨s0_, s1_, s2_, s3_, s4_, s5_, s6_, s7_, s8_, s9_, s10_, s11_, s12_, s13_, s14_, s15_, s16_, s17_, s18_, s19_, s20_, s21_⟩ := hHeld; exact ⟨cell_below hb7 s0_, cell_below hb7 s1_, cell_below hb7 s2_, cell_below hb7 s3_, cell_below hb7 s4_, cell_below hb7 s5_, cell_below hb7 s6_, cell_below hb7 s7_, cell_below hb7 s8_, cell_below hb7 s9_, cell_below hb7 s10_, cell_below hb7 s11_, cell_below hb7 s12_, cell_below hb7 s13_, cell_below hb7 s14_, cell_below hb7 s15_, cell_below hb7 s16_, cell_below hb7 s17_, cell_below hb7 s18_, cell_below hb7 s19_, cell_below hb7 s20_, cell_below hb7 s21_⟩)); intro hHeld; clear hK K)
        (refine norm_ (a' := ?a_22) ?ha_22 ?hh_22; (case ha_22 => (simp (disch := omega) only [Act.put, List.setIfInBounds_toArray, List.set_cons_zero, List.set_cons_succ, wrap_in]; rfl)))
        first | (refine take_ (i := 13) (N := some 43) (v := undef) (a' := ?a_23) #[true, true, true, true, true, true, true, true, true, true, true, true, true, true, false] rfl rfl (by kernel_rfl) (fun _ _ _ h => h) (Or.inr ⟨by rfl, rfl⟩) hHeld ?ha_23 ?hh_23; (case ha_23 => (simp (disch := omega) only [Act.put, List.setIfInBounds_toArray, List.set_cons_zero, List.set_cons_succ, wrap_in]; rfl))) | (refine take_ (i := 13) (N := some 43) (v := ?v_23) (a' := ?a_23) #[true, true, true, true, true, true, true, true, true, true, true, true, true, true, false] rfl rfl (by kernel_rfl) (fun _ _ _ h => h) (Or.inl ⟨by rfl, ?hy_23⟩) hHeld ?ha_23 ?hh_23; (case hy_23 => (rintro w' ⟨s0_, s1_, s2_, s3_, s4_, s5_, s6_, s7_, s8_, s9_, s10_, s11_, s12_, s13_, s14_, s15_, s16_, s17_, s18_, s19_, s20_, s21_⟩; go_simp; with_reducible rfl)); (case ha_23 => (simp (disch := omega) only [Act.put, List.setIfInBounds_toArray, List.set_cons_zero, List.set_cons_succ, wrap_in]; rfl)))
        (refine take_ (i := 14) (N := some 44) (v := ?v_24) (a' := ?a_24) #[true, true, true, true, true, true, true, true, true, true, true, true, true, true, true] rfl rfl (by kernel_rfl) (fun _ _ _ h => h) (Or.inl ⟨by rfl, ?hy_24⟩) hHeld ?ha_24 ?hh_24; (case hy_24 => (rintro w' ⟨s0_, s1_, s2_, s3_, s4_, s5_, s6_, s7_, s8_, s9_, s10_, s11_, s12_, s13_, s14_, s15_, s16_, s17_, s18_, s19_, s20_, s21_⟩; go_simp; with_reducible rfl)); (case ha_24 => (simp (disch := omega) only [Act.put, List.setIfInBounds_toArray, List.set_cons_zero, List.set_cons_succ, wrap_in]; rfl)))
        refine done_ (by kernel_rfl) ?_
        go_wp2_with (fail)
        all_goals go_meet
        exact ⟨by simp, ((Below.refl w5.heap.size w5).drew.trans hb6).trans (hb7.mono (by have := hb6.size; exact this))⟩
      · obtain rfl : E1 = 0 := by rw [← HE1.out]; exact if_pos s1
        obtain rfl : E2 = 160 := by rw [← HE2.out]; exact if_neg s2
        clear s1 s2
        refine start_ (n := 15) (S := fun w' => True) (ds := []) #[false, false, false, false, false, false, false, false, false, false, false, false, false, false, false] (by kernel_rfl) rfl rfl trivial (fun hHeld => ?_)
        (refine take_ (i := 0) (N := some 30) (v := ?v_27) (a' := ?a_27) #[true, false, false, false, false, false, false, false, false, false, false, false, false, false, false] rfl rfl (by kernel_rfl) (fun _ _ _ h => h) (Or.inl ⟨by rfl, ?hy_27⟩) hHeld ?ha_27 ?hh_27; (case hy_27 => (rintro w' s0_; go_simp; with_reducible rfl)); (case ha_27 => (simp (disch := omega) only [Act.put, List.setIfInBounds_toArray, List.set_cons_zero, List.set_cons_succ, wrap_in]; rfl)))
        (refine take_ (i := 1) (N := some 31) (v := ?v_28) (a' := ?a_28) #[true, true, false, false, false, false, false, false, false, false, false, false, false, false, false] rfl rfl (by kernel_rfl) (fun _ _ _ h => h) (Or.inl ⟨by rfl, ?hy_28⟩) hHeld ?ha_28 ?hh_28; (case hy_28 => (rintro w' s0_; go_simp; with_reducible rfl)); (case ha_28 => (simp (disch := omega) only [Act.put, List.setIfInBounds_toArray, List.set_cons_zero, List.set_cons_succ, wrap_in]; rfl)))
        (refine take_ (i := 2) (N := some 32) (v := ?v_29) (a' := ?a_29) #[true, true, true, false, false, false, false, false, false, false, false, false, false, false, false] rfl rfl (by kernel_rfl) (fun _ _ _ h => h) (Or.inl ⟨by rfl, ?hy_29⟩) hHeld ?ha_29 ?hh_29; (case hy_29 => (rintro w' s0_; go_simp; with_reducible rfl)); (case ha_29 => (simp (disch := omega) only [Act.put, List.setIfInBounds_toArray, List.set_cons_zero, List.set_cons_succ, wrap_in]; rfl)))
        first | (refine take_ (i := 3) (N := some 33) (v := undef) (a' := ?a_30) #[true, true, true, true, false, false, false, false, false, false, false, false, false, false, false] rfl rfl (by kernel_rfl) (fun _ _ _ h => h) (Or.inr ⟨by rfl, rfl⟩) hHeld ?ha_30 ?hh_30; (case ha_30 => (simp (disch := omega) only [Act.put, List.setIfInBounds_toArray, List.set_cons_zero, List.set_cons_succ, wrap_in]; rfl))) | (refine take_ (i := 3) (N := some 33) (v := ?v_30) (a' := ?a_30) #[true, true, true, true, false, false, false, false, false, false, false, false, false, false, false] rfl rfl (by kernel_rfl) (fun _ _ _ h => h) (Or.inl ⟨by rfl, ?hy_30⟩) hHeld ?ha_30 ?hh_30; (case hy_30 => (rintro w' s0_; go_simp; with_reducible rfl)); (case ha_30 => (simp (disch := omega) only [Act.put, List.setIfInBounds_toArray, List.set_cons_zero, List.set_cons_succ, wrap_in]; rfl)))
        first | (refine take_ (i := 4) (N := some 34) (v := undef) (a' := ?a_31) #[true, true, true, true, true, false, false, false, false, false, false, false, false, false, false] rfl rfl (by kernel_rfl) (fun _ _ _ h => h) (Or.inr ⟨by rfl, rfl⟩) hHeld ?ha_31 ?hh_31; (case ha_31 => (simp (disch := omega) only [Act.put, List.setIfInBounds_toArray, List.set_cons_zero, List.set_cons_succ, wrap_in]; rfl))) | (refine take_ (i := 4) (N := some 34) (v := ?v_31) (a' := ?a_31) #[true, true, true, true, true, false, false, false, false, false, false, false, false, false, false] rfl rfl (by kernel_rfl) (fun _ _ _ h => h) (Or.inl ⟨by rfl, ?hy_31⟩) hHeld ?ha_31 ?hh_31; (case hy_31 => (rintro w' s0_; go_simp; with_reducible rfl)); (case ha_31 => (simp (disch := omega) only [Act.put, List.setIfInBounds_toArray, List.set_cons_zero, List.set_cons_succ, wrap_in]; rfl)))
        (refine take_ (i := 5) (N := some 35) (v := ?v_32) (a' := ?a_32) #[true, true, true, true, true, true, false, false, false, false, false, false, false, false, false] rfl rfl (by kernel_rfl) (fun _ _ _ h => h) (Or.inl ⟨by rfl, ?hy_32⟩) hHeld ?ha_32 ?hh_32; (case hy_32 => (rintro w' s0_; go_simp; with_reducible rfl)); (case ha_32 => (simp (disch := omega) only [Act.put, List.setIfInBounds_toArray, List.set_cons_zero, List.set_cons_succ, wrap_in]; rfl)))
        (refine take_ (i := 6) (N := some 36) (v := ?v_33) (a' := ?a_33) #[true, true, true, true, true, true, true, false, false, false, false, false, false, false, false] rfl rfl (by kernel_rfl) (fun _ _ _ h => h) (Or.inl ⟨by rfl, ?hy_33⟩) hHeld ?ha_33 ?hh_33; (case hy_33 => (rintro w' s0_; go_simp; with_reducible rfl)); (case ha_33 => (simp (disch := omega) only [Act.put, List.setIfInBounds_toArray, List.set_cons_zero, List.set_cons_succ, wrap_in]; rfl)))
        first | (refine take_ (i := 7) (N := some 37) (v := undef) (a' := ?a_34) #[true, true, true, true, true, true, true, true, false, false, false, false, false, false, false] rfl rfl (by kernel_rfl) (fun _ _ _ h => h) (Or.inr ⟨by rfl, rfl⟩) hHeld ?ha_34 ?hh_34; (case ha_34 => (simp (disch := omega) only [Act.put, List.setIfInBounds_toArray, List.set_cons_zero, List.set_cons_succ, wrap_in]; rfl))) | (refine take_ (i := 7) (N := some 37) (v := ?v_34) (a' := ?a_34) #[true, true, true, true, true, true, true, true, false, false, false, false, false, false, false] rfl rfl (by kernel_rfl) (fun _ _ _ h => h) (Or.inl ⟨by rfl, ?hy_34⟩) hHeld ?ha_34 ?hh_34; (case hy_34 => (rintro w' s0_; go_simp; with_reducible rfl)); (case ha_34 => (simp (disch := omega) only [Act.put, List.setIfInBounds_toArray, List.set_cons_zero, List.set_cons_succ, wrap_in]; rfl)))
        first | (refine take_ (i := 8) (N := some 38) (v := undef) (a' := ?a_35) #[true, true, true, true, true, true, true, true, true, false, false, false, false, false, false] rfl rfl (by kernel_rfl) (fun _ _ _ h => h) (Or.inr ⟨by rfl, rfl⟩) hHeld ?ha_35 ?hh_35; (case ha_35 => (simp (disch := omega) only [Act.put, List.setIfInBounds_toArray, List.set_cons_zero, List.set_cons_succ, wrap_in]; rfl))) | (refine take_ (i := 8) (N := some 38) (v := ?v_35) (a' := ?a_35) #[true, true, true, true, true, true, true, true, true, false, false, false, false, false, false] rfl rfl (by kernel_rfl) (fun _ _ _ h => h) (Or.inl ⟨by rfl, ?hy_35⟩) hHeld ?ha_35 ?hh_35; (case hy_35 => (rintro w' s0_; go_simp; with_reducible rfl)); (case ha_35 => (simp (disch := omega) only [Act.put, List.setIfInBounds_toArray, List.set_cons_zero, List.set_cons_succ, wrap_in]; rfl)))
        first | (refine take_ (i := 10) (N := some 40) (v := undef) (a' := ?a_36) #[true, true, true, true, true, true, true, true, true, false, true, false, false, false, false] rfl rfl (by kernel_rfl) (fun _ _ _ h => h) (Or.inr ⟨by rfl, rfl⟩) hHeld ?ha_36 ?hh_36; (case ha_36 => (simp (disch := omega) only [Act.put, List.setIfInBounds_toArray, List.set_cons_zero, List.set_cons_succ, wrap_in]; rfl))) | (refine take_ (i := 10) (N := some 40) (v := ?v_36) (a' := ?a_36) #[true, true, true, true, true, true, true, true, true, false, true, false, false, false, false] rfl rfl (by kernel_rfl) (fun _ _ _ h => h) (Or.inl ⟨by rfl, ?hy_36⟩) hHeld ?ha_36 ?hh_36; (case hy_36 => (rintro w' s0_; go_simp; with_reducible rfl)); (case ha_36 => (simp (disch := omega) only [Act.put, List.setIfInBounds_toArray, List.set_cons_zero, List.set_cons_succ, wrap_in]; rfl)))
        first | (refine take_ (i := 11) (N := some 41) (v := undef) (a' := ?a_37) #[true, true, true, true, true, true, true, true, true, false, true, true, false, false, false] rfl rfl (by kernel_rfl) (fun _ _ _ h => h) (Or.inr ⟨by rfl, rfl⟩) hHeld ?ha_37 ?hh_37; (case ha_37 => (simp (disch := omega) only [Act.put, List.setIfInBounds_toArray, List.set_cons_zero, List.set_cons_succ, wrap_in]; rfl))) | (refine take_ (i := 11) (N := some 41) (v := ?v_37) (a' := ?a_37) #[true, true, true, true, true, true, true, true, true, false, true, true, false, false, false] rfl rfl (by kernel_rfl) (fun _ _ _ h => h) (Or.inl ⟨by rfl, ?hy_37⟩) hHeld ?ha_37 ?hh_37; (case hy_37 => (rintro w' s0_; go_simp; with_reducible rfl)); (case ha_37 => (simp (disch := omega) only [Act.put, List.setIfInBounds_toArray, List.set_cons_zero, List.set_cons_succ, wrap_in]; rfl)))
        (refine take_ (i := 9) (N := some 39) (v := undef) (a' := ?a_38) #[true, true, true, true, true, true, true, true, true, true, true, true, false, false, false] rfl rfl (by kernel_rfl) (fun _ _ _ h => h) (Or.inr ⟨by rfl, rfl⟩) hHeld ?ha_38 ?hh_38; (case ha_38 => (simp (disch := omega) only [Act.put, List.setIfInBounds_toArray, List.set_cons_zero, List.set_cons_succ, wrap_in]; rfl)))
        (refine take_ (i := 12) (N := some 42) (v := undef) (a' := ?a_39) #[true, true, true, true, true, true, true, true, true, true, true, true, true, false, false] rfl rfl (by kernel_rfl) (fun _ _ _ h => h) (Or.inr ⟨by rfl, rfl⟩) hHeld ?ha_39 ?hh_39; (case ha_39 => (simp (disch := omega) only [Act.put, List.setIfInBounds_toArray, List.set_cons_zero, List.set_cons_succ, wrap_in]; rfl)))
        first | (refine take_ (i := 13) (N := some 43) (v := undef) (a' := ?a_40) #[true, true, true, true, true, true, true, true, true, true, true, true, true, true, false] rfl rfl (by kernel_rfl) (fun _ _ _ h => h) (Or.inr ⟨by rfl, rfl⟩) hHeld ?ha_40 ?hh_40; (case ha_40 => (simp (disch := omega) only [Act.put, List.setIfInBounds_toArray, List.set_cons_zero, List.set_cons_succ, wrap_in]; rfl))) | (refine take_ (i := 13) (N := some 43) (v := ?v_40) (a' := ?a_40) #[true, true, true, true, true, true, true, true, true, true, true, true, true, true, false] rfl rfl (by kernel_rfl) (fun _ _ _ h => h) (Or.inl ⟨by rfl, ?hy_40⟩) hHeld ?ha_40 ?hh_40; (case hy_40 => (rintro w' s0_; go_simp; with_reducible rfl)); (case ha_40 => (simp (disch := omega) only [Act.put, List.setIfInBounds_toArray, List.set_cons_zero, List.set_cons_succ, wrap_in]; rfl)))
        (refine take_ (i := 14) (N := some 44) (v := ?v_41) (a' := ?a_41) #[true, true, true, true, true, true, true, true, true, true, true, true, true, true, true] rfl rfl (by kernel_rfl) (fun _ _ _ h => h) (Or.inl ⟨by rfl, ?hy_41⟩) hHeld ?ha_41 ?hh_41; (case hy_41 => (rintro w' s0_; go_simp; with_reducible rfl)); (case ha_41 => (simp (disch := omega) only [Act.put, List.setIfInBounds_toArray, List.set_cons_zero, List.set_cons_succ, wrap_in]; rfl)))
        refine done_ (by kernel_rfl) ?_
        go_wp2_with (fail)
        all_goals go_meet
        exact ⟨by simp, (Below.refl w5.heap.size w5).drew⟩
    · obtain rfl : E1 = 160 := by rw [← HE1.out]; exact if_neg s1
      clear s1
      refine start_ (n := 15) (S := fun w' => True) (ds := []) #[false, false, false, false, false, false, false, false, false, false, false, false, false, false, false] (by kernel_rfl) rfl rfl trivial (fun hHeld => ?_)
      (refine take_ (i := 0) (N := some 30) (v := ?v_44) (a' := ?a_44) #[true, false, false, false, false, false, false, false, false, false, false, false, false, false, false] rfl rfl (by kernel_rfl) (fun _ _ _ h => h) (Or.inl ⟨by rfl, ?hy_44⟩) hHeld ?ha_44 ?hh_44; (case hy_44 => (rintro w' s0_; go_simp; with_reducible rfl)); (case ha_44 => (simp (disch := omega) only [Act.put, List.setIfInBounds_toArray, List.set_cons_zero, List.set_cons_succ, wrap_in]; rfl)))
      (refine take_ (i := 1) (N := some 31) (v := ?v_45) (a' := ?a_45) #[true, true, false, false, false, false, false, false, false, false, false, false, false, false, false] rfl rfl (by kernel_rfl) (fun _ _ _ h => h) (Or.inl ⟨by rfl, ?hy_45⟩) hHeld ?ha_45 ?hh_45; (case hy_45 => (rintro w' s0_; go_simp; with_reducible rfl)); (case ha_45 => (simp (disch := omega) only [Act.put, List.setIfInBounds_toArray, List.set_cons_zero, List.set_cons_succ, wrap_in]; rfl)))
      (refine take_ (i := 2) (N := some 32) (v := ?v_46) (a' := ?a_46) #[true, true, true, false, false, false, false, false, false, false, false, false, false, false, false] rfl rfl (by kernel_rfl) (fun _ _ _ h => h) (Or.inl ⟨by rfl, ?hy_46⟩) hHeld ?ha_46 ?hh_46; (case hy_46 => (rintro w' s0_; go_simp; with_reducible rfl)); (case ha_46 => (simp (disch := omega) only [Act.put, List.setIfInBounds_toArray, List.set_cons_zero, List.set_cons_succ, wrap_in]; rfl)))
      first | (refine take_ (i := 3) (N := some 33) (v := undef) (a' := ?a_47) #[true, true, true, true, false, false, false, false, false, false, false, false, false, false, false] rfl rfl (by kernel_rfl) (fun _ _ _ h => h) (Or.inr ⟨by rfl, rfl⟩) hHeld ?ha_47 ?hh_47; (case ha_47 => (simp (disch := omega) only [Act.put, List.setIfInBounds_toArray, List.set_cons_zero, List.set_cons_succ, wrap_in]; rfl))) | (refine take_ (i := 3) (N := some 33) (v := ?v_47) (a' := ?a_47) #[true, true, true, true, false, false, false, false, false, false, false, false, false, false, false] rfl rfl (by kernel_rfl) (fun _ _ _ h => h) (Or.inl ⟨by rfl, ?hy_47⟩) hHeld ?ha_47 ?hh_47; (case hy_47 => (rintro w' s0_; go_simp; with_reducible rfl)); (case ha_47 => (simp (disch := omega) only [Act.put, List.setIfInBounds_toArray, List.set_cons_zero, List.set_cons_succ, wrap_in]; rfl)))
      first | (refine take_ (i := 4) (N := some 34) (v := undef) (a' := ?a_48) #[true, true, true, true, true, false, false, false, false, false, false, false, false, false, false] rfl rfl (by kernel_rfl) (fun _ _ _ h => h) (Or.inr ⟨by rfl, rfl⟩) hHeld ?ha_48 ?hh_48; (case ha_48 => (simp (disch := omega) only [Act.put, List.setIfInBounds_toArray, List.set_cons_zero, List.set_cons_succ, wrap_in]; rfl))) | (refine take_ (i := 4) (N := some 34) (v := ?v_48) (a' := ?a_48) #[true, true, true, true, true, false, false, false, false, false, false, false, false, false, false] rfl rfl (by kernel_rfl) (fun _ _ _ h => h) (Or.inl ⟨by rfl, ?hy_48⟩) hHeld ?ha_48 ?hh_48; (case hy_48 => (rintro w' s0_; go_simp; with_reducible rfl)); (case ha_48 => (simp (disch := omega) only [Act.put, List.setIfInBounds_toArray, List.set_cons_zero, List.set_cons_succ, wrap_in]; rfl)))
      (refine take_ (i := 5) (N := some 35) (v := ?v_49) (a' := ?a_49) #[true, true, true, true, true, true, false, false, false, false, false, false, false, false, false] rfl rfl (by kernel_rfl) (fun _ _ _ h => h) (Or.inl ⟨by rfl, ?hy_49⟩) hHeld ?ha_49 ?hh_49; (case hy_49 => (rintro w' s0_; go_simp; with_reducible rfl)); (case ha_49 => (simp (disch := omega) only [Act.put, List.setIfInBounds_toArray, List.set_cons_zero, List.set_cons_succ, wrap_in]; rfl)))
      (refine take_ (i := 6) (N := some 36) (v := ?v_50) (a' := ?a_50) #[true, true, true, true, true, true, true, false, false, false, false, false, false, false, false] rfl rfl (by kernel_rfl) (fun _ _ _ h => h) (Or.inl ⟨by rfl, ?hy_50⟩) hHeld ?ha_50 ?hh_50; (case hy_50 => (rintro w' s0_; go_simp; with_reducible rfl)); (case ha_50 => (simp (disch := omega) only [Act.put, List.setIfInBounds_toArray, List.set_cons_zero, List.set_cons_succ, wrap_in]; rfl)))
      first | (refine take_ (i := 7) (N := some 37) (v := undef) (a' := ?a_51) #[true, true, true, true, true, true, true, true, false, false, false, false, false, false, false] rfl rfl (by kernel_rfl) (fun _ _ _ h => h) (Or.inr ⟨by rfl, rfl⟩) hHeld ?ha_51 ?hh_51; (case ha_51 => (simp (disch := omega) only [Act.put, List.setIfInBounds_toArray, List.set_cons_zero, List.set_cons_succ, wrap_in]; rfl))) | (refine take_ (i := 7) (N := some 37) (v := ?v_51) (a' := ?a_51) #[true, true, true, true, true, true, true, true, false, false, false, false, false, false, false] rfl rfl (by kernel_rfl) (fun _ _ _ h => h) (Or.inl ⟨by rfl, ?hy_51⟩) hHeld ?ha_51 ?hh_51; (case hy_51 => (rintro w' s0_; go_simp; with_reducible rfl)); (case ha_51 => (simp (disch := omega) only [Act.put, List.setIfInBounds_toArray, List.set_cons_zero, List.set_cons_succ, wrap_in]; rfl)))
      first | (refine take_ (i := 8) (N := some 38) (v := undef) (a' := ?a_52) #[true, true, true, true, true, true, true, true, true, false, false, false, false, false, false] rfl rfl (by kernel_rfl) (fun _ _ _ h => h) (Or.inr ⟨by rfl, rfl⟩) hHeld ?ha_52 ?hh_52; (case ha_52 => (simp (disch := omega) only [Act.put, List.setIfInBounds_toArray, List.set_cons_zero, List.set_cons_succ, wrap_in]; rfl))) | (refine take_ (i := 8) (N := some 38) (v := ?v_52) (a' := ?a_52) #[true, true, true, true, true, true, true, true, true, false, false, false, false, false, false] rfl rfl (by kernel_rfl) (fun _ _ _ h => h) (Or.inl ⟨by rfl, ?hy_52⟩) hHeld ?ha_52 ?hh_52; (case hy_52 => (rintro w' s0_; go_simp; with_reducible rfl)); (case ha_52 => (simp (disch := omega) only [Act.put, List.setIfInBounds_toArray, List.set_cons_zero, List.set_cons_succ, wrap_in]; rfl)))
      first | (refine take_ (i := 10) (N := some 40) (v := undef) (a' := ?a_53) #[true, true, true, true, true, true, true, true, true, false, true, false, false, false, false] rfl rfl (by kernel_rfl) (fun _ _ _ h => h) (Or.inr ⟨by rfl, rfl⟩) hHeld ?ha_53 ?hh_53; (case ha_53 => (simp (disch := omega) only [Act.put, List.setIfInBounds_toArray, List.set_cons_zero, List.set_cons_succ, wrap_in]; rfl))) | (refine take_ (i := 10) (N := some 40) (v := ?v_53) (a' := ?a_53) #[true, true, true, true, true, true, true, true, true, false, true, false, false, false, false] rfl rfl (by kernel_rfl) (fun _ _ _ h => h) (Or.inl ⟨by rfl, ?hy_53⟩) hHeld ?ha_53 ?hh_53; (case hy_53 => (rintro w' s0_; go_simp; with_reducible rfl)); (case ha_53 => (simp (disch := omega) only [Act.put, List.setIfInBounds_toArray, List.set_cons_zero, List.set_cons_succ, wrap_in]; rfl)))
      first | (refine take_ (i := 11) (N := some 41) (v := undef) (a' := ?a_54) #[true, true, true, true, true, true, true, true, true, false, true, true, false, false, false] rfl rfl (by kernel_rfl) (fun _ _ _ h => h) (Or.inr ⟨by rfl, rfl⟩) hHeld ?ha_54 ?hh_54; (case ha_54 => (simp (disch := omega) only [Act.put, List.setIfInBounds_toArray, List.set_cons_zero, List.set_cons_succ, wrap_in]; rfl))) | (refine take_ (i := 11) (N := some 41) (v := ?v_54) (a' := ?a_54) #[true, true, true, true, true, true, true, true, true, false, true, true, false, false, false] rfl rfl (by kernel_rfl) (fun _ _ _ h => h) (Or.inl ⟨by rfl, ?hy_54⟩) hHeld ?ha_54 ?hh_54; (case hy_54 => (rintro w' s0_; go_simp; with_reducible rfl)); (case ha_54 => (simp (disch := omega) only [Act.put, List.setIfInBounds_toArray, List.set_cons_zero, List.set_cons_succ, wrap_in]; rfl)))
      (refine take_ (i := 9) (N := some 39) (v := undef) (a' := ?a_55) #[true, true, true, true, true, true, true, true, true, true, true, true, false, false, false] rfl rfl (by kernel_rfl) (fun _ _ _ h => h) (Or.inr ⟨by rfl, rfl⟩) hHeld ?ha_55 ?hh_55; (case ha_55 => (simp (disch := omega) only [Act.put, List.setIfInBounds_toArray, List.set_cons_zero, List.set_cons_succ, wrap_in]; rfl)))
      (refine take_ (i := 12) (N := some 42) (v := undef) (a' := ?a_56) #[true, true, true, true, true, true, true, true, true, true, true, true, true, false, false] rfl rfl (by kernel_rfl) (fun _ _ _ h => h) (Or.inr ⟨by rfl, rfl⟩) hHeld ?ha_56 ?hh_56; (case ha_56 => (simp (disch := omega) only [Act.put, List.setIfInBounds_toArray, List.set_cons_zero, List.set_cons_succ, wrap_in]; rfl)))
      first | (refine take_ (i := 13) (N := some 43) (v := undef) (a' := ?a_57) #[true, true, true, true, true, true, true, true, true, true, true, true, true, true, false] rfl rfl (by kernel_rfl) (fun _ _ _ h => h) (Or.inr ⟨by rfl, rfl⟩) hHeld ?ha_57 ?hh_57; (case ha_57 => (simp (disch := omega) only [Act.put, List.setIfInBounds_toArray, List.set_cons_zero, List.set_cons_succ, wrap_in]; rfl))) | (refine take_ (i := 13) (N := some 43) (v := ?v_57) (a' := ?a_57) #[true, true, true, true, true, true, true, true, true, true, true, true, true, true, false] rfl rfl (by kernel_rfl) (fun _ _ _ h => h) (Or.inl ⟨by rfl, ?hy_57⟩) hHeld ?ha_57 ?hh_57; (case hy_57 => (rintro w' s0_; go_simp; with_reducible rfl)); (case ha_57 => (simp (disch := omega) only [Act.put, List.setIfInBounds_toArray, List.set_cons_zero, List.set_cons_succ, wrap_in]; rfl)))
      (refine take_ (i := 14) (N := some 44) (v := ?v_58) (a' := ?a_58) #[true, true, true, true, true, true, true, true, true, true, true, true, true, true, true] rfl rfl (by kernel_rfl) (fun _ _ _ h => h) (Or.inl ⟨by rfl, ?hy_58⟩) hHeld ?ha_58 ?hh_58; (case hy_58 => (rintro w' s0_; go_simp; with_reducible rfl)); (case ha_58 => (simp (disch := omega) only [Act.put, List.setIfInBounds_toArray, List.set_cons_zero, List.set_cons_succ, wrap_in]; rfl)))
      refine done_ (by kernel_rfl) ?_
      go_wp2_with (fail)
      all_goals go_meet
      exact ⟨by simp, (Below.refl w5.heap.size w5).drew⟩
  case rest =>
    obtain ⟨rfl, hbx⟩ := hcut
    have HBX := Lib.hid (HB5.out.trans (hbx.mono HB5.out.size))
    have HX := Lib.hid (blk_below HX.out hbx)
    have RI := Lib.hid (RI.out.below hbx)
    have HS1 := Lib.hid (HS1.out.below hbx)
    clear hbx
    have e0 : wx.cell? ⟨w.heap.size, 0, none⟩ = some (.int .i64 r.kind) := cell_blk HX.out 0 rfl
    have e1 : wx.cell? ⟨w.heap.size, 1, none⟩ = some (.int .i64 r.shard) := cell_blk HX.out 1 rfl
    have e2 : wx.cell? ⟨w.heap.size, 2, none⟩ = some (.int .i64 r.epoch) := cell_blk HX.out 2 rfl
    have e3 : wx.cell? ⟨w.heap.size, 3, none⟩ = some (.int .i64 r.peer) := cell_blk HX.out 3 rfl
    have e4 : wx.cell? ⟨w.heap.size, 4, none⟩ = some (.int .i64 r.client) := cell_blk HX.out 4 rfl
    have e5 : wx.cell? ⟨w.heap.size, 5, none⟩ = some (.int .i64 r.seq) := cell_blk HX.out 5 rfl
    have e6 : wx.cell? ⟨w.heap.size, 6, none⟩ = some (.int .i64 r.op.kind) := cell_blk HX.out 6 rfl
    have e7 : wx.cell? ⟨w.heap.size, 7, none⟩ = some (.slice K.1 K.2.1 K.2.2) := cell_blk HX.out 7 rfl
    have e8 : wx.cell? ⟨w.heap.size, 8, none⟩ = some (.slice V.1 V.2.1 V.2.2) := cell_blk HX.out 8 rfl
    have e9 : wx.cell? ⟨w.heap.size, 9, none⟩ = some (.int .i64 r.op.rev) := cell_blk HX.out 9 rfl
    have e10 : wx.cell? ⟨w.heap.size, 10, none⟩ = some (.slice C.1 C.2.1 C.2.2) := cell_blk HX.out 10 rfl
    by_cases s1 : SoundR r
    · obtain rfl : E1 = 0 := by rw [← HE1.out]; exact if_pos s1
      have hB : encB r = formR r := if_pos s1
      have hD : decodeR (formR r) = (r, 0) := decode_form s1
      have HS1' := Lib.hid (show BSrc wx A1 (formR r) from by rw [← hB]; exact HS1.out)
      have ln := s1.lens
      have fl := formR_room s1
      have DC := Lib.hid (decode_any (formR_byt s1 RI.out.byt) (by omega) (c0 := c1) HS1'.out)
      have SD := Lib.hid (fun u : World => sound_any RI.out.wf K V C RI.out.key.1 RI.out.val.1 RI.out.copy.1 u)
      rw [soundB_eq, decide_eq_true s1] at SD
      unfold recV recCells at SD
      rw [show sizeR r = (((formR r).length : Int), 0) from if_pos s1, hB]
      simp only
      have HDD := Lib.hid hD
      have lns := Lib.hid (show r.op.key.length ≤ 140737488355328 ∧ r.op.val.length ≤ 140737488355328 ∧ r.copy.length ≤ 140737488355328 from by omega)
      clear s1 hB hD ln fl
      go_wp2_with (fail)
      refine DC.out.mono ?_
      rintro e w6 ⟨hb6, K2, V2, C2, rfl, CH⟩
      rw [HDD.out] at CH ⊢
      have LI := Lib.hid (CH.lie lns.out)
      have HB6 := Lib.hid (HBX.out.trans (hb6.mono HBX.out.size))
      have HX6 := Lib.hid (blk_below HX.out hb6)
      have RI6 := Lib.hid (RI.out.below hb6)
      clear hb6 CH DC e0 e1 e2 e3 e4 e5 e6 e7 e8 e9 e10
      unfold recV recCells
      have nR := blk_new w6 (.cells (recCells r K2 V2 C2) TRec (0, 0))
      have bR : Below w6.heap.size w6 (w6.alloc (.cells (recCells r K2 V2 C2) TRec (0, 0))) := (Below.refl _ _).alloc (Nat.le_refl _) _
      generalize hw7 : w6.alloc (.cells (recCells r K2 V2 C2) TRec (0, 0)) = w7 at *
      have LI7 := Lib.hid (LI.out.below bR)
      have RI7 := Lib.hid (RI6.out.below bR)
      have HB7 := Lib.hid (HB6.out.trans (bR.mono HB6.out.size))
      have HX7 := Lib.hid (blk_below HX6.out bR)
      have HN := Lib.hid nR
      have SR := Lib.hid (sameRec_any RI7.out.lie LI7.out)
      rw [show sameRB r r = true from (sameRB_iff _ _).2 rfl] at SR
      unfold recV recCells at SR
      unfold recCells at hw7
      have HW7 := Lib.hid hw7
      clear nR bR hw7
      go_upto_region 11 with (fail)
      rw [HW7.out]
      have e0 : w7.cell? ⟨w.heap.size, 0, none⟩ = some (.int .i64 r.kind) := cell_blk HX7.out 0 rfl
      have e1 : w7.cell? ⟨w.heap.size, 1, none⟩ = some (.int .i64 r.shard) := cell_blk HX7.out 1 rfl
      have e2 : w7.cell? ⟨w.heap.size, 2, none⟩ = some (.int .i64 r.epoch) := cell_blk HX7.out 2 rfl
      have e3 : w7.cell? ⟨w.heap.size, 3, none⟩ = some (.int .i64 r.peer) := cell_blk HX7.out 3 rfl
      have e4 : w7.cell? ⟨w.heap.size, 4, none⟩ = some (.int .i64 r.client) := cell_blk HX7.out 4 rfl
      have e5 : w7.cell? ⟨w.heap.size, 5, none⟩ = some (.int .i64 r.seq) := cell_blk HX7.out 5 rfl
      have e6 : w7.cell? ⟨w.heap.size, 6, none⟩ = some (.int .i64 r.op.kind) := cell_blk HX7.out 6 rfl
      have e7 : w7.cell? ⟨w.heap.size, 7, none⟩ = some (.slice K.1 K.2.1 K.2.2) := cell_blk HX7.out 7 rfl
      have e8 : w7.cell? ⟨w.heap.size, 8, none⟩ = some (.slice V.1 V.2.1 V.2.2) := cell_blk HX7.out 8 rfl
      have e9 : w7.cell? ⟨w.heap.size, 9, none⟩ = some (.int .i64 r.op.rev) := cell_blk HX7.out 9 rfl
      have e10 : w7.cell? ⟨w.heap.size, 10, none⟩ = some (.slice C.1 C.2.1 C.2.2) := cell_blk HX7.out 10 rfl
      have d0 : w7.cell? ⟨w6.heap.size, 0, none⟩ = some (.int .i64 r.kind) := cell_blk HN.out 0 rfl
      have d1 : w7.cell? ⟨w6.heap.size, 1, none⟩ = some (.int .i64 r.shard) := cell_blk HN.out 1 rfl
      have d2 : w7.cell? ⟨w6.heap.size, 2, none⟩ = some (.int .i64 r.epoch) := cell_blk HN.out 2 rfl
      have d3 : w7.cell? ⟨w6.heap.size, 3, none⟩ = some (.int .i64 r.peer) := cell_blk HN.out 3 rfl
      have d4 : w7.cell? ⟨w6.heap.size, 4, none⟩ = some (.int .i64 r.client) := cell_blk HN.out 4 rfl
      have d5 : w7.cell? ⟨w6.heap.size, 5, none⟩ = some (.int .i64 r.seq) := cell_blk HN.out 5 rfl
      have d6 : w7.cell? ⟨w6.heap.size, 6, none⟩ = some (.int .i64 r.op.kind) := cell_blk HN.out 6 rfl
      have d7 : w7.cell? ⟨w6.heap.size, 7, none⟩ = some (.slice K2.1 K2.2.1 K2.2.2) := cell_blk HN.out 7 rfl
      have d8 : w7.cell? ⟨w6.heap.size, 8, none⟩ = some (.slice V2.1 V2.2.1 V2.2.2) := cell_blk HN.out 8 rfl
      have d9 : w7.cell? ⟨w6.heap.size, 9, none⟩ = some (.int .i64 r.op.rev) := cell_blk HN.out 9 rfl
      have d10 : w7.cell? ⟨w6.heap.size, 10, none⟩ = some (.slice C2.1 C2.2.1 C2.2.2) := cell_blk HN.out 10 rfl
      go_wp2_with (fail)
      refine SR.out.mono ?_
      rintro e w8 ⟨rfl, hb8⟩
      have HB8 := Lib.hid (HB7.out.trans (hb8.mono HB7.out.size))
      have HX8 := Lib.hid (blk_below HX7.out hb8)
      clear hb8 e0 e1 e2 e3 e4 e5 e6 e7 e8 e9 e10 d0 d1 d2 d3 d4 d5 d6 d7 d8 d9 d10
      have e0 : w8.cell? ⟨w.heap.size, 0, none⟩ = some (.int .i64 r.kind) := cell_blk HX8.out 0 rfl
      have e1 : w8.cell? ⟨w.heap.size, 1, none⟩ = some (.int .i64 r.shard) := cell_blk HX8.out 1 rfl
      have e2 : w8.cell? ⟨w.heap.size, 2, none⟩ = some (.int .i64 r.epoch) := cell_blk HX8.out 2 rfl
      have e3 : w8.cell? ⟨w.heap.size, 3, none⟩ = some (.int .i64 r.peer) := cell_blk HX8.out 3 rfl
      have e4 : w8.cell? ⟨w.heap.size, 4, none⟩ = some (.int .i64 r.client) := cell_blk HX8.out 4 rfl
      have e5 : w8.cell? ⟨w.heap.size, 5, none⟩ = some (.int .i64 r.seq) := cell_blk HX8.out 5 rfl
      have e6 : w8.cell? ⟨w.heap.size, 6, none⟩ = some (.int .i64 r.op.kind) := cell_blk HX8.out 6 rfl
      have e7 : w8.cell? ⟨w.heap.size, 7, none⟩ = some (.slice K.1 K.2.1 K.2.2) := cell_blk HX8.out 7 rfl
      have e8 : w8.cell? ⟨w.heap.size, 8, none⟩ = some (.slice V.1 V.2.1 V.2.2) := cell_blk HX8.out 8 rfl
      have e9 : w8.cell? ⟨w.heap.size, 9, none⟩ = some (.int .i64 r.op.rev) := cell_blk HX8.out 9 rfl
      have e10 : w8.cell? ⟨w.heap.size, 10, none⟩ = some (.slice C.1 C.2.1 C.2.2) := cell_blk HX8.out 10 rfl
      go_wp2_with (fail)
      refine (SD.out w8).mono ?_
      rintro e w9 ⟨rfl, hb9⟩
      go_wp2_with (fail)
      go_ret
      exact ⟨rfl, HB8.out.trans (hb9.mono HB8.out.size)⟩
    · obtain rfl : E1 = 160 := by rw [← HE1.out]; exact if_neg s1
      have SD := Lib.hid (sound_any RI.out.wf K V C RI.out.key.1 RI.out.val.1 RI.out.copy.1 wx)
      rw [soundB_eq, decide_eq_false s1] at SD
      unfold recV recCells at SD
      rw [show sizeR r = (0, 160) from if_neg s1, show encB r = [] from if_neg s1]
      simp only [List.length_nil]
      clear s1
      go_wp2_with (fail)
      refine SD.out.mono ?_
      rintro e w6 ⟨rfl, hb6⟩
      go_wp2_with (fail)
      go_ret
      exact ⟨rfl, HBX.out.trans (hb6.mono HBX.out.size)⟩
theorem RecordBack_walk (w : World) (cs : Array Value) (x : _) (hx : RdRec.rd w x cs.toList) (cs' : Array Value) (x' : _) (hx' : RdRec.rd w x' cs'.toList) :
    Calls Try.prog 8 #[.agg cs, .agg cs'] w fun e w' => e = .returned (.bool true) ∧ Below w.heap.size w w' := by
  obtain ⟨r, K, V, C, hv, h⟩ := rec_of hx
  obtain ⟨q, K', V', C', hv', h'⟩ := rec_of hx'
  rw [hv, hv']
  exact back_1 h h'
namespace recordBack
open Go.ChangeShapes Go.WideShapes Go.ChangeAt Go.RowKit
open Go.ChangeMaps (open_string shut_string)
theorem own : ownKnob Try.prog.godebug = none := by kernel_rfl
theorem laidOut : laidOutB Try.prog = true := by kernel_rfl
set_option maxRecDepth 100000 in
theorem lifted (os : Os) (started : os.Started) (H : Type) (enc : TypeId × Value → H) :
    ReturnsInHanded {} Try.checked os 8 .any (Rows.recordBackSpec.pre6 enc Try.prog Try.f8 Rows.recordBackRow.domain false) (Rows.recordBackSpec.post enc Try.prog Try.f8 false true false false) := by
  refine returnsInHanded_of_change_sized (C := Try.checked) own started (by kernel_rfl) Try.func8
    (ChangeSpec.witness6 (enc := enc) (C := Try.checked) false ⟨#[], #[.agg #[.int .i64 0, .int .i64 0, .int .i64 0, .int .i64 0, .int .i64 0, .int .i64 0, .int .i64 0, .slice none 0 0, .slice none 0 0, .int .i64 0, .slice none 0 0], .agg #[.int .i64 0, .int .i64 0, .int .i64 0, .int .i64 0, .int .i64 0, .int .i64 0, .int .i64 0, .slice none 0 0, .slice none 0 0, .int .i64 0, .slice none 0 0]], []⟩ 8 (by kernel_rfl) (by kernel_rfl) (by kernel_rfl) (by kernel_rfl)) ?_
  intro W base args ds gs before hval0 hW hcnd hsz0 _
  have hsz : (DataW.weightsEach Try.prog (Try.f8.params.toList ++ Rows.recordBackSpec.plain.varTypes Try.prog) (ds ++ gs)).all (· ≤ reachBytes) = true := hsz0
  have hval : ∀ (j : Nat) t v, Try.f8.params[j]? = some t → args[j]? = some v → Value.okWide Try.prog W .any base t v := hval0
  have hW' := hW
  obtain ⟨p, q, hA0, hV, rfl, hfz, hnd⟩ := hW
  have hA : DataW.TrodAll enc Try.prog W 0 (fun _ => true) true Try.f8.params.toList args.toList ds p := hA0
  rw [Try.params8] at hA hval hsz
  obtain ⟨v0, vs0, d0, ds0, p0, q0, hargs, rfl, rfl, h0, r0⟩ := trodAll_cons hA
  obtain ⟨v1, vs1, d1, ds1, p1, q1, rfl, rfl, rfl, h1, r1⟩ := trodAll_cons r0
  obtain ⟨rfl, rfl, rfl⟩ := trodAll_nil r1
  obtain rfl : args = #[v0, v1] := by cases args; simp_all
  obtain ⟨rfl, rfl⟩ := trodVars_none hV
  obtain ⟨a0, rfl, z0⟩ := okWide_struct Try.underlying26 (hval 0 26 v0 rfl rfl)
  have k0 := h0
  have lt0 : ∀ x ∈ p0, x.block < W.heap.size := by obtain ⟨m, hm⟩ := k0; exact DataW.trod_lt m _ _ _ hm
  obtain ⟨xs0, hx0⟩ := opened_struct (opens_rec W) h0 (weights_at hsz (j := 0) (t := 26) rfl rfl)
  obtain ⟨a1, rfl, z1⟩ := okWide_struct Try.underlying26 (hval 1 26 v1 rfl rfl)
  have k1 := h1
  have lt1 : ∀ x ∈ p1, x.block < W.heap.size := by obtain ⟨m, hm⟩ := k1; exact DataW.trod_lt m _ _ _ hm
  obtain ⟨xs1, hx1⟩ := opened_struct (opens_rec W) h1 (weights_at hsz (j := 1) (t := 26) rfl rfl)
  clear hA0 hval0 hsz0 hsz
  refine (RecordBack_walk W a0 xs0 hx0 a1 xs1 hx1).mono fun e W' ⟨he, bel⟩ => ?_
  subst he
  exact ⟨_, rfl, _, _, _, [], _, [], hW', trodAll_mk1 (shut_bool Try.underlying4 _), (trodAll_cons_mk (Below.trod laidOut (by kernel_rfl) (of_decide_eq_true (by kernel_rfl)) k0 bel lt0) (trodAll_cons_mk (Below.trod laidOut (by kernel_rfl) (of_decide_eq_true (by kernel_rfl)) k1 bel lt1) trodAll_mk0)), rfl, bel.frame _, fun h => by cases h⟩
theorem over : Rows.recordBackRow.holds Try.pinned (OpenSpec.ofChange Rows.recordBackSpec) :=
  OpenClaim.holds_of_wide 8 Try.f8 rfl rfl rfl rfl rfl rfl rfl ⟨rfl, rfl, rfl, rfl, rfl⟩ rfl rfl rfl rfl rfl (by kernel_rfl) Try.func8 (by kernel_rfl)
    (of_decide_eq_true (by kernel_rfl)) (by unfold Func.isWrapper; first | (rw [if_pos (by decide +kernel)]; kernel_rfl) | (rw [if_neg (by decide +kernel)]; exact ⟨rfl, rfl⟩))
    (fun os started H enc _ => lifted os started H enc)
theorem proved : Rows.RecordBackSaid := over
end recordBack
theorem recordBack_holds : Rows.RecordBackSaid := recordBack.proved
#print axioms recordBack_holds
end Go.Proofs.Ytjmmdpnphafdfaa
