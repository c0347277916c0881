/- record.Encode. -/
import Derived.Test.YtjmmdpnphafdfaaRW7
namespace Go.Proofs.Ytjmmdpnphafdfaa
set_option linter.unusedVariables false
set_option linter.unusedSimpArgs false
open Go.RowKit Go.Deep Go.Proofs.YtjmmdpnphafdfaaW.PrintLast

attribute [local go_sem] run_store_func
theorem SoundR.lens {r : RZ} (h : SoundR r) : r.copy.length ≤ 262144 ∧ r.op.key.length ≤ 65 ∧ r.op.val.length ≤ 256 := by
  obtain ⟨_, h⟩ := h
  rcases h with h | h | h | h
  · have := h.2.2.2.1.key; have := h.2.2.2.1.val; omega
  · have := h.2.2.2.2.2.1; unfold NoOp at this; omega
  · have := h.2.2.2.2.2.2; unfold NoOp at this; omega
  · have := h.2.2.2.2.2.1; unfold NoOp at this; omega
theorem SoundR.good {r : RZ} (h : SoundR r) {p : PK} (hp : p ∈ psOf r.kind) : goodP p r = true := by
  have h1 := soundB_eq r
  rw [decide_eq_true h] at h1
  unfold soundB at h1
  simp only [Bool.and_eq_true] at h1
  exact List.all_eq_true.1 h1.2.2.2.2 p hp
/-- What Encode hands back: the form, in memory of its own, or nothing. -/
def EncP (w : World) (r : RZ) (e : Ending) (w' : World) : Prop := Below w.heap.size w w' ∧
  ((SoundR r ∧ ∃ g, e = .returned (.tuple #[.slice (some ⟨g, 0, none⟩) (formR r).length (formR r).length, .int .i64 0]) ∧ w.heap.size ≤ g ∧ OwnB w' g (formR r).length (formR r)) ∨
   (¬ SoundR r ∧ e = .returned (.tuple #[.slice none 0 0, .int .i64 160])))
set_option maxRecDepth 100000 in
set_option maxHeartbeats 8000000 in
theorem encode_any {r : RZ} (h : r.Wf) (hb : r.Byt) {K V C : SlB} {w : World} (sK : SlAt w w.heap.size K r.op.key) (sV : SlAt w w.heap.size V r.op.val) (sC : SlAt w w.heap.size C r.copy) :
    Calls Try.prog 19 #[recV r K V C] w (EncP w r) := by
  have SA := Lib.hid (fun w1 : World => sound_any h K V C sK.1 sV.1 sC.1 w1)
  have PA := Lib.hid (fun w1 : World => parts_any r.kind w1)
  have HBY := Lib.hid hb
  have B1 : Below w.heap.size w (w.alloc (.cells (recCells r K V C) TRec (0, 0))) := (Below.refl _ _).alloc (Nat.le_refl _) _
  have B1s : (w.alloc (.cells (recCells r K V C) TRec (0, 0))).heap.size = w.heap.size + 1 := World.size_alloc _ _
  have RA := Lib.hid (show RecAt (w.alloc (.cells (recCells r K V C) TRec (0, 0))) (w.heap.size + 1) w.heap.size r K V C from
    ⟨by omega, blk_new w _, (sK.below B1).mono (by omega), (sV.below B1).mono (by omega), (sC.below B1).mono (by omega)⟩)
  have HL := Lib.hid (show K.2.1 = r.op.key.length ∧ V.2.1 = r.op.val.length ∧ C.2.1 = r.copy.length from ⟨sK.1, sV.1, sC.1⟩)
  obtain ⟨S, hS⟩ : ∃ S, soundB r = S := ⟨_, rfl⟩
  rw [hS] at SA
  rw [soundB_eq] at hS
  have HS := Lib.hid hS
  clear h hb sK sV sC hS
  unfold recV recCells at SA ⊢
  generalize hW1 : w.alloc (.cells (recCells r K V C) TRec (0, 0)) = w1 at *
  have HB1 := Lib.hid B1
  unfold recCells at hW1
  have HW1 := Lib.hid hW1
  clear hW1 B1
  go_enter Try.func19, Try.ntmps19
  go_wp2_with (fail)
  rw [HW1.out]
  refine (SA.out w1).mono ?_
  rintro e w2 ⟨rfl, hb2⟩
  have R2 := Lib.hid (RA.out.below hb2)
  have B2 := Lib.hid (HB1.out.trans (hb2.mono HB1.out.size))
  have s2 := hb2.size
  cases S
  · go_wp2_with (fail)
    refine bodyPost_ret (v := .tuple #[.slice none 0 0, .int .i64 160]) (by simp [results, Try.results19, go_sem, *]) rfl ?_
    exact ⟨B2.out, Or.inr ⟨of_decide_eq_false HS.out, rfl⟩⟩
  · have SR := of_decide_eq_true HS.out
    obtain ⟨l1, l2, l3⟩ := SR.lens
    have HSR := Lib.hid SR
    have e0 : w2.cell? ⟨w.heap.size, 0, none⟩ = some (.int .i64 r.kind) := cell_blk R2.out.2.1 0 rfl
    have e7 : w2.cell? ⟨w.heap.size, 7, none⟩ = some (.slice K.1 r.op.key.length K.2.2) := by rw [← HL.out.1]; exact cell_blk R2.out.2.1 7 rfl
    have e8 : w2.cell? ⟨w.heap.size, 8, none⟩ = some (.slice V.1 r.op.val.length V.2.2) := by rw [← HL.out.2.1]; exact cell_blk R2.out.2.1 8 rfl
    have e10 : w2.cell? ⟨w.heap.size, 10, none⟩ = some (.slice C.1 r.copy.length C.2.2) := by rw [← HL.out.2.2]; exact cell_blk R2.out.2.1 10 rfl
    obtain ⟨sh, hsh⟩ : ∃ n : Nat, r.shard = n := ⟨r.shard.toNat, by have := SR.1; omega⟩
    have sh64 : sh < 64 := by have := SR.1; omega
    have HSH := Lib.hid hsh
    have hN : w1.heap.size = w.heap.size + 1 := B1s
    clear SR hb2 hsh
    obtain ⟨room, hroom⟩ : ∃ x : Int, (r.copy.length : Int) + r.op.key.length + r.op.val.length + 30 = x := ⟨_, rfl⟩
    have HRM := Lib.hid hroom
    have rm0 : 0 ≤ room := by omega
    have rm1 : room ≤ 300000 := by omega
    go_wp2_with (fail)
    clear hroom e7 e8 e10
    refine (new_any room w2).mono ?_
    rintro e w3 ⟨rfl, hb3, L3⟩
    have R3 := Lib.hid (R2.out.below hb3)
    have B3 := Lib.hid (B2.out.trans (hb3.mono B2.out.size))
    have O3 : WS.Ok ⟨max room 0, [], [], 0⟩ := WS.Ok.new room (by omega)
    have s3 := hb3.size
    have e0 : w3.cell? ⟨w.heap.size, 0, none⟩ = some (.int .i64 r.kind) := cell_blk R3.out.2.1 0 rfl
    have BY := Lib.hid (wByte_any L3 O3 r.kind (by simp))
    generalize hk : w2.heap.size = k at *
    clear hb3 L3
    go_wp2_with (fail)
    refine BY.out.mono ?_
    rintro e w4 ⟨rfl, U4⟩
    have O4 := O3.byte_ r.kind
    have hF3 : ∀ b, (k ≤ b ∧ b < w3.heap.size) → w.heap.size + 1 ≤ b := fun b hb => by omega
    have R4 := Lib.hid (R3.out.fr U4.2 hF3)
    have e1 : w4.cell? ⟨w.heap.size, 1, none⟩ = some (.int .i64 sh) := by rw [← HSH.out]; exact cell_blk R4.out.2.1 1 rfl
    have NM := Lib.hid (wNum_any U4.1 O4 sh (by omega) (by have := WS.byte_len ⟨max room 0, [], [], 0⟩ r.kind; simp at this; omega))
    have HU4 := Lib.hid U4
    have HO4 := Lib.hid O4
    clear U4 BY O4
    go_wp2_with (fail)
    refine NM.out.mono ?_
    rintro e w5 ⟨rfl, U5⟩
    have U5' := HU4.out.trans U5
    have R5 := Lib.hid (R3.out.fr U5'.2 hF3)
    have e0 : w5.cell? ⟨w.heap.size, 0, none⟩ = some (.int .i64 r.kind) := cell_blk R5.out.2.1 0 rfl
    have O5 := HO4.out.num_ sh
    have HO5 := Lib.hid O5
    have HU5 := Lib.hid U5'
    clear U5 NM U5' O5 HO4 HU4
    go_wp2_with (fail)
    refine (PA.out w5).mono ?_
    rintro e w6 ⟨A, rfl, hb6, P6⟩
    have L6 := Lib.hid (HU5.out.1.below hb6)
    have R6 := Lib.hid (R5.out.below hb6)
    have s5 := HU5.out.2.size
    have s6 := hb6.size
    have B6 := Lib.hid (show Below w.heap.size w w6 from B3.out.trans ((HU5.out.2.toBelow (n := w.heap.size) (fun x hx => by omega) (by omega)).trans (hb6.mono (by omega))))
    have HP6 := Lib.hid P6
    have HSM := Lib.hid (fun p (hp : p ∈ psOf r.kind) => HSR.out.good hp)
    obtain ⟨s5_, hs5⟩ : ∃ s, ((WS.mk (max room 0) [] [] 0).byte r.kind).num sh = s := ⟨_, rfl⟩
    have RM5 : s5_.room = room := by rw [← hs5]; unfold WS.num; rw [WS.lay_room, WS.byte_room]; simp only; omega
    have HEN := Lib.hid (show encW r room = (psOf r.kind).foldl (fun s p => layP p r s) s5_ by rw [← hs5]; unfold encW; rw [HSH.out, Int.toNat_natCast])
    rw [hs5] at L6 HO5
    have psl := psOf_len r.kind
    generalize hps : psOf r.kind = ps at *
    clear hb6 P6 hps HU5 R5 R4 R3 hs5
    have HF6 := Lib.hid (show ∀ b, Gr (fun b => k ≤ b ∧ b < w3.heap.size) w3 w5 b → w.heap.size + 1 ≤ b ∧ (b < w5.heap.size ∨ w6.heap.size ≤ b) from fun b hb => by
      rcases hb with hb | hb <;> omega)
    go_wp2_with (fail)
    refine wp_loop_ghost_k (fun (m : Nat) (ac : Act) (wr : World) => ∃ u2 u3 u5 u6 u7 u8 u9 u10 u11 u12 u13 u14 u15 u16 u17 u18 u19 u20 u21 u22 u23 u24 u25 u26 u27 u28 u29 u30 u31 u32 u33 u34 u35 u36 u37 u38 u39 u40 u41 u45 u46 u47 u48 u49 u50 u51 u52 u53 u54 u55 u56 v0 v44 : Value, (∃ (i : Nat) (F : Nat → Prop) (s : WS), m + i = ps.length ∧ v44 = .int .i64 i ∧ s = (ps.take i).foldl (fun s p => layP p r s) s5_ ∧ WLies TW wr F k s ∧ s.Ok ∧ s.room = room ∧ (∀ b, F b → w.heap.size + 1 ≤ b ∧ (b < w5.heap.size ∨ w6.heap.size ≤ b)) ∧ RecAt wr (w.heap.size + 1) w.heap.size r K V C ∧ PartsAt wr w5.heap.size w6.heap.size A ps ∧ Below w.heap.size w wr ∧ w6.heap.size ≤ wr.heap.size) ∧ ac = ({ tmps := #[v0, .pointer (some ⟨w.heap.size, 0, none⟩), u2, u3, .pointer (some ⟨k, 0, none⟩), u5, u6, u7, u8, u9, u10, u11, u12, u13, u14, u15, u16, u17, u18, u19, u20, u21, u22, u23, u24, u25, u26, u27, u28, u29, u30, u31, u32, u33, u34, u35, u36, u37, u38, u39, u40, u41, .slice A ps.length ps.length, .int .i64 ps.length, v44, u45, u46, u47, u48, u49, u50, u51, u52, u53, u54, u55, u56], defers := [] } : Act)) (ps.length) ?atStart ?round
    case' atStart => ((repeat apply Exists.intro); refine ⟨?_, rfl⟩)
    case' round => (intro m ac wr hcut; obtain ⟨u2, hcut⟩ := hcut; obtain ⟨u3, hcut⟩ := hcut; obtain ⟨u5, hcut⟩ := hcut; obtain ⟨u6, hcut⟩ := hcut; obtain ⟨u7, hcut⟩ := hcut; obtain ⟨u8, hcut⟩ := hcut; obtain ⟨u9, hcut⟩ := hcut; obtain ⟨u10, hcut⟩ := hcut; obtain ⟨u11, hcut⟩ := hcut; obtain ⟨u12, hcut⟩ := hcut; obtain ⟨u13, hcut⟩ := hcut; obtain ⟨u14, hcut⟩ := hcut; obtain ⟨u15, hcut⟩ := hcut; obtain ⟨u16, hcut⟩ := hcut; obtain ⟨u17, hcut⟩ := hcut; obtain ⟨u18, hcut⟩ := hcut; obtain ⟨u19, hcut⟩ := hcut; obtain ⟨u20, hcut⟩ := hcut; obtain ⟨u21, hcut⟩ := hcut; obtain ⟨u22, hcut⟩ := hcut; obtain ⟨u23, hcut⟩ := hcut; obtain ⟨u24, hcut⟩ := hcut; obtain ⟨u25, hcut⟩ := hcut; obtain ⟨u26, hcut⟩ := hcut; obtain ⟨u27, hcut⟩ := hcut; obtain ⟨u28, hcut⟩ := hcut; obtain ⟨u29, hcut⟩ := hcut; obtain ⟨u30, hcut⟩ := hcut; obtain ⟨u31, hcut⟩ := hcut; obtain ⟨u32, hcut⟩ := hcut; obtain ⟨u33, hcut⟩ := hcut; obtain ⟨u34, hcut⟩ := hcut; obtain ⟨u35, hcut⟩ := hcut; obtain ⟨u36, hcut⟩ := hcut; obtain ⟨u37, hcut⟩ := hcut; obtain ⟨u38, hcut⟩ := hcut; obtain ⟨u39, hcut⟩ := hcut; obtain ⟨u40, hcut⟩ := hcut; obtain ⟨u41, hcut⟩ := hcut; obtain ⟨u45, hcut⟩ := hcut; obtain ⟨u46, hcut⟩ := hcut; obtain ⟨u47, hcut⟩ := hcut; obtain ⟨u48, hcut⟩ := hcut; obtain ⟨u49, hcut⟩ := hcut; obtain ⟨u50, hcut⟩ := hcut; obtain ⟨u51, hcut⟩ := hcut; obtain ⟨u52, hcut⟩ := hcut; obtain ⟨u53, hcut⟩ := hcut; obtain ⟨u54, hcut⟩ := hcut; obtain ⟨u55, hcut⟩ := hcut; obtain ⟨u56, hcut⟩ := hcut; obtain ⟨v0, hcut⟩ := hcut; obtain ⟨v44, hcut⟩ := hcut; obtain ⟨hcut, hac⟩ := hcut; subst hac; intro _ _ _ _)
    case atStart => exact ⟨0, _, s5_, rfl, rfl, rfl, L6.out, HO5.out, RM5, HF6.out, R6.out, HP6.out, B6.out, Nat.le_refl _⟩
    case round =>
      obtain ⟨i, F, s, hm, rfl, hs, LW, OK, rms, hF, RC, PP, BB, h6⟩ := hcut
      have HM := Lib.hid hm
      have HSS := Lib.hid hs
      have HRC := Lib.hid RC
      have HBB := Lib.hid BB
      have HLW := Lib.hid LW
      have HOK := Lib.hid OK
      have HF := Lib.hid hF
      have HRMS := Lib.hid rms
      have hkl := blk_lt RC.2.1
      have sb : s.bs.length ≤ 300000 := by have := OK.fit; omega
      clear hs RC BB LW OK hF rms
      by_cases hi : i < ps.length
      · have HPP := Lib.hid PP
        obtain ⟨p, hp⟩ : ∃ p, ps[i]? = some p := ⟨_, List.getElem?_eq_getElem hi⟩
        obtain ⟨vss, v1, v2, v3⟩ := PP
        obtain ⟨vs, hvs⟩ : ∃ vs, vss[i]? = some vs := ⟨_, List.getElem?_eq_getElem (by omega)⟩
        obtain ⟨PT, vl⟩ := v2 i p vs hp hvs
        obtain ⟨g, hA, hg, hc⟩ := v3 i vs hvs
        have HST := Lib.hid (show (ps.take (i + 1)).foldl (fun s p => layP p r s) s5_ = layP p r s by
          rw [List.take_add_one, hp, List.foldl_append, ← HSS.out]
          rfl)
        have GD := HSM.out p (List.mem_of_getElem? hp)
        clear v1 v2 v3 hvs hm hp
        subst hA
        have HB4 : Below wr.heap.size wr (wr.alloc (.cells vs.toArray TPart (0, 0))) := (Below.refl _ _).alloc (Nat.le_refl _) _
        cases p
        ·
          obtain ⟨a, l, mm, hbd, rfl, pa, pl, pm⟩ := PT
          have c0 := hc 0 _ rfl
          have c1 := hc 1 _ rfl
          have c2 := hc 2 _ rfl
          simp only [Nat.add_zero] at c0
          unfold fnV ptrV at c0 c1 c2
          simp only [goodP, Bool.and_eq_true, decide_eq_true_eq] at GD
          have HG := Lib.hid GD
          clear hc vl hbd HB4 GD
          have HPA := Lib.hid pa
          clear pa pl pm
          go_wp2_with (fail)
          generalize hw8 : wr.alloc _ = w8
          have hb8 : Below wr.heap.size wr w8 := by rw [← hw8]; exact (Below.refl _ _).alloc (Nat.le_refl _) _
          clear hw8
          refine (lay_peer (HLW.out.below hb8) HOK.out (HRC.out.below hb8) (blk_below HPA.out hb8) (by have := HG.out; omega) (by have := HG.out; omega) (by omega)).mono ?_
          rintro e w9 ⟨rfl, U9⟩
          have U9 := Lib.hid (show UpdW TW F k w8 w9 (layP .peer r s) from U9)
          go_wp2_with (fail)
          go_roundg (m - 1)
          case measure => have := HM.out; omega
          case rel =>
            have z8 := hb8.size
            have z9 := U9.out.2.size
            refine ⟨i + 1, _, layP .peer r s, by have := HM.out; omega, by go_num, HST.out.symm, U9.out.1, layP_ok _ HBY.out HOK.out, by rw [layP_room]; exact HRMS.out, fun b hb => ?_, (HRC.out.below hb8).fr U9.out.2 (fun b hb => (HF.out b hb).1), (HPP.out.fr (F := fun _ => False) (Fr.below _ hb8) (fun _ h => h.elim)).fr U9.out.2 (fun b hb => (HF.out b hb).2), HBB.out.trans ((hb8.mono (by omega)).trans (U9.out.2.toBelow (fun x hx => by have := HF.out x hx; omega) (by omega))), by omega⟩
            rcases hb with hb | hb
            · exact HF.out b hb
            · omega
        ·
          obtain ⟨a, l, mm, hbd, rfl, pa, pl, pm⟩ := PT
          have c0 := hc 0 _ rfl
          have c1 := hc 1 _ rfl
          have c2 := hc 2 _ rfl
          simp only [Nat.add_zero] at c0
          unfold fnV ptrV at c0 c1 c2
          simp only [goodP, Bool.and_eq_true, decide_eq_true_eq] at GD
          have HG := Lib.hid GD
          clear hc vl hbd HB4 GD
          have HPA := Lib.hid pa
          clear pa pl pm
          go_wp2_with (fail)
          generalize hw8 : wr.alloc _ = w8
          have hb8 : Below wr.heap.size wr w8 := by rw [← hw8]; exact (Below.refl _ _).alloc (Nat.le_refl _) _
          clear hw8
          refine (lay_client (HLW.out.below hb8) HOK.out (HRC.out.below hb8) (blk_below HPA.out hb8) (by have := HG.out; omega) (by have := HG.out; omega) (by omega)).mono ?_
          rintro e w9 ⟨rfl, U9⟩
          have U9 := Lib.hid (show UpdW TW F k w8 w9 (layP .client r s) from U9)
          go_wp2_with (fail)
          go_roundg (m - 1)
          case measure => have := HM.out; omega
          case rel =>
            have z8 := hb8.size
            have z9 := U9.out.2.size
            refine ⟨i + 1, _, layP .client r s, by have := HM.out; omega, by go_num, HST.out.symm, U9.out.1, layP_ok _ HBY.out HOK.out, by rw [layP_room]; exact HRMS.out, fun b hb => ?_, (HRC.out.below hb8).fr U9.out.2 (fun b hb => (HF.out b hb).1), (HPP.out.fr (F := fun _ => False) (Fr.below _ hb8) (fun _ h => h.elim)).fr U9.out.2 (fun b hb => (HF.out b hb).2), HBB.out.trans ((hb8.mono (by omega)).trans (U9.out.2.toBelow (fun x hx => by have := HF.out x hx; omega) (by omega))), by omega⟩
            rcases hb with hb | hb
            · exact HF.out b hb
            · omega
        ·
          obtain ⟨a, l, mm, hbd, rfl, pa, pl, pm⟩ := PT
          have c0 := hc 0 _ rfl
          have c1 := hc 1 _ rfl
          have c2 := hc 2 _ rfl
          simp only [Nat.add_zero] at c0
          unfold fnV ptrV at c0 c1 c2
          simp only [goodP, Bool.and_eq_true, decide_eq_true_eq] at GD
          have HG := Lib.hid GD
          clear hc vl hbd HB4 GD
          have HPA := Lib.hid pa
          clear pa pl pm
          go_wp2_with (fail)
          generalize hw8 : wr.alloc _ = w8
          have hb8 : Below wr.heap.size wr w8 := by rw [← hw8]; exact (Below.refl _ _).alloc (Nat.le_refl _) _
          clear hw8
          refine (lay_seq (HLW.out.below hb8) HOK.out (HRC.out.below hb8) (blk_below HPA.out hb8) (by have := HG.out; omega) (by have := HG.out; omega) (by omega)).mono ?_
          rintro e w9 ⟨rfl, U9⟩
          have U9 := Lib.hid (show UpdW TW F k w8 w9 (layP .seq r s) from U9)
          go_wp2_with (fail)
          go_roundg (m - 1)
          case measure => have := HM.out; omega
          case rel =>
            have z8 := hb8.size
            have z9 := U9.out.2.size
            refine ⟨i + 1, _, layP .seq r s, by have := HM.out; omega, by go_num, HST.out.symm, U9.out.1, layP_ok _ HBY.out HOK.out, by rw [layP_room]; exact HRMS.out, fun b hb => ?_, (HRC.out.below hb8).fr U9.out.2 (fun b hb => (HF.out b hb).1), (HPP.out.fr (F := fun _ => False) (Fr.below _ hb8) (fun _ h => h.elim)).fr U9.out.2 (fun b hb => (HF.out b hb).2), HBB.out.trans ((hb8.mono (by omega)).trans (U9.out.2.toBelow (fun x hx => by have := HF.out x hx; omega) (by omega))), by omega⟩
            rcases hb with hb | hb
            · exact HF.out b hb
            · omega
        ·
          obtain ⟨a, l, mm, hbd, rfl, pa, pl, pm⟩ := PT
          have c0 := hc 0 _ rfl
          have c1 := hc 1 _ rfl
          have c2 := hc 2 _ rfl
          simp only [Nat.add_zero] at c0
          unfold fnV ptrV at c0 c1 c2
          simp only [goodP, Bool.and_eq_true, decide_eq_true_eq] at GD
          have HG := Lib.hid GD
          clear hc vl hbd HB4 GD
          have HPA := Lib.hid pa
          clear pa pl pm
          go_wp2_with (fail)
          generalize hw8 : wr.alloc _ = w8
          have hb8 : Below wr.heap.size wr w8 := by rw [← hw8]; exact (Below.refl _ _).alloc (Nat.le_refl _) _
          clear hw8
          refine (lay_epoch (HLW.out.below hb8) HOK.out (HRC.out.below hb8) (blk_below HPA.out hb8) (by have := HG.out; omega) (by have := HG.out; omega) (by omega)).mono ?_
          rintro e w9 ⟨rfl, U9⟩
          have U9 := Lib.hid (show UpdW TW F k w8 w9 (layP .epoch r s) from U9)
          go_wp2_with (fail)
          go_roundg (m - 1)
          case measure => have := HM.out; omega
          case rel =>
            have z8 := hb8.size
            have z9 := U9.out.2.size
            refine ⟨i + 1, _, layP .epoch r s, by have := HM.out; omega, by go_num, HST.out.symm, U9.out.1, layP_ok _ HBY.out HOK.out, by rw [layP_room]; exact HRMS.out, fun b hb => ?_, (HRC.out.below hb8).fr U9.out.2 (fun b hb => (HF.out b hb).1), (HPP.out.fr (F := fun _ => False) (Fr.below _ hb8) (fun _ h => h.elim)).fr U9.out.2 (fun b hb => (HF.out b hb).2), HBB.out.trans ((hb8.mono (by omega)).trans (U9.out.2.toBelow (fun x hx => by have := HF.out x hx; omega) (by omega))), by omega⟩
            rcases hb with hb | hb
            · exact HF.out b hb
            · omega
        · obtain rfl := PT
          have c0 := hc 0 _ rfl
          have c1 := hc 1 _ rfl
          have c2 := hc 2 _ rfl
          simp only [Nat.add_zero] at c0
          unfold fnV at c0 c1 c2
          simp only [goodP, Bool.and_eq_true, decide_eq_true_eq] at GD
          have HG := Lib.hid GD.2
          clear hc vl HB4 GD
          go_wp2_with (fail)
          generalize hw8 : wr.alloc _ = w8
          have hb8 : Below wr.heap.size wr w8 := by rw [← hw8]; exact (Below.refl _ _).alloc (Nat.le_refl _) _
          clear hw8
          refine (lay_write (HLW.out.below hb8) HOK.out (fun b hb => (HF.out b hb).1) (by have := hb8.size; omega) (HRC.out.below hb8) HBY.out HG.out (by omega)).mono ?_
          rintro e w9 ⟨rfl, U9⟩
          have U9 := Lib.hid (show UpdW TW F k w8 w9 (layP .write r s) from U9)
          go_wp2_with (fail)
          go_roundg (m - 1)
          case measure => have := HM.out; omega
          case rel =>
            have z8 := hb8.size
            have z9 := U9.out.2.size
            refine ⟨i + 1, _, layP .write r s, by have := HM.out; omega, by go_num, HST.out.symm, U9.out.1, layP_ok _ HBY.out HOK.out, by rw [layP_room]; exact HRMS.out, fun b hb => ?_, (HRC.out.below hb8).fr U9.out.2 (fun b hb => (HF.out b hb).1), (HPP.out.fr (F := fun _ => False) (Fr.below _ hb8) (fun _ h => h.elim)).fr U9.out.2 (fun b hb => (HF.out b hb).2), HBB.out.trans ((hb8.mono (by omega)).trans (U9.out.2.toBelow (fun x hx => by have := HF.out x hx; omega) (by omega))), by omega⟩
            rcases hb with hb | hb
            · exact HF.out b hb
            · omega
        · obtain rfl := PT
          have c0 := hc 0 _ rfl
          have c1 := hc 1 _ rfl
          have c2 := hc 2 _ rfl
          simp only [Nat.add_zero] at c0
          unfold fnV at c0 c1 c2
          clear hc vl HB4 GD
          go_wp2_with (fail)
          generalize hw8 : wr.alloc _ = w8
          have hb8 : Below wr.heap.size wr w8 := by rw [← hw8]; exact (Below.refl _ _).alloc (Nat.le_refl _) _
          clear hw8
          refine (lay_copied (HLW.out.below hb8) HOK.out (HRC.out.below hb8) (by omega)).mono ?_
          rintro e w9 ⟨rfl, U9⟩
          have U9 := Lib.hid (show UpdW TW F k w8 w9 (layP .copied r s) from U9)
          go_wp2_with (fail)
          go_roundg (m - 1)
          case measure => have := HM.out; omega
          case rel =>
            have z8 := hb8.size
            have z9 := U9.out.2.size
            refine ⟨i + 1, _, layP .copied r s, by have := HM.out; omega, by go_num, HST.out.symm, U9.out.1, layP_ok _ HBY.out HOK.out, by rw [layP_room]; exact HRMS.out, fun b hb => ?_, (HRC.out.below hb8).fr U9.out.2 (fun b hb => (HF.out b hb).1), (HPP.out.fr (F := fun _ => False) (Fr.below _ hb8) (fun _ h => h.elim)).fr U9.out.2 (fun b hb => (HF.out b hb).2), HBB.out.trans ((hb8.mono (by omega)).trans (U9.out.2.toBelow (fun x hx => by have := HF.out x hx; omega) (by omega))), by omega⟩
            rcases hb with hb | hb
            · exact HF.out b hb
            · omega
      · have hi : i = ps.length := by omega
        have DN := wDone_any HLW.out (by omega)
        have HDN := Lib.hid DN
        clear DN
        go_wp2_with (fail)
        refine HDN.out.mono ?_
        rintro e w9 D9
        have he : s = ⟨room, formR r, [], 0⟩ := by
          rw [HSS.out, hi, List.take_length, ← HEN.out]
          have q := formR_room HSR.out
          have q2 := HRM.out
          exact encW_form HSR.out (by omega)
        rw [he] at D9
        obtain ⟨b9, D9⟩ := D9
        rcases D9 with ⟨h1, _⟩ | ⟨_, h1, _⟩ | ⟨_, _, g, rfl, hg, O9⟩
        · exact absurd rfl h1
        · exact absurd rfl h1
        · simp only at hg O9
          have HO9 := Lib.hid O9
          have HB9 := Lib.hid b9
          clear O9 b9
          go_wp2_with (fail)
          refine bodyPost_ret (v := .tuple #[.slice (some ⟨g, 0, none⟩) (formR r).length (formR r).length, .int .i64 0]) (by simp [results, Try.results19, go_sem, *]) rfl ?_
          exact ⟨HBB.out.trans (HB9.out.mono HBB.out.size), Or.inl ⟨HSR.out, g, rfl, by have := HBB.out.size; omega, HO9.out⟩⟩
end Go.Proofs.Ytjmmdpnphafdfaa
