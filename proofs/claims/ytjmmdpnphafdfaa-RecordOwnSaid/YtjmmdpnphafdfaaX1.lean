/- awake: the record that the document names. -/
import Derived.Test.YtjmmdpnphafdfaaX0
namespace Go.Proofs.Ytjmmdpnphafdfaa
set_option linter.unusedVariables false
set_option linter.unusedSimpArgs false
open Go.RowKit Go.Deep Go.Proofs.YtjmmdpnphafdfaaW.PrintLast

theorem OwnB.lit {w : World} {g : Nat} {xs : List Int} (hl : xs.length ≤ maxLen) (h : w.heap[g]? = some (.cells (xs.map (Value.int .u8)).toArray 5 (0, 0))) : OwnB w g xs.length xs :=
  ⟨Nat.le_refl _, hl, _, h, by simp, fun i x hx j v hv => by
    rcases j with _ | j
    · simp [bc] at hv; subst hv
      simp [hx]
    · simp [bc] at hv⟩
def rA : RZ := ⟨1, 5, 0, 0, 3, 300, ⟨2, [97], [1, 2], 0⟩, []⟩
def wantA : List Int := [1, 5, 3, 172, 2, 2, 1, 97, 2, 1, 2]
theorem rA_sound : SoundR rA := by decide
theorem rA_form : formR rA = wantA := by
  have h300 : formN 300 = [172, 2] := by rw [formN_big (by omega), formN_small (by omega)]; rfl
  unfold formR rA wantA formO textN
  simp only [if_pos trivial]
  rw [show Int.toNat 5 = 5 from rfl, show Int.toNat 3 = 3 from rfl, show Int.toNat 300 = 300 from rfl, h300, formN_small (n := 5) (by omega), formN_small (n := 3) (by omega), formN_small (n := ([97] : List Int).length) (by simp), formN_small (n := ([1, 2] : List Int).length) (by simp)]
  rfl
theorem rA_dec : decodeR wantA = (rA, 0) := by rw [← rA_form]; exact decode_form rA_sound
theorem rA_not : decodeR (wantA ++ [0]) = (RZ.none, 160) := by
  rw [← rA_form]
  unfold decodeR
  rw [dec_form rA_sound [0], if_neg (fun h => by have := h.1; simp [RS.done] at this)]
theorem wantA_byt : Byt wantA := by
  intro x hx
  simp [wantA] at hx
  omega
theorem rA_wf : rA.Wf := by
  constructor <;> first | (constructor <;> decide) | decide
theorem rA_byt : rA.Byt := ⟨fun x hx => by simp [rA] at hx; omega, fun x hx => by simp [rA] at hx; omega, fun x hx => by simp [rA] at hx⟩
theorem encA {K V C : SlB} {w : World} (sK : SlAt w w.heap.size K rA.op.key) (sV : SlAt w w.heap.size V rA.op.val) (sC : SlAt w w.heap.size C rA.copy) :
    Calls Try.prog 19 #[recV rA K V C] w fun e w' => ∃ g, e = .returned (.tuple #[.slice (some ⟨g, 0, none⟩) 11 11, .int .i64 0]) ∧ w.heap.size ≤ g ∧ OwnB w' g 11 wantA ∧ Below w.heap.size w w' := by
  refine (encode_any rA_wf rA_byt sK sV sC).mono ?_
  rintro e w' ⟨hb, ⟨_, g, rfl, hg, O⟩ | ⟨h, _⟩⟩
  · rw [rA_form] at O ⊢
    exact ⟨g, rfl, hg, O, hb⟩
  · exact absurd rA_sound h
def GaveR (w : World) (r : RZ) (e : Ending) (w' : World) : Prop := ∃ K V C, e = .returned (.tuple #[recV r K V C, .int .i64 0]) ∧ Chain w' w.heap.size r K V C ∧ Below w.heap.size w w'
theorem decA {A : Option Addr} {c : Nat} {w : World} (h : BSrc w A wantA) : Calls Try.prog 13 #[.slice A 11 c] w (GaveR w rA) := by
  refine (decode_any wantA_byt (by decide) h).mono ?_
  rintro e w' ⟨hb, K, V, C, rfl, hc⟩
  rw [rA_dec] at hc ⊢
  exact ⟨K, V, C, rfl, hc, hb⟩
theorem decA0 {A : Option Addr} {c : Nat} {w : World} (h : BSrc w A (wantA ++ [0])) : Calls Try.prog 13 #[.slice A 12 c] w fun e w' => ∃ K V C, e = .returned (.tuple #[recV RZ.none K V C, .int .i64 160]) ∧ Below w.heap.size w w' := by
  refine (decode_any (Byt.app wantA_byt (fun x hx => by rw [List.mem_singleton] at hx; subst hx; omega)) (by decide) h).mono ?_
  rintro e w' ⟨hb, K, V, C, rfl, hc⟩
  rw [rA_not]
  exact ⟨K, V, C, rfl, hb⟩
theorem Chain.lie {w : World} {lo : Nat} {r : RZ} {K V C : SlB} (h : Chain w lo r K V C) (hw : r.op.key.length ≤ 140737488355328 ∧ r.op.val.length ≤ 140737488355328 ∧ r.copy.length ≤ 140737488355328) : RecLie w r K V C := by
  obtain ⟨m, n, h1, h2, h3, h4, h5, h6⟩ := h
  exact ⟨⟨h4.1, BSrc.ofRow h4.2⟩, ⟨h5.1, BSrc.ofRow h5.2⟩, ⟨h6.1, BSrc.ofRow h6.2⟩, hw.1, hw.2.1, hw.2.2⟩
set_option maxRecDepth 100000 in
set_option maxHeartbeats 8000000 in
theorem awake_any (w : World) : Calls Try.prog 24 #[] w fun e w' => e = .returned (.bool true) ∧ Below w.heap.size w w' := by
  obtain ⟨x1, x2, x3⟩ := three_blks w (.cells #[.int .u8 97] 5 (0, 0)) (.cells #[.int .u8 1, .int .u8 2] 5 (0, 0)) (.cells #[.int .i64 1, .int .i64 5, .int .i64 0, .int .i64 0, .int .i64 3, .int .i64 300, .int .i64 2, .slice (some ⟨w.heap.size, 0, none⟩) 1 1, .slice (some ⟨w.heap.size + 1, 0, none⟩) 2 2, .int .i64 0, .slice none 0 0] TRec (0, 0))
  have B3 : Below w.heap.size w (((w.alloc (.cells #[.int .u8 97] 5 (0, 0))).alloc (.cells #[.int .u8 1, .int .u8 2] 5 (0, 0))).alloc (.cells #[.int .i64 1, .int .i64 5, .int .i64 0, .int .i64 0, .int .i64 3, .int .i64 300, .int .i64 2, .slice (some ⟨w.heap.size, 0, none⟩) 1 1, .slice (some ⟨w.heap.size + 1, 0, none⟩) 2 2, .int .i64 0, .slice none 0 0] TRec (0, 0))) :=
    (((Below.refl _ _).alloc (Nat.le_refl _) _).alloc (by simp) _).alloc (by simp; omega) _
  generalize hw3 : ((w.alloc (.cells #[.int .u8 97] 5 (0, 0))).alloc (.cells #[.int .u8 1, .int .u8 2] 5 (0, 0))).alloc (.cells #[.int .i64 1, .int .i64 5, .int .i64 0, .int .i64 0, .int .i64 3, .int .i64 300, .int .i64 2, .slice (some ⟨w.heap.size, 0, none⟩) 1 1, .slice (some ⟨w.heap.size + 1, 0, none⟩) 2 2, .int .i64 0, .slice none 0 0] TRec (0, 0)) = w3 at *
  have OK := OwnB.lit (w := w3) (g := w.heap.size) (xs := [97]) (by decide) x1
  have OV := OwnB.lit (w := w3) (g := w.heap.size + 1) (xs := [1, 2]) (by decide) x2
  have RI := Lib.hid (show RecIn w3 rA (some ⟨w.heap.size, 0, none⟩, 1, 1) (some ⟨w.heap.size + 1, 0, none⟩, 2, 2) zSl from
    ⟨rA_wf, rA_byt, SlAt.ofSrc (BSrc.ofOwn OK) rfl (Nat.le_refl _), SlAt.ofSrc (BSrc.ofOwn OV) rfl (Nat.le_refl _), SlAt.nil _ _, by decide, by decide, by decide⟩)
  have HW3 := Lib.hid hw3
  have HB3 := Lib.hid B3
  have HX3 := Lib.hid x3
  clear x1 x2 x3 hw3 B3 OK OV
  go_enter Try.func24, Try.ntmps24
  go_wp2_with (fail)
  rw [HW3.out]
  refine (encA RI.out.key RI.out.val RI.out.copy).mono ?_
  rintro e w4 ⟨g, rfl, hg, O4, hb4⟩
  have RI4 := Lib.hid (RI.out.below hb4)
  have HB4 := Lib.hid (HB3.out.trans (hb4.mono HB3.out.size))
  have HX4 := Lib.hid (blk_below HX3.out hb4)
  have HO4 := Lib.hid O4
  clear hb4 O4
  go_wp2_with (fail)
  have nW := blk_new w4 (.cells #[.int .u8 1, .int .u8 5, .int .u8 3, .int .u8 172, .int .u8 2, .int .u8 2, .int .u8 1, .int .u8 97, .int .u8 2, .int .u8 1, .int .u8 2] 5 (0, 0))
  have b5 : Below w4.heap.size w4 (w4.alloc (.cells #[.int .u8 1, .int .u8 5, .int .u8 3, .int .u8 172, .int .u8 2, .int .u8 2, .int .u8 1, .int .u8 97, .int .u8 2, .int .u8 1, .int .u8 2] 5 (0, 0))) := (Below.refl _ _).alloc (Nat.le_refl _) _
  generalize w4.alloc _ = w5 at nW b5 ⊢
  have OW := Lib.hid (OwnB.lit (w := w5) (g := w4.heap.size) (xs := wantA) (by decide) nW)
  have RI5 := Lib.hid (RI4.out.below b5)
  have HB5 := Lib.hid (HB4.out.trans (b5.mono HB4.out.size))
  have HX5 := Lib.hid (blk_below HX4.out b5)
  have HO5 := Lib.hid (HO4.out.below b5)
  generalize hz : w4.heap.size = z at *
  clear nW b5 hz
  refine (decA (c := 11) (BSrc.ofOwn OW.out)).mono ?_
  rintro e w6 ⟨K, V, C, rfl, CH, hb6⟩
  have RI6 := Lib.hid (RI5.out.below hb6)
  have HB6 := Lib.hid (HB5.out.trans (hb6.mono HB5.out.size))
  have HX6 := Lib.hid (blk_below HX5.out hb6)
  have HO6 := Lib.hid (HO5.out.below hb6)
  have OW6 := Lib.hid (OW.out.below hb6)
  have RL := Lib.hid (CH.lie (by decide))
  clear hb6 CH
  -- the record, and the two appends
  have nR := blk_new w6 (.cells (recCells rA K V C) TRec (0, 0))
  have b7 : Below w6.heap.size w6 (w6.alloc (.cells (recCells rA K V C) TRec (0, 0))) := (Below.refl _ _).alloc (Nat.le_refl _) _
  have hs7 : (w6.alloc (.cells (recCells rA K V C) TRec (0, 0))).heap.size = w6.heap.size + 1 := World.size_alloc _ _
  generalize hw7 : w6.alloc (.cells (recCells rA K V C) TRec (0, 0)) = w7 at *
  have n8 := blk_new w7 (.cells #[] 5 (0, 0))
  have b8 : Below w7.heap.size w7 (w7.alloc (.cells #[] 5 (0, 0))) := (Below.refl _ _).alloc (Nat.le_refl _) _
  have O8 := OwnB.lit (xs := []) (by decide) n8
  obtain ⟨g9, c9, w9, hr9, O9, G9, hat9⟩ := OwnB.append O8 (ys := wantA) (c := 11) (((OW6.out.below b7).below b8).bsAt) (by decide)
  have b9 : Below w7.heap.size w7 w9 := b8.grown G9 b8.size (by intro k hk; injection hk with hk; omega)
  have hg9 : w7.heap.size ≤ g9 := by
    have := b8.size
    rcases hat9 with h | h <;> omega
  obtain ⟨g10, c10, w10, hr10, O10, b10, hg10⟩ := OwnB.push O9 0 (by decide) b9 hg9
  have HRUN1 := Lib.hid (show (Builtin.append_ #[22, 22] 22 #[.slice (some ⟨w7.heap.size, 0, none⟩) 0 0, .slice (some ⟨z, 0, none⟩) 11 11]).run Try.prog (w7.alloc (.cells #[] 5 (0, 0))) = .ok (.slice (some ⟨g9, 0, none⟩) 11 c9) w9 from hr9)
  have HRUN2 := Lib.hid (show (Builtin.append_ #[22, 22] 22 #[.slice (some ⟨g9, 0, none⟩) 11 c9, .slice (some ⟨w9.heap.size, 0, none⟩) 1 1]).run Try.prog (w9.alloc (.cells #[.int .u8 0] 5)) = .ok (.slice (some ⟨g10, 0, none⟩) 12 c10) w10 from hr10)
  have O10' : OwnB w10 g10 c10 (wantA ++ [0]) := by simpa using O10
  have HR10 := Lib.hid (blk_below nR b10)
  have b10 : Below w6.heap.size w6 w10 := b7.trans (b10.mono b7.size)
  have RI10 := Lib.hid (RI6.out.below b10)
  have HB10 := Lib.hid (HB6.out.trans (b10.mono HB6.out.size))
  have HX10 := Lib.hid (blk_below HX6.out b10)
  have HO10 := Lib.hid (HO6.out.below b10)
  have OW10 := Lib.hid (OW6.out.below b10)
  have RL10 := Lib.hid (RL.out.below b10)
  have HO := Lib.hid O10'
  unfold recCells at hw7
  have HW7 := Lib.hid hw7
  clear nR b7 hs7 hw7 n8 b8 O8 hr9 O9 G9 hat9 b9 hg9 hr10 O10 b10 hg10 O10'
  unfold recV recCells
  go_upto_region 5 with (fail)
  rw [HW7.out]
  go_wp2_with (first | (refine wpList_app HRUN1.out rfl rfl rfl (by rfl) (by rfl) ?_; clear HRUN1) | (refine wpList_app HRUN2.out rfl rfl rfl (by rfl) (by rfl) ?_; clear HRUN2))
  refine (decA0 (c := c10) (BSrc.ofOwn HO.out)).mono ?_
  rintro e w11 ⟨K', V', C', rfl, hb11⟩
  have RI11 := Lib.hid (RI10.out.below hb11)
  have HB11 := Lib.hid (HB10.out.trans (hb11.mono HB10.out.size))
  have HX11 := Lib.hid (blk_below HX10.out hb11)
  have HO11 := Lib.hid (HO10.out.below hb11)
  have OW11 := Lib.hid (OW10.out.below hb11)
  have RL11 := Lib.hid (RL10.out.below hb11)
  have HR11 := Lib.hid (blk_below HR10.out hb11)
  clear hb11 HO RI10 HB10 HX10 HO10 OW10 RL10 HR10 RI6 HB6 HX6 HO6 OW6 RL RI5 HB5 HX5 HO5 RI4 HB4 HX4 HO4 RI HB3 HX3
  unfold recV recCells
  go_upto_region 6 with (fail)
  generalize hW12 : w11.alloc _ = w12
  have hb12 : Below w11.heap.size w11 w12 := by rw [← hW12]; exact (Below.refl _ _).alloc (Nat.le_refl _) _
  clear hW12
  have HB12 := Lib.hid (HB11.out.trans (hb12.mono HB11.out.size))
  have HX12 := Lib.hid (blk_below HX11.out hb12)
  have HR12 := Lib.hid (blk_below HR11.out hb12)
  have SM := Lib.hid (same_any (c := 11) (c' := 11) (BSrc.ofOwn (HO11.out.below hb12)) (BSrc.ofOwn (OW11.out.below hb12)) (by decide) (by decide))
  have SR := Lib.hid (fun (u : World) (hu : Below w12.heap.size w12 u) => sameRec_any ((RI11.out.below hb12).lie.below hu) ((RL11.out.below hb12).below hu))
  rw [show decide (wantA = wantA) = true from decide_eq_true rfl] at SM
  have hrr : sameRB rA rA = true := (sameRB_iff _ _).2 rfl
  rw [hrr] at SR
  clear hb12 hrr RI11 HB11 HX11 HO11 OW11 RL11 HR11
  unfold recV recCells at SR
  go_wp2_with (fail)
  refine SM.out.mono ?_
  rintro e w13 ⟨rfl, hb13⟩
  have HB13 := Lib.hid (HB12.out.trans (hb13.mono HB12.out.size))
  have HX13 := blk_below HX12.out hb13
  have HR13 := blk_below HR12.out hb13
  have c0 := cell_blk HX13 0 rfl
  have c1 := cell_blk HX13 1 rfl
  have c2 := cell_blk HX13 2 rfl
  have c3 := cell_blk HX13 3 rfl
  have c4 := cell_blk HX13 4 rfl
  have c5 := cell_blk HX13 5 rfl
  have c6 := cell_blk HX13 6 rfl
  have c7 := cell_blk HX13 7 rfl
  have c8 := cell_blk HX13 8 rfl
  have c9' := cell_blk HX13 9 rfl
  have c10' := cell_blk HX13 10 rfl
  have d0 := cell_blk HR13 0 rfl
  have d1 := cell_blk HR13 1 rfl
  have d2 := cell_blk HR13 2 rfl
  have d3 := cell_blk HR13 3 rfl
  have d4 := cell_blk HR13 4 rfl
  have d5 := cell_blk HR13 5 rfl
  have d6 := cell_blk HR13 6 rfl
  have d7 := cell_blk HR13 7 rfl
  have d8 := cell_blk HR13 8 rfl
  have d9 := cell_blk HR13 9 rfl
  have d10 := cell_blk HR13 10 rfl
  clear HX13 HR13
  simp at c0 c1 c2 c3 c4 c5 c6 c7 c8 c9' c10' d0 d1 d2 d3 d4 d5 d6 d7 d8 d9 d10
  go_wp2_with (fail)
  refine (SR.out w13 hb13).mono ?_
  rintro e w14 ⟨rfl, hb14⟩
  go_wp2_with (fail)
  go_ret
  exact ⟨rfl, HB13.out.trans (hb14.mono HB13.out.size)⟩
end Go.Proofs.Ytjmmdpnphafdfaa
