/- takes: a step by both readers. -/
import Derived.Test.YtibelfljlhcibaaL1
import Derived.Test.YtibelfljlhcibaaPG1
import Derived.Test.YtibelfljlhcibaaPGa
import Derived.Test.YtibelfljlhcibaaPEc
import Derived.Test.YtibelfljlhcibaaPR9
import Derived.Test.YtibelfljlhcibaaPR8
import Derived.Test.YtibelfljlhcibaaPRb
import Derived.Test.YtibelfljlhcibaaPRd
namespace Go.Proofs.Ytibelfljlhcibaa
set_option linter.unusedVariables false
set_option linter.unusedSimpArgs false
open Go.RowKit Go.Deep Go.Proofs.YtibelfljlhcibaaW.PrintLast

/-- A reader and the document's, of one state. -/
def PRd : ObP RS := fun w f g k m s => RLies w f k s ∧ RefLies w g m s ∧ GoodR 140737488351232 s
theorem PRd_local : Local PRd := fun w w' f g f' g' k m s h hb hf hg =>
  ⟨(h.1.same fun b h1 h2 => hb b (Or.inl h1) h2).mono hf, (h.2.1.same fun b h1 h2 => hb b (Or.inr h1) h2).mono hg, h.2.2⟩
/-- Blocks of two, none of both, none to come. -/
structure Two (w : World) (f g : Nat → Prop) : Prop where
  no : ∀ b, f b → ¬ g b
  f : ∀ b, f b → b < w.heap.size
  g : ∀ b, g b → b < w.heap.size
def TakesP (f g : Nat → Prop) (k m : Nat) (w : World) (e : Ending) (w' : World) : Prop := e = .returned (.bool true) ∧ ∃ s', Turned PRd w w' f g k m s'
theorem TakesP.mk {w wA w2 w3 w4 : World} {f g : Nat → Prop} {k m : Nat} {s' : RS} (T : Two w f g) (hA : Below w.heap.size w wA) (UQ : UpdQ g m wA w2 s') (UR : UpdR f k w2 w3 s') (hs : GoodR 140737488351232 s') {G : Nat → Prop} (hf : Fr G w3 w4) (hG : ∀ b, G b → w.heap.size ≤ b) :
    TakesP f g k m w (.returned (.bool true)) w4 := by
  have s1 := hA.size
  have s2 := UQ.2.size
  have s3 := UR.2.size
  have s4 := hf.size
  refine ⟨rfl, s', f, g, ⟨UR.1.same fun b hb hl => hf.block b hl fun h => ?_, (UQ.1.same fun b hb hl => UR.2.block b hl fun h => T.no b h hb).same fun b hb hl => hf.block b hl fun h => ?_, hs⟩, ?_, T.no, fun b h => Or.inl h, fun b h => Or.inl h, fun b h => ?_, fun b h => ?_⟩
  · have := T.f b hb; have := hG b h; omega
  · have := T.g b hb; have := hG b h; omega
  · refine (((Fr.below (fun b => f b ∨ g b) hA).trans UQ.2 fun _ _ h => Or.inr h).trans UR.2 fun _ _ h => Or.inl h).trans hf fun x hx h => ?_
    exact absurd hx (by have := hG x h; omega)
  · have := T.f b h; omega
  · have := T.g b h; omega
theorem TakesP.mk0 {w wA w2 w3 : World} {f g : Nat → Prop} {k m : Nat} {s' : RS} (T : Two w f g) (hA : Below w.heap.size w wA) (UQ : UpdQ g m wA w2 s') (UR : UpdR f k w2 w3 s') (hs : GoodR 140737488351232 s') :
    TakesP f g k m w (.returned (.bool true)) w3 := TakesP.mk T hA UQ UR hs (Fr.refl (fun _ => False) w3) fun b h => h.elim
theorem TakesP.enter {w wA w2 w3 : World} {f g : Nat → Prop} {k m : Nat} {s' : RS} (T : Two w f g) (hA : Below w.heap.size w wA) (UQ : UpdQG g m wA w2 s') (UR : RLies w3 (Gr f w2 w3) k s' ∧ Fr f w2 w3) (hs : GoodR 140737488351232 s') :
    TakesP f g k m w (.returned (.bool true)) w3 := by
  have s1 := hA.size
  have s2 := UQ.2.size
  have s3 := UR.2.size
  refine ⟨rfl, s', Gr f w2 w3, Gr g wA w2, ⟨UR.1, UQ.1.same fun b hb hl => UR.2.block b hl fun h => ?_, hs⟩, ?_, fun b h1 h2 => ?_, fun b h => ?_, fun b h => ?_, fun b h => ?_, fun b h => ?_⟩
  · rcases hb with hb | hb
    · exact T.no b h hb
    · have := T.f b h; omega
  · exact ((Fr.below (fun b => f b ∨ g b) hA).trans UQ.2 fun _ _ h => Or.inr h).trans UR.2 fun _ _ h => Or.inl h
  · rcases h1 with h1 | h1 <;> rcases h2 with h2 | h2
    · exact T.no b h1 h2
    · have := T.f b h1; omega
    · have := T.g b h2; omega
    · omega
  · rcases h with h | h
    · exact Or.inl h
    · exact Or.inr (by omega)
  · rcases h with h | h
    · exact Or.inl h
    · exact Or.inr (by omega)
  · rcases h with h | h
    · have := T.f b h; omega
    · omega
  · rcases h with h | h
    · have := T.g b h; omega
    · omega
/-- Nothing was asked. -/
theorem TakesP.none_ {w wA : World} {f g : Nat → Prop} {k m : Nat} {s : RS} (T : Two w f g) (h : RLies wA f k s) (hm : RefLies wA g m s) (hs : GoodR 140737488351232 s) (hA : Below w.heap.size w wA) : TakesP f g k m w (.returned (.bool true)) wA := by
  have s1 := hA.size
  refine ⟨rfl, s, f, g, ⟨h, hm, hs⟩, Fr.below _ hA, T.no, fun b h => Or.inl h, fun b h => Or.inl h, fun b h => ?_, fun b h => ?_⟩
  · have := T.f b h; omega
  · have := T.g b h; omega
theorem grow_fr {w w' : World} {N c : Nat} {A : Option Addr} {p : List Int} {F : Nat → Prop} (h : GRow bc 5 1 w N A c p) (hf : Fr F w w') (hF : ∀ b, N ≤ b → ¬ F b) : GRow bc 5 1 w' N A c p := by
  rcases h with h | ⟨g, h1, h2, h3⟩
  · exact Or.inl h
  · exact Or.inr ⟨g, h1, h2, h3.moved (hf.block g h3.lt (hF g h2))⟩
def tkV (kd wh i : Int) : Value := .agg #[.int .i64 kd, .int .i64 wh, .int .i64 i]
set_option maxRecDepth 100000 in
set_option maxHeartbeats 16000000 in
theorem takes_any {w : World} {f g : Nat → Prop} {k m : Nat} {s : RS} (T : Two w f g) (h : RLies w f k s) (hm : RefLies w g m s) (hs : GoodR 140737488351232 s) (kd wh i : Int) (i0 : -9223372036854775808 ≤ i) (i1 : i ≤ 9223372036854775807) :
    Calls Try.prog 35 #[.pointer (some ⟨k, 0, none⟩), .pointer (some ⟨m, 0, none⟩), .agg #[.int .i64 kd, .int .i64 wh, .int .i64 i]] w (TakesP f g k m w) := by
  have hb := hs.left.1
  have hl : s.left.length ≤ 140737488355328 := Nat.le_trans hs.left.2 (by omega)
  have hd := hs.deep
  have bA : Below w.heap.size w (w.alloc (.cells #[.int .i64 kd, .int .i64 wh, .int .i64 i] 55)) := (Below.refl _ _).alloc (Nat.le_refl _) _
  have HL := Lib.hid (h.below bA)
  have HM := Lib.hid (hm.below bA)
  have HA := Lib.hid bA
  have HBO := Lib.hid (blk_new w (.cells #[.int .i64 kd, .int .i64 wh, .int .i64 i] 55 (0, 0)))
  have HS := Lib.hid hs
  have HB := Lib.hid hb
  have HT := Lib.hid T
  clear h hm bA hs hb T
  rcases (by omega : kd = 1 ∨ kd = 2 ∨ kd = 3 ∨ kd = 4 ∨ kd = 5 ∨ kd = 6 ∨ kd = 7 ∨ kd = 8 ∨ kd = 9 ∨ kd = 10 ∨ kd = 11 ∨ (kd ≠ 1 ∧ kd ≠ 2 ∧ kd ≠ 3 ∧ kd ≠ 4 ∧ kd ≠ 5 ∧ kd ≠ 6 ∧ kd ≠ 7 ∧ kd ≠ 8 ∧ kd ≠ 9 ∧ kd ≠ 10 ∧ kd ≠ 11)) with hk | hk | hk | hk | hk | hk | hk | hk | hk | hk | hk | hk
  ·
    subst hk
    go_enter Try.func35, Try.ntmps35
    go_wp2_with (fail)
    refine (refRByte_any HM.out HB.out hl).mono ?_
    rintro e w2 ⟨rfl, U⟩
    have HR2 := Lib.hid (HL.out.same fun b hb hl => U.2.block b hl fun h => HT.out.no b hb h)
    have HQ := Lib.hid U
    have c2 : w2.cell? ⟨w.heap.size, 2, none⟩ = some (.int .i64 i) := cell_blk ((U.2.block _ (blk_lt HBO.out) (fun h => by have := HT.out.g _ h; omega)).trans HBO.out) 2 rfl
    clear U
    go_wp2_with (fail)
    refine (rByte_any HR2.out HB.out (by omega)).mono ?_
    rintro e w3 ⟨rfl, U⟩
    have HU := Lib.hid U
    clear U
    go_wp2_with (fail)
    go_ret
    exact TakesP.mk0 HT.out HA.out HQ.out HU.out HS.out.byte
  ·
    subst hk
    go_enter Try.func35, Try.ntmps35
    go_wp2_with (fail)
    refine (refRFixed_any HM.out HB.out hl i).mono ?_
    rintro e w2 ⟨rfl, U⟩
    have HR2 := Lib.hid (HL.out.same fun b hb hl => U.2.block b hl fun h => HT.out.no b hb h)
    have HQ := Lib.hid U
    have c2 : w2.cell? ⟨w.heap.size, 2, none⟩ = some (.int .i64 i) := cell_blk ((U.2.block _ (blk_lt HBO.out) (fun h => by have := HT.out.g _ h; omega)).trans HBO.out) 2 rfl
    clear U
    go_wp2_with (fail)
    refine (rFixed_any HR2.out HB.out hl i).mono ?_
    rintro e w3 ⟨rfl, U⟩
    have HU := Lib.hid U
    clear U
    go_wp2_with (fail)
    go_ret
    exact TakesP.mk0 HT.out HA.out HQ.out HU.out (HS.out.fixed i)
  ·
    subst hk
    go_enter Try.func35, Try.ntmps35
    go_wp2_with (fail)
    refine (refRNum_any HM.out HB.out hl).mono ?_
    rintro e w2 ⟨rfl, U⟩
    have HR2 := Lib.hid (HL.out.same fun b hb hl => U.2.block b hl fun h => HT.out.no b hb h)
    have HQ := Lib.hid U
    have c2 : w2.cell? ⟨w.heap.size, 2, none⟩ = some (.int .i64 i) := cell_blk ((U.2.block _ (blk_lt HBO.out) (fun h => by have := HT.out.g _ h; omega)).trans HBO.out) 2 rfl
    clear U
    go_wp2_with (fail)
    refine (rNum_any HR2.out HB.out (by omega)).mono ?_
    rintro e w3 ⟨rfl, U⟩
    have HU := Lib.hid U
    clear U
    go_wp2_with (fail)
    go_ret
    exact TakesP.mk0 HT.out HA.out HQ.out HU.out HS.out.num
  ·
    subst hk
    go_enter Try.func35, Try.ntmps35
    go_wp2_with (fail)
    refine (refRInt_any HM.out HB.out hl).mono ?_
    rintro e w2 ⟨rfl, U⟩
    have HR2 := Lib.hid (HL.out.same fun b hb hl => U.2.block b hl fun h => HT.out.no b hb h)
    have HQ := Lib.hid U
    have c2 : w2.cell? ⟨w.heap.size, 2, none⟩ = some (.int .i64 i) := cell_blk ((U.2.block _ (blk_lt HBO.out) (fun h => by have := HT.out.g _ h; omega)).trans HBO.out) 2 rfl
    clear U
    go_wp2_with (fail)
    refine (rInt_any HR2.out HB.out (by omega)).mono ?_
    rintro e w3 ⟨rfl, U⟩
    have HU := Lib.hid U
    clear U
    go_wp2_with (fail)
    go_ret
    exact TakesP.mk0 HT.out HA.out HQ.out HU.out HS.out.int
  ·
    have hcg : ∀ (b : Nat) w, (callFunc 29 #[.float .f64 b]).run Try.prog w = .ok (.value (.int .u64 (b : Int))) w := fun b w => by
      rw [run_callFunc_extern Try.func29 (by kernel_rfl) (by kernel_rfl) (by kernel_rfl) (e := Extern.MathFloatBits.float64bits) (by kernel_rfl)]
      rfl
    subst hk
    go_enter Try.func35, Try.ntmps35
    go_wp2_with (fail)
    refine (refRReal_any HM.out HB.out hl).mono ?_
    rintro e w2 ⟨rfl, U⟩
    have HR2 := Lib.hid (HL.out.same fun b hb hl => U.2.block b hl fun h => HT.out.no b hb h)
    have HQ := Lib.hid U
    have c2 : w2.cell? ⟨w.heap.size, 2, none⟩ = some (.int .i64 i) := cell_blk ((U.2.block _ (blk_lt HBO.out) (fun h => by have := HT.out.g _ h; omega)).trans HBO.out) 2 rfl
    clear U
    go_wp2_with (fail)
    refine (rReal_any HR2.out HB.out hl).mono ?_
    rintro e w3 ⟨rfl, U⟩
    have HU := Lib.hid U
    clear U
    go_wp2_with (fail)
    go_ret
    exact TakesP.mk0 HT.out HA.out HQ.out HU.out HS.out.real
  ·
    subst hk
    have HQ0 := Lib.hid (refRRaw_any HM.out hl i i1)
    have HR0 := Lib.hid (fun (w2 : World) (h : RLies w2 f k s) => rRaw_any h hl i i1)
    have HG := Lib.hid (HS.out.raw i)
    generalize s.raw i = q at *
    obtain ⟨p, s'⟩ := q
    go_enter Try.func35, Try.ntmps35
    go_wp2_with (fail)
    refine HQ0.out.mono ?_
    rintro e w2 ⟨⟨A, c, rfl, GR⟩, U⟩
    have HR2 := Lib.hid (HL.out.same fun b hb hl => U.2.block b hl fun h => HT.out.no b hb h)
    have HQ := Lib.hid U
    have HGR := Lib.hid GR
    have c2 : w2.cell? ⟨w.heap.size, 2, none⟩ = some (.int .i64 i) := cell_blk ((U.2.block _ (blk_lt HBO.out) (fun h => by have := HT.out.g _ h; omega)).trans HBO.out) 2 rfl
    clear U GR HQ0
    have CA := Lib.hid (HR0.out w2 HR2.out)
    go_wp2_with (fail)
    refine CA.out.mono ?_
    rintro e w3 ⟨⟨x, rfl, NB⟩, U⟩
    have ex := NB.1
    obtain ⟨X, xn, xc⟩ := x
    simp only at ex NB
    subst ex
    have HNB := Lib.hid NB.in_
    have HU := Lib.hid U
    have HGR3 := Lib.hid (grow_fr HGR.out U.2 fun b hb hf => by have := HT.out.f b hf; have := HA.out.size; omega).srcB
    clear U NB CA
    have CA := same_any (c := xc) (c' := c) HNB.out.src HGR3.out (by have := HG.out.1.2; omega) (by have := HG.out.1.2; omega)
    rw [decide_eq_true rfl] at CA
    have CA := Lib.hid CA
    go_wp2_with (fail)
    refine CA.out.mono ?_
    rintro e w4 ⟨rfl, B4⟩
    have HB4 := Lib.hid B4
    have CS := Lib.hid (spoil_any (HNB.out.blw B4) HG.out.1.1 (by have := HG.out.1.2; omega))
    clear CA B4
    go_wp2_with (fail)
    refine CS.out.mono ?_
    rintro e w5 ⟨rfl, _, F5, S5⟩
    have HF5 := Lib.hid F5
    clear F5 S5 CS
    go_wp2_with (fail)
    go_ret
    exact TakesP.mk HT.out HA.out HQ.out HU.out HG.out.2 ((Fr.below (fun b => w2.heap.size ≤ b ∧ b < w3.heap.size) HB4.out).trans HF5.out fun _ _ h => h) fun b hb => Nat.le_trans (Nat.le_trans HA.out.size HQ.out.2.size) hb.1
  ·
    subst hk
    have HQ0 := Lib.hid (refRText_any HM.out HB.out hl i i1)
    have HR0 := Lib.hid (fun (w2 : World) (h : RLies w2 f k s) => rText_any h HB.out hl i i1)
    have HG := Lib.hid (HS.out.text i)
    generalize s.text i = q at *
    obtain ⟨p, s'⟩ := q
    go_enter Try.func35, Try.ntmps35
    go_wp2_with (fail)
    refine HQ0.out.mono ?_
    rintro e w2 ⟨⟨A, c, rfl, GR⟩, U⟩
    have HR2 := Lib.hid (HL.out.same fun b hb hl => U.2.block b hl fun h => HT.out.no b hb h)
    have HQ := Lib.hid U
    have HGR := Lib.hid GR
    have c2 : w2.cell? ⟨w.heap.size, 2, none⟩ = some (.int .i64 i) := cell_blk ((U.2.block _ (blk_lt HBO.out) (fun h => by have := HT.out.g _ h; omega)).trans HBO.out) 2 rfl
    clear U GR HQ0
    have CA := Lib.hid (HR0.out w2 HR2.out)
    go_wp2_with (fail)
    refine CA.out.mono ?_
    rintro e w3 ⟨⟨x, rfl, NB⟩, U⟩
    have ex := NB.1
    obtain ⟨X, xn, xc⟩ := x
    simp only at ex NB
    subst ex
    have HNB := Lib.hid NB.in_
    have HU := Lib.hid U
    have HGR3 := Lib.hid (grow_fr HGR.out U.2 fun b hb hf => by have := HT.out.f b hf; have := HA.out.size; omega).srcB
    clear U NB CA
    have CA := same_any (c := xc) (c' := c) HNB.out.src HGR3.out (by have := HG.out.1.2; omega) (by have := HG.out.1.2; omega)
    rw [decide_eq_true rfl] at CA
    have CA := Lib.hid CA
    go_wp2_with (fail)
    refine CA.out.mono ?_
    rintro e w4 ⟨rfl, B4⟩
    have HB4 := Lib.hid B4
    have CS := Lib.hid (spoil_any (HNB.out.blw B4) HG.out.1.1 (by have := HG.out.1.2; omega))
    clear CA B4
    go_wp2_with (fail)
    refine CS.out.mono ?_
    rintro e w5 ⟨rfl, _, F5, S5⟩
    have HF5 := Lib.hid F5
    clear F5 S5 CS
    go_wp2_with (fail)
    go_ret
    exact TakesP.mk HT.out HA.out HQ.out HU.out HG.out.2 ((Fr.below (fun b => w2.heap.size ≤ b ∧ b < w3.heap.size) HB4.out).trans HF5.out fun _ _ h => h) fun b hb => Nat.le_trans (Nat.le_trans HA.out.size HQ.out.2.size) hb.1
  ·
    subst hk
    go_enter Try.func35, Try.ntmps35
    go_wp2_with (fail)
    refine (refREnter_any HM.out HB.out hl hd).mono ?_
    rintro e w2 ⟨rfl, U⟩
    have HR2 := Lib.hid (HL.out.same fun b hb hl => U.2.block b hl fun h => HT.out.no b hb h)
    have HQ := Lib.hid U
    have c2 : w2.cell? ⟨w.heap.size, 2, none⟩ = some (.int .i64 i) := cell_blk ((U.2.block _ (blk_lt HBO.out) (fun h => by have := HT.out.g _ h; omega)).trans HBO.out) 2 rfl
    clear U
    go_wp2_with (fail)
    refine (rEnter_any HR2.out HB.out hd hl).mono ?_
    rintro e w3 ⟨rfl, U⟩
    have HU := Lib.hid U
    clear U
    go_wp2_with (fail)
    go_ret
    exact TakesP.enter HT.out HA.out HQ.out HU.out HS.out.enter
  ·
    subst hk
    go_enter Try.func35, Try.ntmps35
    go_wp2_with (fail)
    refine (refRLeave_any HM.out).mono ?_
    rintro e w2 ⟨rfl, U⟩
    have HR2 := Lib.hid (HL.out.same fun b hb hl => U.2.block b hl fun h => HT.out.no b hb h)
    have HQ := Lib.hid U
    have c2 : w2.cell? ⟨w.heap.size, 2, none⟩ = some (.int .i64 i) := cell_blk ((U.2.block _ (blk_lt HBO.out) (fun h => by have := HT.out.g _ h; omega)).trans HBO.out) 2 rfl
    clear U
    go_wp2_with (fail)
    refine (rLeave_any HR2.out hd).mono ?_
    rintro e w3 ⟨rfl, U⟩
    have HU := Lib.hid U
    clear U
    go_wp2_with (fail)
    go_ret
    exact TakesP.mk0 HT.out HA.out HQ.out HU.out HS.out.leave
  ·
    subst hk
    go_enter Try.func35, Try.ntmps35
    go_wp2_with (fail)
    refine (refRRest_any HM.out).mono ?_
    rintro e w2 ⟨rfl, B2⟩
    have HB2 := Lib.hid B2
    have HL2 := Lib.hid (HL.out.below B2)
    clear B2
    go_wp2_with (fail)
    refine (rRest_any HL2.out).mono ?_
    rintro e w_ ⟨rfl, rfl⟩
    go_wp2_with (fail)
    go_ret
    exact TakesP.none_ HT.out HL2.out (HM.out.below HB2.out) HS.out (HA.out.trans (HB2.out.mono HA.out.size))
  ·
    subst hk
    go_enter Try.func35, Try.ntmps35
    go_wp2_with (fail)
    refine (refRDone_any HM.out).mono ?_
    rintro e w2 ⟨rfl, B2⟩
    have HB2 := Lib.hid B2
    have HL2 := Lib.hid (HL.out.below B2)
    clear B2
    go_wp2_with (fail)
    refine (rDone_any HL2.out).mono ?_
    rintro e w_ ⟨rfl, rfl⟩
    go_wp2_with (fail)
    go_ret
    exact TakesP.none_ HT.out HL2.out (HM.out.below HB2.out) HS.out (HA.out.trans (HB2.out.mono HA.out.size))
  · obtain ⟨n1, n2, n3, n4, n5, n6, n7, n8, n9, n10, n11⟩ := hk
    have z1 : (kd == 1) = false := by simpa using n1
    have z2 : (kd == 2) = false := by simpa using n2
    have z3 : (kd == 3) = false := by simpa using n3
    have z4 : (kd == 4) = false := by simpa using n4
    have z5 : (kd == 5) = false := by simpa using n5
    have z6 : (kd == 6) = false := by simpa using n6
    have z7 : (kd == 7) = false := by simpa using n7
    have z8 : (kd == 8) = false := by simpa using n8
    have z9 : (kd == 9) = false := by simpa using n9
    have z10 : (kd == 10) = false := by simpa using n10
    have z11 : (kd == 11) = false := by simpa using n11
    clear n1 n2 n3 n4 n5 n6 n7 n8 n9 n10 n11
    go_enter Try.func35, Try.ntmps35
    go_wp2_with (fail)
    go_ret
    exact TakesP.none_ HT.out HL.out HM.out HS.out HA.out
set_option maxRecDepth 100000 in
set_option maxHeartbeats 16000000 in
theorem takes_nil (w : World) (kd wh i : Int) :
    Calls Try.prog 35 #[.pointer none, .pointer none, .agg #[.int .i64 kd, .int .i64 wh, .int .i64 i]] w fun e w' => e = .returned (.bool true) ∧ Below w.heap.size w w' := by
  have HA := Lib.hid (show Below w.heap.size w (w.alloc (.cells #[.int .i64 kd, .int .i64 wh, .int .i64 i] 55)) from (Below.refl _ _).alloc (Nat.le_refl _) _)
  rcases (by omega : kd = 1 ∨ kd = 2 ∨ kd = 3 ∨ kd = 4 ∨ kd = 5 ∨ kd = 6 ∨ kd = 7 ∨ kd = 8 ∨ kd = 9 ∨ kd = 10 ∨ kd = 11 ∨ (kd ≠ 1 ∧ kd ≠ 2 ∧ kd ≠ 3 ∧ kd ≠ 4 ∧ kd ≠ 5 ∧ kd ≠ 6 ∧ kd ≠ 7 ∧ kd ≠ 8 ∧ kd ≠ 9 ∧ kd ≠ 10 ∧ kd ≠ 11)) with hk | hk | hk | hk | hk | hk | hk | hk | hk | hk | hk | hk
  ·
    subst hk
    go_enter Try.func35, Try.ntmps35
    go_wp2_with (fail)
    refine (refRByte_nil _).mono ?_
    rintro e w2 ⟨rfl, rfl⟩
    go_wp2_with (fail)
    refine (rByte_nil _).mono ?_
    rintro e w3 ⟨rfl, B3⟩
    have HB3 := Lib.hid (HA.out.trans (B3.mono HA.out.size))
    clear B3
    go_wp2_with (fail)
    go_ret
    exact ⟨rfl, HB3.out⟩
  ·
    subst hk
    go_enter Try.func35, Try.ntmps35
    go_wp2_with (fail)
    refine (refRFixed_nil i _).mono ?_
    rintro e w2 ⟨rfl, rfl⟩
    go_wp2_with (fail)
    refine (rFixed_nil _ i).mono ?_
    rintro e w3 ⟨rfl, B3⟩
    have HB3 := Lib.hid (HA.out.trans (B3.mono HA.out.size))
    clear B3
    go_wp2_with (fail)
    go_ret
    exact ⟨rfl, HB3.out⟩
  ·
    subst hk
    go_enter Try.func35, Try.ntmps35
    go_wp2_with (fail)
    refine (refRNum_nil _).mono ?_
    rintro e w2 ⟨rfl, rfl⟩
    go_wp2_with (fail)
    refine (rNum_nil _).mono ?_
    rintro e w3 ⟨rfl, B3⟩
    have HB3 := Lib.hid (HA.out.trans (B3.mono HA.out.size))
    clear B3
    go_wp2_with (fail)
    go_ret
    exact ⟨rfl, HB3.out⟩
  ·
    subst hk
    go_enter Try.func35, Try.ntmps35
    go_wp2_with (fail)
    refine (refRInt_nil _).mono ?_
    rintro e w2 ⟨rfl, rfl⟩
    go_wp2_with (fail)
    refine (rInt_nil _).mono ?_
    rintro e w3 ⟨rfl, B3⟩
    have HB3 := Lib.hid (HA.out.trans (B3.mono HA.out.size))
    clear B3
    go_wp2_with (fail)
    go_ret
    exact ⟨rfl, HB3.out⟩
  ·
    have hcg : ∀ (b : Nat) w, (callFunc 29 #[.float .f64 b]).run Try.prog w = .ok (.value (.int .u64 (b : Int))) w := fun b w => by
      rw [run_callFunc_extern Try.func29 (by kernel_rfl) (by kernel_rfl) (by kernel_rfl) (e := Extern.MathFloatBits.float64bits) (by kernel_rfl)]
      rfl
    subst hk
    go_enter Try.func35, Try.ntmps35
    go_wp2_with (fail)
    refine (refRReal_nil _).mono ?_
    rintro e w2 ⟨rfl, rfl⟩
    go_wp2_with (fail)
    refine (rReal_nil _).mono ?_
    rintro e w3 ⟨rfl, B3⟩
    have HB3 := Lib.hid (HA.out.trans (B3.mono HA.out.size))
    clear B3
    go_wp2_with (fail)
    go_ret
    exact ⟨rfl, HB3.out⟩
  ·
    subst hk
    go_enter Try.func35, Try.ntmps35
    go_wp2_with (fail)
    refine (refRRaw_nil i _).mono ?_
    rintro e w2 ⟨rfl, rfl⟩
    go_wp2_with (fail)
    refine (rRaw_nil _ i).mono ?_
    rintro e w3 ⟨rfl, B3⟩
    have HB3 := Lib.hid (HA.out.trans (B3.mono HA.out.size))
    clear B3
    go_wp2_with (fail)
    have CA := same_any (w := w3) (c := 0) (c' := 0) (A := none) (B := none) (a := []) (b := []) (fun h => absurd rfl h) (fun h => absurd rfl h) (by simp) (by simp)
    rw [decide_eq_true rfl] at CA
    have CA := Lib.hid CA
    refine CA.out.mono ?_
    rintro e w4 ⟨rfl, B4⟩
    have HB4 := Lib.hid (HB3.out.trans (B4.mono HB3.out.size))
    have CS := Lib.hid (spoil_any (NewIn.nil w4 0 0) (fun x hx => by cases hx) (by simp))
    clear CA B4
    go_wp2_with (fail)
    refine CS.out.mono ?_
    rintro e w5 ⟨rfl, _, F5, S5⟩
    have HF5 := Lib.hid (HB4.out.trans (F5.toBelow (n := w.heap.size) (fun x hx => absurd hx.2 (Nat.not_lt_zero x)) HB4.out.size))
    clear F5 S5 CS
    go_wp2_with (fail)
    go_ret
    exact ⟨rfl, HF5.out⟩
  ·
    subst hk
    go_enter Try.func35, Try.ntmps35
    go_wp2_with (fail)
    refine (refRText_nil i _).mono ?_
    rintro e w2 ⟨rfl, rfl⟩
    go_wp2_with (fail)
    refine (rText_nil _ i).mono ?_
    rintro e w3 ⟨rfl, B3⟩
    have HB3 := Lib.hid (HA.out.trans (B3.mono HA.out.size))
    clear B3
    go_wp2_with (fail)
    have CA := same_any (w := w3) (c := 0) (c' := 0) (A := none) (B := none) (a := []) (b := []) (fun h => absurd rfl h) (fun h => absurd rfl h) (by simp) (by simp)
    rw [decide_eq_true rfl] at CA
    have CA := Lib.hid CA
    refine CA.out.mono ?_
    rintro e w4 ⟨rfl, B4⟩
    have HB4 := Lib.hid (HB3.out.trans (B4.mono HB3.out.size))
    have CS := Lib.hid (spoil_any (NewIn.nil w4 0 0) (fun x hx => by cases hx) (by simp))
    clear CA B4
    go_wp2_with (fail)
    refine CS.out.mono ?_
    rintro e w5 ⟨rfl, _, F5, S5⟩
    have HF5 := Lib.hid (HB4.out.trans (F5.toBelow (n := w.heap.size) (fun x hx => absurd hx.2 (Nat.not_lt_zero x)) HB4.out.size))
    clear F5 S5 CS
    go_wp2_with (fail)
    go_ret
    exact ⟨rfl, HF5.out⟩
  ·
    subst hk
    go_enter Try.func35, Try.ntmps35
    go_wp2_with (fail)
    refine (refREnter_nil _).mono ?_
    rintro e w2 ⟨rfl, rfl⟩
    go_wp2_with (fail)
    refine (rEnter_nil _).mono ?_
    rintro e w3 ⟨rfl, B3⟩
    have HB3 := Lib.hid (HA.out.trans (B3.mono HA.out.size))
    clear B3
    go_wp2_with (fail)
    go_ret
    exact ⟨rfl, HB3.out⟩
  ·
    subst hk
    go_enter Try.func35, Try.ntmps35
    go_wp2_with (fail)
    refine (refRLeave_nil _).mono ?_
    rintro e w2 ⟨rfl, rfl⟩
    go_wp2_with (fail)
    refine (rLeave_nil _).mono ?_
    rintro e w3 ⟨rfl, rfl⟩
    go_wp2_with (fail)
    go_ret
    exact ⟨rfl, HA.out⟩
  ·
    subst hk
    go_enter Try.func35, Try.ntmps35
    go_wp2_with (fail)
    refine (refRRest_nil _).mono ?_
    rintro e w2 ⟨rfl, rfl⟩
    go_wp2_with (fail)
    refine (rRest_nil _).mono ?_
    rintro e w3 ⟨rfl, rfl⟩
    go_wp2_with (fail)
    go_ret
    exact ⟨rfl, HA.out⟩
  ·
    subst hk
    go_enter Try.func35, Try.ntmps35
    go_wp2_with (fail)
    refine (refRDone_nil _).mono ?_
    rintro e w2 ⟨rfl, rfl⟩
    go_wp2_with (fail)
    refine (rDone_nil _).mono ?_
    rintro e w3 ⟨rfl, rfl⟩
    go_wp2_with (fail)
    go_ret
    exact ⟨rfl, HA.out⟩
  · obtain ⟨n1, n2, n3, n4, n5, n6, n7, n8, n9, n10, n11⟩ := hk
    have z1 : (kd == 1) = false := by simpa using n1
    have z2 : (kd == 2) = false := by simpa using n2
    have z3 : (kd == 3) = false := by simpa using n3
    have z4 : (kd == 4) = false := by simpa using n4
    have z5 : (kd == 5) = false := by simpa using n5
    have z6 : (kd == 6) = false := by simpa using n6
    have z7 : (kd == 7) = false := by simpa using n7
    have z8 : (kd == 8) = false := by simpa using n8
    have z9 : (kd == 9) = false := by simpa using n9
    have z10 : (kd == 10) = false := by simpa using n10
    have z11 : (kd == 11) = false := by simpa using n11
    clear n1 n2 n3 n4 n5 n6 n7 n8 n9 n10 n11
    go_enter Try.func35, Try.ntmps35
    go_wp2_with (fail)
    go_ret
    exact ⟨rfl, HA.out⟩
end Go.Proofs.Ytibelfljlhcibaa
