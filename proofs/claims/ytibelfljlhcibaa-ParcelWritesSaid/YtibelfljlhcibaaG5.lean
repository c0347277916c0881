/- puts: a step by both writers. -/
import Derived.Test.YtibelfljlhcibaaL5
import Derived.Test.YtibelfljlhcibaaPG4
import Derived.Test.YtibelfljlhcibaaPGa
import Derived.Test.YtibelfljlhcibaaPEd
import Derived.Test.YtibelfljlhcibaaPE2
import Derived.Test.YtibelfljlhcibaaPW5
import Derived.Test.YtibelfljlhcibaaPWb
import Derived.Test.YtibelfljlhcibaaPW3
import Derived.Test.YtibelfljlhcibaaPWc
import Derived.Test.YtibelfljlhcibaaPWd
namespace Go.Proofs.Ytibelfljlhcibaa
set_option linter.unusedVariables false
set_option linter.unusedSimpArgs false
open Go.RowKit Go.Deep Go.Proofs.YtibelfljlhcibaaW.PrintLast

/-- A writer and the document's, of one state. -/
def PWr : ObP WS := fun w f g k m s => WLies TW w f k s ∧ WLies TE w g m s ∧ s.Ok
theorem PWr_local : Local PWr := fun w w' f g f' g' k m s h hb hf hg =>
  ⟨(h.1.same fun b h1 h2 => hb b (Or.inl h1) h2).mono hf, (h.2.1.same fun b h1 h2 => hb b (Or.inr h1) h2).mono hg, h.2.2⟩
/-- Blocks of two, none of both, none to come. -/
structure TwoW (w : World) (f g : Nat → Prop) : Prop where
  no : ∀ b, f b → ¬ g b
  f : ∀ b, f b → b < w.heap.size
  g : ∀ b, g b → b < w.heap.size
/-- So much longer a step may make a writer. -/
def growN (kd : Int) (p : List Int) : Nat := if kd = 10 ∨ kd = 11 then 0 else 10 + p.length
theorem growN_le (kd : Int) (p : List Int) : growN kd p ≤ 10 + p.length := by unfold growN; split <;> omega
def PutsP (f g : Nat → Prop) (k m : Nat) (s : WS) (n : Nat) (w : World) (e : Ending) (w' : World) : Prop := e = .returned (.bool true) ∧ ∃ s', Turned PWr w w' f g k m s' ∧ s'.bs.length ≤ s.bs.length + n
theorem PutsP.mk {w w1 w2 w3 w4 : World} {f g : Nat → Prop} {k m : Nat} {s s' : WS} {n : Nat} (T : TwoW w f g) (hA : Below w.heap.size w w1) (UQ : UpdW TE g m w1 w2 s') (UR : UpdW TW f k w2 w3 s') (hs : GoodW s n s') {G : Nat → Prop} (hf : Fr G w3 w4) (hG : ∀ b, G b → w.heap.size ≤ b ∧ b < w1.heap.size) :
    PutsP f g k m s n w (.returned (.bool true)) w4 := by
  have s1 := hA.size
  have s2 := UQ.2.size
  have s3 := UR.2.size
  have s4 := hf.size
  refine ⟨rfl, s', ⟨Gr f w2 w3, Gr g w1 w2, ⟨UR.1.same fun b hb hl => hf.block b hl fun h => ?_, (UQ.1.same fun b hb hl => UR.2.block b hl fun h => ?_).same fun b hb hl => hf.block b hl fun h => ?_, hs.1⟩, ?_, fun b h1 h2 => ?_, fun b h => ?_, fun b h => ?_, fun b h => ?_, fun b h => ?_⟩, hs.2⟩
  · have := hG b h
    rcases hb with hb | hb
    · have := T.f b hb; omega
    · omega
  · rcases hb with hb | hb
    · exact T.no b h hb
    · have := T.f b h; omega
  · have := hG b h
    rcases hb with hb | hb
    · have := T.g b hb; omega
    · omega
  · refine (((Fr.below (fun b => f b ∨ g b) hA).trans UQ.2 fun _ _ h => Or.inr h).trans UR.2 fun _ _ h => Or.inl h).trans hf fun x hx h => ?_
    exact absurd hx (by have := hG x h; omega)
  · rcases h1 with h1 | h1 <;> rcases h2 with h2 | h2
    · exact T.no b h1 h2
    · have := T.f b h1; omega
    · have := T.g b h2; omega
    · omega
  · rcases h with h | h
    · exact Or.inl h
    · exact Or.inr (by omega)
  · rcases h with h | h
    · exact Or.inl h
    · exact Or.inr (by omega)
  · rcases h with h | h
    · have := T.f b h; omega
    · omega
  · rcases h with h | h
    · have := T.g b h; omega
    · omega
/-- Nothing was laid. -/
theorem PutsP.none_ {w w4 : World} {f g : Nat → Prop} {k m : Nat} {s : WS} {n : Nat} (T : TwoW w f g) (h : WLies TW w f k s) (hm : WLies TE w g m s) (hs : s.Ok) (hf : Below w.heap.size w w4) : PutsP f g k m s n w (.returned (.bool true)) w4 := by
  have s1 := hf.size
  refine ⟨rfl, s, ⟨f, g, ⟨h.below hf, hm.below hf, hs⟩, Fr.below _ hf, T.no, fun b h => Or.inl h, fun b h => Or.inl h, fun b h => ?_, fun b h => ?_⟩, by omega⟩
  · have := T.f b h; omega
  · have := T.g b h; omega
set_option maxRecDepth 100000 in
set_option maxHeartbeats 16000000 in
theorem puts_any {w : World} {N : Nat} {f g : Nat → Prop} {k m : Nat} {s : WS} (T : TwoW w f g) (hN : N ≤ w.heap.size) (hf : ∀ b, f b ∨ g b → N ≤ b) (h : WLies TW w f k s) (hm : WLies TE w g m s) (hs : s.Ok) (kd wh i : Int) (n : Nat) (hn : n < 18446744073709551616) (i0 : -9223372036854775808 ≤ i) (i1 : i ≤ 9223372036854775807)
    {B : Option Addr} {c : Nat} {p : List Int} (hp : SlAt w N (B, p.length, c) p) (hb : Byt p) (hl : s.bs.length + 100 + p.length ≤ 140737488355000) :
    Calls Try.prog 37 #[.pointer (some ⟨k, 0, none⟩), .pointer (some ⟨m, 0, none⟩), .agg #[.int .i64 kd, .int .i64 wh, .int .u64 n, .int .i64 i, .slice B p.length c]] w (PutsP f g k m s (growN kd p) w) := by
  have bA : Below w.heap.size w (w.alloc (.cells #[.int .i64 kd, .int .i64 wh, .int .u64 n, .int .i64 i, .slice B p.length c] 61)) := (Below.refl _ _).alloc (Nat.le_refl _) _
  have LE := Lib.hid (lent_any (c0 := c) (hp.below bA).src (by omega))
  have HBO := Lib.hid (blk_new w (.cells #[.int .i64 kd, .int .i64 wh, .int .u64 n, .int .i64 i, .slice B p.length c] 61 (0, 0)))
  have HA := Lib.hid bA
  have hszA : (w.alloc (.cells #[.int .i64 kd, .int .i64 wh, .int .u64 n, .int .i64 i, .slice B p.length c] 61)).heap.size = w.heap.size + 1 := World.size_alloc _ _
  have HL := Lib.hid h
  have HM := Lib.hid hm
  have HS := Lib.hid hs
  have HB := Lib.hid hb
  have HT := Lib.hid T
  have HP := Lib.hid hp
  have HNN := Lib.hid hf
  have HSZ := Lib.hid hszA
  obtain ⟨q, hq⟩ : ∃ q, p.length = q := ⟨_, rfl⟩
  obtain ⟨t, ht⟩ : ∃ t, s.bs.length = t := ⟨_, rfl⟩
  have HQL := Lib.hid hq
  have HTL := Lib.hid ht
  rw [hq, ht] at hl
  rw [hq] at LE HBO ⊢
  clear h hm bA hs hb T hp hf hszA hq ht
  have hlen := HTL.out
  rcases (by omega : kd = 1 ∨ kd = 2 ∨ kd = 3 ∨ kd = 4 ∨ kd = 5 ∨ kd = 6 ∨ kd = 7 ∨ kd = 8 ∨ kd = 9 ∨ kd = 10 ∨ kd = 11 ∨ (kd ≠ 1 ∧ kd ≠ 2 ∧ kd ≠ 3 ∧ kd ≠ 4 ∧ kd ≠ 5 ∧ kd ≠ 6 ∧ kd ≠ 7 ∧ kd ≠ 8 ∧ kd ≠ 9 ∧ kd ≠ 10 ∧ kd ≠ 11)) with hk | hk | hk | hk | hk | hk | hk | hk | hk | hk | hk | hk
  ·
    subst hk
    go_enter Try.func37, Try.ntmps37
    go_wp2_with (fail)
    rw [HQL.out] at HA
    refine LE.out.mono ?_
    rintro e w1 ⟨x, rfl, L1, B1⟩
    have HB1 := Lib.hid (HA.out.trans (B1.mono HA.out.size))
    have HO := Lib.hid (blk_below HBO.out B1)
    have HX := Lib.hid (show LentB w1 (w.heap.size + 1) x p from by rw [← HSZ.out, HQL.out]; exact L1)
    clear L1 B1 LE
    have c0 : w1.cell? ⟨w.heap.size, 0, none⟩ = some (.int .i64 _) := cell_blk HO.out 0 rfl
    have c2 : w1.cell? ⟨w.heap.size, 2, none⟩ = some (.int .u64 n) := cell_blk HO.out 2 rfl
    have c3 : w1.cell? ⟨w.heap.size, 3, none⟩ = some (.int .i64 i) := cell_blk HO.out 3 rfl
    have c4 : w1.cell? ⟨w.heap.size, 4, none⟩ = some (.slice B q c) := cell_blk HO.out 4 rfl
    have HL1 := Lib.hid (HL.out.below HB1.out)
    have HM1 := Lib.hid (HM.out.below HB1.out)
    go_wp2_with (fail)
    refine (refByte_any HM1.out HS.out i (by omega)).mono ?_
    rintro e w2 ⟨rfl, U⟩
    have HQ := Lib.hid U
    have HR2 := Lib.hid (HL1.out.same fun b hb hl => U.2.block b hl fun h => HT.out.no b hb h)
    have HX2 := Lib.hid (HX.out.other U.2 fun b hb hg => by have := HT.out.g b hg; omega)
    have HY2 := Lib.hid (HX.out.newIn.frr U.2 fun b hb _ hg => by have := HT.out.g b hg; omega)
    have HO2 := Lib.hid ((U.2.block _ (blk_lt HO.out) (fun hg => by have := HT.out.g _ hg; omega)).trans HO.out)
    have HP2 := Lib.hid ((HP.out.below HB1.out).fr U.2 fun b hb => HNN.out b (Or.inr hb))
    clear U c0 c2 c3 c4
    have c0 : w2.cell? ⟨w.heap.size, 0, none⟩ = some (.int .i64 _) := cell_blk HO2.out 0 rfl
    have c2 : w2.cell? ⟨w.heap.size, 2, none⟩ = some (.int .u64 n) := cell_blk HO2.out 2 rfl
    have c3 : w2.cell? ⟨w.heap.size, 3, none⟩ = some (.int .i64 i) := cell_blk HO2.out 3 rfl
    have c4 : w2.cell? ⟨w.heap.size, 4, none⟩ = some (.slice B q c) := cell_blk HO2.out 4 rfl
    go_wp2_with (fail)
    refine (wByte_any HR2.out HS.out i (by omega)).mono ?_
    rintro e w3 ⟨rfl, U⟩
    have HU := Lib.hid U
    have HX3 := Lib.hid (HX2.out.other U.2 fun b hb hg => by have := HT.out.f b hg; omega)
    have HY3 := Lib.hid (HY2.out.frr U.2 fun b hb _ hg => by have := HT.out.f b hg; omega)
    have HO3 := Lib.hid ((U.2.block _ (blk_lt HO2.out) (fun hg => by have := HT.out.f _ hg; omega)).trans HO2.out)
    have HP3 := Lib.hid (HP2.out.fr U.2 fun b hb => HNN.out b (Or.inl hb))
    clear U c0 c2 c3 c4
    have c4 : w3.cell? ⟨w.heap.size, 4, none⟩ = some (.slice B q c) := cell_blk HO3.out 4 rfl
    have HK := Lib.hid (kept_any (c0 := c) HX3.out HP3.out.src (by rw [HQL.out]; omega))
    rw [HQL.out] at HK
    go_wp2_with (fail)
    refine HK.out.mono ?_
    rintro e w4 ⟨rfl, B4⟩
    have HB4 := Lib.hid B4
    have CS := Lib.hid (spoil_any (HY3.out.blw B4) HB.out (by rw [HQL.out]; omega))
    clear HK B4
    go_wp2_with (fail)
    refine CS.out.mono ?_
    rintro e w5 ⟨rfl, _, F5, S5⟩
    have HF5 := Lib.hid F5
    clear F5 S5 CS
    go_wp2_with (fail)
    go_ret
    exact PutsP.mk HT.out HB1.out HQ.out HU.out ((HS.out.byteG i).le (by unfold growN; simp)) ((Fr.below (fun b => w.heap.size + 1 ≤ b ∧ b < w1.heap.size) HB4.out).trans HF5.out fun _ _ h => h) fun b hb => ⟨by omega, hb.2⟩
  ·
    subst hk
    go_enter Try.func37, Try.ntmps37
    go_wp2_with (fail)
    rw [HQL.out] at HA
    refine LE.out.mono ?_
    rintro e w1 ⟨x, rfl, L1, B1⟩
    have HB1 := Lib.hid (HA.out.trans (B1.mono HA.out.size))
    have HO := Lib.hid (blk_below HBO.out B1)
    have HX := Lib.hid (show LentB w1 (w.heap.size + 1) x p from by rw [← HSZ.out, HQL.out]; exact L1)
    clear L1 B1 LE
    have c0 : w1.cell? ⟨w.heap.size, 0, none⟩ = some (.int .i64 _) := cell_blk HO.out 0 rfl
    have c2 : w1.cell? ⟨w.heap.size, 2, none⟩ = some (.int .u64 n) := cell_blk HO.out 2 rfl
    have c3 : w1.cell? ⟨w.heap.size, 3, none⟩ = some (.int .i64 i) := cell_blk HO.out 3 rfl
    have c4 : w1.cell? ⟨w.heap.size, 4, none⟩ = some (.slice B q c) := cell_blk HO.out 4 rfl
    have HL1 := Lib.hid (HL.out.below HB1.out)
    have HM1 := Lib.hid (HM.out.below HB1.out)
    go_wp2_with (fail)
    refine (refWFixed_any HM1.out HS.out n hn i (by omega)).mono ?_
    rintro e w2 ⟨rfl, U⟩
    have HQ := Lib.hid U
    have HR2 := Lib.hid (HL1.out.same fun b hb hl => U.2.block b hl fun h => HT.out.no b hb h)
    have HX2 := Lib.hid (HX.out.other U.2 fun b hb hg => by have := HT.out.g b hg; omega)
    have HY2 := Lib.hid (HX.out.newIn.frr U.2 fun b hb _ hg => by have := HT.out.g b hg; omega)
    have HO2 := Lib.hid ((U.2.block _ (blk_lt HO.out) (fun hg => by have := HT.out.g _ hg; omega)).trans HO.out)
    have HP2 := Lib.hid ((HP.out.below HB1.out).fr U.2 fun b hb => HNN.out b (Or.inr hb))
    clear U c0 c2 c3 c4
    have c0 : w2.cell? ⟨w.heap.size, 0, none⟩ = some (.int .i64 _) := cell_blk HO2.out 0 rfl
    have c2 : w2.cell? ⟨w.heap.size, 2, none⟩ = some (.int .u64 n) := cell_blk HO2.out 2 rfl
    have c3 : w2.cell? ⟨w.heap.size, 3, none⟩ = some (.int .i64 i) := cell_blk HO2.out 3 rfl
    have c4 : w2.cell? ⟨w.heap.size, 4, none⟩ = some (.slice B q c) := cell_blk HO2.out 4 rfl
    go_wp2_with (fail)
    refine (wFixed_any HR2.out HS.out n hn i (by omega)).mono ?_
    rintro e w3 ⟨rfl, U⟩
    have HU := Lib.hid U
    have HX3 := Lib.hid (HX2.out.other U.2 fun b hb hg => by have := HT.out.f b hg; omega)
    have HY3 := Lib.hid (HY2.out.frr U.2 fun b hb _ hg => by have := HT.out.f b hg; omega)
    have HO3 := Lib.hid ((U.2.block _ (blk_lt HO2.out) (fun hg => by have := HT.out.f _ hg; omega)).trans HO2.out)
    have HP3 := Lib.hid (HP2.out.fr U.2 fun b hb => HNN.out b (Or.inl hb))
    clear U c0 c2 c3 c4
    have c4 : w3.cell? ⟨w.heap.size, 4, none⟩ = some (.slice B q c) := cell_blk HO3.out 4 rfl
    have HK := Lib.hid (kept_any (c0 := c) HX3.out HP3.out.src (by rw [HQL.out]; omega))
    rw [HQL.out] at HK
    go_wp2_with (fail)
    refine HK.out.mono ?_
    rintro e w4 ⟨rfl, B4⟩
    have HB4 := Lib.hid B4
    have CS := Lib.hid (spoil_any (HY3.out.blw B4) HB.out (by rw [HQL.out]; omega))
    clear HK B4
    go_wp2_with (fail)
    refine CS.out.mono ?_
    rintro e w5 ⟨rfl, _, F5, S5⟩
    have HF5 := Lib.hid F5
    clear F5 S5 CS
    go_wp2_with (fail)
    go_ret
    exact PutsP.mk HT.out HB1.out HQ.out HU.out ((HS.out.fixedG n i).le (by unfold growN; simp)) ((Fr.below (fun b => w.heap.size + 1 ≤ b ∧ b < w1.heap.size) HB4.out).trans HF5.out fun _ _ h => h) fun b hb => ⟨by omega, hb.2⟩
  ·
    subst hk
    go_enter Try.func37, Try.ntmps37
    go_wp2_with (fail)
    rw [HQL.out] at HA
    refine LE.out.mono ?_
    rintro e w1 ⟨x, rfl, L1, B1⟩
    have HB1 := Lib.hid (HA.out.trans (B1.mono HA.out.size))
    have HO := Lib.hid (blk_below HBO.out B1)
    have HX := Lib.hid (show LentB w1 (w.heap.size + 1) x p from by rw [← HSZ.out, HQL.out]; exact L1)
    clear L1 B1 LE
    have c0 : w1.cell? ⟨w.heap.size, 0, none⟩ = some (.int .i64 _) := cell_blk HO.out 0 rfl
    have c2 : w1.cell? ⟨w.heap.size, 2, none⟩ = some (.int .u64 n) := cell_blk HO.out 2 rfl
    have c3 : w1.cell? ⟨w.heap.size, 3, none⟩ = some (.int .i64 i) := cell_blk HO.out 3 rfl
    have c4 : w1.cell? ⟨w.heap.size, 4, none⟩ = some (.slice B q c) := cell_blk HO.out 4 rfl
    have HL1 := Lib.hid (HL.out.below HB1.out)
    have HM1 := Lib.hid (HM.out.below HB1.out)
    go_wp2_with (fail)
    refine (refNum_any HM1.out HS.out n hn (by omega)).mono ?_
    rintro e w2 ⟨rfl, U⟩
    have HQ := Lib.hid U
    have HR2 := Lib.hid (HL1.out.same fun b hb hl => U.2.block b hl fun h => HT.out.no b hb h)
    have HX2 := Lib.hid (HX.out.other U.2 fun b hb hg => by have := HT.out.g b hg; omega)
    have HY2 := Lib.hid (HX.out.newIn.frr U.2 fun b hb _ hg => by have := HT.out.g b hg; omega)
    have HO2 := Lib.hid ((U.2.block _ (blk_lt HO.out) (fun hg => by have := HT.out.g _ hg; omega)).trans HO.out)
    have HP2 := Lib.hid ((HP.out.below HB1.out).fr U.2 fun b hb => HNN.out b (Or.inr hb))
    clear U c0 c2 c3 c4
    have c0 : w2.cell? ⟨w.heap.size, 0, none⟩ = some (.int .i64 _) := cell_blk HO2.out 0 rfl
    have c2 : w2.cell? ⟨w.heap.size, 2, none⟩ = some (.int .u64 n) := cell_blk HO2.out 2 rfl
    have c3 : w2.cell? ⟨w.heap.size, 3, none⟩ = some (.int .i64 i) := cell_blk HO2.out 3 rfl
    have c4 : w2.cell? ⟨w.heap.size, 4, none⟩ = some (.slice B q c) := cell_blk HO2.out 4 rfl
    go_wp2_with (fail)
    refine (wNum_any HR2.out HS.out n hn (by omega)).mono ?_
    rintro e w3 ⟨rfl, U⟩
    have HU := Lib.hid U
    have HX3 := Lib.hid (HX2.out.other U.2 fun b hb hg => by have := HT.out.f b hg; omega)
    have HY3 := Lib.hid (HY2.out.frr U.2 fun b hb _ hg => by have := HT.out.f b hg; omega)
    have HO3 := Lib.hid ((U.2.block _ (blk_lt HO2.out) (fun hg => by have := HT.out.f _ hg; omega)).trans HO2.out)
    have HP3 := Lib.hid (HP2.out.fr U.2 fun b hb => HNN.out b (Or.inl hb))
    clear U c0 c2 c3 c4
    have c4 : w3.cell? ⟨w.heap.size, 4, none⟩ = some (.slice B q c) := cell_blk HO3.out 4 rfl
    have HK := Lib.hid (kept_any (c0 := c) HX3.out HP3.out.src (by rw [HQL.out]; omega))
    rw [HQL.out] at HK
    go_wp2_with (fail)
    refine HK.out.mono ?_
    rintro e w4 ⟨rfl, B4⟩
    have HB4 := Lib.hid B4
    have CS := Lib.hid (spoil_any (HY3.out.blw B4) HB.out (by rw [HQL.out]; omega))
    clear HK B4
    go_wp2_with (fail)
    refine CS.out.mono ?_
    rintro e w5 ⟨rfl, _, F5, S5⟩
    have HF5 := Lib.hid F5
    clear F5 S5 CS
    go_wp2_with (fail)
    go_ret
    exact PutsP.mk HT.out HB1.out HQ.out HU.out ((HS.out.numG hn).le (by unfold growN; simp)) ((Fr.below (fun b => w.heap.size + 1 ≤ b ∧ b < w1.heap.size) HB4.out).trans HF5.out fun _ _ h => h) fun b hb => ⟨by omega, hb.2⟩
  ·
    subst hk
    go_enter Try.func37, Try.ntmps37
    go_wp2_with (fail)
    rw [HQL.out] at HA
    refine LE.out.mono ?_
    rintro e w1 ⟨x, rfl, L1, B1⟩
    have HB1 := Lib.hid (HA.out.trans (B1.mono HA.out.size))
    have HO := Lib.hid (blk_below HBO.out B1)
    have HX := Lib.hid (show LentB w1 (w.heap.size + 1) x p from by rw [← HSZ.out, HQL.out]; exact L1)
    clear L1 B1 LE
    have c0 : w1.cell? ⟨w.heap.size, 0, none⟩ = some (.int .i64 _) := cell_blk HO.out 0 rfl
    have c2 : w1.cell? ⟨w.heap.size, 2, none⟩ = some (.int .u64 n) := cell_blk HO.out 2 rfl
    have c3 : w1.cell? ⟨w.heap.size, 3, none⟩ = some (.int .i64 i) := cell_blk HO.out 3 rfl
    have c4 : w1.cell? ⟨w.heap.size, 4, none⟩ = some (.slice B q c) := cell_blk HO.out 4 rfl
    have HL1 := Lib.hid (HL.out.below HB1.out)
    have HM1 := Lib.hid (HM.out.below HB1.out)
    go_wp2_with (fail)
    refine (refWInt_any HM1.out HS.out i i0 i1 (by omega)).mono ?_
    rintro e w2 ⟨rfl, U⟩
    have HQ := Lib.hid U
    have HR2 := Lib.hid (HL1.out.same fun b hb hl => U.2.block b hl fun h => HT.out.no b hb h)
    have HX2 := Lib.hid (HX.out.other U.2 fun b hb hg => by have := HT.out.g b hg; omega)
    have HY2 := Lib.hid (HX.out.newIn.frr U.2 fun b hb _ hg => by have := HT.out.g b hg; omega)
    have HO2 := Lib.hid ((U.2.block _ (blk_lt HO.out) (fun hg => by have := HT.out.g _ hg; omega)).trans HO.out)
    have HP2 := Lib.hid ((HP.out.below HB1.out).fr U.2 fun b hb => HNN.out b (Or.inr hb))
    clear U c0 c2 c3 c4
    have c0 : w2.cell? ⟨w.heap.size, 0, none⟩ = some (.int .i64 _) := cell_blk HO2.out 0 rfl
    have c2 : w2.cell? ⟨w.heap.size, 2, none⟩ = some (.int .u64 n) := cell_blk HO2.out 2 rfl
    have c3 : w2.cell? ⟨w.heap.size, 3, none⟩ = some (.int .i64 i) := cell_blk HO2.out 3 rfl
    have c4 : w2.cell? ⟨w.heap.size, 4, none⟩ = some (.slice B q c) := cell_blk HO2.out 4 rfl
    go_wp2_with (fail)
    refine (wInt_any HR2.out HS.out i i0 i1 (by omega)).mono ?_
    rintro e w3 ⟨rfl, U⟩
    have HU := Lib.hid U
    have HX3 := Lib.hid (HX2.out.other U.2 fun b hb hg => by have := HT.out.f b hg; omega)
    have HY3 := Lib.hid (HY2.out.frr U.2 fun b hb _ hg => by have := HT.out.f b hg; omega)
    have HO3 := Lib.hid ((U.2.block _ (blk_lt HO2.out) (fun hg => by have := HT.out.f _ hg; omega)).trans HO2.out)
    have HP3 := Lib.hid (HP2.out.fr U.2 fun b hb => HNN.out b (Or.inl hb))
    clear U c0 c2 c3 c4
    have c4 : w3.cell? ⟨w.heap.size, 4, none⟩ = some (.slice B q c) := cell_blk HO3.out 4 rfl
    have HK := Lib.hid (kept_any (c0 := c) HX3.out HP3.out.src (by rw [HQL.out]; omega))
    rw [HQL.out] at HK
    go_wp2_with (fail)
    refine HK.out.mono ?_
    rintro e w4 ⟨rfl, B4⟩
    have HB4 := Lib.hid B4
    have CS := Lib.hid (spoil_any (HY3.out.blw B4) HB.out (by rw [HQL.out]; omega))
    clear HK B4
    go_wp2_with (fail)
    refine CS.out.mono ?_
    rintro e w5 ⟨rfl, _, F5, S5⟩
    have HF5 := Lib.hid F5
    clear F5 S5 CS
    go_wp2_with (fail)
    go_ret
    exact PutsP.mk HT.out HB1.out HQ.out HU.out ((HS.out.intG i0 i1).le (by unfold growN; simp)) ((Fr.below (fun b => w.heap.size + 1 ≤ b ∧ b < w1.heap.size) HB4.out).trans HF5.out fun _ _ h => h) fun b hb => ⟨by omega, hb.2⟩
  ·
    have hcf : ∀ (b : Int) w, (callFunc 26 #[.int .u64 b]).run Try.prog w = .ok (.value (.float .f64 b.toNat)) w := fun b w => by
      rw [run_callFunc_extern Try.func26 (by kernel_rfl) (by kernel_rfl) (by kernel_rfl) (e := Extern.MathFloatBits.float64frombits) (by kernel_rfl)]
      rfl
    subst hk
    go_enter Try.func37, Try.ntmps37
    go_wp2_with (fail)
    rw [HQL.out] at HA
    refine LE.out.mono ?_
    rintro e w1 ⟨x, rfl, L1, B1⟩
    have HB1 := Lib.hid (HA.out.trans (B1.mono HA.out.size))
    have HO := Lib.hid (blk_below HBO.out B1)
    have HX := Lib.hid (show LentB w1 (w.heap.size + 1) x p from by rw [← HSZ.out, HQL.out]; exact L1)
    clear L1 B1 LE
    have c0 : w1.cell? ⟨w.heap.size, 0, none⟩ = some (.int .i64 _) := cell_blk HO.out 0 rfl
    have c2 : w1.cell? ⟨w.heap.size, 2, none⟩ = some (.int .u64 n) := cell_blk HO.out 2 rfl
    have c3 : w1.cell? ⟨w.heap.size, 3, none⟩ = some (.int .i64 i) := cell_blk HO.out 3 rfl
    have c4 : w1.cell? ⟨w.heap.size, 4, none⟩ = some (.slice B q c) := cell_blk HO.out 4 rfl
    have HL1 := Lib.hid (HL.out.below HB1.out)
    have HM1 := Lib.hid (HM.out.below HB1.out)
    go_wp2_with (fail)
    refine (refWReal_any HM1.out HS.out n hn (by omega)).mono ?_
    rintro e w2 ⟨rfl, U⟩
    have HQ := Lib.hid U
    have HR2 := Lib.hid (HL1.out.same fun b hb hl => U.2.block b hl fun h => HT.out.no b hb h)
    have HX2 := Lib.hid (HX.out.other U.2 fun b hb hg => by have := HT.out.g b hg; omega)
    have HY2 := Lib.hid (HX.out.newIn.frr U.2 fun b hb _ hg => by have := HT.out.g b hg; omega)
    have HO2 := Lib.hid ((U.2.block _ (blk_lt HO.out) (fun hg => by have := HT.out.g _ hg; omega)).trans HO.out)
    have HP2 := Lib.hid ((HP.out.below HB1.out).fr U.2 fun b hb => HNN.out b (Or.inr hb))
    clear U c0 c2 c3 c4
    have c0 : w2.cell? ⟨w.heap.size, 0, none⟩ = some (.int .i64 _) := cell_blk HO2.out 0 rfl
    have c2 : w2.cell? ⟨w.heap.size, 2, none⟩ = some (.int .u64 n) := cell_blk HO2.out 2 rfl
    have c3 : w2.cell? ⟨w.heap.size, 3, none⟩ = some (.int .i64 i) := cell_blk HO2.out 3 rfl
    have c4 : w2.cell? ⟨w.heap.size, 4, none⟩ = some (.slice B q c) := cell_blk HO2.out 4 rfl
    go_wp2_with (fail)
    refine (wReal_any HR2.out HS.out n hn (by omega)).mono ?_
    rintro e w3 ⟨rfl, U⟩
    have HU := Lib.hid U
    have HX3 := Lib.hid (HX2.out.other U.2 fun b hb hg => by have := HT.out.f b hg; omega)
    have HY3 := Lib.hid (HY2.out.frr U.2 fun b hb _ hg => by have := HT.out.f b hg; omega)
    have HO3 := Lib.hid ((U.2.block _ (blk_lt HO2.out) (fun hg => by have := HT.out.f _ hg; omega)).trans HO2.out)
    have HP3 := Lib.hid (HP2.out.fr U.2 fun b hb => HNN.out b (Or.inl hb))
    clear U c0 c2 c3 c4
    have c4 : w3.cell? ⟨w.heap.size, 4, none⟩ = some (.slice B q c) := cell_blk HO3.out 4 rfl
    have HK := Lib.hid (kept_any (c0 := c) HX3.out HP3.out.src (by rw [HQL.out]; omega))
    rw [HQL.out] at HK
    go_wp2_with (fail)
    refine HK.out.mono ?_
    rintro e w4 ⟨rfl, B4⟩
    have HB4 := Lib.hid B4
    have CS := Lib.hid (spoil_any (HY3.out.blw B4) HB.out (by rw [HQL.out]; omega))
    clear HK B4
    go_wp2_with (fail)
    refine CS.out.mono ?_
    rintro e w5 ⟨rfl, _, F5, S5⟩
    have HF5 := Lib.hid F5
    clear F5 S5 CS
    go_wp2_with (fail)
    go_ret
    exact PutsP.mk HT.out HB1.out HQ.out HU.out ((HS.out.realG n).le (by unfold growN; simp)) ((Fr.below (fun b => w.heap.size + 1 ≤ b ∧ b < w1.heap.size) HB4.out).trans HF5.out fun _ _ h => h) fun b hb => ⟨by omega, hb.2⟩
  ·
    subst hk
    go_enter Try.func37, Try.ntmps37
    go_wp2_with (fail)
    rw [HQL.out] at HA
    refine LE.out.mono ?_
    rintro e w1 ⟨x, rfl, L1, B1⟩
    have HB1 := Lib.hid (HA.out.trans (B1.mono HA.out.size))
    have HO := Lib.hid (blk_below HBO.out B1)
    have HX := Lib.hid (show LentB w1 (w.heap.size + 1) x p from by rw [← HSZ.out, HQL.out]; exact L1)
    clear L1 B1 LE
    have c0 : w1.cell? ⟨w.heap.size, 0, none⟩ = some (.int .i64 _) := cell_blk HO.out 0 rfl
    have c2 : w1.cell? ⟨w.heap.size, 2, none⟩ = some (.int .u64 n) := cell_blk HO.out 2 rfl
    have c3 : w1.cell? ⟨w.heap.size, 3, none⟩ = some (.int .i64 i) := cell_blk HO.out 3 rfl
    have c4 : w1.cell? ⟨w.heap.size, 4, none⟩ = some (.slice B q c) := cell_blk HO.out 4 rfl
    have HL1 := Lib.hid (HL.out.below HB1.out)
    have HM1 := Lib.hid (HM.out.below HB1.out)
    go_wp2_with (fail)
    have CQ := refRaw_any (cc := c) HM1.out HS.out (HP.out.below HB1.out).src (fun g' o e hne hg => by have := HP.out.2.2 hne g' o e; have := HNN.out _ (Or.inr hg); omega) (by rw [HQL.out]; omega)
    rw [HQL.out] at CQ
    have CQ := Lib.hid CQ
    refine CQ.out.mono ?_
    rintro e w2 ⟨rfl, U⟩
    have HQ := Lib.hid U
    have HR2 := Lib.hid (HL1.out.same fun b hb hl => U.2.block b hl fun h => HT.out.no b hb h)
    have HX2 := Lib.hid (HX.out.other U.2 fun b hb hg => by have := HT.out.g b hg; omega)
    have HY2 := Lib.hid (HX.out.newIn.frr U.2 fun b hb _ hg => by have := HT.out.g b hg; omega)
    have HO2 := Lib.hid ((U.2.block _ (blk_lt HO.out) (fun hg => by have := HT.out.g _ hg; omega)).trans HO.out)
    have HP2 := Lib.hid ((HP.out.below HB1.out).fr U.2 fun b hb => HNN.out b (Or.inr hb))
    clear U c0 c2 c3 c4 CQ
    have CR := wRaw_any (cc := x.2.2) HR2.out HS.out HX2.out.src (by rw [HQL.out]; omega)
    rw [← HX2.out.len] at CR
    have CR := Lib.hid CR
    go_wp2_with (fail)
    refine CR.out.mono ?_
    rintro e w3 ⟨rfl, U⟩
    have HU := Lib.hid U
    have HX3 := Lib.hid (HX2.out.other U.2 fun b hb hg => by have := HT.out.f b hg; omega)
    have HY3 := Lib.hid (HY2.out.frr U.2 fun b hb _ hg => by have := HT.out.f b hg; omega)
    have HO3 := Lib.hid ((U.2.block _ (blk_lt HO2.out) (fun hg => by have := HT.out.f _ hg; omega)).trans HO2.out)
    have HP3 := Lib.hid (HP2.out.fr U.2 fun b hb => HNN.out b (Or.inl hb))
    clear U CR
    have c4 : w3.cell? ⟨w.heap.size, 4, none⟩ = some (.slice B q c) := cell_blk HO3.out 4 rfl
    have HK := Lib.hid (kept_any (c0 := c) HX3.out HP3.out.src (by rw [HQL.out]; omega))
    rw [HQL.out] at HK
    go_wp2_with (fail)
    refine HK.out.mono ?_
    rintro e w4 ⟨rfl, B4⟩
    have HB4 := Lib.hid B4
    have CS := Lib.hid (spoil_any (HY3.out.blw B4) HB.out (by rw [HQL.out]; omega))
    clear HK B4
    go_wp2_with (fail)
    refine CS.out.mono ?_
    rintro e w5 ⟨rfl, _, F5, S5⟩
    have HF5 := Lib.hid F5
    clear F5 S5 CS
    go_wp2_with (fail)
    go_ret
    exact PutsP.mk HT.out HB1.out HQ.out HU.out ((HS.out.rawG HB.out).le (by unfold growN; simp)) ((Fr.below (fun b => w.heap.size + 1 ≤ b ∧ b < w1.heap.size) HB4.out).trans HF5.out fun _ _ h => h) fun b hb => ⟨by omega, hb.2⟩
  ·
    subst hk
    go_enter Try.func37, Try.ntmps37
    go_wp2_with (fail)
    rw [HQL.out] at HA
    refine LE.out.mono ?_
    rintro e w1 ⟨x, rfl, L1, B1⟩
    have HB1 := Lib.hid (HA.out.trans (B1.mono HA.out.size))
    have HO := Lib.hid (blk_below HBO.out B1)
    have HX := Lib.hid (show LentB w1 (w.heap.size + 1) x p from by rw [← HSZ.out, HQL.out]; exact L1)
    clear L1 B1 LE
    have c0 : w1.cell? ⟨w.heap.size, 0, none⟩ = some (.int .i64 _) := cell_blk HO.out 0 rfl
    have c2 : w1.cell? ⟨w.heap.size, 2, none⟩ = some (.int .u64 n) := cell_blk HO.out 2 rfl
    have c3 : w1.cell? ⟨w.heap.size, 3, none⟩ = some (.int .i64 i) := cell_blk HO.out 3 rfl
    have c4 : w1.cell? ⟨w.heap.size, 4, none⟩ = some (.slice B q c) := cell_blk HO.out 4 rfl
    have HL1 := Lib.hid (HL.out.below HB1.out)
    have HM1 := Lib.hid (HM.out.below HB1.out)
    go_wp2_with (fail)
    have CQ := refText_any (cc := c) HM1.out HS.out (HP.out.below HB1.out).src (by rw [HQL.out]; omega)
    rw [HQL.out] at CQ
    have CQ := Lib.hid CQ
    refine CQ.out.mono ?_
    rintro e w2 ⟨rfl, U⟩
    have HQ := Lib.hid U
    have HR2 := Lib.hid (HL1.out.same fun b hb hl => U.2.block b hl fun h => HT.out.no b hb h)
    have HX2 := Lib.hid (HX.out.other U.2 fun b hb hg => by have := HT.out.g b hg; omega)
    have HY2 := Lib.hid (HX.out.newIn.frr U.2 fun b hb _ hg => by have := HT.out.g b hg; omega)
    have HO2 := Lib.hid ((U.2.block _ (blk_lt HO.out) (fun hg => by have := HT.out.g _ hg; omega)).trans HO.out)
    have HP2 := Lib.hid ((HP.out.below HB1.out).fr U.2 fun b hb => HNN.out b (Or.inr hb))
    clear U c0 c2 c3 c4 CQ
    have CR := wText_any (cc := x.2.2) HR2.out HS.out HX2.out.src (by rw [HQL.out]; omega)
    rw [← HX2.out.len] at CR
    have CR := Lib.hid CR
    go_wp2_with (fail)
    refine CR.out.mono ?_
    rintro e w3 ⟨rfl, U⟩
    have HU := Lib.hid U
    have HX3 := Lib.hid (HX2.out.other U.2 fun b hb hg => by have := HT.out.f b hg; omega)
    have HY3 := Lib.hid (HY2.out.frr U.2 fun b hb _ hg => by have := HT.out.f b hg; omega)
    have HO3 := Lib.hid ((U.2.block _ (blk_lt HO2.out) (fun hg => by have := HT.out.f _ hg; omega)).trans HO2.out)
    have HP3 := Lib.hid (HP2.out.fr U.2 fun b hb => HNN.out b (Or.inl hb))
    clear U CR
    have c4 : w3.cell? ⟨w.heap.size, 4, none⟩ = some (.slice B q c) := cell_blk HO3.out 4 rfl
    have HK := Lib.hid (kept_any (c0 := c) HX3.out HP3.out.src (by rw [HQL.out]; omega))
    rw [HQL.out] at HK
    go_wp2_with (fail)
    refine HK.out.mono ?_
    rintro e w4 ⟨rfl, B4⟩
    have HB4 := Lib.hid B4
    have CS := Lib.hid (spoil_any (HY3.out.blw B4) HB.out (by rw [HQL.out]; omega))
    clear HK B4
    go_wp2_with (fail)
    refine CS.out.mono ?_
    rintro e w5 ⟨rfl, _, F5, S5⟩
    have HF5 := Lib.hid F5
    clear F5 S5 CS
    go_wp2_with (fail)
    go_ret
    exact PutsP.mk HT.out HB1.out HQ.out HU.out ((HS.out.textG HB.out (by rw [HQL.out]; omega)).le (by unfold growN; simp)) ((Fr.below (fun b => w.heap.size + 1 ≤ b ∧ b < w1.heap.size) HB4.out).trans HF5.out fun _ _ h => h) fun b hb => ⟨by omega, hb.2⟩
  ·
    subst hk
    go_enter Try.func37, Try.ntmps37
    go_wp2_with (fail)
    rw [HQL.out] at HA
    refine LE.out.mono ?_
    rintro e w1 ⟨x, rfl, L1, B1⟩
    have HB1 := Lib.hid (HA.out.trans (B1.mono HA.out.size))
    have HO := Lib.hid (blk_below HBO.out B1)
    have HX := Lib.hid (show LentB w1 (w.heap.size + 1) x p from by rw [← HSZ.out, HQL.out]; exact L1)
    clear L1 B1 LE
    have c0 : w1.cell? ⟨w.heap.size, 0, none⟩ = some (.int .i64 _) := cell_blk HO.out 0 rfl
    have c2 : w1.cell? ⟨w.heap.size, 2, none⟩ = some (.int .u64 n) := cell_blk HO.out 2 rfl
    have c3 : w1.cell? ⟨w.heap.size, 3, none⟩ = some (.int .i64 i) := cell_blk HO.out 3 rfl
    have c4 : w1.cell? ⟨w.heap.size, 4, none⟩ = some (.slice B q c) := cell_blk HO.out 4 rfl
    have HL1 := Lib.hid (HL.out.below HB1.out)
    have HM1 := Lib.hid (HM.out.below HB1.out)
    go_wp2_with (fail)
    refine (refOpen_any HM1.out HS.out.deep).mono ?_
    rintro e w2 ⟨rfl, U⟩
    have HQ := Lib.hid U
    have HR2 := Lib.hid (HL1.out.same fun b hb hl => U.2.block b hl fun h => HT.out.no b hb h)
    have HX2 := Lib.hid (HX.out.other U.2 fun b hb hg => by have := HT.out.g b hg; omega)
    have HY2 := Lib.hid (HX.out.newIn.frr U.2 fun b hb _ hg => by have := HT.out.g b hg; omega)
    have HO2 := Lib.hid ((U.2.block _ (blk_lt HO.out) (fun hg => by have := HT.out.g _ hg; omega)).trans HO.out)
    have HP2 := Lib.hid ((HP.out.below HB1.out).fr U.2 fun b hb => HNN.out b (Or.inr hb))
    clear U c0 c2 c3 c4
    have c0 : w2.cell? ⟨w.heap.size, 0, none⟩ = some (.int .i64 _) := cell_blk HO2.out 0 rfl
    have c2 : w2.cell? ⟨w.heap.size, 2, none⟩ = some (.int .u64 n) := cell_blk HO2.out 2 rfl
    have c3 : w2.cell? ⟨w.heap.size, 3, none⟩ = some (.int .i64 i) := cell_blk HO2.out 3 rfl
    have c4 : w2.cell? ⟨w.heap.size, 4, none⟩ = some (.slice B q c) := cell_blk HO2.out 4 rfl
    go_wp2_with (fail)
    refine (wOpen_any HR2.out HS.out.deep).mono ?_
    rintro e w3 ⟨rfl, U⟩
    have HU := Lib.hid U
    have HX3 := Lib.hid (HX2.out.other U.2 fun b hb hg => by have := HT.out.f b hg; omega)
    have HY3 := Lib.hid (HY2.out.frr U.2 fun b hb _ hg => by have := HT.out.f b hg; omega)
    have HO3 := Lib.hid ((U.2.block _ (blk_lt HO2.out) (fun hg => by have := HT.out.f _ hg; omega)).trans HO2.out)
    have HP3 := Lib.hid (HP2.out.fr U.2 fun b hb => HNN.out b (Or.inl hb))
    clear U c0 c2 c3 c4
    have c4 : w3.cell? ⟨w.heap.size, 4, none⟩ = some (.slice B q c) := cell_blk HO3.out 4 rfl
    have HK := Lib.hid (kept_any (c0 := c) HX3.out HP3.out.src (by rw [HQL.out]; omega))
    rw [HQL.out] at HK
    go_wp2_with (fail)
    refine HK.out.mono ?_
    rintro e w4 ⟨rfl, B4⟩
    have HB4 := Lib.hid B4
    have CS := Lib.hid (spoil_any (HY3.out.blw B4) HB.out (by rw [HQL.out]; omega))
    clear HK B4
    go_wp2_with (fail)
    refine CS.out.mono ?_
    rintro e w5 ⟨rfl, _, F5, S5⟩
    have HF5 := Lib.hid F5
    clear F5 S5 CS
    go_wp2_with (fail)
    go_ret
    exact PutsP.mk HT.out HB1.out HQ.out HU.out (HS.out.openG.le (by unfold growN; simp)) ((Fr.below (fun b => w.heap.size + 1 ≤ b ∧ b < w1.heap.size) HB4.out).trans HF5.out fun _ _ h => h) fun b hb => ⟨by omega, hb.2⟩
  ·
    subst hk
    go_enter Try.func37, Try.ntmps37
    go_wp2_with (fail)
    rw [HQL.out] at HA
    refine LE.out.mono ?_
    rintro e w1 ⟨x, rfl, L1, B1⟩
    have HB1 := Lib.hid (HA.out.trans (B1.mono HA.out.size))
    have HO := Lib.hid (blk_below HBO.out B1)
    have HX := Lib.hid (show LentB w1 (w.heap.size + 1) x p from by rw [← HSZ.out, HQL.out]; exact L1)
    clear L1 B1 LE
    have c0 : w1.cell? ⟨w.heap.size, 0, none⟩ = some (.int .i64 _) := cell_blk HO.out 0 rfl
    have c2 : w1.cell? ⟨w.heap.size, 2, none⟩ = some (.int .u64 n) := cell_blk HO.out 2 rfl
    have c3 : w1.cell? ⟨w.heap.size, 3, none⟩ = some (.int .i64 i) := cell_blk HO.out 3 rfl
    have c4 : w1.cell? ⟨w.heap.size, 4, none⟩ = some (.slice B q c) := cell_blk HO.out 4 rfl
    have HL1 := Lib.hid (HL.out.below HB1.out)
    have HM1 := Lib.hid (HM.out.below HB1.out)
    go_wp2_with (fail)
    refine (refWClose_any HM1.out HS.out (by omega)).mono ?_
    rintro e w2 ⟨rfl, U⟩
    have HQ := Lib.hid U
    have HR2 := Lib.hid (HL1.out.same fun b hb hl => U.2.block b hl fun h => HT.out.no b hb h)
    have HX2 := Lib.hid (HX.out.other U.2 fun b hb hg => by have := HT.out.g b hg; omega)
    have HY2 := Lib.hid (HX.out.newIn.frr U.2 fun b hb _ hg => by have := HT.out.g b hg; omega)
    have HO2 := Lib.hid ((U.2.block _ (blk_lt HO.out) (fun hg => by have := HT.out.g _ hg; omega)).trans HO.out)
    have HP2 := Lib.hid ((HP.out.below HB1.out).fr U.2 fun b hb => HNN.out b (Or.inr hb))
    clear U c0 c2 c3 c4
    have c0 : w2.cell? ⟨w.heap.size, 0, none⟩ = some (.int .i64 _) := cell_blk HO2.out 0 rfl
    have c2 : w2.cell? ⟨w.heap.size, 2, none⟩ = some (.int .u64 n) := cell_blk HO2.out 2 rfl
    have c3 : w2.cell? ⟨w.heap.size, 3, none⟩ = some (.int .i64 i) := cell_blk HO2.out 3 rfl
    have c4 : w2.cell? ⟨w.heap.size, 4, none⟩ = some (.slice B q c) := cell_blk HO2.out 4 rfl
    go_wp2_with (fail)
    refine (wClose_any HR2.out HS.out (by omega)).mono ?_
    rintro e w3 ⟨rfl, U⟩
    have HU := Lib.hid U
    have HX3 := Lib.hid (HX2.out.other U.2 fun b hb hg => by have := HT.out.f b hg; omega)
    have HY3 := Lib.hid (HY2.out.frr U.2 fun b hb _ hg => by have := HT.out.f b hg; omega)
    have HO3 := Lib.hid ((U.2.block _ (blk_lt HO2.out) (fun hg => by have := HT.out.f _ hg; omega)).trans HO2.out)
    have HP3 := Lib.hid (HP2.out.fr U.2 fun b hb => HNN.out b (Or.inl hb))
    clear U c0 c2 c3 c4
    have c4 : w3.cell? ⟨w.heap.size, 4, none⟩ = some (.slice B q c) := cell_blk HO3.out 4 rfl
    have HK := Lib.hid (kept_any (c0 := c) HX3.out HP3.out.src (by rw [HQL.out]; omega))
    rw [HQL.out] at HK
    go_wp2_with (fail)
    refine HK.out.mono ?_
    rintro e w4 ⟨rfl, B4⟩
    have HB4 := Lib.hid B4
    have CS := Lib.hid (spoil_any (HY3.out.blw B4) HB.out (by rw [HQL.out]; omega))
    clear HK B4
    go_wp2_with (fail)
    refine CS.out.mono ?_
    rintro e w5 ⟨rfl, _, F5, S5⟩
    have HF5 := Lib.hid F5
    clear F5 S5 CS
    go_wp2_with (fail)
    go_ret
    exact PutsP.mk HT.out HB1.out HQ.out HU.out ((HS.out.closeG (by omega)).le (by unfold growN; simp)) ((Fr.below (fun b => w.heap.size + 1 ≤ b ∧ b < w1.heap.size) HB4.out).trans HF5.out fun _ _ h => h) fun b hb => ⟨by omega, hb.2⟩
  · subst hk
    go_enter Try.func37, Try.ntmps37
    go_wp2_with (fail)
    rw [HQL.out] at HA
    refine LE.out.mono ?_
    rintro e w1 ⟨x, rfl, L1, B1⟩
    have HB1 := Lib.hid (HA.out.trans (B1.mono HA.out.size))
    have HO := Lib.hid (blk_below HBO.out B1)
    have HX := Lib.hid (show LentB w1 (w.heap.size + 1) x p from by rw [← HSZ.out, HQL.out]; exact L1)
    clear L1 B1 LE
    have c0 : w1.cell? ⟨w.heap.size, 0, none⟩ = some (.int .i64 _) := cell_blk HO.out 0 rfl
    have c2 : w1.cell? ⟨w.heap.size, 2, none⟩ = some (.int .u64 n) := cell_blk HO.out 2 rfl
    have c3 : w1.cell? ⟨w.heap.size, 3, none⟩ = some (.int .i64 i) := cell_blk HO.out 3 rfl
    have c4 : w1.cell? ⟨w.heap.size, 4, none⟩ = some (.slice B q c) := cell_blk HO.out 4 rfl
    have HL1 := Lib.hid (HL.out.below HB1.out)
    have HM1 := Lib.hid (HM.out.below HB1.out)
    go_wp2_with (fail)
    refine (refLen_any HM1.out).mono ?_
    rintro e w_ ⟨rfl, rfl⟩
    go_wp2_with (fail)
    refine (wLen_any HL1.out).mono ?_
    rintro e w_ ⟨rfl, rfl⟩
    go_wp2_with (fail)
    go_ret
    exact PutsP.none_ HT.out HL.out HM.out HS.out HB1.out
  · subst hk
    have HDB := Lib.hid (show Byt s.done.1 ∧ s.done.1.length ≤ s.bs.length from by
      unfold WS.done
      split
      · split
        · exact ⟨HS.out.byte, Nat.le_refl _⟩
        · exact ⟨fun x hx => (by cases hx), by simp⟩
      · exact ⟨fun x hx => (by cases hx), by simp⟩)
    go_enter Try.func37, Try.ntmps37
    go_wp2_with (fail)
    rw [HQL.out] at HA
    refine LE.out.mono ?_
    rintro e w1 ⟨x, rfl, L1, B1⟩
    have HB1 := Lib.hid (HA.out.trans (B1.mono HA.out.size))
    have HO := Lib.hid (blk_below HBO.out B1)
    have HX := Lib.hid (show LentB w1 (w.heap.size + 1) x p from by rw [← HSZ.out, HQL.out]; exact L1)
    clear L1 B1 LE
    have c0 : w1.cell? ⟨w.heap.size, 0, none⟩ = some (.int .i64 _) := cell_blk HO.out 0 rfl
    have c2 : w1.cell? ⟨w.heap.size, 2, none⟩ = some (.int .u64 n) := cell_blk HO.out 2 rfl
    have c3 : w1.cell? ⟨w.heap.size, 3, none⟩ = some (.int .i64 i) := cell_blk HO.out 3 rfl
    have c4 : w1.cell? ⟨w.heap.size, 4, none⟩ = some (.slice B q c) := cell_blk HO.out 4 rfl
    have HL1 := Lib.hid (HL.out.below HB1.out)
    have HM1 := Lib.hid (HM.out.below HB1.out)
    go_wp2_with (fail)
    refine (refDone_any HM1.out (by omega)).mono ?_
    intro e w2 hD
    have HD2 := Lib.hid (fun w2 (h : Below w1.heap.size w1 w2) => wDone_any (HL1.out.below h) (by omega : s.bs.length ≤ 140737488355328))
    unfold RefDoneP at hD
    have HG := fun (e : Ending) (w2 w3 : World) (h : DoneP w2 s e w3) => h.gives
    have HG := Lib.hid HG
    generalize s.done = dn at *
    obtain ⟨D, fe⟩ := dn
    obtain ⟨A, c', rfl, GR, B2⟩ := hD
    simp only at GR HDB ⊢
    obtain ⟨dl, hdl⟩ : ∃ dl, D.length = dl := ⟨_, rfl⟩
    have HDL := Lib.hid hdl
    rw [hdl]
    have HB2 := Lib.hid (HB1.out.trans (B2.mono HB1.out.size))
    have HGR := Lib.hid GR
    have CW := Lib.hid (HD2.out w2 B2)
    clear GR B2 HD2 hdl
    go_wp2_with (fail)
    refine CW.out.mono ?_
    intro e w3 hD
    obtain ⟨A3, c3', rfl, RB, B3⟩ := HG.out _ _ _ hD
    simp only at RB ⊢
    have HNB := Lib.hid (show NewIn w3 w2.heap.size w3.heap.size (A3, dl, c3') D from ⟨HDL.out.symm, RB⟩)
    rw [HDL.out]
    have HB3 := Lib.hid (HB2.out.trans (B3.mono HB2.out.size))
    have CA := same_any (c := c3') (c' := c') HNB.out.src (HGR.out.srcB.below B3) (by have := HDB.out.2; omega) (by have := HDB.out.2; omega)
    rw [decide_eq_true rfl, HDL.out] at CA
    have CA := Lib.hid CA
    clear hD RB B3 CW HG
    go_wp2_with (fail)
    refine CA.out.mono ?_
    rintro e w4 ⟨rfl, B4⟩
    have HB4 := Lib.hid (HB3.out.trans (B4.mono HB3.out.size))
    have CS := Lib.hid (spoil_any (HNB.out.blw B4) HDB.out.1 (by have := HDB.out.2; omega))
    clear CA B4
    go_wp2_with (fail)
    refine CS.out.mono ?_
    rintro e w5 ⟨rfl, _, F5, S5⟩
    have HB5 := Lib.hid (HB4.out.trans (F5.toBelow (n := w.heap.size) (fun x hx => Nat.le_trans HB2.out.size hx.1) HB4.out.size))
    clear F5 S5 CS
    go_wp2_with (fail)
    go_ret
    exact PutsP.none_ HT.out HL.out HM.out HS.out HB5.out
  · obtain ⟨n1, n2, n3, n4, n5, n6, n7, n8, n9, n10, n11⟩ := hk
    have z1 : (kd == 1) = false := by simpa using n1
    have z2 : (kd == 2) = false := by simpa using n2
    have z3 : (kd == 3) = false := by simpa using n3
    have z4 : (kd == 4) = false := by simpa using n4
    have z5 : (kd == 5) = false := by simpa using n5
    have z6 : (kd == 6) = false := by simpa using n6
    have z7 : (kd == 7) = false := by simpa using n7
    have z8 : (kd == 8) = false := by simpa using n8
    have z9 : (kd == 9) = false := by simpa using n9
    have z10 : (kd == 10) = false := by simpa using n10
    have z11 : (kd == 11) = false := by simpa using n11
    clear n1 n2 n3 n4 n5 n6 n7 n8 n9 n10 n11
    go_enter Try.func37, Try.ntmps37
    go_wp2_with (fail)
    rw [HQL.out] at HA
    refine LE.out.mono ?_
    rintro e w1 ⟨x, rfl, L1, B1⟩
    have HB1 := Lib.hid (HA.out.trans (B1.mono HA.out.size))
    have HO := Lib.hid (blk_below HBO.out B1)
    have HX := Lib.hid (show LentB w1 (w.heap.size + 1) x p from by rw [← HSZ.out, HQL.out]; exact L1)
    clear L1 B1 LE
    have c0 : w1.cell? ⟨w.heap.size, 0, none⟩ = some (.int .i64 _) := cell_blk HO.out 0 rfl
    have c2 : w1.cell? ⟨w.heap.size, 2, none⟩ = some (.int .u64 n) := cell_blk HO.out 2 rfl
    have c3 : w1.cell? ⟨w.heap.size, 3, none⟩ = some (.int .i64 i) := cell_blk HO.out 3 rfl
    have c4 : w1.cell? ⟨w.heap.size, 4, none⟩ = some (.slice B q c) := cell_blk HO.out 4 rfl
    have HL1 := Lib.hid (HL.out.below HB1.out)
    have HM1 := Lib.hid (HM.out.below HB1.out)
    go_wp2_with (fail)
    have HK := Lib.hid (kept_any (c0 := c) HX.out (HP.out.below HB1.out).src (by rw [HQL.out]; omega))
    rw [HQL.out] at HK
    go_wp2_with (fail)
    refine HK.out.mono ?_
    rintro e w4 ⟨rfl, B4⟩
    have HB4 := Lib.hid B4
    have CS := Lib.hid (spoil_any (HX.out.newIn.blw B4) HB.out (by rw [HQL.out]; omega))
    clear HK B4
    go_wp2_with (fail)
    refine CS.out.mono ?_
    rintro e w5 ⟨rfl, _, F5, S5⟩
    have HF5 := Lib.hid F5
    clear F5 S5 CS
    go_wp2_with (fail)
    go_ret
    have FF := (Fr.below (fun b => w.heap.size + 1 ≤ b ∧ b < w1.heap.size) HB4.out).trans HF5.out fun _ _ h => h
    exact PutsP.none_ HT.out HL.out HM.out HS.out (HB1.out.trans (FF.toBelow (n := w.heap.size) (fun x hx => by omega) HB1.out.size))
set_option maxRecDepth 100000 in
set_option maxHeartbeats 16000000 in
theorem puts_nil {w : World} (kd wh i : Int) (n : Nat) (hn : n < 18446744073709551616) (i0 : -9223372036854775808 ≤ i) (i1 : i ≤ 9223372036854775807)
    {B : Option Addr} {c : Nat} {p : List Int} (hp : BSrc w B p) (hb : Byt p) (hl : 100 + p.length ≤ 140737488355000) :
    Calls Try.prog 37 #[.pointer none, .pointer none, .agg #[.int .i64 kd, .int .i64 wh, .int .u64 n, .int .i64 i, .slice B p.length c]] w fun e w' => e = .returned (.bool true) ∧ Below w.heap.size w w' := by
  have bA : Below w.heap.size w (w.alloc (.cells #[.int .i64 kd, .int .i64 wh, .int .u64 n, .int .i64 i, .slice B p.length c] 61)) := (Below.refl _ _).alloc (Nat.le_refl _) _
  have LE := Lib.hid (lent_any (c0 := c) (hp.below bA) (by omega))
  have HBO := Lib.hid (blk_new w (.cells #[.int .i64 kd, .int .i64 wh, .int .u64 n, .int .i64 i, .slice B p.length c] 61 (0, 0)))
  have HA := Lib.hid bA
  have HB := Lib.hid hb
  have HP := Lib.hid hp
  obtain ⟨q, hq⟩ : ∃ q, p.length = q := ⟨_, rfl⟩
  have HQL := Lib.hid hq
  rw [hq] at hl
  rw [hq] at LE HBO HA ⊢
  clear bA hb hp hq
  rcases (by omega : kd = 1 ∨ kd = 2 ∨ kd = 3 ∨ kd = 4 ∨ kd = 5 ∨ kd = 6 ∨ kd = 7 ∨ kd = 8 ∨ kd = 9 ∨ kd = 10 ∨ kd = 11 ∨ (kd ≠ 1 ∧ kd ≠ 2 ∧ kd ≠ 3 ∧ kd ≠ 4 ∧ kd ≠ 5 ∧ kd ≠ 6 ∧ kd ≠ 7 ∧ kd ≠ 8 ∧ kd ≠ 9 ∧ kd ≠ 10 ∧ kd ≠ 11)) with hk | hk | hk | hk | hk | hk | hk | hk | hk | hk | hk | hk
  ·
    subst hk
    go_enter Try.func37, Try.ntmps37
    go_wp2_with (fail)
    refine LE.out.mono ?_
    rintro e w1 ⟨x, rfl, L1, B1⟩
    have HB1 := Lib.hid (HA.out.trans (B1.mono HA.out.size))
    have HO := Lib.hid (blk_below HBO.out B1)
    have HX := Lib.hid L1
    have HP1 := Lib.hid (HP.out.below HB1.out)
    clear L1 B1 LE
    have c0 : w1.cell? ⟨w.heap.size, 0, none⟩ = some (.int .i64 _) := cell_blk HO.out 0 rfl
    have c2 : w1.cell? ⟨w.heap.size, 2, none⟩ = some (.int .u64 n) := cell_blk HO.out 2 rfl
    have c3 : w1.cell? ⟨w.heap.size, 3, none⟩ = some (.int .i64 i) := cell_blk HO.out 3 rfl
    have c4 : w1.cell? ⟨w.heap.size, 4, none⟩ = some (.slice B q c) := cell_blk HO.out 4 rfl
    go_wp2_with (fail)
    have CQ := Lib.hid (refByte_nil i w1)
    refine CQ.out.mono ?_
    rintro e w2 ⟨rfl, B2⟩
    have HB2 := Lib.hid (HB1.out.trans (B2.mono HB1.out.size))
    have HX2 := Lib.hid (HX.out.below B2)
    have HY2 := Lib.hid (HX.out.newIn.blw B2)
    have HO2 := Lib.hid (blk_below HO.out B2)
    have HP2 := Lib.hid (HP1.out.below B2)
    clear B2 CQ c0 c2 c3 c4
    have c0 : w2.cell? ⟨w.heap.size, 0, none⟩ = some (.int .i64 _) := cell_blk HO2.out 0 rfl
    have c2 : w2.cell? ⟨w.heap.size, 2, none⟩ = some (.int .u64 n) := cell_blk HO2.out 2 rfl
    have c3 : w2.cell? ⟨w.heap.size, 3, none⟩ = some (.int .i64 i) := cell_blk HO2.out 3 rfl
    have c4 : w2.cell? ⟨w.heap.size, 4, none⟩ = some (.slice B q c) := cell_blk HO2.out 4 rfl
    have CR := Lib.hid (wByte_nil w2 i)
    go_wp2_with (fail)
    refine CR.out.mono ?_
    rintro e w3 ⟨rfl, B3⟩
    have HB3 := Lib.hid (HB2.out.trans (B3.mono HB2.out.size))
    have HX3 := Lib.hid (HX2.out.below B3)
    have HY3 := Lib.hid (HY2.out.blw B3)
    have HO3 := Lib.hid (blk_below HO2.out B3)
    have HP3 := Lib.hid (HP2.out.below B3)
    clear B3 CR c0 c2 c3 c4
    have c4 : w3.cell? ⟨w.heap.size, 4, none⟩ = some (.slice B q c) := cell_blk HO3.out 4 rfl
    have HK := kept_any (c0 := c) HX3.out HP3.out (by rw [HQL.out]; omega)
    rw [HQL.out] at HK
    have HK := Lib.hid HK
    go_wp2_with (fail)
    refine HK.out.mono ?_
    rintro e w4 ⟨rfl, B4⟩
    have HB4 := Lib.hid (HB3.out.trans (B4.mono HB3.out.size))
    have CS := Lib.hid (spoil_any (HY3.out.blw B4) HB.out (by rw [HQL.out]; omega))
    clear HK B4
    go_wp2_with (fail)
    refine CS.out.mono ?_
    rintro e w5 ⟨rfl, _, F5, S5⟩
    have HB5 := Lib.hid (HB4.out.trans (F5.toBelow (n := w.heap.size) (fun x hx => Nat.le_trans HA.out.size hx.1) HB4.out.size))
    clear F5 S5 CS
    go_wp2_with (fail)
    go_ret
    exact ⟨rfl, HB5.out⟩
  ·
    subst hk
    go_enter Try.func37, Try.ntmps37
    go_wp2_with (fail)
    refine LE.out.mono ?_
    rintro e w1 ⟨x, rfl, L1, B1⟩
    have HB1 := Lib.hid (HA.out.trans (B1.mono HA.out.size))
    have HO := Lib.hid (blk_below HBO.out B1)
    have HX := Lib.hid L1
    have HP1 := Lib.hid (HP.out.below HB1.out)
    clear L1 B1 LE
    have c0 : w1.cell? ⟨w.heap.size, 0, none⟩ = some (.int .i64 _) := cell_blk HO.out 0 rfl
    have c2 : w1.cell? ⟨w.heap.size, 2, none⟩ = some (.int .u64 n) := cell_blk HO.out 2 rfl
    have c3 : w1.cell? ⟨w.heap.size, 3, none⟩ = some (.int .i64 i) := cell_blk HO.out 3 rfl
    have c4 : w1.cell? ⟨w.heap.size, 4, none⟩ = some (.slice B q c) := cell_blk HO.out 4 rfl
    go_wp2_with (fail)
    have CQ := Lib.hid (refWFixed_nil n hn i w1)
    refine CQ.out.mono ?_
    rintro e w2 ⟨rfl, B2⟩
    have HB2 := Lib.hid (HB1.out.trans (B2.mono HB1.out.size))
    have HX2 := Lib.hid (HX.out.below B2)
    have HY2 := Lib.hid (HX.out.newIn.blw B2)
    have HO2 := Lib.hid (blk_below HO.out B2)
    have HP2 := Lib.hid (HP1.out.below B2)
    clear B2 CQ c0 c2 c3 c4
    have c0 : w2.cell? ⟨w.heap.size, 0, none⟩ = some (.int .i64 _) := cell_blk HO2.out 0 rfl
    have c2 : w2.cell? ⟨w.heap.size, 2, none⟩ = some (.int .u64 n) := cell_blk HO2.out 2 rfl
    have c3 : w2.cell? ⟨w.heap.size, 3, none⟩ = some (.int .i64 i) := cell_blk HO2.out 3 rfl
    have c4 : w2.cell? ⟨w.heap.size, 4, none⟩ = some (.slice B q c) := cell_blk HO2.out 4 rfl
    have CR := Lib.hid (wFixed_nil w2 n hn i)
    go_wp2_with (fail)
    refine CR.out.mono ?_
    rintro e w3 ⟨rfl, B3⟩
    have HB3 := Lib.hid (HB2.out.trans (B3.mono HB2.out.size))
    have HX3 := Lib.hid (HX2.out.below B3)
    have HY3 := Lib.hid (HY2.out.blw B3)
    have HO3 := Lib.hid (blk_below HO2.out B3)
    have HP3 := Lib.hid (HP2.out.below B3)
    clear B3 CR c0 c2 c3 c4
    have c4 : w3.cell? ⟨w.heap.size, 4, none⟩ = some (.slice B q c) := cell_blk HO3.out 4 rfl
    have HK := kept_any (c0 := c) HX3.out HP3.out (by rw [HQL.out]; omega)
    rw [HQL.out] at HK
    have HK := Lib.hid HK
    go_wp2_with (fail)
    refine HK.out.mono ?_
    rintro e w4 ⟨rfl, B4⟩
    have HB4 := Lib.hid (HB3.out.trans (B4.mono HB3.out.size))
    have CS := Lib.hid (spoil_any (HY3.out.blw B4) HB.out (by rw [HQL.out]; omega))
    clear HK B4
    go_wp2_with (fail)
    refine CS.out.mono ?_
    rintro e w5 ⟨rfl, _, F5, S5⟩
    have HB5 := Lib.hid (HB4.out.trans (F5.toBelow (n := w.heap.size) (fun x hx => Nat.le_trans HA.out.size hx.1) HB4.out.size))
    clear F5 S5 CS
    go_wp2_with (fail)
    go_ret
    exact ⟨rfl, HB5.out⟩
  ·
    subst hk
    go_enter Try.func37, Try.ntmps37
    go_wp2_with (fail)
    refine LE.out.mono ?_
    rintro e w1 ⟨x, rfl, L1, B1⟩
    have HB1 := Lib.hid (HA.out.trans (B1.mono HA.out.size))
    have HO := Lib.hid (blk_below HBO.out B1)
    have HX := Lib.hid L1
    have HP1 := Lib.hid (HP.out.below HB1.out)
    clear L1 B1 LE
    have c0 : w1.cell? ⟨w.heap.size, 0, none⟩ = some (.int .i64 _) := cell_blk HO.out 0 rfl
    have c2 : w1.cell? ⟨w.heap.size, 2, none⟩ = some (.int .u64 n) := cell_blk HO.out 2 rfl
    have c3 : w1.cell? ⟨w.heap.size, 3, none⟩ = some (.int .i64 i) := cell_blk HO.out 3 rfl
    have c4 : w1.cell? ⟨w.heap.size, 4, none⟩ = some (.slice B q c) := cell_blk HO.out 4 rfl
    go_wp2_with (fail)
    have CQ := Lib.hid (refNum_nil n hn w1)
    refine CQ.out.mono ?_
    rintro e w2 ⟨rfl, B2⟩
    have HB2 := Lib.hid (HB1.out.trans (B2.mono HB1.out.size))
    have HX2 := Lib.hid (HX.out.below B2)
    have HY2 := Lib.hid (HX.out.newIn.blw B2)
    have HO2 := Lib.hid (blk_below HO.out B2)
    have HP2 := Lib.hid (HP1.out.below B2)
    clear B2 CQ c0 c2 c3 c4
    have c0 : w2.cell? ⟨w.heap.size, 0, none⟩ = some (.int .i64 _) := cell_blk HO2.out 0 rfl
    have c2 : w2.cell? ⟨w.heap.size, 2, none⟩ = some (.int .u64 n) := cell_blk HO2.out 2 rfl
    have c3 : w2.cell? ⟨w.heap.size, 3, none⟩ = some (.int .i64 i) := cell_blk HO2.out 3 rfl
    have c4 : w2.cell? ⟨w.heap.size, 4, none⟩ = some (.slice B q c) := cell_blk HO2.out 4 rfl
    have CR := Lib.hid (wNum_nil w2 n hn)
    go_wp2_with (fail)
    refine CR.out.mono ?_
    rintro e w3 ⟨rfl, B3⟩
    have HB3 := Lib.hid (HB2.out.trans (B3.mono HB2.out.size))
    have HX3 := Lib.hid (HX2.out.below B3)
    have HY3 := Lib.hid (HY2.out.blw B3)
    have HO3 := Lib.hid (blk_below HO2.out B3)
    have HP3 := Lib.hid (HP2.out.below B3)
    clear B3 CR c0 c2 c3 c4
    have c4 : w3.cell? ⟨w.heap.size, 4, none⟩ = some (.slice B q c) := cell_blk HO3.out 4 rfl
    have HK := kept_any (c0 := c) HX3.out HP3.out (by rw [HQL.out]; omega)
    rw [HQL.out] at HK
    have HK := Lib.hid HK
    go_wp2_with (fail)
    refine HK.out.mono ?_
    rintro e w4 ⟨rfl, B4⟩
    have HB4 := Lib.hid (HB3.out.trans (B4.mono HB3.out.size))
    have CS := Lib.hid (spoil_any (HY3.out.blw B4) HB.out (by rw [HQL.out]; omega))
    clear HK B4
    go_wp2_with (fail)
    refine CS.out.mono ?_
    rintro e w5 ⟨rfl, _, F5, S5⟩
    have HB5 := Lib.hid (HB4.out.trans (F5.toBelow (n := w.heap.size) (fun x hx => Nat.le_trans HA.out.size hx.1) HB4.out.size))
    clear F5 S5 CS
    go_wp2_with (fail)
    go_ret
    exact ⟨rfl, HB5.out⟩
  ·
    subst hk
    go_enter Try.func37, Try.ntmps37
    go_wp2_with (fail)
    refine LE.out.mono ?_
    rintro e w1 ⟨x, rfl, L1, B1⟩
    have HB1 := Lib.hid (HA.out.trans (B1.mono HA.out.size))
    have HO := Lib.hid (blk_below HBO.out B1)
    have HX := Lib.hid L1
    have HP1 := Lib.hid (HP.out.below HB1.out)
    clear L1 B1 LE
    have c0 : w1.cell? ⟨w.heap.size, 0, none⟩ = some (.int .i64 _) := cell_blk HO.out 0 rfl
    have c2 : w1.cell? ⟨w.heap.size, 2, none⟩ = some (.int .u64 n) := cell_blk HO.out 2 rfl
    have c3 : w1.cell? ⟨w.heap.size, 3, none⟩ = some (.int .i64 i) := cell_blk HO.out 3 rfl
    have c4 : w1.cell? ⟨w.heap.size, 4, none⟩ = some (.slice B q c) := cell_blk HO.out 4 rfl
    go_wp2_with (fail)
    have CQ := Lib.hid (refWInt_nil i i0 i1 w1)
    refine CQ.out.mono ?_
    rintro e w2 ⟨rfl, B2⟩
    have HB2 := Lib.hid (HB1.out.trans (B2.mono HB1.out.size))
    have HX2 := Lib.hid (HX.out.below B2)
    have HY2 := Lib.hid (HX.out.newIn.blw B2)
    have HO2 := Lib.hid (blk_below HO.out B2)
    have HP2 := Lib.hid (HP1.out.below B2)
    clear B2 CQ c0 c2 c3 c4
    have c0 : w2.cell? ⟨w.heap.size, 0, none⟩ = some (.int .i64 _) := cell_blk HO2.out 0 rfl
    have c2 : w2.cell? ⟨w.heap.size, 2, none⟩ = some (.int .u64 n) := cell_blk HO2.out 2 rfl
    have c3 : w2.cell? ⟨w.heap.size, 3, none⟩ = some (.int .i64 i) := cell_blk HO2.out 3 rfl
    have c4 : w2.cell? ⟨w.heap.size, 4, none⟩ = some (.slice B q c) := cell_blk HO2.out 4 rfl
    have CR := Lib.hid (wInt_nil w2 i i0 i1)
    go_wp2_with (fail)
    refine CR.out.mono ?_
    rintro e w3 ⟨rfl, B3⟩
    have HB3 := Lib.hid (HB2.out.trans (B3.mono HB2.out.size))
    have HX3 := Lib.hid (HX2.out.below B3)
    have HY3 := Lib.hid (HY2.out.blw B3)
    have HO3 := Lib.hid (blk_below HO2.out B3)
    have HP3 := Lib.hid (HP2.out.below B3)
    clear B3 CR c0 c2 c3 c4
    have c4 : w3.cell? ⟨w.heap.size, 4, none⟩ = some (.slice B q c) := cell_blk HO3.out 4 rfl
    have HK := kept_any (c0 := c) HX3.out HP3.out (by rw [HQL.out]; omega)
    rw [HQL.out] at HK
    have HK := Lib.hid HK
    go_wp2_with (fail)
    refine HK.out.mono ?_
    rintro e w4 ⟨rfl, B4⟩
    have HB4 := Lib.hid (HB3.out.trans (B4.mono HB3.out.size))
    have CS := Lib.hid (spoil_any (HY3.out.blw B4) HB.out (by rw [HQL.out]; omega))
    clear HK B4
    go_wp2_with (fail)
    refine CS.out.mono ?_
    rintro e w5 ⟨rfl, _, F5, S5⟩
    have HB5 := Lib.hid (HB4.out.trans (F5.toBelow (n := w.heap.size) (fun x hx => Nat.le_trans HA.out.size hx.1) HB4.out.size))
    clear F5 S5 CS
    go_wp2_with (fail)
    go_ret
    exact ⟨rfl, HB5.out⟩
  ·
    have hcf : ∀ (b : Int) w, (callFunc 26 #[.int .u64 b]).run Try.prog w = .ok (.value (.float .f64 b.toNat)) w := fun b w => by
      rw [run_callFunc_extern Try.func26 (by kernel_rfl) (by kernel_rfl) (by kernel_rfl) (e := Extern.MathFloatBits.float64frombits) (by kernel_rfl)]
      rfl
    subst hk
    go_enter Try.func37, Try.ntmps37
    go_wp2_with (fail)
    refine LE.out.mono ?_
    rintro e w1 ⟨x, rfl, L1, B1⟩
    have HB1 := Lib.hid (HA.out.trans (B1.mono HA.out.size))
    have HO := Lib.hid (blk_below HBO.out B1)
    have HX := Lib.hid L1
    have HP1 := Lib.hid (HP.out.below HB1.out)
    clear L1 B1 LE
    have c0 : w1.cell? ⟨w.heap.size, 0, none⟩ = some (.int .i64 _) := cell_blk HO.out 0 rfl
    have c2 : w1.cell? ⟨w.heap.size, 2, none⟩ = some (.int .u64 n) := cell_blk HO.out 2 rfl
    have c3 : w1.cell? ⟨w.heap.size, 3, none⟩ = some (.int .i64 i) := cell_blk HO.out 3 rfl
    have c4 : w1.cell? ⟨w.heap.size, 4, none⟩ = some (.slice B q c) := cell_blk HO.out 4 rfl
    go_wp2_with (fail)
    have CQ := Lib.hid (refWReal_nil n hn w1)
    refine CQ.out.mono ?_
    rintro e w2 ⟨rfl, B2⟩
    have HB2 := Lib.hid (HB1.out.trans (B2.mono HB1.out.size))
    have HX2 := Lib.hid (HX.out.below B2)
    have HY2 := Lib.hid (HX.out.newIn.blw B2)
    have HO2 := Lib.hid (blk_below HO.out B2)
    have HP2 := Lib.hid (HP1.out.below B2)
    clear B2 CQ c0 c2 c3 c4
    have c0 : w2.cell? ⟨w.heap.size, 0, none⟩ = some (.int .i64 _) := cell_blk HO2.out 0 rfl
    have c2 : w2.cell? ⟨w.heap.size, 2, none⟩ = some (.int .u64 n) := cell_blk HO2.out 2 rfl
    have c3 : w2.cell? ⟨w.heap.size, 3, none⟩ = some (.int .i64 i) := cell_blk HO2.out 3 rfl
    have c4 : w2.cell? ⟨w.heap.size, 4, none⟩ = some (.slice B q c) := cell_blk HO2.out 4 rfl
    have CR := Lib.hid (wReal_nil (w := w2) n hn)
    go_wp2_with (fail)
    refine CR.out.mono ?_
    rintro e w3 ⟨rfl, B3⟩
    have HB3 := Lib.hid (HB2.out.trans (B3.mono HB2.out.size))
    have HX3 := Lib.hid (HX2.out.below B3)
    have HY3 := Lib.hid (HY2.out.blw B3)
    have HO3 := Lib.hid (blk_below HO2.out B3)
    have HP3 := Lib.hid (HP2.out.below B3)
    clear B3 CR c0 c2 c3 c4
    have c4 : w3.cell? ⟨w.heap.size, 4, none⟩ = some (.slice B q c) := cell_blk HO3.out 4 rfl
    have HK := kept_any (c0 := c) HX3.out HP3.out (by rw [HQL.out]; omega)
    rw [HQL.out] at HK
    have HK := Lib.hid HK
    go_wp2_with (fail)
    refine HK.out.mono ?_
    rintro e w4 ⟨rfl, B4⟩
    have HB4 := Lib.hid (HB3.out.trans (B4.mono HB3.out.size))
    have CS := Lib.hid (spoil_any (HY3.out.blw B4) HB.out (by rw [HQL.out]; omega))
    clear HK B4
    go_wp2_with (fail)
    refine CS.out.mono ?_
    rintro e w5 ⟨rfl, _, F5, S5⟩
    have HB5 := Lib.hid (HB4.out.trans (F5.toBelow (n := w.heap.size) (fun x hx => Nat.le_trans HA.out.size hx.1) HB4.out.size))
    clear F5 S5 CS
    go_wp2_with (fail)
    go_ret
    exact ⟨rfl, HB5.out⟩
  ·
    subst hk
    go_enter Try.func37, Try.ntmps37
    go_wp2_with (fail)
    refine LE.out.mono ?_
    rintro e w1 ⟨x, rfl, L1, B1⟩
    have HB1 := Lib.hid (HA.out.trans (B1.mono HA.out.size))
    have HO := Lib.hid (blk_below HBO.out B1)
    have HX := Lib.hid L1
    have HP1 := Lib.hid (HP.out.below HB1.out)
    clear L1 B1 LE
    have c0 : w1.cell? ⟨w.heap.size, 0, none⟩ = some (.int .i64 _) := cell_blk HO.out 0 rfl
    have c2 : w1.cell? ⟨w.heap.size, 2, none⟩ = some (.int .u64 n) := cell_blk HO.out 2 rfl
    have c3 : w1.cell? ⟨w.heap.size, 3, none⟩ = some (.int .i64 i) := cell_blk HO.out 3 rfl
    have c4 : w1.cell? ⟨w.heap.size, 4, none⟩ = some (.slice B q c) := cell_blk HO.out 4 rfl
    go_wp2_with (fail)
    have CQ := Lib.hid ((refRaw_nil w1 B q c).mono fun e w' h => (⟨h.1, by rw [← h.2]; exact Below.refl _ _⟩ : e = .returned (.tuple #[]) ∧ Below w1.heap.size w1 w'))
    refine CQ.out.mono ?_
    rintro e w2 ⟨rfl, B2⟩
    have HB2 := Lib.hid (HB1.out.trans (B2.mono HB1.out.size))
    have HX2 := Lib.hid (HX.out.below B2)
    have HY2 := Lib.hid (HX.out.newIn.blw B2)
    have HO2 := Lib.hid (blk_below HO.out B2)
    have HP2 := Lib.hid (HP1.out.below B2)
    clear B2 CQ c0 c2 c3 c4
    have c0 : w2.cell? ⟨w.heap.size, 0, none⟩ = some (.int .i64 _) := cell_blk HO2.out 0 rfl
    have c2 : w2.cell? ⟨w.heap.size, 2, none⟩ = some (.int .u64 n) := cell_blk HO2.out 2 rfl
    have c3 : w2.cell? ⟨w.heap.size, 3, none⟩ = some (.int .i64 i) := cell_blk HO2.out 3 rfl
    have c4 : w2.cell? ⟨w.heap.size, 4, none⟩ = some (.slice B q c) := cell_blk HO2.out 4 rfl
    have CR := Lib.hid (wRaw_nil w2 (.slice x.1 x.2.1 x.2.2))
    go_wp2_with (fail)
    refine CR.out.mono ?_
    rintro e w3 ⟨rfl, B3⟩
    have HB3 := Lib.hid (HB2.out.trans (B3.mono HB2.out.size))
    have HX3 := Lib.hid (HX2.out.below B3)
    have HY3 := Lib.hid (HY2.out.blw B3)
    have HO3 := Lib.hid (blk_below HO2.out B3)
    have HP3 := Lib.hid (HP2.out.below B3)
    clear B3 CR c0 c2 c3 c4
    have c4 : w3.cell? ⟨w.heap.size, 4, none⟩ = some (.slice B q c) := cell_blk HO3.out 4 rfl
    have HK := kept_any (c0 := c) HX3.out HP3.out (by rw [HQL.out]; omega)
    rw [HQL.out] at HK
    have HK := Lib.hid HK
    go_wp2_with (fail)
    refine HK.out.mono ?_
    rintro e w4 ⟨rfl, B4⟩
    have HB4 := Lib.hid (HB3.out.trans (B4.mono HB3.out.size))
    have CS := Lib.hid (spoil_any (HY3.out.blw B4) HB.out (by rw [HQL.out]; omega))
    clear HK B4
    go_wp2_with (fail)
    refine CS.out.mono ?_
    rintro e w5 ⟨rfl, _, F5, S5⟩
    have HB5 := Lib.hid (HB4.out.trans (F5.toBelow (n := w.heap.size) (fun x hx => Nat.le_trans HA.out.size hx.1) HB4.out.size))
    clear F5 S5 CS
    go_wp2_with (fail)
    go_ret
    exact ⟨rfl, HB5.out⟩
  ·
    have hle : 10 + p.length ≤ 140737488355328 := by rw [HQL.out]; omega
    subst hk
    go_enter Try.func37, Try.ntmps37
    go_wp2_with (fail)
    refine LE.out.mono ?_
    rintro e w1 ⟨x, rfl, L1, B1⟩
    have HB1 := Lib.hid (HA.out.trans (B1.mono HA.out.size))
    have HO := Lib.hid (blk_below HBO.out B1)
    have HX := Lib.hid L1
    have HP1 := Lib.hid (HP.out.below HB1.out)
    clear L1 B1 LE
    have c0 : w1.cell? ⟨w.heap.size, 0, none⟩ = some (.int .i64 _) := cell_blk HO.out 0 rfl
    have c2 : w1.cell? ⟨w.heap.size, 2, none⟩ = some (.int .u64 n) := cell_blk HO.out 2 rfl
    have c3 : w1.cell? ⟨w.heap.size, 3, none⟩ = some (.int .i64 i) := cell_blk HO.out 3 rfl
    have c4 : w1.cell? ⟨w.heap.size, 4, none⟩ = some (.slice B q c) := cell_blk HO.out 4 rfl
    go_wp2_with (fail)
    have CQ := Lib.hid (show Calls Try.prog 88 #[.pointer none, .slice B q c] w1 fun e w' => e = .returned (.tuple #[]) ∧ Below w1.heap.size w1 w' from by rw [← HQL.out]; exact refText_nil HP1.out hle)
    refine CQ.out.mono ?_
    rintro e w2 ⟨rfl, B2⟩
    have HB2 := Lib.hid (HB1.out.trans (B2.mono HB1.out.size))
    have HX2 := Lib.hid (HX.out.below B2)
    have HY2 := Lib.hid (HX.out.newIn.blw B2)
    have HO2 := Lib.hid (blk_below HO.out B2)
    have HP2 := Lib.hid (HP1.out.below B2)
    clear B2 CQ c0 c2 c3 c4
    have c0 : w2.cell? ⟨w.heap.size, 0, none⟩ = some (.int .i64 _) := cell_blk HO2.out 0 rfl
    have c2 : w2.cell? ⟨w.heap.size, 2, none⟩ = some (.int .u64 n) := cell_blk HO2.out 2 rfl
    have c3 : w2.cell? ⟨w.heap.size, 3, none⟩ = some (.int .i64 i) := cell_blk HO2.out 3 rfl
    have c4 : w2.cell? ⟨w.heap.size, 4, none⟩ = some (.slice B q c) := cell_blk HO2.out 4 rfl
    have CR := Lib.hid (show Calls Try.prog 89 #[.pointer none, .slice x.1 x.2.1 x.2.2] w2 (NilP w2) from by rw [HX2.out.len]; exact wText_nil HX2.out.src hle)
    go_wp2_with (fail)
    refine CR.out.mono ?_
    rintro e w3 ⟨rfl, B3⟩
    have HB3 := Lib.hid (HB2.out.trans (B3.mono HB2.out.size))
    have HX3 := Lib.hid (HX2.out.below B3)
    have HY3 := Lib.hid (HY2.out.blw B3)
    have HO3 := Lib.hid (blk_below HO2.out B3)
    have HP3 := Lib.hid (HP2.out.below B3)
    clear B3 CR c0 c2 c3 c4
    have c4 : w3.cell? ⟨w.heap.size, 4, none⟩ = some (.slice B q c) := cell_blk HO3.out 4 rfl
    have HK := kept_any (c0 := c) HX3.out HP3.out (by rw [HQL.out]; omega)
    rw [HQL.out] at HK
    have HK := Lib.hid HK
    go_wp2_with (fail)
    refine HK.out.mono ?_
    rintro e w4 ⟨rfl, B4⟩
    have HB4 := Lib.hid (HB3.out.trans (B4.mono HB3.out.size))
    have CS := Lib.hid (spoil_any (HY3.out.blw B4) HB.out (by rw [HQL.out]; omega))
    clear HK B4
    go_wp2_with (fail)
    refine CS.out.mono ?_
    rintro e w5 ⟨rfl, _, F5, S5⟩
    have HB5 := Lib.hid (HB4.out.trans (F5.toBelow (n := w.heap.size) (fun x hx => Nat.le_trans HA.out.size hx.1) HB4.out.size))
    clear F5 S5 CS
    go_wp2_with (fail)
    go_ret
    exact ⟨rfl, HB5.out⟩
  ·
    subst hk
    go_enter Try.func37, Try.ntmps37
    go_wp2_with (fail)
    refine LE.out.mono ?_
    rintro e w1 ⟨x, rfl, L1, B1⟩
    have HB1 := Lib.hid (HA.out.trans (B1.mono HA.out.size))
    have HO := Lib.hid (blk_below HBO.out B1)
    have HX := Lib.hid L1
    have HP1 := Lib.hid (HP.out.below HB1.out)
    clear L1 B1 LE
    have c0 : w1.cell? ⟨w.heap.size, 0, none⟩ = some (.int .i64 _) := cell_blk HO.out 0 rfl
    have c2 : w1.cell? ⟨w.heap.size, 2, none⟩ = some (.int .u64 n) := cell_blk HO.out 2 rfl
    have c3 : w1.cell? ⟨w.heap.size, 3, none⟩ = some (.int .i64 i) := cell_blk HO.out 3 rfl
    have c4 : w1.cell? ⟨w.heap.size, 4, none⟩ = some (.slice B q c) := cell_blk HO.out 4 rfl
    go_wp2_with (fail)
    have CQ := Lib.hid ((refOpen_nil w1).mono fun e w' h => (⟨h.1, by rw [← h.2]; exact Below.refl _ _⟩ : e = .returned (.tuple #[]) ∧ Below w1.heap.size w1 w'))
    refine CQ.out.mono ?_
    rintro e w2 ⟨rfl, B2⟩
    have HB2 := Lib.hid (HB1.out.trans (B2.mono HB1.out.size))
    have HX2 := Lib.hid (HX.out.below B2)
    have HY2 := Lib.hid (HX.out.newIn.blw B2)
    have HO2 := Lib.hid (blk_below HO.out B2)
    have HP2 := Lib.hid (HP1.out.below B2)
    clear B2 CQ c0 c2 c3 c4
    have c0 : w2.cell? ⟨w.heap.size, 0, none⟩ = some (.int .i64 _) := cell_blk HO2.out 0 rfl
    have c2 : w2.cell? ⟨w.heap.size, 2, none⟩ = some (.int .u64 n) := cell_blk HO2.out 2 rfl
    have c3 : w2.cell? ⟨w.heap.size, 3, none⟩ = some (.int .i64 i) := cell_blk HO2.out 3 rfl
    have c4 : w2.cell? ⟨w.heap.size, 4, none⟩ = some (.slice B q c) := cell_blk HO2.out 4 rfl
    have CR := Lib.hid ((wOpen_nil w2).mono fun e w' h => (⟨h.1, by rw [← h.2]; exact Below.refl _ _⟩ : e = .returned (.tuple #[]) ∧ Below w2.heap.size w2 w'))
    go_wp2_with (fail)
    refine CR.out.mono ?_
    rintro e w3 ⟨rfl, B3⟩
    have HB3 := Lib.hid (HB2.out.trans (B3.mono HB2.out.size))
    have HX3 := Lib.hid (HX2.out.below B3)
    have HY3 := Lib.hid (HY2.out.blw B3)
    have HO3 := Lib.hid (blk_below HO2.out B3)
    have HP3 := Lib.hid (HP2.out.below B3)
    clear B3 CR c0 c2 c3 c4
    have c4 : w3.cell? ⟨w.heap.size, 4, none⟩ = some (.slice B q c) := cell_blk HO3.out 4 rfl
    have HK := kept_any (c0 := c) HX3.out HP3.out (by rw [HQL.out]; omega)
    rw [HQL.out] at HK
    have HK := Lib.hid HK
    go_wp2_with (fail)
    refine HK.out.mono ?_
    rintro e w4 ⟨rfl, B4⟩
    have HB4 := Lib.hid (HB3.out.trans (B4.mono HB3.out.size))
    have CS := Lib.hid (spoil_any (HY3.out.blw B4) HB.out (by rw [HQL.out]; omega))
    clear HK B4
    go_wp2_with (fail)
    refine CS.out.mono ?_
    rintro e w5 ⟨rfl, _, F5, S5⟩
    have HB5 := Lib.hid (HB4.out.trans (F5.toBelow (n := w.heap.size) (fun x hx => Nat.le_trans HA.out.size hx.1) HB4.out.size))
    clear F5 S5 CS
    go_wp2_with (fail)
    go_ret
    exact ⟨rfl, HB5.out⟩
  ·
    subst hk
    go_enter Try.func37, Try.ntmps37
    go_wp2_with (fail)
    refine LE.out.mono ?_
    rintro e w1 ⟨x, rfl, L1, B1⟩
    have HB1 := Lib.hid (HA.out.trans (B1.mono HA.out.size))
    have HO := Lib.hid (blk_below HBO.out B1)
    have HX := Lib.hid L1
    have HP1 := Lib.hid (HP.out.below HB1.out)
    clear L1 B1 LE
    have c0 : w1.cell? ⟨w.heap.size, 0, none⟩ = some (.int .i64 _) := cell_blk HO.out 0 rfl
    have c2 : w1.cell? ⟨w.heap.size, 2, none⟩ = some (.int .u64 n) := cell_blk HO.out 2 rfl
    have c3 : w1.cell? ⟨w.heap.size, 3, none⟩ = some (.int .i64 i) := cell_blk HO.out 3 rfl
    have c4 : w1.cell? ⟨w.heap.size, 4, none⟩ = some (.slice B q c) := cell_blk HO.out 4 rfl
    go_wp2_with (fail)
    have CQ := Lib.hid ((refWClose_nil w1).mono fun e w' h => (⟨h.1, by rw [← h.2]; exact Below.refl _ _⟩ : e = .returned (.tuple #[]) ∧ Below w1.heap.size w1 w'))
    refine CQ.out.mono ?_
    rintro e w2 ⟨rfl, B2⟩
    have HB2 := Lib.hid (HB1.out.trans (B2.mono HB1.out.size))
    have HX2 := Lib.hid (HX.out.below B2)
    have HY2 := Lib.hid (HX.out.newIn.blw B2)
    have HO2 := Lib.hid (blk_below HO.out B2)
    have HP2 := Lib.hid (HP1.out.below B2)
    clear B2 CQ c0 c2 c3 c4
    have c0 : w2.cell? ⟨w.heap.size, 0, none⟩ = some (.int .i64 _) := cell_blk HO2.out 0 rfl
    have c2 : w2.cell? ⟨w.heap.size, 2, none⟩ = some (.int .u64 n) := cell_blk HO2.out 2 rfl
    have c3 : w2.cell? ⟨w.heap.size, 3, none⟩ = some (.int .i64 i) := cell_blk HO2.out 3 rfl
    have c4 : w2.cell? ⟨w.heap.size, 4, none⟩ = some (.slice B q c) := cell_blk HO2.out 4 rfl
    have CR := Lib.hid ((wClose_nil w2).mono fun e w' h => (⟨h.1, by rw [← h.2]; exact Below.refl _ _⟩ : e = .returned (.tuple #[]) ∧ Below w2.heap.size w2 w'))
    go_wp2_with (fail)
    refine CR.out.mono ?_
    rintro e w3 ⟨rfl, B3⟩
    have HB3 := Lib.hid (HB2.out.trans (B3.mono HB2.out.size))
    have HX3 := Lib.hid (HX2.out.below B3)
    have HY3 := Lib.hid (HY2.out.blw B3)
    have HO3 := Lib.hid (blk_below HO2.out B3)
    have HP3 := Lib.hid (HP2.out.below B3)
    clear B3 CR c0 c2 c3 c4
    have c4 : w3.cell? ⟨w.heap.size, 4, none⟩ = some (.slice B q c) := cell_blk HO3.out 4 rfl
    have HK := kept_any (c0 := c) HX3.out HP3.out (by rw [HQL.out]; omega)
    rw [HQL.out] at HK
    have HK := Lib.hid HK
    go_wp2_with (fail)
    refine HK.out.mono ?_
    rintro e w4 ⟨rfl, B4⟩
    have HB4 := Lib.hid (HB3.out.trans (B4.mono HB3.out.size))
    have CS := Lib.hid (spoil_any (HY3.out.blw B4) HB.out (by rw [HQL.out]; omega))
    clear HK B4
    go_wp2_with (fail)
    refine CS.out.mono ?_
    rintro e w5 ⟨rfl, _, F5, S5⟩
    have HB5 := Lib.hid (HB4.out.trans (F5.toBelow (n := w.heap.size) (fun x hx => Nat.le_trans HA.out.size hx.1) HB4.out.size))
    clear F5 S5 CS
    go_wp2_with (fail)
    go_ret
    exact ⟨rfl, HB5.out⟩
  · subst hk
    go_enter Try.func37, Try.ntmps37
    go_wp2_with (fail)
    refine LE.out.mono ?_
    rintro e w1 ⟨x, rfl, L1, B1⟩
    have HB1 := Lib.hid (HA.out.trans (B1.mono HA.out.size))
    have HO := Lib.hid (blk_below HBO.out B1)
    have HX := Lib.hid L1
    have HP1 := Lib.hid (HP.out.below HB1.out)
    clear L1 B1 LE
    have c0 : w1.cell? ⟨w.heap.size, 0, none⟩ = some (.int .i64 _) := cell_blk HO.out 0 rfl
    have c2 : w1.cell? ⟨w.heap.size, 2, none⟩ = some (.int .u64 n) := cell_blk HO.out 2 rfl
    have c3 : w1.cell? ⟨w.heap.size, 3, none⟩ = some (.int .i64 i) := cell_blk HO.out 3 rfl
    have c4 : w1.cell? ⟨w.heap.size, 4, none⟩ = some (.slice B q c) := cell_blk HO.out 4 rfl
    go_wp2_with (fail)
    refine (refLen_nil w1).mono ?_
    rintro e w_ ⟨rfl, rfl⟩
    go_wp2_with (fail)
    refine (wLen_nil w1).mono ?_
    rintro e w_ ⟨rfl, rfl⟩
    go_wp2_with (fail)
    go_ret
    exact ⟨rfl, HB1.out⟩
  · subst hk
    go_enter Try.func37, Try.ntmps37
    go_wp2_with (fail)
    refine LE.out.mono ?_
    rintro e w1 ⟨x, rfl, L1, B1⟩
    have HB1 := Lib.hid (HA.out.trans (B1.mono HA.out.size))
    have HO := Lib.hid (blk_below HBO.out B1)
    have HX := Lib.hid L1
    have HP1 := Lib.hid (HP.out.below HB1.out)
    clear L1 B1 LE
    have c0 : w1.cell? ⟨w.heap.size, 0, none⟩ = some (.int .i64 _) := cell_blk HO.out 0 rfl
    have c2 : w1.cell? ⟨w.heap.size, 2, none⟩ = some (.int .u64 n) := cell_blk HO.out 2 rfl
    have c3 : w1.cell? ⟨w.heap.size, 3, none⟩ = some (.int .i64 i) := cell_blk HO.out 3 rfl
    have c4 : w1.cell? ⟨w.heap.size, 4, none⟩ = some (.slice B q c) := cell_blk HO.out 4 rfl
    go_wp2_with (fail)
    refine (refWDone_nil w1).mono ?_
    rintro e w_ ⟨rfl, rfl⟩
    go_wp2_with (fail)
    refine (wDone_nil w1).mono ?_
    rintro e w_ ⟨rfl, rfl⟩
    have CA := same_any (w := w1) (c := 0) (c' := 0) (A := none) (B := none) (a := []) (b := []) (fun h => absurd rfl h) (fun h => absurd rfl h) (by simp) (by simp)
    rw [decide_eq_true rfl] at CA
    have CA := Lib.hid CA
    go_wp2_with (fail)
    refine CA.out.mono ?_
    rintro e w4 ⟨rfl, B4⟩
    have HB4 := Lib.hid (HB1.out.trans (B4.mono HB1.out.size))
    have CS := Lib.hid (spoil_any (NewIn.nil w4 0 0) (fun x hx => by cases hx) (by simp))
    clear CA B4
    go_wp2_with (fail)
    refine CS.out.mono ?_
    rintro e w5 ⟨rfl, _, F5, S5⟩
    have HF5 := Lib.hid (HB4.out.trans (F5.toBelow (n := w.heap.size) (fun x hx => absurd hx.2 (Nat.not_lt_zero x)) HB4.out.size))
    clear F5 S5 CS
    go_wp2_with (fail)
    go_ret
    exact ⟨rfl, HF5.out⟩
  · obtain ⟨n1, n2, n3, n4, n5, n6, n7, n8, n9, n10, n11⟩ := hk
    have z1 : (kd == 1) = false := by simpa using n1
    have z2 : (kd == 2) = false := by simpa using n2
    have z3 : (kd == 3) = false := by simpa using n3
    have z4 : (kd == 4) = false := by simpa using n4
    have z5 : (kd == 5) = false := by simpa using n5
    have z6 : (kd == 6) = false := by simpa using n6
    have z7 : (kd == 7) = false := by simpa using n7
    have z8 : (kd == 8) = false := by simpa using n8
    have z9 : (kd == 9) = false := by simpa using n9
    have z10 : (kd == 10) = false := by simpa using n10
    have z11 : (kd == 11) = false := by simpa using n11
    clear n1 n2 n3 n4 n5 n6 n7 n8 n9 n10 n11
    go_enter Try.func37, Try.ntmps37
    go_wp2_with (fail)
    refine LE.out.mono ?_
    rintro e w1 ⟨x, rfl, L1, B1⟩
    have HB1 := Lib.hid (HA.out.trans (B1.mono HA.out.size))
    have HO := Lib.hid (blk_below HBO.out B1)
    have HX := Lib.hid L1
    have HP1 := Lib.hid (HP.out.below HB1.out)
    clear L1 B1 LE
    have c0 : w1.cell? ⟨w.heap.size, 0, none⟩ = some (.int .i64 _) := cell_blk HO.out 0 rfl
    have c2 : w1.cell? ⟨w.heap.size, 2, none⟩ = some (.int .u64 n) := cell_blk HO.out 2 rfl
    have c3 : w1.cell? ⟨w.heap.size, 3, none⟩ = some (.int .i64 i) := cell_blk HO.out 3 rfl
    have c4 : w1.cell? ⟨w.heap.size, 4, none⟩ = some (.slice B q c) := cell_blk HO.out 4 rfl
    go_wp2_with (fail)
    have HK := kept_any (c0 := c) HX.out HP1.out (by rw [HQL.out]; omega)
    rw [HQL.out] at HK
    have HK := Lib.hid HK
    go_wp2_with (fail)
    refine HK.out.mono ?_
    rintro e w4 ⟨rfl, B4⟩
    have HB4 := Lib.hid (HB1.out.trans (B4.mono HB1.out.size))
    have CS := Lib.hid (spoil_any (HX.out.newIn.blw B4) HB.out (by rw [HQL.out]; omega))
    clear HK B4
    go_wp2_with (fail)
    refine CS.out.mono ?_
    rintro e w5 ⟨rfl, _, F5, S5⟩
    have HB5 := Lib.hid (HB4.out.trans (F5.toBelow (n := w.heap.size) (fun x hx => Nat.le_trans HA.out.size hx.1) HB4.out.size))
    clear F5 S5 CS
    go_wp2_with (fail)
    go_ret
    exact ⟨rfl, HB5.out⟩
end Go.Proofs.Ytibelfljlhcibaa
