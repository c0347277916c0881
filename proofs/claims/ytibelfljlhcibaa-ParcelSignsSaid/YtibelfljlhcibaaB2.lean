/- take. -/
import Derived.Test.YtibelfljlhcibaaB1
namespace Go.Proofs.Ytibelfljlhcibaa
set_option linter.unusedVariables false
set_option linter.unusedSimpArgs false
open Go.RowKit Go.Deep Go.Proofs.YtibelfljlhcibaaW.PrintLast

/-- What a reading comes to: the world behind it, the reader's fields. -/
def ReadP (k : Nat) (w w' : World) (lv ov : Value) (ft : Int) : Prop := w.grownBy w' (some k) ∧ w'.heap[k]? = some (.cells #[lv, ov, .int .i64 ft] 89 (0, 0))
/-- .. and what holds of what is left. -/
def TakeP (k : Nat) (w w' : World) (ov : Value) (ft : Int) (P : Value → World → Prop) : Prop := ∃ lv, ReadP k w w' lv ov ft ∧ P lv w'
def outV (out : Option Int) (ft : Int) : Int := match out with | some v => if ft = 0 then v else 0 | none => 0
def outF (out : Option Int) (ft : Int) : Int := match out with | some _ => ft | none => 10
def OutE (t : IntKind) (out : Option Int) (e : Ending) : Prop := match out with | some v => e = .returned (.int t v) | none => ∃ u pv, e = .panicked [{ v := .iface u pv, recovered := false }]
set_option maxRecDepth 100000 in
set_option maxHeartbeats 1000000 in
theorem take_u64 {w : World} {k : Nat} {lv ov : Value} (P : Value → World → Prop) {ft ft' : Int} {f : FuncId} {fn : Func} {first cap : Array Value} (hfn : Try.prog.funcs[f]? = some fn) (hname : (fn.name == "runtime.NumGoroutine") = false) (hbody : fn.body.isSome = true) (hk : w.heap[k]? = some (.cells #[lv, ov, .int .i64 ft] 89 (0, 0))) (out : Option Int) (hst : ∀ lv w1 w2, P lv w1 → (∀ g, g < w.heap.size → g ≠ k → w2.heap[g]? = w1.heap[g]?) → P lv w2)
    (RD : ft = 0 → ∀ wd, Below w.heap.size w wd → Calls Try.prog f (first ++ cap) wd fun e w' => TakeP k wd w' ov ft' P ∧ OutE .u64 out e) :
    Calls Try.prog 59 #[.pointer (some ⟨k, 0, none⟩), .func (.func f) first cap] w fun e w' =>
      if ft = 0 then e = .returned (.int .u64 (outV out ft')) ∧ TakeP k w w' ov (outF out ft') P
      else e = .returned (.int .u64 0) ∧ Below w.heap.size w w' := by
  have hmf : ∀ (fn : Fn) (first cap : Array Value) (w : World), (Instr.makeFunc fn first cap).run Try.prog w = .ok (.func fn first cap) w := fun _ _ _ _ => rfl
  have hcf : ∀ (args : Array Value) (w : World), (callFunc f args).run Try.prog w = .ok (.enter f args) w := fun args w => enters_ hfn hname hbody args w
  clear hfn hname hbody
  have ck : w.cell? ⟨k, 2, none⟩ = some (.int .i64 ft) := cell_blk hk 2 rfl
  have hlt := blk_lt hk
  have hk3 := blk_alloc (blk_alloc (blk_alloc hk (.cells #[.pointer (some ⟨k, 0, none⟩)] 28)) (.cells #[.int .u64 0] 22)) (.cells #[.int .u64 0] 22)
  obtain ⟨B0, B1, B2⟩ := three_blks w (.cells #[.pointer (some ⟨k, 0, none⟩)] 28) (.cells #[.int .u64 0] 22) (.cells #[.int .u64 0] 22)
  have x0 : (((w.alloc (.cells #[.pointer (some ⟨k, 0, none⟩)] 28)).alloc (.cells #[.int .u64 0] 22)).alloc (.cells #[.int .u64 0] 22)).cell? ⟨w.heap.size, 0, none⟩ = some (.pointer (some ⟨k, 0, none⟩)) := cell_blk B0 0 rfl
  have x1 : (((w.alloc (.cells #[.pointer (some ⟨k, 0, none⟩)] 28)).alloc (.cells #[.int .u64 0] 22)).alloc (.cells #[.int .u64 0] 22)).cell? ⟨w.heap.size + 1, 0, none⟩ = some (.int .u64 0) := cell_blk B1 0 rfl
  have x2 : (((w.alloc (.cells #[.pointer (some ⟨k, 0, none⟩)] 28)).alloc (.cells #[.int .u64 0] 22)).alloc (.cells #[.int .u64 0] 22)).cell? ⟨w.heap.size + 1 + 1, 0, none⟩ = some (.int .u64 0) := cell_blk B2 0 rfl
  have ck3 : (((w.alloc (.cells #[.pointer (some ⟨k, 0, none⟩)] 28)).alloc (.cells #[.int .u64 0] 22)).alloc (.cells #[.int .u64 0] 22)).cell? ⟨k, 2, none⟩ = some (.int .i64 ft) := cell_blk hk3 2 rfl
  have f1 := free_blk B1 0
  have B3 : Below w.heap.size w (((w.alloc (.cells #[.pointer (some ⟨k, 0, none⟩)] 28)).alloc (.cells #[.int .u64 0] 22)).alloc (.cells #[.int .u64 0] 22)) := (((Below.refl _ _).alloc (Nat.le_refl _) _).alloc (by simp) _).alloc (by simp; omega) _
  have z3 : (((w.alloc (.cells #[.pointer (some ⟨k, 0, none⟩)] 28)).alloc (.cells #[.int .u64 0] 22)).alloc (.cells #[.int .u64 0] 22)).heap.size = w.heap.size + 3 := by simp
  obtain ⟨t0, ht0⟩ := named (ft != 0)
  have Hk := Lib.hid hk3
  have HB0 := Lib.hid B0
  have HB1 := Lib.hid B1
  have HB2 := Lib.hid B2
  have HB3 := Lib.hid B3
  have HZ3 := Lib.hid z3
  have HRD := Lib.hid RD
  clear hk3 B0 B1 B2 B3 z3 RD ck hk
  go_enter_defers Try.func59, Try.ntmps59
  go_upto_region 2 with (fail)
  generalize (((w.alloc (.cells #[.pointer (some ⟨k, 0, none⟩)] 28)).alloc (.cells #[.int .u64 0] 22)).alloc (.cells #[.int .u64 0] 22)) = wd at *
  cases t0
  · have hf : ft = 0 := by simpa using ht0
    subst hf
    go_wp2_with (fail)
    refine (HRD.out (by trivial) wd HB3.out).mono ?_
    rintro e w2 ⟨⟨lv', ⟨G, hk2⟩, hP⟩, hE⟩
    have hz := HZ3.out
    have hkz : k ≠ w.heap.size ∧ k ≠ w.heap.size + 1 ∧ k ≠ w.heap.size + 1 + 1 := by omega
    have C0 := (G.block (w.heap.size) (by omega) (by simp; omega)).trans HB0.out
    have C1 := (G.block (w.heap.size + 1) (by omega) (by simp; omega)).trans HB1.out
    have C2 := (G.block (w.heap.size + 1 + 1) (by omega) (by simp; omega)).trans HB2.out
    have y0 : w2.cell? ⟨w.heap.size, 0, none⟩ = some (.pointer (some ⟨k, 0, none⟩)) := cell_blk C0 0 rfl
    have y1 : w2.cell? ⟨w.heap.size + 1, 0, none⟩ = some (.int .u64 0) := cell_blk C1 0 rfl
    have y2 : w2.cell? ⟨w.heap.size + 1 + 1, 0, none⟩ = some (.int .u64 0) := cell_blk C2 0 rfl
    have g1 := free_blk C1 0
    have GW : w.grownBy w2 (some k) := ⟨G.os.trans HB3.out.os, G.tape.trans HB3.out.tape, G.output.trans HB3.out.output, Nat.le_trans HB3.out.size G.size, fun j hj hne => (G.block j (Nat.lt_of_lt_of_le hj HB3.out.size) hne).trans (HB3.out.block j hj)⟩
    have GS : ∀ w3 (v : Value), w.grownBy w3 (some k) → w.grownBy (w3.setCell ⟨w.heap.size + 1, 0, none⟩ v) (some k) := fun w3 v G => ⟨G.os, G.tape, G.output, by simpa [World.setCell] using G.size, fun j hj hne => (Below.heap_setCell _ _ _ _ (by simp only; omega)).trans (G.block j hj hne)⟩
    have HG := Lib.hid G
    have HGW := Lib.hid GW
    have HGS := Lib.hid GS
    clear G GW GS x0 x1 x2 ck3 f1
    cases out with
    | some v =>
      have hE' : e = .returned (.int .u64 v) := hE
      subst hE'
      have D0 := (Below.heap_setCell w2 ⟨w.heap.size + 1, 0, none⟩ (.int .u64 v) w.heap.size (by simp)).trans C0
      have D1 := setCell_heap w2 (w.heap.size + 1) 0 (.int .u64 v) _ _ _ C1
      have D2 := (Below.heap_setCell w2 ⟨w.heap.size + 1, 0, none⟩ (.int .u64 v) (w.heap.size + 1 + 1) (by simp)).trans C2
      have DK := (Below.heap_setCell w2 ⟨w.heap.size + 1, 0, none⟩ (.int .u64 v) k (by simp; omega)).trans hk2
      have v0 : (w2.setCell ⟨w.heap.size + 1, 0, none⟩ (.int .u64 v)).cell? ⟨w.heap.size, 0, none⟩ = some (.pointer (some ⟨k, 0, none⟩)) := cell_blk D0 0 rfl
      have v2 : (w2.setCell ⟨w.heap.size + 1, 0, none⟩ (.int .u64 v)).cell? ⟨w.heap.size + 1 + 1, 0, none⟩ = some (.int .u64 0) := cell_blk D2 0 rfl
      have v1 : (w2.setCell ⟨w.heap.size + 1, 0, none⟩ (.int .u64 v)).cell? ⟨w.heap.size + 1, 0, none⟩ = some (.int .u64 v) := cell_blk D1 0 rfl
      have IDL := Lib.hid (idle_u64 v0 DK v2 D1)
      go_wp2_with (fail)
      refine leaves_cons (f := 111) (args := #[.pointer (some ⟨w.heap.size, 0, none⟩), .pointer (some ⟨w.heap.size + 1 + 1, 0, none⟩), .pointer (some ⟨w.heap.size + 1, 0, none⟩)]) (by simp) (by simp [go_sem]) ?_
      refine IDL.out.mono ?_
      rintro e u' w'' ⟨rfl, rfl, rfl⟩
      by_cases hf' : ft' = 0
      · rw [if_pos hf']
        have R : TakeP k w _ ov ft' P := ⟨lv', ⟨HGS.out _ (.int .u64 v) HGW.out, DK⟩, hst _ _ _ hP fun g hg hne => Below.heap_setCell _ _ _ _ (by simp only; omega)⟩
        simp [Leaves, settle, results, Try.results59, go_sem, v1, outV, outF, hf']
        rw [hf'] at R
        exact R
      · rw [if_neg hf']
        have E1 := setCell_heap _ (w.heap.size + 1) 0 (.int .u64 0) _ _ _ D1
        have EK := (Below.heap_setCell (w2.setCell ⟨w.heap.size + 1, 0, none⟩ (.int .u64 v)) ⟨w.heap.size + 1, 0, none⟩ (.int .u64 0) k (by simp; omega)).trans DK
        have x1 : ((w2.setCell ⟨w.heap.size + 1, 0, none⟩ (.int .u64 v)).setCell ⟨w.heap.size + 1, 0, none⟩ (.int .u64 0)).cell? ⟨w.heap.size + 1, 0, none⟩ = some (.int .u64 0) := cell_blk E1 0 rfl
        have R : TakeP k w _ ov ft' P := ⟨lv', ⟨HGS.out _ (.int .u64 0) (HGS.out _ (.int .u64 v) HGW.out), EK⟩, hst _ _ _ hP fun g hg hne => (Below.heap_setCell _ _ _ _ (by simp only; omega)).trans (Below.heap_setCell _ _ _ _ (by simp only; omega))⟩
        simp [Leaves, settle, results, Try.results59, go_sem, x1, outV, outF, hf']
        exact R
    | none =>
      obtain ⟨u, pv, rfl⟩ := hE
      go_wp2_with (fail)
      refine leaves_cons (f := 111) (args := #[.pointer (some ⟨w.heap.size, 0, none⟩), .pointer (some ⟨w.heap.size + 1 + 1, 0, none⟩), .pointer (some ⟨w.heap.size + 1, 0, none⟩)]) (by simp) (by simp [go_sem]) ?_
      refine (caught_u64 y0 hk2 y2 C1 (by omega) (by omega) (by omega)).mono ?_
      rintro e u' w'' ⟨rfl, rfl, rfl⟩
      have FK := setCell_heap w2 k 2 (.int .i64 10) _ _ _ hk2
      have F1 := (Below.heap_setCell w2 ⟨k, 2, none⟩ (.int .i64 10) (w.heap.size + 1) (by simp; omega)).trans C1
      have E1 := setCell_heap _ (w.heap.size + 1) 0 (.int .u64 0) _ _ _ F1
      have EK := (Below.heap_setCell (w2.setCell ⟨k, 2, none⟩ (.int .i64 10)) ⟨w.heap.size + 1, 0, none⟩ (.int .u64 0) k (by simp; omega)).trans FK
      have x1 : ((w2.setCell ⟨k, 2, none⟩ (.int .i64 10)).setCell ⟨w.heap.size + 1, 0, none⟩ (.int .u64 0)).cell? ⟨w.heap.size + 1, 0, none⟩ = some (.int .u64 0) := cell_blk E1 0 rfl
      have GK : w.grownBy (w2.setCell ⟨k, 2, none⟩ (.int .i64 10)) (some k) := ⟨HGW.out.os, HGW.out.tape, HGW.out.output, by simpa [World.setCell] using HGW.out.size, fun j hj hne => (Below.heap_setCell _ _ _ _ (by simpa using hne)).trans (HGW.out.block j hj hne)⟩
      have R : TakeP k w _ ov 10 P := ⟨lv', ⟨HGS.out _ (.int .u64 0) GK, EK⟩, hst _ _ _ hP fun g hg hne => (Below.heap_setCell _ _ _ _ (by simp only; omega)).trans (Below.heap_setCell _ _ _ _ (by simp only; omega))⟩
      simp [Leaves, settle, results, Try.results59, go_sem, x1, outV, outF]
      exact R
  · have hf : ft ≠ 0 := by simpa using ht0
    go_wp2_with (fail)
    have y1 : (wd.setCell ⟨w.heap.size + 1, 0, none⟩ (.int .u64 0)).cell? ⟨w.heap.size + 1, 0, none⟩ = some (.int .u64 0) := cell_blk (setCell_heap _ _ 0 _ _ _ _ HB1.out) 0 rfl
    simp [bodyPostD, Leaves, settle, results, Try.results59, go_sem, y1]
    exact HB3.out.setCell (by simp) _
set_option maxRecDepth 100000 in
set_option maxHeartbeats 1000000 in
theorem take_int {w : World} {k : Nat} {lv ov : Value} (P : Value → World → Prop) {ft ft' : Int} {f : FuncId} {fn : Func} {first cap : Array Value} (hfn : Try.prog.funcs[f]? = some fn) (hname : (fn.name == "runtime.NumGoroutine") = false) (hbody : fn.body.isSome = true) (hk : w.heap[k]? = some (.cells #[lv, ov, .int .i64 ft] 89 (0, 0))) (out : Option Int) (hst : ∀ lv w1 w2, P lv w1 → (∀ g, g < w.heap.size → g ≠ k → w2.heap[g]? = w1.heap[g]?) → P lv w2)
    (RD : ft = 0 → ∀ wd, Below w.heap.size w wd → Calls Try.prog f (first ++ cap) wd fun e w' => TakeP k wd w' ov ft' P ∧ OutE .i64 out e) :
    Calls Try.prog 61 #[.pointer (some ⟨k, 0, none⟩), .func (.func f) first cap] w fun e w' =>
      if ft = 0 then e = .returned (.int .i64 (outV out ft')) ∧ TakeP k w w' ov (outF out ft') P
      else e = .returned (.int .i64 0) ∧ Below w.heap.size w w' := by
  have hmf : ∀ (fn : Fn) (first cap : Array Value) (w : World), (Instr.makeFunc fn first cap).run Try.prog w = .ok (.func fn first cap) w := fun _ _ _ _ => rfl
  have hcf : ∀ (args : Array Value) (w : World), (callFunc f args).run Try.prog w = .ok (.enter f args) w := fun args w => enters_ hfn hname hbody args w
  clear hfn hname hbody
  have ck : w.cell? ⟨k, 2, none⟩ = some (.int .i64 ft) := cell_blk hk 2 rfl
  have hlt := blk_lt hk
  have hk3 := blk_alloc (blk_alloc (blk_alloc hk (.cells #[.pointer (some ⟨k, 0, none⟩)] 28)) (.cells #[.int .i64 0] 3)) (.cells #[.int .i64 0] 3)
  obtain ⟨B0, B1, B2⟩ := three_blks w (.cells #[.pointer (some ⟨k, 0, none⟩)] 28) (.cells #[.int .i64 0] 3) (.cells #[.int .i64 0] 3)
  have x0 : (((w.alloc (.cells #[.pointer (some ⟨k, 0, none⟩)] 28)).alloc (.cells #[.int .i64 0] 3)).alloc (.cells #[.int .i64 0] 3)).cell? ⟨w.heap.size, 0, none⟩ = some (.pointer (some ⟨k, 0, none⟩)) := cell_blk B0 0 rfl
  have x1 : (((w.alloc (.cells #[.pointer (some ⟨k, 0, none⟩)] 28)).alloc (.cells #[.int .i64 0] 3)).alloc (.cells #[.int .i64 0] 3)).cell? ⟨w.heap.size + 1, 0, none⟩ = some (.int .i64 0) := cell_blk B1 0 rfl
  have x2 : (((w.alloc (.cells #[.pointer (some ⟨k, 0, none⟩)] 28)).alloc (.cells #[.int .i64 0] 3)).alloc (.cells #[.int .i64 0] 3)).cell? ⟨w.heap.size + 1 + 1, 0, none⟩ = some (.int .i64 0) := cell_blk B2 0 rfl
  have ck3 : (((w.alloc (.cells #[.pointer (some ⟨k, 0, none⟩)] 28)).alloc (.cells #[.int .i64 0] 3)).alloc (.cells #[.int .i64 0] 3)).cell? ⟨k, 2, none⟩ = some (.int .i64 ft) := cell_blk hk3 2 rfl
  have f1 := free_blk B1 0
  have B3 : Below w.heap.size w (((w.alloc (.cells #[.pointer (some ⟨k, 0, none⟩)] 28)).alloc (.cells #[.int .i64 0] 3)).alloc (.cells #[.int .i64 0] 3)) := (((Below.refl _ _).alloc (Nat.le_refl _) _).alloc (by simp) _).alloc (by simp; omega) _
  have z3 : (((w.alloc (.cells #[.pointer (some ⟨k, 0, none⟩)] 28)).alloc (.cells #[.int .i64 0] 3)).alloc (.cells #[.int .i64 0] 3)).heap.size = w.heap.size + 3 := by simp
  obtain ⟨t0, ht0⟩ := named (ft != 0)
  have Hk := Lib.hid hk3
  have HB0 := Lib.hid B0
  have HB1 := Lib.hid B1
  have HB2 := Lib.hid B2
  have HB3 := Lib.hid B3
  have HZ3 := Lib.hid z3
  have HRD := Lib.hid RD
  clear hk3 B0 B1 B2 B3 z3 RD ck hk
  go_enter_defers Try.func61, Try.ntmps61
  go_upto_region 2 with (fail)
  generalize (((w.alloc (.cells #[.pointer (some ⟨k, 0, none⟩)] 28)).alloc (.cells #[.int .i64 0] 3)).alloc (.cells #[.int .i64 0] 3)) = wd at *
  cases t0
  · have hf : ft = 0 := by simpa using ht0
    subst hf
    go_wp2_with (fail)
    refine (HRD.out (by trivial) wd HB3.out).mono ?_
    rintro e w2 ⟨⟨lv', ⟨G, hk2⟩, hP⟩, hE⟩
    have hz := HZ3.out
    have hkz : k ≠ w.heap.size ∧ k ≠ w.heap.size + 1 ∧ k ≠ w.heap.size + 1 + 1 := by omega
    have C0 := (G.block (w.heap.size) (by omega) (by simp; omega)).trans HB0.out
    have C1 := (G.block (w.heap.size + 1) (by omega) (by simp; omega)).trans HB1.out
    have C2 := (G.block (w.heap.size + 1 + 1) (by omega) (by simp; omega)).trans HB2.out
    have y0 : w2.cell? ⟨w.heap.size, 0, none⟩ = some (.pointer (some ⟨k, 0, none⟩)) := cell_blk C0 0 rfl
    have y1 : w2.cell? ⟨w.heap.size + 1, 0, none⟩ = some (.int .i64 0) := cell_blk C1 0 rfl
    have y2 : w2.cell? ⟨w.heap.size + 1 + 1, 0, none⟩ = some (.int .i64 0) := cell_blk C2 0 rfl
    have g1 := free_blk C1 0
    have GW : w.grownBy w2 (some k) := ⟨G.os.trans HB3.out.os, G.tape.trans HB3.out.tape, G.output.trans HB3.out.output, Nat.le_trans HB3.out.size G.size, fun j hj hne => (G.block j (Nat.lt_of_lt_of_le hj HB3.out.size) hne).trans (HB3.out.block j hj)⟩
    have GS : ∀ w3 (v : Value), w.grownBy w3 (some k) → w.grownBy (w3.setCell ⟨w.heap.size + 1, 0, none⟩ v) (some k) := fun w3 v G => ⟨G.os, G.tape, G.output, by simpa [World.setCell] using G.size, fun j hj hne => (Below.heap_setCell _ _ _ _ (by simp only; omega)).trans (G.block j hj hne)⟩
    have HG := Lib.hid G
    have HGW := Lib.hid GW
    have HGS := Lib.hid GS
    clear G GW GS x0 x1 x2 ck3 f1
    cases out with
    | some v =>
      have hE' : e = .returned (.int .i64 v) := hE
      subst hE'
      have D0 := (Below.heap_setCell w2 ⟨w.heap.size + 1, 0, none⟩ (.int .i64 v) w.heap.size (by simp)).trans C0
      have D1 := setCell_heap w2 (w.heap.size + 1) 0 (.int .i64 v) _ _ _ C1
      have D2 := (Below.heap_setCell w2 ⟨w.heap.size + 1, 0, none⟩ (.int .i64 v) (w.heap.size + 1 + 1) (by simp)).trans C2
      have DK := (Below.heap_setCell w2 ⟨w.heap.size + 1, 0, none⟩ (.int .i64 v) k (by simp; omega)).trans hk2
      have v0 : (w2.setCell ⟨w.heap.size + 1, 0, none⟩ (.int .i64 v)).cell? ⟨w.heap.size, 0, none⟩ = some (.pointer (some ⟨k, 0, none⟩)) := cell_blk D0 0 rfl
      have v2 : (w2.setCell ⟨w.heap.size + 1, 0, none⟩ (.int .i64 v)).cell? ⟨w.heap.size + 1 + 1, 0, none⟩ = some (.int .i64 0) := cell_blk D2 0 rfl
      have v1 : (w2.setCell ⟨w.heap.size + 1, 0, none⟩ (.int .i64 v)).cell? ⟨w.heap.size + 1, 0, none⟩ = some (.int .i64 v) := cell_blk D1 0 rfl
      have IDL := Lib.hid (idle_int v0 DK v2 D1)
      go_wp2_with (fail)
      refine leaves_cons (f := 112) (args := #[.pointer (some ⟨w.heap.size, 0, none⟩), .pointer (some ⟨w.heap.size + 1 + 1, 0, none⟩), .pointer (some ⟨w.heap.size + 1, 0, none⟩)]) (by simp) (by simp [go_sem]) ?_
      refine IDL.out.mono ?_
      rintro e u' w'' ⟨rfl, rfl, rfl⟩
      by_cases hf' : ft' = 0
      · rw [if_pos hf']
        have R : TakeP k w _ ov ft' P := ⟨lv', ⟨HGS.out _ (.int .i64 v) HGW.out, DK⟩, hst _ _ _ hP fun g hg hne => Below.heap_setCell _ _ _ _ (by simp only; omega)⟩
        simp [Leaves, settle, results, Try.results61, go_sem, v1, outV, outF, hf']
        rw [hf'] at R
        exact R
      · rw [if_neg hf']
        have E1 := setCell_heap _ (w.heap.size + 1) 0 (.int .i64 0) _ _ _ D1
        have EK := (Below.heap_setCell (w2.setCell ⟨w.heap.size + 1, 0, none⟩ (.int .i64 v)) ⟨w.heap.size + 1, 0, none⟩ (.int .i64 0) k (by simp; omega)).trans DK
        have x1 : ((w2.setCell ⟨w.heap.size + 1, 0, none⟩ (.int .i64 v)).setCell ⟨w.heap.size + 1, 0, none⟩ (.int .i64 0)).cell? ⟨w.heap.size + 1, 0, none⟩ = some (.int .i64 0) := cell_blk E1 0 rfl
        have R : TakeP k w _ ov ft' P := ⟨lv', ⟨HGS.out _ (.int .i64 0) (HGS.out _ (.int .i64 v) HGW.out), EK⟩, hst _ _ _ hP fun g hg hne => (Below.heap_setCell _ _ _ _ (by simp only; omega)).trans (Below.heap_setCell _ _ _ _ (by simp only; omega))⟩
        simp [Leaves, settle, results, Try.results61, go_sem, x1, outV, outF, hf']
        exact R
    | none =>
      obtain ⟨u, pv, rfl⟩ := hE
      go_wp2_with (fail)
      refine leaves_cons (f := 112) (args := #[.pointer (some ⟨w.heap.size, 0, none⟩), .pointer (some ⟨w.heap.size + 1 + 1, 0, none⟩), .pointer (some ⟨w.heap.size + 1, 0, none⟩)]) (by simp) (by simp [go_sem]) ?_
      refine (caught_int y0 hk2 y2 C1 (by omega) (by omega) (by omega)).mono ?_
      rintro e u' w'' ⟨rfl, rfl, rfl⟩
      have FK := setCell_heap w2 k 2 (.int .i64 10) _ _ _ hk2
      have F1 := (Below.heap_setCell w2 ⟨k, 2, none⟩ (.int .i64 10) (w.heap.size + 1) (by simp; omega)).trans C1
      have E1 := setCell_heap _ (w.heap.size + 1) 0 (.int .i64 0) _ _ _ F1
      have EK := (Below.heap_setCell (w2.setCell ⟨k, 2, none⟩ (.int .i64 10)) ⟨w.heap.size + 1, 0, none⟩ (.int .i64 0) k (by simp; omega)).trans FK
      have x1 : ((w2.setCell ⟨k, 2, none⟩ (.int .i64 10)).setCell ⟨w.heap.size + 1, 0, none⟩ (.int .i64 0)).cell? ⟨w.heap.size + 1, 0, none⟩ = some (.int .i64 0) := cell_blk E1 0 rfl
      have GK : w.grownBy (w2.setCell ⟨k, 2, none⟩ (.int .i64 10)) (some k) := ⟨HGW.out.os, HGW.out.tape, HGW.out.output, by simpa [World.setCell] using HGW.out.size, fun j hj hne => (Below.heap_setCell _ _ _ _ (by simpa using hne)).trans (HGW.out.block j hj hne)⟩
      have R : TakeP k w _ ov 10 P := ⟨lv', ⟨HGS.out _ (.int .i64 0) GK, EK⟩, hst _ _ _ hP fun g hg hne => (Below.heap_setCell _ _ _ _ (by simp only; omega)).trans (Below.heap_setCell _ _ _ _ (by simp only; omega))⟩
      simp [Leaves, settle, results, Try.results61, go_sem, x1, outV, outF]
      exact R
  · have hf : ft ≠ 0 := by simpa using ht0
    go_wp2_with (fail)
    have y1 : (wd.setCell ⟨w.heap.size + 1, 0, none⟩ (.int .i64 0)).cell? ⟨w.heap.size + 1, 0, none⟩ = some (.int .i64 0) := cell_blk (setCell_heap _ _ 0 _ _ _ _ HB1.out) 0 rfl
    simp [bodyPostD, Leaves, settle, results, Try.results61, go_sem, y1]
    exact HB3.out.setCell (by simp) _
end Go.Proofs.Ytibelfljlhcibaa
