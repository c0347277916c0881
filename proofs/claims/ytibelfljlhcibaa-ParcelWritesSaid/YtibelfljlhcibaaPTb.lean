/- take at []byte. Printed by a program of this claim's writer (wip/tools/gentake.py). -/
import Derived.Test.YtibelfljlhcibaaPR1
import Derived.Recover
import Derived.Laws.Pointers
namespace Go.Proofs.Ytibelfljlhcibaa
set_option linter.unusedVariables false
set_option linter.unusedSimpArgs false
open Go.RowKit Go.Deep Go.Proofs.YtibelfljlhcibaaW.PrintLast

section
variable {w : World} {z2 z5 z4 k : Nat} {lv ov x : Value} {ft : Int}
set_option maxRecDepth 100000 in
theorem caught_byt {u : TypeId} {pv : Value} {older : List PanicEntry} (h2 : w.cell? ⟨z2, 0, none⟩ = some (.pointer (some ⟨k, 0, none⟩))) (hk : w.heap[k]? = some (.cells #[lv, ov, .int .i64 ft] 89 (0, 0))) (h5 : w.cell? ⟨z5, 0, none⟩ = some (.slice none 0 0)) (h4 : w.heap[z4]? = some (.cells #[x] 23 (0, 0))) (h4k : z4 ≠ k) (h2k : z2 ≠ k) (h5k : z5 ≠ k) :
    CallsD Try.prog 129 #[.pointer (some ⟨z2, 0, none⟩), .pointer (some ⟨z5, 0, none⟩), .pointer (some ⟨z4, 0, none⟩)] (.panicking ({ v := .iface u pv, recovered := false } :: older)) w fun e u' w' =>
      e = .returned (.tuple #[]) ∧ u' = .panicking ({ v := .iface u pv, recovered := true } :: older) ∧ w' = (w.setCell ⟨k, 2, none⟩ (.int .i64 10)).setCell ⟨z4, 0, none⟩ (.slice none 0 0) := by
  have ck : w.cell? ⟨k, 2, none⟩ = some (.int .i64 ft) := cell_blk hk 2 rfl
  have fk : w.frozen? ⟨k, 2, none⟩ = false := free_blk hk 2
  have g2 : (w.setCell ⟨k, 2, none⟩ (.int .i64 10)).cell? ⟨z2, 0, none⟩ = some (.pointer (some ⟨k, 0, none⟩)) := cell_of' h2 (Below.heap_setCell _ _ _ _ h2k)
  have g5 : (w.setCell ⟨k, 2, none⟩ (.int .i64 10)).cell? ⟨z5, 0, none⟩ = some (.slice none 0 0) := cell_of' h5 (Below.heap_setCell _ _ _ _ h5k)
  have gb : (w.setCell ⟨k, 2, none⟩ (.int .i64 10)).heap[z4]? = some (.cells #[x] 23 (0, 0)) := (Below.heap_setCell _ _ _ _ h4k).trans h4
  have g4 : (w.setCell ⟨k, 2, none⟩ (.int .i64 10)).cell? ⟨z4, 0, none⟩ = some x := cell_blk gb 0 rfl
  have f4 : (w.setCell ⟨k, 2, none⟩ (.int .i64 10)).frozen? ⟨z4, 0, none⟩ = false := free_blk gb 0
  have gk : (w.setCell ⟨k, 2, none⟩ (.int .i64 10)).cell? ⟨k, 2, none⟩ = some (.int .i64 10) := cell_blk (setCell_heap w k 2 _ _ _ _ hk) 2 rfl
  refine callsD_of_wpS Try.func129 rfl fun c₀ cs hu => ?_
  apply wpS_seq
  apply wpS_seq
  apply wpS_region
  simp [wpOpsS, go_sem, recoverD, hu, Try.ntmps129, Exit.thenS]
  apply wpS_seq
  apply wpS_region
  simp [wpOpsS, go_sem, Exit.thenS, Array.replicate]
  refine wpS_cond (t := true) (by simp [Act.eval, Array.replicate]) ?_
  simp only [if_true]
  apply wpS_region
  simp [wpOpsS, go_sem, h2, ck, fk, Exit.thenS, Array.replicate]
  apply wpS_seq
  apply wpS_region
  simp [wpOpsS, go_sem, g2, gk, Exit.thenS, Array.replicate]
  refine wpS_cond (t := true) (by simp [Act.eval, Array.replicate]) ?_
  simp only [if_true]
  apply wpS_region
  simp [wpOpsS, go_sem, g5, g4, f4, bodyPostS, results, Try.results129, Array.replicate]
set_option maxRecDepth 100000 in
theorem idle_byt (h2 : w.cell? ⟨z2, 0, none⟩ = some (.pointer (some ⟨k, 0, none⟩))) (hk : w.heap[k]? = some (.cells #[lv, ov, .int .i64 ft] 89 (0, 0))) (h5 : w.cell? ⟨z5, 0, none⟩ = some (.slice none 0 0)) (h4 : w.heap[z4]? = some (.cells #[x] 23 (0, 0))) :
    CallsD Try.prog 129 #[.pointer (some ⟨z2, 0, none⟩), .pointer (some ⟨z5, 0, none⟩), .pointer (some ⟨z4, 0, none⟩)] .returning w fun e u' w' =>
      e = .returned (.tuple #[]) ∧ u' = .returning ∧ w' = if ft = 0 then w else w.setCell ⟨z4, 0, none⟩ (.slice none 0 0) := by
  have ck : w.cell? ⟨k, 2, none⟩ = some (.int .i64 ft) := cell_blk hk 2 rfl
  have g4 : w.cell? ⟨z4, 0, none⟩ = some x := cell_blk h4 0 rfl
  have f4 : w.frozen? ⟨z4, 0, none⟩ = false := free_blk h4 0
  refine callsD_of_wpS Try.func129 rfl fun c₀ cs hu => ?_
  apply wpS_seq
  apply wpS_seq
  apply wpS_region
  simp [wpOpsS, go_sem, recoverD, hu, Try.ntmps129, Exit.thenS]
  apply wpS_seq
  apply wpS_region
  simp [wpOpsS, go_sem, Exit.thenS, Array.replicate]
  refine wpS_cond (t := false) (by simp [Act.eval, Array.replicate]) ?_
  simp only [Bool.false_eq_true, if_false]
  refine wpS_of_wp (wp_skip ?_)
  simp only [Exit.thenS]
  apply wpS_seq
  apply wpS_region
  simp [wpOpsS, go_sem, h2, ck, Exit.thenS, Array.replicate]
  by_cases hf : ft = 0
  · refine wpS_cond (t := false) (by simp [Act.eval, Array.replicate, hf]) ?_
    simp only [Bool.false_eq_true, if_false]
    refine wpS_of_wp (wp_skip ?_)
    cases c₀
    simp_all [bodyPostS, results, Try.results129]
  · refine wpS_cond (t := true) (by simp [Act.eval, Array.replicate, hf]) ?_
    simp only [if_true]
    apply wpS_region
    cases c₀
    simp_all [wpOpsS, go_sem, g4, f4, h5, bodyPostS, results, Try.results129, Array.replicate]
end

/-- What a reading hands back at []byte: a value of which P holds, or a run-time panic. -/
def Took_byt (ok : Bool) (P : SlB → World → Prop) (e : Ending) (w' : World) : Prop := match ok with
  | true => ∃ x : SlB, e = .returned (.slice x.1 x.2.1 x.2.2) ∧ P x w'
  | false => ∃ u pv, e = .panicked [{ v := .iface u pv, recovered := false }]
def TakeP_byt (N : Bool) (F : Nat → Prop) (k : Nat) (w : World) (s s' : RS) (ok : Bool) (P : SlB → World → Prop) (e : Ending) (w' : World) : Prop :=
  if s.ft = 0 then (if ok = true ∧ s'.ft = 0 then (∃ x : SlB, e = .returned (.slice x.1 x.2.1 x.2.2) ∧ P x w') ∧ UpdN N F k w w' s' else e = .returned (.slice none 0 0) ∧ UpdN N F k w w' (if ok = true then s' else s'.short))
  else e = .returned (.slice none 0 0) ∧ Below w.heap.size w w'
set_option maxRecDepth 100000 in
set_option maxHeartbeats 2000000 in
theorem take_byt (N : Bool) {w : World} {F : Nat → Prop} {k : Nat} {s : RS} (h : RLies w F k s) {f : FuncId} {fn : Func} {first cap : Array Value} (hfn : Try.prog.funcs[f]? = some fn) (hname : (fn.name == "runtime.NumGoroutine") = false) (hbody : fn.body.isSome = true) (s' : RS) (ok : Bool) (P : SlB → World → Prop)
    (hP : ∀ x w1 w2, P x w1 → (∀ b, w.heap.size + 3 ≤ b → w2.heap[b]? = w1.heap[b]?) → P x w2)
    (RD : s.ft = 0 → ∀ wd, Below w.heap.size w wd → wd.heap.size = w.heap.size + 3 → RLies wd (fun b => F b ∧ b < w.heap.size) k s → Calls Try.prog f (first ++ cap) wd fun e w' => UpdN N (fun b => F b ∧ b < w.heap.size) k wd w' s' ∧ Took_byt ok P e w') :
    Calls Try.prog 94 #[.pointer (some ⟨k, 0, none⟩), .func (.func f) first cap] w (TakeP_byt N F k w s s' ok P) := by
  have hmf : ∀ (fn : Fn) (first cap : Array Value) (w : World), (Instr.makeFunc fn first cap).run Try.prog w = .ok (.func fn first cap) w := fun _ _ _ _ => rfl
  have hcf : ∀ (args : Array Value) (w : World), (callFunc f args).run Try.prog w = .ok (.enter f args) w := fun args w => enters_ hfn hname hbody args w
  clear hfn hname hbody
  have ht := h.tight
  have HHT := Lib.hid ht
  have HHIN := Lib.hid h.in_
  have hlt := h.lt
  obtain ⟨A0, OA0, oc0, ss0, hk, _⟩ := h
  have ck : w.cell? ⟨k, 2, none⟩ = some (.int .i64 s.ft) := cell_blk hk 2 rfl
  have hk3 := blk_alloc (blk_alloc (blk_alloc hk (.cells #[.pointer (some ⟨k, 0, none⟩)] 28)) (.cells #[.slice none 0 0] 23)) (.cells #[.slice none 0 0] 23)
  obtain ⟨B0, B1, B2⟩ := three_blks w (.cells #[.pointer (some ⟨k, 0, none⟩)] 28) (.cells #[.slice none 0 0] 23) (.cells #[.slice none 0 0] 23)
  have B3 : Below w.heap.size w (((w.alloc (.cells #[.pointer (some ⟨k, 0, none⟩)] 28)).alloc (.cells #[.slice none 0 0] 23)).alloc (.cells #[.slice none 0 0] 23)) := (((Below.refl _ _).alloc (Nat.le_refl _) _).alloc (by simp) _).alloc (by simp; omega) _
  have z3 : (((w.alloc (.cells #[.pointer (some ⟨k, 0, none⟩)] 28)).alloc (.cells #[.slice none 0 0] 23)).alloc (.cells #[.slice none 0 0] 23)).heap.size = w.heap.size + 3 := by simp
  have x0 := cell_blk B0 0 rfl
  have x1 := cell_blk B1 0 rfl
  have x2 := cell_blk B2 0 rfl
  have ck3 := cell_blk hk3 2 rfl
  have f1 := free_blk B1 0
  obtain ⟨t0, ht0⟩ := named (s.ft != 0)
  have HB0 := Lib.hid B0
  have HB1 := Lib.hid B1
  have HB2 := Lib.hid B2
  have HB3 := Lib.hid B3
  have HZ3 := Lib.hid z3
  have HRD := Lib.hid RD
  have HPP := Lib.hid hP
  clear hk3 B0 B1 B2 B3 z3 RD hP ck hk ht
  generalize hft : s.ft = ft at *
  have HFT := Lib.hid hft
  clear hft
  go_enter_defers Try.func94, Try.ntmps94
  go_upto_region 2 with (fail)
  generalize (((w.alloc (.cells #[.pointer (some ⟨k, 0, none⟩)] 28)).alloc (.cells #[.slice none 0 0] 23)).alloc (.cells #[.slice none 0 0] 23)) = wd at *
  cases t0
  · have hf : ft = 0 := by simpa using ht0
    subst hf
    have HL0 := Lib.hid (HHT.out.below HB3.out)
    clear ht0
    go_wp2_with (fail)
    refine (HRD.out (by trivial) wd HB3.out HZ3.out HL0.out).mono ?_
    rintro e w2 ⟨⟨L2, G2⟩, hE⟩
    have hz := HZ3.out
    have hkz : k ≠ w.heap.size ∧ k ≠ w.heap.size + 1 ∧ k ≠ w.heap.size + 1 + 1 := by omega
    have C0 := (G2.block (w.heap.size) (by omega) (fun h => Nat.lt_irrefl _ h.2)).trans HB0.out
    have C1 := (G2.block (w.heap.size + 1) (by omega) (fun h => by have h2 : w.heap.size + 1 < w.heap.size := h.2; omega)).trans HB1.out
    have C2 := (G2.block (w.heap.size + 1 + 1) (by omega) (fun h => by have h2 : w.heap.size + 1 + 1 < w.heap.size := h.2; omega)).trans HB2.out
    obtain ⟨A2, OA2, oc2, ss2, K2, _⟩ := id L2
    have y0 := cell_blk C0 0 rfl
    have y1 := cell_blk C1 0 rfl
    have y2 := cell_blk C2 0 rfl
    have g1 := free_blk C1 0
    -- what becomes of the reader where the box of the result is written
    have US : ∀ w3 s3, UpdN N (fun b => F b ∧ b < w.heap.size) k wd w3 s3 → ∀ v : Value, UpdN N F k w (w3.setCell ⟨w.heap.size + 1, 0, none⟩ v) s3 := fun w3 s3 U v => by
      have hs3 := U.2.size
      refine ⟨(U.1.same (w' := w3.setCell ⟨w.heap.size + 1, 0, none⟩ v) fun b hb hbl => Below.heap_setCell _ _ _ _ ?_).mono fun x hx => ?_, ?_⟩
      · rintro rfl
        rcases hb with hb | hb
        · have h2 : w.heap.size + 1 < w.heap.size := hb.2; omega
        · have h2 : wd.heap.size ≤ w.heap.size + 1 := hb.2.1; omega
      · rcases hx with hx | hx
        · exact Or.inl hx.1
        · refine Or.inr ⟨hx.1, by have := hx.2.1; omega, ?_⟩; rw [setCell_size]; exact hx.2.2
      · refine ((Fr.below F HB3.out).trans U.2 fun x _ hx => hx.1).trans (Fr.set (F := fun b => b = w.heap.size + 1) _ rfl v) fun x hx he => ?_
        omega
    have US2 : ∀ w3 s3, UpdN N (fun b => F b ∧ b < w.heap.size) k wd w3 s3 → ∀ v v' : Value, UpdN N F k w ((w3.setCell ⟨w.heap.size + 1, 0, none⟩ v').setCell ⟨w.heap.size + 1, 0, none⟩ v) s3 := fun w3 s3 U v v' => by
      obtain ⟨u1, u2⟩ := US w3 s3 U v'
      have hs3 := U.2.size
      refine ⟨((U.1.same (w' := (w3.setCell ⟨w.heap.size + 1, 0, none⟩ v').setCell ⟨w.heap.size + 1, 0, none⟩ v) fun b hb hbl => (Below.heap_setCell _ _ _ _ ?_).trans (Below.heap_setCell _ _ _ _ ?_)).mono fun x hx => ?_), u2.trans (Fr.set (F := fun b => b = w.heap.size + 1) _ rfl v) fun x hx he => by omega⟩
      · rintro rfl
        rcases hb with hb | hb
        · have h2 : w.heap.size + 1 < w.heap.size := hb.2; omega
        · have h2 : wd.heap.size ≤ w.heap.size + 1 := hb.2.1; omega
      · rintro rfl
        rcases hb with hb | hb
        · have h2 : w.heap.size + 1 < w.heap.size := hb.2; omega
        · have h2 : wd.heap.size ≤ w.heap.size + 1 := hb.2.1; omega
      · rcases hx with hx | hx
        · exact Or.inl hx.1
        · refine Or.inr ⟨hx.1, by have := hx.2.1; omega, ?_⟩; rw [setCell_size, setCell_size]; exact hx.2.2
    have HUS := Lib.hid US
    have HUS2 := Lib.hid US2
    have HU2 := Lib.hid (show UpdN N (fun b => F b ∧ b < w.heap.size) k wd w2 s' from ⟨L2, G2⟩)
    have PS : ∀ x w3 (v : Value), P x w3 → P x (w3.setCell ⟨w.heap.size + 1, 0, none⟩ v) := fun x w3 v hp => HPP.out x w3 _ hp fun b hb => Below.heap_setCell _ _ _ _ (by simp only; omega)
    have HPS := Lib.hid PS
    clear US US2 PS x0 x1 x2 ck3 f1 L2 G2
    cases ok with
    | true =>
      obtain ⟨v, rfl, hv⟩ := hE
      have HV := Lib.hid hv
      have D0 := (Below.heap_setCell w2 ⟨w.heap.size + 1, 0, none⟩ (.slice v.1 v.2.1 v.2.2) w.heap.size (by simp)).trans C0
      have D1 := setCell_heap w2 (w.heap.size + 1) 0 (.slice v.1 v.2.1 v.2.2) _ _ _ C1
      have D2 := (Below.heap_setCell w2 ⟨w.heap.size + 1, 0, none⟩ (.slice v.1 v.2.1 v.2.2) (w.heap.size + 1 + 1) (by simp)).trans C2
      have DK := (Below.heap_setCell w2 ⟨w.heap.size + 1, 0, none⟩ (.slice v.1 v.2.1 v.2.2) k (by simp; omega)).trans K2
      have v0 := cell_blk D0 0 rfl
      have v2 := cell_blk D2 0 rfl
      have v1 := cell_blk D1 0 rfl
      have IDL := Lib.hid (idle_byt v0 DK v2 D1)
      have HDD := Lib.hid D1
      clear D0 D2 DK v0 v2 hv
      go_wp2_with (fail)
      refine leaves_cons (f := 129) (args := #[.pointer (some ⟨w.heap.size, 0, none⟩), .pointer (some ⟨w.heap.size + 1 + 1, 0, none⟩), .pointer (some ⟨w.heap.size + 1, 0, none⟩)]) (by simp) (by simp [go_sem]) ?_
      refine IDL.out.mono ?_
      rintro e u' w'' ⟨rfl, rfl, rfl⟩
      by_cases hf' : s'.ft = 0
      · rw [if_pos hf']
        have R : TakeP_byt N F k w s s' true P (.returned (.slice v.1 v.2.1 v.2.2)) (w2.setCell ⟨w.heap.size + 1, 0, none⟩ (.slice v.1 v.2.1 v.2.2)) := by
          unfold TakeP_byt
          rw [if_pos HFT.out, if_pos ⟨rfl, hf'⟩]
          exact ⟨⟨v, rfl, HPS.out _ _ _ HV.out⟩, HUS.out _ _ HU2.out _⟩
        simp [Leaves, settle, results, Try.results94, go_sem, v1]
        exact R
      · rw [if_neg hf']
        have E1 := setCell_heap _ (w.heap.size + 1) 0 (.slice none 0 0) _ _ _ HDD.out
        have x1 := cell_blk E1 0 rfl
        have R : TakeP_byt N F k w s s' true P (.returned (.slice none 0 0)) ((w2.setCell ⟨w.heap.size + 1, 0, none⟩ (.slice v.1 v.2.1 v.2.2)).setCell ⟨w.heap.size + 1, 0, none⟩ (.slice none 0 0)) := by
          unfold TakeP_byt
          rw [if_pos HFT.out, if_neg (by rintro ⟨_, h⟩; exact hf' h)]
          exact ⟨rfl, HUS2.out _ _ HU2.out _ _⟩
        simp [Leaves, settle, results, Try.results94, go_sem, x1]
        exact R
    | false =>
      obtain ⟨u, pv, rfl⟩ := hE
      have CG := Lib.hid (caught_byt (pv := pv) (u := u) (older := []) y0 K2 y2 C1 (by omega) (by omega) (by omega))
      have FK := HU2.out.fault ⟨HHIN.out, hlt⟩ 10
      have F1 := (Below.heap_setCell w2 ⟨k, 2, none⟩ (.int .i64 10) (w.heap.size + 1) (by simp; omega)).trans C1
      have E1 := setCell_heap _ (w.heap.size + 1) 0 (.slice none 0 0) _ _ _ F1
      have HFK := Lib.hid FK
      have HE1 := Lib.hid E1
      clear FK F1 E1 y0 y1 y2
      go_wp2_with (fail)
      refine leaves_cons (f := 129) (args := #[.pointer (some ⟨w.heap.size, 0, none⟩), .pointer (some ⟨w.heap.size + 1 + 1, 0, none⟩), .pointer (some ⟨w.heap.size + 1, 0, none⟩)]) (by simp) (by simp [go_sem]) ?_
      refine CG.out.mono ?_
      rintro e u' w'' ⟨rfl, rfl, rfl⟩
      have x1 := cell_blk HE1.out 0 rfl
      have R : TakeP_byt N F k w s s' false P (.returned (.slice none 0 0)) ((w2.setCell ⟨k, 2, none⟩ (.int .i64 10)).setCell ⟨w.heap.size + 1, 0, none⟩ (.slice none 0 0)) := by
        unfold TakeP_byt
        rw [if_pos HFT.out, if_neg (by rintro ⟨h, _⟩; cases h), if_neg (by decide)]
        exact ⟨rfl, HUS.out _ _ HFK.out _⟩
      simp [Leaves, settle, results, Try.results94, go_sem, x1]
      exact R
  · have hf : ft ≠ 0 := by simpa using ht0
    have HF0 := Lib.hid hf
    clear hf
    go_wp2_with (fail)
    have y1 := cell_blk (setCell_heap _ _ 0 (.slice none 0 0) _ _ _ HB1.out) 0 rfl
    have R : TakeP_byt N F k w s s' ok P (.returned (.slice none 0 0)) (wd.setCell ⟨w.heap.size + 1, 0, none⟩ (.slice none 0 0)) := by
      unfold TakeP_byt
      rw [if_neg (by rw [HFT.out]; exact HF0.out)]
      exact ⟨rfl, HB3.out.setCell (by simp) _⟩
    simp [bodyPostD, Leaves, settle, results, Try.results94, go_sem, y1]
    exact R
set_option maxHeartbeats 1000000 in
theorem take_nil_byt (w : World) (g : Value) : Calls Try.prog 94 #[.pointer none, g] w fun e w' => e = .returned (.slice none 0 0) ∧ Below w.heap.size w w' := by
  obtain ⟨B0, B1, B2⟩ := three_blks w (.cells #[.pointer none] 28) (.cells #[.slice none 0 0] 23) (.cells #[.slice none 0 0] 23)
  have B3 : Below w.heap.size w (((w.alloc (.cells #[.pointer none] 28)).alloc (.cells #[.slice none 0 0] 23)).alloc (.cells #[.slice none 0 0] 23)) := (((Below.refl _ _).alloc (Nat.le_refl _) _).alloc (by simp) _).alloc (by simp; omega) _
  have x0 := cell_blk B0 0 rfl
  have x1 := cell_blk B1 0 rfl
  have x2 := cell_blk B2 0 rfl
  have f1 := free_blk B1 0
  have HB1 := Lib.hid B1
  have HB3 := Lib.hid B3
  clear B0 B1 B2 B3
  go_enter_defers Try.func94, Try.ntmps94
  go_upto_region 2 with (fail)
  generalize (((w.alloc (.cells #[.pointer none] 28)).alloc (.cells #[.slice none 0 0] 23)).alloc (.cells #[.slice none 0 0] 23)) = wd at *
  go_wp2_with (fail)
  have y1 := cell_blk (setCell_heap _ _ 0 (.slice none 0 0) _ _ _ HB1.out) 0 rfl
  simp [bodyPostD, Leaves, settle, results, Try.results94, go_sem, y1]
  exact HB3.out.setCell (by simp) _
end Go.Proofs.Ytibelfljlhcibaa
