/- A writer where it lies: New, whole, refuse, lay, form, Byte, Num, Int, Raw, Open, Len, Done. -/
import Derived.Test.YtibelfljlhcibaaPF
import Derived.Test.YtibelfljlhcibaaPM
import Derived.Test.YtibelfljlhcibaaY
import Derived.Test.YtibelfljlhcibaaWLast
namespace Go.Proofs.Ytibelfljlhcibaa
set_option linter.unusedVariables false
set_option linter.unusedSimpArgs false
open Go.RowKit Go.Deep Go.Proofs.YtibelfljlhcibaaW.PrintLast

theorem elBy : ElT Try.prog bc 23 5 1 1 (.int .u8 0) := ⟨Try.underlying23, infoB, rfl, by decide, bc_len, bc_one⟩
def encPos (p : Nat) : List Value := [.int .i64 (p : Int)]
theorem elPos : ElT Try.prog encPos 58 3 1 8 (.int .i64 0) := ⟨Try.underlying58, by kernel_rfl, rfl, by decide, fun _ => rfl, fun x u hu => by simp [encPos] at hu; subst hu; rfl⟩
/-- Bytes that lie somewhere, or none. -/
def BSrc (w : World) (B : Option Addr) (ys : List Int) : Prop := ys ≠ [] → ∃ g o, B = some ⟨g, o, none⟩ ∧ BsAt w g o ys
theorem BSrc.moved {w w' : World} {B : Option Addr} {ys : List Int} (h : BSrc w B ys) (hb : ∀ g o, B = some ⟨g, o, none⟩ → g < w.heap.size → w'.heap[g]? = w.heap[g]?) : BSrc w' B ys := fun hne => by
  obtain ⟨g, o, h1, h2⟩ := h hne
  refine ⟨g, o, h1, h2.moved (hb g o h1 ?_)⟩
  obtain ⟨x, t, rfl⟩ := List.exists_cons_of_ne_nil hne
  exact World.block_lt_of_cell? _ _ (h2 0 x rfl)
theorem BSrc.below {w w' : World} {B : Option Addr} {ys : List Int} (h : BSrc w B ys) (hb : Below w.heap.size w w') : BSrc w' B ys := h.moved fun g o _ hl => hb.block g hl
theorem BSrc.keeps {w w' : World} {B : Option Addr} {ys : List Int} (h : BSrc w B ys) (hk : ∀ (b : Nat) (o : Obj), w.heap[b]? = some o → w'.heap[b]? = some o) : BSrc w' B ys := h.moved fun g o _ hl => by
  rw [Array.getElem?_eq_getElem hl]
  exact hk g _ (Array.getElem?_eq_getElem hl)
theorem BSrc.at_ {w : World} {g o : Nat} {ys : List Int} (h : BSrc w (some ⟨g, o, none⟩) ys) : BsAt w g o ys := by
  intro j x hx
  obtain ⟨g', o', e, hb⟩ := h (by rintro rfl; simp at hx)
  injection e with e; injection e with e1 e2; subst e1; subst e2
  exact hb j x hx
theorem BSrc.ofAt {w : World} {g o : Nat} {ys : List Int} (h : BsAt w g o ys) : BSrc w (some ⟨g, o, none⟩) ys := fun _ => ⟨g, o, rfl, h⟩
theorem BSrc.ofOwn {w : World} {g c : Nat} {ys : List Int} (h : OwnB w g c ys) : BSrc w (some ⟨g, 0, none⟩) ys := BSrc.ofAt h.bsAt
theorem BSrc.ofRow {w : World} {F : Nat → Prop} {A : Option Addr} {c : Nat} {ys : List Int} (h : RowF bc 5 1 w F A c ys) : BSrc w A ys := fun hne => by
  obtain ⟨g, h1, _, h3⟩ := h.some_ hne
  exact ⟨g, 0, h1, h3.bsAt⟩
theorem BSrc.src {w : World} {B : Option Addr} {ys : List Int} (h : BSrc w B ys) : ys ≠ [] → ∃ g O, B = some ⟨g, O, none⟩ ∧ ∀ (k : Nat) y, ys[k]? = some y → ∀ j v, (bc y)[j]? = some v → w.cell? ⟨g, O + k * 1 + j, none⟩ = some v := fun hne => by
  obtain ⟨g, o, h1, h2⟩ := h hne
  refine ⟨g, o, h1, fun k y hy j v hv => ?_⟩
  have h0 : j = 0 := by
    rcases j with _ | j
    · rfl
    · simp [bc] at hv
  subst h0
  simp [bc] at hv; subst hv
  have := h2 k y hy
  simpa using this
theorem setCell_size (w : World) (p : Addr) (v : Value) : (w.setCell p v).heap.size = w.heap.size := by simp [World.setCell]
/-- A writer at block k, of struct type T; its blocks are F's. -/
def WLies (T : TypeId) (w : World) (F : Nat → Prop) (k : Nat) (s : WS) : Prop := ∃ A c OA oc, w.heap[k]? = some (.cells #[.int .i64 s.room, .slice A s.bs.length c, .slice OA s.op.length oc, .int .i64 s.ft] T (0, 0)) ∧ F k ∧ RowF bc 5 1 w F A c s.bs ∧ RowF encPos 3 1 w F OA oc s.op
/-- .. and behind a call. -/
def UpdW (T : TypeId) (F : Nat → Prop) (k : Nat) (w w' : World) (s : WS) : Prop := WLies T w' (Gr F w w') k s ∧ Fr F w w'
section
variable {T : TypeId} {w w' w0 w1 w2 : World} {F G : Nat → Prop} {k : Nat} {s s' : WS}
theorem WLies.lt (h : WLies T w F k s) : k < w.heap.size := by obtain ⟨_, _, _, _, h, _⟩ := h; exact blk_lt h
theorem WLies.in_ (h : WLies T w F k s) : F k := by obtain ⟨_, _, _, _, _, h, _⟩ := h; exact h
theorem WLies.mono (h : WLies T w F k s) (hF : ∀ x, F x → G x) : WLies T w G k s := by
  obtain ⟨A, c, OA, oc, h1, h2, h3, h4⟩ := h
  exact ⟨A, c, OA, oc, h1, hF k h2, h3.mono hF, h4.mono hF⟩
theorem WLies.same (h : WLies T w F k s) (hk : ∀ b, F b → b < w.heap.size → w'.heap[b]? = w.heap[b]?) : WLies T w' F k s := by
  have hl := h.lt
  obtain ⟨A, c, OA, oc, h1, h2, h3, h4⟩ := h
  exact ⟨A, c, OA, oc, (hk k h2 hl).trans h1, h2, h3.same hk, h4.same hk⟩
theorem WLies.below (h : WLies T w F k s) (hb : Below w.heap.size w w') : WLies T w' F k s := h.same fun b _ hl => hb.block b hl
theorem WLies.fr (h : WLies T w F k s) (hf : Fr G w w') (hd : ∀ b, F b → ¬ G b) : WLies T w' F k s := h.same fun b hF hl => hf.block b hl (hd b hF)
theorem WLies.keeps (h : WLies T w F k s) (hk : ∀ (b : Nat) (cs : Array Value) (U : TypeId), w.heap[b]? = some (Obj.cells cs U (0, 0)) → (U = T ∨ U = 5 ∨ U = 3) → w'.heap[b]? = some (Obj.cells cs U (0, 0))) : WLies T w' F k s := by
  obtain ⟨A, c, OA, oc, h1, h2, h3, h4⟩ := h
  exact ⟨A, c, OA, oc, hk _ _ _ h1 (Or.inl rfl), h2, h3.keeps (fun b cs hb => hk b cs _ hb (Or.inr (Or.inl rfl))), h4.keeps (fun b cs hb => hk b cs _ hb (Or.inr (Or.inr rfl)))⟩
theorem WLies.drew (h : WLies T w F k s) : WLies T w.drew F k s := h.same fun _ _ _ => rfl
/-- The fault set. -/
theorem WLies.fault (h : WLies T w F k s) (hT : T ≠ 5 ∧ T ≠ 3) (e : Int) : WLies T (w.setCell ⟨k, 3, none⟩ (.int .i64 e)) F k { s with ft := e } := by
  obtain ⟨A, c, OA, oc, h1, h2, h3, h4⟩ := h
  exact ⟨A, c, OA, oc, setCell_heap w k 3 _ _ _ _ h1, h2, h3.keeps (KeepT.setCell h1 (Ne.symm hT.1) 3 _), h4.keeps (KeepT.setCell h1 (Ne.symm hT.2) 3 _)⟩
theorem UpdW.refl (h : WLies T w F k s) : UpdW T F k w w s := ⟨h.mono fun _ h => Or.inl h, Fr.refl F w⟩
theorem UpdW.of_below (h : WLies T w F k s) (hb : Below w.heap.size w w') : UpdW T F k w w' s := ⟨(h.below hb).mono fun _ h => Or.inl h, Fr.below F hb⟩
/-- One call behind another one. -/
theorem UpdW.trans (h : UpdW T F k w w1 s) (h' : UpdW T (Gr F w w1) k w1 w2 s') : UpdW T F k w w2 s' := ⟨h'.1.mono (Gr.two h.2.size h'.2.size), h.2.next h'.2⟩
/-- Behind calls that made memory alone. -/
theorem UpdW.after (hb : Below w.heap.size w w1) (h' : UpdW T F k w1 w2 s') : UpdW T F k w w2 s' :=
  ⟨h'.1.mono fun x hx => by
    rcases hx with hx | hx
    · exact Or.inl hx
    · have := hb.size; exact Or.inr ⟨by omega, hx.2⟩, (Fr.below F hb).trans h'.2 fun _ _ h => h⟩
theorem UpdW.ahead (h : UpdW T F k w w1 s) (hb : Below w1.heap.size w1 w2) : UpdW T F k w w2 s :=
  ⟨(h.1.below hb).mono (Gr.le hb.size), h.2.trans (Fr.below F hb) fun _ _ h => h⟩
end
abbrev TW : TypeId := 93
theorem tw_ne : TW ≠ 5 ∧ TW ≠ 3 := by decide
section
variable {w : World} {F : Nat → Prop} {k : Nat} {s : WS}
set_option maxHeartbeats 400000 in
theorem new_any (room : Int) (w : World) : Calls Try.prog 21 #[.int .i64 room] w fun e w' => e = .returned (.pointer (some ⟨w.heap.size, 0, none⟩)) ∧ Below w.heap.size w w' ∧ WLies TW w' (fun b => w.heap.size ≤ b ∧ b < w'.heap.size) w.heap.size ⟨max room 0, [], [], 0⟩ := by
  go_enter Try.func21, Try.ntmps21
  go_wp2
  all_goals
    go_ret
    refine ⟨rfl, (Below.refl _ _).alloc (Nat.le_refl _) _, none, 0, none, 0, ?_, ⟨Nat.le_refl _, by simp⟩, RowF.nil, RowF.nil⟩
    rw [blk_new]
    simp
    omega
set_option maxHeartbeats 400000 in
theorem whole_any (h : WLies TW w F k s) : Calls Try.prog 64 #[.pointer (some ⟨k, 0, none⟩)] w fun e w' => e = .returned (.bool (s.ft == 0)) ∧ w = w' := by
  obtain ⟨A, c, OA, oc, h1, h2, h3, h4⟩ := h
  have e3 : w.cell? ⟨k, 3, none⟩ = some (.int .i64 s.ft) := cell_blk h1 3 rfl
  clear h1 h2 h3 h4
  generalize s.ft = ft at *
  obtain ⟨t, ht⟩ := named (ft == 0)
  rw [ht]
  go_enter Try.func64, Try.ntmps64
  go_wp2
  all_goals
    go_ret
    first | exact ⟨rfl, rfl⟩ | simp_all
set_option maxHeartbeats 400000 in
theorem whole_nil (w : World) : Calls Try.prog 64 #[.pointer none] w fun e w' => e = .returned (.bool false) ∧ w = w' := by
  go_enter Try.func64, Try.ntmps64
  go_wp2
  go_ret
  exact ⟨rfl, rfl⟩
set_option maxHeartbeats 1000000 in
theorem refuse_any (h : WLies TW w F k s) (e' : Int) : Calls Try.prog 100 #[.pointer (some ⟨k, 0, none⟩), .int .i64 e'] w fun e w' => e = .returned (.tuple #[]) ∧ UpdW TW F k w w' (s.refuse e') := by
  have WH := Lib.hid (whole_any h)
  have H := Lib.hid h
  obtain ⟨A, c, OA, oc, h1, h2, h3, h4⟩ := h
  have e3 : w.cell? ⟨k, 3, none⟩ = some (.int .i64 s.ft) := cell_blk h1 3 rfl
  have f3 := free_blk h1 3
  clear h1 h2 h3 h4
  obtain ⟨t0, ht0⟩ := named (s.ft == 0)
  rw [ht0] at WH
  go_enter Try.func100, Try.ntmps100
  cases t0
  · have hf : ¬ s.ft = 0 := by simpa using ht0
    go_wp2_with (go_at_call 64; refine WH.out.mono ?_; rintro e w_ ⟨rfl, rfl⟩)
    go_end0
    refine ⟨rfl, ?_⟩
    unfold WS.refuse
    rw [if_neg hf]
    exact UpdW.refl H.out
  · have hf : s.ft = 0 := by simpa using ht0
    have HFT := Lib.hid hf
    clear hf ht0
    go_wp2_with (go_at_call 64; refine WH.out.mono ?_; rintro e w_ ⟨rfl, rfl⟩)
    go_end0
    refine ⟨rfl, ?_⟩
    unfold WS.refuse
    rw [if_pos HFT.out]
    exact ⟨(H.out.fault tw_ne e').mono fun _ h => Or.inl h, Fr.set w H.out.in_ _⟩
set_option maxHeartbeats 400000 in
theorem refuse_nil (w : World) (e' : Int) : Calls Try.prog 100 #[.pointer none, .int .i64 e'] w fun e w' => e = .returned (.tuple #[]) ∧ w = w' := by
  go_enter Try.func100, Try.ntmps100
  go_wp2_with (go_at_call 64; refine (whole_nil _).mono ?_; rintro e w_ ⟨rfl, rfl⟩)
  go_end0
  exact ⟨rfl, rfl⟩
set_option maxRecDepth 100000 in
set_option maxHeartbeats 2000000 in
theorem lay_any (h : WLies TW w F k s) (hr0 : 0 ≤ s.room) (hr1 : s.room ≤ 9223372036854775807) (hfit : (s.bs.length : Int) ≤ s.room) {B : Option Addr} {cc : Nat} {ys : List Int} (hy : BSrc w B ys) (h63 : s.bs.length + ys.length ≤ 140737488355328) :
    Calls Try.prog 67 #[.pointer (some ⟨k, 0, none⟩), .slice B ys.length cc] w fun e w' => e = .returned (.tuple #[]) ∧ UpdW TW F k w w' (s.lay ys) := by
  have WH := Lib.hid (whole_any h)
  have H := Lib.hid h
  have HY := Lib.hid hy
  have hk := h.in_
  obtain ⟨A, c, OA, oc, h1, h2, h3, h4⟩ := h
  obtain ⟨room, bs, op, ft⟩ := s
  simp only at hr0 hr1 hfit h63 h1 h3 h4 WH
  have e0 : w.cell? ⟨k, 0, none⟩ = some (.int .i64 room) := cell_blk h1 0 rfl
  have e1 : w.cell? ⟨k, 1, none⟩ = some (.slice A bs.length c) := cell_blk h1 1 rfl
  have HK := Lib.hid h1
  have H3 := Lib.hid h3
  have H4 := Lib.hid h4
  have hkl := blk_lt h1
  clear hy h1 h2 h3 h4
  obtain ⟨t0, ht0⟩ := named (ft == 0)
  rw [ht0] at WH
  obtain ⟨t1, ht1⟩ := named (decide (room - (bs.length : Int) < (ys.length : Int)))
  go_enter Try.func67, Try.ntmps67
  go_wp2_with (go_at_call 64; refine WH.out.mono ?_; rintro e w_ ⟨rfl, rfl⟩)
  · go_end0
    have hf : ¬ ft = 0 := by simp_all
    refine ⟨rfl, ?_⟩
    unfold WS.lay
    rw [if_neg hf]
    exact UpdW.refl H.out
  · have hf : ft = 0 := by simp_all
    subst hf
    refine start_ (n := 14) (S := fun w' => w'.cell? ⟨k, 0, none⟩ = some (.int .i64 room) ∧ w'.cell? ⟨k, 1, none⟩ = some (.slice A bs.length c)) (ds := []) #[false, false, false, false, false, false, false, false, false, false, false, false, false, false] (by kernel_rfl) rfl rfl ⟨e0, e1⟩ (fun hHeld => ?_)
    (refine take_ (i := 0) (N := some 18) (v := ?v_2) (a' := ?a_2) #[true, false, false, false, false, false, false, false, false, false, false, false, false, false] rfl rfl (by kernel_rfl) (fun _ _ _ h => h) (Or.inl ⟨by rfl, ?hy_2⟩) hHeld ?ha_2 ?hh_2; (case hy_2 => (rintro w' ⟨s0_, s1_⟩; go_simp; with_reducible rfl)); (case ha_2 => (simp (disch := omega) only [Act.put, List.setIfInBounds_toArray, List.set_cons_zero, List.set_cons_succ, wrap_in]; rfl)))
    (refine take_ (i := 1) (N := some 19) (v := ?v_3) (a' := ?a_3) #[true, true, false, false, false, false, false, false, false, false, false, false, false, false] rfl rfl (by kernel_rfl) (fun _ _ _ h => h) (Or.inl ⟨by rfl, ?hy_3⟩) hHeld ?ha_3 ?hh_3; (case hy_3 => (rintro w' ⟨s0_, s1_⟩; go_simp; with_reducible rfl)); (case ha_3 => (simp (disch := omega) only [Act.put, List.setIfInBounds_toArray, List.set_cons_zero, List.set_cons_succ, wrap_in]; rfl)))
    (refine take_ (i := 2) (N := some 20) (v := ?v_4) (a' := ?a_4) #[true, true, true, false, false, false, false, false, false, false, false, false, false, false] rfl rfl (by kernel_rfl) (fun _ _ _ h => h) (Or.inl ⟨by rfl, ?hy_4⟩) hHeld ?ha_4 ?hh_4; (case hy_4 => (rintro w' ⟨s0_, s1_⟩; go_simp; with_reducible rfl)); (case ha_4 => (simp (disch := omega) only [Act.put, List.setIfInBounds_toArray, List.set_cons_zero, List.set_cons_succ, wrap_in]; rfl)))
    (refine take_ (i := 3) (N := some 21) (v := ?v_5) (a' := ?a_5) #[true, true, true, true, false, false, false, false, false, false, false, false, false, false] rfl rfl (by kernel_rfl) (fun _ _ _ h => h) (Or.inl ⟨by rfl, ?hy_5⟩) hHeld ?ha_5 ?hh_5; (case hy_5 => (rintro w' ⟨s0_, s1_⟩; go_simp; with_reducible rfl)); (case ha_5 => (simp (disch := omega) only [Act.put, List.setIfInBounds_toArray, List.set_cons_zero, List.set_cons_succ, wrap_in]; rfl)))
    (refine take_ (i := 4) (N := some 22) (v := ?v_6) (a' := ?a_6) #[true, true, true, true, true, false, false, false, false, false, false, false, false, false] rfl rfl (by kernel_rfl) (fun _ _ _ h => h) (Or.inl ⟨by rfl, ?hy_6⟩) hHeld ?ha_6 ?hh_6; (case hy_6 => (rintro w' ⟨s0_, s1_⟩; go_simp; with_reducible rfl)); (case ha_6 => (simp (disch := omega) only [Act.put, List.setIfInBounds_toArray, List.set_cons_zero, List.set_cons_succ, wrap_in]; rfl)))
    (refine take_ (i := 5) (N := some 23) (v := ?v_7) (a' := ?a_7) #[true, true, true, true, true, true, false, false, false, false, false, false, false, false] rfl rfl (by kernel_rfl) (fun _ _ _ h => h) (Or.inl ⟨by rfl, ?hy_7⟩) hHeld ?ha_7 ?hh_7; (case hy_7 => (rintro w' ⟨s0_, s1_⟩; go_simp; with_reducible rfl)); (case ha_7 => (simp (disch := omega) only [Act.put, List.setIfInBounds_toArray, List.set_cons_zero, List.set_cons_succ, wrap_in]; rfl)))
    (refine take_ (i := 6) (N := some 24) (v := ?v_8) (a' := ?a_8) #[true, true, true, true, true, true, true, false, false, false, false, false, false, false] rfl rfl (by kernel_rfl) (fun _ _ _ h => h) (Or.inl ⟨by rfl, ?hy_8⟩) hHeld ?ha_8 ?hh_8; (case hy_8 => (rintro w' ⟨s0_, s1_⟩; go_simp; with_reducible rfl)); (case ha_8 => (simp (disch := omega) only [Act.put, List.setIfInBounds_toArray, List.set_cons_zero, List.set_cons_succ, wrap_in]; rfl)))
    (refine take_ (i := 7) (N := some 25) (v := ?v_9) (a' := ?a_9) #[true, true, true, true, true, true, true, true, false, false, false, false, false, false] rfl rfl (by kernel_rfl) (fun _ _ _ h => h) (Or.inl ⟨by rfl, ?hy_9⟩) hHeld ?ha_9 ?hh_9; (case hy_9 => (rintro w' ⟨s0_, s1_⟩; go_simp; with_reducible rfl)); (case ha_9 => (simp (disch := omega) only [Act.put, List.setIfInBounds_toArray, List.set_cons_zero, List.set_cons_succ, wrap_in]; rfl)))
    (refine take_ (i := 8) (N := some 26) (v := ?v_10) (a' := ?a_10) #[true, true, true, true, true, true, true, true, true, false, false, false, false, false] rfl rfl (by kernel_rfl) (fun _ _ _ h => h) (Or.inl ⟨by rfl, ?hy_10⟩) hHeld ?ha_10 ?hh_10; (case hy_10 => (rintro w' ⟨s0_, s1_⟩; go_simp; with_reducible rfl)); (case ha_10 => (simp (disch := omega) only [Act.put, List.setIfInBounds_toArray, List.set_cons_zero, List.set_cons_succ, wrap_in]; rfl)))
    (refine take_ (i := 9) (N := some 27) (v := ?v_11) (a' := ?a_11) #[true, true, true, true, true, true, true, true, true, true, false, false, false, false] rfl rfl (by kernel_rfl) (fun _ _ _ h => h) (Or.inl ⟨by rfl, ?hy_11⟩) hHeld ?ha_11 ?hh_11; (case hy_11 => (rintro w' ⟨s0_, s1_⟩; go_simp; with_reducible rfl)); (case ha_11 => (simp (disch := omega) only [Act.put, List.setIfInBounds_toArray, List.set_cons_zero, List.set_cons_succ, wrap_in]; rfl)))
    (refine take_ (i := 10) (N := some 28) (v := ?v_12) (a' := ?a_12) #[true, true, true, true, true, true, true, true, true, true, true, false, false, false] rfl rfl (by kernel_rfl) (fun _ _ _ h => h) (Or.inl ⟨by rfl, ?hy_12⟩) hHeld ?ha_12 ?hh_12; (case hy_12 => (rintro w' ⟨s0_, s1_⟩; go_simp; with_reducible rfl)); (case ha_12 => (simp (disch := omega) only [Act.put, List.setIfInBounds_toArray, List.set_cons_zero, List.set_cons_succ, wrap_in]; rfl)))
    (refine take_ (i := 11) (N := some 29) (v := ?v_13) (a' := ?a_13) #[true, true, true, true, true, true, true, true, true, true, true, true, false, false] rfl rfl (by kernel_rfl) (fun _ _ _ h => h) (Or.inl ⟨by rfl, ?hy_13⟩) hHeld ?ha_13 ?hh_13; (case hy_13 => (rintro w' ⟨s0_, s1_⟩; go_simp; with_reducible rfl)); (case ha_13 => (simp (disch := omega) only [Act.put, List.setIfInBounds_toArray, List.set_cons_zero, List.set_cons_succ, wrap_in]; rfl)))
    (refine take_ (i := 12) (N := some 30) (v := ?v_14) (a' := ?a_14) #[true, true, true, true, true, true, true, true, true, true, true, true, true, false] rfl rfl (by kernel_rfl) (fun _ _ _ h => h) (Or.inl ⟨by rfl, ?hy_14⟩) hHeld ?ha_14 ?hh_14; (case hy_14 => (rintro w' ⟨s0_, s1_⟩; go_simp; with_reducible rfl)); (case ha_14 => (simp (disch := omega) only [Act.put, List.setIfInBounds_toArray, List.set_cons_zero, List.set_cons_succ, wrap_in]; rfl)))
    (refine take_ (i := 13) (N := some 17) (v := ?v_15) (a' := ?a_15) #[true, true, true, true, true, true, true, true, true, true, true, true, true, true] rfl rfl (by kernel_rfl) (fun _ _ _ h => h) (Or.inl ⟨by rfl, ?hy_15⟩) hHeld ?ha_15 ?hh_15; (case hy_15 => (rintro w' ⟨s0_, s1_⟩; go_simp; with_reducible rfl)); (case ha_15 => (simp (disch := omega) only [Act.put, List.setIfInBounds_toArray, List.set_cons_zero, List.set_cons_succ, wrap_in]; rfl)))
    refine done_ (by kernel_rfl) ?_
    obtain ⟨A', c', w2, hrun, R2, F2, K2⟩ := RowF.append (ys := ys) elBy (H3.out.keeps (KeepT.drew _ w)) 23 B cc (BSrc.src (HY.out.moved fun _ _ _ _ => rfl)) (by simp only [maxLen]; omega) (by omega)
    have HRUN := Lib.hid hrun
    have hk2 := K2 93 (by decide) _ _ (show w.drew.heap[k]? = _ from HK.out)
    have x1 : w2.cell? ⟨k, 1, none⟩ = some (.slice A bs.length c) := cell_blk hk2 1 rfl
    have f1 := free_blk hk2 1
    have e3 : w.drew.cell? ⟨k, 3, none⟩ = some (.int .i64 0) := cell_blk (show w.drew.heap[k]? = _ from HK.out) 3 rfl
    have f3 : w.drew.frozen? ⟨k, 3, none⟩ = false := free_blk (show w.drew.heap[k]? = _ from HK.out) 3
    have HK2 := Lib.hid hk2
    have HR2 := Lib.hid R2
    have HF2 := Lib.hid F2
    have HKT := Lib.hid K2
    clear hrun hk2 R2 F2 K2
    go_wp2_with (refine wpList_app HRUN.out rfl rfl rfl (by rfl) (by rfl) ?_)
    · go_end0
      have hc : room - (bs.length : Int) < (ys.length : Int) := of_decide_eq_true (ht1.trans (by assumption))
      refine ⟨rfl, ?_⟩
      unfold WS.lay
      rw [if_pos rfl, if_pos hc]
      exact ⟨(H.out.drew.fault tw_ne 13).mono fun _ h => Or.inl h, (Fr.drew F w).trans (Fr.set _ hk _) fun _ _ h => h⟩
    · go_end0
      have hc : ¬ room - (bs.length : Int) < (ys.length : Int) := of_decide_eq_false (ht1.trans (by assumption))
      refine ⟨rfl, ?_⟩
      unfold WS.lay
      rw [if_pos rfl, if_neg hc]
      have hS := setCell_heap w2 k 1 (.slice A' (bs.length + ys.length) c') _ _ _ HK2.out
      have K1 : KeepT 5 w2 (w2.setCell ⟨k, 1, none⟩ (.slice A' (bs.length + ys.length) c')) := KeepT.setCell HK2.out (by decide) 1 _
      have K3 : KeepT 3 w2 (w2.setCell ⟨k, 1, none⟩ (.slice A' (bs.length + ys.length) c')) := KeepT.setCell HK2.out (by decide) 1 _
      have hz : w2.heap.size ≤ (w2.setCell ⟨k, 1, none⟩ (.slice A' (bs.length + ys.length) c')).heap.size := by rw [setCell_size]; exact Nat.le_refl _
      refine ⟨⟨A', c', OA, oc, by simpa using hS, Or.inl hk, (HR2.out.keeps K1).mono (Gr.le hz), ?_⟩, ((Fr.drew F w).trans HF2.out fun _ _ h => h).trans (Fr.set _ hk _) fun _ _ h => h⟩
      exact (((H4.out.keeps (KeepT.drew _ w)).keeps (HKT.out 3 (by decide))).keeps K3).mono fun _ h => Or.inl h
end
end Go.Proofs.Ytibelfljlhcibaa
