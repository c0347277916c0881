/- A record's parts: what each reads. -/
import Derived.Test.YtjmmdpnphafdfaaRW2
import Derived.Test.YtjmmdpnphafdfaaPR5
namespace Go.Proofs.Ytjmmdpnphafdfaa
set_option linter.unusedVariables false
set_option linter.unusedSimpArgs false
open Go.RowKit Go.Deep Go.Proofs.YtjmmdpnphafdfaaW.PrintLast

/-- Bytes in a block of one's own from lo to below hi, or nil. -/
def NewIn (w : World) (lo hi : Nat) (x : SlB) (p : List Int) : Prop := x.2.1 = p.length ∧ RowF bc 5 1 w (fun b => lo ≤ b ∧ b < hi) x.1 x.2.2 p
/-- A record that is being read: its slices are new, each behind the one ahead of it. -/
def RecD (w : World) (lo hi kr : Nat) (r : RZ) (K V C : SlB) : Prop := kr < lo ∧ w.heap[kr]? = some (.cells (recCells r K V C) TRec (0, 0)) ∧ hi ≤ w.heap.size ∧
  ∃ m n, lo ≤ m ∧ m ≤ n ∧ n ≤ hi ∧ NewIn w lo m K r.op.key ∧ NewIn w m n V r.op.val ∧ NewIn w n hi C r.copy
def zSl : SlB := (none, 0, 0)
section
variable {w w' : World} {F : Nat → Prop} {N M lo hi kr : Nat} {r r' : RZ} {K V C x : SlB} {p : List Int}
theorem NewB.in_ (h : NewB N w p x) : NewIn w N w.heap.size x p := by
  refine ⟨h.1, ?_⟩
  rcases h.2 with h2 | ⟨g, h1, h2, h3⟩
  · exact Or.inl h2
  · exact Or.inr ⟨g, h1, ⟨h2, h3.lt⟩, h3⟩
theorem NewIn.nil (w : World) (lo hi : Nat) : NewIn w lo hi zSl [] := ⟨rfl, RowF.nil⟩
theorem NewIn.mono (h : NewIn w lo hi x p) (h1 : N ≤ lo) (h2 : hi ≤ M) : NewIn w N M x p := ⟨h.1, h.2.mono fun b hb => ⟨Nat.le_trans h1 hb.1, Nat.lt_of_lt_of_le hb.2 h2⟩⟩
theorem NewIn.same (h : NewIn w lo hi x p) (hk : ∀ b, lo ≤ b → b < hi → b < w.heap.size → w'.heap[b]? = w.heap[b]?) : NewIn w' lo hi x p := ⟨h.1, h.2.same fun b hb hl => hk b hb.1 hb.2 hl⟩
theorem NewIn.slAt (h : NewIn w lo hi x p) : SlAt w hi x p := by
  refine ⟨h.1, BSrc.ofRow h.2, fun hne g o e => ?_⟩
  obtain ⟨g', h1, h2, _⟩ := h.2.some_ hne
  rw [h1] at e; injection e with e; injection e with e1 _; subst e1
  exact h2.2
theorem NewIn.keep (h : NewIn w lo hi x p) (hf : Fr F w w') (hF : ∀ b, F b → b < lo) : NewIn w' lo hi x p := h.same fun b hb _ hl => hf.block b hl fun hb' => by have := hF b hb'; omega
theorem RecD.size (h : RecD w lo hi kr r K V C) : lo ≤ hi := by obtain ⟨_, _, _, m, n, h1, h2, h3, _⟩ := h; omega
theorem RecD.grow (h : RecD w lo hi kr r K V C) (h1 : hi ≤ M) (h2 : M ≤ w.heap.size) : RecD w lo M kr r K V C := by
  obtain ⟨g1, g2, _, m, n, h3, h4, h5, h6, h7, h8⟩ := h
  exact ⟨g1, g2, h2, m, n, h3, h4, Nat.le_trans h5 h1, h6, h7, h8.mono (Nat.le_refl _) h1⟩
theorem RecD.fr (h : RecD w lo hi kr r K V C) (hf : Fr F w w') (hF : ∀ b, F b → b < lo) (hk : ¬ F kr) : RecD w' lo hi kr r K V C := by
  obtain ⟨h1, h2, h9, m, n, h3, h4, h5, h6, h7, h8⟩ := h
  exact ⟨h1, (hf.block kr (blk_lt h2) hk).trans h2, Nat.le_trans h9 hf.size, m, n, h3, h4, h5, h6.keep hf hF, h7.keep hf fun b hb => by have := hF b hb; omega, h8.keep hf fun b hb => by have := hF b hb; omega⟩
theorem RecD.below (h : RecD w lo hi kr r K V C) (hb : Below w.heap.size w w') : RecD w' lo hi kr r K V C := h.fr (F := fun _ => False) (Fr.below _ hb) (fun _ h => h.elim) (fun h => h)
theorem RecD.keep (h : RecD w lo hi kr r K V C) (h1 : w'.heap[kr]? = some (.cells (recCells r' K V C) TRec (0, 0))) (hs : w'.heap.size = w.heap.size) (hk : ∀ b, b ≠ kr → w'.heap[b]? = w.heap[b]?) (e1 : r'.op.key = r.op.key) (e2 : r'.op.val = r.op.val) (e3 : r'.copy = r.copy) : RecD w' lo hi kr r' K V C := by
  obtain ⟨g1, g2, h9, m, n, h3, h4, h5, h6, h7, h8⟩ := h
  rw [← e1] at h6
  rw [← e2] at h7
  rw [← e3] at h8
  exact ⟨g1, h1, by omega, m, n, h3, h4, by omega, h6.same fun b hb _ _ => hk b (by omega), h7.same fun b hb _ _ => hk b (by omega), h8.same fun b hb _ _ => hk b (by omega)⟩
theorem RecD.setI (h : RecD w lo hi kr r K V C) (j : Nat) (x : Int) (hc : (recCells r K V C).setIfInBounds j (.int .i64 x) = recCells r' K V C) (e1 : r'.op.key = r.op.key) (e2 : r'.op.val = r.op.val) (e3 : r'.copy = r.copy) : RecD (w.setCell ⟨kr, j, none⟩ (.int .i64 x)) lo hi kr r' K V C := by
  refine h.keep ?_ (setCell_size _ _ _) (fun b hb => Below.heap_setCell _ _ _ _ (by simpa using hb)) e1 e2 e3
  rw [← hc]
  exact setCell_heap w kr j _ _ _ _ h.2.1
theorem set_other (w : World) {kr b : Nat} (j : Nat) (v : Value) (h : b ≠ kr) : (w.setCell ⟨kr, j, none⟩ v).heap[b]? = w.heap[b]? := Below.heap_setCell _ _ _ _ (by simpa using h)
theorem RecD.setC (h : RecD w lo hi kr r K V zSl) (hx : NewIn w hi M x p) (h1 : hi ≤ M) (h2 : M ≤ w.heap.size) : RecD (w.setCell ⟨kr, 10, none⟩ (.slice x.1 x.2.1 x.2.2)) lo M kr { r with copy := p } K V x := by
  obtain ⟨g1, g2, h9, m, n, h3, h4, h5, h6, h7, h8⟩ := h
  exact ⟨g1, (setCell_heap w kr 10 _ _ _ _ g2).trans rfl, by rw [setCell_size]; exact h2, m, n, h3, h4, by omega, h6.same fun b hb _ _ => set_other w _ _ (by omega), h7.same fun b hb _ _ => set_other w _ _ (by omega),
    (hx.mono h5 (Nat.le_refl _)).same fun b hb _ _ => set_other w _ _ (by omega)⟩
theorem RecD.setV (h : RecD w lo hi kr r K zSl zSl) (hc : r.copy = []) (hx : NewIn w hi M x p) (h1 : hi ≤ M) (h2 : M ≤ w.heap.size) : RecD (w.setCell ⟨kr, 8, none⟩ (.slice x.1 x.2.1 x.2.2)) lo M kr { r with op := { r.op with val := p } } K x zSl := by
  obtain ⟨g1, g2, h9, m, n, h3, h4, h5, h6, h7, h8⟩ := h
  refine ⟨g1, (setCell_heap w kr 8 _ _ _ _ g2).trans rfl, by rw [setCell_size]; exact h2, m, M, h3, by omega, Nat.le_refl _, h6.same fun b hb _ _ => set_other w _ _ (by omega), (hx.mono (by omega) (Nat.le_refl _)).same fun b hb _ _ => set_other w _ _ (by omega), ?_⟩
  simp only [hc]
  exact NewIn.nil _ _ _
theorem RecD.setOp (h : RecD w lo hi kr r zSl zSl zSl) (hc : r.copy = []) (hx : NewIn w hi M x p) (h1 : hi ≤ M) (h2 : M ≤ w.heap.size) (kd : Int) : RecD ((((w.setCell ⟨kr, 6, none⟩ (.int .i64 kd)).setCell ⟨kr, 7, none⟩ (.slice x.1 x.2.1 x.2.2)).setCell ⟨kr, 8, none⟩ (.slice none 0 0)).setCell ⟨kr, 9, none⟩ (.int .i64 0)) lo M kr { r with op := ⟨kd, p, [], 0⟩ } x zSl zSl := by
  obtain ⟨g1, g2, h9, m, n, h3, h4, h5, h6, h7, h8⟩ := h
  have q1 := setCell_heap w kr 6 (.int .i64 kd) _ _ _ g2
  have q2 := setCell_heap _ kr 7 (.slice x.1 x.2.1 x.2.2) _ _ _ q1
  have q3 := setCell_heap _ kr 8 (.slice none 0 0) _ _ _ q2
  have q4 := setCell_heap _ kr 9 (.int .i64 0) _ _ _ q3
  refine ⟨g1, q4.trans rfl, by simp only [setCell_size]; exact h2, M, M, by omega, Nat.le_refl _, Nat.le_refl _, (hx.mono (by omega) (Nat.le_refl _)).same fun b hb _ _ => ?_, NewIn.nil _ _ _, ?_⟩
  · rw [set_other _ _ _ (by omega), set_other _ _ _ (by omega), set_other _ _ _ (by omega), set_other _ _ _ (by omega)]
  · simp only [hc]
    exact NewIn.nil _ _ _
end
/-- What a part reads. -/
def readP (p : PK) (r : RZ) (s : RS) : RZ × RS := match p with
  | .peer => ({ r with peer := i64N s.num.1 }, s.num.2)
  | .client => ({ r with client := i64N s.num.1 }, s.num.2)
  | .seq => ({ r with seq := i64N s.num.1 }, s.num.2)
  | .epoch => ({ r with epoch := i64N s.num.1 }, s.num.2)
  | .write => ({ r with op := (decO s).1 }, (decO s).2)
  | .copied => ({ r with copy := (s.text 262144).1 }, (s.text 262144).2)
def ReadP (F : Nat → Prop) (k kr lo : Nat) (w : World) (q : RZ × RS) (e : Ending) (w' : World) : Prop :=
  e = .returned (.tuple #[]) ∧ (∃ K V C, RecD w' lo w'.heap.size kr q.1 K V C) ∧ RLies w' F k q.2 ∧ Fr (fun b => F b ∨ b = kr) w w'
theorem RS.byte_llen (s : RS) : s.byte.2.left.length ≤ s.left.length := by
  unfold RS.byte
  split
  · split
    · exact Nat.le_refl _
    · rename_i h; rw [h]; simp
  · exact Nat.le_refl _
theorem RS.num_llen (s : RS) : s.num.2.left.length ≤ s.left.length := by
  unfold RS.num
  split
  · have := readN_len s.left 0 0
    generalize readN 0 0 s.left = q at *
    obtain ⟨o, e, t⟩ := q
    cases o <;> exact this
  · exact Nat.le_refl _
theorem RS.text_llen (s : RS) (m : Int) : (s.text m).2.left.length ≤ s.left.length := by
  unfold RS.text
  split
  · unfold RS.size
    have := RS.num_llen s
    generalize s.num = q at *
    obtain ⟨n, s1⟩ := q
    simp only at this ⊢
    by_cases h1 : s1.ft = 0
    · simp only [h1, if_pos trivial]
      by_cases h2 : (max m 0).toNat < n
      · simp only [if_pos h2]
        exact this
      · by_cases h3 : s1.left.length < n
        · simp only [if_neg h2, if_pos h3]
          exact this
        · simp only [if_neg h2, if_neg h3, h1, if_pos trivial]
          simp only [List.length_drop]
          omega
    · simp only [if_neg h1]
      exact this
  · exact Nat.le_refl _
theorem i64N_wrap {n : Nat} (hn : n < 18446744073709551616) : wrap64 (n : Int) = i64N n := by
  unfold i64N wrap64
  split <;> omega
section
variable {w w' : World} {F : Nat → Prop} {lo hi k kr : Nat} {s : RS} {r : RZ} {K V C : SlB}
set_option maxHeartbeats 1000000 in
theorem read_client {a : Nat} (h : RLies w F k s) (hb : Byt s.left) (h63 : s.left.length ≤ 9223372036854775807) (hF : ∀ b, F b → b < lo) (hkr : ¬ F kr) (hr : RecD w lo hi kr r K V C) (ha : w.heap[a]? = some (.cells #[fnV 60 #[]] 83 (0, 0))) :
    Calls Try.prog 74 #[ptrV k, ptrV kr, ptrV a] w fun e w' => e = .returned (.tuple #[]) ∧ RecD w' lo w'.heap.size kr (readP .client r s).1 K V C ∧ RLies w' F k (readP .client r s).2 ∧ Fr (fun b => F b ∨ b = kr) w w' := by
  have e2 : w.cell? ⟨a, 0, none⟩ = some (fnV 60 #[]) := cell_blk ha 0 rfl
  have NM := Lib.hid (rNum_any h hb h63)
  have HR := Lib.hid hr
  have HF := Lib.hid hF
  have HK := Lib.hid hkr
  have HI := Lib.hid (i64N_wrap (num_lt s hb))
  have hlt := num_lt s hb
  clear h hr ha hF hkr
  unfold ptrV
  unfold fnV at e2
  go_enter Try.func74, Try.ntmps74
  go_wp2_with (fail)
  refine (at_client w).mono ?_
  rintro e w_ ⟨rfl, rfl⟩
  go_wp2_with (fail)
  refine NM.out.mono ?_
  rintro e w1 ⟨rfl, U⟩
  have R1 := HR.out.fr U.2 HF.out HK.out
  have x1 : w1.cell? ⟨kr, 4, none⟩ = some (.int .i64 r.client) := cell_blk R1.2.1 4 rfl
  have f1 := free_blk R1.2.1 4
  have HU := Lib.hid U
  have HR1 := Lib.hid R1
  generalize hn : s.num.1 = n at *
  clear U R1
  go_wp2_with (fail)
  go_end0
  have e := HI.out
  refine ⟨rfl, ?_, ?_, ?_⟩
  · rw [e]
    refine (HR1.out.setI (r' := (readP .client r s).1) 4 (i64N n) ?_ rfl rfl rfl).grow (by rw [setCell_size]; exact HR1.out.2.2.1) (Nat.le_refl _)
    unfold readP
    rw [hn]
    rfl
  · exact HU.out.1.same fun b hb _ => Below.heap_setCell _ _ _ _ (by rintro rfl; exact HK.out hb)
  · exact (HU.out.2.mono fun _ h => Or.inl h).trans (Fr.set (F := fun b => F b ∨ b = kr) w1 (Or.inr rfl) _) fun _ _ h => h
set_option maxHeartbeats 1000000 in
theorem read_seq {a : Nat} (h : RLies w F k s) (hb : Byt s.left) (h63 : s.left.length ≤ 9223372036854775807) (hF : ∀ b, F b → b < lo) (hkr : ¬ F kr) (hr : RecD w lo hi kr r K V C) (ha : w.heap[a]? = some (.cells #[fnV 61 #[]] 83 (0, 0))) :
    Calls Try.prog 74 #[ptrV k, ptrV kr, ptrV a] w fun e w' => e = .returned (.tuple #[]) ∧ RecD w' lo w'.heap.size kr (readP .seq r s).1 K V C ∧ RLies w' F k (readP .seq r s).2 ∧ Fr (fun b => F b ∨ b = kr) w w' := by
  have e2 : w.cell? ⟨a, 0, none⟩ = some (fnV 61 #[]) := cell_blk ha 0 rfl
  have NM := Lib.hid (rNum_any h hb h63)
  have HR := Lib.hid hr
  have HF := Lib.hid hF
  have HK := Lib.hid hkr
  have HI := Lib.hid (i64N_wrap (num_lt s hb))
  have hlt := num_lt s hb
  clear h hr ha hF hkr
  unfold ptrV
  unfold fnV at e2
  go_enter Try.func74, Try.ntmps74
  go_wp2_with (fail)
  refine (at_seq w).mono ?_
  rintro e w_ ⟨rfl, rfl⟩
  go_wp2_with (fail)
  refine NM.out.mono ?_
  rintro e w1 ⟨rfl, U⟩
  have R1 := HR.out.fr U.2 HF.out HK.out
  have x1 : w1.cell? ⟨kr, 5, none⟩ = some (.int .i64 r.seq) := cell_blk R1.2.1 5 rfl
  have f1 := free_blk R1.2.1 5
  have HU := Lib.hid U
  have HR1 := Lib.hid R1
  generalize hn : s.num.1 = n at *
  clear U R1
  go_wp2_with (fail)
  go_end0
  have e := HI.out
  refine ⟨rfl, ?_, ?_, ?_⟩
  · rw [e]
    refine (HR1.out.setI (r' := (readP .seq r s).1) 5 (i64N n) ?_ rfl rfl rfl).grow (by rw [setCell_size]; exact HR1.out.2.2.1) (Nat.le_refl _)
    unfold readP
    rw [hn]
    rfl
  · exact HU.out.1.same fun b hb _ => Below.heap_setCell _ _ _ _ (by rintro rfl; exact HK.out hb)
  · exact (HU.out.2.mono fun _ h => Or.inl h).trans (Fr.set (F := fun b => F b ∨ b = kr) w1 (Or.inr rfl) _) fun _ _ h => h
set_option maxHeartbeats 1000000 in
theorem read_peer {a : Nat} (h : RLies w F k s) (hb : Byt s.left) (h63 : s.left.length ≤ 9223372036854775807) (hF : ∀ b, F b → b < lo) (hkr : ¬ F kr) (hr : RecD w lo hi kr r K V C) (ha : w.heap[a]? = some (.cells #[fnV 59 #[]] 83 (0, 0))) :
    Calls Try.prog 74 #[ptrV k, ptrV kr, ptrV a] w fun e w' => e = .returned (.tuple #[]) ∧ RecD w' lo w'.heap.size kr (readP .peer r s).1 K V C ∧ RLies w' F k (readP .peer r s).2 ∧ Fr (fun b => F b ∨ b = kr) w w' := by
  have e2 : w.cell? ⟨a, 0, none⟩ = some (fnV 59 #[]) := cell_blk ha 0 rfl
  have NM := Lib.hid (rNum_any h hb h63)
  have HR := Lib.hid hr
  have HF := Lib.hid hF
  have HK := Lib.hid hkr
  have HI := Lib.hid (i64N_wrap (num_lt s hb))
  have hlt := num_lt s hb
  clear h hr ha hF hkr
  unfold ptrV
  unfold fnV at e2
  go_enter Try.func74, Try.ntmps74
  go_wp2_with (fail)
  refine (at_peer w).mono ?_
  rintro e w_ ⟨rfl, rfl⟩
  go_wp2_with (fail)
  refine NM.out.mono ?_
  rintro e w1 ⟨rfl, U⟩
  have R1 := HR.out.fr U.2 HF.out HK.out
  have x1 : w1.cell? ⟨kr, 3, none⟩ = some (.int .i64 r.peer) := cell_blk R1.2.1 3 rfl
  have f1 := free_blk R1.2.1 3
  have HU := Lib.hid U
  have HR1 := Lib.hid R1
  generalize hn : s.num.1 = n at *
  clear U R1
  go_wp2_with (fail)
  go_end0
  have e := HI.out
  refine ⟨rfl, ?_, ?_, ?_⟩
  · rw [e]
    refine (HR1.out.setI (r' := (readP .peer r s).1) 3 (i64N n) ?_ rfl rfl rfl).grow (by rw [setCell_size]; exact HR1.out.2.2.1) (Nat.le_refl _)
    unfold readP
    rw [hn]
    rfl
  · exact HU.out.1.same fun b hb _ => Below.heap_setCell _ _ _ _ (by rintro rfl; exact HK.out hb)
  · exact (HU.out.2.mono fun _ h => Or.inl h).trans (Fr.set (F := fun b => F b ∨ b = kr) w1 (Or.inr rfl) _) fun _ _ h => h
set_option maxHeartbeats 1000000 in
theorem read_epoch {a : Nat} (h : RLies w F k s) (hb : Byt s.left) (h63 : s.left.length ≤ 9223372036854775807) (hF : ∀ b, F b → b < lo) (hkr : ¬ F kr) (hr : RecD w lo hi kr r K V C) (ha : w.heap[a]? = some (.cells #[fnV 63 #[]] 83 (0, 0))) :
    Calls Try.prog 74 #[ptrV k, ptrV kr, ptrV a] w fun e w' => e = .returned (.tuple #[]) ∧ RecD w' lo w'.heap.size kr (readP .epoch r s).1 K V C ∧ RLies w' F k (readP .epoch r s).2 ∧ Fr (fun b => F b ∨ b = kr) w w' := by
  have e2 : w.cell? ⟨a, 0, none⟩ = some (fnV 63 #[]) := cell_blk ha 0 rfl
  have NM := Lib.hid (rNum_any h hb h63)
  have HR := Lib.hid hr
  have HF := Lib.hid hF
  have HK := Lib.hid hkr
  have HI := Lib.hid (i64N_wrap (num_lt s hb))
  have hlt := num_lt s hb
  clear h hr ha hF hkr
  unfold ptrV
  unfold fnV at e2
  go_enter Try.func74, Try.ntmps74
  go_wp2_with (fail)
  refine (at_epoch w).mono ?_
  rintro e w_ ⟨rfl, rfl⟩
  go_wp2_with (fail)
  refine NM.out.mono ?_
  rintro e w1 ⟨rfl, U⟩
  have R1 := HR.out.fr U.2 HF.out HK.out
  have x1 : w1.cell? ⟨kr, 2, none⟩ = some (.int .i64 r.epoch) := cell_blk R1.2.1 2 rfl
  have f1 := free_blk R1.2.1 2
  have HU := Lib.hid U
  have HR1 := Lib.hid R1
  generalize hn : s.num.1 = n at *
  clear U R1
  go_wp2_with (fail)
  go_end0
  have e := HI.out
  refine ⟨rfl, ?_, ?_, ?_⟩
  · rw [e]
    refine (HR1.out.setI (r' := (readP .epoch r s).1) 2 (i64N n) ?_ rfl rfl rfl).grow (by rw [setCell_size]; exact HR1.out.2.2.1) (Nat.le_refl _)
    unfold readP
    rw [hn]
    rfl
  · exact HU.out.1.same fun b hb _ => Below.heap_setCell _ _ _ _ (by rintro rfl; exact HK.out hb)
  · exact (HU.out.2.mono fun _ h => Or.inl h).trans (Fr.set (F := fun b => F b ∨ b = kr) w1 (Or.inr rfl) _) fun _ _ h => h
set_option maxHeartbeats 1000000 in
theorem read_copied (h : RLies w F k s) (hb : Byt s.left) (h63 : s.left.length ≤ 140737488355328) (hF : ∀ b, F b → b < lo) (hkr : ¬ F kr) (hr : RecD w lo hi kr r K V zSl) :
    Calls Try.prog 83 #[ptrV k, ptrV kr] w (ReadP F k kr lo w (readP .copied r s)) := by
  have TX := Lib.hid (rText_any h hb h63 262144 (by omega))
  have HR := Lib.hid hr
  have HF := Lib.hid hF
  have HK := Lib.hid hkr
  clear h hr hF hkr
  unfold ptrV
  go_enter Try.func83, Try.ntmps83
  go_wp2_with (fail)
  refine TX.out.mono ?_
  rintro e w1 ⟨⟨x, rfl, NB⟩, U⟩
  have R1 := HR.out.fr U.2 HF.out HK.out
  have x1 : w1.cell? ⟨kr, 10, none⟩ = some (.slice none 0 0) := cell_blk R1.2.1 10 rfl
  have f1 := free_blk R1.2.1 10
  have HU := Lib.hid U
  have HR1 := Lib.hid R1
  have HN := Lib.hid NB
  clear U R1 NB
  go_wp2_with (fail)
  go_end0
  refine ⟨rfl, ⟨K, V, x, ?_⟩, ?_, ?_⟩
  · have hz := (HR1.out.grow (Nat.le_refl _) HR1.out.2.2.1)
    have hs := HU.out.2.size
    exact ((HR1.out.setC ((HN.out.in_).mono HR.out.2.2.1 (Nat.le_refl _)) HR1.out.2.2.1 (Nat.le_refl _)).grow (by rw [setCell_size]; exact Nat.le_refl _) (Nat.le_refl _))
  · exact HU.out.1.same fun b hb _ => Below.heap_setCell _ _ _ _ (by rintro rfl; exact HK.out hb)
  · exact (HU.out.2.mono fun _ h => Or.inl h).trans (Fr.set (F := fun b => F b ∨ b = kr) w1 (Or.inr rfl) _) fun _ _ h => h
set_option maxHeartbeats 2000000 in
theorem read_write (h : RLies w F k s) (hb : Byt s.left) (h63 : s.left.length ≤ 140737488355328) (hF : ∀ b, F b → b < lo) (hkr : ¬ F kr) (hr : RecD w lo hi kr r zSl zSl zSl) (ho : r.op = OpZ.none) (hc : r.copy = []) :
    Calls Try.prog 78 #[ptrV k, ptrV kr] w (ReadP F k kr lo w (readP .write r s)) := by
  have BY := Lib.hid (rByte_any h hb (by omega))
  have HR := Lib.hid hr
  have HF := Lib.hid hF
  have HK := Lib.hid hkr
  have HE := Lib.hid (show r.op = OpZ.none ∧ r.copy = [] from ⟨ho, hc⟩)
  have HB := Lib.hid hb
  clear h hr hF hkr ho hc hb
  unfold ptrV
  go_enter Try.func78, Try.ntmps78
  go_wp2_with (fail)
  refine BY.out.mono ?_
  rintro e w1 ⟨rfl, U1⟩
  have HU1 := Lib.hid U1
  have TX := Lib.hid (rText_any U1.1 (RS.byte_byt HB.out).1 (Nat.le_trans (RS.byte_llen s) h63) 64 (by omega))
  clear U1
  go_wp2_with (fail)
  refine TX.out.mono ?_
  rintro e w2 ⟨⟨x, rfl, NB⟩, U2⟩
  have U2 := HU1.out.trans U2
  have R2 := HR.out.fr U2.2 HF.out HK.out
  have HU2 := Lib.hid U2
  have HR2 := Lib.hid R2
  have HN := Lib.hid NB
  have q6 : w2.cell? ⟨kr, 6, none⟩ = some (.int .i64 r.op.kind) := cell_blk R2.2.1 6 rfl
  have q7 : w2.cell? ⟨kr, 7, none⟩ = some (.slice none 0 0) := cell_blk R2.2.1 7 rfl
  have q8 : w2.cell? ⟨kr, 8, none⟩ = some (.slice none 0 0) := cell_blk R2.2.1 8 rfl
  have q9 : w2.cell? ⟨kr, 9, none⟩ = some (.int .i64 r.op.rev) := cell_blk R2.2.1 9 rfl
  have f6 := free_blk R2.2.1 6
  have f7 := free_blk R2.2.1 7
  have f8 := free_blk R2.2.1 8
  have f9 := free_blk R2.2.1 9
  have R3 := HR2.out.setOp HE.out.2 (HN.out.in_.mono (Nat.le_trans HR.out.2.2.1 HU1.out.2.size) (Nat.le_refl _)) HR2.out.2.2.1 (Nat.le_refl _) s.byte.1
  have HR3 := Lib.hid R3
  have L3 := Lib.hid (show Fr (fun b => F b ∨ b = kr) w ((((w2.setCell ⟨kr, 6, none⟩ (.int .i64 s.byte.1)).setCell ⟨kr, 7, none⟩ (.slice x.1 x.2.1 x.2.2)).setCell ⟨kr, 8, none⟩ (.slice none 0 0)).setCell ⟨kr, 9, none⟩ (.int .i64 0)) from by
    have up := HU2.out.2.mono (G := fun b => F b ∨ b = kr) fun _ h => Or.inl h
    have one : ∀ (u : World) (j : Nat) (v : Value), Fr (fun b => F b ∨ b = kr) u (u.setCell ⟨kr, j, none⟩ v) := fun u j v => Fr.set u (Or.inr rfl) v
    exact (((up.trans (one _ _ _) fun _ _ h => h).trans (one _ _ _) fun _ _ h => h).trans (one _ _ _) fun _ _ h => h).trans (one _ _ _) fun _ _ h => h)
  have RL3 := Lib.hid (show RLies ((((w2.setCell ⟨kr, 6, none⟩ (.int .i64 s.byte.1)).setCell ⟨kr, 7, none⟩ (.slice x.1 x.2.1 x.2.2)).setCell ⟨kr, 8, none⟩ (.slice none 0 0)).setCell ⟨kr, 9, none⟩ (.int .i64 0)) F k (s.byte.2.text 64).2 from
    HU2.out.1.same fun b hb _ => by
      have hne : b ≠ kr := by rintro rfl; exact HK.out hb
      rw [set_other _ _ _ hne, set_other _ _ _ hne, set_other _ _ _ hne, set_other _ _ _ hne])
  clear U2 R2 NB R3
  generalize hkd : s.byte.1 = kd at *
  obtain ⟨t1, ht1⟩ : ∃ t, (s.byte.2.text 64) = t := ⟨_, rfl⟩
  have HT1 := Lib.hid ht1
  rw [ht1] at HR3 RL3
  have BT := Lib.hid (show Byt t1.2.left by rw [← ht1]; exact (RS.text_byt (RS.byte_byt HB.out).1).1)
  have LT : t1.2.left.length ≤ 140737488355328 := by rw [← ht1]; have := RS.text_llen (RS.mk s.byte.2.left s.byte.2.outer s.byte.2.ft) 64; have h2 := RS.byte_llen s; exact Nat.le_trans this (Nat.le_trans h2 h63)
  have HKD := Lib.hid hkd
  have LO := Lib.hid (show lo ≤ w2.heap.size from Nat.le_trans HR2.out.size HR2.out.2.2.1)
  clear ht1 hkd
  by_cases k3 : kd = 3
  · subst k3
    go_wp2_with (fail)
    go_end0
    refine ⟨rfl, ⟨x, zSl, zSl, ?_⟩, ?_, L3.out⟩
    · have e : (readP .write r s).1 = { r with op := ⟨3, t1.1, [], 0⟩ } := by
        unfold readP decO
        simp only [HKD.out, HT1.out]
        rfl
      rw [e]
      exact HR3.out.grow (by simp only [setCell_size]; exact Nat.le_refl _) (Nat.le_refl _)
    · have e : (readP .write r s).2 = t1.2 := by
        unfold readP decO
        simp only [HKD.out, HT1.out]
        rfl
      rw [e]
      exact RL3.out
  · have TX2 := Lib.hid (rText_any RL3.out BT.out LT 256 (by omega))
    go_wp2_with (fail)
    refine TX2.out.mono ?_
    rintro e w4 ⟨⟨y, rfl, NB⟩, U4⟩
    have R4 := HR3.out.fr U4.2 HF.out HK.out
    have q6 : w4.cell? ⟨kr, 6, none⟩ = some (.int .i64 kd) := cell_blk R4.2.1 6 rfl
    have q8 : w4.cell? ⟨kr, 8, none⟩ = some (.slice none 0 0) := cell_blk R4.2.1 8 rfl
    have f8 := free_blk R4.2.1 8
    have L5 := Lib.hid (show Fr (fun b => F b ∨ b = kr) w (w4.setCell ⟨kr, 8, none⟩ (.slice y.1 y.2.1 y.2.2)) from
      (L3.out.trans U4.2 fun _ _ h => Or.inl h).trans (Fr.set (F := fun b => F b ∨ b = kr) w4 (Or.inr rfl) _) fun _ _ h => h)
    have HU4 := Lib.hid U4
    obtain ⟨t2, ht2⟩ : ∃ t, (t1.2.text 256) = t := ⟨_, rfl⟩
    have HT2 := Lib.hid ht2
    have R5 := Lib.hid ((R4.setV HE.out.2 (NB.in_.mono (by simp only [setCell_size]; exact Nat.le_refl _) (Nat.le_refl _)) R4.2.2.1 (Nat.le_refl _)))
    have RL5 := Lib.hid (show RLies (w4.setCell ⟨kr, 8, none⟩ (.slice y.1 y.2.1 y.2.2)) F k (t1.2.text 256).2 from
      U4.1.same fun b hb _ => set_other _ _ _ (by rintro rfl; exact HK.out hb))
    rw [ht2] at R5 RL5
    have BT2 := Lib.hid (show Byt t2.2.left by rw [← ht2]; exact (RS.text_byt BT.out).1)
    have LT2 : t2.2.left.length ≤ 140737488355328 := by rw [← ht2]; exact Nat.le_trans (RS.text_llen _ _) LT
    clear ht2 R4 U4 NB
    by_cases k4 : kd = 4
    · subst k4
      have NM := Lib.hid (rNum_any RL5.out BT2.out (by omega))
      have HI := Lib.hid (i64N_wrap (num_lt t2.2 BT2.out))
      have hlt := num_lt t2.2 BT2.out
      go_wp2_with (fail)
      refine NM.out.mono ?_
      rintro e w6 ⟨rfl, U6⟩
      have R6 := R5.out.fr U6.2 HF.out HK.out
      have q9 : w6.cell? ⟨kr, 9, none⟩ = some (.int .i64 0) := cell_blk R6.2.1 9 rfl
      have f9 := free_blk R6.2.1 9
      have HU6 := Lib.hid U6
      have HR6 := Lib.hid R6
      generalize hn : t2.2.num.1 = n at *
      have HN := Lib.hid hn
      clear hn U6 R6
      go_wp2_with (fail)
      go_end0
      have e1 := HI.out
      have ea : decO s = (⟨4, t1.1, t2.1, i64N n⟩, t2.2.num.2) := by
        unfold decO
        simp only [HKD.out, HT1.out, if_neg (show ¬ (4 : Int) = 3 by omega), HT2.out, if_pos trivial, HN.out]
      refine ⟨rfl, ⟨x, y, zSl, ?_⟩, ?_, ?_⟩
      · rw [e1]
        simp only [readP, ea]
        exact (HR6.out.setI 9 (i64N n) (r' := { r with op := ⟨4, t1.1, t2.1, i64N n⟩ }) rfl rfl rfl rfl).grow (by rw [setCell_size]; exact HR6.out.2.2.1) (Nat.le_refl _)
      · simp only [readP, ea]
        exact HU6.out.1.same fun b hb _ => set_other _ _ _ (by rintro rfl; exact HK.out hb)
      · exact (L5.out.trans HU6.out.2 fun _ _ h => Or.inl h).trans (Fr.set (F := fun b => F b ∨ b = kr) w6 (Or.inr rfl) _) fun _ _ h => h
    · go_wp2_with (fail)
      go_end0
      have ea : decO s = (⟨kd, t1.1, t2.1, 0⟩, t2.2) := by
        unfold decO
        simp only [HKD.out, HT1.out, if_neg k3, HT2.out, if_neg k4]
        rfl
      refine ⟨rfl, ⟨x, y, zSl, ?_⟩, ?_, L5.out⟩
      · simp only [readP, ea]
        exact R5.out.grow (by rw [setCell_size]; exact Nat.le_refl _) (Nat.le_refl _)
      · simp only [readP, ea]
        exact RL5.out
end
end Go.Proofs.Ytjmmdpnphafdfaa