/- A record's parts: what is good; the parts of a kind. -/
import Derived.Test.YtjmmdpnphafdfaaRW3
namespace Go.Proofs.Ytjmmdpnphafdfaa
set_option linter.unusedVariables false
set_option linter.unusedSimpArgs false
open Go.RowKit Go.Deep Go.Proofs.YtjmmdpnphafdfaaW.PrintLast

def goodP (p : PK) (r : RZ) : Bool := match p with
  | .peer => decide (0 ≤ r.peer) && decide (r.peer ≤ 7)
  | .client => decide (0 ≤ r.client) && decide (r.client ≤ 15)
  | .seq => decide (1 ≤ r.seq) && decide (r.seq ≤ 1073741824)
  | .epoch => decide (1 ≤ r.epoch) && decide (r.epoch ≤ 1073741824)
  | .write => (r.op.kind != 1 && r.op.kind != 5) && decide (RightO r.op)
  | .copied => decide (r.copy.length ≤ 262144)
def psOf (kind : Int) : List PK := if kind = 1 then [.client, .seq, .write] else if kind = 2 then [.peer] else if kind = 4 then [.epoch, .peer, .copied] else []
def thereOf (kind : Int) : Bool := decide (kind = 1) || (decide (kind = 2) || (decide (kind = 4) || (decide (3 ≤ kind) && decide (kind ≤ 8))))
/-- The parts where they lie, in blocks from lo to below hi. -/
def PartsAt (w : World) (lo hi : Nat) (A : Option Addr) (ps : List PK) : Prop := ∃ vss : List (List Value), vss.length = ps.length ∧ (∀ (i : Nat) (p : PK) (vs : List Value), ps[i]? = some p → vss[i]? = some vs → PartAt w lo hi p vs ∧ vs.length = 3) ∧
  ∀ (i : Nat) (vs : List Value), vss[i]? = some vs → ∃ g, A = some ⟨g, 0, none⟩ ∧ (lo ≤ g ∧ g < hi) ∧ ∀ (j : Nat) (v : Value), vs[j]? = some v → w.cell? ⟨g, i * 3 + j, none⟩ = some v
theorem NumPart.same {w w' : World} {lo hi f : Nat} {l m : Int} {vs : List Value} (h : NumPart w lo hi f l m vs) (hk : ∀ b, lo ≤ b → b < hi → b < w.heap.size → w'.heap[b]? = w.heap[b]?) : NumPart w' lo hi f l m vs := by
  obtain ⟨a, l', m', ⟨h1, h2, h3⟩, h4, h5, h6, h7⟩ := h
  exact ⟨a, l', m', ⟨h1, h2, h3⟩, h4, (hk a h1.1 h1.2 (blk_lt h5)).trans h5, (hk l' h2.1 h2.2 (blk_lt h6)).trans h6, (hk m' h3.1 h3.2 (blk_lt h7)).trans h7⟩
theorem PartAt.same {w w' : World} {lo hi : Nat} {p : PK} {vs : List Value} (h : PartAt w lo hi p vs) (hk : ∀ b, lo ≤ b → b < hi → b < w.heap.size → w'.heap[b]? = w.heap[b]?) : PartAt w' lo hi p vs := by
  cases p
  · exact NumPart.same h hk
  · exact NumPart.same h hk
  · exact NumPart.same h hk
  · exact NumPart.same h hk
  · exact h
  · exact h
theorem PartsAt.same {w w' : World} {lo hi : Nat} {A : Option Addr} {ps : List PK} (h : PartsAt w lo hi A ps) (hk : ∀ b, lo ≤ b → b < hi → b < w.heap.size → w'.heap[b]? = w.heap[b]?) : PartsAt w' lo hi A ps := by
  obtain ⟨vss, h1, h2, h3⟩ := h
  refine ⟨vss, h1, fun i p vs hp hv => ⟨(h2 i p vs hp hv).1.same hk, (h2 i p vs hp hv).2⟩, fun i vs hv => ?_⟩
  obtain ⟨g, g1, g2, g3⟩ := h3 i vs hv
  refine ⟨g, g1, g2, fun j v hj => ?_⟩
  have hc := g3 j v hj
  have hl : g < w.heap.size := World.block_lt_of_cell? _ _ hc
  rw [World.cell?_of_block (w := w) (hk g g2.1 g2.2 hl)]
  exact hc
theorem PartsAt.fr {w w' : World} {F : Nat → Prop} {lo hi : Nat} {A : Option Addr} {ps : List PK} (h : PartsAt w lo hi A ps) (hf : Fr F w w') (hF : ∀ b, F b → b < lo ∨ hi ≤ b) : PartsAt w' lo hi A ps :=
  h.same fun b h1 h2 hl => hf.block b hl fun hb => by have := hF b hb; omega
def PartsP (w : World) (kind : Int) (e : Ending) (w' : World) : Prop := ∃ A, e = .returned (.tuple #[.slice A (psOf kind).length (psOf kind).length, .bool (thereOf kind)]) ∧ Below w.heap.size w w' ∧ PartsAt w' w.heap.size w'.heap.size A (psOf kind)
section
variable {w w' : World} {F : Nat → Prop} {N k kr : Nat} {r : RZ} {K V C : SlB}
set_option maxHeartbeats 1000000 in
theorem good_client {a l m : Nat} (hr : w.heap[kr]? = some (.cells (recCells r K V C) TRec (0, 0))) (ha : w.heap[a]? = some (.cells #[fnV 60 #[]] 83 (0, 0))) (hl : w.heap[l]? = some (.cells #[.int .i64 0] 3 (0, 0))) (hm : w.heap[m]? = some (.cells #[.int .i64 15] 3 (0, 0))) :
    Calls Try.prog 75 #[ptrV kr, ptrV a, ptrV l, ptrV m] w fun e w' => e = .returned (.bool (goodP .client r)) ∧ Below w.heap.size w w' := by
  have e1 : w.cell? ⟨kr, 4, none⟩ = some (.int .i64 r.client) := cell_blk hr 4 rfl
  have e2 : w.cell? ⟨a, 0, none⟩ = some (fnV 60 #[]) := cell_blk ha 0 rfl
  have e3 : w.cell? ⟨l, 0, none⟩ = some (.int .i64 0) := cell_blk hl 0 rfl
  have e4 : w.cell? ⟨m, 0, none⟩ = some (.int .i64 15) := cell_blk hm 0 rfl
  clear hr ha hl hm
  unfold ptrV
  unfold fnV at e2
  unfold goodP
  simp only
  generalize r.client = n at *
  obtain ⟨t1, h1⟩ := named (decide (0 ≤ n))
  obtain ⟨t2, h2⟩ := named (decide (n ≤ 15))
  rw [h1, h2]
  go_enter Try.func75, Try.ntmps75
  go_wp2_with (fail)
  refine (at_client w).mono ?_
  rintro e w_ ⟨rfl, rfl⟩
  cases t1
  · go_wp2_with (fail)
    all_goals
      go_ret
      first | exact ⟨rfl, Below.refl _ _⟩ | simp_all
  · go_wp2_with (fail)
    all_goals
      go_ret
      first | exact ⟨rfl, Below.refl _ _⟩ | simp_all
set_option maxHeartbeats 1000000 in
theorem good_seq {a l m : Nat} (hr : w.heap[kr]? = some (.cells (recCells r K V C) TRec (0, 0))) (ha : w.heap[a]? = some (.cells #[fnV 61 #[]] 83 (0, 0))) (hl : w.heap[l]? = some (.cells #[.int .i64 1] 3 (0, 0))) (hm : w.heap[m]? = some (.cells #[.int .i64 1073741824] 3 (0, 0))) :
    Calls Try.prog 75 #[ptrV kr, ptrV a, ptrV l, ptrV m] w fun e w' => e = .returned (.bool (goodP .seq r)) ∧ Below w.heap.size w w' := by
  have e1 : w.cell? ⟨kr, 5, none⟩ = some (.int .i64 r.seq) := cell_blk hr 5 rfl
  have e2 : w.cell? ⟨a, 0, none⟩ = some (fnV 61 #[]) := cell_blk ha 0 rfl
  have e3 : w.cell? ⟨l, 0, none⟩ = some (.int .i64 1) := cell_blk hl 0 rfl
  have e4 : w.cell? ⟨m, 0, none⟩ = some (.int .i64 1073741824) := cell_blk hm 0 rfl
  clear hr ha hl hm
  unfold ptrV
  unfold fnV at e2
  unfold goodP
  simp only
  generalize r.seq = n at *
  obtain ⟨t1, h1⟩ := named (decide (1 ≤ n))
  obtain ⟨t2, h2⟩ := named (decide (n ≤ 1073741824))
  rw [h1, h2]
  go_enter Try.func75, Try.ntmps75
  go_wp2_with (fail)
  refine (at_seq w).mono ?_
  rintro e w_ ⟨rfl, rfl⟩
  cases t1
  · go_wp2_with (fail)
    all_goals
      go_ret
      first | exact ⟨rfl, Below.refl _ _⟩ | simp_all
  · go_wp2_with (fail)
    all_goals
      go_ret
      first | exact ⟨rfl, Below.refl _ _⟩ | simp_all
set_option maxHeartbeats 1000000 in
theorem good_peer {a l m : Nat} (hr : w.heap[kr]? = some (.cells (recCells r K V C) TRec (0, 0))) (ha : w.heap[a]? = some (.cells #[fnV 59 #[]] 83 (0, 0))) (hl : w.heap[l]? = some (.cells #[.int .i64 0] 3 (0, 0))) (hm : w.heap[m]? = some (.cells #[.int .i64 7] 3 (0, 0))) :
    Calls Try.prog 75 #[ptrV kr, ptrV a, ptrV l, ptrV m] w fun e w' => e = .returned (.bool (goodP .peer r)) ∧ Below w.heap.size w w' := by
  have e1 : w.cell? ⟨kr, 3, none⟩ = some (.int .i64 r.peer) := cell_blk hr 3 rfl
  have e2 : w.cell? ⟨a, 0, none⟩ = some (fnV 59 #[]) := cell_blk ha 0 rfl
  have e3 : w.cell? ⟨l, 0, none⟩ = some (.int .i64 0) := cell_blk hl 0 rfl
  have e4 : w.cell? ⟨m, 0, none⟩ = some (.int .i64 7) := cell_blk hm 0 rfl
  clear hr ha hl hm
  unfold ptrV
  unfold fnV at e2
  unfold goodP
  simp only
  generalize r.peer = n at *
  obtain ⟨t1, h1⟩ := named (decide (0 ≤ n))
  obtain ⟨t2, h2⟩ := named (decide (n ≤ 7))
  rw [h1, h2]
  go_enter Try.func75, Try.ntmps75
  go_wp2_with (fail)
  refine (at_peer w).mono ?_
  rintro e w_ ⟨rfl, rfl⟩
  cases t1
  · go_wp2_with (fail)
    all_goals
      go_ret
      first | exact ⟨rfl, Below.refl _ _⟩ | simp_all
  · go_wp2_with (fail)
    all_goals
      go_ret
      first | exact ⟨rfl, Below.refl _ _⟩ | simp_all
set_option maxHeartbeats 1000000 in
theorem good_epoch {a l m : Nat} (hr : w.heap[kr]? = some (.cells (recCells r K V C) TRec (0, 0))) (ha : w.heap[a]? = some (.cells #[fnV 63 #[]] 83 (0, 0))) (hl : w.heap[l]? = some (.cells #[.int .i64 1] 3 (0, 0))) (hm : w.heap[m]? = some (.cells #[.int .i64 1073741824] 3 (0, 0))) :
    Calls Try.prog 75 #[ptrV kr, ptrV a, ptrV l, ptrV m] w fun e w' => e = .returned (.bool (goodP .epoch r)) ∧ Below w.heap.size w w' := by
  have e1 : w.cell? ⟨kr, 2, none⟩ = some (.int .i64 r.epoch) := cell_blk hr 2 rfl
  have e2 : w.cell? ⟨a, 0, none⟩ = some (fnV 63 #[]) := cell_blk ha 0 rfl
  have e3 : w.cell? ⟨l, 0, none⟩ = some (.int .i64 1) := cell_blk hl 0 rfl
  have e4 : w.cell? ⟨m, 0, none⟩ = some (.int .i64 1073741824) := cell_blk hm 0 rfl
  clear hr ha hl hm
  unfold ptrV
  unfold fnV at e2
  unfold goodP
  simp only
  generalize r.epoch = n at *
  obtain ⟨t1, h1⟩ := named (decide (1 ≤ n))
  obtain ⟨t2, h2⟩ := named (decide (n ≤ 1073741824))
  rw [h1, h2]
  go_enter Try.func75, Try.ntmps75
  go_wp2_with (fail)
  refine (at_epoch w).mono ?_
  rintro e w_ ⟨rfl, rfl⟩
  cases t1
  · go_wp2_with (fail)
    all_goals
      go_ret
      first | exact ⟨rfl, Below.refl _ _⟩ | simp_all
  · go_wp2_with (fail)
    all_goals
      go_ret
      first | exact ⟨rfl, Below.refl _ _⟩ | simp_all
set_option maxHeartbeats 1000000 in
theorem good_copied (hr : w.heap[kr]? = some (.cells (recCells r K V C) TRec (0, 0))) (hC : C.2.1 = r.copy.length) :
    Calls Try.prog 84 #[ptrV kr] w fun e w' => e = .returned (.bool (goodP .copied r)) ∧ Below w.heap.size w w' := by
  have e1 : w.cell? ⟨kr, 10, none⟩ = some (.slice C.1 C.2.1 C.2.2) := cell_blk hr 10 rfl
  rw [hC] at e1
  clear hr hC
  unfold ptrV
  unfold goodP
  simp only
  obtain ⟨t1, h1⟩ := named (decide ((r.copy.length : Int) ≤ 262144))
  rw [show decide (r.copy.length ≤ 262144) = t1 by rw [← h1]; exact decide_eq_decide.2 (by omega)]
  go_enter Try.func84, Try.ntmps84
  go_wp2_with (fail)
  go_ret
  first | exact ⟨rfl, Below.refl _ _⟩ | simp_all
set_option maxHeartbeats 1000000 in
theorem good_write (hr : w.heap[kr]? = some (.cells (recCells r K V C) TRec (0, 0))) (hK : K.2.1 = r.op.key.length) (hV : V.2.1 = r.op.val.length) :
    Calls Try.prog 80 #[ptrV kr] w fun e w' => e = .returned (.bool (goodP .write r)) ∧ Below w.heap.size w w' := by
  have e6 : w.cell? ⟨kr, 6, none⟩ = some (.int .i64 r.op.kind) := cell_blk hr 6 rfl
  have e7 : w.cell? ⟨kr, 7, none⟩ = some (.slice K.1 K.2.1 K.2.2) := cell_blk hr 7 rfl
  have e8 : w.cell? ⟨kr, 8, none⟩ = some (.slice V.1 V.2.1 V.2.2) := cell_blk hr 8 rfl
  have e9 : w.cell? ⟨kr, 9, none⟩ = some (.int .i64 r.op.rev) := cell_blk hr 9 rfl
  have RG := Lib.hid (fun w1 : World => right_any r.op K V hK hV w1)
  clear hr hK hV
  unfold ptrV
  unfold goodP
  simp only
  unfold opCells at RG
  generalize r.op.kind = kd at *
  obtain ⟨t1, h1⟩ := named (kd != 1)
  obtain ⟨t2, h2⟩ := named (kd != 5)
  obtain ⟨t3, h3⟩ := named (decide (RightO r.op))
  rw [h1, h2, h3]
  rw [h3] at RG
  clear h3
  have BB := Lib.hid (Below.refl w.heap.size w)
  cases t1
  · have k1 : kd = 1 := by simpa using h1
    subst k1
    go_enter Try.func80, Try.ntmps80
    go_wp2_with (fail)
    go_ret
    first | exact ⟨rfl, BB.out⟩ | simp_all
  · cases t2
    · have k1 : kd = 5 := by simpa using h2
      subst k1
      go_enter Try.func80, Try.ntmps80
      go_wp2_with (fail)
      go_ret
      first | exact ⟨rfl, BB.out⟩ | simp_all
    · have k1 : ¬ kd = 1 := by simpa using h1
      have k5 : ¬ kd = 5 := by simpa using h2
      clear h1 h2
      go_enter Try.func80, Try.ntmps80
      go_wp2_with (fail)
      refine (RG.out w).mono ?_
      rintro e w1 ⟨rfl, hb1⟩
      go_wp2_with (fail)
      all_goals
        go_ret
        first | exact ⟨rfl, hb1⟩ | simp_all
theorem run_store_func {P : Program} {w : World} {a : Addr} {m : Mode} (f : Fn) (x y : Array Value) : (store a (.func f x y) m).run P w = stored P w a (.func f x y) m := run_store P w a _ m rfl
attribute [local go_sem] run_store_func
set_option maxHeartbeats 1000000 in
theorem number_any (f : Nat) (l m : Int) (w : World) :
    Calls Try.prog 58 #[fnV f #[], .int .i64 l, .int .i64 m] w fun e w' => e = .returned (.agg #[fnV 73 #[ptrV w.heap.size], fnV 74 #[ptrV w.heap.size], fnV 75 #[ptrV w.heap.size, ptrV (w.heap.size + 1), ptrV (w.heap.size + 1 + 1)]]) ∧
      Below w.heap.size w w' ∧ w'.heap[w.heap.size]? = some (.cells #[fnV f #[]] 83 (0, 0)) ∧ w'.heap[w.heap.size + 1]? = some (.cells #[.int .i64 l] 3 (0, 0)) ∧ w'.heap[w.heap.size + 1 + 1]? = some (.cells #[.int .i64 m] 3 (0, 0)) := by
  unfold fnV ptrV
  go_enter Try.func58, Try.ntmps58
  go_wp2_with (fail)
  obtain ⟨q1, q2, q3⟩ := three_blks w (.cells #[.func (.func f) #[] #[]] 83 (0, 0)) (.cells #[.int .i64 l] 3 (0, 0)) (.cells #[.int .i64 m] 3 (0, 0))
  have q4 := blk_new (((w.alloc (.cells #[.func (.func f) #[] #[]] 83 (0, 0))).alloc (.cells #[.int .i64 l] 3 (0, 0))).alloc (.cells #[.int .i64 m] 3 (0, 0))) (.cells #[fnV 73 #[ptrV w.heap.size], fnV 74 #[ptrV w.heap.size], fnV 75 #[ptrV w.heap.size, ptrV (w.heap.size + 1), ptrV (w.heap.size + 1 + 1)]] TPart (0, 0))
  simp only [World.size_alloc] at q4
  have c0 := cell_blk q4 0 rfl
  have c1 := cell_blk q4 1 rfl
  have c2 := cell_blk q4 2 rfl
  refine bodyPost_ret (v := .agg #[fnV 73 #[ptrV w.heap.size], fnV 74 #[ptrV w.heap.size], fnV 75 #[ptrV w.heap.size, ptrV (w.heap.size + 1), ptrV (w.heap.size + 1 + 1)]]) ?_ rfl ?_
  · unfold fnV ptrV at *
    simp [results, Try.results58, go_sem, *]
  · refine ⟨rfl, ?_, blk_alloc q1 _, blk_alloc q2 _, blk_alloc q3 _⟩
    exact ((((Below.refl _ _).alloc (Nat.le_refl _) _).alloc (by simp) _).alloc (by simp; omega) _).alloc (by simp; omega) _
set_option maxHeartbeats 1000000 in
theorem mk_write (w : World) :
    Calls Try.prog 62 #[] w fun e w' => e = .returned (.agg #[fnV 76 #[], fnV 78 #[], fnV 80 #[]]) ∧ Below w.heap.size w w' := by
  unfold fnV
  go_enter Try.func62, Try.ntmps62
  go_wp2_with (fail)
  have q := blk_new w (.cells #[fnV 76 #[], fnV 78 #[], fnV 80 #[]] TPart (0, 0))
  have q0 := cell_blk q 0 rfl
  have q1 := cell_blk q 1 rfl
  have q2 := cell_blk q 2 rfl
  refine bodyPost_ret (v := .agg #[fnV 76 #[], fnV 78 #[], fnV 80 #[]]) ?_ rfl ?_
  · unfold fnV at *
    simp [results, Try.results62, go_sem, *]
  · exact ⟨rfl, (Below.refl _ _).alloc (Nat.le_refl _) _⟩
set_option maxHeartbeats 1000000 in
theorem mk_copied (w : World) :
    Calls Try.prog 64 #[] w fun e w' => e = .returned (.agg #[fnV 82 #[], fnV 83 #[], fnV 84 #[]]) ∧ Below w.heap.size w w' := by
  unfold fnV
  go_enter Try.func64, Try.ntmps64
  go_wp2_with (fail)
  have q := blk_new w (.cells #[fnV 82 #[], fnV 83 #[], fnV 84 #[]] TPart (0, 0))
  have q0 := cell_blk q 0 rfl
  have q1 := cell_blk q 1 rfl
  have q2 := cell_blk q 2 rfl
  refine bodyPost_ret (v := .agg #[fnV 82 #[], fnV 83 #[], fnV 84 #[]]) ?_ rfl ?_
  · unfold fnV at *
    simp [results, Try.results64, go_sem, *]
  · exact ⟨rfl, (Below.refl _ _).alloc (Nat.le_refl _) _⟩
def numVs (a l m : Nat) : List Value := [fnV 73 #[ptrV a], fnV 74 #[ptrV a], fnV 75 #[ptrV a, ptrV l, ptrV m]]
theorem PartsAt.of3 {w : World} {lo hi g : Nat} {p1 p2 p3 : PK} (a1 a2 a3 b1 b2 b3 c1 c2 c3 : Value) (hb : w.heap[g]? = some (.cells #[a1, a2, a3, b1, b2, b3, c1, c2, c3] TPart (0, 0))) (hg : lo ≤ g ∧ g < hi)
    (h1 : PartAt w lo hi p1 [a1, a2, a3]) (h2 : PartAt w lo hi p2 [b1, b2, b3]) (h3 : PartAt w lo hi p3 [c1, c2, c3]) : PartsAt w lo hi (some ⟨g, 0, none⟩) [p1, p2, p3] := by
  refine ⟨[[a1, a2, a3], [b1, b2, b3], [c1, c2, c3]], rfl, fun i p vs hp hv => ?_, fun i vs hv => ⟨g, rfl, hg, fun j v hj => cell_blk hb _ ?_⟩⟩
  · rcases i with _ | _ | _ | i
    · simp at hp hv; subst hp hv; exact ⟨h1, rfl⟩
    · simp at hp hv; subst hp hv; exact ⟨h2, rfl⟩
    · simp at hp hv; subst hp hv; exact ⟨h3, rfl⟩
    · simp at hp
  · rcases i with _ | _ | _ | i
    · simp at hv; subst hv
      rcases j with _ | _ | _ | j <;> simp at hj ⊢ <;> exact hj
    · simp at hv; subst hv
      rcases j with _ | _ | _ | j <;> simp at hj ⊢ <;> exact hj
    · simp at hv; subst hv
      rcases j with _ | _ | _ | j <;> simp at hj ⊢ <;> exact hj
    · simp at hv
theorem PartsAt.of1 {w : World} {lo hi g : Nat} {p1 : PK} (a1 a2 a3 : Value) (hb : w.heap[g]? = some (.cells #[a1, a2, a3] TPart (0, 0))) (hg : lo ≤ g ∧ g < hi)
    (h1 : PartAt w lo hi p1 [a1, a2, a3]) : PartsAt w lo hi (some ⟨g, 0, none⟩) [p1] := by
  refine ⟨[[a1, a2, a3]], rfl, fun i p vs hp hv => ?_, fun i vs hv => ⟨g, rfl, hg, fun j v hj => cell_blk hb _ ?_⟩⟩
  · rcases i with _ | i
    · simp at hp hv; subst hp hv; exact ⟨h1, rfl⟩
    · simp at hp
  · rcases i with _ | i
    · simp at hv; subst hv
      rcases j with _ | _ | _ | j <;> simp at hj ⊢ <;> exact hj
    · simp at hv
theorem PartsAt.of0 (w : World) (lo hi : Nat) (A : Option Addr) : PartsAt w lo hi A [] := ⟨[], rfl, fun i p vs hp _ => by simp at hp, fun i vs hv => by simp at hv⟩
/-- Behind a call that made memory alone. -/
theorem num_part {w w' : World} {lo hi f a : Nat} {l m : Int} (h1 : w.heap[a]? = some (.cells #[fnV f #[]] 83 (0, 0))) (h2 : w.heap[a + 1]? = some (.cells #[.int .i64 l] 3 (0, 0))) (h3 : w.heap[a + 1 + 1]? = some (.cells #[.int .i64 m] 3 (0, 0))) (hb : Below w.heap.size w w') (hlo : lo ≤ a) (hhi : w'.heap.size ≤ hi) :
    NumPart w' lo hi f l m (numVs a (a + 1) (a + 1 + 1)) := by
  have l1 := blk_lt h1
  have l2 := blk_lt h2
  have l3 := blk_lt h3
  have hs := hb.size
  exact ⟨a, a + 1, a + 1 + 1, ⟨⟨hlo, by omega⟩, ⟨by omega, by omega⟩, ⟨by omega, by omega⟩⟩, rfl, blk_below h1 hb, blk_below h2 hb, blk_below h3 hb⟩
set_option maxRecDepth 100000 in
set_option maxHeartbeats 4000000 in
theorem parts_any (kind : Int) (w : World) : Calls Try.prog 35 #[.int .i64 kind] w (PartsP w kind) := by
  have NU := Lib.hid (fun (f : Nat) (l m : Int) (w1 : World) => number_any f l m w1)
  have WR := Lib.hid (fun (w1 : World) => mk_write w1)
  have CO := Lib.hid (fun (w1 : World) => mk_copied w1)
  unfold fnV ptrV at NU
  unfold fnV at WR CO
  by_cases k1 : kind = 1
  · subst k1
    go_enter Try.func35, Try.ntmps35
    go_wp2_with (fail)
    refine (NU.out 59 0 7 w).mono ?_
    rintro e w1 ⟨rfl, hb1, -, -, -⟩
    go_wp2_with (fail)
    generalize hw2 : w1.alloc _ = w2
    have B2 : Below w.heap.size w w2 := by rw [← hw2]; exact hb1.alloc hb1.size _
    clear hw2 hb1
    refine (NU.out 60 0 15 w2).mono ?_
    rintro e w3 ⟨rfl, hb3, a1, a2, a3⟩
    go_wp2_with (fail)
    refine (NU.out 61 1 1073741824 w3).mono ?_
    rintro e w4 ⟨rfl, hb4, c1, c2, c3⟩
    go_wp2_with (fail)
    refine (WR.out w4).mono ?_
    rintro e w5 ⟨rfl, hb5⟩
    go_wp2_with (fail)
    refine bodyPost_ret (v := .tuple #[.slice (some ⟨w5.heap.size, 0, none⟩) 3 3, .bool true]) (by simp [results, Try.results35, go_sem, *]) rfl ?_
    have s2 := B2.size
    have s3 := hb3.size
    have s4 := hb4.size
    have s5 := hb5.size
    have b5 : Below w.heap.size w w5 := ((B2.trans (hb3.mono s2)).trans (hb4.mono (by omega))).trans (hb5.mono (by omega))
    generalize hW : w5.alloc _ = W
    have bW : Below w5.heap.size w5 W := by rw [← hW]; exact (Below.refl _ _).alloc (Nat.le_refl _) _
    have nW := blk_new w5 (.cells #[fnV 73 #[ptrV w2.heap.size], fnV 74 #[ptrV w2.heap.size], fnV 75 #[ptrV w2.heap.size, ptrV (w2.heap.size + 1), ptrV (w2.heap.size + 1 + 1)], fnV 73 #[ptrV w3.heap.size], fnV 74 #[ptrV w3.heap.size], fnV 75 #[ptrV w3.heap.size, ptrV (w3.heap.size + 1), ptrV (w3.heap.size + 1 + 1)], fnV 76 #[], fnV 78 #[], fnV 80 #[]] TPart (0, 0))
    unfold fnV ptrV at nW
    rw [hW] at nW
    have sW := bW.size
    exact ⟨_, rfl, b5.trans (bW.mono (by omega)), PartsAt.of3 _ _ _ _ _ _ _ _ _ nW ⟨by omega, blk_lt nW⟩
      (num_part a1 a2 a3 ((hb4.trans (hb5.mono s4)).trans (bW.mono (by omega))) s2 (Nat.le_refl _))
      (num_part c1 c2 c3 (hb5.trans (bW.mono s5)) (by omega) (Nat.le_refl _)) rfl⟩
  · by_cases k2 : kind = 2
    · subst k2
      go_enter Try.func35, Try.ntmps35
      go_wp2_with (fail)
      refine (NU.out 59 0 7 w).mono ?_
      rintro e w1 ⟨rfl, hb1, a1, a2, a3⟩
      go_wp2_with (fail)
      refine bodyPost_ret (v := .tuple #[.slice (some ⟨w1.heap.size + 1, 0, none⟩) 1 1, .bool true]) (by simp [results, Try.results35, go_sem, *]) rfl ?_
      have nW := (two_blks w1 (.cells #[fnV 73 #[ptrV w.heap.size], fnV 74 #[ptrV w.heap.size], fnV 75 #[ptrV w.heap.size, ptrV (w.heap.size + 1), ptrV (w.heap.size + 1 + 1)]] TPart (0, 0)) (.cells #[fnV 73 #[ptrV w.heap.size], fnV 74 #[ptrV w.heap.size], fnV 75 #[ptrV w.heap.size, ptrV (w.heap.size + 1), ptrV (w.heap.size + 1 + 1)]] TPart (0, 0))).2
      unfold fnV ptrV at nW
      generalize hW : (w1.alloc _).alloc _ = W at nW ⊢
      have bW : Below w1.heap.size w1 W := by rw [← hW]; exact ((Below.refl _ _).alloc (Nat.le_refl _) _).alloc (by simp) _
      have s1 := hb1.size
      have sW := bW.size
      exact ⟨_, rfl, hb1.trans (bW.mono s1), PartsAt.of1 _ _ _ nW ⟨by omega, blk_lt nW⟩ (num_part a1 a2 a3 bW (Nat.le_refl _) (Nat.le_refl _))⟩
    · by_cases k4 : kind = 4
      · subst k4
        go_enter Try.func35, Try.ntmps35
        go_wp2_with (fail)
        refine (NU.out 59 0 7 w).mono ?_
        rintro e w1 ⟨rfl, hb1, a1, a2, a3⟩
        go_wp2_with (fail)
        have nT := blk_new w1 (.cells #[fnV 73 #[ptrV w.heap.size], fnV 74 #[ptrV w.heap.size], fnV 75 #[ptrV w.heap.size, ptrV (w.heap.size + 1), ptrV (w.heap.size + 1 + 1)]] TPart (0, 0))
        unfold fnV ptrV at nT
        generalize hW : w1.alloc _ = w2 at nT ⊢
        have b2 : Below w1.heap.size w1 w2 := by rw [← hW]; exact (Below.refl _ _).alloc (Nat.le_refl _) _
        have e0 := cell_blk nT 0 rfl
        have e1 := cell_blk nT 1 rfl
        have e2 := cell_blk nT 2 rfl
        clear hW
        generalize hz : w1.heap.size = z at *
        refine start_ (n := 6) (S := fun w' => w'.cell? ⟨z, 0, none⟩ = some (.func (.func 73) #[] #[.pointer (some ⟨w.heap.size, 0, none⟩)]) ∧ w'.cell? ⟨z, 1, none⟩ = some (.func (.func 74) #[] #[.pointer (some ⟨w.heap.size, 0, none⟩)]) ∧ w'.cell? ⟨z, 2, none⟩ = some (.func (.func 75) #[] #[.pointer (some ⟨w.heap.size, 0, none⟩), .pointer (some ⟨w.heap.size + 1, 0, none⟩), .pointer (some ⟨w.heap.size + 1 + 1, 0, none⟩)])) (ds := []) #[false, false, false, false, false, false] (by kernel_rfl) rfl rfl ⟨e0, e1, e2⟩ (fun hHeld => ?_)
        (refine take_ (i := 1) (N := some 20) (v := ?v_2) (a' := ?a_2) #[false, true, false, false, false, false] rfl rfl (by kernel_rfl) (fun _ _ _ h => h) (Or.inl ⟨by rfl, ?hy_2⟩) hHeld ?ha_2 ?hh_2; (case hy_2 => (rintro w' ⟨s0_, s1_, s2_⟩; go_simp; with_reducible rfl)); (case ha_2 => (simp (disch := omega) only [Act.put, List.setIfInBounds_toArray, List.set_cons_zero, List.set_cons_succ, wrap_in]; rfl)))
        refine one_ (i := 0) (N := some 19) #[true, true, false, false, false, false] rfl rfl (by kernel_rfl) (by decide) (fun K hK => ?_)
        (refine goes_ Try.func58 (by kernel_rfl) rfl ?args_4 (by rfl) rfl rfl ?hargs_4 ?hc_4; (case hargs_4 => (go_simp; with_reducible rfl)))
        (refine (NU.out 63 1 1073741824 _).mono ?_; rintro e w3 ⟨rfl, hb3, c1, c2_, c3⟩; refine ⟨_, rfl, ?_⟩)
        (refine hK.out _ _ ?hs_6 ?hn_6; (case hs_6 => (obtain ⟨s0_, s1_, s2_⟩ := hHeld; exact ⟨cell_below hb3 s0_, cell_below hb3 s1_, cell_below hb3 s2_⟩)); intro hHeld; clear hK K)
        (refine norm_ (a' := ?a_7) ?ha_7 ?hh_7; (case ha_7 => (simp (disch := omega) only [Act.put, List.setIfInBounds_toArray, List.set_cons_zero, List.set_cons_succ, wrap_in]; rfl)))
        refine one_ (i := 2) (N := some 21) #[true, true, true, false, false, false] rfl rfl (by kernel_rfl) (by decide) (fun K hK => ?_)
        (refine goes_ Try.func64 (by kernel_rfl) rfl ?args_9 (by rfl) rfl rfl ?hargs_9 ?hc_9; (case hargs_9 => (go_simp; with_reducible rfl)))
        (refine (CO.out _).mono ?_; rintro e w4 ⟨rfl, hb4⟩; refine ⟨_, rfl, ?_⟩)
        (refine hK.out _ _ ?hs_11 ?hn_11; (case hs_11 => (obtain ⟨s0_, s1_, s2_⟩ := hHeld; exact ⟨cell_below hb4 s0_, cell_below hb4 s1_, cell_below hb4 s2_⟩)); intro hHeld; clear hK K)
        (refine norm_ (a' := ?a_12) ?ha_12 ?hh_12; (case ha_12 => (simp (disch := omega) only [Act.put, List.setIfInBounds_toArray, List.set_cons_zero, List.set_cons_succ, wrap_in]; rfl)))
        refine one_ (i := 3) (N := some 22) #[true, true, true, true, false, false] rfl rfl (by kernel_rfl) (by decide) (fun K hK => ?_)
        (refine value_ (v := ?v_14) (w1 := ?w1_14) (by rfl) rfl ?hr_14 ?hk_14; (case hr_14 => (go_simp; first | with_reducible rfl | (constructor <;> with_reducible rfl))))
        (refine hK.out _ _ ?hs_15 ?hn_15; (case hs_15 => (obtain ⟨s0_, s1_, s2_⟩ := hHeld; exact ⟨cell_alloc_old s0_ _, cell_alloc_old s1_ _, cell_alloc_old s2_ _⟩)); intro hHeld; clear hK K)
        (refine norm_ (a' := ?a_16) ?ha_16 ?hh_16; (case ha_16 => (simp (disch := omega) only [Act.put, List.setIfInBounds_toArray, List.set_cons_zero, List.set_cons_succ, wrap_in]; rfl)))
        (refine take_ (i := 4) (N := some 2) (v := ?v_17) (a' := ?a_17) #[true, true, true, true, true, false] rfl rfl (by kernel_rfl) (fun _ _ _ h => h) (Or.inl ⟨by rfl, ?hy_17⟩) hHeld ?ha_17 ?hh_17; (case hy_17 => (rintro w' ⟨s0_, s1_, s2_⟩; go_simp; with_reducible rfl)); (case ha_17 => (simp (disch := omega) only [Act.put, List.setIfInBounds_toArray, List.set_cons_zero, List.set_cons_succ, wrap_in]; rfl)))
        (refine take_ (i := 5) (N := some 3) (v := ?v_18) (a' := ?a_18) #[true, true, true, true, true, true] rfl rfl (by kernel_rfl) (fun _ _ _ h => h) (Or.inl ⟨by rfl, ?hy_18⟩) hHeld ?ha_18 ?hh_18; (case hy_18 => (rintro w' ⟨s0_, s1_, s2_⟩; go_simp; with_reducible rfl)); (case ha_18 => (simp (disch := omega) only [Act.put, List.setIfInBounds_toArray, List.set_cons_zero, List.set_cons_succ, wrap_in]; rfl)))
        refine done_ (by kernel_rfl) ?_
        go_wp2_with (fail)
        refine bodyPost_ret (v := .tuple #[.slice (some ⟨w4.heap.size, 0, none⟩) 3 3, .bool true]) (by simp [results, Try.results35, go_sem, *]) rfl ?_
        have nW := blk_new w4 (.cells #[fnV 73 #[ptrV w2.heap.size], fnV 74 #[ptrV w2.heap.size], fnV 75 #[ptrV w2.heap.size, ptrV (w2.heap.size + 1), ptrV (w2.heap.size + 1 + 1)], fnV 73 #[ptrV w.heap.size], fnV 74 #[ptrV w.heap.size], fnV 75 #[ptrV w.heap.size, ptrV (w.heap.size + 1), ptrV (w.heap.size + 1 + 1)], fnV 82 #[], fnV 83 #[], fnV 84 #[]] TPart (0, 0))
        unfold fnV ptrV at nW
        generalize hW : w4.alloc _ = W at nW ⊢
        have bW : Below w4.heap.size w4 W := by rw [← hW]; exact (Below.refl _ _).alloc (Nat.le_refl _) _
        have s1 := hb1.size
        have s2 := b2.size
        have s3 : w2.heap.size ≤ w3.heap.size := hb3.size
        have s4 := hb4.size
        have sW := bW.size
        have hb3' : Below w2.heap.size w2 w3 := (Below.refl w2.heap.size w2).drew.trans hb3
        rw [← hz] at b2
        have c4 : Below w3.heap.size w3 W := hb4.trans (bW.mono s4)
        have c2 : Below w1.heap.size w1 W := b2.trans (((hb3'.trans (c4.mono s3))).mono b2.size)
        exact ⟨_, rfl, hb1.trans (c2.mono s1), PartsAt.of3 _ _ _ _ _ _ _ _ _ nW ⟨by omega, blk_lt nW⟩
          (num_part c1 c2_ c3 c4 (by omega) (Nat.le_refl _))
          (num_part a1 a2 a3 c2 (Nat.le_refl _) (Nat.le_refl _)) rfl⟩
      · obtain ⟨t1, h1⟩ := named (decide (3 ≤ kind))
        obtain ⟨t2, h2⟩ := named (decide (kind ≤ 8))
        have HT := Lib.hid (show thereOf kind = (t1 && t2) by
          unfold thereOf
          rw [h1, h2]
          simp [k1, k2, k4])
        have HP := Lib.hid (show psOf kind = [] by
          unfold psOf
          simp [k1, k2, k4])
        have fin : ∀ (w1 : World) (t : Bool) (o : Obj), Below w.heap.size w w1 → thereOf kind = t → PartsP w kind (.returned (.tuple #[.slice none 0 0, .bool t])) (w1.alloc o) := fun w1 t o hb ht => ⟨none, by rw [HP.out, ht]; rfl, hb.alloc hb.size _, by rw [HP.out]; exact PartsAt.of0 _ _ _ _⟩
        have FIN := Lib.hid fin
        clear fin
        cases t1
        ·
          go_enter Try.func35, Try.ntmps35
          go_wp2_with (fail)
          refine (NU.out 59 0 7 w).mono ?_
          rintro e w1 ⟨rfl, hb1, -, -, -⟩
          go_wp2_with (fail)
          refine bodyPost_ret (v := .tuple #[.slice none 0 0, .bool false]) (by simp [results, Try.results35, go_sem, *]) rfl ?_
          exact FIN.out w1 false _ hb1 HT.out
        ·
          cases t2
          ·
            go_enter Try.func35, Try.ntmps35
            go_wp2_with (fail)
            refine (NU.out 59 0 7 w).mono ?_
            rintro e w1 ⟨rfl, hb1, -, -, -⟩
            go_wp2_with (fail)
            refine bodyPost_ret (v := .tuple #[.slice none 0 0, .bool false]) (by simp [results, Try.results35, go_sem, *]) rfl ?_
            exact FIN.out w1 false _ hb1 HT.out
          ·
            go_enter Try.func35, Try.ntmps35
            go_wp2_with (fail)
            refine (NU.out 59 0 7 w).mono ?_
            rintro e w1 ⟨rfl, hb1, -, -, -⟩
            go_wp2_with (fail)
            refine bodyPost_ret (v := .tuple #[.slice none 0 0, .bool true]) (by simp [results, Try.results35, go_sem, *]) rfl ?_
            exact FIN.out w1 true _ hb1 HT.out
end
end Go.Proofs.Ytjmmdpnphafdfaa
