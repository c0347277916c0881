/- record.Decode. -/
import Derived.Test.YtjmmdpnphafdfaaRW8
namespace Go.Proofs.Ytjmmdpnphafdfaa
set_option linter.unusedVariables false
set_option linter.unusedSimpArgs false
open Go.RowKit Go.Deep Go.Proofs.YtjmmdpnphafdfaaW.PrintLast

attribute [local go_sem] run_store_func
theorem i64N_in64 {n : Nat} (h : n < 18446744073709551616) : In64 (i64N n) := by
  unfold i64N; split <;> constructor <;> omega
theorem num_in64 {s : RS} (hb : Byt s.left) : In64 (i64N s.num.1) := i64N_in64 (num_lt s hb)
theorem text_lenle (s : RS) (m : Int) : (s.text m).1.length ≤ s.left.length := by
  unfold RS.text
  split
  · unfold RS.size
    have := RS.num_llen s
    generalize s.num = q at *
    obtain ⟨n, s1⟩ := q
    simp only at this ⊢
    by_cases h1 : s1.ft = 0
    · simp only [h1, if_pos trivial]
      by_cases h2 : (max m 0).toNat < n
      · simp only [if_pos h2]
        simp
      · by_cases h3 : s1.left.length < n
        · simp only [if_neg h2, if_pos h3]
          simp
        · simp only [if_neg h2, if_neg h3, h1, if_pos trivial]
          simp only [List.length_take]
          omega
    · simp only [if_neg h1]
      simp
  · simp
/-- What reading keeps. -/
structure RdOk (L : Nat) (q : RZ × RS) : Prop where
  wf : q.1.Wf
  byt : Byt q.2.left
  len : q.2.left.length ≤ L
theorem decO_okind {s : RS} (hb : Byt s.left) : In64 (decO s).1.kind := by
  have := (RS.byte_byt hb).2
  unfold decO
  constructor <;> simp only <;> omega
theorem decO_rev {s : RS} (hb : Byt s.left) : In64 (decO s).1.rev := by
  have B1 := (RS.byte_byt hb).1
  have B2 := RS.text_byt (most := 64) B1
  have B3 := RS.text_byt (most := 256) B2.1
  unfold decO
  simp only
  split
  · split
    · exact num_in64 B2.1
    · exact num_in64 B3.1
  · exact i64N_in64 (n := 0) (by omega)
theorem decO_lens (s : RS) : (decO s).1.key.length ≤ s.left.length ∧ (decO s).1.val.length ≤ s.left.length ∧ (decO s).2.left.length ≤ s.left.length := by
  have h1 := RS.byte_llen s
  have h2 := text_lenle s.byte.2 64
  have h3 := RS.text_llen s.byte.2 64
  have h4 := text_lenle (s.byte.2.text 64).2 256
  have h5 := RS.text_llen (s.byte.2.text 64).2 256
  unfold decO
  refine ⟨by first | omega | (simp only; omega), ?_, ?_⟩
  · simp only; split
    · simp
    · omega
  · simp only
    have hv : (if s.byte.1 = 3 then (([] : List Int), (s.byte.2.text 64).2) else (s.byte.2.text 64).2.text 256).2.left.length ≤ s.left.length := by split <;> (try simp only) <;> omega
    split
    · have := RS.num_llen (if s.byte.1 = 3 then (([] : List Int), (s.byte.2.text 64).2) else (s.byte.2.text 64).2.text 256).2
      omega
    · exact hv
theorem RdOk.read {L : Nat} {q : RZ × RS} (h : RdOk L q) (hL : L ≤ 140737488355328) (p : PK) : RdOk L (readP p q.1 q.2) := by
  obtain ⟨⟨w1, w2, w3, w4, w5, w6, w7, w8, w9⟩, hb, hl⟩ := h
  have nl := RS.num_llen q.2
  have nb := RS.num_byt hb
  have n6 := num_in64 hb
  cases p <;> unfold readP
  · exact ⟨⟨w1, n6, w3, w4, w5, w6, w7, w8, w9⟩, nb, Nat.le_trans nl hl⟩
  · exact ⟨⟨w1, w2, n6, w4, w5, w6, w7, w8, w9⟩, nb, Nat.le_trans nl hl⟩
  · exact ⟨⟨w1, w2, w3, n6, w5, w6, w7, w8, w9⟩, nb, Nat.le_trans nl hl⟩
  · exact ⟨⟨n6, w2, w3, w4, w5, w6, w7, w8, w9⟩, nb, Nat.le_trans nl hl⟩
  · obtain ⟨d1, d2, d3⟩ := decO_lens q.2
    exact ⟨⟨w1, w2, w3, w4, decO_okind hb, decO_rev hb, Nat.le_trans d1 (Nat.le_trans hl hL), Nat.le_trans d2 (Nat.le_trans hl hL), w9⟩, (decO_byt hb).2.2, Nat.le_trans d3 hl⟩
  · have t1 := text_lenle q.2 262144
    have t2 := RS.text_llen q.2 262144
    exact ⟨⟨w1, w2, w3, w4, w5, w6, w7, w8, Nat.le_trans t1 (Nat.le_trans hl hL)⟩, (RS.text_byt hb).1, Nat.le_trans t2 hl⟩
/-- Eleven cells laid over a block's. -/
def set11 (w : World) (b : Nat) (v0 v1 v2 v3 v4 v5 v6 v7 v8 v9 v10 : Value) : World :=
  ((((((((((w.setCell ⟨b, 0, none⟩ v0).setCell ⟨b, 1, none⟩ v1).setCell ⟨b, 2, none⟩ v2).setCell ⟨b, 3, none⟩ v3).setCell ⟨b, 4, none⟩ v4).setCell ⟨b, 5, none⟩ v5).setCell ⟨b, 6, none⟩ v6).setCell ⟨b, 7, none⟩ v7).setCell ⟨b, 8, none⟩ v8).setCell ⟨b, 9, none⟩ v9).setCell ⟨b, 10, none⟩ v10
theorem set11_heap {w : World} {b : Nat} {T : TypeId} {x0 x1 x2 x3 x4 x5 x6 x7 x8 x9 x10 : Value} (h : w.heap[b]? = some (.cells #[x0, x1, x2, x3, x4, x5, x6, x7, x8, x9, x10] T (0, 0))) (v0 v1 v2 v3 v4 v5 v6 v7 v8 v9 v10 : Value) :
    (set11 w b v0 v1 v2 v3 v4 v5 v6 v7 v8 v9 v10).heap[b]? = some (.cells #[v0, v1, v2, v3, v4, v5, v6, v7, v8, v9, v10] T (0, 0)) := by
  have q0 : _ = some (Obj.cells #[v0, x1, x2, x3, x4, x5, x6, x7, x8, x9, x10] T (0, 0)) := (setCell_heap _ b 0 v0 _ _ _ h).trans rfl
  have q1 : _ = some (Obj.cells #[v0, v1, x2, x3, x4, x5, x6, x7, x8, x9, x10] T (0, 0)) := (setCell_heap _ b 1 v1 _ _ _ q0).trans rfl
  have q2 : _ = some (Obj.cells #[v0, v1, v2, x3, x4, x5, x6, x7, x8, x9, x10] T (0, 0)) := (setCell_heap _ b 2 v2 _ _ _ q1).trans rfl
  have q3 : _ = some (Obj.cells #[v0, v1, v2, v3, x4, x5, x6, x7, x8, x9, x10] T (0, 0)) := (setCell_heap _ b 3 v3 _ _ _ q2).trans rfl
  have q4 : _ = some (Obj.cells #[v0, v1, v2, v3, v4, x5, x6, x7, x8, x9, x10] T (0, 0)) := (setCell_heap _ b 4 v4 _ _ _ q3).trans rfl
  have q5 : _ = some (Obj.cells #[v0, v1, v2, v3, v4, v5, x6, x7, x8, x9, x10] T (0, 0)) := (setCell_heap _ b 5 v5 _ _ _ q4).trans rfl
  have q6 : _ = some (Obj.cells #[v0, v1, v2, v3, v4, v5, v6, x7, x8, x9, x10] T (0, 0)) := (setCell_heap _ b 6 v6 _ _ _ q5).trans rfl
  have q7 : _ = some (Obj.cells #[v0, v1, v2, v3, v4, v5, v6, v7, x8, x9, x10] T (0, 0)) := (setCell_heap _ b 7 v7 _ _ _ q6).trans rfl
  have q8 : _ = some (Obj.cells #[v0, v1, v2, v3, v4, v5, v6, v7, v8, x9, x10] T (0, 0)) := (setCell_heap _ b 8 v8 _ _ _ q7).trans rfl
  have q9 : _ = some (Obj.cells #[v0, v1, v2, v3, v4, v5, v6, v7, v8, v9, x10] T (0, 0)) := (setCell_heap _ b 9 v9 _ _ _ q8).trans rfl
  have q10 : _ = some (Obj.cells #[v0, v1, v2, v3, v4, v5, v6, v7, v8, v9, v10] T (0, 0)) := (setCell_heap _ b 10 v10 _ _ _ q9).trans rfl
  exact q10
theorem set11_other (w : World) {b k : Nat} (v0 v1 v2 v3 v4 v5 v6 v7 v8 v9 v10 : Value) (h : k ≠ b) : (set11 w b v0 v1 v2 v3 v4 v5 v6 v7 v8 v9 v10).heap[k]? = w.heap[k]? := by
  unfold set11
  rw [set_other _ _ _ h, set_other _ _ _ h, set_other _ _ _ h, set_other _ _ _ h, set_other _ _ _ h, set_other _ _ _ h, set_other _ _ _ h, set_other _ _ _ h, set_other _ _ _ h, set_other _ _ _ h, set_other _ _ _ h]
theorem set11_size (w : World) (b : Nat) (v0 v1 v2 v3 v4 v5 v6 v7 v8 v9 v10 : Value) : (set11 w b v0 v1 v2 v3 v4 v5 v6 v7 v8 v9 v10).heap.size = w.heap.size := by
  unfold set11
  simp only [setCell_size]
theorem set11_fr (w : World) (b : Nat) (v0 v1 v2 v3 v4 v5 v6 v7 v8 v9 v10 : Value) : Fr (fun x => x = b) w (set11 w b v0 v1 v2 v3 v4 v5 v6 v7 v8 v9 v10) := by
  have one : ∀ (u : World) (j : Nat) (v : Value), Fr (fun x => x = b) u (u.setCell ⟨b, j, none⟩ v) := fun u j v => Fr.set (F := fun x => x = b) (p := ⟨b, j, none⟩) u rfl v
  have tr : ∀ {x y z : World}, Fr (fun x => x = b) x y → Fr (fun x => x = b) y z → Fr (fun x => x = b) x z := fun h h' => h.trans h' fun _ _ h => h
  exact tr (tr (tr (tr (tr (tr (tr (tr (tr (tr (one _ _ _) (one _ _ _)) (one _ _ _)) (one _ _ _)) (one _ _ _)) (one _ _ _)) (one _ _ _)) (one _ _ _)) (one _ _ _)) (one _ _ _)) (one _ _ _)
/-- A record's texts in new memory, each behind the one ahead of it. -/
def Chain (w : World) (lo : Nat) (r : RZ) (K V C : SlB) : Prop := ∃ m n, lo ≤ m ∧ m ≤ n ∧ n ≤ w.heap.size ∧ NewIn w lo m K r.op.key ∧ NewIn w m n V r.op.val ∧ NewIn w n w.heap.size C r.copy
/-- What Decode hands back. -/
def DecP (w : World) (p : List Int) (e : Ending) (w' : World) : Prop := Below w.heap.size w w' ∧ ∃ K V C, e = .returned (.tuple #[recV (decodeR p).1 K V C, .int .i64 (decodeR p).2]) ∧ Chain w' w.heap.size (decodeR p).1 K V C
theorem psOf_last {kind : Int} {i : Nat} {p : PK} (h : (psOf kind)[i]? = some p) (hp : p = .write ∨ p = .copied) : i + 1 = (psOf kind).length := by
  unfold psOf at *
  split at h
  · rename_i hk
    rw [if_pos hk]
    rcases i with _ | _ | _ | i <;> simp at h <;> subst h <;> simp at hp
    rfl
  · split at h
    · rename_i h1 hk
      rcases i with _ | i <;> simp at h <;> subst h <;> simp at hp
    · split at h
      · rename_i h1 h2 hk
        rw [if_neg h1, if_neg h2, if_pos hk]
        rcases i with _ | _ | _ | i <;> simp at h <;> subst h <;> simp at hp
        rfl
      · simp at h
theorem decP_fold (kind shard : Int) (s : RS) : (psOf kind).foldl (fun q p => readP p q.1 q.2) (⟨kind, shard, 0, 0, 0, 0, OpZ.none, []⟩, s) = decF kind shard s := decP_eq kind shard s
theorem set11_below {w w7 : World} (h : Below w.heap.size w w7) (v0 v1 v2 v3 v4 v5 v6 v7 v8 v9 v10 : Value) : Below w.heap.size w (set11 w7 w.heap.size v0 v1 v2 v3 v4 v5 v6 v7 v8 v9 v10) :=
  h.trans ((set11_fr w7 w.heap.size v0 v1 v2 v3 v4 v5 v6 v7 v8 v9 v10).toBelow (fun x hx => by omega) h.size)
theorem DecP.bad {w w7 : World} {p : List Int} (h : Below w.heap.size w w7) (hd : decodeR p = (RZ.none, 160)) (v0 v1 v2 v3 v4 v5 v6 v7 v8 v9 v10 : Value) : DecP w p (.returned (.tuple #[.agg #[.int .i64 0, .int .i64 0, .int .i64 0, .int .i64 0, .int .i64 0, .int .i64 0, .int .i64 0, .slice none 0 0, .slice none 0 0, .int .i64 0, .slice none 0 0], .int .i64 160])) (set11 w7 w.heap.size v0 v1 v2 v3 v4 v5 v6 v7 v8 v9 v10) := by
  have hb := set11_below h v0 v1 v2 v3 v4 v5 v6 v7 v8 v9 v10
  refine ⟨hb, zSl, zSl, zSl, by rw [hd]; rfl, w.heap.size, w.heap.size, Nat.le_refl _, Nat.le_refl _, hb.size, ?_, ?_, ?_⟩ <;> (rw [hd]; exact NewIn.nil _ _ _)
theorem DecP.good {w w7 : World} {p : List Int} {lo hi kr : Nat} {r : RZ} {K V C : SlB} (h : Below w.heap.size w w7) (hd : decodeR p = (r, 0)) (hr : RecD w7 lo hi kr r K V C) (hlo : w.heap.size < lo) (v0 v1 v2 v3 v4 v5 v6 v7 v8 v9 v10 : Value) : DecP w p (.returned (.tuple #[recV r K V C, .int .i64 0])) (set11 w7 w.heap.size v0 v1 v2 v3 v4 v5 v6 v7 v8 v9 v10) := by
  have hb := set11_below h v0 v1 v2 v3 v4 v5 v6 v7 v8 v9 v10
  obtain ⟨_, _, h9, m, n, h3, h4, h5, h6, h7, h8⟩ := hr
  have oth : ∀ b, w.heap.size < b → (set11 w7 w.heap.size v0 v1 v2 v3 v4 v5 v6 v7 v8 v9 v10).heap[b]? = w7.heap[b]? := fun b hb => set11_other _ _ _ _ _ _ _ _ _ _ _ _ (by omega)
  refine ⟨hb, K, V, C, by rw [hd], m, n, by omega, h4, by rw [set11_size]; omega, ?_, ?_, ?_⟩ <;> rw [hd]
  · exact (h6.same fun b hb _ _ => oth b (by omega)).mono (by omega) (Nat.le_refl _)
  · exact h7.same fun b hb _ _ => oth b (by omega)
  · exact (h8.same fun b hb _ _ => oth b (by omega)).mono (Nat.le_refl _) (by rw [set11_size]; exact h9)
set_option maxRecDepth 100000 in
set_option maxHeartbeats 8000000 in
theorem decode_any {p : List Int} (hb : Byt p) (hl : p.length ≤ 140737488355328) {A0 : Option Addr} {c0 : Nat} {w : World} (hp : BSrc w A0 p) :
    Calls Try.prog 13 #[.slice A0 p.length c0] w (DecP w p) := by
  have PA := Lib.hid (fun (kd : Int) (w1 : World) => parts_any kd w1)
  have HB := Lib.hid hb
  have hs1 : (w.alloc (.cells (recCells RZ.none zSl zSl zSl) TRec (0, 0))).heap.size = w.heap.size + 1 := World.size_alloc _ _
  have B1 : Below w.heap.size w (w.alloc (.cells (recCells RZ.none zSl zSl zSl) TRec (0, 0))) := (Below.refl _ _).alloc (Nat.le_refl _) _
  have HT := Lib.hid (blk_new w (.cells (recCells RZ.none zSl zSl zSl) TRec (0, 0)))
  have RD := Lib.hid (read_any (cc := c0) (hp.below B1) hl)
  have HDR := Lib.hid (show decR p = decF (RS.mk p [] 0).byte.1 (i64N (RS.mk p [] 0).byte.2.num.1) (RS.mk p [] 0).byte.2.num.2 from rfl)
  generalize hw1 : w.alloc (.cells (recCells RZ.none zSl zSl zSl) TRec (0, 0)) = w1 at *
  have HB1 := Lib.hid B1
  have HW1 := Lib.hid (show w.alloc (.cells #[.int .i64 0, .int .i64 0, .int .i64 0, .int .i64 0, .int .i64 0, .int .i64 0, .int .i64 0, .slice none 0 0, .slice none 0 0, .int .i64 0, .slice none 0 0] TRec (0, 0)) = w1 from hw1)
  clear hb hp B1 hw1
  go_enter Try.func13, Try.ntmps13
  go_wp2_with (fail)
  rw [HW1.out]
  refine RD.out.mono ?_
  rintro e w2 ⟨k, rfl, hk, hb2, L2⟩
  have HT2 := Lib.hid (blk_below HT.out hb2)
  have B2 := Lib.hid (HB1.out.trans (hb2.mono HB1.out.size))
  have s2 := hb2.size
  have BY := Lib.hid (rByte_any L2 HB.out (by simp only; omega))
  clear hb2 L2
  go_wp2_with (fail)
  refine BY.out.mono ?_
  rintro e w3 ⟨rfl, U3⟩
  have bb := RS.byte_byt (s := ⟨p, [], 0⟩) HB.out
  have bl := RS.byte_llen ⟨p, [], 0⟩
  simp only at bl
  generalize hq1 : (RS.mk p [] 0).byte = q1 at *
  have NM := Lib.hid (rNum_any U3.1 bb.1 (by omega))
  have HU3 := Lib.hid U3
  have HBB := Lib.hid bb
  clear U3 bb BY
  go_wp2_with (fail)
  refine NM.out.mono ?_
  rintro e w4 ⟨rfl, U4⟩
  have U4 := HU3.out.trans U4
  have nb := RS.num_byt HBB.out.1
  have nl := RS.num_llen q1.2
  have hI := i64N_wrap (num_lt q1.2 HBB.out.1)
  have h6 := num_in64 HBB.out.1
  generalize hq2 : q1.2.num = q2 at *
  have HU4 := Lib.hid U4
  have HNB := Lib.hid nb
  have HI6 := Lib.hid h6
  have HI := Lib.hid hI
  have HDR2 := Lib.hid (show decR p = decF q1.1 (i64N q2.1) q2.2 from HDR.out)
  have kd0 := HBB.out.2
  obtain ⟨kd, s1⟩ := q1
  simp only at kd0 HDR2
  clear U4 nb h6 hI NM HDR HU3
  go_wp2_with (fail)
  rw [HI.out]
  obtain ⟨r0, hr0⟩ : ∃ r : RZ, (⟨kd, i64N q2.1, 0, 0, 0, 0, OpZ.none, []⟩ : RZ) = r := ⟨_, rfl⟩
  have BR := blk_new w4 (.cells (recCells ⟨kd, i64N q2.1, 0, 0, 0, 0, OpZ.none, []⟩ zSl zSl zSl) TRec (0, 0))
  have BB5 : Below w4.heap.size w4 (w4.alloc (.cells (recCells ⟨kd, i64N q2.1, 0, 0, 0, 0, OpZ.none, []⟩ zSl zSl zSl) TRec (0, 0))) := (Below.refl _ _).alloc (Nat.le_refl _) _
  have hs5 : (w4.alloc (.cells (recCells ⟨kd, i64N q2.1, 0, 0, 0, 0, OpZ.none, []⟩ zSl zSl zSl) TRec (0, 0))).heap.size = w4.heap.size + 1 := World.size_alloc _ _
  rw [hr0] at BR BB5 hs5
  rw [show w4.alloc (.cells #[.int .i64 kd, .int .i64 (i64N q2.1), .int .i64 0, .int .i64 0, .int .i64 0, .int .i64 0, .int .i64 0, .slice none 0 0, .slice none 0 0, .int .i64 0, .slice none 0 0] TRec (0, 0)) = w4.alloc (.cells (recCells r0 zSl zSl zSl) TRec (0, 0)) by rw [← hr0]; rfl]
  generalize w4.alloc (.cells (recCells r0 zSl zSl zSl) TRec (0, 0)) = w5 at *
  have s4 := HU4.out.2.size
  have B5 := Lib.hid (show Below w.heap.size w w5 from B2.out.trans ((HU4.out.2.toBelow (n := w.heap.size) (fun x hx => by omega) (by omega)).trans (BB5.mono (by omega))))
  have hT4 : w4.heap[w.heap.size]? = w2.heap[w.heap.size]? := HU4.out.2.block _ (blk_lt HT2.out) (fun hx => by omega)
  have HT5 := Lib.hid (show w5.heap[w.heap.size]? = _ from blk_below (hT4.trans HT2.out) BB5)
  have HBR := Lib.hid BR
  have L5 := Lib.hid (HU4.out.1.below BB5)
  generalize hkr : w4.heap.size = kr at *
  have RO := Lib.hid (show RdOk p.length (r0, q2.2) from by
    rw [← hr0]
    have z : In64 0 := ⟨by omega, by omega⟩
    exact ⟨⟨z, z, z, z, z, z, by simp [OpZ.none], by simp [OpZ.none], by simp⟩, HNB.out, by simp only; omega⟩)
  have HR0 := Lib.hid (show r0.op = OpZ.none ∧ r0.copy = [] from by rw [← hr0]; exact ⟨rfl, rfl⟩)
  have HFD := Lib.hid (show (psOf kd).foldl (fun q p => readP p q.1 q.2) (r0, q2.2) = decR p from by rw [HDR2.out, ← hr0]; exact decP_fold kd _ _)
  clear hT4 BB5 BR hr0 HDR2
  refine (PA.out kd w5).mono ?_
  rintro e w6 ⟨A, rfl, hb6, P6⟩
  have s6 := hb6.size
  have L6 := Lib.hid (L5.out.below hb6)
  have B6 := Lib.hid (B5.out.trans (hb6.mono B5.out.size))
  have HT6 := Lib.hid (blk_below HT5.out hb6)
  have HR6 := Lib.hid (show RecD w6 (kr + 1) w6.heap.size kr r0 zSl zSl zSl from ⟨by omega, blk_below HBR.out hb6, Nat.le_refl _, kr + 1, kr + 1, Nat.le_refl _, Nat.le_refl _, by omega, by rw [HR0.out.1]; exact NewIn.nil _ _ _, by rw [HR0.out.1]; exact NewIn.nil _ _ _, by rw [HR0.out.2]; exact NewIn.nil _ _ _⟩)
  have HP6 := Lib.hid P6
  have HLA := Lib.hid (fun (i : Nat) (p : PK) (h : (psOf kd)[i]? = some p) (hp : p = .write ∨ p = .copied) => psOf_last h hp)
  have psl := psOf_len kd
  generalize hps : psOf kd = ps at *
  have hlt := blk_lt HT6.out
  clear hb6 P6 hps L5 HT5 HT2 HT
  go_wp2_with (fail)
  refine wp_loop_ghost_k (fun (m : Nat) (ac : Act) (wr : World) => ∃ u1 u6 u7 u8 u9 u10 u11 u12 u13 u14 u15 u16 u17 u18 u19 u20 u21 u22 u23 u27 u28 u29 u30 u31 u32 u33 u34 u35 u36 u37 u38 u39 u40 u41 u42 u43 u44 v0 v26 : Value, (∃ (i : Nat) (q : RZ × RS) (K V C : SlB), m + i = ps.length ∧ v26 = .int .i64 i ∧ q = (ps.take i).foldl (fun q p => readP p q.1 q.2) (r0, q2.2) ∧ RLies wr (fun b => w1.heap.size ≤ b ∧ b < w2.heap.size) k q.2 ∧ RdOk p.length q ∧ RecD wr (kr + 1) wr.heap.size kr q.1 K V C ∧ (i < ps.length → K = zSl ∧ V = zSl ∧ C = zSl ∧ q.1.op = OpZ.none ∧ q.1.copy = []) ∧ wr.heap[w.heap.size]? = some (.cells (recCells RZ.none zSl zSl zSl) TRec (0, 0)) ∧ PartsAt wr w5.heap.size w6.heap.size A ps ∧ Below w.heap.size w wr ∧ w6.heap.size ≤ wr.heap.size) ∧ ac = ({ tmps := #[v0, u1, .pointer (some ⟨w.heap.size, 0, none⟩), .int .i64 0, .pointer (some ⟨k, 0, none⟩), .pointer (some ⟨kr, 0, none⟩), u6, u7, u8, u9, u10, u11, u12, u13, u14, u15, u16, u17, u18, u19, u20, u21, u22, u23, .slice A ps.length ps.length, .int .i64 ps.length, v26, u27, u28, u29, u30, u31, u32, u33, u34, u35, u36, u37, u38, u39, u40, u41, u42, u43, u44], defers := [] } : Act)) (ps.length) ?atStart ?round
  case' atStart => ((repeat apply Exists.intro); refine ⟨?_, rfl⟩)
  case' round => (intro m ac wr hcut; obtain ⟨u1, hcut⟩ := hcut; obtain ⟨u6, hcut⟩ := hcut; obtain ⟨u7, hcut⟩ := hcut; obtain ⟨u8, hcut⟩ := hcut; obtain ⟨u9, hcut⟩ := hcut; obtain ⟨u10, hcut⟩ := hcut; obtain ⟨u11, hcut⟩ := hcut; obtain ⟨u12, hcut⟩ := hcut; obtain ⟨u13, hcut⟩ := hcut; obtain ⟨u14, hcut⟩ := hcut; obtain ⟨u15, hcut⟩ := hcut; obtain ⟨u16, hcut⟩ := hcut; obtain ⟨u17, hcut⟩ := hcut; obtain ⟨u18, hcut⟩ := hcut; obtain ⟨u19, hcut⟩ := hcut; obtain ⟨u20, hcut⟩ := hcut; obtain ⟨u21, hcut⟩ := hcut; obtain ⟨u22, hcut⟩ := hcut; obtain ⟨u23, hcut⟩ := hcut; obtain ⟨u27, hcut⟩ := hcut; obtain ⟨u28, hcut⟩ := hcut; obtain ⟨u29, hcut⟩ := hcut; obtain ⟨u30, hcut⟩ := hcut; obtain ⟨u31, hcut⟩ := hcut; obtain ⟨u32, hcut⟩ := hcut; obtain ⟨u33, hcut⟩ := hcut; obtain ⟨u34, hcut⟩ := hcut; obtain ⟨u35, hcut⟩ := hcut; obtain ⟨u36, hcut⟩ := hcut; obtain ⟨u37, hcut⟩ := hcut; obtain ⟨u38, hcut⟩ := hcut; obtain ⟨u39, hcut⟩ := hcut; obtain ⟨u40, hcut⟩ := hcut; obtain ⟨u41, hcut⟩ := hcut; obtain ⟨u42, hcut⟩ := hcut; obtain ⟨u43, hcut⟩ := hcut; obtain ⟨u44, hcut⟩ := hcut; obtain ⟨v0, hcut⟩ := hcut; obtain ⟨v26, hcut⟩ := hcut; obtain ⟨hcut, hac⟩ := hcut; subst hac; intro _ _ _ _)
  case atStart => exact ⟨0, (r0, q2.2), zSl, zSl, zSl, rfl, rfl, rfl, L6.out, RO.out, HR6.out, fun _ => ⟨rfl, rfl, rfl, HR0.out.1, HR0.out.2⟩, HT6.out, HP6.out, B6.out, Nat.le_refl _⟩
  case round =>
    obtain ⟨i, q, K, V, C, hm, rfl, hq, LR, RK, RC, ZZ, TT, PP, BB, h6⟩ := hcut
    have HM := Lib.hid hm
    have HQ := Lib.hid hq
    have HLR := Lib.hid LR
    have HRK := Lib.hid RK
    have HRC := Lib.hid RC
    have HZZ := Lib.hid ZZ
    have HTT := Lib.hid TT
    have HBB := Lib.hid BB
    clear hq LR RK RC ZZ TT BB
    by_cases hi : i < ps.length
    · have HPP := Lib.hid PP
      obtain ⟨p', hp⟩ : ∃ p, ps[i]? = some p := ⟨_, List.getElem?_eq_getElem hi⟩
      obtain ⟨vss, v1, v2, v3⟩ := PP
      obtain ⟨vs, hvs⟩ : ∃ vs, vss[i]? = some vs := ⟨_, List.getElem?_eq_getElem (by omega)⟩
      obtain ⟨PT, vl⟩ := v2 i p' vs hp hvs
      obtain ⟨g, hA, hg, hc⟩ := v3 i vs hvs
      have HST := Lib.hid (show (ps.take (i + 1)).foldl (fun q p => readP p q.1 q.2) (r0, q2.2) = readP p' q.1 q.2 by
        rw [List.take_add_one, hp, List.foldl_append, ← HQ.out]
        rfl)
      have HLI := Lib.hid (HLA.out i p' hp)
      clear v1 v2 v3 hvs hm hp
      subst hA
      have HF1 := Lib.hid (show ∀ b, (w1.heap.size ≤ b ∧ b < w2.heap.size) → b < kr + 1 from fun b hb => by omega)
      have HF2 : ¬ (w1.heap.size ≤ kr ∧ kr < w2.heap.size) := by omega
      have ql : q.2.left.length ≤ p.length := HRK.out.len
      --[A
      cases p'
      ·
        obtain ⟨a, l, mm, hbd, rfl, pa, pl, pm⟩ := PT
        have c0 := hc 0 _ rfl
        have c1 := hc 1 _ rfl
        have c2 := hc 2 _ rfl
        simp only [Nat.add_zero] at c0
        unfold fnV ptrV at c0 c1 c2
        have HPA := Lib.hid pa
        clear hc vl hbd pa pl pm
        go_wp2_with (fail)
        generalize hw8 : wr.alloc _ = w8
        have hb8 : Below wr.heap.size wr w8 := by rw [← hw8]; exact (Below.refl _ _).alloc (Nat.le_refl _) _
        clear hw8
        refine (read_peer (HLR.out.below hb8) HRK.out.byt (by omega) HF1.out HF2 (HRC.out.below hb8) (blk_below HPA.out hb8)).mono ?_
        rintro e w9 ⟨rfl, R9, L9, F9⟩
        have U9 := Lib.hid (show Fr (fun b => (w1.heap.size ≤ b ∧ b < w2.heap.size) ∨ b = kr) w8 w9 from F9)
        have D9 := Lib.hid R9
        have M9 := Lib.hid L9
        clear F9 R9 L9
        go_wp2_with (fail)
        go_roundg (m - 1)
        case measure => have := HM.out; omega
        case rel =>
          have z8 := hb8.size
          have z9 := U9.out.size
          refine ⟨i + 1, _, _, _, _, by have := HM.out; omega, by go_num, HST.out.symm, M9.out, HRK.out.read (by omega) _, D9.out, ?_, ?_, (HPP.out.fr (F := fun _ => False) (Fr.below _ hb8) (fun _ h => h.elim)).fr U9.out (fun b hb => by omega), HBB.out.trans ((hb8.mono (by omega)).trans (U9.out.toBelow (fun x hx => by omega) (by omega))), by omega⟩
          · intro hlt'
            exact HZZ.out hi
          · exact (U9.out.block _ (by omega) (fun hx => by omega)).trans (blk_below HTT.out hb8)
      ·
        obtain ⟨a, l, mm, hbd, rfl, pa, pl, pm⟩ := PT
        have c0 := hc 0 _ rfl
        have c1 := hc 1 _ rfl
        have c2 := hc 2 _ rfl
        simp only [Nat.add_zero] at c0
        unfold fnV ptrV at c0 c1 c2
        have HPA := Lib.hid pa
        clear hc vl hbd pa pl pm
        go_wp2_with (fail)
        generalize hw8 : wr.alloc _ = w8
        have hb8 : Below wr.heap.size wr w8 := by rw [← hw8]; exact (Below.refl _ _).alloc (Nat.le_refl _) _
        clear hw8
        refine (read_client (HLR.out.below hb8) HRK.out.byt (by omega) HF1.out HF2 (HRC.out.below hb8) (blk_below HPA.out hb8)).mono ?_
        rintro e w9 ⟨rfl, R9, L9, F9⟩
        have U9 := Lib.hid (show Fr (fun b => (w1.heap.size ≤ b ∧ b < w2.heap.size) ∨ b = kr) w8 w9 from F9)
        have D9 := Lib.hid R9
        have M9 := Lib.hid L9
        clear F9 R9 L9
        go_wp2_with (fail)
        go_roundg (m - 1)
        case measure => have := HM.out; omega
        case rel =>
          have z8 := hb8.size
          have z9 := U9.out.size
          refine ⟨i + 1, _, _, _, _, by have := HM.out; omega, by go_num, HST.out.symm, M9.out, HRK.out.read (by omega) _, D9.out, ?_, ?_, (HPP.out.fr (F := fun _ => False) (Fr.below _ hb8) (fun _ h => h.elim)).fr U9.out (fun b hb => by omega), HBB.out.trans ((hb8.mono (by omega)).trans (U9.out.toBelow (fun x hx => by omega) (by omega))), by omega⟩
          · intro hlt'
            exact HZZ.out hi
          · exact (U9.out.block _ (by omega) (fun hx => by omega)).trans (blk_below HTT.out hb8)
      ·
        obtain ⟨a, l, mm, hbd, rfl, pa, pl, pm⟩ := PT
        have c0 := hc 0 _ rfl
        have c1 := hc 1 _ rfl
        have c2 := hc 2 _ rfl
        simp only [Nat.add_zero] at c0
        unfold fnV ptrV at c0 c1 c2
        have HPA := Lib.hid pa
        clear hc vl hbd pa pl pm
        go_wp2_with (fail)
        generalize hw8 : wr.alloc _ = w8
        have hb8 : Below wr.heap.size wr w8 := by rw [← hw8]; exact (Below.refl _ _).alloc (Nat.le_refl _) _
        clear hw8
        refine (read_seq (HLR.out.below hb8) HRK.out.byt (by omega) HF1.out HF2 (HRC.out.below hb8) (blk_below HPA.out hb8)).mono ?_
        rintro e w9 ⟨rfl, R9, L9, F9⟩
        have U9 := Lib.hid (show Fr (fun b => (w1.heap.size ≤ b ∧ b < w2.heap.size) ∨ b = kr) w8 w9 from F9)
        have D9 := Lib.hid R9
        have M9 := Lib.hid L9
        clear F9 R9 L9
        go_wp2_with (fail)
        go_roundg (m - 1)
        case measure => have := HM.out; omega
        case rel =>
          have z8 := hb8.size
          have z9 := U9.out.size
          refine ⟨i + 1, _, _, _, _, by have := HM.out; omega, by go_num, HST.out.symm, M9.out, HRK.out.read (by omega) _, D9.out, ?_, ?_, (HPP.out.fr (F := fun _ => False) (Fr.below _ hb8) (fun _ h => h.elim)).fr U9.out (fun b hb => by omega), HBB.out.trans ((hb8.mono (by omega)).trans (U9.out.toBelow (fun x hx => by omega) (by omega))), by omega⟩
          · intro hlt'
            exact HZZ.out hi
          · exact (U9.out.block _ (by omega) (fun hx => by omega)).trans (blk_below HTT.out hb8)
      ·
        obtain ⟨a, l, mm, hbd, rfl, pa, pl, pm⟩ := PT
        have c0 := hc 0 _ rfl
        have c1 := hc 1 _ rfl
        have c2 := hc 2 _ rfl
        simp only [Nat.add_zero] at c0
        unfold fnV ptrV at c0 c1 c2
        have HPA := Lib.hid pa
        clear hc vl hbd pa pl pm
        go_wp2_with (fail)
        generalize hw8 : wr.alloc _ = w8
        have hb8 : Below wr.heap.size wr w8 := by rw [← hw8]; exact (Below.refl _ _).alloc (Nat.le_refl _) _
        clear hw8
        refine (read_epoch (HLR.out.below hb8) HRK.out.byt (by omega) HF1.out HF2 (HRC.out.below hb8) (blk_below HPA.out hb8)).mono ?_
        rintro e w9 ⟨rfl, R9, L9, F9⟩
        have U9 := Lib.hid (show Fr (fun b => (w1.heap.size ≤ b ∧ b < w2.heap.size) ∨ b = kr) w8 w9 from F9)
        have D9 := Lib.hid R9
        have M9 := Lib.hid L9
        clear F9 R9 L9
        go_wp2_with (fail)
        go_roundg (m - 1)
        case measure => have := HM.out; omega
        case rel =>
          have z8 := hb8.size
          have z9 := U9.out.size
          refine ⟨i + 1, _, _, _, _, by have := HM.out; omega, by go_num, HST.out.symm, M9.out, HRK.out.read (by omega) _, D9.out, ?_, ?_, (HPP.out.fr (F := fun _ => False) (Fr.below _ hb8) (fun _ h => h.elim)).fr U9.out (fun b hb => by omega), HBB.out.trans ((hb8.mono (by omega)).trans (U9.out.toBelow (fun x hx => by omega) (by omega))), by omega⟩
          · intro hlt'
            exact HZZ.out hi
          · exact (U9.out.block _ (by omega) (fun hx => by omega)).trans (blk_below HTT.out hb8)
      · obtain rfl := PT
        have c0 := hc 0 _ rfl
        have c1 := hc 1 _ rfl
        have c2 := hc 2 _ rfl
        simp only [Nat.add_zero] at c0
        unfold fnV at c0 c1 c2
        clear hc vl
        go_wp2_with (fail)
        generalize hw8 : wr.alloc _ = w8
        have hb8 : Below wr.heap.size wr w8 := by rw [← hw8]; exact (Below.refl _ _).alloc (Nat.le_refl _) _
        clear hw8
        obtain ⟨rfl, rfl, rfl, zo, zc⟩ := HZZ.out hi
        refine (read_write (HLR.out.below hb8) HRK.out.byt (by omega) HF1.out HF2 (HRC.out.below hb8) zo zc).mono ?_
        rintro e w9 ⟨rfl, ⟨K', V', C', R9⟩, L9, F9⟩
        clear zo zc
        have U9 := Lib.hid (show Fr (fun b => (w1.heap.size ≤ b ∧ b < w2.heap.size) ∨ b = kr) w8 w9 from F9)
        have D9 := Lib.hid R9
        have M9 := Lib.hid L9
        clear F9 R9 L9
        go_wp2_with (fail)
        go_roundg (m - 1)
        case measure => have := HM.out; omega
        case rel =>
          have z8 := hb8.size
          have z9 := U9.out.size
          refine ⟨i + 1, _, _, _, _, by have := HM.out; omega, by go_num, HST.out.symm, M9.out, HRK.out.read (by omega) _, D9.out, ?_, ?_, (HPP.out.fr (F := fun _ => False) (Fr.below _ hb8) (fun _ h => h.elim)).fr U9.out (fun b hb => by omega), HBB.out.trans ((hb8.mono (by omega)).trans (U9.out.toBelow (fun x hx => by omega) (by omega))), by omega⟩
          · intro hlt'
            exact absurd (HLI.out (by simp)) (by omega)
          · exact (U9.out.block _ (by omega) (fun hx => by omega)).trans (blk_below HTT.out hb8)
      · obtain rfl := PT
        have c0 := hc 0 _ rfl
        have c1 := hc 1 _ rfl
        have c2 := hc 2 _ rfl
        simp only [Nat.add_zero] at c0
        unfold fnV at c0 c1 c2
        clear hc vl
        go_wp2_with (fail)
        generalize hw8 : wr.alloc _ = w8
        have hb8 : Below wr.heap.size wr w8 := by rw [← hw8]; exact (Below.refl _ _).alloc (Nat.le_refl _) _
        clear hw8
        obtain ⟨rfl, rfl, rfl, zo, zc⟩ := HZZ.out hi
        refine (read_copied (HLR.out.below hb8) HRK.out.byt (by omega) HF1.out HF2 (HRC.out.below hb8)).mono ?_
        rintro e w9 ⟨rfl, ⟨K', V', C', R9⟩, L9, F9⟩
        clear zo zc
        have U9 := Lib.hid (show Fr (fun b => (w1.heap.size ≤ b ∧ b < w2.heap.size) ∨ b = kr) w8 w9 from F9)
        have D9 := Lib.hid R9
        have M9 := Lib.hid L9
        clear F9 R9 L9
        go_wp2_with (fail)
        go_roundg (m - 1)
        case measure => have := HM.out; omega
        case rel =>
          have z8 := hb8.size
          have z9 := U9.out.size
          refine ⟨i + 1, _, _, _, _, by have := HM.out; omega, by go_num, HST.out.symm, M9.out, HRK.out.read (by omega) _, D9.out, ?_, ?_, (HPP.out.fr (F := fun _ => False) (Fr.below _ hb8) (fun _ h => h.elim)).fr U9.out (fun b hb => by omega), HBB.out.trans ((hb8.mono (by omega)).trans (U9.out.toBelow (fun x hx => by omega) (by omega))), by omega⟩
          · intro hlt'
            exact absurd (HLI.out (by simp)) (by omega)
          · exact (U9.out.block _ (by omega) (fun hx => by omega)).trans (blk_below HTT.out hb8)
      --A]
    · have hi : i = ps.length := by omega
      have he : q = decR p := by rw [HQ.out, hi, List.take_length]; exact HFD.out
      have HE := Lib.hid he
      have HII := Lib.hid hi
      clear he hi
      have DN := Lib.hid (rDone_any HLR.out)
      obtain ⟨dn, hdn⟩ : ∃ x, q.2.done = x := ⟨_, rfl⟩
      rw [hdn] at DN
      have HDN := Lib.hid hdn
      have hlK : K.2.1 = q.1.op.key.length := by obtain ⟨_, _, _, _, _, _, _, _, h, _, _⟩ := HRC.out; exact h.1
      have hlV : V.2.1 = q.1.op.val.length := by obtain ⟨_, _, _, _, _, _, _, _, _, h, _⟩ := HRC.out; exact h.1
      have hlC : C.2.1 = q.1.copy.length := by obtain ⟨_, _, _, _, _, _, _, _, _, _, h⟩ := HRC.out; exact h.1
      have SD := Lib.hid (sound_any HRK.out.wf K V C hlK hlV hlC wr)
      unfold recV recCells at SD
      have HRB := Lib.hid (HRC.out.2.1)
      clear hdn hlK hlV hlC
      by_cases d0 : dn = 0
      · subst d0
        have e0 : wr.cell? ⟨kr, 0, none⟩ = some (.int .i64 q.1.kind) := cell_blk HRB.out 0 rfl
        have e1 : wr.cell? ⟨kr, 1, none⟩ = some (.int .i64 q.1.shard) := cell_blk HRB.out 1 rfl
        have e2 : wr.cell? ⟨kr, 2, none⟩ = some (.int .i64 q.1.epoch) := cell_blk HRB.out 2 rfl
        have e3 : wr.cell? ⟨kr, 3, none⟩ = some (.int .i64 q.1.peer) := cell_blk HRB.out 3 rfl
        have e4 : wr.cell? ⟨kr, 4, none⟩ = some (.int .i64 q.1.client) := cell_blk HRB.out 4 rfl
        have e5 : wr.cell? ⟨kr, 5, none⟩ = some (.int .i64 q.1.seq) := cell_blk HRB.out 5 rfl
        have e6 : wr.cell? ⟨kr, 6, none⟩ = some (.int .i64 q.1.op.kind) := cell_blk HRB.out 6 rfl
        have e7 : wr.cell? ⟨kr, 7, none⟩ = some (.slice K.1 K.2.1 K.2.2) := cell_blk HRB.out 7 rfl
        have e8 : wr.cell? ⟨kr, 8, none⟩ = some (.slice V.1 V.2.1 V.2.2) := cell_blk HRB.out 8 rfl
        have e9 : wr.cell? ⟨kr, 9, none⟩ = some (.int .i64 q.1.op.rev) := cell_blk HRB.out 9 rfl
        have e10 : wr.cell? ⟨kr, 10, none⟩ = some (.slice C.1 C.2.1 C.2.2) := cell_blk HRB.out 10 rfl
        go_wp2_with (fail)
        refine DN.out.mono ?_
        rintro e w_ ⟨rfl, rfl⟩
        go_wp2_with (fail)
        refine SD.out.mono ?_
        rintro e w7 ⟨rfl, hb7⟩
        have HT7 := Lib.hid (blk_below HTT.out hb7)
        have HR7 := Lib.hid (HRC.out.below hb7)
        have HB7 := Lib.hid (HBB.out.trans (hb7.mono HBB.out.size))
        have zs := hb7.size
        have e0 : w7.cell? ⟨kr, 0, none⟩ = some (.int .i64 q.1.kind) := cell_blk HR7.out.2.1 0 rfl
        have e1 : w7.cell? ⟨kr, 1, none⟩ = some (.int .i64 q.1.shard) := cell_blk HR7.out.2.1 1 rfl
        have e2 : w7.cell? ⟨kr, 2, none⟩ = some (.int .i64 q.1.epoch) := cell_blk HR7.out.2.1 2 rfl
        have e3 : w7.cell? ⟨kr, 3, none⟩ = some (.int .i64 q.1.peer) := cell_blk HR7.out.2.1 3 rfl
        have e4 : w7.cell? ⟨kr, 4, none⟩ = some (.int .i64 q.1.client) := cell_blk HR7.out.2.1 4 rfl
        have e5 : w7.cell? ⟨kr, 5, none⟩ = some (.int .i64 q.1.seq) := cell_blk HR7.out.2.1 5 rfl
        have e6 : w7.cell? ⟨kr, 6, none⟩ = some (.int .i64 q.1.op.kind) := cell_blk HR7.out.2.1 6 rfl
        have e7 : w7.cell? ⟨kr, 7, none⟩ = some (.slice K.1 K.2.1 K.2.2) := cell_blk HR7.out.2.1 7 rfl
        have e8 : w7.cell? ⟨kr, 8, none⟩ = some (.slice V.1 V.2.1 V.2.2) := cell_blk HR7.out.2.1 8 rfl
        have e9 : w7.cell? ⟨kr, 9, none⟩ = some (.int .i64 q.1.op.rev) := cell_blk HR7.out.2.1 9 rfl
        have e10 : w7.cell? ⟨kr, 10, none⟩ = some (.slice C.1 C.2.1 C.2.2) := cell_blk HR7.out.2.1 10 rfl
        have t0 : w7.cell? ⟨w.heap.size, 0, none⟩ = some (.int .i64 0) := cell_blk HT7.out 0 rfl
        have t1 : w7.cell? ⟨w.heap.size, 1, none⟩ = some (.int .i64 0) := cell_blk HT7.out 1 rfl
        have t2 : w7.cell? ⟨w.heap.size, 2, none⟩ = some (.int .i64 0) := cell_blk HT7.out 2 rfl
        have t3 : w7.cell? ⟨w.heap.size, 3, none⟩ = some (.int .i64 0) := cell_blk HT7.out 3 rfl
        have t4 : w7.cell? ⟨w.heap.size, 4, none⟩ = some (.int .i64 0) := cell_blk HT7.out 4 rfl
        have t5 : w7.cell? ⟨w.heap.size, 5, none⟩ = some (.int .i64 0) := cell_blk HT7.out 5 rfl
        have t6 : w7.cell? ⟨w.heap.size, 6, none⟩ = some (.int .i64 0) := cell_blk HT7.out 6 rfl
        have t7 : w7.cell? ⟨w.heap.size, 7, none⟩ = some (.slice none 0 0) := cell_blk HT7.out 7 rfl
        have t8 : w7.cell? ⟨w.heap.size, 8, none⟩ = some (.slice none 0 0) := cell_blk HT7.out 8 rfl
        have t9 : w7.cell? ⟨w.heap.size, 9, none⟩ = some (.int .i64 0) := cell_blk HT7.out 9 rfl
        have t10 : w7.cell? ⟨w.heap.size, 10, none⟩ = some (.slice none 0 0) := cell_blk HT7.out 10 rfl
        have f0 := free_blk HT7.out 0
        have f1 := free_blk HT7.out 1
        have f2 := free_blk HT7.out 2
        have f3 := free_blk HT7.out 3
        have f4 := free_blk HT7.out 4
        have f5 := free_blk HT7.out 5
        have f6 := free_blk HT7.out 6
        have f7 := free_blk HT7.out 7
        have f8 := free_blk HT7.out 8
        have f9 := free_blk HT7.out 9
        have f10 := free_blk HT7.out 10
        obtain ⟨sb, hsb⟩ := named (soundB q.1)
        rw [hsb]
        have HSB := Lib.hid hsb
        clear hb7 hsb SD DN
        cases sb
        · go_wp2_with (fail)
          refine bodyPost_ret (v := .tuple #[.agg #[.int .i64 0, .int .i64 0, .int .i64 0, .int .i64 0, .int .i64 0, .int .i64 0, .int .i64 0, .slice none 0 0, .slice none 0 0, .int .i64 0, .slice none 0 0], .int .i64 160]) ?_ rfl ?_
          · simp [results, Try.results13, go_sem, *]
          · exact DecP.bad HB7.out (by unfold decodeR; rw [← HE.out, if_neg (fun h => by have := of_decide_eq_false ((soundB_eq q.1).symm.trans HSB.out); exact this h.2)]) _ _ _ _ _ _ _ _ _ _ _
        · go_wp2_with (fail)
          refine bodyPost_ret (v := .tuple #[recV q.1 K V C, .int .i64 0]) ?_ rfl ?_
          · unfold recV recCells
            simp [results, Try.results13, go_sem, *]
          · exact DecP.good HB7.out (by unfold decodeR; rw [← HE.out, if_pos ⟨HDN.out, of_decide_eq_true ((soundB_eq q.1).symm.trans HSB.out)⟩]) HR7.out (by omega) _ _ _ _ _ _ _ _ _ _ _
      ·
        have t0 : wr.cell? ⟨w.heap.size, 0, none⟩ = some (.int .i64 0) := cell_blk HTT.out 0 rfl
        have t1 : wr.cell? ⟨w.heap.size, 1, none⟩ = some (.int .i64 0) := cell_blk HTT.out 1 rfl
        have t2 : wr.cell? ⟨w.heap.size, 2, none⟩ = some (.int .i64 0) := cell_blk HTT.out 2 rfl
        have t3 : wr.cell? ⟨w.heap.size, 3, none⟩ = some (.int .i64 0) := cell_blk HTT.out 3 rfl
        have t4 : wr.cell? ⟨w.heap.size, 4, none⟩ = some (.int .i64 0) := cell_blk HTT.out 4 rfl
        have t5 : wr.cell? ⟨w.heap.size, 5, none⟩ = some (.int .i64 0) := cell_blk HTT.out 5 rfl
        have t6 : wr.cell? ⟨w.heap.size, 6, none⟩ = some (.int .i64 0) := cell_blk HTT.out 6 rfl
        have t7 : wr.cell? ⟨w.heap.size, 7, none⟩ = some (.slice none 0 0) := cell_blk HTT.out 7 rfl
        have t8 : wr.cell? ⟨w.heap.size, 8, none⟩ = some (.slice none 0 0) := cell_blk HTT.out 8 rfl
        have t9 : wr.cell? ⟨w.heap.size, 9, none⟩ = some (.int .i64 0) := cell_blk HTT.out 9 rfl
        have t10 : wr.cell? ⟨w.heap.size, 10, none⟩ = some (.slice none 0 0) := cell_blk HTT.out 10 rfl
        have f0 := free_blk HTT.out 0
        have f1 := free_blk HTT.out 1
        have f2 := free_blk HTT.out 2
        have f3 := free_blk HTT.out 3
        have f4 := free_blk HTT.out 4
        have f5 := free_blk HTT.out 5
        have f6 := free_blk HTT.out 6
        have f7 := free_blk HTT.out 7
        have f8 := free_blk HTT.out 8
        have f9 := free_blk HTT.out 9
        have f10 := free_blk HTT.out 10
        go_wp2_with (fail)
        refine DN.out.mono ?_
        rintro e w_ ⟨rfl, rfl⟩
        go_wp2_with (fail)
        refine bodyPost_ret (v := .tuple #[.agg #[.int .i64 0, .int .i64 0, .int .i64 0, .int .i64 0, .int .i64 0, .int .i64 0, .int .i64 0, .slice none 0 0, .slice none 0 0, .int .i64 0, .slice none 0 0], .int .i64 160]) ?_ rfl ?_
        · simp [results, Try.results13, go_sem, *]
        · exact DecP.bad HBB.out (by unfold decodeR; rw [← HE.out, if_neg (fun h => by have := HDN.out; exact d0 (this.symm.trans h.1))]) _ _ _ _ _ _ _ _ _ _ _
end Go.Proofs.Ytjmmdpnphafdfaa
