/- The reference's Form. -/
import Derived.Test.YtjmmdpnphafdfaaRF2
import Derived.Test.YtjmmdpnphafdfaaRW8
import Derived.Test.YtjmmdpnphafdfaaPE11
namespace Go.Proofs.Ytjmmdpnphafdfaa
set_option linter.unusedVariables false
set_option linter.unusedSimpArgs false
open Go.RowKit Go.Deep Go.Proofs.YtjmmdpnphafdfaaW.PrintLast

attribute [local go_sem] run_store_func
/-- A form under way: bs are laid down. -/
def FormI (w0 : World) (k : Nat) (r : RZ) (K V C : SlB) (w' : World) (bs : List Int) : Prop :=
  w0.heap.size + 1 ≤ k ∧ WLies TE w' (fun b => k ≤ b ∧ b < w'.heap.size) k ⟨263144, bs, [], 0⟩ ∧ WS.Ok ⟨263144, bs, [], 0⟩ ∧ RecAt w' (w0.heap.size + 1) w0.heap.size r K V C ∧ Below w0.heap.size w0 w'
section
variable {w0 w1 w2 : World} {k : Nat} {r : RZ} {K V C : SlB} {bs ys : List Int}
theorem FormI.next (h : FormI w0 k r K V C w1 bs) {s : WS} (U : UpdW TE (fun b => k ≤ b ∧ b < w1.heap.size) k w1 w2 s) (hs : s = ⟨263144, bs ++ ys, [], 0⟩) (hy : ∀ x ∈ ys, (0 : Int) ≤ x ∧ x < 256) (hl : bs.length + ys.length ≤ 263144) : FormI w0 k r K V C w2 (bs ++ ys) := by
  subst hs
  obtain ⟨h1, h2, h3, h4, h5⟩ := h
  refine ⟨h1, U.1.mono fun b hb => ?_, ?_, h4.fr U.2 fun b hb => by omega, h5.trans (U.2.toBelow (fun b hb => by omega) h5.size)⟩
  · have := U.2.size
    rcases hb with hb | hb
    · exact ⟨hb.1, by omega⟩
    · exact ⟨by have := h2.lt; omega, hb.2⟩
  · have := h3.lay hy
    rw [WS.lay_fit rfl (by simp only; omega)] at this
    exact this
theorem FormI.num (h : FormI w0 k r K V C w1 bs) (n : Nat) (hn : n < 18446744073709551616) (hl : bs.length + 10 ≤ 263144) :
    Calls Try.prog 50 #[.pointer (some ⟨k, 0, none⟩), .int .u64 n] w1 fun e w' => e = .returned (.tuple #[]) ∧ FormI w0 k r K V C w' (bs ++ formN n) := by
  have h10 := formN_len10 hn
  exact (refNum_any h.2.1 h.2.2.1 n hn (by simp only; omega)).mono fun e w' hh => ⟨hh.1, h.next hh.2 (WS.num_fit (by omega)) (formN_range n) (by omega)⟩
theorem FormI.byte (h : FormI w0 k r K V C w1 bs) (x : Int) (h0 : 0 ≤ x) (h1 : x ≤ 255) (hl : bs.length + 10 ≤ 263144) :
    Calls Try.prog 49 #[.pointer (some ⟨k, 0, none⟩), .int .i64 x] w1 fun e w' => e = .returned (.tuple #[]) ∧ FormI w0 k r K V C w' (bs ++ [x]) := by
  exact (refByte_any h.2.1 h.2.2.1 x (by simp only; omega)).mono fun e w' hh => ⟨hh.1, h.next hh.2 (WS.byte_fit h0 h1 (by omega)) (by simp; omega) (by simp; omega)⟩
theorem FormI.text (h : FormI w0 k r K V C w1 bs) {x : SlB} {p : List Int} (hx : SlAt w1 (w0.heap.size + 1) x p) (hb : Byt p) (hl : bs.length + (textN p).length ≤ 263144) (hp : p.length ≤ 262144) :
    Calls Try.prog 51 #[.pointer (some ⟨k, 0, none⟩), .slice x.1 x.2.1 x.2.2] w1 fun e w' => e = .returned (.tuple #[]) ∧ FormI w0 k r K V C w' (bs ++ textN p) := by
  rw [hx.1]
  have hbl : bs.length ≤ 263144 := by omega
  exact (refText_any h.2.1 h.2.2.1 (cc := x.2.2) hx.2.1 (by simp only; omega)).mono fun e w' hh => ⟨hh.1, h.next hh.2 (WS.text_fit (by omega)) (textN_byt hb) (by omega)⟩
theorem FormI.cells (h : FormI w0 k r K V C w1 bs) : w1.heap[w0.heap.size]? = some (.cells (recCells r K V C) TRec (0, 0)) := h.2.2.2.1.2.1
/-- What Form hands back. -/
def RForm (w0 : World) (r : RZ) (e : Ending) (w' : World) : Prop := ∃ A c, e = .returned (.slice A (formR r).length c) ∧ GRow bc 5 1 w' w0.heap.size A c (formR r) ∧ Below w0.heap.size w0 w'
theorem FormI.done (h : FormI w0 k r K V C w1 bs) (hl : bs.length ≤ 263144) :
    Calls Try.prog 52 #[.pointer (some ⟨k, 0, none⟩)] w1 fun e w' => ∃ A c, e = .returned (.tuple #[.slice A bs.length c, .int .i64 0]) ∧ GRow bc 5 1 w' w0.heap.size A c bs ∧ Below w0.heap.size w0 w' := by
  refine (refDone_any h.2.1 (by simp only; omega)).mono fun e w' hh => ?_
  obtain ⟨A, c, he, hg, hb⟩ := hh
  exact ⟨A, c, he, GRow.le_ hg h.2.2.2.2.size, h.2.2.2.2.trans (hb.mono h.2.2.2.2.size)⟩
set_option maxRecDepth 100000 in
set_option maxHeartbeats 400000 in
theorem refForm16_any {r : RZ} (hs : SoundR r) (hb : r.Byt) {K V C : SlB} {w : World} (sK : SlAt w w.heap.size K r.op.key) (sV : SlAt w w.heap.size V r.op.val) (sC : SlAt w w.heap.size C r.copy) :
    Calls Try.prog 31 #[recV r K V C] w (RForm w r) := by
  have HSO := Lib.hid hs
  have HFL := Lib.hid (show (formR r).length ≤ 263144 by have := formR_room hs; have := hs.lens; omega)
  have HBY := Lib.hid hb
  have B1 : Below w.heap.size w (w.alloc (.cells (recCells r K V C) TRec (0, 0))) := (Below.refl _ _).alloc (Nat.le_refl _) _
  have RA := Lib.hid (show RecAt (w.alloc (.cells (recCells r K V C) TRec (0, 0))) (w.heap.size + 1) w.heap.size r K V C from
    ⟨by omega, blk_new w _, (sK.below B1).mono (by omega), (sV.below B1).mono (by omega), (sC.below B1).mono (by omega)⟩)
  have B1s : (w.alloc (.cells (recCells r K V C) TRec (0, 0))).heap.size = w.heap.size + 1 := World.size_alloc _ _
  obtain ⟨kd, hkd⟩ : ∃ n : Nat, r.kind = n := ⟨r.kind.toNat, by have := hs.2; omega⟩
  obtain ⟨sh, hsh⟩ : ∃ n : Nat, r.shard = n := ⟨r.shard.toNat, by have := hs.1; omega⟩
  have hk8 : kd ≤ 8 := by have := hs.2; omega
  have hsh64 : sh < 64 := by have := hs.1; omega
  have HKD := Lib.hid hkd
  have HSH := Lib.hid hsh
  have hsl : (formN sh).length ≤ 10 := formN_len10 (by omega)
  unfold recV
  generalize hW1 : w.alloc (.cells (recCells r K V C) TRec (0, 0)) = w1 at *
  unfold recCells at hW1 ⊢
  have HB1 := Lib.hid B1
  have HW1 := Lib.hid hW1
  clear hs hb sK sV sC B1 hW1 hkd hsh
  go_enter Try.func31, Try.ntmps31
  go_wp2_with (fail)
  rw [HW1.out]
  refine (refNew_any 263144 w1).mono ?_
  rintro e w2 ⟨rfl, hb2, L2⟩
  rw [if_neg (by decide)] at L2
  rw [B1s] at L2
  have HI := Lib.hid (show FormI w (w.heap.size + 1) r K V C w2 [] from ⟨by omega, L2, ⟨by decide, by decide, by simp, by simp, by simp, by simp⟩, RA.out.below hb2, HB1.out.trans (hb2.mono HB1.out.size)⟩)
  clear hb2 L2
  have e0 : w2.cell? ⟨w.heap.size, 0, none⟩ = some (.int .i64 kd) := by rw [← HKD.out]; exact cell_blk HI.out.cells 0 rfl
  go_wp2_with (fail)
  have CA := Lib.hid (HI.out.byte (kd : Int) (by omega) (by omega) (by simp))
  refine CA.out.mono ?_
  rintro e w3 ⟨rfl, I3⟩
  clear CA HI e0
  have HI := Lib.hid I3
  clear I3
  have e1 : w3.cell? ⟨w.heap.size, 1, none⟩ = some (.int .i64 sh) := by rw [← HSH.out]; exact cell_blk HI.out.cells 1 rfl
  go_wp2_with (fail)
  have CA := Lib.hid (HI.out.num sh (by omega) (by simp))
  refine CA.out.mono ?_
  rintro e w4 ⟨rfl, I4⟩
  clear CA HI e1
  have HI := Lib.hid I4
  clear I4
  have e0 : w4.cell? ⟨w.heap.size, 0, none⟩ = some (.int .i64 kd) := by rw [← HKD.out]; exact cell_blk HI.out.cells 0 rfl
  by_cases k1 : kd = 1
  · subst k1
    have hs := HSO.out
    obtain ⟨c, hc⟩ : ∃ n : Nat, r.client = n := ⟨(r.client).toNat, by have := hs.2; have := HKD.out; omega⟩
    have bc : c ≤ 15 := by have := hs.2; have := HKD.out; omega
    have lc : (formN c).length ≤ 10 := formN_len10 (by omega)
    have Hc := Lib.hid hc
    clear hc
    obtain ⟨q, hq⟩ : ∃ n : Nat, r.seq = n := ⟨(r.seq).toNat, by have := hs.2; have := HKD.out; omega⟩
    have bq : q ≤ 1073741824 := by have := hs.2; have := HKD.out; omega
    have lq : (formN q).length ≤ 10 := formN_len10 (by omega)
    have Hq := Lib.hid hq
    clear hq
    have ho : RightO r.op ∧ r.op.kind ≠ 1 ∧ r.op.kind ≠ 5 := by
      have h1 := HKD.out
      rcases hs.2 with h | h | h | h
      · exact ⟨h.2.2.2.1, h.2.2.2.2.1⟩
      all_goals exact absurd h.1 (by omega)
    obtain ⟨ok, hok⟩ : ∃ n : Nat, r.op.kind = n := ⟨r.op.kind.toNat, by have := ho.1; unfold RightO at this; omega⟩
    have bok : ok = 2 ∨ ok = 3 ∨ ok = 4 := by have := ho.1; unfold RightO at this; omega
    have lk := ho.1.key
    have lv := ho.1.val
    have tk := textN_len2 r.op.key (by omega)
    have tv := textN_len2 r.op.val lv
    obtain ⟨rv, hrv⟩ : ∃ n : Nat, r.op.rev = n := ⟨r.op.rev.toNat, by have := ho.1.rev; omega⟩
    have brv : rv ≤ 1099511627776 := by have := ho.1.rev; omega
    have lrv : (formN rv).length ≤ 10 := formN_len10 (by omega)
    have Hok := Lib.hid hok
    have Hrv := Lib.hid hrv
    clear hs ho hok hrv
    have e4 : w4.cell? ⟨w.heap.size, 4, none⟩ = some (.int .i64 (c : Nat)) := by rw [← Hc.out]; exact cell_blk HI.out.cells 4 rfl
    go_wp2_with (fail)
    have CA := Lib.hid (HI.out.num c (by omega) (by simp only [List.length_append, List.length_cons, List.length_nil]; omega))
    refine CA.out.mono ?_
    rintro e w5 ⟨rfl, I5⟩
    clear CA HI e4
    have HI := Lib.hid I5
    clear I5
    have e5 : w5.cell? ⟨w.heap.size, 5, none⟩ = some (.int .i64 (q : Nat)) := by rw [← Hq.out]; exact cell_blk HI.out.cells 5 rfl
    go_wp2_with (fail)
    have CA := Lib.hid (HI.out.num q (by omega) (by simp only [List.length_append, List.length_cons, List.length_nil]; omega))
    refine CA.out.mono ?_
    rintro e w6 ⟨rfl, I6⟩
    clear CA HI e5
    have HI := Lib.hid I6
    clear I6
    have e6 : w6.cell? ⟨w.heap.size, 6, none⟩ = some (.int .i64 (ok : Nat)) := by rw [← Hok.out]; exact cell_blk HI.out.cells 6 rfl
    go_wp2_with (fail)
    have CA := Lib.hid (HI.out.byte (ok : Nat) (by omega) (by omega) (by simp only [List.length_append, List.length_cons, List.length_nil]; omega))
    refine CA.out.mono ?_
    rintro e w7 ⟨rfl, I7⟩
    clear CA HI e6
    have HI := Lib.hid I7
    clear I7
    have e7 : w7.cell? ⟨w.heap.size, 7, none⟩ = some (.slice K.1 K.2.1 K.2.2) := cell_blk HI.out.cells 7 rfl
    go_wp2_with (fail)
    have CA := Lib.hid (HI.out.text (x := K) HI.out.2.2.2.1.2.2.1 HBY.out.key (by simp only [List.length_append, List.length_cons, List.length_nil]; omega) (by omega))
    refine CA.out.mono ?_
    rintro e w8 ⟨rfl, I8⟩
    clear CA HI e7
    have HI := Lib.hid I8
    clear I8
    have e6 : w8.cell? ⟨w.heap.size, 6, none⟩ = some (.int .i64 (ok : Nat)) := by rw [← Hok.out]; exact cell_blk HI.out.cells 6 rfl
    rcases bok with rfl | rfl | rfl
    · -- put
      have e8 : w8.cell? ⟨w.heap.size, 8, none⟩ = some (.slice V.1 V.2.1 V.2.2) := cell_blk HI.out.cells 8 rfl
      go_wp2_with (fail)
      have CA := Lib.hid (HI.out.text (x := V) HI.out.2.2.2.1.2.2.2.1 HBY.out.val (by simp only [List.length_append, List.length_cons, List.length_nil]; omega) (by omega))
      refine CA.out.mono ?_
      rintro e w9 ⟨rfl, I9⟩
      clear CA HI e8
      have HI := Lib.hid I9
      clear I9
      have e6 : w9.cell? ⟨w.heap.size, 6, none⟩ = some (.int .i64 2) := by rw [show (2 : Int) = r.op.kind from Hok.out.symm]; exact cell_blk HI.out.cells 6 rfl
      have HF := Lib.hid (show [] ++ [((1 : Nat) : Int)] ++ formN sh ++ formN c ++ formN q ++ [((2 : Nat) : Int)] ++ textN r.op.key ++ textN r.op.val = formR r by
        unfold formR formO
        rw [HKD.out, HSH.out, Hc.out, Hq.out, Hok.out]
        simp)
      have hI := HI.out
      rw [HF.out] at hI
      have CA := Lib.hid (hI.done HFL.out)
      clear hI
      go_wp2_with (fail)
      refine CA.out.mono ?_
      rintro e wz ⟨A, c, rfl, hg, hb9⟩
      have HG := Lib.hid hg
      have HB9 := Lib.hid hb9
      clear hg hb9
      go_wp2_with (fail)
      go_ret
      exact ⟨A, c, rfl, HG.out, HB9.out⟩
    · -- delete
      have HF := Lib.hid (show [] ++ [((1 : Nat) : Int)] ++ formN sh ++ formN c ++ formN q ++ [((3 : Nat) : Int)] ++ textN r.op.key = formR r by
        unfold formR formO
        rw [HKD.out, HSH.out, Hc.out, Hq.out, Hok.out]
        simp)
      have hI := HI.out
      rw [HF.out] at hI
      have CA := Lib.hid (hI.done HFL.out)
      clear hI
      go_wp2_with (fail)
      refine CA.out.mono ?_
      rintro e wz ⟨A, c, rfl, hg, hb9⟩
      have HG := Lib.hid hg
      have HB9 := Lib.hid hb9
      clear hg hb9
      go_wp2_with (fail)
      go_ret
      exact ⟨A, c, rfl, HG.out, HB9.out⟩
    · -- swap
      have e8 : w8.cell? ⟨w.heap.size, 8, none⟩ = some (.slice V.1 V.2.1 V.2.2) := cell_blk HI.out.cells 8 rfl
      go_wp2_with (fail)
      have CA := Lib.hid (HI.out.text (x := V) HI.out.2.2.2.1.2.2.2.1 HBY.out.val (by simp only [List.length_append, List.length_cons, List.length_nil]; omega) (by omega))
      refine CA.out.mono ?_
      rintro e w9 ⟨rfl, I9⟩
      clear CA HI e8
      have HI := Lib.hid I9
      clear I9
      have e6 : w9.cell? ⟨w.heap.size, 6, none⟩ = some (.int .i64 4) := by rw [show (4 : Int) = r.op.kind from Hok.out.symm]; exact cell_blk HI.out.cells 6 rfl
      have e9 : w9.cell? ⟨w.heap.size, 9, none⟩ = some (.int .i64 (rv : Nat)) := by rw [← Hrv.out]; exact cell_blk HI.out.cells 9 rfl
      go_wp2_with (fail)
      have CA := Lib.hid (HI.out.num rv (by omega) (by simp only [List.length_append, List.length_cons, List.length_nil]; omega))
      refine CA.out.mono ?_
      rintro e w10 ⟨rfl, I10⟩
      clear CA HI e9
      have HI := Lib.hid I10
      clear I10
      have HF := Lib.hid (show [] ++ [((1 : Nat) : Int)] ++ formN sh ++ formN c ++ formN q ++ [((4 : Nat) : Int)] ++ textN r.op.key ++ textN r.op.val ++ formN rv = formR r by
        unfold formR formO
        rw [HKD.out, HSH.out, Hc.out, Hq.out, Hok.out, Hrv.out]
        simp)
      have hI := HI.out
      rw [HF.out] at hI
      have CA := Lib.hid (hI.done HFL.out)
      clear hI
      go_wp2_with (fail)
      refine CA.out.mono ?_
      rintro e wz ⟨A, c, rfl, hg, hb9⟩
      have HG := Lib.hid hg
      have HB9 := Lib.hid hb9
      clear hg hb9
      go_wp2_with (fail)
      go_ret
      exact ⟨A, c, rfl, HG.out, HB9.out⟩
  · by_cases k2 : kd = 2
    · subst k2
      have hs := HSO.out
      obtain ⟨p, hp⟩ : ∃ n : Nat, r.peer = n := ⟨(r.peer).toNat, by have := hs.2; have := HKD.out; omega⟩
      have bp : p ≤ 7 := by have := hs.2; have := HKD.out; omega
      have lp : (formN p).length ≤ 10 := formN_len10 (by omega)
      have Hp := Lib.hid hp
      clear hp
      clear hs
      have e3 : w4.cell? ⟨w.heap.size, 3, none⟩ = some (.int .i64 (p : Nat)) := by rw [← Hp.out]; exact cell_blk HI.out.cells 3 rfl
      go_wp2_with (fail)
      have CA := Lib.hid (HI.out.num p (by omega) (by simp only [List.length_append, List.length_cons, List.length_nil]; omega))
      refine CA.out.mono ?_
      rintro e w5 ⟨rfl, I5⟩
      clear CA HI e3
      have HI := Lib.hid I5
      clear I5
      have HF := Lib.hid (show [] ++ [((2 : Nat) : Int)] ++ formN sh ++ formN p = formR r by
        unfold formR
        rw [HKD.out, HSH.out, Hp.out]
        simp)
      have hI := HI.out
      rw [HF.out] at hI
      have CA := Lib.hid (hI.done HFL.out)
      clear hI
      go_wp2_with (fail)
      refine CA.out.mono ?_
      rintro e wz ⟨A, c, rfl, hg, hb9⟩
      have HG := Lib.hid hg
      have HB9 := Lib.hid hb9
      clear hg hb9
      go_wp2_with (fail)
      go_ret
      exact ⟨A, c, rfl, HG.out, HB9.out⟩
    · by_cases k4 : kd = 4
      · subst k4
        have hs := HSO.out
        obtain ⟨q, hq⟩ : ∃ n : Nat, r.epoch = n := ⟨(r.epoch).toNat, by have := hs.2; have := HKD.out; omega⟩
        have bq : q ≤ 1073741824 := by have := hs.2; have := HKD.out; omega
        have lq : (formN q).length ≤ 10 := formN_len10 (by omega)
        have Hq := Lib.hid hq
        clear hq
        obtain ⟨p, hp⟩ : ∃ n : Nat, r.peer = n := ⟨(r.peer).toNat, by have := hs.2; have := HKD.out; omega⟩
        have bp : p ≤ 7 := by have := hs.2; have := HKD.out; omega
        have lp : (formN p).length ≤ 10 := formN_len10 (by omega)
        have Hp := Lib.hid hp
        clear hp
        have lc : r.copy.length ≤ 262144 := by have := hs.2; have := HKD.out; omega
        have lt := textN_len r.copy lc
        clear hs
        have e2 : w4.cell? ⟨w.heap.size, 2, none⟩ = some (.int .i64 (q : Nat)) := by rw [← Hq.out]; exact cell_blk HI.out.cells 2 rfl
        go_wp2_with (fail)
        have CA := Lib.hid (HI.out.num q (by omega) (by simp only [List.length_append, List.length_cons, List.length_nil]; omega))
        refine CA.out.mono ?_
        rintro e w5 ⟨rfl, I5⟩
        clear CA HI e2
        have HI := Lib.hid I5
        clear I5
        have e3 : w5.cell? ⟨w.heap.size, 3, none⟩ = some (.int .i64 (p : Nat)) := by rw [← Hp.out]; exact cell_blk HI.out.cells 3 rfl
        go_wp2_with (fail)
        have CA := Lib.hid (HI.out.num p (by omega) (by simp only [List.length_append, List.length_cons, List.length_nil]; omega))
        refine CA.out.mono ?_
        rintro e w6 ⟨rfl, I6⟩
        clear CA HI e3
        have HI := Lib.hid I6
        clear I6
        have e10 : w6.cell? ⟨w.heap.size, 10, none⟩ = some (.slice C.1 C.2.1 C.2.2) := cell_blk HI.out.cells 10 rfl
        go_wp2_with (fail)
        have CA := Lib.hid (HI.out.text (x := C) HI.out.2.2.2.1.2.2.2.2 HBY.out.copy (by simp only [List.length_append, List.length_cons, List.length_nil]; omega) (by omega))
        refine CA.out.mono ?_
        rintro e w7 ⟨rfl, I7⟩
        clear CA HI e10
        have HI := Lib.hid I7
        clear I7
        have HF := Lib.hid (show [] ++ [((4 : Nat) : Int)] ++ formN sh ++ formN q ++ formN p ++ textN r.copy = formR r by
          unfold formR
          rw [HKD.out, HSH.out, Hq.out, Hp.out]
          simp)
        have hI := HI.out
        rw [HF.out] at hI
        have CA := Lib.hid (hI.done HFL.out)
        clear hI
        go_wp2_with (fail)
        refine CA.out.mono ?_
        rintro e wz ⟨A, c, rfl, hg, hb9⟩
        have HG := Lib.hid hg
        have HB9 := Lib.hid hb9
        clear hg hb9
        go_wp2_with (fail)
        go_ret
        exact ⟨A, c, rfl, HG.out, HB9.out⟩
      · have c1 : ¬ (kd : Int) = 1 := by omega
        have c2 : ¬ (kd : Int) = 2 := by omega
        have c4 : ¬ (kd : Int) = 4 := by omega
        have HF := Lib.hid (show [] ++ [(kd : Int)] ++ formN sh = formR r by
          unfold formR
          rw [HKD.out, HSH.out, if_neg c1, if_neg c2, if_neg c4]
          simp)
        have hI := HI.out
        rw [HF.out] at hI
        have CA := Lib.hid (hI.done HFL.out)
        clear hI
        go_wp2_with (fail)
        refine CA.out.mono ?_
        rintro e wz ⟨A, c, rfl, hg, hb9⟩
        have HG := Lib.hid hg
        have HB9 := Lib.hid hb9
        clear hg hb9
        go_wp2_with (fail)
        go_ret
        exact ⟨A, c, rfl, HG.out, HB9.out⟩
end
end Go.Proofs.Ytjmmdpnphafdfaa
