/- record.Size. -/
import Derived.Test.YtjmmdpnphafdfaaRW9
namespace Go.Proofs.Ytjmmdpnphafdfaa
set_option linter.unusedVariables false
set_option linter.unusedSimpArgs false
open Go.RowKit Go.Deep Go.Proofs.YtjmmdpnphafdfaaW.PrintLast

def sizeR (r : RZ) : Int × Int := if SoundR r then ((formR r).length, 0) else (0, 160)
def noCopy (r : RZ) : RZ := { r with copy := [] }
theorem noCopy_sound {r : RZ} : SoundR r ↔ SoundR (noCopy r) ∧ r.copy.length ≤ 262144 ∧ (0 < r.copy.length → r.kind = 4) := by
  unfold SoundR noCopy
  simp only [List.length_nil]
  constructor
  · rintro ⟨h0, h | h | h | h⟩
    · obtain ⟨a, b, c, d, e, f, g, i⟩ := h
      exact ⟨⟨h0, Or.inl ⟨a, b, c, d, e, f, g, trivial⟩⟩, by omega, by omega⟩
    · obtain ⟨a, b, c, d, e, f, g⟩ := h
      exact ⟨⟨h0, Or.inr (Or.inl ⟨a, b, c, d, e, f, trivial⟩)⟩, by omega, by omega⟩
    · obtain ⟨a, b, c, d, e, f, g⟩ := h
      exact ⟨⟨h0, Or.inr (Or.inr (Or.inl ⟨a, b, c, by omega, e, f, g⟩))⟩, by omega, fun _ => a⟩
    · obtain ⟨a, b, c, d, e, f, g⟩ := h
      exact ⟨⟨h0, Or.inr (Or.inr (Or.inr ⟨a, b, c, d, e, f, trivial⟩))⟩, by omega, by omega⟩
  · rintro ⟨⟨h0, h⟩, h1, h2⟩
    have z : ¬ r.kind = 4 → r.copy.length = 0 := fun hk => by
      by_cases hz : r.copy.length = 0
      · exact hz
      · exact absurd (h2 (by omega)) hk
    rcases h with h | h | h | h
    · obtain ⟨a, b, c, d, e, f, g, i⟩ := h
      exact ⟨h0, Or.inl ⟨a, b, c, d, e, f, g, z (by omega)⟩⟩
    · obtain ⟨a, b, c, d, e, f, g⟩ := h
      exact ⟨h0, Or.inr (Or.inl ⟨a, b, c, d, e, f, z (by omega)⟩)⟩
    · obtain ⟨a, b, c, d, e, f, g⟩ := h
      exact ⟨h0, Or.inr (Or.inr (Or.inl ⟨a, b, c, h1, e, f, g⟩))⟩
    · obtain ⟨a, b, c, d, e, f, g⟩ := h
      exact ⟨h0, Or.inr (Or.inr (Or.inr ⟨a, b, c, d, e, f, z (by omega)⟩))⟩
theorem formN_one' {n : Nat} (h : n < 128) : (formN n).length = 1 := by rw [formN_small h]; rfl
theorem formN_two {n : Nat} (h1 : 128 ≤ n) (h2 : n < 16384) : (formN n).length = 2 := by rw [formN_big (by omega), List.length_cons, formN_one' (by omega)]
theorem formN_three {n : Nat} (h1 : 16384 ≤ n) (h2 : n < 2097152) : (formN n).length = 3 := by rw [formN_big (by omega), List.length_cons, formN_two (by omega) (by omega)]
theorem noCopy_len {r : RZ} (h : SoundR r) : (formR r).length = (formR (noCopy r)).length + r.copy.length + (if 16383 < r.copy.length then 2 else if 127 < r.copy.length then 1 else 0) := by
  have h1 := noCopy_sound.1 h
  by_cases k4 : r.kind = 4
  · unfold formR noCopy
    have k1 : ¬ r.kind = 1 := by omega
    have k2 : ¬ r.kind = 2 := by omega
    simp only [if_neg k1, if_neg k2, if_pos k4, List.length_cons, List.length_append, textN, List.length_nil]
    have z : (formN 0).length = 1 := formN_one' (by omega)
    rw [z]
    split
    · rw [formN_three (n := r.copy.length) (by omega) (by omega)]; omega
    · split
      · rw [formN_two (n := r.copy.length) (by omega) (by omega)]; omega
      · rw [formN_one' (n := r.copy.length) (by omega)]; omega
  · have hz : r.copy.length = 0 := by
      by_cases hz : r.copy.length = 0
      · exact hz
      · exact absurd (h1.2.2 (by omega)) k4
    rw [if_neg (by omega), if_neg (by omega), hz]
    unfold formR noCopy
    simp only [if_neg k4]
    omega
def RSizeP (w : World) (r : RZ) (e : Ending) (w' : World) : Prop := Below w.heap.size w w' ∧ e = .returned (.tuple #[.int .i64 (sizeR r).1, .int .i64 (sizeR r).2])
set_option maxRecDepth 100000 in
set_option maxHeartbeats 8000000 in
theorem rsize_any {r : RZ} (h : r.Wf) (hb : r.Byt) {K V C : SlB} {w : World} (sK : SlAt w w.heap.size K r.op.key) (sV : SlAt w w.heap.size V r.op.val) (hC : C.2.1 = r.copy.length) :
    Calls Try.prog 20 #[recV r K V C] w (RSizeP w r) := by
  have hw' : (noCopy r).Wf := ⟨h.epoch, h.peer, h.client, h.seq, h.okind, h.rev, h.key, h.val, by simp [noCopy]⟩
  have hb' : (noCopy r).Byt := ⟨hb.key, hb.val, fun x hx => by cases hx⟩
  have EN := Lib.hid (fun (w1 : World) (hB : Below w.heap.size w w1) => encode_any (w := w1) hw' hb' (K := K) (V := V) (C := zSl) ((sK.below hB).mono hB.size) ((sV.below hB).mono hB.size) (SlAt.nil _ _))
  have hcl := h.copy
  clear h hb sK sV hw' hb'
  unfold recV recCells noCopy zSl at EN
  unfold recV recCells
  rw [hC]
  obtain ⟨L, hL⟩ : ∃ L, r.copy.length = L := ⟨_, rfl⟩
  rw [hL] at hcl ⊢
  obtain ⟨t1, h1⟩ := named (decide ((262144 : Int) < (L : Int)))
  obtain ⟨t2, h2⟩ := named (decide (0 < L))
  obtain ⟨t3, h3⟩ := named (r.kind != 4)
  have HLL := Lib.hid hL
  clear hL hC
  have HTT := Lib.hid (show (t1 = false ∧ (t2 = false ∨ t3 = false)) ↔ (r.copy.length ≤ 262144 ∧ (0 < r.copy.length → r.kind = 4)) from by
    rw [← h1, ← h2, ← h3, HLL.out]
    simp
    omega)
  have B1 : Below w.heap.size w (w.alloc (.cells #[.int .i64 r.kind, .int .i64 r.shard, .int .i64 r.epoch, .int .i64 r.peer, .int .i64 r.client, .int .i64 r.seq, .int .i64 r.op.kind, .slice K.1 K.2.1 K.2.2, .slice V.1 V.2.1 V.2.2, .int .i64 r.op.rev, .slice none 0 0] TRec (0, 0))) := (Below.refl _ _).alloc (Nat.le_refl _) _
  have BK := blk_new w (.cells #[.int .i64 r.kind, .int .i64 r.shard, .int .i64 r.epoch, .int .i64 r.peer, .int .i64 r.client, .int .i64 r.seq, .int .i64 r.op.kind, .slice K.1 K.2.1 K.2.2, .slice V.1 V.2.1 V.2.2, .int .i64 r.op.rev, .slice none 0 0] TRec (0, 0))
  have HB1 := Lib.hid B1
  have HBK := Lib.hid BK
  clear B1 BK
  go_enter Try.func20, Try.ntmps20
  go_wp2_with (fail)
  refine (EN.out _ HB1.out).mono ?_
  rintro e w2 ⟨hb2, ⟨SR, g, rfl, hg, O⟩ | ⟨NS, rfl⟩⟩
  · have e0 : w2.cell? ⟨w.heap.size, 0, none⟩ = some (.int .i64 r.kind) := cell_blk (blk_below HBK.out hb2) 0 rfl
    have HB2 := Lib.hid (HB1.out.trans (hb2.mono HB1.out.size))
    have hn := formR_room SR
    have ln := SR.lens
    have HSR := Lib.hid (show SoundR (noCopy r) from SR)
    have HNL := Lib.hid (fun h : SoundR r => noCopy_len h)
    simp only [List.length_nil, Nat.zero_add] at hn
    unfold noCopy at HNL
    generalize (formR _).length = n at *
    clear SR O hb2
    have HF := Lib.hid (show SoundR r → ∀ x : Int, (16383 < L → x = n + L + 2) → (¬ 16383 < L → 127 < L → x = n + L + 1) → (¬ 127 < L → x = n + L) → RSizeP w r (.returned (.tuple #[.int .i64 x, .int .i64 0])) w2 from fun hs x q1 q2 q3 => by
      refine ⟨HB2.out, ?_⟩
      have h1 := HNL.out hs
      rw [HLL.out] at h1
      have hx : x = (((formR r).length : Nat) : Int) := by
        rw [h1]
        by_cases a : 16383 < L
        · rw [if_pos a, q1 a]; omega
        · rw [if_neg a]
          by_cases b : 127 < L
          · rw [if_pos b, q2 a b]; omega
          · rw [if_neg b, q3 b]; omega
      unfold sizeR
      rw [if_pos hs, hx])
    have HG := Lib.hid (show ¬ SoundR r → RSizeP w r (.returned (.tuple #[.int .i64 0, .int .i64 160])) w2 from fun hs => ⟨HB2.out, by unfold sizeR; rw [if_neg hs]⟩)
    have HSN := Lib.hid (noCopy_sound (r := r))
    cases t1
    · cases t2
      ·
        have hs : SoundR r := HSN.out.2 ⟨HSR.out, HTT.out.1 (by simp)⟩
        have HS := Lib.hid hs
        clear hs
        by_cases a : (16383 : Int) < (L : Int)
        · go_wp2_with (fail)
          refine bodyPost_ret (v := .tuple #[.int .i64 (n + L + 2), .int .i64 0]) (by simp [results, Try.results20, go_sem, *]) rfl ?_
          exact HF.out HS.out _ (fun _ => rfl) (fun h => by omega) (fun h => by omega)
        · by_cases b : (127 : Int) < (L : Int)
          · go_wp2_with (fail)
            refine bodyPost_ret (v := .tuple #[.int .i64 (n + L + 1), .int .i64 0]) (by simp [results, Try.results20, go_sem, *]) rfl ?_
            exact HF.out HS.out _ (fun h => by omega) (fun _ _ => rfl) (fun h => by omega)
          · go_wp2_with (fail)
            refine bodyPost_ret (v := .tuple #[.int .i64 (n + L), .int .i64 0]) (by simp [results, Try.results20, go_sem, *]) rfl ?_
            exact HF.out HS.out _ (fun h => by omega) (fun _ h => by omega) (fun _ => rfl)
      · cases t3
        ·
          have hs : SoundR r := HSN.out.2 ⟨HSR.out, HTT.out.1 (by simp)⟩
          have HS := Lib.hid hs
          clear hs
          by_cases a : (16383 : Int) < (L : Int)
          · go_wp2_with (fail)
            refine bodyPost_ret (v := .tuple #[.int .i64 (n + L + 2), .int .i64 0]) (by simp [results, Try.results20, go_sem, *]) rfl ?_
            exact HF.out HS.out _ (fun _ => rfl) (fun h => by omega) (fun h => by omega)
          · by_cases b : (127 : Int) < (L : Int)
            · go_wp2_with (fail)
              refine bodyPost_ret (v := .tuple #[.int .i64 (n + L + 1), .int .i64 0]) (by simp [results, Try.results20, go_sem, *]) rfl ?_
              exact HF.out HS.out _ (fun h => by omega) (fun _ _ => rfl) (fun h => by omega)
            · go_wp2_with (fail)
              refine bodyPost_ret (v := .tuple #[.int .i64 (n + L), .int .i64 0]) (by simp [results, Try.results20, go_sem, *]) rfl ?_
              exact HF.out HS.out _ (fun h => by omega) (fun _ h => by omega) (fun _ => rfl)
        ·
          go_wp2_with (fail)
          refine bodyPost_ret (v := .tuple #[.int .i64 0, .int .i64 160]) (by simp [results, Try.results20, go_sem, *]) rfl ?_
          exact HG.out (fun h => by have := HTT.out.2 (HSN.out.1 h).2; simp at this)
    ·
      go_wp2_with (fail)
      refine bodyPost_ret (v := .tuple #[.int .i64 0, .int .i64 160]) (by simp [results, Try.results20, go_sem, *]) rfl ?_
      exact HG.out (fun h => by have := HTT.out.2 (HSN.out.1 h).2; simp at this)
  · go_wp2_with (fail)
    refine bodyPost_ret (v := .tuple #[.int .i64 0, .int .i64 160]) (by simp [results, Try.results20, go_sem, *]) rfl ?_
    exact ⟨HB1.out.trans (hb2.mono HB1.out.size), by unfold sizeR; rw [if_neg (fun h => NS (noCopy_sound.1 h).1)]⟩
end Go.Proofs.Ytjmmdpnphafdfaa
