/- RecordOwn: what its calls hand back, for a sound record. -/
import Derived.Test.YtjmmdpnphafdfaaXB
namespace Go.Proofs.Ytjmmdpnphafdfaa
set_option linter.unusedVariables false
set_option linter.unusedSimpArgs false
open Go.ChangeShapes Go.WideShapes Go.ChangeAt Go.RowKit Go.Deep Go.Proofs.YtjmmdpnphafdfaaW.PrintLast

theorem enc_s {w : World} {r : RZ} {K V C : SlB} (hs : SoundR r) (h : r.Wf) (hb : r.Byt) {l1 l2 l3 m1 m2 m3 : Nat} (sK : NewIn w l1 m1 K r.op.key) (sV : NewIn w l2 m2 V r.op.val) (sC : NewIn w l3 m3 C r.copy) (hm : m1 ≤ w.heap.size ∧ m2 ≤ w.heap.size ∧ m3 ≤ w.heap.size) :
    Calls Try.prog 19 #[recV r K V C] w fun e w' => ∃ P : SlB, e = .returned (.tuple #[.slice P.1 (formR r).length P.2.2, .int .i64 0]) ∧ NewIn w' w.heap.size w'.heap.size P (formR r) ∧ Below w.heap.size w w' := by
  refine (encode_any h hb (sK.slAt.mono hm.1) (sV.slAt.mono hm.2.1) (sC.slAt.mono hm.2.2)).mono ?_
  rintro e w' ⟨hb, ⟨_, g, rfl, hg, O⟩ | ⟨hn, _⟩⟩
  · exact ⟨(some ⟨g, 0, none⟩, (formR r).length, (formR r).length), rfl, ⟨rfl, Or.inr ⟨g, rfl, ⟨hg, O.lt⟩, O⟩⟩, hb⟩
  · exact absurd hs hn
theorem dec_s {w : World} {r : RZ} (hs : SoundR r) (hby : r.Byt) {lo hi c0 : Nat} {s : SlB} (h : NewIn w lo hi s (formR r)) :
    Calls Try.prog 13 #[.slice s.1 (formR r).length c0] w fun e w' => ∃ (K V C : SlB) (m n : Nat), e = .returned (.tuple #[recV r K V C, .int .i64 0]) ∧ w.heap.size ≤ m ∧ m ≤ n ∧ n ≤ w'.heap.size ∧ NewIn w' w.heap.size m K r.op.key ∧ NewIn w' m n V r.op.val ∧ NewIn w' n w'.heap.size C r.copy ∧ Below w.heap.size w w' := by
  have hl := formR_room hs
  have hl2 := hs.lens
  refine (decode_any (formR_byt hs hby) (by omega) (c0 := c0) h.src).mono ?_
  rintro e w' ⟨hb, K, V, C, rfl, m, n, h1, h2, h3, h4, h5, h6⟩
  rw [decode_form hs] at h4 h5 h6 ⊢
  exact ⟨K, V, C, m, n, rfl, h1, h2, h3, h4, h5, h6, hb⟩
theorem lent_new {w : World} {B : Option Addr} {c0 : Nat} {p : List Int} (hy : BSrc w B p) (hl : p.length + 2 ≤ 140737488355328) :
    Calls Try.prog 12 #[.slice B p.length c0] w fun e w' => ∃ x : SlB, e = .returned (.slice x.1 p.length x.2.2) ∧ NewIn w' w.heap.size w'.heap.size x p ∧ Below w.heap.size w w' := by
  refine (lent_any hy hl).mono ?_
  rintro e w' ⟨x, rfl, L, hb⟩
  have e1 := L.slAt.1
  refine ⟨x, by rw [e1], L.new (Nat.le_refl _) (fun g hg => ?_), hb⟩
  obtain ⟨g', q1, _, q3⟩ := L
  rw [q1] at hg
  injection hg with hg; injection hg with hg; subst hg
  exact q3.lt
set_option maxRecDepth 100000 in
theorem copy_new {w : World} {B : Option Addr} {c0 : Nat} {p : List Int} (hy : BSrc w B p) (hl : p.length ≤ 140737488355000) :
    ∃ A c w', (Builtin.append_ #[22, 22] 22 #[.slice (some ⟨w.heap.size, 0, none⟩) 0 0, .slice B p.length c0]).run Try.prog (w.alloc (.cells #[] 5 (0, 0))) = .ok (.slice A p.length c) w' ∧ NewIn w' w.heap.size w'.heap.size (A, p.length, c) p ∧ Below w.heap.size w w' := by
  have b0 := blk_new w (.cells #[] 5 (0, 0))
  have B0 : Below w.heap.size w (w.alloc (.cells #[] 5 (0, 0))) := (Below.refl _ _).alloc (Nat.le_refl _) _
  have O0 : OwnB (w.alloc (.cells #[] 5 (0, 0))) w.heap.size 0 [] := ⟨Nat.le_refl _, by simp [maxLen], _, b0, rfl, by simp⟩
  obtain ⟨A1, c1, w1, hr1, G1, B1, _⟩ := GRow.append (N := w.heap.size) (w0 := w) elBy (Or.inr ⟨_, rfl, Nat.le_refl _, O0⟩) 22 B c0 (BSrc.src (hy.below B0)) B0 (by simp) (by simp only [maxLen, List.length_nil]; omega) (by simp only [List.length_nil]; omega)
  simp only [List.length_nil, Nat.zero_add, List.nil_append] at hr1 G1
  refine ⟨A1, c1, w1, hr1, ⟨rfl, ?_⟩, B1⟩
  rcases G1 with h | ⟨g, h1, h2, h3⟩
  · exact Or.inl h
  · exact Or.inr ⟨g, h1, ⟨h2, h3.lt⟩, h3⟩
/-- The record whose texts are turned. -/
def turnR (r : RZ) : RZ := ⟨r.kind, r.shard, r.epoch, r.peer, r.client, r.seq, ⟨r.op.kind, r.op.key.map x85, r.op.val.map x85, r.op.rev⟩, r.copy.map x85⟩
theorem turnR_recV (r : RZ) (K V C : SlB) : recV (turnR r) K V C = recV r K V C := rfl
theorem turnR_cells (r : RZ) (K V C : SlB) : recCells (turnR r) K V C = recCells r K V C := rfl
theorem turnR_sound {r : RZ} (h : SoundR r) : SoundR (turnR r) := by
  unfold SoundR RightO NoOp at *
  simp only [turnR, List.length_map]
  exact h
theorem turnR_wf {r : RZ} (h : r.Wf) : (turnR r).Wf := ⟨h.epoch, h.peer, h.client, h.seq, h.okind, h.rev, by simp only [turnR, List.length_map]; exact h.key, by simp only [turnR, List.length_map]; exact h.val, by simp only [turnR, List.length_map]; exact h.copy⟩
theorem turnR_byt {r : RZ} (h : r.Byt) : (turnR r).Byt := ⟨x85_byt h.key, x85_byt h.val, x85_byt h.copy⟩
theorem dec_255 {n : Nat} (hn : 1 ≤ n) : decodeR (List.replicate n 255) = (RZ.none, 160) := by
  obtain ⟨k, rfl⟩ : ∃ k, n = k + 1 := ⟨n - 1, by omega⟩
  have hk : (decR (List.replicate (k + 1) 255)).1.kind = 255 := by
    unfold decR
    rw [List.replicate_succ, RS.byte_cons]
    unfold decF
    simp only
    rw [if_neg (by omega), if_neg (by omega), if_neg (by omega)]
  unfold decodeR
  rw [if_neg (fun h => by
    have := h.2.2
    rw [hk] at this
    omega)]
theorem replicate_byt (n : Nat) : Byt (List.replicate n 255) := fun x hx => by
  have := (List.mem_replicate.1 hx).2
  omega
theorem dec_z {w : World} {n : Nat} (hn : 1 ≤ n) (hl : n ≤ 300000) {A : Option Addr} {c0 : Nat} (h : BSrc w A (List.replicate n 255)) :
    Calls Try.prog 13 #[.slice A n c0] w fun e w' => ∃ K V C : SlB, e = .returned (.tuple #[.agg #[.int .i64 0, .int .i64 0, .int .i64 0, .int .i64 0, .int .i64 0, .int .i64 0, .int .i64 0, .slice K.1 K.2.1 K.2.2, .slice V.1 V.2.1 V.2.2, .int .i64 0, .slice C.1 C.2.1 C.2.2], .int .i64 160]) ∧ Below w.heap.size w w' := by
  have h1 := decode_any (replicate_byt n) (by rw [List.length_replicate]; omega) (c0 := c0) h
  rw [List.length_replicate] at h1
  refine h1.mono ?_
  rintro e w' ⟨hb, K, V, C, rfl, _⟩
  rw [dec_255 hn]
  exact ⟨K, V, C, rfl, hb⟩
theorem fill_step {xs : List Int} {k : Nat} (hk : k < xs.length) : (List.replicate k 255 ++ xs.drop k).set k 255 = List.replicate (k + 1) 255 ++ xs.drop (k + 1) := by
  rw [List.set_append_right _ _ (by simp), List.length_replicate, Nat.sub_self, List.drop_eq_getElem_cons hk, List.set_cons_zero, List.replicate_succ', List.append_assoc]
  rfl
theorem RecLie.ofNew {w : World} {r : RZ} {K V C : SlB} {l1 l2 l3 m1 m2 m3 : Nat} (sK : NewIn w l1 m1 K r.op.key) (sV : NewIn w l2 m2 V r.op.val) (sC : NewIn w l3 m3 C r.copy) (hs : SoundR r) : RecLie w r K V C := by
  have := hs.lens
  exact ⟨⟨sK.1, sK.src⟩, ⟨sV.1, sV.src⟩, ⟨sC.1, sC.src⟩, by omega, by omega, by omega⟩
theorem RecLie.fr {w w' : World} {r : RZ} {K V C : SlB} {N : Nat} {F : Nat → Prop} (sK : SlAt w N K r.op.key) (sV : SlAt w N V r.op.val) (sC : SlAt w N C r.copy) (hf : Fr F w w') (hF : ∀ b, F b → N ≤ b) (h : RecLie w r K V C) : RecLie w' r K V C :=
  ⟨⟨h.key.1, (sK.fr hf hF).2.1⟩, ⟨h.val.1, (sV.fr hf hF).2.1⟩, ⟨h.copy.1, (sC.fr hf hF).2.1⟩, h.lk, h.lv, h.lc⟩
/-- One byte of a list of one's own. -/
theorem NewIn.set {w : World} {lo hi : Nat} {A : Option Addr} {n c : Nat} {xs : List Int} (h : NewIn w lo hi (A, n, c) xs) {k : Nat} (hk : k < n) (y : Int) :
    ∃ g, A = some ⟨g, 0, none⟩ ∧ (lo ≤ g ∧ g < hi) ∧ w.frozen? ⟨g, k, none⟩ = false ∧ (∃ v, w.cell? ⟨g, k, none⟩ = some v) ∧ NewIn (w.setCell ⟨g, k, none⟩ (.int .u8 y)) lo hi (A, n, c) (xs.set k y) := by
  obtain ⟨h1, h2⟩ := h
  simp only at h1 h2
  rcases h2 with ⟨_, _, h0⟩ | ⟨g, rfl, hg, O⟩
  · rw [h0] at h1; simp at h1; omega
  · have hx : xs[k]? = some xs[k] := List.getElem?_eq_getElem (by omega)
    have hcell := O.cell hx (j := 0) (v := .int .u8 xs[k]) (by simp [bc])
    refine ⟨g, rfl, hg, O.free k, ⟨_, by simpa using hcell⟩, by simp only [List.length_set]; exact h1, Or.inr ⟨g, rfl, hg, ?_⟩⟩
    exact Own.set1 (fun _ => rfl) O (by omega) (v := .int .u8 y) (by simp [bc])
end Go.Proofs.Ytjmmdpnphafdfaa
