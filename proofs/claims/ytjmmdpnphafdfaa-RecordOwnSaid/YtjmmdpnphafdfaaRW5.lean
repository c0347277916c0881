/- Records: bare, Sound. -/
import Derived.Test.YtjmmdpnphafdfaaRW4
namespace Go.Proofs.Ytjmmdpnphafdfaa
set_option linter.unusedVariables false
set_option linter.unusedSimpArgs false
open Go.RowKit Go.Deep Go.Proofs.YtjmmdpnphafdfaaW.PrintLast

abbrev In64 (x : Int) : Prop := -9223372036854775808 ≤ x ∧ x ≤ 9223372036854775807
theorem or_in (a b : Int) : In64 (bits BinOp.or IntKind.i64 a b) := by
  have := wf_bits BinOp.or IntKind.i64 a b
  simp only [Lit.wf, Bool.and_eq_true, decide_eq_true_eq] at this
  have h1 : IntKind.i64.min = -9223372036854775808 := by decide
  have h2 : IntKind.i64.max = 9223372036854775807 := by decide
  rw [h1, h2] at this
  exact this
theorem ofInt_zero {a : Int} (h : In64 a) (h0 : BitVec.ofInt 64 a = 0#64) : a = 0 := by
  have := congrArg BitVec.toInt h0
  rw [BitVec.toInt_ofInt, BitVec.toInt_zero] at this
  rw [Int.bmod_def] at this
  omega
theorem or_zero {a b : Int} (ha : In64 a) (hb : In64 b) : bits BinOp.or IntKind.i64 a b = 0 ↔ a = 0 ∧ b = 0 := by
  unfold bits
  change IntKind.i64.wrap (((BitVec.ofInt 64 a ||| BitVec.ofInt 64 b).toNat : Nat) : Int) = 0 ↔ _
  constructor
  · intro h
    rw [IntKind.wrap_i64] at h
    have hl := (BitVec.ofInt 64 a ||| BitVec.ofInt 64 b).isLt
    have h0 : (BitVec.ofInt 64 a ||| BitVec.ofInt 64 b).toNat = 0 := by omega
    have hz : BitVec.ofInt 64 a ||| BitVec.ofInt 64 b = 0#64 := by
      apply BitVec.eq_of_toNat_eq; simpa using h0
    rw [BitVec.or_eq_zero_iff] at hz
    exact ⟨ofInt_zero ha hz.1, ofInt_zero hb hz.2⟩
  · rintro ⟨rfl, rfl⟩
    decide
def or6 (a b c d e f : Int) : Int := bits BinOp.or IntKind.i64 (bits BinOp.or IntKind.i64 (bits BinOp.or IntKind.i64 (bits BinOp.or IntKind.i64 (bits BinOp.or IntKind.i64 a b) c) d) e) f
theorem or6_zero {a b c d e f : Int} (ha : In64 a) (hb : In64 b) (hc : In64 c) (hd : In64 d) (he : In64 e) (hf : In64 f) : or6 a b c d e f = 0 ↔ a = 0 ∧ b = 0 ∧ c = 0 ∧ d = 0 ∧ e = 0 ∧ f = 0 := by
  unfold or6
  rw [or_zero (or_in _ _) hf, or_zero (or_in _ _) he, or_zero (or_in _ _) hd, or_zero (or_in _ _) hc, or_zero ha hb]
  constructor
  · rintro ⟨⟨⟨⟨⟨h1, h2⟩, h3⟩, h4⟩, h5⟩, h6⟩
    exact ⟨h1, h2, h3, h4, h5, h6⟩
  · rintro ⟨h1, h2, h3, h4, h5, h6⟩
    exact ⟨⟨⟨⟨⟨h1, h2⟩, h3⟩, h4⟩, h5⟩, h6⟩
/-- A record's numbers are ints; its texts have lengths. -/
structure RZ.Wf (r : RZ) : Prop where
  epoch : In64 r.epoch
  peer : In64 r.peer
  client : In64 r.client
  seq : In64 r.seq
  okind : In64 r.op.kind
  rev : In64 r.op.rev
  key : r.op.key.length ≤ 140737488355328
  val : r.op.val.length ≤ 140737488355328
  copy : r.copy.length ≤ 140737488355328
/-- Does a record say nothing but what its kind has? -/
def BareR (r : RZ) : Prop :=
  if r.kind = 1 then r.epoch = 0 ∧ r.peer = 0 ∧ r.copy.length = 0
  else if r.kind = 2 then r.epoch = 0 ∧ r.client = 0 ∧ r.seq = 0 ∧ NoOp r.op ∧ r.copy.length = 0
  else if r.kind = 4 then r.client = 0 ∧ r.seq = 0 ∧ NoOp r.op
  else r.epoch = 0 ∧ r.peer = 0 ∧ r.client = 0 ∧ r.seq = 0 ∧ NoOp r.op ∧ r.copy.length = 0
instance (r : RZ) : Decidable (BareR r) := by unfold BareR; infer_instance
set_option maxRecDepth 100000 in
set_option maxHeartbeats 4000000 in
theorem bare_1 (k sh ep pe cl sq ok rv : Int) (A B D : Option Addr) (n n' m m' l l' : Nat) (hn : n ≤ 140737488355328) (hm : m ≤ 140737488355328) (hl : l ≤ 140737488355328) (w : World) :
    Calls Try.prog 44 #[.agg #[.int .i64 k, .int .i64 sh, .int .i64 ep, .int .i64 pe, .int .i64 cl, .int .i64 sq, .int .i64 ok, .slice A n n', .slice B m m', .int .i64 rv, .slice D l l']] w fun e w' =>
      e = .returned (.bool (if k = 1 then or6 ep pe 0 0 0 0 == 0 && l == 0 else if k = 2 then or6 ep 0 cl sq ok rv == 0 && n + m + l == 0 else if k = 4 then or6 0 0 cl sq ok rv == 0 && n + m == 0 else or6 ep pe cl sq ok rv == 0 && n + m + l == 0)) ∧ Below w.heap.size w w' := by
  by_cases k1 : k = 1
  · subst k1
    go_enter Try.func44, Try.ntmps44
    go_wp2_with (fail)
    all_goals
      go_ret
      refine ⟨?_, (Below.refl _ _).alloc (Nat.le_refl _) _⟩
      unfold or6
      simp_all
      try (rw [Bool.eq_iff_iff, beq_iff_eq, beq_iff_eq]; omega)
  · by_cases k2 : k = 2
    · subst k2
      go_enter Try.func44, Try.ntmps44
      go_wp2_with (fail)
      all_goals
        go_ret
        refine ⟨?_, (Below.refl _ _).alloc (Nat.le_refl _) _⟩
        unfold or6
        simp_all
        try (rw [Bool.eq_iff_iff, beq_iff_eq, beq_iff_eq]; omega)
    · by_cases k4 : k = 4
      · subst k4
        go_enter Try.func44, Try.ntmps44
        go_wp2_with (fail)
        all_goals
          go_ret
          refine ⟨?_, (Below.refl _ _).alloc (Nat.le_refl _) _⟩
          unfold or6
          simp_all
          try (rw [Bool.eq_iff_iff, beq_iff_eq, beq_iff_eq]; omega)
      ·
        go_enter Try.func44, Try.ntmps44
        go_wp2_with (fail)
        all_goals
          go_ret
          refine ⟨?_, (Below.refl _ _).alloc (Nat.le_refl _) _⟩
          unfold or6
          simp_all
          try (rw [Bool.eq_iff_iff, beq_iff_eq, beq_iff_eq]; omega)
/-- A record's value. -/
def recV (r : RZ) (K V C : SlB) : Value := .agg (recCells r K V C)
theorem bareB_eq {r : RZ} (h : r.Wf) : (if r.kind = 1 then or6 r.epoch r.peer 0 0 0 0 == 0 && r.copy.length == 0 else if r.kind = 2 then or6 r.epoch 0 r.client r.seq r.op.kind r.op.rev == 0 && r.op.key.length + r.op.val.length + r.copy.length == 0 else if r.kind = 4 then or6 0 0 r.client r.seq r.op.kind r.op.rev == 0 && r.op.key.length + r.op.val.length == 0 else or6 r.epoch r.peer r.client r.seq r.op.kind r.op.rev == 0 && r.op.key.length + r.op.val.length + r.copy.length == 0) = decide (BareR r) := by
  have z : In64 0 := by constructor <;> decide
  rw [Bool.eq_iff_iff, decide_eq_true_eq]
  unfold BareR NoOp
  split
  · rw [Bool.and_eq_true, beq_iff_eq, beq_iff_eq, or6_zero h.epoch h.peer z z z z]
    omega
  · split
    · rw [Bool.and_eq_true, beq_iff_eq, beq_iff_eq, or6_zero h.epoch z h.client h.seq h.okind h.rev]
      omega
    · split
      · rw [Bool.and_eq_true, beq_iff_eq, beq_iff_eq, or6_zero z z h.client h.seq h.okind h.rev]
        omega
      · rw [Bool.and_eq_true, beq_iff_eq, beq_iff_eq, or6_zero h.epoch h.peer h.client h.seq h.okind h.rev]
        omega
theorem bare_any {r : RZ} (h : r.Wf) (K V C : SlB) (hK : K.2.1 = r.op.key.length) (hV : V.2.1 = r.op.val.length) (hC : C.2.1 = r.copy.length) (w : World) :
    Calls Try.prog 44 #[recV r K V C] w fun e w' => e = .returned (.bool (decide (BareR r))) ∧ Below w.heap.size w w' := by
  have H := bare_1 r.kind r.shard r.epoch r.peer r.client r.seq r.op.kind r.op.rev K.1 V.1 C.1 r.op.key.length K.2.2 r.op.val.length V.2.2 r.copy.length C.2.2 h.key h.val h.copy w
  rw [bareB_eq h] at H
  unfold recV recCells
  rw [hK, hV, hC]
  exact H
end Go.Proofs.Ytjmmdpnphafdfaa
