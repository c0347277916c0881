/- Ops and records as plain data: which are sound, their forms, what is read. -/
import Derived.Test.YtjmmdpnphafdfaaPQ
import Derived.Test.YtjmmdpnphafdfaaPR3
namespace Go.Proofs.Ytjmmdpnphafdfaa
set_option linter.unusedVariables false
set_option linter.unusedSimpArgs false

/-- A number of 64 bits as an int. -/
def i64N (n : Nat) : Int := if n < 9223372036854775808 then (n : Int) else (n : Int) - 18446744073709551616
theorem i64N_in {n : Nat} (h : n < 9223372036854775808) : i64N n = n := by unfold i64N; rw [if_pos h]
theorem i64N_pos {n : Nat} (hn : n < 18446744073709551616) (h : 0 ≤ i64N n) : (i64N n).toNat = n := by
  unfold i64N at *; split at h <;> rename_i h1
  · rw [if_pos h1]; omega
  · omega
/-- An op. -/
structure OpZ where
  kind : Int
  key : List Int
  val : List Int
  rev : Int
def OpZ.none : OpZ := ⟨0, [], [], 0⟩
/-- Is it right? -/
def RightO (o : OpZ) : Prop :=
  (o.kind = 4 ∧ 0 < o.key.length ∧ o.key.length ≤ 64 ∧ o.val.length ≤ 256 ∧ 0 ≤ o.rev ∧ o.rev ≤ 1099511627776) ∨
  (o.kind = 2 ∧ 0 < o.key.length ∧ o.key.length ≤ 64 ∧ o.val.length ≤ 256 ∧ o.rev = 0) ∨
  (o.kind = 5 ∧ o.key.length ≤ 65 ∧ o.val.length = 0 ∧ o.rev = 0) ∨
  ((o.kind = 1 ∨ o.kind = 3) ∧ 0 < o.key.length ∧ o.key.length ≤ 64 ∧ o.val.length = 0 ∧ o.rev = 0)
instance (o : OpZ) : Decidable (RightO o) := by unfold RightO; infer_instance
/-- What a record says. -/
structure RZ where
  kind : Int
  shard : Int
  epoch : Int
  peer : Int
  client : Int
  seq : Int
  op : OpZ
  copy : List Int
def RZ.none : RZ := ⟨0, 0, 0, 0, 0, 0, OpZ.none, []⟩
def NoOp (o : OpZ) : Prop := o.kind = 0 ∧ o.rev = 0 ∧ o.key.length = 0 ∧ o.val.length = 0
instance (o : OpZ) : Decidable (NoOp o) := by unfold NoOp; infer_instance
theorem NoOp.eq {o : OpZ} (h : NoOp o) : o = OpZ.none := by
  obtain ⟨h1, h2, h3, h4⟩ := h
  obtain ⟨a, b, c, d⟩ := o
  simp only at *
  rw [List.length_eq_zero_iff] at h3 h4
  subst h1 h2 h3 h4; rfl
def SoundR (r : RZ) : Prop := (0 ≤ r.shard ∧ r.shard < 64) ∧
  ((r.kind = 1 ∧ (0 ≤ r.client ∧ r.client ≤ 15) ∧ (1 ≤ r.seq ∧ r.seq ≤ 1073741824) ∧ RightO r.op ∧ (r.op.kind ≠ 1 ∧ r.op.kind ≠ 5) ∧ r.epoch = 0 ∧ r.peer = 0 ∧ r.copy.length = 0) ∨
   (r.kind = 2 ∧ (0 ≤ r.peer ∧ r.peer ≤ 7) ∧ r.epoch = 0 ∧ r.client = 0 ∧ r.seq = 0 ∧ NoOp r.op ∧ r.copy.length = 0) ∨
   (r.kind = 4 ∧ (1 ≤ r.epoch ∧ r.epoch ≤ 1073741824) ∧ (0 ≤ r.peer ∧ r.peer ≤ 7) ∧ r.copy.length ≤ 262144 ∧ r.client = 0 ∧ r.seq = 0 ∧ NoOp r.op) ∨
   ((r.kind = 3 ∨ r.kind = 5 ∨ r.kind = 6 ∨ r.kind = 7 ∨ r.kind = 8) ∧ r.epoch = 0 ∧ r.peer = 0 ∧ r.client = 0 ∧ r.seq = 0 ∧ NoOp r.op ∧ r.copy.length = 0))
instance (r : RZ) : Decidable (SoundR r) := by unfold SoundR; infer_instance
structure RZ.Byt (r : RZ) : Prop where
  key : Go.Proofs.Ytjmmdpnphafdfaa.Byt r.op.key
  val : Go.Proofs.Ytjmmdpnphafdfaa.Byt r.op.val
  copy : Go.Proofs.Ytjmmdpnphafdfaa.Byt r.copy
def formO (o : OpZ) : List Int := o.kind :: (textN o.key ++ ((if o.kind = 3 then [] else textN o.val) ++ (if o.kind = 4 then formN o.rev.toNat else [])))
def formR (r : RZ) : List Int := r.kind :: (formN r.shard.toNat ++
  (if r.kind = 1 then formN r.client.toNat ++ (formN r.seq.toNat ++ formO r.op) else if r.kind = 2 then formN r.peer.toNat else if r.kind = 4 then formN r.epoch.toNat ++ (formN r.peer.toNat ++ textN r.copy) else []))
/-- An op off a reader. -/
def decO (s : RS) : OpZ × RS :=
  let k := s.byte
  let t := k.2.text 64
  let v := if k.1 = 3 then ([], t.2) else t.2.text 256
  let n := if k.1 = 4 then v.2.num else (0, v.2)
  (⟨k.1, t.1, v.1, i64N n.1⟩, n.2)
/-- A record's fields behind kind and shard. -/
def decF (kind shard : Int) (s : RS) : RZ × RS :=
  if kind = 1 then (let c := s.num; let q := c.2.num; let o := decO q.2; (⟨kind, shard, 0, 0, i64N c.1, i64N q.1, o.1, []⟩, o.2))
  else if kind = 2 then (let p := s.num; (⟨kind, shard, 0, i64N p.1, 0, 0, OpZ.none, []⟩, p.2))
  else if kind = 4 then (let e := s.num; let p := e.2.num; let t := p.2.text 262144; (⟨kind, shard, i64N e.1, i64N p.1, 0, 0, OpZ.none, t.1⟩, t.2))
  else (⟨kind, shard, 0, 0, 0, 0, OpZ.none, []⟩, s)
def decR (p : List Int) : RZ × RS :=
  let k := (RS.mk p [] 0).byte
  let n := k.2.num
  decF k.1 (i64N n.1) n.2
def decodeR (p : List Int) : RZ × Int := if (decR p).2.done = 0 ∧ SoundR (decR p).1 then ((decR p).1, 0) else (RZ.none, 160)
/-- Room for its form. -/
theorem formN_le (k n : Nat) (h : n < 128 ^ (k + 1)) : (formN n).length ≤ k + 1 := formN_len k n h
theorem textN_len (p : List Int) (h : p.length ≤ 262144) : (textN p).length ≤ p.length + 3 := by
  unfold textN
  have := formN_len 2 p.length (by omega)
  rw [List.length_append]; omega
theorem textN_len2 (p : List Int) (h : p.length ≤ 256) : (textN p).length ≤ p.length + 2 := by
  unfold textN
  have := formN_len 1 p.length (by omega)
  rw [List.length_append]; omega
theorem textN_len1 (p : List Int) (h : p.length < 128) : (textN p).length = p.length + 1 := by
  unfold textN
  rw [formN_small h]; simp; try omega
theorem RightO.key {o : OpZ} (h : RightO o) : o.key.length ≤ 65 := by unfold RightO at h; omega
theorem RightO.val {o : OpZ} (h : RightO o) : o.val.length ≤ 256 := by unfold RightO at h; omega
theorem RightO.rev {o : OpZ} (h : RightO o) : 0 ≤ o.rev ∧ o.rev ≤ 1099511627776 := by unfold RightO at h; omega
theorem formO_len {o : OpZ} (h : RightO o) : (formO o).length ≤ o.key.length + o.val.length + 10 := by
  unfold formO
  have h1 := textN_len1 o.key (by have := h.key; omega)
  have h2 := textN_len2 o.val h.val
  have h3 := formN_len 5 o.rev.toNat (by have := h.rev; omega)
  have h4 : (if o.kind = 3 then ([] : List Int) else textN o.val).length ≤ o.val.length + 2 := by split <;> simp_all
  have h5 : (if o.kind = 4 then formN o.rev.toNat else ([] : List Int)).length ≤ 6 := by split <;> simp_all
  simp only [List.length_cons, List.length_append]
  omega
theorem formR_room {r : RZ} (h : SoundR r) : (formR r).length ≤ r.copy.length + r.op.key.length + r.op.val.length + 30 := by
  unfold formR
  obtain ⟨⟨s0, s1⟩, h⟩ := h
  have l1 := formN_len 0 r.shard.toNat (by omega)
  simp only [List.length_cons, List.length_append]
  rcases h with ⟨hk, ⟨c0, c1⟩, ⟨q0, q1⟩, ho, _⟩ | ⟨hk, ⟨p0, p1⟩, _⟩ | ⟨hk, ⟨e0, e1⟩, ⟨p0, p1⟩, hc, _⟩ | ⟨hk, _⟩
  · rw [if_pos hk]
    have l2 := formN_len 0 r.client.toNat (by omega)
    have l3 := formN_len 4 r.seq.toNat (by omega)
    have l4 := formO_len ho
    simp only [List.length_append]
    omega
  · rw [if_neg (by omega), if_pos hk]
    have l2 := formN_len 0 r.peer.toNat (by omega)
    omega
  · rw [if_neg (by omega), if_neg (by omega), if_pos hk]
    have l2 := formN_len 0 r.peer.toNat (by omega)
    have l3 := formN_len 4 r.epoch.toNat (by omega)
    have l4 := textN_len r.copy hc
    simp only [List.length_append]
    omega
  · rw [if_neg (by omega), if_neg (by omega), if_neg (by omega)]
    simp only [List.length_nil]
    omega
theorem RS.at_ {s : RS} {l : List Int} {o : List (List Int)} {f : Int} (h : s = ⟨l, o, f⟩) : s.left = l ∧ s.outer = o := by subst h; exact ⟨rfl, rfl⟩
/-- What is laid down is read. -/
theorem i64N_nat {x : Int} (h0 : 0 ≤ x) (h1 : x < 9223372036854775808) : i64N x.toNat = x := by rw [i64N_in (by omega)]; omega
theorem num_there {x : Int} (h0 : 0 ≤ x) (h1 : x < 9223372036854775808) (t : List Int) : RS.num ⟨formN x.toNat ++ t, [], 0⟩ = (x.toNat, ⟨t, [], 0⟩) := RS.num_form (by omega)
theorem decO_form {o : OpZ} (h : RightO o) (hk : o.kind ≠ 1 ∧ o.kind ≠ 5) (t : List Int) : decO ⟨formO o ++ t, [], 0⟩ = (o, ⟨t, [], 0⟩) := by
  obtain ⟨k, key, val, rev⟩ := o
  simp only [RightO] at h
  simp only at hk
  unfold decO formO
  simp only [List.cons_append, List.append_assoc]
  rw [RS.byte_cons]
  have hkl : key.length ≤ 64 := by omega
  rw [RS.text_form (by omega) (by omega)]
  by_cases h3 : k = 3
  · subst h3
    have hv : val = [] := List.length_eq_zero_iff.1 (by omega)
    have hr : rev = 0 := by omega
    subst hv hr
    rfl
  · simp only [if_neg h3]
    rw [RS.text_form (by omega) (by omega)]
    by_cases h4 : k = 4
    · subst h4
      simp only [if_pos trivial]
      rw [num_there (by omega) (by omega)]
      rw [i64N_nat (by omega) (by omega)]
    · simp only [if_neg h4, List.nil_append]
      have hr : rev = 0 := by omega
      subst hr
      rfl
theorem dec_form {r : RZ} (h : SoundR r) (t : List Int) : decR (formR r ++ t) = (r, ⟨t, [], 0⟩) := by
  obtain ⟨⟨s0, s1⟩, h⟩ := h
  unfold decR formR
  rw [List.cons_append, RS.byte_cons]
  simp only [List.append_assoc]
  rw [num_there s0 (by omega)]
  simp only
  rw [i64N_nat s0 (by omega)]
  obtain ⟨kind, shard, epoch, peer, client, seq, op, copy⟩ := r
  simp only at h s0 s1 ⊢
  rcases h with ⟨hk, ⟨c0, c1⟩, ⟨q0, q1⟩, ho, ⟨o1, o2⟩, e1, e2, e3⟩ | ⟨hk, ⟨p0, p1⟩, e1, e2, e3, e4, e5⟩ | ⟨hk, ⟨e0, e1⟩, ⟨p0, p1⟩, hc, e2, e3, e4⟩ | ⟨hk, e1, e2, e3, e4, e5, e6⟩
  · subst hk e1 e2
    rw [List.length_eq_zero_iff] at e3; subst e3
    simp only [decF, if_pos trivial, List.append_assoc]
    rw [num_there c0 (by omega)]
    simp only
    rw [num_there (by omega) (by omega)]
    simp only
    rw [decO_form ho ⟨o1, o2⟩ t, i64N_nat c0 (by omega), i64N_nat (by omega) (by omega)]
  · subst hk e1 e2 e3
    rw [List.length_eq_zero_iff] at e5; subst e5
    obtain rfl := e4.eq
    simp only [decF, if_pos trivial]
    rw [if_neg (by omega), if_neg (by omega)]
    rw [num_there p0 (show peer < 9223372036854775808 by omega) t, i64N_nat p0 (by omega)]
  · subst hk e2 e3
    obtain rfl := e4.eq
    simp only [decF, if_pos trivial, List.append_assoc]
    rw [if_neg (by omega), if_neg (by omega), if_neg (by omega), if_neg (by omega), List.append_assoc, List.append_assoc]
    rw [num_there (by omega) (by omega)]
    simp only
    rw [num_there p0 (by omega)]
    simp only
    rw [RS.text_form (t := t) (o := []) (p := copy) (most := 262144) (by omega) (by omega), i64N_nat p0 (by omega), i64N_nat (by omega) (by omega)]
  · subst e1 e2 e3 e4
    rw [List.length_eq_zero_iff] at e6; subst e6
    obtain rfl := e5.eq
    unfold decF
    rw [if_neg (by omega), if_neg (by omega), if_neg (by omega), if_neg (by omega), if_neg (by omega), if_neg (by omega), List.nil_append]
/-- What is read was laid down. -/
theorem decO_back {s : RS} (hb : Byt s.left) (h : (decO s).2.ft = 0) (hr : RightO (decO s).1) : s = ⟨formO (decO s).1 ++ (decO s).2.left, (decO s).2.outer, 0⟩ := by
  unfold decO at *
  have B1 := (RS.byte_byt hb).1
  have E1 := RS.byte_back (s := s)
  generalize s.byte = k at *
  obtain ⟨k, s1⟩ := k
  simp only at *
  have B2 := RS.text_byt (most := 64) B1
  have E2 := RS.text_back (most := 64) B1
  generalize s1.text 64 = t at *
  obtain ⟨key, s2⟩ := t
  simp only at *
  have B3 := RS.text_byt (most := 256) B2.1
  have E3 := RS.text_back (most := 256) B2.1
  by_cases h3 : k = 3
  · subst h3
    simp only [if_pos trivial, if_neg (show ¬ (3 : Int) = 4 by omega)] at *
    obtain ⟨r1, _⟩ := E2 h
    have r0 := E1 (by rw [r1])
    have o1 := (RS.at_ r1).2
    have l1 := (RS.at_ r1).1
    rw [r0, o1, l1]
    simp [formO]
  · simp only [if_neg h3] at *
    generalize s2.text 256 = v at *
    obtain ⟨val, s3⟩ := v
    simp only at *
    have E4 := RS.num_back (s := s3) B3.1
    by_cases h4 : k = 4
    · subst h4
      simp only [if_pos trivial] at *
      have E5 := num_lt s3 B3.1
      generalize s3.num = n at *
      obtain ⟨n, s4⟩ := n
      simp only at *
      have r3 := E4 h
      have r2 := (E3 (by rw [r3])).1
      have r1 := (E2 (by rw [r2])).1
      have r0 := E1 (by rw [r1])
      rw [r0]
      have : (i64N n).toNat = n := i64N_pos E5 (by simp only [RightO] at hr; omega)
      simp only [formO, this, if_pos trivial, if_neg (show ¬ (4 : Int) = 3 by omega)]
      rw [(RS.at_ r1).2, (RS.at_ r2).2, (RS.at_ r3).2, (RS.at_ r1).1, (RS.at_ r2).1, (RS.at_ r3).1]
      simp
    · simp only [if_neg h4] at *
      have r2 := (E3 h).1
      have r1 := (E2 (by rw [r2])).1
      have r0 := E1 (by rw [r1])
      rw [r0]
      simp only [formO, if_neg h3, if_neg h4]
      rw [(RS.at_ r1).2, (RS.at_ r2).2, (RS.at_ r1).1, (RS.at_ r2).1]
      simp
theorem decO_ft {s : RS} (h : (decO s).2.ft = 0) : s.ft = 0 := by
  by_cases hf : s.ft = 0
  · exact hf
  · exfalso
    unfold decO at h
    simp only [RS.byte_fault hf, RS.text_fault hf] at h
    simp at h
    exact hf h
theorem form_dec {p : List Int} (hb : Byt p) (h : (decR p).2.done = 0) (hs : SoundR (decR p).1) : formR (decR p).1 = p := by
  have h := RS.done_zero h
  unfold decR at *
  have B1 := (RS.byte_byt (s := ⟨p, [], 0⟩) hb).1
  have E1 := RS.byte_back (s := ⟨p, [], 0⟩)
  generalize (RS.mk p [] 0).byte = k at *
  obtain ⟨k, s1⟩ := k
  simp only at *
  have B2 := RS.num_byt B1
  have E2 := RS.num_back B1
  have L2 := num_lt s1 B1
  generalize s1.num = n at *
  obtain ⟨n, s2⟩ := n
  simp only at *
  obtain ⟨⟨hs0, hs1⟩, hs⟩ := hs
  unfold decF at *
  have K3 := num_lt s2 B2
  have E3 := RS.num_back (s := s2) B2
  have B3 := RS.num_byt B2
  generalize s2.num = n3 at *
  obtain ⟨n3, s3⟩ := n3
  simp only at *
  have K4 := num_lt s3 B3
  have E4 := RS.num_back (s := s3) B3
  have B4 := RS.num_byt B3
  generalize s3.num = n4 at *
  obtain ⟨n4, s4⟩ := n4
  simp only at *
  have en : ∀ x : Int, x = i64N n → 0 ≤ x → x.toNat = n := fun x hx h0 => by subst hx; exact i64N_pos L2 h0
  by_cases k1 : k = 1
  · subst k1
    simp only [if_pos trivial] at *
    rcases hs with ⟨hk, ⟨c0, c1⟩, ⟨q0, q1⟩, ho, ⟨o1, o2⟩, e1, e2, e3⟩ | hs | hs | hs
    · have F5 := decO_ft (s := s4) (by rw [h])
      have E5 := decO_back B4 (by rw [h]) ho
      have E4 := E4 F5
      have E3 := E3 (by rw [E4])
      have E2 := E2 (by rw [E3])
      have E1 := E1 (by rw [E2])
      injection E1 with E1 _ _
      rw [E1]
      simp only [formR, if_pos trivial]
      rw [i64N_pos L2 hs0, i64N_pos K3 c0, i64N_pos K4 (by omega)]
      rw [h] at E5
      rw [(RS.at_ E2).1, (RS.at_ E3).1, (RS.at_ E4).1, (RS.at_ E5).1]
      simp
    · exact absurd hs.1 (by omega)
    · exact absurd hs.1 (by omega)
    · exact absurd hs.1 (by omega)
  · simp only [if_neg k1] at *
    by_cases k2 : k = 2
    · subst k2
      simp only [if_pos trivial] at *
      rcases hs with hs | ⟨hk, ⟨p0, p1⟩, _⟩ | hs | hs
      · exact absurd hs.1 (by omega)
      · have E3 := E3 (by rw [h])
        have E2 := E2 (by rw [E3])
        have E1 := E1 (by rw [E2])
        injection E1 with E1 _ _
        rw [E1]
        simp only [formR, if_pos trivial, if_neg (show ¬ (2 : Int) = 1 by omega)]
        rw [i64N_pos L2 hs0, i64N_pos K3 p0, (RS.at_ E2).1, (RS.at_ E3).1, h]
        simp
      · exact absurd hs.1 (by omega)
      · exact absurd hs.1 (by omega)
    · simp only [if_neg k2] at *
      by_cases k4 : k = 4
      · subst k4
        simp only [if_pos trivial] at *
        rcases hs with hs | hs | ⟨hk, ⟨c0, c1⟩, ⟨q0, q1⟩, _⟩ | hs
        · exact absurd hs.1 (by omega)
        · exact absurd hs.1 (by omega)
        · have F5 := RS.text_ft (s := s4) (m := 262144) (by rw [h])
          have E5 := (RS.text_back (s := s4) (most := 262144) B4 (by rw [h])).1
          have E4 := E4 F5
          have E3 := E3 (by rw [E4])
          have E2 := E2 (by rw [E3])
          have E1 := E1 (by rw [E2])
          injection E1 with E1 _ _
          rw [E1]
          simp only [formR, if_pos trivial, if_neg (show ¬ (4 : Int) = 1 by omega), if_neg (show ¬ (4 : Int) = 2 by omega)]
          rw [h] at E5
          rw [i64N_pos L2 hs0, i64N_pos K3 (by omega), i64N_pos K4 q0, (RS.at_ E2).1, (RS.at_ E3).1, (RS.at_ E4).1, (RS.at_ E5).1]
          simp
        · exact absurd hs.1 (by omega)
      · simp only [if_neg k4] at *
        have E2 := E2 (by rw [h])
        have E1 := E1 (by rw [E2])
        injection E1 with E1 _ _
        rw [E1]
        simp only [formR, if_neg k1, if_neg k2, if_neg k4]
        rw [i64N_pos L2 hs0, (RS.at_ E2).1, h]
        try simp
theorem form_prefix {r r' : RZ} (h : SoundR r) (h' : SoundR r') {s t : List Int} (he : formR r ++ s = formR r' ++ t) : r = r' ∧ s = t := by
  have h1 := dec_form h s
  have h2 := dec_form h' t
  rw [he, h2] at h1
  simp only [Prod.mk.injEq, RS.mk.injEq, and_true] at h1
  exact ⟨h1.1.symm, h1.2.symm⟩
theorem form_inj {r r' : RZ} (h : SoundR r) (h' : SoundR r') (he : formR r = formR r') : r = r' := (form_prefix h h' (s := []) (t := []) (by rw [he])).1
theorem formR_byt {r : RZ} (h : SoundR r) (hb : r.Byt) : Byt (formR r) := by
  have one : ∀ x : Int, 0 ≤ x → x < 256 → Byt [x] := fun x h0 h1 y hy => by
    rw [List.mem_singleton] at hy; subst hy; exact ⟨h0, h1⟩
  have nil : Byt [] := fun x hx => by cases hx
  unfold formR
  obtain ⟨⟨s0, s1⟩, h⟩ := h
  rw [← List.singleton_append]
  refine Byt.app (one _ (by omega) (by omega)) (Byt.app (formN_range _) ?_)
  split
  · rename_i hk
    have ho : RightO r.op := by
      rcases h with h | h | h | h
      · exact h.2.2.2.1
      all_goals exact absurd h.1 (by omega)
    refine Byt.app (formN_range _) (Byt.app (formN_range _) ?_)
    unfold formO
    rw [← List.singleton_append]
    refine Byt.app (one _ (by unfold RightO at ho; omega) (by unfold RightO at ho; omega)) (Byt.app (textN_byt hb.key) (Byt.app ?_ ?_))
    · split
      · exact nil
      · exact textN_byt hb.val
    · split
      · exact formN_range _
      · exact nil
  · split
    · exact formN_range _
    · split
      · exact Byt.app (formN_range _) (Byt.app (formN_range _) (textN_byt hb.copy))
      · exact nil
/-- What Decode answers. -/
theorem decode_form {r : RZ} (h : SoundR r) : decodeR (formR r) = (r, 0) := by
  have := dec_form h []
  rw [List.append_nil] at this
  unfold decodeR
  rw [this, if_pos ⟨rfl, h⟩]
theorem decode_ok {p : List Int} (hb : Byt p) (h : (decodeR p).2 = 0) : SoundR (decodeR p).1 ∧ formR (decodeR p).1 = p := by
  unfold decodeR at *
  split at h
  · rename_i hc
    rw [if_pos hc]
    exact ⟨hc.2, form_dec hb hc.1 hc.2⟩
  · simp at h
theorem decode_bad {p : List Int} (h : (decodeR p).2 ≠ 0) : decodeR p = (RZ.none, 160) := by
  unfold decodeR at *
  split at h
  · simp at h
  · rename_i hc; rw [if_neg hc]
theorem decO_byt {s : RS} (hb : Byt s.left) : Byt (decO s).1.key ∧ Byt (decO s).1.val ∧ Byt (decO s).2.left := by
  unfold decO
  have B1 := (RS.byte_byt hb).1
  have B2 := RS.text_byt (most := 64) B1
  have B3 := RS.text_byt (most := 256) B2.1
  refine ⟨B2.2, ?_, ?_⟩
  · simp only; split
    · exact fun x hx => by cases hx
    · exact B3.2
  · simp only
    split <;> split
    · exact RS.num_byt B2.1
    · exact RS.num_byt B3.1
    · exact B2.1
    · exact B3.1
theorem decode_byt {p : List Int} (hb : Byt p) : (decodeR p).1.Byt := by
  have nil : Byt [] := fun x hx => by cases hx
  unfold decodeR
  split
  · unfold decR decF
    have B1 := (RS.byte_byt (s := ⟨p, [], 0⟩) hb).1
    have B2 := RS.num_byt B1
    have B3 := RS.num_byt B2
    have B4 := RS.num_byt B3
    simp only
    split
    · exact ⟨(decO_byt B4).1, (decO_byt B4).2.1, nil⟩
    · split
      · exact ⟨nil, nil, nil⟩
      · split
        · exact ⟨nil, nil, (RS.text_byt B4).2⟩
        · exact ⟨nil, nil, nil⟩
  · exact ⟨nil, nil, nil⟩
end Go.Proofs.Ytjmmdpnphafdfaa
