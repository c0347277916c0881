/- The reference's Decode as plain data. -/
import Derived.Test.YtjmmdpnphafdfaaRM
namespace Go.Proofs.Ytjmmdpnphafdfaa
set_option linter.unusedVariables false
set_option linter.unusedSimpArgs false

/-- An op off a reader, as the reference reads it. -/
def qecO (s : RS) : OpZ × RS :=
  let k := s.byte
  let t := k.2.text 263144
  let v := if k.1 = 2 ∨ k.1 = 4 then t.2.text 263144 else ([], t.2)
  let n := if k.1 = 4 then v.2.num else (0, v.2)
  (⟨k.1, t.1, v.1, i64N n.1⟩, n.2)
def qecF (kind shard : Int) (s : RS) : RZ × RS :=
  if kind = 1 then (let c := s.num; let q := c.2.num; let o := qecO q.2; (⟨kind, shard, 0, 0, i64N c.1, i64N q.1, o.1, []⟩, o.2))
  else if kind = 2 then (let p := s.num; (⟨kind, shard, 0, i64N p.1, 0, 0, OpZ.none, []⟩, p.2))
  else if kind = 4 then (let e := s.num; let p := e.2.num; let t := p.2.text 263144; (⟨kind, shard, i64N e.1, i64N p.1, 0, 0, OpZ.none, t.1⟩, t.2))
  else (⟨kind, shard, 0, 0, 0, 0, OpZ.none, []⟩, s)
def qecR (p : List Int) : RZ × RS :=
  let k := (RS.mk p [] 0).byte
  let n := k.2.num
  qecF k.1 (i64N n.1) n.2
theorem qecO_form {o : OpZ} (h : RightO o) (hk : o.kind ≠ 1 ∧ o.kind ≠ 5) (t : List Int) : qecO ⟨formO o ++ t, [], 0⟩ = (o, ⟨t, [], 0⟩) := by
  obtain ⟨k, key, val, rev⟩ := o
  simp only [RightO] at h
  simp only at hk
  unfold qecO formO
  simp only [List.cons_append, List.append_assoc]
  rw [RS.byte_cons]
  have hkl : key.length ≤ 64 := by omega
  rw [RS.text_form (by omega) (by omega)]
  by_cases h3 : k = 3
  · subst h3
    rw [if_neg (show ¬ ((3 : Int) = 2 ∨ (3 : Int) = 4) by omega)]
    have hv : val = [] := List.length_eq_zero_iff.1 (by omega)
    have hr : rev = 0 := by omega
    subst hv hr
    rfl
  · have h24 : k = 2 ∨ k = 4 := by omega
    simp only [if_neg h3, if_pos h24]
    rw [RS.text_form (by omega) (by omega)]
    by_cases h4 : k = 4
    · subst h4
      simp only [if_pos trivial]
      rw [num_there (by omega) (by omega)]
      rw [i64N_nat (by omega) (by omega)]
    · simp only [if_neg h4, List.nil_append]
      have hr : rev = 0 := by omega
      subst hr
      rfl
theorem qec_form {r : RZ} (h : SoundR r) (t : List Int) : qecR (formR r ++ t) = (r, ⟨t, [], 0⟩) := by
  obtain ⟨⟨s0, s1⟩, h⟩ := h
  unfold qecR formR
  rw [List.cons_append, RS.byte_cons]
  simp only [List.append_assoc]
  rw [num_there s0 (by omega)]
  simp only
  rw [i64N_nat s0 (by omega)]
  obtain ⟨kind, shard, epoch, peer, client, seq, op, copy⟩ := r
  simp only at h s0 s1 ⊢
  rcases h with ⟨hk, ⟨c0, c1⟩, ⟨q0, q1⟩, ho, ⟨o1, o2⟩, e1, e2, e3⟩ | ⟨hk, ⟨p0, p1⟩, e1, e2, e3, e4, e5⟩ | ⟨hk, ⟨e0, e1⟩, ⟨p0, p1⟩, hc, e2, e3, e4⟩ | ⟨hk, e1, e2, e3, e4, e5, e6⟩
  · subst hk e1 e2
    rw [List.length_eq_zero_iff] at e3; subst e3
    simp only [qecF, if_pos trivial, List.append_assoc]
    rw [num_there c0 (by omega)]
    simp only
    rw [num_there (by omega) (by omega)]
    simp only
    rw [qecO_form ho ⟨o1, o2⟩ t, i64N_nat c0 (by omega), i64N_nat (by omega) (by omega)]
  · subst hk e1 e2 e3
    rw [List.length_eq_zero_iff] at e5; subst e5
    obtain rfl := e4.eq
    simp only [qecF, if_pos trivial]
    rw [if_neg (by omega), if_neg (by omega)]
    rw [num_there p0 (show peer < 9223372036854775808 by omega) t, i64N_nat p0 (by omega)]
  · subst hk e2 e3
    obtain rfl := e4.eq
    simp only [qecF, if_pos trivial, List.append_assoc]
    rw [if_neg (by omega), if_neg (by omega), if_neg (by omega), if_neg (by omega), List.append_assoc, List.append_assoc]
    rw [num_there (by omega) (by omega)]
    simp only
    rw [num_there p0 (by omega)]
    simp only
    rw [RS.text_form (t := t) (o := []) (p := copy) (most := 263144) (by omega) (by omega), i64N_nat p0 (by omega), i64N_nat (by omega) (by omega)]
  · subst e1 e2 e3 e4
    rw [List.length_eq_zero_iff] at e6; subst e6
    obtain rfl := e5.eq
    unfold qecF
    rw [if_neg (by omega), if_neg (by omega), if_neg (by omega), if_neg (by omega), if_neg (by omega), if_neg (by omega), List.nil_append]
/-- What is read loosely, sound, and of the form that was read, is what Decode answers. -/
theorem decode_ref {p : List Int} (hb : Byt p) : decodeR p = if SoundR (qecR p).1 ∧ formR (qecR p).1 = p then ((qecR p).1, 0) else (RZ.none, 160) := by
  split
  · rename_i h
    have := decode_form h.1
    rw [h.2] at this
    exact this
  · rename_i h
    by_cases h0 : (decodeR p).2 = 0
    · obtain ⟨h1, h2⟩ := decode_ok hb h0
      have h3 := qec_form h1 []
      rw [List.append_nil, h2] at h3
      exact absurd (by rw [h3]; exact ⟨h1, h2⟩) h
    · exact decode_bad h0
theorem strN_inj {a b : List Int} (ha : Byt a) (hb : Byt b) (h : strOfNums a = strOfNums b) : a = b := by
  have h1 := congrArg (fun s => s.data.toList) h
  simp only [strOfNums_data] at h1
  have key : ∀ l : List Int, Byt l → (l.map fun n => UInt8.ofNat n.toNat).map (fun u => (u.toNat : Int)) = l := by
    intro l hl
    induction l with
    | nil => rfl
    | cons x t ih =>
      have hx := hl x List.mem_cons_self
      rw [List.map_cons, List.map_cons, ih (fun y hy => hl y (List.mem_cons_of_mem _ hy))]
      congr 1
      rw [UInt8.toNat_ofNat_of_lt' (by show x.toNat < 256; omega)]
      omega
  rw [← key a ha, ← key b hb, h1]
end Go.Proofs.Ytjmmdpnphafdfaa
