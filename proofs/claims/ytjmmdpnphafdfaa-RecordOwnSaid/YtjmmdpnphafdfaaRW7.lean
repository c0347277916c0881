/- What a record's parts lay down together is its form. -/
import Derived.Test.YtjmmdpnphafdfaaRW6
namespace Go.Proofs.Ytjmmdpnphafdfaa
set_option linter.unusedVariables false
set_option linter.unusedSimpArgs false

theorem WS.byte_fit {room : Int} {bs : List Int} {o : List Nat} {x : Int} (h0 : 0 ≤ x) (h1 : x ≤ 255) (h : (bs.length : Int) + 1 ≤ room) : WS.byte ⟨room, bs, o, 0⟩ x = ⟨room, bs ++ [x], o, 0⟩ := by
  unfold WS.byte
  rw [if_neg (by omega), WS.lay_fit rfl (by simp only [List.length_cons, List.length_nil]; omega)]
theorem WS.num_fit {room : Int} {bs : List Int} {o : List Nat} {n : Nat} (h : (bs.length : Int) + (formN n).length ≤ room) : WS.num ⟨room, bs, o, 0⟩ n = ⟨room, bs ++ formN n, o, 0⟩ := by
  unfold WS.num
  rw [WS.lay_fit rfl (by simp only; omega)]
theorem WS.text_fit {room : Int} {bs : List Int} {o : List Nat} {p : List Int} (h : (bs.length : Int) + (textN p).length ≤ room) : WS.text ⟨room, bs, o, 0⟩ p = ⟨room, bs ++ textN p, o, 0⟩ := by
  unfold WS.text
  unfold textN at *
  rw [WS.lay_fit rfl (by simp only; omega)]
theorem WS.lay_room (s : WS) (ys : List Int) : (s.lay ys).room = s.room := by
  unfold WS.lay; split
  · split <;> rfl
  · rfl
theorem WS.byte_room (s : WS) (x : Int) : (s.byte x).room = s.room := by
  unfold WS.byte WS.refuse; split
  · split <;> rfl
  · exact WS.lay_room _ _
theorem layP_room (p : PK) (r : RZ) (s : WS) : (layP p r s).room = s.room := by
  cases p <;> unfold layP
  · exact WS.lay_room _ _
  · exact WS.lay_room _ _
  · exact WS.lay_room _ _
  · exact WS.lay_room _ _
  · simp only
    have h1 : (((s.byte r.op.kind).text r.op.key)).room = s.room := by
      unfold WS.text; rw [WS.lay_room, WS.byte_room]
    have h2 : ((if r.op.kind = 3 then id else fun s : WS => s.text r.op.val) ((s.byte r.op.kind).text r.op.key)).room = s.room := by
      split
      · exact h1
      · unfold WS.text at h1 ⊢; rw [WS.lay_room]; exact h1
    split
    · unfold WS.num; rw [WS.lay_room]; exact h2
    · exact h2
  · exact WS.lay_room _ _
theorem layP_ok (p : PK) {r : RZ} {s : WS} (hb : r.Byt) (h : s.Ok) : (layP p r s).Ok := by
  cases p <;> unfold layP
  · exact h.num_ _
  · exact h.num_ _
  · exact h.num_ _
  · exact h.num_ _
  · simp only
    have h1 := (h.byte_ r.op.kind).text_ hb.key
    have h2 : ((if r.op.kind = 3 then id else fun s : WS => s.text r.op.val) ((s.byte r.op.kind).text r.op.key)).Ok := by
      split
      · exact h1
      · exact h1.text_ hb.val
    split
    · exact h2.num_ _
    · exact h2
  · exact h.text_ hb.copy
/-- The writer behind the parts. -/
def encW (r : RZ) (room : Int) : WS := (psOf r.kind).foldl (fun s p => layP p r s) ((WS.byte ⟨max room 0, [], [], 0⟩ r.kind).num r.shard.toNat)
theorem formO_split (o : OpZ) : (formO o).length = 1 + (textN o.key).length + (if o.kind = 3 then 0 else (textN o.val).length) + (if o.kind = 4 then (formN o.rev.toNat).length else 0) := by
  unfold formO
  simp only [List.length_cons, List.length_append]
  split <;> split <;> (try simp only [List.length_nil]) <;> omega
theorem layP_write {r : RZ} {room : Int} {bs : List Int} (hk : 0 ≤ r.op.kind ∧ r.op.kind ≤ 255) (h : (bs.length : Int) + (formO r.op).length ≤ room) : layP .write r ⟨room, bs, [], 0⟩ = ⟨room, bs ++ formO r.op, [], 0⟩ := by
  rw [formO_split] at h
  unfold layP formO
  simp only
  by_cases k3 : r.op.kind = 3
  · have k4 : ¬ r.op.kind = 4 := by omega
    simp only [if_pos k3, if_neg k4, id] at *
    rw [WS.byte_fit hk.1 hk.2 (by omega), WS.text_fit (by simp only [List.length_append, List.length_cons, List.length_nil]; omega)]
    simp
  · simp only [if_neg k3] at *
    rw [WS.byte_fit hk.1 hk.2 (by omega), WS.text_fit (by simp only [List.length_append, List.length_cons, List.length_nil]; omega), WS.text_fit (by simp only [List.length_append, List.length_cons, List.length_nil]; omega)]
    by_cases k4 : r.op.kind = 4
    · simp only [if_pos k4] at *
      rw [WS.num_fit (by simp only [List.length_append, List.length_cons, List.length_nil]; omega)]
      simp
    · simp only [if_neg k4, id] at *
      simp
theorem encW_form {r : RZ} (h : SoundR r) {room : Int} (hr : ((formR r).length : Int) ≤ room) : encW r room = ⟨room, formR r, [], 0⟩ := by
  have hm : max room 0 = room := by omega
  unfold encW
  rw [hm]
  unfold formR at hr ⊢
  obtain ⟨⟨s0, s1⟩, h⟩ := h
  simp only [List.length_cons, List.length_append] at hr
  have k0 : 0 ≤ r.kind ∧ r.kind ≤ 255 := by
    rcases h with h | h | h | h <;> omega
  rw [WS.byte_fit k0.1 k0.2 (by simp only [List.length_nil]; omega), WS.num_fit (by simp only [List.length_append, List.length_cons, List.length_nil]; omega)]
  unfold psOf
  rcases h with ⟨hk, _, _, ho, _⟩ | ⟨hk, _⟩ | ⟨hk, _⟩ | ⟨hk, _⟩
  · simp only [if_pos hk, List.length_append] at hr ⊢
    simp only [List.foldl_cons, List.foldl_nil]
    have ok : 0 ≤ r.op.kind ∧ r.op.kind ≤ 255 := by unfold RightO at ho; omega
    unfold layP
    simp only
    rw [WS.num_fit (by simp only [List.length_append, List.length_cons, List.length_nil]; omega), WS.num_fit (by simp only [List.length_append, List.length_cons, List.length_nil]; omega)]
    have := layP_write (r := r) (room := room) (bs := [] ++ [r.kind] ++ formN r.shard.toNat ++ formN r.client.toNat ++ formN r.seq.toNat) ok (by simp only [List.length_append, List.length_cons, List.length_nil]; omega)
    unfold layP at this
    simp only at this
    rw [this]
    simp
  · have k1 : ¬ r.kind = 1 := by omega
    simp only [if_neg k1, if_pos hk] at hr ⊢
    simp only [List.foldl_cons, List.foldl_nil]
    unfold layP
    simp only
    rw [WS.num_fit (by simp only [List.length_append, List.length_cons, List.length_nil]; omega)]
    simp
  · have k1 : ¬ r.kind = 1 := by omega
    have k2 : ¬ r.kind = 2 := by omega
    simp only [if_neg k1, if_neg k2, if_pos hk, List.length_append] at hr ⊢
    simp only [List.foldl_cons, List.foldl_nil]
    unfold layP
    simp only
    rw [WS.num_fit (by simp only [List.length_append, List.length_cons, List.length_nil]; omega), WS.num_fit (by simp only [List.length_append, List.length_cons, List.length_nil]; omega), WS.text_fit (by simp only [List.length_append, List.length_cons, List.length_nil]; omega)]
    simp
  · have k1 : ¬ r.kind = 1 := by omega
    have k2 : ¬ r.kind = 2 := by omega
    have k4 : ¬ r.kind = 4 := by omega
    simp only [if_neg k1, if_neg k2, if_neg k4] at hr ⊢
    simp
/-- What the parts read together. -/
def decP (kind shard : Int) (s : RS) : RZ × RS := (psOf kind).foldl (fun q p => readP p q.1 q.2) (⟨kind, shard, 0, 0, 0, 0, OpZ.none, []⟩, s)
theorem decP_eq (kind shard : Int) (s : RS) : decP kind shard s = decF kind shard s := by
  unfold decP decF psOf
  split
  · simp only [List.foldl_cons, List.foldl_nil]
    rfl
  · split
    · simp only [List.foldl_cons, List.foldl_nil]
      rfl
    · split
      · simp only [List.foldl_cons, List.foldl_nil]
        rfl
      · rfl
end Go.Proofs.Ytjmmdpnphafdfaa
