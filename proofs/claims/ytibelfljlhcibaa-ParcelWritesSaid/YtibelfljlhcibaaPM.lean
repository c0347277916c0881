/- Numbers as groups of seven bits; writers and readers as plain data. -/
import Derived.Test.YtibelfljlhcibaaK
namespace Go.Proofs.Ytibelfljlhcibaa
set_option linter.unusedVariables false
set_option linter.unusedSimpArgs false

/-- The groups of seven bits of a number, the lowest first. -/
def formN (n : Nat) : List Int := if n < 128 then [(n : Int)] else ((n % 128 + 128 : Nat) : Int) :: formN (n / 128)
termination_by n
decreasing_by omega
theorem formN_small {n : Nat} (h : n < 128) : formN n = [(n : Int)] := by rw [formN, if_pos h]
theorem formN_big {n : Nat} (h : ¬ n < 128) : formN n = ((n % 128 + 128 : Nat) : Int) :: formN (n / 128) := by rw [formN, if_neg h]
theorem formN_len : ∀ (k n : Nat), n < 128 ^ (k + 1) → (formN n).length ≤ k + 1
  | 0, n, h => by rw [formN_small (by simpa using h)]; simp
  | k + 1, n, h => by
    by_cases hn : n < 128
    · rw [formN_small hn]; simp
    · rw [formN_big hn, List.length_cons]
      have := formN_len k (n / 128) (by rw [Nat.pow_succ] at h; omega)
      omega
theorem formN_len10 {n : Nat} (h : n < 18446744073709551616) : (formN n).length ≤ 10 := formN_len 9 n (Nat.lt_of_lt_of_le h (by decide))
theorem formN_pos (n : Nat) : 1 ≤ (formN n).length := by
  rw [formN]; split <;> simp
theorem formN_ne (n : Nat) : formN n ≠ [] := fun h => by have := formN_pos n; rw [h] at this; simp at this
theorem formN_range : ∀ (n : Nat), ∀ x ∈ formN n, (0 : Int) ≤ x ∧ x < 256 := by
  intro n
  induction n using Nat.strongRecOn with
  | ind n ih =>
    intro x hx
    by_cases h : n < 128
    · rw [formN_small h] at hx
      simp at hx; omega
    · rw [formN_big h] at hx
      rcases List.mem_cons.1 hx with rfl | hx
      · omega
      · exact ih (n / 128) (by omega) x hx
/-- The number to which an int folds. -/
def foldZ (i : Int) : Nat := if 0 ≤ i then (2 * i).toNat else (-2 * i - 1).toNat
theorem foldZ_lt {i : Int} (h0 : -9223372036854775808 ≤ i) (h1 : i ≤ 9223372036854775807) : foldZ i < 18446744073709551616 := by unfold foldZ; split <;> omega
/-- The int that folds to a number. -/
def unfoldZ (n : Nat) : Int := if n % 2 = 0 then ((n / 2 : Nat) : Int) else -((n / 2 : Nat) : Int) - 1
theorem unfold_fold (i : Int) : unfoldZ (foldZ i) = i := by
  unfold unfoldZ foldZ
  split <;> split <;> omega
theorem fold_unfold (n : Nat) : foldZ (unfoldZ n) = n := by
  unfold unfoldZ foldZ
  split <;> split <;> omega
theorem unfoldZ_range {n : Nat} (h : n < 18446744073709551616) : -9223372036854775808 ≤ unfoldZ n ∧ unfoldZ n ≤ 9223372036854775807 := by
  unfold unfoldZ; split <;> omega
/-- The lowest bytes of a number, the lowest first. -/
def lowN : Nat → Nat → List Int
  | 0, _ => []
  | k + 1, n => ((n % 256 : Nat) : Int) :: lowN k (n / 256)
theorem lowN_len : ∀ (k n : Nat), (lowN k n).length = k
  | 0, _ => rfl
  | k + 1, n => by rw [lowN, List.length_cons, lowN_len k]
theorem lowN_range : ∀ (k n : Nat), ∀ x ∈ lowN k n, (0 : Int) ≤ x ∧ x < 256
  | 0, _, x, h => by cases h
  | k + 1, n, x, h => by
    rcases List.mem_cons.1 h with rfl | h
    · omega
    · exact lowN_range k _ x h
/-- The number that bytes are, the lowest first. -/
def upN : List Int → Nat
  | [] => 0
  | x :: t => x.toNat + 256 * upN t
theorem upN_lt : ∀ (l : List Int), (∀ x ∈ l, (0 : Int) ≤ x ∧ x < 256) → upN l < 256 ^ l.length
  | [], _ => by simp [upN]
  | x :: t, h => by
    have h1 := upN_lt t (fun y hy => h y (List.mem_cons_of_mem _ hy))
    have h2 := h x List.mem_cons_self
    rw [upN, List.length_cons, Nat.pow_succ]
    omega
theorem upN_low : ∀ (k n : Nat), n < 256 ^ k → upN (lowN k n) = n
  | 0, n, h => by simp at h; subst h; rfl
  | k + 1, n, h => by
    rw [lowN, upN, upN_low k (n / 256) (by rw [Nat.pow_succ] at h; omega)]
    omega
theorem upN_low_mod : ∀ (k n : Nat), upN (lowN k n) = n % 256 ^ k
  | 0, n => by rw [lowN, upN, Nat.pow_zero, Nat.mod_one]
  | k + 1, n => by
    rw [lowN, upN, upN_low_mod k (n / 256), Nat.pow_succ, Nat.mul_comm (256 ^ k) 256, Nat.mod_mul]
    omega
theorem low_upN : ∀ (l : List Int), (∀ x ∈ l, (0 : Int) ≤ x ∧ x < 256) → lowN l.length (upN l) = l
  | [], _ => rfl
  | x :: t, h => by
    have h1 := low_upN t (fun y hy => h y (List.mem_cons_of_mem _ hy))
    have h2 := h x List.mem_cons_self
    rw [List.length_cons, lowN, upN]
    rw [show (x.toNat + 256 * upN t) / 256 = upN t by omega, h1]
    congr 1
    omega
def nanBits : Nat := 9221120237041090560
/-- Are these bits of a NaN? -/
def oddBits (n : Nat) : Bool := decide (9218868437227405312 < n % 9223372036854775808)
/-- The bits, of every NaN those of the one. -/
def cleanBits (n : Nat) : Nat := if oddBits n then nanBits else n
/-- A writer: its room, its bytes, where its open frames begin (the eldest first), its fault. -/
structure WS where
  room : Int
  bs : List Int
  op : List Nat
  ft : Int
namespace WS
def refuse (s : WS) (e : Int) : WS := if s.ft = 0 then { s with ft := e } else s
def lay (s : WS) (ys : List Int) : WS := if s.ft = 0 then (if s.room - (s.bs.length : Int) < (ys.length : Int) then { s with ft := 13 } else { s with bs := s.bs ++ ys }) else s
def byte (s : WS) (n : Int) : WS := if n < 0 ∨ 255 < n then s.refuse 2 else s.lay [n]
def fixed (s : WS) (n : Nat) (size : Int) : WS := if size < 1 ∨ 8 < size then s.refuse 2 else s.lay (lowN size.toNat n)
def num (s : WS) (n : Nat) : WS := s.lay (formN n)
def int (s : WS) (i : Int) : WS := s.lay (formN (foldZ i))
def real (s : WS) (b : Nat) : WS := s.lay (lowN 8 (cleanBits b)).reverse
def raw (s : WS) (p : List Int) : WS := s.lay p
def text (s : WS) (p : List Int) : WS := s.lay (formN p.length ++ p)
def open_ (s : WS) : WS := if s.ft = 0 then (if s.op.length = 16 then { s with ft := 11 } else { s with op := s.op ++ [s.bs.length] }) else s
def close (s : WS) : WS := if s.ft = 0 then (match s.op.getLast? with
  | none => { s with ft := 2 }
  | some from_ => if s.room - (s.bs.length : Int) < ((formN (s.bs.length - from_)).length : Int) then { s with ft := 13 } else { s with op := s.op.dropLast, bs := s.bs.take from_ ++ (formN (s.bs.length - from_) ++ s.bs.drop from_) }) else s
def len (s : WS) : Nat := if s.ft = 0 then s.bs.length else 0
def done (s : WS) : List Int × Int := if s.ft = 0 then (if s.op = [] then (s.bs, 0) else ([], 12)) else ([], s.ft)
/-- What a writer's bytes and frames always meet. -/
structure Ok (s : WS) : Prop where
  room0 : 0 ≤ s.room
  room1 : s.room ≤ 9223372036854775807
  byte : ∀ x ∈ s.bs, (0 : Int) ≤ x ∧ x < 256
  in_ : ∀ p ∈ s.op, p ≤ s.bs.length
  deep : s.op.length ≤ 16
  fit : (s.bs.length : Int) ≤ s.room
theorem Ok.new (room : Int) (h : room ≤ 9223372036854775807) : Ok ⟨max room 0, [], [], 0⟩ := ⟨by simp; omega, by simp; omega, by simp, by simp, by simp, by simp; omega⟩
theorem Ok.refuse {s : WS} (h : Ok s) (e : Int) : Ok (s.refuse e) := by
  unfold WS.refuse; split <;> exact ⟨h.room0, h.room1, h.byte, h.in_, h.deep, h.fit⟩
theorem Ok.lay {s : WS} (h : Ok s) {ys : List Int} (hy : ∀ x ∈ ys, (0 : Int) ≤ x ∧ x < 256) : Ok (s.lay ys) := by
  unfold WS.lay; split
  · split
    · exact ⟨h.room0, h.room1, h.byte, h.in_, h.deep, h.fit⟩
    · refine ⟨h.room0, h.room1, fun x hx => ?_, fun p hp => ?_, h.deep, ?_⟩
      · rcases List.mem_append.1 hx with hx | hx
        · exact h.byte x hx
        · exact hy x hx
      · have := h.in_ p hp; simp only [List.length_append]; omega
      · simp only [List.length_append]; omega
  · exact h
theorem lay_len (s : WS) (ys : List Int) : s.bs.length ≤ (s.lay ys).bs.length ∧ (s.lay ys).bs.length ≤ s.bs.length + ys.length := by
  unfold WS.lay; split
  · split
    · simp
    · simp
  · simp
theorem Ok.open_ {s : WS} (h : Ok s) : Ok s.open_ := by
  unfold WS.open_; split
  · split
    · exact ⟨h.room0, h.room1, h.byte, h.in_, h.deep, h.fit⟩
    · refine ⟨h.room0, h.room1, h.byte, fun p hp => ?_, ?_, h.fit⟩
      · rcases List.mem_append.1 hp with hp | hp
        · exact h.in_ p hp
        · exact Nat.le_of_eq (List.mem_singleton.1 hp)
      · have := h.deep; simp; omega
  · exact h
theorem Ok.close {s : WS} (h : Ok s) : Ok s.close := by
  unfold WS.close; split
  · cases hl : s.op.getLast? with
    | none => exact ⟨h.room0, h.room1, h.byte, h.in_, h.deep, h.fit⟩
    | some f =>
      simp only
      split
      · exact ⟨h.room0, h.room1, h.byte, h.in_, h.deep, h.fit⟩
      · have hf := h.in_ f (List.mem_of_getLast? hl)
        have hlen : (s.bs.take f ++ (formN (s.bs.length - f) ++ s.bs.drop f)).length = s.bs.length + (formN (s.bs.length - f)).length := by simp; omega
        refine ⟨h.room0, h.room1, fun x hx => ?_, fun p hp => ?_, ?_, ?_⟩
        · rcases List.mem_append.1 hx with hx | hx
          · exact h.byte x (List.mem_of_mem_take hx)
          · rcases List.mem_append.1 hx with hx | hx
            · exact formN_range _ x hx
            · exact h.byte x (List.mem_of_mem_drop hx)
        · have := h.in_ p ((List.dropLast_sublist _).subset hp)
          simp only [hlen]; omega
        · have := h.deep; simp; omega
        · simp only [hlen]; omega
  · exact h
end WS
/-- A number off bytes: what comes out (none: the bytes are at their end), the fault, what is left. -/
def readN : Nat → Nat → List Int → Option Nat × Int × List Int
  | _, _, [] => (none, 0, [])
  | j, n, c :: t => if (j = 9 ∧ 1 < c) ∨ (0 < j ∧ c = 0) then (some 0, 11, t) else if c < 128 then (some (n + (c % 128).toNat * 128 ^ j), 0, t) else readN (j + 1) (n + (c % 128).toNat * 128 ^ j) t
/-- A reader: what is left of the frame it is in, what is left behind each (the eldest first), its fault. -/
structure RS where
  left : List Int
  outer : List (List Int)
  ft : Int
namespace RS
/-- The next n bytes; none: there are fewer. -/
def next (s : RS) (n : Nat) : Option (List Int × RS) := if n ≤ s.left.length then some (s.left.take n, { s with left := s.left.drop n }) else none
def short (s : RS) : RS := { s with ft := 10 }
def byte (s : RS) : Int × RS := if s.ft = 0 then (match s.left with | [] => (0, s.short) | x :: t => (x, { s with left := t })) else (0, s)
def fixed (s : RS) (size : Int) : Nat × RS := if s.ft = 0 then (if size < 1 ∨ 8 < size then (0, { s with ft := 2 }) else match s.next size.toNat with | none => (0, s.short) | some (p, s') => (upN p, s')) else (0, s)
def num (s : RS) : Nat × RS := if s.ft = 0 then (match readN 0 0 s.left with
  | (none, _, t) => (0, { s with left := t, ft := 10 })
  | (some n, e, t) => (if e = 0 then n else 0, { s with left := t, ft := e })) else (0, s)
def int (s : RS) : Int × RS := (unfoldZ s.num.1, s.num.2)
def real (s : RS) : Nat × RS := if s.ft = 0 then (match s.next 8 with
  | none => (0, s.short)
  | some (p, s') => if cleanBits (upN p.reverse) = upN p.reverse then (upN p.reverse, s') else (0, { s' with ft := 11 })) else (0, s)
def raw (s : RS) (n : Int) : List Int × RS := if s.ft = 0 then (if n < 0 then ([], { s with ft := 2 }) else match s.next n.toNat with | none => ([], s.short) | some (p, s') => (p, s')) else ([], s)
/-- A length: at most most, and so many bytes must be left; the number, the reader behind it, whose fault tells the rest. -/
def size (s : RS) (most : Nat) : Nat × RS := match s.num with
  | (n, s') => if s'.ft = 0 then (if most < n then (0, { s' with ft := 11 }) else if s'.left.length < n then (0, { s' with ft := 10 }) else (n, s')) else (0, s')
def text (s : RS) (most : Int) : List Int × RS := if s.ft = 0 then (match s.size (max most 0).toNat with
  | (n, s') => if s'.ft = 0 then (s'.left.take n, { s' with left := s'.left.drop n }) else ([], s')) else ([], s)
def enter (s : RS) : Nat × RS := if s.ft = 0 then (if s.outer.length = 16 then (0, { s with ft := 11 }) else match s.size 18446744073709551615 with
  | (n, s') => if s'.ft = 0 then (n, { s' with left := s'.left.take n, outer := s'.outer ++ [s'.left.drop n] }) else (0, s')) else (0, s)
def leave (s : RS) : RS := if s.ft = 0 then (match s.outer.getLast? with
  | none => { s with ft := 2 }
  | some l => if s.left = [] then { s with left := l, outer := s.outer.dropLast } else { s with ft := 12 }) else s
def rest (s : RS) : Nat := if s.ft = 0 then s.left.length else 0
def done (s : RS) : Int := if s.ft = 0 then (if s.left = [] ∧ s.outer = [] then 0 else 12) else s.ft
structure Ok (s : RS) : Prop where
  byte : ∀ x ∈ s.left, (0 : Int) ≤ x ∧ x < 256
  outer : ∀ l ∈ s.outer, ∀ x ∈ l, (0 : Int) ≤ x ∧ x < 256
  deep : s.outer.length ≤ 16
end RS
end Go.Proofs.Ytibelfljlhcibaa
