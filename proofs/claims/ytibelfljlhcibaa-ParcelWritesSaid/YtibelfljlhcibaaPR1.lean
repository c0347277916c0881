/- A reader where it lies; next. -/
import Derived.Test.YtibelfljlhcibaaPO
import Derived.Test.YtibelfljlhcibaaPW1
import Derived.Lib.BoundsPanic
namespace Go.Proofs.Ytibelfljlhcibaa
set_option linter.unusedVariables false
set_option linter.unusedSimpArgs false
open Go.RowKit Go.Deep Go.Proofs.YtibelfljlhcibaaW.PrintLast

abbrev TR : TypeId := 89
/-- Bytes in a block of bytes of F's. -/
def LB (w : World) (F : Nat → Prop) (A : Option Addr) (bs : List Int) : Prop := bs ≠ [] → ∃ (g o : Nat) (cur : Array Value), A = some ⟨g, o, none⟩ ∧ F g ∧ w.heap[g]? = some (.cells cur 5 (0, 0)) ∧ ∀ (j : Nat) x, bs[j]? = some x → cur[o + j]? = some (.int .u8 x)
section
variable {w w' : World} {F G : Nat → Prop} {A : Option Addr} {bs : List Int}
theorem LB.nil : LB w F A [] := fun h => absurd rfl h
theorem LB.src (h : LB w F A bs) : BSrc w A bs := fun hne => by
  obtain ⟨g, o, cur, h1, _, h3, h4⟩ := h hne
  exact ⟨g, o, h1, fun j x hx => cell_blk h3 _ (h4 j x hx)⟩
theorem LB.mono (h : LB w F A bs) (hF : ∀ x, F x → G x) : LB w G A bs := fun hne => by
  obtain ⟨g, o, cur, h1, h2, h3⟩ := h hne
  exact ⟨g, o, cur, h1, hF g h2, h3⟩
theorem LB.keeps (h : LB w F A bs) (hk : KeepT 5 w w') : LB w' F A bs := fun hne => by
  obtain ⟨g, o, cur, h1, h2, h3, h4⟩ := h hne
  exact ⟨g, o, cur, h1, h2, hk _ _ h3, h4⟩
theorem LB.same (h : LB w F A bs) (hk : ∀ b, F b → b < w.heap.size → w'.heap[b]? = w.heap[b]?) : LB w' F A bs := fun hne => by
  obtain ⟨g, o, cur, h1, h2, h3, h4⟩ := h hne
  exact ⟨g, o, cur, h1, h2, (hk g h2 (blk_lt h3)).trans h3, h4⟩
theorem LB.take (h : LB w F A bs) (n : Nat) : LB w F A (bs.take n) := fun hne => by
  obtain ⟨g, o, cur, h1, h2, h3, h4⟩ := h (by rintro rfl; simp at hne)
  refine ⟨g, o, cur, h1, h2, h3, fun j x hx => h4 j x ?_⟩
  rw [List.getElem?_take] at hx
  split at hx
  · exact hx
  · cases hx
theorem LB.drop {g o : Nat} (h : LB w F (some ⟨g, o, none⟩) bs) (n : Nat) : LB w F (some ⟨g, o + n, none⟩) (bs.drop n) := fun hne => by
  obtain ⟨g', o', cur, h1, h2, h3, h4⟩ := h (by rintro rfl; simp at hne)
  injection h1 with h1; injection h1 with e1 e2; subst e1; subst e2
  refine ⟨g, o + n, cur, rfl, h2, h3, fun j x hx => ?_⟩
  rw [List.getElem?_drop] at hx
  rw [Nat.add_assoc]
  exact h4 _ _ hx
end
abbrev SlB := Option Addr × Nat × Nat
def encSl (s : SlB) : List Value := [.slice s.1 s.2.1 s.2.2]
theorem elSl : ElT Try.prog encSl 45 23 1 24 (.slice none 0 0) := ⟨Try.underlying45, by kernel_rfl, rfl, by decide, fun _ => rfl, fun x u hu => by simp [encSl] at hu; subst hu; rfl⟩
/-- What is left behind each frame. -/
def OutL (w : World) (F : Nat → Prop) (ss : List SlB) (ls : List (List Int)) : Prop := ss.length = ls.length ∧ ∀ (i : Nat) s l, ss[i]? = some s → ls[i]? = some l → s.2 = (l.length, l.length) ∧ LB w F s.1 l
/-- A reader at block k; its blocks are F's. -/
def RLies (w : World) (F : Nat → Prop) (k : Nat) (s : RS) : Prop := ∃ A OA oc ss, w.heap[k]? = some (.cells #[.slice A s.left.length s.left.length, .slice OA s.outer.length oc, .int .i64 s.ft] TR (0, 0)) ∧ F k ∧ LB w F A s.left ∧ RowF encSl 23 1 w F OA oc ss ∧ OutL w F ss s.outer
def UpdR (F : Nat → Prop) (k : Nat) (w w' : World) (s : RS) : Prop := RLies w' F k s ∧ Fr F w w'
/-- F, and, where N says so, what has come. -/
def GrN (N : Bool) (F : Nat → Prop) (w w' : World) (b : Nat) : Prop := F b ∨ (N = true ∧ w.heap.size ≤ b ∧ b < w'.heap.size)
def UpdN (N : Bool) (F : Nat → Prop) (k : Nat) (w w' : World) (s : RS) : Prop := RLies w' (GrN N F w w') k s ∧ Fr F w w'
section
variable {w w' w1 w2 : World} {F G : Nat → Prop} {k : Nat} {s s' : RS}
theorem OutL.mono {ss : List SlB} {ls : List (List Int)} (h : OutL w F ss ls) (hF : ∀ x, F x → G x) : OutL w G ss ls := ⟨h.1, fun i s l hs hl => ⟨(h.2 i s l hs hl).1, (h.2 i s l hs hl).2.mono hF⟩⟩
theorem OutL.keeps {ss : List SlB} {ls : List (List Int)} (h : OutL w F ss ls) (hk : KeepT 5 w w') : OutL w' F ss ls := ⟨h.1, fun i s l hs hl => ⟨(h.2 i s l hs hl).1, (h.2 i s l hs hl).2.keeps hk⟩⟩
theorem OutL.same {ss : List SlB} {ls : List (List Int)} (h : OutL w F ss ls) (hk : ∀ b, F b → b < w.heap.size → w'.heap[b]? = w.heap[b]?) : OutL w' F ss ls := ⟨h.1, fun i s l hs hl => ⟨(h.2 i s l hs hl).1, (h.2 i s l hs hl).2.same hk⟩⟩
theorem RLies.lt (h : RLies w F k s) : k < w.heap.size := by obtain ⟨_, _, _, _, h, _⟩ := h; exact blk_lt h
theorem RLies.in_ (h : RLies w F k s) : F k := by obtain ⟨_, _, _, _, _, h, _⟩ := h; exact h
theorem RLies.mono (h : RLies w F k s) (hF : ∀ x, F x → G x) : RLies w G k s := by
  obtain ⟨A, OA, oc, ss, h1, h2, h3, h4, h5⟩ := h
  exact ⟨A, OA, oc, ss, h1, hF k h2, h3.mono hF, h4.mono hF, h5.mono hF⟩
theorem RLies.same (h : RLies w F k s) (hk : ∀ b, F b → b < w.heap.size → w'.heap[b]? = w.heap[b]?) : RLies w' F k s := by
  have hl := h.lt
  obtain ⟨A, OA, oc, ss, h1, h2, h3, h4, h5⟩ := h
  exact ⟨A, OA, oc, ss, (hk k h2 hl).trans h1, h2, h3.same hk, h4.same hk, h5.same hk⟩
theorem RLies.below (h : RLies w F k s) (hb : Below w.heap.size w w') : RLies w' F k s := h.same fun b _ hl => hb.block b hl
theorem RLies.fr (h : RLies w F k s) (hf : Fr G w w') (hd : ∀ b, F b → ¬ G b) : RLies w' F k s := h.same fun b hF hl => hf.block b hl (hd b hF)
theorem RLies.drew (h : RLies w F k s) : RLies w.drew F k s := h.same fun _ _ _ => rfl
theorem RLies.fault (h : RLies w F k s) (e : Int) : RLies (w.setCell ⟨k, 2, none⟩ (.int .i64 e)) F k { s with ft := e } := by
  obtain ⟨A, OA, oc, ss, h1, h2, h3, h4, h5⟩ := h
  exact ⟨A, OA, oc, ss, setCell_heap w k 2 _ _ _ _ h1, h2, h3.keeps (KeepT.setCell h1 (by decide) 2 _), h4.keeps (KeepT.setCell h1 (by decide) 2 _), h5.keeps (KeepT.setCell h1 (by decide) 2 _)⟩
theorem UpdR.refl (h : RLies w F k s) : UpdR F k w w s := ⟨h, Fr.refl F w⟩
theorem UpdR.fault (h : RLies w F k s) (e : Int) : UpdR F k w (w.setCell ⟨k, 2, none⟩ (.int .i64 e)) { s with ft := e } := ⟨h.fault e, Fr.set w h.in_ _⟩
theorem UpdR.of_below (h : RLies w F k s) (hb : Below w.heap.size w w') : UpdR F k w w' s := ⟨h.below hb, Fr.below F hb⟩
theorem UpdR.trans (h : UpdR F k w w1 s) (h' : UpdR F k w1 w2 s') : UpdR F k w w2 s' := ⟨h'.1, h.2.trans h'.2 fun _ _ h => h⟩
theorem UpdR.after (hb : Below w.heap.size w w1) (h' : UpdR F k w1 w2 s') : UpdR F k w w2 s' := ⟨h'.1, (Fr.below F hb).trans h'.2 fun _ _ h => h⟩
theorem UpdR.ahead (h : UpdR F k w w1 s) (hb : Below w1.heap.size w1 w2) : UpdR F k w w2 s := ⟨h.1.below hb, h.2.trans (Fr.below F hb) fun _ _ h => h⟩
theorem UpdR.mono (h : UpdR F k w w' s) (hF : ∀ x, F x → G x) : UpdR G k w w' s := ⟨h.1.mono hF, h.2.mono hF⟩
theorem UpdR.n (h : UpdR F k w w' s) (N : Bool) : UpdN N F k w w' s := ⟨h.1.mono fun _ h => Or.inl h, h.2⟩
theorem UpdN.strict (h : UpdN false F k w w' s) : UpdR F k w w' s := ⟨h.1.mono (fun x hx => by
  rcases hx with hx | ⟨hx, _⟩
  · exact hx
  · cases hx), h.2⟩
theorem UpdN.gr (h : UpdN true F k w w' s) : RLies w' (Gr F w w') k s := h.1.mono fun x hx => by
  rcases hx with hx | ⟨_, hx⟩
  · exact Or.inl hx
  · exact Or.inr hx
theorem UpdN.fault {N : Bool} (h : UpdN N F k w w' s) (hk : F k) (e : Int) : UpdN N F k w (w'.setCell ⟨k, 2, none⟩ (.int .i64 e)) { s with ft := e } :=
  ⟨(h.1.fault e).mono fun x hx => by
    rcases hx with hx | ⟨h1, h2⟩
    · exact Or.inl hx
    · exact Or.inr ⟨h1, by rw [setCell_size]; exact h2⟩, h.2.trans (Fr.set _ hk _) fun _ _ h => h⟩
theorem RLies.tight (h : RLies w F k s) : RLies w (fun b => F b ∧ b < w.heap.size) k s := by
  have hl := h.lt
  obtain ⟨A, OA, oc, ss, h1, h2, h3, h4, h5⟩ := h
  refine ⟨A, OA, oc, ss, h1, ⟨h2, hl⟩, fun hne => ?_, ?_, h5.1, fun i s l hs hl => ⟨(h5.2 i s l hs hl).1, fun hne => ?_⟩⟩
  · obtain ⟨g, o, cur, g1, g2, g3⟩ := h3 hne
    exact ⟨g, o, cur, g1, ⟨g2, blk_lt g3.1⟩, g3⟩
  · rcases h4 with h4 | ⟨g, g1, g2, g3⟩
    · exact Or.inl h4
    · exact Or.inr ⟨g, g1, ⟨g2, g3.lt⟩, g3⟩
  · obtain ⟨g, o, cur, g1, g2, g3⟩ := (h5.2 i s l hs hl).2 hne
    exact ⟨g, o, cur, g1, ⟨g2, blk_lt g3.1⟩, g3⟩
theorem cell_of' {w w' : World} {k o : Nat} {v : Value} (h : w.cell? ⟨k, o, none⟩ = some v) (hb : w'.heap[k]? = w.heap[k]?) : w'.cell? ⟨k, o, none⟩ = some v := by
  rw [World.cell?_of_block (w := w) hb]; exact h
theorem bpN (n l : Nat) (hn : n ≤ 9223372036854775807) (W : World) : ∃ v W', (boundsPanic (α := Nat) .i64 n l .slice3Acap).run Try.prog W = .halt (.panic (.iface Try.prog.rt.boundsError v)) W' ∧ (W' = W ∨ W' = W.drew) := by
  have hw : IntKind.i64.wrap (n : Int) = n := IntWalk.i64_in _ (by omega)
  by_cases h : 31 < n
  · refine ⟨.agg #[.int .i64 n, .int .i64 l, .bool true, .int .u8 BoundsCode.slice3Acap.toNat], W, ?_, Or.inl rfl⟩
    simp [boundsPanic, Question.forced, Question.cut, runtimePanic, goPanic, hw]
    rw [if_neg (by omega)]
    rfl
  · refine ⟨.agg #[.int .i64 n, .int .i64 l, .bool (W.tape W.drawn (.extern "runtime.boundsError.signed" 2) % 2 == 1), .int .u8 BoundsCode.slice3Acap.toNat], W.drew, ?_, Or.inr rfl⟩
    simp [boundsPanic, Question.forced, Question.cut, runtimePanic, goPanic, hw]
    intro h'
    omega
/-- What next hands back. -/
def NextP (F : Nat → Prop) (k : Nat) (w : World) (s : RS) (n : Nat) (e : Ending) (w' : World) : Prop :=
  match s.next n with
  | some (p, s') => (∃ A, e = .returned (.slice A p.length p.length) ∧ LB w' F A p) ∧ UpdR F k w w' s'
  | none => (∃ u pv, e = .panicked [{ v := .iface u pv, recovered := false }]) ∧ UpdR F k w w' s
set_option maxRecDepth 100000 in
set_option maxHeartbeats 1000000 in
theorem next_bad (h : RLies w F k s) (n : Nat) (hn : n ≤ 9223372036854775807) (hlt : s.left.length < n) :
    Calls Try.prog 63 #[.pointer (some ⟨k, 0, none⟩), .int .i64 n] w (NextP F k w s n) := by
  have HS := Lib.hid (show s.next n = none by unfold RS.next; rw [if_neg (by omega)])
  have H := Lib.hid h
  obtain ⟨A, OA, oc, ss, h1, _⟩ := h
  obtain ⟨L, hL⟩ : ∃ L, L = s.left.length := ⟨_, rfl⟩
  rw [← hL] at h1 hlt
  have c0 : w.cell? ⟨k, 0, none⟩ = some (.slice A L L) := cell_blk h1 0 rfl
  obtain ⟨v, W', hv, hW⟩ := bpN n L hn w
  have HW := Lib.hid (show Below w.heap.size w W' by rcases hW with rfl | rfl; exact Below.refl _ _; exact (Below.refl _ _).drew)
  clear hW
  have q1 : (L : Int) < (n : Int) := by omega
  have q2 : ¬ (n : Int) ≤ (L : Int) := by omega
  have q3 : ¬ n ≤ L := by omega
  clear h1 hL
  go_enter Try.func63, Try.ntmps63
  go_wp2_with (fail)
  refine ⟨rfl, ?_⟩
  unfold NextP
  rw [HS.out]
  exact ⟨⟨_, _, rfl⟩, UpdR.of_below H.out HW.out⟩
theorem RLies.setLeft (h : RLies w F k s) {A' : Option Addr} {l : List Int} (hA : LB w F A' l) : RLies (w.setCell ⟨k, 0, none⟩ (.slice A' l.length l.length)) F k { s with left := l } ∧ LB (w.setCell ⟨k, 0, none⟩ (.slice A' l.length l.length)) F A' l ∧ ∀ (B : Option Addr) (m : List Int), LB w F B m → LB (w.setCell ⟨k, 0, none⟩ (.slice A' l.length l.length)) F B m := by
  obtain ⟨A, OA, oc, ss, h1, h2, h3, h4, h5⟩ := h
  have K : KeepT 5 w (w.setCell ⟨k, 0, none⟩ (.slice A' l.length l.length)) := KeepT.setCell h1 (by decide) 0 _
  exact ⟨⟨A', OA, oc, ss, setCell_heap w k 0 _ _ _ _ h1, h2, hA.keeps K, h4.keeps (KeepT.setCell h1 (by decide) 0 _), h5.keeps K⟩, hA.keeps K, fun B m hm => hm.keeps K⟩
theorem next_give (h : RLies w F k s) {n : Nat} (hn : n ≤ s.left.length) {A A' : Option Addr} (hA : LB w F A (s.left.take n)) (hA' : LB w F A' (s.left.drop n)) {L : Nat} (hL : L = s.left.length) :
    NextP F k w s n (.returned (.slice A n n)) (w.setCell ⟨k, 0, none⟩ (.slice A' (L - n) (L - n))) := by
  unfold NextP RS.next
  rw [if_pos hn]
  have e : L - n = (s.left.drop n).length := by rw [List.length_drop, hL]
  have e2 : n = (s.left.take n).length := by rw [List.length_take]; omega
  obtain ⟨r1, r2, r3⟩ := h.setLeft hA'
  rw [e]
  exact ⟨⟨A, by rw [← e2], r3 _ _ hA⟩, r1, Fr.set w h.in_ _⟩
set_option maxRecDepth 100000 in
set_option maxHeartbeats 1000000 in
theorem next_ok (h : RLies w F k s) (n : Nat) (hn : n ≤ s.left.length) (h63 : s.left.length ≤ 9223372036854775807) :
    Calls Try.prog 63 #[.pointer (some ⟨k, 0, none⟩), .int .i64 n] w (NextP F k w s n) := by
  have H := Lib.hid h
  obtain ⟨A, OA, oc, ss, h1, _, h3, _⟩ := h
  obtain ⟨L, hL⟩ : ∃ L, L = s.left.length := ⟨_, rfl⟩
  rw [← hL] at h1 h63
  have HN := Lib.hid hn
  rw [← hL] at hn
  have c0 : w.cell? ⟨k, 0, none⟩ = some (.slice A L L) := cell_blk h1 0 rfl
  have f0 := free_blk h1 0
  have HL := Lib.hid hL
  have H3 := Lib.hid h3
  clear h1 h3 hL
  by_cases hz : L = 0
  · subst hz
    obtain rfl : n = 0 := by omega
    have hs : s.left = [] := by have := HL.out; exact List.length_eq_zero_iff.1 this.symm
    have HS := Lib.hid hs
    clear hs
    cases A with
    | none =>
      go_enter Try.func63, Try.ntmps63
      go_wp2_with (fail)
      go_ret
      exact next_give H.out (Nat.zero_le _) (by rw [HS.out]; exact LB.nil) (by rw [HS.out]; exact LB.nil) HL.out
    | some a =>
      go_enter Try.func63, Try.ntmps63
      go_wp2_with (fail)
      go_ret
      exact next_give H.out (Nat.zero_le _) (by rw [HS.out]; exact LB.nil) (by rw [HS.out]; exact LB.nil) HL.out
  · obtain ⟨g, o, cur, rfl, _⟩ := H3.out (by have := HL.out; intro h; rw [h] at this; simp at this; omega)
    have HD := Lib.hid (H3.out.drop n)
    by_cases he : L = n
    · subst he
      go_enter Try.func63, Try.ntmps63
      go_wp2_with (fail)
      go_ret
      have e0 : s.left.drop L = [] := by rw [HL.out, List.drop_length]
      have HH := next_give (A' := some ⟨g, o, none⟩) H.out HN.out (H3.out.take _) (by rw [e0]; exact LB.nil) HL.out
      rw [Nat.sub_self] at HH
      exact HH
    · have q1 : n < L := by omega
      go_enter Try.func63, Try.ntmps63
      go_wp2_with (fail)
      go_ret
      exact next_give H.out HN.out (H3.out.take _) HD.out HL.out
theorem next_any (h : RLies w F k s) (n : Nat) (hn : n ≤ 9223372036854775807) (h63 : s.left.length ≤ 9223372036854775807) :
    Calls Try.prog 63 #[.pointer (some ⟨k, 0, none⟩), .int .i64 n] w (NextP F k w s n) := by
  by_cases hc : n ≤ s.left.length
  · exact next_ok h n hc h63
  · exact next_bad h n hn (by omega)
end
end Go.Proofs.Ytibelfljlhcibaa
