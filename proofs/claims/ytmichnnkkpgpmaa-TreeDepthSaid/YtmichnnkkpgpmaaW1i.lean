/- Trees where they lie: what is told of them, and how they are made. Printed out of one text for each instance (wip/tools/inst.py). -/
import Derived.Test.YtmichnnkkpgpmaaM1
import Derived.Test.YtmichnnkkpgpmaaS2
import Derived.Test.YtmichnnkkpgpmaaWLast
namespace Go.Proofs.Ytmichnnkkpgpmaa
set_option linter.unusedVariables false
set_option linter.unusedSimpArgs false
open Go.RowKit Go.Deep Go.Proofs.YtmichnnkkpgpmaaW.PrintLast
namespace Ti
abbrev Tr := T Int Int
def TreeAt (w : World) : Option Addr → Tr → Prop
  | p, .nil => p = none
  | p, .node l k v r => ∃ b pl pr, p = some ⟨b, 0, none⟩ ∧ w.heap[b]? = some (.cells #[.pointer pl, .pointer pr, (.int .i64 k), (.int .i64 v), .int .i64 ((l.size + 1 + r.size : Nat) : Int), .int .i64 ((1 + max l.depth r.depth : Nat) : Int)] 110 (0, 0)) ∧ TreeAt w pl l ∧ TreeAt w pr r
theorem TreeAt.keeps {w w' : World} (h : KeepT 110 w w') : ∀ {p : Option Addr} {t : Tr}, TreeAt w p t → TreeAt w' p t
  | _, .nil, ht => ht
  | _, .node _ _ _ _, ⟨b, pl, pr, hp, hb, hl, hr⟩ => ⟨b, pl, pr, hp, h _ _ hb, TreeAt.keeps h hl, TreeAt.keeps h hr⟩
theorem TreeAt.below {w w' : World} {p : Option Addr} {t : Tr} (ht : TreeAt w p t) (hb : Below w.heap.size w w') : TreeAt w' p t := TreeAt.keeps (KeepT.below hb) ht
theorem TreeAt.drew {w : World} {p : Option Addr} {t : Tr} (ht : TreeAt w p t) : TreeAt w.drew p t := TreeAt.keeps (KeepT.drew _ _) ht
/-- A call has made a tree. -/
def NewT (w : World) (t : Tr) (e : Ending) (w' : World) : Prop := ∃ p, e = .returned (.pointer p) ∧ TreeAt w' p t ∧ Below w.heap.size w w'
def big : Nat := 4611686018427387904
set_option maxHeartbeats 400000 in
theorem len_any {w : World} {p : Option Addr} {t : Tr} (h : TreeAt w p t) : Calls Try.prog 16 #[.pointer p] w fun e w' => e = .returned (.int .i64 (t.size : Int)) ∧ w = w' := by
  go_enter Try.func16, Try.ntmps16
  cases t with
  | nil =>
    obtain rfl : p = none := h
    go_wp2_with (fail)
    go_ret
    exact ⟨rfl, rfl⟩
  | node l k v r =>
    obtain ⟨b, pl, pr, rfl, hb, hl, hr⟩ := h
    have c4 := cell_blk hb 4 rfl
    clear hb
    go_wp2_with (fail)
    go_ret
    exact ⟨rfl, rfl⟩
set_option maxHeartbeats 400000 in
theorem depth_any {w : World} {p : Option Addr} {t : Tr} (h : TreeAt w p t) : Calls Try.prog 27 #[.pointer p] w fun e w' => e = .returned (.int .i64 (t.depth : Int)) ∧ w = w' := by
  go_enter Try.func27, Try.ntmps27
  cases t with
  | nil =>
    obtain rfl : p = none := h
    go_wp2_with (fail)
    go_ret
    exact ⟨rfl, rfl⟩
  | node l k v r =>
    obtain ⟨b, pl, pr, rfl, hb, hl, hr⟩ := h
    have c5 := cell_blk hb 5 rfl
    clear hb
    go_wp2_with (fail)
    go_ret
    exact ⟨rfl, rfl⟩
set_option maxHeartbeats 1000000 in
theorem node_any {w : World} {pl pr : Option Addr} {l r : Tr} (hl : TreeAt w pl l) (hr : TreeAt w pr r) (hs : l.size + 1 + r.size < big) (k : Int) (v : Int) :
    Calls Try.prog 70 #[.pointer pl, (.int .i64 k), (.int .i64 v), .pointer pr] w (NewT w (.node l k v r)) := by
  have L1 := Lib.hid (len_any hl)
  have L2 := Lib.hid (len_any hr)
  have D1 := Lib.hid (depth_any hl)
  have D2 := Lib.hid (depth_any hr)
  have HL := Lib.hid hl
  have HR := Lib.hid hr
  have d1 := T.depth_le l
  have d2 := T.depth_le r
  unfold big at hs
  clear hl hr
  obtain ⟨sl, hsl⟩ : ∃ sl : Nat, sl = l.size := ⟨_, rfl⟩
  obtain ⟨sr, hsr⟩ : ∃ sr : Nat, sr = r.size := ⟨_, rfl⟩
  obtain ⟨dl, hdl⟩ : ∃ dl : Nat, dl = l.depth := ⟨_, rfl⟩
  obtain ⟨dr, hdr⟩ : ∃ dr : Nat, dr = r.depth := ⟨_, rfl⟩
  rw [← hsl] at L1 hs d1
  rw [← hsr] at L2 hs d2
  rw [← hdl] at D1 d1
  rw [← hdr] at D2 d2
  have E1 := Lib.hid hsl
  have E2 := Lib.hid hsr
  have E3 := Lib.hid hdl
  have E4 := Lib.hid hdr
  clear hsl hsr hdl hdr
  go_enter Try.func70, Try.ntmps70
  go_wp2_with (fail)
  refine L1.out.mono ?_
  rintro e w_ ⟨rfl, rfl⟩
  go_wp2_with (fail)
  refine L2.out.mono ?_
  rintro e w_ ⟨rfl, rfl⟩
  go_wp2_with (fail)
  refine D1.out.mono ?_
  rintro e w_ ⟨rfl, rfl⟩
  go_wp2_with (fail)
  refine D2.out.mono ?_
  rintro e w_ ⟨rfl, rfl⟩
  go_wp2_with (fail)
  all_goals
    go_ret
    refine ⟨_, rfl, ⟨w.heap.size, pl, pr, rfl, ?_, HL.out.below ((Below.refl _ _).alloc (Nat.le_refl _) _), HR.out.below ((Below.refl _ _).alloc (Nat.le_refl _) _)⟩, (Below.refl _ _).alloc (Nat.le_refl _) _⟩
    rw [blk_new]
    have h1 := E1.out
    have h2 := E2.out
    have h3 := E3.out
    have h4 := E4.out
    subst h1 h2 h3 h4
    simp
    omega
end Ti
end Go.Proofs.Ytmichnnkkpgpmaa
