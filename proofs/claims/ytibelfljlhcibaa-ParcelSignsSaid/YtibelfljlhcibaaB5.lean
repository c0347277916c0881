/- Readers: Num, Byte, Done, Rest, Read. -/
import Derived.Test.YtibelfljlhcibaaB4
namespace Go.Proofs.Ytibelfljlhcibaa
set_option linter.unusedVariables false
set_option linter.unusedSimpArgs false
open Go.RowKit Go.Deep Go.Proofs.YtibelfljlhcibaaW.PrintLast

/-- A reader at block k that is in no frame: what it has left, and its fault. -/
def RdAt (w : World) (M k : Nat) (bs : List Int) (ft : Int) : Prop := ∃ A, w.heap[k]? = some (.cells #[.slice A bs.length bs.length, .slice none 0 0, .int .i64 ft] 89 (0, 0)) ∧ LAt w M k A bs
theorem RdAt.below {w w' : World} {M k : Nat} {bs : List Int} {ft : Int} (h : RdAt w M k bs ft) (hM : M ≤ w.heap.size) (B : Below w.heap.size w w') : RdAt w' M k bs ft := by
  obtain ⟨A, h1, h2⟩ := h
  exact ⟨A, blk_below h1 B, h2.below hM B⟩
theorem RdAt.lt {w : World} {M k : Nat} {bs : List Int} {ft : Int} (h : RdAt w M k bs ft) : k < w.heap.size := by
  obtain ⟨A, h1, h2⟩ := h
  exact blk_lt h1
set_option maxHeartbeats 1000000 in
theorem rNum_any {w : World} {M k : Nat} {bs : List Int} (h : RdAt w M k bs 0) (hM : M ≤ w.heap.size) (hb : ∀ x ∈ bs, 0 ≤ x ∧ x < 256) :
    Calls Try.prog 17 #[.pointer (some ⟨k, 0, none⟩)] w fun e w' => e = .returned (.int .u64 (outV (readN 0 0 bs).1 (readN 0 0 bs).2.1)) ∧ RdAt w' M k (readN 0 0 bs).2.2 (outF (readN 0 0 bs).1 (readN 0 0 bs).2.1) ∧ w.grownBy w' (some k) := by
  have hmf : ∀ (fn : Fn) (first cap : Array Value) (w : World), (Instr.makeFunc fn first cap).run Try.prog w = .ok (.func fn first cap) w := fun _ _ _ _ => rfl
  obtain ⟨A, hk, hL⟩ := h
  have TK := Lib.hid (take_u64 (f := 60) (first := #[.pointer (some ⟨k, 0, none⟩)]) (cap := #[]) (ft' := (readN 0 0 bs).2.1) (fun lv w' => ∃ A', lv = .slice A' (readN 0 0 bs).2.2.length (readN 0 0 bs).2.2.length ∧ LAt w' M k A' (readN 0 0 bs).2.2) Try.func60 (by kernel_rfl) (by kernel_rfl) hk (readN 0 0 bs).1
    (fun lv w1 w2 ⟨A', h1, h2⟩ hg => ⟨A', h1, h2.moved fun g h3 h4 => hg g (by omega) h4⟩)
    (fun _ wd B => (rnum_any (blk_below hk B) (hL.below hM B) hb).mono fun e w' ⟨A', R, L, O⟩ => ⟨⟨_, R, A', rfl, L⟩, O⟩))
  clear hL hb hk
  go_enter Try.func17, Try.ntmps17
  go_wp2_with (fail)
  refine TK.out.mono ?_
  rintro e w2 h
  rw [if_pos (by trivial)] at h
  obtain ⟨rfl, lv, ⟨G, hk2⟩, A', rfl, L⟩ := h
  go_wp2_with (fail)
  go_ret
  exact ⟨rfl, ⟨A', hk2, L⟩, G⟩
def readB : List Int → Option Int × Int × List Int
  | [] => (none, 0, [])
  | x :: t => (some x, 0, t)
set_option maxHeartbeats 1000000 in
theorem byte1_any {w : World} {M k z : Nat} {A : Option Addr} {ov : Value} {bs : List Int} (hz : w.cell? ⟨z, 0, none⟩ = some (.pointer (some ⟨k, 0, none⟩))) (hk : w.heap[k]? = some (.cells #[.slice A bs.length bs.length, ov, .int .i64 0] 89 (0, 0))) (hL : LAt w M k A bs) (hb : ∀ x ∈ bs, 0 ≤ x ∧ x < 256) :
    Calls Try.prog 62 #[.pointer (some ⟨z, 0, none⟩)] w fun e w' => readP .i64 M k w w' ov (readB bs) e := by
  have NX := Lib.hid (next1_any hk hL)
  clear hk hL
  go_enter Try.func62, Try.ntmps62
  cases bs with
  | nil =>
    go_wp2_with (fail)
    refine NX.out.mono ?_
    rintro e w2 ⟨⟨A2, G2, K2⟩, u, pv, rfl⟩
    go_wp2_with (fail)
    refine ⟨rfl, ?_⟩
    exact ⟨A2, ⟨G2, K2⟩, fun h => absurd rfl h, u, pv, rfl⟩
  | cons c t =>
    obtain ⟨c0, c1⟩ := hb c (List.mem_cons_self)
    clear hb
    go_wp2_with (fail)
    refine NX.out.mono ?_
    rintro e w2 ⟨g, o, A2, rfl, x0, R2, L2⟩
    have HR2 := Lib.hid R2
    have HL2 := Lib.hid L2
    clear R2 L2
    go_wp2_with (fail)
    go_ret
    exact ⟨A2, HR2.out, HL2.out, rfl⟩
set_option maxHeartbeats 1000000 in
theorem rByte_any {w : World} {M k : Nat} {bs : List Int} (h : RdAt w M k bs 0) (hM : M ≤ w.heap.size) (hb : ∀ x ∈ bs, 0 ≤ x ∧ x < 256) :
    Calls Try.prog 20 #[.pointer (some ⟨k, 0, none⟩)] w fun e w' => e = .returned (.int .i64 (outV (readB bs).1 (readB bs).2.1)) ∧ RdAt w' M k (readB bs).2.2 (outF (readB bs).1 (readB bs).2.1) ∧ w.grownBy w' (some k) := by
  have hmf : ∀ (fn : Fn) (first cap : Array Value) (w : World), (Instr.makeFunc fn first cap).run Try.prog w = .ok (.func fn first cap) w := fun _ _ _ _ => rfl
  obtain ⟨A, hk, hL⟩ := h
  have hlt := blk_lt hk
  have hk1 := blk_alloc hk (.cells #[.pointer (some ⟨k, 0, none⟩)] 28)
  have hL1 := hL.below hM ((Below.refl w.heap.size w).alloc (Nat.le_refl _) (.cells #[.pointer (some ⟨k, 0, none⟩)] 28))
  have BZ := blk_new w (.cells #[.pointer (some ⟨k, 0, none⟩)] 28)
  have z0 : (w.alloc (.cells #[.pointer (some ⟨k, 0, none⟩)] 28)).cell? ⟨w.heap.size, 0, none⟩ = some (.pointer (some ⟨k, 0, none⟩)) := cell_blk BZ 0 rfl
  have TK := Lib.hid (take_int (f := 62) (first := #[]) (cap := #[.pointer (some ⟨w.heap.size, 0, none⟩)]) (ft' := (readB bs).2.1) (fun lv w' => ∃ A', lv = .slice A' (readB bs).2.2.length (readB bs).2.2.length ∧ LAt w' M k A' (readB bs).2.2) Try.func62 (by kernel_rfl) (by kernel_rfl) hk1 (readB bs).1
    (fun lv w1 w2 ⟨A', h1, h2⟩ hg => ⟨A', h1, h2.moved fun g h3 h4 => hg g (by simp; omega) h4⟩)
    (fun _ wd B => (byte1_any (cell_blk (blk_below BZ B) 0 rfl) (blk_below hk1 B) (hL1.below (by simp; omega) B) hb).mono fun e w' ⟨A', R, L, O⟩ => ⟨⟨_, R, A', rfl, L⟩, O⟩))
  have GA : w.grownBy (w.alloc (.cells #[.pointer (some ⟨k, 0, none⟩)] 28)) (some k) := ⟨rfl, rfl, rfl, by simp, fun j hj _ => Below.heap_alloc _ _ _ hj⟩
  have HGA := Lib.hid GA
  clear hL hb hk hk1 hL1 BZ GA
  go_enter Try.func20, Try.ntmps20
  go_wp2_with (fail)
  refine TK.out.mono ?_
  rintro e w2 h
  rw [if_pos (by trivial)] at h
  obtain ⟨rfl, lv, ⟨G, hk2⟩, A', rfl, L⟩ := h
  go_wp2_with (fail)
  go_ret
  exact ⟨rfl, ⟨A', hk2, L⟩, grown_trans HGA.out G⟩
end Go.Proofs.Ytibelfljlhcibaa
