/- slices.Backward over bytes: its closure as an iterator. -/
import Derived.Test.YtibelfljlhcibaaPR1
import Derived.RangeFuncBox
import Derived.RangeFuncLeaves
import Derived.RangeFuncNested
import Derived.RangeFuncFrom
import Derived.RangeFuncCalls
import Derived.Shelf.Abstract
import Derived.OwnWalkIn
import Derived.TacticsInMore
import Derived.LoopNIn
import Derived.LoopIn
namespace Go.Proofs.Ytibelfljlhcibaa
set_option linter.unusedVariables false
set_option linter.unusedSimpArgs false
open Go.RowKit Go.Deep Go.Shelf Go.Proofs.YtibelfljlhcibaaW.PrintLast
attribute [local go_sem] Oper.semAt_some

/-- The last k places, the last one first, with what stands there. -/
def backs (p : List Int) : Nat → List (Int × Int)
  | 0 => []
  | k + 1 => backs p k ++ [((p.length : Int) - 1 - k, p.getD (p.length - 1 - k) 0)]
theorem backs_len (p : List Int) : ∀ k, (backs p k).length = k
  | 0 => rfl
  | k + 1 => by rw [backs, List.length_append, backs_len p k]; rfl
def encBk (x : Int × Int) : Array Value := #[.int .i64 x.1, .int .u8 x.2]
/-- What a round keeps: what lay below n₀, and the slice's box. -/
def KpB (n₀ Bs : Nat) (W W' : World) : Prop := Below n₀ W W' ∧ W'.heap[Bs]? = W.heap[Bs]?
set_option maxRecDepth 100000 in
set_option maxHeartbeats 2000000 in
theorem back1_in (n : Nat) (hn : 1 ≤ n) (l Bs n₀ : Nat) (A : Option Addr) (cap : Nat) (p : List Int) (hl : p.length ≤ 140737488355328) (J Jx : List (Int × Int) → World → Prop)
    (hY : ∀ pre x W, J pre W → pre.length < p.length → YieldAt Fence.wide (n - 1) Try.prog l (encBk x) W fun e W' => (e = .returned (.bool true) ∧ J (pre ++ [x]) W' ∧ KpB n₀ Bs W W') ∨ (e = .returned (.bool false) ∧ Jx (pre ++ [x]) W'))
    (W : World) (hBs : W.heap[Bs]? = some (.cells #[.slice A p.length cap] 23 (0, 0))) (hp : p ≠ [] → ∃ g o, A = some ⟨g, o, none⟩ ∧ g < n₀ ∧ BsAt W g o p) (h0 : J [] W) :
    CallsIn Fence.wide n Try.prog 132 #[.func (.yield l) #[] #[], .pointer (some ⟨Bs, 0, none⟩)] W fun e W' => (∃ v, e = .returned v) ∧
      ((∃ ys, ys = backs p p.length ∧ J ys W') ∨ (∃ pre, (∃ k, k ≤ p.length ∧ pre = backs p k) ∧ Jx pre W')) := by
  have c0 := cell_blk hBs 0 rfl
  have HBs := Lib.hid hBs
  have HP := Lib.hid hp
  clear hBs hp
  refine callsIn_of_wp Try.func132 rfl trivial ?_ rfl
  simp only [Try.ntmps132, List.size_toArray, List.length_cons, List.length_nil, Nat.reduceAdd, Nat.reduceSub, Array.replicate_succ, Array.replicate_zero, List.push_toArray, List.append_toArray, List.nil_append, List.cons_append]
  gi_wp2
  gi_loopw [3] (fun i wr => ∃ (k : Nat) (j : Int), k ≤ p.length ∧ i = .int .i64 j ∧ j + k + 1 = p.length ∧ J (backs p k) wr ∧ KpB n₀ Bs W wr)
    (fun i _ => (intOf i + 1).toNat)
  case atStart => exact ⟨0, (p.length : Int) - 1, Nat.zero_le _, rfl, by omega, h0, Below.refl _ _, rfl⟩
  case round =>
    obtain ⟨k, j, hk, rfl, hj, hJs, hnx, hbx⟩ := hrel
    have HJ := Lib.hid hj
    have d0 := cell_blk (hbx.trans HBs.out) 0 rfl
    by_cases hlt : k < p.length
    · obtain ⟨jn, rfl⟩ := Int.eq_ofNat_of_zero_le (show 0 ≤ j by omega)
      obtain ⟨g, o, rfl, hg, hb⟩ := HP.out (by rintro rfl; simp at hlt)
      obtain ⟨x, hx⟩ : ∃ x, p[jn]? = some x := ⟨_, List.getElem?_eq_getElem (by omega)⟩
      have hcx : wr.cell? ⟨g, o + jn, none⟩ = some (.int .u8 x) := (hnx.cell (p := ⟨g, o + jn, none⟩) hg).trans (hb jn x hx)
      have hjl : jn < p.length := by omega
      have hjl2 : (jn : Int) < (p.length : Int) := by omega
      have hjb : jn ≤ 140737488355328 := by omega
      have hgd : p.getD (p.length - 1 - k) 0 = x := by rw [show p.length - 1 - k = jn by omega, List.getD_eq_getElem?_getD, hx]; rfl
      have HX := Lib.hid (show backs p (k + 1) = backs p k ++ [((jn : Int), x)] by rw [backs, hgd, show (p.length : Int) - 1 - k = jn by omega])
      have HNX := Lib.hid hnx
      have HBX := Lib.hid hbx
      obtain ⟨fn, tmps, assign, body, hy, hR⟩ := hY _ ((jn : Int), x) wr hJs (by rw [backs_len]; exact hlt)
      unfold encBk at hy
      dsimp only at hy
      clear hj hx hb hgd hnx hbx
      gi_wp2
      refine hR.mono ?_
      rintro e W3 (⟨rfl, hJ3, hk3⟩ | ⟨rfl, hJx3⟩)
      · have HK3 := Lib.hid hk3
        clear hk3
        gi_wp2
        go_roundw
        case rel => exact ⟨k + 1, (jn : Int) - 1, by omega, by go_num, by have := HJ.out; omega, by rw [HX.out]; exact hJ3, HNX.out.trans HK3.out.1, HK3.out.2.trans HBX.out⟩
        case measure => first | (simp [intOf]; done) | (simp [intOf]; omega)
      · gi_wp2
        refine bodyPost_ret (results_none rfl _ _ _) rfl ?_
        exact ⟨⟨_, rfl⟩, .inr ⟨_, ⟨k + 1, by omega, HX.out.symm⟩, hJx3⟩⟩
    · obtain rfl : k = p.length := by omega
      obtain rfl : j = -1 := by omega
      clear hj
      gi_wp2
      go_end0
      exact ⟨⟨_, rfl⟩, .inl ⟨_, rfl, hJs⟩⟩
set_option maxHeartbeats 1000000 in
theorem back_any {A : Option Addr} {len cap : Nat} (w : World) : Calls Try.prog 114 #[.slice A len cap] w fun e w' => e = .returned (.func (.func 132) #[] #[.pointer (some ⟨w.heap.size, 0, none⟩)]) ∧ w' = w.alloc (.cells #[.slice A len cap] 23) := by
  have hmf : ∀ (fn : Fn) (first cap : Array Value) (w : World), (Instr.makeFunc fn first cap).run Try.prog w = .ok (.func fn first cap) w := fun _ _ _ _ => rfl
  go_enter Try.func114, Try.ntmps114
  go_wp2
  go_ret
  exact ⟨rfl, rfl⟩
theorem back_stops (n : Nat) (hn : 1 ≤ n) (Bs n₀ : Nat) (A : Option Addr) (cap : Nat) (p : List Int) (hl : p.length ≤ 140737488355328) (w : World) (hBl : Bs < w.heap.size) (hn₀ : n₀ ≤ w.heap.size) (hBs : w.heap[Bs]? = some (.cells #[.slice A p.length cap] 23 (0, 0))) (hp : p ≠ [] → ∃ g o, A = some ⟨g, o, none⟩ ∧ g < n₀ ∧ BsAt w g o p) :
    SeqStopsK Fence.wide n Try.prog 132 #[.pointer (some ⟨Bs, 0, none⟩)] encBk (KpB n₀ Bs) (fun ys => ys = backs p p.length) (fun pre => ∃ k, k ≤ p.length ∧ pre = backs p k) p.length w := fun l J Jx W hW _ _ hY h0 => by
  refine back1_in n hn l Bs n₀ A cap p hl J Jx hY W ((hW.block Bs hBl).trans hBs) (fun hne => ?_) h0
  obtain ⟨g, o, h1, h2, h3⟩ := hp hne
  exact ⟨g, o, h1, h2, h3.moved (hW.block g (by omega))⟩
end Go.Proofs.Ytibelfljlhcibaa
