/- The contract of the reference's table. -/
import Derived.Test.YtecdmbcdkfjgfaaA1
namespace Go.Proofs.Ytecdmbcdkfjgfaa
open Go.RowKit
structure Ans where
  k : Int
  p : ByteArray
  e : Int
  q : Int
  r : Int
  y : Int
def Ans.cells (a : Ans) : List Value := [.int .i64 a.k, .string a.p, .int .u8 a.e, .int .u8 a.q, .int .i64 a.r, .int .i64 a.y]
def answersL : List Ans := [⟨3, ⟨#[48, 53, 52]⟩, 60, 45, 4, 4⟩, ⟨3, ⟨#[52]⟩, 61, 121, 0, 4⟩, ⟨4, ⟨#[50]⟩, 61, 121, 5, 5⟩, ⟨4, ⟨#[51]⟩, 61, 121, 0, 5⟩, ⟨4, ⟨#[48, 49, 50, 51, 52, 53]⟩, 62, 45, 0, 7⟩,
  ⟨5, ⟨#[52]⟩, 61, 121, 6, 6⟩, ⟨5, ⟨#[52]⟩, 61, 110, 0, 0⟩, ⟨5, ⟨#[48, 49, 50, 51, 52, 53]⟩, 61, 45, 0, 6⟩, ⟨5, ⟨#[48, 49, 50, 51, 52, 53]⟩, 62, 45, 0, 6⟩, ⟨6, ⟨#[51]⟩, 61, 121, 7, 0⟩, ⟨7, ⟨#[52]⟩, 61, 121, 8, 0⟩, ⟨8, ⟨#[50]⟩, 61, 121, 3, 0⟩]
def answersC : Array Value := (answersL.flatMap Ans.cells).toArray
set_option maxHeartbeats 400000 in
theorem answers_any (w : World) :
    Calls Try.prog 33 #[] w fun e w' => e = .returned (.slice (some ⟨w.heap.size, 0, none⟩) 12 12) ∧ w.alloc (.cells answersC 64) = w' := by
  go_enter Try.func33, Try.ntmps33
  go_wp2
  go_ret
  exact ⟨rfl, rfl⟩
end Go.Proofs.Ytecdmbcdkfjgfaa
