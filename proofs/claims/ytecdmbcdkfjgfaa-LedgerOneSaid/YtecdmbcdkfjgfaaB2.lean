/- The contract of the reference's has. -/
import Derived.Test.YtecdmbcdkfjgfaaA1
namespace Go.Proofs.Ytecdmbcdkfjgfaa
open Go.RowKit

def hasL (p : List UInt8) (ph : Int) : Bool := p.any fun c => decide ((((c.toNat : Int) - 48) % 256) = ph)
theorem hasL_drop (p : ByteArray) (ph : Int) (k : Nat) (h : k < p.size) : hasL (p.data.toList.drop k) ph = (decide ((((p[k].toNat : Int) - 48) % 256) = ph) || hasL (p.data.toList.drop (k+1)) ph) := by
  unfold hasL; rw [List.drop_eq_getElem_cons (by simpa using h), List.any_cons]; rfl

set_option maxHeartbeats 400000 in
theorem has_any (p : ByteArray) (ph : Int) (w : World) (hs : p.size ≤ 9223372036854775807) :
    Calls Try.prog 34 #[.string p, .int .i64 ph] w fun e w' => e = .returned (.bool (hasL p.data.toList ph)) ∧ w = w' := by
  have hlen : p.data.toList.length = p.size := by simp
  go_enter Try.func34, Try.ntmps34
  go_wp2
  go_loop [5] (fun i => ∃ k : Nat, k ≤ p.size ∧ i = .int .i64 k ∧ Hid (hasL (p.data.toList.drop k) ph = hasL p.data.toList ph)) (fun i => p.size - (intOf i).toNat)
  case atStart => exact ⟨0, Nat.zero_le _, rfl, rfl⟩
  case round =>
    obtain ⟨k, hk, rfl, hr⟩ := hrel
    by_cases hlt : k < p.size
    · have hd := Lib.hid (hasL_drop p ph k hlt)
      go_wp2
      · go_ret
        refine ⟨ret_b ?_, rfl⟩
        rw [← hr.out, hd.out]
        go_light
        simp_all
      · go_round
        case rel => exact ⟨k + 1, by omega, by go_num, by rw [← hr.out, hd.out]; go_light; simp_all [Hid]⟩
        case measure => simp [intOf]; omega
    · go_wp2
      go_ret
      refine ⟨ret_b ?_, rfl⟩
      rw [← hr.out, List.drop_of_length_le (by omega)]; rfl
end Go.Proofs.Ytecdmbcdkfjgfaa
