/- The reference's reader: Num, Int, Text. -/
import Derived.Test.YtjmmdpnphafdfaaPE10
import Derived.Test.YtjmmdpnphafdfaaPQ
namespace Go.Proofs.Ytjmmdpnphafdfaa
set_option linter.unusedVariables false
set_option linter.unusedSimpArgs false
open Go.RowKit Go.Deep Go.Proofs.YtjmmdpnphafdfaaW.PrintLast

/-- What a call hands back that reads bytes. -/
def TextQ (F : Nat → Prop) (k : Nat) (w : World) (q : List Int × RS) (e : Ending) (w' : World) : Prop :=
  (∃ A c, e = .returned (.slice A q.1.length c) ∧ GRow bc 5 1 w' w.heap.size A c q.1) ∧ UpdQ F k w w' q.2
section
variable {w w' w1 w2 : World} {F G : Nat → Prop} {k : Nat} {s s' : RS}
theorem GRow.le_ {N M c : Nat} {A : Option Addr} {p : List Int} (h : GRow bc 5 1 w N A c p) (hM : M ≤ N) : GRow bc 5 1 w M A c p := by
  rcases h with h | ⟨g, h1, h2, h3⟩
  · exact Or.inl h
  · exact Or.inr ⟨g, h1, Nat.le_trans hM h2, h3⟩
theorem TextQ.no (h : UpdQ F k w w' s) : TextQ F k w ([], s) (.returned (.slice none 0 0)) w' := ⟨⟨none, 0, rfl, GRow.nil⟩, h⟩
theorem num_len (s : RS) : s.num.2.left.length ≤ s.left.length := by
  by_cases h : s.ft = 0
  · rw [num_eq s h]
    have h1 : (numO s).2.left.length ≤ s.left.length := readN_len s.left 0 0
    split
    · exact h1
    · exact h1
  · rw [RS.num_fault h]; exact Nat.le_refl _
set_option maxHeartbeats 1000000 in
theorem refRNum_any (h : RefLies w F k s) (hb : Byt s.left) (h47 : s.left.length ≤ 140737488355328) :
    Calls Try.prog 29 #[.pointer (some ⟨k, 0, none⟩)] w fun e w' => e = .returned (.int .u64 (s.num.1 : Nat)) ∧ UpdQ F k w w' s.num.2 := by
  have DE := Lib.hid (refRDead_any h)
  have H := Lib.hid h
  by_cases hf : s.ft = 0
  · have NU := Lib.hid (refNumber_any h hf hb h47)
    rw [hf] at DE
    clear hb h47 h
    go_enter Try.func29, Try.ntmps29
    go_wp2_with (go_at_call 45; refine DE.out.mono ?_; rintro e w_ ⟨rfl, rfl⟩)
    refine NU.out.mono ?_
    rintro e w2 ⟨rfl, U2⟩
    have HU := Lib.hid U2
    clear U2
    go_wp2_with (fail)
    go_ret
    exact ⟨rfl, HU.out⟩
  · have hne : (s.ft != 0) = true := by simpa using hf
    have e1 := RS.num_fault hf
    rw [e1]
    rw [hne] at DE
    go_enter Try.func29, Try.ntmps29
    go_wp2_with (go_at_call 45; refine DE.out.mono ?_; rintro e w_ ⟨rfl, rfl⟩)
    go_ret
    exact ⟨rfl, UpdQ.refl H.out⟩
set_option maxHeartbeats 4000000 in
set_option maxRecDepth 100000 in
theorem refRText_any (h : RefLies w F k s) (hb : Byt s.left) (h47 : s.left.length ≤ 140737488355328) (most : Int) (hm : most ≤ 9223372036854775807) :
    Calls Try.prog 30 #[.pointer (some ⟨k, 0, none⟩), .int .i64 most] w (TextQ F k w (s.text most)) := by
  have DE := Lib.hid (refRDead_any h)
  have H := Lib.hid h
  by_cases hf : s.ft = 0
  · have NU := Lib.hid (refNumber_any h hf hb h47)
    have HL := Lib.hid (Nat.le_trans (num_len s) h47)
    have hn64 := num_lt s hb
    have HT := Lib.hid (show s.text most = (match s.size (max most 0).toNat with
      | (n, s') => if s'.ft = 0 then (s'.left.take n, { s' with left := s'.left.drop n }) else ([], s')) by unfold RS.text; rw [if_pos hf])
    have HSZ := Lib.hid (show ∀ M, s.size M = (if s.num.2.ft = 0 then (if M < s.num.1 then (0, { s.num.2 with ft := 11 }) else if s.num.2.left.length < s.num.1 then (0, { s.num.2 with ft := 10 }) else (s.num.1, s.num.2)) else (0, s.num.2)) from fun M => rfl)
    rw [hf] at DE
    generalize s.num = q at *
    obtain ⟨n, s2⟩ := q
    simp only at NU HL hn64 HSZ
    clear hb h47 h
    obtain ⟨M, hM⟩ : ∃ M : Nat, (max most 0).toNat = M := ⟨_, rfl⟩
    have HM := Lib.hid hM
    have hM63 : M ≤ 9223372036854775807 := by omega
    clear hM
    obtain ⟨t0, ht0⟩ := named (decide (most < 0))
    obtain ⟨t1, ht1⟩ := named (decide ((M : Int) < (n : Int)))
    go_enter Try.func30, Try.ntmps30
    cases t0
    · obtain rfl : most = (M : Int) := by have := HM.out; simp at ht0; omega
      go_wp2_with (go_at_call 45; refine DE.out.mono ?_; rintro e w_ ⟨rfl, rfl⟩)
      refine NU.out.mono ?_
      rintro e w2 ⟨rfl, U2⟩
      obtain ⟨c3, f3⟩ := U2.1.ftCell
      have HU := Lib.hid U2
      clear U2
      by_cases h2 : s2.ft = 0
      · rw [h2] at c3
        cases t1
        · have hmn : ¬ M < n := by simp at ht1; omega
          have BY := Lib.hid (refBytes_any HU.out.1 n (by omega) HL.out)
          have hn63 : (n : Int) ≤ 9223372036854775807 := by omega
          go_wp2_with (fail)
          refine BY.out.mono ?_
          intro e w3 hB
          unfold BytesP RS.next at hB
          have HB := Lib.hid hB
          clear hB
          by_cases hl : n ≤ s2.left.length
          · have hB := HB.out
            rw [if_pos hl] at hB
            obtain ⟨⟨A, c, rfl, hg⟩, hu⟩ := hB
            have HG := Lib.hid hg
            have HU3 := Lib.hid hu
            clear hg hu
            go_wp2_with (fail)
            go_ret
            rw [HT.out, HSZ.out, HM.out, if_pos h2, if_neg hmn, if_neg (show ¬ s2.left.length < n by omega)]
            simp only
            rw [if_pos h2]
            have ll : (s2.left.take n).length = n := by rw [List.length_take]; omega
            exact ⟨⟨A, c, by simp only [ll]; rfl, HG.out.le_ HU.out.2.size⟩, HU.out.trans HU3.out⟩
          · have hB := HB.out
            rw [if_neg hl] at hB
            obtain ⟨rfl, hu⟩ := hB
            have HU3 := Lib.hid hu
            clear hu
            go_wp2_with (fail)
            go_ret
            rw [HT.out, HSZ.out, HM.out, if_pos h2, if_neg hmn, if_pos (show s2.left.length < n by omega)]
            exact TextQ.no (HU.out.trans HU3.out)
        · have hmn : M < n := by simp at ht1; omega
          go_wp2_with (fail)
          go_ret
          rw [HT.out, HSZ.out, HM.out, if_pos h2, if_pos hmn]
          exact TextQ.no (HU.out.setFault 11)
      · go_wp2_with (fail)
        go_ret
        rw [HT.out, HSZ.out, if_neg h2]
        simp only
        rw [if_neg h2]
        exact TextQ.no HU.out
    · have hM0 : M = 0 := by have := HM.out; simp at ht0; omega
      have HM0 := Lib.hid (show (max most 0).toNat = 0 from HM.out.trans hM0)
      clear ht1 hM63 HM hM0
      go_wp2_with (go_at_call 45; refine DE.out.mono ?_; rintro e w_ ⟨rfl, rfl⟩)
      refine NU.out.mono ?_
      rintro e w2 ⟨rfl, U2⟩
      obtain ⟨c3, f3⟩ := U2.1.ftCell
      have HU := Lib.hid U2
      clear U2
      by_cases h2 : s2.ft = 0
      · rw [h2] at c3
        by_cases hn0 : n = 0
        · subst hn0
          have BY := Lib.hid (refBytes_any HU.out.1 0 (by omega) HL.out)
          go_wp2_with (fail)
          refine (show Calls _ _ #[_, .int .i64 0] w2 _ from BY.out).mono ?_
          intro e w3 hB
          unfold BytesP RS.next at hB
          rw [if_pos (Nat.zero_le _)] at hB
          obtain ⟨⟨A, c, rfl, hg⟩, hu⟩ := hB
          have HG := Lib.hid hg
          have HU3 := Lib.hid hu
          clear hg hu
          go_wp2_with (fail)
          go_ret
          rw [HT.out, HSZ.out, HM0.out, if_pos h2, if_neg (Nat.lt_irrefl 0), if_neg (Nat.not_lt_zero _)]
          simp only
          rw [if_pos h2]
          exact ⟨⟨A, c, rfl, HG.out.le_ HU.out.2.size⟩, HU.out.trans HU3.out⟩
        · have hnp : (0 : Int) < (n : Int) := by omega
          go_wp2_with (fail)
          go_ret
          rw [HT.out, HSZ.out, HM0.out, if_pos h2, if_pos (show 0 < n by omega)]
          exact TextQ.no (HU.out.setFault 11)
      · go_wp2_with (fail)
        go_ret
        rw [HT.out, HSZ.out, if_neg h2]
        simp only
        rw [if_neg h2]
        exact TextQ.no HU.out
  · have hne : (s.ft != 0) = true := by simpa using hf
    have e1 : s.text most = ([], s) := by unfold RS.text; rw [if_neg hf]
    rw [e1]
    rw [hne] at DE
    go_enter Try.func30, Try.ntmps30
    go_wp2_with (go_at_call 45; refine DE.out.mono ?_; rintro e w_ ⟨rfl, rfl⟩)
    go_ret
    exact TextQ.no (UpdQ.refl H.out)
end
end Go.Proofs.Ytjmmdpnphafdfaa
