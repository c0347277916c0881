/- The contract of the reference's Step. -/
import Derived.Test.YtecdmbcdkfjgfaaH0
import Derived.Test.YtecdmbcdkfjgfaaL
import Derived.Test.YtecdmbcdkfjgfaaD0
namespace Go.Proofs.Ytecdmbcdkfjgfaa
set_option linter.unusedVariables false
set_option linter.unusedSimpArgs false
open Go.RowKit

def ruleS (k : Int) : ByteArray :=
  if k = 1 then ⟨#[49]⟩ else if k = 2 then ⟨#[49]⟩ else if k = 3 then ⟨#[50]⟩ else if k = 4 then ⟨#[48, 53, 52]⟩ else if k = 5 then ⟨#[50]⟩ else if k = 6 then ⟨#[52]⟩ else if k = 7 then ⟨#[51]⟩ else if k = 8 then ⟨#[52]⟩ else ⟨#[]⟩
def ruleT (k : Int) : Int :=
  if k = 1 then 1 else if k = 2 then 2 else if k = 3 then 1 else if k = 4 then 4 else if k = 5 then 3 else if k = 6 then 1 else if k = 7 then 5 else if k = 8 then 5 else -1
theorem ret_si {a c : ByteArray} {b d : Int} (h : a = c) (h' : b = d) : Ending.returned (.tuple #[.string a, .int .i64 b]) = .returned (.tuple #[.string c, .int .i64 d]) := by rw [h, h']
set_option maxHeartbeats 1000000 in
theorem rule_any (k : Int) (w : World) :
    Calls Try.prog 48 #[.int .i64 k] w fun e w' => e = .returned (.tuple #[.string (ruleS k), .int .i64 (ruleT k)]) ∧ w = w' := by
  go_enter Try.func48, Try.ntmps48
  go_wp2
  all_goals
    go_ret2
    refine ⟨ret_si ?_ ?_, rfl⟩
    all_goals
      go_light
      simp only [beq_iff_eq, beq_eq_false_iff_ne, ne_eq] at *
      simp [ruleS, ruleT, *]
theorem hasL_1 (ph : Int) : hasL [49] ph = decide (ph = 1) := by simp [hasL, eq_comm]
theorem hasL_nil (ph : Int) : hasL [] ph = false := by simp [hasL]

theorem valid_5 {s ph ep pe : Int} (h : validB s ph ep pe = true) : (ph = 3 ∨ ph = 4) → validB s 5 ep pe = true := by
  intro hp
  unfold validB at h ⊢
  rcases hp with rfl | rfl <;> simpa using h
set_option maxRecDepth 100000 in
set_option maxHeartbeats 4000000 in
theorem refStep_any (s : Int) (l : Lg) (k sh re rp cl sq ok : Int) (A7 A8 A10 : Option Addr) (n7 c7 n8 c8 n10 c10 : Nat) (rev : Int) (w : World) :
    Calls Try.prog 37 #[.int .i64 s, .agg #[.int .i64 l.ph, .int .i64 l.ep, .int .i64 l.pe], .agg #[.int .i64 k, .int .i64 sh, .int .i64 re, .int .i64 rp, .int .i64 cl, .int .i64 sq, .int .i64 ok, .slice A7 n7 c7, .slice A8 n8 c8, .int .i64 rev, .slice A10 n10 c10]] w fun e w' =>
      e = .returned (.tuple #[.agg #[.int .i64 (stepF s l k re rp).1.ph, .int .i64 (stepF s l k re rp).1.ep, .int .i64 (stepF s l k re rp).1.pe], .int .i64 (stepF s l k re rp).2]) ∧ Below w.heap.size w w' := by
  have hk : k = 1 ∨ k = 2 ∨ k = 3 ∨ k = 4 ∨ k = 5 ∨ k = 6 ∨ k = 7 ∨ k = 8 ∨ (k < 1 ∨ 8 < k) := by omega
  have hrule : (ruleS k = ⟨#[49]⟩ ∧ ruleT k = 1 ∧ k = 1) ∨ (ruleS k = ⟨#[49]⟩ ∧ ruleT k = 2 ∧ k = 2) ∨ (ruleS k = ⟨#[50]⟩ ∧ ruleT k = 1 ∧ k = 3) ∨ (ruleS k = ⟨#[48, 53, 52]⟩ ∧ ruleT k = 4 ∧ k = 4) ∨ (ruleS k = ⟨#[50]⟩ ∧ ruleT k = 3 ∧ k = 5) ∨ (ruleS k = ⟨#[52]⟩ ∧ ruleT k = 1 ∧ k = 6) ∨ (ruleS k = ⟨#[51]⟩ ∧ ruleT k = 5 ∧ k = 7) ∨ (ruleS k = ⟨#[52]⟩ ∧ ruleT k = 5 ∧ k = 8) ∨ (ruleS k = ⟨#[]⟩ ∧ ruleT k = -1 ∧ (k < 1 ∨ 8 < k)) := by
    rcases hk with rfl | rfl | rfl | rfl | rfl | rfl | rfl | rfl | h
    · exact Or.inl ⟨rfl, rfl, rfl⟩
    · exact Or.inr (Or.inl ⟨rfl, rfl, rfl⟩)
    · exact Or.inr (Or.inr (Or.inl ⟨rfl, rfl, rfl⟩))
    · exact Or.inr (Or.inr (Or.inr (Or.inl ⟨rfl, rfl, rfl⟩)))
    · exact Or.inr (Or.inr (Or.inr (Or.inr (Or.inl ⟨rfl, rfl, rfl⟩))))
    · exact Or.inr (Or.inr (Or.inr (Or.inr (Or.inr (Or.inl ⟨rfl, rfl, rfl⟩)))))
    · exact Or.inr (Or.inr (Or.inr (Or.inr (Or.inr (Or.inr (Or.inl ⟨rfl, rfl, rfl⟩))))))
    · exact Or.inr (Or.inr (Or.inr (Or.inr (Or.inr (Or.inr (Or.inr (Or.inl ⟨rfl, rfl, rfl⟩)))))))
    · refine Or.inr (Or.inr (Or.inr (Or.inr (Or.inr (Or.inr (Or.inr (Or.inr ⟨?_, ?_, h⟩)))))))
      · unfold ruleS; repeat (rw [if_neg (by omega)])
      · unfold ruleT; repeat (rw [if_neg (by omega)])
  clear hk
  have HR := rule_any k
  have hep : validB s l.ph l.ep l.pe = true → 0 ≤ l.ep ∧ l.ep ≤ 1073741824 := by unfold validB; grind
  rcases hrule with ⟨e1, e2, rfl⟩ | ⟨e1, e2, rfl⟩ | ⟨e1, e2, rfl⟩ | ⟨e1, e2, rfl⟩ | ⟨e1, e2, rfl⟩ | ⟨e1, e2, rfl⟩ | ⟨e1, e2, rfl⟩ | ⟨e1, e2, rfl⟩ | ⟨e1, e2, hk⟩
  all_goals
    rw [e1, e2] at HR
    clear e1 e2
    have HR2 := Lib.hid HR
    clear HR
    go_enter Try.func37, Try.ntmps37
    go_wp2_with (fail)
    refine (HR2.out _).mono ?_
    rintro e w0 ⟨rfl, rfl⟩
    go_wp2_with (fail)
    refine (refValid_any _ _ _ _ _).mono ?_
    rintro e w1 ⟨rfl, hb1⟩
    have B4 := blk_below (three_blks w _ _ _).1 hb1
    have B5 := blk_below (three_blks w _ _ _).2.1 hb1
    have B6 := blk_below (three_blks w _ _ _).2.2 hb1
    have HB1 := Lib.hid (((((Below.refl w.heap.size w).alloc (Nat.le_refl _) _).alloc (by simp) _).alloc (by simp; omega) _).trans (hb1.mono (by simp; omega)))
    have z0 := blk_lt B4
    have z1 := blk_lt B5
    have z2 := blk_lt B6
    have l0 := cell_blk B4 0 rfl
    have l1 := cell_blk B4 1 rfl
    have l2 := cell_blk B4 2 rfl
    have r0 := cell_blk B5 0 rfl
    have r2 := cell_blk B5 2 rfl
    have r3 := cell_blk B5 3 rfl
    have o0 := cell_blk B6 0 rfl
    have o1 := cell_blk B6 1 rfl
    have o2 := cell_blk B6 2 rfl
    have fo0 := free_blk B6 0
    have fo1 := free_blk B6 1
    have fo2 := free_blk B6 2
    clear B4 B5 B6 hb1
    by_cases hv : validB s l.ph l.ep l.pe = true
    · obtain ⟨p0, p1⟩ := hep hv
      clear hep
      go_wp2_with (first | (go_at_call 34; refine (has_any _ _ _ (by decide)).mono ?_; rintro e w' ⟨rfl, rfl⟩) | (go_at_call 32; refine (server_any _ _).mono ?_; rintro e w' ⟨rfl, rfl⟩))
      all_goals
        refine bodyPost_ret (v := .tuple #[.agg #[.int .i64 (stepF s l _ re rp).1.ph, .int .i64 (stepF s l _ re rp).1.ep, .int .i64 (stepF s l _ re rp).1.pe], .int .i64 (stepF s l _ re rp).2]) ?_ rfl ⟨rfl, ?_⟩
        · simp [results, Try.results37, go_sem, *]
          go_light
          try simp only [hasL_1, hasL_2, hasL_3, hasL_4, hasL_054, hasL_nil] at *
          first | grind [stepF, madeL, rightB, validB] | (have v5 := valid_5 hv; grind [stepF, madeL, rightB])
        · repeat' (first | exact HB1.out | refine Below.drew ?_ | refine Below.alloc ?_ (by first | omega | (simp; omega)) _ | refine Below.setCell ?_ (by first | omega | (simp; done) | (simp; omega)) _)
    · clear hep
      go_wp2_with (fail)
      all_goals
        refine bodyPost_ret (v := .tuple #[.agg #[.int .i64 (stepF s l _ re rp).1.ph, .int .i64 (stepF s l _ re rp).1.ep, .int .i64 (stepF s l _ re rp).1.pe], .int .i64 (stepF s l _ re rp).2]) ?_ rfl ⟨rfl, ?_⟩
        · simp [results, Try.results37, go_sem, *]
          go_light
          grind [stepF, madeL, rightB]
        · repeat' (first | exact HB1.out | refine Below.drew ?_ | refine Below.alloc ?_ (by first | omega | (simp; omega)) _ | refine Below.setCell ?_ (by first | omega | (simp; done) | (simp; omega)) _)
end Go.Proofs.Ytecdmbcdkfjgfaa
