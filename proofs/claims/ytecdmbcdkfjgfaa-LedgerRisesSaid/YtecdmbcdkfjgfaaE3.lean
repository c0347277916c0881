/- The contract of 'rises': one case of LedgerRises. -/
import Derived.Test.YtecdmbcdkfjgfaaE2
namespace Go.Proofs.Ytecdmbcdkfjgfaa
open Go.RowKit

set_option maxRecDepth 100000 in
set_option maxHeartbeats 4000000 in
theorem rises_any (c : Case) (w : World) :
    Calls Try.prog 20 #[.agg #[.int .i64 c.server, .int .i64 c.home, .int .i64 c.l.ph, .int .i64 c.l.ep, .int .i64 c.l.pe, .int .i64 c.record, .int .i64 c.epoch, .int .i64 c.peer, .int .i64 c.message, .int .i64 c.sent, .int .i64 c.sender]] w fun e w' => e = .returned (.bool true) ∧ Below w.heap.size w w' := by
  have hok := step_ok c.server c.l c.record c.epoch c.peer
  have hno := step_no c.server c.l c.record c.epoch c.peer
  have S1 := Lib.hid (fun w => step_any c.server c.l c.record 0 c.epoch c.peer 0 0 0 none none none 0 0 0 0 0 0 0 w)
  generalize stepF c.server c.l c.record c.epoch c.peer = r at *
  obtain ⟨⟨xph, xep, xpe⟩, er⟩ := r
  have hrep := hear_reply c.server c.l.ph c.l.ep c.l.pe c.message c.sent c.sender
  have htak := hear_taken c.server c.l c.message c.sent c.sender
  have H1 := Lib.hid (fun w => hear_any c.server c.l.ph c.l.ep c.l.pe c.message c.sent c.sender w)
  generalize hearF c.server c.l.ph c.l.ep c.l.pe c.message c.sent c.sender = q at *
  obtain ⟨rec, rep⟩ := q
  have S2 := Lib.hid (fun w => step_any c.server c.l rec 0 c.sent c.sender 0 0 0 none none none 0 0 0 0 0 0 0 w)
  have hok2 := step_ok c.server c.l rec c.sent c.sender
  generalize stepF c.server c.l rec c.sent c.sender = r2 at *
  obtain ⟨⟨yph, yep, ype⟩, er2⟩ := r2
  simp only at hok hno hrep htak hok2 S1 S2 H1
  have HOK2 := Lib.hid hok2
  clear hok2
  have HREP := Lib.hid hrep
  have HTAK := Lib.hid htak
  clear hrep htak
  have hcase : (er = 0 ∧ validB c.server c.l.ph c.l.ep c.l.pe = true ∧ validB c.server xph xep xpe = true ∧ c.l.ep ≤ xep) ∨ (¬ er = 0 ∧ xph = 0 ∧ xep = 0 ∧ xpe = 0) := by
    by_cases h : er = 0
    · exact Or.inl ⟨h, hok h⟩
    · have := hno h
      simp only [Lg.mk.injEq] at this
      exact Or.inr ⟨h, this⟩
  clear hok hno
  go_enter Try.func20, Try.ntmps20
  go_wp2_with (fail)
  refine (S1.out _).mono ?_
  rintro e w1 ⟨rfl, hb1⟩
  have BX := blk_below (blk_new w _) hb1
  have K1 := Lib.hid (((Below.refl w.heap.size w).alloc (Nat.le_refl _) _).trans (hb1.mono (by simp)))
  clear hb1
  have hz := blk_lt BX
  go_upto_region 2 with (fail)
  refine wp_cut (fun (ac : Act) (wc : World) => ∃ u0 u2 u3 u4 u5 u6 u7 u8 u9 u10 u11 u12 u13 u14 u15 u16 u17 u18 u19 u20 u21 u22 u23 u24 u25 u26 u27 u28 u29 u30 u31 u32 u33 u34 u35 u36 u37 u38 u39 u40 u41 u42 u43 u44 u45 u46 u47 u48 u49 u50 u51 u52 u53 u54 u55 u56 u57 u58 u60 u61 u62 u63 u64 u65 u66 u67 u68 u69 u70 u71 u72 u73 u74 u75 u76 u77 u78 u79 u80 u81 u82 u83 u84 u85 u86 u87 u88 u89 u90 u91 u92 u93 u94 u95 u96 u97 u98 u99 u100 u101 u102 u103 u104 u105 u106 u107 u108 u109 u110 u111 u112 u113 u114 : Value, (Below w.heap.size w wc ∧ wc.heap[w.heap.size]? = some (.cells #[.int .i64 c.server, .int .i64 c.home, .int .i64 c.l.ph, .int .i64 c.l.ep, .int .i64 c.l.pe, .int .i64 c.record, .int .i64 c.epoch, .int .i64 c.peer, .int .i64 c.message, .int .i64 c.sent, .int .i64 c.sender] 26 (0, 0))) ∧ ac = ({ tmps := #[u0, .pointer (some ⟨w.heap.size, 0, none⟩), u2, u3, u4, u5, u6, u7, u8, u9, u10, u11, u12, u13, u14, u15, u16, u17, u18, u19, u20, u21, u22, u23, u24, u25, u26, u27, u28, u29, u30, u31, u32, u33, u34, u35, u36, u37, u38, u39, u40, u41, u42, u43, u44, u45, u46, u47, u48, u49, u50, u51, u52, u53, u54, u55, u56, u57, u58, .bool false, u60, u61, u62, u63, u64, u65, u66, u67, u68, u69, u70, u71, u72, u73, u74, u75, u76, u77, u78, u79, u80, u81, u82, u83, u84, u85, u86, u87, u88, u89, u90, u91, u92, u93, u94, u95, u96, u97, u98, u99, u100, u101, u102, u103, u104, u105, u106, u107, u108, u109, u110, u111, u112, u113, u114], defers := [] } : Act)) ?rest ?first
  case' rest => (intro ac wc hcut; obtain ⟨u0, hcut⟩ := hcut; obtain ⟨u2, hcut⟩ := hcut; obtain ⟨u3, hcut⟩ := hcut; obtain ⟨u4, hcut⟩ := hcut; obtain ⟨u5, hcut⟩ := hcut; obtain ⟨u6, hcut⟩ := hcut; obtain ⟨u7, hcut⟩ := hcut; obtain ⟨u8, hcut⟩ := hcut; obtain ⟨u9, hcut⟩ := hcut; obtain ⟨u10, hcut⟩ := hcut; obtain ⟨u11, hcut⟩ := hcut; obtain ⟨u12, hcut⟩ := hcut; obtain ⟨u13, hcut⟩ := hcut; obtain ⟨u14, hcut⟩ := hcut; obtain ⟨u15, hcut⟩ := hcut; obtain ⟨u16, hcut⟩ := hcut; obtain ⟨u17, hcut⟩ := hcut; obtain ⟨u18, hcut⟩ := hcut; obtain ⟨u19, hcut⟩ := hcut; obtain ⟨u20, hcut⟩ := hcut; obtain ⟨u21, hcut⟩ := hcut; obtain ⟨u22, hcut⟩ := hcut; obtain ⟨u23, hcut⟩ := hcut; obtain ⟨u24, hcut⟩ := hcut; obtain ⟨u25, hcut⟩ := hcut; obtain ⟨u26, hcut⟩ := hcut; obtain ⟨u27, hcut⟩ := hcut; obtain ⟨u28, hcut⟩ := hcut; obtain ⟨u29, hcut⟩ := hcut; obtain ⟨u30, hcut⟩ := hcut; obtain ⟨u31, hcut⟩ := hcut; obtain ⟨u32, hcut⟩ := hcut; obtain ⟨u33, hcut⟩ := hcut; obtain ⟨u34, hcut⟩ := hcut; obtain ⟨u35, hcut⟩ := hcut; obtain ⟨u36, hcut⟩ := hcut; obtain ⟨u37, hcut⟩ := hcut; obtain ⟨u38, hcut⟩ := hcut; obtain ⟨u39, hcut⟩ := hcut; obtain ⟨u40, hcut⟩ := hcut; obtain ⟨u41, hcut⟩ := hcut; obtain ⟨u42, hcut⟩ := hcut; obtain ⟨u43, hcut⟩ := hcut; obtain ⟨u44, hcut⟩ := hcut; obtain ⟨u45, hcut⟩ := hcut; obtain ⟨u46, hcut⟩ := hcut; obtain ⟨u47, hcut⟩ := hcut; obtain ⟨u48, hcut⟩ := hcut; obtain ⟨u49, hcut⟩ := hcut; obtain ⟨u50, hcut⟩ := hcut; obtain ⟨u51, hcut⟩ := hcut; obtain ⟨u52, hcut⟩ := hcut; obtain ⟨u53, hcut⟩ := hcut; obtain ⟨u54, hcut⟩ := hcut; obtain ⟨u55, hcut⟩ := hcut; obtain ⟨u56, hcut⟩ := hcut; obtain ⟨u57, hcut⟩ := hcut; obtain ⟨u58, hcut⟩ := hcut; obtain ⟨u60, hcut⟩ := hcut; obtain ⟨u61, hcut⟩ := hcut; obtain ⟨u62, hcut⟩ := hcut; obtain ⟨u63, hcut⟩ := hcut; obtain ⟨u64, hcut⟩ := hcut; obtain ⟨u65, hcut⟩ := hcut; obtain ⟨u66, hcut⟩ := hcut; obtain ⟨u67, hcut⟩ := hcut; obtain ⟨u68, hcut⟩ := hcut; obtain ⟨u69, hcut⟩ := hcut; obtain ⟨u70, hcut⟩ := hcut; obtain ⟨u71, hcut⟩ := hcut; obtain ⟨u72, hcut⟩ := hcut; obtain ⟨u73, hcut⟩ := hcut; obtain ⟨u74, hcut⟩ := hcut; obtain ⟨u75, hcut⟩ := hcut; obtain ⟨u76, hcut⟩ := hcut; obtain ⟨u77, hcut⟩ := hcut; obtain ⟨u78, hcut⟩ := hcut; obtain ⟨u79, hcut⟩ := hcut; obtain ⟨u80, hcut⟩ := hcut; obtain ⟨u81, hcut⟩ := hcut; obtain ⟨u82, hcut⟩ := hcut; obtain ⟨u83, hcut⟩ := hcut; obtain ⟨u84, hcut⟩ := hcut; obtain ⟨u85, hcut⟩ := hcut; obtain ⟨u86, hcut⟩ := hcut; obtain ⟨u87, hcut⟩ := hcut; obtain ⟨u88, hcut⟩ := hcut; obtain ⟨u89, hcut⟩ := hcut; obtain ⟨u90, hcut⟩ := hcut; obtain ⟨u91, hcut⟩ := hcut; obtain ⟨u92, hcut⟩ := hcut; obtain ⟨u93, hcut⟩ := hcut; obtain ⟨u94, hcut⟩ := hcut; obtain ⟨u95, hcut⟩ := hcut; obtain ⟨u96, hcut⟩ := hcut; obtain ⟨u97, hcut⟩ := hcut; obtain ⟨u98, hcut⟩ := hcut; obtain ⟨u99, hcut⟩ := hcut; obtain ⟨u100, hcut⟩ := hcut; obtain ⟨u101, hcut⟩ := hcut; obtain ⟨u102, hcut⟩ := hcut; obtain ⟨u103, hcut⟩ := hcut; obtain ⟨u104, hcut⟩ := hcut; obtain ⟨u105, hcut⟩ := hcut; obtain ⟨u106, hcut⟩ := hcut; obtain ⟨u107, hcut⟩ := hcut; obtain ⟨u108, hcut⟩ := hcut; obtain ⟨u109, hcut⟩ := hcut; obtain ⟨u110, hcut⟩ := hcut; obtain ⟨u111, hcut⟩ := hcut; obtain ⟨u112, hcut⟩ := hcut; obtain ⟨u113, hcut⟩ := hcut; obtain ⟨u114, hcut⟩ := hcut; obtain ⟨hcut, hac⟩ := hcut; subst hac)
  case' first => intro _ _ _ _
  case first =>
    have c0 := cell_blk BX 0 rfl
    have c2 := cell_blk BX 2 rfl
    have c3 := cell_blk BX 3 rfl
    have c4 := cell_blk BX 4 rfl
    rcases hcase with ⟨rfl, v1, v2, hle⟩ | ⟨hne, rfl, rfl, rfl⟩
    · have hd : decide (xep < c.l.ep) = false := by simpa using hle
      clear hle
      go_wp2_with (go_at_call 14; refine (num_any _ _).mono ?_; rintro e w' ⟨rfl, rfl⟩)
      refine (valid_any _ _ _ _ _).mono ?_
      rintro e w2 ⟨rfl, hb2⟩
      have BX2 := blk_below (blk_alloc BX _) hb2
      have BY2 := blk_below (blk_new w1 _) hb2
      have K2 := Lib.hid ((K1.out.alloc K1.out.size _).trans (hb2.mono (by have := K1.out.size; simp; omega)))
      clear hb2 c0 c2 c3 c4
      have c0 := cell_blk BX2 0 rfl
      have c3 := cell_blk BX2 3 rfl
      have x0 := cell_blk BY2 0 rfl
      have x1 := cell_blk BY2 1 rfl
      have x2 := cell_blk BY2 2 rfl
      go_wp2_with (go_at_call 14; refine (num_any _ _).mono ?_; rintro e w' ⟨rfl, rfl⟩)
      refine (valid_any _ _ _ _ _).mono ?_
      rintro e w3 ⟨rfl, hb3⟩
      have BX3 := blk_below BX2 hb3
      have BY3 := blk_below BY2 hb3
      have K3 := Lib.hid (K2.out.trans (hb3.mono K2.out.size))
      clear hb3 c0 c3 x0 x1 x2
      have c3 := cell_blk BX3 3 rfl
      have x1 := cell_blk BY3 1 rfl
      go_wp2_with (go_at_call 14; refine (num_any _ _).mono ?_; rintro e w' ⟨rfl, rfl⟩)
      go_meet
      case rel => exact ⟨K3.out, BX3⟩
    · have e1 : (er == 0) = false := by simpa using hne
      have e2 : (er != 0) = true := by simpa using hne
      go_wp2_with (go_at_call 14; refine (num_any _ _).mono ?_; rintro e w' ⟨rfl, rfl⟩)
      go_meet
      case rel => exact ⟨K1.out.alloc K1.out.size _, blk_alloc BX _⟩
  case rest =>
    obtain ⟨KC, BC⟩ := hcut
    clear hcase S1 K1 BX hz
    have hz := blk_lt BC
    have c0 := cell_blk BC 0 rfl
    have c2 := cell_blk BC 2 rfl
    have c3 := cell_blk BC 3 rfl
    have c4 := cell_blk BC 4 rfl
    have c8 := cell_blk BC 8 rfl
    have c9 := cell_blk BC 9 rfl
    have c10 := cell_blk BC 10 rfl
    go_wp2_with (fail)
    refine (H1.out _).mono ?_
    rintro e w2 ⟨rfl, hb2⟩
    have BX2 := blk_below BC hb2
    have K2 := Lib.hid (KC.trans (hb2.mono KC.size))
    clear hb2 c0 c2 c3 c4 c8 c9 c10
    have c0 := cell_blk BX2 0 rfl
    have c2 := cell_blk BX2 2 rfl
    have c3 := cell_blk BX2 3 rfl
    have c4 := cell_blk BX2 4 rfl
    have c9 := cell_blk BX2 9 rfl
    have c10 := cell_blk BX2 10 rfl
    by_cases hr : rec = 0
    · have hrep := HREP.out hr
      subst hr
      by_cases h0 : rep = 0
      · subst h0
        go_wp2
        go_ret
        exact ⟨rfl, K2.out⟩
      · have e0 : (rep == 0) = false := by simpa using h0
        obtain ⟨e3, e8⟩ : 3 ≤ rep ∧ rep ≤ 8 := by omega
        clear hrep h0
        go_wp2
        go_ret
        exact ⟨rfl, K2.out⟩
    · obtain ⟨he, hy⟩ := HTAK.out hr
      have hv := (HOK2.out he).2.1
      have e0 : (rec == 0) = false := by simpa using hr
      subst he
      go_wp2_with (fail)
      refine (S2.out _).mono ?_
      rintro e w3 ⟨rfl, hb3⟩
      have BX3 := blk_below BX2 hb3
      have K3 := Lib.hid (K2.out.trans (hb3.mono K2.out.size))
      clear hb3 c0 c2 c3 c4 c9 c10
      have c0 := cell_blk BX3 0 rfl
      have c2 := cell_blk BX3 2 rfl
      have c3 := cell_blk BX3 3 rfl
      have c4 := cell_blk BX3 4 rfl
      have hz3 := blk_lt BX3
      go_wp2_with (go_at_call 14; refine (num_any _ _).mono ?_; rintro e w' ⟨rfl, rfl⟩)
      refine (valid_any _ _ _ _ _).mono ?_
      rintro e w4 ⟨rfl, hb4⟩
      have BX4 := blk_below (blk_alloc BX3 _) hb4
      have BY4 := blk_below (blk_new w3 _) hb4
      have K4 := Lib.hid ((K3.out.alloc K3.out.size _).trans (hb4.mono (by have := K3.out.size; simp; omega)))
      clear hb4 c0 c2 c3 c4
      have c2 := cell_blk BX4 2 rfl
      have c3 := cell_blk BX4 3 rfl
      have c4 := cell_blk BX4 4 rfl
      have y0 := cell_blk BY4 0 rfl
      have y1 := cell_blk BY4 1 rfl
      have y2 := cell_blk BY4 2 rfl
      go_wp2_with (fail)
      all_goals first
        | (exfalso
           have e5 : yph = c.l.ph := by assumption
           have e6 : yep = c.l.ep := by assumption
           have e7 : ype = c.l.pe := by assumption
           rw [e5, e6, e7] at hy
           exact hy rfl)
        | (go_ret
           exact ⟨rfl, K4.out⟩)
end Go.Proofs.Ytecdmbcdkfjgfaa
