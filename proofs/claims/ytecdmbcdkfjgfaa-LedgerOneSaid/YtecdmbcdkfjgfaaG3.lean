/- The contract of the reference's Holder. -/
import Derived.Test.YtecdmbcdkfjgfaaG1
import Derived.Test.YtecdmbcdkfjgfaaB2
namespace Go.Proofs.Ytecdmbcdkfjgfaa
set_option linter.unusedVariables false
set_option linter.unusedSimpArgs false
open Go.RowKit Go.Proofs.YtecdmbcdkfjgfaaW.PrintLast

theorem has123 (ph : Int) : hasL (ByteArray.mk #[49, 50, 51]).data.toList ph = holdsB ph := by
  rw [Bool.eq_iff_iff]
  simp [hasL, holdsB]
  omega
def gF (row : List Lg) : Nat → Int
  | 0 => -9223372036854775808
  | i + 1 => if holdsB (lgAt row i).ph && decide (gF row i < (lgAt row i).ep) then (lgAt row i).ep else gF row i
def aF (row : List Lg) (g : Int) : Nat → Bool
  | 0 => false
  | i + 1 => aF row g i || ((lgAt row i).ph == 1 && (lgAt row i).ep == g)
def selB (g : Int) (a : Bool) (l : Lg) : Bool := !((l.ep != g) || (a && (l.ph != 1)) || !holdsB l.ph)
def fF (row : List Lg) (g : Int) (a : Bool) : Nat → Int × Bool
  | 0 => (-1, false)
  | i + 1 => if selB g a (lgAt row i) then (if decide (0 ≤ (fF row g a i).1) then ((fF row g a i).1, true) else ((i : Int), (fF row g a i).2)) else fF row g a i
def refHolderF (row : List Lg) : Int :=
  let g := gF row row.length
  let s := fF row g (aF row g row.length) row.length
  if s.2 then -1 else s.1
theorem fF_stays (row : List Lg) (g : Int) (a : Bool) (i : Nat) (h : (fF row g a i).2 = true) : ∀ d, (fF row g a (i + d)).2 = true
  | 0 => h
  | d + 1 => by
    have := fF_stays row g a i h d
    rw [← Nat.add_assoc, fF]
    split
    · split
      · rfl
      · exact this
    · exact this
theorem fF_bound (row : List Lg) (g : Int) (a : Bool) : ∀ i, -1 ≤ (fF row g a i).1 ∧ (fF row g a i).1 < i
  | 0 => by simp [fF]
  | i + 1 => by
    have := fF_bound row g a i
    rw [fF]
    split
    · split
      · exact ⟨by dsimp only; omega, by dsimp only; omega⟩
      · exact ⟨by dsimp only; omega, by dsimp only; omega⟩
    · omega

set_option maxRecDepth 100000 in
set_option maxHeartbeats 8000000 in
theorem refHolder_any (w : World) (A : Option Addr) (cap : Nat) (row : List Lg) (hlen : row.length ≤ 9223372036854775807) (he : RdLg.elems w A row) :
    Calls Try.prog 16 #[.slice A row.length cap] w fun e w' => e = .returned (.int .i64 (refHolderF row)) ∧ w = w' := by
  go_enter Try.func16, Try.ntmps16
  go_wp2
  refine wp_loop_ghost_k (fun (n : Nat) (ac : Act) (wr : World) => ∃ u1 u2 u5 u6 u7 u8 u9 u10 u11 u12 u13 u14 u15 u16 u17 u18 u19 u20 u21 u22 u23 u24 u25 u26 u27 u28 u29 u30 u31 u32 u33 u34 u35 u36 u37 u38 u39 u40 u41 u42 u43 u44 u45 u46 u47 u48 u49 u50 u51 u52 u53 u54 u55 u56 u57 u58 u59 u60 u61 u62 u63 u64 u65 u66 u67 u68 u69 u70 u71 u72 u73 u74 u75 u76 u77 u78 u79 u80 u81 u82 u83 u84 u85 u86 u87 u88 u89 u90 u91 u92 u93 u94 u95 v3 v4 : Value, (∃ i : Nat, n + i = row.length ∧ v4 = .int .i64 i ∧ v3 = .int .i64 (gF row i) ∧ wr = w) ∧ ac = ({ tmps := #[.slice A row.length cap, u1, u2, v3, v4, u5, u6, u7, u8, u9, u10, u11, u12, u13, u14, u15, u16, u17, u18, u19, u20, u21, u22, u23, u24, u25, u26, u27, u28, u29, u30, u31, u32, u33, u34, u35, u36, u37, u38, u39, u40, u41, u42, u43, u44, u45, u46, u47, u48, u49, u50, u51, u52, u53, u54, u55, u56, u57, u58, u59, u60, u61, u62, u63, u64, u65, u66, u67, u68, u69, u70, u71, u72, u73, u74, u75, u76, u77, u78, u79, u80, u81, u82, u83, u84, u85, u86, u87, u88, u89, u90, u91, u92, u93, u94, u95], defers := [] } : Act)) (row.length) ?atStart ?round
  case' atStart => ((repeat apply Exists.intro); refine ⟨?_, rfl⟩)
  case' round => (intro n ac wr hcut; obtain ⟨u1, hcut⟩ := hcut; obtain ⟨u2, hcut⟩ := hcut; obtain ⟨u5, hcut⟩ := hcut; obtain ⟨u6, hcut⟩ := hcut; obtain ⟨u7, hcut⟩ := hcut; obtain ⟨u8, hcut⟩ := hcut; obtain ⟨u9, hcut⟩ := hcut; obtain ⟨u10, hcut⟩ := hcut; obtain ⟨u11, hcut⟩ := hcut; obtain ⟨u12, hcut⟩ := hcut; obtain ⟨u13, hcut⟩ := hcut; obtain ⟨u14, hcut⟩ := hcut; obtain ⟨u15, hcut⟩ := hcut; obtain ⟨u16, hcut⟩ := hcut; obtain ⟨u17, hcut⟩ := hcut; obtain ⟨u18, hcut⟩ := hcut; obtain ⟨u19, hcut⟩ := hcut; obtain ⟨u20, hcut⟩ := hcut; obtain ⟨u21, hcut⟩ := hcut; obtain ⟨u22, hcut⟩ := hcut; obtain ⟨u23, hcut⟩ := hcut; obtain ⟨u24, hcut⟩ := hcut; obtain ⟨u25, hcut⟩ := hcut; obtain ⟨u26, hcut⟩ := hcut; obtain ⟨u27, hcut⟩ := hcut; obtain ⟨u28, hcut⟩ := hcut; obtain ⟨u29, hcut⟩ := hcut; obtain ⟨u30, hcut⟩ := hcut; obtain ⟨u31, hcut⟩ := hcut; obtain ⟨u32, hcut⟩ := hcut; obtain ⟨u33, hcut⟩ := hcut; obtain ⟨u34, hcut⟩ := hcut; obtain ⟨u35, hcut⟩ := hcut; obtain ⟨u36, hcut⟩ := hcut; obtain ⟨u37, hcut⟩ := hcut; obtain ⟨u38, hcut⟩ := hcut; obtain ⟨u39, hcut⟩ := hcut; obtain ⟨u40, hcut⟩ := hcut; obtain ⟨u41, hcut⟩ := hcut; obtain ⟨u42, hcut⟩ := hcut; obtain ⟨u43, hcut⟩ := hcut; obtain ⟨u44, hcut⟩ := hcut; obtain ⟨u45, hcut⟩ := hcut; obtain ⟨u46, hcut⟩ := hcut; obtain ⟨u47, hcut⟩ := hcut; obtain ⟨u48, hcut⟩ := hcut; obtain ⟨u49, hcut⟩ := hcut; obtain ⟨u50, hcut⟩ := hcut; obtain ⟨u51, hcut⟩ := hcut; obtain ⟨u52, hcut⟩ := hcut; obtain ⟨u53, hcut⟩ := hcut; obtain ⟨u54, hcut⟩ := hcut; obtain ⟨u55, hcut⟩ := hcut; obtain ⟨u56, hcut⟩ := hcut; obtain ⟨u57, hcut⟩ := hcut; obtain ⟨u58, hcut⟩ := hcut; obtain ⟨u59, hcut⟩ := hcut; obtain ⟨u60, hcut⟩ := hcut; obtain ⟨u61, hcut⟩ := hcut; obtain ⟨u62, hcut⟩ := hcut; obtain ⟨u63, hcut⟩ := hcut; obtain ⟨u64, hcut⟩ := hcut; obtain ⟨u65, hcut⟩ := hcut; obtain ⟨u66, hcut⟩ := hcut; obtain ⟨u67, hcut⟩ := hcut; obtain ⟨u68, hcut⟩ := hcut; obtain ⟨u69, hcut⟩ := hcut; obtain ⟨u70, hcut⟩ := hcut; obtain ⟨u71, hcut⟩ := hcut; obtain ⟨u72, hcut⟩ := hcut; obtain ⟨u73, hcut⟩ := hcut; obtain ⟨u74, hcut⟩ := hcut; obtain ⟨u75, hcut⟩ := hcut; obtain ⟨u76, hcut⟩ := hcut; obtain ⟨u77, hcut⟩ := hcut; obtain ⟨u78, hcut⟩ := hcut; obtain ⟨u79, hcut⟩ := hcut; obtain ⟨u80, hcut⟩ := hcut; obtain ⟨u81, hcut⟩ := hcut; obtain ⟨u82, hcut⟩ := hcut; obtain ⟨u83, hcut⟩ := hcut; obtain ⟨u84, hcut⟩ := hcut; obtain ⟨u85, hcut⟩ := hcut; obtain ⟨u86, hcut⟩ := hcut; obtain ⟨u87, hcut⟩ := hcut; obtain ⟨u88, hcut⟩ := hcut; obtain ⟨u89, hcut⟩ := hcut; obtain ⟨u90, hcut⟩ := hcut; obtain ⟨u91, hcut⟩ := hcut; obtain ⟨u92, hcut⟩ := hcut; obtain ⟨u93, hcut⟩ := hcut; obtain ⟨u94, hcut⟩ := hcut; obtain ⟨u95, hcut⟩ := hcut; obtain ⟨v3, hcut⟩ := hcut; obtain ⟨v4, hcut⟩ := hcut; obtain ⟨hcut, hac⟩ := hcut; subst hac; intro _ _ _ _)
  case atStart => exact ⟨0, rfl, rfl, rfl, rfl⟩
  case round =>
    obtain ⟨i, hi, rfl, rfl, rfl⟩ := hcut
    have HI := Lib.hid hi
    have hile : i ≤ row.length := by omega
    clear hi
    by_cases hlt : i < row.length
    · obtain ⟨b, o, rfl, hok, c0, c1, c2⟩ := lg_at he hlt
      have hla : lgAt row i = row[i] := by simp [lgAt, hlt]
      have hg : gF row (i + 1) = if holdsB row[i].ph && decide (gF row i < row[i].ep) then row[i].ep else gF row i := by rw [gF, hla]
      clear hla
      have HE := Lib.hid he
      clear he
      generalize row[i] = l at *
      obtain ⟨ph, ep, pe⟩ := l
      simp only at c0 c1 c2 hg
      generalize gF row i = g at *
      obtain ⟨hd, hhd⟩ := named (holdsB ph)
      obtain ⟨gt, hgt⟩ := named (decide (g < ep))
      rw [hhd, hgt] at hg
      have HG := Lib.hid hg
      clear hg
      go_wp2_with (refine (has_any _ _ _ (by decide)).mono ?_; rintro e w2 ⟨rfl, rfl⟩; rw [has123, hhd])
      all_goals
        go_roundg (n - 1)
        case measure => have := HI.out; omega
        case rel => exact ⟨i + 1, by have := HI.out; omega, by go_num, by rw [HG.out]; go_light; simp [*], rfl⟩
    · have : i = row.length := by omega
      subst this
      clear hlt hile
      clear HI
      go_wp2
      obtain ⟨g, hg⟩ : ∃ g, g = gF row row.length := ⟨_, rfl⟩
      rw [← hg]
      have HG := Lib.hid hg
      clear hg
      refine wp_loop_ghost_k (fun (n : Nat) (ac : Act) (wq : World) => ∃ u1 u2 u4 u7 u8 u9 u10 u11 u12 u13 u14 u15 u16 u17 u18 u19 u20 u21 u22 u23 u24 u25 u26 u27 u28 u29 u30 u31 u32 u33 u34 u35 u36 u37 u38 u39 u40 u41 u42 u43 u44 u45 u46 u47 u48 u49 u50 u51 u52 u53 u54 u55 u56 u57 u58 u59 u60 u61 u62 u63 u64 u65 u66 u67 u68 u69 u70 u71 u72 u73 u74 u75 u76 u77 u78 u79 u80 u81 u82 u83 u84 u85 u86 u87 u88 u89 u90 u91 u92 u93 u94 u95 v5 v6 : Value, (∃ i : Nat, n + i = row.length ∧ v6 = .int .i64 i ∧ v5 = .bool (aF row g i) ∧ wq = wr) ∧ ac = ({ tmps := #[.slice A row.length cap, u1, u2, .int .i64 g, u4, v5, v6, u7, u8, u9, u10, u11, u12, u13, u14, u15, u16, u17, u18, u19, u20, u21, u22, u23, u24, u25, u26, u27, u28, u29, u30, u31, u32, u33, u34, u35, u36, u37, u38, u39, u40, u41, u42, u43, u44, u45, u46, u47, u48, u49, u50, u51, u52, u53, u54, u55, u56, u57, u58, u59, u60, u61, u62, u63, u64, u65, u66, u67, u68, u69, u70, u71, u72, u73, u74, u75, u76, u77, u78, u79, u80, u81, u82, u83, u84, u85, u86, u87, u88, u89, u90, u91, u92, u93, u94, u95], defers := [] } : Act)) (row.length) ?atStart ?round
      case' atStart => ((repeat apply Exists.intro); refine ⟨?_, rfl⟩)
      case' round => (intro n ac wq hcut; obtain ⟨u1, hcut⟩ := hcut; obtain ⟨u2, hcut⟩ := hcut; obtain ⟨u4, hcut⟩ := hcut; obtain ⟨u7, hcut⟩ := hcut; obtain ⟨u8, hcut⟩ := hcut; obtain ⟨u9, hcut⟩ := hcut; obtain ⟨u10, hcut⟩ := hcut; obtain ⟨u11, hcut⟩ := hcut; obtain ⟨u12, hcut⟩ := hcut; obtain ⟨u13, hcut⟩ := hcut; obtain ⟨u14, hcut⟩ := hcut; obtain ⟨u15, hcut⟩ := hcut; obtain ⟨u16, hcut⟩ := hcut; obtain ⟨u17, hcut⟩ := hcut; obtain ⟨u18, hcut⟩ := hcut; obtain ⟨u19, hcut⟩ := hcut; obtain ⟨u20, hcut⟩ := hcut; obtain ⟨u21, hcut⟩ := hcut; obtain ⟨u22, hcut⟩ := hcut; obtain ⟨u23, hcut⟩ := hcut; obtain ⟨u24, hcut⟩ := hcut; obtain ⟨u25, hcut⟩ := hcut; obtain ⟨u26, hcut⟩ := hcut; obtain ⟨u27, hcut⟩ := hcut; obtain ⟨u28, hcut⟩ := hcut; obtain ⟨u29, hcut⟩ := hcut; obtain ⟨u30, hcut⟩ := hcut; obtain ⟨u31, hcut⟩ := hcut; obtain ⟨u32, hcut⟩ := hcut; obtain ⟨u33, hcut⟩ := hcut; obtain ⟨u34, hcut⟩ := hcut; obtain ⟨u35, hcut⟩ := hcut; obtain ⟨u36, hcut⟩ := hcut; obtain ⟨u37, hcut⟩ := hcut; obtain ⟨u38, hcut⟩ := hcut; obtain ⟨u39, hcut⟩ := hcut; obtain ⟨u40, hcut⟩ := hcut; obtain ⟨u41, hcut⟩ := hcut; obtain ⟨u42, hcut⟩ := hcut; obtain ⟨u43, hcut⟩ := hcut; obtain ⟨u44, hcut⟩ := hcut; obtain ⟨u45, hcut⟩ := hcut; obtain ⟨u46, hcut⟩ := hcut; obtain ⟨u47, hcut⟩ := hcut; obtain ⟨u48, hcut⟩ := hcut; obtain ⟨u49, hcut⟩ := hcut; obtain ⟨u50, hcut⟩ := hcut; obtain ⟨u51, hcut⟩ := hcut; obtain ⟨u52, hcut⟩ := hcut; obtain ⟨u53, hcut⟩ := hcut; obtain ⟨u54, hcut⟩ := hcut; obtain ⟨u55, hcut⟩ := hcut; obtain ⟨u56, hcut⟩ := hcut; obtain ⟨u57, hcut⟩ := hcut; obtain ⟨u58, hcut⟩ := hcut; obtain ⟨u59, hcut⟩ := hcut; obtain ⟨u60, hcut⟩ := hcut; obtain ⟨u61, hcut⟩ := hcut; obtain ⟨u62, hcut⟩ := hcut; obtain ⟨u63, hcut⟩ := hcut; obtain ⟨u64, hcut⟩ := hcut; obtain ⟨u65, hcut⟩ := hcut; obtain ⟨u66, hcut⟩ := hcut; obtain ⟨u67, hcut⟩ := hcut; obtain ⟨u68, hcut⟩ := hcut; obtain ⟨u69, hcut⟩ := hcut; obtain ⟨u70, hcut⟩ := hcut; obtain ⟨u71, hcut⟩ := hcut; obtain ⟨u72, hcut⟩ := hcut; obtain ⟨u73, hcut⟩ := hcut; obtain ⟨u74, hcut⟩ := hcut; obtain ⟨u75, hcut⟩ := hcut; obtain ⟨u76, hcut⟩ := hcut; obtain ⟨u77, hcut⟩ := hcut; obtain ⟨u78, hcut⟩ := hcut; obtain ⟨u79, hcut⟩ := hcut; obtain ⟨u80, hcut⟩ := hcut; obtain ⟨u81, hcut⟩ := hcut; obtain ⟨u82, hcut⟩ := hcut; obtain ⟨u83, hcut⟩ := hcut; obtain ⟨u84, hcut⟩ := hcut; obtain ⟨u85, hcut⟩ := hcut; obtain ⟨u86, hcut⟩ := hcut; obtain ⟨u87, hcut⟩ := hcut; obtain ⟨u88, hcut⟩ := hcut; obtain ⟨u89, hcut⟩ := hcut; obtain ⟨u90, hcut⟩ := hcut; obtain ⟨u91, hcut⟩ := hcut; obtain ⟨u92, hcut⟩ := hcut; obtain ⟨u93, hcut⟩ := hcut; obtain ⟨u94, hcut⟩ := hcut; obtain ⟨u95, hcut⟩ := hcut; obtain ⟨v5, hcut⟩ := hcut; obtain ⟨v6, hcut⟩ := hcut; obtain ⟨hcut, hac⟩ := hcut; subst hac; intro _ _ _ _)
      case atStart => exact ⟨0, rfl, rfl, rfl, rfl⟩
      case round =>
        obtain ⟨i, hi, rfl, rfl, rfl⟩ := hcut
        have HI := Lib.hid hi
        have hile : i ≤ row.length := by omega
        clear hi
        by_cases hlt : i < row.length
        · obtain ⟨b, o, rfl, hok, c0, c1, c2⟩ := lg_at he hlt
          have hla : lgAt row i = row[i] := by simp [lgAt, hlt]
          have ha : aF row g (i + 1) = (aF row g i || (row[i].ph == 1 && row[i].ep == g)) := by rw [aF, hla]
          clear hla
          have HE := Lib.hid he
          clear he
          generalize row[i] = l at *
          obtain ⟨ph, ep, pe⟩ := l
          simp only at c0 c1 c2 ha
          generalize aF row g i = a at *
          obtain ⟨p1, hp1⟩ := named (ph == 1)
          obtain ⟨e1, he1⟩ := named (ep == g)
          rw [hp1, he1] at ha
          have HA := Lib.hid ha
          clear ha
          go_wp2_with (fail)
          all_goals
            go_roundg (n - 1)
            case measure => have := HI.out; omega
            case rel => exact ⟨i + 1, by have := HI.out; omega, by go_num, by rw [HA.out]; go_light; simp [*], rfl⟩
        · have : i = row.length := by omega
          subst this
          clear hlt hile
          clear HI
          go_wp2
          obtain ⟨a, ha⟩ : ∃ a, a = aF row g row.length := ⟨_, rfl⟩
          rw [← ha]
          have HR : refHolderF row = if (fF row g a row.length).2 then -1 else (fF row g a row.length).1 := by simp only [refHolderF, ← HG.out, ← ha]
          replace HR := Lib.hid HR
          clear ha
          refine wp_loop_ghost_k (fun (n : Nat) (ac : Act) (wz : World) => ∃ u1 u2 u4 u6 u9 u10 u11 u12 u13 u14 u15 u16 u17 u18 u19 u20 u21 u22 u23 u24 u25 u26 u27 u28 u29 u30 u31 u32 u33 u34 u35 u36 u37 u38 u39 u40 u41 u42 u43 u44 u45 u46 u47 u48 u49 u50 u51 u52 u53 u54 u55 u56 u57 u58 u59 u60 u61 u62 u63 u64 u65 u66 u67 u68 u69 u70 u71 u72 u73 u74 u75 u76 u77 u78 u79 u80 u81 u82 u83 u84 u85 u86 u87 u88 u89 u90 u91 u92 u93 u94 u95 v7 v8 : Value, (∃ i : Nat, n + i = row.length ∧ v8 = .int .i64 i ∧ v7 = .int .i64 (fF row g a i).1 ∧ (fF row g a i).2 = false ∧ wz = wq) ∧ ac = ({ tmps := #[.slice A row.length cap, u1, u2, .int .i64 g, u4, .bool a, u6, v7, v8, u9, u10, u11, u12, u13, u14, u15, u16, u17, u18, u19, u20, u21, u22, u23, u24, u25, u26, u27, u28, u29, u30, u31, u32, u33, u34, u35, u36, u37, u38, u39, u40, u41, u42, u43, u44, u45, u46, u47, u48, u49, u50, u51, u52, u53, u54, u55, u56, u57, u58, u59, u60, u61, u62, u63, u64, u65, u66, u67, u68, u69, u70, u71, u72, u73, u74, u75, u76, u77, u78, u79, u80, u81, u82, u83, u84, u85, u86, u87, u88, u89, u90, u91, u92, u93, u94, u95], defers := [] } : Act)) (row.length) ?atStart ?round
          case' atStart => ((repeat apply Exists.intro); refine ⟨?_, rfl⟩)
          case' round => (intro n ac wz hcut; obtain ⟨u1, hcut⟩ := hcut; obtain ⟨u2, hcut⟩ := hcut; obtain ⟨u4, hcut⟩ := hcut; obtain ⟨u6, hcut⟩ := hcut; obtain ⟨u9, hcut⟩ := hcut; obtain ⟨u10, hcut⟩ := hcut; obtain ⟨u11, hcut⟩ := hcut; obtain ⟨u12, hcut⟩ := hcut; obtain ⟨u13, hcut⟩ := hcut; obtain ⟨u14, hcut⟩ := hcut; obtain ⟨u15, hcut⟩ := hcut; obtain ⟨u16, hcut⟩ := hcut; obtain ⟨u17, hcut⟩ := hcut; obtain ⟨u18, hcut⟩ := hcut; obtain ⟨u19, hcut⟩ := hcut; obtain ⟨u20, hcut⟩ := hcut; obtain ⟨u21, hcut⟩ := hcut; obtain ⟨u22, hcut⟩ := hcut; obtain ⟨u23, hcut⟩ := hcut; obtain ⟨u24, hcut⟩ := hcut; obtain ⟨u25, hcut⟩ := hcut; obtain ⟨u26, hcut⟩ := hcut; obtain ⟨u27, hcut⟩ := hcut; obtain ⟨u28, hcut⟩ := hcut; obtain ⟨u29, hcut⟩ := hcut; obtain ⟨u30, hcut⟩ := hcut; obtain ⟨u31, hcut⟩ := hcut; obtain ⟨u32, hcut⟩ := hcut; obtain ⟨u33, hcut⟩ := hcut; obtain ⟨u34, hcut⟩ := hcut; obtain ⟨u35, hcut⟩ := hcut; obtain ⟨u36, hcut⟩ := hcut; obtain ⟨u37, hcut⟩ := hcut; obtain ⟨u38, hcut⟩ := hcut; obtain ⟨u39, hcut⟩ := hcut; obtain ⟨u40, hcut⟩ := hcut; obtain ⟨u41, hcut⟩ := hcut; obtain ⟨u42, hcut⟩ := hcut; obtain ⟨u43, hcut⟩ := hcut; obtain ⟨u44, hcut⟩ := hcut; obtain ⟨u45, hcut⟩ := hcut; obtain ⟨u46, hcut⟩ := hcut; obtain ⟨u47, hcut⟩ := hcut; obtain ⟨u48, hcut⟩ := hcut; obtain ⟨u49, hcut⟩ := hcut; obtain ⟨u50, hcut⟩ := hcut; obtain ⟨u51, hcut⟩ := hcut; obtain ⟨u52, hcut⟩ := hcut; obtain ⟨u53, hcut⟩ := hcut; obtain ⟨u54, hcut⟩ := hcut; obtain ⟨u55, hcut⟩ := hcut; obtain ⟨u56, hcut⟩ := hcut; obtain ⟨u57, hcut⟩ := hcut; obtain ⟨u58, hcut⟩ := hcut; obtain ⟨u59, hcut⟩ := hcut; obtain ⟨u60, hcut⟩ := hcut; obtain ⟨u61, hcut⟩ := hcut; obtain ⟨u62, hcut⟩ := hcut; obtain ⟨u63, hcut⟩ := hcut; obtain ⟨u64, hcut⟩ := hcut; obtain ⟨u65, hcut⟩ := hcut; obtain ⟨u66, hcut⟩ := hcut; obtain ⟨u67, hcut⟩ := hcut; obtain ⟨u68, hcut⟩ := hcut; obtain ⟨u69, hcut⟩ := hcut; obtain ⟨u70, hcut⟩ := hcut; obtain ⟨u71, hcut⟩ := hcut; obtain ⟨u72, hcut⟩ := hcut; obtain ⟨u73, hcut⟩ := hcut; obtain ⟨u74, hcut⟩ := hcut; obtain ⟨u75, hcut⟩ := hcut; obtain ⟨u76, hcut⟩ := hcut; obtain ⟨u77, hcut⟩ := hcut; obtain ⟨u78, hcut⟩ := hcut; obtain ⟨u79, hcut⟩ := hcut; obtain ⟨u80, hcut⟩ := hcut; obtain ⟨u81, hcut⟩ := hcut; obtain ⟨u82, hcut⟩ := hcut; obtain ⟨u83, hcut⟩ := hcut; obtain ⟨u84, hcut⟩ := hcut; obtain ⟨u85, hcut⟩ := hcut; obtain ⟨u86, hcut⟩ := hcut; obtain ⟨u87, hcut⟩ := hcut; obtain ⟨u88, hcut⟩ := hcut; obtain ⟨u89, hcut⟩ := hcut; obtain ⟨u90, hcut⟩ := hcut; obtain ⟨u91, hcut⟩ := hcut; obtain ⟨u92, hcut⟩ := hcut; obtain ⟨u93, hcut⟩ := hcut; obtain ⟨u94, hcut⟩ := hcut; obtain ⟨u95, hcut⟩ := hcut; obtain ⟨v7, hcut⟩ := hcut; obtain ⟨v8, hcut⟩ := hcut; obtain ⟨hcut, hac⟩ := hcut; subst hac; intro _ _ _ _)
          case atStart => exact ⟨0, rfl, rfl, rfl, rfl, rfl⟩
          case round =>
            obtain ⟨i, hi, rfl, rfl, hs, rfl⟩ := hcut
            have HI := Lib.hid hi
            have hile : i ≤ row.length := by omega
            clear hi
            by_cases hlt : i < row.length
            · obtain ⟨b, o, rfl, hok, c0, c1, c2⟩ := lg_at he hlt
              have hla : lgAt row i = row[i] := by simp [lgAt, hlt]
              have hf : fF row g a (i + 1) = if selB g a row[i] then (if decide (0 ≤ (fF row g a i).1) then ((fF row g a i).1, true) else ((i : Int), (fF row g a i).2)) else fF row g a i := by rw [fF, hla]
              have hst := fF_stays row g a (i + 1)
              clear hla
              have HE := Lib.hid he
              clear he
              generalize row[i] = l at *
              obtain ⟨ph, ep, pe⟩ := l
              generalize fF row g a i = s at *
              obtain ⟨sf, ss⟩ := s
              simp only at c0 c1 c2 hf hs
              subst hs
              obtain ⟨p1, hp1⟩ := named (ph != 1)
              obtain ⟨e1, he1⟩ := named (ep != g)
              obtain ⟨hd, hhd⟩ := named (holdsB ph)
              obtain ⟨ge, hge⟩ := named (decide (0 ≤ sf))
              have hsel : selB g a ⟨ph, ep, pe⟩ = !(e1 || (a && p1) || !hd) := by rw [← hp1, ← he1, ← hhd]; rfl
              rw [hsel, hge] at hf
              clear hsel
              have HF := Lib.hid hf
              have HST := Lib.hid hst
              clear hf hst
              go_wp2_with (refine (has_any _ _ _ (by decide)).mono ?_; rintro e w2 ⟨rfl, rfl⟩; rw [has123, hhd])
              all_goals cases a
              all_goals try contradiction
              all_goals try
                go_roundg (n - 1)
                case measure => have := HI.out; omega
                case rel => exact ⟨i + 1, by have := HI.out; omega, by go_num, by rw [HF.out]; go_light; simp [*], by rw [HF.out]; go_light; simp [*], rfl⟩
              all_goals
                go_ret
                refine ⟨ret_i ?_, rfl⟩
                have f1 := HF.out.trans (show _ = (sf, true) by go_light; simp [*])
                have e2 := HST.out (by rw [f1]) (row.length - (i + 1))
                rw [show i + 1 + (row.length - (i + 1)) = row.length by omega] at e2
                rw [HR.out, e2]
                rfl
            · have : i = row.length := by omega
              subst this
              go_wp2
              go_ret
              refine ⟨ret_i ?_, rfl⟩
              rw [HR.out, hs]
              simp
end Go.Proofs.Ytecdmbcdkfjgfaa
