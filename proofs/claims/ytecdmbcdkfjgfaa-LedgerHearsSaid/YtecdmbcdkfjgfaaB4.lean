/- The contract of the reference's Hear. -/
import Derived.Test.YtecdmbcdkfjgfaaB1
import Derived.Test.YtecdmbcdkfjgfaaB2
import Derived.Test.YtecdmbcdkfjgfaaB3
namespace Go.Proofs.Ytecdmbcdkfjgfaa
open Go.RowKit

theorem ansAt : ∀ k : Nat, k < 12 → ∃ a : Ans, answersL[k]? = some a ∧ answersC[k * 6]? = some (.int .i64 a.k) ∧ answersC[k * 6 + 1]? = some (.string a.p) ∧ answersC[k * 6 + 2]? = some (.int .u8 a.e) ∧ answersC[k * 6 + 3]? = some (.int .u8 a.q) ∧ answersC[k * 6 + 4]? = some (.int .i64 a.r) ∧ answersC[k * 6 + 5]? = some (.int .i64 a.y) ∧ a.p.size ≤ 6
  | 0, _ => ⟨_, rfl, rfl, rfl, rfl, rfl, rfl, rfl, by decide⟩
  | 1, _ => ⟨_, rfl, rfl, rfl, rfl, rfl, rfl, rfl, by decide⟩
  | 2, _ => ⟨_, rfl, rfl, rfl, rfl, rfl, rfl, rfl, by decide⟩
  | 3, _ => ⟨_, rfl, rfl, rfl, rfl, rfl, rfl, rfl, by decide⟩
  | 4, _ => ⟨_, rfl, rfl, rfl, rfl, rfl, rfl, rfl, by decide⟩
  | 5, _ => ⟨_, rfl, rfl, rfl, rfl, rfl, rfl, rfl, by decide⟩
  | 6, _ => ⟨_, rfl, rfl, rfl, rfl, rfl, rfl, rfl, by decide⟩
  | 7, _ => ⟨_, rfl, rfl, rfl, rfl, rfl, rfl, rfl, by decide⟩
  | 8, _ => ⟨_, rfl, rfl, rfl, rfl, rfl, rfl, rfl, by decide⟩
  | 9, _ => ⟨_, rfl, rfl, rfl, rfl, rfl, rfl, rfl, by decide⟩
  | 10, _ => ⟨_, rfl, rfl, rfl, rfl, rfl, rfl, rfl, by decide⟩
  | 11, _ => ⟨_, rfl, rfl, rfl, rfl, rfl, rfl, rfl, by decide⟩
  | n + 12, h => absurd h (by omega)

def stB (ep e : Int) (a : Ans) : Bool := (a.e == 61 && ep == e) || (a.e == 60 && decide (ep < e)) || (a.e == 62 && decide (e < ep))
def skipB (ph ep pe k e f : Int) (a : Ans) : Bool := a.k != k || !hasL a.p.data.toList ph || !stB ep e a || (a.q == 121 && pe != f) || (a.q == 110 && pe == f)
def ansGo (ph ep pe k e f : Int) : List Ans → Int × Int
  | [] => (0, 0)
  | a :: r => if skipB ph ep pe k e f a then ansGo ph ep pe k e f r else (a.r, a.y)
def refPre (s ph ep pe k e f : Int) : Bool := !validB s ph ep pe || !srvB f || f == s || (k == 3 && decide (1073741824 ≤ e) && decide (ep < e))
def refHearF (s ph ep pe k e f : Int) : Int × Int :=
  if refPre s ph ep pe k e f then (0, 0) else ansGo ph ep pe k e f answersL
theorem ansGo_drop (ph ep pe k e f : Int) {j : Nat} {a : Ans} (h : answersL[j]? = some a) : ansGo ph ep pe k e f (answersL.drop j) = if skipB ph ep pe k e f a then ansGo ph ep pe k e f (answersL.drop (j + 1)) else (a.r, a.y) := by
  obtain ⟨hl, he⟩ := List.getElem?_eq_some_iff.1 h
  rw [List.drop_eq_getElem_cons hl, he]; rfl

set_option maxRecDepth 100000 in
set_option maxHeartbeats 4000000 in
theorem refHear_any (s ph ep pe k e f : Int) (w : World) :
    Calls Try.prog 11 #[.int .i64 s, .agg #[.int .i64 ph, .int .i64 ep, .int .i64 pe], .int .i64 k, .int .i64 e, .int .i64 f] w fun en w' => en = .returned (.tuple #[.int .i64 (refHearF s ph ep pe k e f).1, .int .i64 (refHearF s ph ep pe k e f).2]) ∧ Below w.heap.size w w' := by
  go_enter Try.func11, Try.ntmps11
  go_upto_region 1 with (fail)
  refine wp_cut (fun (ac : Act) (wc : World) => ∃ u1 u5 u7 u8 u9 u10 u11 u12 u13 u14 u15 u16 u17 u18 u19 u20 u21 u22 u23 u24 u25 u26 u27 u28 u29 u30 u31 u32 u33 u34 u35 u36 u37 u38 u39 u40 u41 u42 u44 u45 u46 u47 u48 u49 u50 u51 u52 u53 u54 u55 u56 u57 u58 u59 u60 u61 u62 u63 u64 u65 u66 u67 u68 u69 u70 u71 u72 u73 u74 u75 u76 u77 u78 u79 u80 u81 u82 u83 u84 u85 u86 u87 u88 u89 u90 u91 u92 u93 u94 u95 u96 u97 u98 u99 u100 u101 u102 u103 u104 u105 u106 u107 u108 u109 u110 u111 u112 u113 u114 u115 u116 u117 u118 u119 u120 u121 u122 u123 u124 u125 u126 u127 v43 : Value, ((∃ b : Bool, v43 = .bool b ∧ Hid (b = refPre s ph ep pe k e f)) ∧ Below w.heap.size w wc ∧ wc.heap[w.heap.size]? = some (.cells #[.int .i64 ph, .int .i64 ep, .int .i64 pe] 24 (0, 0))) ∧ ac = ({ tmps := #[.int .i64 s, u1, .int .i64 k, .int .i64 e, .int .i64 f, u5, .pointer (some ⟨w.heap.size, 0, none⟩), u7, u8, u9, u10, u11, u12, u13, u14, u15, u16, u17, u18, u19, u20, u21, u22, u23, u24, u25, u26, u27, u28, u29, u30, u31, u32, u33, u34, u35, u36, u37, u38, u39, u40, u41, u42, v43, u44, u45, u46, u47, u48, u49, u50, u51, u52, u53, u54, u55, u56, u57, u58, u59, u60, u61, u62, u63, u64, u65, u66, u67, u68, u69, u70, u71, u72, u73, u74, u75, u76, u77, u78, u79, u80, u81, u82, u83, u84, u85, u86, u87, u88, u89, u90, u91, u92, u93, u94, u95, u96, u97, u98, u99, u100, u101, u102, u103, u104, u105, u106, u107, u108, u109, u110, u111, u112, u113, u114, u115, u116, u117, u118, u119, u120, u121, u122, u123, u124, u125, u126, u127], defers := [] } : Act)) ?rest ?first
  case' rest => (intro ac wc hcut; obtain ⟨u1, hcut⟩ := hcut; obtain ⟨u5, hcut⟩ := hcut; obtain ⟨u7, hcut⟩ := hcut; obtain ⟨u8, hcut⟩ := hcut; obtain ⟨u9, hcut⟩ := hcut; obtain ⟨u10, hcut⟩ := hcut; obtain ⟨u11, hcut⟩ := hcut; obtain ⟨u12, hcut⟩ := hcut; obtain ⟨u13, hcut⟩ := hcut; obtain ⟨u14, hcut⟩ := hcut; obtain ⟨u15, hcut⟩ := hcut; obtain ⟨u16, hcut⟩ := hcut; obtain ⟨u17, hcut⟩ := hcut; obtain ⟨u18, hcut⟩ := hcut; obtain ⟨u19, hcut⟩ := hcut; obtain ⟨u20, hcut⟩ := hcut; obtain ⟨u21, hcut⟩ := hcut; obtain ⟨u22, hcut⟩ := hcut; obtain ⟨u23, hcut⟩ := hcut; obtain ⟨u24, hcut⟩ := hcut; obtain ⟨u25, hcut⟩ := hcut; obtain ⟨u26, hcut⟩ := hcut; obtain ⟨u27, hcut⟩ := hcut; obtain ⟨u28, hcut⟩ := hcut; obtain ⟨u29, hcut⟩ := hcut; obtain ⟨u30, hcut⟩ := hcut; obtain ⟨u31, hcut⟩ := hcut; obtain ⟨u32, hcut⟩ := hcut; obtain ⟨u33, hcut⟩ := hcut; obtain ⟨u34, hcut⟩ := hcut; obtain ⟨u35, hcut⟩ := hcut; obtain ⟨u36, hcut⟩ := hcut; obtain ⟨u37, hcut⟩ := hcut; obtain ⟨u38, hcut⟩ := hcut; obtain ⟨u39, hcut⟩ := hcut; obtain ⟨u40, hcut⟩ := hcut; obtain ⟨u41, hcut⟩ := hcut; obtain ⟨u42, hcut⟩ := hcut; obtain ⟨u44, hcut⟩ := hcut; obtain ⟨u45, hcut⟩ := hcut; obtain ⟨u46, hcut⟩ := hcut; obtain ⟨u47, hcut⟩ := hcut; obtain ⟨u48, hcut⟩ := hcut; obtain ⟨u49, hcut⟩ := hcut; obtain ⟨u50, hcut⟩ := hcut; obtain ⟨u51, hcut⟩ := hcut; obtain ⟨u52, hcut⟩ := hcut; obtain ⟨u53, hcut⟩ := hcut; obtain ⟨u54, hcut⟩ := hcut; obtain ⟨u55, hcut⟩ := hcut; obtain ⟨u56, hcut⟩ := hcut; obtain ⟨u57, hcut⟩ := hcut; obtain ⟨u58, hcut⟩ := hcut; obtain ⟨u59, hcut⟩ := hcut; obtain ⟨u60, hcut⟩ := hcut; obtain ⟨u61, hcut⟩ := hcut; obtain ⟨u62, hcut⟩ := hcut; obtain ⟨u63, hcut⟩ := hcut; obtain ⟨u64, hcut⟩ := hcut; obtain ⟨u65, hcut⟩ := hcut; obtain ⟨u66, hcut⟩ := hcut; obtain ⟨u67, hcut⟩ := hcut; obtain ⟨u68, hcut⟩ := hcut; obtain ⟨u69, hcut⟩ := hcut; obtain ⟨u70, hcut⟩ := hcut; obtain ⟨u71, hcut⟩ := hcut; obtain ⟨u72, hcut⟩ := hcut; obtain ⟨u73, hcut⟩ := hcut; obtain ⟨u74, hcut⟩ := hcut; obtain ⟨u75, hcut⟩ := hcut; obtain ⟨u76, hcut⟩ := hcut; obtain ⟨u77, hcut⟩ := hcut; obtain ⟨u78, hcut⟩ := hcut; obtain ⟨u79, hcut⟩ := hcut; obtain ⟨u80, hcut⟩ := hcut; obtain ⟨u81, hcut⟩ := hcut; obtain ⟨u82, hcut⟩ := hcut; obtain ⟨u83, hcut⟩ := hcut; obtain ⟨u84, hcut⟩ := hcut; obtain ⟨u85, hcut⟩ := hcut; obtain ⟨u86, hcut⟩ := hcut; obtain ⟨u87, hcut⟩ := hcut; obtain ⟨u88, hcut⟩ := hcut; obtain ⟨u89, hcut⟩ := hcut; obtain ⟨u90, hcut⟩ := hcut; obtain ⟨u91, hcut⟩ := hcut; obtain ⟨u92, hcut⟩ := hcut; obtain ⟨u93, hcut⟩ := hcut; obtain ⟨u94, hcut⟩ := hcut; obtain ⟨u95, hcut⟩ := hcut; obtain ⟨u96, hcut⟩ := hcut; obtain ⟨u97, hcut⟩ := hcut; obtain ⟨u98, hcut⟩ := hcut; obtain ⟨u99, hcut⟩ := hcut; obtain ⟨u100, hcut⟩ := hcut; obtain ⟨u101, hcut⟩ := hcut; obtain ⟨u102, hcut⟩ := hcut; obtain ⟨u103, hcut⟩ := hcut; obtain ⟨u104, hcut⟩ := hcut; obtain ⟨u105, hcut⟩ := hcut; obtain ⟨u106, hcut⟩ := hcut; obtain ⟨u107, hcut⟩ := hcut; obtain ⟨u108, hcut⟩ := hcut; obtain ⟨u109, hcut⟩ := hcut; obtain ⟨u110, hcut⟩ := hcut; obtain ⟨u111, hcut⟩ := hcut; obtain ⟨u112, hcut⟩ := hcut; obtain ⟨u113, hcut⟩ := hcut; obtain ⟨u114, hcut⟩ := hcut; obtain ⟨u115, hcut⟩ := hcut; obtain ⟨u116, hcut⟩ := hcut; obtain ⟨u117, hcut⟩ := hcut; obtain ⟨u118, hcut⟩ := hcut; obtain ⟨u119, hcut⟩ := hcut; obtain ⟨u120, hcut⟩ := hcut; obtain ⟨u121, hcut⟩ := hcut; obtain ⟨u122, hcut⟩ := hcut; obtain ⟨u123, hcut⟩ := hcut; obtain ⟨u124, hcut⟩ := hcut; obtain ⟨u125, hcut⟩ := hcut; obtain ⟨u126, hcut⟩ := hcut; obtain ⟨u127, hcut⟩ := hcut; obtain ⟨v43, hcut⟩ := hcut; obtain ⟨hcut, hac⟩ := hcut; subst hac)
  case' first => intro _ _ _ _
  case first =>
    obtain ⟨b1, h1⟩ := named (f == s)
    obtain ⟨b2, h2⟩ := named (k == 3)
    obtain ⟨b3, h3⟩ := named (decide (1073741824 ≤ e))
    obtain ⟨b4, h4⟩ := named (decide (ep < e))
    go_wp2_with (first | (go_at_call 32; refine (server_any _ _).mono ?_; rintro e w' ⟨rfl, rfl⟩) | (go_at_call 31; refine (refValid_any _ _ _ _ _).mono ?_; rintro e w' ⟨rfl, hb⟩; obtain ⟨hc, hf⟩ := bcell hb))
    all_goals
      go_meet
      case rel =>
        refine ⟨⟨_, rfl, ?_⟩, (((Below.refl _ _).alloc (Nat.le_refl _) _)).trans (hb.mono (by simp)), blk_below (blk_new _ _) hb⟩
        go_light
        show _ = _
        grind [refPre]
  case rest =>
    obtain ⟨⟨b, rfl, hp⟩, hB, hblk⟩ := hcut
    cases b
    case true =>
      go_wp2
      go_ret2
      exact ⟨ret_ii (by simp [refHearF, ← hp.out]) (by simp [refHearF, ← hp.out]), hB⟩
    case false =>
      have hf0 : Hid (refHearF s ph ep pe k e f = ansGo ph ep pe k e f answersL) := by simp [Hid, refHearF, ← hp.out]
      go_wp2_with (first | (go_at_call 33; refine (answers_any _).mono ?_; rintro e w'' ⟨rfl, rfl⟩))
      refine wp_loop_ghost_k (fun (n : Nat) (ac : Act) (wr : World) => ∃ u1 u5 u7 u8 u9 u10 u11 u14 u15 u16 u17 u18 u19 u20 u21 u22 u23 u24 u25 u26 u27 u28 u29 u30 u31 u32 u33 u34 u35 u36 u37 u38 u39 u40 u41 u42 u43 u44 u45 u46 u47 u48 u49 u50 u51 u52 u53 u54 u55 u56 u57 u58 u59 u60 u61 u62 u63 u64 u65 u66 u67 u68 u69 u70 u71 u72 u73 u74 u75 u76 u77 u78 u79 u80 u81 u82 u83 u84 u85 u86 u87 u88 u89 u90 u91 u92 u93 u94 u95 u96 u97 u98 u99 u100 u101 u102 u103 u104 u105 u106 u107 u108 u109 u110 u111 u112 u113 u114 u115 u116 u117 u118 u119 u120 u121 u122 u123 u124 u125 u126 u127 v13 : Value, (∃ j : Nat, n + j = 12 ∧ v13 = .int .i64 j ∧ Below w.heap.size w wr ∧ wr.heap[w.heap.size]? = some (.cells #[.int .i64 ph, .int .i64 ep, .int .i64 pe] 24 (0, 0)) ∧ wr.heap[wc.heap.size]? = some (.cells answersC 64 (0, 0)) ∧ Hid (refHearF s ph ep pe k e f = ansGo ph ep pe k e f (answersL.drop j))) ∧ ac = ({ tmps := #[.int .i64 s, u1, .int .i64 k, .int .i64 e, .int .i64 f, u5, .pointer (some ⟨w.heap.size, 0, none⟩), u7, u8, u9, u10, u11, .slice (some ⟨wc.heap.size, 0, none⟩) 12 12, v13, u14, u15, u16, u17, u18, u19, u20, u21, u22, u23, u24, u25, u26, u27, u28, u29, u30, u31, u32, u33, u34, u35, u36, u37, u38, u39, u40, u41, u42, u43, u44, u45, u46, u47, u48, u49, u50, u51, u52, u53, u54, u55, u56, u57, u58, u59, u60, u61, u62, u63, u64, u65, u66, u67, u68, u69, u70, u71, u72, u73, u74, u75, u76, u77, u78, u79, u80, u81, u82, u83, u84, u85, u86, u87, u88, u89, u90, u91, u92, u93, u94, u95, u96, u97, u98, u99, u100, u101, u102, u103, u104, u105, u106, u107, u108, u109, u110, u111, u112, u113, u114, u115, u116, u117, u118, u119, u120, u121, u122, u123, u124, u125, u126, u127], defers := [] } : Act)) (12) ?atStart ?round
      case' atStart => ((repeat apply Exists.intro); refine ⟨?_, rfl⟩)
      case' round => (intro n ac wr hcut; obtain ⟨u1, hcut⟩ := hcut; obtain ⟨u5, hcut⟩ := hcut; obtain ⟨u7, hcut⟩ := hcut; obtain ⟨u8, hcut⟩ := hcut; obtain ⟨u9, hcut⟩ := hcut; obtain ⟨u10, hcut⟩ := hcut; obtain ⟨u11, hcut⟩ := hcut; obtain ⟨u14, hcut⟩ := hcut; obtain ⟨u15, hcut⟩ := hcut; obtain ⟨u16, hcut⟩ := hcut; obtain ⟨u17, hcut⟩ := hcut; obtain ⟨u18, hcut⟩ := hcut; obtain ⟨u19, hcut⟩ := hcut; obtain ⟨u20, hcut⟩ := hcut; obtain ⟨u21, hcut⟩ := hcut; obtain ⟨u22, hcut⟩ := hcut; obtain ⟨u23, hcut⟩ := hcut; obtain ⟨u24, hcut⟩ := hcut; obtain ⟨u25, hcut⟩ := hcut; obtain ⟨u26, hcut⟩ := hcut; obtain ⟨u27, hcut⟩ := hcut; obtain ⟨u28, hcut⟩ := hcut; obtain ⟨u29, hcut⟩ := hcut; obtain ⟨u30, hcut⟩ := hcut; obtain ⟨u31, hcut⟩ := hcut; obtain ⟨u32, hcut⟩ := hcut; obtain ⟨u33, hcut⟩ := hcut; obtain ⟨u34, hcut⟩ := hcut; obtain ⟨u35, hcut⟩ := hcut; obtain ⟨u36, hcut⟩ := hcut; obtain ⟨u37, hcut⟩ := hcut; obtain ⟨u38, hcut⟩ := hcut; obtain ⟨u39, hcut⟩ := hcut; obtain ⟨u40, hcut⟩ := hcut; obtain ⟨u41, hcut⟩ := hcut; obtain ⟨u42, hcut⟩ := hcut; obtain ⟨u43, hcut⟩ := hcut; obtain ⟨u44, hcut⟩ := hcut; obtain ⟨u45, hcut⟩ := hcut; obtain ⟨u46, hcut⟩ := hcut; obtain ⟨u47, hcut⟩ := hcut; obtain ⟨u48, hcut⟩ := hcut; obtain ⟨u49, hcut⟩ := hcut; obtain ⟨u50, hcut⟩ := hcut; obtain ⟨u51, hcut⟩ := hcut; obtain ⟨u52, hcut⟩ := hcut; obtain ⟨u53, hcut⟩ := hcut; obtain ⟨u54, hcut⟩ := hcut; obtain ⟨u55, hcut⟩ := hcut; obtain ⟨u56, hcut⟩ := hcut; obtain ⟨u57, hcut⟩ := hcut; obtain ⟨u58, hcut⟩ := hcut; obtain ⟨u59, hcut⟩ := hcut; obtain ⟨u60, hcut⟩ := hcut; obtain ⟨u61, hcut⟩ := hcut; obtain ⟨u62, hcut⟩ := hcut; obtain ⟨u63, hcut⟩ := hcut; obtain ⟨u64, hcut⟩ := hcut; obtain ⟨u65, hcut⟩ := hcut; obtain ⟨u66, hcut⟩ := hcut; obtain ⟨u67, hcut⟩ := hcut; obtain ⟨u68, hcut⟩ := hcut; obtain ⟨u69, hcut⟩ := hcut; obtain ⟨u70, hcut⟩ := hcut; obtain ⟨u71, hcut⟩ := hcut; obtain ⟨u72, hcut⟩ := hcut; obtain ⟨u73, hcut⟩ := hcut; obtain ⟨u74, hcut⟩ := hcut; obtain ⟨u75, hcut⟩ := hcut; obtain ⟨u76, hcut⟩ := hcut; obtain ⟨u77, hcut⟩ := hcut; obtain ⟨u78, hcut⟩ := hcut; obtain ⟨u79, hcut⟩ := hcut; obtain ⟨u80, hcut⟩ := hcut; obtain ⟨u81, hcut⟩ := hcut; obtain ⟨u82, hcut⟩ := hcut; obtain ⟨u83, hcut⟩ := hcut; obtain ⟨u84, hcut⟩ := hcut; obtain ⟨u85, hcut⟩ := hcut; obtain ⟨u86, hcut⟩ := hcut; obtain ⟨u87, hcut⟩ := hcut; obtain ⟨u88, hcut⟩ := hcut; obtain ⟨u89, hcut⟩ := hcut; obtain ⟨u90, hcut⟩ := hcut; obtain ⟨u91, hcut⟩ := hcut; obtain ⟨u92, hcut⟩ := hcut; obtain ⟨u93, hcut⟩ := hcut; obtain ⟨u94, hcut⟩ := hcut; obtain ⟨u95, hcut⟩ := hcut; obtain ⟨u96, hcut⟩ := hcut; obtain ⟨u97, hcut⟩ := hcut; obtain ⟨u98, hcut⟩ := hcut; obtain ⟨u99, hcut⟩ := hcut; obtain ⟨u100, hcut⟩ := hcut; obtain ⟨u101, hcut⟩ := hcut; obtain ⟨u102, hcut⟩ := hcut; obtain ⟨u103, hcut⟩ := hcut; obtain ⟨u104, hcut⟩ := hcut; obtain ⟨u105, hcut⟩ := hcut; obtain ⟨u106, hcut⟩ := hcut; obtain ⟨u107, hcut⟩ := hcut; obtain ⟨u108, hcut⟩ := hcut; obtain ⟨u109, hcut⟩ := hcut; obtain ⟨u110, hcut⟩ := hcut; obtain ⟨u111, hcut⟩ := hcut; obtain ⟨u112, hcut⟩ := hcut; obtain ⟨u113, hcut⟩ := hcut; obtain ⟨u114, hcut⟩ := hcut; obtain ⟨u115, hcut⟩ := hcut; obtain ⟨u116, hcut⟩ := hcut; obtain ⟨u117, hcut⟩ := hcut; obtain ⟨u118, hcut⟩ := hcut; obtain ⟨u119, hcut⟩ := hcut; obtain ⟨u120, hcut⟩ := hcut; obtain ⟨u121, hcut⟩ := hcut; obtain ⟨u122, hcut⟩ := hcut; obtain ⟨u123, hcut⟩ := hcut; obtain ⟨u124, hcut⟩ := hcut; obtain ⟨u125, hcut⟩ := hcut; obtain ⟨u126, hcut⟩ := hcut; obtain ⟨u127, hcut⟩ := hcut; obtain ⟨v13, hcut⟩ := hcut; obtain ⟨hcut, hac⟩ := hcut; subst hac; intro _ _ _ _)
      case atStart => exact ⟨0, by omega, rfl, hB.alloc hB.size _, blk_alloc hblk _, blk_new _ _, hf0⟩
      case round =>
        obtain ⟨j, hn, rfl, hBr, hl, ha, hr⟩ := hcut
        have hz1 := blk_lt hl
        have hz2 := blk_lt ha
        have HN := Lib.hid hn
        have hn2 : j ≤ 12 := by omega
        clear hn
        by_cases hlt : j < 12
        · obtain ⟨a, ha0, c0, c1, c2, c3, c4, c5, hsz⟩ := ansAt j hlt
          have hstep := Lib.hid (ansGo_drop ph ep pe k e f ha0)
          have a0 := cell_blk ha _ c0
          have a1 := cell_blk ha _ c1
          have a2 := cell_blk ha _ c2
          have a3 := cell_blk ha _ c3
          have a4 := cell_blk ha _ c4
          have a5 := cell_blk ha _ c5
          clear c0 c1 c2 c3 c4 c5 ha0 hp hB hblk hf0
          go_upto_region 8 with (fail)
          refine wp_cut (fun (ac : Act) (wx : World) => ∃ u1 u5 u7 u8 u9 u10 u11 u16 u17 u18 u19 u20 u21 u22 u23 u24 u25 u26 u27 u28 u29 u30 u31 u32 u33 u34 u35 u36 u37 u38 u39 u40 u41 u42 u43 u44 u45 u46 u47 u48 u49 u50 u51 u52 u53 u54 u55 u56 u57 u58 u59 u60 u61 u62 u63 u64 u65 u66 u67 u68 u69 u70 u71 u72 u73 u74 u75 u76 u77 u78 u79 u80 u81 u82 u83 u84 u85 u86 u87 u88 u89 u90 u91 u92 u93 u94 u95 u96 u97 u98 u99 u100 u101 u102 u103 u104 u105 u106 u107 u108 u109 u110 u111 u112 u113 u114 u115 u116 u117 u118 u119 u120 u121 u122 u123 u124 u125 u126 u127 v15 : Value, ((∃ b : Bool, v15 = .bool b ∧ Hid (b = stB ep e a)) ∧ Below w.heap.size w wx ∧ wx.heap[w.heap.size]? = some (.cells #[.int .i64 ph, .int .i64 ep, .int .i64 pe] 24 (0, 0)) ∧ wx.heap[wc.heap.size]? = some (.cells answersC 64 (0, 0)) ∧ wx.heap[wr.heap.size]? = some (.cells #[.int .i64 a.k, .string a.p, .int .u8 a.e, .int .u8 a.q, .int .i64 a.r, .int .i64 a.y] 64 (0, 0))) ∧ ac = ({ tmps := #[.int .i64 s, u1, .int .i64 k, .int .i64 e, .int .i64 f, u5, .pointer (some ⟨w.heap.size, 0, none⟩), u7, u8, u9, u10, u11, .slice (some ⟨wc.heap.size, 0, none⟩) 12 12, .int .i64 (j : Int), .pointer (some ⟨wr.heap.size, 0, none⟩), v15, u16, u17, u18, u19, u20, u21, u22, u23, u24, u25, u26, u27, u28, u29, u30, u31, u32, u33, u34, u35, u36, u37, u38, u39, u40, u41, u42, u43, u44, u45, u46, u47, u48, u49, u50, u51, u52, u53, u54, u55, u56, u57, u58, u59, u60, u61, u62, u63, u64, u65, u66, u67, u68, u69, u70, u71, u72, u73, u74, u75, u76, u77, u78, u79, u80, u81, u82, u83, u84, u85, u86, u87, u88, u89, u90, u91, u92, u93, u94, u95, u96, u97, u98, u99, u100, u101, u102, u103, u104, u105, u106, u107, u108, u109, u110, u111, u112, u113, u114, u115, u116, u117, u118, u119, u120, u121, u122, u123, u124, u125, u126, u127], defers := [] } : Act)) ?rest ?first
          case' rest => (intro ac wx hcut; obtain ⟨u1, hcut⟩ := hcut; obtain ⟨u5, hcut⟩ := hcut; obtain ⟨u7, hcut⟩ := hcut; obtain ⟨u8, hcut⟩ := hcut; obtain ⟨u9, hcut⟩ := hcut; obtain ⟨u10, hcut⟩ := hcut; obtain ⟨u11, hcut⟩ := hcut; obtain ⟨u16, hcut⟩ := hcut; obtain ⟨u17, hcut⟩ := hcut; obtain ⟨u18, hcut⟩ := hcut; obtain ⟨u19, hcut⟩ := hcut; obtain ⟨u20, hcut⟩ := hcut; obtain ⟨u21, hcut⟩ := hcut; obtain ⟨u22, hcut⟩ := hcut; obtain ⟨u23, hcut⟩ := hcut; obtain ⟨u24, hcut⟩ := hcut; obtain ⟨u25, hcut⟩ := hcut; obtain ⟨u26, hcut⟩ := hcut; obtain ⟨u27, hcut⟩ := hcut; obtain ⟨u28, hcut⟩ := hcut; obtain ⟨u29, hcut⟩ := hcut; obtain ⟨u30, hcut⟩ := hcut; obtain ⟨u31, hcut⟩ := hcut; obtain ⟨u32, hcut⟩ := hcut; obtain ⟨u33, hcut⟩ := hcut; obtain ⟨u34, hcut⟩ := hcut; obtain ⟨u35, hcut⟩ := hcut; obtain ⟨u36, hcut⟩ := hcut; obtain ⟨u37, hcut⟩ := hcut; obtain ⟨u38, hcut⟩ := hcut; obtain ⟨u39, hcut⟩ := hcut; obtain ⟨u40, hcut⟩ := hcut; obtain ⟨u41, hcut⟩ := hcut; obtain ⟨u42, hcut⟩ := hcut; obtain ⟨u43, hcut⟩ := hcut; obtain ⟨u44, hcut⟩ := hcut; obtain ⟨u45, hcut⟩ := hcut; obtain ⟨u46, hcut⟩ := hcut; obtain ⟨u47, hcut⟩ := hcut; obtain ⟨u48, hcut⟩ := hcut; obtain ⟨u49, hcut⟩ := hcut; obtain ⟨u50, hcut⟩ := hcut; obtain ⟨u51, hcut⟩ := hcut; obtain ⟨u52, hcut⟩ := hcut; obtain ⟨u53, hcut⟩ := hcut; obtain ⟨u54, hcut⟩ := hcut; obtain ⟨u55, hcut⟩ := hcut; obtain ⟨u56, hcut⟩ := hcut; obtain ⟨u57, hcut⟩ := hcut; obtain ⟨u58, hcut⟩ := hcut; obtain ⟨u59, hcut⟩ := hcut; obtain ⟨u60, hcut⟩ := hcut; obtain ⟨u61, hcut⟩ := hcut; obtain ⟨u62, hcut⟩ := hcut; obtain ⟨u63, hcut⟩ := hcut; obtain ⟨u64, hcut⟩ := hcut; obtain ⟨u65, hcut⟩ := hcut; obtain ⟨u66, hcut⟩ := hcut; obtain ⟨u67, hcut⟩ := hcut; obtain ⟨u68, hcut⟩ := hcut; obtain ⟨u69, hcut⟩ := hcut; obtain ⟨u70, hcut⟩ := hcut; obtain ⟨u71, hcut⟩ := hcut; obtain ⟨u72, hcut⟩ := hcut; obtain ⟨u73, hcut⟩ := hcut; obtain ⟨u74, hcut⟩ := hcut; obtain ⟨u75, hcut⟩ := hcut; obtain ⟨u76, hcut⟩ := hcut; obtain ⟨u77, hcut⟩ := hcut; obtain ⟨u78, hcut⟩ := hcut; obtain ⟨u79, hcut⟩ := hcut; obtain ⟨u80, hcut⟩ := hcut; obtain ⟨u81, hcut⟩ := hcut; obtain ⟨u82, hcut⟩ := hcut; obtain ⟨u83, hcut⟩ := hcut; obtain ⟨u84, hcut⟩ := hcut; obtain ⟨u85, hcut⟩ := hcut; obtain ⟨u86, hcut⟩ := hcut; obtain ⟨u87, hcut⟩ := hcut; obtain ⟨u88, hcut⟩ := hcut; obtain ⟨u89, hcut⟩ := hcut; obtain ⟨u90, hcut⟩ := hcut; obtain ⟨u91, hcut⟩ := hcut; obtain ⟨u92, hcut⟩ := hcut; obtain ⟨u93, hcut⟩ := hcut; obtain ⟨u94, hcut⟩ := hcut; obtain ⟨u95, hcut⟩ := hcut; obtain ⟨u96, hcut⟩ := hcut; obtain ⟨u97, hcut⟩ := hcut; obtain ⟨u98, hcut⟩ := hcut; obtain ⟨u99, hcut⟩ := hcut; obtain ⟨u100, hcut⟩ := hcut; obtain ⟨u101, hcut⟩ := hcut; obtain ⟨u102, hcut⟩ := hcut; obtain ⟨u103, hcut⟩ := hcut; obtain ⟨u104, hcut⟩ := hcut; obtain ⟨u105, hcut⟩ := hcut; obtain ⟨u106, hcut⟩ := hcut; obtain ⟨u107, hcut⟩ := hcut; obtain ⟨u108, hcut⟩ := hcut; obtain ⟨u109, hcut⟩ := hcut; obtain ⟨u110, hcut⟩ := hcut; obtain ⟨u111, hcut⟩ := hcut; obtain ⟨u112, hcut⟩ := hcut; obtain ⟨u113, hcut⟩ := hcut; obtain ⟨u114, hcut⟩ := hcut; obtain ⟨u115, hcut⟩ := hcut; obtain ⟨u116, hcut⟩ := hcut; obtain ⟨u117, hcut⟩ := hcut; obtain ⟨u118, hcut⟩ := hcut; obtain ⟨u119, hcut⟩ := hcut; obtain ⟨u120, hcut⟩ := hcut; obtain ⟨u121, hcut⟩ := hcut; obtain ⟨u122, hcut⟩ := hcut; obtain ⟨u123, hcut⟩ := hcut; obtain ⟨u124, hcut⟩ := hcut; obtain ⟨u125, hcut⟩ := hcut; obtain ⟨u126, hcut⟩ := hcut; obtain ⟨u127, hcut⟩ := hcut; obtain ⟨v15, hcut⟩ := hcut; obtain ⟨hcut, hac⟩ := hcut; subst hac)
          case' first => intro _ _ _ _
          case first =>
            have HWx := fun o => Lib.hid (p := (Below w.heap.size w (wr.alloc o) ∧ (wr.alloc o).heap[w.heap.size]? = some (.cells #[.int .i64 ph, .int .i64 ep, .int .i64 pe] 24 (0, 0)) ∧ (wr.alloc o).heap[wc.heap.size]? = some (.cells answersC 64 (0, 0)) ∧ (wr.alloc o).heap[wr.heap.size]? = some o)) ⟨hBr.alloc hBr.size _, blk_alloc hl _, blk_alloc ha _, blk_new _ _⟩
            have l1 := cell_blk hl 1 rfl
            clear hBr hl ha hr
            obtain ⟨e1, q1⟩ := named (a.e == 61)
            obtain ⟨e2, q2⟩ := named (a.e == 60)
            obtain ⟨e3, q3⟩ := named (a.e == 62)
            obtain ⟨o1, p1⟩ := named (ep == e)
            obtain ⟨o2, p2⟩ := named (decide (ep < e))
            obtain ⟨o3, p3⟩ := named (decide (e < ep))
            go_wp2
            all_goals
              go_meet
              case rel => exact ⟨⟨_, rfl, by go_light; show _ = _; grind [stB]⟩, (HWx _).out⟩
          case rest =>
            obtain ⟨⟨b, rfl, hb⟩, hB2, hl2, ha2, hx2⟩ := hcut
            clear a0 a1 a2 a3 a4 a5 hBr hl ha
            have l0 := cell_blk hl2 0 rfl
            have l2 := cell_blk hl2 2 rfl
            have x0 := cell_blk hx2 0 rfl
            have x1 := cell_blk hx2 1 rfl
            have x3 := cell_blk hx2 3 rfl
            have x4 := cell_blk hx2 4 rfl
            have x5 := cell_blk hx2 5 rfl
            have hz3 := blk_lt hx2
            obtain ⟨e1, q1⟩ := named (a.k == k)
            obtain ⟨e1', q1'⟩ := named (a.k != k)
            obtain ⟨e2, q2⟩ := named (a.q == 121)
            obtain ⟨e3, q3⟩ := named (a.q == 110)
            obtain ⟨o1, p1⟩ := named (pe == f)
            obtain ⟨o2, p2⟩ := named (pe != f)
            go_wp2_with (first | (go_at_call 34; refine (has_any _ _ _ (by omega)).mono ?_; rintro e w' ⟨rfl, rfl⟩))
            all_goals first
              | (go_roundg (n - 1)
                 case measure => have := HN.out; omega
                 case rel => exact ⟨j + 1, by have := HN.out; omega, by go_num, hB2, hl2, ha2, by rw [hr.out, hstep.out]; go_light; have hb' := hb.out; grind [skipB, Hid]⟩)
              | (go_quiet (fail)
                 go_wp2
                 go_ret2
                 have hb' := hb.out
                 have : skipB ph ep pe k e f a = false := by go_light; grind [skipB]
                 refine ⟨ret_ii ?_ ?_, below_drewN hB2 _⟩ <;> (rw [hr.out, hstep.out, this]; rfl))
        · have : j = 12 := by omega
          subst this
          go_wp2
          go_ret2
          refine ⟨ret_ii ?_ ?_, hBr⟩ <;> rw [hr.out] <;> rfl
end Go.Proofs.Ytecdmbcdkfjgfaa
