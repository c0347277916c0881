/- apart: lists that share no memory are found to share none (haulagelaw16). -/
import Derived.Test.YtjmmdpnphafdfaaAP2
namespace Go.Proofs.Ytjmmdpnphafdfaa
set_option linter.unusedVariables false
set_option linter.unusedSimpArgs false
open Go.RowKit Go.Deep Go.Proofs.YtjmmdpnphafdfaaW.PrintLast

theorem XA_none (X : Nat → List Int) : XA X 0 = X := by funext j; unfold XA; rw [if_neg (by omega)]
theorem u8_wrapA (i k : Nat) : IntKind.u8.wrap (37 * (i : Int) + 5 * (k : Int) + 11) = mkA i k := by
  rw [IntKind.wrap_u8]; unfold mkA; omega
theorem u8_wrapB (i k : Nat) : IntKind.u8.wrap (101 * (i : Int) + 3 * (k : Int) + 60) = mkB i k := by
  rw [IntKind.wrap_u8]; unfold mkB; omega
set_option maxRecDepth 100000 in
set_option maxHeartbeats 8000000 in
theorem apart_any {w : World} {F : Nat → Nat → Prop} {ss : List SlB} {X : Nat → List Int} {z cz : Nat} {cur : Array Value} (HF : Fam w.heap.size F) (L : LsAt w F ss X)
    (hz : w.heap[z]? = some (.cells cur 22 (0, 0))) (hzc : ∀ (j : Nat) (s : SlB), ss[j]? = some s → cur[j]? = some (.slice s.1 s.2.1 s.2.2)) (hzF : ∀ j, ¬ F j z) (hX : ∀ j, (X j).length ≤ 140737488355000) (hss : ss.length ≤ 4194304) :
    Calls Try.prog 26 #[.slice (some ⟨z, 0, none⟩) ss.length cz] w fun e w' => e = .returned (.bool true) ∧ Fr (FU F) w w' := by
  obtain ⟨m, hm⟩ : ∃ m, ss.length = m := ⟨_, rfl⟩
  have HM := Lib.hid hm
  have HFM := Lib.hid HF
  have HL := Lib.hid L
  have HX := Lib.hid hX
  have HZ := Lib.hid (fun (W : World) (hf : Fr (FU F) w W) (j : Nat) (s : SlB) (hs : ss[j]? = some s) => show W.cell? ⟨z, j, none⟩ = some (.slice s.1 s.2.1 s.2.2) from
    cell_same (cell_blk hz j (hzc j s hs)) (hf.block z (blk_lt hz) (fun ⟨q, h⟩ => hzF q h)))
  rw [hm] at hss ⊢
  clear HF L hz hzc hzF hX hm
  go_enter Try.func26, Try.ntmps26
  go_wp2_with (fail)
  refine wp_loop_ghost_k (fun (a : Nat) (ac : Act) (wr : World) => ∃ u1 u4 u5 u6 u7 u8 u9 u10 u11 u12 u13 u14 u15 u16 u17 u18 u19 u20 u21 u22 u23 u24 u25 u26 u27 u28 u29 u30 u31 u32 u33 u34 u35 u36 u37 u38 u39 u40 u41 u42 u43 u44 u45 u46 u47 u48 u49 u50 u51 u52 u53 u54 u55 u56 u57 u58 u59 u60 u61 u62 u63 u64 u65 u66 u67 u68 u69 u70 u71 u72 u73 u74 u75 u76 u77 u78 u79 u80 u81 u82 u83 u84 u85 u86 u87 u88 u89 u90 u91 u92 u93 u94 u95 u96 u97 u98 u99 u100 u101 u102 u103 u104 u105 u106 u107 u108 u109 u110 u111 u112 u113 u114 u115 u116 u117 u118 u119 u120 v3 : Value, (∃ i : Nat, a + i = m ∧ v3 = .int .i64 i ∧ LsAt wr F ss (XA X i) ∧ Fr (FU F) w wr ∧ wr.heap.size = w.heap.size) ∧ ac = ({ tmps := #[.slice (some ⟨z, 0, none⟩) m cz, u1, .bool false, v3, u4, u5, u6, u7, u8, u9, u10, u11, u12, u13, u14, u15, u16, u17, u18, u19, u20, u21, u22, u23, u24, u25, u26, u27, u28, u29, u30, u31, u32, u33, u34, u35, u36, u37, u38, u39, u40, u41, u42, u43, u44, u45, u46, u47, u48, u49, u50, u51, u52, u53, u54, u55, u56, u57, u58, u59, u60, u61, u62, u63, u64, u65, u66, u67, u68, u69, u70, u71, u72, u73, u74, u75, u76, u77, u78, u79, u80, u81, u82, u83, u84, u85, u86, u87, u88, u89, u90, u91, u92, u93, u94, u95, u96, u97, u98, u99, u100, u101, u102, u103, u104, u105, u106, u107, u108, u109, u110, u111, u112, u113, u114, u115, u116, u117, u118, u119, u120], defers := [] } : Act)) (m) ?atStart ?round
  case' atStart => ((repeat apply Exists.intro); refine ⟨?_, rfl⟩)
  case' round => (intro a ac wr hcut; obtain ⟨u1, hcut⟩ := hcut; obtain ⟨u4, hcut⟩ := hcut; obtain ⟨u5, hcut⟩ := hcut; obtain ⟨u6, hcut⟩ := hcut; obtain ⟨u7, hcut⟩ := hcut; obtain ⟨u8, hcut⟩ := hcut; obtain ⟨u9, hcut⟩ := hcut; obtain ⟨u10, hcut⟩ := hcut; obtain ⟨u11, hcut⟩ := hcut; obtain ⟨u12, hcut⟩ := hcut; obtain ⟨u13, hcut⟩ := hcut; obtain ⟨u14, hcut⟩ := hcut; obtain ⟨u15, hcut⟩ := hcut; obtain ⟨u16, hcut⟩ := hcut; obtain ⟨u17, hcut⟩ := hcut; obtain ⟨u18, hcut⟩ := hcut; obtain ⟨u19, hcut⟩ := hcut; obtain ⟨u20, hcut⟩ := hcut; obtain ⟨u21, hcut⟩ := hcut; obtain ⟨u22, hcut⟩ := hcut; obtain ⟨u23, hcut⟩ := hcut; obtain ⟨u24, hcut⟩ := hcut; obtain ⟨u25, hcut⟩ := hcut; obtain ⟨u26, hcut⟩ := hcut; obtain ⟨u27, hcut⟩ := hcut; obtain ⟨u28, hcut⟩ := hcut; obtain ⟨u29, hcut⟩ := hcut; obtain ⟨u30, hcut⟩ := hcut; obtain ⟨u31, hcut⟩ := hcut; obtain ⟨u32, hcut⟩ := hcut; obtain ⟨u33, hcut⟩ := hcut; obtain ⟨u34, hcut⟩ := hcut; obtain ⟨u35, hcut⟩ := hcut; obtain ⟨u36, hcut⟩ := hcut; obtain ⟨u37, hcut⟩ := hcut; obtain ⟨u38, hcut⟩ := hcut; obtain ⟨u39, hcut⟩ := hcut; obtain ⟨u40, hcut⟩ := hcut; obtain ⟨u41, hcut⟩ := hcut; obtain ⟨u42, hcut⟩ := hcut; obtain ⟨u43, hcut⟩ := hcut; obtain ⟨u44, hcut⟩ := hcut; obtain ⟨u45, hcut⟩ := hcut; obtain ⟨u46, hcut⟩ := hcut; obtain ⟨u47, hcut⟩ := hcut; obtain ⟨u48, hcut⟩ := hcut; obtain ⟨u49, hcut⟩ := hcut; obtain ⟨u50, hcut⟩ := hcut; obtain ⟨u51, hcut⟩ := hcut; obtain ⟨u52, hcut⟩ := hcut; obtain ⟨u53, hcut⟩ := hcut; obtain ⟨u54, hcut⟩ := hcut; obtain ⟨u55, hcut⟩ := hcut; obtain ⟨u56, hcut⟩ := hcut; obtain ⟨u57, hcut⟩ := hcut; obtain ⟨u58, hcut⟩ := hcut; obtain ⟨u59, hcut⟩ := hcut; obtain ⟨u60, hcut⟩ := hcut; obtain ⟨u61, hcut⟩ := hcut; obtain ⟨u62, hcut⟩ := hcut; obtain ⟨u63, hcut⟩ := hcut; obtain ⟨u64, hcut⟩ := hcut; obtain ⟨u65, hcut⟩ := hcut; obtain ⟨u66, hcut⟩ := hcut; obtain ⟨u67, hcut⟩ := hcut; obtain ⟨u68, hcut⟩ := hcut; obtain ⟨u69, hcut⟩ := hcut; obtain ⟨u70, hcut⟩ := hcut; obtain ⟨u71, hcut⟩ := hcut; obtain ⟨u72, hcut⟩ := hcut; obtain ⟨u73, hcut⟩ := hcut; obtain ⟨u74, hcut⟩ := hcut; obtain ⟨u75, hcut⟩ := hcut; obtain ⟨u76, hcut⟩ := hcut; obtain ⟨u77, hcut⟩ := hcut; obtain ⟨u78, hcut⟩ := hcut; obtain ⟨u79, hcut⟩ := hcut; obtain ⟨u80, hcut⟩ := hcut; obtain ⟨u81, hcut⟩ := hcut; obtain ⟨u82, hcut⟩ := hcut; obtain ⟨u83, hcut⟩ := hcut; obtain ⟨u84, hcut⟩ := hcut; obtain ⟨u85, hcut⟩ := hcut; obtain ⟨u86, hcut⟩ := hcut; obtain ⟨u87, hcut⟩ := hcut; obtain ⟨u88, hcut⟩ := hcut; obtain ⟨u89, hcut⟩ := hcut; obtain ⟨u90, hcut⟩ := hcut; obtain ⟨u91, hcut⟩ := hcut; obtain ⟨u92, hcut⟩ := hcut; obtain ⟨u93, hcut⟩ := hcut; obtain ⟨u94, hcut⟩ := hcut; obtain ⟨u95, hcut⟩ := hcut; obtain ⟨u96, hcut⟩ := hcut; obtain ⟨u97, hcut⟩ := hcut; obtain ⟨u98, hcut⟩ := hcut; obtain ⟨u99, hcut⟩ := hcut; obtain ⟨u100, hcut⟩ := hcut; obtain ⟨u101, hcut⟩ := hcut; obtain ⟨u102, hcut⟩ := hcut; obtain ⟨u103, hcut⟩ := hcut; obtain ⟨u104, hcut⟩ := hcut; obtain ⟨u105, hcut⟩ := hcut; obtain ⟨u106, hcut⟩ := hcut; obtain ⟨u107, hcut⟩ := hcut; obtain ⟨u108, hcut⟩ := hcut; obtain ⟨u109, hcut⟩ := hcut; obtain ⟨u110, hcut⟩ := hcut; obtain ⟨u111, hcut⟩ := hcut; obtain ⟨u112, hcut⟩ := hcut; obtain ⟨u113, hcut⟩ := hcut; obtain ⟨u114, hcut⟩ := hcut; obtain ⟨u115, hcut⟩ := hcut; obtain ⟨u116, hcut⟩ := hcut; obtain ⟨u117, hcut⟩ := hcut; obtain ⟨u118, hcut⟩ := hcut; obtain ⟨u119, hcut⟩ := hcut; obtain ⟨u120, hcut⟩ := hcut; obtain ⟨v3, hcut⟩ := hcut; obtain ⟨hcut, hac⟩ := hcut; subst hac; intro _ _ _ _)
  case atStart => exact ⟨0, rfl, rfl, by rw [XA_none]; exact HL.out, Fr.refl _ _, rfl⟩
  case round =>
    obtain ⟨i, hi, rfl, L1, FR, SZ⟩ := hcut
    have HI := Lib.hid hi
    have HL1 := Lib.hid L1
    have HFR := Lib.hid FR
    have HSZ := Lib.hid SZ
    clear hi L1 FR SZ
    by_cases hlt : i < m
    · obtain ⟨⟨A, n, c⟩, hs⟩ : ∃ s, ss[i]? = some s := ⟨_, List.getElem?_eq_getElem (by rw [HM.out]; exact hlt)⟩
      have hn : n = (X i).length := (HL.out i _ hs).1
      have hnb : n ≤ 140737488355000 := by rw [hn]; exact HX.out i
      have zc : wr.cell? ⟨z, i, none⟩ = some (.slice A n c) := HZ.out wr HFR.out i _ hs
      have HS := Lib.hid hs
      have HN := Lib.hid hn
      have q1 : (i : Int) < (m : Int) := by omega
      clear hs hn
      go_wp2_with (fail)
      refine wp_loop_ghost_k (fun (b : Nat) (ac : Act) (wq : World) => ∃ u1 u5 u6 u7 u8 u9 u10 u11 u12 u13 u14 u15 u16 u17 u18 u19 u20 u21 u22 u23 u24 u25 u26 u27 u28 u29 u30 u31 u32 u33 u34 u35 u36 u37 u38 u39 u40 u41 u42 u43 u44 u45 u46 u47 u48 u49 u50 u51 u52 u53 u54 u55 u56 u57 u58 u59 u60 u61 u62 u63 u64 u65 u66 u67 u68 u69 u70 u71 u72 u73 u74 u75 u76 u77 u78 u79 u80 u81 u82 u83 u84 u85 u86 u87 u88 u89 u90 u91 u92 u93 u94 u95 u96 u97 u98 u99 u100 u101 u102 u103 u104 u105 u106 u107 u108 u109 u110 u111 u112 u113 u114 u115 u116 u117 u118 u119 u120 v4 : Value, (∃ k : Nat, b + k = n ∧ v4 = .int .i64 k ∧ LsAt wq F ss (XAk X i k) ∧ Fr (FU F) w wq ∧ wq.heap.size = w.heap.size) ∧ ac = ({ tmps := #[.slice (some ⟨z, 0, none⟩) m cz, u1, .bool false, .int .i64 i, v4, u5, u6, u7, u8, u9, u10, u11, u12, u13, u14, u15, u16, u17, u18, u19, u20, u21, u22, u23, u24, u25, u26, u27, u28, u29, u30, u31, u32, u33, u34, u35, u36, u37, u38, u39, u40, u41, u42, u43, u44, u45, u46, u47, u48, u49, u50, u51, u52, u53, u54, u55, u56, u57, u58, u59, u60, u61, u62, u63, u64, u65, u66, u67, u68, u69, u70, u71, u72, u73, u74, u75, u76, u77, u78, u79, u80, u81, u82, u83, u84, u85, u86, u87, u88, u89, u90, u91, u92, u93, u94, u95, u96, u97, u98, u99, u100, u101, u102, u103, u104, u105, u106, u107, u108, u109, u110, u111, u112, u113, u114, u115, u116, u117, u118, u119, u120], defers := [] } : Act)) (n) ?atStart ?round
      case' atStart => ((repeat apply Exists.intro); refine ⟨?_, rfl⟩)
      case' round => (intro b ac wq hcut; obtain ⟨u1, hcut⟩ := hcut; obtain ⟨u5, hcut⟩ := hcut; obtain ⟨u6, hcut⟩ := hcut; obtain ⟨u7, hcut⟩ := hcut; obtain ⟨u8, hcut⟩ := hcut; obtain ⟨u9, hcut⟩ := hcut; obtain ⟨u10, hcut⟩ := hcut; obtain ⟨u11, hcut⟩ := hcut; obtain ⟨u12, hcut⟩ := hcut; obtain ⟨u13, hcut⟩ := hcut; obtain ⟨u14, hcut⟩ := hcut; obtain ⟨u15, hcut⟩ := hcut; obtain ⟨u16, hcut⟩ := hcut; obtain ⟨u17, hcut⟩ := hcut; obtain ⟨u18, hcut⟩ := hcut; obtain ⟨u19, hcut⟩ := hcut; obtain ⟨u20, hcut⟩ := hcut; obtain ⟨u21, hcut⟩ := hcut; obtain ⟨u22, hcut⟩ := hcut; obtain ⟨u23, hcut⟩ := hcut; obtain ⟨u24, hcut⟩ := hcut; obtain ⟨u25, hcut⟩ := hcut; obtain ⟨u26, hcut⟩ := hcut; obtain ⟨u27, hcut⟩ := hcut; obtain ⟨u28, hcut⟩ := hcut; obtain ⟨u29, hcut⟩ := hcut; obtain ⟨u30, hcut⟩ := hcut; obtain ⟨u31, hcut⟩ := hcut; obtain ⟨u32, hcut⟩ := hcut; obtain ⟨u33, hcut⟩ := hcut; obtain ⟨u34, hcut⟩ := hcut; obtain ⟨u35, hcut⟩ := hcut; obtain ⟨u36, hcut⟩ := hcut; obtain ⟨u37, hcut⟩ := hcut; obtain ⟨u38, hcut⟩ := hcut; obtain ⟨u39, hcut⟩ := hcut; obtain ⟨u40, hcut⟩ := hcut; obtain ⟨u41, hcut⟩ := hcut; obtain ⟨u42, hcut⟩ := hcut; obtain ⟨u43, hcut⟩ := hcut; obtain ⟨u44, hcut⟩ := hcut; obtain ⟨u45, hcut⟩ := hcut; obtain ⟨u46, hcut⟩ := hcut; obtain ⟨u47, hcut⟩ := hcut; obtain ⟨u48, hcut⟩ := hcut; obtain ⟨u49, hcut⟩ := hcut; obtain ⟨u50, hcut⟩ := hcut; obtain ⟨u51, hcut⟩ := hcut; obtain ⟨u52, hcut⟩ := hcut; obtain ⟨u53, hcut⟩ := hcut; obtain ⟨u54, hcut⟩ := hcut; obtain ⟨u55, hcut⟩ := hcut; obtain ⟨u56, hcut⟩ := hcut; obtain ⟨u57, hcut⟩ := hcut; obtain ⟨u58, hcut⟩ := hcut; obtain ⟨u59, hcut⟩ := hcut; obtain ⟨u60, hcut⟩ := hcut; obtain ⟨u61, hcut⟩ := hcut; obtain ⟨u62, hcut⟩ := hcut; obtain ⟨u63, hcut⟩ := hcut; obtain ⟨u64, hcut⟩ := hcut; obtain ⟨u65, hcut⟩ := hcut; obtain ⟨u66, hcut⟩ := hcut; obtain ⟨u67, hcut⟩ := hcut; obtain ⟨u68, hcut⟩ := hcut; obtain ⟨u69, hcut⟩ := hcut; obtain ⟨u70, hcut⟩ := hcut; obtain ⟨u71, hcut⟩ := hcut; obtain ⟨u72, hcut⟩ := hcut; obtain ⟨u73, hcut⟩ := hcut; obtain ⟨u74, hcut⟩ := hcut; obtain ⟨u75, hcut⟩ := hcut; obtain ⟨u76, hcut⟩ := hcut; obtain ⟨u77, hcut⟩ := hcut; obtain ⟨u78, hcut⟩ := hcut; obtain ⟨u79, hcut⟩ := hcut; obtain ⟨u80, hcut⟩ := hcut; obtain ⟨u81, hcut⟩ := hcut; obtain ⟨u82, hcut⟩ := hcut; obtain ⟨u83, hcut⟩ := hcut; obtain ⟨u84, hcut⟩ := hcut; obtain ⟨u85, hcut⟩ := hcut; obtain ⟨u86, hcut⟩ := hcut; obtain ⟨u87, hcut⟩ := hcut; obtain ⟨u88, hcut⟩ := hcut; obtain ⟨u89, hcut⟩ := hcut; obtain ⟨u90, hcut⟩ := hcut; obtain ⟨u91, hcut⟩ := hcut; obtain ⟨u92, hcut⟩ := hcut; obtain ⟨u93, hcut⟩ := hcut; obtain ⟨u94, hcut⟩ := hcut; obtain ⟨u95, hcut⟩ := hcut; obtain ⟨u96, hcut⟩ := hcut; obtain ⟨u97, hcut⟩ := hcut; obtain ⟨u98, hcut⟩ := hcut; obtain ⟨u99, hcut⟩ := hcut; obtain ⟨u100, hcut⟩ := hcut; obtain ⟨u101, hcut⟩ := hcut; obtain ⟨u102, hcut⟩ := hcut; obtain ⟨u103, hcut⟩ := hcut; obtain ⟨u104, hcut⟩ := hcut; obtain ⟨u105, hcut⟩ := hcut; obtain ⟨u106, hcut⟩ := hcut; obtain ⟨u107, hcut⟩ := hcut; obtain ⟨u108, hcut⟩ := hcut; obtain ⟨u109, hcut⟩ := hcut; obtain ⟨u110, hcut⟩ := hcut; obtain ⟨u111, hcut⟩ := hcut; obtain ⟨u112, hcut⟩ := hcut; obtain ⟨u113, hcut⟩ := hcut; obtain ⟨u114, hcut⟩ := hcut; obtain ⟨u115, hcut⟩ := hcut; obtain ⟨u116, hcut⟩ := hcut; obtain ⟨u117, hcut⟩ := hcut; obtain ⟨u118, hcut⟩ := hcut; obtain ⟨u119, hcut⟩ := hcut; obtain ⟨u120, hcut⟩ := hcut; obtain ⟨v4, hcut⟩ := hcut; obtain ⟨hcut, hac⟩ := hcut; subst hac; intro _ _ _ _)
      case atStart => exact ⟨0, rfl, rfl, by rw [XAk_zero]; exact HL1.out, HFR.out, HSZ.out⟩
      case round =>
        obtain ⟨k, hk, rfl, L2, FR2, SZ2⟩ := hcut
        have HK := Lib.hid hk
        have HFR2 := Lib.hid FR2
        have HSZ2 := Lib.hid SZ2
        have zc2 : wq.cell? ⟨z, i, none⟩ = some (.slice A n c) := HZ.out wq FR2 i _ HS.out
        clear hk FR2 SZ2 zc
        by_cases hkn : k < n
        · obtain ⟨g, hA, hg, fz, ⟨v, hv⟩, L3⟩ := L2.set HFM.out HS.out hkn (mkA i k)
          subst hA
          have hw := u8_wrapA i k
          have HG := Lib.hid hg
          have HL3 := Lib.hid L3
          have q2 : (k : Int) < (n : Int) := by omega
          clear hg L3 L2
          go_wp2_with (fail)
          go_roundg (b - 1)
          case measure => have := HK.out; omega
          case rel => exact ⟨k + 1, by have := HK.out; omega, by go_num, by rw [← XAk_step X (by rw [← HN.out]; exact hkn)]; exact HL3.out, HFR2.out.trans (Fr.set (F := FU F) wq ⟨i, HG.out⟩ _) fun _ _ h => h, by rw [setCell_size]; exact HSZ2.out⟩
        · have HL2 := Lib.hid L2
          clear L2
          go_wp2_with (fail)
          go_roundg (a - 1)
          case measure => have := HI.out; omega
          case rel =>
            have hkk : k = (X i).length := by rw [← HN.out]; have := HK.out; omega
            have hll := HL2.out
            rw [hkk, XAk_full] at hll
            exact ⟨i + 1, by have := HI.out; omega, by go_num, hll, HFR2.out, HSZ2.out⟩
    · have him : i = m := by have := HI.out; omega
      subst him
      clear HI
      obtain ⟨X2, hX2⟩ : ∃ X2, XA X i = X2 := ⟨_, rfl⟩
      have HXA := Lib.hid (fun j (hj : j < i) => show X2 j = rowA j (X j).length by rw [← hX2]; unfold XA; rw [if_pos hj])
      have HXL := Lib.hid (fun j => show (X2 j).length = (X j).length by rw [← hX2]; exact XA_len X i j)
      rw [hX2] at HL1
      clear hX2
      have HFM2 := Lib.hid (show Fam wr.heap.size F by rw [HSZ.out]; exact HFM.out)
      go_wp2_with (fail)
      refine wp_loop_ghost_k (fun (a2 : Nat) (ac : Act) (wr2 : World) => ∃ u1 u3 u4 u7 u8 u9 u10 u11 u12 u13 u14 u15 u16 u17 u18 u19 u20 u21 u22 u23 u24 u25 u26 u27 u28 u29 u30 u31 u32 u33 u34 u35 u36 u37 u38 u39 u40 u41 u42 u43 u44 u45 u46 u47 u48 u49 u50 u51 u52 u53 u54 u55 u56 u57 u58 u59 u60 u61 u62 u63 u64 u65 u66 u67 u68 u69 u70 u71 u72 u73 u74 u75 u76 u77 u78 u79 u80 u81 u82 u83 u84 u85 u86 u87 u88 u89 u90 u91 u92 u93 u94 u95 u96 u97 u98 u99 u100 u101 u102 u103 u104 u105 u106 u107 u108 u109 u110 u111 u112 u113 u114 u115 u116 u117 u118 u119 u120 v5 v6 : Value, (∃ (j : Nat) (F2 : Nat → Nat → Prop) (AG : Option Addr) (cG : Nat) (gs : List SlB), a2 + j = i ∧ v6 = .int .i64 j ∧ v5 = .slice AG j cG ∧ Fam wr2.heap.size F2 ∧ LsAt wr2 F2 ss X2 ∧ GDone wr2 F2 ss gs X2 j ∧ GRow encSl 22 1 wr2 w.heap.size AG cG gs ∧ Fr (FU F) w wr2 ∧ (∀ q b, F2 q b → F q b ∨ w.heap.size ≤ b)) ∧ ac = ({ tmps := #[.slice (some ⟨z, 0, none⟩) i cz, u1, .bool false, u3, u4, v5, v6, u7, u8, u9, u10, u11, u12, u13, u14, u15, u16, u17, u18, u19, u20, u21, u22, u23, u24, u25, u26, u27, u28, u29, u30, u31, u32, u33, u34, u35, u36, u37, u38, u39, u40, u41, u42, u43, u44, u45, u46, u47, u48, u49, u50, u51, u52, u53, u54, u55, u56, u57, u58, u59, u60, u61, u62, u63, u64, u65, u66, u67, u68, u69, u70, u71, u72, u73, u74, u75, u76, u77, u78, u79, u80, u81, u82, u83, u84, u85, u86, u87, u88, u89, u90, u91, u92, u93, u94, u95, u96, u97, u98, u99, u100, u101, u102, u103, u104, u105, u106, u107, u108, u109, u110, u111, u112, u113, u114, u115, u116, u117, u118, u119, u120], defers := [] } : Act)) (i) ?atStart ?round
      case' atStart => ((repeat apply Exists.intro); refine ⟨?_, rfl⟩)
      case' round => (intro a2 ac wr2 hcut; obtain ⟨u1, hcut⟩ := hcut; obtain ⟨u3, hcut⟩ := hcut; obtain ⟨u4, hcut⟩ := hcut; obtain ⟨u7, hcut⟩ := hcut; obtain ⟨u8, hcut⟩ := hcut; obtain ⟨u9, hcut⟩ := hcut; obtain ⟨u10, hcut⟩ := hcut; obtain ⟨u11, hcut⟩ := hcut; obtain ⟨u12, hcut⟩ := hcut; obtain ⟨u13, hcut⟩ := hcut; obtain ⟨u14, hcut⟩ := hcut; obtain ⟨u15, hcut⟩ := hcut; obtain ⟨u16, hcut⟩ := hcut; obtain ⟨u17, hcut⟩ := hcut; obtain ⟨u18, hcut⟩ := hcut; obtain ⟨u19, hcut⟩ := hcut; obtain ⟨u20, hcut⟩ := hcut; obtain ⟨u21, hcut⟩ := hcut; obtain ⟨u22, hcut⟩ := hcut; obtain ⟨u23, hcut⟩ := hcut; obtain ⟨u24, hcut⟩ := hcut; obtain ⟨u25, hcut⟩ := hcut; obtain ⟨u26, hcut⟩ := hcut; obtain ⟨u27, hcut⟩ := hcut; obtain ⟨u28, hcut⟩ := hcut; obtain ⟨u29, hcut⟩ := hcut; obtain ⟨u30, hcut⟩ := hcut; obtain ⟨u31, hcut⟩ := hcut; obtain ⟨u32, hcut⟩ := hcut; obtain ⟨u33, hcut⟩ := hcut; obtain ⟨u34, hcut⟩ := hcut; obtain ⟨u35, hcut⟩ := hcut; obtain ⟨u36, hcut⟩ := hcut; obtain ⟨u37, hcut⟩ := hcut; obtain ⟨u38, hcut⟩ := hcut; obtain ⟨u39, hcut⟩ := hcut; obtain ⟨u40, hcut⟩ := hcut; obtain ⟨u41, hcut⟩ := hcut; obtain ⟨u42, hcut⟩ := hcut; obtain ⟨u43, hcut⟩ := hcut; obtain ⟨u44, hcut⟩ := hcut; obtain ⟨u45, hcut⟩ := hcut; obtain ⟨u46, hcut⟩ := hcut; obtain ⟨u47, hcut⟩ := hcut; obtain ⟨u48, hcut⟩ := hcut; obtain ⟨u49, hcut⟩ := hcut; obtain ⟨u50, hcut⟩ := hcut; obtain ⟨u51, hcut⟩ := hcut; obtain ⟨u52, hcut⟩ := hcut; obtain ⟨u53, hcut⟩ := hcut; obtain ⟨u54, hcut⟩ := hcut; obtain ⟨u55, hcut⟩ := hcut; obtain ⟨u56, hcut⟩ := hcut; obtain ⟨u57, hcut⟩ := hcut; obtain ⟨u58, hcut⟩ := hcut; obtain ⟨u59, hcut⟩ := hcut; obtain ⟨u60, hcut⟩ := hcut; obtain ⟨u61, hcut⟩ := hcut; obtain ⟨u62, hcut⟩ := hcut; obtain ⟨u63, hcut⟩ := hcut; obtain ⟨u64, hcut⟩ := hcut; obtain ⟨u65, hcut⟩ := hcut; obtain ⟨u66, hcut⟩ := hcut; obtain ⟨u67, hcut⟩ := hcut; obtain ⟨u68, hcut⟩ := hcut; obtain ⟨u69, hcut⟩ := hcut; obtain ⟨u70, hcut⟩ := hcut; obtain ⟨u71, hcut⟩ := hcut; obtain ⟨u72, hcut⟩ := hcut; obtain ⟨u73, hcut⟩ := hcut; obtain ⟨u74, hcut⟩ := hcut; obtain ⟨u75, hcut⟩ := hcut; obtain ⟨u76, hcut⟩ := hcut; obtain ⟨u77, hcut⟩ := hcut; obtain ⟨u78, hcut⟩ := hcut; obtain ⟨u79, hcut⟩ := hcut; obtain ⟨u80, hcut⟩ := hcut; obtain ⟨u81, hcut⟩ := hcut; obtain ⟨u82, hcut⟩ := hcut; obtain ⟨u83, hcut⟩ := hcut; obtain ⟨u84, hcut⟩ := hcut; obtain ⟨u85, hcut⟩ := hcut; obtain ⟨u86, hcut⟩ := hcut; obtain ⟨u87, hcut⟩ := hcut; obtain ⟨u88, hcut⟩ := hcut; obtain ⟨u89, hcut⟩ := hcut; obtain ⟨u90, hcut⟩ := hcut; obtain ⟨u91, hcut⟩ := hcut; obtain ⟨u92, hcut⟩ := hcut; obtain ⟨u93, hcut⟩ := hcut; obtain ⟨u94, hcut⟩ := hcut; obtain ⟨u95, hcut⟩ := hcut; obtain ⟨u96, hcut⟩ := hcut; obtain ⟨u97, hcut⟩ := hcut; obtain ⟨u98, hcut⟩ := hcut; obtain ⟨u99, hcut⟩ := hcut; obtain ⟨u100, hcut⟩ := hcut; obtain ⟨u101, hcut⟩ := hcut; obtain ⟨u102, hcut⟩ := hcut; obtain ⟨u103, hcut⟩ := hcut; obtain ⟨u104, hcut⟩ := hcut; obtain ⟨u105, hcut⟩ := hcut; obtain ⟨u106, hcut⟩ := hcut; obtain ⟨u107, hcut⟩ := hcut; obtain ⟨u108, hcut⟩ := hcut; obtain ⟨u109, hcut⟩ := hcut; obtain ⟨u110, hcut⟩ := hcut; obtain ⟨u111, hcut⟩ := hcut; obtain ⟨u112, hcut⟩ := hcut; obtain ⟨u113, hcut⟩ := hcut; obtain ⟨u114, hcut⟩ := hcut; obtain ⟨u115, hcut⟩ := hcut; obtain ⟨u116, hcut⟩ := hcut; obtain ⟨u117, hcut⟩ := hcut; obtain ⟨u118, hcut⟩ := hcut; obtain ⟨u119, hcut⟩ := hcut; obtain ⟨u120, hcut⟩ := hcut; obtain ⟨v5, hcut⟩ := hcut; obtain ⟨v6, hcut⟩ := hcut; obtain ⟨hcut, hac⟩ := hcut; subst hac; intro _ _ _ _)
      case atStart => exact ⟨0, F, none, 0, [], rfl, rfl, rfl, HFM2.out, HL1.out, ⟨rfl, fun q s h => absurd h (by omega)⟩, GRow.nil, HFR.out, fun q b h => Or.inl h⟩
      case round =>
        obtain ⟨j, F2, AG, cG, gs, hj, rfl, rfl, FA2, LA2, GD2, GR2, FR2, FF2⟩ := hcut
        have HJ := Lib.hid hj
        have HFA := Lib.hid FA2
        have HLA := Lib.hid LA2
        have HGD := Lib.hid GD2
        have HGR := Lib.hid GR2
        have HFR2 := Lib.hid FR2
        have HFF := Lib.hid FF2
        clear hj FA2 LA2 GD2 GR2 FR2 FF2
        by_cases hlt : j < i
        · obtain ⟨⟨A, n, c⟩, hs⟩ : ∃ s, ss[j]? = some s := ⟨_, List.getElem?_eq_getElem (by rw [HM.out]; exact hlt)⟩
          have hn : n = (X2 j).length := (HLA.out j _ hs).1
          have hnb : n ≤ 140737488355000 := by rw [hn, HXL.out j]; exact HX.out j
          have zc : wr2.cell? ⟨z, j, none⟩ = some (.slice A n c) := HZ.out wr2 HFR2.out j _ hs
          have HS := Lib.hid hs
          have HN := Lib.hid hn
          have q1 : (j : Int) < (i : Int) := by omega
          clear hs hn
          go_wp2_with (fail)
          refine wp_loop_ghost_k (fun (b2 : Nat) (ac : Act) (wq : World) => ∃ u1 u3 u4 u9 u10 u11 u12 u13 u14 u15 u16 u17 u18 u19 u20 u21 u22 u23 u24 u25 u26 u27 u28 u29 u30 u31 u32 u33 u34 u35 u36 u37 u38 u39 u40 u41 u42 u43 u44 u45 u46 u47 u48 u49 u50 u51 u52 u53 u54 u55 u56 u57 u58 u59 u60 u61 u62 u63 u64 u65 u66 u67 u68 u69 u70 u71 u72 u73 u74 u75 u76 u77 u78 u79 u80 u81 u82 u83 u84 u85 u86 u87 u88 u89 u90 u91 u92 u93 u94 u95 u96 u97 u98 u99 u100 u101 u102 u103 u104 u105 u106 u107 u108 u109 u110 u111 u112 u113 u114 u115 u116 u117 u118 u119 u120 v7 v8 : Value, (∃ (k : Nat) (F3 : Nat → Nat → Prop) (Ag : Option Addr) (cg : Nat), b2 + k = 80 ∧ v8 = .int .i64 k ∧ v7 = .slice Ag (n + k) cg ∧ Fam wq.heap.size F3 ∧ LsX wq F3 ss X2 j ∧ GDone wq F3 ss gs X2 j ∧ GSt wq (F3 j) A c (X2 j) j k Ag cg ∧ GRow encSl 22 1 wq w.heap.size AG cG gs ∧ Fr (FU F) w wq ∧ (∀ q b, F3 q b → F q b ∨ w.heap.size ≤ b)) ∧ ac = ({ tmps := #[.slice (some ⟨z, 0, none⟩) i cz, u1, .bool false, u3, u4, .slice AG j cG, .int .i64 j, v7, v8, u9, u10, u11, u12, u13, u14, u15, u16, u17, u18, u19, u20, u21, u22, u23, u24, u25, u26, u27, u28, u29, u30, u31, u32, u33, u34, u35, u36, u37, u38, u39, u40, u41, u42, u43, u44, u45, u46, u47, u48, u49, u50, u51, u52, u53, u54, u55, u56, u57, u58, u59, u60, u61, u62, u63, u64, u65, u66, u67, u68, u69, u70, u71, u72, u73, u74, u75, u76, u77, u78, u79, u80, u81, u82, u83, u84, u85, u86, u87, u88, u89, u90, u91, u92, u93, u94, u95, u96, u97, u98, u99, u100, u101, u102, u103, u104, u105, u106, u107, u108, u109, u110, u111, u112, u113, u114, u115, u116, u117, u118, u119, u120], defers := [] } : Act)) (80) ?atStart ?round
          case' atStart => ((repeat apply Exists.intro); refine ⟨?_, rfl⟩)
          case' round => (intro b2 ac wq hcut; obtain ⟨u1, hcut⟩ := hcut; obtain ⟨u3, hcut⟩ := hcut; obtain ⟨u4, hcut⟩ := hcut; obtain ⟨u9, hcut⟩ := hcut; obtain ⟨u10, hcut⟩ := hcut; obtain ⟨u11, hcut⟩ := hcut; obtain ⟨u12, hcut⟩ := hcut; obtain ⟨u13, hcut⟩ := hcut; obtain ⟨u14, hcut⟩ := hcut; obtain ⟨u15, hcut⟩ := hcut; obtain ⟨u16, hcut⟩ := hcut; obtain ⟨u17, hcut⟩ := hcut; obtain ⟨u18, hcut⟩ := hcut; obtain ⟨u19, hcut⟩ := hcut; obtain ⟨u20, hcut⟩ := hcut; obtain ⟨u21, hcut⟩ := hcut; obtain ⟨u22, hcut⟩ := hcut; obtain ⟨u23, hcut⟩ := hcut; obtain ⟨u24, hcut⟩ := hcut; obtain ⟨u25, hcut⟩ := hcut; obtain ⟨u26, hcut⟩ := hcut; obtain ⟨u27, hcut⟩ := hcut; obtain ⟨u28, hcut⟩ := hcut; obtain ⟨u29, hcut⟩ := hcut; obtain ⟨u30, hcut⟩ := hcut; obtain ⟨u31, hcut⟩ := hcut; obtain ⟨u32, hcut⟩ := hcut; obtain ⟨u33, hcut⟩ := hcut; obtain ⟨u34, hcut⟩ := hcut; obtain ⟨u35, hcut⟩ := hcut; obtain ⟨u36, hcut⟩ := hcut; obtain ⟨u37, hcut⟩ := hcut; obtain ⟨u38, hcut⟩ := hcut; obtain ⟨u39, hcut⟩ := hcut; obtain ⟨u40, hcut⟩ := hcut; obtain ⟨u41, hcut⟩ := hcut; obtain ⟨u42, hcut⟩ := hcut; obtain ⟨u43, hcut⟩ := hcut; obtain ⟨u44, hcut⟩ := hcut; obtain ⟨u45, hcut⟩ := hcut; obtain ⟨u46, hcut⟩ := hcut; obtain ⟨u47, hcut⟩ := hcut; obtain ⟨u48, hcut⟩ := hcut; obtain ⟨u49, hcut⟩ := hcut; obtain ⟨u50, hcut⟩ := hcut; obtain ⟨u51, hcut⟩ := hcut; obtain ⟨u52, hcut⟩ := hcut; obtain ⟨u53, hcut⟩ := hcut; obtain ⟨u54, hcut⟩ := hcut; obtain ⟨u55, hcut⟩ := hcut; obtain ⟨u56, hcut⟩ := hcut; obtain ⟨u57, hcut⟩ := hcut; obtain ⟨u58, hcut⟩ := hcut; obtain ⟨u59, hcut⟩ := hcut; obtain ⟨u60, hcut⟩ := hcut; obtain ⟨u61, hcut⟩ := hcut; obtain ⟨u62, hcut⟩ := hcut; obtain ⟨u63, hcut⟩ := hcut; obtain ⟨u64, hcut⟩ := hcut; obtain ⟨u65, hcut⟩ := hcut; obtain ⟨u66, hcut⟩ := hcut; obtain ⟨u67, hcut⟩ := hcut; obtain ⟨u68, hcut⟩ := hcut; obtain ⟨u69, hcut⟩ := hcut; obtain ⟨u70, hcut⟩ := hcut; obtain ⟨u71, hcut⟩ := hcut; obtain ⟨u72, hcut⟩ := hcut; obtain ⟨u73, hcut⟩ := hcut; obtain ⟨u74, hcut⟩ := hcut; obtain ⟨u75, hcut⟩ := hcut; obtain ⟨u76, hcut⟩ := hcut; obtain ⟨u77, hcut⟩ := hcut; obtain ⟨u78, hcut⟩ := hcut; obtain ⟨u79, hcut⟩ := hcut; obtain ⟨u80, hcut⟩ := hcut; obtain ⟨u81, hcut⟩ := hcut; obtain ⟨u82, hcut⟩ := hcut; obtain ⟨u83, hcut⟩ := hcut; obtain ⟨u84, hcut⟩ := hcut; obtain ⟨u85, hcut⟩ := hcut; obtain ⟨u86, hcut⟩ := hcut; obtain ⟨u87, hcut⟩ := hcut; obtain ⟨u88, hcut⟩ := hcut; obtain ⟨u89, hcut⟩ := hcut; obtain ⟨u90, hcut⟩ := hcut; obtain ⟨u91, hcut⟩ := hcut; obtain ⟨u92, hcut⟩ := hcut; obtain ⟨u93, hcut⟩ := hcut; obtain ⟨u94, hcut⟩ := hcut; obtain ⟨u95, hcut⟩ := hcut; obtain ⟨u96, hcut⟩ := hcut; obtain ⟨u97, hcut⟩ := hcut; obtain ⟨u98, hcut⟩ := hcut; obtain ⟨u99, hcut⟩ := hcut; obtain ⟨u100, hcut⟩ := hcut; obtain ⟨u101, hcut⟩ := hcut; obtain ⟨u102, hcut⟩ := hcut; obtain ⟨u103, hcut⟩ := hcut; obtain ⟨u104, hcut⟩ := hcut; obtain ⟨u105, hcut⟩ := hcut; obtain ⟨u106, hcut⟩ := hcut; obtain ⟨u107, hcut⟩ := hcut; obtain ⟨u108, hcut⟩ := hcut; obtain ⟨u109, hcut⟩ := hcut; obtain ⟨u110, hcut⟩ := hcut; obtain ⟨u111, hcut⟩ := hcut; obtain ⟨u112, hcut⟩ := hcut; obtain ⟨u113, hcut⟩ := hcut; obtain ⟨u114, hcut⟩ := hcut; obtain ⟨u115, hcut⟩ := hcut; obtain ⟨u116, hcut⟩ := hcut; obtain ⟨u117, hcut⟩ := hcut; obtain ⟨u118, hcut⟩ := hcut; obtain ⟨u119, hcut⟩ := hcut; obtain ⟨u120, hcut⟩ := hcut; obtain ⟨v7, hcut⟩ := hcut; obtain ⟨v8, hcut⟩ := hcut; obtain ⟨hcut, hac⟩ := hcut; subst hac; intro _ _ _ _)
          case atStart => exact ⟨0, F2, A, c, rfl, rfl, rfl, HFA.out, fun q s _ h => HLA.out q s h, HGD.out, GSt.zero (HLA.out j _ HS.out).2, HGR.out, HFR2.out, HFF.out⟩
          case round =>
            obtain ⟨k, F3, Ag, cg, hk, rfl, rfl, FA3, LX3, GD3, GS3, GR3, FR3, FF3⟩ := hcut
            have HK := Lib.hid hk
            clear hk
            by_cases hkn : k < 80
            · obtain ⟨A', c', w2, F4, hrun, FA4, LX4, GD4, GS4, FR4, K4, S4, T4⟩ := grow_step FA3 HS.out HN.out LX3 GD3 GS3 (by omega)
              have HRUN := Lib.hid hrun
              have HFA4 := Lib.hid FA4
              have HLX4 := Lib.hid LX4
              have HGD4 := Lib.hid GD4
              have HGS4 := Lib.hid GS4
              have HGR4 := Lib.hid (GR3.keeps (K4 22 (by decide)))
              have HFR4 := Lib.hid (FR3.trans FR4 fun b hb h => by
                rcases FF3 j b h with h | h
                · exact ⟨j, h⟩
                · omega)
              have HFF4 := Lib.hid (fun q b (h : F4 q b) => show F q b ∨ w.heap.size ≤ b from by
                rcases T4 q b h with h | h
                · exact FF3 q b h
                · right; have := FR3.size; omega)
              have hw := u8_wrapB j k
              clear hrun FA3 LX3 GD3 GS3 GR3 FR3 FF3 FA4 LX4 GD4 GS4 FR4 K4 S4 T4
              go_wp2_with (refine wpList_app HRUN.out rfl rfl rfl (by rfl) (by rfl) ?_)
              go_roundg (b2 - 1)
              case measure => have := HK.out; omega
              case rel => exact ⟨k + 1, F4, A', c', by have := HK.out; omega, by go_num, rfl, HFA4.out, HLX4.out, HGD4.out, HGS4.out, HGR4.out, HFR4.out, HFF4.out⟩
            · have hk80 : k = 80 := by have := HK.out; omega
              subst hk80
              obtain ⟨AG', cG', w2, hrun, G2, B2, K2, _⟩ := GRow.push (w0 := wq) elSl GR3 46 (Ag, n + 80, cg) (Below.refl _ _) FR3.size (by rw [GD3.1]; simp only [maxLen]; omega) (by rw [GD3.1]; omega)
              rw [GD3.1] at hrun
              have KU : KeepT 5 wq w2 := K2 5 (by decide)
              have HRUN := Lib.hid hrun
              have HFA4 := Lib.hid (show Fam w2.heap.size F3 from ⟨FA3.1, fun q b h => Nat.lt_of_lt_of_le (FA3.2 q b h) B2.size⟩)
              have HLA4 := Lib.hid (show LsAt w2 F3 ss X2 from fun q s hs => by
                by_cases hq : q = j
                · subst hq
                  rw [HS.out] at hs
                  injection hs with hs; subst hs
                  exact ⟨HN.out, GS3.row.keeps KU⟩
                · exact ⟨(LX3 q s hq hs).1, (LX3 q s hq hs).2.keeps KU⟩)
              have HGD4 := Lib.hid (show GDone w2 F3 ss (gs ++ [(Ag, n + 80, cg)]) X2 (j + 1) from ⟨by rw [List.length_append, GD3.1]; rfl, fun q s hq hs => by
                by_cases hqj : q = j
                · subst hqj
                  rw [HS.out] at hs
                  injection hs with hs; subst hs
                  exact ⟨Ag, cg, by rw [List.getElem?_append_right (by rw [GD3.1]; exact Nat.le_refl _), GD3.1, Nat.sub_self]; rfl, GS3.grown.keeps KU⟩
                · obtain ⟨A5, c5, h5, h6⟩ := GD3.2 q s (by omega) hs
                  exact ⟨A5, c5, by rw [List.getElem?_append_left (by rw [GD3.1]; omega)]; exact h5, h6.keeps KU⟩⟩)
              have HG2 := Lib.hid G2
              have HFR4 := Lib.hid (show Fr (FU F) w w2 from ⟨B2.os.trans FR3.os, B2.tape.trans FR3.tape, B2.output.trans FR3.output, Nat.le_trans FR3.size B2.size, fun b hb hn => (B2.block b hb).trans (FR3.block b hb hn)⟩)
              have HFF4 := Lib.hid FF3
              clear hrun FA3 LX3 GD3 GS3 GR3 FR3 FF3 G2 B2 K2 KU
              go_wp2_with (refine wpList_app HRUN.out rfl rfl rfl (by rfl) (by rfl) ?_)
              go_roundg (a2 - 1)
              case measure => have := HJ.out; omega
              case rel => exact ⟨j + 1, F3, AG', cG', _, by have := HJ.out; omega, by go_num, rfl, HFA4.out, HLA4.out, HGD4.out, HG2.out, HFR4.out, HFF4.out⟩
        · have hji : j = i := by have := HJ.out; omega
          subst hji
          clear HJ
          go_wp2_with (fail)
          refine wp_loop_ghost_k (fun (a3 : Nat) (ac : Act) (wr3 : World) => ∃ u1 u3 u4 u6 u7 u8 u10 u11 u12 u13 u14 u15 u16 u17 u18 u19 u20 u21 u22 u23 u24 u25 u26 u27 u28 u29 u30 u31 u32 u33 u34 u35 u36 u37 u38 u39 u40 u41 u42 u43 u44 u45 u46 u47 u48 u49 u50 u51 u52 u53 u54 u55 u56 u57 u58 u59 u60 u61 u62 u63 u64 u65 u66 u67 u68 u69 u70 u71 u72 u73 u74 u75 u76 u77 u78 u79 u80 u81 u82 u83 u84 u85 u86 u87 u88 u89 u90 u91 u92 u93 u94 u95 u96 u97 u98 u99 u100 u101 u102 u103 u104 u105 u106 u107 u108 u109 u110 u111 u112 u113 u114 u115 u116 u117 u118 u119 u120 v9 : Value, (∃ (q : Nat), a3 + q = j ∧ v9 = .int .i64 q ∧ wr3 = wr2) ∧ ac = ({ tmps := #[.slice (some ⟨z, 0, none⟩) j cz, u1, .bool false, u3, u4, .slice AG j cG, u6, u7, u8, v9, u10, u11, u12, u13, u14, u15, u16, u17, u18, u19, u20, u21, u22, u23, u24, u25, u26, u27, u28, u29, u30, u31, u32, u33, u34, u35, u36, u37, u38, u39, u40, u41, u42, u43, u44, u45, u46, u47, u48, u49, u50, u51, u52, u53, u54, u55, u56, u57, u58, u59, u60, u61, u62, u63, u64, u65, u66, u67, u68, u69, u70, u71, u72, u73, u74, u75, u76, u77, u78, u79, u80, u81, u82, u83, u84, u85, u86, u87, u88, u89, u90, u91, u92, u93, u94, u95, u96, u97, u98, u99, u100, u101, u102, u103, u104, u105, u106, u107, u108, u109, u110, u111, u112, u113, u114, u115, u116, u117, u118, u119, u120], defers := [] } : Act)) (j) ?atStart ?round
          case' atStart => ((repeat apply Exists.intro); refine ⟨?_, rfl⟩)
          case' round => (intro a3 ac wr3 hcut; obtain ⟨u1, hcut⟩ := hcut; obtain ⟨u3, hcut⟩ := hcut; obtain ⟨u4, hcut⟩ := hcut; obtain ⟨u6, hcut⟩ := hcut; obtain ⟨u7, hcut⟩ := hcut; obtain ⟨u8, hcut⟩ := hcut; obtain ⟨u10, hcut⟩ := hcut; obtain ⟨u11, hcut⟩ := hcut; obtain ⟨u12, hcut⟩ := hcut; obtain ⟨u13, hcut⟩ := hcut; obtain ⟨u14, hcut⟩ := hcut; obtain ⟨u15, hcut⟩ := hcut; obtain ⟨u16, hcut⟩ := hcut; obtain ⟨u17, hcut⟩ := hcut; obtain ⟨u18, hcut⟩ := hcut; obtain ⟨u19, hcut⟩ := hcut; obtain ⟨u20, hcut⟩ := hcut; obtain ⟨u21, hcut⟩ := hcut; obtain ⟨u22, hcut⟩ := hcut; obtain ⟨u23, hcut⟩ := hcut; obtain ⟨u24, hcut⟩ := hcut; obtain ⟨u25, hcut⟩ := hcut; obtain ⟨u26, hcut⟩ := hcut; obtain ⟨u27, hcut⟩ := hcut; obtain ⟨u28, hcut⟩ := hcut; obtain ⟨u29, hcut⟩ := hcut; obtain ⟨u30, hcut⟩ := hcut; obtain ⟨u31, hcut⟩ := hcut; obtain ⟨u32, hcut⟩ := hcut; obtain ⟨u33, hcut⟩ := hcut; obtain ⟨u34, hcut⟩ := hcut; obtain ⟨u35, hcut⟩ := hcut; obtain ⟨u36, hcut⟩ := hcut; obtain ⟨u37, hcut⟩ := hcut; obtain ⟨u38, hcut⟩ := hcut; obtain ⟨u39, hcut⟩ := hcut; obtain ⟨u40, hcut⟩ := hcut; obtain ⟨u41, hcut⟩ := hcut; obtain ⟨u42, hcut⟩ := hcut; obtain ⟨u43, hcut⟩ := hcut; obtain ⟨u44, hcut⟩ := hcut; obtain ⟨u45, hcut⟩ := hcut; obtain ⟨u46, hcut⟩ := hcut; obtain ⟨u47, hcut⟩ := hcut; obtain ⟨u48, hcut⟩ := hcut; obtain ⟨u49, hcut⟩ := hcut; obtain ⟨u50, hcut⟩ := hcut; obtain ⟨u51, hcut⟩ := hcut; obtain ⟨u52, hcut⟩ := hcut; obtain ⟨u53, hcut⟩ := hcut; obtain ⟨u54, hcut⟩ := hcut; obtain ⟨u55, hcut⟩ := hcut; obtain ⟨u56, hcut⟩ := hcut; obtain ⟨u57, hcut⟩ := hcut; obtain ⟨u58, hcut⟩ := hcut; obtain ⟨u59, hcut⟩ := hcut; obtain ⟨u60, hcut⟩ := hcut; obtain ⟨u61, hcut⟩ := hcut; obtain ⟨u62, hcut⟩ := hcut; obtain ⟨u63, hcut⟩ := hcut; obtain ⟨u64, hcut⟩ := hcut; obtain ⟨u65, hcut⟩ := hcut; obtain ⟨u66, hcut⟩ := hcut; obtain ⟨u67, hcut⟩ := hcut; obtain ⟨u68, hcut⟩ := hcut; obtain ⟨u69, hcut⟩ := hcut; obtain ⟨u70, hcut⟩ := hcut; obtain ⟨u71, hcut⟩ := hcut; obtain ⟨u72, hcut⟩ := hcut; obtain ⟨u73, hcut⟩ := hcut; obtain ⟨u74, hcut⟩ := hcut; obtain ⟨u75, hcut⟩ := hcut; obtain ⟨u76, hcut⟩ := hcut; obtain ⟨u77, hcut⟩ := hcut; obtain ⟨u78, hcut⟩ := hcut; obtain ⟨u79, hcut⟩ := hcut; obtain ⟨u80, hcut⟩ := hcut; obtain ⟨u81, hcut⟩ := hcut; obtain ⟨u82, hcut⟩ := hcut; obtain ⟨u83, hcut⟩ := hcut; obtain ⟨u84, hcut⟩ := hcut; obtain ⟨u85, hcut⟩ := hcut; obtain ⟨u86, hcut⟩ := hcut; obtain ⟨u87, hcut⟩ := hcut; obtain ⟨u88, hcut⟩ := hcut; obtain ⟨u89, hcut⟩ := hcut; obtain ⟨u90, hcut⟩ := hcut; obtain ⟨u91, hcut⟩ := hcut; obtain ⟨u92, hcut⟩ := hcut; obtain ⟨u93, hcut⟩ := hcut; obtain ⟨u94, hcut⟩ := hcut; obtain ⟨u95, hcut⟩ := hcut; obtain ⟨u96, hcut⟩ := hcut; obtain ⟨u97, hcut⟩ := hcut; obtain ⟨u98, hcut⟩ := hcut; obtain ⟨u99, hcut⟩ := hcut; obtain ⟨u100, hcut⟩ := hcut; obtain ⟨u101, hcut⟩ := hcut; obtain ⟨u102, hcut⟩ := hcut; obtain ⟨u103, hcut⟩ := hcut; obtain ⟨u104, hcut⟩ := hcut; obtain ⟨u105, hcut⟩ := hcut; obtain ⟨u106, hcut⟩ := hcut; obtain ⟨u107, hcut⟩ := hcut; obtain ⟨u108, hcut⟩ := hcut; obtain ⟨u109, hcut⟩ := hcut; obtain ⟨u110, hcut⟩ := hcut; obtain ⟨u111, hcut⟩ := hcut; obtain ⟨u112, hcut⟩ := hcut; obtain ⟨u113, hcut⟩ := hcut; obtain ⟨u114, hcut⟩ := hcut; obtain ⟨u115, hcut⟩ := hcut; obtain ⟨u116, hcut⟩ := hcut; obtain ⟨u117, hcut⟩ := hcut; obtain ⟨u118, hcut⟩ := hcut; obtain ⟨u119, hcut⟩ := hcut; obtain ⟨u120, hcut⟩ := hcut; obtain ⟨v9, hcut⟩ := hcut; obtain ⟨hcut, hac⟩ := hcut; subst hac; intro _ _ _ _)
          case atStart => exact ⟨0, rfl, rfl, rfl⟩
          case round =>
            obtain ⟨q, hq, rfl, hwr⟩ := hcut
            subst hwr
            have HQ := Lib.hid hq
            clear hq
            by_cases hlt2 : q < j
            · obtain ⟨⟨A, n, c⟩, hs⟩ : ∃ s, ss[q]? = some s := ⟨_, List.getElem?_eq_getElem (by rw [HM.out]; exact hlt2)⟩
              obtain ⟨hn, RA⟩ := HLA.out q _ hs
              obtain ⟨A2, c2, hg2, RB⟩ := HGD.out.2 q _ hlt2 hs
              simp only at hn RA hg2 RB
              have hnb : n ≤ 140737488355000 := by rw [hn, HXL.out q]; exact HX.out q
              have zc : wr3.cell? ⟨z, q, none⟩ = some (.slice A n c) := HZ.out wr3 HFR2.out q _ hs
              obtain ⟨zg, hzg, c0⟩ := HGR.out.cell hg2 (j := 0) (v := .slice A2 (n + 80) c2) (by simp [encSl])
              subst hzg
              have gc : wr3.cell? ⟨zg, q, none⟩ = some (.slice A2 (n + 80) c2) := by simpa using c0
              have HRA := Lib.hid RA
              have HRB := Lib.hid RB
              have HN := Lib.hid hn
              have HXQ := Lib.hid (show X2 q = rowA q n by rw [hn, HXL.out q]; exact HXA.out q hlt2)
              have q1 : (q : Int) < (j : Int) := by omega
              clear hs hn RA RB hg2 c0
              go_wp2_with (fail)
              refine wp_loop_ghost_k (fun (b : Nat) (ac : Act) (wq : World) => ∃ u1 u3 u4 u6 u7 u8 u12 u13 u14 u15 u16 u17 u18 u19 u20 u21 u22 u23 u24 u25 u26 u27 u28 u29 u30 u31 u32 u33 u34 u35 u36 u37 u38 u39 u40 u41 u42 u43 u44 u45 u46 u47 u48 u49 u50 u51 u52 u53 u54 u55 u56 u57 u58 u59 u60 u61 u62 u63 u64 u65 u66 u67 u68 u69 u70 u71 u72 u73 u74 u75 u76 u77 u78 u79 u80 u81 u82 u83 u84 u85 u86 u87 u88 u89 u90 u91 u92 u93 u94 u95 u96 u97 u98 u99 u100 u101 u102 u103 u104 u105 u106 u107 u108 u109 u110 u111 u112 u113 u114 u115 u116 u117 u118 u119 u120 v11 : Value, (∃ k : Nat, b + k = n ∧ v11 = .int .i64 k ∧ wq = wr3) ∧ ac = ({ tmps := #[.slice (some ⟨z, 0, none⟩) j cz, u1, .bool false, u3, u4, .slice (some ⟨zg, 0, none⟩) j cG, u6, u7, u8, .int .i64 q, .int .i64 n, v11, u12, u13, u14, u15, u16, u17, u18, u19, u20, u21, u22, u23, u24, u25, u26, u27, u28, u29, u30, u31, u32, u33, u34, u35, u36, u37, u38, u39, u40, u41, u42, u43, u44, u45, u46, u47, u48, u49, u50, u51, u52, u53, u54, u55, u56, u57, u58, u59, u60, u61, u62, u63, u64, u65, u66, u67, u68, u69, u70, u71, u72, u73, u74, u75, u76, u77, u78, u79, u80, u81, u82, u83, u84, u85, u86, u87, u88, u89, u90, u91, u92, u93, u94, u95, u96, u97, u98, u99, u100, u101, u102, u103, u104, u105, u106, u107, u108, u109, u110, u111, u112, u113, u114, u115, u116, u117, u118, u119, u120], defers := [] } : Act)) (n) ?atStart ?round
              case' atStart => ((repeat apply Exists.intro); refine ⟨?_, rfl⟩)
              case' round => (intro b ac wq hcut; obtain ⟨u1, hcut⟩ := hcut; obtain ⟨u3, hcut⟩ := hcut; obtain ⟨u4, hcut⟩ := hcut; obtain ⟨u6, hcut⟩ := hcut; obtain ⟨u7, hcut⟩ := hcut; obtain ⟨u8, hcut⟩ := hcut; obtain ⟨u12, hcut⟩ := hcut; obtain ⟨u13, hcut⟩ := hcut; obtain ⟨u14, hcut⟩ := hcut; obtain ⟨u15, hcut⟩ := hcut; obtain ⟨u16, hcut⟩ := hcut; obtain ⟨u17, hcut⟩ := hcut; obtain ⟨u18, hcut⟩ := hcut; obtain ⟨u19, hcut⟩ := hcut; obtain ⟨u20, hcut⟩ := hcut; obtain ⟨u21, hcut⟩ := hcut; obtain ⟨u22, hcut⟩ := hcut; obtain ⟨u23, hcut⟩ := hcut; obtain ⟨u24, hcut⟩ := hcut; obtain ⟨u25, hcut⟩ := hcut; obtain ⟨u26, hcut⟩ := hcut; obtain ⟨u27, hcut⟩ := hcut; obtain ⟨u28, hcut⟩ := hcut; obtain ⟨u29, hcut⟩ := hcut; obtain ⟨u30, hcut⟩ := hcut; obtain ⟨u31, hcut⟩ := hcut; obtain ⟨u32, hcut⟩ := hcut; obtain ⟨u33, hcut⟩ := hcut; obtain ⟨u34, hcut⟩ := hcut; obtain ⟨u35, hcut⟩ := hcut; obtain ⟨u36, hcut⟩ := hcut; obtain ⟨u37, hcut⟩ := hcut; obtain ⟨u38, hcut⟩ := hcut; obtain ⟨u39, hcut⟩ := hcut; obtain ⟨u40, hcut⟩ := hcut; obtain ⟨u41, hcut⟩ := hcut; obtain ⟨u42, hcut⟩ := hcut; obtain ⟨u43, hcut⟩ := hcut; obtain ⟨u44, hcut⟩ := hcut; obtain ⟨u45, hcut⟩ := hcut; obtain ⟨u46, hcut⟩ := hcut; obtain ⟨u47, hcut⟩ := hcut; obtain ⟨u48, hcut⟩ := hcut; obtain ⟨u49, hcut⟩ := hcut; obtain ⟨u50, hcut⟩ := hcut; obtain ⟨u51, hcut⟩ := hcut; obtain ⟨u52, hcut⟩ := hcut; obtain ⟨u53, hcut⟩ := hcut; obtain ⟨u54, hcut⟩ := hcut; obtain ⟨u55, hcut⟩ := hcut; obtain ⟨u56, hcut⟩ := hcut; obtain ⟨u57, hcut⟩ := hcut; obtain ⟨u58, hcut⟩ := hcut; obtain ⟨u59, hcut⟩ := hcut; obtain ⟨u60, hcut⟩ := hcut; obtain ⟨u61, hcut⟩ := hcut; obtain ⟨u62, hcut⟩ := hcut; obtain ⟨u63, hcut⟩ := hcut; obtain ⟨u64, hcut⟩ := hcut; obtain ⟨u65, hcut⟩ := hcut; obtain ⟨u66, hcut⟩ := hcut; obtain ⟨u67, hcut⟩ := hcut; obtain ⟨u68, hcut⟩ := hcut; obtain ⟨u69, hcut⟩ := hcut; obtain ⟨u70, hcut⟩ := hcut; obtain ⟨u71, hcut⟩ := hcut; obtain ⟨u72, hcut⟩ := hcut; obtain ⟨u73, hcut⟩ := hcut; obtain ⟨u74, hcut⟩ := hcut; obtain ⟨u75, hcut⟩ := hcut; obtain ⟨u76, hcut⟩ := hcut; obtain ⟨u77, hcut⟩ := hcut; obtain ⟨u78, hcut⟩ := hcut; obtain ⟨u79, hcut⟩ := hcut; obtain ⟨u80, hcut⟩ := hcut; obtain ⟨u81, hcut⟩ := hcut; obtain ⟨u82, hcut⟩ := hcut; obtain ⟨u83, hcut⟩ := hcut; obtain ⟨u84, hcut⟩ := hcut; obtain ⟨u85, hcut⟩ := hcut; obtain ⟨u86, hcut⟩ := hcut; obtain ⟨u87, hcut⟩ := hcut; obtain ⟨u88, hcut⟩ := hcut; obtain ⟨u89, hcut⟩ := hcut; obtain ⟨u90, hcut⟩ := hcut; obtain ⟨u91, hcut⟩ := hcut; obtain ⟨u92, hcut⟩ := hcut; obtain ⟨u93, hcut⟩ := hcut; obtain ⟨u94, hcut⟩ := hcut; obtain ⟨u95, hcut⟩ := hcut; obtain ⟨u96, hcut⟩ := hcut; obtain ⟨u97, hcut⟩ := hcut; obtain ⟨u98, hcut⟩ := hcut; obtain ⟨u99, hcut⟩ := hcut; obtain ⟨u100, hcut⟩ := hcut; obtain ⟨u101, hcut⟩ := hcut; obtain ⟨u102, hcut⟩ := hcut; obtain ⟨u103, hcut⟩ := hcut; obtain ⟨u104, hcut⟩ := hcut; obtain ⟨u105, hcut⟩ := hcut; obtain ⟨u106, hcut⟩ := hcut; obtain ⟨u107, hcut⟩ := hcut; obtain ⟨u108, hcut⟩ := hcut; obtain ⟨u109, hcut⟩ := hcut; obtain ⟨u110, hcut⟩ := hcut; obtain ⟨u111, hcut⟩ := hcut; obtain ⟨u112, hcut⟩ := hcut; obtain ⟨u113, hcut⟩ := hcut; obtain ⟨u114, hcut⟩ := hcut; obtain ⟨u115, hcut⟩ := hcut; obtain ⟨u116, hcut⟩ := hcut; obtain ⟨u117, hcut⟩ := hcut; obtain ⟨u118, hcut⟩ := hcut; obtain ⟨u119, hcut⟩ := hcut; obtain ⟨u120, hcut⟩ := hcut; obtain ⟨v11, hcut⟩ := hcut; obtain ⟨hcut, hac⟩ := hcut; subst hac; intro _ _ _ _)
              case atStart => exact ⟨0, rfl, rfl, rfl⟩
              case round =>
                obtain ⟨k, hk, rfl, hwq⟩ := hcut
                subst hwq
                have HK := Lib.hid hk
                clear hk
                by_cases hkn : k < n
                · have hrow : (X2 q)[k]? = some (mkA q k) := by rw [HXQ.out]; exact rowA_get hkn
                  obtain ⟨g, hA, c0⟩ := HRA.out.cell hrow (j := 0) (v := .int .u8 (mkA q k)) (by simp [bc])
                  subst hA
                  have xc : wq.cell? ⟨g, k, none⟩ = some (.int .u8 (mkA q k)) := by simpa using c0
                  have hw := u8_wrapA q k
                  have q2 : (k : Int) < (n : Int) := by omega
                  clear hrow c0
                  go_wp2_with (fail)
                  go_roundg (b - 1)
                  case measure => have := HK.out; omega
                  case rel => exact ⟨k + 1, by have := HK.out; omega, by go_num, rfl⟩
                · go_wp2_with (fail)
                  refine wp_loop_ghost_k (fun (b3 : Nat) (ac : Act) (wq3 : World) => ∃ u1 u3 u4 u6 u7 u8 u11 u13 u14 u15 u16 u17 u18 u19 u20 u21 u22 u23 u24 u25 u26 u27 u28 u29 u30 u31 u32 u33 u34 u35 u36 u37 u38 u39 u40 u41 u42 u43 u44 u45 u46 u47 u48 u49 u50 u51 u52 u53 u54 u55 u56 u57 u58 u59 u60 u61 u62 u63 u64 u65 u66 u67 u68 u69 u70 u71 u72 u73 u74 u75 u76 u77 u78 u79 u80 u81 u82 u83 u84 u85 u86 u87 u88 u89 u90 u91 u92 u93 u94 u95 u96 u97 u98 u99 u100 u101 u102 u103 u104 u105 u106 u107 u108 u109 u110 u111 u112 u113 u114 u115 u116 u117 u118 u119 u120 v12 : Value, (∃ k : Nat, b3 + k = 80 ∧ v12 = .int .i64 k ∧ wq3 = wq) ∧ ac = ({ tmps := #[.slice (some ⟨z, 0, none⟩) j cz, u1, .bool false, u3, u4, .slice (some ⟨zg, 0, none⟩) j cG, u6, u7, u8, .int .i64 q, .int .i64 n, u11, v12, u13, u14, u15, u16, u17, u18, u19, u20, u21, u22, u23, u24, u25, u26, u27, u28, u29, u30, u31, u32, u33, u34, u35, u36, u37, u38, u39, u40, u41, u42, u43, u44, u45, u46, u47, u48, u49, u50, u51, u52, u53, u54, u55, u56, u57, u58, u59, u60, u61, u62, u63, u64, u65, u66, u67, u68, u69, u70, u71, u72, u73, u74, u75, u76, u77, u78, u79, u80, u81, u82, u83, u84, u85, u86, u87, u88, u89, u90, u91, u92, u93, u94, u95, u96, u97, u98, u99, u100, u101, u102, u103, u104, u105, u106, u107, u108, u109, u110, u111, u112, u113, u114, u115, u116, u117, u118, u119, u120], defers := [] } : Act)) (80) ?atStart ?round
                  case' atStart => ((repeat apply Exists.intro); refine ⟨?_, rfl⟩)
                  case' round => (intro b3 ac wq3 hcut; obtain ⟨u1, hcut⟩ := hcut; obtain ⟨u3, hcut⟩ := hcut; obtain ⟨u4, hcut⟩ := hcut; obtain ⟨u6, hcut⟩ := hcut; obtain ⟨u7, hcut⟩ := hcut; obtain ⟨u8, hcut⟩ := hcut; obtain ⟨u11, hcut⟩ := hcut; obtain ⟨u13, hcut⟩ := hcut; obtain ⟨u14, hcut⟩ := hcut; obtain ⟨u15, hcut⟩ := hcut; obtain ⟨u16, hcut⟩ := hcut; obtain ⟨u17, hcut⟩ := hcut; obtain ⟨u18, hcut⟩ := hcut; obtain ⟨u19, hcut⟩ := hcut; obtain ⟨u20, hcut⟩ := hcut; obtain ⟨u21, hcut⟩ := hcut; obtain ⟨u22, hcut⟩ := hcut; obtain ⟨u23, hcut⟩ := hcut; obtain ⟨u24, hcut⟩ := hcut; obtain ⟨u25, hcut⟩ := hcut; obtain ⟨u26, hcut⟩ := hcut; obtain ⟨u27, hcut⟩ := hcut; obtain ⟨u28, hcut⟩ := hcut; obtain ⟨u29, hcut⟩ := hcut; obtain ⟨u30, hcut⟩ := hcut; obtain ⟨u31, hcut⟩ := hcut; obtain ⟨u32, hcut⟩ := hcut; obtain ⟨u33, hcut⟩ := hcut; obtain ⟨u34, hcut⟩ := hcut; obtain ⟨u35, hcut⟩ := hcut; obtain ⟨u36, hcut⟩ := hcut; obtain ⟨u37, hcut⟩ := hcut; obtain ⟨u38, hcut⟩ := hcut; obtain ⟨u39, hcut⟩ := hcut; obtain ⟨u40, hcut⟩ := hcut; obtain ⟨u41, hcut⟩ := hcut; obtain ⟨u42, hcut⟩ := hcut; obtain ⟨u43, hcut⟩ := hcut; obtain ⟨u44, hcut⟩ := hcut; obtain ⟨u45, hcut⟩ := hcut; obtain ⟨u46, hcut⟩ := hcut; obtain ⟨u47, hcut⟩ := hcut; obtain ⟨u48, hcut⟩ := hcut; obtain ⟨u49, hcut⟩ := hcut; obtain ⟨u50, hcut⟩ := hcut; obtain ⟨u51, hcut⟩ := hcut; obtain ⟨u52, hcut⟩ := hcut; obtain ⟨u53, hcut⟩ := hcut; obtain ⟨u54, hcut⟩ := hcut; obtain ⟨u55, hcut⟩ := hcut; obtain ⟨u56, hcut⟩ := hcut; obtain ⟨u57, hcut⟩ := hcut; obtain ⟨u58, hcut⟩ := hcut; obtain ⟨u59, hcut⟩ := hcut; obtain ⟨u60, hcut⟩ := hcut; obtain ⟨u61, hcut⟩ := hcut; obtain ⟨u62, hcut⟩ := hcut; obtain ⟨u63, hcut⟩ := hcut; obtain ⟨u64, hcut⟩ := hcut; obtain ⟨u65, hcut⟩ := hcut; obtain ⟨u66, hcut⟩ := hcut; obtain ⟨u67, hcut⟩ := hcut; obtain ⟨u68, hcut⟩ := hcut; obtain ⟨u69, hcut⟩ := hcut; obtain ⟨u70, hcut⟩ := hcut; obtain ⟨u71, hcut⟩ := hcut; obtain ⟨u72, hcut⟩ := hcut; obtain ⟨u73, hcut⟩ := hcut; obtain ⟨u74, hcut⟩ := hcut; obtain ⟨u75, hcut⟩ := hcut; obtain ⟨u76, hcut⟩ := hcut; obtain ⟨u77, hcut⟩ := hcut; obtain ⟨u78, hcut⟩ := hcut; obtain ⟨u79, hcut⟩ := hcut; obtain ⟨u80, hcut⟩ := hcut; obtain ⟨u81, hcut⟩ := hcut; obtain ⟨u82, hcut⟩ := hcut; obtain ⟨u83, hcut⟩ := hcut; obtain ⟨u84, hcut⟩ := hcut; obtain ⟨u85, hcut⟩ := hcut; obtain ⟨u86, hcut⟩ := hcut; obtain ⟨u87, hcut⟩ := hcut; obtain ⟨u88, hcut⟩ := hcut; obtain ⟨u89, hcut⟩ := hcut; obtain ⟨u90, hcut⟩ := hcut; obtain ⟨u91, hcut⟩ := hcut; obtain ⟨u92, hcut⟩ := hcut; obtain ⟨u93, hcut⟩ := hcut; obtain ⟨u94, hcut⟩ := hcut; obtain ⟨u95, hcut⟩ := hcut; obtain ⟨u96, hcut⟩ := hcut; obtain ⟨u97, hcut⟩ := hcut; obtain ⟨u98, hcut⟩ := hcut; obtain ⟨u99, hcut⟩ := hcut; obtain ⟨u100, hcut⟩ := hcut; obtain ⟨u101, hcut⟩ := hcut; obtain ⟨u102, hcut⟩ := hcut; obtain ⟨u103, hcut⟩ := hcut; obtain ⟨u104, hcut⟩ := hcut; obtain ⟨u105, hcut⟩ := hcut; obtain ⟨u106, hcut⟩ := hcut; obtain ⟨u107, hcut⟩ := hcut; obtain ⟨u108, hcut⟩ := hcut; obtain ⟨u109, hcut⟩ := hcut; obtain ⟨u110, hcut⟩ := hcut; obtain ⟨u111, hcut⟩ := hcut; obtain ⟨u112, hcut⟩ := hcut; obtain ⟨u113, hcut⟩ := hcut; obtain ⟨u114, hcut⟩ := hcut; obtain ⟨u115, hcut⟩ := hcut; obtain ⟨u116, hcut⟩ := hcut; obtain ⟨u117, hcut⟩ := hcut; obtain ⟨u118, hcut⟩ := hcut; obtain ⟨u119, hcut⟩ := hcut; obtain ⟨u120, hcut⟩ := hcut; obtain ⟨v12, hcut⟩ := hcut; obtain ⟨hcut, hac⟩ := hcut; subst hac; intro _ _ _ _)
                  case atStart => exact ⟨0, rfl, rfl, rfl⟩
                  case round =>
                    obtain ⟨k3, hk3, rfl, hwq3⟩ := hcut
                    subst hwq3
                    have HK3 := Lib.hid hk3
                    clear hk3
                    by_cases hkn3 : k3 < 80
                    · have hrow : (X2 q ++ rowB q 80)[n + k3]? = some (mkB q k3) := by
                        rw [List.getElem?_append_right (by rw [← HN.out]; omega), ← HN.out, Nat.add_sub_cancel_left]
                        exact rowB_get hkn3
                      obtain ⟨g, hA, c0⟩ := HRB.out.cell hrow (j := 0) (v := .int .u8 (mkB q k3)) (by simp [bc])
                      subst hA
                      have xc : wq3.cell? ⟨g, n + k3, none⟩ = some (.int .u8 (mkB q k3)) := by simpa using c0
                      have hw := u8_wrapB q k3
                      have q2 : (n : Int) + (k3 : Int) < (n : Int) + 80 := by omega
                      have q3 : (0 : Int) ≤ (n : Int) + (k3 : Int) := by omega
                      have q4 : ((n : Int) + (k3 : Int)).toNat = n + k3 := by omega
                      clear hrow c0
                      go_wp2_with (fail)
                      go_roundg (b3 - 1)
                      case measure => have := HK3.out; omega
                      case rel => exact ⟨k3 + 1, by have := HK3.out; omega, by go_num, rfl⟩
                    · go_wp2_with (fail)
                      go_roundg (a3 - 1)
                      case measure => have := HQ.out; omega
                      case rel => exact ⟨q + 1, by have := HQ.out; omega, by go_num, rfl⟩
            · go_wp2_with (fail)
              go_ret
              exact ⟨rfl, HFR2.out⟩
end Go.Proofs.Ytjmmdpnphafdfaa
