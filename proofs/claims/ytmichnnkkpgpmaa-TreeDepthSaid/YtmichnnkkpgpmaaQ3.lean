/- made: the row of trees that a script makes. -/
import Derived.Test.YtmichnnkkpgpmaaQ2
namespace Go.Proofs.Ytmichnnkkpgpmaa
set_option linter.unusedVariables false
set_option linter.unusedSimpArgs false
open Go.RowKit Go.Deep Go.Proofs.YtmichnnkkpgpmaaW.PrintLast

theorem Forest.push2 {w0 w : World} {N : Nat} {A : Option Addr} {c : Nat} {l : List TI} {ps : List (Option Addr)} (h : Forest w N A c l ps) {p q : Option Addr} {t u : TI} (ht : Ti.TreeAt w p t) (hu : Ti.TreeAt w q u) (hB : Below N w0 w) (hN : N ≤ w.heap.size) (hl : l.length ≤ 9000000000000) :
    ∃ A' c' w', (Builtin.append_ #[33, 33] 33 #[.slice A l.length c, .slice (some ⟨w.heap.size, 0, none⟩) 2 2]).run Try.prog (w.alloc (.cells #[.pointer p, .pointer q] 35)) = .ok (.slice A' (l.length + 2) c') w' ∧
      Forest w' N A' c' (l ++ [t, u]) (ps ++ [p, q]) ∧ Below N w0 w' := by
  have h1 := h.row.keeps (KeepT.alloc 35 w (.cells #[.pointer p, .pointer q] 35))
  obtain ⟨A', c', w', hr, h2, h3, h4, h5⟩ := GRow.append (ys := [p, q]) elP h1 33 (some ⟨w.heap.size, 0, none⟩) 2 (fun _ => ⟨w.heap.size, 0, rfl, fun k y hy j v hv => by
    have hk : k < 2 := (List.getElem?_eq_some_iff.1 hy).1
    have hj : j = 0 := by have := (List.getElem?_eq_some_iff.1 hv).1; simp [encP] at this; omega
    subst hj
    simp [encP] at hv; subst hv
    rcases k with _ | _ | k
    · simp at hy; subst hy; exact cell_blk (blk_new w _) 0 rfl
    · simp at hy; subst hy; exact cell_blk (blk_new w _) 1 rfl
    · omega⟩) (hB.alloc hN _) (by simp; omega) (by rw [h.len]; simp only [maxLen, List.length_cons, List.length_nil]; omega) (by rw [h.len]; simp only [List.length_cons, List.length_nil]; omega)
  rw [h.len] at hr
  have hk := (KeepT.alloc 110 w (.cells #[.pointer p, .pointer q] 35)).trans (h4 110 (by decide))
  refine ⟨A', c', w', by simpa using hr, ⟨h2, by simp [h.len], fun i p' t' hp' ht' => ?_⟩, h3⟩
  by_cases hi : i < l.length
  · rw [List.getElem?_append_left (by rw [h.len]; exact hi)] at hp'
    rw [List.getElem?_append_left hi] at ht'
    exact (h.tree i p' t' hp' ht').keeps hk
  · rw [List.getElem?_append_right (by rw [h.len]; omega), h.len] at hp'
    rw [List.getElem?_append_right (by omega)] at ht'
    have hlt := (List.getElem?_eq_some_iff.1 ht').1
    simp only [List.length_cons, List.length_nil] at hlt
    rcases (by omega : i - l.length = 0 ∨ i - l.length = 1) with h0 | h0
    · rw [h0] at hp' ht'
      simp at hp' ht'; subst hp' ht'
      exact ht.keeps hk
    · rw [h0] at hp' ht'
      simp at hp' ht'; subst hp' ht'
      exact hu.keeps hk
set_option maxHeartbeats 400000 in
theorem num_any (x : Int) (w : World) : Calls Try.prog 24 #[.int .i64 x] w fun e w' => e = .returned (.int .i64 x) ∧ w = w' := by
  go_enter Try.func24, Try.ntmps24
  go_wp2
  go_ret
  exact ⟨rfl, rfl⟩
/-- What made hands back. -/
def MadeP (w : World) (l : List TI) (e : Ending) (w' : World) : Prop := ∃ A c ps, e = .returned (.slice A l.length c) ∧ Forest w' w.heap.size A c l ps ∧ Below w.heap.size w w'
set_option maxRecDepth 100000 in
set_option maxHeartbeats 8000000 in
theorem made_any (w : World) (A : Option Addr) (cap : Nat) (ops : List OpV) (hl : ops.length ≤ 4398046510976) (he : RdOp.elems w A ops) :
    Calls Try.prog 15 #[.slice A ops.length cap] w (MadeP w (madeL ops)) := by
  have HE := Lib.hid he
  have NW := Lib.hid (new_any w)
  have F0 : Forest (w.alloc (.cells #[.pointer none] 35)) w.heap.size (some ⟨w.heap.size, 0, none⟩) 1 [.nil] [none] :=
    ⟨Or.inr ⟨_, rfl, Nat.le_refl _, Own.fresh w (by decide) #[.pointer none] rfl [none] (by simp) (fun i x hx j v hv => by
      rcases i with _ | i
      · simp at hx; subst hx
        rcases j with _ | j
        · simp [encP] at hv; subst hv; rfl
        · simp [encP] at hv
      · simp at hx)⟩, rfl, fun i p t hp ht => by
      rcases i with _ | i
      · simp at hp ht; subst hp ht; rfl
      · simp at hp⟩
  have HF0 := Lib.hid F0
  clear he F0
  go_enter Try.func15, Try.ntmps15
  go_wp2_with (fail)
  refine NW.out.mono ?_
  rintro e w_ ⟨rfl, rfl⟩
  go_wp2_with (fail)
  refine wp_loop_ghost_k (fun (m : Nat) (ac : Act) (wr : World) => ∃ u1 u2 u5 u6 u7 u8 u9 u10 u11 u12 u13 u14 u15 u16 u17 u18 u19 u20 u21 u22 u23 u24 u25 u26 u27 u28 u29 u30 u31 u32 u33 u34 u35 u36 u37 u38 u39 u40 u41 u42 u43 u44 u45 u46 u47 u48 u49 u50 u51 u52 u53 u54 u55 u56 u57 u58 u59 u60 u61 u62 u63 u64 u65 u66 u67 u68 u69 u70 u71 u72 u73 u74 u75 u76 u77 u78 u79 u80 u81 u82 u83 u84 u85 u86 u87 u88 u89 u90 u91 u92 u93 u94 u95 v3 v4 : Value, (∃ (i : Nat) (B : Option Addr) (c : Nat) (l : List TI) (ps : List (Option Addr)) (K : List Int), m + i = ops.length ∧ v3 = .slice B l.length c ∧ v4 = .int .i64 i ∧ l = madeL (ops.take i) ∧ Forest wr w.heap.size B c l ps ∧ GoodL K l ∧ K.length ≤ i ∧ l.length ≤ 2 * i + 1 ∧ Below w.heap.size w wr) ∧ ac = ({ tmps := #[.slice A ops.length cap, u1, u2, v3, v4, u5, u6, u7, u8, u9, u10, u11, u12, u13, u14, u15, u16, u17, u18, u19, u20, u21, u22, u23, u24, u25, u26, u27, u28, u29, u30, u31, u32, u33, u34, u35, u36, u37, u38, u39, u40, u41, u42, u43, u44, u45, u46, u47, u48, u49, u50, u51, u52, u53, u54, u55, u56, u57, u58, u59, u60, u61, u62, u63, u64, u65, u66, u67, u68, u69, u70, u71, u72, u73, u74, u75, u76, u77, u78, u79, u80, u81, u82, u83, u84, u85, u86, u87, u88, u89, u90, u91, u92, u93, u94, u95], defers := [] } : Act)) (ops.length) ?atStart ?round
  case' atStart => ((repeat apply Exists.intro); refine ⟨?_, rfl⟩)
  case' round => (intro m ac wr hcut; obtain ⟨u1, hcut⟩ := hcut; obtain ⟨u2, hcut⟩ := hcut; obtain ⟨u5, hcut⟩ := hcut; obtain ⟨u6, hcut⟩ := hcut; obtain ⟨u7, hcut⟩ := hcut; obtain ⟨u8, hcut⟩ := hcut; obtain ⟨u9, hcut⟩ := hcut; obtain ⟨u10, hcut⟩ := hcut; obtain ⟨u11, hcut⟩ := hcut; obtain ⟨u12, hcut⟩ := hcut; obtain ⟨u13, hcut⟩ := hcut; obtain ⟨u14, hcut⟩ := hcut; obtain ⟨u15, hcut⟩ := hcut; obtain ⟨u16, hcut⟩ := hcut; obtain ⟨u17, hcut⟩ := hcut; obtain ⟨u18, hcut⟩ := hcut; obtain ⟨u19, hcut⟩ := hcut; obtain ⟨u20, hcut⟩ := hcut; obtain ⟨u21, hcut⟩ := hcut; obtain ⟨u22, hcut⟩ := hcut; obtain ⟨u23, hcut⟩ := hcut; obtain ⟨u24, hcut⟩ := hcut; obtain ⟨u25, hcut⟩ := hcut; obtain ⟨u26, hcut⟩ := hcut; obtain ⟨u27, hcut⟩ := hcut; obtain ⟨u28, hcut⟩ := hcut; obtain ⟨u29, hcut⟩ := hcut; obtain ⟨u30, hcut⟩ := hcut; obtain ⟨u31, hcut⟩ := hcut; obtain ⟨u32, hcut⟩ := hcut; obtain ⟨u33, hcut⟩ := hcut; obtain ⟨u34, hcut⟩ := hcut; obtain ⟨u35, hcut⟩ := hcut; obtain ⟨u36, hcut⟩ := hcut; obtain ⟨u37, hcut⟩ := hcut; obtain ⟨u38, hcut⟩ := hcut; obtain ⟨u39, hcut⟩ := hcut; obtain ⟨u40, hcut⟩ := hcut; obtain ⟨u41, hcut⟩ := hcut; obtain ⟨u42, hcut⟩ := hcut; obtain ⟨u43, hcut⟩ := hcut; obtain ⟨u44, hcut⟩ := hcut; obtain ⟨u45, hcut⟩ := hcut; obtain ⟨u46, hcut⟩ := hcut; obtain ⟨u47, hcut⟩ := hcut; obtain ⟨u48, hcut⟩ := hcut; obtain ⟨u49, hcut⟩ := hcut; obtain ⟨u50, hcut⟩ := hcut; obtain ⟨u51, hcut⟩ := hcut; obtain ⟨u52, hcut⟩ := hcut; obtain ⟨u53, hcut⟩ := hcut; obtain ⟨u54, hcut⟩ := hcut; obtain ⟨u55, hcut⟩ := hcut; obtain ⟨u56, hcut⟩ := hcut; obtain ⟨u57, hcut⟩ := hcut; obtain ⟨u58, hcut⟩ := hcut; obtain ⟨u59, hcut⟩ := hcut; obtain ⟨u60, hcut⟩ := hcut; obtain ⟨u61, hcut⟩ := hcut; obtain ⟨u62, hcut⟩ := hcut; obtain ⟨u63, hcut⟩ := hcut; obtain ⟨u64, hcut⟩ := hcut; obtain ⟨u65, hcut⟩ := hcut; obtain ⟨u66, hcut⟩ := hcut; obtain ⟨u67, hcut⟩ := hcut; obtain ⟨u68, hcut⟩ := hcut; obtain ⟨u69, hcut⟩ := hcut; obtain ⟨u70, hcut⟩ := hcut; obtain ⟨u71, hcut⟩ := hcut; obtain ⟨u72, hcut⟩ := hcut; obtain ⟨u73, hcut⟩ := hcut; obtain ⟨u74, hcut⟩ := hcut; obtain ⟨u75, hcut⟩ := hcut; obtain ⟨u76, hcut⟩ := hcut; obtain ⟨u77, hcut⟩ := hcut; obtain ⟨u78, hcut⟩ := hcut; obtain ⟨u79, hcut⟩ := hcut; obtain ⟨u80, hcut⟩ := hcut; obtain ⟨u81, hcut⟩ := hcut; obtain ⟨u82, hcut⟩ := hcut; obtain ⟨u83, hcut⟩ := hcut; obtain ⟨u84, hcut⟩ := hcut; obtain ⟨u85, hcut⟩ := hcut; obtain ⟨u86, hcut⟩ := hcut; obtain ⟨u87, hcut⟩ := hcut; obtain ⟨u88, hcut⟩ := hcut; obtain ⟨u89, hcut⟩ := hcut; obtain ⟨u90, hcut⟩ := hcut; obtain ⟨u91, hcut⟩ := hcut; obtain ⟨u92, hcut⟩ := hcut; obtain ⟨u93, hcut⟩ := hcut; obtain ⟨u94, hcut⟩ := hcut; obtain ⟨u95, hcut⟩ := hcut; obtain ⟨v3, hcut⟩ := hcut; obtain ⟨v4, hcut⟩ := hcut; obtain ⟨hcut, hac⟩ := hcut; subst hac; intro _ _ _ _)
  case atStart => exact ⟨0, _, _, [.nil], [none], [], by simp, rfl, rfl, rfl, HF0.out, ⟨by simp, fun t ht => by rw [List.mem_singleton.1 ht]; exact Good.nil⟩, Nat.le_refl _, by simp, (Below.refl _ _).alloc (Nat.le_refl _) _⟩
  case round =>
    obtain ⟨i, B, c, l, ps, K, hm, rfl, rfl, hlm, F, G, hK, hll, hB⟩ := hcut
    have HM := Lib.hid hm
    have HLM := Lib.hid hlm
    have HF := Lib.hid F
    have HG := Lib.hid G
    have HB := Lib.hid hB
    have hile : i ≤ ops.length := by omega
    clear hm hlm F G hB
    by_cases hlt : i < ops.length
    · have ho := List.getElem?_eq_getElem hlt
      obtain ⟨o, hoo⟩ : ∃ o, ops[i]? = some o := ⟨_, ho⟩
      clear ho
      obtain ⟨b, of, rfl, q0, q1, q2, q3, i0, i1, i2, i3⟩ := op_at HE.out hoo
      have x0 := cell_below HB.out q0
      have x1 := cell_below HB.out q1
      have x2 := cell_below HB.out q2
      have x3 := cell_below HB.out q3
      have hlp : 1 ≤ l.length := List.length_pos_iff.2 HG.out.ne
      obtain ⟨ki, fr, ke, va⟩ := o
      simp only at x0 x1 x2 x3 i0 i1 i2 i3
      have HO := Lib.hid hoo
      have HS := Lib.hid (HG.out.step ⟨ki, fr, ke, va⟩)
      have hnext : madeL (ops.take (i + 1)) = stepL l ⟨ki, fr, ke, va⟩ := by
        unfold madeL
        rw [List.take_add_one, hoo, Option.toList_some, List.foldl_append]
        have := HLM.out
        unfold madeL at this
        rw [← this]; rfl
      have HNX := Lib.hid hnext
      clear q0 q1 q2 q3 hoo hnext
      have z1 : decide (i < ops.length) = true := by simp; omega
      go_upto_region 6 with (fail)
      have BK := blk_new wr (.cells #[.int .i64 ki, .int .i64 fr, .int .i64 ke, .int .i64 va] 62)
      have c0 := cell_blk BK 0 rfl
      have c1 := cell_blk BK 1 rfl
      have c2 := cell_blk BK 2 rfl
      have c3 := cell_blk BK 3 rfl
      have F1 := HF.out.below ((Below.refl _ _).alloc (Nat.le_refl _) (.cells #[.int .i64 ki, .int .i64 fr, .int .i64 ke, .int .i64 va] 62))
      have HB1 := Lib.hid (HB.out.alloc HB.out.size (.cells #[.int .i64 ki, .int .i64 fr, .int .i64 ke, .int .i64 va] 62))
      obtain ⟨g, p, hBe, d0, T1⟩ := F1.at_ (nth_at HG.out.ne fr)
      subst hBe
      have hgt := HG.out.all _ (nth_mem HG.out.ne fr)
      have r0 := rnd_lt fr (show 0 < l.length by omega)
      obtain ⟨rr, hrr⟩ : ∃ rr, rr = rnd fr l.length := ⟨_, rfl⟩
      have RR := round_any fr l.length i1.1 i1.2 hlp (by omega) (wr.alloc (.cells #[.int .i64 ki, .int .i64 fr, .int .i64 ke, .int .i64 va] 62))
      rw [← hrr] at RR r0 d0
      obtain ⟨t, ht⟩ : ∃ t, t = nth l fr := ⟨_, rfl⟩
      rw [← ht] at T1 hgt
      have hsz := hgt.size
      have HRR := Lib.hid RR
      have HT1 := Lib.hid T1
      have HF1 := Lib.hid F1
      have HT := Lib.hid ht
      clear BK T1 F1 RR hrr ht x0 x1 x2 x3
      go_wp2_with (fail)
      refine HRR.out.mono ?_
      rintro e w_ ⟨rfl, rfl⟩
      go_upto_region 8 with (fail)
      by_cases k0 : ki = 0
      · --[A
        subst k0
        have PU := Lib.hid (Ti.put_any ke va t HT1.out (by unfold Ti.big; omega))
        go_wp2_with (fail)
        refine PU.out.mono ?_
        rintro e w2 ⟨p2, rfl, T2, B2⟩
        obtain ⟨A3, a3, w3, hrun3, F3, B3⟩ := (HF1.out.below B2).push T2 (HB1.out.trans (B2.mono HB1.out.size)) (Nat.le_trans HB1.out.size B2.size) (by omega)
        have HR3 := Lib.hid hrun3
        have HF3 := Lib.hid F3
        have HB3 := Lib.hid B3
        clear hrun3 F3 B3 B2 T2 PU
        go_wp2_with (have p3 := HR3; refine wpList_app p3.out rfl rfl rfl (by rfl) (by rfl) ?_; clear p3 HR3)
        have e1 : stepL l ⟨0, fr, ke, va⟩ = l ++ [T.put ltZ ke va t] := by unfold stepL; rw [if_pos rfl, HT.out]
        go_roundg (m - 1)
        case measure => have := HM.out; omega
        case rel => exact ⟨i + 1, A3, a3, l ++ [T.put ltZ ke va t], _, ke :: K, by have := HM.out; omega, by simp, by go_num, by rw [HNX.out, e1], HF3.out, by rw [← e1]; exact HS.out.1, by simp; omega, by simp; omega, HB3.out⟩
        --A]
      · by_cases k1 : ki = 1
        · --[B
          subst k1
          have DE := Lib.hid (Ti.del_any ke t HT1.out (by unfold Ti.big; omega))
          clear k0
          go_wp2_with (fail)
          refine DE.out.mono ?_
          rintro e w2 ⟨p2, rfl, T2, B2⟩
          obtain ⟨A3, a3, w3, hrun3, F3, B3⟩ := (HF1.out.below B2).push T2 (HB1.out.trans (B2.mono HB1.out.size)) (Nat.le_trans HB1.out.size B2.size) (by omega)
          have HR3 := Lib.hid hrun3
          have HF3 := Lib.hid F3
          have HB3 := Lib.hid B3
          clear hrun3 F3 B3 B2 T2 DE
          go_wp2_with (have p3 := HR3; refine wpList_app p3.out rfl rfl rfl (by rfl) (by rfl) ?_; clear p3 HR3)
          have e1 : stepL l ⟨1, fr, ke, va⟩ = l ++ [(T.del ltZ ke t).1] := by unfold stepL; rw [if_neg (show ¬ (1 : Int) = 0 by decide), if_pos rfl, HT.out]
          go_roundg (m - 1)
          case measure => have := HM.out; omega
          case rel => exact ⟨i + 1, A3, a3, l ++ [(T.del ltZ ke t).1], _, ke :: K, by have := HM.out; omega, by simp, by go_num, by rw [HNX.out, e1], HF3.out, by rw [← e1]; exact HS.out.1, by simp; omega, by simp; omega, HB3.out⟩
          --B]
        · by_cases k6 : ki = 6
          · --[C
            subst k6
            have SP := Lib.hid (Ti.split_any ke t HT1.out (by unfold Ti.big; omega))
            clear k0 k1
            go_wp2_with (fail)
            refine SP.out.mono ?_
            rintro e w2 ⟨p2, q2, rfl, T2, T2', B2⟩
            obtain ⟨A3, a3, w3, hrun3, F3, B3⟩ := (HF1.out.below B2).push2 T2 T2' (HB1.out.trans (B2.mono HB1.out.size)) (Nat.le_trans HB1.out.size B2.size) (by omega)
            have HR3 := Lib.hid hrun3
            have HF3 := Lib.hid F3
            have HB3 := Lib.hid B3
            clear hrun3 F3 B3 B2 T2 T2' SP
            go_wp2_with (have p3 := HR3; refine wpList_app p3.out rfl rfl rfl (by rfl) (by rfl) ?_; clear p3 HR3)
            have e1 : stepL l ⟨6, fr, ke, va⟩ = l ++ [T.splitL ltZ ke t, T.splitR ltZ ke t] := by unfold stepL; rw [if_neg (show ¬ (6 : Int) = 0 by decide), if_neg (show ¬ (6 : Int) = 1 by decide), if_pos rfl, HT.out]
            go_roundg (m - 1)
            case measure => have := HM.out; omega
            case rel => exact ⟨i + 1, A3, a3, l ++ [T.splitL ltZ ke t, T.splitR ltZ ke t], _, ke :: K, by have := HM.out; omega, by simp, by go_num, by rw [HNX.out, e1], HF3.out, by rw [← e1]; exact HS.out.1, by simp; omega, by simp; omega, HB3.out⟩
            --C]
          · by_cases k7 : ki = 7
            · --[D
              subst k7
              obtain ⟨g', p', hBe, d1, T2⟩ := HF1.out.at_ (nth_at HG.out.ne ke)
              injection hBe with hBe
              injection hBe with hBe
              subst hBe
              have hgu := HG.out.all _ (nth_mem HG.out.ne ke)
              have r1 := rnd_lt ke (show 0 < l.length by omega)
              obtain ⟨ss, hss⟩ : ∃ ss, ss = rnd ke l.length := ⟨_, rfl⟩
              have RR := round_any ke l.length i2.1 i2.2 hlp (by omega) (wr.alloc (.cells #[.int .i64 7, .int .i64 fr, .int .i64 ke, .int .i64 va] 62))
              rw [← hss] at RR r1 d1
              obtain ⟨u, hu⟩ : ∃ u, u = nth l ke := ⟨_, rfl⟩
              rw [← hu] at T2 hgu
              have hsu := hgu.size
              have JO := Lib.hid (Ti.Join_any t u HT1.out T2 (by unfold Ti.big; omega))
              have HRS := Lib.hid RR
              have HU := Lib.hid hu
              clear RR hss hu T2 k0 k1 k6
              have e1 : stepL l ⟨7, fr, ke, va⟩ = if T.meets ltZ t.toList u.toList then l ++ [T.both t u] else l := by unfold stepL; rw [if_neg (show ¬ (7 : Int) = 0 by decide), if_neg (show ¬ (7 : Int) = 1 by decide), if_neg (show ¬ (7 : Int) = 6 by decide), if_pos rfl, ← HT.out, ← HU.out]
              cases hmt : T.meets ltZ t.toList u.toList with
              | false =>
                rw [hmt] at JO e1
                rw [if_neg (by decide)] at e1
                have HE1 := Lib.hid e1
                clear hmt e1
                go_wp2_with (fail)
                refine HRS.out.mono ?_
                rintro e w_ ⟨rfl, rfl⟩
                go_wp2_with (fail)
                refine JO.out.mono ?_
                rintro e w2 ⟨B2, he⟩
                rw [if_neg (by decide)] at he
                subst he
                have HB2 := Lib.hid (HB1.out.trans (B2.mono HB1.out.size))
                have HF2 := Lib.hid (HF1.out.below B2)
                have NU := Lib.hid (num_any 2 w2)
                clear B2
                go_wp2_with (fail)
                refine NU.out.mono ?_
                rintro e w_ ⟨rfl, rfl⟩
                go_wp2_with (fail)
                go_roundg (m - 1)
                case measure => have := HM.out; omega
                case rel => exact ⟨i + 1, _, _, l, _, ke :: K, by have := HM.out; omega, rfl, by go_num, by rw [HNX.out, HE1.out], HF2.out, by rw [← HE1.out]; exact HS.out.1, by simp; omega, by omega, HB2.out⟩
              | true =>
                rw [hmt] at JO e1
                rw [if_pos rfl] at e1
                have HE1 := Lib.hid e1
                clear hmt e1
                go_wp2_with (fail)
                refine HRS.out.mono ?_
                rintro e w_ ⟨rfl, rfl⟩
                go_wp2_with (fail)
                refine JO.out.mono ?_
                rintro e w2 ⟨B2, he⟩
                rw [if_pos rfl] at he
                obtain ⟨p3, rfl, T3⟩ := he
                obtain ⟨A3, a3, w3, hrun3, F3, B3⟩ := (HF1.out.below B2).push T3 (HB1.out.trans (B2.mono HB1.out.size)) (Nat.le_trans HB1.out.size B2.size) (by omega)
                have HR3 := Lib.hid hrun3
                have HF3 := Lib.hid F3
                have HB3 := Lib.hid B3
                have NU := Lib.hid (num_any 0 w2)
                clear hrun3 F3 B3 B2 T3
                go_wp2_with (fail)
                refine NU.out.mono ?_
                rintro e w_ ⟨rfl, rfl⟩
                go_wp2_with (have p3 := HR3; refine wpList_app p3.out rfl rfl rfl (by rfl) (by rfl) ?_; clear p3 HR3)
                go_roundg (m - 1)
                case measure => have := HM.out; omega
                case rel => exact ⟨i + 1, A3, a3, l ++ [T.both t u], _, ke :: K, by have := HM.out; omega, by simp, by go_num, by rw [HNX.out, HE1.out], HF3.out, by rw [← HE1.out]; exact HS.out.1, by simp; omega, by simp; omega, HB3.out⟩
              --D]
            · --[F
              have g0 : (ki == 0) = false := by simpa using k0
              have g1 : (ki == 1) = false := by simpa using k1
              have g6 : (ki == 6) = false := by simpa using k6
              have g7 : (ki == 7) = false := by simpa using k7
              have e1 : stepL l ⟨ki, fr, ke, va⟩ = l := by unfold stepL; rw [if_neg k0, if_neg k1, if_neg k6, if_neg k7]
              have HE1 := Lib.hid e1
              clear k0 k1 k6 k7 e1
              go_wp2_with (fail)
              go_roundg (m - 1)
              case measure => have := HM.out; omega
              case rel => exact ⟨i + 1, _, _, l, _, ke :: K, by have := HM.out; omega, rfl, by go_num, by rw [HNX.out, HE1.out], HF1.out, by rw [← HE1.out]; exact HS.out.1, by simp; omega, by omega, HB1.out⟩
              --F]
    · have hie : i = ops.length := by omega
      have z1 : decide (i < ops.length) = false := by simp; omega
      have hfin : l = madeL ops := by have := HLM.out; rw [hie, List.take_length] at this; exact this
      have HFIN := Lib.hid hfin
      clear hfin hie
      go_wp2_with (fail)
      go_ret
      rw [← HFIN.out]
      exact ⟨B, c, ps, rfl, HF.out, HB.out⟩
end Go.Proofs.Ytmichnnkkpgpmaa
