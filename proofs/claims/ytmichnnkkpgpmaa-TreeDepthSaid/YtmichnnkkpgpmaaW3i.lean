/- join. Printed out of one text for each instance (wip/tools/inst.py). -/
import Derived.Test.YtmichnnkkpgpmaaW2i
namespace Go.Proofs.Ytmichnnkkpgpmaa
set_option linter.unusedVariables false
set_option linter.unusedSimpArgs false
open Go.RowKit Go.Deep Go.Proofs.YtmichnnkkpgpmaaW.PrintLast
namespace Ti
theorem depth_n {w : World} {p : Option Addr} {t : Tr} (h : TreeAt w p t) {d : Nat} (hd : d = t.depth) : Calls Try.prog 27 #[.pointer p] w fun e w' => e = .returned (.int .i64 (d : Int)) ∧ w = w' := by
  subst hd; exact depth_any h
theorem join_ne (l : Tr) (k : Int) (v : Int) (r : Tr) : ∃ a k' v' b, T.join l k v r = .node a k' v' b := by
  cases h : T.join l k v r with
  | nil => have := T.size_join l k v r; rw [h] at this; simp only [T.size] at this; omega
  | node a k' v' b => exact ⟨a, k', v', b, rfl⟩
set_option maxRecDepth 100000 in
set_option maxHeartbeats 4000000 in
/-- The left side is the deeper one. -/
theorem joinL_any (ll lr r : Tr) (lk k : Int) (lv v : Int)
    (ih : ∀ (w : World) (pl pr : Option Addr), TreeAt w pl lr → TreeAt w pr r → Calls Try.prog 66 #[.pointer pl, (.int .i64 k), (.int .i64 v), .pointer pr] w (NewT w (T.join lr k v r)))
    {w : World} {pl pr : Option Addr} (hl : TreeAt w pl (.node ll lk lv lr)) (hr : TreeAt w pr r) (hs : (ll.size + 1 + lr.size) + 1 + r.size < big) (hd : r.depth + 1 < (T.node ll lk lv lr).depth) :
    Calls Try.prog 66 #[.pointer pl, (.int .i64 k), (.int .i64 v), .pointer pr] w (NewT w (T.fixL ll lk lv (T.join lr k v r))) := by
  have b1 := T.depth_le (T.node ll lk lv lr)
  have b2 := T.depth_le r
  have hs' := hs
  unfold big at hs'
  simp only [T.size] at b1
  obtain ⟨dl, hdl⟩ : ∃ d, d = (T.node ll lk lv lr).depth := ⟨_, rfl⟩
  obtain ⟨dr, hdr⟩ : ∃ d, d = r.depth := ⟨_, rfl⟩
  have D1 := Lib.hid (depth_n hl hdl)
  have D2 := Lib.hid (depth_n hr hdr)
  rw [← hdl] at b1 hd
  rw [← hdr] at b2 hd
  clear hdl hdr
  have g1 : decide ((dr : Int) + 1 < (dl : Int)) = true := by simp; omega
  have hl0 := hl
  obtain ⟨q, pll, plr, rfl, hq, hll, hlr⟩ := hl
  have x0 := cell_blk hq 0 rfl
  have x1 := cell_blk hq 1 rfl
  have HQ := Lib.hid hq
  have HLL := Lib.hid hll
  have IH := Lib.hid (ih w plr pr hlr hr)
  clear hq hll hlr hr hl0 ih
  obtain ⟨tt, htt⟩ : ∃ tt, tt = T.fixL ll lk lv (T.join lr k v r) := ⟨_, rfl⟩
  rw [← htt]
  have HT := Lib.hid htt
  clear htt
  go_enter Try.func66, Try.ntmps66
  go_wp2_with (fail)
  refine D1.out.mono ?_
  rintro e w_ ⟨rfl, rfl⟩
  go_wp2_with (fail)
  refine D2.out.mono ?_
  rintro e w_ ⟨rfl, rfl⟩
  clear D1 D2
  go_wp2_with (fail)
  refine IH.out.mono ?_
  rintro e w1 ⟨pu, rfl, TU, B1⟩
  obtain ⟨ul, uk, uv, ur, hu⟩ := join_ne lr k v r
  have hus := T.size_join lr k v r
  rw [hu] at TU hus
  have HU := Lib.hid hu
  have TU0 := Lib.hid TU
  have b3 := T.depth_le (T.node ul uk uv ur)
  have b4 := T.depth_le ll
  obtain ⟨p', pul, pur, rfl, hpu, TUL, TUR⟩ := TU
  simp only [T.size] at hus b3
  obtain ⟨du, hdu⟩ : ∃ d, d = 1 + max ul.depth ur.depth := ⟨_, rfl⟩
  obtain ⟨dll, hdll⟩ : ∃ d, d = ll.depth := ⟨_, rfl⟩
  have y5 := cell_blk hpu 5 (v := .int .i64 (du : Int)) (by rw [hdu]; rfl)
  have z0 := cell_below B1 x0
  have D3 := Lib.hid (depth_n (HLL.out.below B1).drew hdll)
  have hdu' : du = (T.node ul uk uv ur).depth := hdu
  rw [← hdu'] at b3
  rw [← hdll] at b4
  have HDU := Lib.hid hdu'
  have HDLL := Lib.hid hdll
  have HPU := Lib.hid hpu
  have HTUL := Lib.hid TUL
  have HTUR := Lib.hid TUR
  have HB1 := Lib.hid B1
  clear hdu hdll hu hdu' hpu TUL TUR B1 x0 x1 IH
  obtain ⟨t2, ht2⟩ := named (decide ((dll : Int) + 1 < (du : Int)))
  go_upto_region 3 with (fail)
  refine wp_cut (fun (ac : Act) (wx : World) => ∃ u1 u2 u3 u4 u5 u6 u7 u8 u10 u11 u12 u13 u14 u15 u16 u17 u18 u19 u20 u21 u22 u23 u24 u25 u26 u27 u28 u29 u30 u31 u32 u33 u34 u35 u37 u38 u39 u40 u41 u42 u43 u44 u45 u46 u47 u48 u49 u50 u51 u52 u53 u54 u55 u56 u57 u58 u59 u60 u61 u62 u63 u64 u65 u66 u67 u68 u69 u70 u71 u72 u73 u74 u75 u76 u77 u78 u79 u80 u81 u82 u83 u84 u85 u86 u87 u88 u89 u90 u91 u92 u93 u94 u95 u96 u97 u98 u99 u100 u101 u102 u103 u104 u105 u106 u107 u108 u109 u110 u111 u112 u113 u114 u115 u116 u117 u118 u119 u120 u121 u122 u123 u124 u125 u126 u127 u128 u129 u130 u131 u132 u133 u134 u135 u136 u137 u138 u139 u140 u141 u142 u143 u144 u145 u146 u147 u148 u149 u150 u151 : Value, (Below w1.heap.size w1 wx) ∧ ac = ({ tmps := #[.pointer (some ⟨q, 0, none⟩), u1, u2, u3, u4, u5, u6, u7, u8, .pointer (some ⟨p', 0, none⟩), u10, u11, u12, u13, u14, u15, u16, u17, u18, u19, u20, u21, u22, u23, u24, u25, u26, u27, u28, u29, u30, u31, u32, u33, u34, u35, .bool t2, u37, u38, u39, u40, u41, u42, u43, u44, u45, u46, u47, u48, u49, u50, u51, u52, u53, u54, u55, u56, u57, u58, u59, u60, u61, u62, u63, u64, u65, u66, u67, u68, u69, u70, u71, u72, u73, u74, u75, u76, u77, u78, u79, u80, u81, u82, u83, u84, u85, u86, u87, u88, u89, u90, u91, u92, u93, u94, u95, u96, u97, u98, u99, u100, u101, u102, u103, u104, u105, u106, u107, u108, u109, u110, u111, u112, u113, u114, u115, u116, u117, u118, u119, u120, u121, u122, u123, u124, u125, u126, u127, u128, u129, u130, u131, u132, u133, u134, u135, u136, u137, u138, u139, u140, u141, u142, u143, u144, u145, u146, u147, u148, u149, u150, u151], defers := [] } : Act)) ?rest ?first
  case' rest => (intro ac wx hcut; obtain ⟨u1, hcut⟩ := hcut; obtain ⟨u2, hcut⟩ := hcut; obtain ⟨u3, hcut⟩ := hcut; obtain ⟨u4, hcut⟩ := hcut; obtain ⟨u5, hcut⟩ := hcut; obtain ⟨u6, hcut⟩ := hcut; obtain ⟨u7, hcut⟩ := hcut; obtain ⟨u8, hcut⟩ := hcut; obtain ⟨u10, hcut⟩ := hcut; obtain ⟨u11, hcut⟩ := hcut; obtain ⟨u12, hcut⟩ := hcut; obtain ⟨u13, hcut⟩ := hcut; obtain ⟨u14, hcut⟩ := hcut; obtain ⟨u15, hcut⟩ := hcut; obtain ⟨u16, hcut⟩ := hcut; obtain ⟨u17, hcut⟩ := hcut; obtain ⟨u18, hcut⟩ := hcut; obtain ⟨u19, hcut⟩ := hcut; obtain ⟨u20, hcut⟩ := hcut; obtain ⟨u21, hcut⟩ := hcut; obtain ⟨u22, hcut⟩ := hcut; obtain ⟨u23, hcut⟩ := hcut; obtain ⟨u24, hcut⟩ := hcut; obtain ⟨u25, hcut⟩ := hcut; obtain ⟨u26, hcut⟩ := hcut; obtain ⟨u27, hcut⟩ := hcut; obtain ⟨u28, hcut⟩ := hcut; obtain ⟨u29, hcut⟩ := hcut; obtain ⟨u30, hcut⟩ := hcut; obtain ⟨u31, hcut⟩ := hcut; obtain ⟨u32, hcut⟩ := hcut; obtain ⟨u33, hcut⟩ := hcut; obtain ⟨u34, hcut⟩ := hcut; obtain ⟨u35, hcut⟩ := hcut; obtain ⟨u37, hcut⟩ := hcut; obtain ⟨u38, hcut⟩ := hcut; obtain ⟨u39, hcut⟩ := hcut; obtain ⟨u40, hcut⟩ := hcut; obtain ⟨u41, hcut⟩ := hcut; obtain ⟨u42, hcut⟩ := hcut; obtain ⟨u43, hcut⟩ := hcut; obtain ⟨u44, hcut⟩ := hcut; obtain ⟨u45, hcut⟩ := hcut; obtain ⟨u46, hcut⟩ := hcut; obtain ⟨u47, hcut⟩ := hcut; obtain ⟨u48, hcut⟩ := hcut; obtain ⟨u49, hcut⟩ := hcut; obtain ⟨u50, hcut⟩ := hcut; obtain ⟨u51, hcut⟩ := hcut; obtain ⟨u52, hcut⟩ := hcut; obtain ⟨u53, hcut⟩ := hcut; obtain ⟨u54, hcut⟩ := hcut; obtain ⟨u55, hcut⟩ := hcut; obtain ⟨u56, hcut⟩ := hcut; obtain ⟨u57, hcut⟩ := hcut; obtain ⟨u58, hcut⟩ := hcut; obtain ⟨u59, hcut⟩ := hcut; obtain ⟨u60, hcut⟩ := hcut; obtain ⟨u61, hcut⟩ := hcut; obtain ⟨u62, hcut⟩ := hcut; obtain ⟨u63, hcut⟩ := hcut; obtain ⟨u64, hcut⟩ := hcut; obtain ⟨u65, hcut⟩ := hcut; obtain ⟨u66, hcut⟩ := hcut; obtain ⟨u67, hcut⟩ := hcut; obtain ⟨u68, hcut⟩ := hcut; obtain ⟨u69, hcut⟩ := hcut; obtain ⟨u70, hcut⟩ := hcut; obtain ⟨u71, hcut⟩ := hcut; obtain ⟨u72, hcut⟩ := hcut; obtain ⟨u73, hcut⟩ := hcut; obtain ⟨u74, hcut⟩ := hcut; obtain ⟨u75, hcut⟩ := hcut; obtain ⟨u76, hcut⟩ := hcut; obtain ⟨u77, hcut⟩ := hcut; obtain ⟨u78, hcut⟩ := hcut; obtain ⟨u79, hcut⟩ := hcut; obtain ⟨u80, hcut⟩ := hcut; obtain ⟨u81, hcut⟩ := hcut; obtain ⟨u82, hcut⟩ := hcut; obtain ⟨u83, hcut⟩ := hcut; obtain ⟨u84, hcut⟩ := hcut; obtain ⟨u85, hcut⟩ := hcut; obtain ⟨u86, hcut⟩ := hcut; obtain ⟨u87, hcut⟩ := hcut; obtain ⟨u88, hcut⟩ := hcut; obtain ⟨u89, hcut⟩ := hcut; obtain ⟨u90, hcut⟩ := hcut; obtain ⟨u91, hcut⟩ := hcut; obtain ⟨u92, hcut⟩ := hcut; obtain ⟨u93, hcut⟩ := hcut; obtain ⟨u94, hcut⟩ := hcut; obtain ⟨u95, hcut⟩ := hcut; obtain ⟨u96, hcut⟩ := hcut; obtain ⟨u97, hcut⟩ := hcut; obtain ⟨u98, hcut⟩ := hcut; obtain ⟨u99, hcut⟩ := hcut; obtain ⟨u100, hcut⟩ := hcut; obtain ⟨u101, hcut⟩ := hcut; obtain ⟨u102, hcut⟩ := hcut; obtain ⟨u103, hcut⟩ := hcut; obtain ⟨u104, hcut⟩ := hcut; obtain ⟨u105, hcut⟩ := hcut; obtain ⟨u106, hcut⟩ := hcut; obtain ⟨u107, hcut⟩ := hcut; obtain ⟨u108, hcut⟩ := hcut; obtain ⟨u109, hcut⟩ := hcut; obtain ⟨u110, hcut⟩ := hcut; obtain ⟨u111, hcut⟩ := hcut; obtain ⟨u112, hcut⟩ := hcut; obtain ⟨u113, hcut⟩ := hcut; obtain ⟨u114, hcut⟩ := hcut; obtain ⟨u115, hcut⟩ := hcut; obtain ⟨u116, hcut⟩ := hcut; obtain ⟨u117, hcut⟩ := hcut; obtain ⟨u118, hcut⟩ := hcut; obtain ⟨u119, hcut⟩ := hcut; obtain ⟨u120, hcut⟩ := hcut; obtain ⟨u121, hcut⟩ := hcut; obtain ⟨u122, hcut⟩ := hcut; obtain ⟨u123, hcut⟩ := hcut; obtain ⟨u124, hcut⟩ := hcut; obtain ⟨u125, hcut⟩ := hcut; obtain ⟨u126, hcut⟩ := hcut; obtain ⟨u127, hcut⟩ := hcut; obtain ⟨u128, hcut⟩ := hcut; obtain ⟨u129, hcut⟩ := hcut; obtain ⟨u130, hcut⟩ := hcut; obtain ⟨u131, hcut⟩ := hcut; obtain ⟨u132, hcut⟩ := hcut; obtain ⟨u133, hcut⟩ := hcut; obtain ⟨u134, hcut⟩ := hcut; obtain ⟨u135, hcut⟩ := hcut; obtain ⟨u136, hcut⟩ := hcut; obtain ⟨u137, hcut⟩ := hcut; obtain ⟨u138, hcut⟩ := hcut; obtain ⟨u139, hcut⟩ := hcut; obtain ⟨u140, hcut⟩ := hcut; obtain ⟨u141, hcut⟩ := hcut; obtain ⟨u142, hcut⟩ := hcut; obtain ⟨u143, hcut⟩ := hcut; obtain ⟨u144, hcut⟩ := hcut; obtain ⟨u145, hcut⟩ := hcut; obtain ⟨u146, hcut⟩ := hcut; obtain ⟨u147, hcut⟩ := hcut; obtain ⟨u148, hcut⟩ := hcut; obtain ⟨u149, hcut⟩ := hcut; obtain ⟨u150, hcut⟩ := hcut; obtain ⟨u151, hcut⟩ := hcut; obtain ⟨hcut, hac⟩ := hcut; subst hac)
  case' first => intro _ _ _ _
  case first =>
    refine start_ (n := 11) (S := fun w' => w'.cell? ⟨p', 5, none⟩ = some (.int .i64 (du : Int)) ∧ w'.cell? ⟨q, 0, none⟩ = some (.pointer pll)) (ds := []) #[false, false, false, false, false, false, false, false, false, false, false] (by kernel_rfl) rfl rfl ⟨y5, z0⟩ (fun hHeld => ?_)
    (refine take_ (i := 0) (N := some 26) (v := ?v_2) (a' := ?a_2) #[true, false, false, false, false, false, false, false, false, false, false] rfl rfl (by kernel_rfl) (fun _ _ _ h => h) (Or.inl ⟨by rfl, ?hy_2⟩) hHeld ?ha_2 ?hh_2; (case hy_2 => (rintro w' ⟨s0_, s1_⟩; go_simp; with_reducible rfl)); (case ha_2 => (simp (disch := omega) only [Act.put, List.setIfInBounds_toArray, List.set_cons_zero, List.set_cons_succ, wrap_in]; rfl)))
    (refine take_ (i := 1) (N := some 27) (v := ?v_3) (a' := ?a_3) #[true, true, false, false, false, false, false, false, false, false, false] rfl rfl (by kernel_rfl) (fun _ _ _ h => h) (Or.inl ⟨by rfl, ?hy_3⟩) hHeld ?ha_3 ?hh_3; (case hy_3 => (rintro w' ⟨s0_, s1_⟩; go_simp; with_reducible rfl)); (case ha_3 => (simp (disch := omega) only [Act.put, List.setIfInBounds_toArray, List.set_cons_zero, List.set_cons_succ, wrap_in]; rfl)))
    (refine take_ (i := 2) (N := some 28) (v := ?v_4) (a' := ?a_4) #[true, true, true, false, false, false, false, false, false, false, false] rfl rfl (by kernel_rfl) (fun _ _ _ h => h) (Or.inl ⟨by rfl, ?hy_4⟩) hHeld ?ha_4 ?hh_4; (case hy_4 => (rintro w' ⟨s0_, s1_⟩; go_simp; with_reducible rfl)); (case ha_4 => (simp (disch := omega) only [Act.put, List.setIfInBounds_toArray, List.set_cons_zero, List.set_cons_succ, wrap_in]; rfl)))
    (refine take_ (i := 3) (N := some 29) (v := ?v_5) (a' := ?a_5) #[true, true, true, true, false, false, false, false, false, false, false] rfl rfl (by kernel_rfl) (fun _ _ _ h => h) (Or.inl ⟨by rfl, ?hy_5⟩) hHeld ?ha_5 ?hh_5; (case hy_5 => (rintro w' ⟨s0_, s1_⟩; go_simp; with_reducible rfl)); (case ha_5 => (simp (disch := omega) only [Act.put, List.setIfInBounds_toArray, List.set_cons_zero, List.set_cons_succ, wrap_in]; rfl)))
    (refine take_ (i := 4) (N := some 30) (v := ?v_6) (a' := ?a_6) #[true, true, true, true, true, false, false, false, false, false, false] rfl rfl (by kernel_rfl) (fun _ _ _ h => h) (Or.inl ⟨by rfl, ?hy_6⟩) hHeld ?ha_6 ?hh_6; (case hy_6 => (rintro w' ⟨s0_, s1_⟩; go_simp; with_reducible rfl)); (case ha_6 => (simp (disch := omega) only [Act.put, List.setIfInBounds_toArray, List.set_cons_zero, List.set_cons_succ, wrap_in]; rfl)))
    (refine take_ (i := 5) (N := some 31) (v := ?v_7) (a' := ?a_7) #[true, true, true, true, true, true, false, false, false, false, false] rfl rfl (by kernel_rfl) (fun _ _ _ h => h) (Or.inl ⟨by rfl, ?hy_7⟩) hHeld ?ha_7 ?hh_7; (case hy_7 => (rintro w' ⟨s0_, s1_⟩; go_simp; with_reducible rfl)); (case ha_7 => (simp (disch := omega) only [Act.put, List.setIfInBounds_toArray, List.set_cons_zero, List.set_cons_succ, wrap_in]; rfl)))
    (refine take_ (i := 6) (N := some 32) (v := ?v_8) (a' := ?a_8) #[true, true, true, true, true, true, true, false, false, false, false] rfl rfl (by kernel_rfl) (fun _ _ _ h => h) (Or.inl ⟨by rfl, ?hy_8⟩) hHeld ?ha_8 ?hh_8; (case hy_8 => (rintro w' ⟨s0_, s1_⟩; go_simp; with_reducible rfl)); (case ha_8 => (simp (disch := omega) only [Act.put, List.setIfInBounds_toArray, List.set_cons_zero, List.set_cons_succ, wrap_in]; rfl)))
    (refine take_ (i := 7) (N := some 33) (v := ?v_9) (a' := ?a_9) #[true, true, true, true, true, true, true, true, false, false, false] rfl rfl (by kernel_rfl) (fun _ _ _ h => h) (Or.inl ⟨by rfl, ?hy_9⟩) hHeld ?ha_9 ?hh_9; (case hy_9 => (rintro w' ⟨s0_, s1_⟩; go_simp; with_reducible rfl)); (case ha_9 => (simp (disch := omega) only [Act.put, List.setIfInBounds_toArray, List.set_cons_zero, List.set_cons_succ, wrap_in]; rfl)))
    refine one_ (i := 8) (N := some 34) #[true, true, true, true, true, true, true, true, true, false, false] rfl rfl (by kernel_rfl) (by decide) (fun K hK => ?_)
    (refine goes_ Try.func27 (by kernel_rfl) rfl ?args_11 (by rfl) rfl rfl ?hargs_11 ?hc_11; (case hargs_11 => (go_simp; with_reducible rfl)))
    (refine D3.out.mono ?_; rintro e w_ ⟨rfl, rfl⟩; refine ⟨_, rfl, ?_⟩)
    (refine hK.out _ _ ?hs_13 ?hn_13; (case hs_13 => (exact hHeld)); intro hHeld; clear hK K)
    (refine norm_ (a' := ?a_14) ?ha_14 ?hh_14; (case ha_14 => (simp (disch := omega) only [Act.put, List.setIfInBounds_toArray, List.set_cons_zero, List.set_cons_succ, wrap_in]; rfl)))
    (refine take_ (i := 9) (N := some 35) (v := ?v_15) (a' := ?a_15) #[true, true, true, true, true, true, true, true, true, true, false] rfl rfl (by kernel_rfl) (fun _ _ _ h => h) (Or.inl ⟨by rfl, ?hy_15⟩) hHeld ?ha_15 ?hh_15; (case hy_15 => (rintro w' ⟨s0_, s1_⟩; go_simp; with_reducible rfl)); (case ha_15 => (simp (disch := omega) only [Act.put, List.setIfInBounds_toArray, List.set_cons_zero, List.set_cons_succ, wrap_in]; rfl)))
    (refine take_ (i := 10) (N := some 36) (v := ?v_16) (a' := ?a_16) #[true, true, true, true, true, true, true, true, true, true, true] rfl rfl (by kernel_rfl) (fun _ _ _ h => h) (Or.inl ⟨by rfl, ?hy_16⟩) hHeld ?ha_16 ?hh_16; (case hy_16 => (rintro w' ⟨s0_, s1_⟩; go_simp; with_reducible rfl)); (case ha_16 => (simp (disch := omega) only [Act.put, List.setIfInBounds_toArray, List.set_cons_zero, List.set_cons_succ, wrap_in]; rfl)))
    refine done_ (by kernel_rfl) ?_
    go_wp2_with (fail)
    go_meet
    exact (Below.refl _ _).drew
  case rest =>
  have HW := Lib.hid hcut
  have e0 := cell_blk (blk_below HPU.out hcut) 0 rfl
  have e1 := cell_blk (blk_below HPU.out hcut) 1 rfl
  have e2 := cell_blk (blk_below HPU.out hcut) 2 rfl
  have e3 := cell_blk (blk_below HPU.out hcut) 3 rfl
  have f0 := cell_blk (blk_below (blk_below HQ.out HB1.out) hcut) 0 rfl
  have f2 := cell_blk (blk_below (blk_below HQ.out HB1.out) hcut) 2 rfl
  have f3 := cell_blk (blk_below (blk_below HQ.out HB1.out) hcut) 3 rfl
  clear hcut y5 z0
  have HLX := Lib.hid ((HLL.out.below HB1.out).below HW.out)
  cases t2
  · -- as it comes
    have HF : T.fixL ll lk lv (T.join lr k v r) = .node ll lk lv (.node ul uk uv ur) := by
      unfold T.fixL
      rw [HU.out, ← HDU.out, ← HDLL.out, if_neg (by have := of_decide_eq_false ht2; omega)]
    have HTT := Lib.hid (HT.out.trans HF)
    have N1 := Lib.hid (node_any HLX.out.drew (TU0.out.below HW.out).drew (by simp only [T.size]; omega) lk lv)
    clear HF HU HDU HDLL
    go_wp2_with (fail)
    refine start_ (n := 15) (S := fun w' => w'.cell? ⟨q, 0, none⟩ = some (.pointer pll) ∧ w'.cell? ⟨q, 2, none⟩ = some ((.int .i64 lk)) ∧ w'.cell? ⟨q, 3, none⟩ = some ((.int .i64 lv))) (ds := []) #[false, false, false, false, false, false, false, false, false, false, false, false, false, false, false] (by kernel_rfl) rfl rfl ⟨f0, f2, f3⟩ (fun hHeld => ?_)
    (refine take_ (i := 0) (N := some 65) (v := ?v_19) (a' := ?a_19) #[true, false, false, false, false, false, false, false, false, false, false, false, false, false, false] rfl rfl (by kernel_rfl) (fun _ _ _ h => h) (Or.inl ⟨by rfl, ?hy_19⟩) hHeld ?ha_19 ?hh_19; (case hy_19 => (rintro w' ⟨s0_, s1_, s2_⟩; go_simp; with_reducible rfl)); (case ha_19 => (simp (disch := omega) only [Act.put, List.setIfInBounds_toArray, List.set_cons_zero, List.set_cons_succ, wrap_in]; rfl)))
    (refine take_ (i := 1) (N := some 66) (v := ?v_20) (a' := ?a_20) #[true, true, false, false, false, false, false, false, false, false, false, false, false, false, false] rfl rfl (by kernel_rfl) (fun _ _ _ h => h) (Or.inl ⟨by rfl, ?hy_20⟩) hHeld ?ha_20 ?hh_20; (case hy_20 => (rintro w' ⟨s0_, s1_, s2_⟩; go_simp; with_reducible rfl)); (case ha_20 => (simp (disch := omega) only [Act.put, List.setIfInBounds_toArray, List.set_cons_zero, List.set_cons_succ, wrap_in]; rfl)))
    (refine take_ (i := 2) (N := some 67) (v := ?v_21) (a' := ?a_21) #[true, true, true, false, false, false, false, false, false, false, false, false, false, false, false] rfl rfl (by kernel_rfl) (fun _ _ _ h => h) (Or.inl ⟨by rfl, ?hy_21⟩) hHeld ?ha_21 ?hh_21; (case hy_21 => (rintro w' ⟨s0_, s1_, s2_⟩; go_simp; with_reducible rfl)); (case ha_21 => (simp (disch := omega) only [Act.put, List.setIfInBounds_toArray, List.set_cons_zero, List.set_cons_succ, wrap_in]; rfl)))
    (refine take_ (i := 3) (N := some 68) (v := ?v_22) (a' := ?a_22) #[true, true, true, true, false, false, false, false, false, false, false, false, false, false, false] rfl rfl (by kernel_rfl) (fun _ _ _ h => h) (Or.inl ⟨by rfl, ?hy_22⟩) hHeld ?ha_22 ?hh_22; (case hy_22 => (rintro w' ⟨s0_, s1_, s2_⟩; go_simp; with_reducible rfl)); (case ha_22 => (simp (disch := omega) only [Act.put, List.setIfInBounds_toArray, List.set_cons_zero, List.set_cons_succ, wrap_in]; rfl)))
    (refine take_ (i := 4) (N := some 69) (v := ?v_23) (a' := ?a_23) #[true, true, true, true, true, false, false, false, false, false, false, false, false, false, false] rfl rfl (by kernel_rfl) (fun _ _ _ h => h) (Or.inl ⟨by rfl, ?hy_23⟩) hHeld ?ha_23 ?hh_23; (case hy_23 => (rintro w' ⟨s0_, s1_, s2_⟩; go_simp; with_reducible rfl)); (case ha_23 => (simp (disch := omega) only [Act.put, List.setIfInBounds_toArray, List.set_cons_zero, List.set_cons_succ, wrap_in]; rfl)))
    (refine take_ (i := 5) (N := some 70) (v := ?v_24) (a' := ?a_24) #[true, true, true, true, true, true, false, false, false, false, false, false, false, false, false] rfl rfl (by kernel_rfl) (fun _ _ _ h => h) (Or.inl ⟨by rfl, ?hy_24⟩) hHeld ?ha_24 ?hh_24; (case hy_24 => (rintro w' ⟨s0_, s1_, s2_⟩; go_simp; with_reducible rfl)); (case ha_24 => (simp (disch := omega) only [Act.put, List.setIfInBounds_toArray, List.set_cons_zero, List.set_cons_succ, wrap_in]; rfl)))
    (refine take_ (i := 6) (N := some 71) (v := ?v_25) (a' := ?a_25) #[true, true, true, true, true, true, true, false, false, false, false, false, false, false, false] rfl rfl (by kernel_rfl) (fun _ _ _ h => h) (Or.inl ⟨by rfl, ?hy_25⟩) hHeld ?ha_25 ?hh_25; (case hy_25 => (rintro w' ⟨s0_, s1_, s2_⟩; go_simp; with_reducible rfl)); (case ha_25 => (simp (disch := omega) only [Act.put, List.setIfInBounds_toArray, List.set_cons_zero, List.set_cons_succ, wrap_in]; rfl)))
    (refine take_ (i := 7) (N := some 72) (v := ?v_26) (a' := ?a_26) #[true, true, true, true, true, true, true, true, false, false, false, false, false, false, false] rfl rfl (by kernel_rfl) (fun _ _ _ h => h) (Or.inl ⟨by rfl, ?hy_26⟩) hHeld ?ha_26 ?hh_26; (case hy_26 => (rintro w' ⟨s0_, s1_, s2_⟩; go_simp; with_reducible rfl)); (case ha_26 => (simp (disch := omega) only [Act.put, List.setIfInBounds_toArray, List.set_cons_zero, List.set_cons_succ, wrap_in]; rfl)))
    (refine take_ (i := 8) (N := some 73) (v := ?v_27) (a' := ?a_27) #[true, true, true, true, true, true, true, true, true, false, false, false, false, false, false] rfl rfl (by kernel_rfl) (fun _ _ _ h => h) (Or.inl ⟨by rfl, ?hy_27⟩) hHeld ?ha_27 ?hh_27; (case hy_27 => (rintro w' ⟨s0_, s1_, s2_⟩; go_simp; with_reducible rfl)); (case ha_27 => (simp (disch := omega) only [Act.put, List.setIfInBounds_toArray, List.set_cons_zero, List.set_cons_succ, wrap_in]; rfl)))
    (refine take_ (i := 9) (N := some 74) (v := ?v_28) (a' := ?a_28) #[true, true, true, true, true, true, true, true, true, true, false, false, false, false, false] rfl rfl (by kernel_rfl) (fun _ _ _ h => h) (Or.inl ⟨by rfl, ?hy_28⟩) hHeld ?ha_28 ?hh_28; (case hy_28 => (rintro w' ⟨s0_, s1_, s2_⟩; go_simp; with_reducible rfl)); (case ha_28 => (simp (disch := omega) only [Act.put, List.setIfInBounds_toArray, List.set_cons_zero, List.set_cons_succ, wrap_in]; rfl)))
    (refine take_ (i := 10) (N := some 75) (v := ?v_29) (a' := ?a_29) #[true, true, true, true, true, true, true, true, true, true, true, false, false, false, false] rfl rfl (by kernel_rfl) (fun _ _ _ h => h) (Or.inl ⟨by rfl, ?hy_29⟩) hHeld ?ha_29 ?hh_29; (case hy_29 => (rintro w' ⟨s0_, s1_, s2_⟩; go_simp; with_reducible rfl)); (case ha_29 => (simp (disch := omega) only [Act.put, List.setIfInBounds_toArray, List.set_cons_zero, List.set_cons_succ, wrap_in]; rfl)))
    (refine take_ (i := 11) (N := some 76) (v := ?v_30) (a' := ?a_30) #[true, true, true, true, true, true, true, true, true, true, true, true, false, false, false] rfl rfl (by kernel_rfl) (fun _ _ _ h => h) (Or.inl ⟨by rfl, ?hy_30⟩) hHeld ?ha_30 ?hh_30; (case hy_30 => (rintro w' ⟨s0_, s1_, s2_⟩; go_simp; with_reducible rfl)); (case ha_30 => (simp (disch := omega) only [Act.put, List.setIfInBounds_toArray, List.set_cons_zero, List.set_cons_succ, wrap_in]; rfl)))
    (refine take_ (i := 12) (N := some 77) (v := ?v_31) (a' := ?a_31) #[true, true, true, true, true, true, true, true, true, true, true, true, true, false, false] rfl rfl (by kernel_rfl) (fun _ _ _ h => h) (Or.inl ⟨by rfl, ?hy_31⟩) hHeld ?ha_31 ?hh_31; (case hy_31 => (rintro w' ⟨s0_, s1_, s2_⟩; go_simp; with_reducible rfl)); (case ha_31 => (simp (disch := omega) only [Act.put, List.setIfInBounds_toArray, List.set_cons_zero, List.set_cons_succ, wrap_in]; rfl)))
    refine one_ (i := 13) (N := some 78) #[true, true, true, true, true, true, true, true, true, true, true, true, true, true, false] rfl rfl (by kernel_rfl) (by decide) (fun K hK => ?_)
    (refine goes_ Try.func70 (by kernel_rfl) rfl ?args_33 (by rfl) rfl rfl ?hargs_33 ?hc_33; (case hargs_33 => (go_simp; with_reducible rfl)))
    (refine N1.out.mono ?_; rintro e w2 ⟨p2, rfl, T2, B2⟩; refine ⟨_, rfl, ?_⟩)
    (refine hK.out _ _ ?hs_35 ?hn_35; (case hs_35 => (obtain ⟨s0_, s1_, s2_⟩ := hHeld; exact ⟨cell_below B2 s0_, cell_below B2 s1_, cell_below B2 s2_⟩)); intro hHeld; clear hK K)
    (refine norm_ (a' := ?a_36) ?ha_36 ?hh_36; (case ha_36 => (simp (disch := omega) only [Act.put, List.setIfInBounds_toArray, List.set_cons_zero, List.set_cons_succ, wrap_in]; rfl)))
    (refine take_ (i := 14) (N := some 8) (v := ?v_37) (a' := ?a_37) #[true, true, true, true, true, true, true, true, true, true, true, true, true, true, true] rfl rfl (by kernel_rfl) (fun _ _ _ h => h) (Or.inl ⟨by rfl, ?hy_37⟩) hHeld ?ha_37 ?hh_37; (case hy_37 => (rintro w' ⟨s0_, s1_, s2_⟩; go_simp; with_reducible rfl)); (case ha_37 => (simp (disch := omega) only [Act.put, List.setIfInBounds_toArray, List.set_cons_zero, List.set_cons_succ, wrap_in]; rfl)))
    refine done_ (by kernel_rfl) ?_
    go_wp2_with (fail)
    go_ret
    exact ⟨_, rfl, by rw [HTT.out]; exact T2, HB1.out.trans ((HW.out.drew.trans (B2.mono HW.out.size)).mono HB1.out.size)⟩
  · obtain ⟨dul, hdul⟩ : ∃ d, d = ul.depth := ⟨_, rfl⟩
    obtain ⟨dur, hdur⟩ : ∃ d, d = ur.depth := ⟨_, rfl⟩
    have D4 := Lib.hid (depth_n (HTUL.out.below HW.out).drew hdul)
    have D5 := Lib.hid (depth_n (HTUR.out.below HW.out).drew hdur)
    obtain ⟨t3, ht3⟩ := named (decide (dur < dul))
    have HDUL := Lib.hid hdul
    have HDUR := Lib.hid hdur
    clear hdul hdur
    go_upto_region 4 with (fail)
    refine wp_cut (fun (ac : Act) (wy : World) => ∃ u1 u2 u3 u4 u5 u6 u7 u8 u10 u11 u12 u13 u14 u15 u16 u17 u18 u19 u20 u21 u22 u23 u24 u25 u26 u27 u28 u29 u30 u31 u32 u33 u34 u35 u36 u37 u38 u39 u40 u41 u42 u43 u44 u45 u46 u48 u49 u50 u51 u52 u53 u54 u55 u56 u57 u58 u59 u60 u61 u62 u63 u64 u65 u66 u67 u68 u69 u70 u71 u72 u73 u74 u75 u76 u77 u78 u79 u80 u81 u82 u83 u84 u85 u86 u87 u88 u89 u90 u91 u92 u93 u94 u95 u96 u97 u98 u99 u100 u101 u102 u103 u104 u105 u106 u107 u108 u109 u110 u111 u112 u113 u114 u115 u116 u117 u118 u119 u120 u121 u122 u123 u124 u125 u126 u127 u128 u129 u130 u131 u132 u133 u134 u135 u136 u137 u138 u139 u140 u141 u142 u143 u144 u145 u146 u147 u148 u149 u150 u151 : Value, (wy = wx.drew) ∧ ac = ({ tmps := #[.pointer (some ⟨q, 0, none⟩), u1, u2, u3, u4, u5, u6, u7, u8, .pointer (some ⟨p', 0, none⟩), u10, u11, u12, u13, u14, u15, u16, u17, u18, u19, u20, u21, u22, u23, u24, u25, u26, u27, u28, u29, u30, u31, u32, u33, u34, u35, u36, u37, u38, u39, u40, u41, u42, u43, u44, u45, u46, .bool t3, u48, u49, u50, u51, u52, u53, u54, u55, u56, u57, u58, u59, u60, u61, u62, u63, u64, u65, u66, u67, u68, u69, u70, u71, u72, u73, u74, u75, u76, u77, u78, u79, u80, u81, u82, u83, u84, u85, u86, u87, u88, u89, u90, u91, u92, u93, u94, u95, u96, u97, u98, u99, u100, u101, u102, u103, u104, u105, u106, u107, u108, u109, u110, u111, u112, u113, u114, u115, u116, u117, u118, u119, u120, u121, u122, u123, u124, u125, u126, u127, u128, u129, u130, u131, u132, u133, u134, u135, u136, u137, u138, u139, u140, u141, u142, u143, u144, u145, u146, u147, u148, u149, u150, u151], defers := [] } : Act)) ?rest ?first
    case' rest => (intro ac wy hcut; obtain ⟨u1, hcut⟩ := hcut; obtain ⟨u2, hcut⟩ := hcut; obtain ⟨u3, hcut⟩ := hcut; obtain ⟨u4, hcut⟩ := hcut; obtain ⟨u5, hcut⟩ := hcut; obtain ⟨u6, hcut⟩ := hcut; obtain ⟨u7, hcut⟩ := hcut; obtain ⟨u8, hcut⟩ := hcut; obtain ⟨u10, hcut⟩ := hcut; obtain ⟨u11, hcut⟩ := hcut; obtain ⟨u12, hcut⟩ := hcut; obtain ⟨u13, hcut⟩ := hcut; obtain ⟨u14, hcut⟩ := hcut; obtain ⟨u15, hcut⟩ := hcut; obtain ⟨u16, hcut⟩ := hcut; obtain ⟨u17, hcut⟩ := hcut; obtain ⟨u18, hcut⟩ := hcut; obtain ⟨u19, hcut⟩ := hcut; obtain ⟨u20, hcut⟩ := hcut; obtain ⟨u21, hcut⟩ := hcut; obtain ⟨u22, hcut⟩ := hcut; obtain ⟨u23, hcut⟩ := hcut; obtain ⟨u24, hcut⟩ := hcut; obtain ⟨u25, hcut⟩ := hcut; obtain ⟨u26, hcut⟩ := hcut; obtain ⟨u27, hcut⟩ := hcut; obtain ⟨u28, hcut⟩ := hcut; obtain ⟨u29, hcut⟩ := hcut; obtain ⟨u30, hcut⟩ := hcut; obtain ⟨u31, hcut⟩ := hcut; obtain ⟨u32, hcut⟩ := hcut; obtain ⟨u33, hcut⟩ := hcut; obtain ⟨u34, hcut⟩ := hcut; obtain ⟨u35, hcut⟩ := hcut; obtain ⟨u36, hcut⟩ := hcut; obtain ⟨u37, hcut⟩ := hcut; obtain ⟨u38, hcut⟩ := hcut; obtain ⟨u39, hcut⟩ := hcut; obtain ⟨u40, hcut⟩ := hcut; obtain ⟨u41, hcut⟩ := hcut; obtain ⟨u42, hcut⟩ := hcut; obtain ⟨u43, hcut⟩ := hcut; obtain ⟨u44, hcut⟩ := hcut; obtain ⟨u45, hcut⟩ := hcut; obtain ⟨u46, hcut⟩ := hcut; obtain ⟨u48, hcut⟩ := hcut; obtain ⟨u49, hcut⟩ := hcut; obtain ⟨u50, hcut⟩ := hcut; obtain ⟨u51, hcut⟩ := hcut; obtain ⟨u52, hcut⟩ := hcut; obtain ⟨u53, hcut⟩ := hcut; obtain ⟨u54, hcut⟩ := hcut; obtain ⟨u55, hcut⟩ := hcut; obtain ⟨u56, hcut⟩ := hcut; obtain ⟨u57, hcut⟩ := hcut; obtain ⟨u58, hcut⟩ := hcut; obtain ⟨u59, hcut⟩ := hcut; obtain ⟨u60, hcut⟩ := hcut; obtain ⟨u61, hcut⟩ := hcut; obtain ⟨u62, hcut⟩ := hcut; obtain ⟨u63, hcut⟩ := hcut; obtain ⟨u64, hcut⟩ := hcut; obtain ⟨u65, hcut⟩ := hcut; obtain ⟨u66, hcut⟩ := hcut; obtain ⟨u67, hcut⟩ := hcut; obtain ⟨u68, hcut⟩ := hcut; obtain ⟨u69, hcut⟩ := hcut; obtain ⟨u70, hcut⟩ := hcut; obtain ⟨u71, hcut⟩ := hcut; obtain ⟨u72, hcut⟩ := hcut; obtain ⟨u73, hcut⟩ := hcut; obtain ⟨u74, hcut⟩ := hcut; obtain ⟨u75, hcut⟩ := hcut; obtain ⟨u76, hcut⟩ := hcut; obtain ⟨u77, hcut⟩ := hcut; obtain ⟨u78, hcut⟩ := hcut; obtain ⟨u79, hcut⟩ := hcut; obtain ⟨u80, hcut⟩ := hcut; obtain ⟨u81, hcut⟩ := hcut; obtain ⟨u82, hcut⟩ := hcut; obtain ⟨u83, hcut⟩ := hcut; obtain ⟨u84, hcut⟩ := hcut; obtain ⟨u85, hcut⟩ := hcut; obtain ⟨u86, hcut⟩ := hcut; obtain ⟨u87, hcut⟩ := hcut; obtain ⟨u88, hcut⟩ := hcut; obtain ⟨u89, hcut⟩ := hcut; obtain ⟨u90, hcut⟩ := hcut; obtain ⟨u91, hcut⟩ := hcut; obtain ⟨u92, hcut⟩ := hcut; obtain ⟨u93, hcut⟩ := hcut; obtain ⟨u94, hcut⟩ := hcut; obtain ⟨u95, hcut⟩ := hcut; obtain ⟨u96, hcut⟩ := hcut; obtain ⟨u97, hcut⟩ := hcut; obtain ⟨u98, hcut⟩ := hcut; obtain ⟨u99, hcut⟩ := hcut; obtain ⟨u100, hcut⟩ := hcut; obtain ⟨u101, hcut⟩ := hcut; obtain ⟨u102, hcut⟩ := hcut; obtain ⟨u103, hcut⟩ := hcut; obtain ⟨u104, hcut⟩ := hcut; obtain ⟨u105, hcut⟩ := hcut; obtain ⟨u106, hcut⟩ := hcut; obtain ⟨u107, hcut⟩ := hcut; obtain ⟨u108, hcut⟩ := hcut; obtain ⟨u109, hcut⟩ := hcut; obtain ⟨u110, hcut⟩ := hcut; obtain ⟨u111, hcut⟩ := hcut; obtain ⟨u112, hcut⟩ := hcut; obtain ⟨u113, hcut⟩ := hcut; obtain ⟨u114, hcut⟩ := hcut; obtain ⟨u115, hcut⟩ := hcut; obtain ⟨u116, hcut⟩ := hcut; obtain ⟨u117, hcut⟩ := hcut; obtain ⟨u118, hcut⟩ := hcut; obtain ⟨u119, hcut⟩ := hcut; obtain ⟨u120, hcut⟩ := hcut; obtain ⟨u121, hcut⟩ := hcut; obtain ⟨u122, hcut⟩ := hcut; obtain ⟨u123, hcut⟩ := hcut; obtain ⟨u124, hcut⟩ := hcut; obtain ⟨u125, hcut⟩ := hcut; obtain ⟨u126, hcut⟩ := hcut; obtain ⟨u127, hcut⟩ := hcut; obtain ⟨u128, hcut⟩ := hcut; obtain ⟨u129, hcut⟩ := hcut; obtain ⟨u130, hcut⟩ := hcut; obtain ⟨u131, hcut⟩ := hcut; obtain ⟨u132, hcut⟩ := hcut; obtain ⟨u133, hcut⟩ := hcut; obtain ⟨u134, hcut⟩ := hcut; obtain ⟨u135, hcut⟩ := hcut; obtain ⟨u136, hcut⟩ := hcut; obtain ⟨u137, hcut⟩ := hcut; obtain ⟨u138, hcut⟩ := hcut; obtain ⟨u139, hcut⟩ := hcut; obtain ⟨u140, hcut⟩ := hcut; obtain ⟨u141, hcut⟩ := hcut; obtain ⟨u142, hcut⟩ := hcut; obtain ⟨u143, hcut⟩ := hcut; obtain ⟨u144, hcut⟩ := hcut; obtain ⟨u145, hcut⟩ := hcut; obtain ⟨u146, hcut⟩ := hcut; obtain ⟨u147, hcut⟩ := hcut; obtain ⟨u148, hcut⟩ := hcut; obtain ⟨u149, hcut⟩ := hcut; obtain ⟨u150, hcut⟩ := hcut; obtain ⟨u151, hcut⟩ := hcut; obtain ⟨hcut, hac⟩ := hcut; subst hac)
    case' first => intro _ _ _ _
    case first =>
      refine start_ (n := 11) (S := fun w' => w'.cell? ⟨p', 0, none⟩ = some (.pointer pul) ∧ w'.cell? ⟨p', 1, none⟩ = some (.pointer pur)) (ds := []) #[false, false, false, false, false, false, false, false, false, false, false] (by kernel_rfl) rfl rfl ⟨e0, e1⟩ (fun hHeld => ?_)
      (refine take_ (i := 0) (N := some 37) (v := ?v_49) (a' := ?a_49) #[true, false, false, false, false, false, false, false, false, false, false] rfl rfl (by kernel_rfl) (fun _ _ _ h => h) (Or.inl ⟨by rfl, ?hy_49⟩) hHeld ?ha_49 ?hh_49; (case hy_49 => (rintro w' ⟨s0_, s1_⟩; go_simp; with_reducible rfl)); (case ha_49 => (simp (disch := omega) only [Act.put, List.setIfInBounds_toArray, List.set_cons_zero, List.set_cons_succ, wrap_in]; rfl)))
      (refine take_ (i := 1) (N := some 38) (v := ?v_50) (a' := ?a_50) #[true, true, false, false, false, false, false, false, false, false, false] rfl rfl (by kernel_rfl) (fun _ _ _ h => h) (Or.inl ⟨by rfl, ?hy_50⟩) hHeld ?ha_50 ?hh_50; (case hy_50 => (rintro w' ⟨s0_, s1_⟩; go_simp; with_reducible rfl)); (case ha_50 => (simp (disch := omega) only [Act.put, List.setIfInBounds_toArray, List.set_cons_zero, List.set_cons_succ, wrap_in]; rfl)))
      (refine take_ (i := 2) (N := some 39) (v := ?v_51) (a' := ?a_51) #[true, true, true, false, false, false, false, false, false, false, false] rfl rfl (by kernel_rfl) (fun _ _ _ h => h) (Or.inl ⟨by rfl, ?hy_51⟩) hHeld ?ha_51 ?hh_51; (case hy_51 => (rintro w' ⟨s0_, s1_⟩; go_simp; with_reducible rfl)); (case ha_51 => (simp (disch := omega) only [Act.put, List.setIfInBounds_toArray, List.set_cons_zero, List.set_cons_succ, wrap_in]; rfl)))
      (refine take_ (i := 3) (N := some 40) (v := ?v_52) (a' := ?a_52) #[true, true, true, true, false, false, false, false, false, false, false] rfl rfl (by kernel_rfl) (fun _ _ _ h => h) (Or.inl ⟨by rfl, ?hy_52⟩) hHeld ?ha_52 ?hh_52; (case hy_52 => (rintro w' ⟨s0_, s1_⟩; go_simp; with_reducible rfl)); (case ha_52 => (simp (disch := omega) only [Act.put, List.setIfInBounds_toArray, List.set_cons_zero, List.set_cons_succ, wrap_in]; rfl)))
      (refine take_ (i := 5) (N := some 42) (v := ?v_53) (a' := ?a_53) #[true, true, true, true, false, true, false, false, false, false, false] rfl rfl (by kernel_rfl) (fun _ _ _ h => h) (Or.inl ⟨by rfl, ?hy_53⟩) hHeld ?ha_53 ?hh_53; (case hy_53 => (rintro w' ⟨s0_, s1_⟩; go_simp; with_reducible rfl)); (case ha_53 => (simp (disch := omega) only [Act.put, List.setIfInBounds_toArray, List.set_cons_zero, List.set_cons_succ, wrap_in]; rfl)))
      (refine take_ (i := 6) (N := some 43) (v := ?v_54) (a' := ?a_54) #[true, true, true, true, false, true, true, false, false, false, false] rfl rfl (by kernel_rfl) (fun _ _ _ h => h) (Or.inl ⟨by rfl, ?hy_54⟩) hHeld ?ha_54 ?hh_54; (case hy_54 => (rintro w' ⟨s0_, s1_⟩; go_simp; with_reducible rfl)); (case ha_54 => (simp (disch := omega) only [Act.put, List.setIfInBounds_toArray, List.set_cons_zero, List.set_cons_succ, wrap_in]; rfl)))
      (refine take_ (i := 7) (N := some 44) (v := ?v_55) (a' := ?a_55) #[true, true, true, true, false, true, true, true, false, false, false] rfl rfl (by kernel_rfl) (fun _ _ _ h => h) (Or.inl ⟨by rfl, ?hy_55⟩) hHeld ?ha_55 ?hh_55; (case hy_55 => (rintro w' ⟨s0_, s1_⟩; go_simp; with_reducible rfl)); (case ha_55 => (simp (disch := omega) only [Act.put, List.setIfInBounds_toArray, List.set_cons_zero, List.set_cons_succ, wrap_in]; rfl)))
      (refine take_ (i := 8) (N := some 45) (v := ?v_56) (a' := ?a_56) #[true, true, true, true, false, true, true, true, true, false, false] rfl rfl (by kernel_rfl) (fun _ _ _ h => h) (Or.inl ⟨by rfl, ?hy_56⟩) hHeld ?ha_56 ?hh_56; (case hy_56 => (rintro w' ⟨s0_, s1_⟩; go_simp; with_reducible rfl)); (case ha_56 => (simp (disch := omega) only [Act.put, List.setIfInBounds_toArray, List.set_cons_zero, List.set_cons_succ, wrap_in]; rfl)))
      refine one_ (i := 4) (N := some 41) #[true, true, true, true, true, true, true, true, true, false, false] rfl rfl (by kernel_rfl) (by decide) (fun K hK => ?_)
      (refine goes_ Try.func27 (by kernel_rfl) rfl ?args_39 (by rfl) rfl rfl ?hargs_39 ?hc_39; (case hargs_39 => (go_simp; with_reducible rfl)))
      (refine D4.out.mono ?_; rintro e w_ ⟨rfl, rfl⟩; refine ⟨_, rfl, ?_⟩)
      (refine hK.out _ _ ?hs_41 ?hn_41; (case hs_41 => (exact hHeld)); intro hHeld; clear hK K)
      (refine norm_ (a' := ?a_42) ?ha_42 ?hh_42; (case ha_42 => (simp (disch := omega) only [Act.put, List.setIfInBounds_toArray, List.set_cons_zero, List.set_cons_succ, wrap_in]; rfl)))
      refine one_ (i := 9) (N := some 46) #[true, true, true, true, true, true, true, true, true, true, false] rfl rfl (by kernel_rfl) (by decide) (fun K hK => ?_)
      (refine goes_ Try.func27 (by kernel_rfl) rfl ?args_43 (by rfl) rfl rfl ?hargs_43 ?hc_43; (case hargs_43 => (go_simp; with_reducible rfl)))
      (refine D5.out.mono ?_; rintro e w_ ⟨rfl, rfl⟩; refine ⟨_, rfl, ?_⟩)
      (refine hK.out _ _ ?hs_45 ?hn_45; (case hs_45 => (exact hHeld)); intro hHeld; clear hK K)
      (refine norm_ (a' := ?a_46) ?ha_46 ?hh_46; (case ha_46 => (simp (disch := omega) only [Act.put, List.setIfInBounds_toArray, List.set_cons_zero, List.set_cons_succ, wrap_in]; rfl)))
      (refine take_ (i := 10) (N := some 47) (v := ?v_47) (a' := ?a_47) #[true, true, true, true, true, true, true, true, true, true, true] rfl rfl (by kernel_rfl) (fun _ _ _ h => h) (Or.inl ⟨by rfl, ?hy_47⟩) hHeld ?ha_47 ?hh_47; (case hy_47 => (rintro w' ⟨s0_, s1_⟩; go_simp; with_reducible rfl)); (case ha_47 => (simp (disch := omega) only [Act.put, List.setIfInBounds_toArray, List.set_cons_zero, List.set_cons_succ, wrap_in]; rfl)))
      refine done_ (by kernel_rfl) ?_
      all_goals go_wp2_with (fail)
      all_goals go_meet
      all_goals rfl
    case rest =>
    subst hcut
    have hfx : T.fixL ll lk lv (T.join lr k v r) = T.turnL (.node ll lk lv (if ur.depth < ul.depth then T.turnR (.node ul uk uv ur) else .node ul uk uv ur)) := by
      unfold T.fixL
      rw [HU.out, ← HDU.out, ← HDLL.out, if_pos (by have := of_decide_eq_true ht2; omega)]
      rfl
    cases t3
    · have hn3 : ¬ ur.depth < ul.depth := by have := of_decide_eq_false ht3; have := HDUL.out; have := HDUR.out; omega
      rw [if_neg hn3] at hfx
      have HTT := Lib.hid (HT.out.trans hfx)
      have N1 := Lib.hid (node_any HLX.out.drew.drew (TU0.out.below HW.out).drew.drew (by simp only [T.size]; omega) lk lv)
      clear hfx HU HDU HDLL
      have q0 : wx.drew.cell? ⟨q, 0, none⟩ = some (.pointer pll) := f0
      have q2 : wx.drew.cell? ⟨q, 2, none⟩ = some ((.int .i64 lk)) := f2
      have q3 : wx.drew.cell? ⟨q, 3, none⟩ = some ((.int .i64 lv)) := f3
      go_wp2_with (fail)
      refine start_ (n := 16) (S := fun w' => w'.cell? ⟨q, 0, none⟩ = some (.pointer pll) ∧ w'.cell? ⟨q, 2, none⟩ = some ((.int .i64 lk)) ∧ w'.cell? ⟨q, 3, none⟩ = some ((.int .i64 lv))) (ds := []) #[false, false, false, false, false, false, false, false, false, false, false, false, false, false, false, false] (by kernel_rfl) rfl rfl ⟨q0, q2, q3⟩ (fun hHeld => ?_)
      (refine take_ (i := 0) (N := some 50) (v := ?v_58) (a' := ?a_58) #[true, false, false, false, false, false, false, false, false, false, false, false, false, false, false, false] rfl rfl (by kernel_rfl) (fun _ _ _ h => h) (Or.inl ⟨by rfl, ?hy_58⟩) hHeld ?ha_58 ?hh_58; (case hy_58 => (rintro w' ⟨s0_, s1_, s2_⟩; go_simp; with_reducible rfl)); (case ha_58 => (simp (disch := omega) only [Act.put, List.setIfInBounds_toArray, List.set_cons_zero, List.set_cons_succ, wrap_in]; rfl)))
      (refine take_ (i := 1) (N := some 51) (v := ?v_59) (a' := ?a_59) #[true, true, false, false, false, false, false, false, false, false, false, false, false, false, false, false] rfl rfl (by kernel_rfl) (fun _ _ _ h => h) (Or.inl ⟨by rfl, ?hy_59⟩) hHeld ?ha_59 ?hh_59; (case hy_59 => (rintro w' ⟨s0_, s1_, s2_⟩; go_simp; with_reducible rfl)); (case ha_59 => (simp (disch := omega) only [Act.put, List.setIfInBounds_toArray, List.set_cons_zero, List.set_cons_succ, wrap_in]; rfl)))
      (refine take_ (i := 2) (N := some 52) (v := ?v_60) (a' := ?a_60) #[true, true, true, false, false, false, false, false, false, false, false, false, false, false, false, false] rfl rfl (by kernel_rfl) (fun _ _ _ h => h) (Or.inl ⟨by rfl, ?hy_60⟩) hHeld ?ha_60 ?hh_60; (case hy_60 => (rintro w' ⟨s0_, s1_, s2_⟩; go_simp; with_reducible rfl)); (case ha_60 => (simp (disch := omega) only [Act.put, List.setIfInBounds_toArray, List.set_cons_zero, List.set_cons_succ, wrap_in]; rfl)))
      (refine take_ (i := 3) (N := some 53) (v := ?v_61) (a' := ?a_61) #[true, true, true, true, false, false, false, false, false, false, false, false, false, false, false, false] rfl rfl (by kernel_rfl) (fun _ _ _ h => h) (Or.inl ⟨by rfl, ?hy_61⟩) hHeld ?ha_61 ?hh_61; (case hy_61 => (rintro w' ⟨s0_, s1_, s2_⟩; go_simp; with_reducible rfl)); (case ha_61 => (simp (disch := omega) only [Act.put, List.setIfInBounds_toArray, List.set_cons_zero, List.set_cons_succ, wrap_in]; rfl)))
      (refine take_ (i := 4) (N := some 54) (v := ?v_62) (a' := ?a_62) #[true, true, true, true, true, false, false, false, false, false, false, false, false, false, false, false] rfl rfl (by kernel_rfl) (fun _ _ _ h => h) (Or.inl ⟨by rfl, ?hy_62⟩) hHeld ?ha_62 ?hh_62; (case hy_62 => (rintro w' ⟨s0_, s1_, s2_⟩; go_simp; with_reducible rfl)); (case ha_62 => (simp (disch := omega) only [Act.put, List.setIfInBounds_toArray, List.set_cons_zero, List.set_cons_succ, wrap_in]; rfl)))
      (refine take_ (i := 5) (N := some 55) (v := ?v_63) (a' := ?a_63) #[true, true, true, true, true, true, false, false, false, false, false, false, false, false, false, false] rfl rfl (by kernel_rfl) (fun _ _ _ h => h) (Or.inl ⟨by rfl, ?hy_63⟩) hHeld ?ha_63 ?hh_63; (case hy_63 => (rintro w' ⟨s0_, s1_, s2_⟩; go_simp; with_reducible rfl)); (case ha_63 => (simp (disch := omega) only [Act.put, List.setIfInBounds_toArray, List.set_cons_zero, List.set_cons_succ, wrap_in]; rfl)))
      (refine take_ (i := 6) (N := some 56) (v := ?v_64) (a' := ?a_64) #[true, true, true, true, true, true, true, false, false, false, false, false, false, false, false, false] rfl rfl (by kernel_rfl) (fun _ _ _ h => h) (Or.inl ⟨by rfl, ?hy_64⟩) hHeld ?ha_64 ?hh_64; (case hy_64 => (rintro w' ⟨s0_, s1_, s2_⟩; go_simp; with_reducible rfl)); (case ha_64 => (simp (disch := omega) only [Act.put, List.setIfInBounds_toArray, List.set_cons_zero, List.set_cons_succ, wrap_in]; rfl)))
      (refine take_ (i := 7) (N := some 57) (v := ?v_65) (a' := ?a_65) #[true, true, true, true, true, true, true, true, false, false, false, false, false, false, false, false] rfl rfl (by kernel_rfl) (fun _ _ _ h => h) (Or.inl ⟨by rfl, ?hy_65⟩) hHeld ?ha_65 ?hh_65; (case hy_65 => (rintro w' ⟨s0_, s1_, s2_⟩; go_simp; with_reducible rfl)); (case ha_65 => (simp (disch := omega) only [Act.put, List.setIfInBounds_toArray, List.set_cons_zero, List.set_cons_succ, wrap_in]; rfl)))
      (refine take_ (i := 8) (N := some 58) (v := ?v_66) (a' := ?a_66) #[true, true, true, true, true, true, true, true, true, false, false, false, false, false, false, false] rfl rfl (by kernel_rfl) (fun _ _ _ h => h) (Or.inl ⟨by rfl, ?hy_66⟩) hHeld ?ha_66 ?hh_66; (case hy_66 => (rintro w' ⟨s0_, s1_, s2_⟩; go_simp; with_reducible rfl)); (case ha_66 => (simp (disch := omega) only [Act.put, List.setIfInBounds_toArray, List.set_cons_zero, List.set_cons_succ, wrap_in]; rfl)))
      (refine take_ (i := 9) (N := some 59) (v := ?v_67) (a' := ?a_67) #[true, true, true, true, true, true, true, true, true, true, false, false, false, false, false, false] rfl rfl (by kernel_rfl) (fun _ _ _ h => h) (Or.inl ⟨by rfl, ?hy_67⟩) hHeld ?ha_67 ?hh_67; (case hy_67 => (rintro w' ⟨s0_, s1_, s2_⟩; go_simp; with_reducible rfl)); (case ha_67 => (simp (disch := omega) only [Act.put, List.setIfInBounds_toArray, List.set_cons_zero, List.set_cons_succ, wrap_in]; rfl)))
      (refine take_ (i := 10) (N := some 60) (v := ?v_68) (a' := ?a_68) #[true, true, true, true, true, true, true, true, true, true, true, false, false, false, false, false] rfl rfl (by kernel_rfl) (fun _ _ _ h => h) (Or.inl ⟨by rfl, ?hy_68⟩) hHeld ?ha_68 ?hh_68; (case hy_68 => (rintro w' ⟨s0_, s1_, s2_⟩; go_simp; with_reducible rfl)); (case ha_68 => (simp (disch := omega) only [Act.put, List.setIfInBounds_toArray, List.set_cons_zero, List.set_cons_succ, wrap_in]; rfl)))
      (refine take_ (i := 11) (N := some 61) (v := ?v_69) (a' := ?a_69) #[true, true, true, true, true, true, true, true, true, true, true, true, false, false, false, false] rfl rfl (by kernel_rfl) (fun _ _ _ h => h) (Or.inl ⟨by rfl, ?hy_69⟩) hHeld ?ha_69 ?hh_69; (case hy_69 => (rintro w' ⟨s0_, s1_, s2_⟩; go_simp; with_reducible rfl)); (case ha_69 => (simp (disch := omega) only [Act.put, List.setIfInBounds_toArray, List.set_cons_zero, List.set_cons_succ, wrap_in]; rfl)))
      (refine take_ (i := 12) (N := some 62) (v := ?v_70) (a' := ?a_70) #[true, true, true, true, true, true, true, true, true, true, true, true, true, false, false, false] rfl rfl (by kernel_rfl) (fun _ _ _ h => h) (Or.inl ⟨by rfl, ?hy_70⟩) hHeld ?ha_70 ?hh_70; (case hy_70 => (rintro w' ⟨s0_, s1_, s2_⟩; go_simp; with_reducible rfl)); (case ha_70 => (simp (disch := omega) only [Act.put, List.setIfInBounds_toArray, List.set_cons_zero, List.set_cons_succ, wrap_in]; rfl)))
      refine one_ (i := 13) (N := some 63) #[true, true, true, true, true, true, true, true, true, true, true, true, true, true, false, false] rfl rfl (by kernel_rfl) (by decide) (fun K hK => ?_)
      (refine goes_ Try.func70 (by kernel_rfl) rfl ?args_72 (by rfl) rfl rfl ?hargs_72 ?hc_72; (case hargs_72 => (go_simp; with_reducible rfl)))
      (refine N1.out.mono ?_; rintro e w2 ⟨p2, rfl, T2, B2⟩; refine ⟨_, rfl, ?_⟩)
      (refine hK.out _ _ ?hs_74 ?hn_74; (case hs_74 => (obtain ⟨s0_, s1_, s2_⟩ := hHeld; exact ⟨cell_below B2 s0_, cell_below B2 s1_, cell_below B2 s2_⟩)); intro hHeld; clear hK K)
      (refine norm_ (a' := ?a_75) ?ha_75 ?hh_75; (case ha_75 => (simp (disch := omega) only [Act.put, List.setIfInBounds_toArray, List.set_cons_zero, List.set_cons_succ, wrap_in]; rfl)))
      refine one_ (i := 14) (N := some 64) #[true, true, true, true, true, true, true, true, true, true, true, true, true, true, true, false] rfl rfl (by kernel_rfl) (by decide) (fun K hK => ?_)
      (refine goes_ Try.func100 (by kernel_rfl) rfl ?args_77 (by rfl) rfl rfl ?hargs_77 ?hc_77; (case hargs_77 => (go_simp; with_reducible rfl)))
      (refine (turnL_any T2 (by omega)).mono ?_; rintro e w3 ⟨p3, rfl, T3, B3⟩; refine ⟨_, rfl, ?_⟩)
      (refine hK.out _ _ ?hs_79 ?hn_79; (case hs_79 => (obtain ⟨s0_, s1_, s2_⟩ := hHeld; exact ⟨cell_below B3 s0_, cell_below B3 s1_, cell_below B3 s2_⟩)); intro hHeld; clear hK K)
      (refine norm_ (a' := ?a_80) ?ha_80 ?hh_80; (case ha_80 => (simp (disch := omega) only [Act.put, List.setIfInBounds_toArray, List.set_cons_zero, List.set_cons_succ, wrap_in]; rfl)))
      (refine take_ (i := 15) (N := some 8) (v := ?v_81) (a' := ?a_81) #[true, true, true, true, true, true, true, true, true, true, true, true, true, true, true, true] rfl rfl (by kernel_rfl) (fun _ _ _ h => h) (Or.inl ⟨by rfl, ?hy_81⟩) hHeld ?ha_81 ?hh_81; (case hy_81 => (rintro w' ⟨s0_, s1_, s2_⟩; go_simp; with_reducible rfl)); (case ha_81 => (simp (disch := omega) only [Act.put, List.setIfInBounds_toArray, List.set_cons_zero, List.set_cons_succ, wrap_in]; rfl)))
      refine done_ (by kernel_rfl) ?_
      go_wp2_with (fail)
      go_ret
      exact ⟨_, rfl, by rw [HTT.out]; exact T3, HB1.out.trans ((HW.out.drew.drew.trans ((B2.trans (B3.mono B2.size)).mono HW.out.size)).mono HB1.out.size)⟩
    · have hn3 : ur.depth < ul.depth := by have := of_decide_eq_true ht3; have := HDUL.out; have := HDUR.out; omega
      rw [if_pos hn3] at hfx
      have HTT := Lib.hid (HT.out.trans hfx)
      cases ul with
      | nil => simp [T.depth] at hn3
      | node ua uk' uv' ub =>
      simp only [T.size] at hus b3
      have N0 := Lib.hid (turnR_any (TU0.out.below HW.out).drew (by omega))
      clear hfx HU HDU HDLL
      go_wp2_with (fail)
      refine N0.out.mono ?_
      rintro e w2 ⟨p2, rfl, T2, B2⟩
      have q0 : w2.cell? ⟨q, 0, none⟩ = some (.pointer pll) := cell_below B2 f0
      have q2 : w2.cell? ⟨q, 2, none⟩ = some ((.int .i64 lk)) := cell_below B2 f2
      have q3 : w2.cell? ⟨q, 3, none⟩ = some ((.int .i64 lv)) := cell_below B2 f3
      have N1 := Lib.hid (node_any (HLX.out.drew.below B2).drew T2.drew (by simp only [T.size]; omega) lk lv)
      have HB2 := Lib.hid B2
      clear T2 B2 N0
      go_wp2_with (fail)
      refine start_ (n := 16) (S := fun w' => w'.cell? ⟨q, 0, none⟩ = some (.pointer pll) ∧ w'.cell? ⟨q, 2, none⟩ = some ((.int .i64 lk)) ∧ w'.cell? ⟨q, 3, none⟩ = some ((.int .i64 lv))) (ds := []) #[false, false, false, false, false, false, false, false, false, false, false, false, false, false, false, false] (by kernel_rfl) rfl rfl ⟨q0, q2, q3⟩ (fun hHeld => ?_)
      (refine take_ (i := 0) (N := some 50) (v := ?v_84) (a' := ?a_84) #[true, false, false, false, false, false, false, false, false, false, false, false, false, false, false, false] rfl rfl (by kernel_rfl) (fun _ _ _ h => h) (Or.inl ⟨by rfl, ?hy_84⟩) hHeld ?ha_84 ?hh_84; (case hy_84 => (rintro w' ⟨s0_, s1_, s2_⟩; go_simp; with_reducible rfl)); (case ha_84 => (simp (disch := omega) only [Act.put, List.setIfInBounds_toArray, List.set_cons_zero, List.set_cons_succ, wrap_in]; rfl)))
      (refine take_ (i := 1) (N := some 51) (v := ?v_85) (a' := ?a_85) #[true, true, false, false, false, false, false, false, false, false, false, false, false, false, false, false] rfl rfl (by kernel_rfl) (fun _ _ _ h => h) (Or.inl ⟨by rfl, ?hy_85⟩) hHeld ?ha_85 ?hh_85; (case hy_85 => (rintro w' ⟨s0_, s1_, s2_⟩; go_simp; with_reducible rfl)); (case ha_85 => (simp (disch := omega) only [Act.put, List.setIfInBounds_toArray, List.set_cons_zero, List.set_cons_succ, wrap_in]; rfl)))
      (refine take_ (i := 2) (N := some 52) (v := ?v_86) (a' := ?a_86) #[true, true, true, false, false, false, false, false, false, false, false, false, false, false, false, false] rfl rfl (by kernel_rfl) (fun _ _ _ h => h) (Or.inl ⟨by rfl, ?hy_86⟩) hHeld ?ha_86 ?hh_86; (case hy_86 => (rintro w' ⟨s0_, s1_, s2_⟩; go_simp; with_reducible rfl)); (case ha_86 => (simp (disch := omega) only [Act.put, List.setIfInBounds_toArray, List.set_cons_zero, List.set_cons_succ, wrap_in]; rfl)))
      (refine take_ (i := 3) (N := some 53) (v := ?v_87) (a' := ?a_87) #[true, true, true, true, false, false, false, false, false, false, false, false, false, false, false, false] rfl rfl (by kernel_rfl) (fun _ _ _ h => h) (Or.inl ⟨by rfl, ?hy_87⟩) hHeld ?ha_87 ?hh_87; (case hy_87 => (rintro w' ⟨s0_, s1_, s2_⟩; go_simp; with_reducible rfl)); (case ha_87 => (simp (disch := omega) only [Act.put, List.setIfInBounds_toArray, List.set_cons_zero, List.set_cons_succ, wrap_in]; rfl)))
      (refine take_ (i := 4) (N := some 54) (v := ?v_88) (a' := ?a_88) #[true, true, true, true, true, false, false, false, false, false, false, false, false, false, false, false] rfl rfl (by kernel_rfl) (fun _ _ _ h => h) (Or.inl ⟨by rfl, ?hy_88⟩) hHeld ?ha_88 ?hh_88; (case hy_88 => (rintro w' ⟨s0_, s1_, s2_⟩; go_simp; with_reducible rfl)); (case ha_88 => (simp (disch := omega) only [Act.put, List.setIfInBounds_toArray, List.set_cons_zero, List.set_cons_succ, wrap_in]; rfl)))
      (refine take_ (i := 5) (N := some 55) (v := ?v_89) (a' := ?a_89) #[true, true, true, true, true, true, false, false, false, false, false, false, false, false, false, false] rfl rfl (by kernel_rfl) (fun _ _ _ h => h) (Or.inl ⟨by rfl, ?hy_89⟩) hHeld ?ha_89 ?hh_89; (case hy_89 => (rintro w' ⟨s0_, s1_, s2_⟩; go_simp; with_reducible rfl)); (case ha_89 => (simp (disch := omega) only [Act.put, List.setIfInBounds_toArray, List.set_cons_zero, List.set_cons_succ, wrap_in]; rfl)))
      (refine take_ (i := 6) (N := some 56) (v := ?v_90) (a' := ?a_90) #[true, true, true, true, true, true, true, false, false, false, false, false, false, false, false, false] rfl rfl (by kernel_rfl) (fun _ _ _ h => h) (Or.inl ⟨by rfl, ?hy_90⟩) hHeld ?ha_90 ?hh_90; (case hy_90 => (rintro w' ⟨s0_, s1_, s2_⟩; go_simp; with_reducible rfl)); (case ha_90 => (simp (disch := omega) only [Act.put, List.setIfInBounds_toArray, List.set_cons_zero, List.set_cons_succ, wrap_in]; rfl)))
      (refine take_ (i := 7) (N := some 57) (v := ?v_91) (a' := ?a_91) #[true, true, true, true, true, true, true, true, false, false, false, false, false, false, false, false] rfl rfl (by kernel_rfl) (fun _ _ _ h => h) (Or.inl ⟨by rfl, ?hy_91⟩) hHeld ?ha_91 ?hh_91; (case hy_91 => (rintro w' ⟨s0_, s1_, s2_⟩; go_simp; with_reducible rfl)); (case ha_91 => (simp (disch := omega) only [Act.put, List.setIfInBounds_toArray, List.set_cons_zero, List.set_cons_succ, wrap_in]; rfl)))
      (refine take_ (i := 8) (N := some 58) (v := ?v_92) (a' := ?a_92) #[true, true, true, true, true, true, true, true, true, false, false, false, false, false, false, false] rfl rfl (by kernel_rfl) (fun _ _ _ h => h) (Or.inl ⟨by rfl, ?hy_92⟩) hHeld ?ha_92 ?hh_92; (case hy_92 => (rintro w' ⟨s0_, s1_, s2_⟩; go_simp; with_reducible rfl)); (case ha_92 => (simp (disch := omega) only [Act.put, List.setIfInBounds_toArray, List.set_cons_zero, List.set_cons_succ, wrap_in]; rfl)))
      (refine take_ (i := 9) (N := some 59) (v := ?v_93) (a' := ?a_93) #[true, true, true, true, true, true, true, true, true, true, false, false, false, false, false, false] rfl rfl (by kernel_rfl) (fun _ _ _ h => h) (Or.inl ⟨by rfl, ?hy_93⟩) hHeld ?ha_93 ?hh_93; (case hy_93 => (rintro w' ⟨s0_, s1_, s2_⟩; go_simp; with_reducible rfl)); (case ha_93 => (simp (disch := omega) only [Act.put, List.setIfInBounds_toArray, List.set_cons_zero, List.set_cons_succ, wrap_in]; rfl)))
      (refine take_ (i := 10) (N := some 60) (v := ?v_94) (a' := ?a_94) #[true, true, true, true, true, true, true, true, true, true, true, false, false, false, false, false] rfl rfl (by kernel_rfl) (fun _ _ _ h => h) (Or.inl ⟨by rfl, ?hy_94⟩) hHeld ?ha_94 ?hh_94; (case hy_94 => (rintro w' ⟨s0_, s1_, s2_⟩; go_simp; with_reducible rfl)); (case ha_94 => (simp (disch := omega) only [Act.put, List.setIfInBounds_toArray, List.set_cons_zero, List.set_cons_succ, wrap_in]; rfl)))
      (refine take_ (i := 11) (N := some 61) (v := ?v_95) (a' := ?a_95) #[true, true, true, true, true, true, true, true, true, true, true, true, false, false, false, false] rfl rfl (by kernel_rfl) (fun _ _ _ h => h) (Or.inl ⟨by rfl, ?hy_95⟩) hHeld ?ha_95 ?hh_95; (case hy_95 => (rintro w' ⟨s0_, s1_, s2_⟩; go_simp; with_reducible rfl)); (case ha_95 => (simp (disch := omega) only [Act.put, List.setIfInBounds_toArray, List.set_cons_zero, List.set_cons_succ, wrap_in]; rfl)))
      (refine take_ (i := 12) (N := some 62) (v := ?v_96) (a' := ?a_96) #[true, true, true, true, true, true, true, true, true, true, true, true, true, false, false, false] rfl rfl (by kernel_rfl) (fun _ _ _ h => h) (Or.inl ⟨by rfl, ?hy_96⟩) hHeld ?ha_96 ?hh_96; (case hy_96 => (rintro w' ⟨s0_, s1_, s2_⟩; go_simp; with_reducible rfl)); (case ha_96 => (simp (disch := omega) only [Act.put, List.setIfInBounds_toArray, List.set_cons_zero, List.set_cons_succ, wrap_in]; rfl)))
      refine one_ (i := 13) (N := some 63) #[true, true, true, true, true, true, true, true, true, true, true, true, true, true, false, false] rfl rfl (by kernel_rfl) (by decide) (fun K hK => ?_)
      (refine goes_ Try.func70 (by kernel_rfl) rfl ?args_98 (by rfl) rfl rfl ?hargs_98 ?hc_98; (case hargs_98 => (go_simp; with_reducible rfl)))
      (refine N1.out.mono ?_; rintro e w3 ⟨p3, rfl, T3, B3⟩; refine ⟨_, rfl, ?_⟩)
      (refine hK.out _ _ ?hs_100 ?hn_100; (case hs_100 => (obtain ⟨s0_, s1_, s2_⟩ := hHeld; exact ⟨cell_below B3 s0_, cell_below B3 s1_, cell_below B3 s2_⟩)); intro hHeld; clear hK K)
      (refine norm_ (a' := ?a_101) ?ha_101 ?hh_101; (case ha_101 => (simp (disch := omega) only [Act.put, List.setIfInBounds_toArray, List.set_cons_zero, List.set_cons_succ, wrap_in]; rfl)))
      refine one_ (i := 14) (N := some 64) #[true, true, true, true, true, true, true, true, true, true, true, true, true, true, true, false] rfl rfl (by kernel_rfl) (by decide) (fun K hK => ?_)
      (refine goes_ Try.func100 (by kernel_rfl) rfl ?args_103 (by rfl) rfl rfl ?hargs_103 ?hc_103; (case hargs_103 => (go_simp; with_reducible rfl)))
      (refine (turnL_any T3 (by simp only [T.size]; omega)).mono ?_; rintro e w4 ⟨p4, rfl, T4, B4⟩; refine ⟨_, rfl, ?_⟩)
      (refine hK.out _ _ ?hs_105 ?hn_105; (case hs_105 => (obtain ⟨s0_, s1_, s2_⟩ := hHeld; exact ⟨cell_below B4 s0_, cell_below B4 s1_, cell_below B4 s2_⟩)); intro hHeld; clear hK K)
      (refine norm_ (a' := ?a_106) ?ha_106 ?hh_106; (case ha_106 => (simp (disch := omega) only [Act.put, List.setIfInBounds_toArray, List.set_cons_zero, List.set_cons_succ, wrap_in]; rfl)))
      (refine take_ (i := 15) (N := some 8) (v := ?v_107) (a' := ?a_107) #[true, true, true, true, true, true, true, true, true, true, true, true, true, true, true, true] rfl rfl (by kernel_rfl) (fun _ _ _ h => h) (Or.inl ⟨by rfl, ?hy_107⟩) hHeld ?ha_107 ?hh_107; (case hy_107 => (rintro w' ⟨s0_, s1_, s2_⟩; go_simp; with_reducible rfl)); (case ha_107 => (simp (disch := omega) only [Act.put, List.setIfInBounds_toArray, List.set_cons_zero, List.set_cons_succ, wrap_in]; rfl)))
      refine done_ (by kernel_rfl) ?_
      go_wp2_with (fail)
      go_ret
      exact ⟨_, rfl, by rw [HTT.out]; exact T4, HB1.out.trans ((HW.out.drew.trans ((HB2.out.drew.trans ((B3.trans (B4.mono B3.size)).mono HB2.out.size)).mono HW.out.size)).mono HB1.out.size)⟩
end Ti
end Go.Proofs.Ytmichnnkkpgpmaa
