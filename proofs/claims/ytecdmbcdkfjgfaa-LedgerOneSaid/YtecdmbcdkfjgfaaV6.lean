/- The contract of began. -/
import Derived.Test.YtecdmbcdkfjgfaaV5
import Derived.Test.YtecdmbcdkfjgfaaG6
namespace Go.Proofs.Ytecdmbcdkfjgfaa
set_option linter.unusedVariables false
set_option linter.unusedSimpArgs false
open Go.RowKit Go.Deep Go.Proofs.YtecdmbcdkfjgfaaW.PrintLast

/-- A row of ledgers as it grows: nothing yet, or a block of one's own. -/
def RowIs (w : World) (N b : Nat) (v : Value) (xs : List Lg) : Prop :=
  (v = .slice none 0 0 ∧ xs = []) ∨ ∃ g c, v = .slice (some ⟨g, 0, none⟩) xs.length c ∧ g ≠ b ∧ N ≤ g ∧ Own Lg.cells 24 3 w g c xs
theorem RowIs.below {w w' : World} {N b : Nat} {v : Value} {xs : List Lg} (h : RowIs w N b v xs) (hb : Below w.heap.size w w') : RowIs w' N b v xs := by
  rcases h with h | ⟨g, c, h1, h2, h3, h4⟩
  · exact Or.inl h
  · exact Or.inr ⟨g, c, h1, h2, h3, h4.below hb⟩
theorem RowIs.append {w0 w : World} {N b : Nat} {v : Value} {xs : List Lg} (h : RowIs w N b v xs) (hB : Below N w0 w) (hN : N ≤ w.heap.size) (hbl : b < w.heap.size) {k c1 : Nat} {l : Lg} (hk : w.heap[k]? = some (.cells #[.int .i64 l.ph, .int .i64 l.ep, .int .i64 l.pe] 24 (0, 0))) (hb : (xs.length + 1) * 24 ≤ 140737488355328) :
    ∃ g' c' w1, (Builtin.append_ #[40, 40] 40 #[v, .slice (some ⟨k, 0, none⟩) 1 c1]).run Try.prog w = .ok (.slice (some ⟨g', 0, none⟩) (xs.length + 1) c') w1 ∧
      g' ≠ b ∧ N ≤ g' ∧ Own Lg.cells 24 3 w1 g' c' (xs ++ [l]) ∧ Below N w0 w1 ∧ w1.heap[b]? = w.heap[b]? := by
  have info := infoLg
  cases hi : Try.prog.info? 24 with
  | none => rw [hi] at info; cases info
  | some i =>
    rw [hi] at info
    simp only [Option.map_some, Option.some.injEq, Prod.mk.injEq] at info
    obtain ⟨i1, i2, i3⟩ := info
    have hcell : ∀ j v, l.cells[j]? = some v → w.cell? ⟨k, 0 + j, none⟩ = some v := by
      intro j v hv
      rw [Nat.zero_add]
      refine cell_blk hk j ?_
      rw [← hv]
      rcases j with _ | _ | _ | j <;> rfl
    rcases h with ⟨rfl, rfl⟩ | ⟨g, c, rfl, hgb, hg, hO⟩
    · obtain ⟨g', cap', w', hr, hown, hgr, hat, hlt⟩ := run_append_lies (P := Try.prog) w 40 40 0 24 i _ 3 24 Try.underlying40 hi i1 i2 i3 rfl (by decide) (.slice none 0 0) 0 [] (World.ownsRow_nil w 0 _ 3)
        ⟨k, 0, none⟩ 1 c1 l.cells (lgl l) (fun j u hu => by rw [Addr.add_mid]; exact hcell j u hu) (lg_one l) (by decide) (by decide) (by decide) (Nat.zero_le _) w.heap.size rfl
      have hgs : g' = w.heap.size := by
        rcases hat with hat | hat
        · simp [Value.ownBlock] at hat
        · exact hat
      refine ⟨g', cap', w', hr, by omega, by omega, Own.ofRow (by decide) lgl (by simpa using hown), hB.grown hgr hN (fun k hk => by simp [Value.ownBlock] at hk), hgr.block _ hbl (by simp [Value.ownBlock])⟩
    · obtain ⟨g', cap', w1, hr, O, hgr, hat⟩ := own_append (P := Try.prog) 40 40 Try.underlying40 hi i1 i2 i3 rfl (by decide) lgl lg_one hO [l] (some ⟨k, 0, none⟩) c1
        (fun _ => ⟨k, 0, rfl, fun k' y hy j v hv => by
          have h0 : k' = 0 := by
            rcases k' with _ | k'
            · rfl
            · simp at hy
          subst h0
          simp at hy; subst hy
          have := hcell j v hv
          simpa using this⟩) (by simp [maxLen]; omega) (by simp; omega)
      refine ⟨g', cap', w1, by simpa using hr, ?_, ?_, O, hB.grown hgr hN (fun k hk => by injection hk with hk; omega), hgr.block _ hbl (by simpa using Ne.symm hgb)⟩
      · rcases hat with h | h <;> omega
      · rcases hat with h | h <;> omega
def Begun (w w' : World) (W : Wd) : Prop := ∃ g c, w.heap.size ≤ g ∧ Below w.heap.size w w' ∧ Rep w' w.heap.size g c w.heap.size (.slice none 0 0) W
set_option maxRecDepth 100000 in
set_option maxHeartbeats 4000000 in
theorem began_any (sr hm : Int) (w : World) :
    Calls Try.prog 21 #[.int .i64 sr, .int .i64 hm] w fun e w' => e = .returned (.pointer (some ⟨w.heap.size, 0, none⟩)) ∧ Begun w w' (beganW (1 + sr % 8).toNat (hm % (1 + sr % 8))) := by
  have r0 := Int.emod_nonneg sr (b := 8) (by decide)
  have r1 := Int.emod_lt_of_pos sr (b := 8) (by decide)
  have P8 := Lib.hid (fun w => place_any sr 8 (by decide) (by decide) w)
  generalize sr % 8 = r at *
  have PH := Lib.hid (fun w => place_any hm (1 + r) (by omega) (by omega) w)
  generalize hm % (1 + r) = home at *
  obtain ⟨n, hn⟩ := Int.eq_ofNat_of_zero_le (show 0 ≤ 1 + r by omega)
  rw [hn] at PH ⊢
  rw [Int.toNat_natCast]
  have hn1 : 1 ≤ n := by omega
  have hn8 : n ≤ 8 := by omega
  have HN := Lib.hid hn
  obtain ⟨N, hN⟩ : ∃ N, N = w.heap.size := ⟨_, rfl⟩
  go_enter Try.func21, Try.ntmps21
  go_wp2_with (go_at_call 22; refine (P8.out _).mono ?_; rintro e w' ⟨rfl, rfl⟩)
  have B0 : Below w.heap.size w (w.alloc (.cells #[.slice none 0 0, .slice none 0 0] 49)) := (Below.refl _ _).alloc (Nat.le_refl _) _
  have BK := blk_new w (.cells #[.slice none 0 0, .slice none 0 0] 49)
  have HB0 := Lib.hid B0
  have HBK := Lib.hid BK
  clear B0 BK
  refine wp_loop_ghost_k (fun (m : Nat) (ac : Act) (wr : World) => ∃ u0 u2 u3 u4 u8 u9 u10 u11 u12 u13 u14 u15 u16 u17 u18 u19 u20 u21 u22 u23 u24 u25 u26 u27 u28 u29 u30 u31 u32 v7 : Value, (∃ i : Nat, m + i = n ∧ v7 = .int .i64 i ∧ (∃ rv, wr.heap[w.heap.size]? = some (.cells #[rv, .slice none 0 0] 49 (0, 0)) ∧ RowIs wr w.heap.size w.heap.size rv ((List.range i).map fun (i : Nat) => beginL i home)) ∧ Below w.heap.size w wr) ∧ ac = ({ tmps := #[u0, .int .i64 hm, u2, u3, u4, .pointer (some ⟨w.heap.size, 0, none⟩), .int .i64 n, v7, u8, u9, u10, u11, u12, u13, u14, u15, u16, u17, u18, u19, u20, u21, u22, u23, u24, u25, u26, u27, u28, u29, u30, u31, u32], defers := [] } : Act)) (n) ?atStart ?round
  case' atStart => ((repeat apply Exists.intro); refine ⟨?_, rfl⟩)
  case' round => (intro m ac wr hcut; obtain ⟨u0, hcut⟩ := hcut; obtain ⟨u2, hcut⟩ := hcut; obtain ⟨u3, hcut⟩ := hcut; obtain ⟨u4, hcut⟩ := hcut; obtain ⟨u8, hcut⟩ := hcut; obtain ⟨u9, hcut⟩ := hcut; obtain ⟨u10, hcut⟩ := hcut; obtain ⟨u11, hcut⟩ := hcut; obtain ⟨u12, hcut⟩ := hcut; obtain ⟨u13, hcut⟩ := hcut; obtain ⟨u14, hcut⟩ := hcut; obtain ⟨u15, hcut⟩ := hcut; obtain ⟨u16, hcut⟩ := hcut; obtain ⟨u17, hcut⟩ := hcut; obtain ⟨u18, hcut⟩ := hcut; obtain ⟨u19, hcut⟩ := hcut; obtain ⟨u20, hcut⟩ := hcut; obtain ⟨u21, hcut⟩ := hcut; obtain ⟨u22, hcut⟩ := hcut; obtain ⟨u23, hcut⟩ := hcut; obtain ⟨u24, hcut⟩ := hcut; obtain ⟨u25, hcut⟩ := hcut; obtain ⟨u26, hcut⟩ := hcut; obtain ⟨u27, hcut⟩ := hcut; obtain ⟨u28, hcut⟩ := hcut; obtain ⟨u29, hcut⟩ := hcut; obtain ⟨u30, hcut⟩ := hcut; obtain ⟨u31, hcut⟩ := hcut; obtain ⟨u32, hcut⟩ := hcut; obtain ⟨v7, hcut⟩ := hcut; obtain ⟨hcut, hac⟩ := hcut; subst hac; intro _ _ _ _)
  case atStart => exact ⟨0, rfl, rfl, ⟨_, HBK.out, Or.inl ⟨rfl, rfl⟩⟩, HB0.out⟩
  case round =>
    obtain ⟨i, hi, rfl, ⟨rv, hblk, hrow⟩, hB⟩ := hcut
    have HI := Lib.hid hi
    have hile : i ≤ n := by omega
    have BK := Lib.hid hblk
    have RI := Lib.hid hrow
    have KB := Lib.hid hB
    have e0 := cell_blk hblk 0 rfl
    have z0 := blk_lt hblk
    clear hi hblk hrow hB HBK HB0
    by_cases hlt : i < n
    · have BG := Lib.hid (fun w => begin_any i home w)
      have hsucc : Hid ((List.range (i + 1)).map (fun (i : Nat) => beginL i home) = (List.range i).map (fun (i : Nat) => beginL i home) ++ [beginL i home]) := by
        unfold Hid; rw [List.range_succ, List.map_append]; rfl
      generalize beginL i home = l at *
      go_wp2_with (fail)
      refine start_ (n := 15) (S := fun w' => w'.cell? ⟨w.heap.size, 0, none⟩ = some rv) (ds := [14]) #[false, false, false, false, false, false, false, false, false, false, false, false, false, false, false] (by kernel_rfl) rfl rfl e0 (fun hHeld => ?_)
      (refine take_ (i := 0) (N := some 18) (v := ?v_20) (a' := ?a_20) #[true, false, false, false, false, false, false, false, false, false, false, false, false, false, false] rfl rfl (by kernel_rfl) (fun _ _ _ h => h) (Or.inl ⟨by rfl, ?hy_20⟩) hHeld ?ha_20 ?hh_20; (case hy_20 => (rintro w' s0_; go_simp; with_reducible rfl)); (case ha_20 => (simp (disch := omega) only [Act.put, List.setIfInBounds_toArray, List.set_cons_zero, List.set_cons_succ, wrap_in]; rfl)))
      (refine take_ (i := 1) (N := some 19) (v := ?v_21) (a' := ?a_21) #[true, true, false, false, false, false, false, false, false, false, false, false, false, false, false] rfl rfl (by kernel_rfl) (fun _ _ _ h => h) (Or.inl ⟨by rfl, ?hy_21⟩) hHeld ?ha_21 ?hh_21; (case hy_21 => (rintro w' s0_; go_simp; with_reducible rfl)); (case ha_21 => (simp (disch := omega) only [Act.put, List.setIfInBounds_toArray, List.set_cons_zero, List.set_cons_succ, wrap_in]; rfl)))
      (refine take_ (i := 2) (N := some 20) (v := ?v_22) (a' := ?a_22) #[true, true, true, false, false, false, false, false, false, false, false, false, false, false, false] rfl rfl (by kernel_rfl) (fun _ _ _ h => h) (Or.inl ⟨by rfl, ?hy_22⟩) hHeld ?ha_22 ?hh_22; (case hy_22 => (rintro w' s0_; go_simp; with_reducible rfl)); (case ha_22 => (simp (disch := omega) only [Act.put, List.setIfInBounds_toArray, List.set_cons_zero, List.set_cons_succ, wrap_in]; rfl)))
      (refine take_ (i := 3) (N := some 21) (v := ?v_23) (a' := ?a_23) #[true, true, true, true, false, false, false, false, false, false, false, false, false, false, false] rfl rfl (by kernel_rfl) (fun _ _ _ h => h) (Or.inl ⟨by rfl, ?hy_23⟩) hHeld ?ha_23 ?hh_23; (case hy_23 => (rintro w' s0_; go_simp; with_reducible rfl)); (case ha_23 => (simp (disch := omega) only [Act.put, List.setIfInBounds_toArray, List.set_cons_zero, List.set_cons_succ, wrap_in]; rfl)))
      (refine take_ (i := 4) (N := some 22) (v := ?v_24) (a' := ?a_24) #[true, true, true, true, true, false, false, false, false, false, false, false, false, false, false] rfl rfl (by kernel_rfl) (fun _ _ _ h => h) (Or.inl ⟨by rfl, ?hy_24⟩) hHeld ?ha_24 ?hh_24; (case hy_24 => (rintro w' s0_; go_simp; with_reducible rfl)); (case ha_24 => (simp (disch := omega) only [Act.put, List.setIfInBounds_toArray, List.set_cons_zero, List.set_cons_succ, wrap_in]; rfl)))
      (refine take_ (i := 5) (N := some 23) (v := ?v_25) (a' := ?a_25) #[true, true, true, true, true, true, false, false, false, false, false, false, false, false, false] rfl rfl (by kernel_rfl) (fun _ _ _ h => h) (Or.inl ⟨by rfl, ?hy_25⟩) hHeld ?ha_25 ?hh_25; (case hy_25 => (rintro w' s0_; go_simp; with_reducible rfl)); (case ha_25 => (simp (disch := omega) only [Act.put, List.setIfInBounds_toArray, List.set_cons_zero, List.set_cons_succ, wrap_in]; rfl)))
      (refine take_ (i := 6) (N := some 24) (v := ?v_26) (a' := ?a_26) #[true, true, true, true, true, true, true, false, false, false, false, false, false, false, false] rfl rfl (by kernel_rfl) (fun _ _ _ h => h) (Or.inl ⟨by rfl, ?hy_26⟩) hHeld ?ha_26 ?hh_26; (case hy_26 => (rintro w' s0_; go_simp; with_reducible rfl)); (case ha_26 => (simp (disch := omega) only [Act.put, List.setIfInBounds_toArray, List.set_cons_zero, List.set_cons_succ, wrap_in]; rfl)))
      (refine take_ (i := 7) (N := some 25) (v := ?v_27) (a' := ?a_27) #[true, true, true, true, true, true, true, true, false, false, false, false, false, false, false] rfl rfl (by kernel_rfl) (fun _ _ _ h => h) (Or.inl ⟨by rfl, ?hy_27⟩) hHeld ?ha_27 ?hh_27; (case hy_27 => (rintro w' s0_; go_simp; with_reducible rfl)); (case ha_27 => (simp (disch := omega) only [Act.put, List.setIfInBounds_toArray, List.set_cons_zero, List.set_cons_succ, wrap_in]; rfl)))
      refine one_ (i := 8) (N := some 26) #[true, true, true, true, true, true, true, true, true, false, false, false, false, false, false] rfl rfl (by kernel_rfl) (by decide) (fun K hK => ?_)
      (refine goes_ Try.func22 (by kernel_rfl) rfl ?args_1 (by rfl) rfl rfl ?hargs_1 ?hc_1; (case hargs_1 => (go_simp; with_reducible rfl)))
      (refine (PH.out _).mono ?_; rintro e w_ ⟨rfl, rfl⟩; refine ⟨_, rfl, ?_⟩)
      (refine hK.out _ _ ?hs_3 ?hn_3; (case hs_3 => (exact hHeld)); intro hHeld; clear hK K)
      (refine norm_ (a' := ?a_4) ?ha_4 ?hh_4; (case ha_4 => (simp (disch := omega) only [Act.put, List.setIfInBounds_toArray, List.set_cons_zero, List.set_cons_succ, wrap_in]; rfl)))
      refine one_ (i := 9) (N := some 27) #[true, true, true, true, true, true, true, true, true, true, false, false, false, false, false] rfl rfl (by kernel_rfl) (by decide) (fun K hK => ?_)
      (refine goes_ Try.func38 (by kernel_rfl) rfl ?args_5 (by rfl) rfl rfl ?hargs_5 ?hc_5; (case hargs_5 => (go_simp; with_reducible rfl)))
      (refine (BG.out _).mono ?_; rintro e w1 ⟨rfl, hb1⟩; have RI1 := RI.out.below ((Below.refl wr.heap.size wr).drew.trans hb1); have KB1 := KB.out.trans (((Below.refl wr.heap.size wr).drew.trans hb1).mono KB.out.size); have BK1 := blk_below (w := wr.drew) BK.out hb1; have hz1 : wr.heap.size ≤ w1.heap.size := hb1.size; refine ⟨_, rfl, ?_⟩)
      (refine hK.out _ _ ?hs_7 ?hn_7; (case hs_7 => (have s0_ := hHeld; exact cell_below hb1 s0_)); intro hHeld; clear hK K)
      (refine norm_ (a' := ?a_8) ?ha_8 ?hh_8; (case ha_8 => (simp (disch := omega) only [Act.put, List.setIfInBounds_toArray, List.set_cons_zero, List.set_cons_succ, wrap_in]; rfl)))
      refine one_ (i := 10) (N := some 28) #[true, true, true, true, true, true, true, true, true, true, true, false, false, false, false] rfl rfl (by kernel_rfl) (by decide) (fun K hK => ?_)
      (refine value_ (v := ?v_9) (w1 := ?w1_9) (by rfl) rfl ?hr_9 ?hk_9; (case hr_9 => (go_simp; first | with_reducible rfl | (constructor <;> with_reducible rfl))))
      (refine hK.out _ _ ?hs_10 ?hn_10; (case hs_10 => (have s0_ := hHeld; exact cell_alloc_old s0_ _)); intro hHeld; clear hK K)
      (refine norm_ (a' := ?a_11) ?ha_11 ?hh_11; (case ha_11 => (simp (disch := omega) only [Act.put, List.setIfInBounds_toArray, List.set_cons_zero, List.set_cons_succ, wrap_in]; rfl)))
      refine one_ (i := 11) (N := some 29) #[true, true, true, true, true, true, true, true, true, true, true, true, false, false, false] rfl rfl (by kernel_rfl) (by decide) (fun K hK => ?_)
      (obtain ⟨g', c', w2, hrun, hgb, hgN, O2, B2, hbk⟩ := RowIs.append (w0 := w) (N := w.heap.size) (c1 := 1) (k := w1.heap.size) (l := l) (RI1.below ((Below.refl w1.heap.size w1).alloc (Nat.le_refl _) (.cells #[.int .i64 l.ph, .int .i64 l.ep, .int .i64 l.pe] 24))) (KB1.alloc KB1.size (.cells #[.int .i64 l.ph, .int .i64 l.ep, .int .i64 l.pe] 24)) (Nat.le_trans KB1.size (by simp)) (by simp; omega) (blk_new w1 _) (by simp; omega); have e2 := cell_of (w' := w2) (cell_blk (blk_alloc BK1 (.cells #[.int .i64 l.ph, .int .i64 l.ep, .int .i64 l.pe] 24)) 0 rfl) hbk; have f2 := (World.frozen?_of_block (a := ⟨w.heap.size, 0, none⟩) hbk).trans (free_blk (blk_alloc BK1 (.cells #[.int .i64 l.ph, .int .i64 l.ep, .int .i64 l.pe] 24)) 0); refine value_ (by rfl) rfl (runapp_ hrun (by rfl) (by rfl) (by rfl) (by rfl)) ?hk_12)
      (refine hK.out _ _ ?hs_13 ?hn_13; (case hs_13 => (exact cell_of hHeld hbk)); intro hHeld; clear hK K)
      (refine norm_ (a' := ?a_14) ?ha_14 ?hh_14; (case ha_14 => (simp (disch := omega) only [Act.put, List.setIfInBounds_toArray, List.set_cons_zero, List.set_cons_succ, wrap_in]; rfl)))
      (refine take_ (i := 12) (N := some 30) (v := ?v_15) (a' := ?a_15) #[true, true, true, true, true, true, true, true, true, true, true, true, true, false, false] rfl rfl (by kernel_rfl) (fun _ _ _ h => h) (Or.inl ⟨by rfl, ?hy_15⟩) hHeld ?ha_15 ?hh_15; (case hy_15 => (rintro w' s0_; go_simp; with_reducible rfl)); (case ha_15 => (simp (disch := omega) only [Act.put, List.setIfInBounds_toArray, List.set_cons_zero, List.set_cons_succ, wrap_in]; rfl)))
      (refine take_ (i := 13) (N := some 31) (v := ?v_16) (a' := ?a_16) #[true, true, true, true, true, true, true, true, true, true, true, true, true, true, false] rfl rfl (by kernel_rfl) (fun _ _ _ h => h) (Or.inl ⟨by rfl, ?hy_16⟩) hHeld ?ha_16 ?hh_16; (case hy_16 => (rintro w' s0_; go_simp; with_reducible rfl)); (case ha_16 => (simp (disch := omega) only [Act.put, List.setIfInBounds_toArray, List.set_cons_zero, List.set_cons_succ, wrap_in]; rfl)))
      refine last_ (i := 14) (N := none) #[true, true, true, true, true, true, true, true, true, true, true, true, true, true, true] rfl rfl (by kernel_rfl) (by decide) (fun K hK => ?_)
      (refine skip_ (w1 := ?w1_17) (by rfl) rfl ?hr_17 ?hk_17; (case hr_17 => (go_simp; first | with_reducible rfl | (constructor <;> with_reducible rfl))))
      (refine hK.out _ _ ?hn_18; clear hK K hHeld)
      refine done_ (by kernel_rfl) ?_
      go_wp2_with (fail)
      go_roundg (m - 1)
      case measure => have := HI.out; omega
      case rel =>
        refine ⟨i + 1, by have := HI.out; omega, by go_num, ⟨_, setCell_heap w2 _ 0 _ _ _ _ (hbk.trans (blk_alloc BK1 (.cells #[.int .i64 l.ph, .int .i64 l.ep, .int .i64 l.pe] 24))), ?_⟩, B2.setCell (Nat.le_refl _) _⟩
        rw [hsucc.out]
        exact Or.inr ⟨g', c', by simp, hgb, hgN, O2.other hgb _⟩
    · have : i = n := by omega
      subst this
      go_wp2_with (fail)
      go_ret
      rcases RI.out with ⟨rfl, h0⟩ | ⟨g, c, rfl, hgb, hgN, hO⟩
      · exfalso
        have := congrArg List.length h0
        simp at this
        omega
      · exact ⟨rfl, g, c, hgN, KB.out, ⟨BK.out, hO, Ne.symm hgb, Or.inl ⟨rfl, rfl, rfl⟩⟩⟩
end Go.Proofs.Ytecdmbcdkfjgfaa
