/- Writers: lay of nil, form, Byte, Num, Int, Raw, Open, Len, Done. -/
import Derived.Test.YtibelfljlhcibaaPW1
import Derived.Test.YtibelfljlhcibaaPA
namespace Go.Proofs.Ytibelfljlhcibaa
set_option linter.unusedVariables false
set_option linter.unusedSimpArgs false
open Go.RowKit Go.Deep Go.Proofs.YtibelfljlhcibaaW.PrintLast

set_option maxHeartbeats 400000 in
theorem lay_nil (w : World) (v : Value) : Calls Try.prog 67 #[.pointer none, v] w fun e w' => e = .returned (.tuple #[]) ∧ w = w' := by
  go_enter Try.func67, Try.ntmps67
  go_wp2_with (go_at_call 64; refine (whole_nil _).mono ?_; rintro e w_ ⟨rfl, rfl⟩)
  go_end0
  exact ⟨rfl, rfl⟩
/-- append of one byte that was just laid down. -/
theorem OwnB.push {w0 w : World} {g c : Nat} {bs : List Int} (h : OwnB w g c bs) (x : Int) (hl : bs.length ≤ 1000000) (B : Below w0.heap.size w0 w) (hg : w0.heap.size ≤ g) :
    ∃ g' c' w', (Builtin.append_ #[23, 23] 23 #[.slice (some ⟨g, 0, none⟩) bs.length c, .slice (some ⟨w.heap.size, 0, none⟩) 1 1]).run Try.prog (w.alloc (.cells #[.int .u8 x] 5)) = .ok (.slice (some ⟨g', 0, none⟩) (bs.length + 1) c') w' ∧
      OwnB w' g' c' (bs ++ [x]) ∧ Below w0.heap.size w0 w' ∧ w0.heap.size ≤ g' := by
  have hx : BsAt (w.alloc (.cells #[.int .u8 x] 5)) w.heap.size 0 [x] := by
    intro j y hy
    rcases j with _ | j
    · simp at hy; subst hy
      exact cell_blk (blk_new w _) 0 rfl
    · simp at hy
  obtain ⟨g', c', w', hr, O, G, hat⟩ := OwnB.append (h.alloc (.cells #[.int .u8 x] 5)) (ys := [x]) (c := 1) hx (by simp; omega)
  refine ⟨g', c', w', hr, O, ((B.alloc B.size _)).grown G (by have := B.size; simp; omega) (by intro k hk; injection hk with hk; omega), ?_⟩
  have := B.size
  rcases hat with h | h
  · omega
  · simp at h; omega
set_option maxRecDepth 100000 in
theorem form_any (n : Nat) (hn : n < 18446744073709551616) (w : World) :
    Calls Try.prog 101 #[.int .u64 n] w fun e w' => ∃ g c, e = .returned (.slice (some ⟨g, 0, none⟩) (formN n).length c) ∧ w.heap.size ≤ g ∧ OwnB w' g c (formN n) ∧ Below w.heap.size w w' := by
  go_enter Try.func101, Try.ntmps101
  go_wp2_with (refine wpB_make0 _ rfl _ _ rfl 10 (by rfl) (by rfl) (by omega) (fun w1 O1 G1 => ?_))
  have B1 : Below w.heap.size w w1 := (Below.refl _ _).grown G1 (Nat.le_refl _) (by intro k hk; cases hk)
  have HO := Lib.hid O1
  have HB := Lib.hid B1
  clear O1 B1 G1
  refine wp_loop_ghost_k (fun (m : Nat) (ac : Act) (wr : World) => ∃ u1 u2 u4 u5 u6 u7 u8 u9 u10 u11 u12 u13 u14 u15 u16 u17 u18 u19 v0 v3 : Value, (∃ (n' : Nat) (acc : List Int) (g c : Nat), m + acc.length = (formN n).length ∧ acc ++ formN n' = formN n ∧ n' ≤ n ∧ v0 = .int .u64 n' ∧ v3 = .slice (some ⟨g, 0, none⟩) acc.length c ∧ w.heap.size ≤ g ∧ OwnB wr g c acc ∧ Below w.heap.size w wr) ∧ ac = ({ tmps := #[v0, u1, u2, v3, u4, u5, u6, u7, u8, u9, u10, u11, u12, u13, u14, u15, u16, u17, u18, u19], defers := [] } : Act)) ((formN n).length) ?atStart ?round
  case' atStart => ((repeat apply Exists.intro); refine ⟨?_, rfl⟩)
  case' round => (intro m ac wr hcut; obtain ⟨u1, hcut⟩ := hcut; obtain ⟨u2, hcut⟩ := hcut; obtain ⟨u4, hcut⟩ := hcut; obtain ⟨u5, hcut⟩ := hcut; obtain ⟨u6, hcut⟩ := hcut; obtain ⟨u7, hcut⟩ := hcut; obtain ⟨u8, hcut⟩ := hcut; obtain ⟨u9, hcut⟩ := hcut; obtain ⟨u10, hcut⟩ := hcut; obtain ⟨u11, hcut⟩ := hcut; obtain ⟨u12, hcut⟩ := hcut; obtain ⟨u13, hcut⟩ := hcut; obtain ⟨u14, hcut⟩ := hcut; obtain ⟨u15, hcut⟩ := hcut; obtain ⟨u16, hcut⟩ := hcut; obtain ⟨u17, hcut⟩ := hcut; obtain ⟨u18, hcut⟩ := hcut; obtain ⟨u19, hcut⟩ := hcut; obtain ⟨v0, hcut⟩ := hcut; obtain ⟨v3, hcut⟩ := hcut; obtain ⟨hcut, hac⟩ := hcut; subst hac; intro _ _ _ _)
  case atStart => exact ⟨n, [], _, _, rfl, rfl, Nat.le_refl _, rfl, rfl, Nat.le_refl _, HO.out, HB.out⟩
  case round =>
    obtain ⟨n', acc, g, c, hm, hacc, hle, rfl, rfl, hg, O, B⟩ := hcut
    have HM := Lib.hid hm
    have HA := Lib.hid hacc
    have HO := Lib.hid O
    have HB := Lib.hid B
    have hlt64 : n' < 18446744073709551616 := by omega
    have hal : acc.length ≤ 10 := by have := formN_len10 hn; omega
    clear hm hacc O B
    by_cases h : n' < 128
    · obtain ⟨g1, c1, w2, hrun, O2, B2, hg2⟩ := HO.out.push (n' : Int) (by omega) HB.out hg
      have HRUN := Lib.hid hrun
      clear hrun
      go_wp2_with (refine wpList_app HRUN.out rfl rfl rfl (by rfl) (by rfl) ?_)
      go_ret
      rw [← HA.out, formN_small h]
      exact ⟨g1, c1, by simp, hg2, O2, B2⟩
    · obtain ⟨g1, c1, w2, hrun, O2, B2, hg2⟩ := HO.out.push (bits BinOp.or IntKind.u8 ((n' : Int) % 256) 128) (by omega) HB.out hg
      have HRUN := Lib.hid hrun
      clear hrun
      go_wp2_with (refine wpList_app HRUN.out rfl rfl rfl (by rfl) (by rfl) ?_)
      go_roundg (m - 1)
      case measure =>
        have h1 := HM.out
        have h2 := congrArg List.length HA.out
        have h3 := formN_pos n'
        rw [List.length_append] at h2
        omega
      case rel =>
        have h2 := HA.out
        rw [formN_big h] at h2
        refine ⟨n' / 128, acc ++ [((n' % 128 + 128 : Nat) : Int)], g1, c1, ?_, by simpa using h2, by omega, by go_num, by simp, hg2, by rw [← or128]; exact O2, B2⟩
        have h1 := HM.out
        have h4 := congrArg List.length h2
        simp only [List.length_append, List.length_cons] at h4
        simp only [List.length_append, List.length_cons, List.length_nil]
        omega
section
variable {w : World} {F : Nat → Prop} {k : Nat} {s : WS}
set_option maxHeartbeats 1000000 in
theorem wByte_any (h : WLies TW w F k s) (hok : s.Ok) (n : Int) (h63 : s.bs.length + 1 ≤ 140737488355328) :
    Calls Try.prog 45 #[.pointer (some ⟨k, 0, none⟩), .int .i64 n] w fun e w' => e = .returned (.tuple #[]) ∧ UpdW TW F k w w' (s.byte n) := by
  by_cases hr : n < 0 ∨ 255 < n
  · have RE := Lib.hid (refuse_any h 2)
    have HS := Lib.hid (show s.byte n = s.refuse 2 by unfold WS.byte; rw [if_pos hr])
    clear h hok
    go_enter Try.func45, Try.ntmps45
    rcases hr with hr | hr
    · have z1 : decide (n < 0) = true := by simpa using hr
      go_wp2_with (fail)
      refine RE.out.mono ?_
      rintro e w2 ⟨rfl, U⟩
      go_wp2_with (fail)
      ((try simp only [Exit.inBlock, Exit.then]); refine bodyPost_ret (results_none rfl _ _ _) rfl ?_)
      exact ⟨rfl, by rw [HS.out]; exact U⟩
    · have z1 : decide (n < 0) = false := by simp; omega
      have z2 : decide (255 < n) = true := by simpa using hr
      go_wp2_with (fail)
      refine RE.out.mono ?_
      rintro e w2 ⟨rfl, U⟩
      go_wp2_with (fail)
      ((try simp only [Exit.inBlock, Exit.then]); refine bodyPost_ret (results_none rfl _ _ _) rfl ?_)
      exact ⟨rfl, by rw [HS.out]; exact U⟩
  · have n0 : 0 ≤ n := by omega
    have n1 : n ≤ 255 := by omega
    have B1 : Below w.heap.size w (w.alloc (.cells #[.int .u8 n] 5)) := (Below.refl _ _).alloc (Nat.le_refl _) _
    have hb : BsAt (w.alloc (.cells #[.int .u8 n] 5)) w.heap.size 0 [n] := by
      intro j y hy
      rcases j with _ | j
      · simp at hy; subst hy
        exact cell_blk (blk_new w _) 0 rfl
      · simp at hy
    have LY := Lib.hid (lay_any (h.below B1) hok.room0 hok.room1 hok.fit (cc := 1) (ys := [n]) (BSrc.ofAt hb) (by simpa using h63))
    have HS := Lib.hid (show s.byte n = s.lay [n] by unfold WS.byte; rw [if_neg hr])
    have HB := Lib.hid B1
    have z1 : decide (n < 0) = false := by simp; omega
    have z2 : decide (255 < n) = false := by simp; omega
    clear h hok hb B1 hr
    go_enter Try.func45, Try.ntmps45
    go_wp2_with (fail)
    refine LY.out.mono ?_
    rintro e w2 ⟨rfl, U⟩
    go_wp2_with (fail)
    go_end0
    exact ⟨rfl, by rw [HS.out]; exact UpdW.after HB.out U⟩
set_option maxHeartbeats 400000 in
theorem wNum_any (h : WLies TW w F k s) (hok : s.Ok) (n : Nat) (hn : n < 18446744073709551616) (h63 : s.bs.length + 10 ≤ 140737488355328) :
    Calls Try.prog 58 #[.pointer (some ⟨k, 0, none⟩), .int .u64 n] w fun e w' => e = .returned (.tuple #[]) ∧ UpdW TW F k w w' (s.num n) := by
  have h10 := formN_len10 hn
  have FM := Lib.hid (form_any n hn w)
  have H := Lib.hid h
  have HO := Lib.hid hok
  clear h hok
  go_enter Try.func58, Try.ntmps58
  go_wp2_with (fail)
  refine FM.out.mono ?_
  rintro e w1 ⟨g, c1, rfl, hg, O, B1⟩
  have LY := Lib.hid (lay_any (H.out.below B1) HO.out.room0 HO.out.room1 HO.out.fit (cc := c1) (BSrc.ofOwn O) (by omega))
  have HB := Lib.hid B1
  clear O B1
  go_wp2_with (fail)
  refine LY.out.mono ?_
  rintro e w2 ⟨rfl, W2⟩
  go_wp2_with (fail)
  go_end0
  exact ⟨rfl, UpdW.after HB.out W2⟩
set_option maxHeartbeats 400000 in
theorem wInt_any (h : WLies TW w F k s) (hok : s.Ok) (i : Int) (i0 : -9223372036854775808 ≤ i) (i1 : i ≤ 9223372036854775807) (h63 : s.bs.length + 10 ≤ 140737488355328) :
    Calls Try.prog 22 #[.pointer (some ⟨k, 0, none⟩), .int .i64 i] w fun e w' => e = .returned (.tuple #[]) ∧ UpdW TW F k w w' (s.int i) := by
  have NM := Lib.hid (wNum_any h hok (foldZ i) (foldZ_lt i0 i1) h63)
  have HF := Lib.hid (fold_bits i i0 i1)
  clear h hok
  go_enter Try.func22, Try.ntmps22
  go_wp2_with (fail)
  rw [HF.out]
  refine NM.out.mono ?_
  rintro e w2 ⟨rfl, W2⟩
  go_wp2_with (fail)
  go_end0
  exact ⟨rfl, W2⟩
set_option maxHeartbeats 400000 in
theorem wRaw_any (h : WLies TW w F k s) (hok : s.Ok) {B : Option Addr} {cc : Nat} {ys : List Int} (hy : BSrc w B ys) (h63 : s.bs.length + ys.length ≤ 140737488355328) :
    Calls Try.prog 47 #[.pointer (some ⟨k, 0, none⟩), .slice B ys.length cc] w fun e w' => e = .returned (.tuple #[]) ∧ UpdW TW F k w w' (s.raw ys) := by
  have LY := Lib.hid (lay_any h hok.room0 hok.room1 hok.fit (cc := cc) hy h63)
  clear h hok hy
  go_enter Try.func47, Try.ntmps47
  go_wp2_with (fail)
  refine LY.out.mono ?_
  rintro e w2 ⟨rfl, W2⟩
  go_wp2_with (fail)
  go_end0
  exact ⟨rfl, W2⟩
set_option maxHeartbeats 400000 in
theorem wLen_any (h : WLies TW w F k s) : Calls Try.prog 23 #[.pointer (some ⟨k, 0, none⟩)] w fun e w' => e = .returned (.int .i64 (s.len : Nat)) ∧ w = w' := by
  have WH := Lib.hid (whole_any h)
  obtain ⟨A, c, OA, oc, h1, h2, h3, h4⟩ := h
  have e1 : w.cell? ⟨k, 1, none⟩ = some (.slice A s.bs.length c) := cell_blk h1 1 rfl
  clear h1 h2 h3 h4
  obtain ⟨t0, ht0⟩ := named (s.ft == 0)
  rw [ht0] at WH
  unfold WS.len
  go_enter Try.func23, Try.ntmps23
  cases t0
  · have hf : ¬ s.ft = 0 := by simpa using ht0
    rw [if_neg hf]
    go_wp2_with (go_at_call 64; refine WH.out.mono ?_; rintro e w_ ⟨rfl, rfl⟩)
    go_ret
    exact ⟨rfl, rfl⟩
  · have hf : s.ft = 0 := by simpa using ht0
    rw [if_pos hf]
    clear hf ht0
    go_wp2_with (go_at_call 64; refine WH.out.mono ?_; rintro e w_ ⟨rfl, rfl⟩)
    go_ret
    exact ⟨rfl, rfl⟩
/-- What Done hands back: the bytes, in memory of their own, or nil, and the fault. -/
def DoneP (w : World) (s : WS) (e : Ending) (w' : World) : Prop := Below w.heap.size w w' ∧
  ((s.ft ≠ 0 ∧ e = .returned (.tuple #[.slice none 0 0, .int .i64 s.ft])) ∨ (s.ft = 0 ∧ s.op ≠ [] ∧ e = .returned (.tuple #[.slice none 0 0, .int .i64 12])) ∨
   (s.ft = 0 ∧ s.op = [] ∧ ∃ g, e = .returned (.tuple #[.slice (some ⟨g, 0, none⟩) s.bs.length s.bs.length, .int .i64 0]) ∧ w.heap.size ≤ g ∧ OwnB w' g s.bs.length s.bs))
theorem DoneP.gives {w w' : World} {s : WS} {e : Ending} (h : DoneP w s e w') : ∃ A c, e = .returned (.tuple #[.slice A s.done.1.length c, .int .i64 s.done.2]) ∧ RowF bc 5 1 w' (fun b => w.heap.size ≤ b ∧ b < w'.heap.size) A c s.done.1 ∧ Below w.heap.size w w' := by
  obtain ⟨hb, h⟩ := h
  unfold WS.done
  rcases h with ⟨h1, rfl⟩ | ⟨h1, h2, rfl⟩ | ⟨h1, h2, g, rfl, hg, O⟩
  · rw [if_neg h1]; exact ⟨none, 0, rfl, RowF.nil, hb⟩
  · rw [if_pos h1, if_neg h2]; exact ⟨none, 0, rfl, RowF.nil, hb⟩
  · rw [if_pos h1, if_pos h2]; exact ⟨_, _, rfl, Or.inr ⟨g, rfl, ⟨hg, O.lt⟩, O⟩, hb⟩
set_option maxRecDepth 100000 in
set_option maxHeartbeats 1000000 in
theorem wDone_any (h : WLies TW w F k s) (hbl : s.bs.length ≤ 140737488355328) :
    Calls Try.prog 24 #[.pointer (some ⟨k, 0, none⟩)] w (DoneP w s) := by
  have H := Lib.hid h
  obtain ⟨A, c, OA, oc, h1, h2, h3, h4⟩ := h
  obtain ⟨room, bs, op, ft⟩ := s
  simp only at hbl h1 h3 h4
  have e1 : w.cell? ⟨k, 1, none⟩ = some (.slice A bs.length c) := cell_blk h1 1 rfl
  have e2 : w.cell? ⟨k, 2, none⟩ = some (.slice OA op.length oc) := cell_blk h1 2 rfl
  have e3 : w.cell? ⟨k, 3, none⟩ = some (.int .i64 ft) := cell_blk h1 3 rfl
  have H3 := Lib.hid h3
  have HK := Lib.hid h1
  clear h1 h2 h3 h4
  obtain ⟨t0, ht0⟩ := named (ft != 0)
  go_enter Try.func24, Try.ntmps24
  cases t0
  · have hf : ft = 0 := by simpa using ht0
    subst hf
    cases op with
    | cons p ps =>
      simp only [List.length_cons] at e2
      go_wp2_with (fail)
      refine bodyPost_ret (v := .tuple #[.slice none 0 0, .int .i64 12]) (by simp [results, Try.results24, go_sem, *]) rfl ?_
      exact ⟨Below.refl _ _, Or.inr (Or.inl ⟨rfl, by simp, rfl⟩)⟩
    | nil =>
      simp only [List.length_nil] at e2
      have hlt := blk_lt HK.out
      have hy : ∀ w1, Below w.heap.size w w1 → bs ≠ [] → ∃ p q, A = some ⟨p, q, none⟩ ∧ BsAt w1 p q bs := fun w1 hb => (BSrc.ofRow H3.out).below hb
      have HY := Lib.hid hy
      clear hy
      go_wp2_with (first
        | (refine wpB_make _ rfl _ _ rfl bs.length (by rfl) (by rfl) (by omega) (fun w1 O1 G1 => ?_); have B1 := (Below.refl w.heap.size w).grown G1 (Nat.le_refl _) (by intro k hk; cases hk); have x1 := cell_blk (blk_below HK.out B1) 1 rfl; have HG := Lib.hid G1; clear G1)
        | (refine wpB_copy _ rfl _ _ rfl O1 rfl A c (HY.out _ B1) (by rfl) (by rfl) (fun w2 O2 G2 => ?_)))
      refine bodyPost_ret (v := .tuple #[.slice (some ⟨w.heap.size, 0, none⟩) bs.length bs.length, .int .i64 0]) (by simp [results, Try.results24, go_sem, *]) rfl ?_
      exact ⟨B1.grown G2 B1.size (by intro k hk; injection hk with hk; omega), Or.inr (Or.inr ⟨rfl, rfl, _, rfl, Nat.le_refl _, O2⟩)⟩
  · have hf : ft ≠ 0 := by simpa using ht0
    go_wp2_with (fail)
    refine start_ (n := 6) (S := fun w' => w'.cell? ⟨k, 3, none⟩ = some (.int .i64 ft)) (ds := []) #[false, false, false, false, false, false] (by kernel_rfl) rfl rfl e3 (fun hHeld => ?_)
    (refine take_ (i := 0) (N := some 14) (v := ?v_2) (a' := ?a_2) #[true, false, false, false, false, false] rfl rfl (by kernel_rfl) (fun _ _ _ h => h) (Or.inl ⟨by rfl, ?hy_2⟩) hHeld ?ha_2 ?hh_2; (case hy_2 => (rintro w' s0_; go_simp; with_reducible rfl)); (case ha_2 => (simp (disch := omega) only [Act.put, List.setIfInBounds_toArray, List.set_cons_zero, List.set_cons_succ, wrap_in]; rfl)))
    (refine take_ (i := 1) (N := some 15) (v := ?v_3) (a' := ?a_3) #[true, true, false, false, false, false] rfl rfl (by kernel_rfl) (fun _ _ _ h => h) (Or.inl ⟨by rfl, ?hy_3⟩) hHeld ?ha_3 ?hh_3; (case hy_3 => (rintro w' s0_; go_simp; with_reducible rfl)); (case ha_3 => (simp (disch := omega) only [Act.put, List.setIfInBounds_toArray, List.set_cons_zero, List.set_cons_succ, wrap_in]; rfl)))
    (refine take_ (i := 2) (N := some 16) (v := ?v_4) (a' := ?a_4) #[true, true, true, false, false, false] rfl rfl (by kernel_rfl) (fun _ _ _ h => h) (Or.inl ⟨by rfl, ?hy_4⟩) hHeld ?ha_4 ?hh_4; (case hy_4 => (rintro w' s0_; go_simp; with_reducible rfl)); (case ha_4 => (simp (disch := omega) only [Act.put, List.setIfInBounds_toArray, List.set_cons_zero, List.set_cons_succ, wrap_in]; rfl)))
    (refine take_ (i := 3) (N := some 17) (v := ?v_5) (a' := ?a_5) #[true, true, true, true, false, false] rfl rfl (by kernel_rfl) (fun _ _ _ h => h) (Or.inl ⟨by rfl, ?hy_5⟩) hHeld ?ha_5 ?hh_5; (case hy_5 => (rintro w' s0_; go_simp; with_reducible rfl)); (case ha_5 => (simp (disch := omega) only [Act.put, List.setIfInBounds_toArray, List.set_cons_zero, List.set_cons_succ, wrap_in]; rfl)))
    (refine take_ (i := 4) (N := some 2) (v := ?v_6) (a' := ?a_6) #[true, true, true, true, true, false] rfl rfl (by kernel_rfl) (fun _ _ _ h => h) (Or.inl ⟨by rfl, ?hy_6⟩) hHeld ?ha_6 ?hh_6; (case hy_6 => (rintro w' s0_; go_simp; with_reducible rfl)); (case ha_6 => (simp (disch := omega) only [Act.put, List.setIfInBounds_toArray, List.set_cons_zero, List.set_cons_succ, wrap_in]; rfl)))
    (refine take_ (i := 5) (N := some 3) (v := ?v_7) (a' := ?a_7) #[true, true, true, true, true, true] rfl rfl (by kernel_rfl) (fun _ _ _ h => h) (Or.inl ⟨by rfl, ?hy_7⟩) hHeld ?ha_7 ?hh_7; (case hy_7 => (rintro w' s0_; go_simp; with_reducible rfl)); (case ha_7 => (simp (disch := omega) only [Act.put, List.setIfInBounds_toArray, List.set_cons_zero, List.set_cons_succ, wrap_in]; rfl)))
    refine done_ (by kernel_rfl) ?_
    go_wp2_with (fail)
    refine bodyPost_ret (v := .tuple #[.slice none 0 0, .int .i64 ft]) (by simp [results, Try.results24, go_sem, *]) rfl ?_
    exact ⟨(Below.refl _ _).drew, Or.inl ⟨hf, rfl⟩⟩
set_option maxHeartbeats 400000 in
theorem wDone_nil (w : World) : Calls Try.prog 24 #[.pointer none] w fun e w' => e = .returned (.tuple #[.slice none 0 0, .int .i64 1]) ∧ w = w' := by
  go_enter Try.func24, Try.ntmps24
  go_wp2_with (fail)
  refine bodyPost_ret (v := .tuple #[.slice none 0 0, .int .i64 1]) (by simp [results, Try.results24, go_sem, *]) rfl ?_
  exact ⟨rfl, rfl⟩
end
end Go.Proofs.Ytibelfljlhcibaa
