/- The reference's reader: bytes. -/
import Derived.Test.YtjmmdpnphafdfaaPE8
namespace Go.Proofs.Ytjmmdpnphafdfaa
set_option linter.unusedVariables false
set_option linter.unusedSimpArgs false
open Go.RowKit Go.Deep Go.Proofs.YtjmmdpnphafdfaaW.PrintLast

/-- The reader of the reference has turned, its own blocks alone. -/
def UpdQ (F : Nat → Prop) (k : Nat) (w w' : World) (s : RS) : Prop := RefLies w' F k s ∧ Fr F w w'
/-- What bytes hands back. -/
def BytesP (F : Nat → Prop) (k : Nat) (w : World) (s : RS) (n : Nat) (e : Ending) (w' : World) : Prop :=
  match s.next n with
  | some (p, s') => (∃ A c, e = .returned (.slice A p.length c) ∧ GRow bc 5 1 w' w.heap.size A c p) ∧ UpdQ F k w w' s'
  | none => e = .returned (.slice none 0 0) ∧ UpdQ F k w w' s.short
section
variable {w w' w1 w2 : World} {F G : Nat → Prop} {k : Nat} {s s' : RS}
theorem UpdQ.refl (h : RefLies w F k s) : UpdQ F k w w s := ⟨h, Fr.refl F w⟩
theorem UpdQ.fault (h : RefLies w F k s) (e : Int) : UpdQ F k w (w.setCell ⟨k, 3, none⟩ (.int .i64 e)) { s with ft := e } := ⟨h.fault e, Fr.set w h.in_ _⟩
theorem UpdQ.of_below (h : RefLies w F k s) (hb : Below w.heap.size w w') : UpdQ F k w w' s := ⟨h.below hb, Fr.below F hb⟩
theorem UpdQ.trans (h : UpdQ F k w w1 s) (h' : UpdQ F k w1 w2 s') : UpdQ F k w w2 s' := ⟨h'.1, h.2.trans h'.2 fun _ _ h => h⟩
theorem UpdQ.after (hb : Below w.heap.size w w1) (h' : UpdQ F k w1 w2 s') : UpdQ F k w w2 s' := ⟨h'.1, (Fr.below F hb).trans h'.2 fun _ _ h => h⟩
theorem UpdQ.ahead (h : UpdQ F k w w1 s) (hb : Below w1.heap.size w1 w2) : UpdQ F k w w2 s := ⟨h.1.below hb, h.2.trans (Fr.below F hb) fun _ _ h => h⟩
theorem UpdQ.setFault (h : UpdQ F k w w' s) (e : Int) : UpdQ F k w (w'.setCell ⟨k, 3, none⟩ (.int .i64 e)) { s with ft := e } := ⟨h.1.fault e, h.2.trans (Fr.set w' h.1.in_ _) fun _ _ h => h⟩
theorem EndsOk.at_ {p : List Int} {i : Nat} {es : List Nat} (h : EndsOk p i es s) {j : Nat} (hj : j < s.left.length) : s.left[j]? = p[i + j]? := by
  obtain ⟨_, _, ⟨e, h3, h4, h5⟩, _⟩ := h
  rw [h5, List.length_drop, List.length_take] at hj
  rw [h5, List.getElem?_drop, List.getElem?_take, if_pos (by omega)]
theorem EndsOk.move {p : List Int} {i : Nat} {es : List Nat} (h : EndsOk p i es s) {n : Nat} (hn : n ≤ s.left.length) : EndsOk p (i + n) es { s with left := s.left.drop n } := by
  obtain ⟨e, g1, g2, g3, g4⟩ := h.left_len
  obtain ⟨h1, h2, ⟨e', h3, h4, h5⟩, h6⟩ := h
  rw [g1] at h3; injection h3 with h3; subst h3
  exact ⟨h1, h2, ⟨e, g1, by omega, by simp only; rw [h5, List.drop_drop]⟩, h6⟩
theorem RefLies.move (h : RefLies w F k s) {a : Int} (hi : w.cell? ⟨k, 1, none⟩ = some (.int .i64 a)) {n : Nat} (hn : n ≤ s.left.length) : RefLies (w.setCell ⟨k, 1, none⟩ (.int .i64 (a + n))) F k { s with left := s.left.drop n } := by
  obtain ⟨p, i, es, A, c, EA, ec, h1, h2, h3, h4, h5⟩ := h
  have e1 : w.cell? ⟨k, 1, none⟩ = some (.int .i64 i) := cell_blk h1 1 rfl
  rw [hi] at e1
  injection e1 with e1; injection e1 with _ e1; subst e1
  exact ⟨p, i + n, es, A, c, EA, ec, by simpa using setCell_heap w k 1 (.int .i64 ((i : Int) + n)) _ _ _ h1, h2, h3.keeps (KeepT.setCell h1 (Ne.symm tq_ne.1) 1 _), h4.keeps (KeepT.setCell h1 (Ne.symm tq_ne.2) 1 _), h5.move hn⟩
set_option maxHeartbeats 4000000 in
set_option maxRecDepth 100000 in
theorem refBytes_any (h : RefLies w F k s) (n : Nat) (hn : n ≤ 9223372036854775807) (h47 : s.left.length ≤ 140737488355328) :
    Calls Try.prog 46 #[.pointer (some ⟨k, 0, none⟩), .int .i64 n] w (BytesP F k w s n) := by
  have H := Lib.hid h
  have LF := Lib.hid (refLeft_any h)
  obtain ⟨p, i, es, A, c, EA, ec, h1, h2, h3, h4, h5⟩ := h
  obtain ⟨e, g1, g2, g3, g4⟩ := h5.left_len
  have HAT := Lib.hid (fun (j : Nat) (hj : j < s.left.length) => h5.at_ hj)
  have hcap := h3.le
  have hmax := h3.max
  simp only [maxLen] at hmax
  have hK := blk_lt h1
  have HK := Lib.hid hK
  have hpl : p.length ≤ 9223372036854775807 := by omega
  have e0 : w.cell? ⟨k, 0, none⟩ = some (.slice A p.length c) := cell_blk h1 0 rfl
  have e1 : w.cell? ⟨k, 1, none⟩ = some (.int .i64 i) := cell_blk h1 1 rfl
  have f3 : w.drew.frozen? ⟨k, 3, none⟩ = false := free_blk h1 3
  have e3 : w.drew.cell? ⟨k, 3, none⟩ = some (.int .i64 s.ft) := cell_blk (show w.drew.heap[k]? = _ from h1) 3 rfl
  have H1 := Lib.hid h1
  have H3 := Lib.hid h3
  obtain ⟨L, hL⟩ : ∃ L, s.left.length = L := ⟨_, rfl⟩
  obtain ⟨P, hP⟩ : ∃ P, p.length = P := ⟨_, rfl⟩
  have HL := Lib.hid hL
  have HP := Lib.hid hP
  rw [hP] at e0 g3 hpl
  rw [hL] at h47 g4
  have hiL : i + L ≤ P := by omega
  clear h1 h2 h3 h4 h5 g1 hmax hcap hL hP g2 g3 g4
  obtain ⟨t0, ht0⟩ := named (decide ((L : Int) < (n : Int)))
  go_enter Try.func46, Try.ntmps46
  cases t0
  · have hnl : n ≤ L := by simp at ht0; omega
    have HNL := Lib.hid hnl
    have HS := Lib.hid (show s.next n = some (s.left.take n, { s with left := s.left.drop n }) by unfold RS.next; rw [if_pos (by have := HL.out; omega)])
    have LF' := LF.out
    rw [HL.out] at LF'
    have LF2 := Lib.hid LF'
    clear LF'
    go_wp2_with (go_at_call 68; refine LF2.out.mono ?_; rintro e w_ ⟨rfl, rfl⟩)
    refine wp_loop_ghost_k (fun (m : Nat) (ac : Act) (wr : World) => ∃ u2 u3 u4 u7 u8 u9 u10 u11 u12 u13 u14 u15 u16 u17 u18 u19 u20 u21 u22 u23 u24 u25 u26 u27 u28 u29 u30 u31 u32 u33 u34 u35 u36 u37 u38 u39 u40 u41 u42 u43 v5 v6 : Value, (∃ (j : Nat) (A' : Option Addr) (c' : Nat), m + j = n ∧ v6 = .int .i64 j ∧ v5 = .slice A' j c' ∧ GRow bc 5 1 wr w.heap.size A' c' (s.left.take j) ∧ Below w.heap.size w wr) ∧ ac = ({ tmps := #[.pointer (some ⟨k, 0, none⟩), .int .i64 n, u2, u3, u4, v5, v6, u7, u8, u9, u10, u11, u12, u13, u14, u15, u16, u17, u18, u19, u20, u21, u22, u23, u24, u25, u26, u27, u28, u29, u30, u31, u32, u33, u34, u35, u36, u37, u38, u39, u40, u41, u42, u43], defers := [] } : Act)) (n) ?atStart ?round
    case' atStart => ((repeat apply Exists.intro); refine ⟨?_, rfl⟩)
    case' round => (intro m ac wr hcut; obtain ⟨u2, hcut⟩ := hcut; obtain ⟨u3, hcut⟩ := hcut; obtain ⟨u4, hcut⟩ := hcut; obtain ⟨u7, hcut⟩ := hcut; obtain ⟨u8, hcut⟩ := hcut; obtain ⟨u9, hcut⟩ := hcut; obtain ⟨u10, hcut⟩ := hcut; obtain ⟨u11, hcut⟩ := hcut; obtain ⟨u12, hcut⟩ := hcut; obtain ⟨u13, hcut⟩ := hcut; obtain ⟨u14, hcut⟩ := hcut; obtain ⟨u15, hcut⟩ := hcut; obtain ⟨u16, hcut⟩ := hcut; obtain ⟨u17, hcut⟩ := hcut; obtain ⟨u18, hcut⟩ := hcut; obtain ⟨u19, hcut⟩ := hcut; obtain ⟨u20, hcut⟩ := hcut; obtain ⟨u21, hcut⟩ := hcut; obtain ⟨u22, hcut⟩ := hcut; obtain ⟨u23, hcut⟩ := hcut; obtain ⟨u24, hcut⟩ := hcut; obtain ⟨u25, hcut⟩ := hcut; obtain ⟨u26, hcut⟩ := hcut; obtain ⟨u27, hcut⟩ := hcut; obtain ⟨u28, hcut⟩ := hcut; obtain ⟨u29, hcut⟩ := hcut; obtain ⟨u30, hcut⟩ := hcut; obtain ⟨u31, hcut⟩ := hcut; obtain ⟨u32, hcut⟩ := hcut; obtain ⟨u33, hcut⟩ := hcut; obtain ⟨u34, hcut⟩ := hcut; obtain ⟨u35, hcut⟩ := hcut; obtain ⟨u36, hcut⟩ := hcut; obtain ⟨u37, hcut⟩ := hcut; obtain ⟨u38, hcut⟩ := hcut; obtain ⟨u39, hcut⟩ := hcut; obtain ⟨u40, hcut⟩ := hcut; obtain ⟨u41, hcut⟩ := hcut; obtain ⟨u42, hcut⟩ := hcut; obtain ⟨u43, hcut⟩ := hcut; obtain ⟨v5, hcut⟩ := hcut; obtain ⟨v6, hcut⟩ := hcut; obtain ⟨hcut, hac⟩ := hcut; subst hac; intro _ _ _ _)
    case atStart => exact ⟨0, none, 0, rfl, rfl, rfl, GRow.nil, (Below.refl _ _).drew⟩
    case round =>
      obtain ⟨j, A', c', hm, rfl, rfl, G, B⟩ := hcut
      have x0 : wr.cell? ⟨k, 0, none⟩ = some (.slice A P c) := cell_same e0 (B.block k HK.out)
      have x1 : wr.cell? ⟨k, 1, none⟩ = some (.int .i64 i) := cell_same e1 (B.block k HK.out)
      have HM := Lib.hid hm
      have HG := Lib.hid G
      have HB := Lib.hid B
      by_cases hj : j < n
      · have hlw := HL.out
        have hpw := HP.out
        have hjl : j < s.left.length := by omega
        obtain ⟨y, hy⟩ : ∃ y, s.left[j]? = some y := ⟨_, List.getElem?_eq_getElem hjl⟩
        have hyp : p[i + j]? = some y := (HAT.out j hjl).symm.trans hy
        have hne : p ≠ [] := by rintro rfl; simp at hyp
        obtain ⟨g, o, hA, hBA⟩ := BSrc.ofRow H3.out hne
        subst hA
        have hgl : g < w.heap.size := World.block_lt_of_cell? _ _ (hBA (i + j) y hyp)
        have y0 : wr.cell? ⟨g, o + (i + j), none⟩ = some (.int .u8 y) := cell_same (hBA (i + j) y hyp) (B.block g hgl)
        have ll : (s.left.take j).length = j := by rw [List.length_take]; omega
        obtain ⟨A1, c2, w2, hrun, G2, B2, _⟩ := GRow.push elBy (HG.out.keeps (KeepT.drew _ wr)) 22 y HB.out.drew HB.out.drew.size (by rw [ll]; simp only [maxLen]; omega) (by rw [ll]; omega)
        rw [ll] at hrun
        have hq : (i : Int) + (j : Int) < (P : Int) := by omega
        have hq0 : (0 : Int) ≤ (i : Int) + (j : Int) := by omega
        have hq1 : ((i : Int) + (j : Int)).toNat = i + j := by omega
        have HX := Lib.hid (show w2.cell? ⟨k, 0, none⟩ = some (.slice (some ⟨g, o, none⟩) P c) ∧ w2.cell? ⟨k, 1, none⟩ = some (.int .i64 i) ∧ w2.cell? ⟨g, o + (i + j), none⟩ = some (.int .u8 y) from
          ⟨cell_same e0 (B2.block k HK.out), cell_same e1 (B2.block k HK.out), cell_same (hBA (i + j) y hyp) (B2.block g hgl)⟩)
        have HRUN := Lib.hid hrun
        have HG2 := Lib.hid G2
        have HB2 := Lib.hid B2
        have HTK := Lib.hid (show s.left.take j ++ [y] = s.left.take (j + 1) by rw [List.take_add_one, hy]; rfl)
        clear hm hy hne hBA hlw hpw G B hrun G2 B2 ll hgl hyp hjl e0 e1
        go_wp2_with (fail)
        refine start_ (n := 16) (S := fun w' => w'.cell? ⟨k, 0, none⟩ = some (.slice (some ⟨g, o, none⟩) P c) ∧ w'.cell? ⟨k, 1, none⟩ = some (.int .i64 i) ∧ w'.cell? ⟨g, o + (i + j), none⟩ = some (.int .u8 y)) (ds := []) #[false, false, false, false, false, false, false, false, false, false, false, false, false, false, false, false] (by kernel_rfl) rfl rfl ⟨x0, x1, y0⟩ (fun hHeld => ?_)
        (refine take_ (i := 0) (N := some 19) (v := ?v_9) (a' := ?a_9) #[true, false, false, false, false, false, false, false, false, false, false, false, false, false, false, false] rfl rfl (by kernel_rfl) (fun _ _ _ h => h) (Or.inl ⟨by rfl, ?hy_9⟩) hHeld ?ha_9 ?hh_9; (case hy_9 => (rintro w' ⟨s0_, s1_, s2_⟩; go_simp; with_reducible rfl)); (case ha_9 => (simp (disch := omega) only [Act.put, List.setIfInBounds_toArray, List.set_cons_zero, List.set_cons_succ, wrap_in]; rfl)))
        (refine take_ (i := 1) (N := some 20) (v := ?v_10) (a' := ?a_10) #[true, true, false, false, false, false, false, false, false, false, false, false, false, false, false, false] rfl rfl (by kernel_rfl) (fun _ _ _ h => h) (Or.inl ⟨by rfl, ?hy_10⟩) hHeld ?ha_10 ?hh_10; (case hy_10 => (rintro w' ⟨s0_, s1_, s2_⟩; go_simp; with_reducible rfl)); (case ha_10 => (simp (disch := omega) only [Act.put, List.setIfInBounds_toArray, List.set_cons_zero, List.set_cons_succ, wrap_in]; rfl)))
        (refine take_ (i := 2) (N := some 21) (v := ?v_11) (a' := ?a_11) #[true, true, true, false, false, false, false, false, false, false, false, false, false, false, false, false] rfl rfl (by kernel_rfl) (fun _ _ _ h => h) (Or.inl ⟨by rfl, ?hy_11⟩) hHeld ?ha_11 ?hh_11; (case hy_11 => (rintro w' ⟨s0_, s1_, s2_⟩; go_simp; with_reducible rfl)); (case ha_11 => (simp (disch := omega) only [Act.put, List.setIfInBounds_toArray, List.set_cons_zero, List.set_cons_succ, wrap_in]; rfl)))
        (refine take_ (i := 3) (N := some 22) (v := ?v_12) (a' := ?a_12) #[true, true, true, true, false, false, false, false, false, false, false, false, false, false, false, false] rfl rfl (by kernel_rfl) (fun _ _ _ h => h) (Or.inl ⟨by rfl, ?hy_12⟩) hHeld ?ha_12 ?hh_12; (case hy_12 => (rintro w' ⟨s0_, s1_, s2_⟩; go_simp; with_reducible rfl)); (case ha_12 => (simp (disch := omega) only [Act.put, List.setIfInBounds_toArray, List.set_cons_zero, List.set_cons_succ, wrap_in]; rfl)))
        (refine take_ (i := 4) (N := some 23) (v := ?v_13) (a' := ?a_13) #[true, true, true, true, true, false, false, false, false, false, false, false, false, false, false, false] rfl rfl (by kernel_rfl) (fun _ _ _ h => h) (Or.inl ⟨by rfl, ?hy_13⟩) hHeld ?ha_13 ?hh_13; (case hy_13 => (rintro w' ⟨s0_, s1_, s2_⟩; go_simp; with_reducible rfl)); (case ha_13 => (simp (disch := omega) only [Act.put, List.setIfInBounds_toArray, List.set_cons_zero, List.set_cons_succ, wrap_in]; rfl)))
        (refine take_ (i := 5) (N := some 24) (v := ?v_14) (a' := ?a_14) #[true, true, true, true, true, true, false, false, false, false, false, false, false, false, false, false] rfl rfl (by kernel_rfl) (fun _ _ _ h => h) (Or.inl ⟨by rfl, ?hy_14⟩) hHeld ?ha_14 ?hh_14; (case hy_14 => (rintro w' ⟨s0_, s1_, s2_⟩; go_simp; with_reducible rfl)); (case ha_14 => (simp (disch := omega) only [Act.put, List.setIfInBounds_toArray, List.set_cons_zero, List.set_cons_succ, wrap_in]; rfl)))
        (refine take_ (i := 6) (N := some 25) (v := ?v_15) (a' := ?a_15) #[true, true, true, true, true, true, true, false, false, false, false, false, false, false, false, false] rfl rfl (by kernel_rfl) (fun _ _ _ h => h) (Or.inl ⟨by rfl, ?hy_15⟩) hHeld ?ha_15 ?hh_15; (case hy_15 => (rintro w' ⟨s0_, s1_, s2_⟩; go_simp; with_reducible rfl)); (case ha_15 => (simp (disch := omega) only [Act.put, List.setIfInBounds_toArray, List.set_cons_zero, List.set_cons_succ, wrap_in]; rfl)))
        (refine take_ (i := 7) (N := some 26) (v := ?v_16) (a' := ?a_16) #[true, true, true, true, true, true, true, true, false, false, false, false, false, false, false, false] rfl rfl (by kernel_rfl) (fun _ _ _ h => h) (Or.inl ⟨by rfl, ?hy_16⟩) hHeld ?ha_16 ?hh_16; (case hy_16 => (rintro w' ⟨s0_, s1_, s2_⟩; go_simp; with_reducible rfl)); (case ha_16 => (simp (disch := omega) only [Act.put, List.setIfInBounds_toArray, List.set_cons_zero, List.set_cons_succ, wrap_in]; rfl)))
        (refine take_ (i := 8) (N := some 27) (v := ?v_17) (a' := ?a_17) #[true, true, true, true, true, true, true, true, true, false, false, false, false, false, false, false] rfl rfl (by kernel_rfl) (fun _ _ _ h => h) (Or.inl ⟨by rfl, ?hy_17⟩) hHeld ?ha_17 ?hh_17; (case hy_17 => (rintro w' ⟨s0_, s1_, s2_⟩; go_simp; with_reducible rfl)); (case ha_17 => (simp (disch := omega) only [Act.put, List.setIfInBounds_toArray, List.set_cons_zero, List.set_cons_succ, wrap_in]; rfl)))
        (refine take_ (i := 9) (N := some 28) (v := ?v_18) (a' := ?a_18) #[true, true, true, true, true, true, true, true, true, true, false, false, false, false, false, false] rfl rfl (by kernel_rfl) (fun _ _ _ h => h) (Or.inl ⟨by rfl, ?hy_18⟩) hHeld ?ha_18 ?hh_18; (case hy_18 => (rintro w' ⟨s0_, s1_, s2_⟩; go_simp; with_reducible rfl)); (case ha_18 => (simp (disch := omega) only [Act.put, List.setIfInBounds_toArray, List.set_cons_zero, List.set_cons_succ, wrap_in]; rfl)))
        (refine take_ (i := 10) (N := some 29) (v := ?v_19) (a' := ?a_19) #[true, true, true, true, true, true, true, true, true, true, true, false, false, false, false, false] rfl rfl (by kernel_rfl) (fun _ _ _ h => h) (Or.inl ⟨by rfl, ?hy_19⟩) hHeld ?ha_19 ?hh_19; (case hy_19 => (rintro w' ⟨s0_, s1_, s2_⟩; go_simp; with_reducible rfl)); (case ha_19 => (simp (disch := omega) only [Act.put, List.setIfInBounds_toArray, List.set_cons_zero, List.set_cons_succ, wrap_in]; rfl)))
        (refine take_ (i := 11) (N := some 30) (v := ?v_20) (a' := ?a_20) #[true, true, true, true, true, true, true, true, true, true, true, true, false, false, false, false] rfl rfl (by kernel_rfl) (fun _ _ _ h => h) (Or.inl ⟨by rfl, ?hy_20⟩) hHeld ?ha_20 ?hh_20; (case hy_20 => (rintro w' ⟨s0_, s1_, s2_⟩; go_simp; with_reducible rfl)); (case ha_20 => (simp (disch := omega) only [Act.put, List.setIfInBounds_toArray, List.set_cons_zero, List.set_cons_succ, wrap_in]; rfl)))
        (refine take_ (i := 12) (N := some 31) (v := ?v_21) (a' := ?a_21) #[true, true, true, true, true, true, true, true, true, true, true, true, true, false, false, false] rfl rfl (by kernel_rfl) (fun _ _ _ h => h) (Or.inl ⟨by rfl, ?hy_21⟩) hHeld ?ha_21 ?hh_21; (case hy_21 => (rintro w' ⟨s0_, s1_, s2_⟩; go_simp; with_reducible rfl)); (case ha_21 => (simp (disch := omega) only [Act.put, List.setIfInBounds_toArray, List.set_cons_zero, List.set_cons_succ, wrap_in]; rfl)))
        refine one_ (i := 13) (N := some 32) #[true, true, true, true, true, true, true, true, true, true, true, true, true, true, false, false] rfl rfl (by kernel_rfl) (by decide) (fun K hK => ?_)
        (refine value_ (v := ?v_1) (w1 := ?w1_1) (by rfl) rfl ?hr_1 ?hk_1; (case hr_1 => (go_simp; first | with_reducible rfl | (constructor <;> with_reducible rfl))))
        (refine hK.out _ _ ?hs_2 ?hn_2; (case hs_2 => (obtain ⟨s0_, s1_, s2_⟩ := hHeld; exact ⟨cell_alloc_old s0_ _, cell_alloc_old s1_ _, cell_alloc_old s2_ _⟩)); intro hHeld; clear hK K)
        (refine norm_ (a' := ?a_3) ?ha_3 ?hh_3; (case ha_3 => (simp (disch := omega) only [Act.put, List.setIfInBounds_toArray, List.set_cons_zero, List.set_cons_succ, wrap_in]; rfl)))
        refine one_ (i := 14) (N := some 33) #[true, true, true, true, true, true, true, true, true, true, true, true, true, true, true, false] rfl rfl (by kernel_rfl) (by decide) (fun K hK => ?_)
        (have hrun := HRUN.out; refine value_ (by rfl) rfl (runapp_ hrun (by rfl) (by rfl) (by rfl) (by rfl)) ?hk_4)
        (refine hK.out _ _ ?hs_5 ?hn_5; (case hs_5 => (exact HX.out)); intro hHeld; clear hK K)
        (refine norm_ (a' := ?a_6) ?ha_6 ?hh_6; (case ha_6 => (simp (disch := omega) only [Act.put, List.setIfInBounds_toArray, List.set_cons_zero, List.set_cons_succ, wrap_in]; rfl)))
        (refine take_ (i := 15) (N := some 5) (v := ?v_7) (a' := ?a_7) #[true, true, true, true, true, true, true, true, true, true, true, true, true, true, true, true] rfl rfl (by kernel_rfl) (fun _ _ _ h => h) (Or.inl ⟨by rfl, ?hy_7⟩) hHeld ?ha_7 ?hh_7; (case hy_7 => (rintro w' ⟨s0_, s1_, s2_⟩; go_simp; with_reducible rfl)); (case ha_7 => (simp (disch := omega) only [Act.put, List.setIfInBounds_toArray, List.set_cons_zero, List.set_cons_succ, wrap_in]; rfl)))
        refine done_ (by kernel_rfl) ?_
        go_wp2_with (fail)
        go_roundg (m - 1)
        case measure => have := HM.out; omega
        case rel =>
          refine ⟨j + 1, A1, c2, by have := HM.out; omega, by go_num, rfl, ?_, HB2.out⟩
          rw [← HTK.out]; exact HG2.out
      · have hjn : j = n := by have := HM.out; omega
        subst hjn
        have HR := Lib.hid (H.out.below HB.out)
        have fr := free_blk ((HB.out.block k HK.out).trans H1.out) 1
        have HMV := Lib.hid (HR.out.move (n := j) x1 (by have := HL.out; have := HNL.out; omega))
        clear hm G B
        go_wp2_with (fail)
        go_wp2_with (fail)
        go_ret
        unfold BytesP
        rw [HS.out]
        have ll : (s.left.take j).length = j := by rw [List.length_take]; have := HL.out; have := HNL.out; omega
        refine ⟨⟨A', c', by rw [ll]; rfl, ?_⟩, ?_, ?_⟩
        · exact HG.out.keeps (KeepT.setCell ((HB.out.block k HK.out).trans H1.out) (Ne.symm tq_ne.1) 1 _)
        · exact HMV.out
        · exact (Fr.below F HB.out).trans (Fr.set (F := F) wr H.out.in_ _) fun _ _ h => h
  · have hnl : L < n := by simpa using ht0
    have HS := Lib.hid (show s.next n = none by unfold RS.next; rw [if_neg (by have := HL.out; omega)])
    have LF' := LF.out
    rw [HL.out] at LF'
    have LF2 := Lib.hid LF'
    clear LF'
    go_wp2_with (go_at_call 68; refine LF2.out.mono ?_; rintro e w_ ⟨rfl, rfl⟩)
    go_ret
    unfold BytesP
    rw [HS.out]
    exact ⟨rfl, UpdQ.after ((Below.refl _ _).drew) (UpdQ.fault H.out.drew 10)⟩
end
end Go.Proofs.Ytjmmdpnphafdfaa
