/- The reference's reader: Read (New). The reference's reader: bytes. The reference's reader: Byte, number, Num, Text. The reference's reader: Num, Int, Text. The reference's reader: Raw, Rest, Int. -/
import Derived.Test.YtibelfljlhcibaaPEa
import Derived.Test.YtibelfljlhcibaaPR3
import Derived.Test.YtibelfljlhcibaaPQ
namespace Go.Proofs.Ytibelfljlhcibaa
set_option linter.unusedVariables false
set_option linter.unusedSimpArgs false
open Go.RowKit Go.Deep Go.Proofs.YtibelfljlhcibaaW.PrintLast

def ReadI (w : World) (n : Nat) (p : List Int) (wr : World) (j : Nat) : Prop := Below w.heap.size w wr ∧ ∃ A c, wr.heap[w.heap.size + 1]? = some (.cells #[.slice A j c, .int .i64 0, .slice (some ⟨w.heap.size, 0, none⟩) 1 1, .int .i64 0] TQ (0, 0)) ∧
  RowF bc 5 1 wr (fun b => w.heap.size ≤ b ∧ b < wr.heap.size) A c (p.take j) ∧ wr.heap[w.heap.size]? = some (.cells #[.int .i64 n] 3 (0, 0))
theorem read_push {w wr : World} {n j : Nat} {p : List Int} (R : ReadI w n p wr j) {y : Int} (hy : p[j]? = some y) (h63 : p.length ≤ 140737488355328) :
    ∃ A c A' c' w2, wr.cell? ⟨w.heap.size + 1, 0, none⟩ = some (.slice A j c) ∧
      (Builtin.append_ #[23, 23] 23 #[.slice A j c, .slice (some ⟨wr.drew.heap.size, 0, none⟩) 1 1]).run Try.prog (wr.drew.alloc (.cells #[.int .u8 y] 5)) = .ok (.slice A' (j + 1) c') w2 ∧
      w2.cell? ⟨w.heap.size + 1, 0, none⟩ = some (.slice A j c) ∧ w2.frozen? ⟨w.heap.size + 1, 0, none⟩ = false ∧
      (∀ g, g < w.heap.size → w2.heap[g]? = wr.heap[g]?) ∧
      ReadI w n p (w2.setCell ⟨w.heap.size + 1, 0, none⟩ (.slice A' (j + 1) c')) (j + 1) := by
  obtain ⟨B, A, c, h1, h3, h5⟩ := R
  have hjl : j < p.length := by
    rcases Nat.lt_or_ge j p.length with h | h
    · exact h
    · rw [List.getElem?_eq_none h] at hy; cases hy
  have ll : (p.take j).length = j := by rw [List.length_take]; omega
  have hb : BsAt (wr.drew.alloc (.cells #[.int .u8 y] 5)) wr.drew.heap.size 0 [y] := by
    intro i x hx
    rcases i with _ | i
    · simp at hx; subst hx
      exact cell_blk (blk_new wr.drew _) 0 rfl
    · simp at hx
  obtain ⟨A', c', w2, hrun, R2, F2, K2⟩ := RowF.append (ys := [y]) elBy ((h3.keeps (KeepT.drew _ wr)).keeps (KeepT.alloc _ wr.drew (.cells #[.int .u8 y] 5))) 23 (some ⟨wr.drew.heap.size, 0, none⟩) 1
    (BSrc.src (BSrc.ofAt hb)) (by simp only [maxLen, List.length_singleton, ll]; omega) (by simp only [List.length_singleton, ll]; omega)
  rw [ll] at hrun
  simp only [List.length_singleton] at hrun
  have hk2 := K2 TQ tq_ne.1 _ _ (blk_alloc (show wr.drew.heap[w.heap.size + 1]? = _ from h1) (.cells #[.int .u8 y] 5))
  have he2 := K2 3 (by decide) _ _ (blk_alloc (show wr.drew.heap[w.heap.size]? = _ from h5) (.cells #[.int .u8 y] 5))
  have hS := setCell_heap w2 (w.heap.size + 1) 0 (.slice A' (j + 1) c') _ _ _ hk2
  have K1 : KeepT 5 w2 (w2.setCell ⟨w.heap.size + 1, 0, none⟩ (.slice A' (j + 1) c')) := KeepT.setCell hk2 (Ne.symm tq_ne.1) 0 _
  have K3 : KeepT 3 w2 (w2.setCell ⟨w.heap.size + 1, 0, none⟩ (.slice A' (j + 1) c')) := KeepT.setCell hk2 (Ne.symm tq_ne.2) 0 _
  have FA : Fr (fun b => w.heap.size ≤ b) wr w2 := (((Fr.drew _ wr).trans (Fr.alloc (fun b => w.heap.size ≤ b) _ _) fun _ _ h => h).trans F2 fun _ _ h => h.1)
  have FB : Fr (fun b => w.heap.size ≤ b) wr (w2.setCell ⟨w.heap.size + 1, 0, none⟩ (.slice A' (j + 1) c')) := FA.trans (Fr.set (F := fun b => w.heap.size ≤ b) _ (show w.heap.size ≤ w.heap.size + 1 by omega) _) fun _ _ h => h
  refine ⟨A, c, A', c', w2, cell_blk h1 0 rfl, hrun, cell_blk hk2 0 rfl, free_blk hk2 0, fun g hg => FA.block g (Nat.lt_of_lt_of_le hg B.size) (by omega), B.trans (FB.toBelow (fun _ h => h) B.size), A', c', by simpa using hS, ?_, K3 _ _ he2⟩
  have ht : p.take j ++ [y] = p.take (j + 1) := by rw [List.take_add_one, hy]; rfl
  rw [ht] at R2
  refine (R2.keeps K1).mono fun x hx => ?_
  rw [setCell_size]
  rcases hx with hx | hx
  · exact ⟨hx.1, by have := hx.2; have := FA.size; omega⟩
  · have := B.size
    simp at hx
    exact ⟨by omega, hx.2⟩
section
set_option maxHeartbeats 4000000 in
set_option maxRecDepth 100000 in
theorem refRead_any (w : World) {B : Option Addr} {cc : Nat} {p : List Int} (hy : BSrc w B p) (h63 : p.length ≤ 140737488355328) :
    Calls Try.prog 33 #[.slice B p.length cc] w fun e w' => ∃ k, e = .returned (.pointer (some ⟨k, 0, none⟩)) ∧ RefLies w' (fun b => w.heap.size ≤ b ∧ b < w'.heap.size) k ⟨p, [], 0⟩ ∧ Below w.heap.size w w' := by
  have HY := Lib.hid hy
  obtain ⟨n, hn⟩ : ∃ n, p.length = n := ⟨_, rfl⟩
  have HN := Lib.hid hn
  rw [hn] at h63 ⊢
  clear hy hn
  go_enter Try.func33, Try.ntmps33
  go_wp2_with (fail)
  refine wp_loop_ghost_k (fun (m : Nat) (ac : Act) (wr : World) => ∃ u1 u2 u5 u6 u7 u8 u9 u10 u11 u12 u13 u14 u15 u16 u17 u18 u19 u20 u21 u22 u23 u24 u25 u26 u27 u28 u29 v4 : Value, (∃ j : Nat, m + j = n ∧ v4 = .int .i64 j ∧ ReadI w n p wr j) ∧ ac = ({ tmps := #[.slice B n cc, u1, u2, .pointer (some ⟨w.heap.size + 1, 0, none⟩), v4, u5, u6, u7, u8, u9, u10, u11, u12, u13, u14, u15, u16, u17, u18, u19, u20, u21, u22, u23, u24, u25, u26, u27, u28, u29], defers := [] } : Act)) (n) ?atStart ?round
  case' atStart => ((repeat apply Exists.intro); refine ⟨?_, rfl⟩)
  case' round => (intro m ac wr hcut; obtain ⟨u1, hcut⟩ := hcut; obtain ⟨u2, hcut⟩ := hcut; obtain ⟨u5, hcut⟩ := hcut; obtain ⟨u6, hcut⟩ := hcut; obtain ⟨u7, hcut⟩ := hcut; obtain ⟨u8, hcut⟩ := hcut; obtain ⟨u9, hcut⟩ := hcut; obtain ⟨u10, hcut⟩ := hcut; obtain ⟨u11, hcut⟩ := hcut; obtain ⟨u12, hcut⟩ := hcut; obtain ⟨u13, hcut⟩ := hcut; obtain ⟨u14, hcut⟩ := hcut; obtain ⟨u15, hcut⟩ := hcut; obtain ⟨u16, hcut⟩ := hcut; obtain ⟨u17, hcut⟩ := hcut; obtain ⟨u18, hcut⟩ := hcut; obtain ⟨u19, hcut⟩ := hcut; obtain ⟨u20, hcut⟩ := hcut; obtain ⟨u21, hcut⟩ := hcut; obtain ⟨u22, hcut⟩ := hcut; obtain ⟨u23, hcut⟩ := hcut; obtain ⟨u24, hcut⟩ := hcut; obtain ⟨u25, hcut⟩ := hcut; obtain ⟨u26, hcut⟩ := hcut; obtain ⟨u27, hcut⟩ := hcut; obtain ⟨u28, hcut⟩ := hcut; obtain ⟨u29, hcut⟩ := hcut; obtain ⟨v4, hcut⟩ := hcut; obtain ⟨hcut, hac⟩ := hcut; subst hac; intro _ _ _ _)
  case atStart =>
    refine ⟨0, rfl, rfl, ((Below.refl _ _).alloc (Nat.le_refl _) _).alloc (by simp) _, none, 0, ?_, RowF.nil, ?_⟩
    · have := blk_new (w.alloc (.cells #[.int .i64 (n : Int)] 3)) (.cells #[.slice none 0 0, .int .i64 0, .slice (some ⟨w.heap.size, 0, none⟩) 1 1, .int .i64 0] TQ)
      simpa using this
    · exact blk_alloc (blk_new w (.cells #[.int .i64 (n : Int)] 3)) _
  case round =>
    obtain ⟨j, hm, rfl, R⟩ := hcut
    have HM := Lib.hid hm
    have HR := Lib.hid R
    by_cases hj : j < n
    · have hlw := HN.out
      obtain ⟨y, hy⟩ : ∃ y, p[j]? = some y := ⟨_, List.getElem?_eq_getElem (by omega)⟩
      have hne : p ≠ [] := by rintro rfl; simp at hy
      obtain ⟨g, o, hBg, hBA⟩ := HY.out hne
      subst hBg
      have hgl : g < w.heap.size := World.block_lt_of_cell? _ _ (hBA j y hy)
      have y0 : wr.cell? ⟨g, o + j, none⟩ = some (.int .u8 y) := cell_same (hBA j y hy) (R.1.block g hgl)
      obtain ⟨A, c, A', c', w2, x1, hrun, X1, xf, hsame, R2⟩ := read_push R hy (by omega)
      have Y1 : w2.cell? ⟨g, o + j, none⟩ = some (.int .u8 y) := cell_same y0 (hsame g hgl)
      have HRUN := Lib.hid hrun
      have HX := Lib.hid (And.intro X1 Y1)
      have HR2 := Lib.hid R2
      clear hm hy hne hBA hlw R hrun X1 Y1 hsame R2
      go_wp2_with (fail)
      refine start_ (n := 14) (S := fun w' => w'.cell? ⟨w.heap.size + 1, 0, none⟩ = some (.slice A j c) ∧ w'.cell? ⟨g, o + j, none⟩ = some (.int .u8 y)) (ds := [13]) #[false, false, false, false, false, false, false, false, false, false, false, false, false, false] (by kernel_rfl) rfl rfl ⟨x1, y0⟩ (fun hHeld => ?_)
      (refine take_ (i := 0) (N := some 16) (v := ?v_12) (a' := ?a_12) #[true, false, false, false, false, false, false, false, false, false, false, false, false, false] rfl rfl (by kernel_rfl) (fun _ _ _ h => h) (Or.inl ⟨by rfl, ?hy_12⟩) hHeld ?ha_12 ?hh_12; (case hy_12 => (rintro w' ⟨s0_, s1_⟩; go_simp; with_reducible rfl)); (case ha_12 => (simp (disch := omega) only [Act.put, List.setIfInBounds_toArray, List.set_cons_zero, List.set_cons_succ, wrap_in]; rfl)))
      (refine take_ (i := 1) (N := some 17) (v := ?v_13) (a' := ?a_13) #[true, true, false, false, false, false, false, false, false, false, false, false, false, false] rfl rfl (by kernel_rfl) (fun _ _ _ h => h) (Or.inl ⟨by rfl, ?hy_13⟩) hHeld ?ha_13 ?hh_13; (case hy_13 => (rintro w' ⟨s0_, s1_⟩; go_simp; with_reducible rfl)); (case ha_13 => (simp (disch := omega) only [Act.put, List.setIfInBounds_toArray, List.set_cons_zero, List.set_cons_succ, wrap_in]; rfl)))
      (refine take_ (i := 2) (N := some 18) (v := ?v_14) (a' := ?a_14) #[true, true, true, false, false, false, false, false, false, false, false, false, false, false] rfl rfl (by kernel_rfl) (fun _ _ _ h => h) (Or.inl ⟨by rfl, ?hy_14⟩) hHeld ?ha_14 ?hh_14; (case hy_14 => (rintro w' ⟨s0_, s1_⟩; go_simp; with_reducible rfl)); (case ha_14 => (simp (disch := omega) only [Act.put, List.setIfInBounds_toArray, List.set_cons_zero, List.set_cons_succ, wrap_in]; rfl)))
      (refine take_ (i := 3) (N := some 19) (v := ?v_15) (a' := ?a_15) #[true, true, true, true, false, false, false, false, false, false, false, false, false, false] rfl rfl (by kernel_rfl) (fun _ _ _ h => h) (Or.inl ⟨by rfl, ?hy_15⟩) hHeld ?ha_15 ?hh_15; (case hy_15 => (rintro w' ⟨s0_, s1_⟩; go_simp; with_reducible rfl)); (case ha_15 => (simp (disch := omega) only [Act.put, List.setIfInBounds_toArray, List.set_cons_zero, List.set_cons_succ, wrap_in]; rfl)))
      (refine take_ (i := 4) (N := some 20) (v := ?v_16) (a' := ?a_16) #[true, true, true, true, true, false, false, false, false, false, false, false, false, false] rfl rfl (by kernel_rfl) (fun _ _ _ h => h) (Or.inl ⟨by rfl, ?hy_16⟩) hHeld ?ha_16 ?hh_16; (case hy_16 => (rintro w' ⟨s0_, s1_⟩; go_simp; with_reducible rfl)); (case ha_16 => (simp (disch := omega) only [Act.put, List.setIfInBounds_toArray, List.set_cons_zero, List.set_cons_succ, wrap_in]; rfl)))
      (refine take_ (i := 5) (N := some 21) (v := ?v_17) (a' := ?a_17) #[true, true, true, true, true, true, false, false, false, false, false, false, false, false] rfl rfl (by kernel_rfl) (fun _ _ _ h => h) (Or.inl ⟨by rfl, ?hy_17⟩) hHeld ?ha_17 ?hh_17; (case hy_17 => (rintro w' ⟨s0_, s1_⟩; go_simp; with_reducible rfl)); (case ha_17 => (simp (disch := omega) only [Act.put, List.setIfInBounds_toArray, List.set_cons_zero, List.set_cons_succ, wrap_in]; rfl)))
      (refine take_ (i := 6) (N := some 22) (v := ?v_18) (a' := ?a_18) #[true, true, true, true, true, true, true, false, false, false, false, false, false, false] rfl rfl (by kernel_rfl) (fun _ _ _ h => h) (Or.inl ⟨by rfl, ?hy_18⟩) hHeld ?ha_18 ?hh_18; (case hy_18 => (rintro w' ⟨s0_, s1_⟩; go_simp; with_reducible rfl)); (case ha_18 => (simp (disch := omega) only [Act.put, List.setIfInBounds_toArray, List.set_cons_zero, List.set_cons_succ, wrap_in]; rfl)))
      (refine take_ (i := 7) (N := some 23) (v := ?v_19) (a' := ?a_19) #[true, true, true, true, true, true, true, true, false, false, false, false, false, false] rfl rfl (by kernel_rfl) (fun _ _ _ h => h) (Or.inl ⟨by rfl, ?hy_19⟩) hHeld ?ha_19 ?hh_19; (case hy_19 => (rintro w' ⟨s0_, s1_⟩; go_simp; with_reducible rfl)); (case ha_19 => (simp (disch := omega) only [Act.put, List.setIfInBounds_toArray, List.set_cons_zero, List.set_cons_succ, wrap_in]; rfl)))
      (refine take_ (i := 8) (N := some 24) (v := ?v_20) (a' := ?a_20) #[true, true, true, true, true, true, true, true, true, false, false, false, false, false] rfl rfl (by kernel_rfl) (fun _ _ _ h => h) (Or.inl ⟨by rfl, ?hy_20⟩) hHeld ?ha_20 ?hh_20; (case hy_20 => (rintro w' ⟨s0_, s1_⟩; go_simp; with_reducible rfl)); (case ha_20 => (simp (disch := omega) only [Act.put, List.setIfInBounds_toArray, List.set_cons_zero, List.set_cons_succ, wrap_in]; rfl)))
      refine one_ (i := 9) (N := some 25) #[true, true, true, true, true, true, true, true, true, true, false, false, false, false] rfl rfl (by kernel_rfl) (by decide) (fun K hK => ?_)
      (refine value_ (v := ?v_1) (w1 := ?w1_1) (by rfl) rfl ?hr_1 ?hk_1; (case hr_1 => (go_simp; first | with_reducible rfl | (constructor <;> with_reducible rfl))))
      (refine hK.out _ _ ?hs_2 ?hn_2; (case hs_2 => (obtain ⟨s0_, s1_⟩ := hHeld; exact ⟨cell_alloc_old s0_ _, cell_alloc_old s1_ _⟩)); intro hHeld; clear hK K)
      (refine norm_ (a' := ?a_3) ?ha_3 ?hh_3; (case ha_3 => (simp (disch := omega) only [Act.put, List.setIfInBounds_toArray, List.set_cons_zero, List.set_cons_succ, wrap_in]; rfl)))
      refine one_ (i := 10) (N := some 26) #[true, true, true, true, true, true, true, true, true, true, true, false, false, false] rfl rfl (by kernel_rfl) (by decide) (fun K hK => ?_)
      (have hrun := HRUN.out; refine value_ (by rfl) rfl (runapp_ hrun (by rfl) (by rfl) (by rfl) (by rfl)) ?hk_4)
      (refine hK.out _ _ ?hs_5 ?hn_5; (case hs_5 => (exact HX.out)); intro hHeld; clear hK K)
      (refine norm_ (a' := ?a_6) ?ha_6 ?hh_6; (case ha_6 => (simp (disch := omega) only [Act.put, List.setIfInBounds_toArray, List.set_cons_zero, List.set_cons_succ, wrap_in]; rfl)))
      (refine take_ (i := 11) (N := some 27) (v := ?v_7) (a' := ?a_7) #[true, true, true, true, true, true, true, true, true, true, true, true, false, false] rfl rfl (by kernel_rfl) (fun _ _ _ h => h) (Or.inl ⟨by rfl, ?hy_7⟩) hHeld ?ha_7 ?hh_7; (case hy_7 => (rintro w' ⟨s0_, s1_⟩; go_simp; with_reducible rfl)); (case ha_7 => (simp (disch := omega) only [Act.put, List.setIfInBounds_toArray, List.set_cons_zero, List.set_cons_succ, wrap_in]; rfl)))
      (refine take_ (i := 12) (N := some 28) (v := ?v_8) (a' := ?a_8) #[true, true, true, true, true, true, true, true, true, true, true, true, true, false] rfl rfl (by kernel_rfl) (fun _ _ _ h => h) (Or.inl ⟨by rfl, ?hy_8⟩) hHeld ?ha_8 ?hh_8; (case hy_8 => (rintro w' ⟨s0_, s1_⟩; go_simp; with_reducible rfl)); (case ha_8 => (simp (disch := omega) only [Act.put, List.setIfInBounds_toArray, List.set_cons_zero, List.set_cons_succ, wrap_in]; rfl)))
      refine last_ (i := 13) (N := none) #[true, true, true, true, true, true, true, true, true, true, true, true, true, true] rfl rfl (by kernel_rfl) (by decide) (fun K hK => ?_)
      (refine skip_ (w1 := ?w1_9) (by rfl) rfl ?hr_9 ?hk_9; (case hr_9 => (go_simp; first | with_reducible rfl | (constructor <;> with_reducible rfl))))
      (refine hK.out _ _ ?hn_10; clear hK K; try clear hHeld)
      refine done_ (by kernel_rfl) ?_
      go_wp2_with (fail)
      go_roundg (m - 1)
      case measure => have := HM.out; omega
      case rel => exact ⟨j + 1, by have := HM.out; omega, by go_num, HR2.out⟩
    · have hjn : j = n := by omega
      subst hjn
      clear hm R
      go_wp2_with (fail)
      go_ret
      obtain ⟨B1, A, c, h1, h3, h5⟩ := HR.out
      have hj := HN.out
      have ht : p.take j = p := List.take_of_length_le (by omega)
      rw [ht] at h3
      have hs := blk_lt h1
      refine ⟨_, rfl, ⟨p, 0, [j], A, c, _, 1, by rw [hj]; exact h1, ⟨by omega, hs⟩, h3, Or.inr ⟨_, rfl, ⟨Nat.le_refl _, by omega⟩, by simp, by simp [maxLen], _, h5, rfl, ?_⟩, rfl, ?_, ⟨j, rfl, Nat.zero_le _, by simp [← hj]⟩, ?_⟩, B1⟩
      · intro i x hx q v hv
        rcases i with _ | i
        · simp at hx; subst hx
          rcases q with _ | q
          · simpa [encPos] using hv
          · simp [encPos] at hv
        · simp at hx
      · intro x hx
        simp at hx; omega
      · intro i a b l _ hb _
        simp at hb
end
end Go.Proofs.Ytibelfljlhcibaa
namespace Go.Proofs.Ytibelfljlhcibaa
set_option linter.unusedVariables false
set_option linter.unusedSimpArgs false
open Go.RowKit Go.Deep Go.Proofs.YtibelfljlhcibaaW.PrintLast

/-- The reader of the reference has turned, its own blocks alone. -/
def UpdQ (F : Nat → Prop) (k : Nat) (w w' : World) (s : RS) : Prop := RefLies w' F k s ∧ Fr F w w'
/-- What bytes hands back. -/
def BytesP (F : Nat → Prop) (k : Nat) (w : World) (s : RS) (n : Nat) (e : Ending) (w' : World) : Prop :=
  match s.next n with
  | some (p, s') => (∃ A c, e = .returned (.slice A p.length c) ∧ GRow bc 5 1 w' w.heap.size A c p) ∧ UpdQ F k w w' s'
  | none => e = .returned (.slice none 0 0) ∧ UpdQ F k w w' s.short
section
variable {w w' w1 w2 : World} {F G : Nat → Prop} {k : Nat} {s s' : RS}
theorem UpdQ.refl (h : RefLies w F k s) : UpdQ F k w w s := ⟨h, Fr.refl F w⟩
theorem UpdQ.fault (h : RefLies w F k s) (e : Int) : UpdQ F k w (w.setCell ⟨k, 3, none⟩ (.int .i64 e)) { s with ft := e } := ⟨h.fault e, Fr.set w h.in_ _⟩
theorem UpdQ.of_below (h : RefLies w F k s) (hb : Below w.heap.size w w') : UpdQ F k w w' s := ⟨h.below hb, Fr.below F hb⟩
theorem UpdQ.trans (h : UpdQ F k w w1 s) (h' : UpdQ F k w1 w2 s') : UpdQ F k w w2 s' := ⟨h'.1, h.2.trans h'.2 fun _ _ h => h⟩
theorem UpdQ.after (hb : Below w.heap.size w w1) (h' : UpdQ F k w1 w2 s') : UpdQ F k w w2 s' := ⟨h'.1, (Fr.below F hb).trans h'.2 fun _ _ h => h⟩
theorem UpdQ.ahead (h : UpdQ F k w w1 s) (hb : Below w1.heap.size w1 w2) : UpdQ F k w w2 s := ⟨h.1.below hb, h.2.trans (Fr.below F hb) fun _ _ h => h⟩
theorem UpdQ.setFault (h : UpdQ F k w w' s) (e : Int) : UpdQ F k w (w'.setCell ⟨k, 3, none⟩ (.int .i64 e)) { s with ft := e } := ⟨h.1.fault e, h.2.trans (Fr.set w' h.1.in_ _) fun _ _ h => h⟩
theorem EndsOk.at_ {p : List Int} {i : Nat} {es : List Nat} (h : EndsOk p i es s) {j : Nat} (hj : j < s.left.length) : s.left[j]? = p[i + j]? := by
  obtain ⟨_, _, ⟨e, h3, h4, h5⟩, _⟩ := h
  rw [h5, List.length_drop, List.length_take] at hj
  rw [h5, List.getElem?_drop, List.getElem?_take, if_pos (by omega)]
theorem EndsOk.move {p : List Int} {i : Nat} {es : List Nat} (h : EndsOk p i es s) {n : Nat} (hn : n ≤ s.left.length) : EndsOk p (i + n) es { s with left := s.left.drop n } := by
  obtain ⟨e, g1, g2, g3, g4⟩ := h.left_len
  obtain ⟨h1, h2, ⟨e', h3, h4, h5⟩, h6⟩ := h
  rw [g1] at h3; injection h3 with h3; subst h3
  exact ⟨h1, h2, ⟨e, g1, by omega, by simp only; rw [h5, List.drop_drop]⟩, h6⟩
theorem RefLies.move (h : RefLies w F k s) {a : Int} (hi : w.cell? ⟨k, 1, none⟩ = some (.int .i64 a)) {n : Nat} (hn : n ≤ s.left.length) : RefLies (w.setCell ⟨k, 1, none⟩ (.int .i64 (a + n))) F k { s with left := s.left.drop n } := by
  obtain ⟨p, i, es, A, c, EA, ec, h1, h2, h3, h4, h5⟩ := h
  have e1 : w.cell? ⟨k, 1, none⟩ = some (.int .i64 i) := cell_blk h1 1 rfl
  rw [hi] at e1
  injection e1 with e1; injection e1 with _ e1; subst e1
  exact ⟨p, i + n, es, A, c, EA, ec, by simpa using setCell_heap w k 1 (.int .i64 ((i : Int) + n)) _ _ _ h1, h2, h3.keeps (KeepT.setCell h1 (Ne.symm tq_ne.1) 1 _), h4.keeps (KeepT.setCell h1 (Ne.symm tq_ne.2) 1 _), h5.move hn⟩
set_option maxHeartbeats 4000000 in
set_option maxRecDepth 100000 in
theorem refBytes_any (h : RefLies w F k s) (n : Nat) (hn : n ≤ 9223372036854775807) (h47 : s.left.length ≤ 140737488355328) :
    Calls Try.prog 116 #[.pointer (some ⟨k, 0, none⟩), .int .i64 n] w (BytesP F k w s n) := by
  have H := Lib.hid h
  have LF := Lib.hid (refLeft_any h)
  obtain ⟨p, i, es, A, c, EA, ec, h1, h2, h3, h4, h5⟩ := h
  obtain ⟨e, g1, g2, g3, g4⟩ := h5.left_len
  have HAT := Lib.hid (fun (j : Nat) (hj : j < s.left.length) => h5.at_ hj)
  have hcap := h3.le
  have hmax := h3.max
  simp only [maxLen] at hmax
  have hK := blk_lt h1
  have HK := Lib.hid hK
  have hpl : p.length ≤ 9223372036854775807 := by omega
  have e0 : w.cell? ⟨k, 0, none⟩ = some (.slice A p.length c) := cell_blk h1 0 rfl
  have e1 : w.cell? ⟨k, 1, none⟩ = some (.int .i64 i) := cell_blk h1 1 rfl
  have f3 : w.drew.frozen? ⟨k, 3, none⟩ = false := free_blk h1 3
  have e3 : w.drew.cell? ⟨k, 3, none⟩ = some (.int .i64 s.ft) := cell_blk (show w.drew.heap[k]? = _ from h1) 3 rfl
  have H1 := Lib.hid h1
  have H3 := Lib.hid h3
  obtain ⟨L, hL⟩ : ∃ L, s.left.length = L := ⟨_, rfl⟩
  obtain ⟨P, hP⟩ : ∃ P, p.length = P := ⟨_, rfl⟩
  have HL := Lib.hid hL
  have HP := Lib.hid hP
  rw [hP] at e0 g3 hpl
  rw [hL] at h47 g4
  have hiL : i + L ≤ P := by omega
  clear h1 h2 h3 h4 h5 g1 hmax hcap hL hP g2 g3 g4
  obtain ⟨t0, ht0⟩ := named (decide ((L : Int) < (n : Int)))
  go_enter Try.func116, Try.ntmps116
  cases t0
  · have hnl : n ≤ L := by simp at ht0; omega
    have HNL := Lib.hid hnl
    have HS := Lib.hid (show s.next n = some (s.left.take n, { s with left := s.left.drop n }) by unfold RS.next; rw [if_pos (by have := HL.out; omega)])
    have LF' := LF.out
    rw [HL.out] at LF'
    have LF2 := Lib.hid LF'
    clear LF'
    go_wp2_with (go_at_call 122; refine LF2.out.mono ?_; rintro e w_ ⟨rfl, rfl⟩)
    refine wp_loop_ghost_k (fun (m : Nat) (ac : Act) (wr : World) => ∃ u2 u3 u4 u7 u8 u9 u10 u11 u12 u13 u14 u15 u16 u17 u18 u19 u20 u21 u22 u23 u24 u25 u26 u27 u28 u29 u30 u31 u32 u33 u34 u35 u36 u37 u38 u39 u40 u41 u42 u43 v5 v6 : Value, (∃ (j : Nat) (A' : Option Addr) (c' : Nat), m + j = n ∧ v6 = .int .i64 j ∧ v5 = .slice A' j c' ∧ GRow bc 5 1 wr w.heap.size A' c' (s.left.take j) ∧ Below w.heap.size w wr) ∧ ac = ({ tmps := #[.pointer (some ⟨k, 0, none⟩), .int .i64 n, u2, u3, u4, v5, v6, u7, u8, u9, u10, u11, u12, u13, u14, u15, u16, u17, u18, u19, u20, u21, u22, u23, u24, u25, u26, u27, u28, u29, u30, u31, u32, u33, u34, u35, u36, u37, u38, u39, u40, u41, u42, u43], defers := [] } : Act)) (n) ?atStart ?round
    case' atStart => ((repeat apply Exists.intro); refine ⟨?_, rfl⟩)
    case' round => (intro m ac wr hcut; obtain ⟨u2, hcut⟩ := hcut; obtain ⟨u3, hcut⟩ := hcut; obtain ⟨u4, hcut⟩ := hcut; obtain ⟨u7, hcut⟩ := hcut; obtain ⟨u8, hcut⟩ := hcut; obtain ⟨u9, hcut⟩ := hcut; obtain ⟨u10, hcut⟩ := hcut; obtain ⟨u11, hcut⟩ := hcut; obtain ⟨u12, hcut⟩ := hcut; obtain ⟨u13, hcut⟩ := hcut; obtain ⟨u14, hcut⟩ := hcut; obtain ⟨u15, hcut⟩ := hcut; obtain ⟨u16, hcut⟩ := hcut; obtain ⟨u17, hcut⟩ := hcut; obtain ⟨u18, hcut⟩ := hcut; obtain ⟨u19, hcut⟩ := hcut; obtain ⟨u20, hcut⟩ := hcut; obtain ⟨u21, hcut⟩ := hcut; obtain ⟨u22, hcut⟩ := hcut; obtain ⟨u23, hcut⟩ := hcut; obtain ⟨u24, hcut⟩ := hcut; obtain ⟨u25, hcut⟩ := hcut; obtain ⟨u26, hcut⟩ := hcut; obtain ⟨u27, hcut⟩ := hcut; obtain ⟨u28, hcut⟩ := hcut; obtain ⟨u29, hcut⟩ := hcut; obtain ⟨u30, hcut⟩ := hcut; obtain ⟨u31, hcut⟩ := hcut; obtain ⟨u32, hcut⟩ := hcut; obtain ⟨u33, hcut⟩ := hcut; obtain ⟨u34, hcut⟩ := hcut; obtain ⟨u35, hcut⟩ := hcut; obtain ⟨u36, hcut⟩ := hcut; obtain ⟨u37, hcut⟩ := hcut; obtain ⟨u38, hcut⟩ := hcut; obtain ⟨u39, hcut⟩ := hcut; obtain ⟨u40, hcut⟩ := hcut; obtain ⟨u41, hcut⟩ := hcut; obtain ⟨u42, hcut⟩ := hcut; obtain ⟨u43, hcut⟩ := hcut; obtain ⟨v5, hcut⟩ := hcut; obtain ⟨v6, hcut⟩ := hcut; obtain ⟨hcut, hac⟩ := hcut; subst hac; intro _ _ _ _)
    case atStart => exact ⟨0, none, 0, rfl, rfl, rfl, GRow.nil, (Below.refl _ _).drew⟩
    case round =>
      obtain ⟨j, A', c', hm, rfl, rfl, G, B⟩ := hcut
      have x0 : wr.cell? ⟨k, 0, none⟩ = some (.slice A P c) := cell_same e0 (B.block k HK.out)
      have x1 : wr.cell? ⟨k, 1, none⟩ = some (.int .i64 i) := cell_same e1 (B.block k HK.out)
      have HM := Lib.hid hm
      have HG := Lib.hid G
      have HB := Lib.hid B
      by_cases hj : j < n
      · have hlw := HL.out
        have hpw := HP.out
        have hjl : j < s.left.length := by omega
        obtain ⟨y, hy⟩ : ∃ y, s.left[j]? = some y := ⟨_, List.getElem?_eq_getElem hjl⟩
        have hyp : p[i + j]? = some y := (HAT.out j hjl).symm.trans hy
        have hne : p ≠ [] := by rintro rfl; simp at hyp
        obtain ⟨g, o, hA, hBA⟩ := BSrc.ofRow H3.out hne
        subst hA
        have hgl : g < w.heap.size := World.block_lt_of_cell? _ _ (hBA (i + j) y hyp)
        have y0 : wr.cell? ⟨g, o + (i + j), none⟩ = some (.int .u8 y) := cell_same (hBA (i + j) y hyp) (B.block g hgl)
        have ll : (s.left.take j).length = j := by rw [List.length_take]; omega
        obtain ⟨A1, c2, w2, hrun, G2, B2, _⟩ := GRow.push elBy (HG.out.keeps (KeepT.drew _ wr)) 23 y HB.out.drew HB.out.drew.size (by rw [ll]; simp only [maxLen]; omega) (by rw [ll]; omega)
        rw [ll] at hrun
        have hq : (i : Int) + (j : Int) < (P : Int) := by omega
        have hq0 : (0 : Int) ≤ (i : Int) + (j : Int) := by omega
        have hq1 : ((i : Int) + (j : Int)).toNat = i + j := by omega
        have HX := Lib.hid (show w2.cell? ⟨k, 0, none⟩ = some (.slice (some ⟨g, o, none⟩) P c) ∧ w2.cell? ⟨k, 1, none⟩ = some (.int .i64 i) ∧ w2.cell? ⟨g, o + (i + j), none⟩ = some (.int .u8 y) from
          ⟨cell_same e0 (B2.block k HK.out), cell_same e1 (B2.block k HK.out), cell_same (hBA (i + j) y hyp) (B2.block g hgl)⟩)
        have HRUN := Lib.hid hrun
        have HG2 := Lib.hid G2
        have HB2 := Lib.hid B2
        have HTK := Lib.hid (show s.left.take j ++ [y] = s.left.take (j + 1) by rw [List.take_add_one, hy]; rfl)
        clear hm hy hne hBA hlw hpw G B hrun G2 B2 ll hgl hyp hjl e0 e1
        go_wp2_with (fail)
        refine start_ (n := 16) (S := fun w' => w'.cell? ⟨k, 0, none⟩ = some (.slice (some ⟨g, o, none⟩) P c) ∧ w'.cell? ⟨k, 1, none⟩ = some (.int .i64 i) ∧ w'.cell? ⟨g, o + (i + j), none⟩ = some (.int .u8 y)) (ds := []) #[false, false, false, false, false, false, false, false, false, false, false, false, false, false, false, false] (by kernel_rfl) rfl rfl ⟨x0, x1, y0⟩ (fun hHeld => ?_)
        (refine take_ (i := 0) (N := some 19) (v := ?v_29) (a' := ?a_29) #[true, false, false, false, false, false, false, false, false, false, false, false, false, false, false, false] rfl rfl (by kernel_rfl) (fun _ _ _ h => h) (Or.inl ⟨by rfl, ?hy_29⟩) hHeld ?ha_29 ?hh_29; (case hy_29 => (rintro w' ⟨s0_, s1_, s2_⟩; go_simp; with_reducible rfl)); (case ha_29 => (simp (disch := omega) only [Act.put, List.setIfInBounds_toArray, List.set_cons_zero, List.set_cons_succ, wrap_in]; rfl)))
        (refine take_ (i := 1) (N := some 20) (v := ?v_30) (a' := ?a_30) #[true, true, false, false, false, false, false, false, false, false, false, false, false, false, false, false] rfl rfl (by kernel_rfl) (fun _ _ _ h => h) (Or.inl ⟨by rfl, ?hy_30⟩) hHeld ?ha_30 ?hh_30; (case hy_30 => (rintro w' ⟨s0_, s1_, s2_⟩; go_simp; with_reducible rfl)); (case ha_30 => (simp (disch := omega) only [Act.put, List.setIfInBounds_toArray, List.set_cons_zero, List.set_cons_succ, wrap_in]; rfl)))
        (refine take_ (i := 2) (N := some 21) (v := ?v_31) (a' := ?a_31) #[true, true, true, false, false, false, false, false, false, false, false, false, false, false, false, false] rfl rfl (by kernel_rfl) (fun _ _ _ h => h) (Or.inl ⟨by rfl, ?hy_31⟩) hHeld ?ha_31 ?hh_31; (case hy_31 => (rintro w' ⟨s0_, s1_, s2_⟩; go_simp; with_reducible rfl)); (case ha_31 => (simp (disch := omega) only [Act.put, List.setIfInBounds_toArray, List.set_cons_zero, List.set_cons_succ, wrap_in]; rfl)))
        (refine take_ (i := 3) (N := some 22) (v := ?v_32) (a' := ?a_32) #[true, true, true, true, false, false, false, false, false, false, false, false, false, false, false, false] rfl rfl (by kernel_rfl) (fun _ _ _ h => h) (Or.inl ⟨by rfl, ?hy_32⟩) hHeld ?ha_32 ?hh_32; (case hy_32 => (rintro w' ⟨s0_, s1_, s2_⟩; go_simp; with_reducible rfl)); (case ha_32 => (simp (disch := omega) only [Act.put, List.setIfInBounds_toArray, List.set_cons_zero, List.set_cons_succ, wrap_in]; rfl)))
        (refine take_ (i := 4) (N := some 23) (v := ?v_33) (a' := ?a_33) #[true, true, true, true, true, false, false, false, false, false, false, false, false, false, false, false] rfl rfl (by kernel_rfl) (fun _ _ _ h => h) (Or.inl ⟨by rfl, ?hy_33⟩) hHeld ?ha_33 ?hh_33; (case hy_33 => (rintro w' ⟨s0_, s1_, s2_⟩; go_simp; with_reducible rfl)); (case ha_33 => (simp (disch := omega) only [Act.put, List.setIfInBounds_toArray, List.set_cons_zero, List.set_cons_succ, wrap_in]; rfl)))
        (refine take_ (i := 5) (N := some 24) (v := ?v_34) (a' := ?a_34) #[true, true, true, true, true, true, false, false, false, false, false, false, false, false, false, false] rfl rfl (by kernel_rfl) (fun _ _ _ h => h) (Or.inl ⟨by rfl, ?hy_34⟩) hHeld ?ha_34 ?hh_34; (case hy_34 => (rintro w' ⟨s0_, s1_, s2_⟩; go_simp; with_reducible rfl)); (case ha_34 => (simp (disch := omega) only [Act.put, List.setIfInBounds_toArray, List.set_cons_zero, List.set_cons_succ, wrap_in]; rfl)))
        (refine take_ (i := 6) (N := some 25) (v := ?v_35) (a' := ?a_35) #[true, true, true, true, true, true, true, false, false, false, false, false, false, false, false, false] rfl rfl (by kernel_rfl) (fun _ _ _ h => h) (Or.inl ⟨by rfl, ?hy_35⟩) hHeld ?ha_35 ?hh_35; (case hy_35 => (rintro w' ⟨s0_, s1_, s2_⟩; go_simp; with_reducible rfl)); (case ha_35 => (simp (disch := omega) only [Act.put, List.setIfInBounds_toArray, List.set_cons_zero, List.set_cons_succ, wrap_in]; rfl)))
        (refine take_ (i := 7) (N := some 26) (v := ?v_36) (a' := ?a_36) #[true, true, true, true, true, true, true, true, false, false, false, false, false, false, false, false] rfl rfl (by kernel_rfl) (fun _ _ _ h => h) (Or.inl ⟨by rfl, ?hy_36⟩) hHeld ?ha_36 ?hh_36; (case hy_36 => (rintro w' ⟨s0_, s1_, s2_⟩; go_simp; with_reducible rfl)); (case ha_36 => (simp (disch := omega) only [Act.put, List.setIfInBounds_toArray, List.set_cons_zero, List.set_cons_succ, wrap_in]; rfl)))
        (refine take_ (i := 8) (N := some 27) (v := ?v_37) (a' := ?a_37) #[true, true, true, true, true, true, true, true, true, false, false, false, false, false, false, false] rfl rfl (by kernel_rfl) (fun _ _ _ h => h) (Or.inl ⟨by rfl, ?hy_37⟩) hHeld ?ha_37 ?hh_37; (case hy_37 => (rintro w' ⟨s0_, s1_, s2_⟩; go_simp; with_reducible rfl)); (case ha_37 => (simp (disch := omega) only [Act.put, List.setIfInBounds_toArray, List.set_cons_zero, List.set_cons_succ, wrap_in]; rfl)))
        (refine take_ (i := 9) (N := some 28) (v := ?v_38) (a' := ?a_38) #[true, true, true, true, true, true, true, true, true, true, false, false, false, false, false, false] rfl rfl (by kernel_rfl) (fun _ _ _ h => h) (Or.inl ⟨by rfl, ?hy_38⟩) hHeld ?ha_38 ?hh_38; (case hy_38 => (rintro w' ⟨s0_, s1_, s2_⟩; go_simp; with_reducible rfl)); (case ha_38 => (simp (disch := omega) only [Act.put, List.setIfInBounds_toArray, List.set_cons_zero, List.set_cons_succ, wrap_in]; rfl)))
        (refine take_ (i := 10) (N := some 29) (v := ?v_39) (a' := ?a_39) #[true, true, true, true, true, true, true, true, true, true, true, false, false, false, false, false] rfl rfl (by kernel_rfl) (fun _ _ _ h => h) (Or.inl ⟨by rfl, ?hy_39⟩) hHeld ?ha_39 ?hh_39; (case hy_39 => (rintro w' ⟨s0_, s1_, s2_⟩; go_simp; with_reducible rfl)); (case ha_39 => (simp (disch := omega) only [Act.put, List.setIfInBounds_toArray, List.set_cons_zero, List.set_cons_succ, wrap_in]; rfl)))
        (refine take_ (i := 11) (N := some 30) (v := ?v_40) (a' := ?a_40) #[true, true, true, true, true, true, true, true, true, true, true, true, false, false, false, false] rfl rfl (by kernel_rfl) (fun _ _ _ h => h) (Or.inl ⟨by rfl, ?hy_40⟩) hHeld ?ha_40 ?hh_40; (case hy_40 => (rintro w' ⟨s0_, s1_, s2_⟩; go_simp; with_reducible rfl)); (case ha_40 => (simp (disch := omega) only [Act.put, List.setIfInBounds_toArray, List.set_cons_zero, List.set_cons_succ, wrap_in]; rfl)))
        (refine take_ (i := 12) (N := some 31) (v := ?v_41) (a' := ?a_41) #[true, true, true, true, true, true, true, true, true, true, true, true, true, false, false, false] rfl rfl (by kernel_rfl) (fun _ _ _ h => h) (Or.inl ⟨by rfl, ?hy_41⟩) hHeld ?ha_41 ?hh_41; (case hy_41 => (rintro w' ⟨s0_, s1_, s2_⟩; go_simp; with_reducible rfl)); (case ha_41 => (simp (disch := omega) only [Act.put, List.setIfInBounds_toArray, List.set_cons_zero, List.set_cons_succ, wrap_in]; rfl)))
        refine one_ (i := 13) (N := some 32) #[true, true, true, true, true, true, true, true, true, true, true, true, true, true, false, false] rfl rfl (by kernel_rfl) (by decide) (fun K hK => ?_)
        (refine value_ (v := ?v_21) (w1 := ?w1_21) (by rfl) rfl ?hr_21 ?hk_21; (case hr_21 => (go_simp; first | with_reducible rfl | (constructor <;> with_reducible rfl))))
        (refine hK.out _ _ ?hs_22 ?hn_22; (case hs_22 => (obtain ⟨s0_, s1_, s2_⟩ := hHeld; exact ⟨cell_alloc_old s0_ _, cell_alloc_old s1_ _, cell_alloc_old s2_ _⟩)); intro hHeld; clear hK K)
        (refine norm_ (a' := ?a_23) ?ha_23 ?hh_23; (case ha_23 => (simp (disch := omega) only [Act.put, List.setIfInBounds_toArray, List.set_cons_zero, List.set_cons_succ, wrap_in]; rfl)))
        refine one_ (i := 14) (N := some 33) #[true, true, true, true, true, true, true, true, true, true, true, true, true, true, true, false] rfl rfl (by kernel_rfl) (by decide) (fun K hK => ?_)
        (have hrun := HRUN.out; refine value_ (by rfl) rfl (runapp_ hrun (by rfl) (by rfl) (by rfl) (by rfl)) ?hk_24)
        (refine hK.out _ _ ?hs_25 ?hn_25; (case hs_25 => (exact HX.out)); intro hHeld; clear hK K)
        (refine norm_ (a' := ?a_26) ?ha_26 ?hh_26; (case ha_26 => (simp (disch := omega) only [Act.put, List.setIfInBounds_toArray, List.set_cons_zero, List.set_cons_succ, wrap_in]; rfl)))
        (refine take_ (i := 15) (N := some 5) (v := ?v_27) (a' := ?a_27) #[true, true, true, true, true, true, true, true, true, true, true, true, true, true, true, true] rfl rfl (by kernel_rfl) (fun _ _ _ h => h) (Or.inl ⟨by rfl, ?hy_27⟩) hHeld ?ha_27 ?hh_27; (case hy_27 => (rintro w' ⟨s0_, s1_, s2_⟩; go_simp; with_reducible rfl)); (case ha_27 => (simp (disch := omega) only [Act.put, List.setIfInBounds_toArray, List.set_cons_zero, List.set_cons_succ, wrap_in]; rfl)))
        refine done_ (by kernel_rfl) ?_
        go_wp2_with (fail)
        go_roundg (m - 1)
        case measure => have := HM.out; omega
        case rel =>
          refine ⟨j + 1, A1, c2, by have := HM.out; omega, by go_num, rfl, ?_, HB2.out⟩
          rw [← HTK.out]; exact HG2.out
      · have hjn : j = n := by have := HM.out; omega
        subst hjn
        have HR := Lib.hid (H.out.below HB.out)
        have fr := free_blk ((HB.out.block k HK.out).trans H1.out) 1
        have HMV := Lib.hid (HR.out.move (n := j) x1 (by have := HL.out; have := HNL.out; omega))
        clear hm G B
        go_wp2_with (fail)
        go_wp2_with (fail)
        go_ret
        unfold BytesP
        rw [HS.out]
        have ll : (s.left.take j).length = j := by rw [List.length_take]; have := HL.out; have := HNL.out; omega
        refine ⟨⟨A', c', by rw [ll]; rfl, ?_⟩, ?_, ?_⟩
        · exact HG.out.keeps (KeepT.setCell ((HB.out.block k HK.out).trans H1.out) (Ne.symm tq_ne.1) 1 _)
        · exact HMV.out
        · exact (Fr.below F HB.out).trans (Fr.set (F := F) wr H.out.in_ _) fun _ _ h => h
  · have hnl : L < n := by simpa using ht0
    have HS := Lib.hid (show s.next n = none by unfold RS.next; rw [if_neg (by have := HL.out; omega)])
    have LF' := LF.out
    rw [HL.out] at LF'
    have LF2 := Lib.hid LF'
    clear LF'
    go_wp2_with (go_at_call 122; refine LF2.out.mono ?_; rintro e w_ ⟨rfl, rfl⟩)
    go_ret
    unfold BytesP
    rw [HS.out]
    exact ⟨rfl, UpdQ.after ((Below.refl _ _).drew) (UpdQ.fault H.out.drew 10)⟩
end
end Go.Proofs.Ytibelfljlhcibaa
namespace Go.Proofs.Ytibelfljlhcibaa
set_option linter.unusedVariables false
set_option linter.unusedSimpArgs false
open Go.RowKit Go.Deep Go.Proofs.YtibelfljlhcibaaW.PrintLast

section
variable {w w' w1 w2 : World} {F G : Nat → Prop} {k : Nat} {s s' : RS}
/-- bytes, of one byte. -/
theorem refBytes1_any (h : RefLies w F k s) (h47 : s.left.length ≤ 140737488355328) :
    Calls Try.prog 116 #[.pointer (some ⟨k, 0, none⟩), .int .i64 1] w fun e w' => match s.left with
      | [] => e = .returned (.slice none 0 0) ∧ UpdQ F k w w' s.short
      | x :: t => (∃ g c, e = .returned (.slice (some ⟨g, 0, none⟩) 1 c) ∧ w'.cell? ⟨g, 0, none⟩ = some (.int .u8 x)) ∧ UpdQ F k w w' { s with left := t } := by
  refine (show Calls _ _ #[_, .int .i64 1] w _ from refBytes_any h 1 (by omega) h47).mono fun e w' hn => ?_
  unfold BytesP RS.next at hn
  cases hl : s.left with
  | nil =>
    rw [hl] at hn
    rw [if_neg (by simp)] at hn
    exact ⟨hn.1, hn.2⟩
  | cons x t =>
    rw [hl] at hn
    rw [if_pos (by simp)] at hn
    obtain ⟨⟨A, c, rfl, hb⟩, hu⟩ := hn
    obtain ⟨g, rfl, hc⟩ := hb.cell (i := 0) (x := x) (by simp) (j := 0) (v := .int .u8 x) (by simp [bc])
    exact ⟨⟨g, c, by simp, by simpa using hc⟩, by simpa using hu⟩
theorem RefLies.ftCell (h : RefLies w F k s) : w.cell? ⟨k, 3, none⟩ = some (.int .i64 s.ft) ∧ w.frozen? ⟨k, 3, none⟩ = false := by
  obtain ⟨p, i, es, A, c, EA, ec, h1, _⟩ := h
  exact ⟨cell_blk h1 3 rfl, free_blk h1 3⟩
set_option maxHeartbeats 2000000 in
theorem refRByte_any (h : RefLies w F k s) (hb : Byt s.left) (h47 : s.left.length ≤ 140737488355328) :
    Calls Try.prog 71 #[.pointer (some ⟨k, 0, none⟩)] w fun e w' => e = .returned (.int .i64 s.byte.1) ∧ UpdQ F k w w' s.byte.2 := by
  have DE := Lib.hid (refRDead_any h)
  have BY := Lib.hid (refBytes1_any h h47)
  have H := Lib.hid h
  have HB := Lib.hid hb
  obtain ⟨left, outer, ft⟩ := s
  simp only at DE BY HB
  clear h hb h47
  by_cases hf : ft = 0
  · subst hf
    cases left with
    | nil =>
      go_enter Try.func71, Try.ntmps71
      go_wp2_with (go_at_call 115; refine DE.out.mono ?_; rintro e w_ ⟨rfl, rfl⟩)
      refine BY.out.mono ?_
      rintro e w2 ⟨rfl, U2⟩
      obtain ⟨c3, _⟩ := U2.1.ftCell
      simp only [RS.short] at c3
      have HU := Lib.hid U2
      clear U2
      go_wp2_with (fail)
      go_ret
      exact ⟨rfl, HU.out⟩
    | cons x t =>
      have hx := HB.out x List.mem_cons_self
      obtain ⟨x0, x1⟩ := hx
      go_enter Try.func71, Try.ntmps71
      go_wp2_with (go_at_call 115; refine DE.out.mono ?_; rintro e w_ ⟨rfl, rfl⟩)
      refine BY.out.mono ?_
      rintro e w2 ⟨⟨g, c, rfl, y0⟩, U2⟩
      obtain ⟨c3, _⟩ := U2.1.ftCell
      simp only at c3
      have HU := Lib.hid U2
      clear U2
      go_wp2_with (fail)
      go_ret
      exact ⟨by go_num, HU.out⟩
  · have e1 : (RS.mk left outer ft).byte = (0, RS.mk left outer ft) := by unfold RS.byte; rw [if_neg hf]
    have hne : (ft != 0) = true := by simpa using hf
    rw [e1]
    rw [hne] at DE
    go_enter Try.func71, Try.ntmps71
    go_wp2_with (go_at_call 115; refine DE.out.mono ?_; rintro e w_ ⟨rfl, rfl⟩)
    go_ret
    exact ⟨rfl, UpdQ.refl H.out⟩
theorem num_step (j n : Nat) (c : Int) (hj : j ≤ 9) (hn : n < 128 ^ j) (c0 : 0 ≤ c) (c1 : c < 256) (h : ¬ ((j = 9 ∧ 1 < c) ∨ (0 < j ∧ c = 0))) :
    IntKind.u64.wrap ((n : Int) + IntKind.u64.wrap (128 ^ j * (c % 128))) = ((n + (c % 128).toNat * 128 ^ j : Nat) : Int) := by
  obtain ⟨x, hx⟩ : ∃ x : Nat, c % 128 = x := ⟨(c % 128).toNat, by omega⟩
  have hq : ((128 : Int) ^ j) = ((128 ^ j : Nat) : Int) := by push_cast; rfl
  have hx2 : j = 9 → x ≤ 1 := by intro; omega
  have hx1 : x ≤ 127 := by omega
  rw [hx, hq, Int.toNat_natCast]
  have hb : x * 128 ^ j ≤ 127 * 72057594037927936 ∨ (128 ^ j = 9223372036854775808 ∧ x ≤ 1) := by
    by_cases h9 : j = 9
    · exact Or.inr ⟨by subst h9; decide, hx2 h9⟩
    · exact Or.inl (Nat.mul_le_mul hx1 (Nat.le_trans (Nat.pow_le_pow_right (by decide) (by omega : j ≤ 8)) (by decide)))
  have hp9 : 128 ^ j ≤ 9223372036854775808 := Nat.le_trans (Nat.pow_le_pow_right (by decide) hj) (by decide)
  generalize 128 ^ j = q at *
  have e : (q : Int) * (x : Int) = ((x * q : Nat) : Int) := by rw [Nat.mul_comm]; push_cast; rfl
  rw [e]
  have hy : x * q ≤ 9223372036854775808 + 0 ∨ x * q ≤ 127 * 72057594037927936 := by
    rcases hb with hb | ⟨rfl, hb⟩
    · exact Or.inr hb
    · left; omega
  generalize x * q = y at *
  have e1 : IntKind.u64.wrap (y : Int) = y := IntWalk.u64_in _ (by omega)
  rw [e1, IntWalk.u64_in _ (by omega)]
  omega
theorem scale_step (j : Nat) (h : j ≤ 8) : IntKind.u64.wrap (128 * 128 ^ j) = ((128 ^ (j + 1) : Nat) : Int) := by
  have h8 : 128 ^ j ≤ 72057594037927936 := Nat.le_trans (Nat.pow_le_pow_right (by decide) h) (by decide)
  have hq : ((128 : Int) ^ j) = ((128 ^ j : Nat) : Int) := by push_cast; rfl
  rw [hq, Nat.pow_succ]
  generalize 128 ^ j = q at *
  rw [IntWalk.u64_in _ (by omega)]
  omega
theorem pow128 {j : Nat} (hj : j ≤ 9) : 128 ^ j ≤ 9223372036854775808 := Nat.le_trans (Nat.pow_le_pow_right (by decide) hj) (by decide)
set_option maxRecDepth 100000 in
set_option maxHeartbeats 4000000 in
theorem refNumber_any (h : RefLies w F k s) (hft : s.ft = 0) (hb : Byt s.left) (h47 : s.left.length ≤ 140737488355328) :
    Calls Try.prog 118 #[.pointer (some ⟨k, 0, none⟩)] w fun e w' => e = .returned (.int .u64 (s.num.1 : Nat)) ∧ UpdQ F k w w' s.num.2 := by
  have H := Lib.hid h
  have HB := Lib.hid hb
  have HFT := Lib.hid hft
  have H47 := Lib.hid h47
  have U0 := Lib.hid (show UpdQ F k w w { s with left := s.left } from UpdQ.refl h)
  clear h hb hft h47
  go_enter Try.func118, Try.ntmps118
  go_wp2_with (fail)
  refine wp_loop_ghost_k (fun (m : Nat) (ac : Act) (wr : World) => ∃ u1 u2 u6 u7 u8 u9 u10 u11 u12 u13 u14 u15 u16 u17 u18 u19 u20 u21 u22 u23 u24 u25 u26 u27 u28 u29 u30 u31 u32 u33 u34 u35 u36 u37 u38 u39 u40 u41 u42 u43 u44 u45 u46 u47 u48 u49 u50 v3 v4 v5 : Value, (∃ (j n : Nat) (l : List Int), m + j = 10 ∧ v3 = .int .u64 n ∧ v4 = .int .u64 (128 ^ j : Nat) ∧ v5 = .int .i64 j ∧ readN j n l = readN 0 0 s.left ∧ n < 128 ^ j ∧ j ≤ 9 ∧ UpdQ F k w wr { s with left := l } ∧ Byt l ∧ l.length ≤ s.left.length) ∧ ac = ({ tmps := #[.pointer (some ⟨k, 0, none⟩), u1, u2, v3, v4, v5, u6, u7, u8, u9, u10, u11, u12, u13, u14, u15, u16, u17, u18, u19, u20, u21, u22, u23, u24, u25, u26, u27, u28, u29, u30, u31, u32, u33, u34, u35, u36, u37, u38, u39, u40, u41, u42, u43, u44, u45, u46, u47, u48, u49, u50], defers := [] } : Act)) (10) ?atStart ?round
  case' atStart => ((repeat apply Exists.intro); refine ⟨?_, rfl⟩)
  case' round => (intro m ac wr hcut; obtain ⟨u1, hcut⟩ := hcut; obtain ⟨u2, hcut⟩ := hcut; obtain ⟨u6, hcut⟩ := hcut; obtain ⟨u7, hcut⟩ := hcut; obtain ⟨u8, hcut⟩ := hcut; obtain ⟨u9, hcut⟩ := hcut; obtain ⟨u10, hcut⟩ := hcut; obtain ⟨u11, hcut⟩ := hcut; obtain ⟨u12, hcut⟩ := hcut; obtain ⟨u13, hcut⟩ := hcut; obtain ⟨u14, hcut⟩ := hcut; obtain ⟨u15, hcut⟩ := hcut; obtain ⟨u16, hcut⟩ := hcut; obtain ⟨u17, hcut⟩ := hcut; obtain ⟨u18, hcut⟩ := hcut; obtain ⟨u19, hcut⟩ := hcut; obtain ⟨u20, hcut⟩ := hcut; obtain ⟨u21, hcut⟩ := hcut; obtain ⟨u22, hcut⟩ := hcut; obtain ⟨u23, hcut⟩ := hcut; obtain ⟨u24, hcut⟩ := hcut; obtain ⟨u25, hcut⟩ := hcut; obtain ⟨u26, hcut⟩ := hcut; obtain ⟨u27, hcut⟩ := hcut; obtain ⟨u28, hcut⟩ := hcut; obtain ⟨u29, hcut⟩ := hcut; obtain ⟨u30, hcut⟩ := hcut; obtain ⟨u31, hcut⟩ := hcut; obtain ⟨u32, hcut⟩ := hcut; obtain ⟨u33, hcut⟩ := hcut; obtain ⟨u34, hcut⟩ := hcut; obtain ⟨u35, hcut⟩ := hcut; obtain ⟨u36, hcut⟩ := hcut; obtain ⟨u37, hcut⟩ := hcut; obtain ⟨u38, hcut⟩ := hcut; obtain ⟨u39, hcut⟩ := hcut; obtain ⟨u40, hcut⟩ := hcut; obtain ⟨u41, hcut⟩ := hcut; obtain ⟨u42, hcut⟩ := hcut; obtain ⟨u43, hcut⟩ := hcut; obtain ⟨u44, hcut⟩ := hcut; obtain ⟨u45, hcut⟩ := hcut; obtain ⟨u46, hcut⟩ := hcut; obtain ⟨u47, hcut⟩ := hcut; obtain ⟨u48, hcut⟩ := hcut; obtain ⟨u49, hcut⟩ := hcut; obtain ⟨u50, hcut⟩ := hcut; obtain ⟨v3, hcut⟩ := hcut; obtain ⟨v4, hcut⟩ := hcut; obtain ⟨v5, hcut⟩ := hcut; obtain ⟨hcut, hac⟩ := hcut; subst hac; intro _ _ _ _)
  case atStart => exact ⟨0, 0, s.left, rfl, rfl, rfl, rfl, rfl, by simp, by omega, U0.out, HB.out, Nat.le_refl _⟩
  case round =>
    obtain ⟨j, n, l, hm, rfl, rfl, rfl, hr, hn, hj, U, hb', hll⟩ := hcut
    have NX := Lib.hid (refBytes1_any U.1 (show l.length ≤ _ from Nat.le_trans hll H47.out))
    have HR := Lib.hid hr
    have HN := Lib.hid hn
    have HM := Lib.hid hm
    have HU := Lib.hid U
    have HLL := Lib.hid hll
    have hj10 : (j : Int) < 10 := by omega
    clear U HB hr hn hm hll
    cases l with
    | nil =>
      go_wp2_with (fail)
      refine NX.out.mono ?_
      rintro e w2 ⟨rfl, U2⟩
      have e1 : s.num = (0, { s with left := [], ft := 10 }) := by
        unfold RS.num
        rw [if_pos HFT.out, ← HR.out]
        rfl
      have HUU := Lib.hid (HU.out.trans U2)
      obtain ⟨c3, _⟩ := U2.1.ftCell
      simp only [RS.short] at c3
      clear U2
      go_wp2_with (fail)
      go_ret
      rw [e1]
      exact ⟨rfl, HUU.out⟩
    | cons c t =>
      have hc := hb' c (List.mem_cons_self)
      have HT := Lib.hid (show Byt t from fun x hx => hb' x (List.mem_cons_of_mem c hx))
      clear hb'
      obtain ⟨t1, ht1⟩ := named ((j : Int) == 9)
      obtain ⟨t2, ht2⟩ := named (decide (1 < c))
      obtain ⟨t3, ht3⟩ := named (decide (0 < (j : Int)))
      obtain ⟨t4, ht4⟩ := named (c == 0)
      obtain ⟨t5, ht5⟩ := named (decide (c < 128))
      obtain ⟨c0, c1⟩ := hc
      go_wp2_with (fail)
      refine NX.out.mono ?_
      rintro e w2 ⟨⟨g, o, rfl, x0⟩, U2⟩
      have HU2 := Lib.hid (HU.out.trans U2)
      obtain ⟨k3, f3⟩ := U2.1.ftCell
      have fault : (j = 9 ∧ 1 < c) ∨ (0 < j ∧ c = 0) → s.num = (0, { s with left := t, ft := 11 }) := by
        intro h
        unfold RS.num
        rw [if_pos HFT.out, ← HR.out]
        unfold readN
        rw [if_pos h]
        rfl
      have FA := Lib.hid fault
      have HNX := Lib.hid (show ¬ ((j = 9 ∧ 1 < c) ∨ (0 < j ∧ c = 0)) → c < 128 → s.num = (n + (c % 128).toNat * 128 ^ j, { s with left := t }) by
        intro h h5
        unfold RS.num
        rw [if_pos HFT.out, ← HR.out]
        unfold readN
        rw [if_neg h, if_pos h5]
        simp [HFT.out])
      have hp9 := pow128 hj
      have OG := Lib.hid (fun h => num_step j n c hj HN.out c0 c1 h)
      have OG2 := Lib.hid (show j ≤ 8 → IntKind.u64.wrap (128 * 128 ^ j) = ((128 ^ (j + 1) : Nat) : Int) from fun h => scale_step j h)
      clear fault U2 hp9
      simp only at k3
      rw [HFT.out] at k3
      go_wp2_with (fail)
      all_goals
        have d1 : t1 = true ↔ j = 9 := by rw [← ht1]; simp; omega
        have d2 : t2 = true ↔ 1 < c := by rw [← ht2]; simp
        have d3 : t3 = true ↔ 0 < j := by rw [← ht3]; simp
        have d4 : t4 = true ↔ c = 0 := by rw [← ht4]; simp
        have d5 : t5 = true ↔ c < 128 := by rw [← ht5]; simp
        have D := Lib.hid (And.intro d1 (And.intro d2 (And.intro d3 (And.intro d4 d5))))
        clear d1 d2 d3 d4 d5
      all_goals first
        | (have hf : (j = 9 ∧ 1 < c) ∨ (0 < j ∧ c = 0) := by
             obtain ⟨d1, d2, d3, d4, d5⟩ := D.out
             first
             | (left; exact ⟨d1.1 (by assumption), d2.1 (by assumption)⟩)
             | (right; exact ⟨by assumption, d4.1 (by assumption)⟩)
           go_ret
           rw [FA.out hf]
           exact ⟨rfl, HU2.out.setFault 11⟩)
        | (have hf : ¬ ((j = 9 ∧ 1 < c) ∨ (0 < j ∧ c = 0)) := by
             obtain ⟨d1, d2, d3, d4, d5⟩ := D.out
             rintro (⟨h1, h2⟩ | ⟨h1, h2⟩)
             · first | exact absurd (d1.2 h1) (by assumption) | exact absurd (d2.2 h2) (by assumption)
             · first | exact absurd h1 (by assumption) | exact absurd (d4.2 h2) (by assumption)
           have h5 : c < 128 := D.out.2.2.2.2.1 (by assumption)
           go_ret
           rw [HNX.out hf h5]
           exact ⟨by rw [← OG.out hf]; rfl, HU2.out⟩)
        | (have hf : ¬ ((j = 9 ∧ 1 < c) ∨ (0 < j ∧ c = 0)) := by
             obtain ⟨d1, d2, d3, d4, d5⟩ := D.out
             rintro (⟨h1, h2⟩ | ⟨h1, h2⟩)
             · first | exact absurd (d1.2 h1) (by assumption) | exact absurd (d2.2 h2) (by assumption)
             · first | exact absurd h1 (by assumption) | exact absurd (d4.2 h2) (by assumption)
           have h5 : ¬ c < 128 := fun h => absurd (D.out.2.2.2.2.2 h) (by first | assumption | (rw [(by assumption : t5 = false)]; decide))
           have hj9 : j ≠ 9 := fun h => hf (Or.inl ⟨h, by omega⟩)
           go_roundg (m - 1)
           case measure => have := HM.out; omega
           case rel =>
             have hx : (c % 128).toNat ≤ 127 := by omega
             have hp : 128 ^ (j + 1) = 128 ^ j * 128 := Nat.pow_succ ..
             have hmul := Nat.mul_le_mul_right (128 ^ j) hx
             have hn := HN.out
             refine ⟨j + 1, n + (c % 128).toNat * 128 ^ j, t, by have := HM.out; omega, by rw [OG.out hf], by rw [OG2.out (by omega)], by go_num, ?_, by omega, by omega, HU2.out, HT.out, by have := HLL.out; simp at this; omega⟩
             rw [← HR.out]
             conv => rhs; unfold readN
             rw [if_neg hf, if_neg h5])
end
end Go.Proofs.Ytibelfljlhcibaa
namespace Go.Proofs.Ytibelfljlhcibaa
set_option linter.unusedVariables false
set_option linter.unusedSimpArgs false
open Go.RowKit Go.Deep Go.Proofs.YtibelfljlhcibaaW.PrintLast

/-- What a call hands back that reads bytes. -/
def TextQ (F : Nat → Prop) (k : Nat) (w : World) (q : List Int × RS) (e : Ending) (w' : World) : Prop :=
  (∃ A c, e = .returned (.slice A q.1.length c) ∧ GRow bc 5 1 w' w.heap.size A c q.1) ∧ UpdQ F k w w' q.2
section
variable {w w' w1 w2 : World} {F G : Nat → Prop} {k : Nat} {s s' : RS}
theorem GRow.le_ {N M c : Nat} {A : Option Addr} {p : List Int} (h : GRow bc 5 1 w N A c p) (hM : M ≤ N) : GRow bc 5 1 w M A c p := by
  rcases h with h | ⟨g, h1, h2, h3⟩
  · exact Or.inl h
  · exact Or.inr ⟨g, h1, Nat.le_trans hM h2, h3⟩
theorem TextQ.no (h : UpdQ F k w w' s) : TextQ F k w ([], s) (.returned (.slice none 0 0)) w' := ⟨⟨none, 0, rfl, GRow.nil⟩, h⟩
theorem num_len (s : RS) : s.num.2.left.length ≤ s.left.length := by
  by_cases h : s.ft = 0
  · rw [num_eq s h]
    have h1 : (numO s).2.left.length ≤ s.left.length := readN_len s.left 0 0
    split
    · exact h1
    · exact h1
  · rw [RS.num_fault h]; exact Nat.le_refl _
set_option maxHeartbeats 1000000 in
theorem refRNum_any (h : RefLies w F k s) (hb : Byt s.left) (h47 : s.left.length ≤ 140737488355328) :
    Calls Try.prog 73 #[.pointer (some ⟨k, 0, none⟩)] w fun e w' => e = .returned (.int .u64 (s.num.1 : Nat)) ∧ UpdQ F k w w' s.num.2 := by
  have DE := Lib.hid (refRDead_any h)
  have H := Lib.hid h
  by_cases hf : s.ft = 0
  · have NU := Lib.hid (refNumber_any h hf hb h47)
    rw [hf] at DE
    clear hb h47 h
    go_enter Try.func73, Try.ntmps73
    go_wp2_with (go_at_call 115; refine DE.out.mono ?_; rintro e w_ ⟨rfl, rfl⟩)
    refine NU.out.mono ?_
    rintro e w2 ⟨rfl, U2⟩
    have HU := Lib.hid U2
    clear U2
    go_wp2_with (fail)
    go_ret
    exact ⟨rfl, HU.out⟩
  · have hne : (s.ft != 0) = true := by simpa using hf
    have e1 := RS.num_fault hf
    rw [e1]
    rw [hne] at DE
    go_enter Try.func73, Try.ntmps73
    go_wp2_with (go_at_call 115; refine DE.out.mono ?_; rintro e w_ ⟨rfl, rfl⟩)
    go_ret
    exact ⟨rfl, UpdQ.refl H.out⟩
set_option maxHeartbeats 4000000 in
set_option maxRecDepth 100000 in
theorem refRText_any (h : RefLies w F k s) (hb : Byt s.left) (h47 : s.left.length ≤ 140737488355328) (most : Int) (hm : most ≤ 9223372036854775807) :
    Calls Try.prog 77 #[.pointer (some ⟨k, 0, none⟩), .int .i64 most] w (TextQ F k w (s.text most)) := by
  have DE := Lib.hid (refRDead_any h)
  have H := Lib.hid h
  by_cases hf : s.ft = 0
  · have NU := Lib.hid (refNumber_any h hf hb h47)
    have HL := Lib.hid (Nat.le_trans (num_len s) h47)
    have hn64 := num_lt s hb
    have HT := Lib.hid (show s.text most = (match s.size (max most 0).toNat with
      | (n, s') => if s'.ft = 0 then (s'.left.take n, { s' with left := s'.left.drop n }) else ([], s')) by unfold RS.text; rw [if_pos hf])
    have HSZ := Lib.hid (show ∀ M, s.size M = (if s.num.2.ft = 0 then (if M < s.num.1 then (0, { s.num.2 with ft := 11 }) else if s.num.2.left.length < s.num.1 then (0, { s.num.2 with ft := 10 }) else (s.num.1, s.num.2)) else (0, s.num.2)) from fun M => rfl)
    rw [hf] at DE
    generalize s.num = q at *
    obtain ⟨n, s2⟩ := q
    simp only at NU HL hn64 HSZ
    clear hb h47 h
    obtain ⟨M, hM⟩ : ∃ M : Nat, (max most 0).toNat = M := ⟨_, rfl⟩
    have HM := Lib.hid hM
    have hM63 : M ≤ 9223372036854775807 := by omega
    clear hM
    obtain ⟨t0, ht0⟩ := named (decide (most < 0))
    obtain ⟨t1, ht1⟩ := named (decide ((M : Int) < (n : Int)))
    go_enter Try.func77, Try.ntmps77
    cases t0
    · obtain rfl : most = (M : Int) := by have := HM.out; simp at ht0; omega
      go_wp2_with (go_at_call 115; refine DE.out.mono ?_; rintro e w_ ⟨rfl, rfl⟩)
      refine NU.out.mono ?_
      rintro e w2 ⟨rfl, U2⟩
      obtain ⟨c3, f3⟩ := U2.1.ftCell
      have HU := Lib.hid U2
      clear U2
      by_cases h2 : s2.ft = 0
      · rw [h2] at c3
        cases t1
        · have hmn : ¬ M < n := by simp at ht1; omega
          have BY := Lib.hid (refBytes_any HU.out.1 n (by omega) HL.out)
          have hn63 : (n : Int) ≤ 9223372036854775807 := by omega
          go_wp2_with (fail)
          refine BY.out.mono ?_
          intro e w3 hB
          unfold BytesP RS.next at hB
          have HB := Lib.hid hB
          clear hB
          by_cases hl : n ≤ s2.left.length
          · have hB := HB.out
            rw [if_pos hl] at hB
            obtain ⟨⟨A, c, rfl, hg⟩, hu⟩ := hB
            have HG := Lib.hid hg
            have HU3 := Lib.hid hu
            clear hg hu
            go_wp2_with (fail)
            go_ret
            rw [HT.out, HSZ.out, HM.out, if_pos h2, if_neg hmn, if_neg (show ¬ s2.left.length < n by omega)]
            simp only
            rw [if_pos h2]
            have ll : (s2.left.take n).length = n := by rw [List.length_take]; omega
            exact ⟨⟨A, c, by simp only [ll]; rfl, HG.out.le_ HU.out.2.size⟩, HU.out.trans HU3.out⟩
          · have hB := HB.out
            rw [if_neg hl] at hB
            obtain ⟨rfl, hu⟩ := hB
            have HU3 := Lib.hid hu
            clear hu
            go_wp2_with (fail)
            go_ret
            rw [HT.out, HSZ.out, HM.out, if_pos h2, if_neg hmn, if_pos (show s2.left.length < n by omega)]
            exact TextQ.no (HU.out.trans HU3.out)
        · have hmn : M < n := by simp at ht1; omega
          go_wp2_with (fail)
          go_ret
          rw [HT.out, HSZ.out, HM.out, if_pos h2, if_pos hmn]
          exact TextQ.no (HU.out.setFault 11)
      · go_wp2_with (fail)
        go_ret
        rw [HT.out, HSZ.out, if_neg h2]
        simp only
        rw [if_neg h2]
        exact TextQ.no HU.out
    · have hM0 : M = 0 := by have := HM.out; simp at ht0; omega
      have HM0 := Lib.hid (show (max most 0).toNat = 0 from HM.out.trans hM0)
      clear ht1 hM63 HM hM0
      go_wp2_with (go_at_call 115; refine DE.out.mono ?_; rintro e w_ ⟨rfl, rfl⟩)
      refine NU.out.mono ?_
      rintro e w2 ⟨rfl, U2⟩
      obtain ⟨c3, f3⟩ := U2.1.ftCell
      have HU := Lib.hid U2
      clear U2
      by_cases h2 : s2.ft = 0
      · rw [h2] at c3
        by_cases hn0 : n = 0
        · subst hn0
          have BY := Lib.hid (refBytes_any HU.out.1 0 (by omega) HL.out)
          go_wp2_with (fail)
          refine (show Calls _ _ #[_, .int .i64 0] w2 _ from BY.out).mono ?_
          intro e w3 hB
          unfold BytesP RS.next at hB
          rw [if_pos (Nat.zero_le _)] at hB
          obtain ⟨⟨A, c, rfl, hg⟩, hu⟩ := hB
          have HG := Lib.hid hg
          have HU3 := Lib.hid hu
          clear hg hu
          go_wp2_with (fail)
          go_ret
          rw [HT.out, HSZ.out, HM0.out, if_pos h2, if_neg (Nat.lt_irrefl 0), if_neg (Nat.not_lt_zero _)]
          simp only
          rw [if_pos h2]
          exact ⟨⟨A, c, rfl, HG.out.le_ HU.out.2.size⟩, HU.out.trans HU3.out⟩
        · have hnp : (0 : Int) < (n : Int) := by omega
          go_wp2_with (fail)
          go_ret
          rw [HT.out, HSZ.out, HM0.out, if_pos h2, if_pos (show 0 < n by omega)]
          exact TextQ.no (HU.out.setFault 11)
      · go_wp2_with (fail)
        go_ret
        rw [HT.out, HSZ.out, if_neg h2]
        simp only
        rw [if_neg h2]
        exact TextQ.no HU.out
  · have hne : (s.ft != 0) = true := by simpa using hf
    have e1 : s.text most = ([], s) := by unfold RS.text; rw [if_neg hf]
    rw [e1]
    rw [hne] at DE
    go_enter Try.func77, Try.ntmps77
    go_wp2_with (go_at_call 115; refine DE.out.mono ?_; rintro e w_ ⟨rfl, rfl⟩)
    go_ret
    exact TextQ.no (UpdQ.refl H.out)
end
end Go.Proofs.Ytibelfljlhcibaa
namespace Go.Proofs.Ytibelfljlhcibaa
set_option linter.unusedVariables false
set_option linter.unusedSimpArgs false
open Go.RowKit Go.Deep Go.Proofs.YtibelfljlhcibaaW.PrintLast

section
variable {w w' w1 w2 : World} {F G : Nat → Prop} {k : Nat} {s s' : RS}
set_option maxHeartbeats 1000000 in
set_option maxRecDepth 100000 in
theorem refRRaw_any (h : RefLies w F k s) (h47 : s.left.length ≤ 140737488355328) (n : Int) (hn : n ≤ 9223372036854775807) :
    Calls Try.prog 76 #[.pointer (some ⟨k, 0, none⟩), .int .i64 n] w (TextQ F k w (s.raw n)) := by
  have DE := Lib.hid (refRDead_any h)
  have H := Lib.hid h
  obtain ⟨c3, f3⟩ := h.ftCell
  by_cases hf : s.ft = 0
  · rw [hf] at DE c3
    by_cases hneg : n < 0
    · have e1 : s.raw n = ([], { s with ft := 2 }) := by unfold RS.raw; rw [if_pos hf, if_pos hneg]
      rw [e1]
      clear h47 h
      go_enter Try.func76, Try.ntmps76
      go_wp2_with (go_at_call 115; refine DE.out.mono ?_; rintro e w_ ⟨rfl, rfl⟩)
      go_ret
      exact TextQ.no (UpdQ.fault H.out 2)
    · obtain ⟨m, rfl⟩ := Int.eq_ofNat_of_zero_le (show 0 ≤ n by omega)
      have e1 : s.raw (m : Int) = (match s.next m with | none => ([], s.short) | some (p, s') => (p, s')) := by unfold RS.raw; rw [if_pos hf, if_neg hneg]; rfl
      have E1 := Lib.hid e1
      have BY := Lib.hid (refBytes_any h m (by omega) h47)
      clear h47 h e1
      go_enter Try.func76, Try.ntmps76
      go_wp2_with (go_at_call 115; refine DE.out.mono ?_; rintro e w_ ⟨rfl, rfl⟩)
      refine BY.out.mono ?_
      intro e w2 hB
      unfold BytesP at hB
      cases hx : s.next m with
      | none =>
        rw [hx] at hB
        obtain ⟨rfl, hu⟩ := hB
        have HU := Lib.hid hu
        clear hu
        have HXN := Lib.hid hx
        clear hx
        go_wp2_with (fail)
        go_ret
        rw [E1.out, HXN.out]
        exact TextQ.no HU.out
      | some q =>
        obtain ⟨p, s2⟩ := q
        rw [hx] at hB
        obtain ⟨⟨A, c, rfl, hg⟩, hu⟩ := hB
        have HG := Lib.hid hg
        have HU := Lib.hid hu
        have HXN := Lib.hid hx
        clear hg hu hx
        obtain ⟨pl, hpl⟩ : ∃ pl, p.length = pl := ⟨_, rfl⟩
        have HPL := Lib.hid hpl
        rw [hpl]
        clear hpl
        go_wp2_with (fail)
        go_ret
        rw [E1.out, HXN.out]
        exact ⟨⟨A, c, by simp only [HPL.out]; rfl, HG.out⟩, HU.out⟩
  · have hne : (s.ft != 0) = true := by simpa using hf
    have e1 : s.raw n = ([], s) := by unfold RS.raw; rw [if_neg hf]
    rw [e1]
    rw [hne] at DE
    clear h h47
    go_enter Try.func76, Try.ntmps76
    go_wp2_with (go_at_call 115; refine DE.out.mono ?_; rintro e w_ ⟨rfl, rfl⟩)
    go_ret
    exact TextQ.no (UpdQ.refl H.out)
set_option maxHeartbeats 1000000 in
theorem refRRest_any (h : RefLies w F k s) : Calls Try.prog 80 #[.pointer (some ⟨k, 0, none⟩)] w fun e w' => e = .returned (.int .i64 (s.rest : Nat)) ∧ Below w.heap.size w w' := by
  have DE := Lib.hid (refRDead_any h)
  have LF := Lib.hid (refLeft_any h)
  by_cases hf : s.ft = 0
  · rw [hf] at DE
    have e1 : s.rest = s.left.length := by unfold RS.rest; rw [if_pos hf]
    rw [e1]
    generalize s.left.length = L at *
    clear h
    go_enter Try.func80, Try.ntmps80
    go_wp2_with (go_at_call 115; refine DE.out.mono ?_; rintro e w_ ⟨rfl, rfl⟩)
    refine LF.out.mono ?_
    rintro e w_ ⟨rfl, rfl⟩
    go_wp2_with (fail)
    go_ret
    exact ⟨rfl, (Below.refl _ _).drew⟩
  · have hne : (s.ft != 0) = true := by simpa using hf
    have e1 : s.rest = 0 := by unfold RS.rest; rw [if_neg hf]
    rw [e1]
    rw [hne] at DE
    clear h LF
    go_enter Try.func80, Try.ntmps80
    go_wp2_with (go_at_call 115; refine DE.out.mono ?_; rintro e w_ ⟨rfl, rfl⟩)
    go_ret
    exact ⟨rfl, Below.refl _ _⟩
set_option maxHeartbeats 1000000 in
theorem refUnfold_any (n : Nat) (hn : n < 18446744073709551616) (w : World) : Calls Try.prog 119 #[.int .u64 n] w fun e w' => e = .returned (.int .i64 (unfoldZ n)) ∧ w = w' := by
  unfold unfoldZ
  by_cases h2 : n % 2 = 0
  · rw [if_pos h2]
    obtain ⟨m, hm⟩ : ∃ m, n / 2 = m := ⟨_, rfl⟩
    have e1 : (n : Int) % 2 = 0 := by omega
    have e2 : (n : Int) / 2 = m := by omega
    have hm63 : (m : Int) ≤ 9223372036854775807 := by omega
    rw [hm]
    go_enter Try.func119, Try.ntmps119
    go_wp2_with (fail)
    go_ret
    exact ⟨rfl, rfl⟩
  · rw [if_neg h2]
    obtain ⟨m, hm⟩ : ∃ m, n / 2 = m := ⟨_, rfl⟩
    have e1 : (n : Int) % 2 = 1 := by omega
    have e2 : (n : Int) / 2 = m := by omega
    have hm63 : (m : Int) ≤ 9223372036854775807 := by omega
    rw [hm]
    go_enter Try.func119, Try.ntmps119
    go_wp2_with (fail)
    go_ret
    exact ⟨rfl, rfl⟩
set_option maxHeartbeats 1000000 in
theorem refRInt_any (h : RefLies w F k s) (hb : Byt s.left) (h47 : s.left.length ≤ 140737488355328) :
    Calls Try.prog 74 #[.pointer (some ⟨k, 0, none⟩)] w fun e w' => e = .returned (.int .i64 s.int.1) ∧ UpdQ F k w w' s.int.2 := by
  have DE := Lib.hid (refRDead_any h)
  have H := Lib.hid h
  have hn64 := num_lt s hb
  unfold RS.int
  simp only
  by_cases hf : s.ft = 0
  · have NU := Lib.hid (refNumber_any h hf hb h47)
    rw [hf] at DE
    generalize s.num = q at *
    obtain ⟨n, s2⟩ := q
    simp only at NU hn64 ⊢
    have UF := Lib.hid (fun W => refUnfold_any n hn64 W)
    clear hb h47 h
    go_enter Try.func74, Try.ntmps74
    go_wp2_with (go_at_call 115; refine DE.out.mono ?_; rintro e w_ ⟨rfl, rfl⟩)
    refine NU.out.mono ?_
    rintro e w2 ⟨rfl, U2⟩
    have HU := Lib.hid U2
    clear U2
    go_wp2_with (fail)
    refine (UF.out w2).mono ?_
    rintro e w_ ⟨rfl, rfl⟩
    go_wp2_with (fail)
    go_ret
    exact ⟨rfl, HU.out⟩
  · have hne : (s.ft != 0) = true := by simpa using hf
    have e1 := RS.num_fault hf
    rw [e1]
    rw [hne] at DE
    go_enter Try.func74, Try.ntmps74
    go_wp2_with (go_at_call 115; refine DE.out.mono ?_; rintro e w_ ⟨rfl, rfl⟩)
    go_ret
    exact ⟨rfl, UpdQ.refl H.out⟩
end
end Go.Proofs.Ytibelfljlhcibaa
