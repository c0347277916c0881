/- slices.Insert over bytes of one's own. slices.Insert over bytes of one's own: the row has no room. slices.Insert in one; writers: Close. Writers: Close, where there is a frame. -/
import Derived.Test.YtibelfljlhcibaaPW2
import Derived.Test.YtibelfljlhcibaaPO
import Derived.Lib.AppendZeros
import Derived.Lib.Overlaps
import Derived.Laws.Externs
import Derived.Laws.CopyRow
import Derived.Shelf.Spec.SlicesInsert
import Derived.Lib.AppendZerosOnto
import Derived.Laws.NewBlocks
namespace Go.Proofs.Ytibelfljlhcibaa
set_option linter.unusedVariables false
set_option linter.unusedSimpArgs false
open Go.RowKit Go.Deep Go.Proofs.YtibelfljlhcibaaW.PrintLast

def InsP (F : Nat → Prop) (w : World) (l : List Int) (e : Ending) (w' : World) : Prop := ∃ A c, e = .returned (.slice A l.length c) ∧ RowF bc 5 1 w' (Gr F w w') A c l ∧ Fr F w w' ∧ ∀ T, T ≠ 5 → KeepT T w w'
def u8s (l : List Int) : List Value := l.map (Value.int .u8)
theorem u8s_len (l : List Int) : (u8s l).length = l.length := by simp [u8s]
theorem u8s_get {l : List Int} {j : Nat} {v : Value} (h : (u8s l)[j]? = some v) : ∃ x, l[j]? = some x ∧ v = .int .u8 x := by
  simp only [u8s, List.getElem?_map, Option.map_eq_some_iff] at h
  obtain ⟨x, h1, h2⟩ := h
  exact ⟨x, h1, h2.symm⟩
theorem u8s_one (l : List Int) : ∀ v ∈ u8s l, v.oneCell' = true := by
  intro v hv
  simp only [u8s, List.mem_map] at hv
  obtain ⟨x, _, rfl⟩ := hv
  rfl
theorem sizeB : (Try.prog.info? 5).map (·.size) = some 1 := by
  have := infoB
  cases hi : Try.prog.info? 5 with
  | none => rw [hi] at this; cases this
  | some i => rw [hi] at this; simp at this; simp [this]
section
variable {w : World} {F : Nat → Prop}
set_option maxRecDepth 100000 in
set_option maxHeartbeats 2000000 in
theorem insert_end {A : Option Addr} {c gv vc : Nat} {bs vs : List Int} (R : RowF bc 5 1 w F A c bs) (V : BsAt w gv 0 vs) (hv : vs ≠ []) (h63 : bs.length + vs.length ≤ 140737488355328) :
    Calls Try.prog 102 #[.slice A bs.length c, .int .i64 bs.length, .slice (some ⟨gv, 0, none⟩) vs.length vc] w (InsP F w (bs ++ vs)) := by
  obtain ⟨A', c', w', hrun, R2, F2, K2⟩ := RowF.append (ys := vs) elBy R 23 (some ⟨gv, 0, none⟩) vc (BSrc.src (BSrc.ofAt V)) (by simp only [maxLen]; omega) (by omega)
  have HRUN := Lib.hid hrun
  have HP := Lib.hid (show InsP F w (bs ++ vs) (.returned (.slice A' (bs.length + vs.length) c')) w' from ⟨A', c', by rw [List.length_append], R2, F2, K2⟩)
  have hle := R.le
  have hmx := R.max
  unfold maxLen at hmx
  have hm : 0 < vs.length := List.length_pos_iff.2 hv
  obtain ⟨n, hn⟩ : ∃ n, n = bs.length := ⟨_, rfl⟩
  obtain ⟨m, hmm⟩ : ∃ m, m = vs.length := ⟨_, rfl⟩
  rw [← hn, ← hmm] at HRUN HP
  rw [← hn] at hle
  rw [← hmm] at hm
  rw [← hn, ← hmm] at h63 ⊢
  have hA : A = none → n = 0 := by rintro rfl; rcases R with ⟨_, _, h⟩ | ⟨g, h, _⟩; rw [hn, h]; rfl; cases h
  have z1 : ((m : Int) == 0) = false := by simp; omega
  clear hrun R2 F2 K2 R V hv hn hmm
  cases A with
  | none =>
    have h0 := hA rfl
    subst h0
    clear hA
    go_enter Try.func102, Try.ntmps102
    go_wp2_with (refine wpList_app HRUN.out rfl rfl rfl (by rfl) (by rfl) ?_)
    go_ret
    have h := HP.out
    rw [Nat.zero_add] at h
    exact h
  | some a =>
    clear hA
    by_cases he : c = n
    · subst he
      go_enter Try.func102, Try.ntmps102
      go_wp2_with (refine wpList_app HRUN.out rfl rfl rfl (by rfl) (by rfl) ?_)
      go_ret
      exact HP.out
    · have q : n < c := by omega
      go_enter Try.func102, Try.ntmps102
      go_wp2_with (refine wpList_app HRUN.out rfl rfl rfl (by rfl) (by rfl) ?_)
      go_ret
      exact HP.out
theorem seg_get (cur : List Value) (o : Nat) (xs : List Value) (hfit : o + xs.length ≤ cur.length) (j : Nat) : (cur.take o ++ xs ++ cur.drop (o + xs.length))[j]? = if j < o then cur[j]? else if j < o + xs.length then xs[j - o]? else cur[j]? := by
  have hl : (cur.take o).length = o := by rw [List.length_take]; omega
  by_cases h1 : j < o
  · rw [if_pos h1, List.append_assoc, List.getElem?_append_left (by rw [hl]; exact h1), List.getElem?_take, if_pos h1]
  · rw [if_neg h1]
    by_cases h2 : j < o + xs.length
    · rw [if_pos h2, List.getElem?_append_left (by rw [List.length_append, hl]; exact h2), List.getElem?_append_right (by rw [hl]; omega), hl]
    · rw [if_neg h2, List.getElem?_append_right (by rw [List.length_append, hl]; omega), List.length_append, hl, List.getElem?_drop]
      congr 1
      omega
theorem ins_get (bs vs : List Int) (i : Nat) (hi : i ≤ bs.length) (j : Nat) : (bs.take i ++ (vs ++ bs.drop i))[j]? = if j < i then bs[j]? else if j < i + vs.length then vs[j - i]? else bs[j - vs.length]? := by
  have hl : (bs.take i).length = i := by rw [List.length_take]; omega
  by_cases h1 : j < i
  · rw [if_pos h1, List.getElem?_append_left (by rw [hl]; exact h1), List.getElem?_take, if_pos h1]
  · rw [if_neg h1, List.getElem?_append_right (by rw [hl]; omega), hl]
    by_cases h2 : j < i + vs.length
    · rw [if_pos h2, List.getElem?_append_left (by omega)]
    · rw [if_neg h2, List.getElem?_append_right (by omega), List.getElem?_drop]
      congr 1
      omega
set_option maxRecDepth 100000 in
set_option maxHeartbeats 4000000 in
theorem insert_room {g c gv vc i : Nat} {bs vs : List Int} (O : OwnB w g c bs) (hF : F g) (hi : i < bs.length) (V : OwnB w gv vc vs) (hgv : gv ≠ g) (hv : vs ≠ []) (hroom : bs.length + vs.length ≤ c) (h63 : bs.length + vs.length ≤ 140737488355328) :
    Calls Try.prog 102 #[.slice (some ⟨g, 0, none⟩) bs.length c, .int .i64 i, .slice (some ⟨gv, 0, none⟩) vs.length vc] w (InsP F w (bs.take i ++ (vs ++ bs.drop i))) := by
  obtain ⟨cur, hg, hcs, hc⟩ := O.blk
  obtain ⟨curv, hgvb, hcsv, hcv⟩ := V.blk
  rw [Nat.mul_one] at hcs hcsv
  have hmx := O.max
  unfold maxLen at hmx
  obtain ⟨n, hn⟩ : ∃ n, n = bs.length := ⟨_, rfl⟩
  obtain ⟨m, hm⟩ : ∃ m, m = vs.length := ⟨_, rfl⟩
  have hm0 : 0 < m := by rw [hm]; exact List.length_pos_iff.2 hv
  rw [← hn] at hi hroom h63 ⊢
  rw [← hm] at hroom h63 ⊢
  have hcur : ∀ (j : Nat) (x : Int), bs[j]? = some x → cur.toList[j]? = some (Value.int .u8 x) := fun j x hx => by
    have h0 := hc j x hx 0 (Value.int .u8 x) rfl
    rw [Array.getElem?_toList]; simpa using h0
  have hdl : (u8s (bs.drop i)).length = n - i := by rw [u8s_len, List.length_drop, hn]
  have hvl : (u8s vs).length = m := by rw [u8s_len, hm]
  obtain ⟨r1, hr1⟩ : ∃ r1 : Array Value, r1 = (cur.toList.take (i + m) ++ u8s (bs.drop i) ++ cur.toList.drop (i + m + (u8s (bs.drop i)).length)).toArray := ⟨_, rfl⟩
  have hg' : w.drew.heap[g]? = some (.cells cur 5 (0, 0)) := hg
  have hcp1 : ∀ ty dc sc, (Builtin.copy_ #[23, 23] ty #[.slice (some ⟨g, i + m, none⟩) (n + m - (i + m)) dc, .slice (some ⟨g, i, none⟩) (n + m - i) sc]).run Try.prog w.drew = .ok (goInt (n - i : Nat)) (w.drew.setRow g r1) := fun ty dc sc => by
    have := run_copy_row (P := Try.prog) w.drew 23 23 ty 5 g (i + m) (n + m - (i + m)) dc ⟨g, i, none⟩ (n + m - i) sc cur 5 (u8s (bs.drop i)) Try.underlying23 sizeB hg'
      (by rw [hdl]; simp only [Nat.min_def]; split <;> omega) (fun j v hj => by
        obtain ⟨x, hx, rfl⟩ := u8s_get hj
        rw [List.getElem?_drop] at hx
        rw [Addr.add_lit]
        exact cell_blk hg' (i + j) (by have := hcur _ _ hx; simpa using this)) (by rw [hdl, hcs]; omega) (u8s_one _)
    rw [← hr1, hdl] at this
    exact this
  have hr1g : ∀ j, r1.toList[j]? = if j < i + m then cur.toList[j]? else if j < i + m + (n - i) then (u8s (bs.drop i))[j - (i + m)]? else cur.toList[j]? := fun j => by
    have := seg_get cur.toList (i + m) (u8s (bs.drop i)) (by rw [hdl]; simp [hcs]; omega) j
    rw [hr1, List.toList_toArray, this, hdl]
  have g1 : (w.drew.setRow g r1).heap[g]? = some (.cells r1 5 (0, 0)) := setRow_heap _ _ _ _ _ _ hg'
  have hr1s : r1.size = c := by
    rw [hr1]
    simp only [List.size_toArray, List.length_append, List.length_take, List.length_drop, hdl, Array.length_toList, hcs]
    omega
  obtain ⟨r2, hr2⟩ : ∃ r2 : Array Value, r2 = (r1.toList.take i ++ u8s vs ++ r1.toList.drop (i + (u8s vs).length)).toArray := ⟨_, rfl⟩
  have hr2s : r2.size = c := by
    rw [hr2]
    simp only [List.size_toArray, List.length_append, List.length_take, List.length_drop, hvl, Array.length_toList, hr1s]
    omega
  have hcp2 : ∀ ty dc, (Builtin.copy_ #[23, 23] ty #[.slice (some ⟨g, i, none⟩) (n + m - i) dc, .slice (some ⟨gv, 0, none⟩) m vc]).run Try.prog (w.drew.setRow g r1) = .ok (goInt (m : Nat)) ((w.drew.setRow g r1).setRow g r2) := fun ty dc => by
    have := run_copy_row (P := Try.prog) (w.drew.setRow g r1) 23 23 ty 5 g i (n + m - i) dc ⟨gv, 0, none⟩ m vc r1 5 (u8s vs) Try.underlying23 sizeB g1
      (by rw [hvl]; simp only [Nat.min_def]; split <;> omega) (fun j v hj => by
        obtain ⟨x, hx, rfl⟩ := u8s_get hj
        rw [Addr.add_lit]
        have hb : (w.drew.setRow g r1).heap[gv]? = some (.cells curv 5 (0, 0)) := (setRow_other _ _ _ _ hgv).trans hgvb
        refine cell_blk hb (0 + j) ?_
        have h0 := hcv j x hx 0 (Value.int .u8 x) rfl
        simpa using h0) (by rw [hvl, hr1s]; omega) (u8s_one _)
    rw [← hr2, hvl] at this
    exact this
  have hr2g : ∀ j, r2.toList[j]? = if j < i then r1.toList[j]? else if j < i + m then (u8s vs)[j - i]? else r1.toList[j]? := fun j => by
    have := seg_get r1.toList i (u8s vs) (by rw [hvl, Array.length_toList, hr1s]; omega) j
    rw [hr2, List.toList_toArray, this, hvl]
  have hlen : (bs.take i ++ (vs ++ bs.drop i)).length = n + m := by
    simp only [List.length_append, List.length_take, List.length_drop, ← hn, ← hm]; omega
  have hget : ∀ (j : Nat) (x : Int), (bs.take i ++ (vs ++ bs.drop i))[j]? = some x → r2.toList[j]? = some (Value.int .u8 x) := fun j x hx => by
    rw [ins_get bs vs i (by omega)] at hx
    rw [hr2g]
    by_cases h1 : j < i
    · rw [if_pos h1] at hx ⊢
      rw [hr1g, if_pos (by omega)]
      exact hcur j x hx
    · rw [if_neg h1] at hx ⊢
      rw [← hm] at hx
      by_cases h2 : j < i + m
      · rw [if_pos h2] at hx ⊢
        simp [u8s, hx]
      · rw [if_neg h2] at hx ⊢
        have hlt := (List.getElem?_eq_some_iff.1 hx).1
        rw [hr1g, if_neg h2, if_pos (by omega)]
        simp only [u8s, List.getElem?_map, List.getElem?_drop]
        rw [show i + (j - (i + m)) = j - m by omega, hx]
        rfl
  obtain ⟨W, hW⟩ : ∃ W, W = (w.drew.setRow g r1).setRow g r2 := ⟨_, rfl⟩
  rw [← hW] at hcp2
  have HW : InsP F w (bs.take i ++ (vs ++ bs.drop i)) (.returned (.slice (some ⟨g, 0, none⟩) (n + m) c)) W := by
    have gW : W.heap[g]? = some (.cells r2 5 (0, 0)) := by rw [hW]; exact setRow_heap _ _ _ _ _ _ g1
    have oW : ∀ b, b ≠ g → W.heap[b]? = w.heap[b]? := fun b hb => by rw [hW, setRow_other _ _ _ _ hb, setRow_other _ _ _ _ hb]; rfl
    refine ⟨_, _, by rw [hlen], Or.inr ⟨g, rfl, Gr.here hF, by rw [hlen]; exact hroom, O.max, r2, gW, by rw [Nat.mul_one]; exact hr2s, fun j x hx q u hu => ?_⟩, ⟨by rw [hW]; rfl, by rw [hW]; rfl, by rw [hW]; rfl, by rw [hW, size_setRow, size_setRow]; exact Nat.le_refl _, fun b _ hb => oW b (by rintro rfl; exact hb hF)⟩, ?_⟩
    · have h0 : q = 0 := by
        rcases q with _ | q
        · rfl
        · simp [bc] at hu
      subst h0
      simp [bc] at hu
      subst hu
      have := hget j x hx
      rw [Array.getElem?_toList] at this
      simpa using this
    · intro T hT b cs hb
      have hbg : b ≠ g := by
        rintro rfl
        rw [hg] at hb
        injection hb with hb; injection hb with _ hb
        exact hT hb.symm
      rw [oW b hbg]; exact hb
  have sz1 : ∀ w : World, (Go.sizeOf 5).run Try.prog w = .ok 1 w := fun w => by
    have := sizeB
    cases hi : Try.prog.info? 5 with
    | none => rw [hi] at this; cases this
    | some i0 => rw [hi] at this; simp at this; simp [sizeOf, typeInfo, hi, this]
  have hov : ∀ lb cb, (callFunc 130 #[.slice (some ⟨gv, 0, none⟩) m vc, .slice (some ⟨g, i + m, none⟩) lb cb]).run Try.prog w = .ok (.value (.bool false)) w := fun lb cb => by
    rw [run_callFunc_extern Try.func130 (by kernel_rfl) (by kernel_rfl) (by kernel_rfl) (e := Extern.SlicesOverlaps.overlaps #[23, 23] #[4]) (by kernel_rfl),
      Lib.run_overlaps_apart w 23 4 5 Try.underlying23 1 sz1 ⟨gv, 0, none⟩ ⟨g, i + m, none⟩ m vc lb cb hgv 5 5 curv.size cur.size (by simp [World.shape?, hgvb]) (by simp [World.shape?, hg]) (by omega) (free_blk hgvb _) (free_blk hgvb _)]
    rfl
  have HP := Lib.hid HW
  have hz1 : ¬ ((m : Int) = 0) := by omega
  have hz2 : ¬ ((i : Int) = (n : Int)) := by omega
  have hw1 : IntKind.i64.wrap ((i : Int) + (m : Int)) = (i : Int) + (m : Int) := by rw [IntKind.wrap_i64]; omega
  have hb1 : (0 : Int) ≤ (i : Int) + (m : Int) := by omega
  have hin : i ≤ n := by omega
  have htn : ((i : Int) + (m : Int)).toNat = i + m := by omega
  have hb3 : (i : Int) ≤ (n : Int) + (m : Int) := by omega
  have hc63 : c ≤ 9223372036854775807 := by omega
  have mixed : Try.prog.follows Departure.mixedOrders = true := by kernel_rfl
  have hb2 : ¬ (c = i + m) := by omega
  have hb4 : ¬ (c = i) := by omega
  clear HW hget hr2g hr1g hW hr1s hr2s g1 hg' hcur O V sz1 hr1 hr2 hlen hdl hvl hg hcs hgvb hcsv hc hcv hn hm hmx hv hF hgv
  go_enter Try.func102, Try.ntmps102
  go_wp2_with (simp only [hov])
  go_region_law_o (refine step_copy_runI rfl _ _ 23 23 rfl _ _ (by simp [Act.eval, Act.put]) (by simp [Act.eval, Act.put]) (hcp1 _ _ _) ?_)
  go_wp2_with (at_builtin; refine wpList_copy_runI _ rfl _ _ 23 23 rfl _ _ rfl rfl (hcp2 _ _) ?_)
  go_ret
  exact HP.out
end
end Go.Proofs.Ytibelfljlhcibaa
namespace Go.Proofs.Ytibelfljlhcibaa
set_option linter.unusedVariables false
set_option linter.unusedSimpArgs false
open Go.RowKit Go.Deep Go.Proofs.YtibelfljlhcibaaW.PrintLast

section
variable {w : World} {F : Nat → Prop}
theorem zeros_onto {g c i k : Nat} {bs : List Int} (O : OwnB w g c bs) (hi : i ≤ bs.length) (h0 : 0 < k) (hg : c < i + k) (h63 : i + k ≤ 140737488355328) :
    ∃ (G : Nat) (W1 : World) (ROW : Array Value), (Builtin.append_ #[23, 3] 23 #[.slice (some ⟨g, 0, none⟩) i c, .int .i64 k]).run Try.prog w = .ok (.slice (some ⟨w.heap.size, 0, none⟩) (i + k) G) W1 ∧
      W1.heap[w.heap.size]? = some (.cells ROW 5 (0, 0)) ∧ ROW.size = G ∧ i + k ≤ G ∧ G ≤ maxLen ∧ (∀ (j : Nat) (x : Int), j < i → bs[j]? = some x → ROW.toList[j]? = some (Value.int .u8 x)) ∧ Below w.heap.size w W1 ∧ w.heap.size < W1.heap.size := by
  obtain ⟨cur, hgb, hcs, hc⟩ := O.blk
  have info := infoB
  cases hinf : Try.prog.info? 5 with
  | none => rw [hinf] at info; cases info
  | some i0 =>
    rw [hinf] at info
    simp only [Option.map_some, Option.some.injEq, Prod.mk.injEq] at info
    obtain ⟨i1, i2, i3⟩ := info
    have hl : ((u8s bs).take i).length = i := by rw [List.length_take, u8s_len]; omega
    have hold : (Builtin.firstCells i0.size i (.slice (some ⟨g, 0, none⟩) i c)).run Try.prog w.drew = .ok ((u8s bs).take i).toArray w.drew := by
      rw [i2]
      exact run_firstCells_some w.drew 1 i ⟨g, 0, none⟩ i c ((u8s bs).take i) (by rw [hl]; omega) (fun j v hj => by
        rw [List.getElem?_take] at hj
        split at hj
        · obtain ⟨x, hx, rfl⟩ := u8s_get hj
          rw [Addr.add_lit]
          have h0 := hc j x hx 0 (Value.int .u8 x) rfl
          exact cell_blk (show w.drew.heap[g]? = _ from hgb) (0 + j) (by simpa using h0)
        · cases hj)
    have hr := Lib.run_append_grow_zeros (P := Try.prog) w 23 3 23 5 i0 _ .i64 .i64 Try.underlying23 Try.underlying3 hinf i1 (some ⟨g, 0, none⟩) i c ((u8s bs).take i) hold k h0 (by omega) hg (by omega) (by rw [i3]; omega) (growslice_fits hg (by rw [i3]; omega))
    have hge := grownCap_ge w (i + k) c 5
    have hcm : grownCap w (i + k) c 5 ≤ maxLen := grownCap_le_maxLen w (i + k) c _ (by simp only [maxLen]; omega)
    refine ⟨_, _, _, hr, blk_new w.drew _, ?_, hge, hcm, fun j x hj hx => ?_, ((Below.refl _ _).drew).alloc (Nat.le_refl _) _, ?_⟩
    · simp only [Array.size_append, size_zeroCells, elBy.zs, List.size_toArray, hl]
      omega
    · rw [Array.toList_append, Array.toList_append, List.append_assoc, List.toList_toArray, List.getElem?_append_left (by rw [hl]; exact hj), List.getElem?_take, if_pos hj]
      simp [u8s, hx]
    · simp [World.alloc]
set_option maxRecDepth 100000 in
set_option maxHeartbeats 4000000 in
theorem insert_grow {g c gv vc i : Nat} {bs vs : List Int} (O : OwnB w g c bs) (hF : F g) (hi : i < bs.length) (V : OwnB w gv vc vs) (hv : vs ≠ []) (hroom : c < bs.length + vs.length) (h63 : bs.length + vs.length ≤ 140737488355328) :
    Calls Try.prog 102 #[.slice (some ⟨g, 0, none⟩) bs.length c, .int .i64 i, .slice (some ⟨gv, 0, none⟩) vs.length vc] w (InsP F w (bs.take i ++ (vs ++ bs.drop i))) := by
  obtain ⟨cur, hg, hcs, hc⟩ := O.blk
  obtain ⟨curv, hgvb, hcsv, hcv⟩ := V.blk
  rw [Nat.mul_one] at hcs hcsv
  have hmx := O.max
  have hle := O.le
  have hgl := O.lt
  have hvl0 := V.lt
  unfold maxLen at hmx
  obtain ⟨n, hn⟩ : ∃ n, n = bs.length := ⟨_, rfl⟩
  obtain ⟨m, hm⟩ : ∃ m, m = vs.length := ⟨_, rfl⟩
  have hm0 : 0 < m := by rw [hm]; exact List.length_pos_iff.2 hv
  rw [← hn] at hi hroom h63 hle ⊢
  rw [← hm] at hroom h63 ⊢
  obtain ⟨G, W1, ROW, hrz0, hROW, hRs, hGn, hGm, hRc, B1, hW1s⟩ := zeros_onto (k := n + m - i) O (i := i) (by omega) (by omega) (by omega) (by omega)
  have hik : i + (n + m - i) = n + m := by omega
  have hkk : (n : Int) + (m : Int) - (i : Int) = ((n + m - i : Nat) : Int) := by omega
  rw [hik] at hrz0 hGn
  have hrz : (Builtin.append_ #[23, 3] 23 #[.slice (some ⟨g, 0, none⟩) i c, .int .i64 ((n : Int) + (m : Int) - (i : Int))]).run Try.prog w = .ok (.slice (some ⟨w.heap.size, 0, none⟩) (n + m) G) W1 := by rw [hkk]; exact hrz0
  obtain ⟨N, hN⟩ : ∃ N, N = w.heap.size := ⟨_, rfl⟩
  rw [← hN] at hrz hROW
  have g1 : W1.heap[g]? = some (.cells cur 5 (0, 0)) := (B1.block g hgl).trans hg
  have gv1 : W1.heap[gv]? = some (.cells curv 5 (0, 0)) := (B1.block gv hvl0).trans hgvb
  have hdl : (u8s (bs.drop i)).length = n - i := by rw [u8s_len, List.length_drop, hn]
  have hvl : (u8s vs).length = m := by rw [u8s_len, hm]
  obtain ⟨r1, hr1⟩ : ∃ r1 : Array Value, r1 = (ROW.toList.take i ++ u8s vs ++ ROW.toList.drop (i + (u8s vs).length)).toArray := ⟨_, rfl⟩
  have hcpA : ∀ ty dc, (Builtin.copy_ #[23, 23] ty #[.slice (some ⟨N, i, none⟩) (n + m - i) dc, .slice (some ⟨gv, 0, none⟩) m vc]).run Try.prog W1 = .ok (goInt (m : Nat)) (W1.setRow N r1) := fun ty dc => by
    have := run_copy_row (P := Try.prog) W1 23 23 ty 5 N i (n + m - i) dc ⟨gv, 0, none⟩ m vc ROW 5 (u8s vs) Try.underlying23 sizeB hROW
      (by rw [hvl]; simp only [Nat.min_def]; split <;> omega) (fun j v hj => by
        obtain ⟨x, hx, rfl⟩ := u8s_get hj
        rw [Addr.add_lit]
        refine cell_blk gv1 (0 + j) ?_
        have h0 := hcv j x hx 0 (Value.int .u8 x) rfl
        simpa using h0) (by rw [hvl, hRs]; omega) (u8s_one _)
    rw [← hr1, hvl] at this
    exact this
  have hr1g : ∀ j, r1.toList[j]? = if j < i then ROW.toList[j]? else if j < i + m then (u8s vs)[j - i]? else ROW.toList[j]? := fun j => by
    have := seg_get ROW.toList i (u8s vs) (by rw [hvl, Array.length_toList, hRs]; omega) j
    rw [hr1, List.toList_toArray, this, hvl]
  have hr1s : r1.size = G := by
    rw [hr1]
    simp only [List.size_toArray, List.length_append, List.length_take, List.length_drop, hvl, Array.length_toList, hRs]
    omega
  obtain ⟨W2, hW2⟩ : ∃ W2, W2 = W1.setRow N r1 := ⟨_, rfl⟩
  rw [← hW2] at hcpA
  have g2 : W2.heap[N]? = some (.cells r1 5 (0, 0)) := by rw [hW2]; exact setRow_heap _ _ _ _ _ _ hROW
  have o2 : ∀ b, b ≠ N → W2.heap[b]? = W1.heap[b]? := fun b hb => by rw [hW2]; exact setRow_other _ _ _ _ hb
  have gg2 : W2.drew.heap[g]? = some (.cells cur 5 (0, 0)) := (o2 g (by omega)).trans g1
  obtain ⟨r2, hr2⟩ : ∃ r2 : Array Value, r2 = (r1.toList.take (i + m) ++ u8s (bs.drop i) ++ r1.toList.drop (i + m + (u8s (bs.drop i)).length)).toArray := ⟨_, rfl⟩
  have hcpB : ∀ ty dc sc, (Builtin.copy_ #[23, 23] ty #[.slice (some ⟨N, i + m, none⟩) (n + m - (i + m)) dc, .slice (some ⟨g, i, none⟩) (n - i) sc]).run Try.prog W2.drew = .ok (goInt (n - i : Nat)) (W2.drew.setRow N r2) := fun ty dc sc => by
    have := run_copy_row (P := Try.prog) W2.drew 23 23 ty 5 N (i + m) (n + m - (i + m)) dc ⟨g, i, none⟩ (n - i) sc r1 5 (u8s (bs.drop i)) Try.underlying23 sizeB (show W2.drew.heap[N]? = _ from g2)
      (by rw [hdl]; simp only [Nat.min_def]; split <;> omega) (fun j v hj => by
        obtain ⟨x, hx, rfl⟩ := u8s_get hj
        rw [List.getElem?_drop] at hx
        rw [Addr.add_lit]
        have h0 := hc _ x hx 0 (Value.int .u8 x) rfl
        exact cell_blk gg2 (i + j) (by simpa using h0)) (by rw [hdl, hr1s]; omega) (u8s_one _)
    rw [← hr2, hdl] at this
    exact this
  have hr2g : ∀ j, r2.toList[j]? = if j < i + m then r1.toList[j]? else if j < i + m + (n - i) then (u8s (bs.drop i))[j - (i + m)]? else r1.toList[j]? := fun j => by
    have := seg_get r1.toList (i + m) (u8s (bs.drop i)) (by rw [hdl, Array.length_toList, hr1s]; omega) j
    rw [hr2, List.toList_toArray, this, hdl]
  have hr2s : r2.size = G := by
    rw [hr2]
    simp only [List.size_toArray, List.length_append, List.length_take, List.length_drop, hdl, Array.length_toList, hr1s]
    omega
  have hlen : (bs.take i ++ (vs ++ bs.drop i)).length = n + m := by
    simp only [List.length_append, List.length_take, List.length_drop, ← hn, ← hm]; omega
  have hget : ∀ (j : Nat) (x : Int), (bs.take i ++ (vs ++ bs.drop i))[j]? = some x → r2.toList[j]? = some (Value.int .u8 x) := fun j x hx => by
    rw [ins_get bs vs i (by omega)] at hx
    rw [hr2g]
    by_cases h1 : j < i
    · rw [if_pos h1] at hx
      rw [if_pos (by omega), hr1g, if_pos h1]
      exact hRc j x h1 hx
    · rw [if_neg h1] at hx
      rw [← hm] at hx
      by_cases h2 : j < i + m
      · rw [if_pos h2] at hx
        rw [if_pos h2, hr1g, if_neg h1, if_pos h2]
        simp [u8s, hx]
      · rw [if_neg h2] at hx
        have hlt := (List.getElem?_eq_some_iff.1 hx).1
        rw [if_neg h2, if_pos (by omega)]
        simp only [u8s, List.getElem?_map, List.getElem?_drop]
        rw [show i + (j - (i + m)) = j - m by omega, hx]
        rfl
  obtain ⟨W, hW⟩ : ∃ W, W = W2.drew.setRow N r2 := ⟨_, rfl⟩
  rw [← hW] at hcpB
  have HW : InsP F w (bs.take i ++ (vs ++ bs.drop i)) (.returned (.slice (some ⟨N, 0, none⟩) (n + m) G)) W := by
    have gW : W.heap[N]? = some (.cells r2 5 (0, 0)) := by rw [hW]; exact setRow_heap _ _ _ _ _ _ (show W2.drew.heap[N]? = _ from g2)
    have sW : W.heap.size = W1.heap.size := by rw [hW, size_setRow, hW2]; simp only [World.drew]; rw [size_setRow]
    have BW : Below w.heap.size w W := ⟨by rw [hW, hW2]; exact B1.os, by rw [hW, hW2]; exact B1.tape, by rw [hW, hW2]; exact B1.output, by rw [sW]; exact B1.size, fun b hb => by
      have hbN : b ≠ N := by omega
      rw [hW, setRow_other _ _ _ _ hbN]
      exact (o2 b hbN).trans (B1.block b hb)⟩
    refine ⟨_, _, by rw [hlen], Or.inr ⟨N, rfl, Gr.new (by omega) (by omega), by rw [hlen]; exact hGn, hGm, r2, gW, by rw [Nat.mul_one]; exact hr2s, fun j x hx q u hu => ?_⟩, Fr.below F BW, fun T _ => KeepT.below BW⟩
    have h0 : q = 0 := by
      rcases q with _ | q
      · rfl
      · simp [bc] at hu
    subst h0
    simp [bc] at hu
    subst hu
    have := hget j x hx
    rw [Array.getElem?_toList] at this
    simpa using this
  have HP := Lib.hid HW
  have hz1 : ¬ ((m : Int) = 0) := by omega
  have hz2 : ¬ ((i : Int) = (n : Int)) := by omega
  have hz3 : (c : Int) < (n : Int) + (m : Int) := by omega
  have hGi : ¬ (G = i) := by omega
  have hGim : ¬ (G = i + m) := by omega
  have hci : ¬ (c = i) := by omega
  have hw1 : IntKind.i64.wrap ((i : Int) + (m : Int)) = (i : Int) + (m : Int) := by rw [IntKind.wrap_i64]; omega
  have hb1 : (0 : Int) ≤ (i : Int) + (m : Int) := by omega
  have hin : i ≤ n := by omega
  have htn : ((i : Int) + (m : Int)).toNat = i + m := by omega
  have hb3 : (i : Int) ≤ (n : Int) := by omega
  have hc63 : c ≤ 9223372036854775807 := by omega
  have hG63 : G ≤ 9223372036854775807 := by unfold maxLen at hGm; omega
  have mixed : Try.prog.follows Departure.mixedOrders = true := by kernel_rfl
  clear HW hget hr2g hr1g hW hr1s hr2s g1 gv1 g2 gg2 o2 hW2 O V hr1 hr2 hlen hdl hvl hg hcs hgvb hcsv hc hcv hn hm hmx hv hF hgl hvl0 hrz0 hROW hRs hRc B1 hW1s hik hkk hGm hN
  go_enter Try.func102, Try.ntmps102
  go_wp2_with (first
    | (at_builtin; refine Lib.wpList_append_run _ rfl _ _ _ _ rfl _ _ rfl rfl _ _ hrz ?_)
    | (at_builtin; refine wpList_copy_runI _ rfl _ _ 23 23 rfl _ _ rfl rfl (hcpA _ _) ?_))
  go_region_law_o (refine step_copy_runI rfl _ _ 23 23 rfl _ _ (by simp [Act.eval, Act.put]) (by simp [Act.eval, Act.put]) (hcpB _ _ _) ?_)
  go_wp2_with (fail)
  go_ret
  exact HP.out
end
end Go.Proofs.Ytibelfljlhcibaa
namespace Go.Proofs.Ytibelfljlhcibaa
set_option linter.unusedVariables false
set_option linter.unusedSimpArgs false
open Go.RowKit Go.Deep Go.Proofs.YtibelfljlhcibaaW.PrintLast
section
variable {w : World} {F : Nat → Prop} {k : Nat} {s : WS}
theorem insert_any {A : Option Addr} {c gv vc i : Nat} {bs vs : List Int} (R : RowF bc 5 1 w F A c bs) (hi : i ≤ bs.length) (V : OwnB w gv vc vs) (hgv : ∀ g, A = some ⟨g, 0, none⟩ → gv ≠ g) (hv : vs ≠ []) (h63 : bs.length + vs.length ≤ 140737488355328) :
    Calls Try.prog 102 #[.slice A bs.length c, .int .i64 i, .slice (some ⟨gv, 0, none⟩) vs.length vc] w (InsP F w (bs.take i ++ (vs ++ bs.drop i))) := by
  by_cases he : i = bs.length
  · subst he
    rw [List.take_length, List.drop_length, List.append_nil]
    exact insert_end R V.bsAt hv h63
  · have hlt : i < bs.length := by omega
    obtain ⟨g, rfl, hF, O⟩ := R.some_ (by rintro rfl; simp at hlt)
    by_cases hr : bs.length + vs.length ≤ c
    · exact insert_room O hF hlt V (hgv g rfl) hv hr h63
    · exact insert_grow O hF hlt V hv (by omega) h63
set_option maxRecDepth 100000 in
set_option maxHeartbeats 2000000 in
/-- .. but for the case that there is a frame to close. -/
theorem wClose_but (h : WLies TW w F k s) (hok : s.Ok) (h63 : s.bs.length + 10 ≤ 140737488355328) (CL : s.ft = 0 → s.op ≠ [] → Calls Try.prog 48 #[.pointer (some ⟨k, 0, none⟩)] w fun e w' => e = .returned (.tuple #[]) ∧ UpdW TW F k w w' s.close) :
    Calls Try.prog 48 #[.pointer (some ⟨k, 0, none⟩)] w fun e w' => e = .returned (.tuple #[]) ∧ UpdW TW F k w w' s.close := by
  have WH := Lib.hid (whole_any h)
  have H := Lib.hid h
  have hk := h.in_
  have hr0 := hok.room0
  have hr1 := hok.room1
  have hfit := hok.fit
  have hin := hok.in_
  have hdp := hok.deep
  clear hok
  obtain ⟨A, c, OA, oc, h1, h2, h3, h4⟩ := h
  obtain ⟨room, bs, op, ft⟩ := s
  simp only at hr0 hr1 hfit hin hdp h63 h1 h3 h4 WH CL
  have e2 : w.cell? ⟨k, 2, none⟩ = some (.slice OA op.length oc) := cell_blk h1 2 rfl
  have e3 : w.cell? ⟨k, 3, none⟩ = some (.int .i64 ft) := cell_blk h1 3 rfl
  have f3 := free_blk h1 3
  have hkl := blk_lt h1
  have HK := Lib.hid h1
  have H3 := Lib.hid h3
  have H4 := Lib.hid h4
  have HIN := Lib.hid hin
  clear h1 h2 h3 h4 hin
  obtain ⟨t0, ht0⟩ := named (ft == 0)
  rw [ht0] at WH
  cases t0
  · have hf : ¬ ft = 0 := by simpa using ht0
    have HFT := Lib.hid hf
    clear hf ht0
    go_enter Try.func48, Try.ntmps48
    go_wp2_with (go_at_call 64; refine WH.out.mono ?_; rintro e w_ ⟨rfl, rfl⟩)
    refine bodyPost_ret (v := .tuple #[]) (by simp [results, Try.results48, go_sem, *]) rfl ?_
    refine ⟨rfl, ?_⟩
    unfold WS.close
    rw [if_neg HFT.out]
    exact UpdW.refl H.out
  · have hf : ft = 0 := by simpa using ht0
    subst hf
    by_cases ho : op = []
    · subst ho
      simp only [List.length_nil] at e2
      go_enter Try.func48, Try.ntmps48
      go_wp2_with (go_at_call 64; refine WH.out.mono ?_; rintro e w_ ⟨rfl, rfl⟩)
      refine bodyPost_ret (v := .tuple #[]) (by simp [results, Try.results48, go_sem, *]) rfl ?_
      refine ⟨rfl, ?_⟩
      unfold WS.close
      rw [if_pos rfl]
      exact ⟨(H.out.fault tw_ne 2).mono fun _ h => Or.inl h, Fr.set _ hk _⟩
    · exact CL rfl ho
set_option maxHeartbeats 400000 in
theorem wClose_nil (w : World) : Calls Try.prog 48 #[.pointer none] w fun e w' => e = .returned (.tuple #[]) ∧ w = w' := by
  go_enter Try.func48, Try.ntmps48
  go_wp2_with (go_at_call 64; refine (whole_nil _).mono ?_; rintro e w_ ⟨rfl, rfl⟩)
  refine bodyPost_ret (v := .tuple #[]) (by simp [results, Try.results48, go_sem, *]) rfl ?_
  exact ⟨rfl, rfl⟩
end
end Go.Proofs.Ytibelfljlhcibaa
namespace Go.Proofs.Ytibelfljlhcibaa
set_option linter.unusedVariables false
set_option linter.unusedSimpArgs false
open Go.RowKit Go.Deep Go.Proofs.YtibelfljlhcibaaW.PrintLast
section
variable {w : World} {F : Nat → Prop} {k : Nat} {s : WS}
set_option maxRecDepth 100000 in
set_option maxHeartbeats 2000000 in
theorem wClose_frame (h : WLies TW w F k s) (hok : s.Ok) (h63 : s.bs.length + 10 ≤ 140737488355328) (hft : s.ft = 0) (ho : s.op ≠ []) :
    Calls Try.prog 48 #[.pointer (some ⟨k, 0, none⟩)] w fun e w' => e = .returned (.tuple #[]) ∧ UpdW TW F k w w' s.close := by
  have WH := Lib.hid (whole_any h)
  have H := Lib.hid h
  have hk := h.in_
  have hr0 := hok.room0
  have hr1 := hok.room1
  have hfit := hok.fit
  have hin := hok.in_
  have hdp := hok.deep
  clear hok
  obtain ⟨A, c, OA, oc, h1, h2, h3, h4⟩ := h
  obtain ⟨room, bs, op, ft⟩ := s
  simp only at hr0 hr1 hfit hin hdp h63 h1 h3 h4 WH hft ho
  subst hft
  have e2 : w.cell? ⟨k, 2, none⟩ = some (.slice OA op.length oc) := cell_blk h1 2 rfl
  have e3 : w.cell? ⟨k, 3, none⟩ = some (.int .i64 0) := cell_blk h1 3 rfl
  have f3 := free_blk h1 3
  have hkl := blk_lt h1
  have HK := Lib.hid h1
  have H3 := Lib.hid h3
  have H4 := Lib.hid h4
  have HIN := Lib.hid hin
  clear h1 h2 h3 h4 hin
  have ht0 : ((0 : Int) == 0) = true := rfl
  rw [ht0] at WH
  clear ht0
  obtain ⟨d, hd⟩ : ∃ d, op.length = d + 1 := ⟨op.length - 1, by have := List.length_pos_iff.2 ho; omega⟩
  obtain ⟨fr, hfr⟩ : ∃ fr, op[d]? = some fr := ⟨_, List.getElem?_eq_getElem (by omega)⟩
  have hfl : fr ≤ bs.length := HIN.out fr (List.mem_of_getElem? hfr)
  obtain ⟨o, rfl, hFo, Oo⟩ := H4.out.some_ ho
  have co : w.cell? ⟨o, d, none⟩ = some (.int .i64 (fr : Int)) := by
    have := Oo.cell hfr (j := 0) (v := .int .i64 (fr : Int)) rfl
    simpa using this
  have hol := Oo.lt
  have hoc := Oo.le
  have hgl : op.getLast? = some fr := by rw [List.getLast?_eq_getElem?, hd]; exact hfr
  obtain ⟨n, hn⟩ : ∃ n, n = bs.length := ⟨_, rfl⟩
  obtain ⟨D, hD⟩ : ∃ D, n = fr + D := ⟨n - fr, by omega⟩
  rw [← hn] at hfl hfit h63
  rw [hd] at e2 hoc
  have e1 : w.cell? ⟨k, 1, none⟩ = some (.slice A n c) := by rw [hn]; exact cell_blk HK.out 1 rfl
  have FM := Lib.hid (form_any D (by omega) w)
  have hM10 := formN_len10 (n := D) (by omega)
  have hMne := formN_ne D
  have HMN := Lib.hid hMne
  obtain ⟨M, hM⟩ : ∃ M, M = (formN D).length := ⟨_, rfl⟩
  rw [← hM] at hM10 FM
  have hsub : (n : Int) - (fr : Int) = (D : Int) := by omega
  have hwu : IntKind.u64.wrap (D : Int) = (D : Int) := by rw [IntKind.wrap_u64]; omega
  have q1 : (d : Int) < ((d + 1 : Nat) : Int) := by omega
  have q2 : ¬ ((d : Int) < 0) := by omega
  have hdb : d ≤ 15 := by omega
  have hDb : D ≤ 140737488355328 := by omega
  have HGL := Lib.hid hgl
  have HO := Lib.hid Oo
  have HM := Lib.hid hM
  have HN := Lib.hid hn
  have HD := Lib.hid hd
  have HDD := Lib.hid hD
  have HOL := Lib.hid hol
  have HFL := Lib.hid hfl
  clear hgl Oo hM hn hd hfr ho hMne hD hol hfl hdp HIN e3 f3
  go_enter Try.func48, Try.ntmps48
  go_wp2_with (go_at_call 64; refine WH.out.mono ?_; rintro e w_ ⟨rfl, rfl⟩)
  refine FM.out.mono ?_
  rintro e w1 ⟨g, c1, rfl, hg, V, B1⟩
  have hk1 := blk_below HK.out B1
  have hkd : w1.drew.heap[k]? = _ := hk1
  have y0 : w1.cell? ⟨k, 0, none⟩ = some (.int .i64 room) := cell_blk hk1 0 rfl
  have y1 : w1.cell? ⟨k, 1, none⟩ = some (.slice A n c) := by rw [HN.out]; exact cell_blk hk1 1 rfl
  have HK1 := Lib.hid hk1
  have HKD := Lib.hid hkd
  have HV := Lib.hid V
  have HB := Lib.hid B1
  have HG := Lib.hid hg
  clear hk1 hkd V B1 hg e1 e2 co
  obtain ⟨t1, ht1⟩ := named (decide (room - (n : Int) < (M : Int)))
  cases t1
  · have hc : ¬ room - (n : Int) < (M : Int) := of_decide_eq_false ht1
    have HC := Lib.hid hc
    clear hc
    go_wp2_with (fail)
    refine start_ (n := 13) (S := fun w' => w'.cell? ⟨k, 0, none⟩ = some (.int .i64 room) ∧ w'.cell? ⟨k, 1, none⟩ = some (.slice A n c)) (ds := []) #[false, false, false, false, false, false, false, false, false, false, false, false, false] (by kernel_rfl) rfl rfl ⟨y0, y1⟩ (fun hHeld => ?_)
    (refine take_ (i := 0) (N := some 35) (v := ?v_2) (a' := ?a_2) #[true, false, false, false, false, false, false, false, false, false, false, false, false] rfl rfl (by kernel_rfl) (fun _ _ _ h => h) (Or.inl ⟨by rfl, ?hy_2⟩) hHeld ?ha_2 ?hh_2; (case hy_2 => (rintro w' ⟨s0_, s1_⟩; go_simp; with_reducible rfl)); (case ha_2 => (simp (disch := omega) only [Act.put, List.setIfInBounds_toArray, List.set_cons_zero, List.set_cons_succ, wrap_in]; rfl)))
    (refine take_ (i := 1) (N := some 36) (v := ?v_3) (a' := ?a_3) #[true, true, false, false, false, false, false, false, false, false, false, false, false] rfl rfl (by kernel_rfl) (fun _ _ _ h => h) (Or.inl ⟨by rfl, ?hy_3⟩) hHeld ?ha_3 ?hh_3; (case hy_3 => (rintro w' ⟨s0_, s1_⟩; go_simp; with_reducible rfl)); (case ha_3 => (simp (disch := omega) only [Act.put, List.setIfInBounds_toArray, List.set_cons_zero, List.set_cons_succ, wrap_in]; rfl)))
    (refine take_ (i := 2) (N := some 37) (v := ?v_4) (a' := ?a_4) #[true, true, true, false, false, false, false, false, false, false, false, false, false] rfl rfl (by kernel_rfl) (fun _ _ _ h => h) (Or.inl ⟨by rfl, ?hy_4⟩) hHeld ?ha_4 ?hh_4; (case hy_4 => (rintro w' ⟨s0_, s1_⟩; go_simp; with_reducible rfl)); (case ha_4 => (simp (disch := omega) only [Act.put, List.setIfInBounds_toArray, List.set_cons_zero, List.set_cons_succ, wrap_in]; rfl)))
    (refine take_ (i := 3) (N := some 38) (v := ?v_5) (a' := ?a_5) #[true, true, true, true, false, false, false, false, false, false, false, false, false] rfl rfl (by kernel_rfl) (fun _ _ _ h => h) (Or.inl ⟨by rfl, ?hy_5⟩) hHeld ?ha_5 ?hh_5; (case hy_5 => (rintro w' ⟨s0_, s1_⟩; go_simp; with_reducible rfl)); (case ha_5 => (simp (disch := omega) only [Act.put, List.setIfInBounds_toArray, List.set_cons_zero, List.set_cons_succ, wrap_in]; rfl)))
    (refine take_ (i := 4) (N := some 39) (v := ?v_6) (a' := ?a_6) #[true, true, true, true, true, false, false, false, false, false, false, false, false] rfl rfl (by kernel_rfl) (fun _ _ _ h => h) (Or.inl ⟨by rfl, ?hy_6⟩) hHeld ?ha_6 ?hh_6; (case hy_6 => (rintro w' ⟨s0_, s1_⟩; go_simp; with_reducible rfl)); (case ha_6 => (simp (disch := omega) only [Act.put, List.setIfInBounds_toArray, List.set_cons_zero, List.set_cons_succ, wrap_in]; rfl)))
    (refine take_ (i := 5) (N := some 40) (v := ?v_7) (a' := ?a_7) #[true, true, true, true, true, true, false, false, false, false, false, false, false] rfl rfl (by kernel_rfl) (fun _ _ _ h => h) (Or.inl ⟨by rfl, ?hy_7⟩) hHeld ?ha_7 ?hh_7; (case hy_7 => (rintro w' ⟨s0_, s1_⟩; go_simp; with_reducible rfl)); (case ha_7 => (simp (disch := omega) only [Act.put, List.setIfInBounds_toArray, List.set_cons_zero, List.set_cons_succ, wrap_in]; rfl)))
    (refine take_ (i := 6) (N := some 41) (v := ?v_8) (a' := ?a_8) #[true, true, true, true, true, true, true, false, false, false, false, false, false] rfl rfl (by kernel_rfl) (fun _ _ _ h => h) (Or.inl ⟨by rfl, ?hy_8⟩) hHeld ?ha_8 ?hh_8; (case hy_8 => (rintro w' ⟨s0_, s1_⟩; go_simp; with_reducible rfl)); (case ha_8 => (simp (disch := omega) only [Act.put, List.setIfInBounds_toArray, List.set_cons_zero, List.set_cons_succ, wrap_in]; rfl)))
    (refine take_ (i := 7) (N := some 42) (v := ?v_9) (a' := ?a_9) #[true, true, true, true, true, true, true, true, false, false, false, false, false] rfl rfl (by kernel_rfl) (fun _ _ _ h => h) (Or.inl ⟨by rfl, ?hy_9⟩) hHeld ?ha_9 ?hh_9; (case hy_9 => (rintro w' ⟨s0_, s1_⟩; go_simp; with_reducible rfl)); (case ha_9 => (simp (disch := omega) only [Act.put, List.setIfInBounds_toArray, List.set_cons_zero, List.set_cons_succ, wrap_in]; rfl)))
    (refine take_ (i := 8) (N := some 43) (v := ?v_10) (a' := ?a_10) #[true, true, true, true, true, true, true, true, true, false, false, false, false] rfl rfl (by kernel_rfl) (fun _ _ _ h => h) (Or.inl ⟨by rfl, ?hy_10⟩) hHeld ?ha_10 ?hh_10; (case hy_10 => (rintro w' ⟨s0_, s1_⟩; go_simp; with_reducible rfl)); (case ha_10 => (simp (disch := omega) only [Act.put, List.setIfInBounds_toArray, List.set_cons_zero, List.set_cons_succ, wrap_in]; rfl)))
    (refine take_ (i := 9) (N := some 44) (v := ?v_11) (a' := ?a_11) #[true, true, true, true, true, true, true, true, true, true, false, false, false] rfl rfl (by kernel_rfl) (fun _ _ _ h => h) (Or.inl ⟨by rfl, ?hy_11⟩) hHeld ?ha_11 ?hh_11; (case hy_11 => (rintro w' ⟨s0_, s1_⟩; go_simp; with_reducible rfl)); (case ha_11 => (simp (disch := omega) only [Act.put, List.setIfInBounds_toArray, List.set_cons_zero, List.set_cons_succ, wrap_in]; rfl)))
    (refine take_ (i := 10) (N := some 45) (v := ?v_12) (a' := ?a_12) #[true, true, true, true, true, true, true, true, true, true, true, false, false] rfl rfl (by kernel_rfl) (fun _ _ _ h => h) (Or.inl ⟨by rfl, ?hy_12⟩) hHeld ?ha_12 ?hh_12; (case hy_12 => (rintro w' ⟨s0_, s1_⟩; go_simp; with_reducible rfl)); (case ha_12 => (simp (disch := omega) only [Act.put, List.setIfInBounds_toArray, List.set_cons_zero, List.set_cons_succ, wrap_in]; rfl)))
    (refine take_ (i := 11) (N := some 46) (v := ?v_13) (a' := ?a_13) #[true, true, true, true, true, true, true, true, true, true, true, true, false] rfl rfl (by kernel_rfl) (fun _ _ _ h => h) (Or.inl ⟨by rfl, ?hy_13⟩) hHeld ?ha_13 ?hh_13; (case hy_13 => (rintro w' ⟨s0_, s1_⟩; go_simp; with_reducible rfl)); (case ha_13 => (simp (disch := omega) only [Act.put, List.setIfInBounds_toArray, List.set_cons_zero, List.set_cons_succ, wrap_in]; rfl)))
    (refine take_ (i := 12) (N := some 47) (v := ?v_14) (a' := ?a_14) #[true, true, true, true, true, true, true, true, true, true, true, true, true] rfl rfl (by kernel_rfl) (fun _ _ _ h => h) (Or.inl ⟨by rfl, ?hy_14⟩) hHeld ?ha_14 ?hh_14; (case hy_14 => (rintro w' ⟨s0_, s1_⟩; go_simp; with_reducible rfl)); (case ha_14 => (simp (disch := omega) only [Act.put, List.setIfInBounds_toArray, List.set_cons_zero, List.set_cons_succ, wrap_in]; rfl)))
    refine done_ (by kernel_rfl) ?_
    have y2 : w1.drew.cell? ⟨k, 2, none⟩ = some (.slice (some ⟨o, 0, none⟩) (d + 1) oc) := by
      have := cell_blk HKD.out 2 rfl
      rw [HD.out] at this; exact this
    have f2 := free_blk HKD.out 2
    have hkW := setCell_heap w1.drew k 2 (.slice (some ⟨o, 0, none⟩) d oc) _ _ _ HKD.out
    have z1 : (w1.drew.setCell ⟨k, 2, none⟩ (.slice (some ⟨o, 0, none⟩) d oc)).cell? ⟨k, 1, none⟩ = some (.slice A n c) := by rw [HN.out]; exact cell_blk hkW 1 rfl
    have KA := fun (T : TypeId) (hne : T ≠ TW) => ((KeepT.below (T := T) HB.out).trans (KeepT.drew T w1)).trans (KeepT.setCell HKD.out hne 2 (.slice (some ⟨o, 0, none⟩) d oc))
    have hgk : g ≠ k := by have := HG.out; omega
    have INS := insert_any (w := w1.drew.setCell ⟨k, 2, none⟩ (.slice (some ⟨o, 0, none⟩) d oc)) (i := fr) (H3.out.keeps (KA _ (by decide))) (by have := HFL.out; have := HN.out; omega) (HV.out.drew.other (a := ⟨k, 2, none⟩) hgk _)
      (fun g' hA => by
        obtain ⟨hA0, _⟩ | ⟨g2, hA1, _, O2⟩ := H3.out
        · rw [hA0] at hA; cases hA
        · rw [hA1] at hA
          injection hA with hA
          injection hA with hA
          have := O2.lt
          have := HG.out
          omega) HMN.out (by have := HM.out; have := HN.out; omega)
    rw [← HN.out, ← HM.out] at INS
    obtain ⟨bs', hbs'⟩ : ∃ l, l = bs.take fr ++ (formN D ++ bs.drop fr) := ⟨_, rfl⟩
    rw [← hbs'] at INS
    have INS' := Lib.hid INS
    have HBS := Lib.hid hbs'
    have HKW := Lib.hid hkW
    have HKA := Lib.hid KA
    have HQ := Lib.hid ht1
    clear INS hbs' hkW KA
    go_wp2_with (fail)
    refine INS'.out.mono ?_
    rintro e w3 ⟨A', c', rfl, R3, F3, K3⟩
    have hk3 := K3 TW (by decide) _ _ HKW.out
    have z3 : w3.cell? ⟨k, 1, none⟩ = some (.slice A n c) := by rw [HN.out]; exact cell_blk hk3 1 rfl
    have f3 := free_blk hk3 1
    have HR3 := Lib.hid R3
    have HF3 := Lib.hid F3
    have HK3 := Lib.hid hk3
    have HKT := Lib.hid K3
    clear R3 F3 K3 hk3 z1 f2 y2
    go_wp2_with (fail)
    go_end0
    refine ⟨rfl, ?_⟩
    have hS := setCell_heap w3 k 1 (.slice A' bs'.length c') _ _ _ HK3.out
    have KB := fun (T : TypeId) (hne : T ≠ TW) => (KeepT.setCell HK3.out hne 1 (.slice A' bs'.length c'))
    have hcl : (⟨room, bs, op, 0⟩ : WS).close = ⟨room, bs', op.take d, 0⟩ := by
      have h1 : bs.length - fr = D := by have := HN.out; have := HDD.out; omega
      unfold WS.close
      rw [if_pos rfl]
      simp only [HGL.out]
      rw [h1, ← HN.out, ← HM.out, if_neg (by have := HC.out; omega), HBS.out, List.dropLast_eq_take, HD.out]
      rfl
    have htl : (op.take d).length = d := by rw [List.length_take, HD.out]; omega
    rw [hcl]
    refine ⟨⟨A', c', some ⟨o, 0, none⟩, oc, ?_, Or.inl hk, (HR3.out.keeps (KB _ (by decide))).mono fun x hx => ?_, ?_⟩, ((((Fr.below F HB.out).trans (Fr.drew F w1) fun _ _ h => h).trans (Fr.set _ hk _) fun _ _ h => h).trans HF3.out fun _ _ h => h).trans (Fr.set _ hk _) fun _ _ h => h⟩
    · simp only [htl]
      simpa using hS
    · rcases hx with hx | hx
      · exact Or.inl hx
      · have := HB.out.size
        rw [setCell_size] at hx
        exact Or.inr ⟨Nat.le_trans this hx.1, by rw [setCell_size]; exact hx.2⟩
    · exact ((((H4.out.take d).keeps (HKA.out _ (by decide))).keeps (HKT.out _ (by decide))).keeps (KB _ (by decide))).mono fun _ h => Or.inl h
  · have hc : room - (n : Int) < (M : Int) := of_decide_eq_true ht1
    have HC := Lib.hid hc
    clear hc
    go_wp2_with (fail)
    refine start_ (n := 13) (S := fun w' => w'.cell? ⟨k, 0, none⟩ = some (.int .i64 room) ∧ w'.cell? ⟨k, 1, none⟩ = some (.slice A n c)) (ds := []) #[false, false, false, false, false, false, false, false, false, false, false, false, false] (by kernel_rfl) rfl rfl ⟨y0, y1⟩ (fun hHeld => ?_)
    (refine take_ (i := 0) (N := some 35) (v := ?v_17) (a' := ?a_17) #[true, false, false, false, false, false, false, false, false, false, false, false, false] rfl rfl (by kernel_rfl) (fun _ _ _ h => h) (Or.inl ⟨by rfl, ?hy_17⟩) hHeld ?ha_17 ?hh_17; (case hy_17 => (rintro w' ⟨s0_, s1_⟩; go_simp; with_reducible rfl)); (case ha_17 => (simp (disch := omega) only [Act.put, List.setIfInBounds_toArray, List.set_cons_zero, List.set_cons_succ, wrap_in]; rfl)))
    (refine take_ (i := 1) (N := some 36) (v := ?v_18) (a' := ?a_18) #[true, true, false, false, false, false, false, false, false, false, false, false, false] rfl rfl (by kernel_rfl) (fun _ _ _ h => h) (Or.inl ⟨by rfl, ?hy_18⟩) hHeld ?ha_18 ?hh_18; (case hy_18 => (rintro w' ⟨s0_, s1_⟩; go_simp; with_reducible rfl)); (case ha_18 => (simp (disch := omega) only [Act.put, List.setIfInBounds_toArray, List.set_cons_zero, List.set_cons_succ, wrap_in]; rfl)))
    (refine take_ (i := 2) (N := some 37) (v := ?v_19) (a' := ?a_19) #[true, true, true, false, false, false, false, false, false, false, false, false, false] rfl rfl (by kernel_rfl) (fun _ _ _ h => h) (Or.inl ⟨by rfl, ?hy_19⟩) hHeld ?ha_19 ?hh_19; (case hy_19 => (rintro w' ⟨s0_, s1_⟩; go_simp; with_reducible rfl)); (case ha_19 => (simp (disch := omega) only [Act.put, List.setIfInBounds_toArray, List.set_cons_zero, List.set_cons_succ, wrap_in]; rfl)))
    (refine take_ (i := 3) (N := some 38) (v := ?v_20) (a' := ?a_20) #[true, true, true, true, false, false, false, false, false, false, false, false, false] rfl rfl (by kernel_rfl) (fun _ _ _ h => h) (Or.inl ⟨by rfl, ?hy_20⟩) hHeld ?ha_20 ?hh_20; (case hy_20 => (rintro w' ⟨s0_, s1_⟩; go_simp; with_reducible rfl)); (case ha_20 => (simp (disch := omega) only [Act.put, List.setIfInBounds_toArray, List.set_cons_zero, List.set_cons_succ, wrap_in]; rfl)))
    (refine take_ (i := 4) (N := some 39) (v := ?v_21) (a' := ?a_21) #[true, true, true, true, true, false, false, false, false, false, false, false, false] rfl rfl (by kernel_rfl) (fun _ _ _ h => h) (Or.inl ⟨by rfl, ?hy_21⟩) hHeld ?ha_21 ?hh_21; (case hy_21 => (rintro w' ⟨s0_, s1_⟩; go_simp; with_reducible rfl)); (case ha_21 => (simp (disch := omega) only [Act.put, List.setIfInBounds_toArray, List.set_cons_zero, List.set_cons_succ, wrap_in]; rfl)))
    (refine take_ (i := 5) (N := some 40) (v := ?v_22) (a' := ?a_22) #[true, true, true, true, true, true, false, false, false, false, false, false, false] rfl rfl (by kernel_rfl) (fun _ _ _ h => h) (Or.inl ⟨by rfl, ?hy_22⟩) hHeld ?ha_22 ?hh_22; (case hy_22 => (rintro w' ⟨s0_, s1_⟩; go_simp; with_reducible rfl)); (case ha_22 => (simp (disch := omega) only [Act.put, List.setIfInBounds_toArray, List.set_cons_zero, List.set_cons_succ, wrap_in]; rfl)))
    (refine take_ (i := 6) (N := some 41) (v := ?v_23) (a' := ?a_23) #[true, true, true, true, true, true, true, false, false, false, false, false, false] rfl rfl (by kernel_rfl) (fun _ _ _ h => h) (Or.inl ⟨by rfl, ?hy_23⟩) hHeld ?ha_23 ?hh_23; (case hy_23 => (rintro w' ⟨s0_, s1_⟩; go_simp; with_reducible rfl)); (case ha_23 => (simp (disch := omega) only [Act.put, List.setIfInBounds_toArray, List.set_cons_zero, List.set_cons_succ, wrap_in]; rfl)))
    (refine take_ (i := 7) (N := some 42) (v := ?v_24) (a' := ?a_24) #[true, true, true, true, true, true, true, true, false, false, false, false, false] rfl rfl (by kernel_rfl) (fun _ _ _ h => h) (Or.inl ⟨by rfl, ?hy_24⟩) hHeld ?ha_24 ?hh_24; (case hy_24 => (rintro w' ⟨s0_, s1_⟩; go_simp; with_reducible rfl)); (case ha_24 => (simp (disch := omega) only [Act.put, List.setIfInBounds_toArray, List.set_cons_zero, List.set_cons_succ, wrap_in]; rfl)))
    (refine take_ (i := 8) (N := some 43) (v := ?v_25) (a' := ?a_25) #[true, true, true, true, true, true, true, true, true, false, false, false, false] rfl rfl (by kernel_rfl) (fun _ _ _ h => h) (Or.inl ⟨by rfl, ?hy_25⟩) hHeld ?ha_25 ?hh_25; (case hy_25 => (rintro w' ⟨s0_, s1_⟩; go_simp; with_reducible rfl)); (case ha_25 => (simp (disch := omega) only [Act.put, List.setIfInBounds_toArray, List.set_cons_zero, List.set_cons_succ, wrap_in]; rfl)))
    (refine take_ (i := 9) (N := some 44) (v := ?v_26) (a' := ?a_26) #[true, true, true, true, true, true, true, true, true, true, false, false, false] rfl rfl (by kernel_rfl) (fun _ _ _ h => h) (Or.inl ⟨by rfl, ?hy_26⟩) hHeld ?ha_26 ?hh_26; (case hy_26 => (rintro w' ⟨s0_, s1_⟩; go_simp; with_reducible rfl)); (case ha_26 => (simp (disch := omega) only [Act.put, List.setIfInBounds_toArray, List.set_cons_zero, List.set_cons_succ, wrap_in]; rfl)))
    (refine take_ (i := 10) (N := some 45) (v := ?v_27) (a' := ?a_27) #[true, true, true, true, true, true, true, true, true, true, true, false, false] rfl rfl (by kernel_rfl) (fun _ _ _ h => h) (Or.inl ⟨by rfl, ?hy_27⟩) hHeld ?ha_27 ?hh_27; (case hy_27 => (rintro w' ⟨s0_, s1_⟩; go_simp; with_reducible rfl)); (case ha_27 => (simp (disch := omega) only [Act.put, List.setIfInBounds_toArray, List.set_cons_zero, List.set_cons_succ, wrap_in]; rfl)))
    (refine take_ (i := 11) (N := some 46) (v := ?v_28) (a' := ?a_28) #[true, true, true, true, true, true, true, true, true, true, true, true, false] rfl rfl (by kernel_rfl) (fun _ _ _ h => h) (Or.inl ⟨by rfl, ?hy_28⟩) hHeld ?ha_28 ?hh_28; (case hy_28 => (rintro w' ⟨s0_, s1_⟩; go_simp; with_reducible rfl)); (case ha_28 => (simp (disch := omega) only [Act.put, List.setIfInBounds_toArray, List.set_cons_zero, List.set_cons_succ, wrap_in]; rfl)))
    (refine take_ (i := 12) (N := some 47) (v := ?v_29) (a' := ?a_29) #[true, true, true, true, true, true, true, true, true, true, true, true, true] rfl rfl (by kernel_rfl) (fun _ _ _ h => h) (Or.inl ⟨by rfl, ?hy_29⟩) hHeld ?ha_29 ?hh_29; (case hy_29 => (rintro w' ⟨s0_, s1_⟩; go_simp; with_reducible rfl)); (case ha_29 => (simp (disch := omega) only [Act.put, List.setIfInBounds_toArray, List.set_cons_zero, List.set_cons_succ, wrap_in]; rfl)))
    refine done_ (by kernel_rfl) ?_
    have y3 : w1.drew.cell? ⟨k, 3, none⟩ = some (.int .i64 0) := cell_blk HKD.out 3 rfl
    have f3 := free_blk HKD.out 3
    go_wp2_with (fail)
    refine bodyPost_ret (v := .tuple #[]) (by simp [results, Try.results48, go_sem, *]) rfl ?_
    refine ⟨rfl, ?_⟩
    have hcl : (⟨room, bs, op, 0⟩ : WS).close = ⟨room, bs, op, 13⟩ := by
      have h1 : bs.length - fr = D := by have := HN.out; have := HDD.out; omega
      unfold WS.close
      rw [if_pos rfl]
      simp only [HGL.out]
      rw [h1, ← HN.out, ← HM.out, if_pos HC.out]
    rw [hcl]
    exact ⟨((H.out.below HB.out).drew.fault tw_ne 13).mono fun _ h => Or.inl h, ((Fr.below F HB.out).trans (Fr.drew F w1) fun _ _ h => h).trans (Fr.set _ hk _) fun _ _ h => h⟩
theorem wClose_any (h : WLies TW w F k s) (hok : s.Ok) (h63 : s.bs.length + 10 ≤ 140737488355328) :
    Calls Try.prog 48 #[.pointer (some ⟨k, 0, none⟩)] w fun e w' => e = .returned (.tuple #[]) ∧ UpdW TW F k w w' s.close :=
  wClose_but h hok h63 fun hf ho => wClose_frame h hok h63 hf ho
end
end Go.Proofs.Ytibelfljlhcibaa
