/- up: the number that bytes are. -/
import Derived.Test.YtibelfljlhcibaaPB
import Derived.Test.YtibelfljlhcibaaPA
import Derived.Test.YtibelfljlhcibaaPO
namespace Go.Proofs.Ytibelfljlhcibaa
set_option linter.unusedVariables false
set_option linter.unusedSimpArgs false
open Go.RowKit Go.Deep Go.Shelf Go.Proofs.YtibelfljlhcibaaW.PrintLast
attribute [local go_sem] Oper.semAt_some

theorem blk_own {W W' : World} {b : Nat} {cs : Array Value} {T : TypeId} {row : Option Nat} (h : W.heap[b]? = some (.cells cs T (0, 0))) (hg : W.grownBy W' row) (hr : ∀ r, row = some r → ∃ o : Obj, W.heap[r]? = some o ∧ o.isCells = false) : W'.heap[b]? = some (.cells cs T (0, 0)) :=
  (grownBy_keeps_cells hg hr h rfl).trans h
theorem below_btw {n : Nat} {w W W' : World} (h : Below n w W) (h' : Below n w W') (hs : W.heap.size ≤ W'.heap.size) : Below n W W' :=
  ⟨h'.os.trans h.os.symm, h'.tape.trans h.tape.symm, h'.output.trans h.output.symm, hs, fun k hk => (h'.block k hk).trans (h.block k hk).symm⟩
theorem upN_append_one : ∀ (p : List Int) (k : Nat), k < p.length → (∀ x ∈ p, (0 : Int) ≤ x ∧ x < 256) → upN (p.drop k) = (p.getD k 0).toNat + 256 * upN (p.drop (k + 1)) := by
  intro p k hk hb
  rw [List.drop_eq_getElem_cons hk, upN, List.getD_eq_getElem?_getD, List.getElem?_eq_getElem hk]
  rfl
def stepU_u64 (a c : Int) : Int := bits BinOp.or IntKind.u64 (IntKind.u64.wrap (IntKind.u64.wrap (a * 16) * 16)) (IntKind.u64.wrap c)
def accU_u64 (l : List (Int × Int)) : Int := l.foldl (fun a x => stepU_u64 a x.2) 0
theorem accU_u64_snoc (l : List (Int × Int)) (x : Int × Int) : accU_u64 (l ++ [x]) = stepU_u64 (accU_u64 l) x.2 := by simp [accU_u64]
set_option maxRecDepth 100000 in
set_option maxHeartbeats 4000000 in
theorem up_raw_u64 {w : World} {A : Option Addr} {cap : Nat} {p : List Int} (hp : BSrc w A p) (hl : p.length ≤ 1000) :
    Calls Try.prog 70 #[.slice A p.length cap] w fun e w' => e = .returned (.int .u64 (accU_u64 (backs p p.length))) ∧ Below w.heap.size w w' := by
  have HP := Lib.hid hp
  clear hp
  refine (callsIn_wide (n := 4)).1 ?_
  refine callsIn_of_wp_marks Try.func70 rfl trivial ?_ rfl
  simp only [Try.ntmps70, List.size_toArray, List.length_cons, List.length_nil, Nat.reduceAdd, Nat.reduceSub, Array.replicate_succ, Array.replicate_zero, List.push_toArray, List.append_toArray, List.nil_append, List.cons_append]
  gi_wp2_with (fail)
  refine ⟨trivial, (callsIn_wide.2 (back_any _)).mono ?_⟩
  rintro e w_ ⟨rfl, rfl⟩
  gi_wp2_with (fail)
  obtain ⟨h0, h1⟩ := two_blks w (.cells #[.int .u64 0] 22) (.cells #[.slice A p.length cap] 23)
  have HB : Below w.heap.size w ((w.alloc (.cells #[.int .u64 0] 22)).alloc (.cells #[.slice A p.length cap] 23)) := ((Below.refl _ w).alloc (Nat.le_refl _) _).alloc (by simp) _
  have HS : ((w.alloc (.cells #[.int .u64 0] 22)).alloc (.cells #[.slice A p.length cap] 23)).heap.size = w.heap.size + 1 + 1 := by simp
  obtain ⟨W0, hW0⟩ : ∃ W0, ((w.alloc (.cells #[.int .u64 0] 22)).alloc (.cells #[.slice A p.length cap] 23)) = W0 := ⟨_, rfl⟩
  rw [hW0] at h0 h1 HB HS ⊢
  clear hW0
  have hpp : p ≠ [] → ∃ g o, A = some ⟨g, o, none⟩ ∧ g < w.heap.size ∧ BsAt W0 g o p := fun hne => by
    obtain ⟨g, o, e1, e2⟩ := HP.out hne
    have hgl : g < w.heap.size := by
      obtain ⟨x, t, rfl⟩ := List.exists_cons_of_ne_nil hne
      exact World.block_lt_of_cell? _ _ (e2 0 x rfl)
    exact ⟨g, o, e1, hgl, e2.moved (HB.block g hgl)⟩
  refine wpIn_rangeFunc_ownF rfl (by decide) (gf := 132) (lb := #[.pointer (some ⟨w.heap.size + 1, 0, none⟩)]) rfl trivial (enters_of Try.func132 (by kernel_rfl) rfl)
    (back_stops 3 (by decide) (w.heap.size + 1) w.heap.size A cap p (by omega) W0 (by omega) (by omega) h1 hpp) (fun h k => ⟨belowK_t h.1 k.1, k.2.trans h.2⟩)
    (fun W l o o' hl h hc hw => ⟨belowK_b (by omega) W l o o' hl h hc hw, World.putObj_heap_other (by omega)⟩) (Below.refl _ _) (fun _ => rfl)
    (fun pre W => (W.heap[w.heap.size]? = some (.cells #[.int .u64 (accU_u64 pre)] 22 (0, 0)) ∧ W.heap[w.heap.size + 1]? = some (.cells #[.slice A p.length cap] 23 (0, 0))) ∧ Below w.heap.size w W) (fun c pre W => False)
    (OwnFrom.and (Own.from (fun s A B row hs hg hr => ⟨blk_own hs.1 hg hr, blk_own hs.2 hg hr⟩) _) (ownFrom_below (Nat.le_refl _) (by omega))) (fun c => fun _ _ _ _ hs _ _ => hs) ⟨⟨h0, h1⟩, HB⟩ ?a1 ?assign ?body ?done ?stop
  case' assign =>
    intro l x W K hK
    unfold encBk
    gi_wp2
    exact hK
  case stop =>
    rintro D c pre W hD hpre hf hK
    exact hf.elim
  case body =>
    rintro l pre ⟨k, v⟩ W ⟨⟨e0, e1⟩, hB⟩ hlt
    generalize hacc : accU_u64 pre = acc at e0
    have HAC := Lib.hid hacc
    have c0 := cell_blk e0 0 rfl
    have f0 := free_blk e0 0
    have s1 : ∀ v : Value, (W.setCell ⟨w.heap.size, 0, none⟩ v).heap[w.heap.size]? = some (.cells #[v] 22 (0, 0)) := fun v => setCell_heap W w.heap.size 0 v _ _ _ e0
    have s2 : ∀ u v : Value, ((W.setCell ⟨w.heap.size, 0, none⟩ u).setCell ⟨w.heap.size, 0, none⟩ v).heap[w.heap.size]? = some (.cells #[v] 22 (0, 0)) := fun u v => setCell_heap _ w.heap.size 0 v _ _ _ (s1 u)
    have c1 : ∀ v : Value, (W.setCell ⟨w.heap.size, 0, none⟩ v).cell? ⟨w.heap.size, 0, none⟩ = some v := fun v => cell_blk (s1 v) 0 rfl
    have c2 : ∀ u v : Value, ((W.setCell ⟨w.heap.size, 0, none⟩ u).setCell ⟨w.heap.size, 0, none⟩ v).cell? ⟨w.heap.size, 0, none⟩ = some v := fun u v => cell_blk (s2 u v) 0 rfl
    have f1 : ∀ v : Value, (W.setCell ⟨w.heap.size, 0, none⟩ v).frozen? ⟨w.heap.size, 0, none⟩ = false := fun v => free_blk (s1 v) 0
    have f2 : ∀ u v : Value, ((W.setCell ⟨w.heap.size, 0, none⟩ u).setCell ⟨w.heap.size, 0, none⟩ v).frozen? ⟨w.heap.size, 0, none⟩ = false := fun u v => free_blk (s2 u v) 0
    have HE1 := Lib.hid e1
    have HBB := Lib.hid hB
    have HS2 := Lib.hid s2
    clear e0 e1 hB hacc s1 s2
    have W3 : ∀ x1 x2 x3 : Value, KeepsOthers W (((W.setCell ⟨w.heap.size, 0, none⟩ x1).setCell ⟨w.heap.size, 0, none⟩ x2).setCell ⟨w.heap.size, 0, none⟩ x3) ∧ Below w.heap.size w (((W.setCell ⟨w.heap.size, 0, none⟩ x1).setCell ⟨w.heap.size, 0, none⟩ x2).setCell ⟨w.heap.size, 0, none⟩ x3) ∧
        (((W.setCell ⟨w.heap.size, 0, none⟩ x1).setCell ⟨w.heap.size, 0, none⟩ x2).setCell ⟨w.heap.size, 0, none⟩ x3).heap[w.heap.size]? = some (.cells #[x3] 22 (0, 0)) ∧
        (((W.setCell ⟨w.heap.size, 0, none⟩ x1).setCell ⟨w.heap.size, 0, none⟩ x2).setCell ⟨w.heap.size, 0, none⟩ x3).heap[w.heap.size + 1]? = W.heap[w.heap.size + 1]? := fun x1 x2 x3 =>
      ⟨((KeepsOthers.setCell W ⟨w.heap.size, 0, none⟩ x1).trans (KeepsOthers.setCell _ ⟨w.heap.size, 0, none⟩ x2)).trans (KeepsOthers.setCell _ ⟨w.heap.size, 0, none⟩ x3),
       ((HBB.out.setCell (p := ⟨w.heap.size, 0, none⟩) (Nat.le_refl _) x1).setCell (p := ⟨w.heap.size, 0, none⟩) (Nat.le_refl _) x2).setCell (p := ⟨w.heap.size, 0, none⟩) (Nat.le_refl _) x3,
       setCell_heap _ w.heap.size 0 x3 _ _ _ (HS2.out x1 x2),
       ((Below.heap_setCell _ _ _ _ (by simp)).trans (Below.heap_setCell _ _ _ _ (by simp))).trans (Below.heap_setCell _ _ _ _ (by simp))⟩
    have HW3 := Lib.hid W3
    clear W3
    gi_wp2
    obtain ⟨q1, q2, q3, q4⟩ := HW3.out (.int .u64 (IntKind.u64.wrap (acc * 16))) (.int .u64 (IntKind.u64.wrap (IntKind.u64.wrap (acc * 16) * 16))) (.int .u64 (stepU_u64 acc v))
    refine ⟨q1, ⟨below_btw HBB.out q2 q1.size, q4⟩, ⟨?_, q4.trans HE1.out⟩, q2⟩
    rw [accU_u64_snoc, HAC.out]
    exact q3
  case done =>
    rintro D ys W hD rfl ⟨⟨e0, e1⟩, hB⟩ hK
    have c0 := cell_blk e0 0 rfl
    have HK := Lib.hid hK
    have HB2 := Lib.hid hB
    clear hK hB e1
    gi_wp2
    refine ⟨by simp, .inl ⟨_, _, rfl, run_takeDeferred HK.out, ?_⟩⟩
    exact ⟨_, results_tmp rfl _ _ _, rfl, HB2.out.trans (belowK_b (w := w) (Nat.le_refl _) W D _ _ (by omega) HK.out rfl rfl)⟩
def stepU_u32 (a c : Int) : Int := bits BinOp.or IntKind.u32 (IntKind.u32.wrap (IntKind.u32.wrap (a * 16) * 16)) (IntKind.u32.wrap c)
def accU_u32 (l : List (Int × Int)) : Int := l.foldl (fun a x => stepU_u32 a x.2) 0
theorem accU_u32_snoc (l : List (Int × Int)) (x : Int × Int) : accU_u32 (l ++ [x]) = stepU_u32 (accU_u32 l) x.2 := by simp [accU_u32]
set_option maxRecDepth 100000 in
set_option maxHeartbeats 4000000 in
theorem up_raw_u32 {w : World} {A : Option Addr} {cap : Nat} {p : List Int} (hp : BSrc w A p) (hl : p.length ≤ 1000) :
    Calls Try.prog 110 #[.slice A p.length cap] w fun e w' => e = .returned (.int .u32 (accU_u32 (backs p p.length))) ∧ Below w.heap.size w w' := by
  have HP := Lib.hid hp
  clear hp
  refine (callsIn_wide (n := 4)).1 ?_
  refine callsIn_of_wp_marks Try.func110 rfl trivial ?_ rfl
  simp only [Try.ntmps110, List.size_toArray, List.length_cons, List.length_nil, Nat.reduceAdd, Nat.reduceSub, Array.replicate_succ, Array.replicate_zero, List.push_toArray, List.append_toArray, List.nil_append, List.cons_append]
  gi_wp2_with (fail)
  refine ⟨trivial, (callsIn_wide.2 (back_any _)).mono ?_⟩
  rintro e w_ ⟨rfl, rfl⟩
  gi_wp2_with (fail)
  obtain ⟨h0, h1⟩ := two_blks w (.cells #[.int .u32 0] 114) (.cells #[.slice A p.length cap] 23)
  have HB : Below w.heap.size w ((w.alloc (.cells #[.int .u32 0] 114)).alloc (.cells #[.slice A p.length cap] 23)) := ((Below.refl _ w).alloc (Nat.le_refl _) _).alloc (by simp) _
  have HS : ((w.alloc (.cells #[.int .u32 0] 114)).alloc (.cells #[.slice A p.length cap] 23)).heap.size = w.heap.size + 1 + 1 := by simp
  obtain ⟨W0, hW0⟩ : ∃ W0, ((w.alloc (.cells #[.int .u32 0] 114)).alloc (.cells #[.slice A p.length cap] 23)) = W0 := ⟨_, rfl⟩
  rw [hW0] at h0 h1 HB HS ⊢
  clear hW0
  have hpp : p ≠ [] → ∃ g o, A = some ⟨g, o, none⟩ ∧ g < w.heap.size ∧ BsAt W0 g o p := fun hne => by
    obtain ⟨g, o, e1, e2⟩ := HP.out hne
    have hgl : g < w.heap.size := by
      obtain ⟨x, t, rfl⟩ := List.exists_cons_of_ne_nil hne
      exact World.block_lt_of_cell? _ _ (e2 0 x rfl)
    exact ⟨g, o, e1, hgl, e2.moved (HB.block g hgl)⟩
  refine wpIn_rangeFunc_ownF rfl (by decide) (gf := 132) (lb := #[.pointer (some ⟨w.heap.size + 1, 0, none⟩)]) rfl trivial (enters_of Try.func132 (by kernel_rfl) rfl)
    (back_stops 3 (by decide) (w.heap.size + 1) w.heap.size A cap p (by omega) W0 (by omega) (by omega) h1 hpp) (fun h k => ⟨belowK_t h.1 k.1, k.2.trans h.2⟩)
    (fun W l o o' hl h hc hw => ⟨belowK_b (by omega) W l o o' hl h hc hw, World.putObj_heap_other (by omega)⟩) (Below.refl _ _) (fun _ => rfl)
    (fun pre W => (W.heap[w.heap.size]? = some (.cells #[.int .u32 (accU_u32 pre)] 114 (0, 0)) ∧ W.heap[w.heap.size + 1]? = some (.cells #[.slice A p.length cap] 23 (0, 0))) ∧ Below w.heap.size w W) (fun c pre W => False)
    (OwnFrom.and (Own.from (fun s A B row hs hg hr => ⟨blk_own hs.1 hg hr, blk_own hs.2 hg hr⟩) _) (ownFrom_below (Nat.le_refl _) (by omega))) (fun c => fun _ _ _ _ hs _ _ => hs) ⟨⟨h0, h1⟩, HB⟩ ?a1 ?assign ?body ?done ?stop
  case' assign =>
    intro l x W K hK
    unfold encBk
    gi_wp2
    exact hK
  case stop =>
    rintro D c pre W hD hpre hf hK
    exact hf.elim
  case body =>
    rintro l pre ⟨k, v⟩ W ⟨⟨e0, e1⟩, hB⟩ hlt
    generalize hacc : accU_u32 pre = acc at e0
    have HAC := Lib.hid hacc
    have c0 := cell_blk e0 0 rfl
    have f0 := free_blk e0 0
    have s1 : ∀ v : Value, (W.setCell ⟨w.heap.size, 0, none⟩ v).heap[w.heap.size]? = some (.cells #[v] 114 (0, 0)) := fun v => setCell_heap W w.heap.size 0 v _ _ _ e0
    have s2 : ∀ u v : Value, ((W.setCell ⟨w.heap.size, 0, none⟩ u).setCell ⟨w.heap.size, 0, none⟩ v).heap[w.heap.size]? = some (.cells #[v] 114 (0, 0)) := fun u v => setCell_heap _ w.heap.size 0 v _ _ _ (s1 u)
    have c1 : ∀ v : Value, (W.setCell ⟨w.heap.size, 0, none⟩ v).cell? ⟨w.heap.size, 0, none⟩ = some v := fun v => cell_blk (s1 v) 0 rfl
    have c2 : ∀ u v : Value, ((W.setCell ⟨w.heap.size, 0, none⟩ u).setCell ⟨w.heap.size, 0, none⟩ v).cell? ⟨w.heap.size, 0, none⟩ = some v := fun u v => cell_blk (s2 u v) 0 rfl
    have f1 : ∀ v : Value, (W.setCell ⟨w.heap.size, 0, none⟩ v).frozen? ⟨w.heap.size, 0, none⟩ = false := fun v => free_blk (s1 v) 0
    have f2 : ∀ u v : Value, ((W.setCell ⟨w.heap.size, 0, none⟩ u).setCell ⟨w.heap.size, 0, none⟩ v).frozen? ⟨w.heap.size, 0, none⟩ = false := fun u v => free_blk (s2 u v) 0
    have HE1 := Lib.hid e1
    have HBB := Lib.hid hB
    have HS2 := Lib.hid s2
    clear e0 e1 hB hacc s1 s2
    have W3 : ∀ x1 x2 x3 : Value, KeepsOthers W (((W.setCell ⟨w.heap.size, 0, none⟩ x1).setCell ⟨w.heap.size, 0, none⟩ x2).setCell ⟨w.heap.size, 0, none⟩ x3) ∧ Below w.heap.size w (((W.setCell ⟨w.heap.size, 0, none⟩ x1).setCell ⟨w.heap.size, 0, none⟩ x2).setCell ⟨w.heap.size, 0, none⟩ x3) ∧
        (((W.setCell ⟨w.heap.size, 0, none⟩ x1).setCell ⟨w.heap.size, 0, none⟩ x2).setCell ⟨w.heap.size, 0, none⟩ x3).heap[w.heap.size]? = some (.cells #[x3] 114 (0, 0)) ∧
        (((W.setCell ⟨w.heap.size, 0, none⟩ x1).setCell ⟨w.heap.size, 0, none⟩ x2).setCell ⟨w.heap.size, 0, none⟩ x3).heap[w.heap.size + 1]? = W.heap[w.heap.size + 1]? := fun x1 x2 x3 =>
      ⟨((KeepsOthers.setCell W ⟨w.heap.size, 0, none⟩ x1).trans (KeepsOthers.setCell _ ⟨w.heap.size, 0, none⟩ x2)).trans (KeepsOthers.setCell _ ⟨w.heap.size, 0, none⟩ x3),
       ((HBB.out.setCell (p := ⟨w.heap.size, 0, none⟩) (Nat.le_refl _) x1).setCell (p := ⟨w.heap.size, 0, none⟩) (Nat.le_refl _) x2).setCell (p := ⟨w.heap.size, 0, none⟩) (Nat.le_refl _) x3,
       setCell_heap _ w.heap.size 0 x3 _ _ _ (HS2.out x1 x2),
       ((Below.heap_setCell _ _ _ _ (by simp)).trans (Below.heap_setCell _ _ _ _ (by simp))).trans (Below.heap_setCell _ _ _ _ (by simp))⟩
    have HW3 := Lib.hid W3
    clear W3
    gi_wp2
    obtain ⟨q1, q2, q3, q4⟩ := HW3.out (.int .u32 (IntKind.u32.wrap (acc * 16))) (.int .u32 (IntKind.u32.wrap (IntKind.u32.wrap (acc * 16) * 16))) (.int .u32 (stepU_u32 acc v))
    refine ⟨q1, ⟨below_btw HBB.out q2 q1.size, q4⟩, ⟨?_, q4.trans HE1.out⟩, q2⟩
    rw [accU_u32_snoc, HAC.out]
    exact q3
  case done =>
    rintro D ys W hD rfl ⟨⟨e0, e1⟩, hB⟩ hK
    have c0 := cell_blk e0 0 rfl
    have HK := Lib.hid hK
    have HB2 := Lib.hid hB
    clear hK hB e1
    gi_wp2
    refine ⟨by simp, .inl ⟨_, _, rfl, run_takeDeferred HK.out, ?_⟩⟩
    exact ⟨_, results_tmp rfl _ _ _, rfl, HB2.out.trans (belowK_b (w := w) (Nat.le_refl _) W D _ _ (by omega) HK.out rfl rfl)⟩
def stepU_u16 (a c : Int) : Int := bits BinOp.or IntKind.u16 (IntKind.u16.wrap (IntKind.u16.wrap (a * 16) * 16)) (IntKind.u16.wrap c)
def accU_u16 (l : List (Int × Int)) : Int := l.foldl (fun a x => stepU_u16 a x.2) 0
theorem accU_u16_snoc (l : List (Int × Int)) (x : Int × Int) : accU_u16 (l ++ [x]) = stepU_u16 (accU_u16 l) x.2 := by simp [accU_u16]
set_option maxRecDepth 100000 in
set_option maxHeartbeats 4000000 in
theorem up_raw_u16 {w : World} {A : Option Addr} {cap : Nat} {p : List Int} (hp : BSrc w A p) (hl : p.length ≤ 1000) :
    Calls Try.prog 109 #[.slice A p.length cap] w fun e w' => e = .returned (.int .u16 (accU_u16 (backs p p.length))) ∧ Below w.heap.size w w' := by
  have HP := Lib.hid hp
  clear hp
  refine (callsIn_wide (n := 4)).1 ?_
  refine callsIn_of_wp_marks Try.func109 rfl trivial ?_ rfl
  simp only [Try.ntmps109, List.size_toArray, List.length_cons, List.length_nil, Nat.reduceAdd, Nat.reduceSub, Array.replicate_succ, Array.replicate_zero, List.push_toArray, List.append_toArray, List.nil_append, List.cons_append]
  gi_wp2_with (fail)
  refine ⟨trivial, (callsIn_wide.2 (back_any _)).mono ?_⟩
  rintro e w_ ⟨rfl, rfl⟩
  gi_wp2_with (fail)
  obtain ⟨h0, h1⟩ := two_blks w (.cells #[.int .u16 0] 112) (.cells #[.slice A p.length cap] 23)
  have HB : Below w.heap.size w ((w.alloc (.cells #[.int .u16 0] 112)).alloc (.cells #[.slice A p.length cap] 23)) := ((Below.refl _ w).alloc (Nat.le_refl _) _).alloc (by simp) _
  have HS : ((w.alloc (.cells #[.int .u16 0] 112)).alloc (.cells #[.slice A p.length cap] 23)).heap.size = w.heap.size + 1 + 1 := by simp
  obtain ⟨W0, hW0⟩ : ∃ W0, ((w.alloc (.cells #[.int .u16 0] 112)).alloc (.cells #[.slice A p.length cap] 23)) = W0 := ⟨_, rfl⟩
  rw [hW0] at h0 h1 HB HS ⊢
  clear hW0
  have hpp : p ≠ [] → ∃ g o, A = some ⟨g, o, none⟩ ∧ g < w.heap.size ∧ BsAt W0 g o p := fun hne => by
    obtain ⟨g, o, e1, e2⟩ := HP.out hne
    have hgl : g < w.heap.size := by
      obtain ⟨x, t, rfl⟩ := List.exists_cons_of_ne_nil hne
      exact World.block_lt_of_cell? _ _ (e2 0 x rfl)
    exact ⟨g, o, e1, hgl, e2.moved (HB.block g hgl)⟩
  refine wpIn_rangeFunc_ownF rfl (by decide) (gf := 132) (lb := #[.pointer (some ⟨w.heap.size + 1, 0, none⟩)]) rfl trivial (enters_of Try.func132 (by kernel_rfl) rfl)
    (back_stops 3 (by decide) (w.heap.size + 1) w.heap.size A cap p (by omega) W0 (by omega) (by omega) h1 hpp) (fun h k => ⟨belowK_t h.1 k.1, k.2.trans h.2⟩)
    (fun W l o o' hl h hc hw => ⟨belowK_b (by omega) W l o o' hl h hc hw, World.putObj_heap_other (by omega)⟩) (Below.refl _ _) (fun _ => rfl)
    (fun pre W => (W.heap[w.heap.size]? = some (.cells #[.int .u16 (accU_u16 pre)] 112 (0, 0)) ∧ W.heap[w.heap.size + 1]? = some (.cells #[.slice A p.length cap] 23 (0, 0))) ∧ Below w.heap.size w W) (fun c pre W => False)
    (OwnFrom.and (Own.from (fun s A B row hs hg hr => ⟨blk_own hs.1 hg hr, blk_own hs.2 hg hr⟩) _) (ownFrom_below (Nat.le_refl _) (by omega))) (fun c => fun _ _ _ _ hs _ _ => hs) ⟨⟨h0, h1⟩, HB⟩ ?a1 ?assign ?body ?done ?stop
  case' assign =>
    intro l x W K hK
    unfold encBk
    gi_wp2
    exact hK
  case stop =>
    rintro D c pre W hD hpre hf hK
    exact hf.elim
  case body =>
    rintro l pre ⟨k, v⟩ W ⟨⟨e0, e1⟩, hB⟩ hlt
    generalize hacc : accU_u16 pre = acc at e0
    have HAC := Lib.hid hacc
    have c0 := cell_blk e0 0 rfl
    have f0 := free_blk e0 0
    have s1 : ∀ v : Value, (W.setCell ⟨w.heap.size, 0, none⟩ v).heap[w.heap.size]? = some (.cells #[v] 112 (0, 0)) := fun v => setCell_heap W w.heap.size 0 v _ _ _ e0
    have s2 : ∀ u v : Value, ((W.setCell ⟨w.heap.size, 0, none⟩ u).setCell ⟨w.heap.size, 0, none⟩ v).heap[w.heap.size]? = some (.cells #[v] 112 (0, 0)) := fun u v => setCell_heap _ w.heap.size 0 v _ _ _ (s1 u)
    have c1 : ∀ v : Value, (W.setCell ⟨w.heap.size, 0, none⟩ v).cell? ⟨w.heap.size, 0, none⟩ = some v := fun v => cell_blk (s1 v) 0 rfl
    have c2 : ∀ u v : Value, ((W.setCell ⟨w.heap.size, 0, none⟩ u).setCell ⟨w.heap.size, 0, none⟩ v).cell? ⟨w.heap.size, 0, none⟩ = some v := fun u v => cell_blk (s2 u v) 0 rfl
    have f1 : ∀ v : Value, (W.setCell ⟨w.heap.size, 0, none⟩ v).frozen? ⟨w.heap.size, 0, none⟩ = false := fun v => free_blk (s1 v) 0
    have f2 : ∀ u v : Value, ((W.setCell ⟨w.heap.size, 0, none⟩ u).setCell ⟨w.heap.size, 0, none⟩ v).frozen? ⟨w.heap.size, 0, none⟩ = false := fun u v => free_blk (s2 u v) 0
    have HE1 := Lib.hid e1
    have HBB := Lib.hid hB
    have HS2 := Lib.hid s2
    clear e0 e1 hB hacc s1 s2
    have W3 : ∀ x1 x2 x3 : Value, KeepsOthers W (((W.setCell ⟨w.heap.size, 0, none⟩ x1).setCell ⟨w.heap.size, 0, none⟩ x2).setCell ⟨w.heap.size, 0, none⟩ x3) ∧ Below w.heap.size w (((W.setCell ⟨w.heap.size, 0, none⟩ x1).setCell ⟨w.heap.size, 0, none⟩ x2).setCell ⟨w.heap.size, 0, none⟩ x3) ∧
        (((W.setCell ⟨w.heap.size, 0, none⟩ x1).setCell ⟨w.heap.size, 0, none⟩ x2).setCell ⟨w.heap.size, 0, none⟩ x3).heap[w.heap.size]? = some (.cells #[x3] 112 (0, 0)) ∧
        (((W.setCell ⟨w.heap.size, 0, none⟩ x1).setCell ⟨w.heap.size, 0, none⟩ x2).setCell ⟨w.heap.size, 0, none⟩ x3).heap[w.heap.size + 1]? = W.heap[w.heap.size + 1]? := fun x1 x2 x3 =>
      ⟨((KeepsOthers.setCell W ⟨w.heap.size, 0, none⟩ x1).trans (KeepsOthers.setCell _ ⟨w.heap.size, 0, none⟩ x2)).trans (KeepsOthers.setCell _ ⟨w.heap.size, 0, none⟩ x3),
       ((HBB.out.setCell (p := ⟨w.heap.size, 0, none⟩) (Nat.le_refl _) x1).setCell (p := ⟨w.heap.size, 0, none⟩) (Nat.le_refl _) x2).setCell (p := ⟨w.heap.size, 0, none⟩) (Nat.le_refl _) x3,
       setCell_heap _ w.heap.size 0 x3 _ _ _ (HS2.out x1 x2),
       ((Below.heap_setCell _ _ _ _ (by simp)).trans (Below.heap_setCell _ _ _ _ (by simp))).trans (Below.heap_setCell _ _ _ _ (by simp))⟩
    have HW3 := Lib.hid W3
    clear W3
    gi_wp2
    obtain ⟨q1, q2, q3, q4⟩ := HW3.out (.int .u16 (IntKind.u16.wrap (acc * 16))) (.int .u16 (IntKind.u16.wrap (IntKind.u16.wrap (acc * 16) * 16))) (.int .u16 (stepU_u16 acc v))
    refine ⟨q1, ⟨below_btw HBB.out q2 q1.size, q4⟩, ⟨?_, q4.trans HE1.out⟩, q2⟩
    rw [accU_u16_snoc, HAC.out]
    exact q3
  case done =>
    rintro D ys W hD rfl ⟨⟨e0, e1⟩, hB⟩ hK
    have c0 := cell_blk e0 0 rfl
    have HK := Lib.hid hK
    have HB2 := Lib.hid hB
    clear hK hB e1
    gi_wp2
    refine ⟨by simp, .inl ⟨_, _, rfl, run_takeDeferred HK.out, ?_⟩⟩
    exact ⟨_, results_tmp rfl _ _ _, rfl, HB2.out.trans (belowK_b (w := w) (Nat.le_refl _) W D _ _ (by omega) HK.out rfl rfl)⟩
def stepU_u8 (a c : Int) : Int := bits BinOp.or IntKind.u8 (IntKind.u8.wrap (IntKind.u8.wrap (a * 16) * 16)) c
def accU_u8 (l : List (Int × Int)) : Int := l.foldl (fun a x => stepU_u8 a x.2) 0
theorem accU_u8_snoc (l : List (Int × Int)) (x : Int × Int) : accU_u8 (l ++ [x]) = stepU_u8 (accU_u8 l) x.2 := by simp [accU_u8]
set_option maxRecDepth 100000 in
set_option maxHeartbeats 4000000 in
theorem up_raw_u8 {w : World} {A : Option Addr} {cap : Nat} {p : List Int} (hp : BSrc w A p) (hl : p.length ≤ 1000) :
    Calls Try.prog 108 #[.slice A p.length cap] w fun e w' => e = .returned (.int .u8 (accU_u8 (backs p p.length))) ∧ Below w.heap.size w w' := by
  have HP := Lib.hid hp
  clear hp
  refine (callsIn_wide (n := 4)).1 ?_
  refine callsIn_of_wp_marks Try.func108 rfl trivial ?_ rfl
  simp only [Try.ntmps108, List.size_toArray, List.length_cons, List.length_nil, Nat.reduceAdd, Nat.reduceSub, Array.replicate_succ, Array.replicate_zero, List.push_toArray, List.append_toArray, List.nil_append, List.cons_append]
  gi_wp2_with (fail)
  refine ⟨trivial, (callsIn_wide.2 (back_any _)).mono ?_⟩
  rintro e w_ ⟨rfl, rfl⟩
  gi_wp2_with (fail)
  obtain ⟨h0, h1⟩ := two_blks w (.cells #[.int .u8 0] 5) (.cells #[.slice A p.length cap] 23)
  have HB : Below w.heap.size w ((w.alloc (.cells #[.int .u8 0] 5)).alloc (.cells #[.slice A p.length cap] 23)) := ((Below.refl _ w).alloc (Nat.le_refl _) _).alloc (by simp) _
  have HS : ((w.alloc (.cells #[.int .u8 0] 5)).alloc (.cells #[.slice A p.length cap] 23)).heap.size = w.heap.size + 1 + 1 := by simp
  obtain ⟨W0, hW0⟩ : ∃ W0, ((w.alloc (.cells #[.int .u8 0] 5)).alloc (.cells #[.slice A p.length cap] 23)) = W0 := ⟨_, rfl⟩
  rw [hW0] at h0 h1 HB HS ⊢
  clear hW0
  have hpp : p ≠ [] → ∃ g o, A = some ⟨g, o, none⟩ ∧ g < w.heap.size ∧ BsAt W0 g o p := fun hne => by
    obtain ⟨g, o, e1, e2⟩ := HP.out hne
    have hgl : g < w.heap.size := by
      obtain ⟨x, t, rfl⟩ := List.exists_cons_of_ne_nil hne
      exact World.block_lt_of_cell? _ _ (e2 0 x rfl)
    exact ⟨g, o, e1, hgl, e2.moved (HB.block g hgl)⟩
  refine wpIn_rangeFunc_ownF rfl (by decide) (gf := 132) (lb := #[.pointer (some ⟨w.heap.size + 1, 0, none⟩)]) rfl trivial (enters_of Try.func132 (by kernel_rfl) rfl)
    (back_stops 3 (by decide) (w.heap.size + 1) w.heap.size A cap p (by omega) W0 (by omega) (by omega) h1 hpp) (fun h k => ⟨belowK_t h.1 k.1, k.2.trans h.2⟩)
    (fun W l o o' hl h hc hw => ⟨belowK_b (by omega) W l o o' hl h hc hw, World.putObj_heap_other (by omega)⟩) (Below.refl _ _) (fun _ => rfl)
    (fun pre W => (W.heap[w.heap.size]? = some (.cells #[.int .u8 (accU_u8 pre)] 5 (0, 0)) ∧ W.heap[w.heap.size + 1]? = some (.cells #[.slice A p.length cap] 23 (0, 0))) ∧ Below w.heap.size w W) (fun c pre W => False)
    (OwnFrom.and (Own.from (fun s A B row hs hg hr => ⟨blk_own hs.1 hg hr, blk_own hs.2 hg hr⟩) _) (ownFrom_below (Nat.le_refl _) (by omega))) (fun c => fun _ _ _ _ hs _ _ => hs) ⟨⟨h0, h1⟩, HB⟩ ?a1 ?assign ?body ?done ?stop
  case' assign =>
    intro l x W K hK
    unfold encBk
    gi_wp2
    exact hK
  case stop =>
    rintro D c pre W hD hpre hf hK
    exact hf.elim
  case body =>
    rintro l pre ⟨k, v⟩ W ⟨⟨e0, e1⟩, hB⟩ hlt
    generalize hacc : accU_u8 pre = acc at e0
    have HAC := Lib.hid hacc
    have c0 := cell_blk e0 0 rfl
    have f0 := free_blk e0 0
    have s1 : ∀ v : Value, (W.setCell ⟨w.heap.size, 0, none⟩ v).heap[w.heap.size]? = some (.cells #[v] 5 (0, 0)) := fun v => setCell_heap W w.heap.size 0 v _ _ _ e0
    have s2 : ∀ u v : Value, ((W.setCell ⟨w.heap.size, 0, none⟩ u).setCell ⟨w.heap.size, 0, none⟩ v).heap[w.heap.size]? = some (.cells #[v] 5 (0, 0)) := fun u v => setCell_heap _ w.heap.size 0 v _ _ _ (s1 u)
    have c1 : ∀ v : Value, (W.setCell ⟨w.heap.size, 0, none⟩ v).cell? ⟨w.heap.size, 0, none⟩ = some v := fun v => cell_blk (s1 v) 0 rfl
    have c2 : ∀ u v : Value, ((W.setCell ⟨w.heap.size, 0, none⟩ u).setCell ⟨w.heap.size, 0, none⟩ v).cell? ⟨w.heap.size, 0, none⟩ = some v := fun u v => cell_blk (s2 u v) 0 rfl
    have f1 : ∀ v : Value, (W.setCell ⟨w.heap.size, 0, none⟩ v).frozen? ⟨w.heap.size, 0, none⟩ = false := fun v => free_blk (s1 v) 0
    have f2 : ∀ u v : Value, ((W.setCell ⟨w.heap.size, 0, none⟩ u).setCell ⟨w.heap.size, 0, none⟩ v).frozen? ⟨w.heap.size, 0, none⟩ = false := fun u v => free_blk (s2 u v) 0
    have HE1 := Lib.hid e1
    have HBB := Lib.hid hB
    have HS2 := Lib.hid s2
    clear e0 e1 hB hacc s1 s2
    have W3 : ∀ x1 x2 x3 : Value, KeepsOthers W (((W.setCell ⟨w.heap.size, 0, none⟩ x1).setCell ⟨w.heap.size, 0, none⟩ x2).setCell ⟨w.heap.size, 0, none⟩ x3) ∧ Below w.heap.size w (((W.setCell ⟨w.heap.size, 0, none⟩ x1).setCell ⟨w.heap.size, 0, none⟩ x2).setCell ⟨w.heap.size, 0, none⟩ x3) ∧
        (((W.setCell ⟨w.heap.size, 0, none⟩ x1).setCell ⟨w.heap.size, 0, none⟩ x2).setCell ⟨w.heap.size, 0, none⟩ x3).heap[w.heap.size]? = some (.cells #[x3] 5 (0, 0)) ∧
        (((W.setCell ⟨w.heap.size, 0, none⟩ x1).setCell ⟨w.heap.size, 0, none⟩ x2).setCell ⟨w.heap.size, 0, none⟩ x3).heap[w.heap.size + 1]? = W.heap[w.heap.size + 1]? := fun x1 x2 x3 =>
      ⟨((KeepsOthers.setCell W ⟨w.heap.size, 0, none⟩ x1).trans (KeepsOthers.setCell _ ⟨w.heap.size, 0, none⟩ x2)).trans (KeepsOthers.setCell _ ⟨w.heap.size, 0, none⟩ x3),
       ((HBB.out.setCell (p := ⟨w.heap.size, 0, none⟩) (Nat.le_refl _) x1).setCell (p := ⟨w.heap.size, 0, none⟩) (Nat.le_refl _) x2).setCell (p := ⟨w.heap.size, 0, none⟩) (Nat.le_refl _) x3,
       setCell_heap _ w.heap.size 0 x3 _ _ _ (HS2.out x1 x2),
       ((Below.heap_setCell _ _ _ _ (by simp)).trans (Below.heap_setCell _ _ _ _ (by simp))).trans (Below.heap_setCell _ _ _ _ (by simp))⟩
    have HW3 := Lib.hid W3
    clear W3
    gi_wp2
    obtain ⟨q1, q2, q3, q4⟩ := HW3.out (.int .u8 (IntKind.u8.wrap (acc * 16))) (.int .u8 (IntKind.u8.wrap (IntKind.u8.wrap (acc * 16) * 16))) (.int .u8 (stepU_u8 acc v))
    refine ⟨q1, ⟨below_btw HBB.out q2 q1.size, q4⟩, ⟨?_, q4.trans HE1.out⟩, q2⟩
    rw [accU_u8_snoc, HAC.out]
    exact q3
  case done =>
    rintro D ys W hD rfl ⟨⟨e0, e1⟩, hB⟩ hK
    have c0 := cell_blk e0 0 rfl
    have HK := Lib.hid hK
    have HB2 := Lib.hid hB
    clear hK hB e1
    gi_wp2
    refine ⟨by simp, .inl ⟨_, _, rfl, run_takeDeferred HK.out, ?_⟩⟩
    exact ⟨_, results_tmp rfl _ _ _, rfl, HB2.out.trans (belowK_b (w := w) (Nat.le_refl _) W D _ _ (by omega) HK.out rfl rfl)⟩
end Go.Proofs.Ytibelfljlhcibaa
