/- RecordRow: a row of forms is cut apart in one way. -/
import Derived.Test.YtjmmdpnphafdfaaX2
import Derived.Deep.CondSized
import Derived.JoinedCond
namespace Go.Proofs.Ytjmmdpnphafdfaa
set_option linter.unusedVariables false
set_option linter.unusedSimpArgs false
open Go.ChangeShapes Go.WideShapes Go.ChangeAt Go.RowKit Go.Deep Go.Proofs.YtjmmdpnphafdfaaW.PrintLast

def Short (r : RZ) : Prop := SoundR r ∧ (formR r).length ≤ 120
instance (r : RZ) : Decidable (Short r) := by unfold Short; infer_instance
/-- The forms that are laid down one behind the other. -/
def formsOf (rows : List RZ) : List (List Int) := (rows.filter (fun r => decide (Short r))).map formR
def endsOf (n : Nat) : List (List Int) → List Nat
  | [] => []
  | f :: fs => (n + f.length) :: endsOf (n + f.length) fs
theorem formsOf_take (rows : List RZ) (i : Nat) (r : RZ) (h : rows[i]? = some r) : formsOf (rows.take (i + 1)) = formsOf (rows.take i) ++ (if Short r then [formR r] else []) := by
  unfold formsOf
  rw [List.take_add_one, h, List.filter_append, List.map_append]
  congr 1
  by_cases hs : Short r
  · simp [hs]
  · simp [hs]
theorem endsOf_append (n : Nat) (fs : List (List Int)) (f : List Int) : endsOf n (fs ++ [f]) = endsOf n fs ++ [n + fs.flatten.length + f.length] := by
  induction fs generalizing n with
  | nil => simp [endsOf]
  | cons a t ih =>
    simp only [List.cons_append, endsOf, ih, List.flatten_cons, List.length_append]
    rw [show n + a.length + t.flatten.length + f.length = n + (a.length + t.flatten.length) + f.length by omega]
theorem endsOf_len (n : Nat) (fs : List (List Int)) : (endsOf n fs).length = fs.length := by
  induction fs generalizing n with
  | nil => rfl
  | cons a t ih => simp [endsOf, ih]
theorem endsOf_get (n : Nat) (fs : List (List Int)) (i : Nat) (f : List Int) (h : fs[i]? = some f) : (endsOf n fs)[i]? = some (n + (fs.take i).flatten.length + f.length) := by
  induction fs generalizing n i with
  | nil => simp at h
  | cons a t ih =>
    cases i with
    | zero => simp at h; subst h; simp [endsOf]
    | succ i =>
      simp at h
      simp only [endsOf, List.getElem?_cons_succ, ih _ _ h, List.take_succ_cons, List.flatten_cons, List.length_append]
      congr 1
      omega
theorem formsOf_len (rows : List RZ) : (formsOf rows).length ≤ rows.length ∧ (formsOf rows).flatten.length ≤ 120 * rows.length := by
  induction rows with
  | nil => simp [formsOf]
  | cons r t ih =>
    by_cases h : Short r
    · have e : formsOf (r :: t) = formR r :: formsOf t := by simp [formsOf, h]
      rw [e]
      simp only [List.length_cons, List.flatten_cons, List.length_append]
      have := h.2
      omega
    · have e : formsOf (r :: t) = formsOf t := by simp [formsOf, h]
      rw [e]
      simp only [List.length_cons]
      omega
/-- The law: at each place just one beginning of what is left is a form. -/
theorem row_law {rows : List RZ} (hb : ∀ r ∈ rows, r.Byt) {i : Nat} {f : List Int} (hf : (formsOf rows)[i]? = some f) {n : Nat} (hn : ((formsOf rows).take i).flatten.length + n ≤ (formsOf rows).flatten.length) :
    (decodeR (((formsOf rows).flatten.drop ((formsOf rows).take i).flatten.length).take n)).2 = 0 ↔ n = f.length := by
  have hi : i < (formsOf rows).length := (List.getElem?_eq_some_iff.1 hf).1
  have hfi : (formsOf rows)[i] = f := (List.getElem?_eq_some_iff.1 hf).2
  have hsplit : (formsOf rows).flatten = ((formsOf rows).take i).flatten ++ (f ++ ((formsOf rows).drop (i + 1)).flatten) := by
    conv => lhs; rw [← List.take_append_drop i (formsOf rows), List.flatten_append, List.drop_eq_getElem_cons hi, List.flatten_cons, hfi]
  have hdrop : (formsOf rows).flatten.drop ((formsOf rows).take i).flatten.length = f ++ ((formsOf rows).drop (i + 1)).flatten := by
    rw [hsplit, List.drop_left]
  have hmem : ∀ g ∈ formsOf rows, ∃ r, Short r ∧ r.Byt ∧ formR r = g := fun g hg => by
    unfold formsOf at hg
    obtain ⟨r, hr, rfl⟩ := List.mem_map.1 hg
    have := List.mem_filter.1 hr
    exact ⟨r, of_decide_eq_true this.2, hb r this.1, rfl⟩
  obtain ⟨r, hs, hrb, hr⟩ := hmem f (List.mem_of_getElem? hf)
  have hby : Byt (formsOf rows).flatten := fun x hx => by
    obtain ⟨g, hg, hxg⟩ := List.mem_flatten.1 hx
    obtain ⟨r', hs', hrb', hr'⟩ := hmem g hg
    rw [← hr'] at hxg
    exact formR_byt hs'.1 hrb' x hxg
  rw [hdrop]
  rw [hsplit] at hn
  simp only [List.length_append] at hn
  constructor
  · intro h
    have hb2 : Byt ((f ++ ((formsOf rows).drop (i + 1)).flatten).take n) := Byt.take (hdrop ▸ Byt.drop hby _) n
    obtain ⟨hs', hf'⟩ := decode_ok hb2 h
    have he : formR (decodeR ((f ++ ((formsOf rows).drop (i + 1)).flatten).take n)).1 ++ (f ++ ((formsOf rows).drop (i + 1)).flatten).drop n = formR r ++ ((formsOf rows).drop (i + 1)).flatten := by
      rw [hf', List.take_append_drop, hr]
    have := (form_prefix hs' hs.1 he).1
    rw [this, hr] at hf'
    have hl := congrArg List.length hf'
    rw [List.length_take, List.length_append] at hl
    omega
  · rintro rfl
    rw [List.take_left, ← hr, decode_form hs.1]
abbrev RecTup := Int × Int × Int × Int × Int × Int × (Int × List Int × List Int × Int × Unit) × List Int × Unit
def toRZ (x : RecTup) : RZ := ⟨x.1, x.2.1, x.2.2.1, x.2.2.2.1, x.2.2.2.2.1, x.2.2.2.2.2.1, ⟨x.2.2.2.2.2.2.1.1, x.2.2.2.2.2.2.1.2.1, x.2.2.2.2.2.2.1.2.2.1, x.2.2.2.2.2.2.1.2.2.2.1⟩, x.2.2.2.2.2.2.2.1⟩
theorem rec_at {w : World} {x : RecTup} {cs : List Value} (h : RdRec.rd w x cs) : ∃ K V C, cs = (recCells (toRZ x) K V C).toList ∧ RecIn w (toRZ x) K V C := by
  obtain ⟨_, _, e0, ⟨rfl, h1⟩, _, _, rfl, ⟨rfl, h2⟩, _, _, rfl, ⟨rfl, h3⟩, _, _, rfl, ⟨rfl, h4⟩, _, _, rfl, ⟨rfl, h5⟩, _, _, rfl, ⟨rfl, h6⟩, _, _, rfl, ho, _, _, rfl, hc, rfl⟩ := h
  obtain ⟨_, _, rfl, ⟨rfl, o1⟩, _, _, rfl, hk, _, _, rfl, hv, _, _, rfl, ⟨rfl, o4⟩, rfl⟩ := ho
  obtain ⟨A, ca, rfl, a1, a2, a3, a4, a5⟩ := hk
  obtain ⟨B, cb, rfl, b1, b2, b3, b4, b5⟩ := hv
  obtain ⟨D, cd, rfl, d1, d2, d3, d4, d5⟩ := hc
  obtain ⟨ka, sa⟩ := bs_elems a5
  obtain ⟨kb, sb⟩ := bs_elems b5
  obtain ⟨kd, sd⟩ := bs_elems d5
  obtain ⟨xk, xs, xe, xp, xc, xq, ⟨yk, key, val, rev, u⟩, copy, u'⟩ := x
  simp only at *
  have hr : reach = 140737488351232 := rfl
  refine ⟨(A, key.length, ca), (B, val.length, cb), (D, copy.length, cd), ?_, ?_⟩
  · rw [e0]
    rfl
  · unfold toRZ
    exact ⟨⟨in64_wf h3, in64_wf h4, in64_wf h5, in64_wf h6, in64_wf o1, in64_wf o4, by simp only; omega, by simp only; omega, by simp only; omega⟩, ⟨ka, kb, kd⟩, SlAt.ofSrc sa rfl (Nat.le_refl _), SlAt.ofSrc sb rfl (Nat.le_refl _), SlAt.ofSrc sd rfl (Nat.le_refl _), by simp only; omega, by simp only; omega, by simp only; omega⟩
theorem opens_recs (W : World) : Opens Try.prog W 41 (Rd.slice RdRec 136) := opens_slice Try.underlying41 (opens_rec W) (by kernel_rfl) (by decide) (by kernel_rfl)
theorem row_byt {w : World} {A : Option Addr} {xs : List RecTup} (h : RdRec.elems w A xs) : ∀ r ∈ xs.map toRZ, r.Byt := by
  intro r hr
  obtain ⟨x, hx, rfl⟩ := List.mem_map.1 hr
  obtain ⟨i, hi⟩ := List.getElem?_of_mem hx
  obtain ⟨b, o, cs, _, hrd, _⟩ := h i x hi
  obtain ⟨K, V, C, _, RI⟩ := rec_at hrd
  exact RI.byt
set_option maxRecDepth 100000 in
set_option maxHeartbeats 16000000 in
theorem row_1 (w : World) (A : Option Addr) (cap : Nat) (xs : List RecTup) (hl : xs.length ≤ 140737488351232) (hcap : xs.length ≤ cap) (hel : RdRec.elems w A xs) :
    Calls Try.prog 6 #[.slice A xs.length cap] w fun e w' => e = .returned (.bool true) ∧ Below w.heap.size w w' := by
  have AW := Lib.hid (awake_any w)
  have HE := Lib.hid hel
  have HBY := Lib.hid (row_byt hel)
  have HFL := Lib.hid (fun i : Nat => formsOf_len ((xs.map toRZ).take i))
  clear hel
  go_enter Try.func6, Try.ntmps6
  go_wp2_with (fail)
  refine AW.out.mono ?_
  rintro e w1 ⟨rfl, hb1⟩
  have HB1 := Lib.hid hb1
  clear hb1
  go_wp2_with (fail)
  refine wp_loop_ghost_k (fun (m : Nat) (ac : Act) (wr : World) => ∃ u1 u6 u7 u8 u9 u10 u11 u12 u13 u14 u15 u16 u17 u18 u19 u20 u21 u22 u23 u24 u25 u26 u27 u28 u29 u30 u31 u32 u33 u34 u35 u36 u37 u38 u39 u40 u41 u42 u43 u44 u45 u46 u47 u48 u49 u50 u51 u52 u53 u54 u55 u56 u57 u58 u59 u60 u61 u62 u63 u64 u65 u66 u67 u68 u69 u70 u71 u72 u73 u74 u75 u76 u77 u78 u79 u80 u81 v3 v4 v5 : Value, (∃ (i : Nat) (fs : List (List Int)) (bs : List Int) (A3 A4 : Option Addr) (c3 c4 : Nat), m + i = 6 ∧ (i ≤ xs.length ∧ i ≤ 5) ∧ fs = formsOf ((xs.map toRZ).take i) ∧ bs = fs.flatten ∧ v5 = .int .i64 i ∧ v3 = .slice A3 bs.length c3 ∧ v4 = .slice A4 fs.length c4 ∧ GRow bc 5 1 wr w.heap.size A3 c3 bs ∧ GRow encPos 3 1 wr w.heap.size A4 c4 (endsOf 0 fs) ∧ Below w.heap.size w wr) ∧ ac = ({ tmps := #[.slice A xs.length cap, u1, .bool false, v3, v4, v5, u6, u7, u8, u9, u10, u11, u12, u13, u14, u15, u16, u17, u18, u19, u20, u21, u22, u23, u24, u25, u26, u27, u28, u29, u30, u31, u32, u33, u34, u35, u36, u37, u38, u39, u40, u41, u42, u43, u44, u45, u46, u47, u48, u49, u50, u51, u52, u53, u54, u55, u56, u57, u58, u59, u60, u61, u62, u63, u64, u65, u66, u67, u68, u69, u70, u71, u72, u73, u74, u75, u76, u77, u78, u79, u80, u81], defers := [] } : Act)) (6) ?atStart ?round
  case' atStart => ((repeat apply Exists.intro); refine ⟨?_, rfl⟩)
  case' round => (intro m ac wr hcut; obtain ⟨u1, hcut⟩ := hcut; obtain ⟨u6, hcut⟩ := hcut; obtain ⟨u7, hcut⟩ := hcut; obtain ⟨u8, hcut⟩ := hcut; obtain ⟨u9, hcut⟩ := hcut; obtain ⟨u10, hcut⟩ := hcut; obtain ⟨u11, hcut⟩ := hcut; obtain ⟨u12, hcut⟩ := hcut; obtain ⟨u13, hcut⟩ := hcut; obtain ⟨u14, hcut⟩ := hcut; obtain ⟨u15, hcut⟩ := hcut; obtain ⟨u16, hcut⟩ := hcut; obtain ⟨u17, hcut⟩ := hcut; obtain ⟨u18, hcut⟩ := hcut; obtain ⟨u19, hcut⟩ := hcut; obtain ⟨u20, hcut⟩ := hcut; obtain ⟨u21, hcut⟩ := hcut; obtain ⟨u22, hcut⟩ := hcut; obtain ⟨u23, hcut⟩ := hcut; obtain ⟨u24, hcut⟩ := hcut; obtain ⟨u25, hcut⟩ := hcut; obtain ⟨u26, hcut⟩ := hcut; obtain ⟨u27, hcut⟩ := hcut; obtain ⟨u28, hcut⟩ := hcut; obtain ⟨u29, hcut⟩ := hcut; obtain ⟨u30, hcut⟩ := hcut; obtain ⟨u31, hcut⟩ := hcut; obtain ⟨u32, hcut⟩ := hcut; obtain ⟨u33, hcut⟩ := hcut; obtain ⟨u34, hcut⟩ := hcut; obtain ⟨u35, hcut⟩ := hcut; obtain ⟨u36, hcut⟩ := hcut; obtain ⟨u37, hcut⟩ := hcut; obtain ⟨u38, hcut⟩ := hcut; obtain ⟨u39, hcut⟩ := hcut; obtain ⟨u40, hcut⟩ := hcut; obtain ⟨u41, hcut⟩ := hcut; obtain ⟨u42, hcut⟩ := hcut; obtain ⟨u43, hcut⟩ := hcut; obtain ⟨u44, hcut⟩ := hcut; obtain ⟨u45, hcut⟩ := hcut; obtain ⟨u46, hcut⟩ := hcut; obtain ⟨u47, hcut⟩ := hcut; obtain ⟨u48, hcut⟩ := hcut; obtain ⟨u49, hcut⟩ := hcut; obtain ⟨u50, hcut⟩ := hcut; obtain ⟨u51, hcut⟩ := hcut; obtain ⟨u52, hcut⟩ := hcut; obtain ⟨u53, hcut⟩ := hcut; obtain ⟨u54, hcut⟩ := hcut; obtain ⟨u55, hcut⟩ := hcut; obtain ⟨u56, hcut⟩ := hcut; obtain ⟨u57, hcut⟩ := hcut; obtain ⟨u58, hcut⟩ := hcut; obtain ⟨u59, hcut⟩ := hcut; obtain ⟨u60, hcut⟩ := hcut; obtain ⟨u61, hcut⟩ := hcut; obtain ⟨u62, hcut⟩ := hcut; obtain ⟨u63, hcut⟩ := hcut; obtain ⟨u64, hcut⟩ := hcut; obtain ⟨u65, hcut⟩ := hcut; obtain ⟨u66, hcut⟩ := hcut; obtain ⟨u67, hcut⟩ := hcut; obtain ⟨u68, hcut⟩ := hcut; obtain ⟨u69, hcut⟩ := hcut; obtain ⟨u70, hcut⟩ := hcut; obtain ⟨u71, hcut⟩ := hcut; obtain ⟨u72, hcut⟩ := hcut; obtain ⟨u73, hcut⟩ := hcut; obtain ⟨u74, hcut⟩ := hcut; obtain ⟨u75, hcut⟩ := hcut; obtain ⟨u76, hcut⟩ := hcut; obtain ⟨u77, hcut⟩ := hcut; obtain ⟨u78, hcut⟩ := hcut; obtain ⟨u79, hcut⟩ := hcut; obtain ⟨u80, hcut⟩ := hcut; obtain ⟨u81, hcut⟩ := hcut; obtain ⟨v3, hcut⟩ := hcut; obtain ⟨v4, hcut⟩ := hcut; obtain ⟨v5, hcut⟩ := hcut; obtain ⟨hcut, hac⟩ := hcut; subst hac; intro _ _ _ _)
  case atStart => exact ⟨0, [], [], none, none, 0, 0, rfl, ⟨Nat.zero_le _, by omega⟩, by simp [formsOf], rfl, rfl, rfl, rfl, GRow.nil, GRow.nil, HB1.out⟩
  case round =>
    obtain ⟨i, fs, bs, A3, A4, c3, c4, hm, hix, hfs, hbs, rfl, rfl, rfl, G3, G4, BB⟩ := hcut
    have HM := Lib.hid hm
    have HFS := Lib.hid hfs
    have HBS := Lib.hid hbs
    have HG3 := Lib.hid G3
    have HG4 := Lib.hid G4
    have HBB := Lib.hid BB
    have hfl : fs.length ≤ 5 ∧ bs.length ≤ 600 := by
      have := HFL.out i
      rw [← hfs, ← hbs, List.length_take, List.length_map] at this
      omega
    have hl1 := hfl.1
    have hl2 := hfl.2
    have i1 := hix.1
    have i2 := hix.2
    clear hfs hbs G3 G4 BB hfl hix
    by_cases hgo : i < xs.length ∧ i < 5
    · have hlt := hgo.1
      have h5 := hgo.2
      clear hm hgo
      obtain ⟨x, hx⟩ : ∃ x, xs[i]? = some x := ⟨_, List.getElem?_eq_getElem hlt⟩
      obtain ⟨b, o, cs, hA, hrd, hcs⟩ := HE.out i x hx
      obtain ⟨K, V, C, rfl, RI⟩ := rec_at hrd
      have HST := Lib.hid (formsOf_take (xs.map toRZ) i (toRZ x) (by rw [List.getElem?_map, hx]; rfl))
      subst hA
      have sz : RdRec.sz = 11 := rfl
      rw [sz] at hcs
      have RIr := Lib.hid (RI.below HBB.out)
      generalize toRZ x = r at *
      have c0 : wr.cell? ⟨b, o + i * 11, none⟩ = some (.int .i64 r.kind) := cell_below HBB.out (hcs 0 _ rfl)
      have c1 : wr.cell? ⟨b, o + i * 11 + 1, none⟩ = some (.int .i64 r.shard) := cell_below HBB.out (hcs 1 _ rfl)
      have c2 : wr.cell? ⟨b, o + i * 11 + 2, none⟩ = some (.int .i64 r.epoch) := cell_below HBB.out (hcs 2 _ rfl)
      have c3' : wr.cell? ⟨b, o + i * 11 + 3, none⟩ = some (.int .i64 r.peer) := cell_below HBB.out (hcs 3 _ rfl)
      have c4' : wr.cell? ⟨b, o + i * 11 + 4, none⟩ = some (.int .i64 r.client) := cell_below HBB.out (hcs 4 _ rfl)
      have c5 : wr.cell? ⟨b, o + i * 11 + 5, none⟩ = some (.int .i64 r.seq) := cell_below HBB.out (hcs 5 _ rfl)
      have c6 : wr.cell? ⟨b, o + i * 11 + 6, none⟩ = some (.int .i64 r.op.kind) := cell_below HBB.out (hcs 6 _ rfl)
      have c7 : wr.cell? ⟨b, o + i * 11 + 7, none⟩ = some (.slice K.1 K.2.1 K.2.2) := cell_below HBB.out (hcs 7 _ rfl)
      have c8 : wr.cell? ⟨b, o + i * 11 + 8, none⟩ = some (.slice V.1 V.2.1 V.2.2) := cell_below HBB.out (hcs 8 _ rfl)
      have c9 : wr.cell? ⟨b, o + i * 11 + 9, none⟩ = some (.int .i64 r.op.rev) := cell_below HBB.out (hcs 9 _ rfl)
      have c10 : wr.cell? ⟨b, o + i * 11 + 10, none⟩ = some (.slice C.1 C.2.1 C.2.2) := cell_below HBB.out (hcs 10 _ rfl)
      have EN := Lib.hid (encode_any RIr.out.wf RIr.out.byt RIr.out.key RIr.out.val RIr.out.copy)
      unfold recV recCells at EN
      clear hrd hcs RI hx
      have q1 : (i : Int) < (xs.length : Int) := by omega
      have q2 : (i : Int) < 5 := by omega
      have q0 : (0 : Int) ≤ (i : Int) := by omega
      go_wp2_with (fail)
      refine EN.out.mono ?_
      rintro e w2 ⟨hb2, ⟨SR, g, rfl, hg, O⟩ | ⟨NS, rfl⟩⟩
      · have HSR := Lib.hid SR
        have HB2 := Lib.hid (HBB.out.trans (hb2.mono HBB.out.size))
        have HO := Lib.hid O
        have G3 := HG3.out.keeps (KeepT.below hb2)
        have G4 := HG4.out.keeps (KeepT.below hb2)
        obtain ⟨ys, hys⟩ : ∃ ys, formR r = ys := ⟨_, rfl⟩
        have HYS := Lib.hid hys
        rw [hys] at O ⊢
        by_cases h120 : (120 : Int) < (ys.length : Int)
        · have HNS := Lib.hid (show ¬ Short r from fun h => by have := h.2; rw [hys] at this; omega)
          clear SR hb2 O hys
          go_wp2_with (fail)
          go_roundg (m - 1)
          case measure => have := HM.out; omega
          case rel => exact ⟨i + 1, fs, bs, A3, A4, c3, c4, by have := HM.out; omega, by omega, by rw [HST.out, if_neg HNS.out, ← HFS.out, List.append_nil], HBS.out, by go_num, rfl, rfl, G3, G4, HB2.out⟩
        · have HSH := Lib.hid (show Short r from ⟨SR, by rw [hys]; omega⟩)
          obtain ⟨Kn, hKn⟩ : ∃ K, bs.length + ys.length = K := ⟨_, rfl⟩
          obtain ⟨A3', c3', w3, hr1, G3', B3, K3, _⟩ := GRow.append (ys := ys) elBy G3 22 (some ⟨g, 0, none⟩) ys.length (BSrc.ofOwn O).src HB2.out HB2.out.size (by simp only [maxLen]; omega) (by omega)
          obtain ⟨A4', c4', w4, hr2, G4', B4, K4, _⟩ := GRow.push elPos (G4.keeps (K3 3 (by decide))) 42 Kn B3 B3.size (by rw [endsOf_len]; simp only [maxLen]; omega) (by rw [endsOf_len]; omega)
          rw [endsOf_len] at hr2
          rw [hKn] at hr1
          have HR1 := Lib.hid hr1
          have HR2 := Lib.hid (show (Builtin.append_ #[42, 42] 42 #[.slice A4 fs.length c4, .slice (some ⟨w3.heap.size, 0, none⟩) 1 1]).run Try.prog (w3.alloc (.cells #[.int .i64 Kn] 3)) = .ok (.slice A4' (fs.length + 1) c4') w4 from hr2)
          have HG3' := Lib.hid (G3'.keeps (K4 5 (by decide)))
          have HG4' := Lib.hid G4'
          have HB4 := Lib.hid B4
          have HKN := Lib.hid hKn
          clear SR hb2 O hys hr1 hr2 G3' G4' B3 B4 K3 K4 G3 G4 hKn
          go_wp2_with (first | (refine wpList_app HR1.out rfl rfl rfl (by rfl) (by rfl) ?_; clear HR1) | (refine wpList_app HR2.out rfl rfl rfl (by rfl) (by rfl) ?_; clear HR2))
          go_roundg (m - 1)
          case measure => have := HM.out; omega
          case rel =>
            refine ⟨i + 1, fs ++ [ys], bs ++ ys, A3', A4', c3', c4', by have := HM.out; omega, by omega, by rw [HST.out, if_pos HSH.out, ← HFS.out, HYS.out], by rw [HBS.out]; simp, by go_num, by rw [List.length_append, HKN.out], by simp, HG3'.out, ?_, HB4.out⟩
            rw [endsOf_append, Nat.zero_add, ← HBS.out, HKN.out]
            exact HG4'.out
      · have HNS := Lib.hid (show ¬ Short r from fun h => NS h.1)
        have HB2 := Lib.hid (HBB.out.trans (hb2.mono HBB.out.size))
        have G3 := HG3.out.keeps (KeepT.below hb2)
        have G4 := HG4.out.keeps (KeepT.below hb2)
        clear hb2 NS
        go_wp2_with (fail)
        go_roundg (m - 1)
        case measure => have := HM.out; omega
        case rel => exact ⟨i + 1, fs, bs, A3, A4, c3, c4, by have := HM.out; omega, by omega, by rw [HST.out, if_neg HNS.out, ← HFS.out, List.append_nil], HBS.out, by go_num, rfl, rfl, G3, G4, HB2.out⟩
    · clear hm
      have HLW := Lib.hid (fun (j : Nat) (f : List Int) (hf : fs[j]? = some f) (n : Nat) (hn : (fs.take j).flatten.length + n ≤ bs.length) => show (decodeR ((bs.drop (fs.take j).flatten.length).take n)).2 = 0 ↔ n = f.length from by
        have := row_law (rows := (xs.map toRZ).take i) (fun r hr => HBY.out r (List.mem_of_mem_take hr)) (i := j) (f := f) (by rw [← HFS.out]; exact hf) (n := n) (by rw [← HFS.out, ← HBS.out]; exact hn)
        rw [← HFS.out, ← HBS.out] at this
        exact this)
      have HNE := Lib.hid (fun (j : Nat) (f : List Int) (hf : fs[j]? = some f) => show 0 < f.length from by
        have := List.mem_of_getElem? hf
        rw [HFS.out] at this
        unfold formsOf at this
        obtain ⟨r, _, rfl⟩ := List.mem_map.1 this
        unfold formR; simp)
      have HFX := Lib.hid (show ∀ (j : Nat) (f : List Int), fs[j]? = some f → (fs.take (j + 1)).flatten.length = (fs.take j).flatten.length + f.length ∧ (fs.take (j + 1)).flatten.length ≤ bs.length from fun j f hf => by
        have h1 : fs.take (j + 1) = fs.take j ++ [f] := by rw [List.take_add_one, hf]; rfl
        refine ⟨by rw [h1]; simp, ?_⟩
        rw [HBS.out]
        conv => rhs; rw [← List.take_append_drop (j + 1) fs, List.flatten_append, List.length_append]
        omega)
      have HBT := Lib.hid (show Byt bs from by
        rw [HBS.out, HFS.out]
        intro x hx
        obtain ⟨g, hg, hxg⟩ := List.mem_flatten.1 hx
        unfold formsOf at hg
        obtain ⟨r, hr, rfl⟩ := List.mem_map.1 hg
        have := List.mem_filter.1 hr
        exact formR_byt (of_decide_eq_true this.2).1 (HBY.out r (List.mem_of_mem_take this.1)) x hxg)
      go_upto_region 6 with (fail)
      refine wp_cut (fun (ac : Act) (wx : World) => ∃ u1 u5 u6 u7 u8 u9 u10 u11 u12 u13 u14 u15 u16 u17 u18 u19 u20 u21 u23 u24 u25 u26 u27 u28 u29 u30 u31 u32 u33 u34 u35 u36 u37 u38 u39 u40 u41 u42 u43 u44 u45 u46 u47 u48 u49 u50 u51 u52 u53 u54 u55 u56 u57 u58 u59 u60 u61 u62 u63 u64 u65 u66 u67 u68 u69 u70 u71 u72 u73 u74 u75 u76 u77 u78 u79 u80 u81 v0 v22 : Value, (v22 = .bool false ∧ wx = wr) ∧ ac = ({ tmps := #[v0, u1, .bool false, .slice A3 bs.length c3, .slice A4 fs.length c4, u5, u6, u7, u8, u9, u10, u11, u12, u13, u14, u15, u16, u17, u18, u19, u20, u21, v22, u23, u24, u25, u26, u27, u28, u29, u30, u31, u32, u33, u34, u35, u36, u37, u38, u39, u40, u41, u42, u43, u44, u45, u46, u47, u48, u49, u50, u51, u52, u53, u54, u55, u56, u57, u58, u59, u60, u61, u62, u63, u64, u65, u66, u67, u68, u69, u70, u71, u72, u73, u74, u75, u76, u77, u78, u79, u80, u81], defers := [] } : Act)) ?rest ?first
      case' rest => (intro ac wx hcut; obtain ⟨u1, hcut⟩ := hcut; obtain ⟨u5, hcut⟩ := hcut; obtain ⟨u6, hcut⟩ := hcut; obtain ⟨u7, hcut⟩ := hcut; obtain ⟨u8, hcut⟩ := hcut; obtain ⟨u9, hcut⟩ := hcut; obtain ⟨u10, hcut⟩ := hcut; obtain ⟨u11, hcut⟩ := hcut; obtain ⟨u12, hcut⟩ := hcut; obtain ⟨u13, hcut⟩ := hcut; obtain ⟨u14, hcut⟩ := hcut; obtain ⟨u15, hcut⟩ := hcut; obtain ⟨u16, hcut⟩ := hcut; obtain ⟨u17, hcut⟩ := hcut; obtain ⟨u18, hcut⟩ := hcut; obtain ⟨u19, hcut⟩ := hcut; obtain ⟨u20, hcut⟩ := hcut; obtain ⟨u21, hcut⟩ := hcut; obtain ⟨u23, hcut⟩ := hcut; obtain ⟨u24, hcut⟩ := hcut; obtain ⟨u25, hcut⟩ := hcut; obtain ⟨u26, hcut⟩ := hcut; obtain ⟨u27, hcut⟩ := hcut; obtain ⟨u28, hcut⟩ := hcut; obtain ⟨u29, hcut⟩ := hcut; obtain ⟨u30, hcut⟩ := hcut; obtain ⟨u31, hcut⟩ := hcut; obtain ⟨u32, hcut⟩ := hcut; obtain ⟨u33, hcut⟩ := hcut; obtain ⟨u34, hcut⟩ := hcut; obtain ⟨u35, hcut⟩ := hcut; obtain ⟨u36, hcut⟩ := hcut; obtain ⟨u37, hcut⟩ := hcut; obtain ⟨u38, hcut⟩ := hcut; obtain ⟨u39, hcut⟩ := hcut; obtain ⟨u40, hcut⟩ := hcut; obtain ⟨u41, hcut⟩ := hcut; obtain ⟨u42, hcut⟩ := hcut; obtain ⟨u43, hcut⟩ := hcut; obtain ⟨u44, hcut⟩ := hcut; obtain ⟨u45, hcut⟩ := hcut; obtain ⟨u46, hcut⟩ := hcut; obtain ⟨u47, hcut⟩ := hcut; obtain ⟨u48, hcut⟩ := hcut; obtain ⟨u49, hcut⟩ := hcut; obtain ⟨u50, hcut⟩ := hcut; obtain ⟨u51, hcut⟩ := hcut; obtain ⟨u52, hcut⟩ := hcut; obtain ⟨u53, hcut⟩ := hcut; obtain ⟨u54, hcut⟩ := hcut; obtain ⟨u55, hcut⟩ := hcut; obtain ⟨u56, hcut⟩ := hcut; obtain ⟨u57, hcut⟩ := hcut; obtain ⟨u58, hcut⟩ := hcut; obtain ⟨u59, hcut⟩ := hcut; obtain ⟨u60, hcut⟩ := hcut; obtain ⟨u61, hcut⟩ := hcut; obtain ⟨u62, hcut⟩ := hcut; obtain ⟨u63, hcut⟩ := hcut; obtain ⟨u64, hcut⟩ := hcut; obtain ⟨u65, hcut⟩ := hcut; obtain ⟨u66, hcut⟩ := hcut; obtain ⟨u67, hcut⟩ := hcut; obtain ⟨u68, hcut⟩ := hcut; obtain ⟨u69, hcut⟩ := hcut; obtain ⟨u70, hcut⟩ := hcut; obtain ⟨u71, hcut⟩ := hcut; obtain ⟨u72, hcut⟩ := hcut; obtain ⟨u73, hcut⟩ := hcut; obtain ⟨u74, hcut⟩ := hcut; obtain ⟨u75, hcut⟩ := hcut; obtain ⟨u76, hcut⟩ := hcut; obtain ⟨u77, hcut⟩ := hcut; obtain ⟨u78, hcut⟩ := hcut; obtain ⟨u79, hcut⟩ := hcut; obtain ⟨u80, hcut⟩ := hcut; obtain ⟨u81, hcut⟩ := hcut; obtain ⟨v0, hcut⟩ := hcut; obtain ⟨v22, hcut⟩ := hcut; obtain ⟨hcut, hac⟩ := hcut; subst hac)
      case' first => intro _ _ _ _
      case first =>
        by_cases hlt : i < xs.length
        · have h5 : ¬ (i : Int) < 5 := by omega
          clear hgo
          go_wp2_with (fail)
          all_goals go_meet
          all_goals exact ⟨by simp; try omega, rfl⟩
        · have h5 : ¬ (i : Int) < (xs.length : Int) := by omega
          clear hgo
          go_wp2_with (fail)
          all_goals go_meet
          all_goals exact ⟨by simp; try omega, rfl⟩
      case rest =>
        obtain ⟨rfl, hwx⟩ := hcut
        subst hwx
        clear hgo i1 i2 HM
        go_wp2_with (fail)
        refine wp_loop_ghost_k (fun (m2 : Nat) (ac : Act) (wq : World) => ∃ u0 u1 u5 u6 u7 u10 u11 u12 u13 u14 u15 u16 u17 u18 u19 u20 u21 u22 u23 u24 u25 u26 u27 u28 u29 u30 u31 u32 u33 u34 u35 u36 u37 u38 u39 u40 u41 u42 u43 u44 u45 u46 u47 u48 u49 u50 u51 u52 u53 u54 u55 u56 u57 u58 u59 u60 u61 u62 u63 u64 u65 u66 u67 u68 u69 u70 u71 u72 u73 u74 u75 u76 u77 u78 u79 u80 u81 v8 v9 : Value, (∃ (j from_ : Nat), m2 + j = fs.length ∧ v9 = .int .i64 j ∧ from_ = (fs.take j).flatten.length ∧ v8 = .int .i64 from_ ∧ GRow bc 5 1 wq w.heap.size A3 c3 bs ∧ GRow encPos 3 1 wq w.heap.size A4 c4 (endsOf 0 fs) ∧ Below w.heap.size w wq) ∧ ac = ({ tmps := #[u0, u1, .bool false, .slice A3 bs.length c3, .slice A4 fs.length c4, u5, u6, u7, v8, v9, u10, u11, u12, u13, u14, u15, u16, u17, u18, u19, u20, u21, u22, u23, u24, u25, u26, u27, u28, u29, u30, u31, u32, u33, u34, u35, u36, u37, u38, u39, u40, u41, u42, u43, u44, u45, u46, u47, u48, u49, u50, u51, u52, u53, u54, u55, u56, u57, u58, u59, u60, u61, u62, u63, u64, u65, u66, u67, u68, u69, u70, u71, u72, u73, u74, u75, u76, u77, u78, u79, u80, u81], defers := [] } : Act)) (fs.length) ?atStart ?round
        case' atStart => ((repeat apply Exists.intro); refine ⟨?_, rfl⟩)
        case' round => (intro m2 ac wq hcut; obtain ⟨u0, hcut⟩ := hcut; obtain ⟨u1, hcut⟩ := hcut; obtain ⟨u5, hcut⟩ := hcut; obtain ⟨u6, hcut⟩ := hcut; obtain ⟨u7, hcut⟩ := hcut; obtain ⟨u10, hcut⟩ := hcut; obtain ⟨u11, hcut⟩ := hcut; obtain ⟨u12, hcut⟩ := hcut; obtain ⟨u13, hcut⟩ := hcut; obtain ⟨u14, hcut⟩ := hcut; obtain ⟨u15, hcut⟩ := hcut; obtain ⟨u16, hcut⟩ := hcut; obtain ⟨u17, hcut⟩ := hcut; obtain ⟨u18, hcut⟩ := hcut; obtain ⟨u19, hcut⟩ := hcut; obtain ⟨u20, hcut⟩ := hcut; obtain ⟨u21, hcut⟩ := hcut; obtain ⟨u22, hcut⟩ := hcut; obtain ⟨u23, hcut⟩ := hcut; obtain ⟨u24, hcut⟩ := hcut; obtain ⟨u25, hcut⟩ := hcut; obtain ⟨u26, hcut⟩ := hcut; obtain ⟨u27, hcut⟩ := hcut; obtain ⟨u28, hcut⟩ := hcut; obtain ⟨u29, hcut⟩ := hcut; obtain ⟨u30, hcut⟩ := hcut; obtain ⟨u31, hcut⟩ := hcut; obtain ⟨u32, hcut⟩ := hcut; obtain ⟨u33, hcut⟩ := hcut; obtain ⟨u34, hcut⟩ := hcut; obtain ⟨u35, hcut⟩ := hcut; obtain ⟨u36, hcut⟩ := hcut; obtain ⟨u37, hcut⟩ := hcut; obtain ⟨u38, hcut⟩ := hcut; obtain ⟨u39, hcut⟩ := hcut; obtain ⟨u40, hcut⟩ := hcut; obtain ⟨u41, hcut⟩ := hcut; obtain ⟨u42, hcut⟩ := hcut; obtain ⟨u43, hcut⟩ := hcut; obtain ⟨u44, hcut⟩ := hcut; obtain ⟨u45, hcut⟩ := hcut; obtain ⟨u46, hcut⟩ := hcut; obtain ⟨u47, hcut⟩ := hcut; obtain ⟨u48, hcut⟩ := hcut; obtain ⟨u49, hcut⟩ := hcut; obtain ⟨u50, hcut⟩ := hcut; obtain ⟨u51, hcut⟩ := hcut; obtain ⟨u52, hcut⟩ := hcut; obtain ⟨u53, hcut⟩ := hcut; obtain ⟨u54, hcut⟩ := hcut; obtain ⟨u55, hcut⟩ := hcut; obtain ⟨u56, hcut⟩ := hcut; obtain ⟨u57, hcut⟩ := hcut; obtain ⟨u58, hcut⟩ := hcut; obtain ⟨u59, hcut⟩ := hcut; obtain ⟨u60, hcut⟩ := hcut; obtain ⟨u61, hcut⟩ := hcut; obtain ⟨u62, hcut⟩ := hcut; obtain ⟨u63, hcut⟩ := hcut; obtain ⟨u64, hcut⟩ := hcut; obtain ⟨u65, hcut⟩ := hcut; obtain ⟨u66, hcut⟩ := hcut; obtain ⟨u67, hcut⟩ := hcut; obtain ⟨u68, hcut⟩ := hcut; obtain ⟨u69, hcut⟩ := hcut; obtain ⟨u70, hcut⟩ := hcut; obtain ⟨u71, hcut⟩ := hcut; obtain ⟨u72, hcut⟩ := hcut; obtain ⟨u73, hcut⟩ := hcut; obtain ⟨u74, hcut⟩ := hcut; obtain ⟨u75, hcut⟩ := hcut; obtain ⟨u76, hcut⟩ := hcut; obtain ⟨u77, hcut⟩ := hcut; obtain ⟨u78, hcut⟩ := hcut; obtain ⟨u79, hcut⟩ := hcut; obtain ⟨u80, hcut⟩ := hcut; obtain ⟨u81, hcut⟩ := hcut; obtain ⟨v8, hcut⟩ := hcut; obtain ⟨v9, hcut⟩ := hcut; obtain ⟨hcut, hac⟩ := hcut; subst hac; intro _ _ _ _)
        case atStart => exact ⟨0, 0, rfl, rfl, rfl, rfl, HG3.out, HG4.out, HBB.out⟩
        case round =>
          obtain ⟨j, from_, hm2, rfl, hfrom, rfl, G3, G4, BB⟩ := hcut
          have HM2 := Lib.hid hm2
          have HFR := Lib.hid hfrom
          have HQ3 := Lib.hid G3
          have HQ4 := Lib.hid G4
          have HQB := Lib.hid BB
          clear hfrom G3 G4 BB
          by_cases hj : j < fs.length
          · obtain ⟨f, hf⟩ : ∃ f, fs[j]? = some f := ⟨_, List.getElem?_eq_getElem hj⟩
            have f0 := HNE.out j f hf
            obtain ⟨fx1, fx2⟩ := HFX.out j f hf
            have law := HLW.out j f hf
            have hen := endsOf_get 0 fs j f hf
            rw [Nat.zero_add] at hen
            rw [← HFR.out] at fx1 law hen
            rw [fx1] at fx2
            obtain ⟨en, hende⟩ : ∃ en, from_ + f.length = en := ⟨_, rfl⟩
            rw [hende] at hen fx1 fx2
            have hne : bs ≠ [] := by rintro rfl; simp at fx2; omega
            obtain ⟨g3, hA3⟩ := HQ3.out.some_ hne
            obtain ⟨g4, hA4⟩ := HQ4.out.some_ (by intro h; rw [h] at hen; simp at hen)
            subst hA3
            subst hA4
            have hc3 := HQ3.out.le
            have HLAW := Lib.hid law
            have HEN := Lib.hid hen
            have HFX1 := Lib.hid fx1
            have HEE := Lib.hid hende
            have fre : from_ < en := by omega
            clear hm2 hf law hen fx1 hne hende f0
            go_wp2_with (fail)
            refine wp_loop_ghost_k (fun (m3 : Nat) (ac : Act) (wp : World) => ∃ u0 u1 u5 u6 u7 u11 u12 u13 u14 u15 u16 u17 u18 u19 u20 u21 u22 u23 u24 u25 u26 u27 u28 u29 u30 u31 u32 u33 u34 u35 u36 u37 u38 u39 u40 u41 u42 u43 u44 u45 u46 u47 u48 u49 u50 u51 u52 u53 u54 u55 u56 u57 u58 u59 u60 u61 u62 u63 u64 u65 u66 u67 u68 u69 u70 u71 u72 u73 u74 u75 u76 u77 u78 u79 u80 u81 v10 : Value, (∃ to_ : Nat, m3 + to_ = bs.length + 1 ∧ from_ ≤ to_ ∧ v10 = .int .i64 to_ ∧ GRow bc 5 1 wp w.heap.size (some ⟨g3, 0, none⟩) c3 bs ∧ GRow encPos 3 1 wp w.heap.size (some ⟨g4, 0, none⟩) c4 (endsOf 0 fs) ∧ Below w.heap.size w wp) ∧ ac = ({ tmps := #[u0, u1, .bool false, .slice (some ⟨g3, 0, none⟩) bs.length c3, .slice (some ⟨g4, 0, none⟩) fs.length c4, u5, u6, u7, .int .i64 from_, .int .i64 j, v10, u11, u12, u13, u14, u15, u16, u17, u18, u19, u20, u21, u22, u23, u24, u25, u26, u27, u28, u29, u30, u31, u32, u33, u34, u35, u36, u37, u38, u39, u40, u41, u42, u43, u44, u45, u46, u47, u48, u49, u50, u51, u52, u53, u54, u55, u56, u57, u58, u59, u60, u61, u62, u63, u64, u65, u66, u67, u68, u69, u70, u71, u72, u73, u74, u75, u76, u77, u78, u79, u80, u81], defers := [] } : Act)) (bs.length + 1 - from_) ?atStart ?round
            case' atStart => ((repeat apply Exists.intro); refine ⟨?_, rfl⟩)
            case' round => (intro m3 ac wp hcut; obtain ⟨u0, hcut⟩ := hcut; obtain ⟨u1, hcut⟩ := hcut; obtain ⟨u5, hcut⟩ := hcut; obtain ⟨u6, hcut⟩ := hcut; obtain ⟨u7, hcut⟩ := hcut; obtain ⟨u11, hcut⟩ := hcut; obtain ⟨u12, hcut⟩ := hcut; obtain ⟨u13, hcut⟩ := hcut; obtain ⟨u14, hcut⟩ := hcut; obtain ⟨u15, hcut⟩ := hcut; obtain ⟨u16, hcut⟩ := hcut; obtain ⟨u17, hcut⟩ := hcut; obtain ⟨u18, hcut⟩ := hcut; obtain ⟨u19, hcut⟩ := hcut; obtain ⟨u20, hcut⟩ := hcut; obtain ⟨u21, hcut⟩ := hcut; obtain ⟨u22, hcut⟩ := hcut; obtain ⟨u23, hcut⟩ := hcut; obtain ⟨u24, hcut⟩ := hcut; obtain ⟨u25, hcut⟩ := hcut; obtain ⟨u26, hcut⟩ := hcut; obtain ⟨u27, hcut⟩ := hcut; obtain ⟨u28, hcut⟩ := hcut; obtain ⟨u29, hcut⟩ := hcut; obtain ⟨u30, hcut⟩ := hcut; obtain ⟨u31, hcut⟩ := hcut; obtain ⟨u32, hcut⟩ := hcut; obtain ⟨u33, hcut⟩ := hcut; obtain ⟨u34, hcut⟩ := hcut; obtain ⟨u35, hcut⟩ := hcut; obtain ⟨u36, hcut⟩ := hcut; obtain ⟨u37, hcut⟩ := hcut; obtain ⟨u38, hcut⟩ := hcut; obtain ⟨u39, hcut⟩ := hcut; obtain ⟨u40, hcut⟩ := hcut; obtain ⟨u41, hcut⟩ := hcut; obtain ⟨u42, hcut⟩ := hcut; obtain ⟨u43, hcut⟩ := hcut; obtain ⟨u44, hcut⟩ := hcut; obtain ⟨u45, hcut⟩ := hcut; obtain ⟨u46, hcut⟩ := hcut; obtain ⟨u47, hcut⟩ := hcut; obtain ⟨u48, hcut⟩ := hcut; obtain ⟨u49, hcut⟩ := hcut; obtain ⟨u50, hcut⟩ := hcut; obtain ⟨u51, hcut⟩ := hcut; obtain ⟨u52, hcut⟩ := hcut; obtain ⟨u53, hcut⟩ := hcut; obtain ⟨u54, hcut⟩ := hcut; obtain ⟨u55, hcut⟩ := hcut; obtain ⟨u56, hcut⟩ := hcut; obtain ⟨u57, hcut⟩ := hcut; obtain ⟨u58, hcut⟩ := hcut; obtain ⟨u59, hcut⟩ := hcut; obtain ⟨u60, hcut⟩ := hcut; obtain ⟨u61, hcut⟩ := hcut; obtain ⟨u62, hcut⟩ := hcut; obtain ⟨u63, hcut⟩ := hcut; obtain ⟨u64, hcut⟩ := hcut; obtain ⟨u65, hcut⟩ := hcut; obtain ⟨u66, hcut⟩ := hcut; obtain ⟨u67, hcut⟩ := hcut; obtain ⟨u68, hcut⟩ := hcut; obtain ⟨u69, hcut⟩ := hcut; obtain ⟨u70, hcut⟩ := hcut; obtain ⟨u71, hcut⟩ := hcut; obtain ⟨u72, hcut⟩ := hcut; obtain ⟨u73, hcut⟩ := hcut; obtain ⟨u74, hcut⟩ := hcut; obtain ⟨u75, hcut⟩ := hcut; obtain ⟨u76, hcut⟩ := hcut; obtain ⟨u77, hcut⟩ := hcut; obtain ⟨u78, hcut⟩ := hcut; obtain ⟨u79, hcut⟩ := hcut; obtain ⟨u80, hcut⟩ := hcut; obtain ⟨u81, hcut⟩ := hcut; obtain ⟨v10, hcut⟩ := hcut; obtain ⟨hcut, hac⟩ := hcut; subst hac; intro _ _ _ _)
            case atStart => exact ⟨from_, by omega, Nat.le_refl _, rfl, HQ3.out, HQ4.out, HQB.out⟩
            case round =>
              obtain ⟨to_, hm3, hft, rfl, G3, G4, BB⟩ := hcut
              have HM3 := Lib.hid hm3
              have HP3 := Lib.hid G3
              have HP4 := Lib.hid G4
              have HPB := Lib.hid BB
              have q4 : wp.cell? ⟨g4, j, none⟩ = some (.int .i64 en) := by
                have := HP4.out.cell' HEN.out (j := 0) rfl
                simpa using this
              by_cases hto : to_ ≤ bs.length
              · have O3 : OwnB wp g3 c3 bs := by
                  rcases G3 with ⟨h, _⟩ | ⟨g, h, _, O⟩
                  · cases h
                  · injection h with h; injection h with h; subst h; exact O
                clear hm3 G3 G4 BB
                obtain ⟨p, hp⟩ : ∃ p, (bs.drop from_).take (to_ - from_) = p := ⟨_, rfl⟩
                have hpl : p.length = to_ - from_ := by rw [← hp, List.length_take, List.length_drop]; omega
                have hsrc : BSrc wp (some ⟨g3, from_, none⟩) p := BSrc.ofAt (fun k x hx => by
                  rw [← hp, List.getElem?_take] at hx
                  split at hx
                  · rw [List.getElem?_drop] at hx
                    have := O3.bsAt _ x hx
                    simpa using this
                  · cases hx)
                have DC := Lib.hid (decode_any (p := p) (by rw [← hp]; exact (HBT.out.drop _).take _) (by rw [hpl]; omega) (c0 := c3 - from_) hsrc)
                have LW := Lib.hid (HLAW.out (to_ - from_) (by omega))
                rw [hpl] at DC
                have HPP := Lib.hid hp
                clear O3 hsrc hp
                go_wp2_with (fail)
                refine DC.out.mono ?_
                rintro e w6 ⟨hb6, K, V, C, rfl, _⟩
                rw [HPP.out] at LW
                generalize (decodeR p).1 = rr at *
                obtain ⟨ee, hee⟩ : ∃ x, (decodeR p).2 = x := ⟨_, rfl⟩
                have LW2 := LW.out
                rw [hee] at LW2 ⊢
                obtain ⟨t1, ht1⟩ := named (ee == 0)
                have ht2 : ((to_ : Int) == (en : Int)) = t1 := by
                  rw [← ht1, Bool.eq_iff_iff, beq_iff_eq, beq_iff_eq, LW2]
                  have := HEE.out
                  omega
                unfold recV recCells
                have HR6 := Lib.hid (show Below wp.heap.size wp (w6.alloc (.cells #[.int .i64 rr.kind, .int .i64 rr.shard, .int .i64 rr.epoch, .int .i64 rr.peer, .int .i64 rr.client, .int .i64 rr.seq, .int .i64 rr.op.kind, .slice K.1 K.2.1 K.2.2, .slice V.1 V.2.1 V.2.2, .int .i64 rr.op.rev, .slice C.1 C.2.1 C.2.2] TRec (0, 0))) from hb6.alloc hb6.size _)
                clear LW2 hb6 hee
                go_upto_region 20 with (fail)
                generalize w6.alloc _ = w7 at HR6 ⊢
                have q4 : w7.cell? ⟨g4, j, none⟩ = some (.int .i64 en) := cell_below HR6.out q4
                cases t1
                · go_wp2_with (fail)
                  go_roundg (m3 - 1)
                  case measure => have := HM3.out; omega
                  case rel => exact ⟨to_ + 1, by have := HM3.out; omega, by omega, by go_num, HP3.out.keeps (KeepT.below HR6.out), HP4.out.keeps (KeepT.below HR6.out), HPB.out.trans (HR6.out.mono HPB.out.size)⟩
                · go_wp2_with (fail)
                  go_roundg (m3 - 1)
                  case measure => have := HM3.out; omega
                  case rel => exact ⟨to_ + 1, by have := HM3.out; omega, by omega, by go_num, HP3.out.keeps (KeepT.below HR6.out), HP4.out.keeps (KeepT.below HR6.out), HPB.out.trans (HR6.out.mono HPB.out.size)⟩
              · clear hm3 G3 G4 BB
                have hto' : ¬ (to_ : Int) ≤ (bs.length : Int) := by omega
                go_wp2_with (fail)
                go_roundg (m2 - 1)
                case measure => have := HM2.out; omega
                case rel => exact ⟨j + 1, en, by have := HM2.out; omega, by go_num, HFX1.out.symm, rfl, HP3.out, HP4.out, HPB.out⟩
          · clear hm2
            have hj' : ¬ (j : Int) < (fs.length : Int) := by omega
            go_wp2_with (fail)
            go_ret
            exact ⟨rfl, HQB.out⟩
theorem RecordRow_walk (w : World) (A : Option Addr) (cap : Nat) (xs : List RecTup) (hc : xs.length ≤ cap) (hm : cap ≤ maxLen) (hb : xs.length * 136 ≤ reach) (hn : A = none → cap = 0) (he : RdRec.elems w A xs) :
    Calls Try.prog 6 #[.slice A xs.length cap] w fun e w' => e = .returned (.bool true) ∧ Below w.heap.size w w' := by
  have hr : reach = 140737488351232 := rfl
  exact row_1 w A cap xs (by omega) hc he
namespace recordRowUpto
open Go.ChangeShapes Go.WideShapes Go.ChangeAt Go.RowKit
open Go.ChangeMaps (open_string shut_string)
theorem own : ownKnob Try.prog.godebug = none := by kernel_rfl
theorem laidOut : laidOutB Try.prog = true := by kernel_rfl
set_option maxRecDepth 100000 in
theorem lifted (os : Os) (started : os.Started) (H : Type) (enc : TypeId × Value → H) (F : Stop.Interp) :
    ReturnsInHanded {} Try.checked os 6 .any ((Rows.OpenSpec.upto Rows.recordRowSpec).pre6 enc Try.prog Try.f6 Rows.recordRowUptoRow.domain false) (((Rows.OpenSpec.upto Rows.recordRowSpec).at F).post enc Try.prog Try.f6 false true false false) := by
  refine returnsInHanded_of_cond_sized (C := Try.checked) (s := (Rows.OpenSpec.upto Rows.recordRowSpec)) (k := Rows.uptoSmall) rfl own started (by kernel_rfl) Try.func6
    (OpenSpec.witness (enc := enc) (C := Try.checked) (s := (Rows.OpenSpec.upto Rows.recordRowSpec)) (k := Rows.uptoSmall) rfl false ⟨#[], #[.slice none 0 0], []⟩ 8 (by kernel_rfl) (by kernel_rfl) (by kernel_rfl) (x := ([.nil], [], [])) (by kernel_rfl) rfl (by kernel_rfl)) ?_
  intro W base args ds gs before hval0 hW hcnd hkk hsz0 _
  have hsz : (DataW.weightsEach Try.prog (Try.f6.params.toList ++ Rows.recordRowSpec.plain.varTypes Try.prog) (ds ++ gs)).all (· ≤ reachBytes) = true := hsz0
  have hval : ∀ (j : Nat) t v, Try.f6.params[j]? = some t → args[j]? = some v → Value.okWide Try.prog W .any base t v := hval0
  have hW' := hW
  obtain ⟨p, q, hA0, hV, rfl, hfz, hnd⟩ := hW
  have hA : DataW.TrodAll enc Try.prog W 0 (fun _ => true) true Try.f6.params.toList args.toList ds p := hA0
  rw [Try.params6] at hA hval hsz
  obtain ⟨v0, vs0, d0, ds0, p0, q0, hargs, rfl, rfl, h0, r0⟩ := trodAll_cons hA
  obtain ⟨rfl, rfl, rfl⟩ := trodAll_nil r0
  obtain rfl : args = #[v0] := by cases args; simp_all
  obtain ⟨rfl, rfl⟩ := trodVars_none hV
  obtain ⟨a0, len0, cap0, rfl⟩ := okWide_slice Try.underlying41 (hval 0 41 v0 rfl rfl)
  have k0 := h0
  have lt0 : ∀ x ∈ p0, x.block < W.heap.size := by obtain ⟨m, hm⟩ := k0; exact DataW.trod_lt m _ _ _ hm
  obtain ⟨xs0, rfl, hc0, hm0, hb0, hn0, he0⟩ := opened_slice (opens_recs W) h0 (weights_at hsz (j := 0) (t := 41) rfl rfl)
  clear hA0 hval0 hsz0 hsz
  refine (RecordRow_walk W a0 cap0 xs0 hc0 hm0 hb0 hn0 he0).mono fun e W' ⟨he, bel⟩ => ?_
  subst he
  exact ⟨_, rfl, _, _, _, [], _, [], hW', trodAll_mk1 (shut_bool Try.underlying4 _), (trodAll_cons_mk (Below.trod laidOut (by kernel_rfl) (of_decide_eq_true (by kernel_rfl)) k0 bel lt0) trodAll_mk0), rfl, bel.frame _, fun h => by cases h⟩
theorem over : Rows.recordRowUptoRow.holds Try.pinned (Rows.OpenSpec.upto Rows.recordRowSpec) :=
  OpenClaim.holds_of_cond 6 Try.f6 rfl rfl rfl rfl rfl rfl rfl ⟨rfl, rfl, rfl, rfl, rfl⟩ rfl rfl rfl rfl rfl (by kernel_rfl) Try.func6 (by kernel_rfl)
    (of_decide_eq_true (by kernel_rfl)) (by unfold Func.isWrapper; first | (rw [if_pos (by decide +kernel)]; kernel_rfl) | (rw [if_neg (by decide +kernel)]; exact ⟨rfl, rfl⟩))
    (fun os started H enc _ F => lifted os started H enc F)
theorem proved : Rows.RecordRowUptoSaid := over
end recordRowUpto
theorem recordRowUpto_holds : Rows.RecordRowUptoSaid := recordRowUpto.proved
#print axioms recordRowUpto_holds
end Go.Proofs.Ytjmmdpnphafdfaa
