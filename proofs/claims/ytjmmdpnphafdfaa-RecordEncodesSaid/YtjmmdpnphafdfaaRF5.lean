/- The reference's Decode. -/
import Derived.Test.YtjmmdpnphafdfaaRF3
import Derived.Test.YtjmmdpnphafdfaaRF4
import Derived.Test.YtjmmdpnphafdfaaX0
import Derived.Lib.Bytes
namespace Go.Proofs.Ytjmmdpnphafdfaa
set_option linter.unusedVariables false
set_option linter.unusedSimpArgs false
open Go.RowKit Go.Deep Go.Proofs.YtjmmdpnphafdfaaW.PrintLast

attribute [local go_sem] run_store_func
theorem GRow.fr_ {w w' : World} {F : Nat → Prop} {N c : Nat} {A : Option Addr} {p : List Int} (h : GRow bc 5 1 w N A c p) (hf : Fr F w w') (hF : ∀ b, N ≤ b → ¬ F b) : GRow bc 5 1 w' N A c p := by
  rcases h with h | ⟨g, h1, h2, h3⟩
  · exact Or.inl h
  · exact Or.inr ⟨g, h1, h2, h3.moved (hf.block g h3.lt (hF g h2))⟩
theorem wrap_i64N {n : Nat} (h : n < 18446744073709551616) : IntKind.i64.wrap (n : Int) = i64N n := by
  rw [IntKind.wrap_i64]; unfold i64N; split <;> omega
/-- A text of a record. -/
def TxtAt (w : World) (N : Nat) (x : SlB) (p : List Int) : Prop := x.2.1 = p.length ∧ GRow bc 5 1 w N x.1 x.2.2 p
/-- A record under way: what is read so far lies at kr. -/
structure QecI (wA : World) (n1 k kr : Nat) (r : RZ) (K V C : SlB) (w' : World) (s : RS) : Prop where
  rd : RefLies w' (fun b => wA.heap.size ≤ b ∧ b < n1) k s
  lo : wA.heap.size ≤ n1
  kn : n1 ≤ kr
  cells : w'.heap[kr]? = some (.cells (recCells r K V C) TRec (0, 0))
  key : TxtAt w' (kr + 1) K r.op.key
  val : TxtAt w' (kr + 1) V r.op.val
  copy : TxtAt w' (kr + 1) C r.copy
  bel : Below wA.heap.size wA w'
  byt : Byt s.left
  len : s.left.length ≤ 140737488355328
theorem conv_any {w : World} {A : Option Addr} {c : Nat} {p : List Int} (h : BSrc w A p) : (convert 22 9 (.slice A p.length c)).run Try.prog w = .ok (.string (strOfNums p)) w := by
  cases A with
  | none =>
    have hp : p = [] := by
      rcases p with _ | ⟨x, t⟩
      · rfl
      · obtain ⟨g, o, h1, _⟩ := h (by simp)
        cases h1
    subst hp
    exact run_convert_bytes_nil w 22 5 Try.underlying22 Try.underlying5 0 c 9 Try.underlying9
  | some a =>
    obtain ⟨g, o, i⟩ := a
    by_cases hp : p = []
    · subst hp
      rw [run_convert_bytes_string w 22 9 5 _ _ c Try.underlying22 Try.underlying5 Try.underlying9]
      simp [Conv.bytesToString, loadCells, loadCellsFrom]
      rfl
    · obtain ⟨g', o', h1, h2⟩ := h hp
      injection h1 with h1
      injection h1 with e1 e2 e3
      subst e1 e2 e3
      refine run_convert_bytes_arg w 22 5 Try.underlying22 Try.underlying5 _ _ _ c p rfl (fun j hj => ?_) 9 Try.underlying9
      rw [h2 j _ (List.getElem?_eq_getElem hj), List.getD_eq_getElem?_getD, List.getElem?_eq_getElem hj]
      rfl
theorem strL_inj {a b : List Int} (ha : Byt a) (hb : Byt b) (h : (strOfNums a).toList = (strOfNums b).toList) : a = b := by
  rw [Go.Lib.strOfNums_toList, Go.Lib.strOfNums_toList] at h
  refine strN_inj ha hb (ByteArray.ext (Array.toList_inj.1 ?_))
  exact h
theorem TxtAt.slAt {w : World} {N : Nat} {x : SlB} {p : List Int} (h : TxtAt w N x p) : SlAt w w.heap.size x p := SlAt.ofSrc h.2.srcB h.1 (Nat.le_refl _)
theorem qec_byt {p : List Int} (hb : Byt p) : (qecR p).1.Byt := by
  have nil : Byt [] := fun x hx => by cases hx
  unfold qecR qecF
  have B1 := (RS.byte_byt (s := ⟨p, [], 0⟩) hb).1
  have B2 := RS.num_byt B1
  have B3 := RS.num_byt B2
  have B4 := RS.num_byt B3
  simp only
  split
  · have B5 := (RS.byte_byt B4).1
    have B6 := RS.text_byt (most := 263144) B5
    have B7 := RS.text_byt (most := 263144) B6.1
    refine ⟨B6.2, ?_, nil⟩
    unfold qecO
    simp only
    split
    · exact B7.2
    · exact nil
  · split
    · exact ⟨nil, nil, nil⟩
    · split
      · exact ⟨nil, nil, (RS.text_byt B4).2⟩
      · exact ⟨nil, nil, nil⟩
section
variable {wA w1 w2 : World} {n1 k kr : Nat} {r : RZ} {K V C : SlB} {s s' : RS}
theorem TRec_ne : TRec ≠ 5 ∧ TRec ≠ 3 := by decide
theorem QecI.moved (h : QecI wA n1 k kr r K V C w1 s) (U : UpdQ (fun b => wA.heap.size ≤ b ∧ b < n1) k w1 w2 s') (hb : Byt s'.left) (hl : s'.left.length ≤ s.left.length) : QecI wA n1 k kr r K V C w2 s' := by
  have hk := h.kn
  have hlt := blk_lt h.cells
  exact ⟨U.1, h.lo, h.kn, (U.2.block kr hlt (fun hf => by omega)).trans h.cells, ⟨h.key.1, h.key.2.fr_ U.2 (fun b hb hf => by omega)⟩, ⟨h.val.1, h.val.2.fr_ U.2 (fun b hb hf => by omega)⟩, ⟨h.copy.1, h.copy.2.fr_ U.2 (fun b hb hf => by omega)⟩,
    h.bel.trans (U.2.toBelow (fun b hb => hb.1) h.bel.size), hb, Nat.le_trans hl h.len⟩
theorem QecI.below (h : QecI wA n1 k kr r K V C w1 s) (hb : Below w1.heap.size w1 w2) : QecI wA n1 k kr r K V C w2 s := by
  have hf := Fr.below (fun _ => False) hb
  exact ⟨h.rd.below hb, h.lo, h.kn, blk_below h.cells hb, ⟨h.key.1, h.key.2.fr_ hf (fun _ _ h => h)⟩, ⟨h.val.1, h.val.2.fr_ hf (fun _ _ h => h)⟩, ⟨h.copy.1, h.copy.2.fr_ hf (fun _ _ h => h)⟩, h.bel.trans (hb.mono h.bel.size), h.byt, h.len⟩
theorem QecI.set (h : QecI wA n1 k kr r K V C w1 s) (i : Nat) (v : Value) {r' : RZ} {K' V' C' : SlB} (hc : (recCells r K V C).setIfInBounds i v = recCells r' K' V' C')
    (hK : TxtAt w1 (kr + 1) K' r'.op.key) (hV : TxtAt w1 (kr + 1) V' r'.op.val) (hC : TxtAt w1 (kr + 1) C' r'.copy) : QecI wA n1 k kr r' K' V' C' (w1.setCell ⟨kr, i, none⟩ v) s := by
  have hk := h.kn
  have hlo := h.lo
  have KT : KeepT 5 w1 (w1.setCell ⟨kr, i, none⟩ v) := KeepT.setCell h.cells (Ne.symm TRec_ne.1) i _
  have FR : Fr (fun b => b = kr) w1 (w1.setCell ⟨kr, i, none⟩ v) := Fr.set (F := fun b => b = kr) _ rfl _
  refine ⟨h.rd.same fun b hb hl => FR.block b hl (fun e => by omega), h.lo, h.kn, ?_, ⟨hK.1, hK.2.keeps KT⟩, ⟨hV.1, hV.2.keeps KT⟩, ⟨hC.1, hC.2.keeps KT⟩, h.bel.trans (FR.toBelow (fun b hb => by omega) h.bel.size), h.byt, h.len⟩
  rw [← hc]
  exact setCell_heap w1 kr i v _ _ _ h.cells
theorem QecI.free (h : QecI wA n1 k kr r K V C w1 s) (i : Nat) : w1.frozen? ⟨kr, i, none⟩ = false := free_blk h.cells i
theorem QecI.num (h : QecI wA n1 k kr r K V C w1 s) {q : Nat × RS} (hq : s.num = q) :
    Calls Try.prog 29 #[.pointer (some ⟨k, 0, none⟩)] w1 fun e w' => e = .returned (.int .u64 (q.1 : Nat)) ∧ QecI wA n1 k kr r K V C w' q.2 := by
  subst hq
  exact (refRNum_any h.rd h.byt h.len).mono fun e w' hh => ⟨hh.1, h.moved hh.2 (RS.num_byt h.byt) (num_len s)⟩
theorem byte_len (s : RS) : s.byte.2.left.length ≤ s.left.length := by
  unfold RS.byte
  split
  · split
    · exact Nat.le_refl _
    · rename_i h; rw [h]; simp
  · exact Nat.le_refl _
theorem QecI.byte (h : QecI wA n1 k kr r K V C w1 s) {q : Int × RS} (hq : s.byte = q) :
    Calls Try.prog 28 #[.pointer (some ⟨k, 0, none⟩)] w1 fun e w' => e = .returned (.int .i64 q.1) ∧ QecI wA n1 k kr r K V C w' q.2 := by
  subst hq
  exact (refRByte_any h.rd h.byt h.len).mono fun e w' hh => ⟨hh.1, h.moved hh.2 (RS.byte_byt h.byt).1 (byte_len s)⟩
theorem text_left (s : RS) (m : Int) : (s.text m).2.left.length ≤ s.left.length := by
  unfold RS.text RS.size
  have := num_len s
  simp only
  repeat' split
  all_goals (try simp only [List.length_drop])
  all_goals omega
theorem QecI.text (h : QecI wA n1 k kr r K V C w1 s) {q : List Int × RS} (hq : s.text 263144 = q) :
    Calls Try.prog 30 #[.pointer (some ⟨k, 0, none⟩), .int .i64 263144] w1 fun e w' => ∃ A c, e = .returned (.slice A q.1.length c) ∧ TxtAt w' (kr + 1) (A, q.1.length, c) q.1 ∧ QecI wA n1 k kr r K V C w' q.2 := by
  subst hq
  have hlt := blk_lt h.cells
  exact (refRText_any h.rd h.byt h.len 263144 (by omega)).mono fun e w' hh => by
    obtain ⟨⟨A, c, he, hg⟩, U⟩ := hh
    exact ⟨A, c, he, ⟨rfl, GRow.le_ hg hlt⟩, h.moved U (RS.text_byt h.byt).1 (text_left s _)⟩
end
def QDecP (w : World) (p : List Int) (e : Ending) (w' : World) : Prop := ∃ K V C, e = .returned (.tuple #[recV (decodeR p).1 K V C, .int .i64 (decodeR p).2]) ∧ RecLie w' (decodeR p).1 K V C ∧ Below w.heap.size w w'
theorem QDecP.bad {w w7 : World} {p : List Int} (h : Below w.heap.size w w7) (hd : decodeR p = (RZ.none, 160)) (v0 v1 v2 v3 v4 v5 v6 v7 v8 v9 v10 : Value) : QDecP w p (.returned (.tuple #[.agg #[.int .i64 0, .int .i64 0, .int .i64 0, .int .i64 0, .int .i64 0, .int .i64 0, .int .i64 0, .slice none 0 0, .slice none 0 0, .int .i64 0, .slice none 0 0], .int .i64 160])) (set11 w7 w.heap.size v0 v1 v2 v3 v4 v5 v6 v7 v8 v9 v10) := by
  have hb := set11_below h v0 v1 v2 v3 v4 v5 v6 v7 v8 v9 v10
  refine ⟨zSl, zSl, zSl, by rw [hd]; rfl, ?_, hb⟩
  rw [hd]
  exact ⟨⟨rfl, fun h => absurd rfl h⟩, ⟨rfl, fun h => absurd rfl h⟩, ⟨rfl, fun h => absurd rfl h⟩, by decide, by decide, by decide⟩
theorem QDecP.good {w w7 wA : World} {p : List Int} {n1 k kr : Nat} {r : RZ} {K V C : SlB} {s : RS} (h : Below w.heap.size w w7) (hA : wA.heap.size = w.heap.size + 1) (hd : decodeR p = (r, 0)) (hs : SoundR r) (hI : QecI wA n1 k kr r K V C w7 s) (v0 v1 v2 v3 v4 v5 v6 v7 v8 v9 v10 : Value) : QDecP w p (.returned (.tuple #[recV r K V C, .int .i64 0])) (set11 w7 w.heap.size v0 v1 v2 v3 v4 v5 v6 v7 v8 v9 v10) := by
  have hb := set11_below h v0 v1 v2 v3 v4 v5 v6 v7 v8 v9 v10
  have fr := set11_fr w7 w.heap.size v0 v1 v2 v3 v4 v5 v6 v7 v8 v9 v10
  have h1 := hI.lo
  have h2 := hI.kn
  have hl := hs.lens
  refine ⟨K, V, C, by rw [hd], ?_, hb⟩
  rw [hd]
  exact ⟨⟨hI.key.1, (hI.key.2.fr_ fr fun b hb e => by omega).srcB⟩, ⟨hI.val.1, (hI.val.2.fr_ fr fun b hb e => by omega).srcB⟩, ⟨hI.copy.1, (hI.copy.2.fr_ fr fun b hb e => by omega).srcB⟩, by simp only; omega, by simp only; omega, by simp only; omega⟩
set_option maxRecDepth 100000 in
set_option maxHeartbeats 8000000 in
theorem qdec_any {w : World} {B : Option Addr} {cc : Nat} {p : List Int} (hy : BSrc w B p) (hb : Byt p) (h47 : p.length ≤ 140737488355328) :
    Calls Try.prog 11 #[.slice B p.length cc] w (QDecP w p) := by
  have HY := Lib.hid hy
  have HBY := Lib.hid hb
  have H47 := Lib.hid h47
  clear hy hb
  go_enter Try.func11, Try.ntmps11
  have zb := blk_new w (.cells (recCells RZ.none zSl zSl zSl) TRec (0, 0))
  have ZB : Below w.heap.size w (w.alloc (.cells (recCells RZ.none zSl zSl zSl) TRec (0, 0))) := (Below.refl _ _).alloc (Nat.le_refl _) _
  have zsz : (w.alloc (.cells (recCells RZ.none zSl zSl zSl) TRec (0, 0))).heap.size = w.heap.size + 1 := World.size_alloc _ _
  generalize hwa : w.alloc (.cells (recCells RZ.none zSl zSl zSl) TRec (0, 0)) = wA at *
  have HWA := Lib.hid hwa
  have HZB := Lib.hid zb
  have HZ := Lib.hid ZB
  have HZS := Lib.hid zsz
  unfold recCells RZ.none OpZ.none zSl at hwa
  have HWA2 := Lib.hid hwa
  clear hwa zb ZB zsz
  go_wp2_with (fail)
  rw [HWA2.out]
  refine (refRead_any wA (HY.out.below HZ.out) h47).mono ?_
  rintro e w1 ⟨k, rfl, L1, hb1⟩
  have HL1 := Lib.hid L1
  have HB1 := Lib.hid hb1
  obtain ⟨q1, hq1⟩ : ∃ q, (RS.mk p [] 0).byte = q := ⟨_, rfl⟩
  have BY := Lib.hid (refRByte_any L1 HBY.out H47.out)
  rw [hq1] at BY
  have HQ1 := Lib.hid hq1
  clear L1 hb1 hq1
  go_wp2_with (fail)
  refine BY.out.mono ?_
  rintro e w2 ⟨rfl, U2⟩
  have HU2 := Lib.hid U2
  have hb2 := RS.byte_byt (s := ⟨p, [], 0⟩) HBY.out
  have hl2 := byte_len ⟨p, [], 0⟩
  rw [HQ1.out] at hb2 hl2
  have HB2 := Lib.hid hb2
  have HL2 := Lib.hid (Nat.le_trans hl2 H47.out)
  obtain ⟨q2, hq2⟩ : ∃ q, q1.2.num = q := ⟨_, rfl⟩
  have NU := Lib.hid (refRNum_any U2.1 hb2.1 HL2.out)
  rw [hq2] at NU
  have HQ2 := Lib.hid hq2
  clear U2 BY hb2 hl2 hq2
  go_wp2_with (fail)
  refine NU.out.mono ?_
  rintro e w3 ⟨rfl, U3⟩
  have hw3 : IntKind.i64.wrap (q2.1 : Int) = i64N q2.1 := wrap_i64N (by rw [← HQ2.out]; exact num_lt _ HB2.out.1)
  have U3' := HU2.out.trans U3
  have hsz1 := HB1.out.size
  have hsz3 := U3'.2.size
  have HB3 := Lib.hid (HB1.out.trans (U3'.2.toBelow (fun b hb => hb.1) HB1.out.size))
  have HU3 := Lib.hid U3'
  clear U3 U3' HU2 NU
  go_upto_region 4 with (fail)
  have HI0 := Lib.hid (show QecI wA w1.heap.size k w3.heap.size ⟨q1.1, i64N q2.1, 0, 0, 0, 0, OpZ.none, []⟩ zSl zSl zSl (w3.alloc (.cells (recCells ⟨q1.1, i64N q2.1, 0, 0, 0, 0, OpZ.none, []⟩ zSl zSl zSl) TRec (0, 0))) q2.2 from by
    have BB : Below w3.heap.size w3 (w3.alloc (.cells (recCells ⟨q1.1, i64N q2.1, 0, 0, 0, 0, OpZ.none, []⟩ zSl zSl zSl) TRec (0, 0))) := (Below.refl _ _).alloc (Nat.le_refl _) _
    have hn := RS.num_byt HB2.out.1
    have hl := num_len q1.2
    rw [HQ2.out] at hn hl
    exact ⟨HU3.out.1.below BB, hsz1, hsz3, blk_new _ _, ⟨rfl, GRow.nil⟩, ⟨rfl, GRow.nil⟩, ⟨rfl, GRow.nil⟩, HB3.out.trans (BB.mono HB3.out.size), hn, Nat.le_trans hl HL2.out⟩)
  unfold recCells OpZ.none zSl TRec at HI0
  simp only at HI0
  generalize hw4 : w3.alloc _ = w4 at HI0
  have HW4 := Lib.hid hw4
  clear hw4
  generalize w3.heap.size = kr at *
  clear HU3 HB3 hw3
  have HPQ := Lib.hid (show qecR p = qecF q1.1 (i64N q2.1) q2.2 by unfold qecR; simp only [HQ1.out, HQ2.out])
  by_cases k1 : q1.1 = 1
  · have HI := HI0
    clear HI0
    obtain ⟨q3, hq3⟩ : ∃ q, q2.2.num = q := ⟨_, rfl⟩
    have CA := Lib.hid (HI.out.num hq3)
    have Hq3 := Lib.hid hq3
    clear hq3
    go_wp2_with (fail)
    refine CA.out.mono ?_
    rintro e wa10 ⟨rfl, I10⟩
    have hw10 : IntKind.i64.wrap (q3.1 : Int) = i64N q3.1 := wrap_i64N (by rw [← Hq3.out]; exact num_lt _ HI.out.byt)
    have ff10 := I10.free 4
    have cc10 := cell_blk I10.cells 4 rfl
    have HJ := Lib.hid (show QecI wA w1.heap.size k kr ⟨q1.1, i64N q2.1, 0, 0, i64N q3.1, 0, ⟨0, [], [], 0⟩, []⟩ (none, 0, 0) (none, 0, 0) (none, 0, 0) (wa10.setCell ⟨kr, 4, none⟩ (.int .i64 (i64N q3.1))) q3.2 from I10.set 4 (.int .i64 (i64N q3.1)) rfl I10.key I10.val I10.copy)
    clear HI I10 CA
    have HI := HJ
    clear HJ
    go_wp2_with (fail)
    generalize wa10.setCell ⟨kr, 4, none⟩ _ = wb10 at *
    clear cc10 ff10 hw10
    obtain ⟨q4, hq4⟩ : ∃ q, q3.2.num = q := ⟨_, rfl⟩
    have CA := Lib.hid (HI.out.num hq4)
    have Hq4 := Lib.hid hq4
    clear hq4
    go_wp2_with (fail)
    refine CA.out.mono ?_
    rintro e wa11 ⟨rfl, I11⟩
    have hw11 : IntKind.i64.wrap (q4.1 : Int) = i64N q4.1 := wrap_i64N (by rw [← Hq4.out]; exact num_lt _ HI.out.byt)
    have ff11 := I11.free 5
    have cc11 := cell_blk I11.cells 5 rfl
    have HJ := Lib.hid (show QecI wA w1.heap.size k kr ⟨q1.1, i64N q2.1, 0, 0, i64N q3.1, i64N q4.1, ⟨0, [], [], 0⟩, []⟩ (none, 0, 0) (none, 0, 0) (none, 0, 0) (wa11.setCell ⟨kr, 5, none⟩ (.int .i64 (i64N q4.1))) q4.2 from I11.set 5 (.int .i64 (i64N q4.1)) rfl I11.key I11.val I11.copy)
    clear HI I11 CA
    have HI := HJ
    clear HJ
    go_wp2_with (fail)
    generalize wa11.setCell ⟨kr, 5, none⟩ _ = wb11 at *
    clear cc11 ff11 hw11
    obtain ⟨q5, hq5⟩ : ∃ q, q4.2.byte = q := ⟨_, rfl⟩
    have CA := Lib.hid (HI.out.byte hq5)
    have Hq5 := Lib.hid hq5
    clear hq5
    go_wp2_with (fail)
    refine CA.out.mono ?_
    rintro e wa12 ⟨rfl, I12⟩
    have ff12 := I12.free 6
    have cc12 := cell_blk I12.cells 6 rfl
    have HJ := Lib.hid (show QecI wA w1.heap.size k kr ⟨q1.1, i64N q2.1, 0, 0, i64N q3.1, i64N q4.1, ⟨q5.1, [], [], 0⟩, []⟩ (none, 0, 0) (none, 0, 0) (none, 0, 0) (wa12.setCell ⟨kr, 6, none⟩ (.int .i64 q5.1)) q5.2 from I12.set 6 (.int .i64 q5.1) rfl I12.key I12.val I12.copy)
    clear HI I12 CA
    have HI := HJ
    clear HJ
    go_wp2_with (fail)
    generalize wa12.setCell ⟨kr, 6, none⟩ _ = wb12 at *
    clear cc12 ff12
    obtain ⟨q6, hq6⟩ : ∃ q, q5.2.text 263144 = q := ⟨_, rfl⟩
    have CA := Lib.hid (HI.out.text hq6)
    have Hq6 := Lib.hid hq6
    clear hq6
    go_wp2_with (fail)
    refine CA.out.mono ?_
    rintro e wa13 ⟨A13, c13, rfl, T13, I13⟩
    have ff13 := I13.free 7
    have cc13 := cell_blk I13.cells 7 rfl
    have HJ := Lib.hid (show QecI wA w1.heap.size k kr ⟨q1.1, i64N q2.1, 0, 0, i64N q3.1, i64N q4.1, ⟨q5.1, q6.1, [], 0⟩, []⟩ (A13, q6.1.length, c13) (none, 0, 0) (none, 0, 0) (wa13.setCell ⟨kr, 7, none⟩ (.slice A13 q6.1.length c13)) q6.2 from I13.set 7 (.slice A13 q6.1.length c13) rfl T13 I13.val I13.copy)
    clear HI I13 CA T13
    have HI := HJ
    clear HJ
    go_upto_region 9 with (fail)
    generalize wa13.setCell ⟨kr, 7, none⟩ _ = wb13 at *
    clear cc13 ff13
    have e6 : wb13.cell? ⟨kr, 6, none⟩ = some (.int .i64 q5.1) := cell_blk HI.out.cells 6 rfl
    by_cases o2 : q5.1 = 2
    · rw [o2] at e6
      obtain ⟨q7, hq7⟩ : ∃ q, q6.2.text 263144 = q := ⟨_, rfl⟩
      have CA := Lib.hid (HI.out.text hq7)
      have Hq7 := Lib.hid hq7
      clear hq7
      go_wp2_with (fail)
      refine CA.out.mono ?_
      rintro e wa14 ⟨A14, c14, rfl, T14, I14⟩
      have ff14 := I14.free 8
      have cc14 := cell_blk I14.cells 8 rfl
      have HJ := Lib.hid (show QecI wA w1.heap.size k kr ⟨q1.1, i64N q2.1, 0, 0, i64N q3.1, i64N q4.1, ⟨q5.1, q6.1, q7.1, 0⟩, []⟩ (A13, q6.1.length, c13) (A14, q7.1.length, c14) (none, 0, 0) (wa14.setCell ⟨kr, 8, none⟩ (.slice A14 q7.1.length c14)) q7.2 from I14.set 8 (.slice A14 q7.1.length c14) rfl I14.key T14 I14.copy)
      clear HI I14 CA T14
      have HI := HJ
      clear HJ
      go_upto_region 11 with (fail)
      generalize wa14.setCell ⟨kr, 8, none⟩ _ = wb14 at *
      clear cc14 ff14
      clear e6
      have e6 : wb14.cell? ⟨kr, 6, none⟩ = some (.int .i64 2) := by rw [← o2]; exact cell_blk HI.out.cells 6 rfl
      go_wp2_with (fail)
      clear e6
      obtain ⟨r, hr⟩ : ∃ r : RZ, r = ⟨q1.1, i64N q2.1, 0, 0, i64N q3.1, i64N q4.1, ⟨q5.1, q6.1, q7.1, 0⟩, []⟩ := ⟨_, rfl⟩
      have HR := Lib.hid (show (qecR p).1 = r by rw [hr, HPQ.out]; unfold qecF; rw [if_pos k1]; simp only [Hq3.out, Hq4.out]; unfold qecO; simp only [Hq5.out, Hq6.out]; rw [if_pos (Or.inl o2), if_neg (by omega), Hq7.out]; rfl)
      obtain ⟨K, hK⟩ : ∃ K : SlB, K = (A13, q6.1.length, c13) := ⟨_, rfl⟩
      obtain ⟨V, hV⟩ : ∃ K : SlB, K = (A14, q7.1.length, c14) := ⟨_, rfl⟩
      obtain ⟨C, hC⟩ : ∃ K : SlB, K = (none, 0, 0) := ⟨_, rfl⟩
      have HJ := Lib.hid (show QecI wA w1.heap.size k kr r K V C wb14 q7.2 by rw [hr, hK, hV, hC]; exact HI.out)
      clear HI hr hK hV hC
      have HI := HJ
      clear HJ
      have HBW := Lib.hid (show Below w.heap.size w wb14 from HZ.out.trans (HI.out.bel.mono HZ.out.size))
      have HCV := Lib.hid (show (convert 22 9 (.slice B p.length cc)).run Try.prog (wb14).drew = .ok (.string (strOfNums p)) (wb14).drew from conv_any (HY.out.below HBW.out.drew))
      have SO := Lib.hid (fun W => refSound_any (r := r) K V C HI.out.key.1 HI.out.val.1 HI.out.copy.1 W)
      unfold recV recCells at SO
      have HD := Lib.hid (HI.out.below (Below.refl _ _).drew)
      obtain ⟨s2, hs2⟩ : ∃ s2, strOfNums p = s2 := ⟨_, rfl⟩
      have HS2 := Lib.hid hs2
      clear hs2
      have HZT := Lib.hid (show ∀ W', Below wA.heap.size wA W' → W'.heap[w.heap.size]? = some (.cells (recCells RZ.none zSl zSl zSl) TRec (0, 0)) from fun W' hB => (hB.block _ (by rw [HZS.out]; omega)).trans HZB.out)
      by_cases hs : SoundR r
      · rw [decide_eq_true hs] at SO
        obtain ⟨s1, hs1⟩ : ∃ s1, strOfNums (formR r) = s1 := ⟨_, rfl⟩
        have HS1 := Lib.hid hs1
        clear hs1
        by_cases he : formR r = p
        · have hss : s2 = s1 := by rw [← HS1.out, ← HS2.out, he]
          subst hss
          have HE := Lib.hid he
          clear he
          refine start_ (n := 11) (S := fun w' => w'.cell? ⟨kr, 0, none⟩ = some (.int .i64 r.kind) ∧ w'.cell? ⟨kr, 1, none⟩ = some (.int .i64 r.shard) ∧ w'.cell? ⟨kr, 2, none⟩ = some (.int .i64 r.epoch) ∧ w'.cell? ⟨kr, 3, none⟩ = some (.int .i64 r.peer) ∧ w'.cell? ⟨kr, 4, none⟩ = some (.int .i64 r.client) ∧ w'.cell? ⟨kr, 5, none⟩ = some (.int .i64 r.seq) ∧ w'.cell? ⟨kr, 6, none⟩ = some (.int .i64 r.op.kind) ∧ w'.cell? ⟨kr, 7, none⟩ = some (.slice K.1 K.2.1 K.2.2) ∧ w'.cell? ⟨kr, 8, none⟩ = some (.slice V.1 V.2.1 V.2.2) ∧ w'.cell? ⟨kr, 9, none⟩ = some (.int .i64 r.op.rev) ∧ w'.cell? ⟨kr, 10, none⟩ = some (.slice C.1 C.2.1 C.2.2) ∧ (convert 22 9 (.slice B p.length cc)).run Try.prog w' = .ok (.string s2) w') (ds := []) #[false, false, false, false, false, false, false, false, false, false, false] (by kernel_rfl) rfl rfl ⟨cell_blk HI.out.cells 0 rfl, cell_blk HI.out.cells 1 rfl, cell_blk HI.out.cells 2 rfl, cell_blk HI.out.cells 3 rfl, cell_blk HI.out.cells 4 rfl, cell_blk HI.out.cells 5 rfl, cell_blk HI.out.cells 6 rfl, cell_blk HI.out.cells 7 rfl, cell_blk HI.out.cells 8 rfl, cell_blk HI.out.cells 9 rfl, cell_blk HI.out.cells 10 rfl, (by rw [← HS2.out]; exact HCV.out)⟩ (fun hHeld => ?_)
          (refine take_ (i := 0) (N := some 76) (v := ?v_2) (a' := ?a_2) #[true, false, false, false, false, false, false, false, false, false, false] rfl rfl (by kernel_rfl) (fun _ _ _ h => h) (Or.inl ⟨by rfl, ?hy_2⟩) hHeld ?ha_2 ?hh_2; (case hy_2 => (rintro w' ⟨s0_, s1_, s2_, s3_, s4_, s5_, s6_, s7_, s8_, s9_, s10_, s11_⟩; go_simp; with_reducible rfl)); (case ha_2 => (simp (disch := omega) only [Act.put, List.setIfInBounds_toArray, List.set_cons_zero, List.set_cons_succ, wrap_in]; rfl)))
          refine one_ (i := 1) (N := some 77) #[true, true, false, false, false, false, false, false, false, false, false] rfl rfl (by kernel_rfl) (by decide) (fun K hK => ?_)
          (refine goes_ Try.func17 (by kernel_rfl) rfl ?args_4 (by rfl) rfl rfl ?hargs_4 ?hc_4; (case hargs_4 => (go_simp; with_reducible rfl)))
          (refine (SO.out _).mono ?_; rintro e w3 ⟨rfl, hb3⟩; have HI3 := Lib.hid (HD.out.below hb3); have HCV3 := Lib.hid (conv_any (c := cc) (HY.out.below (HBW.out.drew.trans (hb3.mono HBW.out.size)))); refine ⟨_, rfl, ?_⟩)
          (refine hK.out _ _ ?hs_6 ?hn_6; (case hs_6 => (exact ⟨cell_blk HI3.out.cells 0 rfl, cell_blk HI3.out.cells 1 rfl, cell_blk HI3.out.cells 2 rfl, cell_blk HI3.out.cells 3 rfl, cell_blk HI3.out.cells 4 rfl, cell_blk HI3.out.cells 5 rfl, cell_blk HI3.out.cells 6 rfl, cell_blk HI3.out.cells 7 rfl, cell_blk HI3.out.cells 8 rfl, cell_blk HI3.out.cells 9 rfl, cell_blk HI3.out.cells 10 rfl, by rw [← HS2.out]; exact HCV3.out⟩)); intro hHeld; clear hK K)
          (refine norm_ (a' := ?a_7) ?ha_7 ?hh_7; (case ha_7 => (simp (disch := omega) only [Act.put, List.setIfInBounds_toArray, List.set_cons_zero, List.set_cons_succ, wrap_in]; rfl)))
          (refine take_ (i := 2) (N := some 78) (v := ?v_8) (a' := ?a_8) #[true, true, true, false, false, false, false, false, false, false, false] rfl rfl (by kernel_rfl) (fun _ _ _ h => h) (Or.inl ⟨by rfl, ?hy_8⟩) hHeld ?ha_8 ?hh_8; (case hy_8 => (rintro w' ⟨s0_, s1_, s2_, s3_, s4_, s5_, s6_, s7_, s8_, s9_, s10_, s11_⟩; go_simp; with_reducible rfl)); (case ha_8 => (simp (disch := omega) only [Act.put, List.setIfInBounds_toArray, List.set_cons_zero, List.set_cons_succ, wrap_in]; rfl)))
          (refine take_ (i := 3) (N := some 79) (v := ?v_9) (a' := ?a_9) #[true, true, true, true, false, false, false, false, false, false, false] rfl rfl (by kernel_rfl) (fun _ _ _ h => h) (Or.inl ⟨by rfl, ?hy_9⟩) hHeld ?ha_9 ?hh_9; (case hy_9 => (rintro w' ⟨s0_, s1_, s2_, s3_, s4_, s5_, s6_, s7_, s8_, s9_, s10_, s11_⟩; go_simp; with_reducible rfl)); (case ha_9 => (simp (disch := omega) only [Act.put, List.setIfInBounds_toArray, List.set_cons_zero, List.set_cons_succ, wrap_in]; rfl)))
          first | (refine take_ (i := 4) (N := some 80) (v := undef) (a' := ?a_10) #[true, true, true, true, true, false, false, false, false, false, false] rfl rfl (by kernel_rfl) (fun _ _ _ h => h) (Or.inr ⟨by rfl, rfl⟩) hHeld ?ha_10 ?hh_10; (case ha_10 => (simp (disch := omega) only [Act.put, List.setIfInBounds_toArray, List.set_cons_zero, List.set_cons_succ, wrap_in]; rfl))) | (refine take_ (i := 4) (N := some 80) (v := ?v_10) (a' := ?a_10) #[true, true, true, true, true, false, false, false, false, false, false] rfl rfl (by kernel_rfl) (fun _ _ _ h => h) (Or.inl ⟨by rfl, ?hy_10⟩) hHeld ?ha_10 ?hh_10; (case hy_10 => (rintro w' ⟨s0_, s1_, s2_, s3_, s4_, s5_, s6_, s7_, s8_, s9_, s10_, s11_⟩; go_simp; with_reducible rfl)); (case ha_10 => (simp (disch := omega) only [Act.put, List.setIfInBounds_toArray, List.set_cons_zero, List.set_cons_succ, wrap_in]; rfl)))
          first | (refine take_ (i := 7) (N := some 83) (v := undef) (a' := ?a_11) #[true, true, true, true, true, false, false, true, false, false, false] rfl rfl (by kernel_rfl) (fun _ _ _ h => h) (Or.inr ⟨by rfl, rfl⟩) hHeld ?ha_11 ?hh_11; (case ha_11 => (simp (disch := omega) only [Act.put, List.setIfInBounds_toArray, List.set_cons_zero, List.set_cons_succ, wrap_in]; rfl))) | (refine take_ (i := 7) (N := some 83) (v := ?v_11) (a' := ?a_11) #[true, true, true, true, true, false, false, true, false, false, false] rfl rfl (by kernel_rfl) (fun _ _ _ h => h) (Or.inl ⟨by rfl, ?hy_11⟩) hHeld ?ha_11 ?hh_11; (case hy_11 => (rintro w' ⟨s0_, s1_, s2_, s3_, s4_, s5_, s6_, s7_, s8_, s9_, s10_, s11_⟩; go_simp; with_reducible rfl)); (case ha_11 => (simp (disch := omega) only [Act.put, List.setIfInBounds_toArray, List.set_cons_zero, List.set_cons_succ, wrap_in]; rfl)))
          first | (refine take_ (i := 8) (N := some 84) (v := undef) (a' := ?a_12) #[true, true, true, true, true, false, false, true, true, false, false] rfl rfl (by kernel_rfl) (fun _ _ _ h => h) (Or.inr ⟨by rfl, rfl⟩) hHeld ?ha_12 ?hh_12; (case ha_12 => (simp (disch := omega) only [Act.put, List.setIfInBounds_toArray, List.set_cons_zero, List.set_cons_succ, wrap_in]; rfl))) | (refine take_ (i := 8) (N := some 84) (v := ?v_12) (a' := ?a_12) #[true, true, true, true, true, false, false, true, true, false, false] rfl rfl (by kernel_rfl) (fun _ _ _ h => h) (Or.inl ⟨by rfl, ?hy_12⟩) hHeld ?ha_12 ?hh_12; (case hy_12 => (rintro w' ⟨s0_, s1_, s2_, s3_, s4_, s5_, s6_, s7_, s8_, s9_, s10_, s11_⟩; go_simp; with_reducible rfl)); (case ha_12 => (simp (disch := omega) only [Act.put, List.setIfInBounds_toArray, List.set_cons_zero, List.set_cons_succ, wrap_in]; rfl)))
          refine one_ (i := 5) (N := some 81) #[true, true, true, true, true, true, false, true, true, false, false] rfl rfl (by kernel_rfl) (by decide) (fun K hK => ?_)
          (refine goes_ Try.func31 (by kernel_rfl) rfl ?args_14 (by rfl) rfl rfl ?hargs_14 ?hc_14; (case hargs_14 => (go_simp; with_reducible rfl)))
          (have FO := refForm16_any hs (by rw [← HR.out]; exact qec_byt HBY.out) HI3.out.key.slAt HI3.out.val.slAt HI3.out.copy.slAt; unfold recV recCells at FO; refine FO.mono ?_; rintro e w5 ⟨A, c, rfl, hg, hb5⟩; have HI5 := Lib.hid (HI3.out.below hb5); have HCV5 := Lib.hid (conv_any (c := cc) (HY.out.below (HZ.out.trans (HI5.out.bel.mono HZ.out.size)))); have cv5 := conv_any (c := c) hg.srcB; rw [HS1.out] at cv5; refine ⟨_, rfl, ?_⟩)
          (refine hK.out _ _ ?hs_16 ?hn_16; (case hs_16 => (exact ⟨cell_blk HI5.out.cells 0 rfl, cell_blk HI5.out.cells 1 rfl, cell_blk HI5.out.cells 2 rfl, cell_blk HI5.out.cells 3 rfl, cell_blk HI5.out.cells 4 rfl, cell_blk HI5.out.cells 5 rfl, cell_blk HI5.out.cells 6 rfl, cell_blk HI5.out.cells 7 rfl, cell_blk HI5.out.cells 8 rfl, cell_blk HI5.out.cells 9 rfl, cell_blk HI5.out.cells 10 rfl, by rw [← HS2.out]; exact HCV5.out⟩)); intro hHeld; clear hK K)
          (refine norm_ (a' := ?a_17) ?ha_17 ?hh_17; (case ha_17 => (simp (disch := omega) only [Act.put, List.setIfInBounds_toArray, List.set_cons_zero, List.set_cons_succ, wrap_in]; rfl)))
          refine one_ (i := 6) (N := some 82) #[true, true, true, true, true, true, true, true, true, false, false] rfl rfl (by kernel_rfl) (by decide) (fun K hK => ?_)
          first | (refine off_ (by rfl) ?hk_19) | (refine value_ (v := ?v_19) (w1 := ?w1_19) (by rfl) rfl ?hr_19 ?hk_19; (case hr_19 => (go_simp; first | with_reducible rfl | (constructor <;> with_reducible rfl))))
          (refine hK.out _ _ hHeld ?hn_20; intro _; clear hK K)
          (refine norm_ (a' := ?a_21) ?ha_21 ?hh_21; (case ha_21 => (simp (disch := omega) only [Act.put, List.setIfInBounds_toArray, List.set_cons_zero, List.set_cons_succ, wrap_in]; rfl)))
          first | (refine take_ (i := 9) (N := some 85) (v := undef) (a' := ?a_22) #[true, true, true, true, true, true, true, true, true, true, false] rfl rfl (by kernel_rfl) (fun _ _ _ h => h) (Or.inr ⟨by rfl, rfl⟩) hHeld ?ha_22 ?hh_22; (case ha_22 => (simp (disch := omega) only [Act.put, List.setIfInBounds_toArray, List.set_cons_zero, List.set_cons_succ, wrap_in]; rfl))) | (refine take_ (i := 9) (N := some 85) (v := ?v_22) (a' := ?a_22) #[true, true, true, true, true, true, true, true, true, true, false] rfl rfl (by kernel_rfl) (fun _ _ _ h => h) (Or.inl ⟨by rfl, ?hy_22⟩) hHeld ?ha_22 ?hh_22; (case hy_22 => (rintro w' ⟨s0_, s1_, s2_, s3_, s4_, s5_, s6_, s7_, s8_, s9_, s10_, s11_⟩; go_simp; with_reducible rfl)); (case ha_22 => (simp (disch := omega) only [Act.put, List.setIfInBounds_toArray, List.set_cons_zero, List.set_cons_succ, wrap_in]; rfl)))
          (refine take_ (i := 10) (N := some 86) (v := ?v_23) (a' := ?a_23) #[true, true, true, true, true, true, true, true, true, true, true] rfl rfl (by kernel_rfl) (fun _ _ _ h => h) (Or.inl ⟨by rfl, ?hy_23⟩) hHeld ?ha_23 ?hh_23; (case hy_23 => (rintro w' ⟨s0_, s1_, s2_, s3_, s4_, s5_, s6_, s7_, s8_, s9_, s10_, s11_⟩; go_simp; with_reducible rfl)); (case ha_23 => (simp (disch := omega) only [Act.put, List.setIfInBounds_toArray, List.set_cons_zero, List.set_cons_succ, wrap_in]; rfl)))
          refine done_ (by kernel_rfl) ?_
          have HT5 := Lib.hid (HZT.out _ HI5.out.bel)
          clear hHeld cv5
          have t0 : w5.cell? ⟨w.heap.size, 0, none⟩ = some (.int .i64 0) := cell_blk HT5.out 0 rfl
          have t1 : w5.cell? ⟨w.heap.size, 1, none⟩ = some (.int .i64 0) := cell_blk HT5.out 1 rfl
          have t2 : w5.cell? ⟨w.heap.size, 2, none⟩ = some (.int .i64 0) := cell_blk HT5.out 2 rfl
          have t3 : w5.cell? ⟨w.heap.size, 3, none⟩ = some (.int .i64 0) := cell_blk HT5.out 3 rfl
          have t4 : w5.cell? ⟨w.heap.size, 4, none⟩ = some (.int .i64 0) := cell_blk HT5.out 4 rfl
          have t5 : w5.cell? ⟨w.heap.size, 5, none⟩ = some (.int .i64 0) := cell_blk HT5.out 5 rfl
          have t6 : w5.cell? ⟨w.heap.size, 6, none⟩ = some (.int .i64 0) := cell_blk HT5.out 6 rfl
          have t7 : w5.cell? ⟨w.heap.size, 7, none⟩ = some (.slice none 0 0) := cell_blk HT5.out 7 rfl
          have t8 : w5.cell? ⟨w.heap.size, 8, none⟩ = some (.slice none 0 0) := cell_blk HT5.out 8 rfl
          have t9 : w5.cell? ⟨w.heap.size, 9, none⟩ = some (.int .i64 0) := cell_blk HT5.out 9 rfl
          have t10 : w5.cell? ⟨w.heap.size, 10, none⟩ = some (.slice none 0 0) := cell_blk HT5.out 10 rfl
          have f0 := free_blk HT5.out 0
          have f1 := free_blk HT5.out 1
          have f2 := free_blk HT5.out 2
          have f3 := free_blk HT5.out 3
          have f4 := free_blk HT5.out 4
          have f5 := free_blk HT5.out 5
          have f6 := free_blk HT5.out 6
          have f7 := free_blk HT5.out 7
          have f8 := free_blk HT5.out 8
          have f9 := free_blk HT5.out 9
          have f10 := free_blk HT5.out 10
          have e0 : w5.cell? ⟨kr, 0, none⟩ = some (.int .i64 r.kind) := cell_blk HI5.out.cells 0 rfl
          have e1 : w5.cell? ⟨kr, 1, none⟩ = some (.int .i64 r.shard) := cell_blk HI5.out.cells 1 rfl
          have e2 : w5.cell? ⟨kr, 2, none⟩ = some (.int .i64 r.epoch) := cell_blk HI5.out.cells 2 rfl
          have e3 : w5.cell? ⟨kr, 3, none⟩ = some (.int .i64 r.peer) := cell_blk HI5.out.cells 3 rfl
          have e4 : w5.cell? ⟨kr, 4, none⟩ = some (.int .i64 r.client) := cell_blk HI5.out.cells 4 rfl
          have e5 : w5.cell? ⟨kr, 5, none⟩ = some (.int .i64 r.seq) := cell_blk HI5.out.cells 5 rfl
          have e6 : w5.cell? ⟨kr, 6, none⟩ = some (.int .i64 r.op.kind) := cell_blk HI5.out.cells 6 rfl
          have e7 : w5.cell? ⟨kr, 7, none⟩ = some (.slice K.1 K.2.1 K.2.2) := cell_blk HI5.out.cells 7 rfl
          have e8 : w5.cell? ⟨kr, 8, none⟩ = some (.slice V.1 V.2.1 V.2.2) := cell_blk HI5.out.cells 8 rfl
          have e9 : w5.cell? ⟨kr, 9, none⟩ = some (.int .i64 r.op.rev) := cell_blk HI5.out.cells 9 rfl
          have e10 : w5.cell? ⟨kr, 10, none⟩ = some (.slice C.1 C.2.1 C.2.2) := cell_blk HI5.out.cells 10 rfl
          go_wp2_with (fail)
          refine bodyPost_ret (v := .tuple #[recV r K V C, .int .i64 0]) ?_ rfl ?_
          · unfold recV recCells
            simp [results, Try.results11, go_sem, *]
          · exact QDecP.good (HZ.out.trans (HI5.out.bel.mono HZ.out.size)) HZS.out (by rw [decode_ref HBY.out, HR.out, if_pos ⟨hs, HE.out⟩]) hs HI5.out _ _ _ _ _ _ _ _ _ _ _
        · have hss : (s1.toList == s2.toList) = false := by
            rw [beq_eq_false_iff_ne]
            intro h
            rw [← HS1.out, ← HS2.out] at h
            exact he (strL_inj (formR_byt hs (by rw [← HR.out]; exact qec_byt HBY.out)) HBY.out h)
          have HE := Lib.hid he
          clear he
          refine start_ (n := 11) (S := fun w' => w'.cell? ⟨kr, 0, none⟩ = some (.int .i64 r.kind) ∧ w'.cell? ⟨kr, 1, none⟩ = some (.int .i64 r.shard) ∧ w'.cell? ⟨kr, 2, none⟩ = some (.int .i64 r.epoch) ∧ w'.cell? ⟨kr, 3, none⟩ = some (.int .i64 r.peer) ∧ w'.cell? ⟨kr, 4, none⟩ = some (.int .i64 r.client) ∧ w'.cell? ⟨kr, 5, none⟩ = some (.int .i64 r.seq) ∧ w'.cell? ⟨kr, 6, none⟩ = some (.int .i64 r.op.kind) ∧ w'.cell? ⟨kr, 7, none⟩ = some (.slice K.1 K.2.1 K.2.2) ∧ w'.cell? ⟨kr, 8, none⟩ = some (.slice V.1 V.2.1 V.2.2) ∧ w'.cell? ⟨kr, 9, none⟩ = some (.int .i64 r.op.rev) ∧ w'.cell? ⟨kr, 10, none⟩ = some (.slice C.1 C.2.1 C.2.2) ∧ (convert 22 9 (.slice B p.length cc)).run Try.prog w' = .ok (.string s2) w') (ds := []) #[false, false, false, false, false, false, false, false, false, false, false] (by kernel_rfl) rfl rfl ⟨cell_blk HI.out.cells 0 rfl, cell_blk HI.out.cells 1 rfl, cell_blk HI.out.cells 2 rfl, cell_blk HI.out.cells 3 rfl, cell_blk HI.out.cells 4 rfl, cell_blk HI.out.cells 5 rfl, cell_blk HI.out.cells 6 rfl, cell_blk HI.out.cells 7 rfl, cell_blk HI.out.cells 8 rfl, cell_blk HI.out.cells 9 rfl, cell_blk HI.out.cells 10 rfl, (by rw [← HS2.out]; exact HCV.out)⟩ (fun hHeld => ?_)
          (refine take_ (i := 0) (N := some 76) (v := ?v_26) (a' := ?a_26) #[true, false, false, false, false, false, false, false, false, false, false] rfl rfl (by kernel_rfl) (fun _ _ _ h => h) (Or.inl ⟨by rfl, ?hy_26⟩) hHeld ?ha_26 ?hh_26; (case hy_26 => (rintro w' ⟨s0_, s1_, s2_, s3_, s4_, s5_, s6_, s7_, s8_, s9_, s10_, s11_⟩; go_simp; with_reducible rfl)); (case ha_26 => (simp (disch := omega) only [Act.put, List.setIfInBounds_toArray, List.set_cons_zero, List.set_cons_succ, wrap_in]; rfl)))
          refine one_ (i := 1) (N := some 77) #[true, true, false, false, false, false, false, false, false, false, false] rfl rfl (by kernel_rfl) (by decide) (fun K hK => ?_)
          (refine goes_ Try.func17 (by kernel_rfl) rfl ?args_28 (by rfl) rfl rfl ?hargs_28 ?hc_28; (case hargs_28 => (go_simp; with_reducible rfl)))
          (refine (SO.out _).mono ?_; rintro e w3 ⟨rfl, hb3⟩; have HI3 := Lib.hid (HD.out.below hb3); have HCV3 := Lib.hid (conv_any (c := cc) (HY.out.below (HBW.out.drew.trans (hb3.mono HBW.out.size)))); refine ⟨_, rfl, ?_⟩)
          (refine hK.out _ _ ?hs_30 ?hn_30; (case hs_30 => (exact ⟨cell_blk HI3.out.cells 0 rfl, cell_blk HI3.out.cells 1 rfl, cell_blk HI3.out.cells 2 rfl, cell_blk HI3.out.cells 3 rfl, cell_blk HI3.out.cells 4 rfl, cell_blk HI3.out.cells 5 rfl, cell_blk HI3.out.cells 6 rfl, cell_blk HI3.out.cells 7 rfl, cell_blk HI3.out.cells 8 rfl, cell_blk HI3.out.cells 9 rfl, cell_blk HI3.out.cells 10 rfl, by rw [← HS2.out]; exact HCV3.out⟩)); intro hHeld; clear hK K)
          (refine norm_ (a' := ?a_31) ?ha_31 ?hh_31; (case ha_31 => (simp (disch := omega) only [Act.put, List.setIfInBounds_toArray, List.set_cons_zero, List.set_cons_succ, wrap_in]; rfl)))
          (refine take_ (i := 2) (N := some 78) (v := ?v_32) (a' := ?a_32) #[true, true, true, false, false, false, false, false, false, false, false] rfl rfl (by kernel_rfl) (fun _ _ _ h => h) (Or.inl ⟨by rfl, ?hy_32⟩) hHeld ?ha_32 ?hh_32; (case hy_32 => (rintro w' ⟨s0_, s1_, s2_, s3_, s4_, s5_, s6_, s7_, s8_, s9_, s10_, s11_⟩; go_simp; with_reducible rfl)); (case ha_32 => (simp (disch := omega) only [Act.put, List.setIfInBounds_toArray, List.set_cons_zero, List.set_cons_succ, wrap_in]; rfl)))
          (refine take_ (i := 3) (N := some 79) (v := ?v_33) (a' := ?a_33) #[true, true, true, true, false, false, false, false, false, false, false] rfl rfl (by kernel_rfl) (fun _ _ _ h => h) (Or.inl ⟨by rfl, ?hy_33⟩) hHeld ?ha_33 ?hh_33; (case hy_33 => (rintro w' ⟨s0_, s1_, s2_, s3_, s4_, s5_, s6_, s7_, s8_, s9_, s10_, s11_⟩; go_simp; with_reducible rfl)); (case ha_33 => (simp (disch := omega) only [Act.put, List.setIfInBounds_toArray, List.set_cons_zero, List.set_cons_succ, wrap_in]; rfl)))
          first | (refine take_ (i := 4) (N := some 80) (v := undef) (a' := ?a_34) #[true, true, true, true, true, false, false, false, false, false, false] rfl rfl (by kernel_rfl) (fun _ _ _ h => h) (Or.inr ⟨by rfl, rfl⟩) hHeld ?ha_34 ?hh_34; (case ha_34 => (simp (disch := omega) only [Act.put, List.setIfInBounds_toArray, List.set_cons_zero, List.set_cons_succ, wrap_in]; rfl))) | (refine take_ (i := 4) (N := some 80) (v := ?v_34) (a' := ?a_34) #[true, true, true, true, true, false, false, false, false, false, false] rfl rfl (by kernel_rfl) (fun _ _ _ h => h) (Or.inl ⟨by rfl, ?hy_34⟩) hHeld ?ha_34 ?hh_34; (case hy_34 => (rintro w' ⟨s0_, s1_, s2_, s3_, s4_, s5_, s6_, s7_, s8_, s9_, s10_, s11_⟩; go_simp; with_reducible rfl)); (case ha_34 => (simp (disch := omega) only [Act.put, List.setIfInBounds_toArray, List.set_cons_zero, List.set_cons_succ, wrap_in]; rfl)))
          first | (refine take_ (i := 7) (N := some 83) (v := undef) (a' := ?a_35) #[true, true, true, true, true, false, false, true, false, false, false] rfl rfl (by kernel_rfl) (fun _ _ _ h => h) (Or.inr ⟨by rfl, rfl⟩) hHeld ?ha_35 ?hh_35; (case ha_35 => (simp (disch := omega) only [Act.put, List.setIfInBounds_toArray, List.set_cons_zero, List.set_cons_succ, wrap_in]; rfl))) | (refine take_ (i := 7) (N := some 83) (v := ?v_35) (a' := ?a_35) #[true, true, true, true, true, false, false, true, false, false, false] rfl rfl (by kernel_rfl) (fun _ _ _ h => h) (Or.inl ⟨by rfl, ?hy_35⟩) hHeld ?ha_35 ?hh_35; (case hy_35 => (rintro w' ⟨s0_, s1_, s2_, s3_, s4_, s5_, s6_, s7_, s8_, s9_, s10_, s11_⟩; go_simp; with_reducible rfl)); (case ha_35 => (simp (disch := omega) only [Act.put, List.setIfInBounds_toArray, List.set_cons_zero, List.set_cons_succ, wrap_in]; rfl)))
          first | (refine take_ (i := 8) (N := some 84) (v := undef) (a' := ?a_36) #[true, true, true, true, true, false, false, true, true, false, false] rfl rfl (by kernel_rfl) (fun _ _ _ h => h) (Or.inr ⟨by rfl, rfl⟩) hHeld ?ha_36 ?hh_36; (case ha_36 => (simp (disch := omega) only [Act.put, List.setIfInBounds_toArray, List.set_cons_zero, List.set_cons_succ, wrap_in]; rfl))) | (refine take_ (i := 8) (N := some 84) (v := ?v_36) (a' := ?a_36) #[true, true, true, true, true, false, false, true, true, false, false] rfl rfl (by kernel_rfl) (fun _ _ _ h => h) (Or.inl ⟨by rfl, ?hy_36⟩) hHeld ?ha_36 ?hh_36; (case hy_36 => (rintro w' ⟨s0_, s1_, s2_, s3_, s4_, s5_, s6_, s7_, s8_, s9_, s10_, s11_⟩; go_simp; with_reducible rfl)); (case ha_36 => (simp (disch := omega) only [Act.put, List.setIfInBounds_toArray, List.set_cons_zero, List.set_cons_succ, wrap_in]; rfl)))
          refine one_ (i := 5) (N := some 81) #[true, true, true, true, true, true, false, true, true, false, false] rfl rfl (by kernel_rfl) (by decide) (fun K hK => ?_)
          (refine goes_ Try.func31 (by kernel_rfl) rfl ?args_38 (by rfl) rfl rfl ?hargs_38 ?hc_38; (case hargs_38 => (go_simp; with_reducible rfl)))
          (have FO := refForm16_any hs (by rw [← HR.out]; exact qec_byt HBY.out) HI3.out.key.slAt HI3.out.val.slAt HI3.out.copy.slAt; unfold recV recCells at FO; refine FO.mono ?_; rintro e w5 ⟨A, c, rfl, hg, hb5⟩; have HI5 := Lib.hid (HI3.out.below hb5); have HCV5 := Lib.hid (conv_any (c := cc) (HY.out.below (HZ.out.trans (HI5.out.bel.mono HZ.out.size)))); have cv5 := conv_any (c := c) hg.srcB; rw [HS1.out] at cv5; refine ⟨_, rfl, ?_⟩)
          (refine hK.out _ _ ?hs_40 ?hn_40; (case hs_40 => (exact ⟨cell_blk HI5.out.cells 0 rfl, cell_blk HI5.out.cells 1 rfl, cell_blk HI5.out.cells 2 rfl, cell_blk HI5.out.cells 3 rfl, cell_blk HI5.out.cells 4 rfl, cell_blk HI5.out.cells 5 rfl, cell_blk HI5.out.cells 6 rfl, cell_blk HI5.out.cells 7 rfl, cell_blk HI5.out.cells 8 rfl, cell_blk HI5.out.cells 9 rfl, cell_blk HI5.out.cells 10 rfl, by rw [← HS2.out]; exact HCV5.out⟩)); intro hHeld; clear hK K)
          (refine norm_ (a' := ?a_41) ?ha_41 ?hh_41; (case ha_41 => (simp (disch := omega) only [Act.put, List.setIfInBounds_toArray, List.set_cons_zero, List.set_cons_succ, wrap_in]; rfl)))
          refine one_ (i := 6) (N := some 82) #[true, true, true, true, true, true, true, true, true, false, false] rfl rfl (by kernel_rfl) (by decide) (fun K hK => ?_)
          first | (refine off_ (by rfl) ?hk_43) | (refine value_ (v := ?v_43) (w1 := ?w1_43) (by rfl) rfl ?hr_43 ?hk_43; (case hr_43 => (go_simp; first | with_reducible rfl | (constructor <;> with_reducible rfl))))
          (refine hK.out _ _ hHeld ?hn_44; intro _; clear hK K)
          (refine norm_ (a' := ?a_45) ?ha_45 ?hh_45; (case ha_45 => (simp (disch := omega) only [Act.put, List.setIfInBounds_toArray, List.set_cons_zero, List.set_cons_succ, wrap_in]; rfl)))
          first | (refine take_ (i := 9) (N := some 85) (v := undef) (a' := ?a_46) #[true, true, true, true, true, true, true, true, true, true, false] rfl rfl (by kernel_rfl) (fun _ _ _ h => h) (Or.inr ⟨by rfl, rfl⟩) hHeld ?ha_46 ?hh_46; (case ha_46 => (simp (disch := omega) only [Act.put, List.setIfInBounds_toArray, List.set_cons_zero, List.set_cons_succ, wrap_in]; rfl))) | (refine take_ (i := 9) (N := some 85) (v := ?v_46) (a' := ?a_46) #[true, true, true, true, true, true, true, true, true, true, false] rfl rfl (by kernel_rfl) (fun _ _ _ h => h) (Or.inl ⟨by rfl, ?hy_46⟩) hHeld ?ha_46 ?hh_46; (case hy_46 => (rintro w' ⟨s0_, s1_, s2_, s3_, s4_, s5_, s6_, s7_, s8_, s9_, s10_, s11_⟩; go_simp; with_reducible rfl)); (case ha_46 => (simp (disch := omega) only [Act.put, List.setIfInBounds_toArray, List.set_cons_zero, List.set_cons_succ, wrap_in]; rfl)))
          (refine take_ (i := 10) (N := some 86) (v := ?v_47) (a' := ?a_47) #[true, true, true, true, true, true, true, true, true, true, true] rfl rfl (by kernel_rfl) (fun _ _ _ h => h) (Or.inl ⟨by rfl, ?hy_47⟩) hHeld ?ha_47 ?hh_47; (case hy_47 => (rintro w' ⟨s0_, s1_, s2_, s3_, s4_, s5_, s6_, s7_, s8_, s9_, s10_, s11_⟩; go_simp; with_reducible rfl)); (case ha_47 => (simp (disch := omega) only [Act.put, List.setIfInBounds_toArray, List.set_cons_zero, List.set_cons_succ, wrap_in]; rfl)))
          refine done_ (by kernel_rfl) ?_
          have HT5 := Lib.hid (HZT.out _ HI5.out.bel)
          clear hHeld cv5
          have t0 : w5.cell? ⟨w.heap.size, 0, none⟩ = some (.int .i64 0) := cell_blk HT5.out 0 rfl
          have t1 : w5.cell? ⟨w.heap.size, 1, none⟩ = some (.int .i64 0) := cell_blk HT5.out 1 rfl
          have t2 : w5.cell? ⟨w.heap.size, 2, none⟩ = some (.int .i64 0) := cell_blk HT5.out 2 rfl
          have t3 : w5.cell? ⟨w.heap.size, 3, none⟩ = some (.int .i64 0) := cell_blk HT5.out 3 rfl
          have t4 : w5.cell? ⟨w.heap.size, 4, none⟩ = some (.int .i64 0) := cell_blk HT5.out 4 rfl
          have t5 : w5.cell? ⟨w.heap.size, 5, none⟩ = some (.int .i64 0) := cell_blk HT5.out 5 rfl
          have t6 : w5.cell? ⟨w.heap.size, 6, none⟩ = some (.int .i64 0) := cell_blk HT5.out 6 rfl
          have t7 : w5.cell? ⟨w.heap.size, 7, none⟩ = some (.slice none 0 0) := cell_blk HT5.out 7 rfl
          have t8 : w5.cell? ⟨w.heap.size, 8, none⟩ = some (.slice none 0 0) := cell_blk HT5.out 8 rfl
          have t9 : w5.cell? ⟨w.heap.size, 9, none⟩ = some (.int .i64 0) := cell_blk HT5.out 9 rfl
          have t10 : w5.cell? ⟨w.heap.size, 10, none⟩ = some (.slice none 0 0) := cell_blk HT5.out 10 rfl
          have f0 := free_blk HT5.out 0
          have f1 := free_blk HT5.out 1
          have f2 := free_blk HT5.out 2
          have f3 := free_blk HT5.out 3
          have f4 := free_blk HT5.out 4
          have f5 := free_blk HT5.out 5
          have f6 := free_blk HT5.out 6
          have f7 := free_blk HT5.out 7
          have f8 := free_blk HT5.out 8
          have f9 := free_blk HT5.out 9
          have f10 := free_blk HT5.out 10
          go_wp2_with (fail)
          refine bodyPost_ret (v := .tuple #[.agg #[.int .i64 0, .int .i64 0, .int .i64 0, .int .i64 0, .int .i64 0, .int .i64 0, .int .i64 0, .slice none 0 0, .slice none 0 0, .int .i64 0, .slice none 0 0], .int .i64 160]) ?_ rfl ?_
          · simp [results, Try.results11, go_sem, *]
          · exact QDecP.bad (HZ.out.trans (HI5.out.bel.mono HZ.out.size)) (by rw [decode_ref HBY.out, HR.out, if_neg (fun h => HE.out h.2)]) _ _ _ _ _ _ _ _ _ _ _
      · rw [decide_eq_false hs] at SO
        refine start_ (n := 11) (S := fun w' => w'.cell? ⟨kr, 0, none⟩ = some (.int .i64 r.kind) ∧ w'.cell? ⟨kr, 1, none⟩ = some (.int .i64 r.shard) ∧ w'.cell? ⟨kr, 2, none⟩ = some (.int .i64 r.epoch) ∧ w'.cell? ⟨kr, 3, none⟩ = some (.int .i64 r.peer) ∧ w'.cell? ⟨kr, 4, none⟩ = some (.int .i64 r.client) ∧ w'.cell? ⟨kr, 5, none⟩ = some (.int .i64 r.seq) ∧ w'.cell? ⟨kr, 6, none⟩ = some (.int .i64 r.op.kind) ∧ w'.cell? ⟨kr, 7, none⟩ = some (.slice K.1 K.2.1 K.2.2) ∧ w'.cell? ⟨kr, 8, none⟩ = some (.slice V.1 V.2.1 V.2.2) ∧ w'.cell? ⟨kr, 9, none⟩ = some (.int .i64 r.op.rev) ∧ w'.cell? ⟨kr, 10, none⟩ = some (.slice C.1 C.2.1 C.2.2) ∧ (convert 22 9 (.slice B p.length cc)).run Try.prog w' = .ok (.string s2) w') (ds := []) #[false, false, false, false, false, false, false, false, false, false, false] (by kernel_rfl) rfl rfl ⟨cell_blk HI.out.cells 0 rfl, cell_blk HI.out.cells 1 rfl, cell_blk HI.out.cells 2 rfl, cell_blk HI.out.cells 3 rfl, cell_blk HI.out.cells 4 rfl, cell_blk HI.out.cells 5 rfl, cell_blk HI.out.cells 6 rfl, cell_blk HI.out.cells 7 rfl, cell_blk HI.out.cells 8 rfl, cell_blk HI.out.cells 9 rfl, cell_blk HI.out.cells 10 rfl, (by rw [← HS2.out]; exact HCV.out)⟩ (fun hHeld => ?_)
        (refine take_ (i := 0) (N := some 76) (v := ?v_50) (a' := ?a_50) #[true, false, false, false, false, false, false, false, false, false, false] rfl rfl (by kernel_rfl) (fun _ _ _ h => h) (Or.inl ⟨by rfl, ?hy_50⟩) hHeld ?ha_50 ?hh_50; (case hy_50 => (rintro w' ⟨s0_, s1_, s2_, s3_, s4_, s5_, s6_, s7_, s8_, s9_, s10_, s11_⟩; go_simp; with_reducible rfl)); (case ha_50 => (simp (disch := omega) only [Act.put, List.setIfInBounds_toArray, List.set_cons_zero, List.set_cons_succ, wrap_in]; rfl)))
        refine one_ (i := 1) (N := some 77) #[true, true, false, false, false, false, false, false, false, false, false] rfl rfl (by kernel_rfl) (by decide) (fun K hK => ?_)
        (refine goes_ Try.func17 (by kernel_rfl) rfl ?args_52 (by rfl) rfl rfl ?hargs_52 ?hc_52; (case hargs_52 => (go_simp; with_reducible rfl)))
        (refine (SO.out _).mono ?_; rintro e w3 ⟨rfl, hb3⟩; have HI3 := Lib.hid (HD.out.below hb3); have HCV3 := Lib.hid (conv_any (c := cc) (HY.out.below (HBW.out.drew.trans (hb3.mono HBW.out.size)))); refine ⟨_, rfl, ?_⟩)
        (refine hK.out _ _ ?hs_54 ?hn_54; (case hs_54 => (exact ⟨cell_blk HI3.out.cells 0 rfl, cell_blk HI3.out.cells 1 rfl, cell_blk HI3.out.cells 2 rfl, cell_blk HI3.out.cells 3 rfl, cell_blk HI3.out.cells 4 rfl, cell_blk HI3.out.cells 5 rfl, cell_blk HI3.out.cells 6 rfl, cell_blk HI3.out.cells 7 rfl, cell_blk HI3.out.cells 8 rfl, cell_blk HI3.out.cells 9 rfl, cell_blk HI3.out.cells 10 rfl, by rw [← HS2.out]; exact HCV3.out⟩)); intro hHeld; clear hK K)
        (refine norm_ (a' := ?a_55) ?ha_55 ?hh_55; (case ha_55 => (simp (disch := omega) only [Act.put, List.setIfInBounds_toArray, List.set_cons_zero, List.set_cons_succ, wrap_in]; rfl)))
        (refine take_ (i := 2) (N := some 78) (v := ?v_56) (a' := ?a_56) #[true, true, true, false, false, false, false, false, false, false, false] rfl rfl (by kernel_rfl) (fun _ _ _ h => h) (Or.inl ⟨by rfl, ?hy_56⟩) hHeld ?ha_56 ?hh_56; (case hy_56 => (rintro w' ⟨s0_, s1_, s2_, s3_, s4_, s5_, s6_, s7_, s8_, s9_, s10_, s11_⟩; go_simp; with_reducible rfl)); (case ha_56 => (simp (disch := omega) only [Act.put, List.setIfInBounds_toArray, List.set_cons_zero, List.set_cons_succ, wrap_in]; rfl)))
        (refine take_ (i := 3) (N := some 79) (v := ?v_57) (a' := ?a_57) #[true, true, true, true, false, false, false, false, false, false, false] rfl rfl (by kernel_rfl) (fun _ _ _ h => h) (Or.inl ⟨by rfl, ?hy_57⟩) hHeld ?ha_57 ?hh_57; (case hy_57 => (rintro w' ⟨s0_, s1_, s2_, s3_, s4_, s5_, s6_, s7_, s8_, s9_, s10_, s11_⟩; go_simp; with_reducible rfl)); (case ha_57 => (simp (disch := omega) only [Act.put, List.setIfInBounds_toArray, List.set_cons_zero, List.set_cons_succ, wrap_in]; rfl)))
        first | (refine take_ (i := 4) (N := some 80) (v := undef) (a' := ?a_58) #[true, true, true, true, true, false, false, false, false, false, false] rfl rfl (by kernel_rfl) (fun _ _ _ h => h) (Or.inr ⟨by rfl, rfl⟩) hHeld ?ha_58 ?hh_58; (case ha_58 => (simp (disch := omega) only [Act.put, List.setIfInBounds_toArray, List.set_cons_zero, List.set_cons_succ, wrap_in]; rfl))) | (refine take_ (i := 4) (N := some 80) (v := ?v_58) (a' := ?a_58) #[true, true, true, true, true, false, false, false, false, false, false] rfl rfl (by kernel_rfl) (fun _ _ _ h => h) (Or.inl ⟨by rfl, ?hy_58⟩) hHeld ?ha_58 ?hh_58; (case hy_58 => (rintro w' ⟨s0_, s1_, s2_, s3_, s4_, s5_, s6_, s7_, s8_, s9_, s10_, s11_⟩; go_simp; with_reducible rfl)); (case ha_58 => (simp (disch := omega) only [Act.put, List.setIfInBounds_toArray, List.set_cons_zero, List.set_cons_succ, wrap_in]; rfl)))
        first | (refine take_ (i := 7) (N := some 83) (v := undef) (a' := ?a_59) #[true, true, true, true, true, false, false, true, false, false, false] rfl rfl (by kernel_rfl) (fun _ _ _ h => h) (Or.inr ⟨by rfl, rfl⟩) hHeld ?ha_59 ?hh_59; (case ha_59 => (simp (disch := omega) only [Act.put, List.setIfInBounds_toArray, List.set_cons_zero, List.set_cons_succ, wrap_in]; rfl))) | (refine take_ (i := 7) (N := some 83) (v := ?v_59) (a' := ?a_59) #[true, true, true, true, true, false, false, true, false, false, false] rfl rfl (by kernel_rfl) (fun _ _ _ h => h) (Or.inl ⟨by rfl, ?hy_59⟩) hHeld ?ha_59 ?hh_59; (case hy_59 => (rintro w' ⟨s0_, s1_, s2_, s3_, s4_, s5_, s6_, s7_, s8_, s9_, s10_, s11_⟩; go_simp; with_reducible rfl)); (case ha_59 => (simp (disch := omega) only [Act.put, List.setIfInBounds_toArray, List.set_cons_zero, List.set_cons_succ, wrap_in]; rfl)))
        first | (refine take_ (i := 8) (N := some 84) (v := undef) (a' := ?a_60) #[true, true, true, true, true, false, false, true, true, false, false] rfl rfl (by kernel_rfl) (fun _ _ _ h => h) (Or.inr ⟨by rfl, rfl⟩) hHeld ?ha_60 ?hh_60; (case ha_60 => (simp (disch := omega) only [Act.put, List.setIfInBounds_toArray, List.set_cons_zero, List.set_cons_succ, wrap_in]; rfl))) | (refine take_ (i := 8) (N := some 84) (v := ?v_60) (a' := ?a_60) #[true, true, true, true, true, false, false, true, true, false, false] rfl rfl (by kernel_rfl) (fun _ _ _ h => h) (Or.inl ⟨by rfl, ?hy_60⟩) hHeld ?ha_60 ?hh_60; (case hy_60 => (rintro w' ⟨s0_, s1_, s2_, s3_, s4_, s5_, s6_, s7_, s8_, s9_, s10_, s11_⟩; go_simp; with_reducible rfl)); (case ha_60 => (simp (disch := omega) only [Act.put, List.setIfInBounds_toArray, List.set_cons_zero, List.set_cons_succ, wrap_in]; rfl)))
        (refine take_ (i := 5) (N := some 81) (v := undef) (a' := ?a_61) #[true, true, true, true, true, true, false, true, true, false, false] rfl rfl (by kernel_rfl) (fun _ _ _ h => h) (Or.inr ⟨by rfl, rfl⟩) hHeld ?ha_61 ?hh_61; (case ha_61 => (simp (disch := omega) only [Act.put, List.setIfInBounds_toArray, List.set_cons_zero, List.set_cons_succ, wrap_in]; rfl)))
        refine one_ (i := 6) (N := some 82) #[true, true, true, true, true, true, true, true, true, false, false] rfl rfl (by kernel_rfl) (by decide) (fun K hK => ?_)
        first | (refine off_ (by rfl) ?hk_63) | (refine value_ (v := ?v_63) (w1 := ?w1_63) (by rfl) rfl ?hr_63 ?hk_63; (case hr_63 => (go_simp; first | with_reducible rfl | (constructor <;> with_reducible rfl))))
        (refine hK.out _ _ hHeld ?hn_64; intro _; clear hK K)
        (refine norm_ (a' := ?a_65) ?ha_65 ?hh_65; (case ha_65 => (simp (disch := omega) only [Act.put, List.setIfInBounds_toArray, List.set_cons_zero, List.set_cons_succ, wrap_in]; rfl)))
        first | (refine take_ (i := 9) (N := some 85) (v := undef) (a' := ?a_66) #[true, true, true, true, true, true, true, true, true, true, false] rfl rfl (by kernel_rfl) (fun _ _ _ h => h) (Or.inr ⟨by rfl, rfl⟩) hHeld ?ha_66 ?hh_66; (case ha_66 => (simp (disch := omega) only [Act.put, List.setIfInBounds_toArray, List.set_cons_zero, List.set_cons_succ, wrap_in]; rfl))) | (refine take_ (i := 9) (N := some 85) (v := ?v_66) (a' := ?a_66) #[true, true, true, true, true, true, true, true, true, true, false] rfl rfl (by kernel_rfl) (fun _ _ _ h => h) (Or.inl ⟨by rfl, ?hy_66⟩) hHeld ?ha_66 ?hh_66; (case hy_66 => (rintro w' ⟨s0_, s1_, s2_, s3_, s4_, s5_, s6_, s7_, s8_, s9_, s10_, s11_⟩; go_simp; with_reducible rfl)); (case ha_66 => (simp (disch := omega) only [Act.put, List.setIfInBounds_toArray, List.set_cons_zero, List.set_cons_succ, wrap_in]; rfl)))
        (refine take_ (i := 10) (N := some 86) (v := ?v_67) (a' := ?a_67) #[true, true, true, true, true, true, true, true, true, true, true] rfl rfl (by kernel_rfl) (fun _ _ _ h => h) (Or.inl ⟨by rfl, ?hy_67⟩) hHeld ?ha_67 ?hh_67; (case hy_67 => (rintro w' ⟨s0_, s1_, s2_, s3_, s4_, s5_, s6_, s7_, s8_, s9_, s10_, s11_⟩; go_simp; with_reducible rfl)); (case ha_67 => (simp (disch := omega) only [Act.put, List.setIfInBounds_toArray, List.set_cons_zero, List.set_cons_succ, wrap_in]; rfl)))
        refine done_ (by kernel_rfl) ?_
        have HT3 := Lib.hid (HZT.out _ HI3.out.bel)
        clear hHeld
        have t0 : w3.cell? ⟨w.heap.size, 0, none⟩ = some (.int .i64 0) := cell_blk HT3.out 0 rfl
        have t1 : w3.cell? ⟨w.heap.size, 1, none⟩ = some (.int .i64 0) := cell_blk HT3.out 1 rfl
        have t2 : w3.cell? ⟨w.heap.size, 2, none⟩ = some (.int .i64 0) := cell_blk HT3.out 2 rfl
        have t3 : w3.cell? ⟨w.heap.size, 3, none⟩ = some (.int .i64 0) := cell_blk HT3.out 3 rfl
        have t4 : w3.cell? ⟨w.heap.size, 4, none⟩ = some (.int .i64 0) := cell_blk HT3.out 4 rfl
        have t5 : w3.cell? ⟨w.heap.size, 5, none⟩ = some (.int .i64 0) := cell_blk HT3.out 5 rfl
        have t6 : w3.cell? ⟨w.heap.size, 6, none⟩ = some (.int .i64 0) := cell_blk HT3.out 6 rfl
        have t7 : w3.cell? ⟨w.heap.size, 7, none⟩ = some (.slice none 0 0) := cell_blk HT3.out 7 rfl
        have t8 : w3.cell? ⟨w.heap.size, 8, none⟩ = some (.slice none 0 0) := cell_blk HT3.out 8 rfl
        have t9 : w3.cell? ⟨w.heap.size, 9, none⟩ = some (.int .i64 0) := cell_blk HT3.out 9 rfl
        have t10 : w3.cell? ⟨w.heap.size, 10, none⟩ = some (.slice none 0 0) := cell_blk HT3.out 10 rfl
        have f0 := free_blk HT3.out 0
        have f1 := free_blk HT3.out 1
        have f2 := free_blk HT3.out 2
        have f3 := free_blk HT3.out 3
        have f4 := free_blk HT3.out 4
        have f5 := free_blk HT3.out 5
        have f6 := free_blk HT3.out 6
        have f7 := free_blk HT3.out 7
        have f8 := free_blk HT3.out 8
        have f9 := free_blk HT3.out 9
        have f10 := free_blk HT3.out 10
        go_wp2_with (fail)
        refine bodyPost_ret (v := .tuple #[.agg #[.int .i64 0, .int .i64 0, .int .i64 0, .int .i64 0, .int .i64 0, .int .i64 0, .int .i64 0, .slice none 0 0, .slice none 0 0, .int .i64 0, .slice none 0 0], .int .i64 160]) ?_ rfl ?_
        · simp [results, Try.results11, go_sem, *]
        · exact QDecP.bad (HZ.out.trans (HI3.out.bel.mono HZ.out.size)) (by rw [decode_ref HBY.out, HR.out, if_neg (fun h => hs h.1)]) _ _ _ _ _ _ _ _ _ _ _
    · by_cases o4 : q5.1 = 4
      · rw [o4] at e6
        obtain ⟨q7, hq7⟩ : ∃ q, q6.2.text 263144 = q := ⟨_, rfl⟩
        have CA := Lib.hid (HI.out.text hq7)
        have Hq7 := Lib.hid hq7
        clear hq7
        go_wp2_with (fail)
        refine CA.out.mono ?_
        rintro e wa15 ⟨A15, c15, rfl, T15, I15⟩
        have ff15 := I15.free 8
        have cc15 := cell_blk I15.cells 8 rfl
        have HJ := Lib.hid (show QecI wA w1.heap.size k kr ⟨q1.1, i64N q2.1, 0, 0, i64N q3.1, i64N q4.1, ⟨q5.1, q6.1, q7.1, 0⟩, []⟩ (A13, q6.1.length, c13) (A15, q7.1.length, c15) (none, 0, 0) (wa15.setCell ⟨kr, 8, none⟩ (.slice A15 q7.1.length c15)) q7.2 from I15.set 8 (.slice A15 q7.1.length c15) rfl I15.key T15 I15.copy)
        clear HI I15 CA T15
        have HI := HJ
        clear HJ
        go_upto_region 11 with (fail)
        generalize wa15.setCell ⟨kr, 8, none⟩ _ = wb15 at *
        clear cc15 ff15
        clear e6
        have e6 : wb15.cell? ⟨kr, 6, none⟩ = some (.int .i64 4) := by rw [← o4]; exact cell_blk HI.out.cells 6 rfl
        obtain ⟨q8, hq8⟩ : ∃ q, q7.2.num = q := ⟨_, rfl⟩
        have CA := Lib.hid (HI.out.num hq8)
        have Hq8 := Lib.hid hq8
        clear hq8
        go_wp2_with (fail)
        refine CA.out.mono ?_
        rintro e wa16 ⟨rfl, I16⟩
        have hw16 : IntKind.i64.wrap (q8.1 : Int) = i64N q8.1 := wrap_i64N (by rw [← Hq8.out]; exact num_lt _ HI.out.byt)
        have ff16 := I16.free 9
        have cc16 := cell_blk I16.cells 9 rfl
        have HJ := Lib.hid (show QecI wA w1.heap.size k kr ⟨q1.1, i64N q2.1, 0, 0, i64N q3.1, i64N q4.1, ⟨q5.1, q6.1, q7.1, i64N q8.1⟩, []⟩ (A13, q6.1.length, c13) (A15, q7.1.length, c15) (none, 0, 0) (wa16.setCell ⟨kr, 9, none⟩ (.int .i64 (i64N q8.1))) q8.2 from I16.set 9 (.int .i64 (i64N q8.1)) rfl I16.key I16.val I16.copy)
        clear HI I16 CA
        have HI := HJ
        clear HJ
        go_wp2_with (fail)
        generalize wa16.setCell ⟨kr, 9, none⟩ _ = wb16 at *
        clear cc16 ff16 hw16
        clear e6
        obtain ⟨r, hr⟩ : ∃ r : RZ, r = ⟨q1.1, i64N q2.1, 0, 0, i64N q3.1, i64N q4.1, ⟨q5.1, q6.1, q7.1, i64N q8.1⟩, []⟩ := ⟨_, rfl⟩
        have HR := Lib.hid (show (qecR p).1 = r by rw [hr, HPQ.out]; unfold qecF; rw [if_pos k1]; simp only [Hq3.out, Hq4.out]; unfold qecO; simp only [Hq5.out, Hq6.out]; rw [if_pos (Or.inr o4), if_pos o4, Hq7.out, Hq8.out])
        obtain ⟨K, hK⟩ : ∃ K : SlB, K = (A13, q6.1.length, c13) := ⟨_, rfl⟩
        obtain ⟨V, hV⟩ : ∃ K : SlB, K = (A15, q7.1.length, c15) := ⟨_, rfl⟩
        obtain ⟨C, hC⟩ : ∃ K : SlB, K = (none, 0, 0) := ⟨_, rfl⟩
        have HJ := Lib.hid (show QecI wA w1.heap.size k kr r K V C wb16 q8.2 by rw [hr, hK, hV, hC]; exact HI.out)
        clear HI hr hK hV hC
        have HI := HJ
        clear HJ
        have HBW := Lib.hid (show Below w.heap.size w wb16 from HZ.out.trans (HI.out.bel.mono HZ.out.size))
        have HCV := Lib.hid (show (convert 22 9 (.slice B p.length cc)).run Try.prog (wb16).drew = .ok (.string (strOfNums p)) (wb16).drew from conv_any (HY.out.below HBW.out.drew))
        have SO := Lib.hid (fun W => refSound_any (r := r) K V C HI.out.key.1 HI.out.val.1 HI.out.copy.1 W)
        unfold recV recCells at SO
        have HD := Lib.hid (HI.out.below (Below.refl _ _).drew)
        obtain ⟨s2, hs2⟩ : ∃ s2, strOfNums p = s2 := ⟨_, rfl⟩
        have HS2 := Lib.hid hs2
        clear hs2
        have HZT := Lib.hid (show ∀ W', Below wA.heap.size wA W' → W'.heap[w.heap.size]? = some (.cells (recCells RZ.none zSl zSl zSl) TRec (0, 0)) from fun W' hB => (hB.block _ (by rw [HZS.out]; omega)).trans HZB.out)
        by_cases hs : SoundR r
        · rw [decide_eq_true hs] at SO
          obtain ⟨s1, hs1⟩ : ∃ s1, strOfNums (formR r) = s1 := ⟨_, rfl⟩
          have HS1 := Lib.hid hs1
          clear hs1
          by_cases he : formR r = p
          · have hss : s2 = s1 := by rw [← HS1.out, ← HS2.out, he]
            subst hss
            have HE := Lib.hid he
            clear he
            refine start_ (n := 11) (S := fun w' => w'.cell? ⟨kr, 0, none⟩ = some (.int .i64 r.kind) ∧ w'.cell? ⟨kr, 1, none⟩ = some (.int .i64 r.shard) ∧ w'.cell? ⟨kr, 2, none⟩ = some (.int .i64 r.epoch) ∧ w'.cell? ⟨kr, 3, none⟩ = some (.int .i64 r.peer) ∧ w'.cell? ⟨kr, 4, none⟩ = some (.int .i64 r.client) ∧ w'.cell? ⟨kr, 5, none⟩ = some (.int .i64 r.seq) ∧ w'.cell? ⟨kr, 6, none⟩ = some (.int .i64 r.op.kind) ∧ w'.cell? ⟨kr, 7, none⟩ = some (.slice K.1 K.2.1 K.2.2) ∧ w'.cell? ⟨kr, 8, none⟩ = some (.slice V.1 V.2.1 V.2.2) ∧ w'.cell? ⟨kr, 9, none⟩ = some (.int .i64 r.op.rev) ∧ w'.cell? ⟨kr, 10, none⟩ = some (.slice C.1 C.2.1 C.2.2) ∧ (convert 22 9 (.slice B p.length cc)).run Try.prog w' = .ok (.string s2) w') (ds := []) #[false, false, false, false, false, false, false, false, false, false, false] (by kernel_rfl) rfl rfl ⟨cell_blk HI.out.cells 0 rfl, cell_blk HI.out.cells 1 rfl, cell_blk HI.out.cells 2 rfl, cell_blk HI.out.cells 3 rfl, cell_blk HI.out.cells 4 rfl, cell_blk HI.out.cells 5 rfl, cell_blk HI.out.cells 6 rfl, cell_blk HI.out.cells 7 rfl, cell_blk HI.out.cells 8 rfl, cell_blk HI.out.cells 9 rfl, cell_blk HI.out.cells 10 rfl, (by rw [← HS2.out]; exact HCV.out)⟩ (fun hHeld => ?_)
            (refine take_ (i := 0) (N := some 76) (v := ?v_70) (a' := ?a_70) #[true, false, false, false, false, false, false, false, false, false, false] rfl rfl (by kernel_rfl) (fun _ _ _ h => h) (Or.inl ⟨by rfl, ?hy_70⟩) hHeld ?ha_70 ?hh_70; (case hy_70 => (rintro w' ⟨s0_, s1_, s2_, s3_, s4_, s5_, s6_, s7_, s8_, s9_, s10_, s11_⟩; go_simp; with_reducible rfl)); (case ha_70 => (simp (disch := omega) only [Act.put, List.setIfInBounds_toArray, List.set_cons_zero, List.set_cons_succ, wrap_in]; rfl)))
            refine one_ (i := 1) (N := some 77) #[true, true, false, false, false, false, false, false, false, false, false] rfl rfl (by kernel_rfl) (by decide) (fun K hK => ?_)
            (refine goes_ Try.func17 (by kernel_rfl) rfl ?args_72 (by rfl) rfl rfl ?hargs_72 ?hc_72; (case hargs_72 => (go_simp; with_reducible rfl)))
            (refine (SO.out _).mono ?_; rintro e w3 ⟨rfl, hb3⟩; have HI3 := Lib.hid (HD.out.below hb3); have HCV3 := Lib.hid (conv_any (c := cc) (HY.out.below (HBW.out.drew.trans (hb3.mono HBW.out.size)))); refine ⟨_, rfl, ?_⟩)
            (refine hK.out _ _ ?hs_74 ?hn_74; (case hs_74 => (exact ⟨cell_blk HI3.out.cells 0 rfl, cell_blk HI3.out.cells 1 rfl, cell_blk HI3.out.cells 2 rfl, cell_blk HI3.out.cells 3 rfl, cell_blk HI3.out.cells 4 rfl, cell_blk HI3.out.cells 5 rfl, cell_blk HI3.out.cells 6 rfl, cell_blk HI3.out.cells 7 rfl, cell_blk HI3.out.cells 8 rfl, cell_blk HI3.out.cells 9 rfl, cell_blk HI3.out.cells 10 rfl, by rw [← HS2.out]; exact HCV3.out⟩)); intro hHeld; clear hK K)
            (refine norm_ (a' := ?a_75) ?ha_75 ?hh_75; (case ha_75 => (simp (disch := omega) only [Act.put, List.setIfInBounds_toArray, List.set_cons_zero, List.set_cons_succ, wrap_in]; rfl)))
            (refine take_ (i := 2) (N := some 78) (v := ?v_76) (a' := ?a_76) #[true, true, true, false, false, false, false, false, false, false, false] rfl rfl (by kernel_rfl) (fun _ _ _ h => h) (Or.inl ⟨by rfl, ?hy_76⟩) hHeld ?ha_76 ?hh_76; (case hy_76 => (rintro w' ⟨s0_, s1_, s2_, s3_, s4_, s5_, s6_, s7_, s8_, s9_, s10_, s11_⟩; go_simp; with_reducible rfl)); (case ha_76 => (simp (disch := omega) only [Act.put, List.setIfInBounds_toArray, List.set_cons_zero, List.set_cons_succ, wrap_in]; rfl)))
            (refine take_ (i := 3) (N := some 79) (v := ?v_77) (a' := ?a_77) #[true, true, true, true, false, false, false, false, false, false, false] rfl rfl (by kernel_rfl) (fun _ _ _ h => h) (Or.inl ⟨by rfl, ?hy_77⟩) hHeld ?ha_77 ?hh_77; (case hy_77 => (rintro w' ⟨s0_, s1_, s2_, s3_, s4_, s5_, s6_, s7_, s8_, s9_, s10_, s11_⟩; go_simp; with_reducible rfl)); (case ha_77 => (simp (disch := omega) only [Act.put, List.setIfInBounds_toArray, List.set_cons_zero, List.set_cons_succ, wrap_in]; rfl)))
            first | (refine take_ (i := 4) (N := some 80) (v := undef) (a' := ?a_78) #[true, true, true, true, true, false, false, false, false, false, false] rfl rfl (by kernel_rfl) (fun _ _ _ h => h) (Or.inr ⟨by rfl, rfl⟩) hHeld ?ha_78 ?hh_78; (case ha_78 => (simp (disch := omega) only [Act.put, List.setIfInBounds_toArray, List.set_cons_zero, List.set_cons_succ, wrap_in]; rfl))) | (refine take_ (i := 4) (N := some 80) (v := ?v_78) (a' := ?a_78) #[true, true, true, true, true, false, false, false, false, false, false] rfl rfl (by kernel_rfl) (fun _ _ _ h => h) (Or.inl ⟨by rfl, ?hy_78⟩) hHeld ?ha_78 ?hh_78; (case hy_78 => (rintro w' ⟨s0_, s1_, s2_, s3_, s4_, s5_, s6_, s7_, s8_, s9_, s10_, s11_⟩; go_simp; with_reducible rfl)); (case ha_78 => (simp (disch := omega) only [Act.put, List.setIfInBounds_toArray, List.set_cons_zero, List.set_cons_succ, wrap_in]; rfl)))
            first | (refine take_ (i := 7) (N := some 83) (v := undef) (a' := ?a_79) #[true, true, true, true, true, false, false, true, false, false, false] rfl rfl (by kernel_rfl) (fun _ _ _ h => h) (Or.inr ⟨by rfl, rfl⟩) hHeld ?ha_79 ?hh_79; (case ha_79 => (simp (disch := omega) only [Act.put, List.setIfInBounds_toArray, List.set_cons_zero, List.set_cons_succ, wrap_in]; rfl))) | (refine take_ (i := 7) (N := some 83) (v := ?v_79) (a' := ?a_79) #[true, true, true, true, true, false, false, true, false, false, false] rfl rfl (by kernel_rfl) (fun _ _ _ h => h) (Or.inl ⟨by rfl, ?hy_79⟩) hHeld ?ha_79 ?hh_79; (case hy_79 => (rintro w' ⟨s0_, s1_, s2_, s3_, s4_, s5_, s6_, s7_, s8_, s9_, s10_, s11_⟩; go_simp; with_reducible rfl)); (case ha_79 => (simp (disch := omega) only [Act.put, List.setIfInBounds_toArray, List.set_cons_zero, List.set_cons_succ, wrap_in]; rfl)))
            first | (refine take_ (i := 8) (N := some 84) (v := undef) (a' := ?a_80) #[true, true, true, true, true, false, false, true, true, false, false] rfl rfl (by kernel_rfl) (fun _ _ _ h => h) (Or.inr ⟨by rfl, rfl⟩) hHeld ?ha_80 ?hh_80; (case ha_80 => (simp (disch := omega) only [Act.put, List.setIfInBounds_toArray, List.set_cons_zero, List.set_cons_succ, wrap_in]; rfl))) | (refine take_ (i := 8) (N := some 84) (v := ?v_80) (a' := ?a_80) #[true, true, true, true, true, false, false, true, true, false, false] rfl rfl (by kernel_rfl) (fun _ _ _ h => h) (Or.inl ⟨by rfl, ?hy_80⟩) hHeld ?ha_80 ?hh_80; (case hy_80 => (rintro w' ⟨s0_, s1_, s2_, s3_, s4_, s5_, s6_, s7_, s8_, s9_, s10_, s11_⟩; go_simp; with_reducible rfl)); (case ha_80 => (simp (disch := omega) only [Act.put, List.setIfInBounds_toArray, List.set_cons_zero, List.set_cons_succ, wrap_in]; rfl)))
            refine one_ (i := 5) (N := some 81) #[true, true, true, true, true, true, false, true, true, false, false] rfl rfl (by kernel_rfl) (by decide) (fun K hK => ?_)
            (refine goes_ Try.func31 (by kernel_rfl) rfl ?args_82 (by rfl) rfl rfl ?hargs_82 ?hc_82; (case hargs_82 => (go_simp; with_reducible rfl)))
            (have FO := refForm16_any hs (by rw [← HR.out]; exact qec_byt HBY.out) HI3.out.key.slAt HI3.out.val.slAt HI3.out.copy.slAt; unfold recV recCells at FO; refine FO.mono ?_; rintro e w5 ⟨A, c, rfl, hg, hb5⟩; have HI5 := Lib.hid (HI3.out.below hb5); have HCV5 := Lib.hid (conv_any (c := cc) (HY.out.below (HZ.out.trans (HI5.out.bel.mono HZ.out.size)))); have cv5 := conv_any (c := c) hg.srcB; rw [HS1.out] at cv5; refine ⟨_, rfl, ?_⟩)
            (refine hK.out _ _ ?hs_84 ?hn_84; (case hs_84 => (exact ⟨cell_blk HI5.out.cells 0 rfl, cell_blk HI5.out.cells 1 rfl, cell_blk HI5.out.cells 2 rfl, cell_blk HI5.out.cells 3 rfl, cell_blk HI5.out.cells 4 rfl, cell_blk HI5.out.cells 5 rfl, cell_blk HI5.out.cells 6 rfl, cell_blk HI5.out.cells 7 rfl, cell_blk HI5.out.cells 8 rfl, cell_blk HI5.out.cells 9 rfl, cell_blk HI5.out.cells 10 rfl, by rw [← HS2.out]; exact HCV5.out⟩)); intro hHeld; clear hK K)
            (refine norm_ (a' := ?a_85) ?ha_85 ?hh_85; (case ha_85 => (simp (disch := omega) only [Act.put, List.setIfInBounds_toArray, List.set_cons_zero, List.set_cons_succ, wrap_in]; rfl)))
            refine one_ (i := 6) (N := some 82) #[true, true, true, true, true, true, true, true, true, false, false] rfl rfl (by kernel_rfl) (by decide) (fun K hK => ?_)
            first | (refine off_ (by rfl) ?hk_87) | (refine value_ (v := ?v_87) (w1 := ?w1_87) (by rfl) rfl ?hr_87 ?hk_87; (case hr_87 => (go_simp; first | with_reducible rfl | (constructor <;> with_reducible rfl))))
            (refine hK.out _ _ hHeld ?hn_88; intro _; clear hK K)
            (refine norm_ (a' := ?a_89) ?ha_89 ?hh_89; (case ha_89 => (simp (disch := omega) only [Act.put, List.setIfInBounds_toArray, List.set_cons_zero, List.set_cons_succ, wrap_in]; rfl)))
            first | (refine take_ (i := 9) (N := some 85) (v := undef) (a' := ?a_90) #[true, true, true, true, true, true, true, true, true, true, false] rfl rfl (by kernel_rfl) (fun _ _ _ h => h) (Or.inr ⟨by rfl, rfl⟩) hHeld ?ha_90 ?hh_90; (case ha_90 => (simp (disch := omega) only [Act.put, List.setIfInBounds_toArray, List.set_cons_zero, List.set_cons_succ, wrap_in]; rfl))) | (refine take_ (i := 9) (N := some 85) (v := ?v_90) (a' := ?a_90) #[true, true, true, true, true, true, true, true, true, true, false] rfl rfl (by kernel_rfl) (fun _ _ _ h => h) (Or.inl ⟨by rfl, ?hy_90⟩) hHeld ?ha_90 ?hh_90; (case hy_90 => (rintro w' ⟨s0_, s1_, s2_, s3_, s4_, s5_, s6_, s7_, s8_, s9_, s10_, s11_⟩; go_simp; with_reducible rfl)); (case ha_90 => (simp (disch := omega) only [Act.put, List.setIfInBounds_toArray, List.set_cons_zero, List.set_cons_succ, wrap_in]; rfl)))
            (refine take_ (i := 10) (N := some 86) (v := ?v_91) (a' := ?a_91) #[true, true, true, true, true, true, true, true, true, true, true] rfl rfl (by kernel_rfl) (fun _ _ _ h => h) (Or.inl ⟨by rfl, ?hy_91⟩) hHeld ?ha_91 ?hh_91; (case hy_91 => (rintro w' ⟨s0_, s1_, s2_, s3_, s4_, s5_, s6_, s7_, s8_, s9_, s10_, s11_⟩; go_simp; with_reducible rfl)); (case ha_91 => (simp (disch := omega) only [Act.put, List.setIfInBounds_toArray, List.set_cons_zero, List.set_cons_succ, wrap_in]; rfl)))
            refine done_ (by kernel_rfl) ?_
            have HT5 := Lib.hid (HZT.out _ HI5.out.bel)
            clear hHeld cv5
            have t0 : w5.cell? ⟨w.heap.size, 0, none⟩ = some (.int .i64 0) := cell_blk HT5.out 0 rfl
            have t1 : w5.cell? ⟨w.heap.size, 1, none⟩ = some (.int .i64 0) := cell_blk HT5.out 1 rfl
            have t2 : w5.cell? ⟨w.heap.size, 2, none⟩ = some (.int .i64 0) := cell_blk HT5.out 2 rfl
            have t3 : w5.cell? ⟨w.heap.size, 3, none⟩ = some (.int .i64 0) := cell_blk HT5.out 3 rfl
            have t4 : w5.cell? ⟨w.heap.size, 4, none⟩ = some (.int .i64 0) := cell_blk HT5.out 4 rfl
            have t5 : w5.cell? ⟨w.heap.size, 5, none⟩ = some (.int .i64 0) := cell_blk HT5.out 5 rfl
            have t6 : w5.cell? ⟨w.heap.size, 6, none⟩ = some (.int .i64 0) := cell_blk HT5.out 6 rfl
            have t7 : w5.cell? ⟨w.heap.size, 7, none⟩ = some (.slice none 0 0) := cell_blk HT5.out 7 rfl
            have t8 : w5.cell? ⟨w.heap.size, 8, none⟩ = some (.slice none 0 0) := cell_blk HT5.out 8 rfl
            have t9 : w5.cell? ⟨w.heap.size, 9, none⟩ = some (.int .i64 0) := cell_blk HT5.out 9 rfl
            have t10 : w5.cell? ⟨w.heap.size, 10, none⟩ = some (.slice none 0 0) := cell_blk HT5.out 10 rfl
            have f0 := free_blk HT5.out 0
            have f1 := free_blk HT5.out 1
            have f2 := free_blk HT5.out 2
            have f3 := free_blk HT5.out 3
            have f4 := free_blk HT5.out 4
            have f5 := free_blk HT5.out 5
            have f6 := free_blk HT5.out 6
            have f7 := free_blk HT5.out 7
            have f8 := free_blk HT5.out 8
            have f9 := free_blk HT5.out 9
            have f10 := free_blk HT5.out 10
            have e0 : w5.cell? ⟨kr, 0, none⟩ = some (.int .i64 r.kind) := cell_blk HI5.out.cells 0 rfl
            have e1 : w5.cell? ⟨kr, 1, none⟩ = some (.int .i64 r.shard) := cell_blk HI5.out.cells 1 rfl
            have e2 : w5.cell? ⟨kr, 2, none⟩ = some (.int .i64 r.epoch) := cell_blk HI5.out.cells 2 rfl
            have e3 : w5.cell? ⟨kr, 3, none⟩ = some (.int .i64 r.peer) := cell_blk HI5.out.cells 3 rfl
            have e4 : w5.cell? ⟨kr, 4, none⟩ = some (.int .i64 r.client) := cell_blk HI5.out.cells 4 rfl
            have e5 : w5.cell? ⟨kr, 5, none⟩ = some (.int .i64 r.seq) := cell_blk HI5.out.cells 5 rfl
            have e6 : w5.cell? ⟨kr, 6, none⟩ = some (.int .i64 r.op.kind) := cell_blk HI5.out.cells 6 rfl
            have e7 : w5.cell? ⟨kr, 7, none⟩ = some (.slice K.1 K.2.1 K.2.2) := cell_blk HI5.out.cells 7 rfl
            have e8 : w5.cell? ⟨kr, 8, none⟩ = some (.slice V.1 V.2.1 V.2.2) := cell_blk HI5.out.cells 8 rfl
            have e9 : w5.cell? ⟨kr, 9, none⟩ = some (.int .i64 r.op.rev) := cell_blk HI5.out.cells 9 rfl
            have e10 : w5.cell? ⟨kr, 10, none⟩ = some (.slice C.1 C.2.1 C.2.2) := cell_blk HI5.out.cells 10 rfl
            go_wp2_with (fail)
            refine bodyPost_ret (v := .tuple #[recV r K V C, .int .i64 0]) ?_ rfl ?_
            · unfold recV recCells
              simp [results, Try.results11, go_sem, *]
            · exact QDecP.good (HZ.out.trans (HI5.out.bel.mono HZ.out.size)) HZS.out (by rw [decode_ref HBY.out, HR.out, if_pos ⟨hs, HE.out⟩]) hs HI5.out _ _ _ _ _ _ _ _ _ _ _
          · have hss : (s1.toList == s2.toList) = false := by
              rw [beq_eq_false_iff_ne]
              intro h
              rw [← HS1.out, ← HS2.out] at h
              exact he (strL_inj (formR_byt hs (by rw [← HR.out]; exact qec_byt HBY.out)) HBY.out h)
            have HE := Lib.hid he
            clear he
            refine start_ (n := 11) (S := fun w' => w'.cell? ⟨kr, 0, none⟩ = some (.int .i64 r.kind) ∧ w'.cell? ⟨kr, 1, none⟩ = some (.int .i64 r.shard) ∧ w'.cell? ⟨kr, 2, none⟩ = some (.int .i64 r.epoch) ∧ w'.cell? ⟨kr, 3, none⟩ = some (.int .i64 r.peer) ∧ w'.cell? ⟨kr, 4, none⟩ = some (.int .i64 r.client) ∧ w'.cell? ⟨kr, 5, none⟩ = some (.int .i64 r.seq) ∧ w'.cell? ⟨kr, 6, none⟩ = some (.int .i64 r.op.kind) ∧ w'.cell? ⟨kr, 7, none⟩ = some (.slice K.1 K.2.1 K.2.2) ∧ w'.cell? ⟨kr, 8, none⟩ = some (.slice V.1 V.2.1 V.2.2) ∧ w'.cell? ⟨kr, 9, none⟩ = some (.int .i64 r.op.rev) ∧ w'.cell? ⟨kr, 10, none⟩ = some (.slice C.1 C.2.1 C.2.2) ∧ (convert 22 9 (.slice B p.length cc)).run Try.prog w' = .ok (.string s2) w') (ds := []) #[false, false, false, false, false, false, false, false, false, false, false] (by kernel_rfl) rfl rfl ⟨cell_blk HI.out.cells 0 rfl, cell_blk HI.out.cells 1 rfl, cell_blk HI.out.cells 2 rfl, cell_blk HI.out.cells 3 rfl, cell_blk HI.out.cells 4 rfl, cell_blk HI.out.cells 5 rfl, cell_blk HI.out.cells 6 rfl, cell_blk HI.out.cells 7 rfl, cell_blk HI.out.cells 8 rfl, cell_blk HI.out.cells 9 rfl, cell_blk HI.out.cells 10 rfl, (by rw [← HS2.out]; exact HCV.out)⟩ (fun hHeld => ?_)
            (refine take_ (i := 0) (N := some 76) (v := ?v_94) (a' := ?a_94) #[true, false, false, false, false, false, false, false, false, false, false] rfl rfl (by kernel_rfl) (fun _ _ _ h => h) (Or.inl ⟨by rfl, ?hy_94⟩) hHeld ?ha_94 ?hh_94; (case hy_94 => (rintro w' ⟨s0_, s1_, s2_, s3_, s4_, s5_, s6_, s7_, s8_, s9_, s10_, s11_⟩; go_simp; with_reducible rfl)); (case ha_94 => (simp (disch := omega) only [Act.put, List.setIfInBounds_toArray, List.set_cons_zero, List.set_cons_succ, wrap_in]; rfl)))
            refine one_ (i := 1) (N := some 77) #[true, true, false, false, false, false, false, false, false, false, false] rfl rfl (by kernel_rfl) (by decide) (fun K hK => ?_)
            (refine goes_ Try.func17 (by kernel_rfl) rfl ?args_96 (by rfl) rfl rfl ?hargs_96 ?hc_96; (case hargs_96 => (go_simp; with_reducible rfl)))
            (refine (SO.out _).mono ?_; rintro e w3 ⟨rfl, hb3⟩; have HI3 := Lib.hid (HD.out.below hb3); have HCV3 := Lib.hid (conv_any (c := cc) (HY.out.below (HBW.out.drew.trans (hb3.mono HBW.out.size)))); refine ⟨_, rfl, ?_⟩)
            (refine hK.out _ _ ?hs_98 ?hn_98; (case hs_98 => (exact ⟨cell_blk HI3.out.cells 0 rfl, cell_blk HI3.out.cells 1 rfl, cell_blk HI3.out.cells 2 rfl, cell_blk HI3.out.cells 3 rfl, cell_blk HI3.out.cells 4 rfl, cell_blk HI3.out.cells 5 rfl, cell_blk HI3.out.cells 6 rfl, cell_blk HI3.out.cells 7 rfl, cell_blk HI3.out.cells 8 rfl, cell_blk HI3.out.cells 9 rfl, cell_blk HI3.out.cells 10 rfl, by rw [← HS2.out]; exact HCV3.out⟩)); intro hHeld; clear hK K)
            (refine norm_ (a' := ?a_99) ?ha_99 ?hh_99; (case ha_99 => (simp (disch := omega) only [Act.put, List.setIfInBounds_toArray, List.set_cons_zero, List.set_cons_succ, wrap_in]; rfl)))
            (refine take_ (i := 2) (N := some 78) (v := ?v_100) (a' := ?a_100) #[true, true, true, false, false, false, false, false, false, false, false] rfl rfl (by kernel_rfl) (fun _ _ _ h => h) (Or.inl ⟨by rfl, ?hy_100⟩) hHeld ?ha_100 ?hh_100; (case hy_100 => (rintro w' ⟨s0_, s1_, s2_, s3_, s4_, s5_, s6_, s7_, s8_, s9_, s10_, s11_⟩; go_simp; with_reducible rfl)); (case ha_100 => (simp (disch := omega) only [Act.put, List.setIfInBounds_toArray, List.set_cons_zero, List.set_cons_succ, wrap_in]; rfl)))
            (refine take_ (i := 3) (N := some 79) (v := ?v_101) (a' := ?a_101) #[true, true, true, true, false, false, false, false, false, false, false] rfl rfl (by kernel_rfl) (fun _ _ _ h => h) (Or.inl ⟨by rfl, ?hy_101⟩) hHeld ?ha_101 ?hh_101; (case hy_101 => (rintro w' ⟨s0_, s1_, s2_, s3_, s4_, s5_, s6_, s7_, s8_, s9_, s10_, s11_⟩; go_simp; with_reducible rfl)); (case ha_101 => (simp (disch := omega) only [Act.put, List.setIfInBounds_toArray, List.set_cons_zero, List.set_cons_succ, wrap_in]; rfl)))
            first | (refine take_ (i := 4) (N := some 80) (v := undef) (a' := ?a_102) #[true, true, true, true, true, false, false, false, false, false, false] rfl rfl (by kernel_rfl) (fun _ _ _ h => h) (Or.inr ⟨by rfl, rfl⟩) hHeld ?ha_102 ?hh_102; (case ha_102 => (simp (disch := omega) only [Act.put, List.setIfInBounds_toArray, List.set_cons_zero, List.set_cons_succ, wrap_in]; rfl))) | (refine take_ (i := 4) (N := some 80) (v := ?v_102) (a' := ?a_102) #[true, true, true, true, true, false, false, false, false, false, false] rfl rfl (by kernel_rfl) (fun _ _ _ h => h) (Or.inl ⟨by rfl, ?hy_102⟩) hHeld ?ha_102 ?hh_102; (case hy_102 => (rintro w' ⟨s0_, s1_, s2_, s3_, s4_, s5_, s6_, s7_, s8_, s9_, s10_, s11_⟩; go_simp; with_reducible rfl)); (case ha_102 => (simp (disch := omega) only [Act.put, List.setIfInBounds_toArray, List.set_cons_zero, List.set_cons_succ, wrap_in]; rfl)))
            first | (refine take_ (i := 7) (N := some 83) (v := undef) (a' := ?a_103) #[true, true, true, true, true, false, false, true, false, false, false] rfl rfl (by kernel_rfl) (fun _ _ _ h => h) (Or.inr ⟨by rfl, rfl⟩) hHeld ?ha_103 ?hh_103; (case ha_103 => (simp (disch := omega) only [Act.put, List.setIfInBounds_toArray, List.set_cons_zero, List.set_cons_succ, wrap_in]; rfl))) | (refine take_ (i := 7) (N := some 83) (v := ?v_103) (a' := ?a_103) #[true, true, true, true, true, false, false, true, false, false, false] rfl rfl (by kernel_rfl) (fun _ _ _ h => h) (Or.inl ⟨by rfl, ?hy_103⟩) hHeld ?ha_103 ?hh_103; (case hy_103 => (rintro w' ⟨s0_, s1_, s2_, s3_, s4_, s5_, s6_, s7_, s8_, s9_, s10_, s11_⟩; go_simp; with_reducible rfl)); (case ha_103 => (simp (disch := omega) only [Act.put, List.setIfInBounds_toArray, List.set_cons_zero, List.set_cons_succ, wrap_in]; rfl)))
            first | (refine take_ (i := 8) (N := some 84) (v := undef) (a' := ?a_104) #[true, true, true, true, true, false, false, true, true, false, false] rfl rfl (by kernel_rfl) (fun _ _ _ h => h) (Or.inr ⟨by rfl, rfl⟩) hHeld ?ha_104 ?hh_104; (case ha_104 => (simp (disch := omega) only [Act.put, List.setIfInBounds_toArray, List.set_cons_zero, List.set_cons_succ, wrap_in]; rfl))) | (refine take_ (i := 8) (N := some 84) (v := ?v_104) (a' := ?a_104) #[true, true, true, true, true, false, false, true, true, false, false] rfl rfl (by kernel_rfl) (fun _ _ _ h => h) (Or.inl ⟨by rfl, ?hy_104⟩) hHeld ?ha_104 ?hh_104; (case hy_104 => (rintro w' ⟨s0_, s1_, s2_, s3_, s4_, s5_, s6_, s7_, s8_, s9_, s10_, s11_⟩; go_simp; with_reducible rfl)); (case ha_104 => (simp (disch := omega) only [Act.put, List.setIfInBounds_toArray, List.set_cons_zero, List.set_cons_succ, wrap_in]; rfl)))
            refine one_ (i := 5) (N := some 81) #[true, true, true, true, true, true, false, true, true, false, false] rfl rfl (by kernel_rfl) (by decide) (fun K hK => ?_)
            (refine goes_ Try.func31 (by kernel_rfl) rfl ?args_106 (by rfl) rfl rfl ?hargs_106 ?hc_106; (case hargs_106 => (go_simp; with_reducible rfl)))
            (have FO := refForm16_any hs (by rw [← HR.out]; exact qec_byt HBY.out) HI3.out.key.slAt HI3.out.val.slAt HI3.out.copy.slAt; unfold recV recCells at FO; refine FO.mono ?_; rintro e w5 ⟨A, c, rfl, hg, hb5⟩; have HI5 := Lib.hid (HI3.out.below hb5); have HCV5 := Lib.hid (conv_any (c := cc) (HY.out.below (HZ.out.trans (HI5.out.bel.mono HZ.out.size)))); have cv5 := conv_any (c := c) hg.srcB; rw [HS1.out] at cv5; refine ⟨_, rfl, ?_⟩)
            (refine hK.out _ _ ?hs_108 ?hn_108; (case hs_108 => (exact ⟨cell_blk HI5.out.cells 0 rfl, cell_blk HI5.out.cells 1 rfl, cell_blk HI5.out.cells 2 rfl, cell_blk HI5.out.cells 3 rfl, cell_blk HI5.out.cells 4 rfl, cell_blk HI5.out.cells 5 rfl, cell_blk HI5.out.cells 6 rfl, cell_blk HI5.out.cells 7 rfl, cell_blk HI5.out.cells 8 rfl, cell_blk HI5.out.cells 9 rfl, cell_blk HI5.out.cells 10 rfl, by rw [← HS2.out]; exact HCV5.out⟩)); intro hHeld; clear hK K)
            (refine norm_ (a' := ?a_109) ?ha_109 ?hh_109; (case ha_109 => (simp (disch := omega) only [Act.put, List.setIfInBounds_toArray, List.set_cons_zero, List.set_cons_succ, wrap_in]; rfl)))
            refine one_ (i := 6) (N := some 82) #[true, true, true, true, true, true, true, true, true, false, false] rfl rfl (by kernel_rfl) (by decide) (fun K hK => ?_)
            first | (refine off_ (by rfl) ?hk_111) | (refine value_ (v := ?v_111) (w1 := ?w1_111) (by rfl) rfl ?hr_111 ?hk_111; (case hr_111 => (go_simp; first | with_reducible rfl | (constructor <;> with_reducible rfl))))
            (refine hK.out _ _ hHeld ?hn_112; intro _; clear hK K)
            (refine norm_ (a' := ?a_113) ?ha_113 ?hh_113; (case ha_113 => (simp (disch := omega) only [Act.put, List.setIfInBounds_toArray, List.set_cons_zero, List.set_cons_succ, wrap_in]; rfl)))
            first | (refine take_ (i := 9) (N := some 85) (v := undef) (a' := ?a_114) #[true, true, true, true, true, true, true, true, true, true, false] rfl rfl (by kernel_rfl) (fun _ _ _ h => h) (Or.inr ⟨by rfl, rfl⟩) hHeld ?ha_114 ?hh_114; (case ha_114 => (simp (disch := omega) only [Act.put, List.setIfInBounds_toArray, List.set_cons_zero, List.set_cons_succ, wrap_in]; rfl))) | (refine take_ (i := 9) (N := some 85) (v := ?v_114) (a' := ?a_114) #[true, true, true, true, true, true, true, true, true, true, false] rfl rfl (by kernel_rfl) (fun _ _ _ h => h) (Or.inl ⟨by rfl, ?hy_114⟩) hHeld ?ha_114 ?hh_114; (case hy_114 => (rintro w' ⟨s0_, s1_, s2_, s3_, s4_, s5_, s6_, s7_, s8_, s9_, s10_, s11_⟩; go_simp; with_reducible rfl)); (case ha_114 => (simp (disch := omega) only [Act.put, List.setIfInBounds_toArray, List.set_cons_zero, List.set_cons_succ, wrap_in]; rfl)))
            (refine take_ (i := 10) (N := some 86) (v := ?v_115) (a' := ?a_115) #[true, true, true, true, true, true, true, true, true, true, true] rfl rfl (by kernel_rfl) (fun _ _ _ h => h) (Or.inl ⟨by rfl, ?hy_115⟩) hHeld ?ha_115 ?hh_115; (case hy_115 => (rintro w' ⟨s0_, s1_, s2_, s3_, s4_, s5_, s6_, s7_, s8_, s9_, s10_, s11_⟩; go_simp; with_reducible rfl)); (case ha_115 => (simp (disch := omega) only [Act.put, List.setIfInBounds_toArray, List.set_cons_zero, List.set_cons_succ, wrap_in]; rfl)))
            refine done_ (by kernel_rfl) ?_
            have HT5 := Lib.hid (HZT.out _ HI5.out.bel)
            clear hHeld cv5
            have t0 : w5.cell? ⟨w.heap.size, 0, none⟩ = some (.int .i64 0) := cell_blk HT5.out 0 rfl
            have t1 : w5.cell? ⟨w.heap.size, 1, none⟩ = some (.int .i64 0) := cell_blk HT5.out 1 rfl
            have t2 : w5.cell? ⟨w.heap.size, 2, none⟩ = some (.int .i64 0) := cell_blk HT5.out 2 rfl
            have t3 : w5.cell? ⟨w.heap.size, 3, none⟩ = some (.int .i64 0) := cell_blk HT5.out 3 rfl
            have t4 : w5.cell? ⟨w.heap.size, 4, none⟩ = some (.int .i64 0) := cell_blk HT5.out 4 rfl
            have t5 : w5.cell? ⟨w.heap.size, 5, none⟩ = some (.int .i64 0) := cell_blk HT5.out 5 rfl
            have t6 : w5.cell? ⟨w.heap.size, 6, none⟩ = some (.int .i64 0) := cell_blk HT5.out 6 rfl
            have t7 : w5.cell? ⟨w.heap.size, 7, none⟩ = some (.slice none 0 0) := cell_blk HT5.out 7 rfl
            have t8 : w5.cell? ⟨w.heap.size, 8, none⟩ = some (.slice none 0 0) := cell_blk HT5.out 8 rfl
            have t9 : w5.cell? ⟨w.heap.size, 9, none⟩ = some (.int .i64 0) := cell_blk HT5.out 9 rfl
            have t10 : w5.cell? ⟨w.heap.size, 10, none⟩ = some (.slice none 0 0) := cell_blk HT5.out 10 rfl
            have f0 := free_blk HT5.out 0
            have f1 := free_blk HT5.out 1
            have f2 := free_blk HT5.out 2
            have f3 := free_blk HT5.out 3
            have f4 := free_blk HT5.out 4
            have f5 := free_blk HT5.out 5
            have f6 := free_blk HT5.out 6
            have f7 := free_blk HT5.out 7
            have f8 := free_blk HT5.out 8
            have f9 := free_blk HT5.out 9
            have f10 := free_blk HT5.out 10
            go_wp2_with (fail)
            refine bodyPost_ret (v := .tuple #[.agg #[.int .i64 0, .int .i64 0, .int .i64 0, .int .i64 0, .int .i64 0, .int .i64 0, .int .i64 0, .slice none 0 0, .slice none 0 0, .int .i64 0, .slice none 0 0], .int .i64 160]) ?_ rfl ?_
            · simp [results, Try.results11, go_sem, *]
            · exact QDecP.bad (HZ.out.trans (HI5.out.bel.mono HZ.out.size)) (by rw [decode_ref HBY.out, HR.out, if_neg (fun h => HE.out h.2)]) _ _ _ _ _ _ _ _ _ _ _
        · rw [decide_eq_false hs] at SO
          refine start_ (n := 11) (S := fun w' => w'.cell? ⟨kr, 0, none⟩ = some (.int .i64 r.kind) ∧ w'.cell? ⟨kr, 1, none⟩ = some (.int .i64 r.shard) ∧ w'.cell? ⟨kr, 2, none⟩ = some (.int .i64 r.epoch) ∧ w'.cell? ⟨kr, 3, none⟩ = some (.int .i64 r.peer) ∧ w'.cell? ⟨kr, 4, none⟩ = some (.int .i64 r.client) ∧ w'.cell? ⟨kr, 5, none⟩ = some (.int .i64 r.seq) ∧ w'.cell? ⟨kr, 6, none⟩ = some (.int .i64 r.op.kind) ∧ w'.cell? ⟨kr, 7, none⟩ = some (.slice K.1 K.2.1 K.2.2) ∧ w'.cell? ⟨kr, 8, none⟩ = some (.slice V.1 V.2.1 V.2.2) ∧ w'.cell? ⟨kr, 9, none⟩ = some (.int .i64 r.op.rev) ∧ w'.cell? ⟨kr, 10, none⟩ = some (.slice C.1 C.2.1 C.2.2) ∧ (convert 22 9 (.slice B p.length cc)).run Try.prog w' = .ok (.string s2) w') (ds := []) #[false, false, false, false, false, false, false, false, false, false, false] (by kernel_rfl) rfl rfl ⟨cell_blk HI.out.cells 0 rfl, cell_blk HI.out.cells 1 rfl, cell_blk HI.out.cells 2 rfl, cell_blk HI.out.cells 3 rfl, cell_blk HI.out.cells 4 rfl, cell_blk HI.out.cells 5 rfl, cell_blk HI.out.cells 6 rfl, cell_blk HI.out.cells 7 rfl, cell_blk HI.out.cells 8 rfl, cell_blk HI.out.cells 9 rfl, cell_blk HI.out.cells 10 rfl, (by rw [← HS2.out]; exact HCV.out)⟩ (fun hHeld => ?_)
          (refine take_ (i := 0) (N := some 76) (v := ?v_118) (a' := ?a_118) #[true, false, false, false, false, false, false, false, false, false, false] rfl rfl (by kernel_rfl) (fun _ _ _ h => h) (Or.inl ⟨by rfl, ?hy_118⟩) hHeld ?ha_118 ?hh_118; (case hy_118 => (rintro w' ⟨s0_, s1_, s2_, s3_, s4_, s5_, s6_, s7_, s8_, s9_, s10_, s11_⟩; go_simp; with_reducible rfl)); (case ha_118 => (simp (disch := omega) only [Act.put, List.setIfInBounds_toArray, List.set_cons_zero, List.set_cons_succ, wrap_in]; rfl)))
          refine one_ (i := 1) (N := some 77) #[true, true, false, false, false, false, false, false, false, false, false] rfl rfl (by kernel_rfl) (by decide) (fun K hK => ?_)
          (refine goes_ Try.func17 (by kernel_rfl) rfl ?args_120 (by rfl) rfl rfl ?hargs_120 ?hc_120; (case hargs_120 => (go_simp; with_reducible rfl)))
          (refine (SO.out _).mono ?_; rintro e w3 ⟨rfl, hb3⟩; have HI3 := Lib.hid (HD.out.below hb3); have HCV3 := Lib.hid (conv_any (c := cc) (HY.out.below (HBW.out.drew.trans (hb3.mono HBW.out.size)))); refine ⟨_, rfl, ?_⟩)
          (refine hK.out _ _ ?hs_122 ?hn_122; (case hs_122 => (exact ⟨cell_blk HI3.out.cells 0 rfl, cell_blk HI3.out.cells 1 rfl, cell_blk HI3.out.cells 2 rfl, cell_blk HI3.out.cells 3 rfl, cell_blk HI3.out.cells 4 rfl, cell_blk HI3.out.cells 5 rfl, cell_blk HI3.out.cells 6 rfl, cell_blk HI3.out.cells 7 rfl, cell_blk HI3.out.cells 8 rfl, cell_blk HI3.out.cells 9 rfl, cell_blk HI3.out.cells 10 rfl, by rw [← HS2.out]; exact HCV3.out⟩)); intro hHeld; clear hK K)
          (refine norm_ (a' := ?a_123) ?ha_123 ?hh_123; (case ha_123 => (simp (disch := omega) only [Act.put, List.setIfInBounds_toArray, List.set_cons_zero, List.set_cons_succ, wrap_in]; rfl)))
          (refine take_ (i := 2) (N := some 78) (v := ?v_124) (a' := ?a_124) #[true, true, true, false, false, false, false, false, false, false, false] rfl rfl (by kernel_rfl) (fun _ _ _ h => h) (Or.inl ⟨by rfl, ?hy_124⟩) hHeld ?ha_124 ?hh_124; (case hy_124 => (rintro w' ⟨s0_, s1_, s2_, s3_, s4_, s5_, s6_, s7_, s8_, s9_, s10_, s11_⟩; go_simp; with_reducible rfl)); (case ha_124 => (simp (disch := omega) only [Act.put, List.setIfInBounds_toArray, List.set_cons_zero, List.set_cons_succ, wrap_in]; rfl)))
          (refine take_ (i := 3) (N := some 79) (v := ?v_125) (a' := ?a_125) #[true, true, true, true, false, false, false, false, false, false, false] rfl rfl (by kernel_rfl) (fun _ _ _ h => h) (Or.inl ⟨by rfl, ?hy_125⟩) hHeld ?ha_125 ?hh_125; (case hy_125 => (rintro w' ⟨s0_, s1_, s2_, s3_, s4_, s5_, s6_, s7_, s8_, s9_, s10_, s11_⟩; go_simp; with_reducible rfl)); (case ha_125 => (simp (disch := omega) only [Act.put, List.setIfInBounds_toArray, List.set_cons_zero, List.set_cons_succ, wrap_in]; rfl)))
          first | (refine take_ (i := 4) (N := some 80) (v := undef) (a' := ?a_126) #[true, true, true, true, true, false, false, false, false, false, false] rfl rfl (by kernel_rfl) (fun _ _ _ h => h) (Or.inr ⟨by rfl, rfl⟩) hHeld ?ha_126 ?hh_126; (case ha_126 => (simp (disch := omega) only [Act.put, List.setIfInBounds_toArray, List.set_cons_zero, List.set_cons_succ, wrap_in]; rfl))) | (refine take_ (i := 4) (N := some 80) (v := ?v_126) (a' := ?a_126) #[true, true, true, true, true, false, false, false, false, false, false] rfl rfl (by kernel_rfl) (fun _ _ _ h => h) (Or.inl ⟨by rfl, ?hy_126⟩) hHeld ?ha_126 ?hh_126; (case hy_126 => (rintro w' ⟨s0_, s1_, s2_, s3_, s4_, s5_, s6_, s7_, s8_, s9_, s10_, s11_⟩; go_simp; with_reducible rfl)); (case ha_126 => (simp (disch := omega) only [Act.put, List.setIfInBounds_toArray, List.set_cons_zero, List.set_cons_succ, wrap_in]; rfl)))
          first | (refine take_ (i := 7) (N := some 83) (v := undef) (a' := ?a_127) #[true, true, true, true, true, false, false, true, false, false, false] rfl rfl (by kernel_rfl) (fun _ _ _ h => h) (Or.inr ⟨by rfl, rfl⟩) hHeld ?ha_127 ?hh_127; (case ha_127 => (simp (disch := omega) only [Act.put, List.setIfInBounds_toArray, List.set_cons_zero, List.set_cons_succ, wrap_in]; rfl))) | (refine take_ (i := 7) (N := some 83) (v := ?v_127) (a' := ?a_127) #[true, true, true, true, true, false, false, true, false, false, false] rfl rfl (by kernel_rfl) (fun _ _ _ h => h) (Or.inl ⟨by rfl, ?hy_127⟩) hHeld ?ha_127 ?hh_127; (case hy_127 => (rintro w' ⟨s0_, s1_, s2_, s3_, s4_, s5_, s6_, s7_, s8_, s9_, s10_, s11_⟩; go_simp; with_reducible rfl)); (case ha_127 => (simp (disch := omega) only [Act.put, List.setIfInBounds_toArray, List.set_cons_zero, List.set_cons_succ, wrap_in]; rfl)))
          first | (refine take_ (i := 8) (N := some 84) (v := undef) (a' := ?a_128) #[true, true, true, true, true, false, false, true, true, false, false] rfl rfl (by kernel_rfl) (fun _ _ _ h => h) (Or.inr ⟨by rfl, rfl⟩) hHeld ?ha_128 ?hh_128; (case ha_128 => (simp (disch := omega) only [Act.put, List.setIfInBounds_toArray, List.set_cons_zero, List.set_cons_succ, wrap_in]; rfl))) | (refine take_ (i := 8) (N := some 84) (v := ?v_128) (a' := ?a_128) #[true, true, true, true, true, false, false, true, true, false, false] rfl rfl (by kernel_rfl) (fun _ _ _ h => h) (Or.inl ⟨by rfl, ?hy_128⟩) hHeld ?ha_128 ?hh_128; (case hy_128 => (rintro w' ⟨s0_, s1_, s2_, s3_, s4_, s5_, s6_, s7_, s8_, s9_, s10_, s11_⟩; go_simp; with_reducible rfl)); (case ha_128 => (simp (disch := omega) only [Act.put, List.setIfInBounds_toArray, List.set_cons_zero, List.set_cons_succ, wrap_in]; rfl)))
          (refine take_ (i := 5) (N := some 81) (v := undef) (a' := ?a_129) #[true, true, true, true, true, true, false, true, true, false, false] rfl rfl (by kernel_rfl) (fun _ _ _ h => h) (Or.inr ⟨by rfl, rfl⟩) hHeld ?ha_129 ?hh_129; (case ha_129 => (simp (disch := omega) only [Act.put, List.setIfInBounds_toArray, List.set_cons_zero, List.set_cons_succ, wrap_in]; rfl)))
          refine one_ (i := 6) (N := some 82) #[true, true, true, true, true, true, true, true, true, false, false] rfl rfl (by kernel_rfl) (by decide) (fun K hK => ?_)
          first | (refine off_ (by rfl) ?hk_131) | (refine value_ (v := ?v_131) (w1 := ?w1_131) (by rfl) rfl ?hr_131 ?hk_131; (case hr_131 => (go_simp; first | with_reducible rfl | (constructor <;> with_reducible rfl))))
          (refine hK.out _ _ hHeld ?hn_132; intro _; clear hK K)
          (refine norm_ (a' := ?a_133) ?ha_133 ?hh_133; (case ha_133 => (simp (disch := omega) only [Act.put, List.setIfInBounds_toArray, List.set_cons_zero, List.set_cons_succ, wrap_in]; rfl)))
          first | (refine take_ (i := 9) (N := some 85) (v := undef) (a' := ?a_134) #[true, true, true, true, true, true, true, true, true, true, false] rfl rfl (by kernel_rfl) (fun _ _ _ h => h) (Or.inr ⟨by rfl, rfl⟩) hHeld ?ha_134 ?hh_134; (case ha_134 => (simp (disch := omega) only [Act.put, List.setIfInBounds_toArray, List.set_cons_zero, List.set_cons_succ, wrap_in]; rfl))) | (refine take_ (i := 9) (N := some 85) (v := ?v_134) (a' := ?a_134) #[true, true, true, true, true, true, true, true, true, true, false] rfl rfl (by kernel_rfl) (fun _ _ _ h => h) (Or.inl ⟨by rfl, ?hy_134⟩) hHeld ?ha_134 ?hh_134; (case hy_134 => (rintro w' ⟨s0_, s1_, s2_, s3_, s4_, s5_, s6_, s7_, s8_, s9_, s10_, s11_⟩; go_simp; with_reducible rfl)); (case ha_134 => (simp (disch := omega) only [Act.put, List.setIfInBounds_toArray, List.set_cons_zero, List.set_cons_succ, wrap_in]; rfl)))
          (refine take_ (i := 10) (N := some 86) (v := ?v_135) (a' := ?a_135) #[true, true, true, true, true, true, true, true, true, true, true] rfl rfl (by kernel_rfl) (fun _ _ _ h => h) (Or.inl ⟨by rfl, ?hy_135⟩) hHeld ?ha_135 ?hh_135; (case hy_135 => (rintro w' ⟨s0_, s1_, s2_, s3_, s4_, s5_, s6_, s7_, s8_, s9_, s10_, s11_⟩; go_simp; with_reducible rfl)); (case ha_135 => (simp (disch := omega) only [Act.put, List.setIfInBounds_toArray, List.set_cons_zero, List.set_cons_succ, wrap_in]; rfl)))
          refine done_ (by kernel_rfl) ?_
          have HT3 := Lib.hid (HZT.out _ HI3.out.bel)
          clear hHeld
          have t0 : w3.cell? ⟨w.heap.size, 0, none⟩ = some (.int .i64 0) := cell_blk HT3.out 0 rfl
          have t1 : w3.cell? ⟨w.heap.size, 1, none⟩ = some (.int .i64 0) := cell_blk HT3.out 1 rfl
          have t2 : w3.cell? ⟨w.heap.size, 2, none⟩ = some (.int .i64 0) := cell_blk HT3.out 2 rfl
          have t3 : w3.cell? ⟨w.heap.size, 3, none⟩ = some (.int .i64 0) := cell_blk HT3.out 3 rfl
          have t4 : w3.cell? ⟨w.heap.size, 4, none⟩ = some (.int .i64 0) := cell_blk HT3.out 4 rfl
          have t5 : w3.cell? ⟨w.heap.size, 5, none⟩ = some (.int .i64 0) := cell_blk HT3.out 5 rfl
          have t6 : w3.cell? ⟨w.heap.size, 6, none⟩ = some (.int .i64 0) := cell_blk HT3.out 6 rfl
          have t7 : w3.cell? ⟨w.heap.size, 7, none⟩ = some (.slice none 0 0) := cell_blk HT3.out 7 rfl
          have t8 : w3.cell? ⟨w.heap.size, 8, none⟩ = some (.slice none 0 0) := cell_blk HT3.out 8 rfl
          have t9 : w3.cell? ⟨w.heap.size, 9, none⟩ = some (.int .i64 0) := cell_blk HT3.out 9 rfl
          have t10 : w3.cell? ⟨w.heap.size, 10, none⟩ = some (.slice none 0 0) := cell_blk HT3.out 10 rfl
          have f0 := free_blk HT3.out 0
          have f1 := free_blk HT3.out 1
          have f2 := free_blk HT3.out 2
          have f3 := free_blk HT3.out 3
          have f4 := free_blk HT3.out 4
          have f5 := free_blk HT3.out 5
          have f6 := free_blk HT3.out 6
          have f7 := free_blk HT3.out 7
          have f8 := free_blk HT3.out 8
          have f9 := free_blk HT3.out 9
          have f10 := free_blk HT3.out 10
          go_wp2_with (fail)
          refine bodyPost_ret (v := .tuple #[.agg #[.int .i64 0, .int .i64 0, .int .i64 0, .int .i64 0, .int .i64 0, .int .i64 0, .int .i64 0, .slice none 0 0, .slice none 0 0, .int .i64 0, .slice none 0 0], .int .i64 160]) ?_ rfl ?_
          · simp [results, Try.results11, go_sem, *]
          · exact QDecP.bad (HZ.out.trans (HI3.out.bel.mono HZ.out.size)) (by rw [decode_ref HBY.out, HR.out, if_neg (fun h => hs h.1)]) _ _ _ _ _ _ _ _ _ _ _
      · have o2' : (q5.1 == 2) = false := by simpa using o2
        have o4' : (q5.1 == 4) = false := by simpa using o4
        go_wp2_with (fail)
        clear e6 o2' o4'
        obtain ⟨r, hr⟩ : ∃ r : RZ, r = ⟨q1.1, i64N q2.1, 0, 0, i64N q3.1, i64N q4.1, ⟨q5.1, q6.1, [], 0⟩, []⟩ := ⟨_, rfl⟩
        have HR := Lib.hid (show (qecR p).1 = r by rw [hr, HPQ.out]; unfold qecF; rw [if_pos k1]; simp only [Hq3.out, Hq4.out]; unfold qecO; simp only [Hq5.out, Hq6.out]; rw [if_neg (by omega), if_neg o4]; rfl)
        obtain ⟨K, hK⟩ : ∃ K : SlB, K = (A13, q6.1.length, c13) := ⟨_, rfl⟩
        obtain ⟨V, hV⟩ : ∃ K : SlB, K = (none, 0, 0) := ⟨_, rfl⟩
        obtain ⟨C, hC⟩ : ∃ K : SlB, K = (none, 0, 0) := ⟨_, rfl⟩
        have HJ := Lib.hid (show QecI wA w1.heap.size k kr r K V C wb13 q6.2 by rw [hr, hK, hV, hC]; exact HI.out)
        clear HI hr hK hV hC
        have HI := HJ
        clear HJ
        have HBW := Lib.hid (show Below w.heap.size w wb13 from HZ.out.trans (HI.out.bel.mono HZ.out.size))
        have HCV := Lib.hid (show (convert 22 9 (.slice B p.length cc)).run Try.prog (wb13).drew = .ok (.string (strOfNums p)) (wb13).drew from conv_any (HY.out.below HBW.out.drew))
        have SO := Lib.hid (fun W => refSound_any (r := r) K V C HI.out.key.1 HI.out.val.1 HI.out.copy.1 W)
        unfold recV recCells at SO
        have HD := Lib.hid (HI.out.below (Below.refl _ _).drew)
        obtain ⟨s2, hs2⟩ : ∃ s2, strOfNums p = s2 := ⟨_, rfl⟩
        have HS2 := Lib.hid hs2
        clear hs2
        have HZT := Lib.hid (show ∀ W', Below wA.heap.size wA W' → W'.heap[w.heap.size]? = some (.cells (recCells RZ.none zSl zSl zSl) TRec (0, 0)) from fun W' hB => (hB.block _ (by rw [HZS.out]; omega)).trans HZB.out)
        by_cases hs : SoundR r
        · rw [decide_eq_true hs] at SO
          obtain ⟨s1, hs1⟩ : ∃ s1, strOfNums (formR r) = s1 := ⟨_, rfl⟩
          have HS1 := Lib.hid hs1
          clear hs1
          by_cases he : formR r = p
          · have hss : s2 = s1 := by rw [← HS1.out, ← HS2.out, he]
            subst hss
            have HE := Lib.hid he
            clear he
            refine start_ (n := 11) (S := fun w' => w'.cell? ⟨kr, 0, none⟩ = some (.int .i64 r.kind) ∧ w'.cell? ⟨kr, 1, none⟩ = some (.int .i64 r.shard) ∧ w'.cell? ⟨kr, 2, none⟩ = some (.int .i64 r.epoch) ∧ w'.cell? ⟨kr, 3, none⟩ = some (.int .i64 r.peer) ∧ w'.cell? ⟨kr, 4, none⟩ = some (.int .i64 r.client) ∧ w'.cell? ⟨kr, 5, none⟩ = some (.int .i64 r.seq) ∧ w'.cell? ⟨kr, 6, none⟩ = some (.int .i64 r.op.kind) ∧ w'.cell? ⟨kr, 7, none⟩ = some (.slice K.1 K.2.1 K.2.2) ∧ w'.cell? ⟨kr, 8, none⟩ = some (.slice V.1 V.2.1 V.2.2) ∧ w'.cell? ⟨kr, 9, none⟩ = some (.int .i64 r.op.rev) ∧ w'.cell? ⟨kr, 10, none⟩ = some (.slice C.1 C.2.1 C.2.2) ∧ (convert 22 9 (.slice B p.length cc)).run Try.prog w' = .ok (.string s2) w') (ds := []) #[false, false, false, false, false, false, false, false, false, false, false] (by kernel_rfl) rfl rfl ⟨cell_blk HI.out.cells 0 rfl, cell_blk HI.out.cells 1 rfl, cell_blk HI.out.cells 2 rfl, cell_blk HI.out.cells 3 rfl, cell_blk HI.out.cells 4 rfl, cell_blk HI.out.cells 5 rfl, cell_blk HI.out.cells 6 rfl, cell_blk HI.out.cells 7 rfl, cell_blk HI.out.cells 8 rfl, cell_blk HI.out.cells 9 rfl, cell_blk HI.out.cells 10 rfl, (by rw [← HS2.out]; exact HCV.out)⟩ (fun hHeld => ?_)
            (refine take_ (i := 0) (N := some 76) (v := ?v_138) (a' := ?a_138) #[true, false, false, false, false, false, false, false, false, false, false] rfl rfl (by kernel_rfl) (fun _ _ _ h => h) (Or.inl ⟨by rfl, ?hy_138⟩) hHeld ?ha_138 ?hh_138; (case hy_138 => (rintro w' ⟨s0_, s1_, s2_, s3_, s4_, s5_, s6_, s7_, s8_, s9_, s10_, s11_⟩; go_simp; with_reducible rfl)); (case ha_138 => (simp (disch := omega) only [Act.put, List.setIfInBounds_toArray, List.set_cons_zero, List.set_cons_succ, wrap_in]; rfl)))
            refine one_ (i := 1) (N := some 77) #[true, true, false, false, false, false, false, false, false, false, false] rfl rfl (by kernel_rfl) (by decide) (fun K hK => ?_)
            (refine goes_ Try.func17 (by kernel_rfl) rfl ?args_140 (by rfl) rfl rfl ?hargs_140 ?hc_140; (case hargs_140 => (go_simp; with_reducible rfl)))
            (refine (SO.out _).mono ?_; rintro e w3 ⟨rfl, hb3⟩; have HI3 := Lib.hid (HD.out.below hb3); have HCV3 := Lib.hid (conv_any (c := cc) (HY.out.below (HBW.out.drew.trans (hb3.mono HBW.out.size)))); refine ⟨_, rfl, ?_⟩)
            (refine hK.out _ _ ?hs_142 ?hn_142; (case hs_142 => (exact ⟨cell_blk HI3.out.cells 0 rfl, cell_blk HI3.out.cells 1 rfl, cell_blk HI3.out.cells 2 rfl, cell_blk HI3.out.cells 3 rfl, cell_blk HI3.out.cells 4 rfl, cell_blk HI3.out.cells 5 rfl, cell_blk HI3.out.cells 6 rfl, cell_blk HI3.out.cells 7 rfl, cell_blk HI3.out.cells 8 rfl, cell_blk HI3.out.cells 9 rfl, cell_blk HI3.out.cells 10 rfl, by rw [← HS2.out]; exact HCV3.out⟩)); intro hHeld; clear hK K)
            (refine norm_ (a' := ?a_143) ?ha_143 ?hh_143; (case ha_143 => (simp (disch := omega) only [Act.put, List.setIfInBounds_toArray, List.set_cons_zero, List.set_cons_succ, wrap_in]; rfl)))
            (refine take_ (i := 2) (N := some 78) (v := ?v_144) (a' := ?a_144) #[true, true, true, false, false, false, false, false, false, false, false] rfl rfl (by kernel_rfl) (fun _ _ _ h => h) (Or.inl ⟨by rfl, ?hy_144⟩) hHeld ?ha_144 ?hh_144; (case hy_144 => (rintro w' ⟨s0_, s1_, s2_, s3_, s4_, s5_, s6_, s7_, s8_, s9_, s10_, s11_⟩; go_simp; with_reducible rfl)); (case ha_144 => (simp (disch := omega) only [Act.put, List.setIfInBounds_toArray, List.set_cons_zero, List.set_cons_succ, wrap_in]; rfl)))
            (refine take_ (i := 3) (N := some 79) (v := ?v_145) (a' := ?a_145) #[true, true, true, true, false, false, false, false, false, false, false] rfl rfl (by kernel_rfl) (fun _ _ _ h => h) (Or.inl ⟨by rfl, ?hy_145⟩) hHeld ?ha_145 ?hh_145; (case hy_145 => (rintro w' ⟨s0_, s1_, s2_, s3_, s4_, s5_, s6_, s7_, s8_, s9_, s10_, s11_⟩; go_simp; with_reducible rfl)); (case ha_145 => (simp (disch := omega) only [Act.put, List.setIfInBounds_toArray, List.set_cons_zero, List.set_cons_succ, wrap_in]; rfl)))
            first | (refine take_ (i := 4) (N := some 80) (v := undef) (a' := ?a_146) #[true, true, true, true, true, false, false, false, false, false, false] rfl rfl (by kernel_rfl) (fun _ _ _ h => h) (Or.inr ⟨by rfl, rfl⟩) hHeld ?ha_146 ?hh_146; (case ha_146 => (simp (disch := omega) only [Act.put, List.setIfInBounds_toArray, List.set_cons_zero, List.set_cons_succ, wrap_in]; rfl))) | (refine take_ (i := 4) (N := some 80) (v := ?v_146) (a' := ?a_146) #[true, true, true, true, true, false, false, false, false, false, false] rfl rfl (by kernel_rfl) (fun _ _ _ h => h) (Or.inl ⟨by rfl, ?hy_146⟩) hHeld ?ha_146 ?hh_146; (case hy_146 => (rintro w' ⟨s0_, s1_, s2_, s3_, s4_, s5_, s6_, s7_, s8_, s9_, s10_, s11_⟩; go_simp; with_reducible rfl)); (case ha_146 => (simp (disch := omega) only [Act.put, List.setIfInBounds_toArray, List.set_cons_zero, List.set_cons_succ, wrap_in]; rfl)))
            first | (refine take_ (i := 7) (N := some 83) (v := undef) (a' := ?a_147) #[true, true, true, true, true, false, false, true, false, false, false] rfl rfl (by kernel_rfl) (fun _ _ _ h => h) (Or.inr ⟨by rfl, rfl⟩) hHeld ?ha_147 ?hh_147; (case ha_147 => (simp (disch := omega) only [Act.put, List.setIfInBounds_toArray, List.set_cons_zero, List.set_cons_succ, wrap_in]; rfl))) | (refine take_ (i := 7) (N := some 83) (v := ?v_147) (a' := ?a_147) #[true, true, true, true, true, false, false, true, false, false, false] rfl rfl (by kernel_rfl) (fun _ _ _ h => h) (Or.inl ⟨by rfl, ?hy_147⟩) hHeld ?ha_147 ?hh_147; (case hy_147 => (rintro w' ⟨s0_, s1_, s2_, s3_, s4_, s5_, s6_, s7_, s8_, s9_, s10_, s11_⟩; go_simp; with_reducible rfl)); (case ha_147 => (simp (disch := omega) only [Act.put, List.setIfInBounds_toArray, List.set_cons_zero, List.set_cons_succ, wrap_in]; rfl)))
            first | (refine take_ (i := 8) (N := some 84) (v := undef) (a' := ?a_148) #[true, true, true, true, true, false, false, true, true, false, false] rfl rfl (by kernel_rfl) (fun _ _ _ h => h) (Or.inr ⟨by rfl, rfl⟩) hHeld ?ha_148 ?hh_148; (case ha_148 => (simp (disch := omega) only [Act.put, List.setIfInBounds_toArray, List.set_cons_zero, List.set_cons_succ, wrap_in]; rfl))) | (refine take_ (i := 8) (N := some 84) (v := ?v_148) (a' := ?a_148) #[true, true, true, true, true, false, false, true, true, false, false] rfl rfl (by kernel_rfl) (fun _ _ _ h => h) (Or.inl ⟨by rfl, ?hy_148⟩) hHeld ?ha_148 ?hh_148; (case hy_148 => (rintro w' ⟨s0_, s1_, s2_, s3_, s4_, s5_, s6_, s7_, s8_, s9_, s10_, s11_⟩; go_simp; with_reducible rfl)); (case ha_148 => (simp (disch := omega) only [Act.put, List.setIfInBounds_toArray, List.set_cons_zero, List.set_cons_succ, wrap_in]; rfl)))
            refine one_ (i := 5) (N := some 81) #[true, true, true, true, true, true, false, true, true, false, false] rfl rfl (by kernel_rfl) (by decide) (fun K hK => ?_)
            (refine goes_ Try.func31 (by kernel_rfl) rfl ?args_150 (by rfl) rfl rfl ?hargs_150 ?hc_150; (case hargs_150 => (go_simp; with_reducible rfl)))
            (have FO := refForm16_any hs (by rw [← HR.out]; exact qec_byt HBY.out) HI3.out.key.slAt HI3.out.val.slAt HI3.out.copy.slAt; unfold recV recCells at FO; refine FO.mono ?_; rintro e w5 ⟨A, c, rfl, hg, hb5⟩; have HI5 := Lib.hid (HI3.out.below hb5); have HCV5 := Lib.hid (conv_any (c := cc) (HY.out.below (HZ.out.trans (HI5.out.bel.mono HZ.out.size)))); have cv5 := conv_any (c := c) hg.srcB; rw [HS1.out] at cv5; refine ⟨_, rfl, ?_⟩)
            (refine hK.out _ _ ?hs_152 ?hn_152; (case hs_152 => (exact ⟨cell_blk HI5.out.cells 0 rfl, cell_blk HI5.out.cells 1 rfl, cell_blk HI5.out.cells 2 rfl, cell_blk HI5.out.cells 3 rfl, cell_blk HI5.out.cells 4 rfl, cell_blk HI5.out.cells 5 rfl, cell_blk HI5.out.cells 6 rfl, cell_blk HI5.out.cells 7 rfl, cell_blk HI5.out.cells 8 rfl, cell_blk HI5.out.cells 9 rfl, cell_blk HI5.out.cells 10 rfl, by rw [← HS2.out]; exact HCV5.out⟩)); intro hHeld; clear hK K)
            (refine norm_ (a' := ?a_153) ?ha_153 ?hh_153; (case ha_153 => (simp (disch := omega) only [Act.put, List.setIfInBounds_toArray, List.set_cons_zero, List.set_cons_succ, wrap_in]; rfl)))
            refine one_ (i := 6) (N := some 82) #[true, true, true, true, true, true, true, true, true, false, false] rfl rfl (by kernel_rfl) (by decide) (fun K hK => ?_)
            first | (refine off_ (by rfl) ?hk_155) | (refine value_ (v := ?v_155) (w1 := ?w1_155) (by rfl) rfl ?hr_155 ?hk_155; (case hr_155 => (go_simp; first | with_reducible rfl | (constructor <;> with_reducible rfl))))
            (refine hK.out _ _ hHeld ?hn_156; intro _; clear hK K)
            (refine norm_ (a' := ?a_157) ?ha_157 ?hh_157; (case ha_157 => (simp (disch := omega) only [Act.put, List.setIfInBounds_toArray, List.set_cons_zero, List.set_cons_succ, wrap_in]; rfl)))
            first | (refine take_ (i := 9) (N := some 85) (v := undef) (a' := ?a_158) #[true, true, true, true, true, true, true, true, true, true, false] rfl rfl (by kernel_rfl) (fun _ _ _ h => h) (Or.inr ⟨by rfl, rfl⟩) hHeld ?ha_158 ?hh_158; (case ha_158 => (simp (disch := omega) only [Act.put, List.setIfInBounds_toArray, List.set_cons_zero, List.set_cons_succ, wrap_in]; rfl))) | (refine take_ (i := 9) (N := some 85) (v := ?v_158) (a' := ?a_158) #[true, true, true, true, true, true, true, true, true, true, false] rfl rfl (by kernel_rfl) (fun _ _ _ h => h) (Or.inl ⟨by rfl, ?hy_158⟩) hHeld ?ha_158 ?hh_158; (case hy_158 => (rintro w' ⟨s0_, s1_, s2_, s3_, s4_, s5_, s6_, s7_, s8_, s9_, s10_, s11_⟩; go_simp; with_reducible rfl)); (case ha_158 => (simp (disch := omega) only [Act.put, List.setIfInBounds_toArray, List.set_cons_zero, List.set_cons_succ, wrap_in]; rfl)))
            (refine take_ (i := 10) (N := some 86) (v := ?v_159) (a' := ?a_159) #[true, true, true, true, true, true, true, true, true, true, true] rfl rfl (by kernel_rfl) (fun _ _ _ h => h) (Or.inl ⟨by rfl, ?hy_159⟩) hHeld ?ha_159 ?hh_159; (case hy_159 => (rintro w' ⟨s0_, s1_, s2_, s3_, s4_, s5_, s6_, s7_, s8_, s9_, s10_, s11_⟩; go_simp; with_reducible rfl)); (case ha_159 => (simp (disch := omega) only [Act.put, List.setIfInBounds_toArray, List.set_cons_zero, List.set_cons_succ, wrap_in]; rfl)))
            refine done_ (by kernel_rfl) ?_
            have HT5 := Lib.hid (HZT.out _ HI5.out.bel)
            clear hHeld cv5
            have t0 : w5.cell? ⟨w.heap.size, 0, none⟩ = some (.int .i64 0) := cell_blk HT5.out 0 rfl
            have t1 : w5.cell? ⟨w.heap.size, 1, none⟩ = some (.int .i64 0) := cell_blk HT5.out 1 rfl
            have t2 : w5.cell? ⟨w.heap.size, 2, none⟩ = some (.int .i64 0) := cell_blk HT5.out 2 rfl
            have t3 : w5.cell? ⟨w.heap.size, 3, none⟩ = some (.int .i64 0) := cell_blk HT5.out 3 rfl
            have t4 : w5.cell? ⟨w.heap.size, 4, none⟩ = some (.int .i64 0) := cell_blk HT5.out 4 rfl
            have t5 : w5.cell? ⟨w.heap.size, 5, none⟩ = some (.int .i64 0) := cell_blk HT5.out 5 rfl
            have t6 : w5.cell? ⟨w.heap.size, 6, none⟩ = some (.int .i64 0) := cell_blk HT5.out 6 rfl
            have t7 : w5.cell? ⟨w.heap.size, 7, none⟩ = some (.slice none 0 0) := cell_blk HT5.out 7 rfl
            have t8 : w5.cell? ⟨w.heap.size, 8, none⟩ = some (.slice none 0 0) := cell_blk HT5.out 8 rfl
            have t9 : w5.cell? ⟨w.heap.size, 9, none⟩ = some (.int .i64 0) := cell_blk HT5.out 9 rfl
            have t10 : w5.cell? ⟨w.heap.size, 10, none⟩ = some (.slice none 0 0) := cell_blk HT5.out 10 rfl
            have f0 := free_blk HT5.out 0
            have f1 := free_blk HT5.out 1
            have f2 := free_blk HT5.out 2
            have f3 := free_blk HT5.out 3
            have f4 := free_blk HT5.out 4
            have f5 := free_blk HT5.out 5
            have f6 := free_blk HT5.out 6
            have f7 := free_blk HT5.out 7
            have f8 := free_blk HT5.out 8
            have f9 := free_blk HT5.out 9
            have f10 := free_blk HT5.out 10
            have e0 : w5.cell? ⟨kr, 0, none⟩ = some (.int .i64 r.kind) := cell_blk HI5.out.cells 0 rfl
            have e1 : w5.cell? ⟨kr, 1, none⟩ = some (.int .i64 r.shard) := cell_blk HI5.out.cells 1 rfl
            have e2 : w5.cell? ⟨kr, 2, none⟩ = some (.int .i64 r.epoch) := cell_blk HI5.out.cells 2 rfl
            have e3 : w5.cell? ⟨kr, 3, none⟩ = some (.int .i64 r.peer) := cell_blk HI5.out.cells 3 rfl
            have e4 : w5.cell? ⟨kr, 4, none⟩ = some (.int .i64 r.client) := cell_blk HI5.out.cells 4 rfl
            have e5 : w5.cell? ⟨kr, 5, none⟩ = some (.int .i64 r.seq) := cell_blk HI5.out.cells 5 rfl
            have e6 : w5.cell? ⟨kr, 6, none⟩ = some (.int .i64 r.op.kind) := cell_blk HI5.out.cells 6 rfl
            have e7 : w5.cell? ⟨kr, 7, none⟩ = some (.slice K.1 K.2.1 K.2.2) := cell_blk HI5.out.cells 7 rfl
            have e8 : w5.cell? ⟨kr, 8, none⟩ = some (.slice V.1 V.2.1 V.2.2) := cell_blk HI5.out.cells 8 rfl
            have e9 : w5.cell? ⟨kr, 9, none⟩ = some (.int .i64 r.op.rev) := cell_blk HI5.out.cells 9 rfl
            have e10 : w5.cell? ⟨kr, 10, none⟩ = some (.slice C.1 C.2.1 C.2.2) := cell_blk HI5.out.cells 10 rfl
            go_wp2_with (fail)
            refine bodyPost_ret (v := .tuple #[recV r K V C, .int .i64 0]) ?_ rfl ?_
            · unfold recV recCells
              simp [results, Try.results11, go_sem, *]
            · exact QDecP.good (HZ.out.trans (HI5.out.bel.mono HZ.out.size)) HZS.out (by rw [decode_ref HBY.out, HR.out, if_pos ⟨hs, HE.out⟩]) hs HI5.out _ _ _ _ _ _ _ _ _ _ _
          · have hss : (s1.toList == s2.toList) = false := by
              rw [beq_eq_false_iff_ne]
              intro h
              rw [← HS1.out, ← HS2.out] at h
              exact he (strL_inj (formR_byt hs (by rw [← HR.out]; exact qec_byt HBY.out)) HBY.out h)
            have HE := Lib.hid he
            clear he
            refine start_ (n := 11) (S := fun w' => w'.cell? ⟨kr, 0, none⟩ = some (.int .i64 r.kind) ∧ w'.cell? ⟨kr, 1, none⟩ = some (.int .i64 r.shard) ∧ w'.cell? ⟨kr, 2, none⟩ = some (.int .i64 r.epoch) ∧ w'.cell? ⟨kr, 3, none⟩ = some (.int .i64 r.peer) ∧ w'.cell? ⟨kr, 4, none⟩ = some (.int .i64 r.client) ∧ w'.cell? ⟨kr, 5, none⟩ = some (.int .i64 r.seq) ∧ w'.cell? ⟨kr, 6, none⟩ = some (.int .i64 r.op.kind) ∧ w'.cell? ⟨kr, 7, none⟩ = some (.slice K.1 K.2.1 K.2.2) ∧ w'.cell? ⟨kr, 8, none⟩ = some (.slice V.1 V.2.1 V.2.2) ∧ w'.cell? ⟨kr, 9, none⟩ = some (.int .i64 r.op.rev) ∧ w'.cell? ⟨kr, 10, none⟩ = some (.slice C.1 C.2.1 C.2.2) ∧ (convert 22 9 (.slice B p.length cc)).run Try.prog w' = .ok (.string s2) w') (ds := []) #[false, false, false, false, false, false, false, false, false, false, false] (by kernel_rfl) rfl rfl ⟨cell_blk HI.out.cells 0 rfl, cell_blk HI.out.cells 1 rfl, cell_blk HI.out.cells 2 rfl, cell_blk HI.out.cells 3 rfl, cell_blk HI.out.cells 4 rfl, cell_blk HI.out.cells 5 rfl, cell_blk HI.out.cells 6 rfl, cell_blk HI.out.cells 7 rfl, cell_blk HI.out.cells 8 rfl, cell_blk HI.out.cells 9 rfl, cell_blk HI.out.cells 10 rfl, (by rw [← HS2.out]; exact HCV.out)⟩ (fun hHeld => ?_)
            (refine take_ (i := 0) (N := some 76) (v := ?v_162) (a' := ?a_162) #[true, false, false, false, false, false, false, false, false, false, false] rfl rfl (by kernel_rfl) (fun _ _ _ h => h) (Or.inl ⟨by rfl, ?hy_162⟩) hHeld ?ha_162 ?hh_162; (case hy_162 => (rintro w' ⟨s0_, s1_, s2_, s3_, s4_, s5_, s6_, s7_, s8_, s9_, s10_, s11_⟩; go_simp; with_reducible rfl)); (case ha_162 => (simp (disch := omega) only [Act.put, List.setIfInBounds_toArray, List.set_cons_zero, List.set_cons_succ, wrap_in]; rfl)))
            refine one_ (i := 1) (N := some 77) #[true, true, false, false, false, false, false, false, false, false, false] rfl rfl (by kernel_rfl) (by decide) (fun K hK => ?_)
            (refine goes_ Try.func17 (by kernel_rfl) rfl ?args_164 (by rfl) rfl rfl ?hargs_164 ?hc_164; (case hargs_164 => (go_simp; with_reducible rfl)))
            (refine (SO.out _).mono ?_; rintro e w3 ⟨rfl, hb3⟩; have HI3 := Lib.hid (HD.out.below hb3); have HCV3 := Lib.hid (conv_any (c := cc) (HY.out.below (HBW.out.drew.trans (hb3.mono HBW.out.size)))); refine ⟨_, rfl, ?_⟩)
            (refine hK.out _ _ ?hs_166 ?hn_166; (case hs_166 => (exact ⟨cell_blk HI3.out.cells 0 rfl, cell_blk HI3.out.cells 1 rfl, cell_blk HI3.out.cells 2 rfl, cell_blk HI3.out.cells 3 rfl, cell_blk HI3.out.cells 4 rfl, cell_blk HI3.out.cells 5 rfl, cell_blk HI3.out.cells 6 rfl, cell_blk HI3.out.cells 7 rfl, cell_blk HI3.out.cells 8 rfl, cell_blk HI3.out.cells 9 rfl, cell_blk HI3.out.cells 10 rfl, by rw [← HS2.out]; exact HCV3.out⟩)); intro hHeld; clear hK K)
            (refine norm_ (a' := ?a_167) ?ha_167 ?hh_167; (case ha_167 => (simp (disch := omega) only [Act.put, List.setIfInBounds_toArray, List.set_cons_zero, List.set_cons_succ, wrap_in]; rfl)))
            (refine take_ (i := 2) (N := some 78) (v := ?v_168) (a' := ?a_168) #[true, true, true, false, false, false, false, false, false, false, false] rfl rfl (by kernel_rfl) (fun _ _ _ h => h) (Or.inl ⟨by rfl, ?hy_168⟩) hHeld ?ha_168 ?hh_168; (case hy_168 => (rintro w' ⟨s0_, s1_, s2_, s3_, s4_, s5_, s6_, s7_, s8_, s9_, s10_, s11_⟩; go_simp; with_reducible rfl)); (case ha_168 => (simp (disch := omega) only [Act.put, List.setIfInBounds_toArray, List.set_cons_zero, List.set_cons_succ, wrap_in]; rfl)))
            (refine take_ (i := 3) (N := some 79) (v := ?v_169) (a' := ?a_169) #[true, true, true, true, false, false, false, false, false, false, false] rfl rfl (by kernel_rfl) (fun _ _ _ h => h) (Or.inl ⟨by rfl, ?hy_169⟩) hHeld ?ha_169 ?hh_169; (case hy_169 => (rintro w' ⟨s0_, s1_, s2_, s3_, s4_, s5_, s6_, s7_, s8_, s9_, s10_, s11_⟩; go_simp; with_reducible rfl)); (case ha_169 => (simp (disch := omega) only [Act.put, List.setIfInBounds_toArray, List.set_cons_zero, List.set_cons_succ, wrap_in]; rfl)))
            first | (refine take_ (i := 4) (N := some 80) (v := undef) (a' := ?a_170) #[true, true, true, true, true, false, false, false, false, false, false] rfl rfl (by kernel_rfl) (fun _ _ _ h => h) (Or.inr ⟨by rfl, rfl⟩) hHeld ?ha_170 ?hh_170; (case ha_170 => (simp (disch := omega) only [Act.put, List.setIfInBounds_toArray, List.set_cons_zero, List.set_cons_succ, wrap_in]; rfl))) | (refine take_ (i := 4) (N := some 80) (v := ?v_170) (a' := ?a_170) #[true, true, true, true, true, false, false, false, false, false, false] rfl rfl (by kernel_rfl) (fun _ _ _ h => h) (Or.inl ⟨by rfl, ?hy_170⟩) hHeld ?ha_170 ?hh_170; (case hy_170 => (rintro w' ⟨s0_, s1_, s2_, s3_, s4_, s5_, s6_, s7_, s8_, s9_, s10_, s11_⟩; go_simp; with_reducible rfl)); (case ha_170 => (simp (disch := omega) only [Act.put, List.setIfInBounds_toArray, List.set_cons_zero, List.set_cons_succ, wrap_in]; rfl)))
            first | (refine take_ (i := 7) (N := some 83) (v := undef) (a' := ?a_171) #[true, true, true, true, true, false, false, true, false, false, false] rfl rfl (by kernel_rfl) (fun _ _ _ h => h) (Or.inr ⟨by rfl, rfl⟩) hHeld ?ha_171 ?hh_171; (case ha_171 => (simp (disch := omega) only [Act.put, List.setIfInBounds_toArray, List.set_cons_zero, List.set_cons_succ, wrap_in]; rfl))) | (refine take_ (i := 7) (N := some 83) (v := ?v_171) (a' := ?a_171) #[true, true, true, true, true, false, false, true, false, false, false] rfl rfl (by kernel_rfl) (fun _ _ _ h => h) (Or.inl ⟨by rfl, ?hy_171⟩) hHeld ?ha_171 ?hh_171; (case hy_171 => (rintro w' ⟨s0_, s1_, s2_, s3_, s4_, s5_, s6_, s7_, s8_, s9_, s10_, s11_⟩; go_simp; with_reducible rfl)); (case ha_171 => (simp (disch := omega) only [Act.put, List.setIfInBounds_toArray, List.set_cons_zero, List.set_cons_succ, wrap_in]; rfl)))
            first | (refine take_ (i := 8) (N := some 84) (v := undef) (a' := ?a_172) #[true, true, true, true, true, false, false, true, true, false, false] rfl rfl (by kernel_rfl) (fun _ _ _ h => h) (Or.inr ⟨by rfl, rfl⟩) hHeld ?ha_172 ?hh_172; (case ha_172 => (simp (disch := omega) only [Act.put, List.setIfInBounds_toArray, List.set_cons_zero, List.set_cons_succ, wrap_in]; rfl))) | (refine take_ (i := 8) (N := some 84) (v := ?v_172) (a' := ?a_172) #[true, true, true, true, true, false, false, true, true, false, false] rfl rfl (by kernel_rfl) (fun _ _ _ h => h) (Or.inl ⟨by rfl, ?hy_172⟩) hHeld ?ha_172 ?hh_172; (case hy_172 => (rintro w' ⟨s0_, s1_, s2_, s3_, s4_, s5_, s6_, s7_, s8_, s9_, s10_, s11_⟩; go_simp; with_reducible rfl)); (case ha_172 => (simp (disch := omega) only [Act.put, List.setIfInBounds_toArray, List.set_cons_zero, List.set_cons_succ, wrap_in]; rfl)))
            refine one_ (i := 5) (N := some 81) #[true, true, true, true, true, true, false, true, true, false, false] rfl rfl (by kernel_rfl) (by decide) (fun K hK => ?_)
            (refine goes_ Try.func31 (by kernel_rfl) rfl ?args_174 (by rfl) rfl rfl ?hargs_174 ?hc_174; (case hargs_174 => (go_simp; with_reducible rfl)))
            (have FO := refForm16_any hs (by rw [← HR.out]; exact qec_byt HBY.out) HI3.out.key.slAt HI3.out.val.slAt HI3.out.copy.slAt; unfold recV recCells at FO; refine FO.mono ?_; rintro e w5 ⟨A, c, rfl, hg, hb5⟩; have HI5 := Lib.hid (HI3.out.below hb5); have HCV5 := Lib.hid (conv_any (c := cc) (HY.out.below (HZ.out.trans (HI5.out.bel.mono HZ.out.size)))); have cv5 := conv_any (c := c) hg.srcB; rw [HS1.out] at cv5; refine ⟨_, rfl, ?_⟩)
            (refine hK.out _ _ ?hs_176 ?hn_176; (case hs_176 => (exact ⟨cell_blk HI5.out.cells 0 rfl, cell_blk HI5.out.cells 1 rfl, cell_blk HI5.out.cells 2 rfl, cell_blk HI5.out.cells 3 rfl, cell_blk HI5.out.cells 4 rfl, cell_blk HI5.out.cells 5 rfl, cell_blk HI5.out.cells 6 rfl, cell_blk HI5.out.cells 7 rfl, cell_blk HI5.out.cells 8 rfl, cell_blk HI5.out.cells 9 rfl, cell_blk HI5.out.cells 10 rfl, by rw [← HS2.out]; exact HCV5.out⟩)); intro hHeld; clear hK K)
            (refine norm_ (a' := ?a_177) ?ha_177 ?hh_177; (case ha_177 => (simp (disch := omega) only [Act.put, List.setIfInBounds_toArray, List.set_cons_zero, List.set_cons_succ, wrap_in]; rfl)))
            refine one_ (i := 6) (N := some 82) #[true, true, true, true, true, true, true, true, true, false, false] rfl rfl (by kernel_rfl) (by decide) (fun K hK => ?_)
            first | (refine off_ (by rfl) ?hk_179) | (refine value_ (v := ?v_179) (w1 := ?w1_179) (by rfl) rfl ?hr_179 ?hk_179; (case hr_179 => (go_simp; first | with_reducible rfl | (constructor <;> with_reducible rfl))))
            (refine hK.out _ _ hHeld ?hn_180; intro _; clear hK K)
            (refine norm_ (a' := ?a_181) ?ha_181 ?hh_181; (case ha_181 => (simp (disch := omega) only [Act.put, List.setIfInBounds_toArray, List.set_cons_zero, List.set_cons_succ, wrap_in]; rfl)))
            first | (refine take_ (i := 9) (N := some 85) (v := undef) (a' := ?a_182) #[true, true, true, true, true, true, true, true, true, true, false] rfl rfl (by kernel_rfl) (fun _ _ _ h => h) (Or.inr ⟨by rfl, rfl⟩) hHeld ?ha_182 ?hh_182; (case ha_182 => (simp (disch := omega) only [Act.put, List.setIfInBounds_toArray, List.set_cons_zero, List.set_cons_succ, wrap_in]; rfl))) | (refine take_ (i := 9) (N := some 85) (v := ?v_182) (a' := ?a_182) #[true, true, true, true, true, true, true, true, true, true, false] rfl rfl (by kernel_rfl) (fun _ _ _ h => h) (Or.inl ⟨by rfl, ?hy_182⟩) hHeld ?ha_182 ?hh_182; (case hy_182 => (rintro w' ⟨s0_, s1_, s2_, s3_, s4_, s5_, s6_, s7_, s8_, s9_, s10_, s11_⟩; go_simp; with_reducible rfl)); (case ha_182 => (simp (disch := omega) only [Act.put, List.setIfInBounds_toArray, List.set_cons_zero, List.set_cons_succ, wrap_in]; rfl)))
            (refine take_ (i := 10) (N := some 86) (v := ?v_183) (a' := ?a_183) #[true, true, true, true, true, true, true, true, true, true, true] rfl rfl (by kernel_rfl) (fun _ _ _ h => h) (Or.inl ⟨by rfl, ?hy_183⟩) hHeld ?ha_183 ?hh_183; (case hy_183 => (rintro w' ⟨s0_, s1_, s2_, s3_, s4_, s5_, s6_, s7_, s8_, s9_, s10_, s11_⟩; go_simp; with_reducible rfl)); (case ha_183 => (simp (disch := omega) only [Act.put, List.setIfInBounds_toArray, List.set_cons_zero, List.set_cons_succ, wrap_in]; rfl)))
            refine done_ (by kernel_rfl) ?_
            have HT5 := Lib.hid (HZT.out _ HI5.out.bel)
            clear hHeld cv5
            have t0 : w5.cell? ⟨w.heap.size, 0, none⟩ = some (.int .i64 0) := cell_blk HT5.out 0 rfl
            have t1 : w5.cell? ⟨w.heap.size, 1, none⟩ = some (.int .i64 0) := cell_blk HT5.out 1 rfl
            have t2 : w5.cell? ⟨w.heap.size, 2, none⟩ = some (.int .i64 0) := cell_blk HT5.out 2 rfl
            have t3 : w5.cell? ⟨w.heap.size, 3, none⟩ = some (.int .i64 0) := cell_blk HT5.out 3 rfl
            have t4 : w5.cell? ⟨w.heap.size, 4, none⟩ = some (.int .i64 0) := cell_blk HT5.out 4 rfl
            have t5 : w5.cell? ⟨w.heap.size, 5, none⟩ = some (.int .i64 0) := cell_blk HT5.out 5 rfl
            have t6 : w5.cell? ⟨w.heap.size, 6, none⟩ = some (.int .i64 0) := cell_blk HT5.out 6 rfl
            have t7 : w5.cell? ⟨w.heap.size, 7, none⟩ = some (.slice none 0 0) := cell_blk HT5.out 7 rfl
            have t8 : w5.cell? ⟨w.heap.size, 8, none⟩ = some (.slice none 0 0) := cell_blk HT5.out 8 rfl
            have t9 : w5.cell? ⟨w.heap.size, 9, none⟩ = some (.int .i64 0) := cell_blk HT5.out 9 rfl
            have t10 : w5.cell? ⟨w.heap.size, 10, none⟩ = some (.slice none 0 0) := cell_blk HT5.out 10 rfl
            have f0 := free_blk HT5.out 0
            have f1 := free_blk HT5.out 1
            have f2 := free_blk HT5.out 2
            have f3 := free_blk HT5.out 3
            have f4 := free_blk HT5.out 4
            have f5 := free_blk HT5.out 5
            have f6 := free_blk HT5.out 6
            have f7 := free_blk HT5.out 7
            have f8 := free_blk HT5.out 8
            have f9 := free_blk HT5.out 9
            have f10 := free_blk HT5.out 10
            go_wp2_with (fail)
            refine bodyPost_ret (v := .tuple #[.agg #[.int .i64 0, .int .i64 0, .int .i64 0, .int .i64 0, .int .i64 0, .int .i64 0, .int .i64 0, .slice none 0 0, .slice none 0 0, .int .i64 0, .slice none 0 0], .int .i64 160]) ?_ rfl ?_
            · simp [results, Try.results11, go_sem, *]
            · exact QDecP.bad (HZ.out.trans (HI5.out.bel.mono HZ.out.size)) (by rw [decode_ref HBY.out, HR.out, if_neg (fun h => HE.out h.2)]) _ _ _ _ _ _ _ _ _ _ _
        · rw [decide_eq_false hs] at SO
          refine start_ (n := 11) (S := fun w' => w'.cell? ⟨kr, 0, none⟩ = some (.int .i64 r.kind) ∧ w'.cell? ⟨kr, 1, none⟩ = some (.int .i64 r.shard) ∧ w'.cell? ⟨kr, 2, none⟩ = some (.int .i64 r.epoch) ∧ w'.cell? ⟨kr, 3, none⟩ = some (.int .i64 r.peer) ∧ w'.cell? ⟨kr, 4, none⟩ = some (.int .i64 r.client) ∧ w'.cell? ⟨kr, 5, none⟩ = some (.int .i64 r.seq) ∧ w'.cell? ⟨kr, 6, none⟩ = some (.int .i64 r.op.kind) ∧ w'.cell? ⟨kr, 7, none⟩ = some (.slice K.1 K.2.1 K.2.2) ∧ w'.cell? ⟨kr, 8, none⟩ = some (.slice V.1 V.2.1 V.2.2) ∧ w'.cell? ⟨kr, 9, none⟩ = some (.int .i64 r.op.rev) ∧ w'.cell? ⟨kr, 10, none⟩ = some (.slice C.1 C.2.1 C.2.2) ∧ (convert 22 9 (.slice B p.length cc)).run Try.prog w' = .ok (.string s2) w') (ds := []) #[false, false, false, false, false, false, false, false, false, false, false] (by kernel_rfl) rfl rfl ⟨cell_blk HI.out.cells 0 rfl, cell_blk HI.out.cells 1 rfl, cell_blk HI.out.cells 2 rfl, cell_blk HI.out.cells 3 rfl, cell_blk HI.out.cells 4 rfl, cell_blk HI.out.cells 5 rfl, cell_blk HI.out.cells 6 rfl, cell_blk HI.out.cells 7 rfl, cell_blk HI.out.cells 8 rfl, cell_blk HI.out.cells 9 rfl, cell_blk HI.out.cells 10 rfl, (by rw [← HS2.out]; exact HCV.out)⟩ (fun hHeld => ?_)
          (refine take_ (i := 0) (N := some 76) (v := ?v_186) (a' := ?a_186) #[true, false, false, false, false, false, false, false, false, false, false] rfl rfl (by kernel_rfl) (fun _ _ _ h => h) (Or.inl ⟨by rfl, ?hy_186⟩) hHeld ?ha_186 ?hh_186; (case hy_186 => (rintro w' ⟨s0_, s1_, s2_, s3_, s4_, s5_, s6_, s7_, s8_, s9_, s10_, s11_⟩; go_simp; with_reducible rfl)); (case ha_186 => (simp (disch := omega) only [Act.put, List.setIfInBounds_toArray, List.set_cons_zero, List.set_cons_succ, wrap_in]; rfl)))
          refine one_ (i := 1) (N := some 77) #[true, true, false, false, false, false, false, false, false, false, false] rfl rfl (by kernel_rfl) (by decide) (fun K hK => ?_)
          (refine goes_ Try.func17 (by kernel_rfl) rfl ?args_188 (by rfl) rfl rfl ?hargs_188 ?hc_188; (case hargs_188 => (go_simp; with_reducible rfl)))
          (refine (SO.out _).mono ?_; rintro e w3 ⟨rfl, hb3⟩; have HI3 := Lib.hid (HD.out.below hb3); have HCV3 := Lib.hid (conv_any (c := cc) (HY.out.below (HBW.out.drew.trans (hb3.mono HBW.out.size)))); refine ⟨_, rfl, ?_⟩)
          (refine hK.out _ _ ?hs_190 ?hn_190; (case hs_190 => (exact ⟨cell_blk HI3.out.cells 0 rfl, cell_blk HI3.out.cells 1 rfl, cell_blk HI3.out.cells 2 rfl, cell_blk HI3.out.cells 3 rfl, cell_blk HI3.out.cells 4 rfl, cell_blk HI3.out.cells 5 rfl, cell_blk HI3.out.cells 6 rfl, cell_blk HI3.out.cells 7 rfl, cell_blk HI3.out.cells 8 rfl, cell_blk HI3.out.cells 9 rfl, cell_blk HI3.out.cells 10 rfl, by rw [← HS2.out]; exact HCV3.out⟩)); intro hHeld; clear hK K)
          (refine norm_ (a' := ?a_191) ?ha_191 ?hh_191; (case ha_191 => (simp (disch := omega) only [Act.put, List.setIfInBounds_toArray, List.set_cons_zero, List.set_cons_succ, wrap_in]; rfl)))
          (refine take_ (i := 2) (N := some 78) (v := ?v_192) (a' := ?a_192) #[true, true, true, false, false, false, false, false, false, false, false] rfl rfl (by kernel_rfl) (fun _ _ _ h => h) (Or.inl ⟨by rfl, ?hy_192⟩) hHeld ?ha_192 ?hh_192; (case hy_192 => (rintro w' ⟨s0_, s1_, s2_, s3_, s4_, s5_, s6_, s7_, s8_, s9_, s10_, s11_⟩; go_simp; with_reducible rfl)); (case ha_192 => (simp (disch := omega) only [Act.put, List.setIfInBounds_toArray, List.set_cons_zero, List.set_cons_succ, wrap_in]; rfl)))
          (refine take_ (i := 3) (N := some 79) (v := ?v_193) (a' := ?a_193) #[true, true, true, true, false, false, false, false, false, false, false] rfl rfl (by kernel_rfl) (fun _ _ _ h => h) (Or.inl ⟨by rfl, ?hy_193⟩) hHeld ?ha_193 ?hh_193; (case hy_193 => (rintro w' ⟨s0_, s1_, s2_, s3_, s4_, s5_, s6_, s7_, s8_, s9_, s10_, s11_⟩; go_simp; with_reducible rfl)); (case ha_193 => (simp (disch := omega) only [Act.put, List.setIfInBounds_toArray, List.set_cons_zero, List.set_cons_succ, wrap_in]; rfl)))
          first | (refine take_ (i := 4) (N := some 80) (v := undef) (a' := ?a_194) #[true, true, true, true, true, false, false, false, false, false, false] rfl rfl (by kernel_rfl) (fun _ _ _ h => h) (Or.inr ⟨by rfl, rfl⟩) hHeld ?ha_194 ?hh_194; (case ha_194 => (simp (disch := omega) only [Act.put, List.setIfInBounds_toArray, List.set_cons_zero, List.set_cons_succ, wrap_in]; rfl))) | (refine take_ (i := 4) (N := some 80) (v := ?v_194) (a' := ?a_194) #[true, true, true, true, true, false, false, false, false, false, false] rfl rfl (by kernel_rfl) (fun _ _ _ h => h) (Or.inl ⟨by rfl, ?hy_194⟩) hHeld ?ha_194 ?hh_194; (case hy_194 => (rintro w' ⟨s0_, s1_, s2_, s3_, s4_, s5_, s6_, s7_, s8_, s9_, s10_, s11_⟩; go_simp; with_reducible rfl)); (case ha_194 => (simp (disch := omega) only [Act.put, List.setIfInBounds_toArray, List.set_cons_zero, List.set_cons_succ, wrap_in]; rfl)))
          first | (refine take_ (i := 7) (N := some 83) (v := undef) (a' := ?a_195) #[true, true, true, true, true, false, false, true, false, false, false] rfl rfl (by kernel_rfl) (fun _ _ _ h => h) (Or.inr ⟨by rfl, rfl⟩) hHeld ?ha_195 ?hh_195; (case ha_195 => (simp (disch := omega) only [Act.put, List.setIfInBounds_toArray, List.set_cons_zero, List.set_cons_succ, wrap_in]; rfl))) | (refine take_ (i := 7) (N := some 83) (v := ?v_195) (a' := ?a_195) #[true, true, true, true, true, false, false, true, false, false, false] rfl rfl (by kernel_rfl) (fun _ _ _ h => h) (Or.inl ⟨by rfl, ?hy_195⟩) hHeld ?ha_195 ?hh_195; (case hy_195 => (rintro w' ⟨s0_, s1_, s2_, s3_, s4_, s5_, s6_, s7_, s8_, s9_, s10_, s11_⟩; go_simp; with_reducible rfl)); (case ha_195 => (simp (disch := omega) only [Act.put, List.setIfInBounds_toArray, List.set_cons_zero, List.set_cons_succ, wrap_in]; rfl)))
          first | (refine take_ (i := 8) (N := some 84) (v := undef) (a' := ?a_196) #[true, true, true, true, true, false, false, true, true, false, false] rfl rfl (by kernel_rfl) (fun _ _ _ h => h) (Or.inr ⟨by rfl, rfl⟩) hHeld ?ha_196 ?hh_196; (case ha_196 => (simp (disch := omega) only [Act.put, List.setIfInBounds_toArray, List.set_cons_zero, List.set_cons_succ, wrap_in]; rfl))) | (refine take_ (i := 8) (N := some 84) (v := ?v_196) (a' := ?a_196) #[true, true, true, true, true, false, false, true, true, false, false] rfl rfl (by kernel_rfl) (fun _ _ _ h => h) (Or.inl ⟨by rfl, ?hy_196⟩) hHeld ?ha_196 ?hh_196; (case hy_196 => (rintro w' ⟨s0_, s1_, s2_, s3_, s4_, s5_, s6_, s7_, s8_, s9_, s10_, s11_⟩; go_simp; with_reducible rfl)); (case ha_196 => (simp (disch := omega) only [Act.put, List.setIfInBounds_toArray, List.set_cons_zero, List.set_cons_succ, wrap_in]; rfl)))
          (refine take_ (i := 5) (N := some 81) (v := undef) (a' := ?a_197) #[true, true, true, true, true, true, false, true, true, false, false] rfl rfl (by kernel_rfl) (fun _ _ _ h => h) (Or.inr ⟨by rfl, rfl⟩) hHeld ?ha_197 ?hh_197; (case ha_197 => (simp (disch := omega) only [Act.put, List.setIfInBounds_toArray, List.set_cons_zero, List.set_cons_succ, wrap_in]; rfl)))
          refine one_ (i := 6) (N := some 82) #[true, true, true, true, true, true, true, true, true, false, false] rfl rfl (by kernel_rfl) (by decide) (fun K hK => ?_)
          first | (refine off_ (by rfl) ?hk_199) | (refine value_ (v := ?v_199) (w1 := ?w1_199) (by rfl) rfl ?hr_199 ?hk_199; (case hr_199 => (go_simp; first | with_reducible rfl | (constructor <;> with_reducible rfl))))
          (refine hK.out _ _ hHeld ?hn_200; intro _; clear hK K)
          (refine norm_ (a' := ?a_201) ?ha_201 ?hh_201; (case ha_201 => (simp (disch := omega) only [Act.put, List.setIfInBounds_toArray, List.set_cons_zero, List.set_cons_succ, wrap_in]; rfl)))
          first | (refine take_ (i := 9) (N := some 85) (v := undef) (a' := ?a_202) #[true, true, true, true, true, true, true, true, true, true, false] rfl rfl (by kernel_rfl) (fun _ _ _ h => h) (Or.inr ⟨by rfl, rfl⟩) hHeld ?ha_202 ?hh_202; (case ha_202 => (simp (disch := omega) only [Act.put, List.setIfInBounds_toArray, List.set_cons_zero, List.set_cons_succ, wrap_in]; rfl))) | (refine take_ (i := 9) (N := some 85) (v := ?v_202) (a' := ?a_202) #[true, true, true, true, true, true, true, true, true, true, false] rfl rfl (by kernel_rfl) (fun _ _ _ h => h) (Or.inl ⟨by rfl, ?hy_202⟩) hHeld ?ha_202 ?hh_202; (case hy_202 => (rintro w' ⟨s0_, s1_, s2_, s3_, s4_, s5_, s6_, s7_, s8_, s9_, s10_, s11_⟩; go_simp; with_reducible rfl)); (case ha_202 => (simp (disch := omega) only [Act.put, List.setIfInBounds_toArray, List.set_cons_zero, List.set_cons_succ, wrap_in]; rfl)))
          (refine take_ (i := 10) (N := some 86) (v := ?v_203) (a' := ?a_203) #[true, true, true, true, true, true, true, true, true, true, true] rfl rfl (by kernel_rfl) (fun _ _ _ h => h) (Or.inl ⟨by rfl, ?hy_203⟩) hHeld ?ha_203 ?hh_203; (case hy_203 => (rintro w' ⟨s0_, s1_, s2_, s3_, s4_, s5_, s6_, s7_, s8_, s9_, s10_, s11_⟩; go_simp; with_reducible rfl)); (case ha_203 => (simp (disch := omega) only [Act.put, List.setIfInBounds_toArray, List.set_cons_zero, List.set_cons_succ, wrap_in]; rfl)))
          refine done_ (by kernel_rfl) ?_
          have HT3 := Lib.hid (HZT.out _ HI3.out.bel)
          clear hHeld
          have t0 : w3.cell? ⟨w.heap.size, 0, none⟩ = some (.int .i64 0) := cell_blk HT3.out 0 rfl
          have t1 : w3.cell? ⟨w.heap.size, 1, none⟩ = some (.int .i64 0) := cell_blk HT3.out 1 rfl
          have t2 : w3.cell? ⟨w.heap.size, 2, none⟩ = some (.int .i64 0) := cell_blk HT3.out 2 rfl
          have t3 : w3.cell? ⟨w.heap.size, 3, none⟩ = some (.int .i64 0) := cell_blk HT3.out 3 rfl
          have t4 : w3.cell? ⟨w.heap.size, 4, none⟩ = some (.int .i64 0) := cell_blk HT3.out 4 rfl
          have t5 : w3.cell? ⟨w.heap.size, 5, none⟩ = some (.int .i64 0) := cell_blk HT3.out 5 rfl
          have t6 : w3.cell? ⟨w.heap.size, 6, none⟩ = some (.int .i64 0) := cell_blk HT3.out 6 rfl
          have t7 : w3.cell? ⟨w.heap.size, 7, none⟩ = some (.slice none 0 0) := cell_blk HT3.out 7 rfl
          have t8 : w3.cell? ⟨w.heap.size, 8, none⟩ = some (.slice none 0 0) := cell_blk HT3.out 8 rfl
          have t9 : w3.cell? ⟨w.heap.size, 9, none⟩ = some (.int .i64 0) := cell_blk HT3.out 9 rfl
          have t10 : w3.cell? ⟨w.heap.size, 10, none⟩ = some (.slice none 0 0) := cell_blk HT3.out 10 rfl
          have f0 := free_blk HT3.out 0
          have f1 := free_blk HT3.out 1
          have f2 := free_blk HT3.out 2
          have f3 := free_blk HT3.out 3
          have f4 := free_blk HT3.out 4
          have f5 := free_blk HT3.out 5
          have f6 := free_blk HT3.out 6
          have f7 := free_blk HT3.out 7
          have f8 := free_blk HT3.out 8
          have f9 := free_blk HT3.out 9
          have f10 := free_blk HT3.out 10
          go_wp2_with (fail)
          refine bodyPost_ret (v := .tuple #[.agg #[.int .i64 0, .int .i64 0, .int .i64 0, .int .i64 0, .int .i64 0, .int .i64 0, .int .i64 0, .slice none 0 0, .slice none 0 0, .int .i64 0, .slice none 0 0], .int .i64 160]) ?_ rfl ?_
          · simp [results, Try.results11, go_sem, *]
          · exact QDecP.bad (HZ.out.trans (HI3.out.bel.mono HZ.out.size)) (by rw [decode_ref HBY.out, HR.out, if_neg (fun h => hs h.1)]) _ _ _ _ _ _ _ _ _ _ _
  · by_cases k2 : q1.1 = 2
    · have HI := HI0
      clear HI0
      obtain ⟨q3, hq3⟩ : ∃ q, q2.2.num = q := ⟨_, rfl⟩
      have CA := Lib.hid (HI.out.num hq3)
      have Hq3 := Lib.hid hq3
      clear hq3
      go_wp2_with (fail)
      refine CA.out.mono ?_
      rintro e wa17 ⟨rfl, I17⟩
      have hw17 : IntKind.i64.wrap (q3.1 : Int) = i64N q3.1 := wrap_i64N (by rw [← Hq3.out]; exact num_lt _ HI.out.byt)
      have ff17 := I17.free 3
      have cc17 := cell_blk I17.cells 3 rfl
      have HJ := Lib.hid (show QecI wA w1.heap.size k kr ⟨q1.1, i64N q2.1, 0, i64N q3.1, 0, 0, ⟨0, [], [], 0⟩, []⟩ (none, 0, 0) (none, 0, 0) (none, 0, 0) (wa17.setCell ⟨kr, 3, none⟩ (.int .i64 (i64N q3.1))) q3.2 from I17.set 3 (.int .i64 (i64N q3.1)) rfl I17.key I17.val I17.copy)
      clear HI I17 CA
      have HI := HJ
      clear HJ
      go_wp2_with (fail)
      generalize wa17.setCell ⟨kr, 3, none⟩ _ = wb17 at *
      clear cc17 ff17 hw17
      obtain ⟨r, hr⟩ : ∃ r : RZ, r = ⟨q1.1, i64N q2.1, 0, i64N q3.1, 0, 0, ⟨0, [], [], 0⟩, []⟩ := ⟨_, rfl⟩
      have HR := Lib.hid (show (qecR p).1 = r by rw [hr, HPQ.out]; unfold qecF; rw [if_neg k1, if_pos k2]; simp only [Hq3.out]; rfl)
      obtain ⟨K, hK⟩ : ∃ K : SlB, K = (none, 0, 0) := ⟨_, rfl⟩
      obtain ⟨V, hV⟩ : ∃ K : SlB, K = (none, 0, 0) := ⟨_, rfl⟩
      obtain ⟨C, hC⟩ : ∃ K : SlB, K = (none, 0, 0) := ⟨_, rfl⟩
      have HJ := Lib.hid (show QecI wA w1.heap.size k kr r K V C wb17 q3.2 by rw [hr, hK, hV, hC]; exact HI.out)
      clear HI hr hK hV hC
      have HI := HJ
      clear HJ
      have HBW := Lib.hid (show Below w.heap.size w wb17 from HZ.out.trans (HI.out.bel.mono HZ.out.size))
      have HCV := Lib.hid (show (convert 22 9 (.slice B p.length cc)).run Try.prog (wb17).drew = .ok (.string (strOfNums p)) (wb17).drew from conv_any (HY.out.below HBW.out.drew))
      have SO := Lib.hid (fun W => refSound_any (r := r) K V C HI.out.key.1 HI.out.val.1 HI.out.copy.1 W)
      unfold recV recCells at SO
      have HD := Lib.hid (HI.out.below (Below.refl _ _).drew)
      obtain ⟨s2, hs2⟩ : ∃ s2, strOfNums p = s2 := ⟨_, rfl⟩
      have HS2 := Lib.hid hs2
      clear hs2
      have HZT := Lib.hid (show ∀ W', Below wA.heap.size wA W' → W'.heap[w.heap.size]? = some (.cells (recCells RZ.none zSl zSl zSl) TRec (0, 0)) from fun W' hB => (hB.block _ (by rw [HZS.out]; omega)).trans HZB.out)
      by_cases hs : SoundR r
      · rw [decide_eq_true hs] at SO
        obtain ⟨s1, hs1⟩ : ∃ s1, strOfNums (formR r) = s1 := ⟨_, rfl⟩
        have HS1 := Lib.hid hs1
        clear hs1
        by_cases he : formR r = p
        · have hss : s2 = s1 := by rw [← HS1.out, ← HS2.out, he]
          subst hss
          have HE := Lib.hid he
          clear he
          refine start_ (n := 11) (S := fun w' => w'.cell? ⟨kr, 0, none⟩ = some (.int .i64 r.kind) ∧ w'.cell? ⟨kr, 1, none⟩ = some (.int .i64 r.shard) ∧ w'.cell? ⟨kr, 2, none⟩ = some (.int .i64 r.epoch) ∧ w'.cell? ⟨kr, 3, none⟩ = some (.int .i64 r.peer) ∧ w'.cell? ⟨kr, 4, none⟩ = some (.int .i64 r.client) ∧ w'.cell? ⟨kr, 5, none⟩ = some (.int .i64 r.seq) ∧ w'.cell? ⟨kr, 6, none⟩ = some (.int .i64 r.op.kind) ∧ w'.cell? ⟨kr, 7, none⟩ = some (.slice K.1 K.2.1 K.2.2) ∧ w'.cell? ⟨kr, 8, none⟩ = some (.slice V.1 V.2.1 V.2.2) ∧ w'.cell? ⟨kr, 9, none⟩ = some (.int .i64 r.op.rev) ∧ w'.cell? ⟨kr, 10, none⟩ = some (.slice C.1 C.2.1 C.2.2) ∧ (convert 22 9 (.slice B p.length cc)).run Try.prog w' = .ok (.string s2) w') (ds := []) #[false, false, false, false, false, false, false, false, false, false, false] (by kernel_rfl) rfl rfl ⟨cell_blk HI.out.cells 0 rfl, cell_blk HI.out.cells 1 rfl, cell_blk HI.out.cells 2 rfl, cell_blk HI.out.cells 3 rfl, cell_blk HI.out.cells 4 rfl, cell_blk HI.out.cells 5 rfl, cell_blk HI.out.cells 6 rfl, cell_blk HI.out.cells 7 rfl, cell_blk HI.out.cells 8 rfl, cell_blk HI.out.cells 9 rfl, cell_blk HI.out.cells 10 rfl, (by rw [← HS2.out]; exact HCV.out)⟩ (fun hHeld => ?_)
          (refine take_ (i := 0) (N := some 76) (v := ?v_206) (a' := ?a_206) #[true, false, false, false, false, false, false, false, false, false, false] rfl rfl (by kernel_rfl) (fun _ _ _ h => h) (Or.inl ⟨by rfl, ?hy_206⟩) hHeld ?ha_206 ?hh_206; (case hy_206 => (rintro w' ⟨s0_, s1_, s2_, s3_, s4_, s5_, s6_, s7_, s8_, s9_, s10_, s11_⟩; go_simp; with_reducible rfl)); (case ha_206 => (simp (disch := omega) only [Act.put, List.setIfInBounds_toArray, List.set_cons_zero, List.set_cons_succ, wrap_in]; rfl)))
          refine one_ (i := 1) (N := some 77) #[true, true, false, false, false, false, false, false, false, false, false] rfl rfl (by kernel_rfl) (by decide) (fun K hK => ?_)
          (refine goes_ Try.func17 (by kernel_rfl) rfl ?args_208 (by rfl) rfl rfl ?hargs_208 ?hc_208; (case hargs_208 => (go_simp; with_reducible rfl)))
          (refine (SO.out _).mono ?_; rintro e w3 ⟨rfl, hb3⟩; have HI3 := Lib.hid (HD.out.below hb3); have HCV3 := Lib.hid (conv_any (c := cc) (HY.out.below (HBW.out.drew.trans (hb3.mono HBW.out.size)))); refine ⟨_, rfl, ?_⟩)
          (refine hK.out _ _ ?hs_210 ?hn_210; (case hs_210 => (exact ⟨cell_blk HI3.out.cells 0 rfl, cell_blk HI3.out.cells 1 rfl, cell_blk HI3.out.cells 2 rfl, cell_blk HI3.out.cells 3 rfl, cell_blk HI3.out.cells 4 rfl, cell_blk HI3.out.cells 5 rfl, cell_blk HI3.out.cells 6 rfl, cell_blk HI3.out.cells 7 rfl, cell_blk HI3.out.cells 8 rfl, cell_blk HI3.out.cells 9 rfl, cell_blk HI3.out.cells 10 rfl, by rw [← HS2.out]; exact HCV3.out⟩)); intro hHeld; clear hK K)
          (refine norm_ (a' := ?a_211) ?ha_211 ?hh_211; (case ha_211 => (simp (disch := omega) only [Act.put, List.setIfInBounds_toArray, List.set_cons_zero, List.set_cons_succ, wrap_in]; rfl)))
          (refine take_ (i := 2) (N := some 78) (v := ?v_212) (a' := ?a_212) #[true, true, true, false, false, false, false, false, false, false, false] rfl rfl (by kernel_rfl) (fun _ _ _ h => h) (Or.inl ⟨by rfl, ?hy_212⟩) hHeld ?ha_212 ?hh_212; (case hy_212 => (rintro w' ⟨s0_, s1_, s2_, s3_, s4_, s5_, s6_, s7_, s8_, s9_, s10_, s11_⟩; go_simp; with_reducible rfl)); (case ha_212 => (simp (disch := omega) only [Act.put, List.setIfInBounds_toArray, List.set_cons_zero, List.set_cons_succ, wrap_in]; rfl)))
          (refine take_ (i := 3) (N := some 79) (v := ?v_213) (a' := ?a_213) #[true, true, true, true, false, false, false, false, false, false, false] rfl rfl (by kernel_rfl) (fun _ _ _ h => h) (Or.inl ⟨by rfl, ?hy_213⟩) hHeld ?ha_213 ?hh_213; (case hy_213 => (rintro w' ⟨s0_, s1_, s2_, s3_, s4_, s5_, s6_, s7_, s8_, s9_, s10_, s11_⟩; go_simp; with_reducible rfl)); (case ha_213 => (simp (disch := omega) only [Act.put, List.setIfInBounds_toArray, List.set_cons_zero, List.set_cons_succ, wrap_in]; rfl)))
          first | (refine take_ (i := 4) (N := some 80) (v := undef) (a' := ?a_214) #[true, true, true, true, true, false, false, false, false, false, false] rfl rfl (by kernel_rfl) (fun _ _ _ h => h) (Or.inr ⟨by rfl, rfl⟩) hHeld ?ha_214 ?hh_214; (case ha_214 => (simp (disch := omega) only [Act.put, List.setIfInBounds_toArray, List.set_cons_zero, List.set_cons_succ, wrap_in]; rfl))) | (refine take_ (i := 4) (N := some 80) (v := ?v_214) (a' := ?a_214) #[true, true, true, true, true, false, false, false, false, false, false] rfl rfl (by kernel_rfl) (fun _ _ _ h => h) (Or.inl ⟨by rfl, ?hy_214⟩) hHeld ?ha_214 ?hh_214; (case hy_214 => (rintro w' ⟨s0_, s1_, s2_, s3_, s4_, s5_, s6_, s7_, s8_, s9_, s10_, s11_⟩; go_simp; with_reducible rfl)); (case ha_214 => (simp (disch := omega) only [Act.put, List.setIfInBounds_toArray, List.set_cons_zero, List.set_cons_succ, wrap_in]; rfl)))
          first | (refine take_ (i := 7) (N := some 83) (v := undef) (a' := ?a_215) #[true, true, true, true, true, false, false, true, false, false, false] rfl rfl (by kernel_rfl) (fun _ _ _ h => h) (Or.inr ⟨by rfl, rfl⟩) hHeld ?ha_215 ?hh_215; (case ha_215 => (simp (disch := omega) only [Act.put, List.setIfInBounds_toArray, List.set_cons_zero, List.set_cons_succ, wrap_in]; rfl))) | (refine take_ (i := 7) (N := some 83) (v := ?v_215) (a' := ?a_215) #[true, true, true, true, true, false, false, true, false, false, false] rfl rfl (by kernel_rfl) (fun _ _ _ h => h) (Or.inl ⟨by rfl, ?hy_215⟩) hHeld ?ha_215 ?hh_215; (case hy_215 => (rintro w' ⟨s0_, s1_, s2_, s3_, s4_, s5_, s6_, s7_, s8_, s9_, s10_, s11_⟩; go_simp; with_reducible rfl)); (case ha_215 => (simp (disch := omega) only [Act.put, List.setIfInBounds_toArray, List.set_cons_zero, List.set_cons_succ, wrap_in]; rfl)))
          first | (refine take_ (i := 8) (N := some 84) (v := undef) (a' := ?a_216) #[true, true, true, true, true, false, false, true, true, false, false] rfl rfl (by kernel_rfl) (fun _ _ _ h => h) (Or.inr ⟨by rfl, rfl⟩) hHeld ?ha_216 ?hh_216; (case ha_216 => (simp (disch := omega) only [Act.put, List.setIfInBounds_toArray, List.set_cons_zero, List.set_cons_succ, wrap_in]; rfl))) | (refine take_ (i := 8) (N := some 84) (v := ?v_216) (a' := ?a_216) #[true, true, true, true, true, false, false, true, true, false, false] rfl rfl (by kernel_rfl) (fun _ _ _ h => h) (Or.inl ⟨by rfl, ?hy_216⟩) hHeld ?ha_216 ?hh_216; (case hy_216 => (rintro w' ⟨s0_, s1_, s2_, s3_, s4_, s5_, s6_, s7_, s8_, s9_, s10_, s11_⟩; go_simp; with_reducible rfl)); (case ha_216 => (simp (disch := omega) only [Act.put, List.setIfInBounds_toArray, List.set_cons_zero, List.set_cons_succ, wrap_in]; rfl)))
          refine one_ (i := 5) (N := some 81) #[true, true, true, true, true, true, false, true, true, false, false] rfl rfl (by kernel_rfl) (by decide) (fun K hK => ?_)
          (refine goes_ Try.func31 (by kernel_rfl) rfl ?args_218 (by rfl) rfl rfl ?hargs_218 ?hc_218; (case hargs_218 => (go_simp; with_reducible rfl)))
          (have FO := refForm16_any hs (by rw [← HR.out]; exact qec_byt HBY.out) HI3.out.key.slAt HI3.out.val.slAt HI3.out.copy.slAt; unfold recV recCells at FO; refine FO.mono ?_; rintro e w5 ⟨A, c, rfl, hg, hb5⟩; have HI5 := Lib.hid (HI3.out.below hb5); have HCV5 := Lib.hid (conv_any (c := cc) (HY.out.below (HZ.out.trans (HI5.out.bel.mono HZ.out.size)))); have cv5 := conv_any (c := c) hg.srcB; rw [HS1.out] at cv5; refine ⟨_, rfl, ?_⟩)
          (refine hK.out _ _ ?hs_220 ?hn_220; (case hs_220 => (exact ⟨cell_blk HI5.out.cells 0 rfl, cell_blk HI5.out.cells 1 rfl, cell_blk HI5.out.cells 2 rfl, cell_blk HI5.out.cells 3 rfl, cell_blk HI5.out.cells 4 rfl, cell_blk HI5.out.cells 5 rfl, cell_blk HI5.out.cells 6 rfl, cell_blk HI5.out.cells 7 rfl, cell_blk HI5.out.cells 8 rfl, cell_blk HI5.out.cells 9 rfl, cell_blk HI5.out.cells 10 rfl, by rw [← HS2.out]; exact HCV5.out⟩)); intro hHeld; clear hK K)
          (refine norm_ (a' := ?a_221) ?ha_221 ?hh_221; (case ha_221 => (simp (disch := omega) only [Act.put, List.setIfInBounds_toArray, List.set_cons_zero, List.set_cons_succ, wrap_in]; rfl)))
          refine one_ (i := 6) (N := some 82) #[true, true, true, true, true, true, true, true, true, false, false] rfl rfl (by kernel_rfl) (by decide) (fun K hK => ?_)
          first | (refine off_ (by rfl) ?hk_223) | (refine value_ (v := ?v_223) (w1 := ?w1_223) (by rfl) rfl ?hr_223 ?hk_223; (case hr_223 => (go_simp; first | with_reducible rfl | (constructor <;> with_reducible rfl))))
          (refine hK.out _ _ hHeld ?hn_224; intro _; clear hK K)
          (refine norm_ (a' := ?a_225) ?ha_225 ?hh_225; (case ha_225 => (simp (disch := omega) only [Act.put, List.setIfInBounds_toArray, List.set_cons_zero, List.set_cons_succ, wrap_in]; rfl)))
          first | (refine take_ (i := 9) (N := some 85) (v := undef) (a' := ?a_226) #[true, true, true, true, true, true, true, true, true, true, false] rfl rfl (by kernel_rfl) (fun _ _ _ h => h) (Or.inr ⟨by rfl, rfl⟩) hHeld ?ha_226 ?hh_226; (case ha_226 => (simp (disch := omega) only [Act.put, List.setIfInBounds_toArray, List.set_cons_zero, List.set_cons_succ, wrap_in]; rfl))) | (refine take_ (i := 9) (N := some 85) (v := ?v_226) (a' := ?a_226) #[true, true, true, true, true, true, true, true, true, true, false] rfl rfl (by kernel_rfl) (fun _ _ _ h => h) (Or.inl ⟨by rfl, ?hy_226⟩) hHeld ?ha_226 ?hh_226; (case hy_226 => (rintro w' ⟨s0_, s1_, s2_, s3_, s4_, s5_, s6_, s7_, s8_, s9_, s10_, s11_⟩; go_simp; with_reducible rfl)); (case ha_226 => (simp (disch := omega) only [Act.put, List.setIfInBounds_toArray, List.set_cons_zero, List.set_cons_succ, wrap_in]; rfl)))
          (refine take_ (i := 10) (N := some 86) (v := ?v_227) (a' := ?a_227) #[true, true, true, true, true, true, true, true, true, true, true] rfl rfl (by kernel_rfl) (fun _ _ _ h => h) (Or.inl ⟨by rfl, ?hy_227⟩) hHeld ?ha_227 ?hh_227; (case hy_227 => (rintro w' ⟨s0_, s1_, s2_, s3_, s4_, s5_, s6_, s7_, s8_, s9_, s10_, s11_⟩; go_simp; with_reducible rfl)); (case ha_227 => (simp (disch := omega) only [Act.put, List.setIfInBounds_toArray, List.set_cons_zero, List.set_cons_succ, wrap_in]; rfl)))
          refine done_ (by kernel_rfl) ?_
          have HT5 := Lib.hid (HZT.out _ HI5.out.bel)
          clear hHeld cv5
          have t0 : w5.cell? ⟨w.heap.size, 0, none⟩ = some (.int .i64 0) := cell_blk HT5.out 0 rfl
          have t1 : w5.cell? ⟨w.heap.size, 1, none⟩ = some (.int .i64 0) := cell_blk HT5.out 1 rfl
          have t2 : w5.cell? ⟨w.heap.size, 2, none⟩ = some (.int .i64 0) := cell_blk HT5.out 2 rfl
          have t3 : w5.cell? ⟨w.heap.size, 3, none⟩ = some (.int .i64 0) := cell_blk HT5.out 3 rfl
          have t4 : w5.cell? ⟨w.heap.size, 4, none⟩ = some (.int .i64 0) := cell_blk HT5.out 4 rfl
          have t5 : w5.cell? ⟨w.heap.size, 5, none⟩ = some (.int .i64 0) := cell_blk HT5.out 5 rfl
          have t6 : w5.cell? ⟨w.heap.size, 6, none⟩ = some (.int .i64 0) := cell_blk HT5.out 6 rfl
          have t7 : w5.cell? ⟨w.heap.size, 7, none⟩ = some (.slice none 0 0) := cell_blk HT5.out 7 rfl
          have t8 : w5.cell? ⟨w.heap.size, 8, none⟩ = some (.slice none 0 0) := cell_blk HT5.out 8 rfl
          have t9 : w5.cell? ⟨w.heap.size, 9, none⟩ = some (.int .i64 0) := cell_blk HT5.out 9 rfl
          have t10 : w5.cell? ⟨w.heap.size, 10, none⟩ = some (.slice none 0 0) := cell_blk HT5.out 10 rfl
          have f0 := free_blk HT5.out 0
          have f1 := free_blk HT5.out 1
          have f2 := free_blk HT5.out 2
          have f3 := free_blk HT5.out 3
          have f4 := free_blk HT5.out 4
          have f5 := free_blk HT5.out 5
          have f6 := free_blk HT5.out 6
          have f7 := free_blk HT5.out 7
          have f8 := free_blk HT5.out 8
          have f9 := free_blk HT5.out 9
          have f10 := free_blk HT5.out 10
          have e0 : w5.cell? ⟨kr, 0, none⟩ = some (.int .i64 r.kind) := cell_blk HI5.out.cells 0 rfl
          have e1 : w5.cell? ⟨kr, 1, none⟩ = some (.int .i64 r.shard) := cell_blk HI5.out.cells 1 rfl
          have e2 : w5.cell? ⟨kr, 2, none⟩ = some (.int .i64 r.epoch) := cell_blk HI5.out.cells 2 rfl
          have e3 : w5.cell? ⟨kr, 3, none⟩ = some (.int .i64 r.peer) := cell_blk HI5.out.cells 3 rfl
          have e4 : w5.cell? ⟨kr, 4, none⟩ = some (.int .i64 r.client) := cell_blk HI5.out.cells 4 rfl
          have e5 : w5.cell? ⟨kr, 5, none⟩ = some (.int .i64 r.seq) := cell_blk HI5.out.cells 5 rfl
          have e6 : w5.cell? ⟨kr, 6, none⟩ = some (.int .i64 r.op.kind) := cell_blk HI5.out.cells 6 rfl
          have e7 : w5.cell? ⟨kr, 7, none⟩ = some (.slice K.1 K.2.1 K.2.2) := cell_blk HI5.out.cells 7 rfl
          have e8 : w5.cell? ⟨kr, 8, none⟩ = some (.slice V.1 V.2.1 V.2.2) := cell_blk HI5.out.cells 8 rfl
          have e9 : w5.cell? ⟨kr, 9, none⟩ = some (.int .i64 r.op.rev) := cell_blk HI5.out.cells 9 rfl
          have e10 : w5.cell? ⟨kr, 10, none⟩ = some (.slice C.1 C.2.1 C.2.2) := cell_blk HI5.out.cells 10 rfl
          go_wp2_with (fail)
          refine bodyPost_ret (v := .tuple #[recV r K V C, .int .i64 0]) ?_ rfl ?_
          · unfold recV recCells
            simp [results, Try.results11, go_sem, *]
          · exact QDecP.good (HZ.out.trans (HI5.out.bel.mono HZ.out.size)) HZS.out (by rw [decode_ref HBY.out, HR.out, if_pos ⟨hs, HE.out⟩]) hs HI5.out _ _ _ _ _ _ _ _ _ _ _
        · have hss : (s1.toList == s2.toList) = false := by
            rw [beq_eq_false_iff_ne]
            intro h
            rw [← HS1.out, ← HS2.out] at h
            exact he (strL_inj (formR_byt hs (by rw [← HR.out]; exact qec_byt HBY.out)) HBY.out h)
          have HE := Lib.hid he
          clear he
          refine start_ (n := 11) (S := fun w' => w'.cell? ⟨kr, 0, none⟩ = some (.int .i64 r.kind) ∧ w'.cell? ⟨kr, 1, none⟩ = some (.int .i64 r.shard) ∧ w'.cell? ⟨kr, 2, none⟩ = some (.int .i64 r.epoch) ∧ w'.cell? ⟨kr, 3, none⟩ = some (.int .i64 r.peer) ∧ w'.cell? ⟨kr, 4, none⟩ = some (.int .i64 r.client) ∧ w'.cell? ⟨kr, 5, none⟩ = some (.int .i64 r.seq) ∧ w'.cell? ⟨kr, 6, none⟩ = some (.int .i64 r.op.kind) ∧ w'.cell? ⟨kr, 7, none⟩ = some (.slice K.1 K.2.1 K.2.2) ∧ w'.cell? ⟨kr, 8, none⟩ = some (.slice V.1 V.2.1 V.2.2) ∧ w'.cell? ⟨kr, 9, none⟩ = some (.int .i64 r.op.rev) ∧ w'.cell? ⟨kr, 10, none⟩ = some (.slice C.1 C.2.1 C.2.2) ∧ (convert 22 9 (.slice B p.length cc)).run Try.prog w' = .ok (.string s2) w') (ds := []) #[false, false, false, false, false, false, false, false, false, false, false] (by kernel_rfl) rfl rfl ⟨cell_blk HI.out.cells 0 rfl, cell_blk HI.out.cells 1 rfl, cell_blk HI.out.cells 2 rfl, cell_blk HI.out.cells 3 rfl, cell_blk HI.out.cells 4 rfl, cell_blk HI.out.cells 5 rfl, cell_blk HI.out.cells 6 rfl, cell_blk HI.out.cells 7 rfl, cell_blk HI.out.cells 8 rfl, cell_blk HI.out.cells 9 rfl, cell_blk HI.out.cells 10 rfl, (by rw [← HS2.out]; exact HCV.out)⟩ (fun hHeld => ?_)
          (refine take_ (i := 0) (N := some 76) (v := ?v_230) (a' := ?a_230) #[true, false, false, false, false, false, false, false, false, false, false] rfl rfl (by kernel_rfl) (fun _ _ _ h => h) (Or.inl ⟨by rfl, ?hy_230⟩) hHeld ?ha_230 ?hh_230; (case hy_230 => (rintro w' ⟨s0_, s1_, s2_, s3_, s4_, s5_, s6_, s7_, s8_, s9_, s10_, s11_⟩; go_simp; with_reducible rfl)); (case ha_230 => (simp (disch := omega) only [Act.put, List.setIfInBounds_toArray, List.set_cons_zero, List.set_cons_succ, wrap_in]; rfl)))
          refine one_ (i := 1) (N := some 77) #[true, true, false, false, false, false, false, false, false, false, false] rfl rfl (by kernel_rfl) (by decide) (fun K hK => ?_)
          (refine goes_ Try.func17 (by kernel_rfl) rfl ?args_232 (by rfl) rfl rfl ?hargs_232 ?hc_232; (case hargs_232 => (go_simp; with_reducible rfl)))
          (refine (SO.out _).mono ?_; rintro e w3 ⟨rfl, hb3⟩; have HI3 := Lib.hid (HD.out.below hb3); have HCV3 := Lib.hid (conv_any (c := cc) (HY.out.below (HBW.out.drew.trans (hb3.mono HBW.out.size)))); refine ⟨_, rfl, ?_⟩)
          (refine hK.out _ _ ?hs_234 ?hn_234; (case hs_234 => (exact ⟨cell_blk HI3.out.cells 0 rfl, cell_blk HI3.out.cells 1 rfl, cell_blk HI3.out.cells 2 rfl, cell_blk HI3.out.cells 3 rfl, cell_blk HI3.out.cells 4 rfl, cell_blk HI3.out.cells 5 rfl, cell_blk HI3.out.cells 6 rfl, cell_blk HI3.out.cells 7 rfl, cell_blk HI3.out.cells 8 rfl, cell_blk HI3.out.cells 9 rfl, cell_blk HI3.out.cells 10 rfl, by rw [← HS2.out]; exact HCV3.out⟩)); intro hHeld; clear hK K)
          (refine norm_ (a' := ?a_235) ?ha_235 ?hh_235; (case ha_235 => (simp (disch := omega) only [Act.put, List.setIfInBounds_toArray, List.set_cons_zero, List.set_cons_succ, wrap_in]; rfl)))
          (refine take_ (i := 2) (N := some 78) (v := ?v_236) (a' := ?a_236) #[true, true, true, false, false, false, false, false, false, false, false] rfl rfl (by kernel_rfl) (fun _ _ _ h => h) (Or.inl ⟨by rfl, ?hy_236⟩) hHeld ?ha_236 ?hh_236; (case hy_236 => (rintro w' ⟨s0_, s1_, s2_, s3_, s4_, s5_, s6_, s7_, s8_, s9_, s10_, s11_⟩; go_simp; with_reducible rfl)); (case ha_236 => (simp (disch := omega) only [Act.put, List.setIfInBounds_toArray, List.set_cons_zero, List.set_cons_succ, wrap_in]; rfl)))
          (refine take_ (i := 3) (N := some 79) (v := ?v_237) (a' := ?a_237) #[true, true, true, true, false, false, false, false, false, false, false] rfl rfl (by kernel_rfl) (fun _ _ _ h => h) (Or.inl ⟨by rfl, ?hy_237⟩) hHeld ?ha_237 ?hh_237; (case hy_237 => (rintro w' ⟨s0_, s1_, s2_, s3_, s4_, s5_, s6_, s7_, s8_, s9_, s10_, s11_⟩; go_simp; with_reducible rfl)); (case ha_237 => (simp (disch := omega) only [Act.put, List.setIfInBounds_toArray, List.set_cons_zero, List.set_cons_succ, wrap_in]; rfl)))
          first | (refine take_ (i := 4) (N := some 80) (v := undef) (a' := ?a_238) #[true, true, true, true, true, false, false, false, false, false, false] rfl rfl (by kernel_rfl) (fun _ _ _ h => h) (Or.inr ⟨by rfl, rfl⟩) hHeld ?ha_238 ?hh_238; (case ha_238 => (simp (disch := omega) only [Act.put, List.setIfInBounds_toArray, List.set_cons_zero, List.set_cons_succ, wrap_in]; rfl))) | (refine take_ (i := 4) (N := some 80) (v := ?v_238) (a' := ?a_238) #[true, true, true, true, true, false, false, false, false, false, false] rfl rfl (by kernel_rfl) (fun _ _ _ h => h) (Or.inl ⟨by rfl, ?hy_238⟩) hHeld ?ha_238 ?hh_238; (case hy_238 => (rintro w' ⟨s0_, s1_, s2_, s3_, s4_, s5_, s6_, s7_, s8_, s9_, s10_, s11_⟩; go_simp; with_reducible rfl)); (case ha_238 => (simp (disch := omega) only [Act.put, List.setIfInBounds_toArray, List.set_cons_zero, List.set_cons_succ, wrap_in]; rfl)))
          first | (refine take_ (i := 7) (N := some 83) (v := undef) (a' := ?a_239) #[true, true, true, true, true, false, false, true, false, false, false] rfl rfl (by kernel_rfl) (fun _ _ _ h => h) (Or.inr ⟨by rfl, rfl⟩) hHeld ?ha_239 ?hh_239; (case ha_239 => (simp (disch := omega) only [Act.put, List.setIfInBounds_toArray, List.set_cons_zero, List.set_cons_succ, wrap_in]; rfl))) | (refine take_ (i := 7) (N := some 83) (v := ?v_239) (a' := ?a_239) #[true, true, true, true, true, false, false, true, false, false, false] rfl rfl (by kernel_rfl) (fun _ _ _ h => h) (Or.inl ⟨by rfl, ?hy_239⟩) hHeld ?ha_239 ?hh_239; (case hy_239 => (rintro w' ⟨s0_, s1_, s2_, s3_, s4_, s5_, s6_, s7_, s8_, s9_, s10_, s11_⟩; go_simp; with_reducible rfl)); (case ha_239 => (simp (disch := omega) only [Act.put, List.setIfInBounds_toArray, List.set_cons_zero, List.set_cons_succ, wrap_in]; rfl)))
          first | (refine take_ (i := 8) (N := some 84) (v := undef) (a' := ?a_240) #[true, true, true, true, true, false, false, true, true, false, false] rfl rfl (by kernel_rfl) (fun _ _ _ h => h) (Or.inr ⟨by rfl, rfl⟩) hHeld ?ha_240 ?hh_240; (case ha_240 => (simp (disch := omega) only [Act.put, List.setIfInBounds_toArray, List.set_cons_zero, List.set_cons_succ, wrap_in]; rfl))) | (refine take_ (i := 8) (N := some 84) (v := ?v_240) (a' := ?a_240) #[true, true, true, true, true, false, false, true, true, false, false] rfl rfl (by kernel_rfl) (fun _ _ _ h => h) (Or.inl ⟨by rfl, ?hy_240⟩) hHeld ?ha_240 ?hh_240; (case hy_240 => (rintro w' ⟨s0_, s1_, s2_, s3_, s4_, s5_, s6_, s7_, s8_, s9_, s10_, s11_⟩; go_simp; with_reducible rfl)); (case ha_240 => (simp (disch := omega) only [Act.put, List.setIfInBounds_toArray, List.set_cons_zero, List.set_cons_succ, wrap_in]; rfl)))
          refine one_ (i := 5) (N := some 81) #[true, true, true, true, true, true, false, true, true, false, false] rfl rfl (by kernel_rfl) (by decide) (fun K hK => ?_)
          (refine goes_ Try.func31 (by kernel_rfl) rfl ?args_242 (by rfl) rfl rfl ?hargs_242 ?hc_242; (case hargs_242 => (go_simp; with_reducible rfl)))
          (have FO := refForm16_any hs (by rw [← HR.out]; exact qec_byt HBY.out) HI3.out.key.slAt HI3.out.val.slAt HI3.out.copy.slAt; unfold recV recCells at FO; refine FO.mono ?_; rintro e w5 ⟨A, c, rfl, hg, hb5⟩; have HI5 := Lib.hid (HI3.out.below hb5); have HCV5 := Lib.hid (conv_any (c := cc) (HY.out.below (HZ.out.trans (HI5.out.bel.mono HZ.out.size)))); have cv5 := conv_any (c := c) hg.srcB; rw [HS1.out] at cv5; refine ⟨_, rfl, ?_⟩)
          (refine hK.out _ _ ?hs_244 ?hn_244; (case hs_244 => (exact ⟨cell_blk HI5.out.cells 0 rfl, cell_blk HI5.out.cells 1 rfl, cell_blk HI5.out.cells 2 rfl, cell_blk HI5.out.cells 3 rfl, cell_blk HI5.out.cells 4 rfl, cell_blk HI5.out.cells 5 rfl, cell_blk HI5.out.cells 6 rfl, cell_blk HI5.out.cells 7 rfl, cell_blk HI5.out.cells 8 rfl, cell_blk HI5.out.cells 9 rfl, cell_blk HI5.out.cells 10 rfl, by rw [← HS2.out]; exact HCV5.out⟩)); intro hHeld; clear hK K)
          (refine norm_ (a' := ?a_245) ?ha_245 ?hh_245; (case ha_245 => (simp (disch := omega) only [Act.put, List.setIfInBounds_toArray, List.set_cons_zero, List.set_cons_succ, wrap_in]; rfl)))
          refine one_ (i := 6) (N := some 82) #[true, true, true, true, true, true, true, true, true, false, false] rfl rfl (by kernel_rfl) (by decide) (fun K hK => ?_)
          first | (refine off_ (by rfl) ?hk_247) | (refine value_ (v := ?v_247) (w1 := ?w1_247) (by rfl) rfl ?hr_247 ?hk_247; (case hr_247 => (go_simp; first | with_reducible rfl | (constructor <;> with_reducible rfl))))
          (refine hK.out _ _ hHeld ?hn_248; intro _; clear hK K)
          (refine norm_ (a' := ?a_249) ?ha_249 ?hh_249; (case ha_249 => (simp (disch := omega) only [Act.put, List.setIfInBounds_toArray, List.set_cons_zero, List.set_cons_succ, wrap_in]; rfl)))
          first | (refine take_ (i := 9) (N := some 85) (v := undef) (a' := ?a_250) #[true, true, true, true, true, true, true, true, true, true, false] rfl rfl (by kernel_rfl) (fun _ _ _ h => h) (Or.inr ⟨by rfl, rfl⟩) hHeld ?ha_250 ?hh_250; (case ha_250 => (simp (disch := omega) only [Act.put, List.setIfInBounds_toArray, List.set_cons_zero, List.set_cons_succ, wrap_in]; rfl))) | (refine take_ (i := 9) (N := some 85) (v := ?v_250) (a' := ?a_250) #[true, true, true, true, true, true, true, true, true, true, false] rfl rfl (by kernel_rfl) (fun _ _ _ h => h) (Or.inl ⟨by rfl, ?hy_250⟩) hHeld ?ha_250 ?hh_250; (case hy_250 => (rintro w' ⟨s0_, s1_, s2_, s3_, s4_, s5_, s6_, s7_, s8_, s9_, s10_, s11_⟩; go_simp; with_reducible rfl)); (case ha_250 => (simp (disch := omega) only [Act.put, List.setIfInBounds_toArray, List.set_cons_zero, List.set_cons_succ, wrap_in]; rfl)))
          (refine take_ (i := 10) (N := some 86) (v := ?v_251) (a' := ?a_251) #[true, true, true, true, true, true, true, true, true, true, true] rfl rfl (by kernel_rfl) (fun _ _ _ h => h) (Or.inl ⟨by rfl, ?hy_251⟩) hHeld ?ha_251 ?hh_251; (case hy_251 => (rintro w' ⟨s0_, s1_, s2_, s3_, s4_, s5_, s6_, s7_, s8_, s9_, s10_, s11_⟩; go_simp; with_reducible rfl)); (case ha_251 => (simp (disch := omega) only [Act.put, List.setIfInBounds_toArray, List.set_cons_zero, List.set_cons_succ, wrap_in]; rfl)))
          refine done_ (by kernel_rfl) ?_
          have HT5 := Lib.hid (HZT.out _ HI5.out.bel)
          clear hHeld cv5
          have t0 : w5.cell? ⟨w.heap.size, 0, none⟩ = some (.int .i64 0) := cell_blk HT5.out 0 rfl
          have t1 : w5.cell? ⟨w.heap.size, 1, none⟩ = some (.int .i64 0) := cell_blk HT5.out 1 rfl
          have t2 : w5.cell? ⟨w.heap.size, 2, none⟩ = some (.int .i64 0) := cell_blk HT5.out 2 rfl
          have t3 : w5.cell? ⟨w.heap.size, 3, none⟩ = some (.int .i64 0) := cell_blk HT5.out 3 rfl
          have t4 : w5.cell? ⟨w.heap.size, 4, none⟩ = some (.int .i64 0) := cell_blk HT5.out 4 rfl
          have t5 : w5.cell? ⟨w.heap.size, 5, none⟩ = some (.int .i64 0) := cell_blk HT5.out 5 rfl
          have t6 : w5.cell? ⟨w.heap.size, 6, none⟩ = some (.int .i64 0) := cell_blk HT5.out 6 rfl
          have t7 : w5.cell? ⟨w.heap.size, 7, none⟩ = some (.slice none 0 0) := cell_blk HT5.out 7 rfl
          have t8 : w5.cell? ⟨w.heap.size, 8, none⟩ = some (.slice none 0 0) := cell_blk HT5.out 8 rfl
          have t9 : w5.cell? ⟨w.heap.size, 9, none⟩ = some (.int .i64 0) := cell_blk HT5.out 9 rfl
          have t10 : w5.cell? ⟨w.heap.size, 10, none⟩ = some (.slice none 0 0) := cell_blk HT5.out 10 rfl
          have f0 := free_blk HT5.out 0
          have f1 := free_blk HT5.out 1
          have f2 := free_blk HT5.out 2
          have f3 := free_blk HT5.out 3
          have f4 := free_blk HT5.out 4
          have f5 := free_blk HT5.out 5
          have f6 := free_blk HT5.out 6
          have f7 := free_blk HT5.out 7
          have f8 := free_blk HT5.out 8
          have f9 := free_blk HT5.out 9
          have f10 := free_blk HT5.out 10
          go_wp2_with (fail)
          refine bodyPost_ret (v := .tuple #[.agg #[.int .i64 0, .int .i64 0, .int .i64 0, .int .i64 0, .int .i64 0, .int .i64 0, .int .i64 0, .slice none 0 0, .slice none 0 0, .int .i64 0, .slice none 0 0], .int .i64 160]) ?_ rfl ?_
          · simp [results, Try.results11, go_sem, *]
          · exact QDecP.bad (HZ.out.trans (HI5.out.bel.mono HZ.out.size)) (by rw [decode_ref HBY.out, HR.out, if_neg (fun h => HE.out h.2)]) _ _ _ _ _ _ _ _ _ _ _
      · rw [decide_eq_false hs] at SO
        refine start_ (n := 11) (S := fun w' => w'.cell? ⟨kr, 0, none⟩ = some (.int .i64 r.kind) ∧ w'.cell? ⟨kr, 1, none⟩ = some (.int .i64 r.shard) ∧ w'.cell? ⟨kr, 2, none⟩ = some (.int .i64 r.epoch) ∧ w'.cell? ⟨kr, 3, none⟩ = some (.int .i64 r.peer) ∧ w'.cell? ⟨kr, 4, none⟩ = some (.int .i64 r.client) ∧ w'.cell? ⟨kr, 5, none⟩ = some (.int .i64 r.seq) ∧ w'.cell? ⟨kr, 6, none⟩ = some (.int .i64 r.op.kind) ∧ w'.cell? ⟨kr, 7, none⟩ = some (.slice K.1 K.2.1 K.2.2) ∧ w'.cell? ⟨kr, 8, none⟩ = some (.slice V.1 V.2.1 V.2.2) ∧ w'.cell? ⟨kr, 9, none⟩ = some (.int .i64 r.op.rev) ∧ w'.cell? ⟨kr, 10, none⟩ = some (.slice C.1 C.2.1 C.2.2) ∧ (convert 22 9 (.slice B p.length cc)).run Try.prog w' = .ok (.string s2) w') (ds := []) #[false, false, false, false, false, false, false, false, false, false, false] (by kernel_rfl) rfl rfl ⟨cell_blk HI.out.cells 0 rfl, cell_blk HI.out.cells 1 rfl, cell_blk HI.out.cells 2 rfl, cell_blk HI.out.cells 3 rfl, cell_blk HI.out.cells 4 rfl, cell_blk HI.out.cells 5 rfl, cell_blk HI.out.cells 6 rfl, cell_blk HI.out.cells 7 rfl, cell_blk HI.out.cells 8 rfl, cell_blk HI.out.cells 9 rfl, cell_blk HI.out.cells 10 rfl, (by rw [← HS2.out]; exact HCV.out)⟩ (fun hHeld => ?_)
        (refine take_ (i := 0) (N := some 76) (v := ?v_254) (a' := ?a_254) #[true, false, false, false, false, false, false, false, false, false, false] rfl rfl (by kernel_rfl) (fun _ _ _ h => h) (Or.inl ⟨by rfl, ?hy_254⟩) hHeld ?ha_254 ?hh_254; (case hy_254 => (rintro w' ⟨s0_, s1_, s2_, s3_, s4_, s5_, s6_, s7_, s8_, s9_, s10_, s11_⟩; go_simp; with_reducible rfl)); (case ha_254 => (simp (disch := omega) only [Act.put, List.setIfInBounds_toArray, List.set_cons_zero, List.set_cons_succ, wrap_in]; rfl)))
        refine one_ (i := 1) (N := some 77) #[true, true, false, false, false, false, false, false, false, false, false] rfl rfl (by kernel_rfl) (by decide) (fun K hK => ?_)
        (refine goes_ Try.func17 (by kernel_rfl) rfl ?args_256 (by rfl) rfl rfl ?hargs_256 ?hc_256; (case hargs_256 => (go_simp; with_reducible rfl)))
        (refine (SO.out _).mono ?_; rintro e w3 ⟨rfl, hb3⟩; have HI3 := Lib.hid (HD.out.below hb3); have HCV3 := Lib.hid (conv_any (c := cc) (HY.out.below (HBW.out.drew.trans (hb3.mono HBW.out.size)))); refine ⟨_, rfl, ?_⟩)
        (refine hK.out _ _ ?hs_258 ?hn_258; (case hs_258 => (exact ⟨cell_blk HI3.out.cells 0 rfl, cell_blk HI3.out.cells 1 rfl, cell_blk HI3.out.cells 2 rfl, cell_blk HI3.out.cells 3 rfl, cell_blk HI3.out.cells 4 rfl, cell_blk HI3.out.cells 5 rfl, cell_blk HI3.out.cells 6 rfl, cell_blk HI3.out.cells 7 rfl, cell_blk HI3.out.cells 8 rfl, cell_blk HI3.out.cells 9 rfl, cell_blk HI3.out.cells 10 rfl, by rw [← HS2.out]; exact HCV3.out⟩)); intro hHeld; clear hK K)
        (refine norm_ (a' := ?a_259) ?ha_259 ?hh_259; (case ha_259 => (simp (disch := omega) only [Act.put, List.setIfInBounds_toArray, List.set_cons_zero, List.set_cons_succ, wrap_in]; rfl)))
        (refine take_ (i := 2) (N := some 78) (v := ?v_260) (a' := ?a_260) #[true, true, true, false, false, false, false, false, false, false, false] rfl rfl (by kernel_rfl) (fun _ _ _ h => h) (Or.inl ⟨by rfl, ?hy_260⟩) hHeld ?ha_260 ?hh_260; (case hy_260 => (rintro w' ⟨s0_, s1_, s2_, s3_, s4_, s5_, s6_, s7_, s8_, s9_, s10_, s11_⟩; go_simp; with_reducible rfl)); (case ha_260 => (simp (disch := omega) only [Act.put, List.setIfInBounds_toArray, List.set_cons_zero, List.set_cons_succ, wrap_in]; rfl)))
        (refine take_ (i := 3) (N := some 79) (v := ?v_261) (a' := ?a_261) #[true, true, true, true, false, false, false, false, false, false, false] rfl rfl (by kernel_rfl) (fun _ _ _ h => h) (Or.inl ⟨by rfl, ?hy_261⟩) hHeld ?ha_261 ?hh_261; (case hy_261 => (rintro w' ⟨s0_, s1_, s2_, s3_, s4_, s5_, s6_, s7_, s8_, s9_, s10_, s11_⟩; go_simp; with_reducible rfl)); (case ha_261 => (simp (disch := omega) only [Act.put, List.setIfInBounds_toArray, List.set_cons_zero, List.set_cons_succ, wrap_in]; rfl)))
        first | (refine take_ (i := 4) (N := some 80) (v := undef) (a' := ?a_262) #[true, true, true, true, true, false, false, false, false, false, false] rfl rfl (by kernel_rfl) (fun _ _ _ h => h) (Or.inr ⟨by rfl, rfl⟩) hHeld ?ha_262 ?hh_262; (case ha_262 => (simp (disch := omega) only [Act.put, List.setIfInBounds_toArray, List.set_cons_zero, List.set_cons_succ, wrap_in]; rfl))) | (refine take_ (i := 4) (N := some 80) (v := ?v_262) (a' := ?a_262) #[true, true, true, true, true, false, false, false, false, false, false] rfl rfl (by kernel_rfl) (fun _ _ _ h => h) (Or.inl ⟨by rfl, ?hy_262⟩) hHeld ?ha_262 ?hh_262; (case hy_262 => (rintro w' ⟨s0_, s1_, s2_, s3_, s4_, s5_, s6_, s7_, s8_, s9_, s10_, s11_⟩; go_simp; with_reducible rfl)); (case ha_262 => (simp (disch := omega) only [Act.put, List.setIfInBounds_toArray, List.set_cons_zero, List.set_cons_succ, wrap_in]; rfl)))
        first | (refine take_ (i := 7) (N := some 83) (v := undef) (a' := ?a_263) #[true, true, true, true, true, false, false, true, false, false, false] rfl rfl (by kernel_rfl) (fun _ _ _ h => h) (Or.inr ⟨by rfl, rfl⟩) hHeld ?ha_263 ?hh_263; (case ha_263 => (simp (disch := omega) only [Act.put, List.setIfInBounds_toArray, List.set_cons_zero, List.set_cons_succ, wrap_in]; rfl))) | (refine take_ (i := 7) (N := some 83) (v := ?v_263) (a' := ?a_263) #[true, true, true, true, true, false, false, true, false, false, false] rfl rfl (by kernel_rfl) (fun _ _ _ h => h) (Or.inl ⟨by rfl, ?hy_263⟩) hHeld ?ha_263 ?hh_263; (case hy_263 => (rintro w' ⟨s0_, s1_, s2_, s3_, s4_, s5_, s6_, s7_, s8_, s9_, s10_, s11_⟩; go_simp; with_reducible rfl)); (case ha_263 => (simp (disch := omega) only [Act.put, List.setIfInBounds_toArray, List.set_cons_zero, List.set_cons_succ, wrap_in]; rfl)))
        first | (refine take_ (i := 8) (N := some 84) (v := undef) (a' := ?a_264) #[true, true, true, true, true, false, false, true, true, false, false] rfl rfl (by kernel_rfl) (fun _ _ _ h => h) (Or.inr ⟨by rfl, rfl⟩) hHeld ?ha_264 ?hh_264; (case ha_264 => (simp (disch := omega) only [Act.put, List.setIfInBounds_toArray, List.set_cons_zero, List.set_cons_succ, wrap_in]; rfl))) | (refine take_ (i := 8) (N := some 84) (v := ?v_264) (a' := ?a_264) #[true, true, true, true, true, false, false, true, true, false, false] rfl rfl (by kernel_rfl) (fun _ _ _ h => h) (Or.inl ⟨by rfl, ?hy_264⟩) hHeld ?ha_264 ?hh_264; (case hy_264 => (rintro w' ⟨s0_, s1_, s2_, s3_, s4_, s5_, s6_, s7_, s8_, s9_, s10_, s11_⟩; go_simp; with_reducible rfl)); (case ha_264 => (simp (disch := omega) only [Act.put, List.setIfInBounds_toArray, List.set_cons_zero, List.set_cons_succ, wrap_in]; rfl)))
        (refine take_ (i := 5) (N := some 81) (v := undef) (a' := ?a_265) #[true, true, true, true, true, true, false, true, true, false, false] rfl rfl (by kernel_rfl) (fun _ _ _ h => h) (Or.inr ⟨by rfl, rfl⟩) hHeld ?ha_265 ?hh_265; (case ha_265 => (simp (disch := omega) only [Act.put, List.setIfInBounds_toArray, List.set_cons_zero, List.set_cons_succ, wrap_in]; rfl)))
        refine one_ (i := 6) (N := some 82) #[true, true, true, true, true, true, true, true, true, false, false] rfl rfl (by kernel_rfl) (by decide) (fun K hK => ?_)
        first | (refine off_ (by rfl) ?hk_267) | (refine value_ (v := ?v_267) (w1 := ?w1_267) (by rfl) rfl ?hr_267 ?hk_267; (case hr_267 => (go_simp; first | with_reducible rfl | (constructor <;> with_reducible rfl))))
        (refine hK.out _ _ hHeld ?hn_268; intro _; clear hK K)
        (refine norm_ (a' := ?a_269) ?ha_269 ?hh_269; (case ha_269 => (simp (disch := omega) only [Act.put, List.setIfInBounds_toArray, List.set_cons_zero, List.set_cons_succ, wrap_in]; rfl)))
        first | (refine take_ (i := 9) (N := some 85) (v := undef) (a' := ?a_270) #[true, true, true, true, true, true, true, true, true, true, false] rfl rfl (by kernel_rfl) (fun _ _ _ h => h) (Or.inr ⟨by rfl, rfl⟩) hHeld ?ha_270 ?hh_270; (case ha_270 => (simp (disch := omega) only [Act.put, List.setIfInBounds_toArray, List.set_cons_zero, List.set_cons_succ, wrap_in]; rfl))) | (refine take_ (i := 9) (N := some 85) (v := ?v_270) (a' := ?a_270) #[true, true, true, true, true, true, true, true, true, true, false] rfl rfl (by kernel_rfl) (fun _ _ _ h => h) (Or.inl ⟨by rfl, ?hy_270⟩) hHeld ?ha_270 ?hh_270; (case hy_270 => (rintro w' ⟨s0_, s1_, s2_, s3_, s4_, s5_, s6_, s7_, s8_, s9_, s10_, s11_⟩; go_simp; with_reducible rfl)); (case ha_270 => (simp (disch := omega) only [Act.put, List.setIfInBounds_toArray, List.set_cons_zero, List.set_cons_succ, wrap_in]; rfl)))
        (refine take_ (i := 10) (N := some 86) (v := ?v_271) (a' := ?a_271) #[true, true, true, true, true, true, true, true, true, true, true] rfl rfl (by kernel_rfl) (fun _ _ _ h => h) (Or.inl ⟨by rfl, ?hy_271⟩) hHeld ?ha_271 ?hh_271; (case hy_271 => (rintro w' ⟨s0_, s1_, s2_, s3_, s4_, s5_, s6_, s7_, s8_, s9_, s10_, s11_⟩; go_simp; with_reducible rfl)); (case ha_271 => (simp (disch := omega) only [Act.put, List.setIfInBounds_toArray, List.set_cons_zero, List.set_cons_succ, wrap_in]; rfl)))
        refine done_ (by kernel_rfl) ?_
        have HT3 := Lib.hid (HZT.out _ HI3.out.bel)
        clear hHeld
        have t0 : w3.cell? ⟨w.heap.size, 0, none⟩ = some (.int .i64 0) := cell_blk HT3.out 0 rfl
        have t1 : w3.cell? ⟨w.heap.size, 1, none⟩ = some (.int .i64 0) := cell_blk HT3.out 1 rfl
        have t2 : w3.cell? ⟨w.heap.size, 2, none⟩ = some (.int .i64 0) := cell_blk HT3.out 2 rfl
        have t3 : w3.cell? ⟨w.heap.size, 3, none⟩ = some (.int .i64 0) := cell_blk HT3.out 3 rfl
        have t4 : w3.cell? ⟨w.heap.size, 4, none⟩ = some (.int .i64 0) := cell_blk HT3.out 4 rfl
        have t5 : w3.cell? ⟨w.heap.size, 5, none⟩ = some (.int .i64 0) := cell_blk HT3.out 5 rfl
        have t6 : w3.cell? ⟨w.heap.size, 6, none⟩ = some (.int .i64 0) := cell_blk HT3.out 6 rfl
        have t7 : w3.cell? ⟨w.heap.size, 7, none⟩ = some (.slice none 0 0) := cell_blk HT3.out 7 rfl
        have t8 : w3.cell? ⟨w.heap.size, 8, none⟩ = some (.slice none 0 0) := cell_blk HT3.out 8 rfl
        have t9 : w3.cell? ⟨w.heap.size, 9, none⟩ = some (.int .i64 0) := cell_blk HT3.out 9 rfl
        have t10 : w3.cell? ⟨w.heap.size, 10, none⟩ = some (.slice none 0 0) := cell_blk HT3.out 10 rfl
        have f0 := free_blk HT3.out 0
        have f1 := free_blk HT3.out 1
        have f2 := free_blk HT3.out 2
        have f3 := free_blk HT3.out 3
        have f4 := free_blk HT3.out 4
        have f5 := free_blk HT3.out 5
        have f6 := free_blk HT3.out 6
        have f7 := free_blk HT3.out 7
        have f8 := free_blk HT3.out 8
        have f9 := free_blk HT3.out 9
        have f10 := free_blk HT3.out 10
        go_wp2_with (fail)
        refine bodyPost_ret (v := .tuple #[.agg #[.int .i64 0, .int .i64 0, .int .i64 0, .int .i64 0, .int .i64 0, .int .i64 0, .int .i64 0, .slice none 0 0, .slice none 0 0, .int .i64 0, .slice none 0 0], .int .i64 160]) ?_ rfl ?_
        · simp [results, Try.results11, go_sem, *]
        · exact QDecP.bad (HZ.out.trans (HI3.out.bel.mono HZ.out.size)) (by rw [decode_ref HBY.out, HR.out, if_neg (fun h => hs h.1)]) _ _ _ _ _ _ _ _ _ _ _
    · by_cases k4 : q1.1 = 4
      · have HI := HI0
        clear HI0
        obtain ⟨q3, hq3⟩ : ∃ q, q2.2.num = q := ⟨_, rfl⟩
        have CA := Lib.hid (HI.out.num hq3)
        have Hq3 := Lib.hid hq3
        clear hq3
        go_wp2_with (fail)
        refine CA.out.mono ?_
        rintro e wa18 ⟨rfl, I18⟩
        have hw18 : IntKind.i64.wrap (q3.1 : Int) = i64N q3.1 := wrap_i64N (by rw [← Hq3.out]; exact num_lt _ HI.out.byt)
        have ff18 := I18.free 2
        have cc18 := cell_blk I18.cells 2 rfl
        have HJ := Lib.hid (show QecI wA w1.heap.size k kr ⟨q1.1, i64N q2.1, i64N q3.1, 0, 0, 0, ⟨0, [], [], 0⟩, []⟩ (none, 0, 0) (none, 0, 0) (none, 0, 0) (wa18.setCell ⟨kr, 2, none⟩ (.int .i64 (i64N q3.1))) q3.2 from I18.set 2 (.int .i64 (i64N q3.1)) rfl I18.key I18.val I18.copy)
        clear HI I18 CA
        have HI := HJ
        clear HJ
        go_wp2_with (fail)
        generalize wa18.setCell ⟨kr, 2, none⟩ _ = wb18 at *
        clear cc18 ff18 hw18
        obtain ⟨q4, hq4⟩ : ∃ q, q3.2.num = q := ⟨_, rfl⟩
        have CA := Lib.hid (HI.out.num hq4)
        have Hq4 := Lib.hid hq4
        clear hq4
        go_wp2_with (fail)
        refine CA.out.mono ?_
        rintro e wa19 ⟨rfl, I19⟩
        have hw19 : IntKind.i64.wrap (q4.1 : Int) = i64N q4.1 := wrap_i64N (by rw [← Hq4.out]; exact num_lt _ HI.out.byt)
        have ff19 := I19.free 3
        have cc19 := cell_blk I19.cells 3 rfl
        have HJ := Lib.hid (show QecI wA w1.heap.size k kr ⟨q1.1, i64N q2.1, i64N q3.1, i64N q4.1, 0, 0, ⟨0, [], [], 0⟩, []⟩ (none, 0, 0) (none, 0, 0) (none, 0, 0) (wa19.setCell ⟨kr, 3, none⟩ (.int .i64 (i64N q4.1))) q4.2 from I19.set 3 (.int .i64 (i64N q4.1)) rfl I19.key I19.val I19.copy)
        clear HI I19 CA
        have HI := HJ
        clear HJ
        go_wp2_with (fail)
        generalize wa19.setCell ⟨kr, 3, none⟩ _ = wb19 at *
        clear cc19 ff19 hw19
        obtain ⟨q5, hq5⟩ : ∃ q, q4.2.text 263144 = q := ⟨_, rfl⟩
        have CA := Lib.hid (HI.out.text hq5)
        have Hq5 := Lib.hid hq5
        clear hq5
        go_wp2_with (fail)
        refine CA.out.mono ?_
        rintro e wa20 ⟨A20, c20, rfl, T20, I20⟩
        have ff20 := I20.free 10
        have cc20 := cell_blk I20.cells 10 rfl
        have HJ := Lib.hid (show QecI wA w1.heap.size k kr ⟨q1.1, i64N q2.1, i64N q3.1, i64N q4.1, 0, 0, ⟨0, [], [], 0⟩, q5.1⟩ (none, 0, 0) (none, 0, 0) (A20, q5.1.length, c20) (wa20.setCell ⟨kr, 10, none⟩ (.slice A20 q5.1.length c20)) q5.2 from I20.set 10 (.slice A20 q5.1.length c20) rfl I20.key I20.val T20)
        clear HI I20 CA T20
        have HI := HJ
        clear HJ
        go_wp2_with (fail)
        generalize wa20.setCell ⟨kr, 10, none⟩ _ = wb20 at *
        clear cc20 ff20
        obtain ⟨r, hr⟩ : ∃ r : RZ, r = ⟨q1.1, i64N q2.1, i64N q3.1, i64N q4.1, 0, 0, ⟨0, [], [], 0⟩, q5.1⟩ := ⟨_, rfl⟩
        have HR := Lib.hid (show (qecR p).1 = r by rw [hr, HPQ.out]; unfold qecF; rw [if_neg k1, if_neg k2, if_pos k4]; simp only [Hq3.out, Hq4.out, Hq5.out]; rfl)
        obtain ⟨K, hK⟩ : ∃ K : SlB, K = (none, 0, 0) := ⟨_, rfl⟩
        obtain ⟨V, hV⟩ : ∃ K : SlB, K = (none, 0, 0) := ⟨_, rfl⟩
        obtain ⟨C, hC⟩ : ∃ K : SlB, K = (A20, q5.1.length, c20) := ⟨_, rfl⟩
        have HJ := Lib.hid (show QecI wA w1.heap.size k kr r K V C wb20 q5.2 by rw [hr, hK, hV, hC]; exact HI.out)
        clear HI hr hK hV hC
        have HI := HJ
        clear HJ
        have HBW := Lib.hid (show Below w.heap.size w wb20 from HZ.out.trans (HI.out.bel.mono HZ.out.size))
        have HCV := Lib.hid (show (convert 22 9 (.slice B p.length cc)).run Try.prog (wb20).drew = .ok (.string (strOfNums p)) (wb20).drew from conv_any (HY.out.below HBW.out.drew))
        have SO := Lib.hid (fun W => refSound_any (r := r) K V C HI.out.key.1 HI.out.val.1 HI.out.copy.1 W)
        unfold recV recCells at SO
        have HD := Lib.hid (HI.out.below (Below.refl _ _).drew)
        obtain ⟨s2, hs2⟩ : ∃ s2, strOfNums p = s2 := ⟨_, rfl⟩
        have HS2 := Lib.hid hs2
        clear hs2
        have HZT := Lib.hid (show ∀ W', Below wA.heap.size wA W' → W'.heap[w.heap.size]? = some (.cells (recCells RZ.none zSl zSl zSl) TRec (0, 0)) from fun W' hB => (hB.block _ (by rw [HZS.out]; omega)).trans HZB.out)
        by_cases hs : SoundR r
        · rw [decide_eq_true hs] at SO
          obtain ⟨s1, hs1⟩ : ∃ s1, strOfNums (formR r) = s1 := ⟨_, rfl⟩
          have HS1 := Lib.hid hs1
          clear hs1
          by_cases he : formR r = p
          · have hss : s2 = s1 := by rw [← HS1.out, ← HS2.out, he]
            subst hss
            have HE := Lib.hid he
            clear he
            refine start_ (n := 11) (S := fun w' => w'.cell? ⟨kr, 0, none⟩ = some (.int .i64 r.kind) ∧ w'.cell? ⟨kr, 1, none⟩ = some (.int .i64 r.shard) ∧ w'.cell? ⟨kr, 2, none⟩ = some (.int .i64 r.epoch) ∧ w'.cell? ⟨kr, 3, none⟩ = some (.int .i64 r.peer) ∧ w'.cell? ⟨kr, 4, none⟩ = some (.int .i64 r.client) ∧ w'.cell? ⟨kr, 5, none⟩ = some (.int .i64 r.seq) ∧ w'.cell? ⟨kr, 6, none⟩ = some (.int .i64 r.op.kind) ∧ w'.cell? ⟨kr, 7, none⟩ = some (.slice K.1 K.2.1 K.2.2) ∧ w'.cell? ⟨kr, 8, none⟩ = some (.slice V.1 V.2.1 V.2.2) ∧ w'.cell? ⟨kr, 9, none⟩ = some (.int .i64 r.op.rev) ∧ w'.cell? ⟨kr, 10, none⟩ = some (.slice C.1 C.2.1 C.2.2) ∧ (convert 22 9 (.slice B p.length cc)).run Try.prog w' = .ok (.string s2) w') (ds := []) #[false, false, false, false, false, false, false, false, false, false, false] (by kernel_rfl) rfl rfl ⟨cell_blk HI.out.cells 0 rfl, cell_blk HI.out.cells 1 rfl, cell_blk HI.out.cells 2 rfl, cell_blk HI.out.cells 3 rfl, cell_blk HI.out.cells 4 rfl, cell_blk HI.out.cells 5 rfl, cell_blk HI.out.cells 6 rfl, cell_blk HI.out.cells 7 rfl, cell_blk HI.out.cells 8 rfl, cell_blk HI.out.cells 9 rfl, cell_blk HI.out.cells 10 rfl, (by rw [← HS2.out]; exact HCV.out)⟩ (fun hHeld => ?_)
            (refine take_ (i := 0) (N := some 76) (v := ?v_274) (a' := ?a_274) #[true, false, false, false, false, false, false, false, false, false, false] rfl rfl (by kernel_rfl) (fun _ _ _ h => h) (Or.inl ⟨by rfl, ?hy_274⟩) hHeld ?ha_274 ?hh_274; (case hy_274 => (rintro w' ⟨s0_, s1_, s2_, s3_, s4_, s5_, s6_, s7_, s8_, s9_, s10_, s11_⟩; go_simp; with_reducible rfl)); (case ha_274 => (simp (disch := omega) only [Act.put, List.setIfInBounds_toArray, List.set_cons_zero, List.set_cons_succ, wrap_in]; rfl)))
            refine one_ (i := 1) (N := some 77) #[true, true, false, false, false, false, false, false, false, false, false] rfl rfl (by kernel_rfl) (by decide) (fun K hK => ?_)
            (refine goes_ Try.func17 (by kernel_rfl) rfl ?args_276 (by rfl) rfl rfl ?hargs_276 ?hc_276; (case hargs_276 => (go_simp; with_reducible rfl)))
            (refine (SO.out _).mono ?_; rintro e w3 ⟨rfl, hb3⟩; have HI3 := Lib.hid (HD.out.below hb3); have HCV3 := Lib.hid (conv_any (c := cc) (HY.out.below (HBW.out.drew.trans (hb3.mono HBW.out.size)))); refine ⟨_, rfl, ?_⟩)
            (refine hK.out _ _ ?hs_278 ?hn_278; (case hs_278 => (exact ⟨cell_blk HI3.out.cells 0 rfl, cell_blk HI3.out.cells 1 rfl, cell_blk HI3.out.cells 2 rfl, cell_blk HI3.out.cells 3 rfl, cell_blk HI3.out.cells 4 rfl, cell_blk HI3.out.cells 5 rfl, cell_blk HI3.out.cells 6 rfl, cell_blk HI3.out.cells 7 rfl, cell_blk HI3.out.cells 8 rfl, cell_blk HI3.out.cells 9 rfl, cell_blk HI3.out.cells 10 rfl, by rw [← HS2.out]; exact HCV3.out⟩)); intro hHeld; clear hK K)
            (refine norm_ (a' := ?a_279) ?ha_279 ?hh_279; (case ha_279 => (simp (disch := omega) only [Act.put, List.setIfInBounds_toArray, List.set_cons_zero, List.set_cons_succ, wrap_in]; rfl)))
            (refine take_ (i := 2) (N := some 78) (v := ?v_280) (a' := ?a_280) #[true, true, true, false, false, false, false, false, false, false, false] rfl rfl (by kernel_rfl) (fun _ _ _ h => h) (Or.inl ⟨by rfl, ?hy_280⟩) hHeld ?ha_280 ?hh_280; (case hy_280 => (rintro w' ⟨s0_, s1_, s2_, s3_, s4_, s5_, s6_, s7_, s8_, s9_, s10_, s11_⟩; go_simp; with_reducible rfl)); (case ha_280 => (simp (disch := omega) only [Act.put, List.setIfInBounds_toArray, List.set_cons_zero, List.set_cons_succ, wrap_in]; rfl)))
            (refine take_ (i := 3) (N := some 79) (v := ?v_281) (a' := ?a_281) #[true, true, true, true, false, false, false, false, false, false, false] rfl rfl (by kernel_rfl) (fun _ _ _ h => h) (Or.inl ⟨by rfl, ?hy_281⟩) hHeld ?ha_281 ?hh_281; (case hy_281 => (rintro w' ⟨s0_, s1_, s2_, s3_, s4_, s5_, s6_, s7_, s8_, s9_, s10_, s11_⟩; go_simp; with_reducible rfl)); (case ha_281 => (simp (disch := omega) only [Act.put, List.setIfInBounds_toArray, List.set_cons_zero, List.set_cons_succ, wrap_in]; rfl)))
            first | (refine take_ (i := 4) (N := some 80) (v := undef) (a' := ?a_282) #[true, true, true, true, true, false, false, false, false, false, false] rfl rfl (by kernel_rfl) (fun _ _ _ h => h) (Or.inr ⟨by rfl, rfl⟩) hHeld ?ha_282 ?hh_282; (case ha_282 => (simp (disch := omega) only [Act.put, List.setIfInBounds_toArray, List.set_cons_zero, List.set_cons_succ, wrap_in]; rfl))) | (refine take_ (i := 4) (N := some 80) (v := ?v_282) (a' := ?a_282) #[true, true, true, true, true, false, false, false, false, false, false] rfl rfl (by kernel_rfl) (fun _ _ _ h => h) (Or.inl ⟨by rfl, ?hy_282⟩) hHeld ?ha_282 ?hh_282; (case hy_282 => (rintro w' ⟨s0_, s1_, s2_, s3_, s4_, s5_, s6_, s7_, s8_, s9_, s10_, s11_⟩; go_simp; with_reducible rfl)); (case ha_282 => (simp (disch := omega) only [Act.put, List.setIfInBounds_toArray, List.set_cons_zero, List.set_cons_succ, wrap_in]; rfl)))
            first | (refine take_ (i := 7) (N := some 83) (v := undef) (a' := ?a_283) #[true, true, true, true, true, false, false, true, false, false, false] rfl rfl (by kernel_rfl) (fun _ _ _ h => h) (Or.inr ⟨by rfl, rfl⟩) hHeld ?ha_283 ?hh_283; (case ha_283 => (simp (disch := omega) only [Act.put, List.setIfInBounds_toArray, List.set_cons_zero, List.set_cons_succ, wrap_in]; rfl))) | (refine take_ (i := 7) (N := some 83) (v := ?v_283) (a' := ?a_283) #[true, true, true, true, true, false, false, true, false, false, false] rfl rfl (by kernel_rfl) (fun _ _ _ h => h) (Or.inl ⟨by rfl, ?hy_283⟩) hHeld ?ha_283 ?hh_283; (case hy_283 => (rintro w' ⟨s0_, s1_, s2_, s3_, s4_, s5_, s6_, s7_, s8_, s9_, s10_, s11_⟩; go_simp; with_reducible rfl)); (case ha_283 => (simp (disch := omega) only [Act.put, List.setIfInBounds_toArray, List.set_cons_zero, List.set_cons_succ, wrap_in]; rfl)))
            first | (refine take_ (i := 8) (N := some 84) (v := undef) (a' := ?a_284) #[true, true, true, true, true, false, false, true, true, false, false] rfl rfl (by kernel_rfl) (fun _ _ _ h => h) (Or.inr ⟨by rfl, rfl⟩) hHeld ?ha_284 ?hh_284; (case ha_284 => (simp (disch := omega) only [Act.put, List.setIfInBounds_toArray, List.set_cons_zero, List.set_cons_succ, wrap_in]; rfl))) | (refine take_ (i := 8) (N := some 84) (v := ?v_284) (a' := ?a_284) #[true, true, true, true, true, false, false, true, true, false, false] rfl rfl (by kernel_rfl) (fun _ _ _ h => h) (Or.inl ⟨by rfl, ?hy_284⟩) hHeld ?ha_284 ?hh_284; (case hy_284 => (rintro w' ⟨s0_, s1_, s2_, s3_, s4_, s5_, s6_, s7_, s8_, s9_, s10_, s11_⟩; go_simp; with_reducible rfl)); (case ha_284 => (simp (disch := omega) only [Act.put, List.setIfInBounds_toArray, List.set_cons_zero, List.set_cons_succ, wrap_in]; rfl)))
            refine one_ (i := 5) (N := some 81) #[true, true, true, true, true, true, false, true, true, false, false] rfl rfl (by kernel_rfl) (by decide) (fun K hK => ?_)
            (refine goes_ Try.func31 (by kernel_rfl) rfl ?args_286 (by rfl) rfl rfl ?hargs_286 ?hc_286; (case hargs_286 => (go_simp; with_reducible rfl)))
            (have FO := refForm16_any hs (by rw [← HR.out]; exact qec_byt HBY.out) HI3.out.key.slAt HI3.out.val.slAt HI3.out.copy.slAt; unfold recV recCells at FO; refine FO.mono ?_; rintro e w5 ⟨A, c, rfl, hg, hb5⟩; have HI5 := Lib.hid (HI3.out.below hb5); have HCV5 := Lib.hid (conv_any (c := cc) (HY.out.below (HZ.out.trans (HI5.out.bel.mono HZ.out.size)))); have cv5 := conv_any (c := c) hg.srcB; rw [HS1.out] at cv5; refine ⟨_, rfl, ?_⟩)
            (refine hK.out _ _ ?hs_288 ?hn_288; (case hs_288 => (exact ⟨cell_blk HI5.out.cells 0 rfl, cell_blk HI5.out.cells 1 rfl, cell_blk HI5.out.cells 2 rfl, cell_blk HI5.out.cells 3 rfl, cell_blk HI5.out.cells 4 rfl, cell_blk HI5.out.cells 5 rfl, cell_blk HI5.out.cells 6 rfl, cell_blk HI5.out.cells 7 rfl, cell_blk HI5.out.cells 8 rfl, cell_blk HI5.out.cells 9 rfl, cell_blk HI5.out.cells 10 rfl, by rw [← HS2.out]; exact HCV5.out⟩)); intro hHeld; clear hK K)
            (refine norm_ (a' := ?a_289) ?ha_289 ?hh_289; (case ha_289 => (simp (disch := omega) only [Act.put, List.setIfInBounds_toArray, List.set_cons_zero, List.set_cons_succ, wrap_in]; rfl)))
            refine one_ (i := 6) (N := some 82) #[true, true, true, true, true, true, true, true, true, false, false] rfl rfl (by kernel_rfl) (by decide) (fun K hK => ?_)
            first | (refine off_ (by rfl) ?hk_291) | (refine value_ (v := ?v_291) (w1 := ?w1_291) (by rfl) rfl ?hr_291 ?hk_291; (case hr_291 => (go_simp; first | with_reducible rfl | (constructor <;> with_reducible rfl))))
            (refine hK.out _ _ hHeld ?hn_292; intro _; clear hK K)
            (refine norm_ (a' := ?a_293) ?ha_293 ?hh_293; (case ha_293 => (simp (disch := omega) only [Act.put, List.setIfInBounds_toArray, List.set_cons_zero, List.set_cons_succ, wrap_in]; rfl)))
            first | (refine take_ (i := 9) (N := some 85) (v := undef) (a' := ?a_294) #[true, true, true, true, true, true, true, true, true, true, false] rfl rfl (by kernel_rfl) (fun _ _ _ h => h) (Or.inr ⟨by rfl, rfl⟩) hHeld ?ha_294 ?hh_294; (case ha_294 => (simp (disch := omega) only [Act.put, List.setIfInBounds_toArray, List.set_cons_zero, List.set_cons_succ, wrap_in]; rfl))) | (refine take_ (i := 9) (N := some 85) (v := ?v_294) (a' := ?a_294) #[true, true, true, true, true, true, true, true, true, true, false] rfl rfl (by kernel_rfl) (fun _ _ _ h => h) (Or.inl ⟨by rfl, ?hy_294⟩) hHeld ?ha_294 ?hh_294; (case hy_294 => (rintro w' ⟨s0_, s1_, s2_, s3_, s4_, s5_, s6_, s7_, s8_, s9_, s10_, s11_⟩; go_simp; with_reducible rfl)); (case ha_294 => (simp (disch := omega) only [Act.put, List.setIfInBounds_toArray, List.set_cons_zero, List.set_cons_succ, wrap_in]; rfl)))
            (refine take_ (i := 10) (N := some 86) (v := ?v_295) (a' := ?a_295) #[true, true, true, true, true, true, true, true, true, true, true] rfl rfl (by kernel_rfl) (fun _ _ _ h => h) (Or.inl ⟨by rfl, ?hy_295⟩) hHeld ?ha_295 ?hh_295; (case hy_295 => (rintro w' ⟨s0_, s1_, s2_, s3_, s4_, s5_, s6_, s7_, s8_, s9_, s10_, s11_⟩; go_simp; with_reducible rfl)); (case ha_295 => (simp (disch := omega) only [Act.put, List.setIfInBounds_toArray, List.set_cons_zero, List.set_cons_succ, wrap_in]; rfl)))
            refine done_ (by kernel_rfl) ?_
            have HT5 := Lib.hid (HZT.out _ HI5.out.bel)
            clear hHeld cv5
            have t0 : w5.cell? ⟨w.heap.size, 0, none⟩ = some (.int .i64 0) := cell_blk HT5.out 0 rfl
            have t1 : w5.cell? ⟨w.heap.size, 1, none⟩ = some (.int .i64 0) := cell_blk HT5.out 1 rfl
            have t2 : w5.cell? ⟨w.heap.size, 2, none⟩ = some (.int .i64 0) := cell_blk HT5.out 2 rfl
            have t3 : w5.cell? ⟨w.heap.size, 3, none⟩ = some (.int .i64 0) := cell_blk HT5.out 3 rfl
            have t4 : w5.cell? ⟨w.heap.size, 4, none⟩ = some (.int .i64 0) := cell_blk HT5.out 4 rfl
            have t5 : w5.cell? ⟨w.heap.size, 5, none⟩ = some (.int .i64 0) := cell_blk HT5.out 5 rfl
            have t6 : w5.cell? ⟨w.heap.size, 6, none⟩ = some (.int .i64 0) := cell_blk HT5.out 6 rfl
            have t7 : w5.cell? ⟨w.heap.size, 7, none⟩ = some (.slice none 0 0) := cell_blk HT5.out 7 rfl
            have t8 : w5.cell? ⟨w.heap.size, 8, none⟩ = some (.slice none 0 0) := cell_blk HT5.out 8 rfl
            have t9 : w5.cell? ⟨w.heap.size, 9, none⟩ = some (.int .i64 0) := cell_blk HT5.out 9 rfl
            have t10 : w5.cell? ⟨w.heap.size, 10, none⟩ = some (.slice none 0 0) := cell_blk HT5.out 10 rfl
            have f0 := free_blk HT5.out 0
            have f1 := free_blk HT5.out 1
            have f2 := free_blk HT5.out 2
            have f3 := free_blk HT5.out 3
            have f4 := free_blk HT5.out 4
            have f5 := free_blk HT5.out 5
            have f6 := free_blk HT5.out 6
            have f7 := free_blk HT5.out 7
            have f8 := free_blk HT5.out 8
            have f9 := free_blk HT5.out 9
            have f10 := free_blk HT5.out 10
            have e0 : w5.cell? ⟨kr, 0, none⟩ = some (.int .i64 r.kind) := cell_blk HI5.out.cells 0 rfl
            have e1 : w5.cell? ⟨kr, 1, none⟩ = some (.int .i64 r.shard) := cell_blk HI5.out.cells 1 rfl
            have e2 : w5.cell? ⟨kr, 2, none⟩ = some (.int .i64 r.epoch) := cell_blk HI5.out.cells 2 rfl
            have e3 : w5.cell? ⟨kr, 3, none⟩ = some (.int .i64 r.peer) := cell_blk HI5.out.cells 3 rfl
            have e4 : w5.cell? ⟨kr, 4, none⟩ = some (.int .i64 r.client) := cell_blk HI5.out.cells 4 rfl
            have e5 : w5.cell? ⟨kr, 5, none⟩ = some (.int .i64 r.seq) := cell_blk HI5.out.cells 5 rfl
            have e6 : w5.cell? ⟨kr, 6, none⟩ = some (.int .i64 r.op.kind) := cell_blk HI5.out.cells 6 rfl
            have e7 : w5.cell? ⟨kr, 7, none⟩ = some (.slice K.1 K.2.1 K.2.2) := cell_blk HI5.out.cells 7 rfl
            have e8 : w5.cell? ⟨kr, 8, none⟩ = some (.slice V.1 V.2.1 V.2.2) := cell_blk HI5.out.cells 8 rfl
            have e9 : w5.cell? ⟨kr, 9, none⟩ = some (.int .i64 r.op.rev) := cell_blk HI5.out.cells 9 rfl
            have e10 : w5.cell? ⟨kr, 10, none⟩ = some (.slice C.1 C.2.1 C.2.2) := cell_blk HI5.out.cells 10 rfl
            go_wp2_with (fail)
            refine bodyPost_ret (v := .tuple #[recV r K V C, .int .i64 0]) ?_ rfl ?_
            · unfold recV recCells
              simp [results, Try.results11, go_sem, *]
            · exact QDecP.good (HZ.out.trans (HI5.out.bel.mono HZ.out.size)) HZS.out (by rw [decode_ref HBY.out, HR.out, if_pos ⟨hs, HE.out⟩]) hs HI5.out _ _ _ _ _ _ _ _ _ _ _
          · have hss : (s1.toList == s2.toList) = false := by
              rw [beq_eq_false_iff_ne]
              intro h
              rw [← HS1.out, ← HS2.out] at h
              exact he (strL_inj (formR_byt hs (by rw [← HR.out]; exact qec_byt HBY.out)) HBY.out h)
            have HE := Lib.hid he
            clear he
            refine start_ (n := 11) (S := fun w' => w'.cell? ⟨kr, 0, none⟩ = some (.int .i64 r.kind) ∧ w'.cell? ⟨kr, 1, none⟩ = some (.int .i64 r.shard) ∧ w'.cell? ⟨kr, 2, none⟩ = some (.int .i64 r.epoch) ∧ w'.cell? ⟨kr, 3, none⟩ = some (.int .i64 r.peer) ∧ w'.cell? ⟨kr, 4, none⟩ = some (.int .i64 r.client) ∧ w'.cell? ⟨kr, 5, none⟩ = some (.int .i64 r.seq) ∧ w'.cell? ⟨kr, 6, none⟩ = some (.int .i64 r.op.kind) ∧ w'.cell? ⟨kr, 7, none⟩ = some (.slice K.1 K.2.1 K.2.2) ∧ w'.cell? ⟨kr, 8, none⟩ = some (.slice V.1 V.2.1 V.2.2) ∧ w'.cell? ⟨kr, 9, none⟩ = some (.int .i64 r.op.rev) ∧ w'.cell? ⟨kr, 10, none⟩ = some (.slice C.1 C.2.1 C.2.2) ∧ (convert 22 9 (.slice B p.length cc)).run Try.prog w' = .ok (.string s2) w') (ds := []) #[false, false, false, false, false, false, false, false, false, false, false] (by kernel_rfl) rfl rfl ⟨cell_blk HI.out.cells 0 rfl, cell_blk HI.out.cells 1 rfl, cell_blk HI.out.cells 2 rfl, cell_blk HI.out.cells 3 rfl, cell_blk HI.out.cells 4 rfl, cell_blk HI.out.cells 5 rfl, cell_blk HI.out.cells 6 rfl, cell_blk HI.out.cells 7 rfl, cell_blk HI.out.cells 8 rfl, cell_blk HI.out.cells 9 rfl, cell_blk HI.out.cells 10 rfl, (by rw [← HS2.out]; exact HCV.out)⟩ (fun hHeld => ?_)
            (refine take_ (i := 0) (N := some 76) (v := ?v_298) (a' := ?a_298) #[true, false, false, false, false, false, false, false, false, false, false] rfl rfl (by kernel_rfl) (fun _ _ _ h => h) (Or.inl ⟨by rfl, ?hy_298⟩) hHeld ?ha_298 ?hh_298; (case hy_298 => (rintro w' ⟨s0_, s1_, s2_, s3_, s4_, s5_, s6_, s7_, s8_, s9_, s10_, s11_⟩; go_simp; with_reducible rfl)); (case ha_298 => (simp (disch := omega) only [Act.put, List.setIfInBounds_toArray, List.set_cons_zero, List.set_cons_succ, wrap_in]; rfl)))
            refine one_ (i := 1) (N := some 77) #[true, true, false, false, false, false, false, false, false, false, false] rfl rfl (by kernel_rfl) (by decide) (fun K hK => ?_)
            (refine goes_ Try.func17 (by kernel_rfl) rfl ?args_300 (by rfl) rfl rfl ?hargs_300 ?hc_300; (case hargs_300 => (go_simp; with_reducible rfl)))
            (refine (SO.out _).mono ?_; rintro e w3 ⟨rfl, hb3⟩; have HI3 := Lib.hid (HD.out.below hb3); have HCV3 := Lib.hid (conv_any (c := cc) (HY.out.below (HBW.out.drew.trans (hb3.mono HBW.out.size)))); refine ⟨_, rfl, ?_⟩)
            (refine hK.out _ _ ?hs_302 ?hn_302; (case hs_302 => (exact ⟨cell_blk HI3.out.cells 0 rfl, cell_blk HI3.out.cells 1 rfl, cell_blk HI3.out.cells 2 rfl, cell_blk HI3.out.cells 3 rfl, cell_blk HI3.out.cells 4 rfl, cell_blk HI3.out.cells 5 rfl, cell_blk HI3.out.cells 6 rfl, cell_blk HI3.out.cells 7 rfl, cell_blk HI3.out.cells 8 rfl, cell_blk HI3.out.cells 9 rfl, cell_blk HI3.out.cells 10 rfl, by rw [← HS2.out]; exact HCV3.out⟩)); intro hHeld; clear hK K)
            (refine norm_ (a' := ?a_303) ?ha_303 ?hh_303; (case ha_303 => (simp (disch := omega) only [Act.put, List.setIfInBounds_toArray, List.set_cons_zero, List.set_cons_succ, wrap_in]; rfl)))
            (refine take_ (i := 2) (N := some 78) (v := ?v_304) (a' := ?a_304) #[true, true, true, false, false, false, false, false, false, false, false] rfl rfl (by kernel_rfl) (fun _ _ _ h => h) (Or.inl ⟨by rfl, ?hy_304⟩) hHeld ?ha_304 ?hh_304; (case hy_304 => (rintro w' ⟨s0_, s1_, s2_, s3_, s4_, s5_, s6_, s7_, s8_, s9_, s10_, s11_⟩; go_simp; with_reducible rfl)); (case ha_304 => (simp (disch := omega) only [Act.put, List.setIfInBounds_toArray, List.set_cons_zero, List.set_cons_succ, wrap_in]; rfl)))
            (refine take_ (i := 3) (N := some 79) (v := ?v_305) (a' := ?a_305) #[true, true, true, true, false, false, false, false, false, false, false] rfl rfl (by kernel_rfl) (fun _ _ _ h => h) (Or.inl ⟨by rfl, ?hy_305⟩) hHeld ?ha_305 ?hh_305; (case hy_305 => (rintro w' ⟨s0_, s1_, s2_, s3_, s4_, s5_, s6_, s7_, s8_, s9_, s10_, s11_⟩; go_simp; with_reducible rfl)); (case ha_305 => (simp (disch := omega) only [Act.put, List.setIfInBounds_toArray, List.set_cons_zero, List.set_cons_succ, wrap_in]; rfl)))
            first | (refine take_ (i := 4) (N := some 80) (v := undef) (a' := ?a_306) #[true, true, true, true, true, false, false, false, false, false, false] rfl rfl (by kernel_rfl) (fun _ _ _ h => h) (Or.inr ⟨by rfl, rfl⟩) hHeld ?ha_306 ?hh_306; (case ha_306 => (simp (disch := omega) only [Act.put, List.setIfInBounds_toArray, List.set_cons_zero, List.set_cons_succ, wrap_in]; rfl))) | (refine take_ (i := 4) (N := some 80) (v := ?v_306) (a' := ?a_306) #[true, true, true, true, true, false, false, false, false, false, false] rfl rfl (by kernel_rfl) (fun _ _ _ h => h) (Or.inl ⟨by rfl, ?hy_306⟩) hHeld ?ha_306 ?hh_306; (case hy_306 => (rintro w' ⟨s0_, s1_, s2_, s3_, s4_, s5_, s6_, s7_, s8_, s9_, s10_, s11_⟩; go_simp; with_reducible rfl)); (case ha_306 => (simp (disch := omega) only [Act.put, List.setIfInBounds_toArray, List.set_cons_zero, List.set_cons_succ, wrap_in]; rfl)))
            first | (refine take_ (i := 7) (N := some 83) (v := undef) (a' := ?a_307) #[true, true, true, true, true, false, false, true, false, false, false] rfl rfl (by kernel_rfl) (fun _ _ _ h => h) (Or.inr ⟨by rfl, rfl⟩) hHeld ?ha_307 ?hh_307; (case ha_307 => (simp (disch := omega) only [Act.put, List.setIfInBounds_toArray, List.set_cons_zero, List.set_cons_succ, wrap_in]; rfl))) | (refine take_ (i := 7) (N := some 83) (v := ?v_307) (a' := ?a_307) #[true, true, true, true, true, false, false, true, false, false, false] rfl rfl (by kernel_rfl) (fun _ _ _ h => h) (Or.inl ⟨by rfl, ?hy_307⟩) hHeld ?ha_307 ?hh_307; (case hy_307 => (rintro w' ⟨s0_, s1_, s2_, s3_, s4_, s5_, s6_, s7_, s8_, s9_, s10_, s11_⟩; go_simp; with_reducible rfl)); (case ha_307 => (simp (disch := omega) only [Act.put, List.setIfInBounds_toArray, List.set_cons_zero, List.set_cons_succ, wrap_in]; rfl)))
            first | (refine take_ (i := 8) (N := some 84) (v := undef) (a' := ?a_308) #[true, true, true, true, true, false, false, true, true, false, false] rfl rfl (by kernel_rfl) (fun _ _ _ h => h) (Or.inr ⟨by rfl, rfl⟩) hHeld ?ha_308 ?hh_308; (case ha_308 => (simp (disch := omega) only [Act.put, List.setIfInBounds_toArray, List.set_cons_zero, List.set_cons_succ, wrap_in]; rfl))) | (refine take_ (i := 8) (N := some 84) (v := ?v_308) (a' := ?a_308) #[true, true, true, true, true, false, false, true, true, false, false] rfl rfl (by kernel_rfl) (fun _ _ _ h => h) (Or.inl ⟨by rfl, ?hy_308⟩) hHeld ?ha_308 ?hh_308; (case hy_308 => (rintro w' ⟨s0_, s1_, s2_, s3_, s4_, s5_, s6_, s7_, s8_, s9_, s10_, s11_⟩; go_simp; with_reducible rfl)); (case ha_308 => (simp (disch := omega) only [Act.put, List.setIfInBounds_toArray, List.set_cons_zero, List.set_cons_succ, wrap_in]; rfl)))
            refine one_ (i := 5) (N := some 81) #[true, true, true, true, true, true, false, true, true, false, false] rfl rfl (by kernel_rfl) (by decide) (fun K hK => ?_)
            (refine goes_ Try.func31 (by kernel_rfl) rfl ?args_310 (by rfl) rfl rfl ?hargs_310 ?hc_310; (case hargs_310 => (go_simp; with_reducible rfl)))
            (have FO := refForm16_any hs (by rw [← HR.out]; exact qec_byt HBY.out) HI3.out.key.slAt HI3.out.val.slAt HI3.out.copy.slAt; unfold recV recCells at FO; refine FO.mono ?_; rintro e w5 ⟨A, c, rfl, hg, hb5⟩; have HI5 := Lib.hid (HI3.out.below hb5); have HCV5 := Lib.hid (conv_any (c := cc) (HY.out.below (HZ.out.trans (HI5.out.bel.mono HZ.out.size)))); have cv5 := conv_any (c := c) hg.srcB; rw [HS1.out] at cv5; refine ⟨_, rfl, ?_⟩)
            (refine hK.out _ _ ?hs_312 ?hn_312; (case hs_312 => (exact ⟨cell_blk HI5.out.cells 0 rfl, cell_blk HI5.out.cells 1 rfl, cell_blk HI5.out.cells 2 rfl, cell_blk HI5.out.cells 3 rfl, cell_blk HI5.out.cells 4 rfl, cell_blk HI5.out.cells 5 rfl, cell_blk HI5.out.cells 6 rfl, cell_blk HI5.out.cells 7 rfl, cell_blk HI5.out.cells 8 rfl, cell_blk HI5.out.cells 9 rfl, cell_blk HI5.out.cells 10 rfl, by rw [← HS2.out]; exact HCV5.out⟩)); intro hHeld; clear hK K)
            (refine norm_ (a' := ?a_313) ?ha_313 ?hh_313; (case ha_313 => (simp (disch := omega) only [Act.put, List.setIfInBounds_toArray, List.set_cons_zero, List.set_cons_succ, wrap_in]; rfl)))
            refine one_ (i := 6) (N := some 82) #[true, true, true, true, true, true, true, true, true, false, false] rfl rfl (by kernel_rfl) (by decide) (fun K hK => ?_)
            first | (refine off_ (by rfl) ?hk_315) | (refine value_ (v := ?v_315) (w1 := ?w1_315) (by rfl) rfl ?hr_315 ?hk_315; (case hr_315 => (go_simp; first | with_reducible rfl | (constructor <;> with_reducible rfl))))
            (refine hK.out _ _ hHeld ?hn_316; intro _; clear hK K)
            (refine norm_ (a' := ?a_317) ?ha_317 ?hh_317; (case ha_317 => (simp (disch := omega) only [Act.put, List.setIfInBounds_toArray, List.set_cons_zero, List.set_cons_succ, wrap_in]; rfl)))
            first | (refine take_ (i := 9) (N := some 85) (v := undef) (a' := ?a_318) #[true, true, true, true, true, true, true, true, true, true, false] rfl rfl (by kernel_rfl) (fun _ _ _ h => h) (Or.inr ⟨by rfl, rfl⟩) hHeld ?ha_318 ?hh_318; (case ha_318 => (simp (disch := omega) only [Act.put, List.setIfInBounds_toArray, List.set_cons_zero, List.set_cons_succ, wrap_in]; rfl))) | (refine take_ (i := 9) (N := some 85) (v := ?v_318) (a' := ?a_318) #[true, true, true, true, true, true, true, true, true, true, false] rfl rfl (by kernel_rfl) (fun _ _ _ h => h) (Or.inl ⟨by rfl, ?hy_318⟩) hHeld ?ha_318 ?hh_318; (case hy_318 => (rintro w' ⟨s0_, s1_, s2_, s3_, s4_, s5_, s6_, s7_, s8_, s9_, s10_, s11_⟩; go_simp; with_reducible rfl)); (case ha_318 => (simp (disch := omega) only [Act.put, List.setIfInBounds_toArray, List.set_cons_zero, List.set_cons_succ, wrap_in]; rfl)))
            (refine take_ (i := 10) (N := some 86) (v := ?v_319) (a' := ?a_319) #[true, true, true, true, true, true, true, true, true, true, true] rfl rfl (by kernel_rfl) (fun _ _ _ h => h) (Or.inl ⟨by rfl, ?hy_319⟩) hHeld ?ha_319 ?hh_319; (case hy_319 => (rintro w' ⟨s0_, s1_, s2_, s3_, s4_, s5_, s6_, s7_, s8_, s9_, s10_, s11_⟩; go_simp; with_reducible rfl)); (case ha_319 => (simp (disch := omega) only [Act.put, List.setIfInBounds_toArray, List.set_cons_zero, List.set_cons_succ, wrap_in]; rfl)))
            refine done_ (by kernel_rfl) ?_
            have HT5 := Lib.hid (HZT.out _ HI5.out.bel)
            clear hHeld cv5
            have t0 : w5.cell? ⟨w.heap.size, 0, none⟩ = some (.int .i64 0) := cell_blk HT5.out 0 rfl
            have t1 : w5.cell? ⟨w.heap.size, 1, none⟩ = some (.int .i64 0) := cell_blk HT5.out 1 rfl
            have t2 : w5.cell? ⟨w.heap.size, 2, none⟩ = some (.int .i64 0) := cell_blk HT5.out 2 rfl
            have t3 : w5.cell? ⟨w.heap.size, 3, none⟩ = some (.int .i64 0) := cell_blk HT5.out 3 rfl
            have t4 : w5.cell? ⟨w.heap.size, 4, none⟩ = some (.int .i64 0) := cell_blk HT5.out 4 rfl
            have t5 : w5.cell? ⟨w.heap.size, 5, none⟩ = some (.int .i64 0) := cell_blk HT5.out 5 rfl
            have t6 : w5.cell? ⟨w.heap.size, 6, none⟩ = some (.int .i64 0) := cell_blk HT5.out 6 rfl
            have t7 : w5.cell? ⟨w.heap.size, 7, none⟩ = some (.slice none 0 0) := cell_blk HT5.out 7 rfl
            have t8 : w5.cell? ⟨w.heap.size, 8, none⟩ = some (.slice none 0 0) := cell_blk HT5.out 8 rfl
            have t9 : w5.cell? ⟨w.heap.size, 9, none⟩ = some (.int .i64 0) := cell_blk HT5.out 9 rfl
            have t10 : w5.cell? ⟨w.heap.size, 10, none⟩ = some (.slice none 0 0) := cell_blk HT5.out 10 rfl
            have f0 := free_blk HT5.out 0
            have f1 := free_blk HT5.out 1
            have f2 := free_blk HT5.out 2
            have f3 := free_blk HT5.out 3
            have f4 := free_blk HT5.out 4
            have f5 := free_blk HT5.out 5
            have f6 := free_blk HT5.out 6
            have f7 := free_blk HT5.out 7
            have f8 := free_blk HT5.out 8
            have f9 := free_blk HT5.out 9
            have f10 := free_blk HT5.out 10
            go_wp2_with (fail)
            refine bodyPost_ret (v := .tuple #[.agg #[.int .i64 0, .int .i64 0, .int .i64 0, .int .i64 0, .int .i64 0, .int .i64 0, .int .i64 0, .slice none 0 0, .slice none 0 0, .int .i64 0, .slice none 0 0], .int .i64 160]) ?_ rfl ?_
            · simp [results, Try.results11, go_sem, *]
            · exact QDecP.bad (HZ.out.trans (HI5.out.bel.mono HZ.out.size)) (by rw [decode_ref HBY.out, HR.out, if_neg (fun h => HE.out h.2)]) _ _ _ _ _ _ _ _ _ _ _
        · rw [decide_eq_false hs] at SO
          refine start_ (n := 11) (S := fun w' => w'.cell? ⟨kr, 0, none⟩ = some (.int .i64 r.kind) ∧ w'.cell? ⟨kr, 1, none⟩ = some (.int .i64 r.shard) ∧ w'.cell? ⟨kr, 2, none⟩ = some (.int .i64 r.epoch) ∧ w'.cell? ⟨kr, 3, none⟩ = some (.int .i64 r.peer) ∧ w'.cell? ⟨kr, 4, none⟩ = some (.int .i64 r.client) ∧ w'.cell? ⟨kr, 5, none⟩ = some (.int .i64 r.seq) ∧ w'.cell? ⟨kr, 6, none⟩ = some (.int .i64 r.op.kind) ∧ w'.cell? ⟨kr, 7, none⟩ = some (.slice K.1 K.2.1 K.2.2) ∧ w'.cell? ⟨kr, 8, none⟩ = some (.slice V.1 V.2.1 V.2.2) ∧ w'.cell? ⟨kr, 9, none⟩ = some (.int .i64 r.op.rev) ∧ w'.cell? ⟨kr, 10, none⟩ = some (.slice C.1 C.2.1 C.2.2) ∧ (convert 22 9 (.slice B p.length cc)).run Try.prog w' = .ok (.string s2) w') (ds := []) #[false, false, false, false, false, false, false, false, false, false, false] (by kernel_rfl) rfl rfl ⟨cell_blk HI.out.cells 0 rfl, cell_blk HI.out.cells 1 rfl, cell_blk HI.out.cells 2 rfl, cell_blk HI.out.cells 3 rfl, cell_blk HI.out.cells 4 rfl, cell_blk HI.out.cells 5 rfl, cell_blk HI.out.cells 6 rfl, cell_blk HI.out.cells 7 rfl, cell_blk HI.out.cells 8 rfl, cell_blk HI.out.cells 9 rfl, cell_blk HI.out.cells 10 rfl, (by rw [← HS2.out]; exact HCV.out)⟩ (fun hHeld => ?_)
          (refine take_ (i := 0) (N := some 76) (v := ?v_322) (a' := ?a_322) #[true, false, false, false, false, false, false, false, false, false, false] rfl rfl (by kernel_rfl) (fun _ _ _ h => h) (Or.inl ⟨by rfl, ?hy_322⟩) hHeld ?ha_322 ?hh_322; (case hy_322 => (rintro w' ⟨s0_, s1_, s2_, s3_, s4_, s5_, s6_, s7_, s8_, s9_, s10_, s11_⟩; go_simp; with_reducible rfl)); (case ha_322 => (simp (disch := omega) only [Act.put, List.setIfInBounds_toArray, List.set_cons_zero, List.set_cons_succ, wrap_in]; rfl)))
          refine one_ (i := 1) (N := some 77) #[true, true, false, false, false, false, false, false, false, false, false] rfl rfl (by kernel_rfl) (by decide) (fun K hK => ?_)
          (refine goes_ Try.func17 (by kernel_rfl) rfl ?args_324 (by rfl) rfl rfl ?hargs_324 ?hc_324; (case hargs_324 => (go_simp; with_reducible rfl)))
          (refine (SO.out _).mono ?_; rintro e w3 ⟨rfl, hb3⟩; have HI3 := Lib.hid (HD.out.below hb3); have HCV3 := Lib.hid (conv_any (c := cc) (HY.out.below (HBW.out.drew.trans (hb3.mono HBW.out.size)))); refine ⟨_, rfl, ?_⟩)
          (refine hK.out _ _ ?hs_326 ?hn_326; (case hs_326 => (exact ⟨cell_blk HI3.out.cells 0 rfl, cell_blk HI3.out.cells 1 rfl, cell_blk HI3.out.cells 2 rfl, cell_blk HI3.out.cells 3 rfl, cell_blk HI3.out.cells 4 rfl, cell_blk HI3.out.cells 5 rfl, cell_blk HI3.out.cells 6 rfl, cell_blk HI3.out.cells 7 rfl, cell_blk HI3.out.cells 8 rfl, cell_blk HI3.out.cells 9 rfl, cell_blk HI3.out.cells 10 rfl, by rw [← HS2.out]; exact HCV3.out⟩)); intro hHeld; clear hK K)
          (refine norm_ (a' := ?a_327) ?ha_327 ?hh_327; (case ha_327 => (simp (disch := omega) only [Act.put, List.setIfInBounds_toArray, List.set_cons_zero, List.set_cons_succ, wrap_in]; rfl)))
          (refine take_ (i := 2) (N := some 78) (v := ?v_328) (a' := ?a_328) #[true, true, true, false, false, false, false, false, false, false, false] rfl rfl (by kernel_rfl) (fun _ _ _ h => h) (Or.inl ⟨by rfl, ?hy_328⟩) hHeld ?ha_328 ?hh_328; (case hy_328 => (rintro w' ⟨s0_, s1_, s2_, s3_, s4_, s5_, s6_, s7_, s8_, s9_, s10_, s11_⟩; go_simp; with_reducible rfl)); (case ha_328 => (simp (disch := omega) only [Act.put, List.setIfInBounds_toArray, List.set_cons_zero, List.set_cons_succ, wrap_in]; rfl)))
          (refine take_ (i := 3) (N := some 79) (v := ?v_329) (a' := ?a_329) #[true, true, true, true, false, false, false, false, false, false, false] rfl rfl (by kernel_rfl) (fun _ _ _ h => h) (Or.inl ⟨by rfl, ?hy_329⟩) hHeld ?ha_329 ?hh_329; (case hy_329 => (rintro w' ⟨s0_, s1_, s2_, s3_, s4_, s5_, s6_, s7_, s8_, s9_, s10_, s11_⟩; go_simp; with_reducible rfl)); (case ha_329 => (simp (disch := omega) only [Act.put, List.setIfInBounds_toArray, List.set_cons_zero, List.set_cons_succ, wrap_in]; rfl)))
          first | (refine take_ (i := 4) (N := some 80) (v := undef) (a' := ?a_330) #[true, true, true, true, true, false, false, false, false, false, false] rfl rfl (by kernel_rfl) (fun _ _ _ h => h) (Or.inr ⟨by rfl, rfl⟩) hHeld ?ha_330 ?hh_330; (case ha_330 => (simp (disch := omega) only [Act.put, List.setIfInBounds_toArray, List.set_cons_zero, List.set_cons_succ, wrap_in]; rfl))) | (refine take_ (i := 4) (N := some 80) (v := ?v_330) (a' := ?a_330) #[true, true, true, true, true, false, false, false, false, false, false] rfl rfl (by kernel_rfl) (fun _ _ _ h => h) (Or.inl ⟨by rfl, ?hy_330⟩) hHeld ?ha_330 ?hh_330; (case hy_330 => (rintro w' ⟨s0_, s1_, s2_, s3_, s4_, s5_, s6_, s7_, s8_, s9_, s10_, s11_⟩; go_simp; with_reducible rfl)); (case ha_330 => (simp (disch := omega) only [Act.put, List.setIfInBounds_toArray, List.set_cons_zero, List.set_cons_succ, wrap_in]; rfl)))
          first | (refine take_ (i := 7) (N := some 83) (v := undef) (a' := ?a_331) #[true, true, true, true, true, false, false, true, false, false, false] rfl rfl (by kernel_rfl) (fun _ _ _ h => h) (Or.inr ⟨by rfl, rfl⟩) hHeld ?ha_331 ?hh_331; (case ha_331 => (simp (disch := omega) only [Act.put, List.setIfInBounds_toArray, List.set_cons_zero, List.set_cons_succ, wrap_in]; rfl))) | (refine take_ (i := 7) (N := some 83) (v := ?v_331) (a' := ?a_331) #[true, true, true, true, true, false, false, true, false, false, false] rfl rfl (by kernel_rfl) (fun _ _ _ h => h) (Or.inl ⟨by rfl, ?hy_331⟩) hHeld ?ha_331 ?hh_331; (case hy_331 => (rintro w' ⟨s0_, s1_, s2_, s3_, s4_, s5_, s6_, s7_, s8_, s9_, s10_, s11_⟩; go_simp; with_reducible rfl)); (case ha_331 => (simp (disch := omega) only [Act.put, List.setIfInBounds_toArray, List.set_cons_zero, List.set_cons_succ, wrap_in]; rfl)))
          first | (refine take_ (i := 8) (N := some 84) (v := undef) (a' := ?a_332) #[true, true, true, true, true, false, false, true, true, false, false] rfl rfl (by kernel_rfl) (fun _ _ _ h => h) (Or.inr ⟨by rfl, rfl⟩) hHeld ?ha_332 ?hh_332; (case ha_332 => (simp (disch := omega) only [Act.put, List.setIfInBounds_toArray, List.set_cons_zero, List.set_cons_succ, wrap_in]; rfl))) | (refine take_ (i := 8) (N := some 84) (v := ?v_332) (a' := ?a_332) #[true, true, true, true, true, false, false, true, true, false, false] rfl rfl (by kernel_rfl) (fun _ _ _ h => h) (Or.inl ⟨by rfl, ?hy_332⟩) hHeld ?ha_332 ?hh_332; (case hy_332 => (rintro w' ⟨s0_, s1_, s2_, s3_, s4_, s5_, s6_, s7_, s8_, s9_, s10_, s11_⟩; go_simp; with_reducible rfl)); (case ha_332 => (simp (disch := omega) only [Act.put, List.setIfInBounds_toArray, List.set_cons_zero, List.set_cons_succ, wrap_in]; rfl)))
          (refine take_ (i := 5) (N := some 81) (v := undef) (a' := ?a_333) #[true, true, true, true, true, true, false, true, true, false, false] rfl rfl (by kernel_rfl) (fun _ _ _ h => h) (Or.inr ⟨by rfl, rfl⟩) hHeld ?ha_333 ?hh_333; (case ha_333 => (simp (disch := omega) only [Act.put, List.setIfInBounds_toArray, List.set_cons_zero, List.set_cons_succ, wrap_in]; rfl)))
          refine one_ (i := 6) (N := some 82) #[true, true, true, true, true, true, true, true, true, false, false] rfl rfl (by kernel_rfl) (by decide) (fun K hK => ?_)
          first | (refine off_ (by rfl) ?hk_335) | (refine value_ (v := ?v_335) (w1 := ?w1_335) (by rfl) rfl ?hr_335 ?hk_335; (case hr_335 => (go_simp; first | with_reducible rfl | (constructor <;> with_reducible rfl))))
          (refine hK.out _ _ hHeld ?hn_336; intro _; clear hK K)
          (refine norm_ (a' := ?a_337) ?ha_337 ?hh_337; (case ha_337 => (simp (disch := omega) only [Act.put, List.setIfInBounds_toArray, List.set_cons_zero, List.set_cons_succ, wrap_in]; rfl)))
          first | (refine take_ (i := 9) (N := some 85) (v := undef) (a' := ?a_338) #[true, true, true, true, true, true, true, true, true, true, false] rfl rfl (by kernel_rfl) (fun _ _ _ h => h) (Or.inr ⟨by rfl, rfl⟩) hHeld ?ha_338 ?hh_338; (case ha_338 => (simp (disch := omega) only [Act.put, List.setIfInBounds_toArray, List.set_cons_zero, List.set_cons_succ, wrap_in]; rfl))) | (refine take_ (i := 9) (N := some 85) (v := ?v_338) (a' := ?a_338) #[true, true, true, true, true, true, true, true, true, true, false] rfl rfl (by kernel_rfl) (fun _ _ _ h => h) (Or.inl ⟨by rfl, ?hy_338⟩) hHeld ?ha_338 ?hh_338; (case hy_338 => (rintro w' ⟨s0_, s1_, s2_, s3_, s4_, s5_, s6_, s7_, s8_, s9_, s10_, s11_⟩; go_simp; with_reducible rfl)); (case ha_338 => (simp (disch := omega) only [Act.put, List.setIfInBounds_toArray, List.set_cons_zero, List.set_cons_succ, wrap_in]; rfl)))
          (refine take_ (i := 10) (N := some 86) (v := ?v_339) (a' := ?a_339) #[true, true, true, true, true, true, true, true, true, true, true] rfl rfl (by kernel_rfl) (fun _ _ _ h => h) (Or.inl ⟨by rfl, ?hy_339⟩) hHeld ?ha_339 ?hh_339; (case hy_339 => (rintro w' ⟨s0_, s1_, s2_, s3_, s4_, s5_, s6_, s7_, s8_, s9_, s10_, s11_⟩; go_simp; with_reducible rfl)); (case ha_339 => (simp (disch := omega) only [Act.put, List.setIfInBounds_toArray, List.set_cons_zero, List.set_cons_succ, wrap_in]; rfl)))
          refine done_ (by kernel_rfl) ?_
          have HT3 := Lib.hid (HZT.out _ HI3.out.bel)
          clear hHeld
          have t0 : w3.cell? ⟨w.heap.size, 0, none⟩ = some (.int .i64 0) := cell_blk HT3.out 0 rfl
          have t1 : w3.cell? ⟨w.heap.size, 1, none⟩ = some (.int .i64 0) := cell_blk HT3.out 1 rfl
          have t2 : w3.cell? ⟨w.heap.size, 2, none⟩ = some (.int .i64 0) := cell_blk HT3.out 2 rfl
          have t3 : w3.cell? ⟨w.heap.size, 3, none⟩ = some (.int .i64 0) := cell_blk HT3.out 3 rfl
          have t4 : w3.cell? ⟨w.heap.size, 4, none⟩ = some (.int .i64 0) := cell_blk HT3.out 4 rfl
          have t5 : w3.cell? ⟨w.heap.size, 5, none⟩ = some (.int .i64 0) := cell_blk HT3.out 5 rfl
          have t6 : w3.cell? ⟨w.heap.size, 6, none⟩ = some (.int .i64 0) := cell_blk HT3.out 6 rfl
          have t7 : w3.cell? ⟨w.heap.size, 7, none⟩ = some (.slice none 0 0) := cell_blk HT3.out 7 rfl
          have t8 : w3.cell? ⟨w.heap.size, 8, none⟩ = some (.slice none 0 0) := cell_blk HT3.out 8 rfl
          have t9 : w3.cell? ⟨w.heap.size, 9, none⟩ = some (.int .i64 0) := cell_blk HT3.out 9 rfl
          have t10 : w3.cell? ⟨w.heap.size, 10, none⟩ = some (.slice none 0 0) := cell_blk HT3.out 10 rfl
          have f0 := free_blk HT3.out 0
          have f1 := free_blk HT3.out 1
          have f2 := free_blk HT3.out 2
          have f3 := free_blk HT3.out 3
          have f4 := free_blk HT3.out 4
          have f5 := free_blk HT3.out 5
          have f6 := free_blk HT3.out 6
          have f7 := free_blk HT3.out 7
          have f8 := free_blk HT3.out 8
          have f9 := free_blk HT3.out 9
          have f10 := free_blk HT3.out 10
          go_wp2_with (fail)
          refine bodyPost_ret (v := .tuple #[.agg #[.int .i64 0, .int .i64 0, .int .i64 0, .int .i64 0, .int .i64 0, .int .i64 0, .int .i64 0, .slice none 0 0, .slice none 0 0, .int .i64 0, .slice none 0 0], .int .i64 160]) ?_ rfl ?_
          · simp [results, Try.results11, go_sem, *]
          · exact QDecP.bad (HZ.out.trans (HI3.out.bel.mono HZ.out.size)) (by rw [decode_ref HBY.out, HR.out, if_neg (fun h => hs h.1)]) _ _ _ _ _ _ _ _ _ _ _
      · have HR := Lib.hid (show (qecR p).1 = ⟨q1.1, i64N q2.1, 0, 0, 0, 0, OpZ.none, []⟩ by rw [HPQ.out]; unfold qecF; rw [if_neg k1, if_neg k2, if_neg k4])
        have HI := HI0
        clear HI0
        unfold OpZ.none at HR
        generalize hrr : (RZ.mk q1.1 (i64N q2.1) 0 0 0 0 ⟨0, [], [], 0⟩ []) = r at *
        generalize q2.2 = s9 at *
        go_wp2_with (fail)
        obtain ⟨K, hK⟩ : ∃ K : SlB, K = (none, 0, 0) := ⟨_, rfl⟩
        obtain ⟨V, hV⟩ : ∃ K : SlB, K = (none, 0, 0) := ⟨_, rfl⟩
        obtain ⟨C, hC⟩ : ∃ K : SlB, K = (none, 0, 0) := ⟨_, rfl⟩
        have HI := Lib.hid (show QecI wA w1.heap.size k kr r K V C w4 s9 by rw [hK, hV, hC]; exact HI.out)
        clear hK hV hC
        have HBW := Lib.hid (show Below w.heap.size w w4 from HZ.out.trans (HI.out.bel.mono HZ.out.size))
        have HCV := Lib.hid (show (convert 22 9 (.slice B p.length cc)).run Try.prog (w4).drew = .ok (.string (strOfNums p)) (w4).drew from conv_any (HY.out.below HBW.out.drew))
        have SO := Lib.hid (fun W => refSound_any (r := r) K V C HI.out.key.1 HI.out.val.1 HI.out.copy.1 W)
        unfold recV recCells at SO
        have HD := Lib.hid (HI.out.below (Below.refl _ _).drew)
        obtain ⟨s2, hs2⟩ : ∃ s2, strOfNums p = s2 := ⟨_, rfl⟩
        have HS2 := Lib.hid hs2
        clear hs2
        have HZT := Lib.hid (show ∀ W', Below wA.heap.size wA W' → W'.heap[w.heap.size]? = some (.cells (recCells RZ.none zSl zSl zSl) TRec (0, 0)) from fun W' hB => (hB.block _ (by rw [HZS.out]; omega)).trans HZB.out)
        by_cases hs : SoundR r
        · rw [decide_eq_true hs] at SO
          obtain ⟨s1, hs1⟩ : ∃ s1, strOfNums (formR r) = s1 := ⟨_, rfl⟩
          have HS1 := Lib.hid hs1
          clear hs1
          by_cases he : formR r = p
          · have hss : s2 = s1 := by rw [← HS1.out, ← HS2.out, he]
            subst hss
            have HE := Lib.hid he
            clear he
            refine start_ (n := 11) (S := fun w' => w'.cell? ⟨kr, 0, none⟩ = some (.int .i64 r.kind) ∧ w'.cell? ⟨kr, 1, none⟩ = some (.int .i64 r.shard) ∧ w'.cell? ⟨kr, 2, none⟩ = some (.int .i64 r.epoch) ∧ w'.cell? ⟨kr, 3, none⟩ = some (.int .i64 r.peer) ∧ w'.cell? ⟨kr, 4, none⟩ = some (.int .i64 r.client) ∧ w'.cell? ⟨kr, 5, none⟩ = some (.int .i64 r.seq) ∧ w'.cell? ⟨kr, 6, none⟩ = some (.int .i64 r.op.kind) ∧ w'.cell? ⟨kr, 7, none⟩ = some (.slice K.1 K.2.1 K.2.2) ∧ w'.cell? ⟨kr, 8, none⟩ = some (.slice V.1 V.2.1 V.2.2) ∧ w'.cell? ⟨kr, 9, none⟩ = some (.int .i64 r.op.rev) ∧ w'.cell? ⟨kr, 10, none⟩ = some (.slice C.1 C.2.1 C.2.2) ∧ (convert 22 9 (.slice B p.length cc)).run Try.prog w' = .ok (.string s2) w') (ds := []) #[false, false, false, false, false, false, false, false, false, false, false] (by kernel_rfl) rfl rfl ⟨cell_blk HI.out.cells 0 rfl, cell_blk HI.out.cells 1 rfl, cell_blk HI.out.cells 2 rfl, cell_blk HI.out.cells 3 rfl, cell_blk HI.out.cells 4 rfl, cell_blk HI.out.cells 5 rfl, cell_blk HI.out.cells 6 rfl, cell_blk HI.out.cells 7 rfl, cell_blk HI.out.cells 8 rfl, cell_blk HI.out.cells 9 rfl, cell_blk HI.out.cells 10 rfl, (by rw [← HS2.out]; exact HCV.out)⟩ (fun hHeld => ?_)
            (refine take_ (i := 0) (N := some 76) (v := ?v_342) (a' := ?a_342) #[true, false, false, false, false, false, false, false, false, false, false] rfl rfl (by kernel_rfl) (fun _ _ _ h => h) (Or.inl ⟨by rfl, ?hy_342⟩) hHeld ?ha_342 ?hh_342; (case hy_342 => (rintro w' ⟨s0_, s1_, s2_, s3_, s4_, s5_, s6_, s7_, s8_, s9_, s10_, s11_⟩; go_simp; with_reducible rfl)); (case ha_342 => (simp (disch := omega) only [Act.put, List.setIfInBounds_toArray, List.set_cons_zero, List.set_cons_succ, wrap_in]; rfl)))
            refine one_ (i := 1) (N := some 77) #[true, true, false, false, false, false, false, false, false, false, false] rfl rfl (by kernel_rfl) (by decide) (fun K hK => ?_)
            (refine goes_ Try.func17 (by kernel_rfl) rfl ?args_344 (by rfl) rfl rfl ?hargs_344 ?hc_344; (case hargs_344 => (go_simp; with_reducible rfl)))
            (refine (SO.out _).mono ?_; rintro e w3 ⟨rfl, hb3⟩; have HI3 := Lib.hid (HD.out.below hb3); have HCV3 := Lib.hid (conv_any (c := cc) (HY.out.below (HBW.out.drew.trans (hb3.mono HBW.out.size)))); refine ⟨_, rfl, ?_⟩)
            (refine hK.out _ _ ?hs_346 ?hn_346; (case hs_346 => (exact ⟨cell_blk HI3.out.cells 0 rfl, cell_blk HI3.out.cells 1 rfl, cell_blk HI3.out.cells 2 rfl, cell_blk HI3.out.cells 3 rfl, cell_blk HI3.out.cells 4 rfl, cell_blk HI3.out.cells 5 rfl, cell_blk HI3.out.cells 6 rfl, cell_blk HI3.out.cells 7 rfl, cell_blk HI3.out.cells 8 rfl, cell_blk HI3.out.cells 9 rfl, cell_blk HI3.out.cells 10 rfl, by rw [← HS2.out]; exact HCV3.out⟩)); intro hHeld; clear hK K)
            (refine norm_ (a' := ?a_347) ?ha_347 ?hh_347; (case ha_347 => (simp (disch := omega) only [Act.put, List.setIfInBounds_toArray, List.set_cons_zero, List.set_cons_succ, wrap_in]; rfl)))
            (refine take_ (i := 2) (N := some 78) (v := ?v_348) (a' := ?a_348) #[true, true, true, false, false, false, false, false, false, false, false] rfl rfl (by kernel_rfl) (fun _ _ _ h => h) (Or.inl ⟨by rfl, ?hy_348⟩) hHeld ?ha_348 ?hh_348; (case hy_348 => (rintro w' ⟨s0_, s1_, s2_, s3_, s4_, s5_, s6_, s7_, s8_, s9_, s10_, s11_⟩; go_simp; with_reducible rfl)); (case ha_348 => (simp (disch := omega) only [Act.put, List.setIfInBounds_toArray, List.set_cons_zero, List.set_cons_succ, wrap_in]; rfl)))
            (refine take_ (i := 3) (N := some 79) (v := ?v_349) (a' := ?a_349) #[true, true, true, true, false, false, false, false, false, false, false] rfl rfl (by kernel_rfl) (fun _ _ _ h => h) (Or.inl ⟨by rfl, ?hy_349⟩) hHeld ?ha_349 ?hh_349; (case hy_349 => (rintro w' ⟨s0_, s1_, s2_, s3_, s4_, s5_, s6_, s7_, s8_, s9_, s10_, s11_⟩; go_simp; with_reducible rfl)); (case ha_349 => (simp (disch := omega) only [Act.put, List.setIfInBounds_toArray, List.set_cons_zero, List.set_cons_succ, wrap_in]; rfl)))
            first | (refine take_ (i := 4) (N := some 80) (v := undef) (a' := ?a_350) #[true, true, true, true, true, false, false, false, false, false, false] rfl rfl (by kernel_rfl) (fun _ _ _ h => h) (Or.inr ⟨by rfl, rfl⟩) hHeld ?ha_350 ?hh_350; (case ha_350 => (simp (disch := omega) only [Act.put, List.setIfInBounds_toArray, List.set_cons_zero, List.set_cons_succ, wrap_in]; rfl))) | (refine take_ (i := 4) (N := some 80) (v := ?v_350) (a' := ?a_350) #[true, true, true, true, true, false, false, false, false, false, false] rfl rfl (by kernel_rfl) (fun _ _ _ h => h) (Or.inl ⟨by rfl, ?hy_350⟩) hHeld ?ha_350 ?hh_350; (case hy_350 => (rintro w' ⟨s0_, s1_, s2_, s3_, s4_, s5_, s6_, s7_, s8_, s9_, s10_, s11_⟩; go_simp; with_reducible rfl)); (case ha_350 => (simp (disch := omega) only [Act.put, List.setIfInBounds_toArray, List.set_cons_zero, List.set_cons_succ, wrap_in]; rfl)))
            first | (refine take_ (i := 7) (N := some 83) (v := undef) (a' := ?a_351) #[true, true, true, true, true, false, false, true, false, false, false] rfl rfl (by kernel_rfl) (fun _ _ _ h => h) (Or.inr ⟨by rfl, rfl⟩) hHeld ?ha_351 ?hh_351; (case ha_351 => (simp (disch := omega) only [Act.put, List.setIfInBounds_toArray, List.set_cons_zero, List.set_cons_succ, wrap_in]; rfl))) | (refine take_ (i := 7) (N := some 83) (v := ?v_351) (a' := ?a_351) #[true, true, true, true, true, false, false, true, false, false, false] rfl rfl (by kernel_rfl) (fun _ _ _ h => h) (Or.inl ⟨by rfl, ?hy_351⟩) hHeld ?ha_351 ?hh_351; (case hy_351 => (rintro w' ⟨s0_, s1_, s2_, s3_, s4_, s5_, s6_, s7_, s8_, s9_, s10_, s11_⟩; go_simp; with_reducible rfl)); (case ha_351 => (simp (disch := omega) only [Act.put, List.setIfInBounds_toArray, List.set_cons_zero, List.set_cons_succ, wrap_in]; rfl)))
            first | (refine take_ (i := 8) (N := some 84) (v := undef) (a' := ?a_352) #[true, true, true, true, true, false, false, true, true, false, false] rfl rfl (by kernel_rfl) (fun _ _ _ h => h) (Or.inr ⟨by rfl, rfl⟩) hHeld ?ha_352 ?hh_352; (case ha_352 => (simp (disch := omega) only [Act.put, List.setIfInBounds_toArray, List.set_cons_zero, List.set_cons_succ, wrap_in]; rfl))) | (refine take_ (i := 8) (N := some 84) (v := ?v_352) (a' := ?a_352) #[true, true, true, true, true, false, false, true, true, false, false] rfl rfl (by kernel_rfl) (fun _ _ _ h => h) (Or.inl ⟨by rfl, ?hy_352⟩) hHeld ?ha_352 ?hh_352; (case hy_352 => (rintro w' ⟨s0_, s1_, s2_, s3_, s4_, s5_, s6_, s7_, s8_, s9_, s10_, s11_⟩; go_simp; with_reducible rfl)); (case ha_352 => (simp (disch := omega) only [Act.put, List.setIfInBounds_toArray, List.set_cons_zero, List.set_cons_succ, wrap_in]; rfl)))
            refine one_ (i := 5) (N := some 81) #[true, true, true, true, true, true, false, true, true, false, false] rfl rfl (by kernel_rfl) (by decide) (fun K hK => ?_)
            (refine goes_ Try.func31 (by kernel_rfl) rfl ?args_354 (by rfl) rfl rfl ?hargs_354 ?hc_354; (case hargs_354 => (go_simp; with_reducible rfl)))
            (have FO := refForm16_any hs (by rw [← HR.out]; exact qec_byt HBY.out) HI3.out.key.slAt HI3.out.val.slAt HI3.out.copy.slAt; unfold recV recCells at FO; refine FO.mono ?_; rintro e w5 ⟨A, c, rfl, hg, hb5⟩; have HI5 := Lib.hid (HI3.out.below hb5); have HCV5 := Lib.hid (conv_any (c := cc) (HY.out.below (HZ.out.trans (HI5.out.bel.mono HZ.out.size)))); have cv5 := conv_any (c := c) hg.srcB; rw [HS1.out] at cv5; refine ⟨_, rfl, ?_⟩)
            (refine hK.out _ _ ?hs_356 ?hn_356; (case hs_356 => (exact ⟨cell_blk HI5.out.cells 0 rfl, cell_blk HI5.out.cells 1 rfl, cell_blk HI5.out.cells 2 rfl, cell_blk HI5.out.cells 3 rfl, cell_blk HI5.out.cells 4 rfl, cell_blk HI5.out.cells 5 rfl, cell_blk HI5.out.cells 6 rfl, cell_blk HI5.out.cells 7 rfl, cell_blk HI5.out.cells 8 rfl, cell_blk HI5.out.cells 9 rfl, cell_blk HI5.out.cells 10 rfl, by rw [← HS2.out]; exact HCV5.out⟩)); intro hHeld; clear hK K)
            (refine norm_ (a' := ?a_357) ?ha_357 ?hh_357; (case ha_357 => (simp (disch := omega) only [Act.put, List.setIfInBounds_toArray, List.set_cons_zero, List.set_cons_succ, wrap_in]; rfl)))
            refine one_ (i := 6) (N := some 82) #[true, true, true, true, true, true, true, true, true, false, false] rfl rfl (by kernel_rfl) (by decide) (fun K hK => ?_)
            first | (refine off_ (by rfl) ?hk_359) | (refine value_ (v := ?v_359) (w1 := ?w1_359) (by rfl) rfl ?hr_359 ?hk_359; (case hr_359 => (go_simp; first | with_reducible rfl | (constructor <;> with_reducible rfl))))
            (refine hK.out _ _ hHeld ?hn_360; intro _; clear hK K)
            (refine norm_ (a' := ?a_361) ?ha_361 ?hh_361; (case ha_361 => (simp (disch := omega) only [Act.put, List.setIfInBounds_toArray, List.set_cons_zero, List.set_cons_succ, wrap_in]; rfl)))
            first | (refine take_ (i := 9) (N := some 85) (v := undef) (a' := ?a_362) #[true, true, true, true, true, true, true, true, true, true, false] rfl rfl (by kernel_rfl) (fun _ _ _ h => h) (Or.inr ⟨by rfl, rfl⟩) hHeld ?ha_362 ?hh_362; (case ha_362 => (simp (disch := omega) only [Act.put, List.setIfInBounds_toArray, List.set_cons_zero, List.set_cons_succ, wrap_in]; rfl))) | (refine take_ (i := 9) (N := some 85) (v := ?v_362) (a' := ?a_362) #[true, true, true, true, true, true, true, true, true, true, false] rfl rfl (by kernel_rfl) (fun _ _ _ h => h) (Or.inl ⟨by rfl, ?hy_362⟩) hHeld ?ha_362 ?hh_362; (case hy_362 => (rintro w' ⟨s0_, s1_, s2_, s3_, s4_, s5_, s6_, s7_, s8_, s9_, s10_, s11_⟩; go_simp; with_reducible rfl)); (case ha_362 => (simp (disch := omega) only [Act.put, List.setIfInBounds_toArray, List.set_cons_zero, List.set_cons_succ, wrap_in]; rfl)))
            (refine take_ (i := 10) (N := some 86) (v := ?v_363) (a' := ?a_363) #[true, true, true, true, true, true, true, true, true, true, true] rfl rfl (by kernel_rfl) (fun _ _ _ h => h) (Or.inl ⟨by rfl, ?hy_363⟩) hHeld ?ha_363 ?hh_363; (case hy_363 => (rintro w' ⟨s0_, s1_, s2_, s3_, s4_, s5_, s6_, s7_, s8_, s9_, s10_, s11_⟩; go_simp; with_reducible rfl)); (case ha_363 => (simp (disch := omega) only [Act.put, List.setIfInBounds_toArray, List.set_cons_zero, List.set_cons_succ, wrap_in]; rfl)))
            refine done_ (by kernel_rfl) ?_
            have HT5 := Lib.hid (HZT.out _ HI5.out.bel)
            clear hHeld cv5
            have t0 : w5.cell? ⟨w.heap.size, 0, none⟩ = some (.int .i64 0) := cell_blk HT5.out 0 rfl
            have t1 : w5.cell? ⟨w.heap.size, 1, none⟩ = some (.int .i64 0) := cell_blk HT5.out 1 rfl
            have t2 : w5.cell? ⟨w.heap.size, 2, none⟩ = some (.int .i64 0) := cell_blk HT5.out 2 rfl
            have t3 : w5.cell? ⟨w.heap.size, 3, none⟩ = some (.int .i64 0) := cell_blk HT5.out 3 rfl
            have t4 : w5.cell? ⟨w.heap.size, 4, none⟩ = some (.int .i64 0) := cell_blk HT5.out 4 rfl
            have t5 : w5.cell? ⟨w.heap.size, 5, none⟩ = some (.int .i64 0) := cell_blk HT5.out 5 rfl
            have t6 : w5.cell? ⟨w.heap.size, 6, none⟩ = some (.int .i64 0) := cell_blk HT5.out 6 rfl
            have t7 : w5.cell? ⟨w.heap.size, 7, none⟩ = some (.slice none 0 0) := cell_blk HT5.out 7 rfl
            have t8 : w5.cell? ⟨w.heap.size, 8, none⟩ = some (.slice none 0 0) := cell_blk HT5.out 8 rfl
            have t9 : w5.cell? ⟨w.heap.size, 9, none⟩ = some (.int .i64 0) := cell_blk HT5.out 9 rfl
            have t10 : w5.cell? ⟨w.heap.size, 10, none⟩ = some (.slice none 0 0) := cell_blk HT5.out 10 rfl
            have f0 := free_blk HT5.out 0
            have f1 := free_blk HT5.out 1
            have f2 := free_blk HT5.out 2
            have f3 := free_blk HT5.out 3
            have f4 := free_blk HT5.out 4
            have f5 := free_blk HT5.out 5
            have f6 := free_blk HT5.out 6
            have f7 := free_blk HT5.out 7
            have f8 := free_blk HT5.out 8
            have f9 := free_blk HT5.out 9
            have f10 := free_blk HT5.out 10
            have e0 : w5.cell? ⟨kr, 0, none⟩ = some (.int .i64 r.kind) := cell_blk HI5.out.cells 0 rfl
            have e1 : w5.cell? ⟨kr, 1, none⟩ = some (.int .i64 r.shard) := cell_blk HI5.out.cells 1 rfl
            have e2 : w5.cell? ⟨kr, 2, none⟩ = some (.int .i64 r.epoch) := cell_blk HI5.out.cells 2 rfl
            have e3 : w5.cell? ⟨kr, 3, none⟩ = some (.int .i64 r.peer) := cell_blk HI5.out.cells 3 rfl
            have e4 : w5.cell? ⟨kr, 4, none⟩ = some (.int .i64 r.client) := cell_blk HI5.out.cells 4 rfl
            have e5 : w5.cell? ⟨kr, 5, none⟩ = some (.int .i64 r.seq) := cell_blk HI5.out.cells 5 rfl
            have e6 : w5.cell? ⟨kr, 6, none⟩ = some (.int .i64 r.op.kind) := cell_blk HI5.out.cells 6 rfl
            have e7 : w5.cell? ⟨kr, 7, none⟩ = some (.slice K.1 K.2.1 K.2.2) := cell_blk HI5.out.cells 7 rfl
            have e8 : w5.cell? ⟨kr, 8, none⟩ = some (.slice V.1 V.2.1 V.2.2) := cell_blk HI5.out.cells 8 rfl
            have e9 : w5.cell? ⟨kr, 9, none⟩ = some (.int .i64 r.op.rev) := cell_blk HI5.out.cells 9 rfl
            have e10 : w5.cell? ⟨kr, 10, none⟩ = some (.slice C.1 C.2.1 C.2.2) := cell_blk HI5.out.cells 10 rfl
            go_wp2_with (fail)
            refine bodyPost_ret (v := .tuple #[recV r K V C, .int .i64 0]) ?_ rfl ?_
            · unfold recV recCells
              simp [results, Try.results11, go_sem, *]
            · exact QDecP.good (HZ.out.trans (HI5.out.bel.mono HZ.out.size)) HZS.out (by rw [decode_ref HBY.out, HR.out, if_pos ⟨hs, HE.out⟩]) hs HI5.out _ _ _ _ _ _ _ _ _ _ _
          · have hss : (s1.toList == s2.toList) = false := by
              rw [beq_eq_false_iff_ne]
              intro h
              rw [← HS1.out, ← HS2.out] at h
              exact he (strL_inj (formR_byt hs (by rw [← HR.out]; exact qec_byt HBY.out)) HBY.out h)
            have HE := Lib.hid he
            clear he
            refine start_ (n := 11) (S := fun w' => w'.cell? ⟨kr, 0, none⟩ = some (.int .i64 r.kind) ∧ w'.cell? ⟨kr, 1, none⟩ = some (.int .i64 r.shard) ∧ w'.cell? ⟨kr, 2, none⟩ = some (.int .i64 r.epoch) ∧ w'.cell? ⟨kr, 3, none⟩ = some (.int .i64 r.peer) ∧ w'.cell? ⟨kr, 4, none⟩ = some (.int .i64 r.client) ∧ w'.cell? ⟨kr, 5, none⟩ = some (.int .i64 r.seq) ∧ w'.cell? ⟨kr, 6, none⟩ = some (.int .i64 r.op.kind) ∧ w'.cell? ⟨kr, 7, none⟩ = some (.slice K.1 K.2.1 K.2.2) ∧ w'.cell? ⟨kr, 8, none⟩ = some (.slice V.1 V.2.1 V.2.2) ∧ w'.cell? ⟨kr, 9, none⟩ = some (.int .i64 r.op.rev) ∧ w'.cell? ⟨kr, 10, none⟩ = some (.slice C.1 C.2.1 C.2.2) ∧ (convert 22 9 (.slice B p.length cc)).run Try.prog w' = .ok (.string s2) w') (ds := []) #[false, false, false, false, false, false, false, false, false, false, false] (by kernel_rfl) rfl rfl ⟨cell_blk HI.out.cells 0 rfl, cell_blk HI.out.cells 1 rfl, cell_blk HI.out.cells 2 rfl, cell_blk HI.out.cells 3 rfl, cell_blk HI.out.cells 4 rfl, cell_blk HI.out.cells 5 rfl, cell_blk HI.out.cells 6 rfl, cell_blk HI.out.cells 7 rfl, cell_blk HI.out.cells 8 rfl, cell_blk HI.out.cells 9 rfl, cell_blk HI.out.cells 10 rfl, (by rw [← HS2.out]; exact HCV.out)⟩ (fun hHeld => ?_)
            (refine take_ (i := 0) (N := some 76) (v := ?v_366) (a' := ?a_366) #[true, false, false, false, false, false, false, false, false, false, false] rfl rfl (by kernel_rfl) (fun _ _ _ h => h) (Or.inl ⟨by rfl, ?hy_366⟩) hHeld ?ha_366 ?hh_366; (case hy_366 => (rintro w' ⟨s0_, s1_, s2_, s3_, s4_, s5_, s6_, s7_, s8_, s9_, s10_, s11_⟩; go_simp; with_reducible rfl)); (case ha_366 => (simp (disch := omega) only [Act.put, List.setIfInBounds_toArray, List.set_cons_zero, List.set_cons_succ, wrap_in]; rfl)))
            refine one_ (i := 1) (N := some 77) #[true, true, false, false, false, false, false, false, false, false, false] rfl rfl (by kernel_rfl) (by decide) (fun K hK => ?_)
            (refine goes_ Try.func17 (by kernel_rfl) rfl ?args_368 (by rfl) rfl rfl ?hargs_368 ?hc_368; (case hargs_368 => (go_simp; with_reducible rfl)))
            (refine (SO.out _).mono ?_; rintro e w3 ⟨rfl, hb3⟩; have HI3 := Lib.hid (HD.out.below hb3); have HCV3 := Lib.hid (conv_any (c := cc) (HY.out.below (HBW.out.drew.trans (hb3.mono HBW.out.size)))); refine ⟨_, rfl, ?_⟩)
            (refine hK.out _ _ ?hs_370 ?hn_370; (case hs_370 => (exact ⟨cell_blk HI3.out.cells 0 rfl, cell_blk HI3.out.cells 1 rfl, cell_blk HI3.out.cells 2 rfl, cell_blk HI3.out.cells 3 rfl, cell_blk HI3.out.cells 4 rfl, cell_blk HI3.out.cells 5 rfl, cell_blk HI3.out.cells 6 rfl, cell_blk HI3.out.cells 7 rfl, cell_blk HI3.out.cells 8 rfl, cell_blk HI3.out.cells 9 rfl, cell_blk HI3.out.cells 10 rfl, by rw [← HS2.out]; exact HCV3.out⟩)); intro hHeld; clear hK K)
            (refine norm_ (a' := ?a_371) ?ha_371 ?hh_371; (case ha_371 => (simp (disch := omega) only [Act.put, List.setIfInBounds_toArray, List.set_cons_zero, List.set_cons_succ, wrap_in]; rfl)))
            (refine take_ (i := 2) (N := some 78) (v := ?v_372) (a' := ?a_372) #[true, true, true, false, false, false, false, false, false, false, false] rfl rfl (by kernel_rfl) (fun _ _ _ h => h) (Or.inl ⟨by rfl, ?hy_372⟩) hHeld ?ha_372 ?hh_372; (case hy_372 => (rintro w' ⟨s0_, s1_, s2_, s3_, s4_, s5_, s6_, s7_, s8_, s9_, s10_, s11_⟩; go_simp; with_reducible rfl)); (case ha_372 => (simp (disch := omega) only [Act.put, List.setIfInBounds_toArray, List.set_cons_zero, List.set_cons_succ, wrap_in]; rfl)))
            (refine take_ (i := 3) (N := some 79) (v := ?v_373) (a' := ?a_373) #[true, true, true, true, false, false, false, false, false, false, false] rfl rfl (by kernel_rfl) (fun _ _ _ h => h) (Or.inl ⟨by rfl, ?hy_373⟩) hHeld ?ha_373 ?hh_373; (case hy_373 => (rintro w' ⟨s0_, s1_, s2_, s3_, s4_, s5_, s6_, s7_, s8_, s9_, s10_, s11_⟩; go_simp; with_reducible rfl)); (case ha_373 => (simp (disch := omega) only [Act.put, List.setIfInBounds_toArray, List.set_cons_zero, List.set_cons_succ, wrap_in]; rfl)))
            first | (refine take_ (i := 4) (N := some 80) (v := undef) (a' := ?a_374) #[true, true, true, true, true, false, false, false, false, false, false] rfl rfl (by kernel_rfl) (fun _ _ _ h => h) (Or.inr ⟨by rfl, rfl⟩) hHeld ?ha_374 ?hh_374; (case ha_374 => (simp (disch := omega) only [Act.put, List.setIfInBounds_toArray, List.set_cons_zero, List.set_cons_succ, wrap_in]; rfl))) | (refine take_ (i := 4) (N := some 80) (v := ?v_374) (a' := ?a_374) #[true, true, true, true, true, false, false, false, false, false, false] rfl rfl (by kernel_rfl) (fun _ _ _ h => h) (Or.inl ⟨by rfl, ?hy_374⟩) hHeld ?ha_374 ?hh_374; (case hy_374 => (rintro w' ⟨s0_, s1_, s2_, s3_, s4_, s5_, s6_, s7_, s8_, s9_, s10_, s11_⟩; go_simp; with_reducible rfl)); (case ha_374 => (simp (disch := omega) only [Act.put, List.setIfInBounds_toArray, List.set_cons_zero, List.set_cons_succ, wrap_in]; rfl)))
            first | (refine take_ (i := 7) (N := some 83) (v := undef) (a' := ?a_375) #[true, true, true, true, true, false, false, true, false, false, false] rfl rfl (by kernel_rfl) (fun _ _ _ h => h) (Or.inr ⟨by rfl, rfl⟩) hHeld ?ha_375 ?hh_375; (case ha_375 => (simp (disch := omega) only [Act.put, List.setIfInBounds_toArray, List.set_cons_zero, List.set_cons_succ, wrap_in]; rfl))) | (refine take_ (i := 7) (N := some 83) (v := ?v_375) (a' := ?a_375) #[true, true, true, true, true, false, false, true, false, false, false] rfl rfl (by kernel_rfl) (fun _ _ _ h => h) (Or.inl ⟨by rfl, ?hy_375⟩) hHeld ?ha_375 ?hh_375; (case hy_375 => (rintro w' ⟨s0_, s1_, s2_, s3_, s4_, s5_, s6_, s7_, s8_, s9_, s10_, s11_⟩; go_simp; with_reducible rfl)); (case ha_375 => (simp (disch := omega) only [Act.put, List.setIfInBounds_toArray, List.set_cons_zero, List.set_cons_succ, wrap_in]; rfl)))
            first | (refine take_ (i := 8) (N := some 84) (v := undef) (a' := ?a_376) #[true, true, true, true, true, false, false, true, true, false, false] rfl rfl (by kernel_rfl) (fun _ _ _ h => h) (Or.inr ⟨by rfl, rfl⟩) hHeld ?ha_376 ?hh_376; (case ha_376 => (simp (disch := omega) only [Act.put, List.setIfInBounds_toArray, List.set_cons_zero, List.set_cons_succ, wrap_in]; rfl))) | (refine take_ (i := 8) (N := some 84) (v := ?v_376) (a' := ?a_376) #[true, true, true, true, true, false, false, true, true, false, false] rfl rfl (by kernel_rfl) (fun _ _ _ h => h) (Or.inl ⟨by rfl, ?hy_376⟩) hHeld ?ha_376 ?hh_376; (case hy_376 => (rintro w' ⟨s0_, s1_, s2_, s3_, s4_, s5_, s6_, s7_, s8_, s9_, s10_, s11_⟩; go_simp; with_reducible rfl)); (case ha_376 => (simp (disch := omega) only [Act.put, List.setIfInBounds_toArray, List.set_cons_zero, List.set_cons_succ, wrap_in]; rfl)))
            refine one_ (i := 5) (N := some 81) #[true, true, true, true, true, true, false, true, true, false, false] rfl rfl (by kernel_rfl) (by decide) (fun K hK => ?_)
            (refine goes_ Try.func31 (by kernel_rfl) rfl ?args_378 (by rfl) rfl rfl ?hargs_378 ?hc_378; (case hargs_378 => (go_simp; with_reducible rfl)))
            (have FO := refForm16_any hs (by rw [← HR.out]; exact qec_byt HBY.out) HI3.out.key.slAt HI3.out.val.slAt HI3.out.copy.slAt; unfold recV recCells at FO; refine FO.mono ?_; rintro e w5 ⟨A, c, rfl, hg, hb5⟩; have HI5 := Lib.hid (HI3.out.below hb5); have HCV5 := Lib.hid (conv_any (c := cc) (HY.out.below (HZ.out.trans (HI5.out.bel.mono HZ.out.size)))); have cv5 := conv_any (c := c) hg.srcB; rw [HS1.out] at cv5; refine ⟨_, rfl, ?_⟩)
            (refine hK.out _ _ ?hs_380 ?hn_380; (case hs_380 => (exact ⟨cell_blk HI5.out.cells 0 rfl, cell_blk HI5.out.cells 1 rfl, cell_blk HI5.out.cells 2 rfl, cell_blk HI5.out.cells 3 rfl, cell_blk HI5.out.cells 4 rfl, cell_blk HI5.out.cells 5 rfl, cell_blk HI5.out.cells 6 rfl, cell_blk HI5.out.cells 7 rfl, cell_blk HI5.out.cells 8 rfl, cell_blk HI5.out.cells 9 rfl, cell_blk HI5.out.cells 10 rfl, by rw [← HS2.out]; exact HCV5.out⟩)); intro hHeld; clear hK K)
            (refine norm_ (a' := ?a_381) ?ha_381 ?hh_381; (case ha_381 => (simp (disch := omega) only [Act.put, List.setIfInBounds_toArray, List.set_cons_zero, List.set_cons_succ, wrap_in]; rfl)))
            refine one_ (i := 6) (N := some 82) #[true, true, true, true, true, true, true, true, true, false, false] rfl rfl (by kernel_rfl) (by decide) (fun K hK => ?_)
            first | (refine off_ (by rfl) ?hk_383) | (refine value_ (v := ?v_383) (w1 := ?w1_383) (by rfl) rfl ?hr_383 ?hk_383; (case hr_383 => (go_simp; first | with_reducible rfl | (constructor <;> with_reducible rfl))))
            (refine hK.out _ _ hHeld ?hn_384; intro _; clear hK K)
            (refine norm_ (a' := ?a_385) ?ha_385 ?hh_385; (case ha_385 => (simp (disch := omega) only [Act.put, List.setIfInBounds_toArray, List.set_cons_zero, List.set_cons_succ, wrap_in]; rfl)))
            first | (refine take_ (i := 9) (N := some 85) (v := undef) (a' := ?a_386) #[true, true, true, true, true, true, true, true, true, true, false] rfl rfl (by kernel_rfl) (fun _ _ _ h => h) (Or.inr ⟨by rfl, rfl⟩) hHeld ?ha_386 ?hh_386; (case ha_386 => (simp (disch := omega) only [Act.put, List.setIfInBounds_toArray, List.set_cons_zero, List.set_cons_succ, wrap_in]; rfl))) | (refine take_ (i := 9) (N := some 85) (v := ?v_386) (a' := ?a_386) #[true, true, true, true, true, true, true, true, true, true, false] rfl rfl (by kernel_rfl) (fun _ _ _ h => h) (Or.inl ⟨by rfl, ?hy_386⟩) hHeld ?ha_386 ?hh_386; (case hy_386 => (rintro w' ⟨s0_, s1_, s2_, s3_, s4_, s5_, s6_, s7_, s8_, s9_, s10_, s11_⟩; go_simp; with_reducible rfl)); (case ha_386 => (simp (disch := omega) only [Act.put, List.setIfInBounds_toArray, List.set_cons_zero, List.set_cons_succ, wrap_in]; rfl)))
            (refine take_ (i := 10) (N := some 86) (v := ?v_387) (a' := ?a_387) #[true, true, true, true, true, true, true, true, true, true, true] rfl rfl (by kernel_rfl) (fun _ _ _ h => h) (Or.inl ⟨by rfl, ?hy_387⟩) hHeld ?ha_387 ?hh_387; (case hy_387 => (rintro w' ⟨s0_, s1_, s2_, s3_, s4_, s5_, s6_, s7_, s8_, s9_, s10_, s11_⟩; go_simp; with_reducible rfl)); (case ha_387 => (simp (disch := omega) only [Act.put, List.setIfInBounds_toArray, List.set_cons_zero, List.set_cons_succ, wrap_in]; rfl)))
            refine done_ (by kernel_rfl) ?_
            have HT5 := Lib.hid (HZT.out _ HI5.out.bel)
            clear hHeld cv5
            have t0 : w5.cell? ⟨w.heap.size, 0, none⟩ = some (.int .i64 0) := cell_blk HT5.out 0 rfl
            have t1 : w5.cell? ⟨w.heap.size, 1, none⟩ = some (.int .i64 0) := cell_blk HT5.out 1 rfl
            have t2 : w5.cell? ⟨w.heap.size, 2, none⟩ = some (.int .i64 0) := cell_blk HT5.out 2 rfl
            have t3 : w5.cell? ⟨w.heap.size, 3, none⟩ = some (.int .i64 0) := cell_blk HT5.out 3 rfl
            have t4 : w5.cell? ⟨w.heap.size, 4, none⟩ = some (.int .i64 0) := cell_blk HT5.out 4 rfl
            have t5 : w5.cell? ⟨w.heap.size, 5, none⟩ = some (.int .i64 0) := cell_blk HT5.out 5 rfl
            have t6 : w5.cell? ⟨w.heap.size, 6, none⟩ = some (.int .i64 0) := cell_blk HT5.out 6 rfl
            have t7 : w5.cell? ⟨w.heap.size, 7, none⟩ = some (.slice none 0 0) := cell_blk HT5.out 7 rfl
            have t8 : w5.cell? ⟨w.heap.size, 8, none⟩ = some (.slice none 0 0) := cell_blk HT5.out 8 rfl
            have t9 : w5.cell? ⟨w.heap.size, 9, none⟩ = some (.int .i64 0) := cell_blk HT5.out 9 rfl
            have t10 : w5.cell? ⟨w.heap.size, 10, none⟩ = some (.slice none 0 0) := cell_blk HT5.out 10 rfl
            have f0 := free_blk HT5.out 0
            have f1 := free_blk HT5.out 1
            have f2 := free_blk HT5.out 2
            have f3 := free_blk HT5.out 3
            have f4 := free_blk HT5.out 4
            have f5 := free_blk HT5.out 5
            have f6 := free_blk HT5.out 6
            have f7 := free_blk HT5.out 7
            have f8 := free_blk HT5.out 8
            have f9 := free_blk HT5.out 9
            have f10 := free_blk HT5.out 10
            go_wp2_with (fail)
            refine bodyPost_ret (v := .tuple #[.agg #[.int .i64 0, .int .i64 0, .int .i64 0, .int .i64 0, .int .i64 0, .int .i64 0, .int .i64 0, .slice none 0 0, .slice none 0 0, .int .i64 0, .slice none 0 0], .int .i64 160]) ?_ rfl ?_
            · simp [results, Try.results11, go_sem, *]
            · exact QDecP.bad (HZ.out.trans (HI5.out.bel.mono HZ.out.size)) (by rw [decode_ref HBY.out, HR.out, if_neg (fun h => HE.out h.2)]) _ _ _ _ _ _ _ _ _ _ _
        · rw [decide_eq_false hs] at SO
          refine start_ (n := 11) (S := fun w' => w'.cell? ⟨kr, 0, none⟩ = some (.int .i64 r.kind) ∧ w'.cell? ⟨kr, 1, none⟩ = some (.int .i64 r.shard) ∧ w'.cell? ⟨kr, 2, none⟩ = some (.int .i64 r.epoch) ∧ w'.cell? ⟨kr, 3, none⟩ = some (.int .i64 r.peer) ∧ w'.cell? ⟨kr, 4, none⟩ = some (.int .i64 r.client) ∧ w'.cell? ⟨kr, 5, none⟩ = some (.int .i64 r.seq) ∧ w'.cell? ⟨kr, 6, none⟩ = some (.int .i64 r.op.kind) ∧ w'.cell? ⟨kr, 7, none⟩ = some (.slice K.1 K.2.1 K.2.2) ∧ w'.cell? ⟨kr, 8, none⟩ = some (.slice V.1 V.2.1 V.2.2) ∧ w'.cell? ⟨kr, 9, none⟩ = some (.int .i64 r.op.rev) ∧ w'.cell? ⟨kr, 10, none⟩ = some (.slice C.1 C.2.1 C.2.2) ∧ (convert 22 9 (.slice B p.length cc)).run Try.prog w' = .ok (.string s2) w') (ds := []) #[false, false, false, false, false, false, false, false, false, false, false] (by kernel_rfl) rfl rfl ⟨cell_blk HI.out.cells 0 rfl, cell_blk HI.out.cells 1 rfl, cell_blk HI.out.cells 2 rfl, cell_blk HI.out.cells 3 rfl, cell_blk HI.out.cells 4 rfl, cell_blk HI.out.cells 5 rfl, cell_blk HI.out.cells 6 rfl, cell_blk HI.out.cells 7 rfl, cell_blk HI.out.cells 8 rfl, cell_blk HI.out.cells 9 rfl, cell_blk HI.out.cells 10 rfl, (by rw [← HS2.out]; exact HCV.out)⟩ (fun hHeld => ?_)
          (refine take_ (i := 0) (N := some 76) (v := ?v_390) (a' := ?a_390) #[true, false, false, false, false, false, false, false, false, false, false] rfl rfl (by kernel_rfl) (fun _ _ _ h => h) (Or.inl ⟨by rfl, ?hy_390⟩) hHeld ?ha_390 ?hh_390; (case hy_390 => (rintro w' ⟨s0_, s1_, s2_, s3_, s4_, s5_, s6_, s7_, s8_, s9_, s10_, s11_⟩; go_simp; with_reducible rfl)); (case ha_390 => (simp (disch := omega) only [Act.put, List.setIfInBounds_toArray, List.set_cons_zero, List.set_cons_succ, wrap_in]; rfl)))
          refine one_ (i := 1) (N := some 77) #[true, true, false, false, false, false, false, false, false, false, false] rfl rfl (by kernel_rfl) (by decide) (fun K hK => ?_)
          (refine goes_ Try.func17 (by kernel_rfl) rfl ?args_392 (by rfl) rfl rfl ?hargs_392 ?hc_392; (case hargs_392 => (go_simp; with_reducible rfl)))
          (refine (SO.out _).mono ?_; rintro e w3 ⟨rfl, hb3⟩; have HI3 := Lib.hid (HD.out.below hb3); have HCV3 := Lib.hid (conv_any (c := cc) (HY.out.below (HBW.out.drew.trans (hb3.mono HBW.out.size)))); refine ⟨_, rfl, ?_⟩)
          (refine hK.out _ _ ?hs_394 ?hn_394; (case hs_394 => (exact ⟨cell_blk HI3.out.cells 0 rfl, cell_blk HI3.out.cells 1 rfl, cell_blk HI3.out.cells 2 rfl, cell_blk HI3.out.cells 3 rfl, cell_blk HI3.out.cells 4 rfl, cell_blk HI3.out.cells 5 rfl, cell_blk HI3.out.cells 6 rfl, cell_blk HI3.out.cells 7 rfl, cell_blk HI3.out.cells 8 rfl, cell_blk HI3.out.cells 9 rfl, cell_blk HI3.out.cells 10 rfl, by rw [← HS2.out]; exact HCV3.out⟩)); intro hHeld; clear hK K)
          (refine norm_ (a' := ?a_395) ?ha_395 ?hh_395; (case ha_395 => (simp (disch := omega) only [Act.put, List.setIfInBounds_toArray, List.set_cons_zero, List.set_cons_succ, wrap_in]; rfl)))
          (refine take_ (i := 2) (N := some 78) (v := ?v_396) (a' := ?a_396) #[true, true, true, false, false, false, false, false, false, false, false] rfl rfl (by kernel_rfl) (fun _ _ _ h => h) (Or.inl ⟨by rfl, ?hy_396⟩) hHeld ?ha_396 ?hh_396; (case hy_396 => (rintro w' ⟨s0_, s1_, s2_, s3_, s4_, s5_, s6_, s7_, s8_, s9_, s10_, s11_⟩; go_simp; with_reducible rfl)); (case ha_396 => (simp (disch := omega) only [Act.put, List.setIfInBounds_toArray, List.set_cons_zero, List.set_cons_succ, wrap_in]; rfl)))
          (refine take_ (i := 3) (N := some 79) (v := ?v_397) (a' := ?a_397) #[true, true, true, true, false, false, false, false, false, false, false] rfl rfl (by kernel_rfl) (fun _ _ _ h => h) (Or.inl ⟨by rfl, ?hy_397⟩) hHeld ?ha_397 ?hh_397; (case hy_397 => (rintro w' ⟨s0_, s1_, s2_, s3_, s4_, s5_, s6_, s7_, s8_, s9_, s10_, s11_⟩; go_simp; with_reducible rfl)); (case ha_397 => (simp (disch := omega) only [Act.put, List.setIfInBounds_toArray, List.set_cons_zero, List.set_cons_succ, wrap_in]; rfl)))
          first | (refine take_ (i := 4) (N := some 80) (v := undef) (a' := ?a_398) #[true, true, true, true, true, false, false, false, false, false, false] rfl rfl (by kernel_rfl) (fun _ _ _ h => h) (Or.inr ⟨by rfl, rfl⟩) hHeld ?ha_398 ?hh_398; (case ha_398 => (simp (disch := omega) only [Act.put, List.setIfInBounds_toArray, List.set_cons_zero, List.set_cons_succ, wrap_in]; rfl))) | (refine take_ (i := 4) (N := some 80) (v := ?v_398) (a' := ?a_398) #[true, true, true, true, true, false, false, false, false, false, false] rfl rfl (by kernel_rfl) (fun _ _ _ h => h) (Or.inl ⟨by rfl, ?hy_398⟩) hHeld ?ha_398 ?hh_398; (case hy_398 => (rintro w' ⟨s0_, s1_, s2_, s3_, s4_, s5_, s6_, s7_, s8_, s9_, s10_, s11_⟩; go_simp; with_reducible rfl)); (case ha_398 => (simp (disch := omega) only [Act.put, List.setIfInBounds_toArray, List.set_cons_zero, List.set_cons_succ, wrap_in]; rfl)))
          first | (refine take_ (i := 7) (N := some 83) (v := undef) (a' := ?a_399) #[true, true, true, true, true, false, false, true, false, false, false] rfl rfl (by kernel_rfl) (fun _ _ _ h => h) (Or.inr ⟨by rfl, rfl⟩) hHeld ?ha_399 ?hh_399; (case ha_399 => (simp (disch := omega) only [Act.put, List.setIfInBounds_toArray, List.set_cons_zero, List.set_cons_succ, wrap_in]; rfl))) | (refine take_ (i := 7) (N := some 83) (v := ?v_399) (a' := ?a_399) #[true, true, true, true, true, false, false, true, false, false, false] rfl rfl (by kernel_rfl) (fun _ _ _ h => h) (Or.inl ⟨by rfl, ?hy_399⟩) hHeld ?ha_399 ?hh_399; (case hy_399 => (rintro w' ⟨s0_, s1_, s2_, s3_, s4_, s5_, s6_, s7_, s8_, s9_, s10_, s11_⟩; go_simp; with_reducible rfl)); (case ha_399 => (simp (disch := omega) only [Act.put, List.setIfInBounds_toArray, List.set_cons_zero, List.set_cons_succ, wrap_in]; rfl)))
          first | (refine take_ (i := 8) (N := some 84) (v := undef) (a' := ?a_400) #[true, true, true, true, true, false, false, true, true, false, false] rfl rfl (by kernel_rfl) (fun _ _ _ h => h) (Or.inr ⟨by rfl, rfl⟩) hHeld ?ha_400 ?hh_400; (case ha_400 => (simp (disch := omega) only [Act.put, List.setIfInBounds_toArray, List.set_cons_zero, List.set_cons_succ, wrap_in]; rfl))) | (refine take_ (i := 8) (N := some 84) (v := ?v_400) (a' := ?a_400) #[true, true, true, true, true, false, false, true, true, false, false] rfl rfl (by kernel_rfl) (fun _ _ _ h => h) (Or.inl ⟨by rfl, ?hy_400⟩) hHeld ?ha_400 ?hh_400; (case hy_400 => (rintro w' ⟨s0_, s1_, s2_, s3_, s4_, s5_, s6_, s7_, s8_, s9_, s10_, s11_⟩; go_simp; with_reducible rfl)); (case ha_400 => (simp (disch := omega) only [Act.put, List.setIfInBounds_toArray, List.set_cons_zero, List.set_cons_succ, wrap_in]; rfl)))
          (refine take_ (i := 5) (N := some 81) (v := undef) (a' := ?a_401) #[true, true, true, true, true, true, false, true, true, false, false] rfl rfl (by kernel_rfl) (fun _ _ _ h => h) (Or.inr ⟨by rfl, rfl⟩) hHeld ?ha_401 ?hh_401; (case ha_401 => (simp (disch := omega) only [Act.put, List.setIfInBounds_toArray, List.set_cons_zero, List.set_cons_succ, wrap_in]; rfl)))
          refine one_ (i := 6) (N := some 82) #[true, true, true, true, true, true, true, true, true, false, false] rfl rfl (by kernel_rfl) (by decide) (fun K hK => ?_)
          first | (refine off_ (by rfl) ?hk_403) | (refine value_ (v := ?v_403) (w1 := ?w1_403) (by rfl) rfl ?hr_403 ?hk_403; (case hr_403 => (go_simp; first | with_reducible rfl | (constructor <;> with_reducible rfl))))
          (refine hK.out _ _ hHeld ?hn_404; intro _; clear hK K)
          (refine norm_ (a' := ?a_405) ?ha_405 ?hh_405; (case ha_405 => (simp (disch := omega) only [Act.put, List.setIfInBounds_toArray, List.set_cons_zero, List.set_cons_succ, wrap_in]; rfl)))
          first | (refine take_ (i := 9) (N := some 85) (v := undef) (a' := ?a_406) #[true, true, true, true, true, true, true, true, true, true, false] rfl rfl (by kernel_rfl) (fun _ _ _ h => h) (Or.inr ⟨by rfl, rfl⟩) hHeld ?ha_406 ?hh_406; (case ha_406 => (simp (disch := omega) only [Act.put, List.setIfInBounds_toArray, List.set_cons_zero, List.set_cons_succ, wrap_in]; rfl))) | (refine take_ (i := 9) (N := some 85) (v := ?v_406) (a' := ?a_406) #[true, true, true, true, true, true, true, true, true, true, false] rfl rfl (by kernel_rfl) (fun _ _ _ h => h) (Or.inl ⟨by rfl, ?hy_406⟩) hHeld ?ha_406 ?hh_406; (case hy_406 => (rintro w' ⟨s0_, s1_, s2_, s3_, s4_, s5_, s6_, s7_, s8_, s9_, s10_, s11_⟩; go_simp; with_reducible rfl)); (case ha_406 => (simp (disch := omega) only [Act.put, List.setIfInBounds_toArray, List.set_cons_zero, List.set_cons_succ, wrap_in]; rfl)))
          (refine take_ (i := 10) (N := some 86) (v := ?v_407) (a' := ?a_407) #[true, true, true, true, true, true, true, true, true, true, true] rfl rfl (by kernel_rfl) (fun _ _ _ h => h) (Or.inl ⟨by rfl, ?hy_407⟩) hHeld ?ha_407 ?hh_407; (case hy_407 => (rintro w' ⟨s0_, s1_, s2_, s3_, s4_, s5_, s6_, s7_, s8_, s9_, s10_, s11_⟩; go_simp; with_reducible rfl)); (case ha_407 => (simp (disch := omega) only [Act.put, List.setIfInBounds_toArray, List.set_cons_zero, List.set_cons_succ, wrap_in]; rfl)))
          refine done_ (by kernel_rfl) ?_
          have HT3 := Lib.hid (HZT.out _ HI3.out.bel)
          clear hHeld
          have t0 : w3.cell? ⟨w.heap.size, 0, none⟩ = some (.int .i64 0) := cell_blk HT3.out 0 rfl
          have t1 : w3.cell? ⟨w.heap.size, 1, none⟩ = some (.int .i64 0) := cell_blk HT3.out 1 rfl
          have t2 : w3.cell? ⟨w.heap.size, 2, none⟩ = some (.int .i64 0) := cell_blk HT3.out 2 rfl
          have t3 : w3.cell? ⟨w.heap.size, 3, none⟩ = some (.int .i64 0) := cell_blk HT3.out 3 rfl
          have t4 : w3.cell? ⟨w.heap.size, 4, none⟩ = some (.int .i64 0) := cell_blk HT3.out 4 rfl
          have t5 : w3.cell? ⟨w.heap.size, 5, none⟩ = some (.int .i64 0) := cell_blk HT3.out 5 rfl
          have t6 : w3.cell? ⟨w.heap.size, 6, none⟩ = some (.int .i64 0) := cell_blk HT3.out 6 rfl
          have t7 : w3.cell? ⟨w.heap.size, 7, none⟩ = some (.slice none 0 0) := cell_blk HT3.out 7 rfl
          have t8 : w3.cell? ⟨w.heap.size, 8, none⟩ = some (.slice none 0 0) := cell_blk HT3.out 8 rfl
          have t9 : w3.cell? ⟨w.heap.size, 9, none⟩ = some (.int .i64 0) := cell_blk HT3.out 9 rfl
          have t10 : w3.cell? ⟨w.heap.size, 10, none⟩ = some (.slice none 0 0) := cell_blk HT3.out 10 rfl
          have f0 := free_blk HT3.out 0
          have f1 := free_blk HT3.out 1
          have f2 := free_blk HT3.out 2
          have f3 := free_blk HT3.out 3
          have f4 := free_blk HT3.out 4
          have f5 := free_blk HT3.out 5
          have f6 := free_blk HT3.out 6
          have f7 := free_blk HT3.out 7
          have f8 := free_blk HT3.out 8
          have f9 := free_blk HT3.out 9
          have f10 := free_blk HT3.out 10
          go_wp2_with (fail)
          refine bodyPost_ret (v := .tuple #[.agg #[.int .i64 0, .int .i64 0, .int .i64 0, .int .i64 0, .int .i64 0, .int .i64 0, .int .i64 0, .slice none 0 0, .slice none 0 0, .int .i64 0, .slice none 0 0], .int .i64 160]) ?_ rfl ?_
          · simp [results, Try.results11, go_sem, *]
          · exact QDecP.bad (HZ.out.trans (HI3.out.bel.mono HZ.out.size)) (by rw [decode_ref HBY.out, HR.out, if_neg (fun h => hs h.1)]) _ _ _ _ _ _ _ _ _ _ _
end Go.Proofs.Ytjmmdpnphafdfaa
