/- A record's parts: what each lays down. -/
import Derived.Test.YtjmmdpnphafdfaaRW1
import Derived.Test.YtjmmdpnphafdfaaPW8
namespace Go.Proofs.Ytjmmdpnphafdfaa
set_option linter.unusedVariables false
set_option linter.unusedSimpArgs false
open Go.RowKit Go.Deep Go.Proofs.YtjmmdpnphafdfaaW.PrintLast

abbrev TRec : TypeId := 26
abbrev TPart : TypeId := 64
def recCells (r : RZ) (K V C : SlB) : Array Value := #[.int .i64 r.kind, .int .i64 r.shard, .int .i64 r.epoch, .int .i64 r.peer, .int .i64 r.client, .int .i64 r.seq, .int .i64 r.op.kind, .slice K.1 K.2.1 K.2.2, .slice V.1 V.2.1 V.2.2, .int .i64 r.op.rev, .slice C.1 C.2.1 C.2.2]
/-- Bytes that lie in blocks below N. -/
def SlAt (w : World) (N : Nat) (x : SlB) (p : List Int) : Prop := x.2.1 = p.length ∧ BSrc w x.1 p ∧ (p ≠ [] → ∀ g o, x.1 = some ⟨g, o, none⟩ → g < N)
/-- A record at block kr, below N. -/
def RecAt (w : World) (N kr : Nat) (r : RZ) (K V C : SlB) : Prop := kr < N ∧ w.heap[kr]? = some (.cells (recCells r K V C) TRec (0, 0)) ∧ SlAt w N K r.op.key ∧ SlAt w N V r.op.val ∧ SlAt w N C r.copy
section
variable {w w' : World} {F : Nat → Prop} {N M kr : Nat} {r : RZ} {K V C x : SlB} {p : List Int}
theorem SlAt.src (h : SlAt w N x p) : BSrc w x.1 p := h.2.1
theorem SlAt.fr (h : SlAt w N x p) (hf : Fr F w w') (hF : ∀ b, F b → N ≤ b) : SlAt w' N x p := by
  refine ⟨h.1, fun hne => ?_, h.2.2⟩
  obtain ⟨g, o, h1, h2⟩ := h.2.1 hne
  have hl := h.2.2 hne g o h1
  obtain ⟨y, t, rfl⟩ := List.exists_cons_of_ne_nil hne
  exact ⟨g, o, h1, h2.moved (hf.block g (World.block_lt_of_cell? _ _ (h2 0 y rfl)) (fun hb => by have := hF g hb; omega))⟩
theorem SlAt.below (h : SlAt w N x p) (hb : Below w.heap.size w w') : SlAt w' N x p := ⟨h.1, h.2.1.below hb, h.2.2⟩
theorem SlAt.mono (h : SlAt w N x p) (hM : N ≤ M) : SlAt w M x p := ⟨h.1, h.2.1, fun hne g o e => Nat.lt_of_lt_of_le (h.2.2 hne g o e) hM⟩
theorem SlAt.nil (w : World) (N : Nat) : SlAt w N (none, 0, 0) [] := ⟨rfl, fun h => absurd rfl h, fun h => absurd rfl h⟩
/-- Bytes that lie somewhere lie below the heap's size. -/
theorem SlAt.ofSrc (h : BSrc w x.1 p) (hl : x.2.1 = p.length) (hN : w.heap.size ≤ N) : SlAt w N x p := ⟨hl, h, fun hne g o e => by
  obtain ⟨g', o', h1, h2⟩ := h hne
  rw [h1] at e; injection e with e; injection e with e1 _; subst e1
  obtain ⟨y, t, rfl⟩ := List.exists_cons_of_ne_nil hne
  exact Nat.lt_of_lt_of_le (World.block_lt_of_cell? _ _ (h2 0 y rfl)) hN⟩
theorem RecAt.fr (h : RecAt w N kr r K V C) (hf : Fr F w w') (hF : ∀ b, F b → N ≤ b) : RecAt w' N kr r K V C :=
  ⟨h.1, (hf.block kr (blk_lt h.2.1) (fun hb => by have := hF kr hb; have := h.1; omega)).trans h.2.1, h.2.2.1.fr hf hF, h.2.2.2.1.fr hf hF, h.2.2.2.2.fr hf hF⟩
theorem RecAt.below (h : RecAt w N kr r K V C) (hb : Below w.heap.size w w') : RecAt w' N kr r K V C :=
  ⟨h.1, blk_below h.2.1 hb, h.2.2.1.below hb, h.2.2.2.1.below hb, h.2.2.2.2.below hb⟩
end
/-- The kinds of parts. -/
inductive PK
  | peer
  | client
  | seq
  | epoch
  | write
  | copied
def fnV (f : Nat) (cap : Array Value) : Value := .func (.func f) #[] cap
def ptrV (a : Nat) : Value := .pointer (some ⟨a, 0, none⟩)
/-- A numbers' part where it lies: f tells where the number is; from least to most. -/
def NumPart (w : World) (lo hi : Nat) (f : Nat) (least most : Int) (vs : List Value) : Prop := ∃ a l m, ((lo ≤ a ∧ a < hi) ∧ (lo ≤ l ∧ l < hi) ∧ (lo ≤ m ∧ m < hi)) ∧ vs = [fnV 73 #[ptrV a], fnV 74 #[ptrV a], fnV 75 #[ptrV a, ptrV l, ptrV m]] ∧
  w.heap[a]? = some (.cells #[fnV f #[]] 83 (0, 0)) ∧ w.heap[l]? = some (.cells #[.int .i64 least] 3 (0, 0)) ∧ w.heap[m]? = some (.cells #[.int .i64 most] 3 (0, 0))
def PartAt (w : World) (lo hi : Nat) : PK → List Value → Prop
  | .peer, vs => NumPart w lo hi 59 0 7 vs
  | .client, vs => NumPart w lo hi 60 0 15 vs
  | .seq, vs => NumPart w lo hi 61 1 1073741824 vs
  | .epoch, vs => NumPart w lo hi 63 1 1073741824 vs
  | .write, vs => vs = [fnV 76 #[], fnV 78 #[], fnV 80 #[]]
  | .copied, vs => vs = [fnV 82 #[], fnV 83 #[], fnV 84 #[]]
/-- What a part lays down. -/
def layP (p : PK) (r : RZ) (s : WS) : WS := match p with
  | .peer => s.num r.peer.toNat
  | .client => s.num r.client.toNat
  | .seq => s.num r.seq.toNat
  | .epoch => s.num r.epoch.toNat
  | .write => (if r.op.kind = 4 then (fun s : WS => s.num r.op.rev.toNat) else id) ((if r.op.kind = 3 then id else fun s : WS => s.text r.op.val) ((s.byte r.op.kind).text r.op.key))
  | .copied => s.text r.copy
section
variable {w w' : World} {F : Nat → Prop} {N k kr : Nat} {s : WS} {r : RZ} {K V C : SlB}
theorem at_client (w : World) : Calls Try.prog 60 #[.pointer (some ⟨kr, 0, none⟩)] w fun e w' => e = .returned (.pointer (some ⟨kr, 4, none⟩)) ∧ w = w' := by
  go_enter Try.func60, Try.ntmps60
  go_wp2_with (fail)
  go_ret
  exact ⟨rfl, rfl⟩
theorem at_seq (w : World) : Calls Try.prog 61 #[.pointer (some ⟨kr, 0, none⟩)] w fun e w' => e = .returned (.pointer (some ⟨kr, 5, none⟩)) ∧ w = w' := by
  go_enter Try.func61, Try.ntmps61
  go_wp2_with (fail)
  go_ret
  exact ⟨rfl, rfl⟩
theorem at_peer (w : World) : Calls Try.prog 59 #[.pointer (some ⟨kr, 0, none⟩)] w fun e w' => e = .returned (.pointer (some ⟨kr, 3, none⟩)) ∧ w = w' := by
  go_enter Try.func59, Try.ntmps59
  go_wp2_with (fail)
  go_ret
  exact ⟨rfl, rfl⟩
theorem at_epoch (w : World) : Calls Try.prog 63 #[.pointer (some ⟨kr, 0, none⟩)] w fun e w' => e = .returned (.pointer (some ⟨kr, 2, none⟩)) ∧ w = w' := by
  go_enter Try.func63, Try.ntmps63
  go_wp2_with (fail)
  go_ret
  exact ⟨rfl, rfl⟩
set_option maxHeartbeats 1000000 in
theorem lay_client {a : Nat} (h : WLies TW w F k s) (hok : s.Ok) (hr : RecAt w N kr r K V C) (ha : w.heap[a]? = some (.cells #[fnV 60 #[]] 83 (0, 0))) (h0 : 0 ≤ r.client) (h1 : r.client ≤ 1073741824) (h63 : s.bs.length + 10 ≤ 140737488355328) :
    Calls Try.prog 73 #[ptrV k, ptrV kr, ptrV a] w fun e w' => e = .returned (.tuple #[]) ∧ UpdW TW F k w w' (s.num r.client.toNat) := by
  obtain ⟨n, hn⟩ : ∃ n : Nat, r.client = n := ⟨r.client.toNat, by omega⟩
  have e1 : w.cell? ⟨kr, 4, none⟩ = some (.int .i64 n) := by rw [← hn]; exact cell_blk hr.2.1 4 rfl
  have e2 : w.cell? ⟨a, 0, none⟩ = some (fnV 60 #[]) := cell_blk ha 0 rfl
  rw [hn, Int.toNat_natCast]
  have NM := Lib.hid (wNum_any h hok n (by omega) h63)
  have n1 : n ≤ 1073741824 := by omega
  clear h hok hr ha h0 h1 hn
  unfold ptrV
  unfold fnV at e2
  go_enter Try.func73, Try.ntmps73
  go_wp2_with (fail)
  refine (at_client w).mono ?_
  rintro e w_ ⟨rfl, rfl⟩
  go_wp2_with (fail)
  refine NM.out.mono ?_
  rintro e w2 ⟨rfl, U⟩
  go_wp2_with (fail)
  go_end0
  exact ⟨rfl, U⟩
set_option maxHeartbeats 1000000 in
theorem lay_seq {a : Nat} (h : WLies TW w F k s) (hok : s.Ok) (hr : RecAt w N kr r K V C) (ha : w.heap[a]? = some (.cells #[fnV 61 #[]] 83 (0, 0))) (h0 : 0 ≤ r.seq) (h1 : r.seq ≤ 1073741824) (h63 : s.bs.length + 10 ≤ 140737488355328) :
    Calls Try.prog 73 #[ptrV k, ptrV kr, ptrV a] w fun e w' => e = .returned (.tuple #[]) ∧ UpdW TW F k w w' (s.num r.seq.toNat) := by
  obtain ⟨n, hn⟩ : ∃ n : Nat, r.seq = n := ⟨r.seq.toNat, by omega⟩
  have e1 : w.cell? ⟨kr, 5, none⟩ = some (.int .i64 n) := by rw [← hn]; exact cell_blk hr.2.1 5 rfl
  have e2 : w.cell? ⟨a, 0, none⟩ = some (fnV 61 #[]) := cell_blk ha 0 rfl
  rw [hn, Int.toNat_natCast]
  have NM := Lib.hid (wNum_any h hok n (by omega) h63)
  have n1 : n ≤ 1073741824 := by omega
  clear h hok hr ha h0 h1 hn
  unfold ptrV
  unfold fnV at e2
  go_enter Try.func73, Try.ntmps73
  go_wp2_with (fail)
  refine (at_seq w).mono ?_
  rintro e w_ ⟨rfl, rfl⟩
  go_wp2_with (fail)
  refine NM.out.mono ?_
  rintro e w2 ⟨rfl, U⟩
  go_wp2_with (fail)
  go_end0
  exact ⟨rfl, U⟩
set_option maxHeartbeats 1000000 in
theorem lay_peer {a : Nat} (h : WLies TW w F k s) (hok : s.Ok) (hr : RecAt w N kr r K V C) (ha : w.heap[a]? = some (.cells #[fnV 59 #[]] 83 (0, 0))) (h0 : 0 ≤ r.peer) (h1 : r.peer ≤ 1073741824) (h63 : s.bs.length + 10 ≤ 140737488355328) :
    Calls Try.prog 73 #[ptrV k, ptrV kr, ptrV a] w fun e w' => e = .returned (.tuple #[]) ∧ UpdW TW F k w w' (s.num r.peer.toNat) := by
  obtain ⟨n, hn⟩ : ∃ n : Nat, r.peer = n := ⟨r.peer.toNat, by omega⟩
  have e1 : w.cell? ⟨kr, 3, none⟩ = some (.int .i64 n) := by rw [← hn]; exact cell_blk hr.2.1 3 rfl
  have e2 : w.cell? ⟨a, 0, none⟩ = some (fnV 59 #[]) := cell_blk ha 0 rfl
  rw [hn, Int.toNat_natCast]
  have NM := Lib.hid (wNum_any h hok n (by omega) h63)
  have n1 : n ≤ 1073741824 := by omega
  clear h hok hr ha h0 h1 hn
  unfold ptrV
  unfold fnV at e2
  go_enter Try.func73, Try.ntmps73
  go_wp2_with (fail)
  refine (at_peer w).mono ?_
  rintro e w_ ⟨rfl, rfl⟩
  go_wp2_with (fail)
  refine NM.out.mono ?_
  rintro e w2 ⟨rfl, U⟩
  go_wp2_with (fail)
  go_end0
  exact ⟨rfl, U⟩
set_option maxHeartbeats 1000000 in
theorem lay_epoch {a : Nat} (h : WLies TW w F k s) (hok : s.Ok) (hr : RecAt w N kr r K V C) (ha : w.heap[a]? = some (.cells #[fnV 63 #[]] 83 (0, 0))) (h0 : 0 ≤ r.epoch) (h1 : r.epoch ≤ 1073741824) (h63 : s.bs.length + 10 ≤ 140737488355328) :
    Calls Try.prog 73 #[ptrV k, ptrV kr, ptrV a] w fun e w' => e = .returned (.tuple #[]) ∧ UpdW TW F k w w' (s.num r.epoch.toNat) := by
  obtain ⟨n, hn⟩ : ∃ n : Nat, r.epoch = n := ⟨r.epoch.toNat, by omega⟩
  have e1 : w.cell? ⟨kr, 2, none⟩ = some (.int .i64 n) := by rw [← hn]; exact cell_blk hr.2.1 2 rfl
  have e2 : w.cell? ⟨a, 0, none⟩ = some (fnV 63 #[]) := cell_blk ha 0 rfl
  rw [hn, Int.toNat_natCast]
  have NM := Lib.hid (wNum_any h hok n (by omega) h63)
  have n1 : n ≤ 1073741824 := by omega
  clear h hok hr ha h0 h1 hn
  unfold ptrV
  unfold fnV at e2
  go_enter Try.func73, Try.ntmps73
  go_wp2_with (fail)
  refine (at_epoch w).mono ?_
  rintro e w_ ⟨rfl, rfl⟩
  go_wp2_with (fail)
  refine NM.out.mono ?_
  rintro e w2 ⟨rfl, U⟩
  go_wp2_with (fail)
  go_end0
  exact ⟨rfl, U⟩
set_option maxHeartbeats 1000000 in
theorem lay_copied (h : WLies TW w F k s) (hok : s.Ok) (hr : RecAt w N kr r K V C) (h63 : s.bs.length + 10 + r.copy.length ≤ 140737488355328) :
    Calls Try.prog 82 #[ptrV k, ptrV kr] w fun e w' => e = .returned (.tuple #[]) ∧ UpdW TW F k w w' (s.text r.copy) := by
  have e1 : w.cell? ⟨kr, 10, none⟩ = some (.slice C.1 C.2.1 C.2.2) := cell_blk hr.2.1 10 rfl
  have TX := Lib.hid (wText_any (cc := C.2.2) h hok hr.2.2.2.2.src h63)
  have hl := hr.2.2.2.2.1
  rw [hl] at e1
  clear h hok hr hl
  unfold ptrV
  go_enter Try.func82, Try.ntmps82
  go_wp2_with (fail)
  refine TX.out.mono ?_
  rintro e w2 ⟨rfl, U⟩
  go_wp2_with (fail)
  go_end0
  exact ⟨rfl, U⟩
theorem WS.text_len (s : WS) (p : List Int) (hp : p.length ≤ 140737488355328) : (s.text p).bs.length ≤ s.bs.length + 10 + p.length := by
  have h1 := (WS.lay_len s (formN p.length ++ p)).2
  have h2 := formN_len10 (n := p.length) (by omega)
  unfold WS.text
  rw [List.length_append] at h1
  omega
theorem WS.byte_len (s : WS) (n : Int) : (s.byte n).bs.length ≤ s.bs.length + 1 := by
  unfold WS.byte WS.refuse
  split
  · split <;> exact Nat.le_succ _
  · exact (WS.lay_len s [n]).2
theorem WS.Ok.text_ {s : WS} (h : s.Ok) {p : List Int} (hp : Byt p) : (s.text p).Ok := h.lay (textN_byt hp)
theorem WS.Ok.num_ {s : WS} (h : s.Ok) (n : Nat) : (s.num n).Ok := h.lay (formN_range n)
theorem WS.Ok.byte_ {s : WS} (h : s.Ok) (n : Int) : (s.byte n).Ok := by
  unfold WS.byte
  split
  · exact h.refuse 2
  · refine h.lay (fun x hx => ?_)
    rw [List.mem_singleton] at hx; subst hx; omega
set_option maxHeartbeats 2000000 in
theorem lay_write (h : WLies TW w F k s) (hok : s.Ok) (hF : ∀ b, F b → N ≤ b) (hN : N ≤ w.heap.size) (hr : RecAt w N kr r K V C) (hb : r.Byt) (ho : RightO r.op) (h63 : s.bs.length + 40 + r.op.key.length + r.op.val.length ≤ 140737488355328) :
    Calls Try.prog 76 #[ptrV k, ptrV kr] w fun e w' => e = .returned (.tuple #[]) ∧ UpdW TW F k w w' (layP .write r s) := by
  have hlK := hr.2.2.1.1
  have hlV := hr.2.2.2.1.1
  have hkl := ho.key
  have hvl := ho.val
  have hrv := ho.rev
  obtain ⟨S, hS⟩ : ∃ S, layP .write r s = S := ⟨_, rfl⟩
  have HS := Lib.hid hS
  rw [hS]
  clear hS
  obtain ⟨kd, hkd⟩ : ∃ x, r.op.kind = x := ⟨_, rfl⟩
  obtain ⟨rv, hrvn⟩ : ∃ n : Nat, r.op.rev = n := ⟨r.op.rev.toNat, by omega⟩
  have cells : ∀ w1, Fr F w w1 → w1.cell? ⟨kr, 6, none⟩ = some (.int .i64 kd) ∧ w1.cell? ⟨kr, 7, none⟩ = some (.slice K.1 r.op.key.length K.2.2) ∧ w1.cell? ⟨kr, 8, none⟩ = some (.slice V.1 r.op.val.length V.2.2) ∧ w1.cell? ⟨kr, 9, none⟩ = some (.int .i64 rv) := fun w1 hf => by
    have h1 := (hr.fr hf hF).2.1
    rw [← hlK, ← hlV, ← hkd, ← hrvn]
    exact ⟨cell_blk h1 6 rfl, cell_blk h1 7 rfl, cell_blk h1 8 rfl, cell_blk h1 9 rfl⟩
  have HC := Lib.hid cells
  have HR := Lib.hid hr
  have HF := Lib.hid hF
  have HB := Lib.hid hb
  have HO := Lib.hid hok
  have BY := Lib.hid (wByte_any h hok kd (by omega))
  obtain ⟨c6, c7, c8, c9⟩ := cells w (Fr.refl F w)
  have HSS := Lib.hid (show S = (if kd = 4 then (fun s : WS => s.num rv) else id) ((if kd = 3 then id else fun s : WS => s.text r.op.val) ((s.byte kd).text r.op.key)) by
    rw [← HS.out]
    unfold layP
    rw [hkd, hrvn, Int.toNat_natCast])
  have rvl : rv ≤ 1099511627776 := by omega
  clear cells hr hb hok h hF hkd hlK hlV ho hrv hrvn HS
  unfold ptrV
  go_enter Try.func76, Try.ntmps76
  go_wp2_with (fail)
  refine BY.out.mono ?_
  rintro e w1 ⟨rfl, U1⟩
  have HU1 := Lib.hid U1
  have LN1 := WS.byte_len s kd
  have O1 := HO.out.byte_ kd
  have TX := Lib.hid (wText_any (cc := K.2.2) (ys := r.op.key) U1.1 O1 ((HR.out.fr U1.2 HF.out).2.2.1.src) (by omega))
  obtain ⟨c6, c7, c8, c9⟩ := HC.out w1 U1.2
  have HO1 := Lib.hid O1
  clear U1 O1
  go_wp2_with (fail)
  refine TX.out.mono ?_
  rintro e w2 ⟨rfl, U2⟩
  have U2 := HU1.out.trans U2
  have HU2 := Lib.hid U2
  have LN2 := WS.text_len (s.byte kd) r.op.key (by omega)
  have O2 := HO1.out.text_ HB.out.key
  obtain ⟨c6, c7, c8, c9⟩ := HC.out w2 U2.2
  have TX2 := Lib.hid (wText_any (cc := V.2.2) (ys := r.op.val) U2.1 O2 ((HR.out.fr U2.2 HF.out).2.2.2.1.src) (by omega))
  have HO2 := Lib.hid O2
  clear U2 O2
  by_cases k3 : kd = 3
  · subst k3
    go_wp2_with (fail)
    go_end0
    refine ⟨rfl, ?_⟩
    rw [HSS.out]
    exact HU2.out
  · go_wp2_with (fail)
    refine TX2.out.mono ?_
    rintro e w3 ⟨rfl, U3⟩
    have U3 := HU2.out.trans U3
    have HU3 := Lib.hid U3
    have LN3 := WS.text_len ((s.byte kd).text r.op.key) r.op.val (by omega)
    have O3 := HO2.out.text_ HB.out.val
    obtain ⟨c6, c7, c8, c9⟩ := HC.out w3 U3.2
    have NM := Lib.hid (wNum_any U3.1 O3 rv (by omega) (by omega))
    clear U3 O3
    by_cases k4 : kd = 4
    · subst k4
      go_wp2_with (fail)
      refine NM.out.mono ?_
      rintro e w4 ⟨rfl, U4⟩
      have U4 := Lib.hid (HU3.out.trans U4)
      go_wp2_with (fail)
      go_end0
      refine ⟨rfl, ?_⟩
      rw [HSS.out]
      exact U4.out
    · go_wp2_with (fail)
      go_end0
      refine ⟨rfl, ?_⟩
      rw [HSS.out, if_neg k4, if_neg k3]
      exact HU3.out
end
end Go.Proofs.Ytjmmdpnphafdfaa
