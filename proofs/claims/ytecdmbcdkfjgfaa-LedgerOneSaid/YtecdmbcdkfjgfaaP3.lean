/- The protocol of ledgers, in plain Lean: each act keeps what holds, and none goes wrong. -/
import Derived.Test.YtecdmbcdkfjgfaaP2
namespace Go.Proofs.Ytecdmbcdkfjgfaa
set_option linter.unusedVariables false
set_option linter.unusedSimpArgs false

def Good (w : Wd) (E H : Int) (O : Int → Int → Int → Prop) : Prop := Core w.row.length (at0 w.row) E H O ∧ ∀ m ∈ w.sent, MsgOk (at0 w.row) O m
def put (w : Wd) (x : Int) (l : Lg) : Wd := ⟨w.row.set x.toNat l, w.sent⟩
def send (w : Wd) (m : Ml) : Wd := ⟨w.row, w.sent ++ [m]⟩
def Mono (w w' : Wd) : Prop := w'.row.length = w.row.length ∧ ∀ i, (at0 w.row i).ep ≤ (at0 w'.row i).ep
theorem Mono.refl (w : Wd) : Mono w w := ⟨rfl, fun _ => Int.le_refl _⟩
theorem Mono.trans {a b c : Wd} (h : Mono a b) (h' : Mono b c) : Mono a c := ⟨h'.1.trans h.1, fun i => Int.le_trans (h.2 i) (h'.2 i)⟩
theorem put_len (w : Wd) (x : Int) (l : Lg) : (put w x l).row.length = w.row.length := by simp [put]
section
variable {w : Wd} {E H E' H' : Int} {O O' : Int → Int → Int → Prop}
theorem Good.send (g : Good w E H O) {m : Ml} (h : MsgOk (at0 w.row) O m) : Good (send w m) E H O :=
  ⟨g.1, fun m' hm => by
    simp only [Ytecdmbcdkfjgfaa.send, List.mem_append, List.mem_singleton] at hm
    rcases hm with hm | rfl
    · exact g.2 m' hm
    · exact h⟩
theorem Good.put (g : Good w E H O) {x : Int} {l : Lg} (x0 : 0 ≤ x) (xn : x < w.row.length) (c' : Core w.row.length (upd (at0 w.row) x l) E' H' O') (hO : ∀ e s p, O e s p → O' e s p) (he : (at0 w.row x).ep ≤ l.ep)
    (h4 : l.ph = 4 → (at0 w.row x).ep < l.ep) (h3 : (at0 w.row x).ph = 3 → (l.ph = 3 ∧ l.ep = (at0 w.row x).ep) ∨ ∀ t, O (at0 w.row x).ep x t → (at0 w.row t).ph = 4 → (at0 w.row t).ep = (at0 w.row x).ep → False) : Good (put w x l) E' H' O' := by
  refine ⟨?_, fun m hm => ?_⟩
  · rw [put_len]
    show Core _ (at0 (w.row.set x.toNat l)) E' H' O'
    rw [at0_set _ _ _ x0 xn]; exact c'
  · show MsgOk (at0 (w.row.set x.toNat l)) O' m
    rw [at0_set _ _ _ x0 xn]
    exact (g.2 m hm).step (fun e s p h => (g.1.off e s p h).2.2.2.2.1) hO he h4 h3
theorem mono_put {x : Int} {l : Lg} (x0 : 0 ≤ x) (xn : x < w.row.length) (he : (at0 w.row x).ep ≤ l.ep) : Mono w (put w x l) := by
  refine ⟨put_len w x l, fun i => ?_⟩
  show _ ≤ (at0 (w.row.set x.toNat l) i).ep
  rw [at0_set _ _ _ x0 xn]
  by_cases hi : i = x
  · rw [hi, upd_same]; exact he
  · rw [upd_ne _ _ hi]; exact Int.le_refl _
theorem at0_put {x : Int} {l : Lg} (x0 : 0 ≤ x) (xn : x < w.row.length) : at0 (put w x l).row = upd (at0 w.row) x l := at0_set _ _ _ x0 xn
theorem Good.put_offer (g : Good w E H O) (h1 : (at0 w.row H).ph = 1) {q : Int} (hq : q ≠ H) (q0 : 0 ≤ q) (qn : q < w.row.length) (hE : E ≤ 1073741822) : Good (Ytecdmbcdkfjgfaa.put w H ⟨2, E + 1, q⟩) (E + 1) H (offO O E H q) :=
  g.put g.1.h0 g.1.hn (g.1.offer h1 hq q0 qn hE) (fun _ _ _ h => Or.inl h) (by rw [g.1.hE]; simp only; omega) (by simp) (by rw [h1]; simp)
theorem Good.put_cancel (g : Good w E H O) (h2 : (at0 w.row H).ph = 2) : Good (Ytecdmbcdkfjgfaa.put w H ⟨1, E + 1, H⟩) (E + 1) H O :=
  g.put g.1.h0 g.1.hn (g.1.cancel h2) (fun _ _ _ h => h) (by rw [g.1.hE]; simp only; omega) (by simp) (by rw [h2]; simp)
theorem Good.put_install (g : Good w E H O) {p s e : Int} (hO : O e s p) (hs : e ≤ (at0 w.row s).ep) (hp : (at0 w.row p).ph = 0 ∨ (at0 w.row p).ph = 4 ∨ (at0 w.row p).ph = 5) (he : (at0 w.row p).ep < e) (hm : e < 1073741824) : Good (Ytecdmbcdkfjgfaa.put w p ⟨4, e, s⟩) E H O :=
  have o := g.1.off _ _ _ hO
  g.put (by omega) (by omega) (g.1.install hO hs hp he hm) (fun _ _ _ h => h) (by simp only; omega) (fun _ => he) (fun h => by omega)
theorem Good.put_commit (g : Good w E H O) (h2 : (at0 w.row H).ph = 2) (hp : E ≤ (at0 w.row (at0 w.row H).pe).ep) : Good (Ytecdmbcdkfjgfaa.put w H ⟨3, E, (at0 w.row H).pe⟩) E H O :=
  g.put g.1.h0 g.1.hn (g.1.commit h2 hp) (fun _ _ _ h => h) (by rw [g.1.hE]; exact Int.le_refl _) (by simp) (by rw [h2]; simp)
theorem Good.put_own (g : Good w E H O) {p : Int} (p0 : 0 ≤ p) (pn : p < w.row.length) (h4 : (at0 w.row p).ph = 4) (h3 : (at0 w.row (at0 w.row p).pe).ph = 3) (he : (at0 w.row (at0 w.row p).pe).ep = (at0 w.row p).ep) : Good (Ytecdmbcdkfjgfaa.put w p ⟨1, (at0 w.row p).ep, p⟩) E p O :=
  g.put p0 pn (g.1.own p0 pn h4 h3 he) (fun _ _ _ h => h) (Int.le_refl _) (by simp) (by rw [h4]; simp)
theorem Good.put_release (g : Good w E H O) {s : Int} (s0 : 0 ≤ s) (sn : s < w.row.length) (h3 : (at0 w.row s).ph = 3) (hs : s ≠ H) : Good (Ytecdmbcdkfjgfaa.put w s ⟨5, (at0 w.row s).ep, (at0 w.row s).pe⟩) E H O :=
  g.put s0 sn (g.1.release s0 sn h3 hs) (fun _ _ _ h => h) (Int.le_refl _) (by simp) (fun _ => Or.inr fun t ho t4 te => by
    have o := g.1.off _ _ _ ho
    obtain ⟨a, b, c⟩ := g.1.i4 t (by omega) (by omega) t4
    rw [te] at a c
    have := (g.1.uniq _ _ _ _ _ ho a).1
    rw [← this] at c
    exact hs (c rfl).1)
theorem Good.put_forget (g : Good w E H O) {p : Int} (p0 : 0 ≤ p) (pn : p < w.row.length) (h4 : (at0 w.row p).ph = 4) (hs : (at0 w.row p).ep < (at0 w.row (at0 w.row p).pe).ep) : Good (Ytecdmbcdkfjgfaa.put w p ⟨5, (at0 w.row p).ep, (at0 w.row p).pe⟩) E H O :=
  g.put p0 pn (g.1.forget p0 pn h4 hs) (fun _ _ _ h => h) (Int.le_refl _) (by simp) (by rw [h4]; simp)
end

/-- What a message makes of a world, where all is well. -/
def hearS (w : Wd) (m : Ml) (full : Bool) : Wd :=
  let l := at0 w.row m.tt
  if m.kd = 3 then
    (if l.ph = 4 ∧ l.ep = m.ep ∧ l.pe = m.fr then send w ⟨4, m.ep, m.tt, m.fr⟩
     else if (l.ph = 0 ∨ l.ph = 4 ∨ l.ph = 5) ∧ l.ep < m.ep then (if full then send w ⟨8, m.ep, m.tt, m.fr⟩ else send (put w m.tt ⟨4, m.ep, m.fr⟩) ⟨4, m.ep, m.tt, m.fr⟩)
     else w)
  else if m.kd = 4 then
    (if l.ph = 2 ∧ l.ep = m.ep ∧ l.pe = m.fr then send (put w m.tt ⟨3, l.ep, l.pe⟩) ⟨5, m.ep, m.tt, m.fr⟩
     else if l.ph = 3 ∧ l.ep = m.ep ∧ l.pe = m.fr then send w ⟨5, m.ep, m.tt, m.fr⟩
     else if m.ep < l.ep then send w ⟨7, m.ep, m.tt, m.fr⟩ else w)
  else if m.kd = 5 then
    (if l.ph = 4 ∧ l.ep = m.ep ∧ l.pe = m.fr then send (put w m.tt ⟨1, l.ep, m.tt⟩) ⟨6, m.ep, m.tt, m.fr⟩
     else if l.ph = 4 ∧ l.ep = m.ep then w else send w ⟨6, m.ep, m.tt, m.fr⟩)
  else if m.kd = 6 then (if l.ph = 3 ∧ l.ep = m.ep ∧ l.pe = m.fr then put w m.tt ⟨5, l.ep, l.pe⟩ else w)
  else if m.kd = 7 then (if l.ph = 4 ∧ l.ep = m.ep ∧ l.pe = m.fr then put w m.tt ⟨5, l.ep, l.pe⟩ else w)
  else (if l.ph = 2 ∧ l.ep = m.ep ∧ l.pe = m.fr then put w m.tt ⟨1, l.ep + 1, m.tt⟩ else w)
theorem hearF_ok {s ph ep pe k e f : Int} (hv : validB s ph ep pe = true) (hf : srvB f = true) (hne : f ≠ s) : hearF s ph ep pe k e f =
    (if k = 3 then
      (if ph = 4 ∧ ep = e ∧ pe = f then (0, 4)
       else if (ph = 4 ∨ ph = 0 ∨ ph = 5) ∧ ep < e ∧ e < 1073741824 then (4, 4) else (0, 0))
    else if k = 4 then
      (if ep = e ∧ pe = f ∧ ph = 2 then (5, 5) else if ep = e ∧ pe = f ∧ ph = 3 then (0, 5) else if e < ep then (0, 7) else (0, 0))
    else if k = 5 then
      (if ep = e ∧ pe = f ∧ ph = 4 then (6, 6) else if ep = e ∧ ph = 4 then (0, 0) else if e ≤ ep then (0, 6) else (0, 0))
    else if k = 6 then (if ep = e ∧ pe = f ∧ ph = 3 then (7, 0) else (0, 0))
    else if k = 7 then (if ep = e ∧ pe = f ∧ ph = 4 then (8, 0) else (0, 0))
    else if k = 8 then (if ep = e ∧ pe = f ∧ ph = 2 then (3, 0) else (0, 0))
    else (0, 0)) := by
  unfold hearF
  rw [if_neg (by simp [hv, hf, hne])]
theorem takeW_of {w : Wd} {who k re rp : Int} {l : Lg} (h : stepF who (at0 w.row who) k re rp = (l, 0)) : takeW w who k re rp = (put w who l, true) := by
  unfold takeW; rw [h]; rfl
theorem hearW_no {w : Wd} {kd e f t rp : Int} {full : Bool} (t0 : 0 ≤ t) (tn : t < w.row.length) (h : hears w ⟨kd, e, f, t⟩ full = (0, rp)) : hearW w ⟨kd, e, f, t⟩ full = (if rp = 0 then w else send w ⟨rp, e, t, f⟩, true) := by
  unfold hearW
  rw [if_neg (by simp; omega), h]
  by_cases hr : rp = 0 <;> simp [hr, send]
theorem hearW_take {w : Wd} {kd e f t k rp : Int} {full : Bool} {l : Lg} (t0 : 0 ≤ t) (tn : t < w.row.length) (h : hears w ⟨kd, e, f, t⟩ full = (k, rp)) (hk : k ≠ 0) (hs : stepF t (at0 w.row t) k e f = (l, 0)) : hearW w ⟨kd, e, f, t⟩ full = (if rp = 0 then put w t l else send (put w t l) ⟨rp, e, t, f⟩, true) := by
  unfold hearW
  rw [if_neg (by simp; omega), h]
  dsimp only
  rw [if_neg (show ¬ (k == 0) = true by simpa using hk), takeW_of hs]
  by_cases hr : rp = 0 <;> simp [hr, send]
section
variable {w : Wd} {E H : Int} {O : Int → Int → Int → Prop}
def wt (k : Int) : Nat := if k = 3 then 4 else if k = 4 then 3 else if k = 5 then 2 else 1
def wts : List Ml → Nat
  | [] => 0
  | m :: p => wt m.kd + wts p
/-- Within a round: what is begun is still spoken of. -/
structure Pend (n : Int) (r : Int → Lg) (H : Int) (p : List Ml) : Prop where
  c : ∀ i, 0 ≤ i → i < n → i ≠ H → (r i).ph = 3 → ⟨5, (r i).ep, i, (r i).pe⟩ ∈ p ∨ ⟨6, (r i).ep, (r i).pe, i⟩ ∈ p
  d : ∀ i, 0 ≤ i → i < n → (r i).ph = 4 → ⟨4, (r i).ep, i, (r i).pe⟩ ∈ p ∨ ⟨5, (r i).ep, (r i).pe, i⟩ ∈ p ∨ ⟨7, (r i).ep, (r i).pe, i⟩ ∈ p
theorem Pend.go {n : Int} {r r' : Int → Lg} {H H' : Int} {m : Ml} {p rs : List Ml} (P : Pend n r H (m :: p))
    (hc : ∀ i, 0 ≤ i → i < n → i ≠ H' → (r' i).ph = 3 → (i ≠ H ∧ r' i = r i ∧ m ≠ ⟨5, (r i).ep, i, (r i).pe⟩ ∧ m ≠ ⟨6, (r i).ep, (r i).pe, i⟩) ∨ ⟨5, (r' i).ep, i, (r' i).pe⟩ ∈ rs ∨ ⟨6, (r' i).ep, (r' i).pe, i⟩ ∈ rs)
    (hd : ∀ i, 0 ≤ i → i < n → (r' i).ph = 4 → (r' i = r i ∧ m ≠ ⟨4, (r i).ep, i, (r i).pe⟩ ∧ m ≠ ⟨5, (r i).ep, (r i).pe, i⟩ ∧ m ≠ ⟨7, (r i).ep, (r i).pe, i⟩) ∨ ⟨4, (r' i).ep, i, (r' i).pe⟩ ∈ rs ∨ ⟨5, (r' i).ep, (r' i).pe, i⟩ ∈ rs ∨ ⟨7, (r' i).ep, (r' i).pe, i⟩ ∈ rs) : Pend n r' H' (p ++ rs) := by
  constructor
  · intro i i0 iN h1 h2
    simp only [List.mem_append]
    rcases hc i i0 iN h1 h2 with ⟨a, b, c, d⟩ | h | h
    · rw [b] at h2 ⊢
      rcases P.c i i0 iN a h2 with h | h
      · rcases List.mem_cons.1 h with h | h
        · exact (c h.symm).elim
        · exact Or.inl (Or.inl h)
      · rcases List.mem_cons.1 h with h | h
        · exact (d h.symm).elim
        · exact Or.inr (Or.inl h)
    · exact Or.inl (Or.inr h)
    · exact Or.inr (Or.inr h)
  · intro i i0 iN h2
    simp only [List.mem_append]
    rcases hd i i0 iN h2 with ⟨b, c, d, e⟩ | h | h | h
    · rw [b] at h2 ⊢
      rcases P.d i i0 iN h2 with h | h | h
      · rcases List.mem_cons.1 h with h | h
        · exact (c h.symm).elim
        · exact Or.inl (Or.inl h)
      · rcases List.mem_cons.1 h with h | h
        · exact (d h.symm).elim
        · exact Or.inr (Or.inl (Or.inl h))
      · rcases List.mem_cons.1 h with h | h
        · exact (e h.symm).elim
        · exact Or.inr (Or.inr (Or.inl h))
    · exact Or.inl (Or.inr h)
    · exact Or.inr (Or.inl (Or.inr h))
    · exact Or.inr (Or.inr (Or.inr h))
/-- A message is heard: all is well, and what is begun is still spoken of. -/
def HG (w : Wd) (H : Int) (m : Ml) (full : Bool) (O : Int → Int → Int → Prop) : Prop := hearW w m full = (hearS w m full, true) ∧ Mono w (hearS w m full) ∧
  ∃ E' H' rs, Good (hearS w m full) E' H' O ∧ (hearS w m full).sent = w.sent ++ rs ∧ wts rs + 1 ≤ wt m.kd ∧ rs.length ≤ 1 ∧ ∀ p, Pend w.row.length (at0 w.row) H (m :: p) → Pend w.row.length (at0 (hearS w m full).row) H' (p ++ rs)
theorem hg_mk {w u : Wd} {m : Ml} {full : Bool} {E' H' : Int} (rs : List Ml) (h1 : hearW w m full = (u, true)) (h2 : hearS w m full = u) (h3 : Good u E' H' O) (h4 : Mono w u) (h5 : u.sent = w.sent ++ rs) (h6 : wts rs + 1 ≤ wt m.kd) (h6' : rs.length ≤ 1)
    (h7 : ∀ p, Pend w.row.length (at0 w.row) H (m :: p) → Pend w.row.length (at0 u.row) H' (p ++ rs)) : HG w H m full O := by
  unfold HG; rw [h2]; exact ⟨h1, h4, _, _, rs, h3, h5, h6, h6', h7⟩
theorem mono_send (w : Wd) (m : Ml) : Mono w (send w m) := ⟨rfl, fun _ => Int.le_refl _⟩
theorem send_row (w : Wd) (m : Ml) : (send w m).row = w.row := rfl
/-- What a hearing rests on. -/
structure Hr (w : Wd) (E H : Int) (O : Int → Int → Int → Prop) (e f t : Int) : Prop where
  g : Good w E H O
  t0 : 0 ≤ t
  tn : t < w.row.length
  f0 : 0 ≤ f
  fn : f < w.row.length
  ft : f ≠ t
  eE : e ≤ E
theorem Hr.v {e f t : Int} (h : Hr w E H O e f t) : Vl w.row.length t (at0 w.row t) := h.g.1.val t h.t0 h.tn
theorem Hr.sf {e f t : Int} (h : Hr w E H O e f t) : srvB f = true := by have := h.g.1.n8; have := h.f0; have := h.fn; simp [srvB]; omega
set_option maxHeartbeats 1000000 in
theorem hear3 {e f t : Int} (h : Hr w E H O e f t) (full : Bool) (a : O e f t) (b : e ≤ (at0 w.row f).ep) (c : e < 1073741824) : HG w H ⟨3, e, f, t⟩ full O := by
  have F := hearF_ok (k := 3) (e := e) (valid_of h.g.1.n8 h.t0 h.tn h.v) h.sf h.ft
  have v := h.v
  have g := h.g
  by_cases c1 : (at0 w.row t).ph = 4 ∧ (at0 w.row t).ep = e ∧ (at0 w.row t).pe = f
  · have hs : hears w ⟨3, e, f, t⟩ full = (0, 4) := by unfold hears; simp only [F]; simp [c1]
    refine hg_mk (E' := E) (H' := H) [⟨4, e, t, f⟩] (hearW_no h.t0 h.tn hs) (by unfold hearS; simp [c1]) ?_ ?_ (by simp [send, put]) (by simp [wts, wt]) (by simp) (by intro p P; refine P.go ?_ ?_ <;> (simp only [Int.reduceEq, reduceIte, send_row, at0_put h.t0 h.tn]; grind [upd]))
    · rw [if_neg (by decide)]
      exact g.send (Or.inr (Or.inl ⟨rfl, a, by simp only; omega, b⟩))
    · exact mono_send _ _
  · by_cases c2 : ((at0 w.row t).ph = 4 ∨ (at0 w.row t).ph = 0 ∨ (at0 w.row t).ph = 5) ∧ (at0 w.row t).ep < e ∧ e < 1073741824
    · cases full
      · have hs : hears w ⟨3, e, f, t⟩ false = (4, 4) := by unfold hears; simp only [F, if_neg c1, if_pos c2]; simp
        have st := step_install (re := e) (rp := f) g.1.n8 h.t0 h.tn v h.f0 h.fn (by omega) h.ft c2.2.1 c
        refine hg_mk (E' := E) (H' := H) [⟨4, e, t, f⟩] (hearW_take h.t0 h.tn hs (by decide) st) (by unfold hearS; dsimp only; rw [if_pos rfl, if_neg c1, if_pos (by omega)]; rfl) ?_ ?_ (by simp [send, put]) (by simp [wts, wt]) (by simp) (by intro p P; refine P.go ?_ ?_ <;> (simp only [Int.reduceEq, reduceIte, send_row, at0_put h.t0 h.tn]; grind [upd]))
        · rw [if_neg (by decide)]
          refine (g.put_install a b (by omega) c2.2.1 c).send (Or.inr (Or.inl ⟨rfl, a, ?_, ?_⟩))
          · rw [at0_put h.t0 h.tn]; simp only [upd_same]; exact Int.le_refl _
          · rw [at0_put h.t0 h.tn]; simp only; rw [upd_ne _ _ h.ft]; exact b
        · rw [if_neg (by decide)]
          exact (mono_put h.t0 h.tn (by simp only; omega)).trans (mono_send _ _)
      · have hs : hears w ⟨3, e, f, t⟩ true = (0, 8) := by unfold hears; simp only [F, if_neg c1, if_pos c2]; simp
        refine hg_mk (E' := E) (H' := H) [⟨8, e, t, f⟩] (hearW_no h.t0 h.tn hs) (by unfold hearS; dsimp only; rw [if_pos rfl, if_neg c1, if_pos (by omega)]; rfl) ?_ (mono_send _ _) (by simp [send, put]) (by simp [wts, wt]) (by simp) (by intro p P; refine P.go ?_ ?_ <;> (simp only [Int.reduceEq, reduceIte, send_row, at0_put h.t0 h.tn]; grind [upd]))
        rw [if_neg (by decide)]
        exact g.send (Or.inr (Or.inr (Or.inr (Or.inr (Or.inr ⟨rfl, a⟩)))))
    · have hs : hears w ⟨3, e, f, t⟩ full = (0, 0) := by unfold hears; simp only [F, if_neg c1, if_neg c2]; simp
      refine hg_mk (E' := E) (H' := H) [] (hearW_no h.t0 h.tn hs) (by unfold hearS; dsimp only; rw [if_pos rfl, if_neg c1, if_neg (by omega)]; rfl) g (Mono.refl _) (by simp [send, put]) (by simp [wts, wt]) (by simp) (by intro p P; refine P.go ?_ ?_ <;> (simp only [Int.reduceEq, reduceIte, send_row, at0_put h.t0 h.tn]; grind [upd]))
set_option maxHeartbeats 1000000 in
theorem hear4 {e f t : Int} (h : Hr w E H O e f t) (full : Bool) (a : O e t f) (b : e ≤ (at0 w.row f).ep) (c : e ≤ (at0 w.row t).ep) : HG w H ⟨4, e, f, t⟩ full O := by
  have F := hearF_ok (k := 4) (e := e) (valid_of h.g.1.n8 h.t0 h.tn h.v) h.sf h.ft
  have v := h.v
  have g := h.g
  by_cases c1 : (at0 w.row t).ep = e ∧ (at0 w.row t).pe = f ∧ (at0 w.row t).ph = 2
  · have hs : hears w ⟨4, e, f, t⟩ full = (5, 5) := by unfold hears; simp only [F, if_pos c1]; simp
    have st := step_commit (re := e) (rp := f) g.1.n8 h.t0 h.tn v c1.2.2
    have hH := g.1.i12 t h.t0 h.tn (Or.inr c1.2.2)
    have hE := g.1.hE
    refine hg_mk (E' := E) (H' := H) [⟨5, e, t, f⟩] (hearW_take h.t0 h.tn hs (by decide) st) (by unfold hearS; simp [c1]) ?_ ?_ (by simp [send, put]) (by simp [wts, wt]) (by simp) (by intro p P; refine P.go ?_ ?_ <;> (simp only [Int.reduceEq, reduceIte, send_row, at0_put h.t0 h.tn]; grind [upd]))
    · rw [if_neg (by decide)]
      have p := g.put_commit (by rw [← hH]; exact c1.2.2) (by rw [← hH, c1.2.1, ← hE, ← hH, c1.1]; exact b)
      have e1 : (⟨3, (at0 w.row t).ep, (at0 w.row t).pe⟩ : Lg) = ⟨3, E, (at0 w.row H).pe⟩ := by rw [← hE, ← hH]
      rw [e1]
      rw [← hH] at p ⊢
      refine p.send (Or.inr (Or.inr (Or.inl ⟨rfl, a, ?_, ?_⟩)))
      · rw [at0_put h.t0 h.tn]; simp only; rw [upd_ne _ _ h.ft]; exact b
      · intro _ _
        rw [at0_put h.t0 h.tn]; simp only; rw [upd_same]
        exact ⟨rfl, by rw [← hE, ← hH]; exact c1.1⟩
    · rw [if_neg (by decide)]
      exact (mono_put h.t0 h.tn (by simp only; exact Int.le_refl _)).trans (mono_send _ _)
  · by_cases c2 : (at0 w.row t).ep = e ∧ (at0 w.row t).pe = f ∧ (at0 w.row t).ph = 3
    · have hs : hears w ⟨4, e, f, t⟩ full = (0, 5) := by unfold hears; simp only [F, if_neg c1, if_pos c2]; simp
      refine hg_mk (E' := E) (H' := H) [⟨5, e, t, f⟩] (hearW_no h.t0 h.tn hs) (by unfold hearS; simp [c2]) ?_ (mono_send _ _) (by simp [send, put]) (by simp [wts, wt]) (by simp) (by intro p P; refine P.go ?_ ?_ <;> (simp only [Int.reduceEq, reduceIte, send_row, at0_put h.t0 h.tn]; grind [upd]))
      rw [if_neg (by decide)]
      exact g.send (Or.inr (Or.inr (Or.inl ⟨rfl, a, b, fun _ _ => ⟨c2.2.2, c2.1⟩⟩)))
    · by_cases c3 : e < (at0 w.row t).ep
      · have hs : hears w ⟨4, e, f, t⟩ full = (0, 7) := by unfold hears; simp only [F, if_neg c1, if_neg c2, if_pos c3]; simp
        refine hg_mk (E' := E) (H' := H) [⟨7, e, t, f⟩] (hearW_no h.t0 h.tn hs) (by unfold hearS; dsimp only; rw [if_neg (by decide), if_pos rfl, if_neg (by omega), if_neg (by omega), if_pos c3]; rfl) ?_ (mono_send _ _) (by simp [send, put]) (by simp [wts, wt]) (by simp) (by intro p P; refine P.go ?_ ?_ <;> (simp only [Int.reduceEq, reduceIte, send_row, at0_put h.t0 h.tn]; grind [upd]))
        rw [if_neg (by decide)]
        exact g.send (Or.inr (Or.inr (Or.inr (Or.inr (Or.inl ⟨rfl, a, c3⟩)))))
      · have hs : hears w ⟨4, e, f, t⟩ full = (0, 0) := by unfold hears; simp only [F, if_neg c1, if_neg c2, if_neg c3]; simp
        have i4 := g.1.i4 f h.f0 h.fn
        have tok := g.1.tok
        have hE := g.1.hE
        have uq := fun s p => g.1.uniq e t f s p a
        refine hg_mk (E' := E) (H' := H) [] (hearW_no h.t0 h.tn hs) (by unfold hearS; dsimp only; rw [if_neg (by decide), if_pos rfl, if_neg (by omega), if_neg (by omega), if_neg c3]; rfl) g (Mono.refl _) (by simp [send, put]) (by simp [wts, wt]) (by simp) (by intro p P; refine P.go ?_ ?_ <;> (simp only [Int.reduceEq, reduceIte, send_row, at0_put h.t0 h.tn]; grind [upd]))
set_option maxHeartbeats 1000000 in
theorem hear5 {e f t : Int} (h : Hr w E H O e f t) (full : Bool) (a : O e f t) (b : e ≤ (at0 w.row t).ep) (c : (at0 w.row t).ph = 4 → (at0 w.row t).ep = e → (at0 w.row f).ph = 3 ∧ (at0 w.row f).ep = e) : HG w H ⟨5, e, f, t⟩ full O := by
  have F := hearF_ok (k := 5) (e := e) (valid_of h.g.1.n8 h.t0 h.tn h.v) h.sf h.ft
  have v := h.v
  have g := h.g
  by_cases c1 : (at0 w.row t).ep = e ∧ (at0 w.row t).pe = f ∧ (at0 w.row t).ph = 4
  · have hs : hears w ⟨5, e, f, t⟩ full = (6, 6) := by unfold hears; simp only [F, if_pos c1]; simp
    have st := step_own (re := e) (rp := f) g.1.n8 h.t0 h.tn v c1.2.2
    have c' := c c1.2.2 c1.1
    have i4 := g.1.i4 t h.t0 h.tn
    have tok := g.1.tok
    have hE := g.1.hE
    have uq := fun s p => g.1.uniq e f t s p a
    have hfH : f = H := by rw [← c1.2.1]; exact ((i4 c1.2.2).2.2 (by rw [c1.2.1, c1.1]; exact c'.2)).1
    refine hg_mk (E' := E) (H' := t) [⟨6, e, t, f⟩] (hearW_take h.t0 h.tn hs (by decide) st) (by unfold hearS; simp [c1]) ?_ ?_ (by simp [send, put]) (by simp [wts, wt]) (by simp) (by intro p P; refine P.go ?_ ?_ <;> (simp only [Int.reduceEq, reduceIte, send_row, at0_put h.t0 h.tn]; grind [upd]))
    · rw [if_neg (by decide)]
      have p := g.put_own h.t0 h.tn c1.2.2 (by rw [c1.2.1]; exact c'.1) (by rw [c1.2.1, c1.1]; exact c'.2)
      refine p.send (Or.inr (Or.inr (Or.inr (Or.inl ⟨rfl, a, ?_, ?_⟩))))
      · rw [at0_put h.t0 h.tn]; simp only; rw [upd_same]; exact b
      · rw [at0_put h.t0 h.tn]; simp only; rw [upd_same]; simp
    · rw [if_neg (by decide)]
      exact (mono_put h.t0 h.tn (by simp only; exact Int.le_refl _)).trans (mono_send _ _)
  · by_cases c2 : (at0 w.row t).ep = e ∧ (at0 w.row t).ph = 4
    · exfalso
      have i4 := g.1.i4 t h.t0 h.tn c2.2
      rw [c2.1] at i4
      exact c1 ⟨c2.1, (g.1.uniq _ _ _ _ _ i4.1 a).1, c2.2⟩
    · have hs : hears w ⟨5, e, f, t⟩ full = (0, 6) := by unfold hears; simp only [F, if_neg c1, if_neg c2, if_pos b]; simp
      refine hg_mk (E' := E) (H' := H) [⟨6, e, t, f⟩] (hearW_no h.t0 h.tn hs) (by unfold hearS; dsimp only; rw [if_neg (by decide), if_neg (by decide), if_pos rfl, if_neg (by omega), if_neg (by omega)]; rfl) ?_ (mono_send _ _) (by simp [send, put]) (by simp [wts, wt]) (by simp) (by intro p P; refine P.go ?_ ?_ <;> (simp only [Int.reduceEq, reduceIte, send_row, at0_put h.t0 h.tn]; grind [upd]))
      rw [if_neg (by decide)]
      exact g.send (Or.inr (Or.inr (Or.inr (Or.inl ⟨rfl, a, b, by simp only; omega⟩))))
set_option maxHeartbeats 1000000 in
theorem hear6 {e f t : Int} (h : Hr w E H O e f t) (full : Bool) (a : O e t f) (b : e ≤ (at0 w.row f).ep) (c : ¬ ((at0 w.row f).ph = 4 ∧ (at0 w.row f).ep = e)) : HG w H ⟨6, e, f, t⟩ full O := by
  have F := hearF_ok (k := 6) (e := e) (valid_of h.g.1.n8 h.t0 h.tn h.v) h.sf h.ft
  have v := h.v
  have g := h.g
  by_cases c1 : (at0 w.row t).ep = e ∧ (at0 w.row t).pe = f ∧ (at0 w.row t).ph = 3
  · have hs : hears w ⟨6, e, f, t⟩ full = (7, 0) := by unfold hears; simp only [F, if_pos c1]; simp
    have st := step_release (re := e) (rp := f) g.1.n8 h.t0 h.tn v c1.2.2
    have hH : t ≠ H := by
      intro hh
      have tk := g.1.tok
      have hE := g.1.hE
      rw [← hh] at tk hE
      rw [c1.2.1] at tk
      exact c ⟨by omega, by omega⟩
    refine hg_mk (E' := E) (H' := H) [] (hearW_take h.t0 h.tn hs (by decide) st) (by unfold hearS; simp [c1]) (g.put_release h.t0 h.tn c1.2.2 hH) (mono_put h.t0 h.tn (Int.le_refl _)) (by simp [send, put]) (by simp [wts, wt]) (by simp) (by intro p P; refine P.go ?_ ?_ <;> (simp only [Int.reduceEq, reduceIte, send_row, at0_put h.t0 h.tn]; grind [upd]))
  · have hs : hears w ⟨6, e, f, t⟩ full = (0, 0) := by unfold hears; simp only [F, if_neg c1]; simp
    refine hg_mk (E' := E) (H' := H) [] (hearW_no h.t0 h.tn hs) (by unfold hearS; dsimp only; rw [if_neg (by decide), if_neg (by decide), if_neg (by decide), if_pos rfl, if_neg (by omega)]; rfl) g (Mono.refl _) (by simp [send, put]) (by simp [wts, wt]) (by simp) (by intro p P; refine P.go ?_ ?_ <;> (simp only [Int.reduceEq, reduceIte, send_row, at0_put h.t0 h.tn]; grind [upd]))
set_option maxHeartbeats 1000000 in
theorem hear7 {e f t : Int} (h : Hr w E H O e f t) (full : Bool) (a : O e f t) (b : e < (at0 w.row f).ep) : HG w H ⟨7, e, f, t⟩ full O := by
  have F := hearF_ok (k := 7) (e := e) (valid_of h.g.1.n8 h.t0 h.tn h.v) h.sf h.ft
  have v := h.v
  have g := h.g
  by_cases c1 : (at0 w.row t).ep = e ∧ (at0 w.row t).pe = f ∧ (at0 w.row t).ph = 4
  · have hs : hears w ⟨7, e, f, t⟩ full = (8, 0) := by unfold hears; simp only [F, if_pos c1]; simp
    have st := step_forget (re := e) (rp := f) g.1.n8 h.t0 h.tn v c1.2.2
    refine hg_mk (E' := E) (H' := H) [] (hearW_take h.t0 h.tn hs (by decide) st) (by unfold hearS; simp [c1]) (g.put_forget h.t0 h.tn c1.2.2 (by rw [c1.2.1, c1.1]; exact b)) (mono_put h.t0 h.tn (Int.le_refl _)) (by simp [send, put]) (by simp [wts, wt]) (by simp) (by intro p P; refine P.go ?_ ?_ <;> (simp only [Int.reduceEq, reduceIte, send_row, at0_put h.t0 h.tn]; grind [upd]))
  · have hs : hears w ⟨7, e, f, t⟩ full = (0, 0) := by unfold hears; simp only [F, if_neg c1]; simp
    refine hg_mk (E' := E) (H' := H) [] (hearW_no h.t0 h.tn hs) (by unfold hearS; dsimp only; rw [if_neg (by decide), if_neg (by decide), if_neg (by decide), if_neg (by decide), if_pos rfl, if_neg (by omega)]; rfl) g (Mono.refl _) (by simp [send, put]) (by simp [wts, wt]) (by simp) (by intro p P; refine P.go ?_ ?_ <;> (simp only [Int.reduceEq, reduceIte, send_row, at0_put h.t0 h.tn]; grind [upd]))
set_option maxHeartbeats 1000000 in
theorem hear8 {e f t : Int} (h : Hr w E H O e f t) (full : Bool) (a : O e t f) : HG w H ⟨8, e, f, t⟩ full O := by
  have F := hearF_ok (k := 8) (e := e) (valid_of h.g.1.n8 h.t0 h.tn h.v) h.sf h.ft
  have v := h.v
  have g := h.g
  by_cases c1 : (at0 w.row t).ep = e ∧ (at0 w.row t).pe = f ∧ (at0 w.row t).ph = 2
  · have hs : hears w ⟨8, e, f, t⟩ full = (3, 0) := by unfold hears; simp only [F, if_pos c1]; simp
    have st := step_cancel (re := e) (rp := f) g.1.n8 h.t0 h.tn v c1.2.2
    have hH := g.1.i12 t h.t0 h.tn (Or.inr c1.2.2)
    have hE := g.1.hE
    subst hH
    have p := g.put_cancel c1.2.2
    rw [← hE] at p
    refine hg_mk (E' := (at0 w.row t).ep + 1) (H' := t) [] (hearW_take h.t0 h.tn hs (by decide) st) (by unfold hearS; simp [c1]) p (mono_put h.t0 h.tn (by simp only; omega)) (by simp [send, put]) (by simp [wts, wt]) (by simp) (by intro p P; refine P.go ?_ ?_ <;> (simp only [Int.reduceEq, reduceIte, send_row, at0_put h.t0 h.tn]; grind [upd]))
  · have hs : hears w ⟨8, e, f, t⟩ full = (0, 0) := by unfold hears; simp only [F, if_neg c1]; simp
    refine hg_mk (E' := E) (H' := H) [] (hearW_no h.t0 h.tn hs) (by unfold hearS; dsimp only; rw [if_neg (by decide), if_neg (by decide), if_neg (by decide), if_neg (by decide), if_neg (by decide), if_neg (by omega)]; rfl) g (Mono.refl _) (by simp [send, put]) (by simp [wts, wt]) (by simp) (by intro p P; refine P.go ?_ ?_ <;> (simp only [Int.reduceEq, reduceIte, send_row, at0_put h.t0 h.tn]; grind [upd]))
/-- A message that was sent is heard: all is well. -/
theorem hear_good (g : Good w E H O) {m : Ml} (hm : m ∈ w.sent) (full : Bool) : HG w H m full O := by
  have k := g.2 m hm
  obtain ⟨kd, e, f, t⟩ := m
  have hO : O e f t ∨ O e t f := by unfold MsgOk at k; simp only at k; grind
  have h : Hr w E H O e f t := by
    rcases hO with h | h
    · have := g.1.off _ _ _ h; exact ⟨g, by omega, by omega, by omega, by omega, by omega, by omega⟩
    · have := g.1.off _ _ _ h; exact ⟨g, by omega, by omega, by omega, by omega, by omega, by omega⟩
  unfold MsgOk at k
  simp only at k
  rcases k with ⟨rfl, a, b, c⟩ | ⟨rfl, a, b, c⟩ | ⟨rfl, a, b, c⟩ | ⟨rfl, a, b, c⟩ | ⟨rfl, a, b⟩ | ⟨rfl, a⟩
  · exact hear3 h full a b c
  · exact hear4 h full a b c
  · exact hear5 h full a b c
  · exact hear6 h full a b c
  · exact hear7 h full a b
  · exact hear8 h full a
end
end Go.Proofs.Ytecdmbcdkfjgfaa
