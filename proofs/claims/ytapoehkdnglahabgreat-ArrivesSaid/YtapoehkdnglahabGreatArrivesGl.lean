/- A part of what Arrives needs. -/
import Derived.Test.YtapoehkdnglahabGreatArrivesGk
set_option maxHeartbeats 16000000
set_option linter.unusedVariables false
set_option linter.unusedSimpArgs false
set_option linter.unusedSectionVars false
namespace Go.Proofs.YtapoehkdnglahabGreat
section
structure Nd.Step (s t : Nd) (a b : Nat) : Prop where
  self : t.self = s.self
  now : t.now = s.now
  repl : t.out.replace = s.out.replace
  frames : t.out.frames.length ≤ s.out.frames.length + a
  came : t.out.came.length ≤ s.out.came.length + a
  dropped : t.out.dropped.length ≤ s.out.dropped.length + a
  wr : ∃ W : List Rec, W.length ≤ b ∧ t.recs = s.recs ++ W ∧ t.out.journal = s.out.journal ++ recsB W
theorem Nd.Step.zero {s t : Nd} (h1 : t.self = s.self) (h2 : t.now = s.now) (h3 : t.out = s.out) (h4 : t.recs = s.recs) : s.Step t 0 0 := ⟨h1, h2, by rw [h3], by rw [h3]; omega, by rw [h3]; omega, by rw [h3]; omega, [], by simp, by simp [h4], by simp [h3, recsB]⟩
theorem Nd.Step.trans {s t u : Nd} {a b c d : Nat} (h : s.Step t a b) (g : t.Step u c d) : s.Step u (a + c) (b + d) := by
 obtain ⟨W, w1, w2, w3⟩ := h.wr
 obtain ⟨V, v1, v2, v3⟩ := g.wr
 refine ⟨g.self.trans h.self, g.now.trans h.now, g.repl.trans h.repl, ?_, ?_, ?_, W ++ V, by simp; omega, by rw [v2, w2, List.append_assoc], by rw [v3, w3]; simp [recsB]⟩
 ·have := h.frames; have := g.frames; omega
 ·have := h.came; have := g.came; omega
 ·have := h.dropped; have := g.dropped; omega
theorem Nd.Step.le {s t : Nd} {a b c d : Nat} (h : s.Step t a b) (h1 : a ≤ c) (h2 : b ≤ d) : s.Step t c d := by
 obtain ⟨W, w1, w2, w3⟩ := h.wr
 exact ⟨h.self, h.now, h.repl, by have := h.frames; omega, by have := h.came; omega, by have := h.dropped; omega, W, by omega, w2, w3⟩
theorem recsB_length (l : List Rec) : (recsB l).length = 13 * l.length := by
 unfold recsB
 exact recBytes_length l
theorem Nd.Step.recs {s t : Nd} {a b : Nat} (h : s.Step t a b) : t.recs.length ≤ s.recs.length + b := by
 obtain ⟨W, w1, w2, w3⟩ := h.wr
 rw [w2]; simp; omega
theorem Nd.Step.journal {s t : Nd} {a b : Nat} (h : s.Step t a b) : t.out.journal.length ≤ s.out.journal.length + 13 * b := by
 obtain ⟨W, w1, w2, w3⟩ := h.wr
 rw [w3, List.length_append, recsB_length]; omega
theorem Nd.Step.fit {s t : Nd} {a b k : Nat} (h : s.Step t a b) (h1 : s.out.frames.length + a + k ≤ 800000) (h2 : s.out.came.length + a + k ≤ 800000) (h3 : s.out.dropped.length + a + k ≤ 800000) (h4 : s.recs.length + b + 9 * k ≤ 400000) (h5 : s.out.journal.length + 13 * b + 120 * k ≤ 800000) : t.Fit k := by
 have := h.frames; have := h.came; have := h.dropped; have := h.recs; have := h.journal
 constructor <;> omega
theorem Nd.Step.write (s : Nd) (r : Rec) : s.Step (s.write r) 0 1 := ⟨rfl, rfl, rfl, Nat.le_refl _, Nat.le_refl _, Nat.le_refl _, [r], by simp, rfl, by simp [Nd.write, recsB]⟩
theorem Nd.Step.noteL (s : Nd) (l : Ln) : s.Step (s.noteL l) 0 1 := by
  unfold Nd.noteL
  repeat' split
  all_goals first | exact Nd.Step.write _ _ | exact (Nd.Step.zero rfl rfl rfl rfl).le (by omega) (by omega)
theorem Nd.Step.noteO (s : Nd) : s.Step s.noteO 0 1 := by
 unfold Nd.noteO
 split
 ·exact Nd.Step.write _ _
 ·exact (Nd.Step.zero rfl rfl rfl rfl).le (by omega) (by omega)
theorem Nd.Step.noteLs (L : List Ln) : ∀ s : Nd, s.Step (L.foldl Nd.noteL s) 0 L.length := by
 induction L with
 | nil => intro s; exact Nd.Step.zero rfl rfl rfl rfl
 | cons l L ih => intro s; exact ((Nd.Step.noteL s l).trans (ih _)).le (by omega) (by simp only [List.length_cons]; omega)
theorem Nd.Step.note (s : Nd) : s.Step s.note 0 (1 + (listT s.ls).length) := ((Nd.Step.noteO s).trans (Nd.Step.noteLs _ _)).le (by omega) (Nat.le_refl _)
theorem Nd.Step.send (s : Nd) (to : UInt32) (p : Pk) : s.Step (s.send to p) 1 0 := ⟨rfl, rfl, rfl, by simp [Nd.send], by simp [Nd.send], by simp [Nd.send], [], by simp, by simp [Nd.send], by simp [Nd.send, recsB]⟩
theorem Nd.Step.drop (s : Nd) (r : Int) : s.Step (s.drop r) 1 0 := ⟨rfl, rfl, rfl, by simp [Nd.drop], by simp [Nd.drop], by simp [Nd.drop], [], by simp, by simp [Nd.drop], by simp [Nd.drop, recsB]⟩
theorem Nd.Step.came_ (s : Nd) (x : UInt32 × Str) : s.Step (s.came x) 1 0 := ⟨rfl, rfl, rfl, by simp [Nd.came], by simp [Nd.came], by simp [Nd.came], [], by simp, by simp [Nd.came], by simp [Nd.came, recsB]⟩
theorem Nd.Step.ls (s : Nd) (l : List Ln) : s.Step { s with ls := l } 0 0 := Nd.Step.zero rfl rfl rfl rfl
theorem Nd.Step.remember (s : Nd) (r : Rq) : s.Step (s.remember r) 0 0 := by
 obtain ⟨_, h1, h2, h3, h4⟩ := s.remember_eqs r
 exact Nd.Step.zero h1 h2 h3 h4
theorem Nd.Step.hand (s : Nd) (d : UInt32) (t : Str) : s.Step (s.hand d t) 1 0 := by
 unfold Nd.hand
 split
 ·exact (Nd.Step.zero rfl rfl rfl rfl).le (by omega) (by omega)
 ·have h0 : s.Step { s with datas := s.datas + 1 } 0 0 := Nd.Step.zero rfl rfl rfl rfl
  have h1 := fun to p => h0.trans (Nd.Step.send { s with datas := s.datas + 1 } to p)
  exact ((h1 _ _).trans (Nd.Step.ls _ _)).le (Nat.le_refl _) (Nat.le_refl _)
theorem Nd.Step.handAll (s : Nd) (d : UInt32) (l : List Str) : s.Step (s.handAll d l) l.length 0 := by
 induction l using snocInd with
 | nil => exact Nd.Step.zero rfl rfl rfl rfl
 | snoc l t ih => rw [Nd.handAll_snoc]; exact (ih.trans (Nd.Step.hand _ _ _)).le (by simp) (by omega)
theorem Nd.Step.flush (s : Nd) (d : UInt32) : s.Step (s.flush d) (s.texts d).length 0 := by
 unfold Nd.flush
 simp only
 have h1 := Nd.Step.handAll s d (s.texts d)
 split
 ·exact (h1.trans (Nd.Step.zero (t := Nd.stop ((s.handAll d (s.texts d)).unwait d) _) rfl rfl rfl rfl)).le (by omega) (by omega)
 ·exact (h1.trans (Nd.Step.zero (t := (s.handAll d (s.texts d)).unwait d) rfl rfl rfl rfl)).le (by omega) (by omega)
theorem Nd.Step.drops (s : Nd) (n : Nat) (k : Int) : s.Step (s.drops n k) n 0 := ⟨rfl, rfl, rfl, by simp [Nd.drops], by simp [Nd.drops], by simp [Nd.drops], [], by simp, by simp [Nd.drops], by simp [Nd.drops, recsB]⟩
theorem Nd.Step.arm (s : Nd) (k : Int) (w : UInt64) : s.Step (s.arm k w) 0 0 := Nd.Step.zero rfl rfl rfl rfl
theorem Nd.Step.ask1 (s : Nd) (x : Sr) : s.Step (s.ask1 x) 1 (1 + (listT s.ls).length) := by
 unfold Nd.ask1
 simp only
 have h0 : s.Step { s with seq := growS s.seq } 0 0 := Nd.Step.zero rfl rfl rfl rfl
 have h1 := h0.trans (Nd.Step.note _)
 generalize Nd.note { s with seq := growS s.seq } = t at *
 have h2 : t.Step { t with ids := t.ids + 1, sent := trimS (t.sent ++ [t.now]) } 0 0 := Nd.Step.zero rfl rfl rfl rfl
 have h3 := h1.trans h2
 generalize ({ t with ids := t.ids + 1, sent := trimS (t.sent ++ [t.now]) } : Nd) = u at *
 exact ((h3.trans (Nd.Step.send u _ _)).trans (Nd.Step.remember _ _)).le (by omega) (by simp only; omega)
theorem Nd.Step.ask (s : Nd) (k : Nat) (x : Sr) : s.Step (s.ask k x) 1 (1 + (listT s.ls).length) := by
 unfold Nd.ask
 have h0 : ∀ b, s.Step (s.setOut k b) 0 0 := fun _ => Nd.Step.zero rfl rfl rfl rfl
 split
 ·exact ((h0 _).trans ((Nd.Step.drop _ _).trans (Nd.Step.arm _ _ _))).le (by omega) (by omega)
 ·split
  ·exact ((h0 _).trans ((Nd.Step.drop _ _).trans (Nd.Step.arm _ _ _))).le (by omega) (by omega)
  ·exact ((h0 _).trans ((Nd.Step.ask1 _ _).trans (Nd.Step.arm _ _ _))).le (by omega) (by simp only [Nd.setOut]; omega)
theorem Nd.Step.answer (s : Nd) (p : Pk) : s.Step (s.answer p) 1 0 := by
 unfold Nd.answer
 split
 ·exact Nd.Step.send _ _ _
 ·exact Nd.Step.drop _ _
theorem Nd.Step.req3 (s : Nd) (p : Pk) : s.Step (s.req3 p) 1 0 := by
 unfold Nd.req3
 split
 ·exact Nd.Step.drop _ _
 ·split <;> exact Nd.Step.send _ _ _
theorem Nd.Step.req2 (s : Nd) (p : Pk) : s.Step (s.req2 p) 1 0 := by
 unfold Nd.req2
 split
 ·have h0 : ∀ q, s.Step { s with seq := q } 0 0 := fun _ => Nd.Step.zero rfl rfl rfl rfl
  exact ((h0 _).trans (Nd.Step.answer _ _)).le (by omega) (by omega)
 ·split
  ·split
   ·exact ((Nd.Step.ls _ _).trans (Nd.Step.answer _ _)).le (by omega) (by omega)
   ·exact Nd.Step.req3 _ _
  ·exact Nd.Step.req3 _ _
theorem Nd.Step.req (s : Nd) (src : UInt32) (p : Pk) : s.Step (s.req src p) 1 0 := by
 unfold Nd.req
 split
 ·exact Nd.Step.drop _ _
 ·simp only
  split
  ·exact ((Nd.Step.remember s _).trans ((Nd.Step.ls _ _).trans (Nd.Step.drop _ _))).le (by omega) (by omega)
  ·exact ((Nd.Step.remember s _).trans ((Nd.Step.ls _ _).trans (Nd.Step.req2 _ _))).le (by omega) (by omega)
theorem Nd.Step.lost (s : Nd) (l : List (UInt32 × UInt32)) : s.Step (s.lost l) 1 0 := by
 unfold Nd.lost
 split
 ·exact Nd.Step.send _ _ _
 ·exact (Nd.Step.zero rfl rfl rfl rfl).le (by omega) (by omega)
theorem Nd.Step.los (s : Nd) (src : UInt32) (p : Pk) : s.Step (s.los src p) 2 0 := by
 unfold Nd.los
 simp only
 split
 ·exact ((Nd.Step.ls _ _).trans (Nd.Step.lost _ _)).le (by omega) (by omega)
 ·exact ((Nd.Step.ls _ _).trans ((Nd.Step.lost _ _).trans (Nd.Step.drop _ _))).le (by omega) (by omega)
theorem Nd.Step.tell (s : Nd) (a b c : UInt32) : s.Step (s.tell a b c) 1 0 := Nd.Step.send _ _ _
theorem Nd.Step.dat (s : Nd) (src : UInt32) (p : Pk) : s.Step (s.dat src p) 2 0 := by
 unfold Nd.dat
 split
 ·exact (Nd.Step.came_ _ _).le (by omega) (by omega)
 ·split
  ·exact (Nd.Step.drop _ _).le (by omega) (by omega)
  ·split
   ·exact ((Nd.Step.drop _ _).trans ((Nd.Step.ls _ _).trans (Nd.Step.tell _ _ _ _))).le (by omega) (by omega)
   ·exact ((Nd.Step.send _ _ _).trans (Nd.Step.ls _ _)).le (by omega) (by omega)
theorem Nd.Step.brk (s : Nd) (nb : UInt32) : s.Step (s.brk nb) 1 0 := ((Nd.Step.ls _ _).trans (Nd.Step.lost _ _)).le (by omega) (by omega)
theorem Nd.texts_ls (s : Nd) (l : List Ln) (d : UInt32) : Nd.texts { s with ls := l } d = s.texts d := rfl
theorem Nd.Step.rep (s : Nd) (src : UInt32) (p : Pk) : s.Step (s.rep src p) ((s.texts p.dest).length + 1) 0 := by
 unfold Nd.rep
 split
 ·exact (Nd.Step.drop _ _).le (by omega) (by omega)
 ·simp only
  split
  ·exact ((Nd.Step.ls _ _).trans (Nd.Step.drop _ _)).le (by omega) (by omega)
  ·split
   ·have h1 : ∀ l : List Ln, s.Step (if (lookT l p.dest s.now).isSome then Nd.flush { s with ls := l } p.dest else { s with ls := l }) (s.texts p.dest).length 0 := fun l => by
     split
     ·exact ((Nd.Step.ls s l).trans (Nd.Step.flush _ _)).le (by rw [Nd.texts_ls]; omega) (by omega)
     ·exact (Nd.Step.ls s l).le (by omega) (by omega)
    split
    ·exact ((h1 _).trans (Nd.Step.drop _ _)).le (by omega) (by omega)
    ·exact (h1 _).le (by omega) (by omega)
   ·split
    ·split <;> exact ((Nd.Step.ls _ _).trans (Nd.Step.drop _ _)).le (by omega) (by omega)
    ·split
     ·exact ((Nd.Step.ls _ _).trans (Nd.Step.drop _ _)).le (by omega) (by omega)
     ·exact ((Nd.Step.ls _ _).trans ((Nd.Step.send _ _ _).trans (Nd.Step.ls _ _))).le (by omega) (by omega)
theorem Nd.Step.handle (s : Nd) (src : UInt32) (p : Pk) : s.Step (s.handle src p) ((s.texts p.dest).length + 2) 0 := by
  unfold Nd.handle
  repeat' split
  · exact (Nd.Step.req _ _ _).le (by omega) (by omega)
  · exact (Nd.Step.rep _ _ _).le (by omega) (by omega)
  · exact (Nd.Step.los _ _ _).le (by omega) (by omega)
  · exact (Nd.Step.dat _ _ _).le (by omega) (by omega)
end

section
structure LnsOk (me : UInt32) (ls : List Ln) : Prop where
  tab : TabOk ls
  line : ∀ l ∈ ls, l.dest ≠ me ∧ (l.valid = false → l.before = [])
theorem mem_lmod {ls : List Ln} {d : UInt32} {f : Ln → Ln} {x : Ln} (h : x ∈ lmod ls d f) : x ∈ ls ∨ ∃ l ∈ ls, x = f l := by
 cases hf : lfind ls d with
 | none => rw [lmod, hf] at h; exact .inl h
 | some i =>
  obtain ⟨l, hl, _⟩ := lfind_some hf
  rw [lmod_some hf hl] at h
  rcases List.mem_or_eq_of_mem_set h with h | rfl
  ·exact .inl h
  ·exact .inr ⟨l, List.mem_of_getElem? hl, rfl⟩
theorem dests_set {ls : List Ln} {i : Nat} {l x : Ln} (hl : ls[i]? = some l) (hd : x.dest = l.dest) : dests (ls.set i x) = dests ls := by
 obtain ⟨hlt, he⟩ := List.getElem?_eq_some_iff.1 hl
 unfold dests
 rw [List.map_set, hd, ← he]
 apply List.ext_getElem?
 intro k
 rw [List.getElem?_set]
 split
 ·rename_i hk; subst hk; simp [hlt]
 ·rfl
theorem dests_lmod {ls : List Ln} {d : UInt32} {f : Ln → Ln} (hd : ∀ l ∈ ls, (f l).dest = l.dest) : dests (lmod ls d f) = dests ls := by
 cases hf : lfind ls d with
 | none => rw [lmod, hf]
 | some i =>
  obtain ⟨l, hl, _⟩ := lfind_some hf
  rw [lmod_some hf hl]
  exact dests_set hl (hd l (List.mem_of_getElem? hl))
theorem dests_use (ls : List Ln) (d : UInt32) (e : UInt64) : dests (useT ls d e) = dests ls := dests_lmod fun l _ => by split <;> rfl
theorem dests_bef (ls : List Ln) (d nb : UInt32) : dests (befT ls d nb) = dests ls := dests_lmod fun l _ => by split <;> rfl
theorem dests_bump (ls : List Ln) (d : UInt32) : dests (bumpT ls d) = dests ls := dests_lmod fun l _ => rfl
theorem dests_lose (ls : List Ln) (a d s : UInt32) : dests (loseT ls a d s) = dests ls := dests_lmod fun l _ => by split <;> rfl
theorem dests_map {ls : List Ln} {f : Ln → Ln} (hd : ∀ l ∈ ls, (f l).dest = l.dest) : dests (ls.map f) = dests ls := by
 unfold dests
 rw [List.map_map]
 exact List.map_congr_left hd
theorem dests_exp (now : UInt64) (ls : List Ln) : dests (expT now ls) = dests ls := dests_map fun l _ => by unfold Ln.exp; split <;> rfl
theorem dests_brk (nb : UInt32) (ls : List Ln) : dests (brkT nb ls) = dests ls := dests_map fun l _ => by unfold Ln.brk; split <;> rfl
theorem dests_put (ls : List Ln) (x : Ln) : ∀ d ∈ dests ls, d ∈ dests (putT ls x) := by
 intro d hd
 unfold putT
 cases hf : lfind ls x.dest with
 | some i =>
  obtain ⟨l, hl, he⟩ := lfind_some hf
  rw [dests_set hl he.symm]; exact hd
 | none => simp only [dests, List.map_append] at hd ⊢; exact List.mem_append_left _ hd
theorem dests_upd (self : UInt32) (ls : List Ln) (x : Ln) : ∀ d ∈ dests ls, d ∈ dests (updT self ls x).2 := by
  intro d hd
  unfold updT
  repeat' split
  all_goals first | exact hd | exact dests_put _ _ d hd
section
variable {self : UInt32} {ls : List Ln}
theorem LnsOk.mod (h : LnsOk self ls) {d : UInt32} {f : Ln → Ln} (ht : TabOk (lmod ls d f)) (hd : ∀ l ∈ ls, (f l).dest = l.dest) (hv : ∀ l ∈ ls, (l.valid = false → l.before = []) → (f l).valid = false → (f l).before = []) : LnsOk self (lmod ls d f) := ⟨ht, fun x hx => by
 rcases mem_lmod hx with hx | ⟨l, hl, rfl⟩
 ·exact h.line x hx
 ·exact ⟨by rw [hd l hl]; exact (h.line l hl).1, hv l hl (h.line l hl).2⟩⟩
theorem LnsOk.use (h : LnsOk self ls) (d : UInt32) (e : UInt64) : LnsOk self (useT ls d e) := h.mod (h.tab.use d e) (fun l _ => by split <;> rfl) (fun l _ k => by split <;> simp_all)
theorem LnsOk.bef (h : LnsOk self ls) (d nb : UInt32) : LnsOk self (befT ls d nb) := h.mod (h.tab.bef d nb) (fun l _ => by split <;> rfl) (fun l _ k => by split <;> simp_all)
theorem LnsOk.bump (h : LnsOk self ls) (d : UInt32) : LnsOk self (bumpT ls d) := h.mod (h.tab.bump d) (fun l _ => rfl) (fun l _ k => k)
theorem LnsOk.lose (h : LnsOk self ls) (a d s : UInt32) : LnsOk self (loseT ls a d s) := h.mod (h.tab.lose a d s) (fun l _ => by split <;> rfl) (fun l _ k => by split <;> simp_all [Ln.ended])
theorem LnsOk.map {f : Ln → Ln} (h : LnsOk self ls) (ht : TabOk (ls.map f)) (hd : ∀ l ∈ ls, (f l).dest = l.dest) (hv : ∀ l ∈ ls, (l.valid = false → l.before = []) → (f l).valid = false → (f l).before = []) : LnsOk self (ls.map f) := ⟨ht, fun x hx => by
 obtain ⟨l, hl, rfl⟩ := List.mem_map.1 hx
 exact ⟨by rw [hd l hl]; exact (h.line l hl).1, hv l hl (h.line l hl).2⟩⟩
theorem LnsOk.exp (h : LnsOk self ls) (now : UInt64) : LnsOk self (expT now ls) := h.map (h.tab.exp now) (fun l _ => by unfold Ln.exp; split <;> rfl) (fun l _ k => by unfold Ln.exp; split <;> simp_all [Ln.ended])
theorem LnsOk.brk (h : LnsOk self ls) (nb : UInt32) : LnsOk self (brkT nb ls) := h.map (h.tab.brk nb) (fun l _ => by unfold Ln.brk; split <;> rfl) (fun l _ k => by unfold Ln.brk; split <;> simp_all [Ln.ended])
theorem LnsOk.put (h : LnsOk self ls) {x : Ln} (ht : TabOk (putT ls x)) (hx : x.dest ≠ self) (hb : x.valid = false → x.before = []) : LnsOk self (putT ls x) := ⟨ht, fun y hy => by
 unfold putT at hy
 split at hy
 ·rcases List.mem_or_eq_of_mem_set hy with hy | rfl
  ·exact h.line y hy
  ·exact ⟨hx, hb⟩
 ·rcases List.mem_append.1 hy with hy | hy
  ·exact h.line y hy
  ·simp at hy; subst hy; exact ⟨hx, hb⟩⟩
theorem LnsOk.upd (h : LnsOk self ls) (x : Ln) (h1 : 0 ≤ x.hops ∧ x.hops ≤ 1000) : LnsOk self (updT self ls x).2 := by
 have ht := h.tab.upd self x h1
 unfold updT at ht ⊢
 split
 ·exact h
 ·rename_i hc
  rw [if_neg hc] at ht
  cases hg : lget ls x.dest with
  | some l =>
   simp only [hg] at ht ⊢
   split
   ·exact h
   ·rename_i h2
    rw [if_neg h2] at ht
    exact h.put ht (fun e => hc (.inl e)) (fun e => by cases e)
  | none =>
   simp only [hg] at ht ⊢
   split
   ·exact h
   ·rename_i h2
    rw [if_neg h2] at ht
    exact h.put ht (fun e => hc (.inl e)) (fun e => by cases e)
theorem LnsOk.loseAll (h : LnsOk self ls) (src : UInt32) (l : List (UInt32 × UInt32)) : LnsOk self (loseAll src ls l).1 ∧ dests (Go.Proofs.YtapoehkdnglahabGreat.loseAll src ls l).1 = dests ls := by
 induction l using snocInd with
 | nil => exact ⟨h, rfl⟩
 | snoc l x ih =>
  rw [loseAll_snoc]
  exact ⟨ih.1.lose _ _ _, by show dests (loseT _ _ _ _) = _; rw [dests_lose, ih.2]⟩
theorem LnsOk.nil : LnsOk self [] := ⟨TabOk.nil, fun l h => by cases h⟩
theorem LnsOk.new (self : UInt32) (c : List Rec) : LnsOk self (newT self c) := by
 induction c using snocInd with
 | nil => exact LnsOk.nil
 | snoc c r ih =>
  have ht := TabOk.new self (c ++ [r])
  rw [newT_snoc] at ht ⊢
  unfold newStep at ht ⊢
  split
  ·rename_i hc
   rw [if_pos hc] at ht
   exact ih.put ht (by simp only [Rec.ln]; exact hc.2.1) (fun _ => rfl)
  ·exact ih
end
structure Nd.Inv (s : Nd) : Prop where
  tab : LnsOk s.self s.ls
  sr : SrOk s
  order : s.order.length ≤ 16
  wait : ∀ w ∈ s.wait, w.2.length ≤ 4 ∧ ∀ t ∈ w.2, t.length ≤ 16
  sent : s.sent.length ≤ 5
  recs : ∀ r ∈ s.recs, r.own = true ∨ r.addr ∈ dests s.ls
theorem Nd.Inv.to {s t : Nd} (h : s.Inv) (h1 : LnsOk t.self t.ls) (h2 : t.srs = s.srs) (h3 : t.names = s.names) (h4 : t.order.length ≤ 16) (h5 : t.wait = s.wait) (h6 : t.sent.length ≤ 5) (h7 : t.recs = s.recs) (h8 : ∀ d ∈ dests s.ls, d ∈ dests t.ls) : t.Inv :=
 ⟨h1, ⟨by rw [h2]; exact h.sr.dests, by rw [h2]; exact h.sr.names, by rw [h2, h3]; exact h.sr.each⟩, h4, by rw [h5]; exact h.wait, h6, fun r hr => by rw [h7] at hr; rcases h.recs r hr with h | h; exact .inl h; exact .inr (h8 _ h)⟩
theorem Nd.Inv.out {s : Nd} (h : s.Inv) (o : OutD) : Nd.Inv { s with out := o } := h.to h.tab rfl rfl h.order rfl h.sent rfl (fun _ h => h)
theorem Nd.Inv.ls {s : Nd} (h : s.Inv) {l : List Ln} (h1 : LnsOk s.self l) (h2 : ∀ d ∈ dests s.ls, d ∈ dests l) : Nd.Inv { s with ls := l } := h.to h1 rfl rfl h.order rfl h.sent rfl h2
theorem Nd.Inv.send {s : Nd} (h : s.Inv) (to : UInt32) (p : Pk) : (s.send to p).Inv := h.out _
theorem Nd.Inv.drop {s : Nd} (h : s.Inv) (r : Int) : (s.drop r).Inv := h.out _
theorem Nd.Inv.write {s : Nd} (h : s.Inv) (r : Rec) (hr : r.own = true ∨ r.addr ∈ dests s.ls) : (s.write r).Inv := ⟨h.tab, ⟨h.sr.dests, h.sr.names, h.sr.each⟩, h.order, h.wait, h.sent, fun x hx => by
 rcases List.mem_append.1 hx with hx | hx
 ·exact h.recs x hx
 ·simp at hx; subst hx; exact hr⟩
theorem Nd.Inv.noteL {s : Nd} (h : s.Inv) (l : Ln) (hl : l.dest ∈ dests s.ls) : (s.noteL l).Inv := by
  unfold Nd.noteL
  repeat' split
  all_goals first | exact h.write _ (.inr hl) | exact h
theorem Nd.Inv.noteLs (L : List Ln) : ∀ {s : Nd}, s.Inv → (∀ l ∈ L, l.dest ∈ dests s.ls) → (L.foldl Nd.noteL s).Inv := by
 induction L with
 | nil => intro s h _; exact h
 | cons l L ih => intro s h hl; exact ih (h.noteL l (hl l (by simp))) (fun x hx => by rw [Nd.noteL_ls]; exact hl x (by simp [hx]))
theorem Nd.Inv.noteO {s : Nd} (h : s.Inv) : s.noteO.Inv := by
 unfold Nd.noteO
 split
 ·exact h.write _ (.inl rfl)
 ·exact h
theorem listT_mem' {ls : List Ln} {l : Ln} (h : l ∈ listT ls) : l ∈ ls := by
 unfold listT at h
 obtain ⟨d, _, hd⟩ := List.mem_filterMap.1 h
 unfold lget at hd
 cases hf : lfind ls d with
 | none => rw [hf] at hd; cases hd
 | some i => rw [hf] at hd; exact List.mem_of_getElem? hd
theorem Nd.Inv.note {s : Nd} (h : s.Inv) : s.note.Inv := Nd.Inv.noteLs _ h.noteO fun l hl => by
 rw [Nd.noteO_ls]
 exact List.mem_map_of_mem (listT_mem' hl)
theorem Nd.Inv.remember {s : Nd} (h : s.Inv) (r : Rq) : (s.remember r).Inv := by
 have hl := remAll_length s.now s.seen s.order
 have ho := h.order
 unfold Nd.remember
 dsimp only
 split
 ·rename_i h1
  exact h.to h.tab rfl rfl h1 rfl h.sent rfl (fun _ h => h)
 ·refine h.to h.tab rfl rfl ?_ rfl h.sent rfl (fun _ h => h)
  rename_i h1
  generalize hq : firstOf _ _ _ = i
  have hi : i < ((remAll s.now s.seen s.order).2 ++ [r]).length := by rw [← hq]; exact firstOf_lt _ _ _ (Nat.le_refl _) (by simp)
  simp only [List.length_append, List.length_cons, List.length_nil, List.length_take, List.length_drop] at *
  omega
theorem Nd.Inv.hand {s : Nd} (h : s.Inv) (d : UInt32) (t : Str) : (s.hand d t).Inv := by
 unfold Nd.hand
 split
 ·exact h
 ·exact h.to (h.tab.use _ _) rfl rfl h.order rfl h.sent rfl (fun x hx => by rw [dests_use]; exact hx)
theorem Nd.Inv.handAll {s : Nd} (h : s.Inv) (d : UInt32) (l : List Str) : (s.handAll d l).Inv := by
 induction l using snocInd with
 | nil => exact h
 | snoc l t ih => rw [Nd.handAll_snoc]; exact ih.hand _ _
theorem Nd.Inv.unwait {s : Nd} (h : s.Inv) (d : UInt32) : (s.unwait d).Inv := ⟨h.tab, ⟨h.sr.dests, h.sr.names, h.sr.each⟩, h.order, fun w hw => h.wait w ((mdel_sublist s.wait d).subset hw), h.sent, h.recs⟩
theorem Nd.Inv.stop {s : Nd} (h : s.Inv) (k : Nat) : (s.stop k).Inv := ⟨h.tab, ⟨h.sr.dests.sublist ((List.eraseIdx_sublist _ _).map _), h.sr.names.sublist ((List.eraseIdx_sublist _ _).map _), fun x hx => h.sr.each x ((List.eraseIdx_sublist _ _).subset hx)⟩, h.order, h.wait, h.sent, h.recs⟩
theorem Nd.Inv.flush {s : Nd} (h : s.Inv) (d : UInt32) : (s.flush d).Inv := by
 unfold Nd.flush
 simp only
 split
 ·exact ((h.handAll _ _).unwait _).stop _
 ·exact (h.handAll _ _).unwait _
theorem Nd.Inv.setSr {s : Nd} (h : s.Inv) {k : Nat} {x y : Sr} (hx : s.srs[k]? = some x) (h1 : y.dest = x.dest) (h2 : y.name = x.name) (h3 : 0 ≤ y.ttl ∧ y.ttl ≤ 8 ∧ 0 ≤ y.retries ∧ y.retries ≤ 2) : Nd.Inv { s with srs := s.srs.set k y } := by
 obtain ⟨hlt, he⟩ := List.getElem?_eq_some_iff.1 hx
 have e1 : (s.srs.set k y).map (·.dest) = s.srs.map (·.dest) := by
  rw [List.map_set, h1, ← he]
  apply List.ext_getElem?
  intro j; rw [List.getElem?_set]; split
  ·rename_i e; subst e; simp [hlt]
  ·rfl
 have e2 : (s.srs.set k y).map (·.name) = s.srs.map (·.name) := by
  rw [List.map_set, h2, ← he]
  apply List.ext_getElem?
  intro j; rw [List.getElem?_set]; split
  ·rename_i e; subst e; simp [hlt]
  ·rfl
 refine ⟨h.tab, ⟨by show ((s.srs.set k y).map _).Nodup; rw [e1]; exact h.sr.dests, by show ((s.srs.set k y).map _).Nodup; rw [e2]; exact h.sr.names, fun z hz => ?_⟩, h.order, h.wait, h.sent, h.recs⟩
 rcases List.mem_or_eq_of_mem_set hz with hz | rfl
 ·exact h.sr.each z hz
 ·have := (h.sr.each x (List.mem_of_getElem? hx)).2.2.2.2
  exact ⟨h3.1, h3.2.1, h3.2.2.1, h3.2.2.2, by rw [h2]; exact this⟩
theorem Nd.Inv.setOut {s : Nd} (h : s.Inv) {k : Nat} {x : Sr} (hx : s.srs[k]? = some x) (b : Bool) : (s.setOut k b).Inv := by
 unfold Nd.setOut
 rw [modify_set hx]
 have := h.sr.each x (List.mem_of_getElem? hx)
 exact h.setSr hx rfl rfl ⟨this.1, this.2.1, this.2.2.1, this.2.2.2.1⟩
theorem Nd.Inv.arm {s : Nd} (h : s.Inv) (k : Int) (w : UInt64) : (s.arm k w).Inv := h.to h.tab rfl rfl h.order rfl h.sent rfl (fun _ h => h)
theorem trimS_length (l : List UInt64) (h : l.length ≤ 6) : (trimS l).length ≤ 5 := by
 unfold trimS
 split
 ·simp; omega
 ·omega
theorem Nd.Inv.ask1 {s : Nd} (h : s.Inv) (x : Sr) : (s.ask1 x).Inv := by
 unfold Nd.ask1
 simp only
 have h0 : Nd.Inv { s with seq := growS s.seq } := h.to h.tab rfl rfl h.order rfl h.sent rfl (fun _ h => h)
 have h1 := h0.note
 generalize Nd.note { s with seq := growS s.seq } = t at *
 have h2 : Nd.Inv { t with ids := t.ids + 1, sent := trimS (t.sent ++ [t.now]) } := h1.to h1.tab rfl rfl h1.order rfl (trimS_length _ (by have := h1.sent; simp; omega)) rfl (fun _ h => h)
 generalize ({ t with ids := t.ids + 1, sent := trimS (t.sent ++ [t.now]) } : Nd) = u at *
 exact (h2.send _ _).remember _
theorem Nd.Inv.ask {s : Nd} (h : s.Inv) {k : Nat} {x : Sr} (hx : s.srs[k]? = some x) : (s.ask k x).Inv := by
 unfold Nd.ask
 split
 ·exact ((h.setOut hx _).drop _).arm _ _
 ·split
  ·exact ((h.setOut hx _).drop _).arm _ _
  ·exact ((h.setOut hx _).ask1 _).arm _ _
theorem Sr.further_ok {x y : Sr} (h : x.further = some y) (hx : 0 ≤ x.ttl ∧ x.ttl ≤ 8 ∧ 0 ≤ x.retries ∧ x.retries ≤ 2) : y.dest = x.dest ∧ y.name = x.name ∧ y.out = x.out ∧ 0 ≤ y.ttl ∧ y.ttl ≤ 8 ∧ 0 ≤ y.retries ∧ y.retries ≤ 2 := by
 unfold Sr.further at h
 split at h
 ·cases h; simp only; exact ⟨trivial, trivial, trivial, by omega, by omega, by omega, by omega⟩
 ·split at h
  ·cases h; simp only; exact ⟨trivial, trivial, trivial, by omega, by omega, by omega, by omega⟩
  ·split at h
   ·cases h; simp only; exact ⟨trivial, trivial, trivial, by omega, by omega, by omega, by omega⟩
   ·cases h
theorem Nd.Inv.drops {s : Nd} (h : s.Inv) (n : Nat) (k : Int) : (s.drops n k).Inv := h.out _
theorem Nd.Inv.again {s : Nd} (h : s.Inv) {k : Nat} {x : Sr} (hx : s.srs[k]? = some x) : (s.again k x).Inv := by
 have hx4 := h.sr.each x (List.mem_of_getElem? hx)
 unfold Nd.again
 split
 ·exact h.flush _
 ·split
  ·split
   ·rename_i y hy
    obtain ⟨f1, f2, _, f3⟩ := Sr.further_ok hy ⟨hx4.1, hx4.2.1, hx4.2.2.1, hx4.2.2.2.1⟩
    exact (h.setSr hx f1 f2 f3).ask (by show (s.srs.set k y)[k]? = some y; rw [List.getElem?_set]; simp [(List.getElem?_eq_some_iff.1 hx).1])
   ·exact ((h.drops _ _).unwait _).stop _
  ·exact h.ask hx
theorem Nd.Inv.answer {s : Nd} (h : s.Inv) (p : Pk) : (s.answer p).Inv := by
 unfold Nd.answer
 split
 ·exact h.send _ _
 ·exact h.drop _
theorem Nd.Inv.req3 {s : Nd} (h : s.Inv) (p : Pk) : (s.req3 p).Inv := by
 unfold Nd.req3
 split
 ·exact h.drop _
 ·split <;> exact h.send _ _
theorem Nd.Inv.req2 {s : Nd} (h : s.Inv) (p : Pk) : (s.req2 p).Inv := by
 unfold Nd.req2
 split
 ·refine Nd.Inv.answer ?_ _
  exact h.to h.tab rfl rfl h.order rfl h.sent rfl (fun _ h => h)
 ·split
  ·split
   ·refine Nd.Inv.answer (h.ls ?_ ?_) _
    ·refine LnsOk.bef ?_ _ _
     split
     ·exact h.tab.bef _ _
     ·exact h.tab
    ·intro d hd
     rw [dests_bef]
     split
     ·rw [dests_bef]; exact hd
     ·exact hd
   ·exact h.req3 _
  ·exact h.req3 _
theorem Nd.Inv.req {s : Nd} (h : s.Inv) (src : UInt32) (p : Pk) (hp : 0 ≤ p.hops ∧ p.hops ≤ 255) : (s.req src p).Inv := by
 unfold Nd.req
 split
 ·exact h.drop _
 ·simp only
  have h1 := h.remember ⟨p.from_, p.id⟩
  generalize s.remember ⟨p.from_, p.id⟩ = s1 at *
  have hu : LnsOk s1.self (s1.reqU src p).2 := h1.tab.upd _ (by simp only [Ln.learned, hop1]; omega)
  have hd := dests_upd s1.self s1.ls (Ln.learned p.from_ p.fromSeq (hop1 p) src s1.soon)
  split
  ·exact (h1.ls hu hd).drop _
  ·refine Nd.Inv.req2 (h1.ls ?_ ?_) _
   ·split
    ·exact hu.use _ _
    ·exact hu
   ·intro d hd1
    split
    ·rw [dests_use]; exact hd d hd1
    ·exact hd d hd1
theorem Nd.Inv.lost {s : Nd} (h : s.Inv) (l : List (UInt32 × UInt32)) : (s.lost l).Inv := by
 unfold Nd.lost
 split
 ·exact h.send _ _
 ·exact h
theorem Nd.Inv.los {s : Nd} (h : s.Inv) (src : UInt32) (p : Pk) : (s.los src p).Inv := by
 unfold Nd.los
 obtain ⟨h1, h2⟩ := h.tab.loseAll src p.lost
 have h3 := (h.ls h1 (fun d hd => by rw [h2]; exact hd)).lost (loseAll src s.ls p.lost).2.1
 simp only
 split
 ·exact h3
 ·exact h3.drop _
theorem Nd.Inv.dat {s : Nd} (h : s.Inv) (src : UInt32) (p : Pk) : (s.dat src p).Inv := by
 unfold Nd.dat
 split
 ·exact h.out _
 ·split
  ·exact h.drop _
  ·split
   ·exact ((h.drop 3).ls (h.tab.bump _) (fun d hd => by rw [dests_bump]; exact hd)).send _ _
   ·exact (h.send _ _).ls ((h.tab.use _ _).use _ _) (fun d hd => by rw [dests_use, dests_use]; exact hd)
theorem Nd.Inv.brk {s : Nd} (h : s.Inv) (nb : UInt32) : (s.brk nb).Inv := (h.ls (h.tab.brk _) (fun d hd => by rw [dests_brk]; exact hd)).lost _
theorem Nd.Inv.rep {s : Nd} (h : s.Inv) (src : UInt32) (p : Pk) (hp : 0 ≤ p.hops ∧ p.hops ≤ 255) : (s.rep src p).Inv := by
 unfold Nd.rep
 split
 ·exact h.drop _
 ·simp only
  have hu : LnsOk s.self (updT s.self s.ls (Ln.learned p.dest p.destSeq (hop1 p) src (s.now + p.life.toUInt64))).2 := h.tab.upd _ (by simp only [Ln.learned, hop1]; omega)
  have hd := dests_upd s.self s.ls (Ln.learned p.dest p.destSeq (hop1 p) src (s.now + p.life.toUInt64))
  have h1 := h.ls hu hd
  generalize updT s.self s.ls (Ln.learned p.dest p.destSeq (hop1 p) src (s.now + p.life.toUInt64)) = u at *
  split
  ·exact h1.drop _
  ·split
   ·have h2 : Nd.Inv (if (lookT u.2 p.dest s.now).isSome then Nd.flush { s with ls := u.2 } p.dest else { s with ls := u.2 }) := by
     split
     ·exact h1.flush _
     ·exact h1
    split
    ·exact h2.drop _
    ·exact h2
   ·split
    ·split <;> exact h1.drop _
    ·split
     ·exact h1.drop _
     ·exact (h1.send _ _).ls (((hu.bef _ _).bef _ _).use _ _) (fun d hd => by rw [dests_use, dests_bef, dests_bef]; exact hd)
theorem Nd.Inv.handle {s : Nd} (h : s.Inv) (src : UInt32) (p : Pk) (hp : 0 ≤ p.hops ∧ p.hops ≤ 255) : (s.handle src p).Inv := by
  unfold Nd.handle
  repeat' split
  · exact h.req _ _ hp
  · exact h.rep _ _ hp
  · exact h.los _ _
  · exact h.dat _ _
theorem Nd.Inv.rcvQ {s : Nd} (h : s.Inv) (now : UInt64) (src : UInt32) (f : Str) : (s.rcvQ now src f).Inv := by
 unfold Nd.rcvQ
 split
 ·exact h.drop _
 ·split
  ·exact h.drop _
  ·split
   ·refine Nd.Inv.drop ?_ _
    exact h.to h.tab rfl rfl h.order rfl h.sent rfl (fun _ h => h)
   ·exact h.drop _
theorem Nd.Inv.newSr {s : Nd} (h : s.Inv) (d : UInt32) (hd : srFind s.srs d = none) (h0 : 0 ≤ s.names) : (s.newSr d).Inv := by
 rw [srFind_k] at hd
 have h1 := kfind_none.1 hd
 refine ⟨h.tab, ⟨?_, ?_, ?_⟩, h.order, h.wait, h.sent, h.recs⟩
 ·show ((s.srs ++ [_]).map _).Nodup
  rw [List.map_append]
  exact List.nodup_append.2 ⟨h.sr.dests, by simp, fun a ha b hb => by simp at hb; subst hb; obtain ⟨x, hx, rfl⟩ := List.mem_map.1 ha; exact h1 x hx⟩
 ·show ((s.srs ++ [_]).map _).Nodup
  rw [List.map_append]
  exact List.nodup_append.2 ⟨h.sr.names, by simp, fun a ha b hb => by simp at hb; subst hb; obtain ⟨x, hx, rfl⟩ := List.mem_map.1 ha; have := (h.sr.each x hx).2.2.2.2; omega⟩
 ·intro x hx
  show _ ∧ _ ∧ _ ∧ _ ∧ x.name ≤ s.names + 1
  rcases List.mem_append.1 hx with hx | hx
  ·have := h.sr.each x hx; omega
  ·simp at hx; subst hx; simp
end

section
def Nd.Noted (s : Nd) : Prop := ∀ l ∈ s.ls, ∃ q, mget s.held l.dest = some q ∧ ¬ q < l.seq
theorem lfind_at : ∀ {ls : List Ln} {l : Ln}, (dests ls).Nodup → l ∈ ls → lget ls l.dest = some l
 | [], _, _, h => by cases h
 | y :: r, l, hn, h => by
  unfold dests at hn
  rw [List.map_cons, List.nodup_cons] at hn
  rcases List.mem_cons.1 h with rfl | h
  ·simp [lget, lfind]
  ·have hne : y.dest ≠ l.dest := fun e => hn.1 (by rw [e]; exact List.mem_map_of_mem h)
   have ih := lfind_at (ls := r) hn.2 h
   unfold lget at ih ⊢
   simp only [lfind]
   rw [if_neg hne]
   cases hf : lfind r l.dest with
   | none => rw [hf] at ih; cases ih
   | some i => rw [hf] at ih; simpa using ih
theorem mem_listT {ls : List Ln} (ok : TabOk ls) {l : Ln} : l ∈ listT ls ↔ l ∈ ls := by
 refine ⟨listT_mem', fun h => ?_⟩
 unfold listT
 refine List.mem_filterMap.2 ⟨l.dest, ?_, lfind_at ok.nodup h⟩
 exact (List.mergeSort_perm _ _).mem_iff.2 (List.mem_map_of_mem h)
theorem noteLs_held' (L : List Ln) : ∀ s : Nd, (L.map (·.dest)).Nodup → ∀ l ∈ L, ∃ q, mget (L.foldl Nd.noteL s).held l.dest = some q ∧ ¬ q < l.seq := by
  have keep : ∀ (M : List Ln) (s : Nd) (d : UInt32), d ∉ M.map (·.dest) → mget (M.foldl Nd.noteL s).held d = mget s.held d := by
    intro M
    induction M with
    | nil => intro s d _; rfl
    | cons m M ih =>
      intro s d hd
      simp only [List.map_cons, List.mem_cons, not_or] at hd
      rw [List.foldl_cons, ih _ d hd.2]
      unfold Nd.noteL
      (repeat' split) <;> simp [Nd.write, mget_mset, Ne.symm hd.1]
  induction L with
  | nil => intro s _ l hl; cases hl
  | cons m M ih =>
    intro s hn l hl
    simp only [List.map_cons, List.nodup_cons] at hn
    rw [List.foldl_cons]
    rcases List.mem_cons.1 hl with rfl | hl
    · rw [keep M _ _ hn.1]
      unfold Nd.noteL
      split
      · rename_i q hq
        split
        · exact ⟨l.seq, by simp [Nd.write, mget_mset], by simp⟩
        · rename_i hnq
          exact ⟨q, hq, hnq⟩
      · exact ⟨l.seq, by simp [Nd.write, mget_mset], by simp⟩
    · exact ih _ hn.2 l hl
theorem listT_nodup' {ls : List Ln} (ok : TabOk ls) : ((listT ls).map (·.dest)).Nodup := by
 have hn : (sortU (dests ls)).Nodup := (List.mergeSort_perm _ _).nodup_iff.2 ok.nodup
 have hsub : ((listT ls).map (·.dest)).Sublist (sortU (dests ls)) := by
  unfold listT
  generalize sortU (dests ls) = ds
  induction ds with
  | nil => exact List.Sublist.refl _
  | cons d ds ih =>
   rw [List.filterMap_cons]
   cases hg : lget ls d with
   | none => exact (ih).cons _
   | some l =>
    have hd : l.dest = d := by
     unfold lget at hg
     cases hf : lfind ls d with
     | none => rw [hf] at hg; cases hg
     | some i => obtain ⟨l', h1, h2⟩ := lfind_some hf; rw [hf] at hg; simp only [Option.bind_some, h1] at hg; cases hg; exact h2
    rw [List.map_cons, hd]
    exact ih.cons_cons _
 exact hn.sublist hsub
theorem Nd.note_noted (s : Nd) (ok : TabOk s.ls) : s.note.Noted := by
 intro l hl
 rw [(Nd.Same.note s).ls] at hl
 unfold Nd.note
 exact noteLs_held' _ _ (listT_nodup' ok) l ((mem_listT ok).2 hl)
theorem noteLs_fix' {h : List (UInt32 × UInt32)} (L : List Ln) : ∀ s : Nd, s.held = h → (∀ l ∈ L, ∃ q, mget h l.dest = some q ∧ ¬ q < l.seq) → L.foldl Nd.noteL s = s := by
 induction L with
 | nil => intro s _ _; rfl
 | cons l L ih =>
  intro s hs hl
  obtain ⟨q, h1, h2⟩ := hl l (by simp)
  have e : s.noteL l = s := by unfold Nd.noteL; rw [hs, h1]; simp [h2]
  rw [List.foldl_cons, e]
  exact ih s hs fun l hm => hl l (by simp [hm])
theorem Nd.Noted.note {s : Nd} (h : s.Noted) : s.note = s.noteO := by
 unfold Nd.note
 refine noteLs_fix' _ _ rfl fun l hl => ?_
 have e : s.noteO.held = s.held := by
  unfold Nd.noteO
  split
  ·simp [Nd.write]
  ·rfl
 rw [e]
 exact h l (listT_mem' hl)
theorem Nd.Noted.noteO {s : Nd} (h : s.Noted) : s.noteO.Noted := by
 unfold Nd.noteO
 split
 ·intro l hl
  simpa [Nd.write] using h l hl
 ·exact h
theorem Nd.Noted.to {s t : Nd} (h : s.Noted) (h1 : t.held = s.held) (h2 : ∀ l ∈ t.ls, ∃ l' ∈ s.ls, l.dest = l'.dest ∧ l.seq = l'.seq) : t.Noted := fun l hl => by
 obtain ⟨l', k1, k2, k3⟩ := h2 l hl
 rw [h1, k2, k3]
 exact h l' k1
theorem Nd.Noted.same {s t : Nd} (h : s.Noted) (h1 : t.held = s.held) (h2 : t.ls = s.ls) : t.Noted := h.to h1 fun l hl => ⟨l, h2 ▸ hl, rfl, rfl⟩
theorem use_same (ls : List Ln) (d : UInt32) (e : UInt64) : ∀ l ∈ useT ls d e, ∃ l' ∈ ls, l.dest = l'.dest ∧ l.seq = l'.seq := fun l hl => by
 rcases mem_lmod hl with h | ⟨l', h, rfl⟩
 ·exact ⟨l, h, rfl, rfl⟩
 ·refine ⟨l', h, ?_, ?_⟩ <;> split <;> rfl
theorem Nd.Noted.hand {s : Nd} (h : s.Noted) (d : UInt32) (t : Str) : (s.hand d t).Noted := by
 unfold Nd.hand
 split
 ·exact h
 ·exact h.to rfl (use_same _ _ _)
theorem Nd.Noted.handAll {s : Nd} (h : s.Noted) (d : UInt32) (l : List Str) : (s.handAll d l).Noted := by
 induction l using snocInd with
 | nil => exact h
 | snoc l t ih => rw [Nd.handAll_snoc]; exact ih.hand _ _
theorem Nd.Noted.flush {s : Nd} (h : s.Noted) (d : UInt32) : (s.flush d).Noted := by
 have h1 := h.handAll d (s.texts d)
 unfold Nd.flush
 simp only
 split <;> exact h1.same rfl rfl
theorem Nd.Noted.remember {s : Nd} (h : s.Noted) (r : Rq) : (s.remember r).Noted := by
 refine h.same ?_ (s.remember_eqs r).1
 unfold Nd.remember
 dsimp only
 split <;> rfl
theorem Nd.ask1_eqs (s : Nd) (x : Sr) : (s.ask1 x).clk = s.clk ∧ (s.ask1 x).last = s.last ∧ (s.ask1 x).names = s.names ∧ (s.ask1 x).now = s.now ∧ (s.ask1 x).wait = s.wait ∧ (s.ask1 x).srs = s.srs ∧ (s.ask1 x).silent = s.silent ∧ (s.ask1 x).ls = s.ls := by
 have hm := Nd.Same.note { s with seq := growS s.seq }
 unfold Nd.ask1
 simp only
 generalize Nd.note { s with seq := growS s.seq } = t at *
 unfold Nd.remember
 dsimp only
 split <;> exact ⟨hm.clk, hm.last, hm.names, hm.now, hm.wait, hm.srs, hm.silent, hm.ls⟩
theorem Nd.Noted.ask1 {s : Nd} (h : s.Noted) (x : Sr) : (s.ask1 x).Noted ∧ s.Step (s.ask1 x) 1 1 := by
 have h0 : Nd.Noted { s with seq := growS s.seq } := h.same rfl rfl
 have e := h0.note
 have h1 := h0.noteO
 have k0 : s.Step { s with seq := growS s.seq } 0 0 := Nd.Step.zero rfl rfl rfl rfl
 have k1 := k0.trans (Nd.Step.noteO { s with seq := growS s.seq })
 unfold Nd.ask1
 rw [e]
 simp only
 generalize Nd.noteO { s with seq := growS s.seq } = t at *
 have h2 : Nd.Noted { t with ids := t.ids + 1, sent := trimS (t.sent ++ [t.now]) } := h1.same rfl rfl
 have k2 := k1.trans (Nd.Step.zero (s := t) (t := { t with ids := t.ids + 1, sent := trimS (t.sent ++ [t.now]) }) rfl rfl rfl rfl)
 generalize ({ t with ids := t.ids + 1, sent := trimS (t.sent ++ [t.now]) } : Nd) = u at *
 refine ⟨Nd.Noted.remember (s := u.send 0 _) (Nd.Noted.same h2 rfl rfl) _, ((k2.trans (Nd.Step.send u _ _)).trans (Nd.Step.remember _ _)).le (by omega) (by omega)⟩
theorem askWait_pos (x : Sr) (h : 0 ≤ x.ttl ∧ x.ttl ≤ 8 ∧ 0 ≤ x.retries ∧ x.retries ≤ 2) : 0 < (askWait x).toNat ∧ (askWait x).toNat ≤ 100000 := by
 obtain ⟨d, ttl, ret, o, nm⟩ := x
 simp only at h
 unfold askWait
 simp only
 obtain ⟨h1, h2, h3, h4⟩ := h
 have a : ttl = 0 ∨ ttl = 1 ∨ ttl = 2 ∨ ttl = 3 ∨ ttl = 4 ∨ ttl = 5 ∨ ttl = 6 ∨ ttl = 7 ∨ ttl = 8 := by omega
 have b : ret = 0 ∨ ret = 1 ∨ ret = 2 := by omega
 rcases a with rfl | rfl | rfl | rfl | rfl | rfl | rfl | rfl | rfl <;> rcases b with rfl | rfl | rfl <;> decide
theorem later {a w : UInt64} (ha : a.toNat ≤ 4611686018427387904) (hw : 0 < w.toNat ∧ w.toNat ≤ 100000) : a < a + w := by
 rw [UInt64.lt_iff_toNat_lt, UInt64.toNat_add]
 omega
structure Nd.More (s t : Nd) (now : UInt64) : Prop where
  clk : ∃ E : List Tm, t.clk = s.clk ++ E ∧ E.length ≤ 1 ∧ (∀ u ∈ E, now < u.at_) ∧ t.last = s.last + E.length
  names : t.names = s.names
theorem Nd.More.of {s t : Nd} {now : UInt64} (h1 : t.clk = s.clk) (h2 : t.last = s.last) (h3 : t.names = s.names) : s.More t now := ⟨⟨[], by simp [h1], by simp, by simp, by simp [h2]⟩, h3⟩
theorem Nd.More.one {s t : Nd} {now : UInt64} (w : UInt64) (n : Int) (h1 : t.clk = s.clk ++ [⟨s.now + w, s.last + 1, n⟩]) (h2 : t.last = s.last + 1) (h3 : t.names = s.names) (hn : s.now = now) (hb : now.toNat ≤ 4611686018427387904) (hw : 0 < w.toNat ∧ w.toNat ≤ 100000) : s.More t now := ⟨⟨_, h1, by simp, fun u hu => by simp at hu; subst hu; rw [hn]; exact later hb hw, by simp [h2]⟩, h3⟩
theorem Nd.ask_more (s : Nd) (k : Nat) (x : Sr) (hx : 0 ≤ x.ttl ∧ x.ttl ≤ 8 ∧ 0 ≤ x.retries ∧ x.retries ≤ 2) {now : UInt64} (hn : s.now = now) (hb : now.toNat ≤ 4611686018427387904) : s.More (s.ask k x) now := by
 unfold Nd.ask
 split
 ·exact Nd.More.one 1000 x.name rfl rfl rfl hn hb (by decide)
 ·split
  ·exact Nd.More.one 1000 x.name rfl rfl rfl hn hb (by decide)
  ·obtain ⟨e1, e2, e3, e4, _⟩ := Nd.ask1_eqs (s.setOut k true) x
   refine Nd.More.one (askWait x) x.name ?_ ?_ ?_ hn hb (askWait_pos x hx)
   ·show ((s.setOut k true).ask1 x).clk ++ [_] = _
    rw [e1, e2, e4]; rfl
   ·show ((s.setOut k true).ask1 x).last + 1 = _
    rw [e2]; rfl
   ·exact e3
theorem Nd.handAll_eqs (s : Nd) (d : UInt32) (l : List Str) : (s.handAll d l).clk = s.clk ∧ (s.handAll d l).last = s.last ∧ (s.handAll d l).names = s.names := by
 induction l using snocInd with
 | nil => exact ⟨rfl, rfl, rfl⟩
 | snoc l t ih =>
  rw [Nd.handAll_snoc]
  unfold Nd.hand
  split <;> exact ih
theorem Nd.flush_eqs (s : Nd) (d : UInt32) : (s.flush d).clk = s.clk ∧ (s.flush d).last = s.last ∧ (s.flush d).names = s.names := by
 have h := Nd.handAll_eqs s d (s.texts d)
 unfold Nd.flush
 simp only
 split <;> exact h
theorem Nd.again_more (s : Nd) (k : Nat) (x : Sr) (hx : 0 ≤ x.ttl ∧ x.ttl ≤ 8 ∧ 0 ≤ x.retries ∧ x.retries ≤ 2) {now : UInt64} (hn : s.now = now) (hb : now.toNat ≤ 4611686018427387904) : s.More (s.again k x) now := by
 unfold Nd.again
 split
 ·obtain ⟨h1, h2, h3⟩ := Nd.flush_eqs s x.dest
  exact Nd.More.of h1 h2 h3
 ·split
  ·split
   ·rename_i y hy
    have := Nd.ask_more { s with srs := s.srs.set k y } k y (Sr.further_ok hy hx).2.2.2 hn hb
    exact ⟨this.clk, this.names⟩
   ·exact Nd.More.of rfl rfl rfl
  ·exact Nd.ask_more _ _ _ hx hn hb
theorem Nd.Noted.ask {s : Nd} (h : s.Noted) (k : Nat) (x : Sr) : (s.ask k x).Noted ∧ s.Step (s.ask k x) 1 1 := by
 have k0 : ∀ b, s.Step (s.setOut k b) 0 0 := fun _ => Nd.Step.zero rfl rfl rfl rfl
 unfold Nd.ask
 split
 ·exact ⟨h.same rfl rfl, ((k0 _).trans ((Nd.Step.drop _ _).trans (Nd.Step.arm _ _ _))).le (by omega) (by omega)⟩
 ·split
  ·exact ⟨h.same rfl rfl, ((k0 _).trans ((Nd.Step.drop _ _).trans (Nd.Step.arm _ _ _))).le (by omega) (by omega)⟩
  ·have h0 : (s.setOut k true).Noted := h.same rfl rfl
   obtain ⟨h1, h2⟩ := h0.ask1 x
   exact ⟨h1.same rfl rfl, (((k0 true).trans h2).trans (Nd.Step.arm _ _ _)).le (by omega) (by omega)⟩
theorem Nd.Noted.again {s : Nd} (h : s.Noted) (k : Nat) (x : Sr) : (s.again k x).Noted ∧ s.Step (s.again k x) ((s.texts x.dest).length + 1) 1 := by
 unfold Nd.again
 split
 ·exact ⟨h.flush _, (Nd.Step.flush _ _).le (by omega) (by omega)⟩
 ·split
  ·split
   ·rename_i y _
    have h0 : Nd.Noted { s with srs := s.srs.set k y } := h.same rfl rfl
    have k0 : s.Step { s with srs := s.srs.set k y } 0 0 := Nd.Step.zero rfl rfl rfl rfl
    obtain ⟨h1, h2⟩ := h0.ask k y
    exact ⟨h1, (k0.trans h2).le (by omega) (by omega)⟩
   ·exact ⟨h.same rfl rfl, ((Nd.Step.drops s (s.texts x.dest).length 5).trans (Nd.Step.zero (t := ((s.drops (s.texts x.dest).length 5).unwait x.dest).stop k) rfl rfl rfl rfl)).le (by omega) (by omega)⟩
  ·obtain ⟨h1, h2⟩ := h.ask k x
   exact ⟨h1, h2.le (by omega) (by omega)⟩
def dueN (now : UInt64) (l : List Tm) : Nat := (l.filter fun t => decide (t.at_ ≤ now)).length
theorem dueN_le (now : UInt64) (l : List Tm) : dueN now l ≤ l.length := List.length_filter_le _ _
theorem dueN_append (now : UInt64) (l E : List Tm) (h : ∀ u ∈ E, now < u.at_) : dueN now (l ++ E) = dueN now l := by
 unfold dueN
 rw [List.filter_append]
 have : E.filter (fun t => decide (t.at_ ≤ now)) = [] := List.filter_eq_nil_iff.2 fun u hu => by simpa using h u hu
 rw [this, List.append_nil]
theorem dueN_erase (now : UInt64) {l : List Tm} {i : Nat} (hi : i < l.length) (h : (at' l i).at_ ≤ now) : dueN now (l.eraseIdx i) + 1 = dueN now l := by
 unfold dueN
 rw [← ((erase_perm hi).filter _).length_eq, List.filter_cons, if_pos (by simpa using h)]
 simp
theorem texts_le {s : Nd} (h : s.Inv) (d : UInt32) : (s.texts d).length ≤ 4 ∧ ∀ t ∈ s.texts d, t.length ≤ 16 := by
 unfold Nd.texts
 cases hm : mget s.wait d with
 | none => simp
 | some l => exact h.wait _ (mget_mem hm)
theorem Nd.Inv.clk {s : Nd} (h : s.Inv) (l : List Tm) : Nd.Inv { s with clk := l } := h.to h.tab rfl rfl h.order rfl h.sent rfl (fun _ h => h)
structure Nd.Stepped (s t : Nd) (now : UInt64) : Prop where
  inv : t.Inv
  noted : t.Noted
  step : s.Step t 5 1
  due : dueN now t.clk + 1 = dueN now s.clk
  clk : t.clk.length ≤ s.clk.length
  last : s.last ≤ t.last ∧ t.last ≤ s.last + 1
  names : t.names = s.names
theorem Nd.step_some {s t : Nd} {now : UInt64} (h : s.step now = some t) (hi : s.Inv) (hd : s.Noted) (hn : s.now = now) (hb : now.toNat ≤ 4611686018427387904) : s.Stepped t now := by
 unfold Nd.step at h
 cases hbn : bestN s.clk now s.clk.length with
 | none => rw [hbn] at h; cases h
 | some i =>
  rw [hbn] at h
  simp only at h
  obtain ⟨b1, b2, _⟩ := bestN_some hbn
  have hdue := dueN_erase now b1 (UInt64.le_iff_toNat_le.2 b2)
  have hlen : (s.clk.eraseIdx i).length + 1 = s.clk.length := by rw [List.length_eraseIdx]; split <;> omega
  have plain : s.Stepped { s with clk := s.clk.eraseIdx i } now := ⟨hi.clk _, hd.same rfl rfl, (Nd.Step.zero (s := s) (t := { s with clk := s.clk.eraseIdx i }) rfl rfl rfl rfl).le (by omega) (by omega), hdue, by show (s.clk.eraseIdx i).length ≤ _; omega, ⟨Int.le_refl _, by show s.last ≤ _; omega⟩, rfl⟩
  cases hnm : nmFind s.srs (at' s.clk i).what with
  | none => rw [hnm] at h; cases h; exact plain
  | some k =>
   rw [hnm] at h
   simp only at h
   cases hk : s.srs[k]? with
   | none => rw [hk] at h; cases h; exact plain
   | some x =>
    rw [hk] at h
    simp only [Option.some.injEq] at h
    have hxr := hi.sr.each x (List.mem_of_getElem? hk)
    obtain ⟨p1, p2, p3, p4, p5, p6, p7⟩ := plain
    have hN := p2.again k x
    have hM := Nd.again_more { s with clk := s.clk.eraseIdx i } k x ⟨hxr.1, hxr.2.1, hxr.2.2.1, hxr.2.2.2.1⟩ hn hb
    obtain ⟨⟨E, m1, m2, m3, m4⟩, m5⟩ := hM
    have hI := p1.again (k := k) (x := x) hk
    have ht := (texts_le p1 x.dest).1
    rw [h] at hN m1 m4 m5 hI
    have ks : s.Step { s with clk := s.clk.eraseIdx i } 0 0 := Nd.Step.zero rfl rfl rfl rfl
    simp only at m1 m4 m5
    refine ⟨hI, hN.1, (ks.trans hN.2).le (by omega) (by omega), by rw [m1, dueN_append _ _ _ m3]; exact hdue, by rw [m1, List.length_append]; omega, by omega, m5⟩
theorem Nd.step_none {s : Nd} {now : UInt64} (h : s.step now = none) : bestN s.clk now s.clk.length = none := by
 unfold Nd.step at h
 cases hbn : bestN s.clk now s.clk.length with
 | none => rfl
 | some i =>
  rw [hbn] at h
  simp only at h
  split at h
  ·split at h <;> cases h
  ·cases h
end

section
open Go.RowKit
section
variable {P : Program} {n : Frm} {w0 : World} {E : Env} {D : List Deferred} {H F : HProp} {d : Option Tmp} {ty : TypeId} {pos : String} {after : Array Edge} {gu : Option (Tmp × Bool)}
theorem T_callB {t : Tmp} {f : FuncId} {bound args : List Value} {α : Type} {X : HProp} {res : α → Value} {post : α → HProp} {xs : List Operand} {ts : Array TypeId} (hf : IsFun P f) (ht : E.get t = some (.func (.func f) bound.toArray #[])) (hargs : E.evs xs = some args) (spec : Spec P w0 f (bound ++ args) X res post) : OpT P n w0 ⟨d, .call ⟨.value (.tmp t), xs.toArray, ts⟩, ty, pos, after, gu⟩ E X res post := fun G a w K Q s hs hK => by
 have e := s.evs hargs
 have e2 : a.eval (.tmp t) = .func (.func f) bound.toArray #[] := s.ev (x := .tmp t) ht
 have hr : (execOp a.eval ⟨d, .call ⟨.value (.tmp t), xs.toArray, ts⟩, ty, pos, after, gu⟩).run P w = .ok (.enter f (bound ++ args).toArray) w := by
  have h := run_callFunc hf (bound ++ args).toArray w
  simp [execOp, resolve, e2, Deferred.ofValue, invoke, e] at h ⊢
  exact h
 unfold Oper.wp
 rw [hr]
 refine (spec G w hs).mono ?_
 rintro e w' ⟨x, rfl, hs'⟩
 exact hK x w' hs'
theorem H_callB {t : Tmp} {f : FuncId} {bound args : List Value} {α : Type} {X : HProp} {res : α → Value} {post : α → HProp} {xs : List Operand} {ts : Array TypeId} (hf : IsFun P f) (ht : E.get t = some (.func (.func f) bound.toArray #[])) (hargs : E.evs xs = some args) (spec : Spec P w0 f (bound ++ args) X res post) (hl : Own H X F) :
  OpH P n w0 ⟨d, .call ⟨.value (.tmp t), xs.toArray, ts⟩, ty, pos, after, gu⟩ E H res (fun x => post x * F) := OpH.mk' (T_callB hf ht hargs spec) hl.eq
end
structure Nd.Run (s t : Nd) (now : UInt64) (j : Nat) : Prop where
  inv : t.Inv
  noted : t.Noted
  nowt : t.now = now
  step : s.Step t (5 * j) j
  due : dueN now t.clk + j = dueN now s.clk
  clk : t.clk.length ≤ s.clk.length
  last : s.last ≤ t.last ∧ t.last ≤ s.last + j
  names : t.names = s.names
theorem Nd.Run.next {s t u : Nd} {now : UInt64} {j : Nat} (h : s.Run t now j) (hs : t.step now = some u) (hb : now.toNat ≤ 4611686018427387904) : s.Run u now (j + 1) := by
 have k := Nd.step_some hs h.inv h.noted h.nowt hb
 exact ⟨k.inv, k.noted, k.step.now.trans h.nowt, (h.step.trans k.step).le (by omega) (by omega), by have := k.due; have := h.due; omega, by have := k.clk; have := h.clk; omega, by have := k.last; have := h.last; omega, k.names.trans h.names⟩
theorem Nd.ticks_run {s : Nd} {now : UInt64} (hb : now.toNat ≤ 4611686018427387904) : ∀ (f : Nat) (t : Nd) (j : Nat), s.Run t now j → dueN now t.clk < f → ∃ i, s.Run (t.ticks f now) now i ∧ (t.ticks f now).step now = none
 | 0, t, j, _, h => absurd h (Nat.not_lt_zero _)
 | f + 1, t, j, hr, hf => by
  unfold Nd.ticks
  cases hs : t.step now with
  | none => exact ⟨j, hr, hs⟩
  | some u =>
   have k := Nd.step_some hs hr.inv hr.noted hr.nowt hb
   exact Nd.ticks_run hb f u (j + 1) (hr.next hs hb) (by have := k.due; omega)
def Nd.tick (s : Nd) (now : UInt64) : Nd := s.ticks (dueN now s.clk + 1) now
structure Nd.Ready (s : Nd) (now : UInt64) : Prop where
  inv : s.Inv
  noted : s.Noted
  nowt : s.now = now
  small : now.toNat ≤ 4611686018427387904
  clk : s.clk.length ≤ 8500
  last : 0 ≤ s.last ∧ s.last ≤ 900000000000
  frames : s.out.frames.length ≤ 1000
  came : s.out.came.length ≤ 1000
  dropped : s.out.dropped.length ≤ 1000
  recs : s.recs.length ≤ 1000
  journal : s.out.journal.length ≤ 10000
theorem Nd.Run.zero {s : Nd} {now : UInt64} (h : s.Ready now) : s.Run s now 0 := ⟨h.inv, h.noted, h.nowt, Nd.Step.zero rfl rfl rfl rfl, rfl, Nat.le_refl _, ⟨Int.le_refl _, by omega⟩, rfl⟩
theorem Nd.tick_run {s : Nd} {now : UInt64} (h : s.Ready now) : ∃ i, i ≤ s.clk.length ∧ s.Run (s.tick now) now i := by
 obtain ⟨i, h1, _⟩ := Nd.ticks_run h.small (dueN now s.clk + 1) s 0 (Nd.Run.zero h) (by omega)
 refine ⟨i, ?_, h1⟩
 have := h1.due
 have := dueN_le now s.clk
 omega
attribute [local irreducible] WS LS OpQ OpT OpH OpTQ Spec SpecQ cel
variable (w0 : World)
set_option maxRecDepth 100000 in
theorem tickC_spec (gn : Nat) (s : Nd) (now : UInt64) (hr : s.Ready now) (bn bw : Nat) (tn tw : TypeId) : Spec Tryz.prog w0 142 [ptr bn 0, ptr bw 0] (nodA gn s * (cel bn tn [ptr gn 0] * cel bw tw [u64 now])) (fun _ : Unit => .tuple #[]) (fun _ => nodA gn (s.tick now) * emp) := by
  refine Spec.enter Tryz.func142 rfl Tryz.ntmps142 rfl fun G => ?_
  rw [star_assoc (nodA gn s), star_assoc (cel bn tn _)]
  simp only [argE]
  refine WS_block ?_
  refine WS_loop (fun m τ => ∃ (sj : Nd) (j : Nat), s.Run sj now j ∧ dueN now sj.clk = m ∧ sj.ticks (m + 1) now = s.tick now ∧ τ = ⟨[(0, ptr bn 0), (0 + 1, ptr bw 0)], [], nodA gn sj * (cel bn tn [ptr gn 0] * (cel bw tw [u64 now] * G))⟩) ?_ ?_
  · exact ⟨_, _, ⟨s, 0, Nd.Run.zero hr, rfl, rfl, rfl⟩, ⟨rfl, rfl, trivial⟩, rfl, Ent.refl _⟩
  · rintro m τ ⟨sj, j, hR, hm, hT, rfl⟩
    refine WS_nod fun h => ?_
    have hjl : j ≤ s.clk.length := by have := hR.due; have := dueN_le now s.clk; omega
    have hcl := hr.clk
    have hcl2 := hR.clk
    cases hst : sj.step now with
    | none =>
      have e : sj = s.tick now := by rw [← hT, Nd.ticks, hst]
      have p1 := clock_none w0 h.cb h.cr sj.last sj.clk now (Nd.step_none hst)
      simp only [nodP, nodPm, nodC, outH, restP, restC]
      repeat' (first | (show WS _ _ _ (.region 0 _ true) _ _; refine WS_drawK (.range 11) 5 [0, 3, 4] (by decide +kernel) rfl ?_) | (refine WS_seqK ?_; intro K hK) | (refine hK _ ?_; clear hK K) | refine stZ ?_ | (refine s2Z ?_ ?_ <;> intro hc <;> (try simp only [cS] at hc) <;> (try (exfalso; first | contradiction | omega))) | refine sqZ ?_ | (refine DL_h (H_callX iI rfl p1 iI) rfl rfl rfl ?_; intro x1))
      refine ret_none (.inl rfl) rfl ⟨(), rfl, ?_⟩
      rw [← e, star_assoc (nodA _ _)]
      refine Ent.nod h ?_
      simp only [nodP, nodPm, nodC, outH, restP, restC]
      exact finE
    | some t =>
      have hR2 := hR.next hst hr.small
      have hdue := (Nd.step_some hst hR.inv hR.noted hR.nowt hr.small).due
      have hT2 : t.ticks m now = s.tick now := by rw [← hT, Nd.ticks, hst]
      obtain ⟨m', rfl⟩ : ∃ m', m = m' + 1 := ⟨m - 1, by omega⟩
      unfold Nd.step at hst
      cases hbn : bestN sj.clk now sj.clk.length with
      | none => rw [hbn] at hst; cases hst
      | some i =>
        rw [hbn] at hst
        simp only at hst
        have p1 := clock_some w0 h.cb h.cr sj.last sj.clk now hbn (by omega)
        generalize (at' sj.clk i).what = wh at *
        have hle : (sj.clk.eraseIdx i).length ≤ sj.clk.length := by rw [List.length_eraseIdx]; split <;> omega
        refine WS_lens fun hsb hwv => ?_
        cases hnm : nmFind sj.srs wh with
        | none =>
          rw [hnm] at hst
          cases hst
          rw [nmFind_k] at hnm
          have hmi : mget (imap h.sb sj.srs) wh = none := mget_zmap_none (key := fun x : Sr => x.name) hsb hnm
          simp only [nodP, nodPm, nodC, outH, restP, restC]
          repeat' (first | (show WS _ _ _ (.region 0 _ true) _ _; refine WS_drawK (.range 11) 5 [0, 3, 4] (by decide +kernel) rfl ?_) | (refine WS_seqK ?_; intro K hK) | (refine hK _ ?_; clear hK K) | refine stZ ?_ | (refine s2Z ?_ ?_ <;> intro hc <;> (try simp only [cS] at hc) <;> (try (exfalso; first | contradiction | omega))) | refine sqZ ?_ | ((first | refine' LQ ?zh rfl ?_ | refine' DL_qp rfl rfl rfl ?zh ?_ | refine' DL_q rfl rfl ?zh ?_); case zh => intro F'; exact Q_lookup_n rfl rfl iI iI iI iI iI (by assumption)) | ((refine' LQ ?zh rfl ?_); case zh => intro F'; exact Q_bin rfl rfl iI) | (refine DL_h (H_callX iI rfl p1 iI) rfl rfl rfl ?_; intro x1))
          refine ⟨m', _, by omega, ⟨_, _, hR2, by omega, hT2, rfl⟩, ⟨rfl, rfl, trivial⟩, rfl, ?_⟩
          refine Ent.nod h ?_
          simp only [nodP, nodPm, nodC, outH, restP, restC]
          exact finE
        | some k =>
          rw [hnm] at hst
          rw [nmFind_k] at hnm
          simp only at hst
          obtain ⟨x, hx, hxn⟩ := kfind_some hnm
          obtain ⟨b, hb⟩ : ∃ b, h.sb[k]? = some b := ⟨_, List.getElem?_eq_getElem (by rw [hsb]; exact (List.getElem?_eq_some_iff.1 hx).1)⟩
          rw [hx] at hst
          simp only [Option.some.injEq] at hst
          have hmi : mget (imap h.sb sj.srs) wh = some b := mget_zmap_some (key := fun x : Sr => x.name) hsb hnm hb
          obtain ⟨F1, e1, _⟩ := srs_open gn hsb hb hx
          have htx := texts_le hR.inv x.dest
          have hl1 := hR.last
          have hl2 := hr.last
          have hft : Nd.Fit { sj with clk := sj.clk.eraseIdx i } (Nd.texts { sj with clk := sj.clk.eraseIdx i } x.dest).length.succ.succ.succ := by
            have ks : sj.Step { sj with clk := sj.clk.eraseIdx i } 0 0 := Nd.Step.zero rfl rfl rfl rfl
            have h1 := hr.frames; have h2 := hr.came; have h3 := hr.dropped; have h4 := hr.recs; have h5 := hr.journal
            have h6 : (Nd.texts { sj with clk := sj.clk.eraseIdx i } x.dest).length ≤ 4 := htx.1
            exact Nd.Step.fit (hR.step.trans ks) (by omega) (by omega) (by omega) (by omega) (by omega)
          have p2 := again_spec w0 gn { sj with clk := sj.clk.eraseIdx i } h hx hb (hR.inv.clk _).sr hR.inv.tab.tab hR.inv.order (by have := hR.inv.sent; show sj.sent.length ≤ 100; omega) (by show (sj.clk.eraseIdx i).length ≤ _; omega) (by show 0 ≤ sj.last ∧ sj.last ≤ _; omega) (by have h6 : (Nd.texts { sj with clk := sj.clk.eraseIdx i } x.dest).length ≤ 4 := htx.1; omega) (fun t ht => by have := htx.2 t ht; omega) hft
          rw [hst] at p2
          simp only [nodP, nodPm, nodC, outH, restP, restC, e1, srC] at p2 ⊢
          repeat' (first | (show WS _ _ _ (.region 0 _ true) _ _; refine WS_drawK (.range 11) 5 [0, 3, 4] (by decide +kernel) rfl ?_) | (refine WS_seqK ?_; intro K hK) | (refine hK _ ?_; clear hK K) | refine stZ ?_ | (refine s2Z ?_ ?_ <;> intro hc <;> (try simp only [cS] at hc) <;> (try (exfalso; first | contradiction | omega))) | refine sqZ ?_ | ((first | refine' LQ ?zh rfl ?_ | refine' DL_qp rfl rfl rfl ?zh ?_ | refine' DL_q rfl rfl ?zh ?_); case zh => intro F'; exact Q_lookup_s rfl rfl iI iI iI iI iI (by assumption)) | ((refine' LQ ?zh rfl ?_); case zh => intro F'; exact Q_bin rfl rfl iI) | (refine DL_h (H_callX iI rfl p1 iI) rfl rfl rfl ?_; intro x1) | (refine LS_h (H_callB iI rfl rfl p2 iI) rfl ?_; intro x2))
          exact ⟨m', _, by omega, ⟨_, _, hR2, by omega, hT2, rfl⟩, ⟨rfl, rfl, trivial⟩, rfl, finE⟩
end

section
theorem seqOf_some {l : List Rec} {k : Rec} {q : UInt32} (h : seqOf l k = some q) : ∃ r ∈ l, r.norm.key = k := by
 induction l using snocInd generalizing q with
 | nil => cases h
 | snoc l r ih =>
  rw [seqOf_snoc] at h
  by_cases e : r.norm.key = k
  ·exact ⟨r, by simp, e⟩
  ·rw [if_neg e] at h
   obtain ⟨x, hx, hk⟩ := ih h
   exact ⟨x, by simp [hx], hk⟩
theorem compR_mem {l : List Rec} {x : Rec} (h : x ∈ compR l) : x.norm = x ∧ ∃ r ∈ l, r.own = x.own ∧ (x.own = false → r.addr = x.addr) := by
 have ho := compR_ino l
 obtain ⟨h1, h2⟩ := (mem_lookR ho).1 h
 rw [lookR_comp] at h2
 obtain ⟨r, hr, hk⟩ := seqOf_some h2
 refine ⟨h1, r, hr, ?_⟩
 obtain ⟨k1, k2⟩ := (Rec.key_eq (Rec.norm_norm r) h1).1 hk
 have e1 : r.norm.own = r.own := rfl
 rw [e1] at k1
 refine ⟨k1, fun hx => ?_⟩
 have : r.norm.addr = r.addr := by show (if r.own then 0 else r.addr) = r.addr; rw [k1, hx]; rfl
 rw [← this]; exact k2
theorem compR_short {l : List Rec} {D : List UInt32} (h : ∀ r ∈ l, r.own = true ∨ r.addr ∈ D) : (compR l).length ≤ D.length + 1 := by
 have ho := compR_ino l
 let f : Rec → Option UInt32 := fun r => if r.own then none else some r.addr
 have hn : ((compR l).map f).Nodup := by
  rw [List.nodup_iff_pairwise_ne] at *
  rw [List.pairwise_map]
  refine (List.Pairwise.and_mem.1 ho.rise).imp ?_
  rintro a b ⟨ha, hb, hlt⟩ e
  have na := ho.norm a ha
  have nb := ho.norm b hb
  have key : a.own = b.own ∧ a.addr = b.addr := by
   simp only [f] at e
   cases hao : a.own <;> cases hbo : b.own <;> simp [hao, hbo] at e
   ·exact ⟨rfl, e⟩
   ·refine ⟨rfl, ?_⟩
    have e1 : a.norm.addr = 0 := by show (if a.own then 0 else a.addr) = 0; rw [hao]; rfl
    have e2 : b.norm.addr = 0 := by show (if b.own then 0 else b.addr) = 0; rw [hbo]; rfl
    rw [na] at e1; rw [nb] at e2
    rw [e1, e2]
  exact lt_key na nb hlt ((Rec.key_eq na nb).2 key)
 have hs : ∀ x ∈ (compR l).map f, x ∈ none :: D.map some := by
  intro x hx
  obtain ⟨r, hr, rfl⟩ := List.mem_map.1 hx
  obtain ⟨_, r', hr', k1, k2⟩ := compR_mem hr
  simp only [f]
  cases hro : r.own with
  | true => simp
  | false =>
   rcases h r' hr' with h' | h'
   ·rw [k1, hro] at h'; cases h'
   ·rw [k2 hro] at h'; simp [h']
 have := List.Nodup.length_le_of_subset hn hs
 simpa using this
def Nd.tickF (s : Nd) (now : UInt64) : Nd := ((s.begin now).tick now).done
def Nd.rcvF (s : Nd) (now : UInt64) (src : UInt32) (f : Str) : Nd := ((s.begin now).rcv now src f).done
def Nd.brkF (s : Nd) (now : UInt64) (nb : UInt32) : Nd := ((s.begin now).brk nb).done
def Nd.sendF (s : Nd) (now : UInt64) (d : UInt32) (t : Str) : Nd := ((s.begin now).sendT d t).done
structure Nd.Rest (s : Nd) (c : Nat) : Prop where
  inv : s.Inv
  recs : s.recs.length ≤ 24
  names : 0 ≤ s.names ∧ s.names ≤ c
  clk : s.clk.length ≤ c
  last : 0 ≤ s.last ∧ s.last ≤ c * 10000
theorem Nd.Inv.begin {s : Nd} (h : s.Inv) (now : UInt64) : (s.begin now).Inv := by
 unfold Nd.begin
 refine Nd.Inv.note ?_
 exact h.to (h.tab.exp now) rfl rfl h.order rfl h.sent rfl (fun d hd => by rw [dests_exp]; exact hd)
theorem Nd.begin_noted {s : Nd} (h : s.Inv) (now : UInt64) : (s.begin now).Noted := Nd.note_noted _ (h.tab.exp now).tab
theorem Nd.begin_same (s : Nd) (now : UInt64) : (s.begin now).now = now ∧ (s.begin now).clk = s.clk ∧ (s.begin now).last = s.last ∧ (s.begin now).names = s.names ∧ (s.begin now).wait = s.wait ∧ (s.begin now).srs = s.srs := by
 have h := Nd.Same.note { s with now := now, out := OutD.zero, ls := expT now s.ls }
 exact ⟨h.now, h.clk, h.last, h.names, h.wait, h.srs⟩
theorem listT_le8 {s : Nd} (h : s.Inv) : (listT s.ls).length ≤ 8 := Nat.le_trans (listT_length _) h.tab.tab.short
theorem Nd.Rest.ready {s : Nd} {c : Nat} (h : s.Rest c) (hc : c ≤ 8500) {now : UInt64} (hn : now.toNat ≤ 4611686018427387904) : (s.begin now).Ready now := by
 obtain ⟨e1, e2, e3, e4, e5, e6⟩ := s.begin_same now
 have h1 := Nd.begin_recs s now h.inv.tab.tab
 have h2 := Nd.begin_jour s now h.inv.tab.tab
 have h3 := h.recs
 have h4 := h.clk
 have h5 := h.last
 exact ⟨h.inv.begin now, Nd.begin_noted h.inv now, e1, hn, by rw [e2]; omega, by rw [e3]; omega, by rw [Nd.begin_frames]; simp, by rw [Nd.begin_came]; simp, by rw [Nd.begin_dropped]; simp, by omega, by omega⟩
theorem Nd.done_keep {s : Nd} (h : s.Inv) : s.done.Inv ∧ s.done.recs.length ≤ 24 ∧ s.done.clk = s.clk ∧ s.done.last = s.last ∧ s.done.names = s.names := by
 have hn := h.note
 have hm := Nd.Same.note s
 unfold Nd.done
 split
 ·refine ⟨?_, ?_, hm.clk, hm.last, hm.names⟩
  ·refine ⟨hn.tab, ⟨hn.sr.dests, hn.sr.names, hn.sr.each⟩, hn.order, hn.wait, hn.sent, fun r hr => ?_⟩
   obtain ⟨_, r', hr', k1, k2⟩ := compR_mem hr
   rcases hn.recs r' hr' with h' | h'
   ·exact .inl (k1 ▸ h')
   ·cases hro : r.own with
    | true => exact .inl rfl
    | false => exact .inr (k2 hro ▸ h')
  ·have := compR_short hn.recs
   have h8 := hn.tab.tab.short
   simp only [dests, List.length_map] at this
   show (compR s.note.recs).length ≤ 24
   omega
 ·exact ⟨hn, by omega, hm.clk, hm.last, hm.names⟩
structure Nd.Still (s t : Nd) : Prop where
  clk : t.clk = s.clk
  last : t.last = s.last
  names : t.names = s.names
theorem Nd.Rest.still {s t : Nd} {c : Nat} {now : UInt64} (h : s.Rest c) (hi : t.Inv) (hs : (s.begin now).Still t) : t.done.Rest c := by
 obtain ⟨k1, k2, k3, k4, k5⟩ := Nd.done_keep hi
 obtain ⟨e1, e2, e3, e4, e5, e6⟩ := s.begin_same now
 exact ⟨k1, k2, by rw [k5, hs.names, e4]; exact h.names, by rw [k3, hs.clk, e2]; exact h.clk, by rw [k4, hs.last, e3]; exact h.last⟩
theorem Nd.Still.trans {s t u : Nd} (h : s.Still t) (k : t.Still u) : s.Still u := ⟨k.clk.trans h.clk, k.last.trans h.last, k.names.trans h.names⟩
theorem Nd.Still.remember (s : Nd) (r : Rq) : s.Still (s.remember r) := by
 unfold Nd.remember
 dsimp only
 split <;> exact ⟨rfl, rfl, rfl⟩
theorem Nd.Still.answer (s : Nd) (p : Pk) : s.Still (s.answer p) := by
 unfold Nd.answer
 split <;> exact ⟨rfl, rfl, rfl⟩
theorem Nd.Still.req3 (s : Nd) (p : Pk) : s.Still (s.req3 p) := by
  unfold Nd.req3
  repeat' split
  all_goals exact ⟨rfl, rfl, rfl⟩
theorem Nd.Still.req2 (s : Nd) (p : Pk) : s.Still (s.req2 p) := by
 unfold Nd.req2
 split
 ·have := fun q => Nd.Still.answer { s with seq := q }
  exact ⟨(this _ _).clk, (this _ _).last, (this _ _).names⟩
 ·split
  ·split
   ·have := fun l => Nd.Still.answer { s with ls := l }
    exact ⟨(this _ _).clk, (this _ _).last, (this _ _).names⟩
   ·exact Nd.Still.req3 _ _
  ·exact Nd.Still.req3 _ _
theorem Nd.Still.drop (s : Nd) (k : Int) : s.Still (s.drop k) := ⟨rfl, rfl, rfl⟩
theorem Nd.Still.send (s : Nd) (to : UInt32) (p : Pk) : s.Still (s.send to p) := ⟨rfl, rfl, rfl⟩
theorem Nd.Still.ls (s : Nd) (l : List Ln) : s.Still { s with ls := l } := ⟨rfl, rfl, rfl⟩
theorem Nd.Still.req (s : Nd) (src : UInt32) (p : Pk) : s.Still (s.req src p) := by
 unfold Nd.req
 split
 ·exact ⟨rfl, rfl, rfl⟩
 ·simp only
  have h1 := Nd.Still.remember s ⟨p.from_, p.id⟩
  generalize s.remember ⟨p.from_, p.id⟩ = s1 at *
  split
  ·exact h1.trans ⟨rfl, rfl, rfl⟩
  ·exact h1.trans ((Nd.Still.ls s1 _).trans (Nd.Still.req2 _ _))
theorem Nd.Still.flush (s : Nd) (d : UInt32) : s.Still (s.flush d) := by
 obtain ⟨h1, h2, h3⟩ := Nd.flush_eqs s d
 exact ⟨h1, h2, h3⟩
theorem Nd.Still.lost (s : Nd) (l : List (UInt32 × UInt32)) : s.Still (s.lost l) := by
 unfold Nd.lost
 split <;> exact ⟨rfl, rfl, rfl⟩
theorem Nd.Still.los (s : Nd) (src : UInt32) (p : Pk) : s.Still (s.los src p) := by
 have h := (Nd.Still.ls s (loseAll src s.ls p.lost).1).trans (Nd.Still.lost _ (loseAll src s.ls p.lost).2.1)
 unfold Nd.los
 simp only
 split
 ·exact h
 ·exact h.trans ⟨rfl, rfl, rfl⟩
theorem Nd.Still.dat (s : Nd) (src : UInt32) (p : Pk) : s.Still (s.dat src p) := by
  unfold Nd.dat
  repeat' split
  all_goals exact ⟨rfl, rfl, rfl⟩
theorem Nd.Still.rep (s : Nd) (src : UInt32) (p : Pk) : s.Still (s.rep src p) := by
 unfold Nd.rep
 split
 ·exact Nd.Still.drop _ _
 ·simp only
  split
  ·exact (Nd.Still.ls s _).trans (Nd.Still.drop _ _)
  ·split
   ·have h2 : ∀ l : List Ln, s.Still (if (lookT l p.dest s.now).isSome then Nd.flush { s with ls := l } p.dest else { s with ls := l }) := fun l => by
     split
     ·exact (Nd.Still.ls s l).trans (Nd.Still.flush _ _)
     ·exact Nd.Still.ls s l
    split
    ·exact (h2 _).trans (Nd.Still.drop _ _)
    ·exact h2 _
   ·split
    ·split <;> exact (Nd.Still.ls s _).trans (Nd.Still.drop _ _)
    ·split
     ·exact (Nd.Still.ls s _).trans (Nd.Still.drop _ _)
     ·exact ((Nd.Still.ls s _).trans (Nd.Still.send _ _ _)).trans (Nd.Still.ls _ _)
theorem Nd.Still.handle (s : Nd) (src : UInt32) (p : Pk) : s.Still (s.handle src p) := by
  unfold Nd.handle
  repeat' split
  · exact Nd.Still.req _ _ _
  · exact Nd.Still.rep _ _ _
  · exact Nd.Still.los _ _ _
  · exact Nd.Still.dat _ _ _
theorem Nd.Still.rcv (s : Nd) (now : UInt64) (src : UInt32) (f : Str) : s.Still (s.rcv now src f) := by
 have hq : s.Still (s.rcvQ now src f) := by
  unfold Nd.rcvQ
  split
  ·exact Nd.Still.drop _ _
  ·split
   ·exact Nd.Still.drop _ _
   ·split
    ·constructor <;> simp only [Nd.drop, Nd.tell, Nd.send]
    ·exact Nd.Still.drop _ _
 unfold Nd.rcv
 split
 ·exact hq
 ·split
  ·exact hq
  ·exact Nd.Still.handle _ _ _
theorem Nd.Rest.tick {s : Nd} {c : Nat} (h : s.Rest c) (hc : c ≤ 8500) {now : UInt64} (hn : now.toNat ≤ 4611686018427387904) : (s.tickF now).Rest (c + 1) := by
 have hr := h.ready hc hn
 obtain ⟨i, hi, hR⟩ := Nd.tick_run hr
 obtain ⟨k1, k2, k3, k4, k5⟩ := Nd.done_keep hR.inv
 obtain ⟨e1, e2, e3, e4, e5, e6⟩ := s.begin_same now
 have h1 := hR.clk; have h2 := hR.last; have h3 := hR.names
 have h4 := h.names; have h5 := h.clk; have h6 := h.last
 rw [e2] at h1 hi
 rw [e3] at h2
 rw [e4] at h3
 unfold Nd.tickF
 exact ⟨k1, k2, by rw [k5, h3]; omega, by rw [k3]; omega, by rw [k4]; omega⟩
theorem Nd.Rest.brk {s : Nd} {c : Nat} (h : s.Rest c) (now : UInt64) (nb : UInt32) : (s.brkF now nb).Rest c := by
 refine h.still (now := now) ((h.inv.begin now).brk nb) ?_
 exact (Nd.Still.ls _ _).trans (Nd.Still.lost _ _)
theorem Pk.dec_read {f : Str} {p : Pk} (h : Pk.dec f = some p) : p.Read := by
 obtain ⟨⟨⟨h1, h2, h3, h4, h5, h6⟩, hk⟩, _⟩ := Pk.dec_some h
 exact ⟨⟨h1, h2⟩, by unfold i64R; rcases hk with hk | hk | hk | hk <;> (rw [hk.1]; decide), ⟨h3, h4⟩, by omega, by omega⟩
theorem Nd.Rest.rcv {s : Nd} {c : Nat} (h : s.Rest c) (now : UInt64) (src : UInt32) (f : Str) : (s.rcvF now src f).Rest c := by
 refine h.still (now := now) ?_ (Nd.Still.rcv _ _ _ _)
 have hb := h.inv.begin now
 unfold Nd.rcv
 split
 ·exact hb.rcvQ _ _ _
 ·rename_i p hp
  split
  ·exact hb.rcvQ _ _ _
  ·exact hb.handle _ _ (Pk.dec_read hp).hops
end

section
theorem mset_mem' {κ ν : Type} [DecidableEq κ] {m : List (κ × ν)} {k : κ} {v : ν} {p : κ × ν} (h : p ∈ mset m k v) : p ∈ m ∨ p = (k, v) := by
 unfold mset at h
 split at h
 ·exact List.mem_or_eq_of_mem_set h
 ·rcases List.mem_append.1 h with h | h
  ·exact .inl h
  ·simp at h; exact .inr h
theorem Nd.Inv.put {s : Nd} (h : s.Inv) (d : UInt32) (l : List Str) (hl : l.length ≤ 4) (ht : ∀ t ∈ l, t.length ≤ 16) : Nd.Inv { s with wait := mset s.wait d l } := ⟨h.tab, ⟨h.sr.dests, h.sr.names, h.sr.each⟩, h.order, fun w hw => by
 rcases mset_mem' hw with hw | rfl
 ·exact h.wait w hw
 ·exact ⟨hl, ht⟩, h.sent, h.recs⟩
def Nd.roomFor (s : Nd) (d : UInt32) : Nd := if (s.texts d).length = 4 then Nd.drop { s with wait := mset s.wait d ((s.texts d).drop 1) } 6 else s
def Nd.put (s : Nd) (d : UInt32) (t : Str) : Nd := { s with wait := mset s.wait d (s.texts d ++ [t]) }
def Nd.begins (s : Nd) (d : UInt32) : Nd := Nd.ask (s.newSr d) s.srs.length ⟨d, 1, 0, false, s.names + 1⟩
theorem Nd.sendT_eq (s : Nd) (d : UInt32) (t : Str) : s.sendT d t = if (lookT s.ls d s.now).isSome then s.hand d t else match srFind ((s.roomFor d).put d t).srs d with
 | some _ => (s.roomFor d).put d t
 | none => ((s.roomFor d).put d t).begins d := rfl
theorem Nd.roomFor_texts (s : Nd) (d : UInt32) (h : (s.texts d).length ≤ 4) : ((s.roomFor d).texts d).length ≤ 3 ∧ ∀ t ∈ (s.roomFor d).texts d, t ∈ s.texts d := by
 unfold Nd.roomFor
 split
 ·rename_i h4
  have e : Nd.texts (Nd.drop { s with wait := mset s.wait d ((s.texts d).drop 1) } 6) d = (s.texts d).drop 1 := by
   show (mget (mset s.wait d ((s.texts d).drop 1)) d).getD [] = _
   rw [mget_mset, if_pos rfl]; rfl
  rw [e]
  exact ⟨by simp; omega, fun t ht => List.mem_of_mem_drop ht⟩
 ·exact ⟨by omega, fun t ht => ht⟩
theorem Nd.Inv.roomFor {s : Nd} (h : s.Inv) (d : UInt32) : (s.roomFor d).Inv := by
 obtain ⟨h1, h2⟩ := texts_le h d
 unfold Nd.roomFor
 split
 ·exact (h.put d _ (by simp; omega) (fun t ht => h2 t (List.mem_of_mem_drop ht))).drop _
 ·exact h
theorem Nd.Inv.put' {s : Nd} (h : s.Inv) (d : UInt32) (t : Str) (hl : (s.texts d).length ≤ 3) (ht : t.length ≤ 16) : (s.put d t).Inv := by
 obtain ⟨h1, h2⟩ := texts_le h d
 refine Nd.Inv.put h d _ (by simp; omega) fun x hx => ?_
 rcases List.mem_append.1 hx with hx | hx
 ·exact h2 x hx
 ·simp at hx; subst hx; exact ht
theorem Nd.newSr_get (s : Nd) (d : UInt32) : (s.newSr d).srs[s.srs.length]? = some ⟨d, 1, 0, false, s.names + 1⟩ := by simp [Nd.newSr]
theorem Nd.Inv.begins {s : Nd} (h : s.Inv) (d : UInt32) (hd : srFind s.srs d = none) (h0 : 0 ≤ s.names) : (s.begins d).Inv := by
 unfold Nd.begins
 exact (h.newSr d hd h0).ask (s.newSr_get d)
theorem Nd.roomFor_eqs (s : Nd) (d : UInt32) : (s.roomFor d).names = s.names ∧ (s.roomFor d).clk = s.clk ∧ (s.roomFor d).last = s.last ∧ (s.roomFor d).srs = s.srs ∧ (s.roomFor d).now = s.now ∧ (s.roomFor d).ls = s.ls ∧ (s.roomFor d).self = s.self ∧ (s.roomFor d).held = s.held ∧ (s.roomFor d).silent = s.silent ∧ (s.roomFor d).sent = s.sent ∧ (s.roomFor d).seq = s.seq ∧ (s.roomFor d).out.frames = s.out.frames ∧ (s.roomFor d).recs = s.recs := by
 unfold Nd.roomFor
 split <;> exact ⟨rfl, rfl, rfl, rfl, rfl, rfl, rfl, rfl, rfl, rfl, rfl, rfl, rfl⟩
theorem Nd.Inv.sendT {s : Nd} (h : s.Inv) (d : UInt32) (t : Str) (ht : t.length ≤ 16) (h0 : 0 ≤ s.names) : (s.sendT d t).Inv := by
 rw [Nd.sendT_eq]
 split
 ·exact h.hand _ _
 ·have h1 := (h.roomFor d).put' d t (Nd.roomFor_texts s d (texts_le h d).1).1 ht
  split
  ·exact h1
  ·rename_i hs
   exact h1.begins d hs (by show 0 ≤ (s.roomFor d).names; rw [(s.roomFor_eqs d).1]; exact h0)
theorem Nd.Step.roomFor (s : Nd) (d : UInt32) : s.Step (s.roomFor d) 1 0 := by
 unfold Nd.roomFor
 split
 ·exact ((Nd.Step.zero (s := s) (t := { s with wait := mset s.wait d ((s.texts d).drop 1) }) rfl rfl rfl rfl).trans (Nd.Step.drop _ _)).le (by omega) (by omega)
 ·exact (Nd.Step.zero rfl rfl rfl rfl).le (by omega) (by omega)
theorem Nd.Step.put (s : Nd) (d : UInt32) (t : Str) : s.Step (s.put d t) 0 0 := Nd.Step.zero rfl rfl rfl rfl
theorem Nd.Step.begins (s : Nd) (d : UInt32) : s.Step (s.begins d) 1 (1 + (listT s.ls).length) :=
 ((Nd.Step.zero (s := s) (t := s.newSr d) rfl rfl rfl rfl).trans (Nd.Step.ask (s.newSr d) s.srs.length ⟨d, 1, 0, false, s.names + 1⟩)).le (by omega) (by show 0 + (1 + (listT s.ls).length) ≤ _; omega)
theorem Nd.Step.sendT (s : Nd) (d : UInt32) (t : Str) : s.Step (s.sendT d t) 2 (1 + (listT s.ls).length) := by
 rw [Nd.sendT_eq]
 split
 ·exact (Nd.Step.hand _ _ _).le (by omega) (by omega)
 ·have h1 := (Nd.Step.roomFor s d).trans (Nd.Step.put _ d t)
  split
  ·exact h1.le (by omega) (by omega)
  ·have h2 := h1.trans (Nd.Step.begins ((s.roomFor d).put d t) d)
   have e : ((s.roomFor d).put d t).ls = s.ls := (s.roomFor_eqs d).2.2.2.2.2.1
   rw [e] at h2
   exact h2.le (by omega) (by omega)
theorem Nd.sendT_clk (s : Nd) (d : UInt32) (t : Str) {now : UInt64} (hn : s.now = now) (hb : now.toNat ≤ 4611686018427387904) : (s.sendT d t).clk.length ≤ s.clk.length + 1 ∧ s.last ≤ (s.sendT d t).last ∧ (s.sendT d t).last ≤ s.last + 1 ∧ s.names ≤ (s.sendT d t).names ∧ (s.sendT d t).names ≤ s.names + 1 := by
 rw [Nd.sendT_eq]
 split
 ·have h := Nd.handAll_eqs s d [t]
  simp only [Nd.handAll, List.foldl_cons, List.foldl_nil] at h
  rw [h.1, h.2.1, h.2.2]
  omega
 ·obtain ⟨e1, e2, e3, e4, e5, _⟩ := s.roomFor_eqs d
  split
  ·show (s.roomFor d).clk.length ≤ _ ∧ _ ≤ (s.roomFor d).last ∧ (s.roomFor d).last ≤ _ ∧ _ ≤ (s.roomFor d).names ∧ (s.roomFor d).names ≤ _
   rw [e1, e2, e3]
   omega
  ·have hM := Nd.ask_more (((s.roomFor d).put d t).newSr d) ((s.roomFor d).put d t).srs.length ⟨d, 1, 0, false, ((s.roomFor d).put d t).names + 1⟩ (by simp) (now := now) (by show (s.roomFor d).now = now; rw [e5, hn]) hb
   obtain ⟨⟨E, m1, m2, m3, m4⟩, m5⟩ := hM
   have c1 : (((s.roomFor d).put d t).newSr d).clk = s.clk := e2
   have c2 : (((s.roomFor d).put d t).newSr d).last = s.last := e3
   have c3 : (((s.roomFor d).put d t).newSr d).names = s.names + 1 := by show (s.roomFor d).names + 1 = _; rw [e1]
   rw [c1] at m1
   rw [c2] at m4
   rw [c3] at m5
   unfold Nd.begins
   rw [m1, m4, m5, List.length_append]
   omega
theorem Nd.Rest.send {s : Nd} {c : Nat} (h : s.Rest c) {now : UInt64} (hn : now.toNat ≤ 4611686018427387904) (d : UInt32) (t : Str) (ht : t.length ≤ 16) : (s.sendF now d t).Rest (c + 1) := by
 obtain ⟨e1, e2, e3, e4, e5, e6⟩ := s.begin_same now
 have hi := (h.inv.begin now).sendT d t ht (by rw [e4]; exact h.names.1)
 obtain ⟨k1, k2, k3, k4, k5⟩ := Nd.done_keep hi
 obtain ⟨h1, h2, h3, h4, h5⟩ := Nd.sendT_clk (s.begin now) d t e1 hn
 have g1 := h.names; have g2 := h.clk; have g3 := h.last
 rw [e2] at h1
 rw [e3] at h2 h3
 rw [e4] at h4 h5
 unfold Nd.sendF
 exact ⟨k1, k2, by rw [k5]; omega, by rw [k3]; omega, by rw [k4]; omega⟩
theorem Nd.Step.sendT8 {s : Nd} (h : s.Inv) (d : UInt32) (t : Str) : s.Step (s.sendT d t) 2 9 := (Nd.Step.sendT s d t).le (Nat.le_refl _) (by have := listT_le8 h; omega)
theorem Nd.done_same (s : Nd) : s.done.self = s.self ∧ s.done.ls = s.ls ∧ s.done.silent = s.silent ∧ s.done.srs = s.srs ∧ s.done.sent = s.sent ∧ s.done.seq = s.seq ∧ s.done.last = s.last ∧ s.done.out.frames = s.out.frames ∧ s.done.wait = s.wait ∧ s.done.now = s.now ∧ s.done.seen = s.seen ∧ s.done.order = s.order ∧ s.done.clk = s.clk ∧ s.done.names = s.names ∧ s.done.ids = s.ids ∧ s.done.datas = s.datas ∧ s.done.out.came = s.out.came ∧ s.done.out.dropped = s.out.dropped := by
 have m := Nd.Same.note s
 unfold Nd.done
 split <;> exact ⟨m.self, m.ls, m.silent, m.srs, m.sent, m.seq, m.last, m.frames, m.wait, m.now, m.seen, m.order, m.clk, m.names, m.ids, m.datas, m.came, m.dropped⟩
theorem Nd.Rest.mono {s : Nd} {c d : Nat} (h : s.Rest c) (hd : c ≤ d) : s.Rest d := ⟨h.inv, h.recs, ⟨h.names.1, by have := h.names.2; omega⟩, by have := h.clk; omega, ⟨h.last.1, by have := h.last.2; omega⟩⟩
theorem Nd.tickF_frames {s : Nd} {c : Nat} {now : UInt64} (h : s.Rest c) (hc : c ≤ 8500) (hn : now.toNat ≤ 4611686018427387904) : (s.tickF now).out.frames.length ≤ 42500 := by
 have hR := h.ready hc hn
 obtain ⟨i, hi, hT⟩ := Nd.tick_run hR
 have h1 := hT.step.frames
 have h2 := hR.clk
 rw [Nd.begin_frames] at h1
 obtain ⟨_, _, _, _, _, _, _, e8, _⟩ := ((s.begin now).tick now).done_same
 unfold Nd.tickF
 rw [e8]
 simp at h1
 omega
theorem Nd.sendF_frames (s : Nd) (now : UInt64) (d : UInt32) (t : Str) : (s.sendF now d t).out.frames.length ≤ 2 := by
 have h1 := (Nd.Step.sendT (s.begin now) d t).frames
 rw [Nd.begin_frames] at h1
 obtain ⟨_, _, _, _, _, _, _, e8, _⟩ := ((s.begin now).sendT d t).done_same
 unfold Nd.sendF
 rw [e8]
 simpa using h1
theorem Nd.booted_inv (self : UInt32) (b : List UInt8) (now : UInt64) : (Nd.booted self b now).Inv := by
 unfold Nd.booted
 split
 ·exact ⟨LnsOk.new _ _, ⟨List.nodup_nil, List.nodup_nil, fun x hx => (by cases hx)⟩, (by simp [Nd.blank]), fun w hw => (by cases hw), (by simp [Nd.blank]), fun r hr => (by cases hr)⟩
 ·exact ⟨LnsOk.nil, ⟨List.nodup_nil, List.nodup_nil, fun x hx => (by cases hx)⟩, (by simp [Nd.blank]), fun w hw => (by cases hw), (by simp [Nd.blank]), fun r hr => (by cases hr)⟩
theorem Nd.new_same (self : UInt32) (b : List UInt8) (now : UInt64) : (Nd.booted self b now).Same (Nd.new self b now) := (Nd.Same.write _ _).trans (Nd.Same.note _)
theorem Nd.new_rest (self : UInt32) (b : List UInt8) (now : UInt64) : (Nd.new self b now).Rest 0 := by
 have h0 := Nd.booted_inv self b now
 have h1 := h0.write ⟨true, 0, (Nd.booted self b now).seq⟩ (.inl rfl)
 have m := Nd.new_same self b now
 have hr := Nd.note_recs ((Nd.booted self b now).write ⟨true, 0, (Nd.booted self b now).seq⟩) h1.tab.tab
 have hb : (Nd.booted self b now).recs = [] ∧ (Nd.booted self b now).names = 0 ∧ (Nd.booted self b now).clk = [] ∧ (Nd.booted self b now).last = 0 := by
  unfold Nd.booted
  split <;> exact ⟨rfl, rfl, rfl, rfl⟩
 obtain ⟨b1, b2, b3, b4⟩ := hb
 have e : ((Nd.booted self b now).write ⟨true, 0, (Nd.booted self b now).seq⟩).recs.length = 1 := by
  show ((Nd.booted self b now).recs ++ [_]).length = 1
  rw [b1]; rfl
 rw [e] at hr
 refine ⟨?_, ?_, ?_, ?_, ?_⟩
 ·exact h1.note
 ·show (Nd.note _).recs.length ≤ 24
  omega
 ·rw [m.names, b2]; simp
 ·rw [m.clk, b3]; simp
 ·rw [m.last, b4]; simp
end

section
open Go.RowKit
theorem mset_k (ws : List (UInt32 × List Str)) (d : UInt32) (l : List Str) : mset ws d l = match kfind (·.1) ws d with | some k => ws.set k (d, l) | none => ws ++ [(d, l)] := by
 have : ∀ ws : List (UInt32 × List Str), mfind ws d = kfind (·.1) ws d := fun ws => by
  induction ws with
  | nil => rfl
  | cons x r ih => simp only [mfind, kfind]; rw [ih]
 unfold mset
 rw [this]
 cases kfind (·.1) ws d <;> rfl
theorem wait_view (r : Nat) {vs : List (Option Addr × Nat × Nat)} {ws : List (UInt32 × List Str)} (hl : vs.length = ws.length) (d : UInt32) : ∃ R, (∀ Z, Ent (waitQ r vs ws * Z) (mp u32 slV' r (wmap vs ws) * (rows 9 1 strCc (optV slV' (.slice none 0 0) (mget (wmap vs ws) d)) ((mget ws d).getD []) * (R * Z)))) ∧
  (∀ Z, Ent (mp u32 slV' r (wmap vs ws) * (rows 9 1 strCc (optV slV' (.slice none 0 0) (mget (wmap vs ws) d)) ((mget ws d).getD []) * (R * Z))) (waitQ r vs ws * Z)) ∧
  ∀ v l, ∃ vs', ∀ Z, Ent (mp u32 slV' r (mset (wmap vs ws) d v) * (rows 9 1 strCc (slV' v) l * (R * Z))) (waitQ r vs' (mset ws d l) * Z) := by
 cases hk : kfind (·.1) ws d with
 | none =>
  have h1 : mget (wmap vs ws) d = none := mget_zmap_none (key := fun x : UInt32 × List Str => x.1) hl hk
  have h2 : mget ws d = none := by rw [mget_k, hk]; rfl
  rw [h1, h2]
  refine ⟨textsP vs ws, fun Z => ?_, fun Z => ?_, fun v l => ⟨vs ++ [v], fun Z => ?_⟩⟩
  ·rw [waitQ_eq hl, star_assoc]
   exact Ent.tail _ (Ent.nil _ _ _ _ _)
  ·rw [waitQ_eq hl, star_assoc]
   exact Ent.tail _ (Ent.drop _ _)
  ·have h3 : mset (wmap vs ws) d v = wmap (vs ++ [v]) (ws ++ [(d, l)]) := mset_zmap_none (key := fun x : UInt32 × List Str => x.1) v (d, l) rfl hl hk
   rw [h3, mset_k, hk, waitQ_eq (by simp [hl]), textsP_z, textsP_z, zrow_snoc v (d, l) hl, star_assoc, star_assoc]
   exact Ent.refl _
 | some k =>
  obtain ⟨x, hx, hxd⟩ := kfind_some hk
  obtain ⟨v0, hv⟩ : ∃ v, vs[k]? = some v := ⟨_, List.getElem?_eq_getElem (by rw [hl]; exact (List.getElem?_eq_some_iff.1 hx).1)⟩
  have h1 : mget (wmap vs ws) d = some v0 := mget_zmap_some (key := fun x : UInt32 × List Str => x.1) hl hk hv
  have h2 : mget ws d = some x.2 := by rw [mget_k, hk]; simp [hx]
  obtain ⟨F1, e1, e2, _⟩ := zrow_hole txP hv hx
  rw [h1, h2]
  refine ⟨F1, fun Z => ?_, fun Z => ?_, fun v l => ⟨vs.set k v, fun Z => ?_⟩⟩
  ·rw [waitQ_eq hl, textsP_z, e1, star_assoc, star_assoc]
   exact Ent.refl _
  ·rw [waitQ_eq hl, textsP_z, e1, star_assoc, star_assoc]
   exact Ent.refl _
  ·have h3 : mset (wmap vs ws) d v = wmap (vs.set k v) (ws.set k (d, l)) := mset_zmap_some (key := fun x : UInt32 × List Str => x.1) v (d, l) rfl hl hk
   rw [h3, mset_k, hk, waitQ_eq (by simp [hl]), textsP_z, e2, star_assoc, star_assoc]
   exact Ent.refl _
section
variable {P : Program} {n : Frm} {w0 : World} {E : Env} {D : List Deferred} {H F F1 F2 F3 F4 : HProp} {Q : Exit → St → Prop} {l l' : List Oper}
theorem WS_drawJ4 {id : Nat} (g1 g2 g3 g4 : Nat) (L : HProp) (idx : List Nat) (cp : Nat) (bs : List Nat) {bt bt2 bt3 bt4 : TypeId} {cs cs2 cs3 cs4 : List Value} (hs : statD P l idx (inB bs) cp = true) (hl : permL l idx = some l') (hR : LimbB H g1 bt cs F1) (hR2 : LimbB F1 g2 bt2 cs2 F2) (hR3 : LimbB F2 g3 bt3 cs3 F3) (hR4 : LimbB F3 g4 bt4 cs4 F4) (hL : Own F4 L F) (h : DL P n w0 l.toArray Q D (cel g1 bt cs * (cel g2 bt2 cs2 * (cel g3 bt3 cs3 * cel g4 bt4 cs4))) L (inB bs) cp 0 false l' E F) : WS P n w0 (.region id l.toArray true) Q ⟨E, D, H⟩ :=
 WS_draw idx l' (cel g1 bt cs * (cel g2 bt2 cs2 * (cel g3 bt3 cs3 * cel g4 bt4 cs4))) L F _ cp hs (by rw [hR.eq, hR2.eq, hR3.eq, hR4.eq, hL.eq]; simp only [star_assoc]) (permL_eq hl) h
end
instance asKey_sl (A : Option Addr) (m c : Nat) : AsKey slV' (.slice A m c) (A, m, c) := ⟨rfl⟩
section
variable {P : Program} {n : Frm} {w0 : World} {E : Env} {D : List Deferred} {H F F2 : HProp} {Q : Exit → St → Prop} {x y : Code} {σ : St}
theorem WS_mid (I : St → Prop) (h : WS P n w0 x (thenS (fun σ' => ∃ τ', I τ' ∧ τ'.E.sub σ'.E ∧ τ'.D = σ'.D ∧ Ent σ'.H τ'.H) Q) σ) (hm : ∀ τ, I τ → WS P n w0 y Q τ) : WS P n w0 (.seq x y) Q σ := WS_seq (h.mono fun e σ' h => by
 cases e with
 | normal =>
  obtain ⟨τ', hI, e1, e2, e3⟩ := h
  exact fun a w g => hm τ' hI a w (g.low e1 e2 e3)
 | _ => exact h)
variable {α : Type} {e : TypeId} {size bytes : Nat} {f : α → List Value} {v u : Value} {l : List α} {d : Option Tmp} {ty t : TypeId} {pos : String} {after : Array Edge} {gu : Option (Nat × Bool)} {x' y' : Operand}
theorem H_appendRF {ys : List α} (hx : E.ev x' = some v) (hy : E.ev y' = some u) (hl : RowsOf H v α e size f l F) {f' : α → List Value} (hl2 : RowsOf F u α e size f' ys F2) (hff : f' = f) (hT : SlTC P t e size bytes) (hf : FixLen f size) (h1 : ∀ z, ∀ c ∈ f z, c.oneCell' = true) (hn : l.length + ys.length ≤ 1000000) (hby : Nat.ble bytes 1000 = true) :
  OpH P n w0 ⟨d, .call ⟨.builtin .append, #[x', y'], #[t, t]⟩, ty, pos, after, gu⟩ E H (fun p : Option Addr × Nat × Nat => slV' p) (fun p => rows e size f (slV' p) (l ++ ys) * (rows e size f u ys * F2)) := by
 subst hff
 refine ⟨rows e size f' v l * rows e size f' u ys, fun p => rows e size f' (slV' p) (l ++ ys) * rows e size f' u ys, F2, ?_, by rw [hl.eq, hl2.eq, star_assoc], fun _ => by rw [star_assoc]⟩
 have h := T_append (n := n) (w0 := w0) (E := E) (d := d) (ty := ty) (pos := pos) (after := after) (gu := gu) ys (rows e size f' u ys) hx hy hT.out (.inl hT.out.ht) hf h1 (fun w G hs => Src.own hs.p2) hn (Nat.le_of_ble_eq_true hby)
 exact fun G a w K Q s hs hK => h G a w K Q s hs fun v' w' hs' => by
  obtain ⟨A, c, rfl⟩ := rows_form (hs'.cast (star_assoc _ _ _))
  exact hK (A, (l ++ ys).length, c) w' hs'
end
def tlK (A : Option Addr) (m c : Nat) : Option Addr × Nat × Nat := match sTail 1 (.slice A m c) 1 with
 | .slice a b c => (a, b, c)
 | _ => (none, 0, 0)
instance asKey_tl (A : Option Addr) (m c : Nat) : AsKey slV' (sTail 1 (.slice A m c) 1) (tlK A m c) := ⟨rfl⟩
theorem slV_tl (A : Option Addr) (m c : Nat) : slV' (tlK A m c) = sTail 1 (.slice A m c) 1 := rfl
instance asKey_sv (p : Option Addr × Nat × Nat) : AsKey slV' (slV' p) p := ⟨rfl⟩
def nodM (g : Nat) (s : Nd) (h : NH) (m : List (UInt32 × (Option Addr × Nat × Nat))) (v : Value) (l : List Str) (R : HProp) : HProp :=
 cel g 159 (nodC 1 s h s.out) * (rows 28 3 Rec.cells h.vr s.recs * (mp u32 u32 h.rh s.held * (tabQ h.tb s.self s.ls * (outH h s.out * (mp rqV u64 h.rs s.seen * (rows 269 2 rqC h.vo s.order * (mp u32 slV' h.rw m * (rows 9 1 strCc v l * (R * (mp u32 ptrV h.rq (qmap h.sb s.srs) * (mp i64 ptrV h.ri (imap h.sb s.srs) * (srsQ g h.sb s.srs * (clockQ h.cb h.cr s.last s.clk * rows 24 1 wrd64C h.vs s.sent)))))))))))))
def restW (g : Nat) (s : Nd) (h : NH) (Z : HProp) : HProp := cel g 159 (nodC 1 s h s.out) * (rows 28 3 Rec.cells h.vr s.recs * (mp u32 u32 h.rh s.held * (tabQ h.tb s.self s.ls * (outH h s.out * (mp rqV u64 h.rs s.seen * (rows 269 2 rqC h.vo s.order * (mp u32 ptrV h.rq (qmap h.sb s.srs) * (mp i64 ptrV h.ri (imap h.sb s.srs) * (srsQ g h.sb s.srs * (clockQ h.cb h.cr s.last s.clk * (rows 24 1 wrd64C h.vs s.sent * Z)))))))))))
theorem nodP_w (g : Nat) (s : Nd) (h : NH) (Z : HProp) : nodP g s h * Z = waitQ h.rw h.wv s.wait * restW g s h Z := by
 unfold nodP nodPm restP restC restW
 ac_rfl
theorem nodM_w (g : Nat) (s : Nd) (h : NH) (m : List (UInt32 × (Option Addr × Nat × Nat))) (v : Value) (l : List Str) (R Z : HProp) : nodM g s h m v l R * Z = mp u32 slV' h.rw m * (rows 9 1 strCc v l * (R * restW g s h Z)) := by
 unfold nodM restW
 ac_rfl
theorem nodM_out {g : Nat} {s : Nd} {h : NH} {m : List (UInt32 × (Option Addr × Nat × Nat))} {v : Value} {l : List Str} {R : HProp} {vs' : List (Option Addr × Nat × Nat)} {ws' : List (UInt32 × List Str)} (e : ∀ Z, Ent (mp u32 slV' h.rw m * (rows 9 1 strCc v l * (R * Z))) (waitQ h.rw vs' ws' * Z)) (Z : HProp) : Ent (nodM g s h m v l R * Z) (nodP g { s with wait := ws' } { h with wv := vs' } * Z) := by
 rw [nodP_w, nodM_w]
 exact e _
theorem WS_waits {P : Program} {n : Frm} {w0 : World} {E : Env} {D : List Deferred} {F : HProp} {c : Code} {Q : Exit → St → Prop} {g : Nat} {s : Nd} {h : NH} (d : UInt32) (hwv : h.wv.length = s.wait.length)
  (hw : ∀ A cap R, optV slV' (.slice none 0 0) (mget (wmap h.wv s.wait) d) = .slice A (s.texts d).length cap →
   (∀ Z, Ent (nodM g s h (wmap h.wv s.wait) (.slice A (s.texts d).length cap) (s.texts d) R * Z) (nodP g s h * Z)) →
   (∀ v l, ∃ vs', ∀ Z, Ent (nodM g s h (mset (wmap h.wv s.wait) d v) (slV' v) l R * Z) (nodP g { s with wait := mset s.wait d l } { h with wv := vs' } * Z)) →
   WS P n w0 c Q ⟨E, D, nodM g s h (wmap h.wv s.wait) (.slice A (s.texts d).length cap) (s.texts d) R * F⟩) : WS P n w0 c Q ⟨E, D, nodP g s h * F⟩ := by
 obtain ⟨R, e1, e3, e2⟩ := wait_view h.rw hwv d
 intro a w gd
 have hs : Sat w0 w (nodP g s h * F) := gd.sat
 rw [nodP_w] at hs
 have hs2 := (e1 _).sat hs
 obtain ⟨A, cap, hA⟩ := rows_form (hs2.cast (star_left_comm _ _ _))
 have hA' : optV slV' (.slice none 0 0) (mget (wmap h.wv s.wait) d) = .slice A (s.texts d).length cap := hA
 rw [hA] at hs2 e3
 refine hw A cap R hA' (fun Z => ?_) (fun v l => ?_) a w ⟨gd.sees, gd.defers, hs2.cast (by rw [nodM_w]; rfl)⟩
 ·rw [nodP_w, nodM_w]; exact e3 _
 obtain ⟨vs', h1⟩ := e2 v l
 exact ⟨vs', fun Z => nodM_out h1 Z⟩
end

end Go.Proofs.YtapoehkdnglahabGreat

