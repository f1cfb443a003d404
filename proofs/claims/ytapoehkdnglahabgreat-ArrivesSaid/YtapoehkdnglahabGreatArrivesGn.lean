/- A part of what Arrives needs. -/
import Derived.Test.YtapoehkdnglahabGreatArrivesGm
set_option maxHeartbeats 8000000
set_option linter.unusedVariables false
set_option linter.unusedSimpArgs false
set_option linter.unusedSectionVars false
namespace Go.Proofs.YtapoehkdnglahabGreat
section
theorem compR_ne {l : List Rec} (h : l ≠ []) : compR l ≠ [] := by
 obtain ⟨m, r, rfl⟩ : ∃ m r, l = m ++ [r] := ⟨l.dropLast, l.getLast h, (List.dropLast_concat_getLast h).symm⟩
 intro e
 have h1 := lookR_comp (m ++ [r]) r.norm.key
 rw [e, seqOf_snoc, if_pos rfl] at h1
 cases h1
theorem Nd.done_ne {s t : Nd} {now : UInt64} {a b : Nat} (h : (s.begin now).Step t a b) (hn : s.recs ≠ []) : t.done.recs ≠ [] := by
 have h0 := Nd.Step.note { s with now := now, out := OutD.zero, ls := expT now s.ls }
 obtain ⟨W, _, w2, _⟩ := ((h0.trans h).trans (Nd.Step.note t)).wr
 have h1 : t.note.recs ≠ [] := by
  rw [w2]
  intro e
  exact hn (List.append_eq_nil_iff.1 e).1
 unfold Nd.done
 split
 ·exact compR_ne h1
 ·exact h1
theorem Nd.done_self {s t : Nd} {now : UInt64} {a b : Nat} (h : (s.begin now).Step t a b) : t.done.self = s.self := by
 rw [t.done_same.1, h.self, Nd.begin_self]
structure Nd.Went (s t : Nd) (c : Nat) : Prop where
  rest : t.Rest c
  self : t.self = s.self
  joins : Joins (recsB s.recs) t t.out
  ne : s.recs ≠ [] → t.recs ≠ []
  pks : t.out.Pks
theorem Nd.Rest.wentTick {s : Nd} {c : Nat} (h : s.Rest c) (hc : c ≤ 8500) {now : UInt64} (hn : now.toNat ≤ 4611686018427387904) : s.Went (s.tickF now) (c + 1) := by
 obtain ⟨i, _, hT⟩ := Nd.tick_run (h.ready hc hn)
 exact ⟨h.tick hc hn, Nd.done_self hT.step, Nd.joins hT.step, Nd.done_ne hT.step, Nd.tickF_pks _ _⟩
theorem Nd.Rest.wentRcv {s : Nd} {c : Nat} (h : s.Rest c) (now : UInt64) (src : UInt32) (f : Str) : s.Went (s.rcvF now src f) c := by
 have hs := Nd.Step.rcv (h.inv.begin now) now src f
 exact ⟨h.rcv _ _ _, Nd.done_self hs, Nd.joins hs, Nd.done_ne hs, Nd.rcvF_pks _ _ _ _⟩
theorem Nd.Rest.wentBrk {s : Nd} {c : Nat} (h : s.Rest c) (now : UInt64) (nb : UInt32) : s.Went (s.brkF now nb) c := by
 have hs := Nd.Step.brk (s.begin now) nb
 exact ⟨h.brk _ _, Nd.done_self hs, Nd.joins hs, Nd.done_ne hs, Nd.brkF_pks _ _ _⟩
theorem Nd.Rest.wentSend {s : Nd} {c : Nat} (h : s.Rest c) {now : UInt64} (hn : now.toNat ≤ 4611686018427387904) (d : UInt32) (t : Str) (ht : t.length ≤ 16) : s.Went (s.sendF now d t) (c + 1) := by
 have hs := Nd.Step.sendT (s.begin now) d t
 exact ⟨h.send hn d t ht, Nd.done_self hs, Nd.joins hs, Nd.done_ne hs, Nd.sendF_pks _ _ _ _⟩
theorem Nd.new_self (self : UInt32) (b : Str) (now : UInt64) : (Nd.new self b now).self = self := by
 rw [(Nd.new_same self b now).self]
 unfold Nd.booted
 split <;> rfl
theorem Nd.new_ne (self : UInt32) (b : Str) (now : UInt64) : (Nd.new self b now).recs ≠ [] := by
 obtain ⟨W, _, w2, _⟩ := (Nd.Step.note ((Nd.booted self b now).write ⟨true, 0, (Nd.booted self b now).seq⟩)).wr
 show (Nd.note _).recs ≠ []
 rw [w2]
 intro e
 have := (List.append_eq_nil_iff.1 e).1
 simp [Nd.write] at this
theorem Nd.new_frames (self : UInt32) (b : Str) (now : UInt64) : (Nd.newO self b now).frames = [] ∧ (Nd.newO self b now).came = [] ∧ (Nd.newO self b now).dropped = [] := by
 have m := Nd.new_same self b now
 have hb : (Nd.booted self b now).out = OutD.zero := by unfold Nd.booted; split <;> rfl
 refine ⟨?_, ?_, ?_⟩
 ·exact m.frames.trans (by rw [hb]; rfl)
 ·exact m.came.trans (by rw [hb]; rfl)
 ·exact m.dropped.trans (by rw [hb]; rfl)
structure Sta.Sound (s : Sta) (c : Nat) : Prop where
  node : ∀ n, s.node = some n → n.Rest c ∧ n.self = s.addr ∧ s.journal = recsB n.recs ∧ n.recs ≠ []
  jour : s.journal.length ≤ 312
  tear : 0 ≤ s.tear ∧ s.tear ≤ 9223372036854775807
structure Sta.Says (s : Sta) (o : OutD) (c : Nat) : Prop where
  node : ∃ n, s.node = some n ∧ n.Rest c ∧ n.self = s.addr ∧ Joins s.journal n o ∧ n.recs ≠ []
  jour : s.journal.length ≤ 312
  tear : 0 ≤ s.tear ∧ s.tear ≤ 9223372036854775807
theorem recsB_24 {n : Nd} {c : Nat} (h : n.Rest c) : (recsB n.recs).length ≤ 312 := by
 rw [recsB_length]
 have := h.recs
 omega
theorem Sta.Says.wrote {s : Sta} {o : OutD} {c : Nat} (h : s.Says o c) : (s.write o).Sound c := by
 obtain ⟨n, h1, h2, h3, h4, h5⟩ := h.node
 have hj : (s.write o).journal = recsB n.recs := h4
 refine ⟨fun m hm => ?_, by rw [hj]; exact recsB_24 h2, h.tear⟩
 have hm' : s.node = some m := hm
 rw [h1] at hm'
 cases hm'
 exact ⟨h2, h3, hj, h5⟩
theorem Sta.Says.torn {s : Sta} {o : OutD} {c : Nat} (h : s.Says o c) : (s.torn o).Sound c := by
 obtain ⟨n, h1, h2, h3, h4, h5⟩ := h.node
 have h6 := recsB_24 h2
 unfold Joins at h4
 unfold Sta.torn Sta.stop
 refine ⟨fun m hm => (by cases hm), ?_, ?_⟩
 ·split
  ·exact h.jour
  ·rename_i hr
   rw [if_neg hr] at h4
   rw [← h4, List.length_append] at h6
   show (s.journal ++ s.part o).length ≤ 312
   unfold Sta.part
   rw [List.length_append, List.length_take]
   omega
 ·show 0 ≤ Sta.tear (if o.replace then s else { s with journal := s.journal ++ s.part o }) ∧ _
  split <;> exact h.tear
theorem Sta.Says.quiet {s : Sta} {o : OutD} {c : Nat} (h : s.Says o c) (ho : o.journal = []) : s.Sound c := by
 obtain ⟨n, h1, h2, h3, h4, h5⟩ := h.node
 unfold Joins at h4
 rw [ho, List.append_nil] at h4
 have hj : s.journal = recsB n.recs := by
  split at h4
  ·exfalso
   have := congrArg List.length h4
   rw [recsB_length] at this
   have h0 : 0 < n.recs.length := List.length_pos_iff.2 h5
   simp at this
   omega
  ·exact h4
 refine ⟨fun m hm => ?_, h.jour, h.tear⟩
 rw [h1] at hm
 cases hm
 exact ⟨h2, h3, hj, h5⟩
theorem Sta.Sound.mono {s : Sta} {c d : Nat} (h : s.Sound c) (hd : c ≤ d) : s.Sound d := ⟨fun n hn => ⟨(h.node n hn).1.mono hd, (h.node n hn).2⟩, h.jour, h.tear⟩
theorem Sta.Sound.says {s : Sta} {n t : Nd} {c d : Nat} (h : s.Sound c) (hn : s.node = some n) (hw : n.Went t d) : (s.run t).Says t.out d := by
 obtain ⟨h1, h2, h3, h4⟩ := h.node n hn
 refine ⟨⟨t, rfl, hw.rest, hw.self.trans h2, ?_, hw.ne h4⟩, h.jour, h.tear⟩
 show Joins s.journal t t.out
 rw [h3]
 exact hw.joins
structure Ms.AirOk (m : Ms) : Prop where
  few : m.air.length ≤ 48
  each : ∀ f ∈ m.air, f.src < m.sts.length ∧ f.dst < m.sts.length ∧ f.bytes.length ≤ 100000
theorem Ms.fly_mem {m : Ms} {f x : Fl} (h : x ∈ (m.fly f).air) : x ∈ m.air ∨ x = f := by
 have h' : x ∈ m.air ++ [f] := by
  unfold Ms.fly at h
  simp only at h
  split at h
  ·exact (List.eraseIdx_sublist _ _).subset h
  ·exact h
 rcases List.mem_append.1 h' with h' | h'
 ·exact .inl h'
 ·simp at h'; exact .inr h'
theorem Ms.AirOk.fly {m : Ms} (h : m.AirOk) {f : Fl} (h1 : f.src < m.sts.length) (h2 : f.dst < m.sts.length) (h3 : f.bytes.length ≤ 100000) : (m.fly f).AirOk := by
 refine ⟨?_, fun x hx => ?_⟩
 ·have hf := h.few
  unfold Ms.fly
  simp only
  split
  ·rw [List.length_eraseIdx]; simp; omega
  ·rename_i hn; omega
 ·show x.src < m.sts.length ∧ x.dst < m.sts.length ∧ _
  rcases Ms.fly_mem hx with hx | rfl
  ·exact h.each x hx
  ·exact ⟨h1, h2, h3⟩
structure Ms.Kept (m m' : Ms) (i : Nat) : Prop where
  now : m'.now = m.now
  hears : m'.hears = m.hears
  addrs : m'.sts.map (·.addr) = m.sts.map (·.addr)
  other : ∀ k, k ≠ i → m'.sts[k]? = m.sts[k]?
theorem Ms.Kept.rfl' (m : Ms) (i : Nat) : m.Kept m i := ⟨rfl, rfl, rfl, fun _ _ => rfl⟩
theorem Ms.Kept.trans {m m1 m2 : Ms} {i : Nat} (h : m.Kept m1 i) (k : m1.Kept m2 i) : m.Kept m2 i := ⟨k.now.trans h.now, k.hears.trans h.hears, k.addrs.trans h.addrs, fun j hj => (k.other j hj).trans (h.other j hj)⟩
theorem Ms.Kept.length {m m' : Ms} {i : Nat} (h : m.Kept m' i) : m'.sts.length = m.sts.length := by
 have := congrArg List.length h.addrs
 simpa using this
theorem Ms.Kept.mod {m : Ms} {i : Nat} {f : Sta → Sta} (hf : ∀ s, (f s).addr = s.addr) : m.Kept (m.mod i f) i := by
 refine ⟨rfl, rfl, ?_, fun k hk => ?_⟩
 ·show (m.sts.modify i f).map (·.addr) = _
  apply List.ext_getElem?
  intro k
  rw [List.getElem?_map, List.getElem?_modify, List.getElem?_map]
  cases m.sts[k]? with
  | none => rfl
  | some s => simp only [Option.map_eq_map, Option.map_some]; split <;> simp [hf]
 ·show (m.sts.modify i f)[k]? = _
  rw [List.getElem?_modify]
  cases m.sts[k]? with
  | none => rfl
  | some s => simp [Ne.symm hk]
theorem Ms.mod_at {m : Ms} {i : Nat} {f : Sta → Sta} {s : Sta} (h : m.sts[i]? = some s) : (m.mod i f).sts[i]? = some (f s) := by
 show (m.sts.modify i f)[i]? = _
 rw [List.getElem?_modify, h]
 simp
theorem Ms.Kept.event (m : Ms) (e : Ev) (i : Nat) : m.Kept (m.event e) i := ⟨rfl, rfl, rfl, fun _ _ => rfl⟩
theorem Ms.Kept.fly (m : Ms) (f : Fl) (i : Nat) : m.Kept (m.fly f) i := ⟨rfl, rfl, rfl, fun _ _ => rfl⟩
theorem Sta.torn_addr (s : Sta) (o : OutD) : (s.torn o).addr = s.addr := by
 unfold Sta.torn Sta.stop
 split <;> rfl
theorem Ms.castN_keep {m : Ms} {i : Nat} {b : Str} (hi : i < m.sts.length) (hb : b.length ≤ 100000) : ∀ k, k ≤ m.sts.length → (Ms.castN i b k m).sts = m.sts ∧ (Ms.castN i b k m).now = m.now ∧ (Ms.castN i b k m).hears = m.hears ∧ (Ms.castN i b k m).evs = m.evs ∧ (m.AirOk → (Ms.castN i b k m).AirOk)
 | 0, _ => ⟨rfl, rfl, rfl, rfl, fun h => h⟩
 | k + 1, hk => by
  obtain ⟨h1, h2, h3, h4, h5⟩ := Ms.castN_keep (m := m) (i := i) (b := b) hi hb k (by omega)
  unfold Ms.castN
  split
  ·refine ⟨h1, h2, h3, h4, fun h => (h5 h).fly ?_ ?_ hb⟩
   ·show i < (Ms.castN i b k m).sts.length; rw [h1]; exact hi
   ·show k < (Ms.castN i b k m).sts.length; rw [h1]; omega
  ·exact ⟨h1, h2, h3, h4, h5⟩
theorem stFind_lt : ∀ {sts : List Sta} {a : UInt32} {j : Nat}, stFind sts a = some j → ∃ s, sts[j]? = some s ∧ s.addr = a
 | [], _, _, h => by cases h
 | s :: r, a, j, h => by
  simp only [stFind] at h
  split at h
  ·rename_i e; cases h; exact ⟨s, rfl, e⟩
  ·cases hr : stFind r a with
   | none => rw [hr] at h; cases h
   | some k => rw [hr] at h; cases h; obtain ⟨s', h1, h2⟩ := stFind_lt hr; exact ⟨s', by simpa using h1, h2⟩
structure Ms.Did (m m' : Ms) (i c : Nat) (n : Nat) : Prop where
  kept : m.Kept m' i
  here : ∃ s, m'.sts[i]? = some s ∧ s.Sound c
  air : m.AirOk → m'.AirOk
  evs : m'.evs.length ≤ m.evs.length + n
theorem Ms.Did.frame {sub : Ms → OutD → Ms} {m : Ms} {i c n : Nat} {s : Sta} (hs : m.sts[i]? = some s) (hso : s.Sound c) (f : UInt32 × Str) (hf : f.2.length ≤ 100000)
  (hsub : f.1 ≠ 0 → ∀ t : Nd, s.node = some t → m.Did (sub (m.mod i (·.run (t.brkF m.now f.1))) (t.brkF m.now f.1).out) i c n) : m.Did (Ms.frameO sub i m f) i c n := by
 have hi := (List.getElem?_eq_some_iff.1 hs).1
 unfold Ms.frameO
 split
 ·obtain ⟨h1, h2, h3, h4, h5⟩ := Ms.castN_keep hi hf m.sts.length (Nat.le_refl _)
  exact ⟨⟨h2, h3, by rw [h1], fun k _ => by rw [h1]⟩, ⟨s, by rw [h1]; exact hs, hso⟩, h5, by rw [h4]; omega⟩
 ·rename_i hto
  split
  ·rename_i hfi
   cases hst : stFind m.sts f.1 with
   | none => rw [hst] at hfi; cases hfi
   | some j =>
    obtain ⟨s', h1, _⟩ := stFind_lt hst
    refine ⟨Ms.Kept.fly _ _ _, ⟨s, hs, hso⟩, fun h => h.fly hi ?_ hf, Nat.le_add_right _ _⟩
    exact (List.getElem?_eq_some_iff.1 h1).1
  ·rw [hs]
   simp only [Option.bind_some]
   cases hn : s.node with
   | none => exact ⟨Ms.Kept.rfl' _ _, ⟨s, hs, hso⟩, fun h => h, Nat.le_add_right _ _⟩
   | some t => exact hsub hto t hn
theorem Ms.Did.emitR {sub : Ms → OutD → Ms} {m : Ms} {i c n : Nat} {o : OutD} {s : Sta} (hs : m.sts[i]? = some s) (hso : s.Says o c) (hf : ∀ f ∈ o.frames, f.2.length ≤ 100000)
  (hsub : ∀ f ∈ o.frames, f.1 ≠ 0 → ∀ (m' : Ms) (s' : Sta) (t : Nd), m.Kept m' i → m'.sts[i]? = some s' → s'.Sound c → s'.node = some t → m'.Did (sub (m'.mod i (·.run (t.brkF m'.now f.1))) (t.brkF m'.now f.1).out) i c n) : m.Did (Ms.emitR sub i m o) i c (1 + o.frames.length * n) := by
 unfold Ms.emitR
 split
 ·rename_i ho
  have hj : o.journal = [] := by
   unfold OutD.none at ho
   simp only [Bool.and_eq_true, List.isEmpty_iff] at ho
   exact ho.1.1.1
  exact ⟨Ms.Kept.rfl' _ _, ⟨s, hs, hso.quiet hj⟩, fun h => h, by omega⟩
 ·rw [hs]
  simp only
  split
  ·refine ⟨(Ms.Kept.mod fun s => Sta.torn_addr s o).trans (Ms.Kept.event _ _ _), ⟨s.torn o, Ms.mod_at hs, hso.torn⟩, fun h => ⟨h.few, fun f hf => ?_⟩, ?_⟩
   ·have := h.each f hf
    show f.src < (m.sts.modify i _).length ∧ f.dst < (m.sts.modify i _).length ∧ _
    rw [List.length_modify]
    exact this
   ·show (m.evs ++ [_]).length ≤ _
    simp
  ·have key : ∀ (l : List (UInt32 × Str)) (m' : Ms), (∀ f ∈ l, f ∈ o.frames) → m.Kept m' i → (∃ s', m'.sts[i]? = some s' ∧ s'.Sound c) → m'.Did (l.foldl (Ms.frameO sub i) m') i c (l.length * n) := by
    intro l
    induction l with
    | nil => intro m' _ _ ⟨s', h1, h2⟩; exact ⟨Ms.Kept.rfl' _ _, ⟨s', h1, h2⟩, fun h => h, by simp⟩
    | cons f l ih =>
     intro m' hl hk ⟨s', h1, h2⟩
     have hff := hl f (by simp)
     have h3 := Ms.Did.frame (n := n) h1 h2 f (hf f hff) fun hz t ht => hsub f hff hz m' s' t hk h1 h2 ht
     have h4 := ih (Ms.frameO sub i m' f) (fun x hx => hl x (by simp [hx])) (hk.trans h3.kept) h3.here
     rw [List.foldl_cons]
     exact ⟨h3.kept.trans h4.kept, h4.here, fun h => h4.air (h3.air h), by have := h3.evs; have := h4.evs; rw [List.length_cons, Nat.succ_mul]; omega⟩
   have h0 : m.Kept ((m.mod i (·.write o)).event ⟨i, 0, o⟩) i := (Ms.Kept.mod (f := fun x => x.write o) fun s => rfl).trans (Ms.Kept.event _ _ _)
   have h1 := key o.frames _ (fun f hf => hf) h0 ⟨s.write o, Ms.mod_at hs, hso.wrote⟩
   refine ⟨h0.trans h1.kept, h1.here, fun h => h1.air ⟨h.few, fun f hf => ?_⟩, ?_⟩
   ·have := h.each f hf
    show f.src < (m.sts.modify i _).length ∧ f.dst < (m.sts.modify i _).length ∧ _
    rw [List.length_modify]
    exact this
   ·have := h1.evs
    have e : ((m.mod i (·.write o)).event ⟨i, 0, o⟩).evs.length = m.evs.length + 1 := by show (m.evs ++ [_]).length = _; simp
    omega
theorem Ms.Did.emit0 {m : Ms} {i c : Nat} {o : OutD} {s : Sta} (hs : m.sts[i]? = some s) (hso : s.Says o c) (hf : ∀ f ∈ o.frames, f.2.length ≤ 100000) (h0 : ∀ f ∈ o.frames, f.1 = 0) : m.Did (Ms.emit0 i m o) i c 1 := by
 have := Ms.Did.emitR (sub := fun m _ => m) (n := 0) hs hso hf (fun f hf hz => absurd (h0 f hf) hz)
 simpa [Ms.emit0] using this
theorem Ms.Did.run {m m' : Ms} {i c n : Nat} {t : Nd} (h : (m.mod i (·.run t)).Did m' i c n) : m.Did m' i c n := by
 have hk : m.Kept (m.mod i (·.run t)) i := Ms.Kept.mod (f := fun x => x.run t) fun s => rfl
 refine ⟨hk.trans h.kept, h.here, fun ha => h.air ⟨ha.few, fun f hf => ?_⟩, h.evs⟩
 have := ha.each f hf
 rw [hk.length]
 exact this
theorem Ms.Did.emit {m : Ms} {i c : Nat} {o : OutD} {s : Sta} (hs : m.sts[i]? = some s) (hso : s.Says o c) (hf : ∀ f ∈ o.frames, f.2.length ≤ 100000) : m.Did (Ms.emit i m o) i c (1 + o.frames.length) := by
 have := Ms.Did.emitR (sub := Ms.emit0 i) (n := 1) hs hso hf (fun f hf hz m' s' t _ h1 h2 ht => by
  have hw := (h2.node t ht).1.wentBrk m'.now f.1
  exact Ms.Did.run (Ms.Did.emit0 (Ms.mod_at h1) (h2.says ht hw) hw.pks.le (Nd.brkF_all _ _ _)))
 simpa [Ms.emit] using this
end

section
theorem lget_set_other {ls : List Ln} {i : Nat} {l x : Ln} {e : UInt32} (hl : ls[i]? = some l) (hd : x.dest = l.dest) (he : e ≠ l.dest) : lget (ls.set i x) e = lget ls e := by
 unfold lget
 rw [lfind_set hl hd]
 cases hf : lfind ls e with
 | none => rfl
 | some j =>
  obtain ⟨y, hy, hye⟩ := lfind_some hf
  have : i ≠ j := fun h => by subst h; rw [hl] at hy; cases hy; exact he hye.symm
  simp only [Option.bind_some]
  rw [List.getElem?_set_ne this]
theorem lget_lmod {f : Ln → Ln} (hf : ∀ l, (f l).dest = l.dest) (ls : List Ln) (d e : UInt32) : lget (lmod ls d f) e = if e = d then (lget ls d).map f else lget ls e := by
 cases h : lfind ls d with
 | none =>
  rw [lmod_none h, lget_none h]
  split
  ·rename_i h1; rw [h1, lget_none h]; rfl
  ·rfl
 | some i =>
  obtain ⟨l, hl, hd⟩ := lfind_some h
  rw [lmod_some h hl, lget_some h hl]
  split
  ·rename_i h1
   subst h1
   exact lget_set h hl ((hf l).trans hd) hd
  ·rename_i h1
   exact lget_set_other hl (hf l) (by rw [hd]; exact h1)
theorem lfind_snoc (ls : List Ln) (x : Ln) (e : UInt32) : lfind (ls ++ [x]) e = match lfind ls e with
  | some i => some i
  | none => if x.dest = e then some ls.length else none := by
 induction ls with
 | nil => simp only [List.nil_append, lfind]; split <;> rfl
 | cons l r ih =>
  rw [List.cons_append]
  simp only [lfind]
  split
  ·rfl
  ·rw [ih]
   cases lfind r e with
   | none => simp only [Option.map_none]; split <;> simp
   | some i => rfl
theorem lget_putT (ls : List Ln) (x : Ln) (e : UInt32) : lget (putT ls x) e = if e = x.dest then some x else lget ls e := by
 unfold putT
 cases h : lfind ls x.dest with
 | some i =>
  obtain ⟨l, hl, hd⟩ := lfind_some h
  simp only
  split
  ·rename_i h1
   subst h1
   exact lget_set h hl rfl hd
  ·rename_i h1
   exact lget_set_other hl hd.symm (by rw [hd]; exact h1)
 | none =>
  simp only
  unfold lget
  rw [lfind_snoc]
  cases hf : lfind ls e with
  | none =>
   simp only
   by_cases h1 : e = x.dest
   ·rw [if_pos h1, if_pos h1.symm]; simp
   ·rw [if_neg h1, if_neg (Ne.symm h1)]; rfl
  | some j =>
   have h1 : e ≠ x.dest := fun h1 => by rw [h1, h] at hf; cases hf
   rw [if_neg h1]
   simp only [Option.bind_some]
   obtain ⟨y, hy, _⟩ := lfind_some hf
   rw [List.getElem?_append_left (List.getElem?_eq_some_iff.1 hy).1]
theorem lget_mem {ls : List Ln} {d : UInt32} {l : Ln} (h : lget ls d = some l) : l ∈ ls ∧ l.dest = d := by
 unfold lget at h
 cases hf : lfind ls d with
 | none => rw [hf] at h; cases h
 | some i =>
  obtain ⟨l', h1, h2⟩ := lfind_some hf
  rw [hf, Option.bind_some, h1] at h
  cases h
  exact ⟨List.mem_of_getElem? h1, h2⟩
variable {E : List Sta} {A : UInt32 → Prop} {a : UInt32} {ρ0 : UInt32 → Int} {G G' : Nat}
end

section
theorem wget_cons (p : UInt32 × List Str) (r : List (UInt32 × List Str)) (d : UInt32) : mget (p :: r) d = if p.1 = d then some p.2 else mget r d := mget_cons p.1 p.2 r d
theorem wdel_cons (p : UInt32 × List Str) (r : List (UInt32 × List Str)) (d : UInt32) : mdel (p :: r) d = if p.1 = d then r else p :: mdel r d := mdel_cons p.1 p.2 r d
variable {T : Str → UInt32 → UInt32 → Prop} {a : UInt32} {B : Str → Nat}
end

section
def rqP (A B : UInt32) (t k : Int) (id sq : UInt32) : Pk := ⟨t, 1, k, true, id, B, 0, A, sq, 0, [], []⟩
def rpP (A B : UInt32) (k : Int) (bq : UInt32) : Pk := ⟨8 - k, 2, k, false, 0, B, bq, A, 0, 6000, [], []⟩
def dtP (A B : UInt32) (k : Int) (tx : Str) : Pk := ⟨8 - k, 9, 0, false, 1, B, 0, A, 0, 0, [], tx⟩
theorem rqP_dec {A B : UInt32} {t k : Int} {id sq : UInt32} (h1 : 1 ≤ t) (h2 : t ≤ 8) (h3 : 0 ≤ k) (h4 : k ≤ 8) : Pk.dec (rqP A B t k id sq).out = some (rqP A B t k id sq) := by
 have hf : (rqP A B t k id sq).Fits := by
  refine ⟨⟨h1, by show t ≤ 255; omega, h3, by show k ≤ 255; omega, by simp [rqP], by simp [rqP]⟩, .inl ⟨rfl, rfl, rfl, rfl, .inr rfl⟩⟩
 rw [Pk.out_fit hf, Pk.dec_bytes hf]
theorem rpP_dec {A B : UInt32} {k : Int} {bq : UInt32} (h3 : 0 ≤ k) (h4 : k ≤ 7) : Pk.dec (rpP A B k bq).out = some (rpP A B k bq) := by
 have hf : (rpP A B k bq).Fits := by
  refine ⟨⟨by show 1 ≤ 8 - k; omega, by show 8 - k ≤ 255; omega, h3, by show k ≤ 255; omega, by simp [rpP], by simp [rpP]⟩, .inr (.inl ⟨rfl, rfl, rfl, rfl, rfl, rfl⟩)⟩
 rw [Pk.out_fit hf, Pk.dec_bytes hf]
theorem dtP_dec {A B : UInt32} {k : Int} {tx : Str} (h3 : 0 ≤ k) (h4 : k ≤ 7) (ht : tx.length ≤ 16) : Pk.dec (dtP A B k tx).out = some (dtP A B k tx) := by
 have hf : (dtP A B k tx).Fits := by
  refine ⟨⟨by show 1 ≤ 8 - k; omega, by show 8 - k ≤ 255; omega, by show (0 : Int) ≤ 0; omega, by show (0 : Int) ≤ 255; omega, ht, by simp [dtP]⟩, .inr (.inr (.inr ⟨rfl, rfl, rfl, rfl, rfl, rfl, rfl⟩))⟩
 rw [Pk.out_fit hf, Pk.dec_bytes hf]
theorem mget_mdel_none {κ ν : Type} [DecidableEq κ] {m : List (κ × ν)} {x : κ} (h : mget m x = none) (k : κ) : mget (mdel m k) x = none := by
 rw [mget_none_iff] at *
 exact fun hm => h (((mdel_sublist m k).map _).subset hm)
theorem remAll_none {now : UInt64} {m : List (Rq × UInt64)} {x : Rq} (h : mget m x = none) (l : List Rq) : mget (remAll now m l).1 x = none := by
 induction l using snocInd with
 | nil => exact h
 | snoc l y ih =>
  rw [remAll_snoc]
  unfold remStep
  split
  ·exact ih
  ·exact mget_mdel_none ih y
theorem seenAt_none {m : List (Rq × UInt64)} {x : Rq} (h : mget m x = none) : seenAt m x = 0 := by unfold seenAt; rw [h]; rfl
structure Remd (s t : Nd) (r : Rq) : Prop where
  rest : t = { s with seen := t.seen, order := t.order }
  order : t.order.length ≤ s.order.length + 1
  it : mget t.seen r = some (s.now + 1280)
  others : ∀ x, x ≠ r → mget s.seen x = none → mget t.seen x = none
theorem Nd.remembered {s : Nd} (r : Rq) (h : s.order.length ≤ 14) : Remd s (s.remember r) r := by
 have hl := remAll_length s.now s.seen s.order
 unfold Nd.remember
 simp only
 rw [if_pos (by simp; omega)]
 refine ⟨rfl, by simp; omega, by simp [mget_mset], fun x hx hn => ?_⟩
 show mget (mset _ r _) x = none
 rw [mget_mset, if_neg (Ne.symm hx)]
 exact remAll_none hn _
theorem mem_putT {ls : List Ln} {x l : Ln} (h : l ∈ putT ls x) : l ∈ ls ∨ l = x := by
 unfold putT at h
 split at h
 ·exact List.mem_or_eq_of_mem_set h
 ·rcases List.mem_append.1 h with h | h
  ·exact .inl h
  ·simp at h; exact .inr h
theorem updT_new {me : UInt32} {ls : List Ln} {x : Ln} (h1 : x.dest ≠ me) (h2 : x.dest ≠ 0) (h3 : ls.length < 8) (h4 : ∀ l, lget ls x.dest = some l → l.rk < (x.seq.toNat : Int)) : updT me ls x = (0, putT ls { x with valid := true, before := [] }) := by
 unfold updT
 rw [if_neg (by rintro (h | h); exact h1 h; exact h2 h)]
 cases hg : lget ls x.dest with
 | none => simp only; rw [if_neg (by omega)]
 | some l =>
  have := h4 l hg
  simp only
  rw [if_neg (by omega)]
theorem lookT_some {ls : List Ln} {d : UInt32} {now : UInt64} {l : Ln} (h1 : lget ls d = some l) (h2 : l.valid = true) (h3 : now < l.expires) : lookT ls d now = some l := by
 unfold lookT
 rw [h1]
 simp only
 rw [if_pos ⟨h2, h3⟩]
theorem lookT_none {ls : List Ln} {d : UInt32} {now : UInt64} (h1 : lget ls d = none) : lookT ls d now = none := by
 unfold lookT
 rw [h1]
theorem two_dests {ls : List Ln} {A B : UInt32} (hn : (dests ls).Nodup) (h : ∀ l ∈ ls, l.dest = A ∨ l.dest = B) : ls.length < 8 := by
 have h1 : dests ls ⊆ [A, B] := by
  intro d hd
  obtain ⟨l, hl, rfl⟩ := List.mem_map.1 hd
  rcases h l hl with h | h <;> simp [h]
 have h2 := List.Nodup.length_le_of_subset hn h1
 simp only [dests, List.length_map, List.length_cons, List.length_nil] at h2
 omega
def viewT (ls : List Ln) (d : UInt32) : Option (UInt32 × Int × UInt32) := (lget ls d).map fun l => (l.seq, l.hops, l.next)
def Good3 (A B : UInt32) (ls : List Ln) : Prop := ∀ l ∈ ls, (l.dest = A ∨ l.dest = B) ∧ l.valid = true ∧ 3000 ≤ l.expires.toNat
structure Like (ls ls' : List Ln) : Prop where
  view : ∀ d, viewT ls' d = viewT ls d
theorem Like.trans {a b c : List Ln} (h : Like a b) (k : Like b c) : Like a c := ⟨fun d => (k.view d).trans (h.view d)⟩
theorem Like.lmod {ls : List Ln} {d : UInt32} {f : Ln → Ln} (hf : ∀ l, (f l).dest = l.dest ∧ (f l).seq = l.seq ∧ (f l).hops = l.hops ∧ (f l).next = l.next) : Like ls (lmod ls d f) := ⟨fun e => by
 unfold viewT
 rw [lget_lmod fun l => (hf l).1]
 split
 ·rename_i h; subst h
  cases lget ls e with
  | none => rfl
  | some l => obtain ⟨h1, h2, h3, h4⟩ := hf l; simp only [Option.map_some, h2, h3, h4]
 ·rfl⟩
theorem Like.use (ls : List Ln) (d : UInt32) (e : UInt64) : Like ls (useT ls d e) := Like.lmod fun l => by split <;> exact ⟨rfl, rfl, rfl, rfl⟩
theorem Like.bef (ls : List Ln) (d n : UInt32) : Like ls (befT ls d n) := Like.lmod fun l => by split <;> exact ⟨rfl, rfl, rfl, rfl⟩
theorem Good3.lmod {A B : UInt32} {ls : List Ln} (h : Good3 A B ls) {d : UInt32} {f : Ln → Ln} (hf : ∀ l, l.valid = true → 3000 ≤ l.expires.toNat → (f l).dest = l.dest ∧ (f l).valid = true ∧ 3000 ≤ (f l).expires.toNat) : Good3 A B (lmod ls d f) := fun l hl => by
 rcases mem_lmod hl with hl | ⟨l', h1, rfl⟩
 ·exact h l hl
 ·obtain ⟨a, b, c⟩ := h l' h1
  obtain ⟨x, y, z⟩ := hf l' b c
  exact ⟨by rw [x]; exact a, y, z⟩
theorem Good3.use {A B : UInt32} {ls : List Ln} (h : Good3 A B ls) (d : UInt32) (e : UInt64) : Good3 A B (useT ls d e) := h.lmod fun l h1 h2 => by
 rw [if_pos h1]
 refine ⟨rfl, h1, ?_⟩
 show 3000 ≤ (max l.expires e).toNat
 show 3000 ≤ (if l.expires ≤ e then e else l.expires).toNat
 split
 ·rename_i h3
  have := UInt64.le_iff_toNat_le.1 h3
  omega
 ·exact h2
theorem Good3.bef {A B : UInt32} {ls : List Ln} (h : Good3 A B ls) (d n : UInt32) : Good3 A B (befT ls d n) := h.lmod fun l h1 h2 => by
 split <;> exact ⟨rfl, h1, h2⟩
theorem Good3.put {A B : UInt32} {ls : List Ln} (h : Good3 A B ls) {x : Ln} (h1 : x.dest = A ∨ x.dest = B) (h2 : x.valid = true) (h3 : 3000 ≤ x.expires.toNat) : Good3 A B (putT ls x) := fun l hl => by
 rcases mem_putT hl with hl | rfl
 ·exact h l hl
 ·exact ⟨h1, h2, h3⟩
theorem viewT_put (ls : List Ln) (x : Ln) (d : UInt32) : viewT (putT ls x) d = if d = x.dest then some (x.seq, x.hops, x.next) else viewT ls d := by
 unfold viewT
 rw [lget_putT]
 split <;> rfl
theorem viewT_some {ls : List Ln} {d : UInt32} {v : UInt32 × Int × UInt32} (h : viewT ls d = some v) : ∃ l, lget ls d = some l ∧ l.seq = v.1 ∧ l.hops = v.2.1 ∧ l.next = v.2.2 := by
 unfold viewT at h
 cases hg : lget ls d with
 | none => rw [hg] at h; cases h
 | some l => rw [hg] at h; cases h; exact ⟨l, rfl, rfl, rfl, rfl⟩
theorem viewT_none {ls : List Ln} {d : UInt32} (h : viewT ls d = none) : lget ls d = none := by
 unfold viewT at h
 cases hg : lget ls d with
 | none => rfl
 | some l => rw [hg] at h; cases h
theorem Good3.look {A B : UInt32} {ls : List Ln} (h : Good3 A B ls) {d : UInt32} {l : Ln} (hg : lget ls d = some l) {now : UInt64} (hn : now.toNat < 3000) : lookT ls d now = some l := by
 obtain ⟨h1, h2⟩ := lget_mem hg
 obtain ⟨_, h3, h4⟩ := h l h1
 exact lookT_some hg h3 (by show now.toNat < l.expires.toNat; omega)
theorem Good3.exp {A B : UInt32} {ls : List Ln} (h : Good3 A B ls) {now : UInt64} (hn : now.toNat < 3000) : expT now ls = ls := by
 unfold expT
 have : ∀ l ∈ ls, Ln.exp now l = l := fun l hl => by
  obtain ⟨_, h3, h4⟩ := h l hl
  unfold Ln.exp
  rw [if_neg]
  rintro ⟨_, h5⟩
  have := UInt64.le_iff_toNat_le.1 h5
  omega
 rw [List.map_congr_left this, List.map_id']
structure Kept (s t : Nd) (now : UInt64) : Prop where
  now : t.now = now
  self : t.self = s.self
  silent : t.silent = s.silent
  seq : t.seq = s.seq
  wait : t.wait = s.wait
  srs : t.srs = s.srs
  clk : t.clk = s.clk
  last : t.last = s.last
  names : t.names = s.names
  ids : t.ids = s.ids
  datas : t.datas = s.datas
  sent : t.sent = s.sent
theorem Nd.begun (s : Nd) (now : UInt64) : Kept s (s.begin now) now ∧ (s.begin now).seen = s.seen ∧ (s.begin now).order = s.order := by
 have h := Nd.Same.note { s with now := now, out := OutD.zero, ls := expT now s.ls }
 exact ⟨⟨h.now, h.self, h.silent, h.seq, h.wait, h.srs, h.clk, h.last, h.names, h.ids, h.datas, h.sent⟩, h.seen, h.order⟩
structure Ended (u t : Nd) : Prop where
  kept : Kept u t u.now
  ls : t.ls = u.ls
  seen : t.seen = u.seen
  order : t.order = u.order
  frames : t.out.frames = u.out.frames
  came : t.out.came = u.out.came
theorem Nd.ended (u : Nd) : Ended u u.done := by
 obtain ⟨h1, h2, h3, h4, h5, h6, h7, h8, h9, h10, h11, h12, h13, h14, h15, h16, h17, h18⟩ := u.done_same
 exact ⟨⟨h10, h1, h3, h6, h9, h4, h13, h7, h14, h15, h16, h5⟩, h2, h11, h12, h8, h17⟩
theorem Kept.trans {s t u : Nd} {n m : UInt64} (h : Kept s t n) (k : Kept t u m) : Kept s u m := ⟨k.now, k.self.trans h.self, k.silent.trans h.silent, k.seq.trans h.seq, k.wait.trans h.wait, k.srs.trans h.srs, k.clk.trans h.clk, k.last.trans h.last, k.names.trans h.names, k.ids.trans h.ids, k.datas.trans h.datas, k.sent.trans h.sent⟩
theorem Nd.rcv_handle {s : Nd} {now : UInt64} {src : UInt32} {p : Pk} (hd : Pk.dec p.out = some p) (h1 : src ≠ 0) (h2 : src ≠ s.self) (h3 : ¬ now < s.silent) : s.rcv now src p.out = s.handle src p := by
 unfold Nd.rcv
 rw [hd]
 simp only
 rw [if_neg (by rintro (h | h | h); exact h1 h; exact h2 h; exact h3 h)]
theorem handle_rq {s : Nd} {src : UInt32} {p : Pk} (h : p.kind = 1) : s.handle src p = s.req src p := by unfold Nd.handle; rw [if_pos h]
theorem handle_rp {s : Nd} {src : UInt32} {p : Pk} (h : p.kind = 2) : s.handle src p = s.rep src p := by unfold Nd.handle; rw [if_neg (by rw [h]; decide), if_pos h]
theorem handle_dt {s : Nd} {src : UInt32} {p : Pk} (h : p.kind = 9) : s.handle src p = s.dat src p := by unfold Nd.handle; rw [if_neg (by rw [h]; decide), if_neg (by rw [h]; decide), if_neg (by rw [h]; decide)]
theorem Kept.drop {s t : Nd} {now : UInt64} (h : Kept s t now) (c : Int) : Kept s (t.drop c) now := ⟨h.now, h.self, h.silent, h.seq, h.wait, h.srs, h.clk, h.last, h.names, h.ids, h.datas, h.sent⟩
end

section
structure PN (A B me : UInt32) (r : Nat) (s : Nd) : Prop where
  self : s.self = me
  silent : s.silent = 0
  srs : s.srs = []
  clk : s.clk = []
  good : Good3 A B s.ls
  seqA : ∀ l, lget s.ls A = some l → l.seq.toNat ≤ r + 1
  order : s.order.length ≤ r
  fut : ∀ id : UInt32, r < id.toNat → mget s.seen ⟨A, id⟩ = none
structure Raw (A B : UInt32) (r : Nat) (s : Nd) : Prop where
  mem : mget s.seen ⟨A, UInt32.ofNat r⟩ = none
  order : s.order.length < r
  seqA : ∀ l, lget s.ls A = some l → l.seq.toNat ≤ r
  noB : viewT s.ls B = none
structure Knows (A : UInt32) (r T : Nat) (h : Nat) (nx : UInt32) (s : Nd) : Prop where
  mem : ∃ u, mget s.seen ⟨A, UInt32.ofNat r⟩ = some u ∧ u.toNat = T + 1280
  line : viewT s.ls A = some (UInt32.ofNat (r + 1), (h : Int), nx)
structure Idly (s t : Nd) (now : UInt64) : Prop where
  kept : Kept s t now
  ls : t.ls = s.ls
  seen : t.seen = s.seen
  order : t.order = s.order
  frames : t.out.frames = []
  came : t.out.came = []
theorem PN.idle {A B me : UInt32} {r : Nat} {s t : Nd} {now : UInt64} (h : PN A B me r s) (k : Idly s t now) : PN A B me r t := by
 constructor
 ·rw [k.kept.self]; exact h.self
 ·rw [k.kept.silent]; exact h.silent
 ·rw [k.kept.srs]; exact h.srs
 ·rw [k.kept.clk]; exact h.clk
 ·rw [k.ls]; exact h.good
 ·rw [k.ls]; exact h.seqA
 ·rw [k.order]; exact h.order
 ·rw [k.seen]; exact h.fut
theorem Raw.idle {A B : UInt32} {r : Nat} {s t : Nd} {now : UInt64} (h : Raw A B r s) (k : Idly s t now) : Raw A B r t := ⟨by rw [k.seen]; exact h.mem, by rw [k.order]; exact h.order, by rw [k.ls]; exact h.seqA, by rw [k.ls]; exact h.noB⟩
theorem Knows.idle {A nx : UInt32} {r T h : Nat} {s t : Nd} {now : UInt64} (g : Knows A r T h nx s) (k : Idly s t now) : Knows A r T h nx t := ⟨by rw [k.seen]; exact g.mem, by rw [k.ls]; exact g.line⟩
theorem idly_drop {A B : UInt32} {s : Nd} {now : UInt64} (hg : Good3 A B s.ls) (hn : now.toNat < 3000) {src : UInt32} {p : Pk} {c : Int} (hd : Pk.dec p.out = some p) (h1 : src ≠ 0) (h2 : src ≠ s.self) (h3 : s.silent = 0) (hh : (s.begin now).handle src p = (s.begin now).drop c) : Idly s (s.rcvF now src p.out) now := by
 obtain ⟨bk, bs, bo⟩ := s.begun now
 have bl : (s.begin now).ls = s.ls := by rw [Nd.begin_ls, hg.exp hn]
 have bf := s.begin_frames now
 have bc := s.begin_came now
 unfold Nd.rcvF
 rw [Nd.rcv_handle hd h1 (by rw [bk.self]; exact h2) (by rw [bk.silent, h3]; show ¬ now.toNat < 0; omega), hh]
 obtain ⟨e1, e2, e3, e4, e5, e6⟩ := ((s.begin now).drop c).ended
 refine ⟨?_, e2.trans bl, e3.trans bs, e4.trans bo, e5.trans bf, e6.trans bc⟩
 have := (bk.drop c).trans e1
 exact ⟨e1.now.trans bk.now, this.self, this.silent, this.seq, this.wait, this.srs, this.clk, this.last, this.names, this.ids, this.datas, this.sent⟩
section
variable {A B me src : UInt32} {r T : Nat} {s : Nd} {now : UInt64}
theorem id_small {r : Nat} (hr : r ≤ 5) : (UInt32.ofNat r).toNat = r := by
 rw [UInt32.toNat_ofNat']; omega
theorem soon_small {now : UInt64} (h : now.toNat < 3000) (k : Nat) (hk : k ≤ 100000) : (now + UInt64.ofNat k).toNat = now.toNat + k := by
 rw [UInt64.toNat_add, UInt64.toNat_ofNat']
 omega
theorem PN.again {t k : Nat} (h : PN A B me r s) (hn : now.toNat < 3000) (hs1 : src ≠ 0) (hs2 : src ≠ me) (ht : 1 ≤ t ∧ t ≤ 8) (hk : k ≤ 8) (hm : ∃ u, mget s.seen ⟨A, UInt32.ofNat r⟩ = some u ∧ now < u) (sq : UInt32) : Idly s (s.rcvF now src (rqP A B t k (UInt32.ofNat r) sq).out) now := by
 obtain ⟨bk, bs, bo⟩ := s.begun now
 refine idly_drop (c := 1) h.good hn (rqP_dec (by omega) (by omega) (by omega) (by omega)) hs1 (by rw [h.self]; exact hs2) h.silent ?_
 rw [handle_rq rfl]
 unfold Nd.req
 rw [if_pos]
 right
 obtain ⟨u, h1, h2⟩ := hm
 show (s.begin now).now < seenAt (s.begin now).seen ⟨A, UInt32.ofNat r⟩
 rw [bk.now, bs]
 unfold seenAt
 rw [h1]
 exact h2
theorem own_again {t k : Nat} {id : UInt32} (hg : Good3 A B s.ls) (h0 : s.self = A) (hsl : s.silent = 0) (hn : now.toNat < 3000) (hs1 : src ≠ 0) (hs2 : src ≠ A) (ht : 1 ≤ t ∧ t ≤ 8) (hk : k ≤ 8) (sq : UInt32) : Idly s (s.rcvF now src (rqP A B t k id sq).out) now := by
 obtain ⟨bk, bs, bo⟩ := s.begun now
 refine idly_drop (c := 1) hg hn (rqP_dec (by omega) (by omega) (by omega) (by omega)) hs1 (by rw [h0]; exact hs2) hsl ?_
 rw [handle_rq rfl]
 unfold Nd.req
 rw [if_pos]
 left
 show A = (s.begin now).self
 rw [bk.self, h0]
structure Fresh1 (A B me src : UInt32) (r T k : Nat) (s u : Nd) (now : UInt64) : Prop where
  rest : u = { s.begin now with seen := u.seen, order := u.order, ls := u.ls }
  pn : PN A B me r u
  knows : Knows A r T (k + 1) src u
  noB : viewT u.ls B = none
theorem PN.fresh {t k : Nat} (h : PN A B me r s) (hi : s.Inv) (raw : Raw A B r s) (hr : r ≤ 4) (hA : A ≠ me) (hA0 : A ≠ 0) (hAB : A ≠ B) (hT : now.toNat = T) (hn : T < 3000) (hs1 : src ≠ 0) (hs2 : src ≠ me) (ht : 1 ≤ t ∧ t ≤ 8) (hk : k ≤ 8) :
  ∃ u, Fresh1 A B me src r T k s u now ∧ s.rcvF now src (rqP A B t k (UInt32.ofNat r) (UInt32.ofNat (r + 1))).out = (Nd.req2 u (rqP A B t k (UInt32.ofNat r) (UInt32.ofNat (r + 1)))).done := by
 obtain ⟨bk, bs, bo⟩ := s.begun now
 have bl : (s.begin now).ls = s.ls := by rw [Nd.begin_ls, h.good.exp (by omega)]
 have hbi := hi.begin now
 have hr1 := id_small (r := r) (by omega)
 have hr2 := id_small (r := r + 1) (by omega)
 obtain ⟨q1, q2, q3, q4⟩ := Nd.remembered (s := s.begin now) ⟨A, UInt32.ofNat r⟩ (by rw [bo]; have := h.order; omega)
 have hup : Nd.reqU ((s.begin now).remember ⟨A, UInt32.ofNat r⟩) src (rqP A B t k (UInt32.ofNat r) (UInt32.ofNat (r + 1))) = (0, putT s.ls ⟨A, UInt32.ofNat (r + 1), ((k + 1 : Nat) : Int), src, true, now + 3000, []⟩) := by
  unfold Nd.reqU
  have e1 : ((s.begin now).remember ⟨A, UInt32.ofNat r⟩).self = me := by rw [q1]; exact bk.self.trans h.self
  have e2 : ((s.begin now).remember ⟨A, UInt32.ofNat r⟩).ls = s.ls := by rw [q1]; exact bl
  have e3 : ((s.begin now).remember ⟨A, UInt32.ofNat r⟩).soon = now + 3000 := by unfold Nd.soon; rw [q1]; show (s.begin now).now + 3000 = _; rw [bk.now]
  rw [e1, e2, e3]
  have e4 : hop1 (rqP A B t k (UInt32.ofNat r) (UInt32.ofNat (r + 1))) = ((k + 1 : Nat) : Int) := by show min ((k : Int) + 1) 255 = _; omega
  rw [e4]
  rw [updT_new (x := Ln.learned (rqP A B t k (UInt32.ofNat r) (UInt32.ofNat (r + 1))).from_ (rqP A B t k (UInt32.ofNat r) (UInt32.ofNat (r + 1))).fromSeq ((k + 1 : Nat) : Int) src (now + 3000)) hA hA0 (two_dests hi.tab.tab.nodup fun l hl => (h.good l hl).1) fun l hl => ?_]
  ·rfl
  ·have e5 := raw.seqA l hl
   obtain ⟨_, e6, _⟩ := h.good l (lget_mem hl).1
   unfold Ln.rk
   rw [if_pos e6]
   show (l.seq.toNat : Int) < ((UInt32.ofNat (r + 1)).toNat : Int)
   omega
 have h300 : (now + 3000).toNat = now.toNat + 3000 := soon_small (by omega) 3000 (by omega)
 refine ⟨{ (s.begin now).remember ⟨A, UInt32.ofNat r⟩ with ls := putT s.ls ⟨A, UInt32.ofNat (r + 1), ((k + 1 : Nat) : Int), src, true, now + 3000, []⟩ }, ⟨?_, ?_, ?_, ?_⟩, ?_⟩
 ·conv => lhs; rw [q1]
 ·constructor
  ·show ((s.begin now).remember _).self = me
   rw [q1]; exact bk.self.trans h.self
  ·show ((s.begin now).remember _).silent = 0
   rw [q1]; exact bk.silent.trans h.silent
  ·show ((s.begin now).remember _).srs = []
   rw [q1]; exact bk.srs.trans h.srs
  ·show ((s.begin now).remember _).clk = []
   rw [q1]; exact bk.clk.trans h.clk
  ·exact h.good.put (.inl rfl) rfl (by show 3000 ≤ (now + 3000).toNat; omega)
  ·intro l hl
   have hl' : lget (putT s.ls ⟨A, UInt32.ofNat (r + 1), ((k + 1 : Nat) : Int), src, true, now + 3000, []⟩) A = some l := hl
   rw [lget_putT, if_pos rfl] at hl'
   cases hl'
   show (UInt32.ofNat (r + 1)).toNat ≤ r + 1
   omega
  ·show ((s.begin now).remember _).order.length ≤ r
   have := raw.order
   rw [bo] at q2
   omega
  ·intro id hid
   refine q4 ⟨A, id⟩ (fun e => ?_) (by rw [bs]; exact h.fut id hid)
   have : id = UInt32.ofNat r := congrArg Rq.id e
   rw [this] at hid
   omega
 ·refine ⟨⟨_, q3, ?_⟩, ?_⟩
  ·have h1280 : (now + 1280).toNat = now.toNat + 1280 := soon_small (by omega) 1280 (by omega)
   rw [bk.now]
   omega
  ·show viewT (putT s.ls _) A = _
   rw [viewT_put, if_pos rfl]
 ·show viewT (putT s.ls _) B = none
  rw [viewT_put, if_neg (Ne.symm hAB)]
  exact raw.noB
 ·unfold Nd.rcvF
  rw [Nd.rcv_handle (rqP_dec (by omega) (by omega) (by omega) (by omega)) hs1 (by rw [bk.self, h.self]; exact hs2) (by rw [bk.silent, h.silent]; show ¬ now.toNat < 0; omega)]
  rw [handle_rq rfl]
  unfold Nd.req
  rw [if_neg]
  ·have e7 : (rqP A B t k (UInt32.ofNat r) (UInt32.ofNat (r + 1))).from_ = A := rfl
   have e8 : (rqP A B t k (UInt32.ofNat r) (UInt32.ofNat (r + 1))).id = UInt32.ofNat r := rfl
   rw [e7, e8]
   simp only [hup]
   rw [if_neg (by decide), if_neg (by decide)]
  ·rintro (e | e)
   ·have : A = (s.begin now).self := e
    rw [bk.self, h.self] at this
    exact hA this
   ·have e9 : (s.begin now).now < seenAt (s.begin now).seen ⟨A, UInt32.ofNat r⟩ := e
    rw [bs, seenAt_none raw.mem] at e9
    exact absurd e9 (UInt64.not_lt_zero)
theorem PN.request {t k : Nat} (h : PN A B me r s) (hi : s.Inv) (raw : Raw A B r s) (hr : r ≤ 4) (hA : A ≠ me) (hB : B ≠ me) (hA0 : A ≠ 0) (hAB : A ≠ B) (hT : now.toNat = T) (hn : T < 3000) (hs1 : src ≠ 0) (hs2 : src ≠ me) (ht : 1 ≤ t ∧ t ≤ 8) (hk : k ≤ 8)
  (q : Nd) (hq : q = s.rcvF now src (rqP A B t k (UInt32.ofNat r) (UInt32.ofNat (r + 1))).out) :
  PN A B me r q ∧ Knows A r T (k + 1) src q ∧ viewT q.ls B = none ∧ q.out.came = [] ∧ q.out.frames = if t = 1 then [] else [(0, (rqP A B ((t - 1 : Nat) : Int) ((k + 1 : Nat) : Int) (UInt32.ofNat r) (UInt32.ofNat (r + 1))).out)] := by
 obtain ⟨u, ⟨u1, u2, u3, u4⟩, hu⟩ := h.fresh hi raw hr hA hA0 hAB hT hn hs1 hs2 ht hk
 rw [hu] at hq
 subst hq
 have bf := s.begin_frames now
 have bc := s.begin_came now
 have uf : u.out.frames = [] := by rw [u1]; exact bf
 have uc : u.out.came = [] := by rw [u1]; exact bc
 have e1 : Nd.req2 u (rqP A B t k (UInt32.ofNat r) (UInt32.ofNat (r + 1))) = if t = 1 then u.drop 4 else u.send 0 (rqP A B ((t - 1 : Nat) : Int) ((k + 1 : Nat) : Int) (UInt32.ofNat r) (UInt32.ofNat (r + 1))) := by
  unfold Nd.req2
  rw [if_neg (by rw [u2.self]; exact hB)]
  have e2 : lookT u.ls (rqP A B t k (UInt32.ofNat r) (UInt32.ofNat (r + 1))).dest u.now = none := lookT_none (viewT_none u4)
  rw [e2]
  simp only
  unfold Nd.req3
  by_cases h1 : t = 1
  ·rw [if_pos h1, if_pos (by show (t : Int) = 1; omega)]
  ·rw [if_neg h1, if_neg (by show ¬ (t : Int) = 1; omega)]
   have e3 : lget u.ls (rqP A B t k (UInt32.ofNat r) (UInt32.ofNat (r + 1))).dest = none := viewT_none u4
   rw [e3]
   simp only
   have e4 : (t : Int) - 1 = ((t - 1 : Nat) : Int) := by omega
   have e5 : min ((k : Int) + 1) 255 = ((k + 1 : Nat) : Int) := by omega
   simp only [rqP, hop1, e4, e5]
 rw [e1]
 by_cases h1 : t = 1
 ·rw [if_pos h1, if_pos h1]
  obtain ⟨k1, k2, k3, k4, k5, k6⟩ := (u.drop 4).ended
  have K : Idly u (u.drop 4).done u.now := ⟨⟨k1.now, k1.self, k1.silent, k1.seq, k1.wait, k1.srs, k1.clk, k1.last, k1.names, k1.ids, k1.datas, k1.sent⟩, k2, k3, k4, k5.trans uf, k6.trans uc⟩
  exact ⟨u2.idle K, u3.idle K, by rw [K.ls]; exact u4, K.came, K.frames⟩
 ·rw [if_neg h1, if_neg h1]
  obtain ⟨k1, k2, k3, k4, k5, k6⟩ := (u.send 0 (rqP A B ((t - 1 : Nat) : Int) ((k + 1 : Nat) : Int) (UInt32.ofNat r) (UInt32.ofNat (r + 1)))).ended
  refine ⟨?_, ⟨by rw [k3]; exact u3.mem, by rw [k2]; exact u3.line⟩, by rw [k2]; exact u4, k6.trans uc, ?_⟩
  ·exact ⟨k1.self.trans u2.self, k1.silent.trans u2.silent, k1.srs.trans u2.srs, k1.clk.trans u2.clk, by rw [k2]; exact u2.good, by rw [k2]; exact u2.seqA, by rw [k4]; exact u2.order, by rw [k3]; exact u2.fut⟩
  ·rw [k5]
   show u.out.frames ++ [_] = _
   rw [uf]; rfl
theorem PN.sought {t k : Nat} (h : PN A me me r s) (hi : s.Inv) (raw : Raw A me r s) (hr : r ≤ 4) (hA : A ≠ me) (hA0 : A ≠ 0) (hT : now.toNat = T) (hn : T < 3000) (hs1 : src ≠ 0) (hs2 : src ≠ me) (ht : 1 ≤ t ∧ t ≤ 8) (hk : k ≤ 8)
  (q : Nd) (hq : q = s.rcvF now src (rqP A me t k (UInt32.ofNat r) (UInt32.ofNat (r + 1))).out) :
  PN A me me r q ∧ Knows A r T (k + 1) src q ∧ viewT q.ls me = none ∧ q.out.came = [] ∧ ∃ bq, q.out.frames = [(src, (rpP A me 0 bq).out)] := by
 obtain ⟨u, ⟨u1, u2, u3, u4⟩, hu⟩ := h.fresh hi raw hr hA hA0 hA hT hn hs1 hs2 ht hk
 rw [hu] at hq
 subst hq
 have bf := s.begin_frames now
 have bc := s.begin_came now
 have bn := (s.begun now).1.now
 have uf : u.out.frames = [] := by rw [u1]; exact bf
 have uc : u.out.came = [] := by rw [u1]; exact bc
 have un : u.now = now := by rw [u1]; exact bn
 obtain ⟨l, l1, l2, l3, l4⟩ := viewT_some u3.line
 have hlook : lookT u.ls A u.now = some l := u2.good.look l1 (by rw [un]; omega)
 have e1 : Nd.req2 u (rqP A me t k (UInt32.ofNat r) (UInt32.ofNat (r + 1))) = u.send src (rpP A me 0 u.seq) := by
  unfold Nd.req2
  rw [if_pos (by show me = u.self; rw [u2.self])]
  have e2 : (rqP A me t k (UInt32.ofNat r) (UInt32.ofNat (r + 1))).unknown = true := rfl
  simp only [e2, if_true]
  unfold Nd.answer
  have e3 : lookT u.ls (rqP A me t k (UInt32.ofNat r) (UInt32.ofNat (r + 1))).from_ u.now = some l := hlook
  simp only [e3]
  rw [l4]
  rfl
 rw [e1]
 obtain ⟨k1, k2, k3, k4, k5, k6⟩ := (u.send src (rpP A me 0 u.seq)).ended
 refine ⟨?_, ⟨by rw [k3]; exact u3.mem, by rw [k2]; exact u3.line⟩, by rw [k2]; exact u4, k6.trans uc, u.seq, ?_⟩
 ·exact ⟨k1.self.trans u2.self, k1.silent.trans u2.silent, k1.srs.trans u2.srs, k1.clk.trans u2.clk, by rw [k2]; exact u2.good, by rw [k2]; exact u2.seqA, by rw [k4]; exact u2.order, by rw [k3]; exact u2.fut⟩
 ·rw [k5]
  show u.out.frames ++ [_] = _
  rw [uf]; rfl
end
end

section
section
variable {A B me src nx : UInt32} {r T : Nat} {s : Nd} {now : UInt64}
theorem Knows.like {h : Nat} {s t : Nd} (g : Knows A r T h nx s) (h1 : t.seen = s.seen) (h2 : viewT t.ls A = viewT s.ls A) : Knows A r T h nx t := ⟨by rw [h1]; exact g.mem, by rw [h2]; exact g.line⟩
theorem seqA_view {ls ls' : List Ln} (h : ∀ l, lget ls A = some l → l.seq.toNat ≤ r) (hv : viewT ls' A = viewT ls A) : ∀ l, lget ls' A = some l → l.seq.toNat ≤ r := fun l hl => by
 unfold viewT at hv
 rw [hl] at hv
 cases hg : lget ls A with
 | none => rw [hg] at hv; cases hv
 | some l' =>
  rw [hg] at hv
  simp only [Option.map_some, Option.some.injEq, Prod.mk.injEq] at hv
  rw [hv.1]
  exact h l' hg
theorem PN.reply {k hh : Nat} {bq : UInt32} (h : PN A B me r s) (hi : s.Inv) (g : Knows A r T hh nx s) (hA : A ≠ me) (hB : B ≠ me) (hB0 : B ≠ 0) (hAB : A ≠ B) (noB : viewT s.ls B = none) (hn : now.toNat < 3000) (hs1 : src ≠ 0) (hs2 : src ≠ me) (hk : k ≤ 6)
  (q : Nd) (hq : q = s.rcvF now src (rpP A B k bq).out) :
  PN A B me r q ∧ Knows A r T hh nx q ∧ viewT q.ls B = some (bq, ((k + 1 : Nat) : Int), src) ∧ q.out.came = [] ∧ q.out.frames = [(nx, (rpP A B ((k + 1 : Nat) : Int) bq).out)] := by
 obtain ⟨bk, bs, bo⟩ := s.begun now
 have bl : (s.begin now).ls = s.ls := by rw [Nd.begin_ls, h.good.exp hn]
 have bf := s.begin_frames now
 have bc := s.begin_came now
 have hlen := two_dests hi.tab.tab.nodup fun l hl => (h.good l hl).1
 unfold Nd.rcvF at hq
 rw [Nd.rcv_handle (rpP_dec (by omega) (by omega)) hs1 (by rw [bk.self, h.self]; exact hs2) (by rw [bk.silent, h.silent]; show ¬ now.toNat < 0; omega)] at hq
 obtain ⟨l, l1, l2, l3, l4⟩ := viewT_some g.line
 generalize s.begin now = s0 at *
 have hself : s0.self = me := bk.self.trans h.self
 let x : Ln := ⟨B, bq, ((k + 1 : Nat) : Int), src, true, now + 6000, []⟩
 have h600 : (now + 6000).toNat = now.toNat + 6000 := soon_small hn 6000 (by omega)
 have hup : updT s0.self s0.ls (Ln.learned (rpP A B k bq).dest (rpP A B k bq).destSeq (hop1 (rpP A B k bq)) src (s0.now + (rpP A B k bq).life.toUInt64)) = (0, putT s.ls x) := by
  have e4 : hop1 (rpP A B k bq) = ((k + 1 : Nat) : Int) := by show min ((k : Int) + 1) 255 = _; omega
  rw [e4, hself, bl, bk.now]
  rw [updT_new (x := Ln.learned (rpP A B k bq).dest (rpP A B k bq).destSeq ((k + 1 : Nat) : Int) src (now + (rpP A B k bq).life.toUInt64)) hB hB0 hlen fun l' hl' => ?_]
  ·rfl
  ·have : lget s.ls B = some l' := hl'
   rw [viewT_none noB] at this
   cases this
 have hgood : Good3 A B (putT s.ls x) := h.good.put (.inr rfl) rfl (by show 3000 ≤ (now + 6000).toNat; omega)
 have hlookA : lookT (putT s.ls x) A now = some l := hgood.look (by rw [lget_putT, if_neg hAB]; exact l1) hn
 have hh1 : s0.handle src (rpP A B k bq) = { Nd.send { s0 with ls := putT s.ls x } nx (rpP A B ((k + 1 : Nat) : Int) bq) with ls := useT (befT (befT (putT s.ls x) B nx) A src) A (now + 3000) } := by
  rw [handle_rp rfl]
  unfold Nd.rep
  rw [if_neg (by rw [hself]; exact hB)]
  simp only [hup]
  rw [if_neg (by decide)]
  have e1 : ¬ (rpP A B k bq).from_ = s0.self := by rw [hself]; exact hA
  rw [if_neg e1]
  have e2 : lookT (putT s.ls x) (rpP A B k bq).from_ s0.now = some l := by rw [bk.now]; exact hlookA
  rw [e2]
  simp only
  rw [if_neg (by show ¬ (8 - (k : Int)) = 1; omega), l4]
  have e3 : ({ rpP A B k bq with ttl := (rpP A B k bq).ttl - 1, hops := hop1 (rpP A B k bq) } : Pk) = rpP A B ((k + 1 : Nat) : Int) bq := by
   have a1 : (8 : Int) - k - 1 = 8 - ((k + 1 : Nat) : Int) := by omega
   have a2 : min ((k : Int) + 1) 255 = ((k + 1 : Nat) : Int) := by omega
   simp only [rpP, hop1, a1, a2]
  rw [e3]
  have e4 : Nd.soon { s0 with ls := putT s.ls x } = now + 3000 := by show s0.now + 3000 = _; rw [bk.now]
  rw [e4]
  rfl
 rw [hh1] at hq
 subst hq
 have hv : Like (putT s.ls x) (useT (befT (befT (putT s.ls x) B nx) A src) A (now + 3000)) := ((Like.bef _ _ _).trans (Like.bef _ _ _)).trans (Like.use _ _ _)
 obtain ⟨k1, k2, k3, k4, k5, k6⟩ := ({ Nd.send { s0 with ls := putT s.ls x } nx (rpP A B ((k + 1 : Nat) : Int) bq) with ls := useT (befT (befT (putT s.ls x) B nx) A src) A (now + 3000) } : Nd).ended
 have hvA : viewT (useT (befT (befT (putT s.ls x) B nx) A src) A (now + 3000)) A = viewT s.ls A := by rw [hv.view, viewT_put, if_neg hAB]
 refine ⟨?_, ?_, ?_, k6.trans bc, ?_⟩
 ·refine ⟨k1.self.trans hself, k1.silent.trans (bk.silent.trans h.silent), k1.srs.trans (bk.srs.trans h.srs), k1.clk.trans (bk.clk.trans h.clk), ?_, ?_, ?_, ?_⟩
  ·rw [k2]; exact ((hgood.bef _ _).bef _ _).use _ _
  ·rw [k2]; exact seqA_view h.seqA hvA
  ·rw [k4]; show s0.order.length ≤ r; rw [bo]; exact h.order
  ·rw [k3]; show ∀ id : UInt32, r < id.toNat → mget s0.seen ⟨A, id⟩ = none; rw [bs]; exact h.fut
 ·exact g.like (k3.trans bs) (by rw [k2]; exact hvA)
 ·rw [k2]
  show viewT (useT (befT (befT (putT s.ls x) B nx) A src) A (now + 3000)) B = _
  rw [hv.view, viewT_put, if_pos rfl]
 ·rw [k5]
  show s0.out.frames ++ [_] = _
  rw [bf]; rfl
theorem PN.data {k : Nat} {bq : UInt32} {hB' : Int} {tx : Str} (h : PN A B me r s) (hB : B ≠ me) (hv : viewT s.ls B = some (bq, hB', nx)) (ht : tx.length ≤ 16) (hn : now.toNat < 3000) (hs1 : src ≠ 0) (hs2 : src ≠ me) (hk : k ≤ 6)
  (q : Nd) (hq : q = s.rcvF now src (dtP A B k tx).out) :
  PN A B me r q ∧ Like s.ls q.ls ∧ q.seen = s.seen ∧ q.order = s.order ∧ q.out.came = [] ∧ q.out.frames = [(nx, (dtP A B ((k + 1 : Nat) : Int) tx).out)] := by
 obtain ⟨bk, bs, bo⟩ := s.begun now
 have bl : (s.begin now).ls = s.ls := by rw [Nd.begin_ls, h.good.exp hn]
 have bf := s.begin_frames now
 have bc := s.begin_came now
 unfold Nd.rcvF at hq
 rw [Nd.rcv_handle (dtP_dec (by omega) (by omega) ht) hs1 (by rw [bk.self, h.self]; exact hs2) (by rw [bk.silent, h.silent]; show ¬ now.toNat < 0; omega)] at hq
 obtain ⟨l, l1, l2, l3, l4⟩ := viewT_some hv
 generalize s.begin now = s0 at *
 have hself : s0.self = me := bk.self.trans h.self
 have hlook : lookT s0.ls B s0.now = some l := by rw [bl, bk.now]; exact h.good.look l1 hn
 have hh1 : s0.handle src (dtP A B k tx) = { s0.send nx (dtP A B ((k + 1 : Nat) : Int) tx) with ls := useT (useT s0.ls B s0.soon) A s0.soon } := by
  rw [handle_dt rfl]
  unfold Nd.dat
  rw [if_neg (by rw [hself]; exact hB), if_neg (by show ¬ (8 - (k : Int)) = 1; omega)]
  have e2 : lookT s0.ls (dtP A B k tx).dest s0.now = some l := hlook
  rw [e2]
  simp only
  rw [l4]
  have e3 : ({ dtP A B k tx with ttl := (dtP A B k tx).ttl - 1 } : Pk) = dtP A B ((k + 1 : Nat) : Int) tx := by
   have a1 : (8 : Int) - k - 1 = 8 - ((k + 1 : Nat) : Int) := by omega
   simp only [dtP, a1]
  rw [e3]
  rfl
 rw [hh1] at hq
 subst hq
 have hv : Like s.ls (useT (useT s0.ls B s0.soon) A s0.soon) := by
  rw [bl]
  exact (Like.use _ _ _).trans (Like.use _ _ _)
 obtain ⟨k1, k2, k3, k4, k5, k6⟩ := ({ s0.send nx (dtP A B ((k + 1 : Nat) : Int) tx) with ls := useT (useT s0.ls B s0.soon) A s0.soon } : Nd).ended
 refine ⟨?_, ⟨fun d => by rw [k2]; exact hv.view d⟩, k3.trans bs, k4.trans bo, k6.trans bc, ?_⟩
 ·refine ⟨k1.self.trans hself, k1.silent.trans (bk.silent.trans h.silent), k1.srs.trans (bk.srs.trans h.srs), k1.clk.trans (bk.clk.trans h.clk), ?_, ?_, ?_, ?_⟩
  ·rw [k2]; show Good3 A B (useT (useT s0.ls B s0.soon) A s0.soon); rw [bl]; exact (h.good.use _ _).use _ _
  ·rw [k2]; exact seqA_view h.seqA (hv.view A)
  ·rw [k4]; show s0.order.length ≤ r; rw [bo]; exact h.order
  ·rw [k3]; show ∀ id : UInt32, r < id.toNat → mget s0.seen ⟨A, id⟩ = none; rw [bs]; exact h.fut
 ·rw [k5]
  show s0.out.frames ++ [_] = _
  rw [bf]; rfl
theorem PN.arrived {k : Nat} {tx : Str} (h : PN A me me r s) (ht : tx.length ≤ 16) (hn : now.toNat < 3000) (hs1 : src ≠ 0) (hs2 : src ≠ me) (hk : k ≤ 7)
  (q : Nd) (hq : q = s.rcvF now src (dtP A me k tx).out) :
  PN A me me r q ∧ q.ls = s.ls ∧ q.seen = s.seen ∧ q.order = s.order ∧ q.out.came = [(A, tx)] ∧ q.out.frames = [] := by
 obtain ⟨bk, bs, bo⟩ := s.begun now
 have bl : (s.begin now).ls = s.ls := by rw [Nd.begin_ls, h.good.exp hn]
 have bf := s.begin_frames now
 have bc := s.begin_came now
 unfold Nd.rcvF at hq
 rw [Nd.rcv_handle (dtP_dec (by omega) (by omega) ht) hs1 (by rw [bk.self, h.self]; exact hs2) (by rw [bk.silent, h.silent]; show ¬ now.toNat < 0; omega)] at hq
 generalize s.begin now = s0 at *
 have hself : s0.self = me := bk.self.trans h.self
 have hh1 : s0.handle src (dtP A me k tx) = s0.came (A, tx) := by
  rw [handle_dt rfl]
  unfold Nd.dat
  rw [if_pos (by rw [hself]; rfl)]
  rfl
 rw [hh1] at hq
 subst hq
 obtain ⟨k1, k2, k3, k4, k5, k6⟩ := (s0.came (A, tx)).ended
 have bl' : (s0.came (A, tx)).ls = s.ls := bl
 refine ⟨?_, k2.trans bl, k3.trans bs, k4.trans bo, ?_, k5.trans bf⟩
 ·refine ⟨k1.self.trans hself, k1.silent.trans (bk.silent.trans h.silent), k1.srs.trans (bk.srs.trans h.srs), k1.clk.trans (bk.clk.trans h.clk), ?_, ?_, ?_, ?_⟩
  ·rw [k2, bl']; exact h.good
  ·rw [k2, bl']; exact h.seqA
  ·rw [k4]; show s0.order.length ≤ r; rw [bo]; exact h.order
  ·rw [k3]; show ∀ id : UInt32, r < id.toNat → mget s0.seen ⟨A, id⟩ = none; rw [bs]; exact h.fut
 ·rw [k6]
  show s0.out.came ++ [_] = _
  rw [bc]; rfl
structure AW (A B : UInt32) (tx : Str) (r tau due : Nat) (s : Nd) : Prop where
  self : s.self = A
  silent : s.silent = 0
  ls : s.ls = []
  wait : s.wait = [(B, [tx])]
  srs : s.srs = [⟨B, (tau : Int), 0, true, 1⟩]
  clk : ∃ i, s.clk = [⟨UInt64.ofNat due, i, 1⟩]
  ids : s.ids = UInt32.ofNat r
  datas : s.datas = 0
  seq : s.seq = UInt32.ofNat (r + 1)
  sent : s.sent.length ≤ r
  order : s.order.length ≤ r
theorem AW.idle {tx : Str} {tau due : Nat} {s t : Nd} (h : AW A B tx r tau due s) (k : Idly s t now) : AW A B tx r tau due t := by
 constructor
 ·rw [k.kept.self]; exact h.self
 ·rw [k.kept.silent]; exact h.silent
 ·rw [k.ls]; exact h.ls
 ·rw [k.kept.wait]; exact h.wait
 ·rw [k.kept.srs]; exact h.srs
 ·rw [k.kept.clk]; exact h.clk
 ·rw [k.kept.ids]; exact h.ids
 ·rw [k.kept.datas]; exact h.datas
 ·rw [k.kept.seq]; exact h.seq
 ·rw [k.kept.sent]; exact h.sent
 ·rw [k.order]; exact h.order
theorem AW.good {tx : Str} {tau due : Nat} (h : AW A B tx r tau due s) : Good3 A B s.ls := fun l hl => by rw [h.ls] at hl; cases hl
structure AD (A B : UInt32) (s : Nd) : Prop where
  self : s.self = A
  silent : s.silent = 0
  srs : s.srs = []
  good : Good3 A B s.ls
theorem AD.idle {s t : Nd} (h : AD A B s) (k : Idly s t now) : AD A B t := ⟨by rw [k.kept.self]; exact h.self, by rw [k.kept.silent]; exact h.silent, by rw [k.kept.srs]; exact h.srs, by rw [k.ls]; exact h.good⟩
theorem AW.reply {tx : Str} {tau due k : Nat} {bq : UInt32} (h : AW A B tx r tau due s) (hAB : A ≠ B) (hB0 : B ≠ 0) (hn : now.toNat < 3000) (hs1 : src ≠ 0) (hs2 : src ≠ A) (hk : k ≤ 7)
  (q : Nd) (hq : q = s.rcvF now src (rpP A B k bq).out) : AD A B q ∧ q.out.came = [] ∧ q.out.frames = [(src, (dtP A B 0 tx).out)] := by
 obtain ⟨bk, bs, bo⟩ := s.begun now
 have bl : (s.begin now).ls = [] := by rw [Nd.begin_ls, h.ls]; rfl
 have bf := s.begin_frames now
 have bc := s.begin_came now
 unfold Nd.rcvF at hq
 rw [Nd.rcv_handle (rpP_dec (by omega) (by omega)) hs1 (by rw [bk.self, h.self]; exact hs2) (by rw [bk.silent, h.silent]; show ¬ now.toNat < 0; omega)] at hq
 have hself := bk.self.trans h.self
 have hwait := bk.wait.trans h.wait
 have hsrs := bk.srs.trans h.srs
 have hdat := bk.datas.trans h.datas
 have hsil := bk.silent.trans h.silent
 have hnow := bk.now
 generalize s.begin now = s0 at *
 let x : Ln := ⟨B, bq, ((k + 1 : Nat) : Int), src, true, now + 6000, []⟩
 have h600 : (now + 6000).toNat = now.toNat + 6000 := soon_small hn 6000 (by omega)
 have hup : updT s0.self s0.ls (Ln.learned (rpP A B k bq).dest (rpP A B k bq).destSeq (hop1 (rpP A B k bq)) src (s0.now + (rpP A B k bq).life.toUInt64)) = (0, [x]) := by
  have e4 : hop1 (rpP A B k bq) = ((k + 1 : Nat) : Int) := by show min ((k : Int) + 1) 255 = _; omega
  rw [e4, hself, bl, hnow]
  rw [updT_new (x := Ln.learned (rpP A B k bq).dest (rpP A B k bq).destSeq ((k + 1 : Nat) : Int) src (now + (rpP A B k bq).life.toUInt64)) (Ne.symm hAB) hB0 (by simp) fun l' hl' => ?_]
  ·rfl
  ·cases hl'
 have hgood : Good3 A B [x] := fun l hl => by
  simp at hl; subst hl
  exact ⟨.inr rfl, rfl, by show 3000 ≤ (now + 6000).toNat; omega⟩
 have hlook : lookT [x] B now = some x := hgood.look (by simp [lget, lfind, x]) hn
 have hh1 : s0.handle src (rpP A B k bq) = { Nd.send { s0 with ls := [x], datas := s0.datas + 1 } src (dtP A B 0 tx) with ls := useT [x] B (now + 3000), wait := [], srs := [] } := by
  rw [handle_rp rfl]
  unfold Nd.rep
  rw [if_neg (by rw [hself]; exact Ne.symm hAB)]
  simp only [hup]
  rw [if_neg (by decide)]
  have e1 : (rpP A B k bq).from_ = s0.self := by rw [hself]; rfl
  rw [if_pos e1]
  have e2 : lookT [x] (rpP A B k bq).dest s0.now = some x := by rw [hnow]; exact hlook
  rw [e2, if_neg (by decide)]
  simp only [Option.isSome_some, if_true]
  unfold Nd.flush
  have e3 : Nd.texts { s0 with ls := [x] } (rpP A B k bq).dest = [tx] := by
   show (mget s0.wait B).getD [] = [tx]
   rw [hwait, wget_cons]
   simp
  rw [e3]
  have e4 : Nd.handAll { s0 with ls := [x] } (rpP A B k bq).dest [tx] = { Nd.send { s0 with ls := [x], datas := s0.datas + 1 } src (dtP A B 0 tx) with ls := useT [x] B (now + 3000) } := by
   show Nd.hand { s0 with ls := [x] } B tx = _
   unfold Nd.hand
   have e5 : lookT [x] B s0.now = some x := by rw [hnow]; exact hlook
   simp only [e5]
   have e6 : Nd.soon { s0 with ls := [x] } = now + 3000 := by show s0.now + 3000 = _; rw [hnow]
   rw [e6, hself, hdat]
   rfl
  rw [e4]
  simp only [Nd.unwait, Nd.send]
  have e7 : mdel s0.wait (rpP A B k bq).dest = [] := by
   rw [hwait, wdel_cons]
   simp [rpP]
  rw [e7]
  have e8 : srFind s0.srs (rpP A B k bq).dest = some 0 := by
   rw [hsrs]
   simp [srFind, rpP]
  rw [e8]
  simp only [Nd.stop]
  rw [hsrs]
  rfl
 rw [hh1] at hq
 subst hq
 obtain ⟨k1, k2, k3, k4, k5, k6⟩ := ({ Nd.send { s0 with ls := [x], datas := s0.datas + 1 } src (dtP A B 0 tx) with ls := useT [x] B (now + 3000), wait := [], srs := [] } : Nd).ended
 refine ⟨⟨k1.self.trans hself, k1.silent.trans hsil, k1.srs, ?_⟩, k6.trans bc, ?_⟩
 ·rw [k2]; exact hgood.use _ _
 ·rw [k5]
  show s0.out.frames ++ [_] = _
  rw [bf]; rfl
theorem step_nosr {s : Nd} {now : UInt64} (h : s.srs = []) : s.step now = none ∨ ∃ c, s.step now = some { s with clk := c } := by
 unfold Nd.step
 cases bestN s.clk now s.clk.length with
 | none => exact .inl rfl
 | some i =>
  right
  have : nmFind ({ s with clk := s.clk.eraseIdx i } : Nd).srs (at' s.clk i).what = none := by
   show nmFind s.srs _ = none
   rw [h]; rfl
  simp only [this]
  exact ⟨_, rfl⟩
theorem ticks_nosr {now : UInt64} : ∀ (f : Nat) (s : Nd), s.srs = [] → ∃ c, s.ticks f now = { s with clk := c }
 | 0, s, _ => ⟨s.clk, rfl⟩
 | f + 1, s, h => by
  unfold Nd.ticks
  rcases step_nosr (now := now) h with e | ⟨c, e⟩
  ·rw [e]; exact ⟨s.clk, rfl⟩
  ·rw [e]
   simp only
   obtain ⟨c', e'⟩ := ticks_nosr (now := now) f { s with clk := c } h
   exact ⟨c', e'⟩
theorem tick_nosr (h : s.srs = []) : (s.tickF now).srs = [] ∧ (s.tickF now).out.frames = [] ∧ (s.tickF now).self = s.self := by
 obtain ⟨bk, bs, bo⟩ := s.begun now
 have bf := s.begin_frames now
 unfold Nd.tickF Nd.tick
 obtain ⟨c, e⟩ := ticks_nosr (now := now) (dueN now (s.begin now).clk + 1) (s.begin now) (bk.srs.trans h)
 rw [e]
 obtain ⟨k1, k2, k3, k4, k5, k6⟩ := ({ s.begin now with clk := c } : Nd).ended
 exact ⟨k1.srs.trans (bk.srs.trans h), k5.trans bf, k1.self.trans bk.self⟩
theorem ticks_none {f : Nat} {s : Nd} {now : UInt64} (h : s.step now = none) : s.ticks f now = s := by
 cases f with
 | zero => rfl
 | succ f => unfold Nd.ticks; rw [h]
theorem tick_still (hg : Good3 A B s.ls) (hn : now.toNat < 3000) (h : ∀ t ∈ s.clk, now < t.at_) : Idly s (s.tickF now) now := by
 obtain ⟨bk, bs, bo⟩ := s.begun now
 have bl : (s.begin now).ls = s.ls := by rw [Nd.begin_ls, hg.exp hn]
 have bf := s.begin_frames now
 have bc := s.begin_came now
 have hst : (s.begin now).step now = none := by
  unfold Nd.step
  have : bestN (s.begin now).clk now (s.begin now).clk.length = none := by
   rw [bk.clk]
   cases hb : bestN s.clk now s.clk.length with
   | none => rfl
   | some b =>
    obtain ⟨h1, h2, _⟩ := bestN_some hb
    have h3 : now.toNat < (at' s.clk b).at_.toNat := h _ (at'_mem h1)
    omega
  rw [this]
 unfold Nd.tickF Nd.tick
 rw [ticks_none hst]
 obtain ⟨k1, k2, k3, k4, k5, k6⟩ := (s.begin now).ended
 have kk := bk.trans k1
 exact ⟨⟨k1.now.trans bk.now, kk.self, kk.silent, kk.seq, kk.wait, kk.srs, kk.clk, kk.last, kk.names, kk.ids, kk.datas, kk.sent⟩, k2.trans bl, k3.trans bs, k4.trans bo, k5.trans bf, k6.trans bc⟩
theorem PN.tick (h : PN A B me r s) (hn : now.toNat < 3000) : Idly s (s.tickF now) now := tick_still h.good hn fun t ht => by rw [h.clk] at ht; cases ht
theorem AW.wait_ {tx : Str} {tau due : Nat} (h : AW A B tx r tau due s) (hd : due < 3000) (hn : now.toNat < due) : Idly s (s.tickF now) now := tick_still h.good (by omega) fun t ht => by
 obtain ⟨i, hc⟩ := h.clk
 rw [hc] at ht
 simp at ht
 subst ht
 show now.toNat < (UInt64.ofNat due).toNat
 rw [UInt64.toNat_ofNat']
 omega
structure Asked (s t : Nd) (x x0 : Sr) : Prop where
  ls : t.ls = s.ls
  self : t.self = s.self
  silent : t.silent = s.silent
  wait : t.wait = s.wait
  srs : t.srs = [{ x0 with out := true }]
  clk : t.clk = s.clk ++ [⟨s.now + askWait x, s.last + 1, x.name⟩]
  ids : t.ids = s.ids + 1
  datas : t.datas = s.datas
  seq : t.seq = growS s.seq
  sent : t.sent.length ≤ s.sent.length + 1
  order : t.order.length ≤ s.order.length + 1
  now : t.now = s.now
  came : t.out.came = s.out.came
  frames : t.out.frames = s.out.frames ++ [(0, (⟨x.ttl, 1, 0, true, s.ids + 1, x.dest, 0, s.self, growS s.seq, 0, [], []⟩ : Pk).out)]
theorem ask_out {x x0 : Sr} (hl : s.ls = []) (hsil : s.silent = 0) (hsent : s.sent.length ≤ 4) (ho : s.order.length ≤ 14) (hx : s.srs = [x0]) : Asked s (s.ask 0 x) x x0 := by
 have e1 : s.ask 0 x = ((s.setOut 0 true).ask1 x).arm x.name (askWait x) := by
  unfold Nd.ask
  rw [if_neg (by rw [hsil]; show ¬ s.now.toNat < 0; omega), if_neg]
  have := List.length_filter_le (fun a => decide (s.now < a + 1000)) s.sent
  unfold busyN
  omega
 rw [e1]
 have hm := Nd.Same.note { s.setOut 0 true with seq := growS (s.setOut 0 true).seq }
 have hs1 : (s.setOut 0 true).srs = [{ x0 with out := true }] := by show s.srs.modify 0 _ = _; rw [hx]; rfl
 unfold Nd.ask1
 simp only
 generalize hn1 : Nd.note { s.setOut 0 true with seq := growS (s.setOut 0 true).seq } = s1 at *
 have hls1 : s1.ls = [] := hm.ls.trans hl
 obtain ⟨s3, hs3⟩ : ∃ s3, s3 = Nd.send { s1 with ids := s1.ids + 1, sent := trimS (s1.sent ++ [s1.now]) } 0 ⟨x.ttl, 1, 0, (lget s1.ls x.dest).isNone, s1.ids + 1, x.dest, numT s1.ls x.dest, s1.self, s1.seq, 0, [], []⟩ := ⟨_, rfl⟩
 rw [← hs3]
 have r1 := Nd.remembered (s := s3) ⟨s3.self, s3.ids⟩ (by rw [hs3]; show s1.order.length ≤ 14; rw [hm.order]; exact ho)
 obtain ⟨q1, q2, q3, q4⟩ := r1
 constructor
 ·show (Nd.remember _ _).ls = s.ls
  rw [q1]; show s3.ls = _; rw [hs3]; exact hm.ls
 ·show (Nd.remember _ _).self = s.self
  rw [q1]; show s3.self = _; rw [hs3]; exact hm.self
 ·show (Nd.remember _ _).silent = s.silent
  rw [q1]; show s3.silent = _; rw [hs3]; exact hm.silent
 ·show (Nd.remember _ _).wait = s.wait
  rw [q1]; show s3.wait = _; rw [hs3]; exact hm.wait
 ·show (Nd.remember _ _).srs = _
  rw [q1]; show s3.srs = _; rw [hs3]; exact hm.srs.trans hs1
 ·have a1 : ∀ z : Nd, (z.arm x.name (askWait x)).clk = z.clk ++ [⟨z.now + askWait x, z.last + 1, x.name⟩] := fun _ => rfl
  rw [a1, q1]
  show s3.clk ++ [⟨s3.now + askWait x, s3.last + 1, x.name⟩] = _
  have b1 : s3.clk = s.clk := by rw [hs3]; exact hm.clk
  have b2 : s3.now = s.now := by rw [hs3]; exact hm.now
  have b3 : s3.last = s.last := by rw [hs3]; exact hm.last
  rw [b1, b2, b3]
 ·show (Nd.remember _ _).ids = _
  rw [q1]; show s3.ids = _; rw [hs3]; show s1.ids + 1 = _; rw [hm.ids]; rfl
 ·show (Nd.remember _ _).datas = _
  rw [q1]; show s3.datas = _; rw [hs3]; exact hm.datas
 ·show (Nd.remember _ _).seq = _
  rw [q1]; show s3.seq = _; rw [hs3]; exact hm.seq
 ·show (Nd.remember _ _).sent.length ≤ _
  rw [q1]
  show s3.sent.length ≤ _
  rw [hs3]
  show (trimS (s1.sent ++ [s1.now])).length ≤ _
  rw [hm.sent]
  unfold trimS
  split
  ·simp [Nd.setOut]
  ·simp [Nd.setOut]
 ·show (Nd.remember _ _).order.length ≤ _
  have : s3.order.length = s.order.length := by rw [hs3]; show s1.order.length = _; rw [hm.order]; rfl
  omega
 ·show (Nd.remember _ _).now = _
  rw [q1]; show s3.now = _; rw [hs3]; exact hm.now
 ·show (Nd.remember _ _).out.came = _
  rw [q1]; show s3.out.came = _; rw [hs3]; exact hm.came
 ·show (Nd.remember _ _).out.frames = _
  rw [q1]
  show s3.out.frames = _
  rw [hs3]
  show s1.out.frames ++ [(0, Pk.out ⟨x.ttl, 1, 0, (lget s1.ls x.dest).isNone, s1.ids + 1, x.dest, numT s1.ls x.dest, s1.self, s1.seq, 0, [], []⟩)] = _
  rw [hls1, hm.frames, hm.ids, hm.self, hm.seq]
  rfl
end
end

section
open Go.RowKit
section
variable {P : Program} {w0 w : World} {F : HProp} (t t2 ty e : TypeId) {size bytes : Nat}
theorem run_append_room (T : SlT P t e size bytes) (g off n cap : Nat) (xs : List Value) (h : Sat w0 w (slc e size (.slice (some ⟨g, off, none⟩) n cap) n xs * F)) (hc0 : 0 < cap) (m : Nat) (x : Value) (news : List Value) (src : Src P w size m x news) (h1 : ∀ u ∈ news, u.oneCell' = true) (hroom : n + m ≤ cap) :
  ∃ w', (Builtin.append_ #[t, t] ty #[.slice (some ⟨g, off, none⟩) n cap, x]).run P w = .ok (.slice (some ⟨g, off, none⟩) (n + m) cap) w' ∧ Sat w0 w' (slc e size (.slice (some ⟨g, off, none⟩) (n + m) cap) (n + m) (xs ++ news) * F) := by
 obtain ⟨i, z, hi, hz, hsize, hby, hzs⟩ := T.info
 have ht := T.ht
 subst hsize
 obtain ⟨hl, hc⟩ := h.slc_cases
 have hlen : (xs ++ news).length = (n + m) * i.size := by rw [List.length_append, hl, src.length, Nat.add_mul]
 have hx0 := src.len
 rcases hc with ⟨A, e1, rfl, hF⟩ | ⟨g', off', cap', cur, fr, e1, hnc, hm, hcs, htake, hfr, hs⟩
 ·cases e1; omega
 ·cases e1
  have hle : (n + m) * i.size ≤ cap * i.size := Nat.mul_le_mul_right _ hroom
  have hfit : off + n * i.size + news.length ≤ cur.size := by rw [src.length]; rw [Nat.add_mul] at hle; omega
  have hst := run_storeCells_fr (P := P) g (off + n * i.size) e fr news 0 cur w hs.at_ (by omega) h1 (fun k hk1 hk2 => hfr k (by omega) (by rw [src.length] at hk2; rw [Nat.add_mul] at hle; omega))
  simp only [Nat.add_zero] at hst
  refine ⟨w.setRow g (cur.toList.take (off + n * i.size) ++ news ++ cur.toList.drop (off + n * i.size + news.length)).toArray, ?_, ?_⟩
  ·have hf := src.cells w rfl
   unfold Builtin.append_
   simp [run_underlying ht, sizeOf, typeInfo, hi, hx0, hroom, hf, add_lit, hst]
  ·refine Sat.slc_mk e i.size (n + m) g off cap (cur.toList.take (off + n * i.size) ++ news ++ cur.toList.drop (off + n * i.size + news.length)).toArray fr _ ?_ hlen hroom hm ?_ ?_ hfr
   ·exact Sat.put hs rfl rfl rfl (setRow_heap w g cur _ e fr hs.at_) fun k _ hk => setRow_other w g k _ hk
   ·simp only [List.size_toArray, List.length_append, List.length_take, List.length_drop, Array.length_toList]
    omega
   ·exact take_drop_mid htake (by simpa using hfit) hl (by rw [src.length, Nat.add_mul])
theorem run_clear_past (T : SlT P t e size bytes) {z : Value} {zs : List Value} (hz0 : Zero P e z zs) (h1 : ∀ c ∈ zs, c.oneCell' = true) (g off n cap : Nat) (xs : List Value) (h : Sat w0 w (slc e size (.slice (some ⟨g, off, none⟩) n cap) n xs * F)) (hroom : n + 1 ≤ cap) :
  ∃ w', (Builtin.clear_ #[t] ty #[sliced (some ⟨g, off, none⟩) n (n + 1) cap size]).run P w = .ok (.tuple #[]) w' ∧ Sat w0 w' (slc e size (.slice (some ⟨g, off, none⟩) n cap) n xs * F) := by
 obtain ⟨i, z', hi, hz, hsize, hby, hzs⟩ := T.info
 have ht := T.ht
 have hzz : z' = z := by
  have := hz0.eq
  rw [hi, Option.map_some, hz] at this
  exact Option.some.inj (Option.some.inj this)
 subst hzz
 have hzc : z'.cells = zs.toArray := by rw [cellsL_eq, hz0.cells]
 have hzl : zs.length = size := by rw [← hzs, hzc]; simp
 obtain ⟨hl, hc⟩ := h.slc_cases
 rcases hc with ⟨A, e1, rfl, hF⟩ | ⟨g', off', cap', cur, fr, e1, hnc, hm, hcs, htake, hfr, hs⟩
 ·cases e1; omega
 ·cases e1
  have hle : (n + 1) * size ≤ cap * size := Nat.mul_le_mul_right _ hroom
  rw [Nat.add_mul, Nat.one_mul] at hle
  have hst := run_storeCells_fr (P := P) g (off + n * size) e fr zs 0 cur w hs.at_ (by omega) h1 (fun k hk1 hk2 => hfr k (by omega) (by omega))
  simp only [Nat.add_zero] at hst
  refine ⟨w.setRow g (cur.toList.take (off + n * size) ++ zs ++ cur.toList.drop (off + n * size + zs.length)).toArray, ?_, ?_⟩
  ·have hz1 : (Builtin.zeroCells z'.cells 1).toList = zs := by
    rw [hzc]
    unfold Builtin.zeroCells
    apply List.ext_getElem
    ·simp
    ·intro j h1 h2
     have hj : j < zs.length := h2
     simp [Nat.mod_eq_of_lt hj, hj]
   unfold Builtin.clear_ sliced
   rw [if_neg (by omega)]
   simp [run_underlying ht, zeroValue, typeInfo, hi, hz, add_lit, hz1, hst]
  ·refine Sat.slc_mk e size n g off cap (cur.toList.take (off + n * size) ++ zs ++ cur.toList.drop (off + n * size + zs.length)).toArray fr _ ?_ hl hnc hm ?_ ?_ hfr
   ·exact Sat.put hs rfl rfl rfl (setRow_heap w g cur _ e fr hs.at_) fun k _ hk => setRow_other w g k _ hk
   ·simp only [List.size_toArray, List.length_append, List.length_take, List.length_drop, Array.length_toList]
    omega
   ·rw [← htake]
    simp only [List.append_assoc]
    rw [List.drop_append_of_le_length (by simp; omega), List.take_append_of_le_length (by simp; omega), List.drop_take, List.take_take]
    congr 1
    omega
end
section
variable {P : Program} {n : Frm} {w0 : World} {E : Env} {D : List Deferred} {H F : HProp} {α : Type} {e : TypeId} {size bytes : Nat} {f : α → List Value} {l : List α}
variable {d : Option Tmp} {t ty : TypeId} {pos : String} {after : Array Edge} {gu : Option (Nat × Bool)} {x y z : Operand}
theorem Q_slice_lhm {e2 : TypeId} {q1 q2 q3 : IntKind} {i1 i2 i3 : Int} {A : Option Addr} {m c : Nat} (hx : E.ev x = some (.slice A m c)) {y1 y2 y3 : Operand} (hy1 : E.ev y1 = some (.int q1 i1)) (hy2 : E.ev y2 = some (.int q2 i2)) (hy3 : E.ev y3 = some (.int q3 i3)) (ht : Und P t (.slice e2)) (hs2 : Siz P e2 size) (hb : 0 ≤ i1 ∧ i1 ≤ i2 ∧ i2 ≤ i3 ∧ i3 ≤ c) :
  OpQ P n w0 ⟨d, .slice t x (some y1) (some y2) (some y3), ty, pos, after, gu⟩ E H (sliced A i1.toNat i2.toNat i3.toNat size) := fun a w s hs => by
 obtain ⟨i0, hi0, hi1⟩ := Option.map_eq_some_iff.1 hs2.eq
 have hel : P.elem t = e2 := by simp [Program.elem, ht.eq]
 have ht' : P.underlying t = some (.slice (P.elem t)) := by rw [ht.eq, hel]
 have hr := run_slice_lhm (P := P) (w := w) t A m c ht' q1 q2 q3 i1 i2 i3 hb.1 hb.2.1 hb.2.2.1 hb.2.2.2
 have hz : (sizeOf e2).run P w = .ok size w := by simp [sizeOf, typeInfo, hi0, hi1]
 rw [hel, hz] at hr
 simp only [execOp, s.ev hx, s.ev hy1, s.ev hy2, s.ev hy3, Option.map_some, run_sliceAt_slice w t _ _ _ _ ht', Sem.run_bind, hr, Result.andThen_ok, Sem.run_pure]
theorem Q_slice_lh {e2 : TypeId} {q1 q2 : IntKind} {i1 i2 : Int} {A : Option Addr} {m c : Nat} (hx : E.ev x = some (.slice A m c)) {y1 y2 : Operand} (hy1 : E.ev y1 = some (.int q1 i1)) (hy2 : E.ev y2 = some (.int q2 i2)) (ht : Und P t (.slice e2)) (hs2 : Siz P e2 size) (hb : 0 ≤ i1 ∧ i1 ≤ i2 ∧ i2 ≤ c) :
  OpQ P n w0 ⟨d, .slice t x (some y1) (some y2) none, ty, pos, after, gu⟩ E H (sliced A i1.toNat i2.toNat c size) := fun a w s hs => by
 obtain ⟨i0, hi0, hi1⟩ := Option.map_eq_some_iff.1 hs2.eq
 have hel : P.elem t = e2 := by simp [Program.elem, ht.eq]
 have ht' : P.underlying t = some (.slice (P.elem t)) := by rw [ht.eq, hel]
 have hr := run_slice_lh (P := P) (w := w) t A m c ht' q1 q2 i1 i2 hb.1 hb.2.1 hb.2.2
 have hz : (sizeOf e2).run P w = .ok size w := by simp [sizeOf, typeInfo, hi0, hi1]
 rw [hel, hz] at hr
 simp only [execOp, s.ev hx, s.ev hy1, s.ev hy2, Option.map_some, Option.map_none, run_sliceAt_slice w t _ _ _ _ ht', Sem.run_bind, hr, Result.andThen_ok, Sem.run_pure]
theorem H_appendDel {g off cap : Nat} (k : Nat) (hk : k < l.length) (hx : E.ev x = some (sHead (.slice (some ⟨g, off, none⟩) l.length cap) k)) (hy : E.ev y = some (sTail size (.slice (some ⟨g, off, none⟩) l.length cap) (k + 1))) (hl : RowsOf H (.slice (some ⟨g, off, none⟩) l.length cap) α e size f l F) (hT : SlTC P t e size bytes) (hf : FixLen f size) (h1 : ∀ z, ∀ c ∈ f z, c.oneCell' = true) (hp : NeZero size) (hc : l.length ≤ cap) :
  OpH P n w0 ⟨d, .call ⟨.builtin .append, #[x, y], #[t, t]⟩, ty, pos, after, gu⟩ E H (fun _ : Unit => .slice (some ⟨g, off, none⟩) (l.length - 1) cap) (fun _ => rows e size f (.slice (some ⟨g, off, none⟩) (l.length - 1) cap) (l.eraseIdx k) * F) := by
 refine OpH.mk' (pre := rows e size f (.slice (some ⟨g, off, none⟩) l.length cap) l) (post := fun _ => rows e size f (.slice (some ⟨g, off, none⟩) (l.length - 1) cap) (l.eraseIdx k)) (fun G a w K Q s hs hK => ?_) hl.eq
 have hsrc : Src P w size (l.drop (k + 1)).length (sTail size (.slice (some ⟨g, off, none⟩) l.length cap) (k + 1)) ((l.drop (k + 1)).flatMap f) := src_of_rows ((rdr_tail' (w0 := w0) (H := rows e size f (.slice (some ⟨g, off, none⟩) l.length cap) l * G) (v := .slice (some ⟨g, off, none⟩) l.length cap) (f := f) (l := l) (k + 1)).at_ w hs) hf.eq
 have hs2 : Sat w0 w (rows e size f (sHead (.slice (some ⟨g, off, none⟩) l.length cap) k) (l.take k) * G) := (Ent.headR (H := rows e size f (.slice (some ⟨g, off, none⟩) l.length cap) l * G) (F := G) k).sat hs
 have hhd : sHead (.slice (some ⟨g, off, none⟩) l.length cap) k = .slice (some ⟨g, off, none⟩) (l.take k).length cap := by unfold sHead; simp
 rw [hhd] at hs2 hx
 unfold rows at hs2
 have htl : (l.take k).length = k := by simp; omega
 have hdl : (l.drop (k + 1)).length = l.length - 1 - k := by simp; omega
 obtain ⟨w', hr, hs'⟩ := run_append_room (P := P) t ty e hT.out g off (l.take k).length cap _ hs2 (by omega) _ _ _ hsrc (fun c hc => by obtain ⟨z, _, hz⟩ := List.mem_flatMap.1 hc; exact h1 z c hz) (by rw [htl, hdl]; omega)
 have hlen : (l.take k).length + (l.drop (k + 1)).length = l.length - 1 := by omega
 rw [hlen] at hr hs'
 have he : l.eraseIdx k = l.take k ++ l.drop (k + 1) := List.eraseIdx_eq_take_drop_succ _ _
 unfold Oper.wp execOp
 simp only [resolve, invoke, builtin, Sem.run_bind, Sem.run_pure, Result.andThen_ok, List.map_toArray, List.map_cons, List.map_nil, s.ev hx, s.ev hy, hr]
 refine hK () w' ?_
 unfold rows
 rw [he, List.flatMap_append, List.length_append, hlen]
 exact hs'
theorem H_clearPast {g off cap m lo hi : Nat} {z : Value} {zs : List Value} (hx : E.ev x = some (sliced (some ⟨g, off, none⟩) lo hi cap size)) (hm : l.length = m) (hlo : lo = m) (hhi : hi = m + 1) (hl : RowsOf H (.slice (some ⟨g, off, none⟩) m cap) α e size f l F) (hT : SlTC P t e size bytes) (hz : Zero P e z zs) (h1 : (zs.all fun c => c.oneCell') = true) (hc : m + 1 ≤ cap) :
  OpH P n w0 ⟨none, .call ⟨.builtin .clear, #[x], #[t]⟩, ty, pos, after, gu⟩ E H (fun _ : Unit => undef) (fun _ => rows e size f (.slice (some ⟨g, off, none⟩) m cap) l * F) := by
 subst hlo
 subst hhi
 subst hm
 refine OpH.mk' (pre := rows e size f (.slice (some ⟨g, off, none⟩) l.length cap) l) (post := fun _ => rows e size f (.slice (some ⟨g, off, none⟩) l.length cap) l) (fun G a w K Q s hs hK => ?_) hl.eq
 unfold rows at hs
 obtain ⟨w', hr, hs'⟩ := run_clear_past (P := P) t ty e hT.out hz (fun c hc => by simpa using List.all_eq_true.1 h1 c hc) g off l.length cap _ hs hc
 have := hK () w' hs'
 unfold Oper.wp execOp
 simp only [resolve, invoke, builtin, Sem.run_bind, Sem.run_pure, Result.andThen_ok, List.map_toArray, List.map_cons, List.map_nil, s.ev hx, hr]
 exact this
end
end

section
open Go.RowKit
def flC (f : Fl) : List Value := [.int .i64 (f.src : Int), .int .i64 (f.dst : Int), strV f.bytes]
instance : FixLen flC 3 := ⟨fun _ => rfl⟩
theorem flC_one : ∀ z, ∀ c ∈ flC z, c.oneCell' = true := by intro z c hc; simp [flC] at hc; rcases hc with rfl | rfl | rfl <;> rfl
theorem WS_someC {P : Program} {n : Frm} {w0 : World} {E : Env} {D : List Deferred} {H F : HProp} {Q : Exit → St → Prop} {c : Code} {α : Type} {e : TypeId} {size : Nat} {f : α → List Value} {l : List α} (v : Value) (hl : RowsOf H v α e size f l F) (hk : 0 < l.length) (h : ∀ g off cap, v = .slice (some ⟨g, off, none⟩) l.length cap → l.length ≤ cap → cap ≤ maxLen → WS P n w0 c Q ⟨E, D, H⟩) : WS P n w0 c Q ⟨E, D, H⟩ := fun a w g => by
 have hs := g.sat.cast hl.eq
 unfold rows at hs
 obtain ⟨_, ⟨A, _, h0, _⟩ | ⟨g', off, cap, cur, fr, hv, h1, h2, _⟩⟩ := hs.slc_cases
 ·omega
 ·exact h g' off cap hv h1 h2 a w g
attribute [local irreducible] WS LS OpQ OpT OpH OpTQ Spec SpecQ cel sHead sTail
variable (w0 : World)
set_option maxRecDepth 100000 in
theorem delete_spec (v : Value) (l : List Fl) (k : Nat) (hk : k < l.length) (hl : l.length ≤ 1000) : Spec Tryz.prog w0 84 [v, .int .i64 (k : Int), .int .i64 ((k : Int) + 1)] (rows 114 3 flC v l) (fun v' : Value => v') (fun v' => rows 114 3 flC v' (l.eraseIdx k)) := by
  refine Spec.enter Tryz.func84 rfl Tryz.ntmps84 rfl fun G => ?_
  refine WS_someC v iI (by omega) fun g off cap hv hc hm => ?_
  subst hv
  simp only [argE]
  have h1 : (k : Int) ≠ (k : Int) + 1 := by omega
  have hne : ¬ (k : Int) = (k : Int) + 1 := by omega
  have hk1 : k ≤ l.length := by omega
  have hk2 : k + 1 ≤ l.length := by omega
  repeat' (first | (show WS _ _ _ (.region 5 _ true) _ _; refine WS_drawK (.range 8) 6 [2, 5] (by decide +kernel) rfl ?_) | (refine WS_seqK ?_; intro K hK) | (refine hK _ ?_; clear hK K) | refine stZ ?_ | (refine s2Z ?_ ?_ <;> intro hc <;> (try simp only [cS] at hc) <;> (try (exfalso; first | contradiction | omega))) | refine sbZ ?_ | refine sqZ ?_ | ((first | refine' LQ ?zh rfl ?_ | refine' DL_qp rfl rfl rfl ?zh ?_ | refine' DL_q rfl rfl ?zh ?_); case zh => intro F'; first | exact Q_sliceR_h rfl rfl iI iI iI iI (by first | assumption | omega | (simp [be_length] <;> omega)) | exact Q_sliceR_l rfl rfl iI iI iI iI (by first | assumption | omega | (simp [be_length] <;> omega))) | ((first | refine' LQ ?zh rfl ?_ | refine' DL_q rfl rfl ?zh ?_); (case zh => intro F'; exact Q_slice_lhm rfl rfl rfl rfl iI iI (by omega))) | ((first | refine' LQ ?zh rfl ?_); (case zh => intro F'; exact Q_slice_lh rfl rfl rfl iI iI (by omega))) | (refine DL_h (H_appendDel k hk rfl rfl iI iI iI flC_one iI hc) rfl rfl rfl ?_; intro u1) | (refine LS_h0 (H_clearPast (m := l.length - 1) rfl (by rw [List.length_eraseIdx, if_pos hk]) (by simp) (by simp; omega) iI iI iI rfl (by omega)) ?_; intro g))
  exact ret_tmp (.inl rfl) rfl rfl ⟨_, rfl, finE⟩
end

section
open Go.RowKit
def ptrN (g : Nat) : Option Nd → Value
 | some _ => ptr g 0
 | none => .pointer none
def staC (s : Sta) (gn : Nat) (vj : Value) : List Value := [u32 s.addr, ptrN gn s.node, vj, .int .i64 s.tear, .bool s.armed]
def staN (gn : Nat) : Option Nd → HProp
 | some n => nodI gn n
 | none => emp
def staB (b gn : Nat) (vj : Value) (s : Sta) : HProp := cel b 118 (staC s gn vj) * (rows 5 1 byteC vj s.journal * staN gn s.node)
def staP (b : Nat) (s : Sta) : HProp := hex fun x : Nat × Value => staB b x.1 x.2 s
def stasQ (bs : List Nat) (sts : List Sta) : HProp := pure' (bs.length = sts.length) * zrow staP bs sts
abbrev SV := Option Addr × Nat × Nat
abbrev ES := Ev × SV × SV × SV
def evC (x : ES) : List Value := [.int .i64 x.1.node, .int .i64 x.1.err, strV x.1.out.journal, .bool x.1.out.replace, slV' x.2.1, slV' x.2.2.1, slV' x.2.2.2]
instance : FixLen evC 7 := ⟨fun _ => rfl⟩
theorem evC_one : ∀ z, ∀ c ∈ evC z, c.oneCell' = true := by intro z c hc; simp [evC] at hc; rcases hc with rfl | rfl | rfl | rfl | rfl | rfl | rfl <;> rfl
def svV (x : SV × SV × SV) : Value × Value × Value := (slV' x.1, slV' x.2.1, slV' x.2.2)
def evO (x : ES) : HProp := outR x.1.out (svV x.2)
def evsO : List ES → HProp
 | [] => emp
 | x :: l => evO x * evsO l
theorem evsO_append (l k : List ES) : evsO (l ++ k) = evsO l * evsO k := by
 induction l with
 | nil => rw [List.nil_append, evsO, emp_star]
 | cons x l ih => rw [List.cons_append, evsO, evsO, ih, star_assoc]
structure MH where
  vs : Value
  bs : List Nat
  r : Nat
  va : Value
  ve : Value
def mshC (m : Ms) (h : MH) : List Value := [h.vs, .map (some h.r), .bool (m.hears 0), .bool (m.hears 1), .bool (m.hears 2), .bool (m.hears 3), .bool (m.hears 4), .bool (m.hears 5), .bool (m.hears 6), .bool (m.hears 7), .bool (m.hears 8), .bool (m.hears 9), .bool (m.hears 10), .bool (m.hears 11), .bool (m.hears 12), .bool (m.hears 13), .bool (m.hears 14), .bool (m.hears 15), .bool (m.hears 16), .bool (m.hears 17), .bool (m.hears 18), .bool (m.hears 19), .bool (m.hears 20), .bool (m.hears 21), .bool (m.hears 22), .bool (m.hears 23), .bool (m.hears 24), .bool (m.hears 25), .bool (m.hears 26), .bool (m.hears 27), .bool (m.hears 28), .bool (m.hears 29), .bool (m.hears 30), .bool (m.hears 31), .bool (m.hears 32), .bool (m.hears 33), .bool (m.hears 34), .bool (m.hears 35), h.va, u64 m.now, h.ve]
def amap : Nat → List Sta → List (UInt32 × Int)
 | _, [] => []
 | k, s :: r => (s.addr, (k : Int)) :: amap (k + 1) r
theorem amap_get (a : UInt32) : ∀ (sts : List Sta) (k : Nat), mget (amap k sts) a = (stFind sts a).map fun j => ((k + j : Nat) : Int)
 | [], k => rfl
 | s :: r, k => by
  simp only [amap, mget_cons, stFind]
  split
  ·simp
  ·rw [amap_get a r (k + 1)]
   cases stFind r a with
   | none => rfl
   | some j =>
    show some (((k + 1 + j : Nat)) : Int) = some ((k + (j + 1) : Nat) : Int)
    congr 1; omega
def mshP (g : Nat) (m : Ms) (h : MH) (el : List ES) : HProp :=
 cel g 108 (mshC m h) * (rows 115 1 ptrC h.vs h.bs * (mp u32 i64 h.r (amap 0 m.sts) * (stasQ h.bs m.sts * (rows 114 3 flC h.va m.air * rows 68 7 evC h.ve el))))
def mshA (g : Nat) (k : MH) (m : Ms) (el : List ES) : HProp := hex fun x : Value × Value => pure' (el.map (·.1) = m.evs) * mshP g m ⟨k.vs, k.bs, k.r, x.1, x.2⟩ el
def mshI (g : Nat) (k : MH) (m : Ms) : HProp := hex fun x : Value × Value => cel g 108 (mshC m ⟨k.vs, k.bs, k.r, x.1, x.2⟩) * (rows 115 1 ptrC k.vs k.bs * (mp u32 i64 k.r (amap 0 m.sts) * (stasQ k.bs m.sts * rows 114 3 flC x.1 m.air)))
section
variable {P : Program} {n : Frm} {w0 : World} {E : Env} {D : List Deferred} {F : HProp} {ops : Array Oper} {l' : List Oper} {c : Code} {Q : Exit → St → Prop} {g : Nat} {k : MH} {m : Ms} {el : List ES}
theorem WS_msh (h : ∀ va ve, el.map (·.1) = m.evs → WS P n w0 c Q ⟨E, D, mshP g m ⟨k.vs, k.bs, k.r, va, ve⟩ el * F⟩) : WS P n w0 c Q ⟨E, D, mshA g k m el * F⟩ := by
 unfold mshA
 refine WS_hex fun x => ?_
 rw [star_assoc]
 exact WS_pure fun he => h x.1 x.2 he
theorem Ent.msh {H F : HProp} (va ve : Value) (he : el.map (·.1) = m.evs) (e : Ent H (mshP g m ⟨k.vs, k.bs, k.r, va, ve⟩ el * F)) : Ent H (mshA g k m el * F) := by
 refine Ent.hexI (p := fun x : Value × Value => pure' (el.map (·.1) = m.evs) * mshP g m ⟨k.vs, k.bs, k.r, x.1, x.2⟩ el) (va, ve) ?_
 rw [pure'_true he, emp_star]
 exact e
theorem stasQ_eq {bs : List Nat} {sts : List Sta} (h : bs.length = sts.length) : stasQ bs sts = zrow staP bs sts := by unfold stasQ; rw [pure'_true h, emp_star]
theorem stas_open {bs : List Nat} {sts : List Sta} {i b : Nat} {s : Sta} (hl : bs.length = sts.length) (hb : bs[i]? = some b) (hs : sts[i]? = some s) : ∃ R, stasQ bs sts = staP b s * R ∧ ∀ f : Sta → Sta, stasQ bs (sts.modify i f) = staP b (f s) * R := by
 obtain ⟨R, e1, e2, _⟩ := zrow_hole staP hb hs
 refine ⟨R, by rw [stasQ_eq hl, e1], fun f => ?_⟩
 have hm : sts.modify i f = sts.set i (f s) := modify_set hs f
 have hbs : bs.set i b = bs := by
  apply List.ext_getElem?
  intro j
  rw [List.getElem?_set]
  split
  ·rename_i e; subst e; obtain ⟨h1, h2⟩ := List.getElem?_eq_some_iff.1 hb; simp [h1, h2]
  ·rfl
 have := e2 b (f s)
 rw [hbs] at this
 rw [hm, stasQ_eq (by simpa using hl), this]
theorem WS_mlen {va ve : Value} (h : k.bs.length = m.sts.length → WS P n w0 c Q ⟨E, D, mshP g m ⟨k.vs, k.bs, k.r, va, ve⟩ el * F⟩) : WS P n w0 c Q ⟨E, D, mshP g m ⟨k.vs, k.bs, k.r, va, ve⟩ el * F⟩ := fun a w gd => by
 have e : mshP g m ⟨k.vs, k.bs, k.r, va, ve⟩ el * F = pure' (k.bs.length = m.sts.length) * (cel g 108 (mshC m ⟨k.vs, k.bs, k.r, va, ve⟩) * (rows 115 1 ptrC k.vs k.bs * (mp u32 i64 k.r (amap 0 m.sts) * (zrow staP k.bs m.sts * (rows 114 3 flC va m.air * (rows 68 7 evC ve el * F)))))) := by
  unfold mshP stasQ
  ac_rfl
 obtain ⟨h1, _⟩ := (gd.sat.cast e).pure
 exact h h1 a w gd
end
def mshS (g : Nat) (m : Ms) (k : MH) (va ve : Value) (el : List ES) (b gn : Nat) (vj : Value) (s : Sta) (R : HProp) : HProp :=
 cel g 108 (mshC m ⟨k.vs, k.bs, k.r, va, ve⟩) * (rows 115 1 ptrC k.vs k.bs * (mp u32 i64 k.r (amap 0 m.sts) * (staB b gn vj s * (R * (rows 114 3 flC va m.air * rows 68 7 evC ve el)))))
section
variable {P : Program} {n : Frm} {w0 : World} {E : Env} {D : List Deferred} {F : HProp} {c : Code} {Q : Exit → St → Prop} {g : Nat} {k : MH} {m : Ms} {el : List ES}
theorem mshP_S {va ve : Value} {b : Nat} {s : Sta} {R : HProp} (e : stasQ k.bs m.sts = staP b s * R) (Z : HProp) : mshP g m ⟨k.vs, k.bs, k.r, va, ve⟩ el * Z = hex (fun x : Nat × Value => staB b x.1 x.2 s) * (cel g 108 (mshC m ⟨k.vs, k.bs, k.r, va, ve⟩) * (rows 115 1 ptrC k.vs k.bs * (mp u32 i64 k.r (amap 0 m.sts) * (R * (rows 114 3 flC va m.air * (rows 68 7 evC ve el * Z)))))) := by
 unfold mshP
 simp only
 rw [e]
 unfold staP
 ac_rfl
theorem mshS_eq (va ve : Value) (b gn : Nat) (vj : Value) (s : Sta) (R Z : HProp) : mshS g m k va ve el b gn vj s R * Z = staB b gn vj s * (cel g 108 (mshC m ⟨k.vs, k.bs, k.r, va, ve⟩) * (rows 115 1 ptrC k.vs k.bs * (mp u32 i64 k.r (amap 0 m.sts) * (R * (rows 114 3 flC va m.air * (rows 68 7 evC ve el * Z)))))) := by
 unfold mshS
 ac_rfl
theorem WS_sta {va ve : Value} {b : Nat} {s : Sta} {R : HProp} (e : stasQ k.bs m.sts = staP b s * R) (h : ∀ gn vj, WS P n w0 c Q ⟨E, D, mshS g m k va ve el b gn vj s R * F⟩) : WS P n w0 c Q ⟨E, D, mshP g m ⟨k.vs, k.bs, k.r, va, ve⟩ el * F⟩ := by
 rw [mshP_S e]
 refine WS_hex fun x => ?_
 have := h x.1 x.2
 rw [mshS_eq] at this
 exact this
theorem Ent.sta {H : HProp} {va ve : Value} {b : Nat} {s : Sta} {R : HProp} (gn : Nat) (vj : Value) (e : stasQ k.bs m.sts = staP b s * R) (h : Ent H (mshS g m k va ve el b gn vj s R * F)) : Ent H (mshP g m ⟨k.vs, k.bs, k.r, va, ve⟩ el * F) := by
 rw [mshP_S e]
 rw [mshS_eq] at h
 exact Ent.hexI (p := fun x : Nat × Value => staB b x.1 x.2 s) (gn, vj) h
end
end

end Go.Proofs.YtapoehkdnglahabGreat

