/- A part of what Circles needs. -/
import Derived.Test.YtapoehkdnglahabGreatCirclesGp
set_option linter.unusedVariables false
set_option linter.unusedSimpArgs false
set_option linter.unusedSectionVars false
namespace Go.Proofs.YtapoehkdnglahabGreat
section
variable {E : List Sta} {A : UInt32 → Prop} {a : UInt32} {ρ0 : UInt32 → Int} {G G' : Nat}
def Nd.rank (s : Nd) (d : UInt32) : Int := if d = s.self then 1000000000000000 else rankL s.ls d
structure Nd.Cir (E : List Sta) (A : UInt32 → Prop) (a : UInt32) (ρ0 : UInt32 → Int) (G : Nat) (s : Nd) : Prop where
  self : s.self = a
  up : ∀ d, ρ0 d ≤ s.rank d
  tab : TabC E A a G s.ls
  seq : s.seq.toNat ≤ G
  recs : ∀ r ∈ s.recs, r.seq.toNat ≤ G
  held : ∀ d p, mget s.held d = some p → ∃ p', seqOf s.recs ⟨false, d, 0⟩ = some p' ∧ p.toNat ≤ p'.toNat
  frames : ∀ f ∈ s.out.frames, ∀ p, Pk.dec f.2 = some p → p.Says A s.rank (allK E s.rank) ∧ p.Num G
  ttl : ∀ x ∈ s.srs, x.ttl ≤ 8
theorem Nd.Cir.mono {s : Nd} (h : s.Cir E A a ρ0 G) (hG : G ≤ G') : s.Cir E A a ρ0 G' :=
  ⟨h.self, h.up, h.tab.mono hG, Nat.le_trans h.seq hG, fun r hr => Nat.le_trans (h.recs r hr) hG, h.held, fun f hf p hp => ⟨(h.frames f hf p hp).1, (h.frames f hf p hp).2.mono hG⟩, h.ttl⟩
theorem Nd.rank_eq {s t : Nd} (h1 : t.self = s.self) (h2 : t.ls = s.ls) : t.rank = s.rank := by
  funext d
  unfold Nd.rank
  rw [h1, h2]
theorem Nd.Cir.to {s t : Nd} (h : s.Cir E A a ρ0 G) (h1 : t.self = s.self) (h2 : t.ls = s.ls) (h3 : t.seq = s.seq) (h4 : t.recs = s.recs) (h5 : t.held = s.held) (h6 : t.out.frames = s.out.frames) (h7 : ∀ x ∈ t.srs, x.ttl ≤ 8) : t.Cir E A a ρ0 G := by
  have hr := Nd.rank_eq h1 h2
  exact ⟨h1.trans h.self, by rw [hr]; exact h.up, by rw [h2]; exact h.tab, by rw [h3]; exact h.seq, by rw [h4]; exact h.recs, by rw [h4, h5]; exact h.held, by rw [h6, hr]; exact h.frames, h7⟩
theorem Nd.Cir.tabs {s : Nd} (h : s.Cir E A a ρ0 G) (hG : G ≤ G') {l : List Ln} (hl : TabC E A a G' l) (hg : Goes s.ls l) : Nd.Cir E A a ρ0 G' { s with ls := l } := by
  have hr : ∀ d, s.rank d ≤ Nd.rank { s with ls := l } d := fun d => by
    unfold Nd.rank
    show (if d = s.self then _ else _) ≤ (if d = s.self then _ else _)
    split
    · exact Int.le_refl _
    · exact hg d
  refine ⟨h.self, fun d => Int.le_trans (h.up d) (hr d), hl, Nat.le_trans h.seq hG, fun r hr => Nat.le_trans (h.recs r hr) hG, h.held, fun f hf p hp => ?_, h.ttl⟩
  obtain ⟨h1, h2⟩ := h.frames f hf p hp
  exact ⟨h1.mono hr fun d r => allK_mono (hr d) (Int.le_refl _), h2.mono hG⟩
theorem Nd.Cir.write {s : Nd} (h : s.Cir E A a ρ0 G) (r : Rec) (hr : r.seq.toNat ≤ G) : (s.write r).Cir E A a ρ0 G := by
  have hk := Nd.rank_eq (s := s) (t := s.write r) rfl rfl
  refine ⟨h.self, by rw [hk]; exact h.up, h.tab, h.seq, fun x hx => ?_, fun d p hp => ?_, by rw [hk]; exact h.frames, h.ttl⟩
  · rcases List.mem_append.1 hx with hx | hx
    · exact h.recs x hx
    · simp at hx; subst hx; exact hr
  · show ∃ p', seqOf (s.recs ++ [r]) _ = some p' ∧ _
    have hp' : mget (if r.own then s.held else mset s.held r.addr r.seq) d = some p := hp
    rw [seqOf_snoc]
    cases ho : r.own with
    | true =>
      rw [ho] at hp'
      rw [if_neg (fun e : r.norm.key = _ => by
        have := congrArg Rec.own e
        have h2 : r.norm.key.own = r.own := rfl
        rw [h2, ho] at this
        cases this)]
      exact h.held d p hp'
    | false =>
      rw [ho] at hp'
      simp only [Bool.false_eq_true, if_false, mget_mset] at hp'
      have hkey : r.norm.key = ⟨false, d, 0⟩ ↔ r.addr = d := by
        have : r.norm.key = ⟨false, r.addr, 0⟩ := by
          obtain ⟨o, ad, sq⟩ := r
          simp only at ho
          subst ho
          rfl
        rw [this]
        constructor
        · intro e; exact congrArg Rec.addr e
        · intro e; rw [e]
      by_cases hd : r.addr = d
      · rw [if_pos (hkey.2 hd)]
        refine ⟨_, rfl, ?_⟩
        rw [if_pos hd] at hp'
        cases hp'
        unfold bump
        split
        · rw [max_toNat]; omega
        · exact Nat.le_refl _
      · rw [if_neg (fun e => hd (hkey.1 e))]
        rw [if_neg hd] at hp'
        exact h.held d p hp'
theorem Nd.Cir.note {s : Nd} (h : s.Cir E A a ρ0 G) : s.note.Cir E A a ρ0 G := by
  have h1 : s.noteO.Cir E A a ρ0 G := by
    unfold Nd.noteO
    split
    · exact h.write _ h.seq
    · exact h
  have key : ∀ (L : List Ln) (t : Nd), t.Cir E A a ρ0 G → (∀ l ∈ L, l.seq.toNat ≤ G) → (L.foldl Nd.noteL t).Cir E A a ρ0 G := by
    intro L
    induction L with
    | nil => intro t ht _; exact ht
    | cons l L ih =>
      intro t ht hl
      rw [List.foldl_cons]
      refine ih _ ?_ fun x hx => hl x (by simp [hx])
      have hls := hl l (by simp)
      unfold Nd.noteL
      (repeat' split) <;> first | exact ht.write _ hls | exact ht
  unfold Nd.note
  exact key _ _ h1 fun l hl => (h.tab l (listT_mem' hl)).2
theorem Nd.Cir.send {s : Nd} (h : s.Cir E A a ρ0 G) (to : UInt32) (p : Pk) (hp : p.Fits → p.Says A s.rank (allK E s.rank) ∧ p.Num G) : (s.send to p).Cir E A a ρ0 G := by
  have hk := Nd.rank_eq (s := s) (t := s.send to p) rfl rfl
  refine ⟨h.self, by rw [hk]; exact h.up, h.tab, h.seq, h.recs, h.held, fun f hf q hq => ?_, h.ttl⟩
  rw [hk]
  rcases List.mem_append.1 hf with hf | hf
  · exact h.frames f hf q hq
  · simp at hf
    subst hf
    obtain ⟨rfl, hfit⟩ := dec_out hq
    exact hp hfit
theorem Nd.Cir.drop {s : Nd} (h : s.Cir E A a ρ0 G) (r : Int) : (s.drop r).Cir E A a ρ0 G := h.to rfl rfl rfl rfl rfl rfl h.ttl
theorem Nd.Cir.arm {s : Nd} (h : s.Cir E A a ρ0 G) (i : Int) (w : UInt64) : (s.arm i w).Cir E A a ρ0 G := h.to rfl rfl rfl rfl rfl rfl h.ttl
theorem mem_modify' {α : Type} {l : List α} {k : Nat} {f : α → α} {x : α} (h : x ∈ l.modify k f) : x ∈ l ∨ ∃ y ∈ l, x = f y := by
  obtain ⟨i, hi⟩ := List.getElem?_of_mem h
  rw [List.getElem?_modify] at hi
  cases hl : l[i]? with
  | none => rw [hl] at hi; simp at hi
  | some y =>
    rw [hl] at hi
    have hy := List.mem_of_getElem? hl
    have hi : (if k = i then f y else y) = x := by simpa using hi
    split at hi
    · exact .inr ⟨y, hy, hi.symm⟩
    · exact .inl (by rw [← hi]; exact hy)
theorem Nd.Cir.setOut {s : Nd} (h : s.Cir E A a ρ0 G) (i : Nat) (b : Bool) : (s.setOut i b).Cir E A a ρ0 G := h.to rfl rfl rfl rfl rfl rfl fun x hx => by
  rcases mem_modify' hx with hx | ⟨y, hy, rfl⟩
  · exact h.ttl x hx
  · exact h.ttl y hy
theorem Nd.Cir.remember {s : Nd} (h : s.Cir E A a ρ0 G) (r : Rq) : (s.remember r).Cir E A a ρ0 G := by
  obtain ⟨e1, e2, e3, e4, e5⟩ := s.remember_eqs r
  have e6 : (s.remember r).seq = s.seq ∧ (s.remember r).held = s.held ∧ (s.remember r).srs = s.srs := by
    unfold Nd.remember
    dsimp only
    split <;> exact ⟨rfl, rfl, rfl⟩
  exact h.to e2 e1 e6.1 e5 e6.2.1 (by rw [e4]) (by rw [e6.2.2]; exact h.ttl)
theorem Pk.Says.none {ρ : UInt32 → Int} {K : UInt32 → Int → Nat} {p : Pk} (h1 : p.kind ≠ 1) (h2 : p.kind ≠ 2) : p.Says A ρ K := ⟨fun h => absurd h h1, fun h => absurd h h2⟩
theorem Nd.Cir.hand {s : Nd} (h : s.Cir E A a ρ0 G) (d : UInt32) (t : Str) : (s.hand d t).Cir E A a ρ0 G := by
  unfold Nd.hand
  split
  · exact h
  · rename_i x hx
    have h0 : Nd.Cir E A a ρ0 G { s with datas := s.datas + 1 } := h.to rfl rfl rfl rfl rfl rfl h.ttl
    have h1 := h0.send x.next ⟨8, 9, 0, false, s.datas + 1, d, 0, s.self, 0, 0, [], t⟩ fun _ => ⟨Pk.Says.none (by simp) (by simp), ⟨Nat.zero_le _, Nat.zero_le _, fun l hl => by cases hl⟩⟩
    obtain ⟨k1, k2⟩ := h.tab.use d s.soon
    exact h1.tabs (Nat.le_refl _) k1 k2
theorem Nd.Cir.handAll {s : Nd} (h : s.Cir E A a ρ0 G) (d : UInt32) (l : List Str) : (s.handAll d l).Cir E A a ρ0 G := by
  induction l using snocInd with
  | nil => exact h
  | snoc l t ih => rw [Nd.handAll_snoc]; exact ih.hand d t
theorem Nd.Cir.flush {s : Nd} (h : s.Cir E A a ρ0 G) (d : UInt32) : (s.flush d).Cir E A a ρ0 G := by
  have h1 := h.handAll d (s.texts d)
  have h2 : ((s.handAll d (s.texts d)).unwait d).Cir E A a ρ0 G := h1.to rfl rfl rfl rfl rfl rfl h1.ttl
  unfold Nd.flush
  simp only
  split
  · exact h2.to rfl rfl rfl rfl rfl rfl fun x hx => h2.ttl x ((List.eraseIdx_sublist _ _).subset hx)
  · exact h2
theorem numT_le {ls : List Ln} (h : TabC E A a G ls) (d : UInt32) : (numT ls d).toNat ≤ G := by
  unfold numT
  split
  · rename_i l hl
    exact (h l (lget_mem hl).1).2
  · exact Nat.zero_le _
theorem Said.own {s : Nd} {d : UInt32} (hd : d = s.self) (hs : s.self = a) (ha : A a) {q : UInt32} {t : Int} (ht : t ≤ 8) : Said A s.rank (allK E s.rank) d q 0 t := by
  have hq := q.toNat_lt
  have hr : s.rank d = 1000000000000000 := by unfold Nd.rank; rw [if_pos hd]
  refine ⟨by rw [hd, hs]; exact ha, by rw [hr]; omega, Int.le_refl _, ?_⟩
  unfold allK
  rw [hr, if_pos (by omega)]
  omega
theorem Nd.Cir.seqs {s : Nd} (h : s.Cir E A a ρ0 G) (q : UInt32) (hG : G ≤ G') (hq : q.toNat ≤ G') : Nd.Cir E A a ρ0 G' { s with seq := q } := by
  have h' := h.mono hG
  have hk := Nd.rank_eq (s := s) (t := { s with seq := q }) rfl rfl
  exact ⟨h'.self, by rw [hk]; exact h'.up, h'.tab, hq, h'.recs, h'.held, by rw [hk]; exact h'.frames, h'.ttl⟩
theorem Nd.Cir.ask1 {s : Nd} (h : s.Cir E A a ρ0 G) (ha : A a) (x : Sr) (hx : x.ttl ≤ 8) : (s.ask1 x).Cir E A a ρ0 (G + 1) := by
  have hg := growS_le s.seq
  have h0 := h.seqs (growS s.seq) (Nat.le_succ G) (by have := h.seq; omega)
  have h1 := h0.note
  unfold Nd.ask1
  simp only
  generalize Nd.note { s with seq := growS s.seq } = t at *
  have h2 : Nd.Cir E A a ρ0 (G + 1) { t with ids := t.ids + 1, sent := trimS (t.sent ++ [t.now]) } := h1.to rfl rfl rfl rfl rfl rfl h1.ttl
  refine Nd.Cir.remember (h2.send 0 _ fun _ => ⟨⟨fun _ => ?_, fun hk => by cases hk⟩, ⟨h2.seq, numT_le h2.tab _, fun l hl => by cases hl⟩⟩) _
  exact Said.own (s := { t with ids := t.ids + 1, sent := trimS (t.sent ++ [t.now]) }) rfl h2.self ha hx
theorem Nd.Cir.ask {s : Nd} (h : s.Cir E A a ρ0 G) (ha : A a) (k : Nat) (x : Sr) (hx : x.ttl ≤ 8) : (s.ask k x).Cir E A a ρ0 (G + 1) := by
  unfold Nd.ask
  split
  · exact (((h.setOut _ _).drop _).arm _ _).mono (Nat.le_succ _)
  · split
    · exact (((h.setOut _ _).drop _).arm _ _).mono (Nat.le_succ _)
    · exact ((h.setOut _ _).ask1 ha _ hx).arm _ _
theorem Nd.Cir.again {s : Nd} (h : s.Cir E A a ρ0 G) (ha : A a) (k : Nat) (x : Sr) (hx : x.ttl ≤ 8) : (s.again k x).Cir E A a ρ0 (G + 1) := by
  unfold Nd.again
  split
  · exact (h.flush _).mono (Nat.le_succ _)
  · split
    · split
      · rename_i y hy
        have hy' : y.ttl ≤ 8 := by
          unfold Sr.further at hy
          repeat' split at hy
          all_goals (cases hy <;> simp only <;> omega)
        refine Nd.Cir.ask (s := { s with srs := s.srs.set k y }) (h.to rfl rfl rfl rfl rfl rfl fun z hz => ?_) ha k y hy'
        rcases List.mem_or_eq_of_mem_set hz with hz | rfl
        · exact h.ttl z hz
        · exact hy'
      · exact (h.to (t := ((s.drops (s.texts x.dest).length 5).unwait x.dest).stop k) rfl rfl rfl rfl rfl rfl fun z hz => h.ttl z ((List.eraseIdx_sublist _ _).subset hz)).mono (Nat.le_succ _)
    · exact h.ask ha _ _ hx
theorem Nd.Cir.step {s t : Nd} {now : UInt64} (h : s.Cir E A a ρ0 G) (ha : A a) (hst : s.step now = some t) : t.Cir E A a ρ0 (G + 1) := by
  unfold Nd.step at hst
  split at hst
  · cases hst
  · rename_i i _
    simp only at hst
    have h0 : Nd.Cir E A a ρ0 G { s with clk := s.clk.eraseIdx i } := h.to rfl rfl rfl rfl rfl rfl h.ttl
    split at hst
    · split at hst
      · rename_i x hx
        cases hst
        exact h0.again ha _ _ (h.ttl x (List.mem_of_getElem? hx))
      · cases hst; exact h0.mono (Nat.le_succ _)
    · cases hst; exact h0.mono (Nat.le_succ _)
theorem Nd.Cir.ticks (ha : A a) (now : UInt64) : ∀ (f : Nat) (s : Nd) (G : Nat), s.Cir E A a ρ0 G → (s.ticks f now).Cir E A a ρ0 (G + f)
  | 0, s, G, h => h
  | f + 1, s, G, h => by
    unfold Nd.ticks
    cases hs : s.step now with
    | none => exact h.mono (by omega)
    | some t =>
      have := Nd.Cir.ticks ha now f t (G + 1) (h.step ha hs)
      rw [show G + (f + 1) = G + 1 + f by omega]
      exact this
theorem Nd.Cir.answer {s : Nd} (h : s.Cir E A a ρ0 G) (p : Pk) (hs : Said A s.rank (allK E s.rank) p.dest p.destSeq p.hops 8) (hn : p.Num G) : (s.answer p).Cir E A a ρ0 G := by
  unfold Nd.answer
  split
  · exact h.send _ _ fun _ => ⟨⟨fun hk => (by cases hk), fun _ => hs⟩, ⟨hn.src, hn.dst, hn.lost⟩⟩
  · exact h.drop _
theorem lookT_get {ls : List Ln} {d : UInt32} {now : UInt64} {x : Ln} (h : lookT ls d now = some x) : lget ls d = some x ∧ x.valid = true ∧ now < x.expires := by
  unfold lookT at h
  split at h
  · rename_i l hl
    split at h
    · rename_i hv; cases h; exact ⟨hl, hv.1, hv.2⟩
    · cases h
  · cases h
theorem Nd.Cir.req3 {s : Nd} (h : s.Cir E A a ρ0 G) (p : Pk) (hk : p.kind = 1) (hs : Said A s.rank (allK E s.rank) p.from_ p.fromSeq (hop1 p) (p.ttl - 1)) (hn : p.Num G) : (s.req3 p).Cir E A a ρ0 G := by
  unfold Nd.req3
  split
  · exact h.drop _
  · split
    · rename_i l hl
      refine h.send _ _ fun _ => ⟨⟨fun _ => hs, fun hk2 => ?_⟩, ⟨hn.src, ?_, hn.lost⟩⟩
      · have hk2' : p.kind = 2 := hk2
        omega
      · show (max p.destSeq l.seq).toNat ≤ G
        have := (h.tab l (lget_mem hl).1).2
        have := hn.dst
        rw [max_toNat]; omega
    · refine h.send _ _ fun _ => ⟨⟨fun _ => hs, fun hk2 => ?_⟩, ⟨hn.src, hn.dst, hn.lost⟩⟩
      have hk2' : p.kind = 2 := hk2
      omega
theorem Nd.Cir.befs {s : Nd} (h : s.Cir E A a ρ0 G) (b : Bool) (d e n m : UInt32) : TabC E A a G (befT (if b then befT s.ls d n else s.ls) e m) ∧ Goes s.ls (befT (if b then befT s.ls d n else s.ls) e m) := by
  obtain ⟨k1, k2⟩ := h.tab.bef d n
  cases b with
  | true => obtain ⟨k3, k4⟩ := k1.bef e m; exact ⟨k3, k2.trans k4⟩
  | false => exact h.tab.bef e m
theorem Nd.Cir.req2 {s : Nd} (h : s.Cir E A a ρ0 G) (ha : A a) (hE : E.length ≤ 5) (p : Pk) (hk : p.kind = 1) (hs : Said A s.rank (allK E s.rank) p.from_ p.fromSeq (hop1 p) (p.ttl - 1)) (hn : p.Num G) : (s.req2 p).Cir E A a ρ0 G := by
  unfold Nd.req2
  split
  · rename_i hd
    have hq : (if p.unknown then s.seq else max s.seq p.destSeq).toNat ≤ G := by
      split
      · exact h.seq
      · have := h.seq; have := hn.dst; rw [max_toNat]; omega
    have h0 := h.seqs (if p.unknown then s.seq else max s.seq p.destSeq) (Nat.le_refl G) hq
    refine h0.answer _ ?_ ⟨Nat.zero_le _, hq, fun l hl => by cases hl⟩
    exact Said.own (s := { s with seq := if p.unknown then s.seq else max s.seq p.destSeq }) hd h.self ha (Int.le_refl _)
  · rename_i hd
    split
    · rename_i x hx
      split
      · obtain ⟨g1, g2, g3⟩ := lookT_get hx
        obtain ⟨hm, hxd⟩ := lget_mem g1
        obtain ⟨hl, hls⟩ := h.tab x hm
        obtain ⟨v1, v2, v3, v4⟩ := hl.valid g2
        have hr : s.rank p.dest = x.r := by
          unfold Nd.rank rankL
          rw [if_neg hd, g1]
        have hxr : x.r = (x.seq.toNat : Int) * 1000 - x.hops := by unfold Ln.r Ln.rk; rw [if_pos g2]
        have hb : ∃ l2, s.ans2 p x = Nd.answer { s with ls := l2 } ⟨0, 0, x.hops, false, 0, p.dest, x.seq, p.from_, 0, (x.expires - s.now).toUInt32, [], []⟩ ∧ TabC E A a G l2 ∧ Goes s.ls l2 := by
          unfold Nd.ans2
          refine ⟨_, rfl, ?_⟩
          split
          · rename_i b _
            exact h.befs true p.dest p.from_ b.next x.next
          · exact h.befs false p.dest p.from_ 0 x.next
        obtain ⟨l2, e2, t2, g2'⟩ := hb
        rw [e2]
        have h3 := h.tabs (Nat.le_refl G) t2 g2'
        refine h3.answer _ ?_ ⟨Nat.zero_le _, hls, fun l hl => by cases hl⟩
        have hup : ∀ d, s.rank d ≤ Nd.rank { s with ls := l2 } d := fun d => by
          unfold Nd.rank
          show (if d = s.self then _ else _) ≤ (if d = s.self then _ else _)
          split
          · exact Int.le_refl _
          · exact g2' d
        refine Said.mono (ρ := s.rank) (K := allK E s.rank) ⟨?_, ?_, hl.hops.1, ?_⟩ hup fun d r => allK_mono (hup d) (Int.le_refl _)
        · show A p.dest; rw [← hxd]; exact hl.dest.1
        · show (x.seq.toNat : Int) * 1000 - x.hops ≤ s.rank p.dest
          omega
        · show x.hops + 8 + 1 ≤ 9 * (allK E s.rank p.dest ((x.seq.toNat : Int) * 1000 - x.hops) : Int)
          rw [← hxr]
          unfold allK
          rw [hr, if_pos (Int.le_refl _), ← hxd]
          omega
      · exact h.req3 p hk hs hn
    · exact h.req3 p hk hs hn
structure Heard (E : List Sta) (A : UInt32 → Prop) (a : UInt32) (ρ0 : UInt32 → Int) (G : Nat) (src : UInt32) (p : Pk) : Prop where
  says : p.Says A (othR E src) (allK E ρ0)
  num : p.Num G
  src : A src ∧ src ≠ a
  ttl : 1 ≤ p.ttl
theorem Nd.Cir.rho {s : Nd} (h : s.Cir E A a ρ0 G) (d : UInt32) : ρ0 d ≤ if d = a then 1000000000000000 else rankL s.ls d := by
  have := h.up d
  unfold Nd.rank at this
  rw [h.self] at this
  exact this
theorem Said.on {s : Nd} {d q : UInt32} {hp t : Int} {src : UInt32} (hs : Said A (othR E src) (allK E ρ0) d q hp t) (hup : ∀ d, ρ0 d ≤ s.rank d) (h1 : (q.toNat : Int) * 1000 - (hp + 1) ≤ s.rank d) : Said A s.rank (allK E s.rank) d q (hp + 1) (t - 1) := by
  refine ⟨hs.who, h1, by have := hs.hops; omega, ?_⟩
  have h2 := hs.few
  have h3 := allK_mono (E := E) (d := d) (hup d) (show (q.toNat : Int) * 1000 - (hp + 1) ≤ (q.toNat : Int) * 1000 - hp by omega)
  omega
theorem Nd.Cir.req {s : Nd} (h : s.Cir E A a ρ0 G) (hA : ¬ A 0) (ha : A a) (hE : E.length ≤ 5) (src : UInt32) (p : Pk) (hk : p.kind = 1) (hp : Heard E A a ρ0 G src p) : (s.req src p).Cir E A a ρ0 G := by
  unfold Nd.req
  split
  · exact h.drop _
  · simp only
    have h1 := h.remember ⟨p.from_, p.id⟩
    generalize s.remember ⟨p.from_, p.id⟩ = s1 at *
    have hs := hp.says.req hk
    obtain ⟨k53, k1, k2, k3⟩ := h1.tab.upd hA hE (h1.rho p.from_) hs hp.ttl hp.num.src hp.src s1.soon
    have hh : hop1 p = p.hops + 1 := by unfold hop1; omega
    have eu : s1.reqU src p = updT a s1.ls (Ln.learned p.from_ p.fromSeq (min (p.hops + 1) 255) src s1.soon) := by unfold Nd.reqU hop1; rw [h1.self]
    rw [eu]
    generalize updT a s1.ls (Ln.learned p.from_ p.fromSeq (min (p.hops + 1) 255) src s1.soon) = u at *
    split
    · exact (h1.tabs (Nat.le_refl _) k1 k2).drop _
    · rename_i hu
      have hb : ∃ l2, (if u.1 = 3 then useT u.2 p.from_ s1.soon else u.2) = l2 ∧ TabC E A a G l2 ∧ Goes u.2 l2 := by
        refine ⟨_, rfl, ?_⟩
        split
        · exact k1.use _ _
        · exact ⟨k1, Goes.rfl' _⟩
      obtain ⟨l2, e2, t2, g2⟩ := hb
      rw [e2]
      have h3 := h1.tabs (Nat.le_refl _) t2 (k2.trans g2)
      refine h3.req2 ha hE p hk ?_ hp.num
      rw [hh]
      refine Said.on hs h3.up ?_
      refine Int.le_trans (k3 hu) ?_
      unfold Nd.rank
      show _ ≤ if p.from_ = s1.self then _ else rankL l2 p.from_
      rw [h1.self]
      split
      · exact Int.le_refl _
      · exact g2 _
theorem Nd.Cir.lost {s : Nd} (h : s.Cir E A a ρ0 G) (l : List (UInt32 × UInt32)) (hl : ∀ x ∈ l, x.2.toNat ≤ G) : (s.lost l).Cir E A a ρ0 G := by
  unfold Nd.lost
  split
  · exact h.send _ _ fun _ => ⟨Pk.Says.none (by simp [Pk.lose]) (by simp [Pk.lose]), ⟨Nat.zero_le _, Nat.zero_le _, hl⟩⟩
  · exact h
theorem loses_num {src : UInt32} : ∀ (l : List (UInt32 × UInt32)) (x : List Ln × List (UInt32 × UInt32) × Bool) (G : Nat), TabC E A a G x.1 → G + l.length < 4294967295 → (∀ y ∈ l, y.2.toNat ≤ G) → (∀ y ∈ x.2.1, y.2.toNat ≤ G) → ∀ y ∈ (l.foldl (loseStep src) x).2.1, y.2.toNat ≤ G + l.length
  | [], x, G, h, _, _, hx => hx
  | y :: l, x, G, h, hG, hy, hx => by
    obtain ⟨h1, h2⟩ := h.lose (by omega) src y.1 y.2 (Nat.le_succ_of_le (hy y (by simp)))
    rw [List.foldl_cons]
    intro z hz
    have := loses_num l (loseStep src x y) (G + 1) h1 (by simp at hG; omega) (fun w hw => Nat.le_succ_of_le (hy w (by simp [hw]))) (fun w hw => by
      unfold loseStep at hw
      simp only at hw
      split at hw
      · rcases List.mem_append.1 hw with hw | hw
        · exact Nat.le_succ_of_le (hx w hw)
        · simp at hw; subst hw; exact numT_le h1 _
      · exact Nat.le_succ_of_le (hx w hw)) z hz
    simp only [List.length_cons]
    omega
theorem Nd.Cir.los {s : Nd} (h : s.Cir E A a ρ0 G) (hG : G + 8 < 4294967295) (src : UInt32) (p : Pk) (hn : p.Num G) (hl : p.lost.length ≤ 8) : (s.los src p).Cir E A a ρ0 (G + 8) := by
  obtain ⟨k1, k2⟩ := TabC.loses (src := src) p.lost (s.ls, [], false) G h.tab (by omega) hn.lost
  have k3 := loses_num (src := src) p.lost (s.ls, [], false) G h.tab (by omega) hn.lost (fun y hy => by cases hy)
  have h1 := (h.tabs (Nat.le_add_right G 8) (k1.mono (by omega)) k2).lost (loseAll src s.ls p.lost).2.1 fun x hx => Nat.le_trans (k3 x hx) (by omega)
  unfold Nd.los
  simp only
  split
  · exact h1
  · exact h1.drop _
theorem outB_num {nb : UInt32} {ls l0 : List Ln} (h : TabC E A a G (brkT nb ls)) (l : List UInt32) (hh : ∀ d ∈ l, True) : ∀ y ∈ outB nb l ls, y.2.toNat ≤ G := by
  intro y hy
  unfold outB at hy
  obtain ⟨d, _, hd⟩ := List.mem_filterMap.1 hy
  cases hg : lget ls d with
  | none => rw [hg] at hd; cases hd
  | some x =>
    rw [hg] at hd
    simp only at hd
    split at hd
    · rename_i hc
      simp only [Option.some.injEq] at hd
      subst hd
      have hm : Ln.brk nb x ∈ brkT nb ls := List.mem_map_of_mem (lget_mem hg).1
      have h1 := (h _ hm).2
      have h2 : Ln.brk nb x = x.ended 0 := by unfold Ln.brk; rw [if_pos ⟨hc.1, hc.2.1⟩]
      rw [h2] at h1
      exact h1
    · cases hd
theorem Nd.Cir.brk {s : Nd} (h : s.Cir E A a ρ0 G) (hG : G < 4294967295) (nb : UInt32) : (s.brk nb).Cir E A a ρ0 (G + 1) := by
  obtain ⟨k1, k2⟩ := h.tab.brk hG nb
  exact (h.tabs (Nat.le_succ G) k1 k2).lost _ (outB_num (l0 := []) k1 _ fun _ _ => trivial)
theorem Nd.Cir.tell {s : Nd} (h : s.Cir E A a ρ0 G) (to d q : UInt32) (hq : q.toNat ≤ G) : (s.tell to d q).Cir E A a ρ0 G := h.send _ _ fun _ => ⟨Pk.Says.none (by simp [Pk.lose]) (by simp [Pk.lose]), ⟨Nat.zero_le _, Nat.zero_le _, fun l hl => by simp [Pk.lose] at hl; subst hl; exact hq⟩⟩
def Fresh (ls : List Ln) (now : UInt64) : Prop := ∀ l ∈ ls, l.valid = true → now < l.expires
theorem Nd.Cir.dat {s : Nd} (h : s.Cir E A a ρ0 G) (hf : Fresh s.ls s.now) (src : UInt32) (p : Pk) (hk : p.kind = 9) (hn : p.Num G) : (s.dat src p).Cir E A a ρ0 (G + 1) := by
  unfold Nd.dat
  split
  · exact (h.to (t := s.came (p.from_, p.payload)) rfl rfl rfl rfl rfl rfl h.ttl).mono (Nat.le_succ _)
  · split
    · exact (h.drop _).mono (Nat.le_succ _)
    · split
      · rename_i hx
        obtain ⟨k1, k2⟩ := h.tab.bump p.dest fun l hl => by
          cases hv : l.valid with
          | false => rfl
          | true =>
            have := hf l (lget_mem hl).1 hv
            unfold lookT at hx
            rw [hl] at hx
            simp only [hv, this, and_self, if_true] at hx
            cases hx
        exact Nd.Cir.tell ((h.drop 3).tabs (Nat.le_succ G) k1 k2) _ _ _ (numT_le k1 _)
      · rename_i x hx
        have h1 := h.send x.next { p with ttl := p.ttl - 1 } fun _ => ⟨Pk.Says.none (by show p.kind ≠ 1; omega) (by show p.kind ≠ 2; omega), ⟨hn.src, hn.dst, hn.lost⟩⟩
        obtain ⟨k1, k2⟩ := h.tab.use p.dest s.soon
        obtain ⟨k3, k4⟩ := k1.use p.from_ s.soon
        exact (h1.tabs (Nat.le_refl _) k3 (k2.trans k4)).mono (Nat.le_succ _)
theorem Nd.Cir.rep {s : Nd} (h : s.Cir E A a ρ0 G) (hA : ¬ A 0) (hE : E.length ≤ 5) (src : UInt32) (p : Pk) (hk : p.kind = 2) (hp : Heard E A a ρ0 G src p) : (s.rep src p).Cir E A a ρ0 G := by
  unfold Nd.rep
  split
  · exact h.drop _
  · simp only
    have hs := hp.says.rep hk
    obtain ⟨k53, k1, k2, k3⟩ := h.tab.upd hA hE (h.rho p.dest) hs hp.ttl hp.num.dst hp.src (s.now + p.life.toUInt64)
    have hh : hop1 p = p.hops + 1 := by unfold hop1; omega
    have eu : updT s.self s.ls (Ln.learned p.dest p.destSeq (hop1 p) src (s.now + p.life.toUInt64)) = updT a s.ls (Ln.learned p.dest p.destSeq (min (p.hops + 1) 255) src (s.now + p.life.toUInt64)) := by unfold hop1; rw [h.self]
    rw [eu]
    generalize updT a s.ls (Ln.learned p.dest p.destSeq (min (p.hops + 1) 255) src (s.now + p.life.toUInt64)) = u at *
    have h3 := h.tabs (Nat.le_refl _) k1 k2
    split
    · exact h3.drop _
    · rename_i hu
      split
      · have h4 : Nd.Cir E A a ρ0 G (if (lookT u.2 p.dest s.now).isSome then Nd.flush { s with ls := u.2 } p.dest else { s with ls := u.2 }) := by
          split
          · exact h3.flush _
          · exact h3
        split
        · exact h4.drop _
        · exact h4
      · split
        · split <;> exact h3.drop _
        · split
          · exact h3.drop _
          · rename_i b _ _
            have hrank : (p.destSeq.toNat : Int) * 1000 - (p.hops + 1) ≤ Nd.rank { s with ls := u.2 } p.dest := by
              refine Int.le_trans (k3 hu) ?_
              unfold Nd.rank
              show _ ≤ if p.dest = s.self then _ else rankL u.2 p.dest
              rw [h.self]
              exact Int.le_refl _
            have h5 := h3.send b.next { p with ttl := p.ttl - 1, hops := hop1 p } fun _ => ⟨⟨fun hk1 => by have hk1' : p.kind = 1 := hk1; omega, fun _ => by show Said A _ _ p.dest p.destSeq (hop1 p) (p.ttl - 1); rw [hh]; exact Said.on hs h3.up hrank⟩, ⟨hp.num.src, hp.num.dst, hp.num.lost⟩⟩
            obtain ⟨q1, q2⟩ := k1.bef p.dest b.next
            obtain ⟨q3, q4⟩ := q1.bef p.from_ src
            obtain ⟨q5, q6⟩ := q3.use p.from_ s.soon
            exact h5.tabs (Nat.le_refl _) q5 (q2.trans (q4.trans q6))
theorem Nd.Cir.rcvQ {s : Nd} (h : s.Cir E A a ρ0 G) (now : UInt64) (src : UInt32) (f : Str) : (s.rcvQ now src f).Cir E A a ρ0 G := by
  unfold Nd.rcvQ
  split
  · exact h.drop _
  · rename_i p _
    split
    · exact h.drop _
    · split
      · have h1 := h.tell src p.dest (numT s.ls p.dest) (numT_le h.tab _)
        exact Nd.Cir.drop (h1.to (t := { s.tell src p.dest (numT s.ls p.dest) with silent := now + 2000 }) rfl rfl rfl rfl rfl rfl h1.ttl) 8
      · exact h.drop _
theorem Nd.Cir.handle {s : Nd} (h : s.Cir E A a ρ0 G) (hA : ¬ A 0) (ha : A a) (hE : E.length ≤ 5) (hG : G + 8 < 4294967295) (hf : Fresh s.ls s.now) (src : UInt32) (p : Pk) (hfit : p.Fits) (hp : Heard E A a ρ0 G src p) : (s.handle src p).Cir E A a ρ0 (G + 8) := by
  unfold Nd.handle
  split
  · rename_i e; exact (h.req hA ha hE src p e hp).mono (by omega)
  · split
    · rename_i e; exact (h.rep hA hE src p e hp).mono (by omega)
    · split
      · exact h.los hG src p hp.num hfit.1.2.2.2.2.2
      · rename_i e1 e2 e3
        have hk : p.kind = 9 := by
          obtain ⟨_, hh⟩ := hfit
          rcases hh with hh | hh | hh | hh
          · exact absurd hh.1 e1
          · exact absurd hh.1 e2
          · exact absurd hh.1 e3
          · exact hh.1
        exact (h.dat hf src p hk hp.num).mono (by omega)
theorem Nd.Cir.rcv {s : Nd} (h : s.Cir E A a ρ0 G) (hA : ¬ A 0) (ha : A a) (hE : E.length ≤ 5) (hG : G + 8 < 4294967295) (hf : Fresh s.ls s.now) (now : UInt64) (src : UInt32) (f : Str) (hp : ∀ p, Pk.dec f = some p → src ≠ a → Heard E A a ρ0 G src p) : (s.rcv now src f).Cir E A a ρ0 (G + 8) := by
  unfold Nd.rcv
  split
  · exact (h.rcvQ _ _ _).mono (by omega)
  · rename_i p hd
    split
    · exact (h.rcvQ _ _ _).mono (by omega)
    · rename_i hn
      simp only [not_or] at hn
      exact h.handle hA ha hE hG hf src p (Pk.dec_some hd).1 (hp p hd (by rw [← h.self]; exact hn.2.1))
theorem Nd.Cir.sendT {s : Nd} (h : s.Cir E A a ρ0 G) (ha : A a) (d : UInt32) (t : Str) : (s.sendT d t).Cir E A a ρ0 (G + 1) := by
  rw [Nd.sendT_eq]
  split
  · exact (h.hand d t).mono (Nat.le_succ _)
  · obtain ⟨e1, e2, e3, e4, e5, e6, e7, e8, e9, e10, e11, e12, e13⟩ := s.roomFor_eqs d
    have h1 : ((s.roomFor d).put d t).Cir E A a ρ0 G := h.to e7 e6 e11 e13 e8 e12 (by show ∀ x ∈ (s.roomFor d).srs, _; rw [e4]; exact h.ttl)
    split
    · exact h1.mono (Nat.le_succ _)
    · unfold Nd.begins
      refine Nd.Cir.ask (s := ((s.roomFor d).put d t).newSr d) (h1.to rfl rfl rfl rfl rfl rfl fun x hx => ?_) ha _ _ (by simp)
      rcases List.mem_append.1 hx with hx | hx
      · exact h1.ttl x hx
      · simp at hx; subst hx; simp
end

section
variable {E : List Sta} {A : UInt32 → Prop} {a : UInt32} {ρ0 : UInt32 → Int} {G G' : Nat}
theorem seqOf_le {l : List Rec} {k : Rec} {q : UInt32} (hG : ∀ r ∈ l, r.seq.toNat ≤ G) (h : seqOf l k = some q) : q.toNat ≤ G := by
  induction l using snocInd generalizing q with
  | nil => cases h
  | snoc l r ih =>
    rw [seqOf_snoc] at h
    have hr := hG r (by simp)
    have hl : ∀ x ∈ l, x.seq.toNat ≤ G := fun x hx => hG x (by simp [hx])
    split at h
    · cases hq : seqOf l k with
      | none => rw [hq] at h; cases h; exact hr
      | some t =>
        rw [hq] at h
        cases h
        have := ih hl hq
        show (max t r.seq).toNat ≤ G
        rw [max_toNat]; omega
    · exact ih hl h
theorem comp_seq {l : List Rec} (hG : ∀ r ∈ l, r.seq.toNat ≤ G) : ∀ r ∈ compR l, r.seq.toNat ≤ G := fun r hr => by
  obtain ⟨h1, h2⟩ := (mem_lookR (compR_ino l)).1 hr
  rw [lookR_comp] at h2
  exact seqOf_le hG h2
theorem foldl_look : ∀ (l : List Rec) (k : Rec) (o : Option UInt32), InO l → l.foldl (fun o r => if r.norm.key = k then some (bump o r.seq) else o) o = match lookR l k with
    | some q => some (bump o q)
    | none => o
  | [], k, o, _ => rfl
  | x :: l, k, o, h => by
    have hx := h.norm x List.mem_cons_self
    have hl := (List.pairwise_cons.1 h.rise).1
    rw [List.foldl_cons, hx]
    simp only [lookR]
    by_cases e : x.key = k
    · rw [if_pos e, if_pos e, foldl_look l k _ h.tail]
      have : lookR l k = none := lookR_none fun y hy => by
        subst e
        exact fun e => lt_key hx (h.norm y (List.mem_cons_of_mem _ hy)) (hl y hy) e.symm
      rw [this]
    · rw [if_neg e, if_neg e]
      exact foldl_look l k o h.tail
theorem seqOf_comp (l : List Rec) (k : Rec) : seqOf (compR l) k = seqOf l k := by
  have h := foldl_look (compR l) k none (compR_ino l)
  rw [lookR_comp] at h
  unfold seqOf at h ⊢
  rw [h]
  generalize List.foldl (fun o r => if r.norm.key = k then some (bump o r.seq) else o) none l = o
  cases o <;> rfl
theorem seqOf_more (l m : List Rec) (k : Rec) {q : UInt32} (h : seqOf l k = some q) : ∃ q', seqOf (l ++ m) k = some q' ∧ q.toNat ≤ q'.toNat := by
  induction m using snocInd with
  | nil => exact ⟨q, by rw [List.append_nil]; exact h, Nat.le_refl _⟩
  | snoc m r ih =>
    obtain ⟨q', h1, h2⟩ := ih
    rw [← List.append_assoc, seqOf_snoc, h1]
    split
    · refine ⟨max q' r.seq, rfl, ?_⟩
      rw [max_toNat]; omega
    · exact ⟨q', rfl, h2⟩
theorem seqOf_norm (l : List Rec) (k : Rec) : seqOf (l.map Rec.norm) k = seqOf l k := by
  induction l using snocInd with
  | nil => rfl
  | snoc l r ih =>
    rw [List.map_append, List.map_cons, List.map_nil, seqOf_snoc, seqOf_snoc, ih, Rec.norm_norm]
    rfl
def elig (a : UInt32) (c : List Rec) : List Rec := c.filter fun r => !r.own && r.addr != a
theorem elig_snoc (a : UInt32) (c : List Rec) (r : Rec) : elig a (c ++ [r]) = elig a c ++ if r.own = false ∧ r.addr ≠ a then [r] else [] := by
  unfold elig
  rw [List.filter_append]
  congr 1
  by_cases h : r.own = false ∧ r.addr ≠ a
  · rw [if_pos h]; simp [h.1, h.2]
  · rw [if_neg h]
    simp only [List.filter_cons, List.filter_nil]
    rw [if_neg]
    intro hc
    simp only [Bool.and_eq_true, Bool.not_eq_true', bne_iff_ne] at hc
    exact h hc
theorem newT_elig (a : UInt32) (c : List Rec) (hn : ((elig a c).map (·.addr)).Nodup) (h8 : (elig a c).length ≤ 8) : newT a c = (elig a c).map Rec.ln := by
  induction c using snocInd with
  | nil => rfl
  | snoc c r ih =>
    rw [newT_snoc]
    rw [elig_snoc] at hn h8 ⊢
    by_cases h : r.own = false ∧ r.addr ≠ a
    · rw [if_pos h] at hn h8 ⊢
      rw [List.length_append] at h8
      simp only [List.length_cons, List.length_nil] at h8
      rw [List.map_append] at hn
      have hn' := List.nodup_append.1 hn
      have e := ih hn'.1 (by omega)
      unfold newStep
      rw [e, if_pos ⟨h.1, h.2, by rw [List.length_map]; omega⟩]
      unfold putT
      have hf : lfind ((elig a c).map Rec.ln) r.ln.dest = none := lfind_none.2 fun l hl => by
        obtain ⟨y, hy, rfl⟩ := List.mem_map.1 hl
        exact hn'.2.2 y.addr (List.mem_map_of_mem hy) r.addr (by simp)
      rw [hf]
      simp
    · rw [if_neg h] at hn h8 ⊢
      rw [List.append_nil] at hn h8 ⊢
      unfold newStep
      rw [if_neg (fun hc => h ⟨hc.1, hc.2.1⟩)]
      exact ih hn h8
theorem elig_nodup (a : UInt32) {c : List Rec} (h : InO c) : ((elig a c).map (·.addr)).Nodup := by
  rw [List.nodup_iff_pairwise_ne, List.pairwise_map]
  have h1 : (elig a c).Pairwise fun x y => x.lt y = true := h.rise.sublist List.filter_sublist
  refine (List.Pairwise.and_mem.1 h1).imp ?_
  rintro x y ⟨hx, hy, hlt⟩ e
  unfold elig at hx hy
  have hx2 := (List.mem_filter.1 hx).2
  have hy2 := (List.mem_filter.1 hy).2
  simp only [Bool.and_eq_true, Bool.not_eq_true'] at hx2 hy2
  unfold Rec.lt at hlt
  rw [hx2.1, hy2.1] at hlt
  simp only [bne_self_eq_false, Bool.false_eq_true, if_false, decide_eq_true_eq] at hlt
  rw [e] at hlt
  exact absurd hlt (by rw [UInt32.lt_iff_toNat_lt]; omega)
def Few (A : UInt32 → Prop) : Prop := ∀ L : List UInt32, L.Nodup → (∀ d ∈ L, A d) → L.length ≤ 8
def JouOk (A : UInt32 → Prop) (G : Nat) (l : List Rec) : Prop := ∀ r ∈ l, r.seq.toNat ≤ G ∧ (r.own = false → A r.addr)
theorem bootL_eq (hA : Few A) {J : Str} (hJ : JouOk A G (readJ J)) : bootL a J = (elig a (compR (readJ J))).map Rec.ln := by
  have hn := elig_nodup a (compR_ino (readJ J))
  refine newT_elig a _ hn ?_
  have := hA _ hn fun d hd => by
    obtain ⟨r, hr, rfl⟩ := List.mem_map.1 hd
    unfold elig at hr
    obtain ⟨h1, h2⟩ := List.mem_filter.1 hr
    simp only [Bool.and_eq_true, Bool.not_eq_true'] at h2
    obtain ⟨_, r', hr', k1, k2⟩ := compR_mem h1
    rw [← k2 h2.1]
    exact (hJ r' hr').2 (k1.trans h2.1)
  rw [List.length_map] at this
  exact this
theorem bootL_tab (hA : Few A) {J : Str} (hJ : JouOk A G (readJ J)) : TabC E A a (G + 1) (bootL a J) := fun l hl => by
  rw [bootL_eq hA hJ] at hl
  obtain ⟨r, hr, rfl⟩ := List.mem_map.1 hl
  unfold elig at hr
  obtain ⟨h1, h2⟩ := List.mem_filter.1 hr
  simp only [Bool.and_eq_true, Bool.not_eq_true', bne_iff_ne] at h2
  obtain ⟨_, r', hr', k1, k2⟩ := compR_mem h1
  have hs := comp_seq (G := G) (fun r hr => (hJ r hr).1) r h1
  have := growS_le r.seq
  refine ⟨⟨⟨?_, h2.2⟩, ⟨Int.le_refl _, by show (0 : Int) ≤ 200; omega⟩, fun hv => by cases hv⟩, by show (growS r.seq).toNat ≤ _; omega⟩
  show A r.addr
  rw [← k2 h2.1]
  exact (hJ r' hr').2 (k1.trans h2.1)
theorem bootL_rank (hA : Few A) {J : Str} (hJ : JouOk A G (readJ J)) (hG : G < 4294967295) {d : UInt32} (hd : d ≠ a) {q : UInt32} (hq : seqOf (readJ J) ⟨false, d, 0⟩ = some q) : (q.toNat : Int) * 1000 ≤ rankL (bootL a J) d := by
  have h1 : lookR (compR (readJ J)) ⟨false, d, 0⟩ = some q := by rw [lookR_comp]; exact hq
  have h2 : (⟨false, d, q⟩ : Rec) ∈ compR (readJ J) := (mem_lookR (compR_ino _)).2 ⟨rfl, h1⟩
  have h3 : (⟨false, d, q⟩ : Rec) ∈ elig a (compR (readJ J)) := by
    unfold elig
    refine List.mem_filter.2 ⟨h2, ?_⟩
    simp [hd]
  have hn := elig_nodup a (compR_ino (readJ J))
  have e := bootL_eq (a := a) hA hJ
  have h4 : Rec.ln ⟨false, d, q⟩ ∈ bootL a J := by rw [e]; exact List.mem_map_of_mem h3
  have h5 : (dests (bootL a J)).Nodup := by
    rw [e]
    unfold dests
    rw [List.map_map]
    exact hn
  have h6 := lfind_at h5 h4
  have h7 : lget (bootL a J) d = some (Rec.ln ⟨false, d, q⟩) := h6
  have hs := comp_seq (G := G) (fun r hr => (hJ r hr).1) _ h2
  have hg := growS_up (x := q) (by simp only at hs; omega)
  unfold rankL
  rw [h7]
  show (q.toNat : Int) * 1000 ≤ (((growS q).toNat : Int) - 1) * 1000 - 0
  omega
structure Nd.CirI (E : List Sta) (A : UInt32 → Prop) (a : UInt32) (G : Nat) (s : Nd) : Prop where
  self : s.self = a
  tab : TabC E A a G s.ls
  seq : s.seq.toNat ≤ G
  recs : ∀ r ∈ s.recs, r.seq.toNat ≤ G
  held : ∀ d p, mget s.held d = some p → ∃ p', seqOf s.recs ⟨false, d, 0⟩ = some p' ∧ p.toNat ≤ p'.toNat
  ttl : ∀ x ∈ s.srs, x.ttl ≤ 8
  noted : s.Noted
theorem Nd.CirI.mono {s : Nd} (h : s.CirI E A a G) (hG : G ≤ G') : s.CirI E A a G' := ⟨h.self, h.tab.mono hG, Nat.le_trans h.seq hG, fun r hr => Nat.le_trans (h.recs r hr) hG, h.held, h.ttl, h.noted⟩
theorem Nd.CirI.begin {s : Nd} (h : s.CirI E A a G) (hG : G < 4294967295) (now : UInt64) : (s.begin now).Cir E A a s.rank (G + 1) := by
  obtain ⟨k1, k2⟩ := h.tab.exp hG now
  unfold Nd.begin
  refine Nd.Cir.note ⟨h.self, fun d => ?_, k1, Nat.le_succ_of_le h.seq, fun r hr => Nat.le_succ_of_le (h.recs r hr), h.held, fun f hf => (by cases hf), h.ttl⟩
  unfold Nd.rank
  show (if d = s.self then _ else _) ≤ (if d = s.self then _ else rankL (expT now s.ls) d)
  split
  · exact Int.le_refl _
  · exact k2 d
theorem Nd.begin_fresh (s : Nd) (now : UInt64) : Fresh (s.begin now).ls (s.begin now).now := by
  have m := Nd.Same.note { s with now := now, out := OutD.zero, ls := expT now s.ls }
  have e1 : (s.begin now).ls = expT now s.ls := m.ls
  have e2 : (s.begin now).now = now := m.now
  rw [e1, e2]
  intro l hl hv
  obtain ⟨l', hl', rfl⟩ := List.mem_map.1 hl
  unfold Ln.exp at hv ⊢
  split at hv
  · cases hv
  · rename_i hc
    rw [if_neg hc]
    exact UInt64.not_le.1 fun h => hc ⟨hv, h⟩
theorem Nd.Cir.done {s : Nd} (h : s.Cir E A a ρ0 G) : s.done.Cir E A a ρ0 G := by
  have h1 := h.note
  unfold Nd.done
  split
  · have hk := Nd.rank_eq (s := s.note) (t := { s.note with recs := compR s.note.recs, out := { s.note.out with journal := recsB (compR s.note.recs), replace := true } }) rfl rfl
    refine ⟨h1.self, by rw [hk]; exact h1.up, h1.tab, h1.seq, comp_seq h1.recs, fun d p hp => ?_, by rw [hk]; exact h1.frames, h1.ttl⟩
    show ∃ p', seqOf (compR s.note.recs) _ = some p' ∧ _
    rw [seqOf_comp]
    exact h1.held d p hp
  · exact h1
theorem Nd.done_noted {s : Nd} (ok : TabOk s.ls) : s.done.Noted := by
  have h := Nd.note_noted s ok
  unfold Nd.done
  split <;> exact h
theorem Nd.Cir.idle {s : Nd} (h : s.Cir E A a ρ0 G) (hn : s.Noted) : s.CirI E A a G := ⟨h.self, h.tab, h.seq, h.recs, h.held, h.ttl, hn⟩
theorem Nd.CirI.tick {s : Nd} (h : s.CirI E A a G) (ha : A a) (hG : G < 4294967295) (now : UInt64) : (s.tickF now).Cir E A a s.rank (G + (s.clk.length + 2)) := by
  have h1 := Nd.Cir.ticks ha now (dueN now (s.begin now).clk + 1) (s.begin now) (G + 1) (h.begin hG now)
  have h2 := dueN_le now (s.begin now).clk
  rw [(s.begin_same now).2.1] at h2
  exact (h1.mono (by rw [(s.begin_same now).2.1]; omega)).done
theorem Nd.CirI.rcv {s : Nd} (h : s.CirI E A a G) (hA : ¬ A 0) (ha : A a) (hE : E.length ≤ 5) (hG : G + 9 < 4294967295) (now : UInt64) (src : UInt32) (f : Str) (hp : ∀ p, Pk.dec f = some p → src ≠ a → Heard E A a s.rank G src p) : (s.rcvF now src f).Cir E A a s.rank (G + 9) := by
  have h1 := (h.begin (by omega) now).rcv hA ha hE (by omega) (Nd.begin_fresh s now) now src f fun p hd hs => ⟨(hp p hd hs).says, (hp p hd hs).num.mono (Nat.le_succ G), (hp p hd hs).src, (hp p hd hs).ttl⟩
  exact h1.done
theorem Nd.CirI.brk {s : Nd} (h : s.CirI E A a G) (hG : G + 1 < 4294967295) (now : UInt64) (nb : UInt32) : (s.brkF now nb).Cir E A a s.rank (G + 2) := ((h.begin (by omega) now).brk hG nb).done
theorem Nd.CirI.sendF {s : Nd} (h : s.CirI E A a G) (ha : A a) (hG : G < 4294967295) (now : UInt64) (d : UInt32) (t : Str) : (s.sendF now d t).Cir E A a s.rank (G + 2) := ((h.begin hG now).sendT ha d t).done
theorem Nd.CirI.boot {s : Nd} (h : s.CirI E A a G) (hA : Few A) (hG : G' < 4294967295) {J : Str} (hJ : JouOk A G' (readJ J)) {X : List Rec} (e : readJ J = s.recs.map Rec.norm ++ X) : Goes s.ls (bootL a J) := fun d => by
  unfold rankL
  cases hg : lget s.ls d with
  | none =>
    simp only
    cases hb : lget (bootL a J) d with
    | none => exact Int.le_refl _
    | some l =>
      have h1 := (bootL_tab (E := E) (a := a) hA hJ l (lget_mem hb).1).1.hops
      unfold Ln.r Ln.rk
      simp only
      split <;> omega
  | some l =>
    obtain ⟨hm, hd⟩ := lget_mem hg
    obtain ⟨hl, hs⟩ := h.tab l hm
    obtain ⟨q, k1, k2⟩ := h.noted l hm
    rw [hd] at k1
    obtain ⟨q', k3, k4⟩ := h.held d q k1
    rw [← seqOf_norm] at k3
    obtain ⟨q2, k5, k6⟩ := seqOf_more _ X _ k3
    rw [← e] at k5
    have hda : d ≠ a := by rw [← hd]; exact hl.dest.2
    have k7 := bootL_rank (a := a) hA hJ hG hda k5
    have k8 : ¬ q.toNat < l.seq.toNat := k2
    have hh := hl.hops
    refine Int.le_trans ?_ k7
    simp only
    unfold Ln.r Ln.rk
    split <;> omega
theorem maxOwn_le {l : List Rec} (hG : ∀ r ∈ l, r.seq.toNat ≤ G) : (maxOwn l).toNat ≤ G := by
  induction l using snocInd with
  | nil => exact Nat.zero_le _
  | snoc l r ih =>
    have h1 := ih fun x hx => hG x (by simp [hx])
    have h2 := hG r (by simp)
    unfold maxOwn at h1 ⊢
    rw [List.foldl_append]
    simp only [List.foldl_cons, List.foldl_nil]
    split
    · rw [max_toNat]; omega
    · exact h1
theorem Nd.CirNew (hA : Few A) {J : Str} (hJ : JouOk A G (readJ J)) (now : UInt64) : (Nd.new a J now).Cir E A a (fun d => if d = a then 1000000000000000 else rankL (bootL a J) d) (G + 1) := by
  have h0 : (Nd.booted a J now).Cir E A a (fun d => if d = a then 1000000000000000 else rankL (bootL a J) d) (G + 1) := by
    unfold Nd.booted
    split
    · refine ⟨rfl, fun d => Int.le_refl _, bootL_tab hA hJ, ?_, fun r hr => (by cases hr), fun d p hp => (by simp [Nd.blank, mget, mfind] at hp), fun f hf => (by cases hf), fun x hx => by cases hx⟩
      have h1 := maxOwn_le (l := readJ J) (G := G) fun r hr => (hJ r hr).1
      have h2 := growS_le (maxOwn (readJ J))
      show (growS (maxOwn (readJ J))).toNat ≤ _
      omega
    · rename_i hj
      have e : J = [] := List.eq_nil_of_length_eq_zero (by omega)
      subst e
      refine ⟨rfl, fun d => Int.le_refl _, fun l hl => (by cases hl), by show (1 : UInt32).toNat ≤ _; simp, fun r hr => (by cases hr), fun d p hp => (by simp [Nd.blank, mget, mfind] at hp), fun f hf => (by cases hf), fun x hx => by cases hx⟩
  exact (h0.write _ h0.seq).note
theorem Nd.new_noted (J : Str) (now : UInt64) : (Nd.new a J now).Noted := by
  refine Nd.note_noted _ ?_
  exact (Nd.booted_inv a J now).tab.tab
end

section
inductive Ups : List Sta → List Sta → Prop
  | nil : Ups [] []
  | cons {s s' : Sta} {l l' : List Sta} : s'.addr = s.addr → (∀ d, s.rank d ≤ s'.rank d) → Ups l l' → Ups (s :: l) (s' :: l')
theorem Ups.refl : ∀ l, Ups l l
  | [] => .nil
  | s :: l => .cons rfl (fun _ => Int.le_refl _) (Ups.refl l)
theorem Ups.trans {a b c : List Sta} (h : Ups a b) (k : Ups b c) : Ups a c := by
  induction h generalizing c with
  | nil => exact k
  | cons h1 h2 h3 ih =>
    cases k with
    | cons k1 k2 k3 => exact .cons (k1.trans h1) (fun d => Int.le_trans (h2 d) (k2 d)) (ih k3)
theorem Ups.addrs {a b : List Sta} (h : Ups a b) : b.map (·.addr) = a.map (·.addr) := by
  induction h with
  | nil => rfl
  | cons h1 h2 h3 ih => simp only [List.map_cons, h1, ih]
theorem Ups.erase {a b : List Sta} (h : Ups a b) (i : Nat) : Ups (a.eraseIdx i) (b.eraseIdx i) := by
  induction h generalizing i with
  | nil => exact .nil
  | cons h1 h2 h3 ih =>
    cases i with
    | zero => exact h3
    | succ i => exact .cons h1 h2 (ih i)
theorem Ups.get {a b : List Sta} (h : Ups a b) {i : Nat} {s s' : Sta} (hs : a[i]? = some s) (hs' : b[i]? = some s') : s'.addr = s.addr ∧ ∀ d, s.rank d ≤ s'.rank d := by
  induction h generalizing i with
  | nil => simp at hs
  | cons h1 h2 h3 ih =>
    cases i with
    | zero => simp at hs hs'; subst hs; subst hs'; exact ⟨h1, h2⟩
    | succ i => exact ih (by simpa using hs) (by simpa using hs')
theorem Ups.ex {a b : List Sta} (h : Ups a b) {i : Nat} {s : Sta} (hs : a[i]? = some s) : ∃ s', b[i]? = some s' := by
  have e := congrArg List.length h.addrs
  simp only [List.length_map] at e
  exact ⟨_, List.getElem?_eq_getElem (by have := (List.getElem?_eq_some_iff.1 hs).1; omega)⟩
theorem Ups.modify {f : Sta → Sta} : ∀ {l : List Sta} {i : Nat}, (∀ s, l[i]? = some s → (f s).addr = s.addr ∧ ∀ d, s.rank d ≤ (f s).rank d) → Ups l (l.modify i f)
  | [], i, _ => by cases i <;> exact .nil
  | s :: l, 0, h => .cons (h s rfl).1 (h s rfl).2 (Ups.refl l)
  | s :: l, i + 1, h => .cons rfl (fun _ => Int.le_refl _) (Ups.modify (l := l) (i := i) fun x hx => h x (by simpa using hx))
theorem Ups.othR {a b : List Sta} (h : Ups a b) (f d : UInt32) : othR a f d ≤ othR b f d := by
  unfold Go.Proofs.YtapoehkdnglahabGreat.othR
  induction h with
  | nil => exact Int.le_refl _
  | @cons s s' l l' h1 h2 h3 ih =>
    simp only [List.find?_cons, h1]
    by_cases e : s.addr = f
    · simp only [e, decide_true]; exact h2 d
    · simp only [e, decide_false]; exact ih
theorem Ups.othK {a b : List Sta} (h : Ups a b) (d : UInt32) (r : Int) : othK a d r ≤ othK b d r := by
  unfold Go.Proofs.YtapoehkdnglahabGreat.othK
  induction h with
  | nil => exact Nat.le_refl _
  | @cons s s' l l' h1 h2 h3 ih =>
    rw [List.countP_cons, List.countP_cons]
    have := h2 d
    by_cases e : r ≤ s.rank d
    · rw [if_pos (decide_eq_true e), if_pos (decide_eq_true (Int.le_trans e this))]; omega
    · rw [if_neg (by simpa using e)]; omega
theorem erase_modify {f : Sta → Sta} : ∀ (l : List Sta) (i : Nat), (l.modify i f).eraseIdx i = l.eraseIdx i
  | [], i => by cases i <;> rfl
  | s :: l, 0 => rfl
  | s :: l, i + 1 => by
    show s :: (l.modify i f).eraseIdx i = s :: l.eraseIdx i
    rw [erase_modify l i]
theorem othK_erase : ∀ {l : List Sta} {i : Nat} {s : Sta}, l[i]? = some s → ∀ d r, othK l d r = allK (l.eraseIdx i) s.rank d r
  | [], _, _, h => by simp at h
  | x :: l, 0, s, h => fun d r => by
    simp at h; subst h
    show othK (x :: l) d r = allK l x.rank d r
    unfold allK othK
    rw [List.countP_cons]
    by_cases e : r ≤ x.rank d
    · rw [if_pos (decide_eq_true e), if_pos e]
    · rw [if_neg (by simpa using e), if_neg e]
  | x :: l, i + 1, s, h => fun d r => by
    have ih := othK_erase (l := l) (i := i) (s := s) (by simpa using h) d r
    show othK (x :: l) d r = allK (x :: l.eraseIdx i) s.rank d r
    unfold allK othK at ih ⊢
    rw [List.countP_cons, List.countP_cons]
    omega
theorem find_addr : ∀ {l : List Sta} {s : Sta}, (l.map (·.addr)).Nodup → s ∈ l → (l.find? fun x => x.addr = s.addr) = some s
  | [], _, _, h => by cases h
  | x :: l, s, hn, h => by
    rw [List.map_cons, List.nodup_cons] at hn
    rw [List.find?_cons]
    rcases List.mem_cons.1 h with rfl | h
    · simp
    · have : x.addr ≠ s.addr := fun e => hn.1 (by rw [e]; exact List.mem_map_of_mem h)
      simp only [this, decide_false]
      exact find_addr hn.2 h
theorem othR_at {l : List Sta} (hn : (l.map (·.addr)).Nodup) {i j : Nat} {s : Sta} (hs : l[j]? = some s) (hij : j ≠ i) (d : UInt32) : othR (l.eraseIdx i) s.addr d = s.rank d := by
  have hm : s ∈ l.eraseIdx i := List.mem_eraseIdx_iff_getElem?.2 ⟨j, hij, hs⟩
  have hn' : ((l.eraseIdx i).map (·.addr)).Nodup := hn.sublist ((List.eraseIdx_sublist _ _).map _)
  unfold othR
  rw [find_addr hn' hm]
variable {A : UInt32 → Prop} {a : UInt32} {G G' : Nat}
theorem LineOk.env {E E' : List Sta} {l : Ln} (h : LineOk E A a l) (hE : Ups E E') : LineOk E' A a l := ⟨h.dest, h.hops, fun hv => by
  obtain ⟨h1, h2, h3, h4⟩ := h.valid hv
  refine ⟨h1, h2, Int.lt_of_lt_of_le h3 (hE.othR _ _), ?_⟩
  have := hE.othK l.dest l.r
  omega⟩
theorem Nd.CirI.env {E E' : List Sta} {s : Nd} (h : s.CirI E A a G) (hE : Ups E E') : s.CirI E' A a G := ⟨h.self, fun l hl => ⟨(h.tab l hl).1.env hE, (h.tab l hl).2⟩, h.seq, h.recs, h.held, h.ttl, h.noted⟩
theorem readJ_part : ∀ (l : List Rec) (n : Nat), ∀ r ∈ readJ ((recBytes l).take n), r ∈ l.map Rec.norm
  | [], n, r, h => by simp [recBytes, readJ, readN] at h
  | x :: l, n, r, h => by
    have e : recBytes (x :: l) = x.bytes ++ recBytes l := by simp [recBytes]
    rw [e] at h
    by_cases hn : n < 13
    · unfold readJ at h
      rw [readN_short _ _ (by rw [List.length_take]; omega)] at h
      cases h
    · have hl := x.bytes_length
      rw [List.take_append, hl, List.take_of_length_le (by omega)] at h
      have e2 : x.bytes ++ (recBytes l).take (n - 13) = recBytes [x] ++ (recBytes l).take (n - 13) := by simp [recBytes]
      rw [e2, readJ_recs] at h
      rcases List.mem_append.1 h with h | h
      · rw [List.map_cons]; simp at h; subst h; simp
      · rw [List.map_cons]; exact List.mem_cons_of_mem _ (readJ_part l _ r h)
theorem recsB_eq (l : List Rec) : recsB l = recBytes l := rfl
theorem JouOk.mono {l : List Rec} (h : JouOk A G l) (hG : G ≤ G') : JouOk A G' l := fun r hr => ⟨Nat.le_trans (h r hr).1 hG, (h r hr).2⟩
theorem jou_of {E : List Sta} {t : Nd} {ρ0 : UInt32 → Int} (h : t.Cir E A a ρ0 G) (hi : t.Inv) {J : Str} (n : Nat) (e : J = (recsB t.recs).take n) : JouOk A G (readJ J) := fun r hr => by
  rw [e, recsB_eq] at hr
  obtain ⟨x, hx, rfl⟩ := List.mem_map.1 (readJ_part _ _ r hr)
  refine ⟨h.recs x hx, fun ho => ?_⟩
  have ho' : x.own = false := ho
  have ea : x.norm.addr = x.addr := by show (if x.own then 0 else x.addr) = x.addr; rw [ho']; rfl
  rw [ea]
  rcases hi.recs x hx with h1 | h1
  · rw [ho'] at h1; cases h1
  · unfold dests at h1
    obtain ⟨l, hl, e2⟩ := List.mem_map.1 h1
    rw [← e2]
    exact (h.tab l hl).1.dest.1
structure StaC (E : List Sta) (A : UInt32 → Prop) (G : Nat) (s : Sta) : Prop where
  node : ∀ t, s.node = some t → t.CirI E A s.addr G
  jour : JouOk A G (readJ s.journal)
def FrOk (A : UInt32 → Prop) (G : Nat) (m : Ms) (i : Nat) (b : Str) : Prop := Stub b ∧ ∃ s, m.sts[i]? = some s ∧ ∀ p, Pk.dec b = some p → p.Says A s.rank (othK m.sts) ∧ p.Num G
structure Ms.Cir (q G : Nat) (m : Ms) : Prop where
  addrs : m.sts.map (·.addr) = adrs q
  sts : ∀ (i : Nat) s, m.sts[i]? = some s → StaC (m.sts.eraseIdx i) (· ∈ adrs q) G s
  air : ∀ f ∈ m.air, FrOk (· ∈ adrs q) G m f.src f.bytes
theorem StaC.mono {E E' : List Sta} {s : Sta} (h : StaC E A G s) (hE : Ups E E') (hG : G ≤ G') : StaC E' A G' s := ⟨fun t ht => ((h.node t ht).env hE).mono hG, h.jour.mono hG⟩
theorem FrOk.mono {m m' : Ms} {i : Nat} {b : Str} (h : FrOk A G m i b) (hU : Ups m.sts m'.sts) (hG : G ≤ G') : FrOk A G' m' i b := by
  obtain ⟨h1, s, h2, h3⟩ := h
  obtain ⟨s', h4⟩ := hU.ex h2
  exact ⟨h1, s', h4, fun p hp => ⟨(h3 p hp).1.mono (hU.get h2 h4).2 fun d r => hU.othK d r, (h3 p hp).2.mono hG⟩⟩
structure Ms.Rise (q : Nat) (m m' : Ms) (i d G' : Nat) : Prop where
  cir : m'.Cir q G'
  ups : Ups m.sts m'.sts
  here : ∃ s, m'.sts[i]? = some s ∧ s.Sound d
theorem Ms.Cir.mono {q : Nat} {m : Ms} (h : m.Cir q G) (hG : G ≤ G') : m.Cir q G' := ⟨h.addrs, fun i s hs => (h.sts i s hs).mono (Ups.refl _) hG, fun f hf => (h.air f hf).mono (Ups.refl _) hG⟩
theorem Ms.Rise.trans {q i d G1 G2 : Nat} {m m1 m2 : Ms} (h : m.Rise q m1 i d G1) (k : m1.Rise q m2 i d G2) : m.Rise q m2 i d G2 := ⟨k.cir, h.ups.trans k.ups, k.here⟩
theorem Ms.Rise.le {q i d G1 G2 : Nat} {m m1 : Ms} (h : m.Rise q m1 i d G1) (hG : G1 ≤ G2) : m.Rise q m1 i d G2 := ⟨h.cir.mono hG, h.ups, h.here⟩
theorem Ms.Cir.fly {q : Nat} {m : Ms} (h : m.Cir q G) {f : Fl} (hf : FrOk (· ∈ adrs q) G m f.src f.bytes) : (m.fly f).Cir q G := by
  refine ⟨h.addrs, h.sts, fun x hx => ?_⟩
  rcases Ms.fly_mem hx with hx | rfl
  · obtain ⟨k1, s, k2, k3⟩ := h.air x hx; exact ⟨k1, s, k2, k3⟩
  · obtain ⟨k1, s, k2, k3⟩ := hf; exact ⟨k1, s, k2, k3⟩
theorem Ms.Cir.cast {q : Nat} {m : Ms} (h : m.Cir q G) (i : Nat) (b : Str) (hf : FrOk (· ∈ adrs q) G m i b) : ∀ k, (Ms.castN i b k m).Cir q G ∧ (Ms.castN i b k m).sts = m.sts
  | 0 => ⟨h, rfl⟩
  | k + 1 => by
    obtain ⟨h1, h2⟩ := Ms.Cir.cast h i b hf k
    unfold Ms.castN
    split
    · refine ⟨h1.fly (f := ⟨i, k, b⟩) ?_, h2⟩
      exact hf.mono (by rw [h2]; exact Ups.refl _) (Nat.le_refl _)
    · exact ⟨h1, h2⟩
theorem Ms.Cir.event {q : Nat} {m : Ms} (h : m.Cir q G) (e : Ev) : (m.event e).Cir q G := ⟨h.addrs, h.sts, fun f hf => by obtain ⟨k1, s, k2, k3⟩ := h.air f hf; exact ⟨k1, s, k2, k3⟩⟩
theorem Ms.Cir.mod {q : Nat} {m : Ms} (h : m.Cir q G) {i : Nat} {s : Sta} {f : Sta → Sta} (hs : m.sts[i]? = some s) (ha : (f s).addr = s.addr) (hr : ∀ d, s.rank d ≤ (f s).rank d) (hG : G ≤ G') (hc : StaC (m.sts.eraseIdx i) (· ∈ adrs q) G' (f s)) : (m.mod i f).Cir q G' ∧ Ups m.sts (m.mod i f).sts := by
  have hU : Ups m.sts (m.mod i f).sts := Ups.modify fun x hx => by rw [hs] at hx; cases hx; exact ⟨ha, hr⟩
  refine ⟨⟨hU.addrs.trans h.addrs, fun j x hx => ?_, fun g hg => ?_⟩, hU⟩
  · by_cases e : i = j
    · subst e
      rw [Ms.mod_at hs] at hx
      cases hx
      have : (m.mod i f).sts.eraseIdx i = m.sts.eraseIdx i := erase_modify _ _
      rw [this]
      exact hc
    · have hx' : (m.sts.modify i f)[j]? = some x := hx
      rw [List.getElem?_modify] at hx'
      cases hq : m.sts[j]? with
      | none => rw [hq] at hx'; simp at hx'
      | some y =>
        rw [hq] at hx'
        simp [e] at hx'
        subst hx'
        exact (h.sts j y hq).mono (hU.erase j) hG
  · have hg' : g ∈ m.air := hg
    exact (h.air g hg').mono hU hG
theorem Sta.rank_node {s : Sta} {t : Nd} (ht : s.node = some t) (hs : t.self = s.addr) : s.rank = t.rank := by
  funext d
  unfold Sta.rank Nd.rank
  rw [ht, hs]
theorem Ms.Rise.frame {q d K : Nat} {m : Ms} (hm : m.Cir q G) {i : Nat} {s : Sta} (hs : m.sts[i]? = some s) (hso : s.Sound d) {sub : Ms → OutD → Ms} (f : UInt32 × Str) (hf : FrOk (· ∈ adrs q) G m i f.2)
    (hsub : f.1 ≠ 0 → ∀ t, s.node = some t → m.Rise q (sub (m.mod i (·.run (t.brkF m.now f.1))) (t.brkF m.now f.1).out) i d (G + K)) : m.Rise q (Ms.frameO sub i m f) i d (G + K) := by
  have hK : G ≤ G + K := Nat.le_add_right _ _
  unfold Ms.frameO
  split
  · obtain ⟨h1, h2⟩ := Ms.Cir.cast hm i f.2 hf m.sts.length
    exact ⟨h1.mono hK, by rw [h2]; exact Ups.refl _, s, by rw [h2]; exact hs, hso⟩
  · rename_i h0
    split
    · exact ⟨(hm.fly (f := ⟨i, _, f.2⟩) hf).mono hK, Ups.refl _, s, hs, hso⟩
    · rw [hs]
      simp only [Option.bind_some]
      cases hn : s.node with
      | none => exact ⟨hm.mono hK, Ups.refl _, s, hs, hso⟩
      | some t => exact hsub h0 t hn
theorem Ms.Rise.emitR {q d K G1 : Nat} {m : Ms} (hm : m.Cir q G) {i : Nat} {s0 : Sta} {f1 : Sta → Sta} {t : Nd} (hs : m.sts[i]? = some s0) (ha : (f1 s0).addr = s0.addr) (hn : (f1 s0).node = some t) {sub : Ms → OutD → Ms} (o : OutD) (hsay : (f1 s0).Says o d)
    {ρ0 : UInt32 → Int} (ht : t.Cir (m.sts.eraseIdx i) (· ∈ adrs q) s0.addr ρ0 G1) (hnt : t.Noted) (hti : t.Inv) (hρ : ∀ d, s0.rank d ≤ ρ0 d) (hG : G ≤ G1) (hfr : o.frames = t.out.frames) (hpk : o.Pks)
    (htorn : (f1 s0).tears o = true → Ms.Cir q G1 (m.mod i fun s => (f1 s).torn o) ∧ Ups m.sts (m.mod i fun s => (f1 s).torn o).sts) (hfa : ∀ s, (f1 s).addr = s.addr)
    (hjq : o.journal = [] → (f1 s0).journal = s0.journal)
    (hsub : ∀ f ∈ o.frames, f.1 ≠ 0 → ∀ (m' : Ms) (s' : Sta) (t' : Nd) (G2 : Nat), m'.Cir q G2 → G2 ≤ G1 + o.frames.length * K → m'.sts[i]? = some s' → s'.Sound d → s'.node = some t' → m'.Rise q (sub (m'.mod i (·.run (t'.brkF m'.now f.1))) (t'.brkF m'.now f.1).out) i d (G2 + K)) :
    m.Rise q (Ms.emitR sub i (m.mod i f1) o) i d (G1 + o.frames.length * K) := by
  have hKK : G1 ≤ G1 + o.frames.length * K := Nat.le_add_right _ _
  have hrt : ∀ (s : Sta), s.addr = s0.addr → s.node = some t → s.rank = t.rank := fun s e1 e2 => Sta.rank_node e2 (ht.self.trans e1.symm)
  have hup : ∀ s : Sta, s.addr = s0.addr → s.node = some t → ∀ d, s0.rank d ≤ s.rank d := fun s e1 e2 d => by rw [hrt s e1 e2]; exact Int.le_trans (hρ d) (ht.up d)
  have hst := Ms.mod_at (m := m) (f := f1) hs
  unfold Ms.emitR
  split
  · rename_i ho
    have hj : o.journal = [] := by
      unfold OutD.none at ho
      simp only [Bool.and_eq_true, List.isEmpty_iff] at ho
      exact ho.1.1.1
    obtain ⟨k1, k2⟩ := hm.mod hs ha (hup _ ha hn) hG (f := f1) ⟨fun t' ht' => by rw [hn] at ht'; cases ht'; rw [ha]; exact ht.idle hnt, by rw [hjq hj]; exact ((hm.sts i s0 hs).jour).mono hG⟩
    exact ⟨k1.mono hKK, k2, _, hst, hsay.quiet hj⟩
  · rw [hst]
    simp only
    split
    · rename_i hte
      obtain ⟨k1, k2⟩ := htorn hte
      have e : ((m.mod i f1).mod i (·.torn o)) = m.mod i fun s => (f1 s).torn o := by
        show ({ m with sts := (m.sts.modify i f1).modify i (·.torn o) } : Ms) = { m with sts := m.sts.modify i fun s => (f1 s).torn o }
        rw [List.modify_modify_eq]; rfl
      rw [e]
      refine ⟨(k1.event _).mono hKK, k2, (f1 s0).torn o, ?_, hsay.torn⟩
      exact Ms.mod_at (m := m) (f := fun s => (f1 s).torn o) hs
    · have e : ((m.mod i f1).mod i (·.write o)) = m.mod i fun s => (f1 s).write o := by
        show ({ m with sts := (m.sts.modify i f1).modify i (·.write o) } : Ms) = { m with sts := m.sts.modify i fun s => (f1 s).write o }
        rw [List.modify_modify_eq]; rfl
      have hw := hsay.wrote
      have hwn : ((f1 s0).write o).node = some t := hn
      have hwa : ((f1 s0).write o).addr = s0.addr := ha
      have hwj : ((f1 s0).write o).journal = recsB t.recs := ((hw.node t hwn).2.2.1)
      have hjw : JouOk (· ∈ adrs q) G1 (readJ ((f1 s0).write o).journal) := jou_of ht hti (recsB t.recs).length (by rw [hwj, List.take_length])
      obtain ⟨k1, k2⟩ := hm.mod hs (f := fun s => (f1 s).write o) hwa (hup _ hwa hwn) hG ⟨fun t' ht' => by rw [hwn] at ht'; cases ht'; rw [hwa]; exact ht.idle hnt, hjw⟩
      rw [e]
      have hst2 := Ms.mod_at (m := m) (f := fun s => (f1 s).write o) hs
      generalize hm2 : (m.mod i fun s => (f1 s).write o) = m2 at *
      have hE2 : m2.sts.eraseIdx i = m.sts.eraseIdx i := by rw [← hm2]; exact erase_modify _ _
      have k3 : (m2.event ⟨i, 0, o⟩).Cir q G1 := k1.event _
      have hfok : ∀ f ∈ o.frames, FrOk (· ∈ adrs q) G1 (m2.event ⟨i, 0, o⟩) i f.2 := fun f hf => by
        refine ⟨out_part hpk f hf, _, hst2, fun p hp => ?_⟩
        rw [hfr] at hf
        obtain ⟨c1, c2⟩ := ht.frames f hf p hp
        refine ⟨c1.mono (fun d => Int.le_of_eq (by rw [hrt _ hwa hwn])) fun d r => Nat.le_of_eq ?_, c2⟩
        show allK _ t.rank d r = othK m2.sts d r
        rw [othK_erase hst2 d r, hE2, hrt _ hwa hwn]
      have key : ∀ (l : List (UInt32 × Str)) (m' : Ms) (G2 : Nat), (∀ f ∈ l, f ∈ o.frames) → G2 + l.length * K ≤ G1 + o.frames.length * K → G1 ≤ G2 → (m2.event ⟨i, 0, o⟩).Rise q m' i d G2 → (m2.event ⟨i, 0, o⟩).Rise q (l.foldl (Ms.frameO sub i) m') i d (G2 + l.length * K) := by
        intro l
        induction l with
        | nil => intro m' G2 _ _ _ hR; simpa using hR
        | cons f l ih =>
          intro m' G2 hl hG2 hG12 hR
          have hff := hl f (by simp)
          rw [List.length_cons, Nat.succ_mul] at hG2 ⊢
          obtain ⟨s', hs', hso'⟩ := hR.here
          have hR2 := Ms.Rise.frame (K := K) (sub := sub) hR.cir hs' hso' f ((hfok f hff).mono hR.ups hG12) fun h0 t' ht' => hsub f hff h0 m' s' t' G2 hR.cir (by omega) hs' hso' ht'
          have hR3 := ih (Ms.frameO sub i m' f) (G2 + K) (fun x hx => hl x (by simp [hx])) (by omega) (by omega) (hR.trans hR2)
          rw [List.foldl_cons]
          exact hR3.le (by omega)
      have hfin := key o.frames (m2.event ⟨i, 0, o⟩) G1 (fun f hf => hf) (Nat.le_refl _) (Nat.le_refl _) ⟨k3, Ups.refl _, _, hst2, hw⟩
      exact ⟨hfin.cir, k2.trans hfin.ups, hfin.here⟩
end

section
variable {G G1 q : Nat}
theorem adrs_zero : ¬ (0 : UInt32) ∈ adrs q ∨ 1000 < q := by
  by_cases h : 1000 < q
  · exact .inr h
  · left
    intro h0
    unfold adrs at h0
    obtain ⟨i, hi, e⟩ := List.mem_map.1 h0
    have := List.mem_range.1 hi
    exact adr_ne (by omega) e
theorem adrs_few (hq : q ≤ 6) : Few (· ∈ adrs q) := fun L hn hL => by
  have := List.Nodup.length_le_of_subset hn (fun d hd => hL d hd : L ⊆ adrs q)
  rw [adrs_len] at this
  omega
theorem Nd.noted_of {s : Nd} (h : s.done.Inv) : s.done.Noted := Nd.done_noted (by have := h.tab.tab; rw [s.done_same.2.1] at this; exact this)
theorem Ms.Cir.torn {m : Ms} (hq : q ≤ 6) (hm : m.Cir q G) {i c d : Nat} {s0 : Sta} {s t : Nd} (hs : m.sts[i]? = some s0) (hn : s0.node = some s) (hso : s0.Sound c) {o : OutD} (hsay : (s0.run t).Says o d) {ρ0 : UInt32 → Int} (ht : t.Cir (m.sts.eraseIdx i) (· ∈ adrs q) s0.addr ρ0 G1) (hti : t.Inv) (hG : G ≤ G1) (hG1 : G1 < 4294967295) : Ms.Cir q G1 (m.mod i fun s => (s.run t).torn o) ∧ Ups m.sts (m.mod i fun s => (s.run t).torn o).sts := by
  obtain ⟨h1, h2, h3, h4⟩ := hso.node s hn
  have hci := (hm.sts i s0 hs).node s hn
  have hjo := ((hm.sts i s0 hs).jour).mono hG
  obtain ⟨n, k1, k2, k3, k4, k5⟩ := hsay.node
  have k1' : t = n := Option.some.inj k1
  subst k1'
  have hJ : JouOk (· ∈ adrs q) G1 (readJ ((s0.run t).torn o).journal) ∧ ∃ X, readJ ((s0.run t).torn o).journal = s.recs.map Rec.norm ++ X := by
    unfold Sta.torn Sta.stop
    cases hr : o.replace with
    | true =>
      simp only [if_true]
      refine ⟨hjo, readJ [], ?_⟩
      show readJ s0.journal = _
      rw [h3, recsB_eq]
      have := readJ_recs s.recs []
      rw [List.append_nil] at this
      exact this
    | false =>
      simp only [Bool.false_eq_true, if_false]
      have k4' : s0.journal ++ o.journal = recsB t.recs := by
        unfold Joins at k4
        rw [hr] at k4
        exact k4
      refine ⟨jou_of ht hti (s0.journal.length + (min s0.tear o.journal.length).toNat) ?_, readJ ((s0.run t).part o), ?_⟩
      · rw [← k4', List.take_append, List.take_of_length_le (Nat.le_add_right _ _), Nat.add_sub_cancel_left]
        rfl
      · show readJ (s0.journal ++ (s0.run t).part o) = _
        rw [h3, recsB_eq]
        exact readJ_recs _ _
  obtain ⟨hJ1, X, hJ2⟩ := hJ
  have hgo := hci.boot (adrs_few hq) hG1 hJ1 hJ2
  have ha : ((s0.run t).torn o).addr = s0.addr := by unfold Sta.torn Sta.stop; split <;> rfl
  have hnn : ((s0.run t).torn o).node = none := rfl
  refine hm.mod hs (f := fun s => (s.run t).torn o) ha (fun d => ?_) hG ⟨fun t' ht' => (by rw [hnn] at ht'; cases ht'), hJ1⟩
  unfold Sta.rank
  rw [hn, hnn, ha]
  split
  · exact Int.le_refl _
  · exact hgo d
theorem Ms.Rise.callR {m : Ms} (hq : q ≤ 6) (hm : m.Cir q G) {i c d K : Nat} {s0 : Sta} {s t : Nd} (hs : m.sts[i]? = some s0) (hn : s0.node = some s) (hso : s0.Sound c) (hcd : c ≤ d) (hw : s.Went t d) (ht : t.Cir (m.sts.eraseIdx i) (· ∈ adrs q) s0.addr s.rank G1) (hnt : t.Noted) (hG : G ≤ G1) (hG1 : G1 < 4294967295) {sub : Ms → OutD → Ms}
    (hsub : ∀ f ∈ t.out.frames, f.1 ≠ 0 → ∀ (m' : Ms) (s' : Sta) (t' : Nd) (G2 : Nat), m'.Cir q G2 → G2 ≤ G1 + t.out.frames.length * K → m'.sts[i]? = some s' → s'.Sound d → s'.node = some t' → m'.Rise q (sub (m'.mod i (·.run (t'.brkF m'.now f.1))) (t'.brkF m'.now f.1).out) i d (G2 + K)) :
    m.Rise q (Ms.emitR sub i (m.mod i (·.run t)) t.out) i d (G1 + t.out.frames.length * K) := by
  have hsay := (hso.mono hcd).says hn hw
  have hsf := (hso.node s hn).2.1
  exact Ms.Rise.emitR hm hs (f1 := (·.run t)) rfl rfl t.out hsay ht hnt hw.rest.inv (fun d => Int.le_of_eq (by rw [Sta.rank_node hn hsf])) hG rfl hw.pks (fun _ => hm.torn hq hs hn hso hsay ht hw.rest.inv hG hG1) (fun _ => rfl) (fun _ => rfl) hsub
theorem Ms.Rise.brk0 {m : Ms} (hq : q ≤ 6) (hm : m.Cir q G) {i d : Nat} {s : Sta} {t : Nd} (hs : m.sts[i]? = some s) (hso : s.Sound d) (hn : s.node = some t) (nb : UInt32) (hG : G + 2 < 4294967295) : m.Rise q (Ms.emit0 i (m.mod i (·.run (t.brkF m.now nb))) (t.brkF m.now nb).out) i d (G + 2) := by
  have hrt := (hso.node t hn).1
  have hci := (hm.sts i s hs).node t hn
  have hw := hrt.wentBrk m.now nb
  have h := Ms.Rise.callR (K := 0) hq hm hs hn hso (Nat.le_refl d) hw (hci.brk (by omega) m.now nb) (Nd.noted_of hw.rest.inv) (by omega) hG (sub := fun m _ => m) fun f hf h0 => absurd (Nd.brkF_all _ _ _ f hf) h0
  exact h.le (by omega)
theorem Ms.Rise.call {m : Ms} (hq : q ≤ 6) (hm : m.Cir q G) {i c d : Nat} {s0 : Sta} {s t : Nd} (hs : m.sts[i]? = some s0) (hn : s0.node = some s) (hso : s0.Sound c) (hcd : c ≤ d) (hw : s.Went t d) (ht : t.Cir (m.sts.eraseIdx i) (· ∈ adrs q) s0.addr s.rank G1) (hnt : t.Noted) (hG : G ≤ G1) (hG1 : G1 + t.out.frames.length * 2 + 2 < 4294967295) : m.Rise q (Ms.emit i (m.mod i (·.run t)) t.out) i d (G1 + t.out.frames.length * 2) :=
  Ms.Rise.callR hq hm hs hn hso hcd hw ht hnt hG (by omega) fun f hf h0 m' s' t' G2 hm' hG2 hs' hso' ht' => Ms.Rise.brk0 hq hm' hs' hso' ht' f.1 (by omega)
theorem Ms.Cir.evs {m : Ms} (h : m.Cir q G) (e : List Ev) (n : UInt64) : Ms.Cir q G { m with evs := e, now := n } := ⟨h.addrs, h.sts, fun f hf => by obtain ⟨k1, s, k2, k3⟩ := h.air f hf; exact ⟨k1, s, k2, k3⟩⟩
theorem Ms.Cir.airs {m : Ms} (h : m.Cir q G) (l : List Fl) (hl : ∀ f ∈ l, FrOk (· ∈ adrs q) G m f.src f.bytes) : Ms.Cir q G { m with air := l } := ⟨h.addrs, h.sts, fun f hf => by obtain ⟨k1, s, k2, k3⟩ := hl f hf; exact ⟨k1, s, k2, k3⟩⟩
theorem Ms.Cir.tickN {m : Ms} (hq : q ≤ 6) (hm : m.Cir q G) {c : Nat} (hf : m.Fine c) (hc : c ≤ 8500) (hn : m.now.toNat ≤ 4611686018427387904) (hG : G + 600000 < 4294967295) : ∀ k, k ≤ m.sts.length → (Ms.tickN k m).Cir q (G + k * 93600) ∧ Ups m.sts (Ms.tickN k m).sts
  | 0, _ => ⟨by simpa [Ms.tickN] using hm, Ups.refl _⟩
  | k + 1, hk => by
    obtain ⟨h1, h2⟩ := Ms.Cir.tickN hq hm hf hc hn hG k (by omega)
    have hT := Ms.tickN_told hf hc hn k (by omega)
    have hlen := hf.short
    rw [Nat.succ_mul]
    unfold Ms.tickN
    cases hs : (Ms.tickN k m).sts[k]? with
    | none => exact ⟨h1.mono (by omega), h2⟩
    | some s =>
      simp only [Option.bind_some]
      cases ht : s.node with
      | none => exact ⟨h1.mono (by omega), h2⟩
      | some t =>
        have hso : s.Sound c := hf.sound k s (by rw [← hT.later k (Nat.le_refl k)]; exact hs)
        have hrt := (hso.node t ht).1
        have hnow : (Ms.tickN k m).now.toNat ≤ 4611686018427387904 := by rw [hT.now]; exact hn
        have hw := hrt.wentTick hc hnow
        have hci := (h1.sts k s hs).node t ht
        have hself : s.addr ∈ adrs q := by rw [← h1.addrs]; exact List.mem_map_of_mem (List.mem_of_getElem? hs)
        have hfr := Nd.tickF_frames hrt hc hnow
        have hck := hrt.clk
        have hR := Ms.Rise.call hq h1 hs ht hso (Nat.le_succ c) hw (hci.tick hself (by omega) _) (Nd.noted_of hw.rest.inv) (by omega) (by omega)
        exact ⟨hR.cir.mono (by omega), h2.trans hR.ups⟩
theorem Ms.Cir.heard {m : Ms} (hq : q ≤ 6) (hm : m.Cir q G) {f : Fl} (hf : f ∈ m.air) {s : Sta} {t : Nd} (hs : m.sts[f.dst]? = some s) (ht : s.node = some t) (hself : t.self = s.addr) : ∀ p, Pk.dec f.bytes = some p → ((m.sts[f.src]?).map fun x : Sta => x.addr).getD 0 ≠ s.addr → Heard (m.sts.eraseIdx f.dst) (· ∈ adrs q) s.addr t.rank G (((m.sts[f.src]?).map fun x : Sta => x.addr).getD 0) p := by
  intro p hp hne
  obtain ⟨h1, x, h2, h3⟩ := hm.air f hf
  obtain ⟨h4, h5⟩ := h3 p hp
  have ex : ((m.sts[f.src]?).map fun x : Sta => x.addr).getD 0 = x.addr := by rw [h2]; rfl
  rw [ex] at hne ⊢
  have hnd : (m.sts.map (·.addr)).Nodup := by rw [hm.addrs]; exact adrs_nodup (by omega)
  have hij : f.src ≠ f.dst := fun e => by rw [e, hs] at h2; cases h2; exact hne rfl
  refine ⟨h4.mono (fun d => Int.le_of_eq (othR_at hnd h2 hij d).symm) fun d r => Nat.le_of_eq ?_, h5, ⟨?_, hne⟩, (Pk.dec_some hp).1.1.1⟩
  · rw [othK_erase hs d r, Sta.rank_node ht hself]
  · show x.addr ∈ adrs q
    rw [← hm.addrs]
    exact List.mem_map_of_mem (List.mem_of_getElem? h2)
theorem Ms.Cir.frame {m : Ms} (hq : q ≤ 6) (hm : m.Cir q G) {c : Nat} (hf : m.Fine c) (o : OpD) (k : Nat) (hG : G + 600000 < 4294967295) : (m.frame o k).Cir q (G + 600000) ∧ Ups m.sts (m.frame o k).sts := by
  have hid : m.Cir q (G + 600000) ∧ Ups m.sts m.sts := ⟨hm.mono (by omega), Ups.refl _⟩
  unfold Ms.frame
  cases hfa : m.air[k]? with
  | none => exact hid
  | some f =>
    have hfm := hm.air f (List.mem_of_getElem? hfa)
    have he : Ms.Cir q G { m with air := m.air.eraseIdx k } := hm.airs _ fun g hg => hm.air g ((List.eraseIdx_sublist _ _).subset hg)
    have hee : Ms.Cir q (G + 600000) { m with air := m.air.eraseIdx k } ∧ Ups m.sts m.sts := ⟨he.mono (by omega), Ups.refl _⟩
    simp only
    split
    · cases hs : m.sts[f.dst]? with
      | none => exact hee
      | some s =>
        simp only [Option.bind_some]
        cases ht : s.node with
        | none => exact hee
        | some t =>
          have hso := hf.sound _ s hs
          obtain ⟨hrt, hself, _⟩ := hso.node t ht
          have hci := (hm.sts _ s hs).node t ht
          have hsa : s.addr ∈ adrs q := by rw [← hm.addrs]; exact List.mem_map_of_mem (List.mem_of_getElem? hs)
          have hE : (m.sts.eraseIdx f.dst).length ≤ 5 := by
            have := hf.short
            have := (List.getElem?_eq_some_iff.1 hs).1
            rw [List.length_eraseIdx, if_pos this]
            omega
          have hw := hrt.wentRcv m.now (((m.sts[f.src]?).map fun x : Sta => x.addr).getD 0) f.bytes
          have hc := hci.rcv (adrs_zero.resolve_right (by omega)) hsa hE (by omega) m.now (((m.sts[f.src]?).map fun x : Sta => x.addr).getD 0) f.bytes (hm.heard hq (List.mem_of_getElem? hfa) hs ht hself)
          have hfr : (t.rcvF m.now (((m.sts[f.src]?).map fun x : Sta => x.addr).getD 0) f.bytes).out.frames.length ≤ 6 := by
            have h1 := (Nd.Step.rcv (hrt.inv.begin m.now) m.now (((m.sts[f.src]?).map fun x : Sta => x.addr).getD 0) f.bytes).frames
            rw [Nd.begin_frames] at h1
            obtain ⟨_, _, _, _, _, _, _, e8, _⟩ := ((t.begin m.now).rcv m.now (((m.sts[f.src]?).map fun x : Sta => x.addr).getD 0) f.bytes).done_same
            unfold Nd.rcvF
            rw [e8]
            simpa using h1
          have hR := Ms.Rise.call (m := { m with air := m.air.eraseIdx k }) hq he (i := f.dst) hs ht hso (Nat.le_refl c) hw hc (Nd.noted_of hw.rest.inv) (by omega) (by omega)
          exact ⟨hR.cir.mono (by omega), hR.ups⟩
    · split
      · exact hee
      · split
        · exact ⟨(hm.fly hfm).mono (by omega), Ups.refl _⟩
        · split
          · refine ⟨(hm.airs _ fun g hg => ?_).mono (by omega), Ups.refl _⟩
            rcases List.mem_or_eq_of_mem_set hg with hg | rfl
            · exact hm.air g hg
            · obtain ⟨b1, s, b2, b3⟩ := hfm
              refine ⟨b1.take _, s, b2, fun p hp => ?_⟩
              by_cases hz : min o.n.toNat f.bytes.length = 0
              · have : f.bytes.take (f.bytes.length - min o.n.toNat f.bytes.length) = f.bytes := by rw [hz]; simp
                rw [this] at hp
                exact b3 p hp
              · rw [b1.less (by omega)] at hp
                cases hp
          · exact hid
theorem Ms.Cir.node {m : Ms} (hq : q ≤ 6) (hm : m.Cir q G) {c : Nat} (hf : m.Fine c) (hn : m.now.toNat ≤ 4611686018427387904) {o : OpD} (hk : o.kind = 1 ∨ o.kind = 2 ∨ o.kind = 8 ∨ o.kind = 9 ∨ o.kind = 10 ∨ o.kind = 11) (h8 : o.kind ≠ 8) (hG : G + 600000 < 4294967295) : (m.nodeOp o).Cir q (G + 600000) ∧ Ups m.sts (m.nodeOp o).sts := by
  have hid : ∀ e, (m.event e).Cir q (G + 600000) ∧ Ups m.sts (m.event e).sts := fun e => ⟨(hm.event e).mono (by omega), Ups.refl _⟩
  cases hb : m.bars o with
  | true => rw [Ms.nodeOp_bar hb]; exact hid _
  | false =>
    obtain ⟨i, s, e1, hs, hw, hj⟩ := Ms.bars_false hb
    have hat : m.at_ o.a = some s := by rw [e1, m.at_nat]; exact hs
    have hso := hf.sound i s hs
    have hsa : s.addr ∈ adrs q := by rw [← hm.addrs]; exact List.mem_map_of_mem (List.mem_of_getElem? hs)
    rcases hk with hk | hk | hk | hk | hk | hk
    · rw [Ms.nodeOp_link hb hk]
      split
      · exact ⟨⟨hm.addrs, fun i s hs => (hm.sts i s hs).mono (Ups.refl _) (by omega), fun f hf => by obtain ⟨k1, s, k2, k3⟩ := (hm.air f hf).mono (Ups.refl _) (show G ≤ G + 600000 by omega); exact ⟨k1, s, k2, k3⟩⟩, Ups.refl _⟩
      · exact ⟨hm.mono (by omega), Ups.refl _⟩
    · obtain ⟨j, s2, e2, hs2⟩ := hj (.inr (.inl hk))
      cases ht : s.node with
      | none => rw [ht, hk] at hw; exact absurd (hw (by decide)) (fun h : true = false => by cases h)
      | some t =>
        rw [Ms.nodeOp_send hb hk hat ht (by rw [e2, m.at_nat]; exact hs2)]
        split
        · rename_i he
          have hrt := (hso.node t ht).1
          have hci := (hm.sts i s hs).node t ht
          have hw := hrt.wentSend hn s2.addr o.text (by unfold Nd.sendE at he; split at he; cases he; omega)
          have hfr := Nd.sendF_frames t m.now s2.addr o.text
          rw [e1, Int.toNat_natCast]
          have hR := Ms.Rise.call hq hm hs ht hso (Nat.le_succ c) hw (hci.sendF hsa (by omega) m.now s2.addr o.text) (Nd.noted_of hw.rest.inv) (by omega) (by omega)
          exact ⟨hR.cir.mono (by omega), hR.ups⟩
        · exact hid _
    · exact absurd hk h8
    · rw [Ms.nodeOp_stop hb hk, e1, Int.toNat_natCast]
      have h1 : ∀ d, s.rank d ≤ s.stop.rank d := fun d => by
        cases ht : s.node with
        | none => have : s.stop.rank d = s.rank d := by unfold Sta.rank Sta.stop; rw [ht]
                  rw [this]; exact Int.le_refl _
        | some t =>
          obtain ⟨g1, g2, g3, g4⟩ := hso.node t ht
          have hci := (hm.sts i s hs).node t ht
          have hj : readJ s.journal = t.recs.map Rec.norm ++ readJ [] := by
            rw [g3, recsB_eq]
            have := readJ_recs t.recs []
            rw [List.append_nil] at this
            exact this
          have hgo := hci.boot (adrs_few hq) (show G < 4294967295 by omega) (hm.sts i s hs).jour hj
          unfold Sta.rank Sta.stop
          rw [ht]
          simp only
          split
          · exact Int.le_refl _
          · exact hgo d
      obtain ⟨k1, k2⟩ := hm.mod hs (f := Sta.stop) rfl h1 (Nat.le_refl G) ⟨fun t ht => (by cases ht), (hm.sts i s hs).jour⟩
      exact ⟨k1.mono (by omega), k2⟩
    · rw [Ms.nodeOp_arm hb hk, e1, Int.toNat_natCast]
      obtain ⟨k1, k2⟩ := hm.mod hs (f := Sta.arm o.n) rfl (fun d => Int.le_of_eq rfl) (Nat.le_refl G) ⟨(hm.sts i s hs).node, (hm.sts i s hs).jour⟩
      exact ⟨k1.mono (by omega), k2⟩
    · rw [Ms.nodeOp_boot hb hk hat, e1, Int.toNat_natCast]
      have hno : s.node = none := by
        have := hw (by rw [hk]; decide)
        rw [hk] at this
        cases hsn : s.node with
        | none => rfl
        | some t => rw [hsn] at this; cases this
      obtain ⟨f1, f2, f3⟩ := Nd.new_frames s.addr s.journal m.now
      have hc := Nd.CirNew (E := m.sts.eraseIdx i) (a := s.addr) (adrs_few hq) (hm.sts i s hs).jour m.now
      have hR := Ms.Rise.emitR (K := 0) hm hs (f1 := Sta.boot m.now) (t := Nd.new s.addr s.journal m.now) rfl rfl (sub := Ms.emit0 i) (Nd.newO s.addr s.journal m.now) (hso.boot m.now) hc (Nd.new_noted _ _) (Nd.new_rest _ _ _).inv (fun d => by
        unfold Sta.rank
        rw [hno]
        exact Int.le_refl _) (Nat.le_succ G) rfl ⟨[], by rw [f1]; rfl⟩ (fun hte => by
        have : (s.boot m.now).tears (Nd.newO s.addr s.journal m.now) = false := rfl
        rw [this] at hte; cases hte) (fun _ => rfl) (fun _ => rfl) fun f hfm => by rw [f1] at hfm; cases hfm
      exact ⟨hR.cir.mono (by omega), hR.ups⟩
theorem Ms.Cir.do_ {m : Ms} (hq : q ≤ 6) (hm : m.Cir q G) {c : Nat} (hf : m.Fine c) (hc : c ≤ 8500) (hn : m.now.toNat + 60000 ≤ 4611686018427387904) {o : OpD} (h8 : o.kind ≠ 8) (hG : G + 600000 < 4294967295) : (m.do_ o).Cir q (G + 600000) ∧ Ups m.sts (m.do_ o).sts := by
  have h0 : Ms.Cir q G { m with evs := [] } := hm.evs [] m.now
  have hf0 := hf.clear
  have hid : Ms.Cir q (G + 600000) { m with evs := [] } ∧ Ups m.sts m.sts := ⟨h0.mono (by omega), Ups.refl _⟩
  by_cases hF : o.kind = 4 ∨ o.kind = 5 ∨ o.kind = 6 ∨ o.kind = 7
  · rw [Ms.do_frame hF]
    split
    · exact Ms.Cir.frame hq h0 hf0 _ _ hG
    · exact hid
  · by_cases hK : o.kind = 3
    · rw [Ms.do_tick hK]
      split
      · rename_i hr
        have hnn : (m.now + UInt64.ofNat o.n.toNat).toNat ≤ 4611686018427387904 := by
          rw [UInt64.toNat_add]
          refine Nat.le_trans (Nat.mod_le _ _) ?_
          have : (UInt64.ofNat o.n.toNat).toNat ≤ 60000 := by
            rw [UInt64.toNat_ofNat']
            exact Nat.le_trans (Nat.mod_le _ _) (by omega)
          omega
        have h1 : Ms.Cir q G { m with now := m.now + UInt64.ofNat o.n.toNat, evs := [] } := hm.evs [] _
        have hf1 : Ms.Fine { m with now := m.now + UInt64.ofNat o.n.toNat, evs := [] } c := ⟨hf.short, hf.sound, ⟨hf.air.few, hf.air.each⟩⟩
        obtain ⟨k1, k2⟩ := Ms.Cir.tickN hq h1 hf1 hc hnn hG m.sts.length (Nat.le_refl _)
        have hs := hf.short
        exact ⟨k1.mono (by omega), k2⟩
      · exact hid
    · by_cases hN : o.kind = 1 ∨ o.kind = 2 ∨ o.kind = 8 ∨ o.kind = 9 ∨ o.kind = 10 ∨ o.kind = 11
      · rw [Ms.do_node hN]
        exact Ms.Cir.node hq h0 hf0 (by show m.now.toNat ≤ _; omega) hN h8 hG
      · rw [Ms.do_none hF hK hN]
        exact hid
theorem Ms.Cir.new (hq : q ≤ 6) : (Ms.new (adrs q)).Cir q 1 := by
  refine ⟨?_, fun i s hs => ?_, fun f hf => by cases hf⟩
  · show ((adrs q).map newSta).map (·.addr) = adrs q
    rw [List.map_map]
    exact List.map_id' _
  · have hs' : ((adrs q).map newSta)[i]? = some s := hs
    rw [List.getElem?_map] at hs'
    cases ha : (adrs q)[i]? with
    | none => rw [ha] at hs'; cases hs'
    | some a =>
      rw [ha] at hs'
      cases hs'
      have hc := Nd.CirNew (E := (Ms.new (adrs q)).sts.eraseIdx i) (A := (· ∈ adrs q)) (a := a) (G := 0) (J := []) (adrs_few hq) (fun r hr => by simp [readJ, readN] at hr) 0
      have hsn := newSta_sound a
      obtain ⟨g1, g2, g3, g4⟩ := hsn.node (Nd.new a [] 0) rfl
      refine ⟨fun t ht => ?_, ?_⟩
      · have : Nd.new a [] 0 = t := Option.some.inj ht
        subst this
        exact hc.idle (Nd.new_noted _ _)
      · exact jou_of hc g1.inv (recsB (Nd.new a [] 0).recs).length (by rw [g3, List.take_length])
end

section
def aboveB (x y : Ln) : Bool := decide (y.rk < x.rk) || (decide (x.rk = y.rk) && decide (x.hops < y.hops))
theorem aboveB_r {x y : Ln} (hx : 0 ≤ x.hops ∧ x.hops ≤ 200) (hy : 0 ≤ y.hops ∧ y.hops ≤ 200) : aboveB x y = true ↔ y.r < x.r := by
  unfold aboveB Ln.r
  simp only [Bool.or_eq_true, Bool.and_eq_true, decide_eq_true_eq]
  omega
structure BestOk (m : Ms) (k : Nat) (x : Ln) : Prop where
  dest : x.dest ≠ adr k
  hops : 0 ≤ x.hops ∧ x.hops ≤ 200
  rank : ∀ s, m.sts[k]? = some s → x.r ≤ s.rank x.dest
theorem BestOk.up {m m' : Ms} {k : Nat} {x : Ln} (h : BestOk m k x) (hU : Ups m.sts m'.sts) (hk : k < m.sts.length) : BestOk m' k x := ⟨h.dest, h.hops, fun s hs => by
  have h1 : m.sts[k]? = some m.sts[k] := List.getElem?_eq_getElem hk
  exact Int.le_trans (h.rank _ h1) ((hU.get h1 hs).2 _)⟩
structure CirS (q i : Nat) (m : Ms) : Prop where
  bnd : BndI q i m
  cir : m.Cir q (1 + i * 600000)
theorem CirS.new {q : Nat} (hq : q ≤ 6) : CirS q 0 (Ms.new (adrs q)) := ⟨BndI.new hq, Ms.Cir.new hq⟩
theorem CirS.skip {q i : Nat} {m : Ms} (h : CirS q i m) : CirS q (i + 1) m := ⟨h.bnd.skip, h.cir.mono (by omega)⟩
theorem CirS.step {q i : Nat} {m : Ms} (h : CirS q i m) (hq : q ≤ 6) (hi : i < 4096) {o : OpD} (ho : o.Ok) (h8 : o.kind ≠ 8) : CirS q (i + 1) (m.do_ o) ∧ Ups m.sts (m.do_ o).sts := by
  have hn := h.bnd.now
  obtain ⟨k1, k2⟩ := Ms.Cir.do_ hq h.cir h.bnd.fine (by omega) (by omega) h8 (o := o) (by omega)
  exact ⟨⟨h.bnd.step hi ho, k1.mono (by omega)⟩, k2⟩
structure RunOk (m : Ms) (q k : Nat) (t : Nd) : Prop where
  st : ∃ s, m.sts[k]? = some s ∧ s.node = some t ∧ s.addr = adr k
  tab : TabC (m.sts.eraseIdx k) (· ∈ adrs q) (adr k) (4294967294) t.ls
  ok : TabOk t.ls
  lines : m.lines (k : Int) = listT t.ls
theorem CirS.run {q i : Nat} {m : Ms} (h : CirS q i m) (hi : i ≤ 4096) {k : Nat} {s : Sta} {t : Nd} (hs : m.sts[k]? = some s) (ht : s.node = some t) : RunOk m q k t := by
  have ha := (Ms.addr_at h.bnd.addrs hs).1
  obtain ⟨h1, h2, h3, h4⟩ := (h.bnd.fine.sound k s hs).node t ht
  have hc := ((h.cir.sts k s hs).node t ht).tab.mono (show 1 + i * 600000 ≤ 4294967294 by omega)
  rw [ha] at hc
  refine ⟨⟨s, hs, ht, ha⟩, hc, h1.inv.tab.tab, ?_⟩
  unfold Ms.lines
  rw [m.at_nat, hs]
  simp only [Option.bind_some, ht]
  rfl
theorem RunOk.rank {m : Ms} {q k : Nat} {t : Nd} (h : RunOk m q k t) {s : Sta} (hs : m.sts[k]? = some s) {d : UInt32} (hd : d ≠ adr k) : s.rank d = rankL t.ls d := by
  obtain ⟨s', h1, h2, h3⟩ := h.st
  rw [hs] at h1
  cases h1
  unfold Sta.rank
  rw [h2, h3, if_neg hd]
theorem RunOk.line {m : Ms} {q k : Nat} {t : Nd} (h : RunOk m q k t) {s : Sta} (hs : m.sts[k]? = some s) {d : UInt32} (hd : d ≠ adr k) {r : Int} (hr : -2000 ≤ r) (hle : r ≤ s.rank d) : ∃ y ∈ t.ls, y.dest = d ∧ r ≤ y.r ∧ s.rank d = y.r := by
  rw [h.rank hs hd] at hle ⊢
  unfold rankL at hle ⊢
  cases hg : lget t.ls d with
  | none => rw [hg] at hle; simp only at hle; omega
  | some y =>
    rw [hg] at hle
    obtain ⟨h1, h2⟩ := lget_mem hg
    exact ⟨y, h1, h2, hle, rfl⟩
theorem Ln.r_ge (x : Ln) (h : 0 ≤ x.hops ∧ x.hops ≤ 200) : -2000 ≤ x.r := by
  unfold Ln.r Ln.rk
  split <;> omega
theorem RunOk.best {m : Ms} {q k : Nat} {t : Nd} (h : RunOk m q k t) {x : Ln} (hx : BestOk m k x) : ∃ y ∈ t.ls, y.dest = x.dest ∧ aboveB x y = false := by
  obtain ⟨s, hs, _, _⟩ := h.st
  obtain ⟨y, h1, h2, h3, _⟩ := h.line hs hx.dest (x.r_ge hx.hops) (hx.rank s hs)
  refine ⟨y, h1, h2, ?_⟩
  cases ha : aboveB x y with
  | false => rfl
  | true =>
    have := (aboveB_r hx.hops (h.tab y h1).1.hops).1 ha
    omega
theorem RunOk.seen {m : Ms} {q k : Nat} {t : Nd} (h : RunOk m q k t) {x : Ln} (hx : x ∈ t.ls) : BestOk m k x := by
  obtain ⟨hl, _⟩ := h.tab x hx
  refine ⟨hl.dest.2, hl.hops, fun s hs => ?_⟩
  rw [h.rank hs hl.dest.2]
  unfold rankL
  rw [lfind_at h.ok.nodup hx]
  exact Int.le_refl _
structure NextIs (m : Ms) (q k : Nat) (x : Ln) (j e : Nat) : Prop where
  next : x.next = adr j
  dest : x.dest = adr e
  jq : j < q
  jk : j ≠ k
  eq_ : e < q
  ek : e ≠ k
  run : x.next ≠ x.dest → ∀ (s : Sta) (t : Nd), m.sts[j]? = some s → s.node = some t → ∃ y ∈ t.ls, y.dest = x.dest ∧ aboveB y x = true
theorem mem_adrs {q : Nat} {d : UInt32} (h : d ∈ adrs q) : ∃ j, j < q ∧ d = adr j := by
  unfold adrs at h
  obtain ⟨j, hj, e⟩ := List.mem_map.1 h
  exact ⟨j, List.mem_range.1 hj, e.symm⟩
theorem CirS.next {q i : Nat} {m : Ms} (h : CirS q i m) (hq : q ≤ 6) (hi : i ≤ 4096) {k : Nat} {t : Nd} (hr : RunOk m q k t) (hk : k < q) {x : Ln} (hx : x ∈ t.ls) (hv : x.valid = true) : ∃ j e, NextIs m q k x j e := by
  obtain ⟨hl, _⟩ := hr.tab x hx
  obtain ⟨v1, v2, v3, v4⟩ := hl.valid hv
  obtain ⟨j, hj, ej⟩ := mem_adrs v1
  obtain ⟨e, he, ee⟩ := mem_adrs hl.dest.1
  have hd := hl.dest.2
  rw [ej] at v2
  rw [ee] at hd
  have hjk : j ≠ k := fun e => v2 (by rw [e])
  refine ⟨j, e, ej, ee, hj, hjk, he, fun e => hd (by rw [e]), fun hne s t' hs ht => ?_⟩
  have hr2 := h.run hi hs ht
  have hsa := (Ms.addr_at h.bnd.addrs hs).1
  have hnd : (m.sts.map (·.addr)).Nodup := by rw [h.cir.addrs]; exact adrs_nodup (by omega)
  rw [ej, ← hsa, othR_at hnd hs hjk] at v3
  have hdj : x.dest ≠ adr j := fun e => hne (by rw [ej, e])
  obtain ⟨y, h1, h2, h3, h4⟩ := hr2.line hs hdj (x.r_ge hl.hops) (Int.le_of_lt v3)
  refine ⟨y, h1, h2, (aboveB_r (hr2.tab y h1).1.hops hl.hops).2 ?_⟩
  omega
def lineF (l : List LnS) (d : UInt32) : Option LnS := l.find? fun p => p.1.dest = d
theorem lineF_of {ls : List Ln} (ok : TabOk ls) {xs : List LnS} (hm : xs.map (·.1) = listT ls) {y : Ln} (hy : y ∈ ls) : ∃ p, lineF xs y.dest = some p ∧ p.1 = y := by
  have hy2 : y ∈ xs.map (·.1) := by rw [hm]; exact (mem_listT ok).2 hy
  obtain ⟨p, hp, e⟩ := List.mem_map.1 hy2
  cases hf : lineF xs y.dest with
  | none =>
    unfold lineF at hf
    have := List.find?_eq_none.1 hf p hp
    simp [e] at this
  | some p' =>
    refine ⟨p', rfl, ?_⟩
    unfold lineF at hf
    have h1 := List.find?_some hf
    have h2 := List.mem_of_find?_eq_some hf
    have h3 : p'.1 ∈ ls := by
      have : p'.1 ∈ xs.map (·.1) := List.mem_map_of_mem h2
      rw [hm] at this
      exact (mem_listT ok).1 this
    have h4 : p'.1.dest = y.dest := by simpa using h1
    have h5 := lfind_at ok.nodup h3
    have h6 := lfind_at ok.nodup hy
    rw [h4, h6] at h5
    exact (Option.some.inj h5).symm
end

end Go.Proofs.YtapoehkdnglahabGreat

