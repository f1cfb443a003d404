/- Compact, in plain Lean: the list in its order against the map. No program in sight. -/
import Derived.Test.YtapoehkdnglahaaMapL
import Derived.Test.YtapoehkdnglahaaTornP
namespace Go.Proofs.Ytapoehkdnglahaa
set_option linter.unusedVariables false
set_option linter.unusedSimpArgs false
deriving instance DecidableEq for Rec
/-- A record without its number. -/
def Rec.key (r : Rec) : Rec := { r.norm with seq := 0 }
def Rec.lt (a b : Rec) : Bool := if a.own != b.own then a.own else decide (a.addr < b.addr)
theorem Rec.lt_irrefl (a : Rec) : a.lt a = false := by simp [Rec.lt]
theorem Rec.lt_trans {a b c : Rec} (h1 : a.lt b = true) (h2 : b.lt c = true) : a.lt c = true := by
  obtain ⟨o1, a1, s1⟩ := a; obtain ⟨o2, a2, s2⟩ := b; obtain ⟨o3, a3, s3⟩ := c
  simp only [Rec.lt] at *
  cases o1 <;> cases o2 <;> cases o3 <;> simp [UInt32.lt_iff_toNat_lt] at * <;> omega
theorem Rec.lt_asymm {a b : Rec} (h1 : a.lt b = true) : b.lt a = false := by
  cases h : b.lt a with
  | false => rfl
  | true => have := Rec.lt_trans h1 h; rw [Rec.lt_irrefl] at this; cases this
theorem Rec.lt_total {a b : Rec} (h1 : a.lt b = false) (h2 : b.lt a = false) : a.own = b.own ∧ a.addr = b.addr := by
  obtain ⟨o1, a1, s1⟩ := a; obtain ⟨o2, a2, s2⟩ := b
  simp only [Rec.lt] at *
  cases o1 <;> cases o2 <;> simp [← UInt32.toNat_inj, UInt32.lt_iff_toNat_lt] at * <;> omega
theorem Rec.key_eq {a b : Rec} (ha : a.norm = a) (hb : b.norm = b) : a.key = b.key ↔ a.own = b.own ∧ a.addr = b.addr := by
  obtain ⟨o1, a1, s1⟩ := a; obtain ⟨o2, a2, s2⟩ := b
  simp only [Rec.key, Rec.norm, Rec.mk.injEq, true_and, and_true] at *
  rw [ha, hb]
theorem Rec.norm_norm (r : Rec) : r.norm.norm = r.norm := by
  obtain ⟨o, a, s⟩ := r; cases o <;> rfl
theorem Rec.norm_key (r : Rec) : r.norm.key = r.key := by
  obtain ⟨o, a, s⟩ := r; cases o <;> rfl
theorem Rec.key_norm (r : Rec) : r.key.norm = r.key := by
  obtain ⟨o, a, s⟩ := r; cases o <;> rfl
theorem Rec.key_key (r : Rec) : r.key.key = r.key := by
  obtain ⟨o, a, s⟩ := r; cases o <;> rfl
theorem Rec.key_lt {a b : Rec} (ha : a.norm = a) (hb : b.norm = b) : a.key.lt b.key = a.lt b := by
  obtain ⟨o1, a1, s1⟩ := a; obtain ⟨o2, a2, s2⟩ := b
  simp only [Rec.key, Rec.norm, Rec.mk.injEq, true_and, and_true, Rec.lt] at *
  rw [ha, hb]
theorem Rec.set_seq {r : Rec} (h : r.norm = r) : { r.key with seq := r.seq } = r := by
  obtain ⟨o, a, s⟩ := r
  simp only [Rec.key, Rec.norm, Rec.mk.injEq, true_and, and_true] at *
  exact h
/-- One number more at a key. -/
def bump (o : Option UInt32) (s : UInt32) : UInt32 := match o with
  | some t => max t s
  | none => s
/-- The greatest number at a key. -/
def seqOf (l : List Rec) (k : Rec) : Option UInt32 := l.foldl (fun o r => if r.norm.key = k then some (bump o r.seq) else o) none
theorem seqOf_snoc (l : List Rec) (r k : Rec) : seqOf (l ++ [r]) k = if r.norm.key = k then some (bump (seqOf l k) r.seq) else seqOf l k := by
  simp only [seqOf, List.foldl_append, List.foldl_cons, List.foldl_nil]
/-- The number at a key, in a list where it stands once. -/
def lookR : List Rec → Rec → Option UInt32
  | [], _ => none
  | x :: xs, k => if x.key = k then some x.seq else lookR xs k
/-- A record put among those that count. -/
def putR : List Rec → Rec → List Rec
  | [], r => [r]
  | x :: xs, r => if x.own = r.own ∧ x.addr = r.addr then { x with seq := max x.seq r.seq } :: xs
    else if r.own = true ∨ (x.own = false ∧ r.addr < x.addr) then r :: x :: xs
    else x :: putR xs r
/-- What counts. -/
def compR (l : List Rec) : List Rec := l.foldl (fun out r => putR out r.norm) []
theorem compR_snoc (l : List Rec) (r : Rec) : compR (l ++ [r]) = putR (compR l) r.norm := by
  simp only [compR, List.foldl_append, List.foldl_cons, List.foldl_nil]
/-- In order, as Encode writes them. -/
structure InO (l : List Rec) : Prop where
  rise : l.Pairwise (fun a b => a.lt b = true)
  norm : ∀ x ∈ l, x.norm = x
theorem InO.nil : InO [] := ⟨List.Pairwise.nil, fun _ h => by cases h⟩
theorem InO.tail {x : Rec} {l : List Rec} (h : InO (x :: l)) : InO l := ⟨(List.pairwise_cons.1 h.rise).2, fun y hy => h.norm y (List.mem_cons_of_mem _ hy)⟩
theorem InO.cons {x : Rec} {l : List Rec} (h : InO l) (hx : x.norm = x) (hl : ∀ y ∈ l, x.lt y = true) : InO (x :: l) :=
  ⟨List.pairwise_cons.2 ⟨hl, h.rise⟩, fun y hy => (List.mem_cons.1 hy).elim (fun e => e ▸ hx) (h.norm y)⟩
theorem stop_lt {x r : Rec} (hx : x.norm = x) (hr : r.norm = r) (hne : ¬ (x.own = r.own ∧ x.addr = r.addr)) : (r.own = true ∨ (x.own = false ∧ r.addr < x.addr)) ↔ r.lt x = true := by
  obtain ⟨o1, a1, s1⟩ := x; obtain ⟨o2, a2, s2⟩ := r
  simp only [Rec.norm, Rec.mk.injEq, true_and, and_true, Rec.lt] at *
  cases o1 <;> cases o2 <;> simp_all
theorem lt_key {a b : Rec} (ha : a.norm = a) (hb : b.norm = b) (h : a.lt b = true) : a.key ≠ b.key := by
  intro e
  obtain ⟨e1, e2⟩ := (Rec.key_eq ha hb).1 e
  simp [Rec.lt, e1, e2] at h
theorem lookR_none {l : List Rec} {k : Rec} (h : ∀ y ∈ l, y.key ≠ k) : lookR l k = none := by
  induction l with
  | nil => rfl
  | cons x l ih => simp only [lookR, if_neg (h x List.mem_cons_self)]; exact ih fun y hy => h y (List.mem_cons_of_mem _ hy)
theorem key_with (x : Rec) (s : UInt32) : ({ x with seq := s } : Rec).key = x.key := rfl
theorem norm_with {x : Rec} (s : UInt32) (h : x.norm = x) : ({ x with seq := s } : Rec).norm = { x with seq := s } := by
  obtain ⟨o1, a1, s1⟩ := x
  simp only [Rec.norm, Rec.mk.injEq, true_and, and_true] at *
  exact h
theorem lt_with (x y : Rec) (s : UInt32) : ({ x with seq := s } : Rec).lt y = x.lt y := rfl
theorem putR_mem {l : List Rec} {r : Rec} : ∀ y ∈ putR l r, (∃ s, y = { r with seq := s }) ∨ y ∈ l ∨ ∃ x ∈ l, ∃ s, y = { x with seq := s } := by
  induction l with
  | nil => intro y hy; rcases List.mem_singleton.1 hy with rfl; exact .inl ⟨y.seq, rfl⟩
  | cons x l ih =>
    intro y hy
    simp only [putR] at hy
    split at hy
    · rcases List.mem_cons.1 hy with rfl | hy
      · exact .inr (.inr ⟨x, List.mem_cons_self, _, rfl⟩)
      · exact .inr (.inl (List.mem_cons_of_mem _ hy))
    · split at hy
      · rcases List.mem_cons.1 hy with rfl | hy
        · exact .inl ⟨y.seq, rfl⟩
        · exact .inr (.inl hy)
      · rcases List.mem_cons.1 hy with rfl | hy
        · exact .inr (.inl List.mem_cons_self)
        · rcases ih y hy with h | h | ⟨x', h, s, e⟩
          · exact .inl h
          · exact .inr (.inl (List.mem_cons_of_mem _ h))
          · exact .inr (.inr ⟨x', List.mem_cons_of_mem _ h, s, e⟩)
theorem putR_ino {l : List Rec} {r : Rec} (h : InO l) (hr : r.norm = r) : InO (putR l r) := by
  induction l with
  | nil => exact InO.nil.cons hr (fun y hy => by cases hy)
  | cons x l ih =>
    have hx := h.norm x List.mem_cons_self
    have hl := (List.pairwise_cons.1 h.rise).1
    simp only [putR]
    split
    · exact h.tail.cons (norm_with _ hx) (fun y hy => by rw [lt_with]; exact hl y hy)
    · rename_i hne
      split
      · rename_i hs
        have hrx := (stop_lt hx hr hne).1 hs
        refine h.cons hr fun y hy => ?_
        rcases List.mem_cons.1 hy with rfl | hy
        · exact hrx
        · exact Rec.lt_trans hrx (hl y hy)
      · rename_i hs
        have hrx : r.lt x = false := by rw [← Bool.not_eq_true]; exact fun e => hs ((stop_lt hx hr hne).2 e)
        have hxr : x.lt r = true := by
          cases e : x.lt r with
          | true => rfl
          | false => exact absurd (Rec.lt_total e hrx) hne
        refine (ih h.tail).cons hx fun y hy => ?_
        rcases putR_mem y hy with ⟨s, rfl⟩ | hy | ⟨x', hx', s, rfl⟩
        · exact hxr
        · exact hl y hy
        · exact hl x' hx'
theorem lookR_put {l : List Rec} {r : Rec} (h : InO l) (hr : r.norm = r) (k : Rec) : lookR (putR l r) k = if r.key = k then some (bump (lookR l k) r.seq) else lookR l k := by
  induction l with
  | nil => rfl
  | cons x l ih =>
    have hx := h.norm x List.mem_cons_self
    have hl := (List.pairwise_cons.1 h.rise).1
    simp only [putR]
    split
    · rename_i he
      have hk : x.key = r.key := (Rec.key_eq hx hr).2 he
      simp only [lookR, key_with, hk]
      split <;> rfl
    · rename_i hne
      have hk : x.key ≠ r.key := fun e => hne ((Rec.key_eq hx hr).1 e)
      split
      · rename_i hs
        have hrx := (stop_lt hx hr hne).1 hs
        have hno : lookR (x :: l) r.key = none := lookR_none fun y hy => by
          rcases List.mem_cons.1 hy with rfl | hy
          · exact fun e => lt_key hr hx hrx e.symm
          · exact fun e => lt_key hr (h.norm y (List.mem_cons_of_mem _ hy)) (Rec.lt_trans hrx (hl y hy)) e.symm
        show (if r.key = k then some r.seq else lookR (x :: l) k) = _
        split
        · rename_i e; subst e; rw [hno]; rfl
        · rfl
      · simp only [lookR, ih h.tail]
        split
        · rename_i e; subst e
          rw [if_neg (fun e => hk e.symm)]
        · rfl
theorem compR_ino (l : List Rec) : InO (compR l) := by
  have key : ∀ (l out : List Rec), InO out → InO (l.foldl (fun out r => putR out r.norm) out) := by
    intro l
    induction l with
    | nil => intro out h; exact h
    | cons r l ih => intro out h; exact ih _ (putR_ino h (Rec.norm_norm r))
  exact key l [] InO.nil
theorem lookR_comp (l : List Rec) (k : Rec) : lookR (compR l) k = seqOf l k := by
  have key : ∀ (l out : List Rec) (o : Option UInt32), InO out → lookR out k = o → lookR (l.foldl (fun out r => putR out r.norm) out) k = l.foldl (fun o r => if r.norm.key = k then some (bump o r.seq) else o) o := by
    intro l
    induction l with
    | nil => intro out o _ h; exact h
    | cons r l ih =>
      intro out o hi h
      simp only [List.foldl_cons]
      refine ih _ _ (putR_ino hi (Rec.norm_norm r)) ?_
      rw [lookR_put hi (Rec.norm_norm r), h]
      rfl
  exact key l [] none InO.nil rfl
theorem mem_lookR {l : List Rec} (h : InO l) {x : Rec} : x ∈ l ↔ x.norm = x ∧ lookR l x.key = some x.seq := by
  induction l with
  | nil => simp [lookR]
  | cons y l ih =>
    have hy := h.norm y List.mem_cons_self
    have hl := (List.pairwise_cons.1 h.rise).1
    constructor
    · intro hx
      refine ⟨h.norm x hx, ?_⟩
      rcases List.mem_cons.1 hx with rfl | hx
      · simp [lookR]
      · have := lt_key hy (h.norm x (List.mem_cons_of_mem _ hx)) (hl x hx)
        simp only [lookR, if_neg this]
        exact ((ih h.tail).1 hx).2
    · rintro ⟨hn, hx⟩
      simp only [lookR] at hx
      split at hx
      · rename_i e
        have := (Rec.key_eq hy hn).1 e
        have hx' := Option.some.inj hx
        have : x = y := by obtain ⟨_, _, _⟩ := x; obtain ⟨_, _, _⟩ := y; simp_all
        rw [this]; exact List.mem_cons_self
      · exact List.mem_cons_of_mem _ ((ih h.tail).2 ⟨hn, hx⟩)
theorem InO.ext : ∀ {a b : List Rec}, InO a → InO b → (∀ x, x ∈ a ↔ x ∈ b) → a = b
  | [], [], _, _, _ => rfl
  | [], y :: b, _, _, h => absurd ((h y).2 List.mem_cons_self) (by simp)
  | x :: a, [], _, _, h => absurd ((h x).1 List.mem_cons_self) (by simp)
  | x :: a, y :: b, ha, hb, h => by
    have hla := (List.pairwise_cons.1 ha.rise).1
    have hlb := (List.pairwise_cons.1 hb.rise).1
    have e : x = y := by
      rcases List.mem_cons.1 ((h x).1 List.mem_cons_self) with e | hx
      · exact e
      · rcases List.mem_cons.1 ((h y).2 List.mem_cons_self) with e | hy
        · exact e.symm
        · have := Rec.lt_trans (hla y hy) (hlb x hx)
          rw [Rec.lt_irrefl] at this; cases this
    subst e
    have := InO.ext ha.tail hb.tail fun z => by
      constructor
      · intro hz
        rcases List.mem_cons.1 ((h z).1 (List.mem_cons_of_mem _ hz)) with rfl | hz'
        · have := hla z hz; rw [Rec.lt_irrefl] at this; cases this
        · exact hz'
      · intro hz
        rcases List.mem_cons.1 ((h z).2 (List.mem_cons_of_mem _ hz)) with rfl | hz'
        · have := hlb z hz; rw [Rec.lt_irrefl] at this; cases this
        · exact hz'
    rw [this]
/-- The map's keys in their order, each with its number. -/
def fillR (m : List (Rec × UInt32)) (ks : List Rec) : List Rec := ks.map fun k => { k with seq := (mget m k).getD 0 }
/-- Of the records l the map m holds the greatest numbers. -/
structure Most (l : List Rec) (m : List (Rec × UInt32)) : Prop where
  kn : KN m
  get : ∀ k, mget m k = seqOf l k
  keys : ∀ k v, (k, v) ∈ m → k.key = k
theorem Most.nil : Most [] [] := ⟨KN.nil, fun _ => rfl, fun _ _ h => by cases h⟩
theorem mset_mem {m : List (Rec × UInt32)} {k k' : Rec} {v v' : UInt32} : (k', v') ∈ mset m k v → (k', v') ∈ m ∨ k' = k := by
  induction m with
  | nil => rw [mset_nil]; intro h; rcases List.mem_singleton.1 h with h; cases h; exact .inr rfl
  | cons p m ih =>
    obtain ⟨a, b⟩ := p
    rw [mset_cons]
    split
    · intro h
      rcases List.mem_cons.1 h with h | h
      · cases h; exact .inr rfl
      · exact .inl (List.mem_cons_of_mem _ h)
    · intro h
      rcases List.mem_cons.1 h with h | h
      · cases h; exact .inl List.mem_cons_self
      · rcases ih h with h | h
        · exact .inl (List.mem_cons_of_mem _ h)
        · exact .inr h
theorem u32max0 (s : UInt32) : max 0 s = s := by
  have e : (max 0 s : UInt32) = if (0 : UInt32) ≤ s then s else 0 := rfl
  rw [e, if_pos (by simp)]
theorem Most.snoc {l : List Rec} {m : List (Rec × UInt32)} (h : Most l m) (r : Rec) : Most (l ++ [r]) (mset m r.norm.key (max ((mget m r.norm.key).getD 0) r.seq)) := by
  refine ⟨h.kn.mset _ _, fun k => ?_, fun k v hk => ?_⟩
  · rw [mget_mset, seqOf_snoc]
    split
    · rename_i e; subst e
      rw [h.get]
      cases seqOf l r.norm.key with
      | none => simp [bump, u32max0]
      | some t => rfl
    · exact h.get k
  · rcases mset_mem hk with hk | rfl
    · exact h.keys k v hk
    · exact (congrArg _ (Rec.norm_key r)).trans (by rw [Rec.norm_key, Rec.key_key])
theorem fill_comp {l : List Rec} {m : List (Rec × UInt32)} {ks : List Rec} (h : Most l m) (hp : ks.Perm (m.map (·.1))) (hs : ks.Pairwise (fun a b => b.lt a = false)) : fillR m ks = compR l := by
  have hk : ∀ k ∈ ks, k.key = k ∧ ∃ v, mget m k = some v := fun k hk => by
    obtain ⟨⟨k', v⟩, hm, rfl⟩ := List.mem_map.1 (hp.mem_iff.1 hk)
    exact ⟨h.keys _ _ hm, v, mget_of_mem h.kn hm⟩
  have hnd : ks.Nodup := hp.symm.nodup h.kn
  have hkn : ∀ k : Rec, k.key = k → k.norm = k := fun k e => by rw [← e]; exact Rec.key_norm k
  have hlt : ks.Pairwise (fun a b => a.lt b = true) := (hs.and hnd).imp_of_mem fun {a b} ha hb ⟨h1, h2⟩ => by
    cases e : a.lt b with
    | true => rfl
    | false =>
      have := (Rec.key_eq (hkn a (hk a ha).1) (hkn b (hk b hb).1)).2 (Rec.lt_total e h1)
      rw [(hk a ha).1, (hk b hb).1] at this
      exact absurd this h2
  refine InO.ext ⟨List.pairwise_map.2 (hlt.imp fun h => h), fun x hx => ?_⟩ (compR_ino l) fun x => ?_
  · obtain ⟨k, hkk, rfl⟩ := List.mem_map.1 hx
    exact norm_with _ (hkn k (hk k hkk).1)
  · rw [mem_lookR (compR_ino l), lookR_comp, ← h.get]
    constructor
    · intro hx
      obtain ⟨k, hkk, rfl⟩ := List.mem_map.1 hx
      obtain ⟨h1, v, hv⟩ := hk k hkk
      refine ⟨norm_with _ (hkn k h1), ?_⟩
      rw [key_with, h1, hv]; rfl
    · rintro ⟨hn, hx⟩
      have hm := hp.mem_iff.2 (List.mem_map.2 ⟨_, mget_mem hx, rfl⟩)
      refine List.mem_map.2 ⟨x.key, hm, ?_⟩
      rw [hx]; exact Rec.set_seq hn
end Go.Proofs.Ytapoehkdnglahaa
