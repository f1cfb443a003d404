/- A walk's state without its world: slots as a list, memory as a separating assertion; the rules of the code's forms, of a region, of a region that draws its order. No program in sight. -/
import Derived.Test.YtapoehkdnglahaaSlc
import Derived.OrdersHeld
import Derived.Defers
import Derived.TacticsIn
import Derived.OrdersIn
namespace Go.Proofs.Ytapoehkdnglahaa
open Go.RowKit
set_option linter.unusedVariables false

/-! ### The slots -/
abbrev Env := List (Nat × Value)
def Env.get : Env → Nat → Option Value
  | [], _ => none
  | (k, v) :: r, t => bif Nat.beq k t then some v else Env.get r t
def Env.ev (E : Env) : Operand → Option Value
  | .tmp t => E.get t
  | .const v => some v
  | .global g => some (.pointer (some ⟨g, 0, none⟩))
  | .func f => some (.func (.func f) #[] #[])
def Env.evs (E : Env) : List Operand → Option (List Value)
  | [] => some []
  | x :: r => match E.ev x, Env.evs E r with
    | some v, some vs => some (v :: vs)
    | _, _ => none
/-- Each binding of the first is one of the second. -/
def Env.sub : Env → Env → Prop
  | [], _ => True
  | (k, v) :: r, E => E.get k = some v ∧ Env.sub r E
/-- A frame: how many slots; whether it is a round's of a range over a function. -/
structure Frm where
  tmps : Nat
  round : Option Nat
def fen (ro : Option Nat) : Fence := { Fence.wide with round := ro }
structure Sees (n : Frm) (E : Env) (a : Act) : Prop where
  size : a.tmps.size = n.tmps
  get : ∀ t v, E.get t = some v → a.tmps.getD t undef = v
theorem Env.get_cons (k : Nat) (v : Value) (r : Env) (t : Nat) : Env.get ((k, v) :: r) t = if k = t then some v else Env.get r t := by
  show (bif Nat.beq k t then some v else Env.get r t) = _
  by_cases h : k = t
  · subst h; simp
  · have : Nat.beq k t = false := by
      cases hb : Nat.beq k t with
      | false => rfl
      | true => exact absurd (Nat.eq_of_beq_eq_true hb) h
    simp [this, h]
theorem Env.sub_get : ∀ {E E' : Env}, E.sub E' → ∀ t v, E.get t = some v → E'.get t = some v
  | [], _, _, t, v, h => by simp [Env.get] at h
  | (k, u) :: r, E', hs, t, v, h => by
    rw [Env.get_cons] at h
    split at h
    · rename_i e; subst e; cases h; exact hs.1
    · exact Env.sub_get hs.2 t v h
variable {P : Program} {n : Frm} {w0 : World} {E E' : Env} {D : List Deferred} {H F R : HProp}
theorem Sees.sub {a : Act} (h : Sees n E a) (hs : E'.sub E) : Sees n E' a := ⟨h.size, fun t v ht => h.get t v (Env.sub_get hs t v ht)⟩
theorem Sees.ev {a : Act} (h : Sees n E a) {x : Operand} {v : Value} (e : E.ev x = some v) : a.eval x = v := by
  cases x with
  | tmp t => exact h.get t v e
  | const u => cases e; rfl
  | global g => cases e; rfl
  | func f => cases e; rfl
theorem Sees.evs {a : Act} (h : Sees n E a) : ∀ {xs : List Operand} {vs : List Value}, E.evs xs = some vs → xs.map a.eval = vs
  | [], vs, e => by cases e; rfl
  | x :: r, vs, e => by
    simp only [Env.evs] at e
    split at e
    · rename_i v us e1 e2
      cases e
      simp [h.ev e1, Sees.evs h e2]
    · cases e
theorem Sees.put {a : Act} (h : Sees n E a) {d : Nat} (v : Value) (hd : Nat.blt d n.tmps = true) : Sees n ((d, v) :: E) (a.put (some d) v) := by
  have hd' : d < n.tmps := by simpa using hd
  refine ⟨by simp [Act.put, h.size], fun t u ht => ?_⟩
  rw [Env.get_cons] at ht
  split at ht
  · rename_i e; subst e; cases ht
    simp [Act.put, h.size, hd']
  · rename_i e
    have := h.get t u ht
    simpa [Act.put, Array.getElem?_setIfInBounds_ne e] using this
/-- What is put into slot d, if there is a slot. -/
def Env.putO (E : Env) : Option Tmp → Value → Env
  | some d, v => (d, v) :: E
  | none, _ => E
def okDst (n : Frm) : Option Tmp → Bool
  | some d => Nat.blt d n.tmps
  | none => true
theorem Sees.putO {a : Act} (h : Sees n E a) (d : Option Tmp) (v : Value) (hd : okDst n d = true) : Sees n (E.putO d v) (a.put d v) := by
  cases d with
  | none => exact h
  | some d => exact h.put v hd

/-- A Bool that is a literal. -/
class Lit (c : Bool) (b : Bool) : Prop where eq : c = b
instance : Lit true true := ⟨rfl⟩
instance : Lit false false := ⟨rfl⟩
instance : Lit true (!false) := ⟨rfl⟩
instance : Lit false (!true) := ⟨rfl⟩
instance : Lit (!false) true := ⟨rfl⟩
instance : Lit (!true) false := ⟨rfl⟩
/-! ### The state -/
structure St where
  E : Env
  D : List Deferred
  H : HProp
structure Good (n : Frm) (w0 : World) (σ : St) (a : Act) (w : World) : Prop where
  sees : Sees n σ.E a
  defers : a.defers = σ.D
  sat : Sat w0 w σ.H
/-- One assertion follows from another. -/
def Ent (H H' : HProp) : Prop := ∀ h : Part, H.on h → ∃ h' : Part, H'.on h' ∧ ∀ k o, h' k = some o → h k = some o
theorem Ent.sat {w : World} (e : Ent H F) (h : Sat w0 w H) : Sat w0 w F := by
  obtain ⟨x, hx, hk⟩ := h.heap
  obtain ⟨y, hy, hyx⟩ := e x hx
  exact ⟨h.os, h.tape, h.output, y, hy, fun k o ho => hk k o (hyx k o ho)⟩
theorem Ent.refl (H : HProp) : Ent H H := fun h hh => ⟨h, hh, fun _ _ e => e⟩
theorem Ent.of_eq (e : H = F) : Ent H F := e ▸ Ent.refl H
theorem Ent.trans {G : HProp} (a : Ent H F) (b : Ent F G) : Ent H G := fun h hh => by
  obtain ⟨x, hx, h1⟩ := a h hh
  obtain ⟨y, hy, h2⟩ := b x hx
  exact ⟨y, hy, fun k o e => h1 k o (h2 k o e)⟩
theorem Ent.drop (p q : HProp) : Ent (p * q) q := fun h ⟨a, b, hd, he, hp, hq⟩ => ⟨b, hq, fun k o e => by
  subst he
  rcases hd k with e' | e'
  · simp only [Part.join, e', e]
  · rw [e'] at e; cases e⟩
theorem Ent.star {a b c d : HProp} (h1 : Ent a b) (h2 : Ent c d) : Ent (a * c) (b * d) := fun h ⟨x, y, hd, he, hp, hq⟩ => by
  obtain ⟨x', hx', e1⟩ := h1 x hp
  obtain ⟨y', hy', e2⟩ := h2 y hq
  have hd' : Part.disj x' y' := fun k => by
    rcases hd k with e | e
    · left; cases hk : x' k with
      | none => rfl
      | some o => rw [e1 k o hk] at e; cases e
    · right; cases hk : y' k with
      | none => rfl
      | some o => rw [e2 k o hk] at e; cases e
  refine ⟨x'.join y', ⟨x', y', hd', rfl, hx', hy'⟩, fun k o e => ?_⟩
  subst he
  simp only [Part.join] at e ⊢
  cases hx : x' k with
  | some u => rw [hx] at e; rw [e1 k u hx]; exact e
  | none =>
    rw [hx] at e
    have hy := e2 k o e
    rcases hd k with e' | e'
    · simp only [e', hy]
    · rw [e'] at hy; cases hy
theorem Ent.tail {c d : HProp} (p : HProp) (h : Ent c d) : Ent (p * c) (p * d) := Ent.star (Ent.refl p) h

def lift (n : Frm) (w0 : World) (Q : Exit → St → Prop) : Exit → Act → World → Prop := fun e a w => ∃ σ, Q e σ ∧ Good n w0 σ a w
/-- The code, from a state: it comes out in a state that the post takes. -/
def WS (P : Program) (n : Frm) (w0 : World) (c : Code) (Q : Exit → St → Prop) (σ : St) : Prop := ∀ a w, Good n w0 σ a w → c.wpIn (fen n.round) 0 P (lift n w0 Q) a w
def thenS (K : St → Prop) (Q : Exit → St → Prop) : Exit → St → Prop
  | .normal, σ => K σ
  | e, σ => Q e σ
def blockS (id : Nat) (Q : Exit → St → Prop) : Exit → St → Prop
  | .exit j, σ => bif Nat.beq j id then Q .normal σ else Q (.exit j) σ
  | e, σ => Q e σ
variable {Q : Exit → St → Prop} {σ : St} {c x y : Code}
theorem WS.mono {Q' : Exit → St → Prop} (h : WS P n w0 c Q σ) (hq : ∀ e σ, Q e σ → Q' e σ) : WS P n w0 c Q' σ :=
  fun a w g => wpIn_mono (h a w g) fun e a w ⟨σ, h1, h2⟩ => ⟨σ, hq e σ h1, h2⟩
theorem WS_seq (h : WS P n w0 x (thenS (WS P n w0 y Q) Q) σ) : WS P n w0 (.seq x y) Q σ := fun a w g =>
  wpIn_seq (wpIn_mono (h a w g) fun e a w ⟨σ', h1, h2⟩ => by
    cases e with
    | normal => exact h1 a w h2
    | _ => exact ⟨σ', h1, h2⟩)
/-- The same, with the rest out of sight. -/
theorem WS_seqK (h : ∀ K : St → Prop, (∀ τ, WS P n w0 y Q τ → K τ) → WS P n w0 x (thenS K Q) σ) : WS P n w0 (.seq x y) Q σ := WS_seq (h _ fun _ h => h)
theorem thenS_n {K : St → Prop} (h : K σ) : thenS K Q .normal σ := h
theorem thenS_r {K : St → Prop} (h : Q .ret σ) : thenS K Q .ret σ := h
theorem thenS_e {K : St → Prop} {j : Nat} (h : Q (.exit j) σ) : thenS K Q (.exit j) σ := h
theorem blockS_n {id : Nat} (h : Q .normal σ) : blockS id Q .normal σ := h
theorem blockS_r {id : Nat} (h : Q .ret σ) : blockS id Q .ret σ := h
theorem blockS_e {id : Nat} (h : Q .normal σ) : blockS id Q (.exit id) σ := by
  show (bif Nat.beq id id then Q .normal σ else Q (.exit id) σ)
  rw [Nat.beq_refl]; exact h
theorem blockS_o {id j : Nat} (hj : Nat.beq j id = false) (h : Q (.exit j) σ) : blockS id Q (.exit j) σ := by
  show (bif Nat.beq j id then Q .normal σ else Q (.exit j) σ)
  rw [hj]; exact h
theorem use_K {K : St → Prop} {c : Code} (h : ∀ τ, WS P n w0 c Q τ → K τ) (g : WS P n w0 c Q σ) : K σ := h σ g
theorem WS_skip (h : Q .normal σ) : WS P n w0 .skip Q σ := fun a w g => wpIn_skip ⟨σ, h, g⟩
theorem WS_ret (h : Q .ret σ) : WS P n w0 .ret Q σ := fun a w g => wpIn_ret ⟨σ, h, g⟩
theorem WS_exit {id : Nat} (h : Q (.exit id) σ) : WS P n w0 (.exit id) Q σ := fun a w g => wpIn_exit ⟨σ, h, g⟩
theorem WS_label {l : Nat} (h : Q .normal σ) : WS P n w0 (.label l) Q σ := fun a w g => wpIn_label ⟨σ, h, g⟩
theorem WS_block {id : Nat} (h : WS P n w0 c (blockS id Q) σ) : WS P n w0 (.block id c) Q σ := fun a w g =>
  wpIn_block (wpIn_mono (h a w g) fun e a w ⟨σ', h1, h2⟩ => by
    cases e with
    | exit j =>
      simp only [Exit.inBlock]
      by_cases hj : j = id
      · subst hj
        rw [if_pos rfl]
        exact ⟨σ', by simpa [blockS] using h1, h2⟩
      · rw [if_neg hj]
        have : Nat.beq j id = false := by
          cases hb : Nat.beq j id with
          | false => rfl
          | true => exact absurd (Nat.eq_of_beq_eq_true hb) hj
        exact ⟨σ', by simpa [blockS, this] using h1, h2⟩
    | _ => exact ⟨σ', h1, h2⟩)
theorem WS_cond {o : Operand} {b : Bool} (hc : σ.E.ev o = some (.bool b)) (ht : b = true → WS P n w0 x Q σ) (hf : b = false → WS P n w0 y Q σ) : WS P n w0 (.cond o x y) Q σ := fun a w g =>
  wpIn_cond_split (g.sees.ev hc) (fun e => ht e a w g) (fun e => hf e a w g)
theorem WS_condT {o : Operand} {b : Bool} (hc : σ.E.ev o = some (.bool b)) (hl : Lit b true) (h : WS P n w0 x Q σ) : WS P n w0 (.cond o x y) Q σ := WS_cond hc (fun _ => h) (fun e => by cases hl.eq; cases e)
theorem WS_condF {o : Operand} {b : Bool} (hc : σ.E.ev o = some (.bool b)) (hl : Lit b false) (h : WS P n w0 y Q σ) : WS P n w0 (.cond o x y) Q σ := WS_cond hc (fun e => by cases hl.eq; cases e) (fun _ => h)
/-- A state that says less. -/
theorem WS_weak {E E' : Env} {H H' : HProp} (hE : E'.sub E) (hH : Ent H H') (h : WS P n w0 c Q ⟨E', D, H'⟩) : WS P n w0 c Q ⟨E, D, H⟩ := fun a w g =>
  h a w ⟨g.sees.sub hE, g.defers, hH.sat g.sat⟩
theorem exists_least {p : Nat → Prop} (h : ∃ m, p m) : ∃ m, p m ∧ ∀ k, p k → m ≤ k := by
  obtain ⟨m, hm⟩ := h
  induction m using Nat.strongRecOn with
  | _ m ih =>
    by_cases hk : ∃ k, k < m ∧ p k
    · obtain ⟨k, hlt, hp⟩ := hk; exact ih k hlt hp
    · exact ⟨m, hm, fun k hp => by
        rcases Nat.lt_or_ge k m with hlt | hge
        · exact absurd ⟨k, hlt, hp⟩ hk
        · exact hge⟩
/-- A loop: I m τ: what holds at its head, with m more rounds at most. -/
theorem WS_loopG (I : Nat → St → Prop) (h0 : ∃ m τ, I m τ ∧ ∀ a w, Good n w0 σ a w → Good n w0 τ a w)
    (round : ∀ m τ, I m τ → WS P n w0 c (thenS (fun σ' => ∃ m' τ', m' < m ∧ I m' τ' ∧ ∀ a w, Good n w0 σ' a w → Good n w0 τ' a w) Q) τ) : WS P n w0 (.loop c) Q σ := by
  intro a w g
  let p : Act → World → Nat → Prop := fun a w m => ∃ τ, I m τ ∧ Good n w0 τ a w
  let μ : Act → World → Nat := fun a w => by
    classical exact if h : ∃ m, p a w m then Classical.choose (exists_least h) else 0
  have hμ : ∀ a w, (∃ m, p a w m) → p a w (μ a w) ∧ ∀ k, p a w k → μ a w ≤ k := fun a w h => by
    have e : μ a w = Classical.choose (exists_least h) := by simp only [μ]; exact dif_pos h
    rw [e]; exact Classical.choose_spec (exists_least h)
  refine wpIn_loop (fun a w => ∃ m, p a w m) μ ?_ ?_
  · obtain ⟨m, τ, hI, h1⟩ := h0
    exact ⟨m, τ, hI, h1 a w g⟩
  · intro a w hp
    obtain ⟨⟨τ, hI, gτ⟩, hmin⟩ := hμ a w hp
    refine wpIn_mono (round _ τ hI a w gτ) fun e a' w' ⟨σ', h1, h2⟩ => ?_
    cases e with
    | normal =>
      obtain ⟨m', τ', hlt, hI', e1⟩ := h1
      have hp' : p a' w' m' := ⟨τ', hI', e1 a' w' h2⟩
      exact ⟨⟨m', hp'⟩, Nat.lt_of_le_of_lt ((hμ a' w' ⟨m', hp'⟩).2 m' hp') hlt⟩
    | _ => exact ⟨σ', h1, h2⟩
theorem Good.low {τ σ : St} {a : Act} {w : World} (g : Good n w0 σ a w) (h1 : τ.E.sub σ.E) (h2 : τ.D = σ.D) (h3 : Ent σ.H τ.H) : Good n w0 τ a w := ⟨g.sees.sub h1, g.defers.trans h2.symm, h3.sat g.sat⟩
theorem WS_loop (I : Nat → St → Prop) (h0 : ∃ m τ, I m τ ∧ τ.E.sub σ.E ∧ τ.D = σ.D ∧ Ent σ.H τ.H)
    (round : ∀ m τ, I m τ → WS P n w0 c (thenS (fun σ' => ∃ m' τ', m' < m ∧ I m' τ' ∧ τ'.E.sub σ'.E ∧ τ'.D = σ'.D ∧ Ent σ'.H τ'.H) Q) τ) : WS P n w0 (.loop c) Q σ := by
  refine WS_loopG I ?_ fun m τ hI => ?_
  · obtain ⟨m, τ, hI, h1, h2, h3⟩ := h0
    exact ⟨m, τ, hI, fun a w g => g.low h1 h2 h3⟩
  · refine (round m τ hI).mono fun e σ' h => ?_
    cases e with
    | normal =>
      obtain ⟨m', τ', hlt, hI', e1, e2, e3⟩ := h
      exact ⟨m', τ', hlt, hI', fun a w g => g.low e1 e2 e3⟩
    | _ => exact h
/-- A loop of a fixed count of rounds: each by itself. -/
def Un (P : Program) (n : Frm) (w0 : World) (c : Code) (Q : Exit → St → Prop) : Nat → St → Prop
  | 0, _ => False
  | m + 1, σ => WS P n w0 c (thenS (Un P n w0 c Q m) Q) σ
theorem Un_succ {m : Nat} (h : WS P n w0 c (thenS (Un P n w0 c Q m) Q) σ) : Un P n w0 c Q (m + 1) σ := h
theorem WS_unroll (m : Nat) (h : Un P n w0 c Q m σ) : WS P n w0 (.loop c) Q σ := by
  refine WS_loopG (Un P n w0 c Q) ⟨m, σ, h, fun _ _ g => g⟩ fun m τ hI => ?_
  cases m with
  | zero => exact hI.elim
  | succ m =>
    refine WS.mono hI fun e σ' h => ?_
    cases e with
    | normal => exact ⟨m, σ', Nat.lt_succ_self m, h, fun _ _ g => g⟩
    | _ => exact h

/-! ### Operations -/
/-- The operation leaves v and the world as it is, in every world that meets H. -/
def OpQ (P : Program) (n : Frm) (w0 : World) (o : Oper) (E : Env) (H : HProp) (v : Value) : Prop :=
  ∀ a w, Sees n E a → Sat w0 w H → (execOp a.eval o).run P w = .ok (.value v) w
/-- The operation turns pre into one of post, whatever stands beside it. -/
def OpT (P : Program) (n : Frm) (w0 : World) (o : Oper) (E : Env) (pre : HProp) {α : Type} (v : α → Value) (post : α → HProp) : Prop :=
  ∀ (G : HProp) a w (K : Act → World → Prop) (Q : Exit → Act → World → Prop), Sees n E a → Sat w0 w (pre * G) → (∀ x w', Sat w0 w' (post x * G) → K (a.put o.dst (v x)) w') → o.wp P a w K Q
/-- Operations in their order. -/
def LS (P : Program) (n : Frm) (w0 : World) (ops : Array Oper) (Q : Exit → St → Prop) (l : List Oper) (σ : St) : Prop := ∀ a w, Good n w0 σ a w → wpListIn (fen n.round) 0 P ops (lift n w0 Q) l a w
theorem calls_fen {ro : Option Nat} {m : Nat} {f : FuncId} {args : Array Value} {w : World} {R : Ending → World → Prop} (h : Calls P f args w R) : CallsIn (fen ro) m P f args w R := callsIn_wide.2 h
theorem rows_fen {ro : Option Nat} {m : Nat} {row : String} {args : Array Value} {w : World} {R : Value → World → Prop} (h : Rows P row args w R) : RowsIn (fen ro) m P row args w R := fun c cs _ =>
  let ⟨v, w', r, s⟩ := h c cs; ⟨v, w', r, stepsIn_wide.2 s⟩
/-- An operation that is no 'defer', at whatever frame. -/
theorem wpIn_of_wp {ro : Option Nat} {o : Oper} {a : Act} {w : World} {K : Act → World → Prop} {Q : Exit → Act → World → Prop} (hnd : ro = none ∨ ∀ c, o.op ≠ .defer c) (h : o.wp P a w K Q) : o.wpIn (fen ro) 0 P a w K Q := by
  refine ⟨fun _ _ => trivial, ?_⟩
  have e : o.semAt (fen ro).round a.eval = execOp a.eval o := by
    show o.semAt ro a.eval = _
    rcases hnd with rfl | hnd
    · rfl
    · exact Oper.semAt_eq _ _ _ hnd
  rw [e]
  unfold Oper.wp at h
  generalize (execOp a.eval o).run P w = r at *
  have hd : (fen ro).depth.isSome = true → 1 ≤ 0 := fun h => by cases h
  cases r with
  | ok x w' =>
    cases x <;> simp only [Oper.upon] at h <;> simp only [Oper.uponIn] <;> first
      | exact h
      | exact ⟨hd, calls_fen h⟩
      | exact ⟨hd, rows_fen h⟩
  | halt x w' => cases x <;> simp only [Oper.upon] at h <;> simp only [Oper.uponIn] <;> exact h
theorem not_defer {ρ : Operand → Value} {o : Oper} {w w' : World} {v : Value} (h : (execOp ρ o).run P w = .ok (.value v) w') : ∀ c, o.op ≠ .defer c := by
  intro c hc
  simp only [execOp, hc, Sem.run_bind] at h
  cases hr : (resolve ρ c o.type).run P w <;> rw [hr] at h <;> simp at h
theorem wp_not_defer {o : Oper} {a : Act} {w : World} (h : o.wp P a w (fun a' _ => a'.defers = a.defers) (fun _ _ _ => False)) : ∀ c, o.op ≠ .defer c := by
  intro c hc
  unfold Oper.wp at h
  simp only [execOp, hc, Sem.run_bind] at h
  cases hr : (resolve a.eval c o.type).run P w with
  | ok d w' =>
    rw [hr] at h
    simp only [Result.andThen_ok, Sem.run_pure, Oper.upon_defer] at h
    have : (d :: a.defers).length = a.defers.length := by
      have e := congrArg List.length h
      cases hd : o.dst <;> rw [hd] at e <;> exact e
    simp at this
  | halt x w' =>
    rw [hr] at h
    cases x <;> exact h
theorem put_defers (a : Act) (d : Option Tmp) (v : Value) : (a.put d v).defers = a.defers := by cases d <;> rfl
theorem OpQ.toIn {o : Oper} {v : Value} (hop : OpQ P n w0 o E H v) {a : Act} {w : World} (s : Sees n E a) (hs : Sat w0 w H) {K : Act → World → Prop} {Q : Exit → Act → World → Prop} (h : K (a.put o.dst v) w) : o.wpIn (fen n.round) 0 P a w K Q := by
  have e := hop a w s hs
  refine wpIn_of_wp (.inr (not_defer e)) ?_
  unfold Oper.wp
  rw [e]; exact h
theorem OpT.toIn {o : Oper} {α : Type} {pre : HProp} {v : α → Value} {post : α → HProp} (hop : OpT P n w0 o E pre v post) (G : HProp) {a : Act} {w : World} {K : Act → World → Prop} {Q : Exit → Act → World → Prop} (s : Sees n E a) (hs : Sat w0 w (pre * G)) (h : ∀ x w', Sat w0 w' (post x * G) → K (a.put o.dst (v x)) w') : o.wpIn (fen n.round) 0 P a w K Q :=
  wpIn_of_wp (.inr (wp_not_defer (hop G a w _ _ s hs fun x w' _ => put_defers _ _ _))) (hop G a w K Q s hs h)
variable {ops : Array Oper} {l : List Oper} {o : Oper}
theorem WS_region {id : Nat} (h : LS P n w0 l.toArray Q l σ) : WS P n w0 (.region id l.toArray false) Q σ := fun a w g => wpIn_region_lit (h a w g)
theorem LS_nil (h : Q .normal σ) : LS P n w0 ops Q [] σ := fun a w g => ⟨σ, h, g⟩
/-- Whether a guard lets an operation come up: the Bool of the slot that it looks at, and what it wants. -/
def guardV (ops : Array Oper) (E : Env) (o : Oper) : Option (Bool × Bool) :=
  match o.guard with
  | none => some (true, true)
  | some (j, want) => match (ops[j]?).bind (·.dst) with
    | some d => match E.get d with
      | some (.bool c) => some (c, want)
      | some (.tuple _) => some (!want, want)
      | _ => none
    | none => none
theorem wanted_of {a : Act} (h : Sees n E a) {c want : Bool} (hg : guardV ops E o = some (c, want)) : Region.wanted o (yielded ops a.tmps) = (c == want) := by
  unfold guardV at hg
  unfold Region.wanted
  cases hgu : o.guard with
  | none => rw [hgu] at hg; cases hg; rfl
  | some jw =>
    obtain ⟨j, want'⟩ := jw
    rw [hgu] at hg
    simp only at hg ⊢
    cases hd : (ops[j]?).bind (·.dst) with
    | none => rw [hd] at hg; cases hg
    | some d =>
      rw [hd] at hg
      simp only at hg
      cases hc : E.get d with
      | none => rw [hc] at hg; cases hg
      | some v =>
        rw [hc] at hg
        cases v with
        | bool c' =>
          cases hg
          have hy : yielded ops a.tmps j = some c := by
            have := h.get d _ hc
            unfold yielded
            rw [hd]
            simp only [Option.bind_some]
            have hlt : d < a.tmps.size := by
              rcases Nat.lt_or_ge d a.tmps.size with hlt | hge
              · exact hlt
              · simp [Array.getElem?_eq_none hge, undef] at this
            simp [hlt] at this ⊢
            rw [this]
          rw [hy]; cases c <;> cases want <;> rfl
        | tuple xs =>
          cases hg
          have hy : yielded ops a.tmps j = none := by
            have := h.get d _ hc
            unfold yielded
            rw [hd]
            simp only [Option.bind_some]
            rcases Nat.lt_or_ge d a.tmps.size with hlt | hge
            · simp [hlt] at this ⊢
              rw [this]
            · simp [Array.getElem?_eq_none hge]
          rw [hy]; cases want <;> rfl
        | _ => cases hg
theorem LS_qo {v : Value} (hop : OpQ P n w0 o E H v) (hd : okDst n o.dst = true) (hg : o.guard = none) (h : LS P n w0 ops Q l ⟨E.putO o.dst v, D, H⟩) : LS P n w0 ops Q (o :: l) ⟨E, D, H⟩ := fun a w g =>
  wpListIn_plain hg fun K hK => hop.toIn g.sees g.sat (hK _ _ (h _ _ ⟨g.sees.putO _ _ hd, by have := g.defers; cases o.dst <;> exact this, g.sat⟩))
theorem LS_q {d : Nat} {op : Op} {ty : TypeId} {pos : String} {after : Array Edge} {v : Value} (hop : OpQ P n w0 ⟨some d, op, ty, pos, after, none⟩ E H v) (hd : Nat.blt d n.tmps = true) (h : LS P n w0 ops Q l ⟨(d, v) :: E, D, H⟩) : LS P n w0 ops Q (⟨some d, op, ty, pos, after, none⟩ :: l) ⟨E, D, H⟩ := LS_qo hop hd rfl h
theorem LS_t {α : Type} {pre : HProp} {v : α → Value} {post : α → HProp} (hop : OpT P n w0 o E pre v post) (hH : H = pre * F) (hd : okDst n o.dst = true) (hg : o.guard = none)
    (h : ∀ x, LS P n w0 ops Q l ⟨E.putO o.dst (v x), D, post x * F⟩) : LS P n w0 ops Q (o :: l) ⟨E, D, H⟩ := fun a w g =>
  wpListIn_plain hg fun K hK => hop.toIn F g.sees (g.sat.cast hH) fun x w' hs => hK _ _ (h x _ _ ⟨g.sees.putO _ _ hd, by have := g.defers; cases o.dst <;> exact this, hs⟩)
/-- A guarded operation that comes up, and one that does not. -/
theorem LS_wantO {d : Option Tmp} {op : Op} {ty : TypeId} {pos : String} {after : Array Edge} {gu : Option (Nat × Bool)} {c want : Bool} (hg : guardV ops E ⟨d, op, ty, pos, after, gu⟩ = some (c, want)) (hd : okDst n d = true)
    (h1 : c = want → LS P n w0 ops Q (⟨d, op, ty, pos, after, none⟩ :: l) ⟨E, D, H⟩) (h2 : c = !want → LS P n w0 ops Q l ⟨E.putO d undef, D, H⟩) : LS P n w0 ops Q (⟨d, op, ty, pos, after, gu⟩ :: l) ⟨E, D, H⟩ := fun a w g => by
  have hw := wanted_of g.sees hg
  unfold wpListIn
  by_cases e : c = want
  · have hw1 : Region.wanted (⟨d, op, ty, pos, after, gu⟩ : Oper) (yielded ops a.tmps) = true := by rw [hw, e]; simp
    rw [if_pos hw1]
    have := h1 e a w g
    unfold wpListIn at this
    rw [if_pos (by rfl)] at this
    exact this
  · have hw1 : ¬ Region.wanted (⟨d, op, ty, pos, after, gu⟩ : Oper) (yielded ops a.tmps) = true := by rw [hw]; simpa using e
    rw [if_neg hw1]
    exact ⟨fun _ _ => trivial, h2 (by cases c <;> cases want <;> simp_all) _ _ ⟨g.sees.putO _ _ hd, by have := g.defers; cases d <;> exact this, g.sat⟩⟩
theorem LS_want {d j : Nat} {op : Op} {ty : TypeId} {pos : String} {after : Array Edge} {b c want : Bool} (hg : guardV ops E ⟨some d, op, ty, pos, after, some (j, b)⟩ = some (c, want)) (hd : Nat.blt d n.tmps = true)
    (h1 : c = want → LS P n w0 ops Q (⟨some d, op, ty, pos, after, none⟩ :: l) ⟨E, D, H⟩) (h2 : c = !want → LS P n w0 ops Q l ⟨(d, undef) :: E, D, H⟩) : LS P n w0 ops Q (⟨some d, op, ty, pos, after, some (j, b)⟩ :: l) ⟨E, D, H⟩ := LS_wantO hg hd h1 h2
theorem LS_wantT {d j dj : Nat} {op : Op} {ty : TypeId} {pos : String} {after : Array Edge} {c want : Bool} (hj : (ops[j]?).bind (·.dst) = some dj) (hc : E.get dj = some (.bool c)) (hl : Lit c want) (hd : Nat.blt d n.tmps = true) (h : LS P n w0 ops Q (⟨some d, op, ty, pos, after, none⟩ :: l) ⟨E, D, H⟩) :
    LS P n w0 ops Q (⟨some d, op, ty, pos, after, some (j, want)⟩ :: l) ⟨E, D, H⟩ := LS_want (c := want) (want := want) (by simp only [guardV, hj, hc, hl.eq]) hd (fun _ => h) (fun e => by cases want <;> cases e)
theorem LS_wantF {d j dj : Nat} {op : Op} {ty : TypeId} {pos : String} {after : Array Edge} {c want : Bool} (hj : (ops[j]?).bind (·.dst) = some dj) (hc : E.get dj = some (.bool c)) (hl : Lit c (!want)) (hd : Nat.blt d n.tmps = true) (h : LS P n w0 ops Q l ⟨(d, undef) :: E, D, H⟩) :
    LS P n w0 ops Q (⟨some d, op, ty, pos, after, some (j, want)⟩ :: l) ⟨E, D, H⟩ := LS_want (c := !want) (want := want) (by simp only [guardV, hj, hc, hl.eq]) hd (fun e => by cases want <;> cases e) (fun _ => h)
/-- A guard that looks at what did not come up. -/
theorem LS_wantU {d j dj : Nat} {op : Op} {ty : TypeId} {pos : String} {after : Array Edge} {want : Bool} {xs : Array Value} (hj : (ops[j]?).bind (·.dst) = some dj) (hc : E.get dj = some (.tuple xs)) (hd : Nat.blt d n.tmps = true) (h : LS P n w0 ops Q l ⟨(d, undef) :: E, D, H⟩) :
    LS P n w0 ops Q (⟨some d, op, ty, pos, after, some (j, want)⟩ :: l) ⟨E, D, H⟩ := LS_want (c := !want) (want := want) (by simp only [guardV, hj, hc]) hd (fun e => by cases want <;> cases e) (fun _ => h)
/-- A guard that is not decided: either way; its slot is laid anew. -/
theorem LS_wantS {d j dj : Nat} {op : Op} {ty : TypeId} {pos : String} {after : Array Edge} {c want : Bool} (hj : (ops[j]?).bind (·.dst) = some dj) (hc : E.get dj = some (.bool c)) (hd : Nat.blt d n.tmps = true)
    (h1 : c = want → LS P n w0 ops Q (⟨some d, op, ty, pos, after, none⟩ :: l) ⟨(dj, .bool want) :: E, D, H⟩) (h2 : c = !want → LS P n w0 ops Q l ⟨(d, undef) :: (dj, .bool (!want)) :: E, D, H⟩) : LS P n w0 ops Q (⟨some d, op, ty, pos, after, some (j, want)⟩ :: l) ⟨E, D, H⟩ := by
  have weak : ∀ (b : Bool), c = b → ∀ a w, Good n w0 ⟨E, D, H⟩ a w → Good n w0 ⟨(dj, .bool b) :: E, D, H⟩ a w := fun b hb a w g => ⟨⟨g.sees.size, fun t v ht => by
    rw [Env.get_cons] at ht
    split at ht
    · rename_i e; subst e; cases ht; exact g.sees.get dj _ (by rw [hc, hb])
    · exact g.sees.get t v ht⟩, g.defers, g.sat⟩
  refine LS_want (c := c) (want := want) (by simp only [guardV, hj, hc]) hd (fun e a w g => h1 e a w (weak _ e a w g)) (fun e a w g => h2 e a w ?_)
  refine ⟨⟨g.sees.size, fun t v ht => ?_⟩, g.defers, g.sat⟩
  rw [Env.get_cons] at ht
  split at ht
  · rename_i e1; subst e1; cases ht; exact g.sees.get d _ (by rw [Env.get_cons, if_pos rfl])
  · rename_i e1
    rw [Env.get_cons] at ht
    split at ht
    · rename_i e2; subst e2; cases ht
      exact g.sees.get dj _ (by rw [Env.get_cons, if_neg e1, hc, e])
    · exact g.sees.get t v (by rw [Env.get_cons, if_neg e1]; exact ht)
theorem LS_wantN {j : Nat} {op : Op} {ty : TypeId} {pos : String} {after : Array Edge} {b c want : Bool} (hg : guardV ops E ⟨none, op, ty, pos, after, some (j, b)⟩ = some (c, want))
    (h1 : c = want → LS P n w0 ops Q (⟨none, op, ty, pos, after, none⟩ :: l) ⟨E, D, H⟩) (h2 : c = !want → LS P n w0 ops Q l ⟨E, D, H⟩) : LS P n w0 ops Q (⟨none, op, ty, pos, after, some (j, b)⟩ :: l) ⟨E, D, H⟩ := LS_wantO hg rfl h1 h2
end Go.Proofs.Ytapoehkdnglahaa
