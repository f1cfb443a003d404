/- A region that draws its order, over a state without its world: one order serves for all. No program in sight. -/
import Derived.Test.YtapoehkdnglahaaOp
namespace Go.Proofs.Ytapoehkdnglahaa
open Go.RowKit
set_option linter.unusedVariables false
variable {P : Program} {n : Frm} {w0 : World} {E : Env} {D : List Deferred} {H F R : HProp} {ops : Array Oper} {l : List Oper} {Q : Exit → St → Prop} {w : World}

/-- What may change memory, or make some. -/
def effB : Op → Bool
  | .move _ | .assign _ | .pick .. | .nilCheck _ | .binOp .. | .unOp .. | .convert .. | .fieldAddr .. | .field .. | .indexAddr .. | .index .. | .extract .. | .slice .. | .build .. | .load .. | .lookup .. | .makeFunc .. => false
  | .call { callee := .builtin .len, .. } | .call { callee := .builtin .cap, .. } | .call { callee := .builtin .min, .. } | .call { callee := .builtin .max, .. } => false
  | _ => true
def isAlloc : Op → Bool
  | .alloc _ => true
  | _ => false
/-- The operation leaves v, and memory as the assertion has it. -/
def OpTQ (P : Program) (n : Frm) (w0 : World) (o : Oper) (E : Env) (H : HProp) (v : Value) : Prop :=
  ∀ a w (K : Act → World → Prop) (Q : Exit → Act → World → Prop), Sees n E a → Sat w0 w H → (∀ w', Sat w0 w' H → K (a.put o.dst v) w') → o.wp P a w K Q
/-- R: what is only read; L: what is read till it is claimed; F: the rest. -/
@[reducible] def hp (c : Bool) (R L F : HProp) : HProp := bif c then R * F else R * (L * F)
/-- The region's operations in one order, each shown to serve. B: the places of those that read L; cp: the place where L is claimed. -/
inductive DL (P : Program) (n : Frm) (w0 : World) (ops : Array Oper) (Q : Exit → St → Prop) (D : List Deferred) (R L : HProp) (B : Nat → Bool) (cp : Nat) : Nat → Bool → List Oper → Env → HProp → Prop
  | nil {k : Nat} {c : Bool} {E : Env} {F H : HProp} : H = hp c R L F → Q .normal ⟨E, D, H⟩ → DL P n w0 ops Q D R L B cp k c [] E F
  | q {k : Nat} {c : Bool} {o : Oper} {l : List Oper} {E : Env} {F : HProp} {v : Value} : effB o.op = false → okDst n o.dst = true → (∃ b, guardV ops E o = some (b, b)) → (∀ F', OpQ P n w0 o E (R * F') v) → DL P n w0 ops Q D R L B cp (k + 1) c l (E.putO o.dst v) F → DL P n w0 ops Q D R L B cp k c (o :: l) E F
  | qp {k : Nat} {o : Oper} {l : List Oper} {E : Env} {F : HProp} {v : Value} : effB o.op = false → okDst n o.dst = true → B k = true → (∃ b, guardV ops E o = some (b, b)) → (∀ F', OpQ P n w0 o E (R * (L * F')) v) → DL P n w0 ops Q D R L B cp (k + 1) false l (E.putO o.dst v) F → DL P n w0 ops Q D R L B cp k false (o :: l) E F
  | skip {k : Nat} {c : Bool} {o : Oper} {l : List Oper} {E : Env} {F : HProp} {b : Bool} : isAlloc o.op = false → okDst n o.dst = true → guardV ops E o = some (b, !b) → DL P n w0 ops Q D R L B cp (k + 1) c l (E.putO o.dst undef) F → DL P n w0 ops Q D R L B cp k c (o :: l) E F
  | t {k : Nat} {c : Bool} {o : Oper} {l : List Oper} {E : Env} {F F' : HProp} {α : Type} {pre : HProp} {v : α → Value} {post : α → HProp} : effB o.op = true → isAlloc o.op = false → okDst n o.dst = true → (∃ b, guardV ops E o = some (b, b)) → OpT P n w0 o E pre v post → F = pre * F' →
      (∀ x, DL P n w0 ops Q D R L B cp (k + 1) c l (E.putO o.dst (v x)) (post x * F')) → DL P n w0 ops Q D R L B cp k c (o :: l) E F
  | tq {k : Nat} {c : Bool} {o : Oper} {l : List Oper} {E : Env} {F : HProp} {v : Value} : effB o.op = true → isAlloc o.op = false → okDst n o.dst = true → (∃ b, guardV ops E o = some (b, b)) → (∀ F', OpTQ P n w0 o E (hp c R L F') v) →
      DL P n w0 ops Q D R L B cp (k + 1) c l (E.putO o.dst v) F → DL P n w0 ops Q D R L B cp k c (o :: l) E F
  | a {k : Nat} {c : Bool} {d : Nat} {t ty : TypeId} {pos : String} {after : Array Edge} {l : List Oper} {E : Env} {F : HProp} {z : Value} {zs : List Value} : okDst n (some d) = true → Zero P t z zs →
      (∀ g, DL P n w0 ops Q D R L B cp (k + 1) c l ((d, ptr g 0) :: E) (cel g t zs * F)) → DL P n w0 ops Q D R L B cp k c (⟨some d, .alloc t, ty, pos, after, none⟩ :: l) E F
  | claim {l : List Oper} {E : Env} {F : HProp} : DL P n w0 ops Q D R L B cp cp true l E (L * F) → DL P n w0 ops Q D R L B cp cp false l E F

/-- The slot of an allocation that no guard holds. -/
def allocOf (ops : Array Oper) (j : Nat) : Option Oper :=
  match ops[j]? with
  | some o => bif isAlloc o.op && o.guard.isNone && o.dst.isSome then some o else none
  | none => none
/-- Whatever waits for operation i, by the text. -/
def desF (ops : Array Oper) (i : Nat) : Nat → List Nat
  | 0 => []
  | k + 1 => let r := desF ops i k
    bif k == i || (match ops[k]? with
      | some o => o.after.any fun e => Region.binds .any e && Nat.blt e.on k && r.contains e.on
      | none => false) then k :: r else r
def effAt (ops : Array Oper) (j : Nat) : Bool := match ops[j]? with
  | some o => effB o.op
  | none => false
/-- Is the order one that serves for all? post: the operations that may change what is claimed; e: an allocation that has come up early. -/
def certD (ops : Array Oper) (B : Nat → Bool) (post : List Nat) : Nat → Nat → Nat → List Nat → Array Bool → Option Nat → Bool
  | 0, _, _, _, _, _ => false
  | m + 1, f, k, [], listed, e => e.isNone && (Region.ready .any ops listed).isEmpty
  | m + 1, f, k, i :: r, listed, e =>
    bif e == some i then certD ops B post m f (k + 1) r listed none
    else match f, ops[i]? with
      | f' + 1, some o =>
        (match e with
          | none => true
          | some j => match allocOf ops j with
            | some oj => oj.apart ops o
            | none => false) &&
        (bif effB o.op then
          (Region.ready .any ops listed).contains i && certD ops B post m f' (k + 1) r (listed.setIfInBounds i true) e &&
          (Region.ready .any ops listed).all fun j => j == i || (e.isNone && (allocOf ops j).isSome && certD ops B post m f' k (i :: r) (listed.setIfInBounds j true) (some j))
        else Region.free .any ops listed i && (Region.ready .any ops listed).contains i && (!B k || post.all fun j => (desF ops i ops.size).contains j) && certD ops B post m f' (k + 1) r (listed.setIfInBounds i true) e)
      | _, _ => false

/-! ### Orders -/
def Down (ops : Array Oper) (listed : Array Bool) : Prop := ∀ j o, ops[j]? = some o → listed.getD j false = true → ∀ e ∈ o.after, Region.binds .any e = true → listed.getD e.on false = true
theorem Down.set {listed : Array Bool} (h : Down ops listed) {i : Nat} (hi : i ∈ Region.ready .any ops listed) : Down ops (listed.setIfInBounds i true) := by
  intro j o hj hl e he hb
  by_cases hji : j = i
  · subst hji
    obtain ⟨_, o', ho', hall⟩ := mem_ready.1 hi
    rw [hj] at ho'; cases ho'
    exact getD_set_true (hall e he hb)
  · rw [getD_set_ne false (Ne.symm hji)] at hl
    exact getD_set_true (h j o hj hl e he hb)
theorem desF_spec (i : Nat) : ∀ (k j : Nat), j ∈ desF ops i k → j = i ∨ ∃ o, ops[j]? = some o ∧ ∃ e ∈ o.after, Region.binds .any e = true ∧ e.on < j ∧ e.on ∈ desF ops i k
  | 0, j, h => by cases h
  | k + 1, j, h => by
    unfold desF at h ⊢
    simp only at h ⊢
    cases hb : (k == i || (match ops[k]? with
      | some o => o.after.any fun e => Region.binds .any e && Nat.blt e.on k && (desF ops i k).contains e.on
      | none => false)) with
    | false =>
      rw [hb] at h
      simp only [cond_false] at h ⊢
      exact desF_spec i k j h
    | true =>
      rw [hb] at h
      simp only [cond_true] at h ⊢
      rcases List.mem_cons.1 h with rfl | h
      · by_cases hji : j = i
        · exact .inl hji
        · right
          simp only [Bool.or_eq_true, beq_iff_eq, hji, false_or] at hb
          cases ho : ops[j]? with
          | none => rw [ho] at hb; cases hb
          | some o =>
            rw [ho] at hb
            obtain ⟨e, he, hh⟩ := Array.any_eq_true'.1 hb
            simp only [Bool.and_eq_true] at hh
            obtain ⟨⟨h1, h2⟩, h3⟩ := hh
            exact ⟨o, rfl, e, he, h1, by simpa using h2, List.mem_cons_of_mem _ (by simpa using h3)⟩
      · rcases desF_spec i k j h with h | ⟨o, ho, e, he, h1, h2, h3⟩
        · exact .inl h
        · exact .inr ⟨o, ho, e, he, h1, h2, List.mem_cons_of_mem _ h3⟩
/-- What waits for an operation that has not come up has not come up, and may not. -/
theorem des_unlisted {listed : Array Bool} (hd : Down ops listed) {i m : Nat} (hi : listed.getD i true = false) : ∀ j, j ∈ desF ops i m → listed.getD j false = false := by
  have hi' : listed.getD i false = false := by
    rcases Nat.lt_or_ge i listed.size with h' | h'
    · simp [h'] at hi ⊢; exact hi
    · simp [Array.getElem?_eq_none h'] at hi
  intro j
  induction j using Nat.strongRecOn with
  | _ j ih =>
    intro hj
    rcases desF_spec i m j hj with rfl | ⟨o, ho, e, he, h1, h2, h3⟩
    · exact hi'
    · cases hl : listed.getD j false with
      | false => rfl
      | true =>
        have := hd j o ho hl e he h1
        rw [ih e.on h2 h3] at this
        cases this
theorem des_not_ready {listed : Array Bool} (hd : Down ops listed) {i m : Nat} (hi : listed.getD i true = false) {j : Nat} (hj : j ∈ desF ops i m) (hji : j ≠ i) : j ∉ Region.ready .any ops listed := by
  intro hr
  obtain ⟨_, o, ho, hall⟩ := mem_ready.1 hr
  rcases desF_spec i m j hj with h | ⟨o', ho', e, he, h1, h2, h3⟩
  · exact hji h
  · rw [ho] at ho'; cases ho'
    have := hall e he h1
    rw [des_unlisted hd hi e.on h3] at this
    cases this
/-- Whatever order is picked, and S holds behind each operation. -/
def wpAnyL (P : Program) (ops : Array Oper) (Q : Exit → Act → World → Prop) (S : Array Bool → World → Prop) : Nat → Array Bool → Act → World → Prop
  | 0, listed, a, w => Region.ready .any ops listed = [] ∧ Q .normal a w
  | f + 1, listed, a, w => (Region.ready .any ops listed = [] → Q .normal a w) ∧
    ∀ i ∈ Region.ready .any ops listed, wpOp P ops Q i (fun a' w' => S (listed.setIfInBounds i true) w' ∧ wpAnyL P ops Q S f (listed.setIfInBounds i true) a' w') a w
theorem wpAny_of_L {Q : Exit → Act → World → Prop} {S : Array Bool → World → Prop} : ∀ (f : Nat) (listed : Array Bool) (a : Act) (w : World), wpAnyL P ops Q S f listed a w → wpAny P .any ops Q f listed a w
  | 0, _, _, _, h => h
  | f + 1, _, _, _, h => ⟨h.1, fun i hi => wpOp_mono (fun a' w' h' => wpAny_of_L f _ a' w' h'.2) (h.2 i hi)⟩
/-- An operation that yields in every world in which it may come up may come up first. -/
theorem wpAnyL_first {Q : Exit → Act → World → Prop} {S : Array Bool → World → Prop} {i : Nat} {oi : Oper} {v : Value} (hi : ops[i]? = some oi) (hsel : Region.noSelect ops = true)
    (hQ : ∀ (c : List PanicEntry) (a : Act) (w : World), ¬ Q (.panic c) a w) (T : World → Prop)
    (hT : ∀ listed w, Down ops listed → listed.getD i true = false → S listed w → T w) (hi1 : ∀ listed w, S listed w → S (listed.setIfInBounds i true) w)
    (hsw : ∀ listed j w, Down ops listed → listed.getD i true = false → j ≠ i → j ∈ Region.ready .any ops listed → S ((listed.setIfInBounds i true).setIfInBounds j true) w → S (listed.setIfInBounds j true) w) :
    ∀ (f : Nat) (listed : Array Bool) (a : Act) (w : World), Down ops listed →
      (∀ j oj, ops[j]? = some oj → j ≠ i → listed.getD j true = false → (∀ e ∈ oj.after, Region.binds .any e = true → e.on ≠ i) → oi.apart ops oj = true) →
      i ∈ Region.ready .any ops listed → YieldsIf P ops T oi v a → S listed w → wpAnyL P ops Q S f (listed.setIfInBounds i true) (a.put oi.dst v) w → wpAnyL P ops Q S (f + 1) listed a w := by
  intro f
  induction f with
  | zero =>
    intro listed a w hd hfree hr hy hS h
    refine ⟨fun h0 => (by rw [h0] at hr; cases hr), fun j hj => ?_⟩
    by_cases hji : j = i
    · subst hji
      exact hy.wpOp hi (hT listed w hd (mem_ready.1 hr).1 hS) ⟨hi1 _ _ hS, h⟩
    · have := ready_mono hj hji
      rw [h.1] at this
      cases this
  | succ f ih =>
    intro listed a w hd hfree hr hy hS h
    refine ⟨fun h0 => (by rw [h0] at hr; cases hr), fun j hj => ?_⟩
    by_cases hji : j = i
    · subst hji
      exact hy.wpOp hi (hT listed w hd (mem_ready.1 hr).1 hS) ⟨hi1 _ _ hS, h⟩
    · have hiun := (mem_ready.1 hr).1
      have h1 := h.2 j (ready_mono hj hji)
      obtain ⟨hjun, oj, hoj, hall⟩ := mem_ready.1 hj
      have hnot : ∀ e ∈ oj.after, Region.binds .any e = true → e.on ≠ i := fun e he hb heq => by
        have h2 := hall e he hb
        rw [heq] at h2
        rcases Nat.lt_or_ge i listed.size with h' | h'
        · simp [h'] at hiun h2; rw [hiun] at h2; cases h2
        · simp [Array.getElem?_eq_none h'] at h2
      have h2 := wpOp_putIf hoj (hfree j oj hoj hji hjun hnot) (fun cs b => Region.noSelect_spec hsel i oi cs b hi) (fun cs b => Region.noSelect_spec hsel j oj cs b hoj) (fun c a w hq => absurd hq (hQ _ _ _)) hy h1
      refine wpOp_mono (fun a' w' h3 => ?_) h2
      have hS' := hsw listed j w' hd hiun hji hj h3.2.1
      refine ⟨hS', ih (listed.setIfInBounds j true) a' w' (hd.set hj) (fun k ok hk hki hun hno => hfree k ok hk hki ?_ hno) (ready_mono hr (Ne.symm hji)) h3.1 hS' ?_⟩
      · by_cases hjk : j = k
        · subst hjk; exact hjun
        · rw [getD_set_ne true hjk] at hun; exact hun
      · rw [Array.setIfInBounds_comm _ _ hji]
        exact h3.2.2
theorem wpAnyL_done {Q : Exit → Act → World → Prop} {S : Array Bool → World → Prop} {listed : Array Bool} {a : Act} {w : World} (hr : Region.ready .any ops listed = []) (h : Q .normal a w) : ∀ f, wpAnyL P ops Q S f listed a w
  | 0 => ⟨hr, h⟩
  | _ + 1 => ⟨fun _ => h, by rw [hr]; simp⟩
/-- What holds between the operations: L is whole till one of post has come up. -/
def Held (w0 : World) (ops : Array Oper) (R L : HProp) (post : List Nat) (listed : Array Bool) (w : World) : Prop :=
  ∃ F', Sat w0 w (bif post.any (fun j => listed.getD j false) then R * F' else R * (L * F'))
theorem Held.read {R L : HProp} {post : List Nat} {listed : Array Bool} {w : World} (h : Held w0 ops R L post listed w) : ∃ F', Sat w0 w (R * F') := by
  obtain ⟨F', h⟩ := h
  cases hb : post.any (fun j => listed.getD j false) with
  | true => rw [hb] at h; exact ⟨_, h⟩
  | false => rw [hb] at h; exact ⟨_, h⟩
theorem Held.whole {R L : HProp} {post : List Nat} {listed : Array Bool} {w : World} {F' : HProp} (h : Sat w0 w (R * (L * F'))) : Held w0 ops R L post listed w := by
  cases hb : post.any (fun j => listed.getD j false) with
  | true => exact ⟨L * F', by rw [hb]; exact h⟩
  | false => exact ⟨F', by rw [hb]; exact h⟩
theorem Held.past {R L : HProp} {post : List Nat} {listed : Array Bool} {w : World} {F' : HProp} (hb : post.any (fun j => listed.getD j false) = true) (h : Sat w0 w (R * F')) : Held w0 ops R L post listed w :=
  ⟨F', by rw [hb]; exact h⟩
theorem any_set {post : List Nat} {listed : Array Bool} {i : Nat} (hi : i ∉ post) : post.any (fun j => (listed.setIfInBounds i true).getD j false) = post.any (fun j => listed.getD j false) := by
  rw [Bool.eq_iff_iff, List.any_eq_true, List.any_eq_true]
  constructor
  · rintro ⟨j, hj, h⟩; exact ⟨j, hj, by rw [getD_set_ne false (fun e => hi (by rw [e]; exact hj))] at h; exact h⟩
  · rintro ⟨j, hj, h⟩; exact ⟨j, hj, getD_set_true h⟩
theorem Held.set {R L : HProp} {post : List Nat} {listed : Array Bool} {w : World} (h : Held w0 ops R L post listed w) (i : Nat) : Held w0 ops R L post (listed.setIfInBounds i true) w := by
  cases hb : post.any (fun j => listed.getD j false) with
  | true =>
    obtain ⟨F', h⟩ := h
    rw [hb] at h
    refine .past ?_ h
    obtain ⟨j, hj, h⟩ := List.any_eq_true.1 hb
    exact List.any_eq_true.2 ⟨j, hj, getD_set_true h⟩
  | false => obtain ⟨F', h⟩ := h; rw [hb] at h; exact .whole h

/-- An operation that does not look at a slot, and whether that slot is filled. -/
theorem wp_put {o oj : Oper} {v : Value} (hap : oj.apart ops o = true) (hs : ∀ cs b, o.op ≠ .select cs b) {Q : Exit → Act → World → Prop} (hQ : ∀ c a w, ¬ Q (.panic c) a w) {K : Act → World → Prop} {a : Act} {w : World}
    (h : o.wp P a w (fun x w => K (x.put oj.dst v) w) Q) : o.wp P (a.put oj.dst v) w K Q := by
  obtain ⟨h1, h2, h3⟩ := Oper.apart_spec hap
  unfold Oper.wp at *
  rw [execOp_put o hs a oj.dst v h1]
  generalize (execOp a.eval o).run P w = r at *
  cases r with
  | ok nx w' =>
    cases nx <;> simp only [Oper.upon] at h ⊢
    case value u => rw [Act.put_comm a v u h2]; exact h
    case skip => rw [Act.put_comm a v undef h2]; exact h
    case defer d => rw [Act.put_defers, Act.put_comm _ v undef h2]; exact h
    case enter f args =>
      refine Calls.mono h fun e w'' he => ?_
      cases e with
      | returned u => show K ((a.put oj.dst v).put o.dst u) w''; rw [Act.put_comm a v u h2]; exact he
      | panicked c => exact absurd he (hQ _ _ _)
      | outgrown => exact he
    case row row args => exact Rows.mono h fun u w'' he => by show K ((a.put oj.dst v).put o.dst u) w''; rw [Act.put_comm a v u h2]; exact he
  | halt x w' =>
    cases x <;> simp only [Oper.upon] at h ⊢
    case panic u => exact absurd h (hQ _ _ _)

def noPanic (Q : Exit → Act → World → Prop) : Exit → Act → World → Prop
  | .panic _, _, _ => False
  | .outgrown, _, _ => False
  | e, a, w => Q e a w

theorem run_alloc (w : World) {t : TypeId} {z : Value} {zs : List Value} (hz : Zero P t z zs) : (Instr.alloc t true (.tuple #[])).run P w = .ok (ptr w.heap.size 0) (w.alloc (.cells zs.toArray t)) := by
  obtain ⟨i, hi, hi2⟩ := Option.map_eq_some_iff.1 hz.eq
  have hc : z.cells = zs.toArray := by rw [cellsL_eq, hz.cells]
  simp [Instr.alloc, zeroValue, typeInfo, hi, hi2, newVar, newRow, hc]
theorem execOp_alloc (ρ : Operand → Value) {d : Option Tmp} {t ty : TypeId} {pos : String} {after : Array Edge} {gu : Option (Nat × Bool)} (w : World) {z : Value} {zs : List Value} (hz : Zero P t z zs) :
    (execOp ρ ⟨d, .alloc t, ty, pos, after, gu⟩).run P w = .ok (.value (ptr w.heap.size 0)) (w.alloc (.cells zs.toArray t)) := by
  simp [execOp, run_alloc w hz]

/-- What of an early allocation is laid already: its slot, its block. -/
inductive Early (P : Program) (n : Frm) (ops : Array Oper) (a0 : Act) (H : HProp) : Option Nat → Act → HProp → Prop
  | none : Early P n ops a0 H none a0 H
  | some {j d : Nat} {t ty : TypeId} {g : Nat} {pos : String} {after : Array Edge} {z : Value} {zs : List Value} : ops[j]? = some ⟨some d, .alloc t, ty, pos, after, none⟩ → Zero P t z zs →
      Early P n ops a0 H (some j) (a0.put (some d) (ptr g 0)) (cel g t zs * H)
/-- All allocations of the region have their zeros. -/
def zerosB (P : Program) (ops : Array Oper) : Prop := ∀ (j d t ty : Nat) (pos : String) (after : Array Edge) (gu : Option (Nat × Bool)), ops[j]? = some (⟨some d, .alloc t, ty, pos, after, gu⟩ : Oper) → ∃ z zs, Zero P t z zs
def zeroOp (P : Program) (o : Oper) : Bool := match o.op with
  | .alloc t => match P.info? t with
    | some i => i.zero.isSome
    | none => false
  | _ => true
theorem zerosB_of {l : List Oper} (h : l.all (zeroOp P) = true) : zerosB P l.toArray := by
  intro j d t ty pos after gu hj
  have hm := List.all_eq_true.1 h _ (List.mem_of_getElem? (by simpa using hj))
  simp only [zeroOp] at hm
  cases hi : P.info? t with
  | none => rw [hi] at hm; cases hm
  | some i =>
    rw [hi] at hm
    simp only at hm
    obtain ⟨z, hz⟩ := Option.isSome_iff_exists.1 hm
    exact ⟨z, _, by rw [hi]; simp [hz], rfl⟩
theorem allocOf_some {j : Nat} {o : Oper} (h : allocOf ops j = some o) : ∃ (d t ty : Nat) (pos : String) (after : Array Edge), o = (⟨some d, .alloc t, ty, pos, after, none⟩ : Oper) ∧ ops[j]? = some o := by
  unfold allocOf at h
  cases ho : ops[j]? with
  | none => rw [ho] at h; cases h
  | some o' =>
    rw [ho] at h
    simp only at h
    cases hb : (isAlloc o'.op && o'.guard.isNone && o'.dst.isSome) with
    | false => rw [hb] at h; cases h
    | true =>
      rw [hb] at h
      cases h
      obtain ⟨dst, op, ty, pos, after, guard⟩ := o
      simp only [Bool.and_eq_true] at hb
      obtain ⟨⟨h1, h2⟩, h3⟩ := hb
      cases op <;> try (cases h1; done)
      cases guard <;> try (cases h2; done)
      cases dst <;> try (cases h3; done)
      exact ⟨_, _, _, _, _, rfl, rfl⟩

section sound
variable {R L : HProp} {B : Nat → Bool} {cp : Nat} {post idx0 : List Nat}
def SoundAt (P : Program) (n : Frm) (w0 : World) (ops : Array Oper) (Q : Exit → St → Prop) (D : List Deferred) (R L : HProp) (B : Nat → Bool) (cp : Nat) (post idx0 : List Nat) (c : Bool) (m : Nat) : Prop :=
  ∀ (f k : Nat) (idx : List Nat) (listed : Array Bool) (e : Option Nat) (l : List Oper) (E : Env) (F : HProp) (a0 a : Act) (H : HProp) (w : World),
    certD ops B post m f k idx listed e = true → idx0.drop k = idx → idx.map (ops[·]?) = l.map some → DL P n w0 ops Q D R L B cp k c l E F → (c = true → cp ≤ k) → Sees n E a0 → a0.defers = D → Early P n ops a0 (hp c R L F) e a H → Sat w0 w H → Down ops listed → Held w0 ops R L post listed w →
    wpAnyL P ops (noPanic (lift n w0 Q)) (Held w0 ops R L post) f listed a w
theorem DL_sound (hz : zerosB P ops) (hsel : Region.noSelect ops = true) (hpost : post = (idx0.drop cp).filter (effAt ops)) (c : Bool) (hclaim : c = false → ∀ m, SoundAt P n w0 ops Q D R L B cp post idx0 true m) : ∀ m, SoundAt P n w0 ops Q D R L B cp post idx0 c m := by
  have hQ0 : ∀ (c : List PanicEntry) (a : Act) (w : World), ¬ noPanic (lift n w0 Q) (.panic c) a w := fun _ _ _ h => h
  have hpe : ∀ j, j ∈ post → effAt ops j = true := fun j hj => by rw [hpost] at hj; exact (List.mem_filter.1 hj).2
  intro m
  induction m with
  | zero => intro f k idx listed e l E F a0 a H w hc; cases hc
  | succ m ih =>
    intro f k idx listed e l E F a0 a H w hc hk hidx hd hcp hs hD he hsat hdown hS
    -- a claim
    by_cases hcl : ∃ F', c = false ∧ k = cp ∧ F' = L * F ∧ DL P n w0 ops Q D R L B cp cp true l E F'
    · obtain ⟨F', rfl, rfl, rfl, hd'⟩ := hcl
      exact hclaim rfl (m + 1) f k idx listed e l E (L * F) a0 a H w hc hk hidx hd' (fun _ => Nat.le_refl _) hs hD he hsat hdown hS
    cases idx with
    | nil =>
      have hl : l = [] := by simpa using hidx.symm
      subst hl
      simp only [certD, Bool.and_eq_true] at hc
      obtain ⟨he1, hr⟩ := hc
      cases he with
      | some _ _ => cases he1
      | none =>
        cases hd with
        | nil hH h => exact wpAnyL_done (by simpa using hr) ⟨_, h, hs, hD, hsat.cast hH.symm⟩ f
        | claim h => exact absurd ⟨_, rfl, rfl, rfl, h⟩ hcl
    | cons i r =>
      obtain ⟨o, l, rfl, hio, hidx'⟩ : ∃ o l', l = o :: l' ∧ ops[i]? = some o ∧ r.map (ops[·]?) = l'.map some := by
        cases l with
        | nil => simp at hidx
        | cons o l' => simp only [List.map_cons, List.cons.injEq] at hidx; exact ⟨o, l', rfl, hidx.1, hidx.2⟩
      have hidxA := hidx
      clear hidx
      have hidx := hidx'
      have hk1 : idx0.drop (k + 1) = r := by rw [← List.drop_drop, hk]; rfl
      have hki : idx0[k]? = some i := by
        have := congrArg (·[0]?) hk
        simpa using this
      have hcp1 : c = true → cp ≤ k + 1 := fun h => Nat.le_succ_of_le (hcp h)
      have inpost : effB o.op = true → c = true → i ∈ post := fun h1 h2 => by
        rw [hpost]
        refine List.mem_filter.2 ⟨?_, by simp [effAt, hio, h1]⟩
        refine List.mem_of_getElem? (i := k - cp) ?_
        rw [List.getElem?_drop, show cp + (k - cp) = k by have := hcp h2; omega]
        exact hki
      have hso : ∀ cs b, o.op ≠ .select cs b := fun cs b => Region.noSelect_spec hsel i o cs b hio
      simp only [certD] at hc
      by_cases hei : e = some i
      · -- it has come up early
        subst hei
        simp only [beq_self_eq_true, cond_true] at hc
        cases he with
        | @some _ d t ty g pos after z zs hj hz' =>
          rw [hio] at hj
          cases hj
          cases hd with
          | q h1 => cases h1
          | qp h1 => cases h1
          | skip h1 => cases h1
          | t _ h1 => cases h1
          | tq _ h1 => cases h1
          | claim h => exact absurd ⟨_, rfl, rfl, rfl, h⟩ hcl
          | a hok hz2 hn =>
            obtain rfl : _ = zs := hz2.cells.symm.trans ((congrArg cellsL (by
              obtain ⟨i1, e1, e2⟩ := Option.map_eq_some_iff.1 hz2.eq
              obtain ⟨i2, e3, e4⟩ := Option.map_eq_some_iff.1 hz'.eq
              rw [e1] at e3; cases e3; rw [e2] at e4; exact Option.some.inj e4)).trans hz'.cells)
            exact ih f (k + 1) r listed none l _ _ _ _ _ w hc hk1 hidx (hn g) hcp1 (hs.put _ hok) hD .none (hsat.cast (by cases c <;> simp only [hp, cond_true, cond_false] <;> ac_rfl)) hdown hS
      · have hb : (e == some i) = false := by simpa using hei
        rw [hb] at hc
        simp only [cond_false] at hc
        cases f with
        | zero => simp at hc
        | succ f =>
          rw [hio] at hc
          simp only [Bool.and_eq_true] at hc
          obtain ⟨hap, hc⟩ := hc
          cases hef : effB o.op with
          | false =>
            rw [hef] at hc
            simp only [cond_false, Bool.and_eq_true] at hc
            obtain ⟨⟨⟨h1, h2⟩, h3⟩, h4⟩ := hc
            have h2' : i ∈ Region.ready .any ops listed := by simpa using h2
            have hip : i ∉ post := fun h => by have := hpe i h; simp [effAt, hio, hef] at this
            have take : ∀ (T : World → Prop) v, (∀ listed w, Down ops listed → listed.getD i true = false → Held w0 ops R L post listed w → T w) → YieldsIf P ops T o v a →
                (∀ x : Act, x = a.put o.dst v → wpAnyL P ops (noPanic (lift n w0 Q)) (Held w0 ops R L post) f (listed.setIfInBounds i true) x w) → wpAnyL P ops (noPanic (lift n w0 Q)) (Held w0 ops R L post) (f + 1) listed a w := fun T v hT hy hn =>
              wpAnyL_first hio hsel hQ0 T hT (fun listed w h => h.set i) (fun listed j w hdn hiu hji hj h => by
                obtain ⟨F', h⟩ := h
                refine ⟨F', ?_⟩
                rw [Array.setIfInBounds_comm _ _ (Ne.symm hji), any_set hip] at h
                exact h) f listed a w hdown (fun j oj hoj hji hun hno => Region.free_spec hio h1 j oj hoj hji hun hno) h2' hy hS (hn _ rfl)
            have main : ∀ (T : World → Prop) v, (∀ listed w, Down ops listed → listed.getD i true = false → Held w0 ops R L post listed w → T w) → okDst n o.dst = true → YieldsIf P ops T o v a0 → DL P n w0 ops Q D R L B cp (k + 1) c l (E.putO o.dst v) F → wpAnyL P ops (noPanic (lift n w0 Q)) (Held w0 ops R L post) (f + 1) listed a w := by
              intro T v hT hok hy hd
              cases he with
              | none => exact take T v hT hy fun x hx => by rw [hx]; exact ih f (k + 1) r _ none l _ _ _ _ _ w h4 hk1 hidx hd hcp1 (hs.putO _ _ hok) (by cases o.dst <;> exact hD) .none hsat (hdown.set h2') (hS.set i)
              | @some j d t ty g pos after z zs hj hz' =>
                have hap' : (⟨some d, .alloc t, ty, pos, after, none⟩ : Oper).apart ops o = true := by
                  simpa [allocOf, hj, isAlloc] using hap
                obtain ⟨p1, p2, p3⟩ := Oper.apart_spec hap'
                have hy' : YieldsIf P ops T o v (a0.put (some d) (ptr g 0)) := hy.of_same (execOp_put o hso a0 (some d) _ p1) (wanted_put o a0 (some d) _ p1)
                refine take T v hT hy' fun x hx => ?_
                rw [hx, Act.put_comm a0 _ _ p2]
                exact ih f (k + 1) r _ (some j) l _ _ _ _ _ w h4 hk1 hidx hd hcp1 (hs.putO _ _ hok) (by cases o.dst <;> exact hD) (.some hj hz') hsat (hdown.set h2') (hS.set i)
            cases hd with
            | q _ hok hg hop hd =>
              obtain ⟨b, hg⟩ := hg
              exact main (fun w => ∃ F', Sat w0 w (R * F')) _ (fun _ _ _ _ h => h.read) hok (.inl ⟨by rw [wanted_of hs hg]; simp, fun w hw => by obtain ⟨F', hw⟩ := hw; exact hop F' a0 w hs hw⟩) hd
            | qp _ hok hB hg hop hd =>
              obtain ⟨b, hg⟩ := hg
              rw [hB] at h3
              simp only [Bool.not_true, Bool.false_or] at h3
              refine main (fun w => ∃ F', Sat w0 w (R * (L * F'))) _ (fun listed w hdn hiu h => ?_) hok (.inl ⟨by rw [wanted_of hs hg]; simp, fun w hw => by obtain ⟨F', hw⟩ := hw; exact hop F' a0 w hs hw⟩) hd
              obtain ⟨F', h⟩ := h
              have : post.any (fun j => listed.getD j false) = false := by
                rw [← Bool.not_eq_true, List.any_eq_true]
                rintro ⟨j, hj, hl⟩
                have hjd := List.all_eq_true.1 h3 j hj
                rw [des_unlisted hdn hiu j (by simpa using hjd)] at hl
                cases hl
              rw [this] at h
              exact ⟨F', h⟩
            | skip _ hok hg hd => exact main (fun _ => True) _ (fun _ _ _ _ _ => trivial) hok (.inr ⟨by rw [wanted_of hs hg]; simp, rfl⟩) hd
            | t h1 => rw [hef] at h1; cases h1
            | tq h1 => rw [hef] at h1; cases h1
            | a => cases hef
            | claim h => exact absurd ⟨_, rfl, rfl, rfl, h⟩ hcl
          | true =>
            rw [hef] at hc
            simp only [cond_true, Bool.and_eq_true] at hc
            obtain ⟨⟨h1, h2⟩, h3⟩ := hc
            have hir : i ∈ Region.ready .any ops listed := by simpa using h1
            have hne : Region.ready .any ops listed ≠ [] := by intro h0; rw [h0] at h1; cases h1
            refine ⟨fun h0 => absurd h0 hne, fun j hj => ?_⟩
            have h3j := List.all_eq_true.1 h3 j hj
            by_cases hji : j = i
            · subst hji
              -- behind it
              have step : ∀ (v : Value) (F' : HProp), okDst n o.dst = true → DL P n w0 ops Q D R L B cp (k + 1) c l (E.putO o.dst v) F' → ∀ (x : Act) (w' : World) (X : HProp), Early P n ops (a0.put o.dst v) (hp c R L F') e x X → Sat w0 w' X →
                  Held w0 ops R L post (listed.setIfInBounds j true) w' ∧ wpAnyL P ops (noPanic (lift n w0 Q)) (Held w0 ops R L post) f (listed.setIfInBounds j true) x w' := by
                intro v F' hok hd x w' X he' hsat'
                have hheld : Held w0 ops R L post (listed.setIfInBounds j true) w' := by
                  have hX : ∃ F2, Sat w0 w' (hp c R L F2) := by
                    cases he' with
                    | none => exact ⟨_, hsat'⟩
                    | @some _ _ t' _ g' _ _ _ zs' _ _ => exact ⟨cel g' t' zs' * F', hsat'.cast (by cases c <;> simp only [hp, cond_true, cond_false] <;> ac_rfl)⟩
                  obtain ⟨F2, hX⟩ := hX
                  cases hcc : c with
                  | false => rw [hcc] at hX; exact .whole hX
                  | true =>
                    rw [hcc] at hX
                    refine .past (List.any_eq_true.2 ⟨j, inpost hef hcc, ?_⟩) hX
                    have hlt : j < listed.size := by
                      have := (mem_ready.1 hir).1
                      rcases Nat.lt_or_ge j listed.size with h | h
                      · exact h
                      · simp [Array.getElem?_eq_none h] at this
                    simp [hlt]
                exact ⟨hheld, ih f (k + 1) r _ e l _ _ _ _ _ w' h2 hk1 hidx hd hcp1 (hs.putO _ _ hok) (by cases o.dst <;> exact hD) he' hsat' (hdown.set hir) hheld⟩
              unfold wpOp
              rw [hio]
              have want0 : ∀ c b, guardV ops E o = some (c, b) → Region.wanted o (yielded ops a.tmps) = (c == b) := by
                intro c b hg
                cases he with
                | none => exact wanted_of hs hg
                | @some j' d t ty g pos after z zs hj' hz' =>
                  have hap' : (⟨some d, .alloc t, ty, pos, after, none⟩ : Oper).apart ops o = true := by
                    simpa [allocOf, hj', isAlloc] using hap
                  obtain ⟨p1, p2, p3⟩ := Oper.apart_spec hap'
                  rw [wanted_put o a0 (some d) _ p1]; exact wanted_of hs hg
              cases hd with
              | q h1 => rw [hef] at h1; cases h1
              | qp h1 => rw [hef] at h1; cases h1
              | claim h => exact absurd ⟨_, rfl, rfl, rfl, h⟩ hcl
              | @skip _ _ _ _ _ _ b _ hok hg hd =>
                have hw := want0 _ _ hg
                simp only [hw]
                rw [if_neg (by simp)]
                cases he with
                | none => exact step _ _ hok hd _ _ _ .none hsat
                | @some j' d t ty g pos after z zs hj' hz' =>
                  have hap' : (⟨some d, .alloc t, ty, pos, after, none⟩ : Oper).apart ops o = true := by
                    simpa [allocOf, hj', isAlloc] using hap
                  obtain ⟨p1, p2, p3⟩ := Oper.apart_spec hap'
                  rw [Act.put_comm a0 _ _ p2]
                  exact step _ _ hok hd _ _ _ (.some hj' hz') hsat
              | @t _ _ _ _ _ _ F' α pre v post' _ _ hok hg hop hF hd =>
                obtain ⟨b, hg⟩ := hg
                have hw := want0 _ _ hg
                simp only [hw]
                rw [if_pos (by simp)]
                refine .inl ?_
                cases he with
                | none =>
                  refine hop (hp c R L F') a0 w _ _ hs (hsat.cast (by rw [hF]; cases c <;> simp only [hp, cond_true, cond_false] <;> ac_rfl)) fun x w' hs' => ?_
                  exact step _ _ hok (hd x) _ _ _ .none (hs'.cast (by cases c <;> simp only [hp, cond_true, cond_false] <;> ac_rfl))
                | @some j' d t ty g pos after z zs hj' hz' =>
                  have hap' : (⟨some d, .alloc t, ty, pos, after, none⟩ : Oper).apart ops o = true := by
                    simpa [allocOf, hj', isAlloc] using hap
                  refine wp_put hap' hso hQ0 ?_
                  refine hop (cel g t zs * hp c R L F') a0 w _ _ hs (hsat.cast (by rw [hF]; cases c <;> simp only [hp, cond_true, cond_false] <;> ac_rfl)) fun x w' hs' => ?_
                  exact step _ _ hok (hd x) _ _ _ (.some hj' hz') (hs'.cast (by cases c <;> simp only [hp, cond_true, cond_false] <;> ac_rfl))
              | @tq _ _ _ _ _ _ v _ _ hok hg hop hd =>
                obtain ⟨b, hg⟩ := hg
                have hw := want0 _ _ hg
                simp only [hw]
                rw [if_pos (by simp)]
                refine .inl ?_
                cases he with
                | none => exact hop F a0 w _ _ hs hsat fun w' hs' => step _ _ hok hd _ _ _ .none hs'
                | @some j' d t ty g pos after z zs hj' hz' =>
                  have hap' : (⟨some d, .alloc t, ty, pos, after, none⟩ : Oper).apart ops o = true := by
                    simpa [allocOf, hj', isAlloc] using hap
                  refine wp_put hap' hso hQ0 ?_
                  refine hop (cel g t zs * F) a0 w _ _ hs (hsat.cast (by cases c <;> simp only [hp, cond_true, cond_false] <;> ac_rfl)) fun w' hs' => ?_
                  exact step _ _ hok hd _ _ _ (.some hj' hz') (hs'.cast (by cases c <;> simp only [hp, cond_true, cond_false] <;> ac_rfl))
              | @a _ _ d t ty pos after _ _ _ z zs hok hz2 hn =>
                simp only
                rw [if_pos (by rfl)]
                refine .inl ?_
                unfold Oper.wp
                rw [execOp_alloc a.eval w hz2, Oper.upon_value]
                cases he with
                | none =>
                  exact step _ _ hok (hn _) _ _ _ .none ((hsat.new t zs.toArray).cast (by show cel _ _ _ * _ = _; cases c <;> simp only [hp, cond_true, cond_false] <;> ac_rfl))
                | @some j' d' t' ty' g' pos' after' z' zs' hj' hz' =>
                  have hap' : (⟨some d', .alloc t', ty', pos', after', none⟩ : Oper).apart ops (⟨some d, .alloc t, ty, pos, after, none⟩ : Oper) = true := by
                    simpa [allocOf, hj', isAlloc] using hap
                  obtain ⟨p1, p2, p3⟩ := Oper.apart_spec hap'
                  have := step (ptr w.heap.size 0) _ hok (hn w.heap.size) _ _ _ (.some (g := g') hj' hz') ((hsat.new t zs.toArray).cast (by show cel _ _ _ * _ = cel g' t' zs' * _; cases c <;> simp only [hp, cond_true, cond_false] <;> ac_rfl))
                  rw [Act.put_comm a0 _ _ p2]
                  exact this
            · -- an allocation comes up early
              simp only [Bool.or_eq_true, beq_iff_eq, hji, false_or, Bool.and_eq_true] at h3j
              obtain ⟨⟨e1, e2⟩, e3⟩ := h3j
              obtain ⟨oj, e2⟩ := Option.isSome_iff_exists.1 e2
              obtain ⟨d, t, ty, pos, after, rfl, hj'⟩ := allocOf_some e2
              obtain ⟨z, zs, hz'⟩ := hz j d t ty pos after none hj'
              cases he with
              | some _ _ => cases e1
              | none =>
                unfold wpOp
                rw [hj']
                simp only
                rw [if_pos (by rfl)]
                refine .inl ?_
                unfold Oper.wp
                rw [execOp_alloc _ w hz', Oper.upon_value]
                have hn := hsat.new t zs.toArray
                have hh : Held w0 ops R L post (listed.setIfInBounds j true) (w.alloc (.cells zs.toArray t)) := by
                  refine Held.set ?_ j
                  obtain ⟨F', h⟩ := hS
                  refine ⟨blk w.heap.size t zs.toArray * F', ?_⟩
                  have := h.new t zs.toArray
                  cases hb : post.any (fun j => listed.getD j false) with
                  | true => rw [hb] at this; exact this.cast (by simp only [cond_true]; ac_rfl)
                  | false => rw [hb] at this; exact this.cast (by simp only [cond_false]; ac_rfl)
                exact ⟨hh, ih f k (i :: r) _ (some j) (o :: l) E F a0 _ _ _ e3 hk (by simp [hio, hidx]) hd hcp hs hD (.some hj' hz') hn (hdown.set hj) hh⟩
end sound
theorem down_start (m : Nat) : Down ops (Array.replicate m false) := by
  intro j o hj hl
  exfalso
  by_cases h : j < m <;> simp [h] at hl
theorem wpOpIn_of {ro : Option Nat} {Q : Exit → Act → World → Prop} {i : Nat} {K K' : Act → World → Prop} {a : Act} {w : World} (hnd : ∀ (j : Nat) (o : Oper), ops[j]? = some o → ∀ c, o.op ≠ Op.defer c) (hQ : ¬ LetsOut Q) (hK : ∀ a w, K a w → K' a w) (h : wpOp P ops Q i K a w) : wpOpIn (fen ro) 0 P ops Q i K' a w := by
  unfold wpOp at h
  unfold Go.wpOpIn
  cases ho : ops[i]? with
  | none => rw [ho] at h; exact hK _ _ h
  | some o =>
    rw [ho] at h
    simp only at h ⊢
    by_cases hw : Region.wanted o (yielded ops a.tmps) = true
    · rw [if_pos hw] at h ⊢
      rcases h with h | h
      · exact wpIn_of_wp (.inr (hnd i o ho)) (Oper.wp_mono hK h)
      · exact absurd h.2 hQ
    · rw [if_neg hw] at h ⊢
      exact ⟨fun _ _ => trivial, hK _ _ h⟩
theorem wpAnyIn_of {ro : Option Nat} {md : Region.Mode} {Q : Exit → Act → World → Prop} (hnd : ∀ (j : Nat) (o : Oper), ops[j]? = some o → ∀ c, o.op ≠ Op.defer c) (hQ : ¬ LetsOut Q) : ∀ (f : Nat) (listed : Array Bool) (a : Act) (w : World), wpAny P md ops Q f listed a w → wpAnyIn (fen ro) 0 P md ops Q f listed a w
  | 0, _, _, _, h => h
  | f + 1, _, _, _, h => ⟨h.1, fun i hi => wpOpIn_of hnd hQ (fun a w h => wpAnyIn_of hnd hQ f _ a w h) (h.2 i hi)⟩
/-- What is asked of a region's text alone. -/
def isDefer : Op → Bool
  | .defer _ => true
  | _ => false
def statD (P : Program) (l : List Oper) (idx : List Nat) (B : Nat → Bool) (cp : Nat) : Bool :=
  (l.all fun o => !isDefer o.op) && P.follows .mixedOrders && l.all (zeroOp P) && Region.noSelect l.toArray && certD l.toArray B ((idx.drop cp).filter (effAt l.toArray)) (4 * l.length + 4) l.length 0 idx (Array.replicate l.length false) none
/-- A region that draws its order, in one order idx. R is only read; L is read at the places B, and claimed at place cp. -/
theorem WS_draw {id : Nat} (idx : List Nat) (l' : List Oper) (R L F : HProp) (B : Nat → Bool) (cp : Nat) (hs : statD P l idx B cp = true) (hH : H = R * (L * F)) (hl : idx.map (l[·]?) = l'.map some) (h : DL P n w0 l.toArray Q D R L B cp 0 false l' E F) : WS P n w0 (.region id l.toArray true) Q ⟨E, D, H⟩ := fun a w g => by
  simp only [statD, Bool.and_eq_true] at hs
  obtain ⟨⟨⟨⟨hnd, hm⟩, hz⟩, hsel⟩, hc⟩ := hs
  have hd : Sat w0 w.drew (R * (L * F)) := (g.sat.cast hH).drew
  have h1 := DL_sound (n := n) (w0 := w0) (Q := Q) (D := D) (R := R) (L := L) (B := B) (cp := cp) (zerosB_of hz) hsel rfl false (fun _ => DL_sound (zerosB_of hz) hsel rfl true (fun h => by cases h)) _ _ 0 idx _ none l' E F a a _ w.drew hc (by simp) (by rw [← hl]; simp) h (fun h => by cases h) g.sees g.defers .none hd (down_start _) (.whole hd)
  have h2 := wpAny_of_L _ _ _ _ h1
  have hnd' : ∀ (j : Nat) (o : Oper), l.toArray[j]? = some o → ∀ c, o.op ≠ Op.defer c := fun j o hj c hc => by
    have := List.all_eq_true.1 hnd o (List.mem_of_getElem? (by simpa using hj))
    rw [hc] at this; cases this
  have hout : ¬ LetsOut (noPanic (lift n w0 Q)) := fun ⟨_, _, h⟩ => h
  have h3 := wpIn_region_any (id := id) (F := fen n.round) (n := 0) hm (by rw [List.size_toArray]; exact wpAnyIn_of hnd' hout _ _ _ _ h2)
  exact Code.wpIn_mono (fun e a w h => by cases e <;> first | exact h | exact (h : False).elim) h3
theorem range_map (l : List Oper) : (List.range l.length).map (l[·]?) = l.map some := by
  apply List.ext_getElem?
  intro i
  simp only [List.getElem?_map]
  by_cases hi : i < l.length
  · simp [hi]
  · simp [List.getElem?_eq_none (by simpa using hi : (List.range l.length).length ≤ i), List.getElem?_eq_none (by simpa using hi : l.length ≤ i)]
/-- The same in the text's own order. -/
theorem WS_drawT {id : Nat} (R L F : HProp) (B : Nat → Bool) (cp : Nat) (hs : statD P l (List.range l.length) B cp = true) (hH : H = R * (L * F)) (h : DL P n w0 l.toArray Q D R L B cp 0 false l E F) : WS P n w0 (.region id l.toArray true) Q ⟨E, D, H⟩ :=
  WS_draw _ l R L F B cp hs hH (range_map l) h
/-- The place of the first operation that may change memory. -/
def cpOf : List Oper → Nat
  | [] => 0
  | o :: r => bif effB o.op then 0 else cpOf r + 1
theorem star_emp : F * emp = F := by rw [star_comm, emp_star]
/-- The commonest case: all that reads stands ahead of all that writes. -/
theorem WS_drawS {id : Nat} (hs : statD P l (List.range l.length) (fun k => Nat.blt k (cpOf l)) (cpOf l) = true) (h : DL P n w0 l.toArray Q D emp H (fun k => Nat.blt k (cpOf l)) (cpOf l) 0 false l E emp) : WS P n w0 (.region id l.toArray true) Q ⟨E, D, H⟩ :=
  WS_drawT emp H emp _ _ hs (by rw [star_emp, emp_star]) h
theorem DL_claim {L R : HProp} {B : Nat → Bool} {k cp : Nat} {F' : HProp} (hk : k = cp) (hF : F' = L * F) (h : DL P n w0 ops Q D R L B cp k true l E F') : DL P n w0 ops Q D R L B cp k false l E F := by
  subst hk; subst hF; exact .claim h
theorem DL_claimS {R L : HProp} {B : Nat → Bool} {k cp : Nat} (hk : Nat.beq k cp = true) (h : DL P n w0 ops Q D R L B cp k true l E L) : DL P n w0 ops Q D R L B cp k false l E emp := DL_claim (Nat.eq_of_beq_eq_true hk) star_emp.symm h
theorem DL_nilS {B : Nat → Bool} {k cp : Nat} {L : HProp} (h : Q .normal ⟨E, D, F⟩) : DL P n w0 ops Q D emp L B cp k true [] E F := .nil (by simp only [hp, cond_true]; rw [emp_star]) h
theorem DL_nilN {B : Nat → Bool} {k cp : Nat} {L : HProp} (h : Q .normal ⟨E, D, L⟩) : DL P n w0 ops Q D emp L B cp k false [] E emp := .nil (by simp only [hp, cond_false]; rw [emp_star, star_emp]) h
end Go.Proofs.Ytapoehkdnglahaa
