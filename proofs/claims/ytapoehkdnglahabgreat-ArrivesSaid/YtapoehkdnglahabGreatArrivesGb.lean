/- A part of what Arrives needs. -/
import Derived.Test.YtapoehkdnglahabGreatArrivesGa
set_option linter.unusedVariables false
set_option linter.unusedSimpArgs false
set_option linter.unusedSectionVars false
namespace Go.Proofs.YtapoehkdnglahabGreat
section
open Go.RowKit
variable {P : Program} {n : Frm} {w0 : World} {E : Env} {D : List Deferred} {H F R : HProp} {ops : Array Oper} {l : List Oper} {Q : Exit → St → Prop} {w : World}

def effB : Op → Bool
 | .convert s t _ => Nat.beq t 9 || Nat.beq s 9
 | .move _ | .assign _ | .pick .. | .nilCheck _ | .binOp .. | .unOp .. | .fieldAddr .. | .field .. | .indexAddr .. | .index .. | .extract .. | .slice .. | .build .. | .load .. | .lookup .. | .makeFunc .. => false
 | .call { callee := .builtin .len, .. } | .call { callee := .builtin .cap, .. } | .call { callee := .builtin .min, .. } | .call { callee := .builtin .max, .. } => false
 | _ => true
def isAlloc : Op → Bool
 | .alloc _ => true
 | _ => false
def OpTQ (P : Program) (n : Frm) (w0 : World) (o : Oper) (E : Env) (H : HProp) (v : Value) : Prop :=
 ∀ a w (K : Act → World → Prop) (Q : Exit → Act → World → Prop), Sees n E a → Sat w0 w H → (∀ w', Sat w0 w' H → K (a.put o.dst v) w') → o.wp P a w K Q
@[reducible] def hp (c : Bool) (R L F : HProp) : HProp := bif c then R * F else R * (L * F)
inductive DL (P : Program) (n : Frm) (w0 : World) (ops : Array Oper) (Q : Exit → St → Prop) (D : List Deferred) (R L : HProp) (B : Nat → Bool) (cp : Nat) : Nat → Bool → List Oper → Env → HProp → Prop
 | nil {k : Nat} {c : Bool} {E : Env} {F H : HProp} : H = hp c R L F → Q .normal ⟨E, D, H⟩ → DL P n w0 ops Q D R L B cp k c [] E F
 | q {k : Nat} {c : Bool} {o : Oper} {l : List Oper} {E : Env} {F : HProp} {v : Value} : effB o.op = false → okDst n o.dst = true → (∃ b, guardV ops E o = some (b, b)) → (∀ F', OpQ P n w0 o E (R * F') v) → DL P n w0 ops Q D R L B cp (k + 1) c l (E.putO o.dst v) F → DL P n w0 ops Q D R L B cp k c (o :: l) E F
 | qp {k : Nat} {o : Oper} {l : List Oper} {E : Env} {F : HProp} {v : Value} : effB o.op = false → okDst n o.dst = true → B k = true → (∃ b, guardV ops E o = some (b, b)) → (∀ F', OpQ P n w0 o E (R * (L * F')) v) → DL P n w0 ops Q D R L B cp (k + 1) false l (E.putO o.dst v) F → DL P n w0 ops Q D R L B cp k false (o :: l) E F
 | qs {k : Nat} {c : Bool} {o : Oper} {l : List Oper} {E : Env} {F : HProp} {v : Value} : effB o.op = false → okDst n o.dst = true → B (k + 1000) = true → (∃ b, guardV ops E o = some (b, b)) → OpQ P n w0 o E (hp c R L F) v → DL P n w0 ops Q D R L B cp (k + 1) c l (E.putO o.dst v) F → DL P n w0 ops Q D R L B cp k c (o :: l) E F
 | skip {k : Nat} {c : Bool} {o : Oper} {l : List Oper} {E : Env} {F : HProp} {b : Bool} : isAlloc o.op = false → okDst n o.dst = true → guardV ops E o = some (b, !b) → DL P n w0 ops Q D R L B cp (k + 1) c l (E.putO o.dst undef) F → DL P n w0 ops Q D R L B cp k c (o :: l) E F
 | t {k : Nat} {c : Bool} {o : Oper} {l : List Oper} {E : Env} {F F' : HProp} {α : Type} {pre : HProp} {v : α → Value} {post : α → HProp} : effB o.op = true → isAlloc o.op = false → okDst n o.dst = true → (∃ b, guardV ops E o = some (b, b)) → OpT P n w0 o E pre v post → F = pre * F' →
   (∀ x, DL P n w0 ops Q D R L B cp (k + 1) c l (E.putO o.dst (v x)) (post x * F')) → DL P n w0 ops Q D R L B cp k c (o :: l) E F
 | tq {k : Nat} {c : Bool} {o : Oper} {l : List Oper} {E : Env} {F : HProp} {v : Value} : effB o.op = true → isAlloc o.op = false → okDst n o.dst = true → (∃ b, guardV ops E o = some (b, b)) → (∀ F', OpTQ P n w0 o E (hp c R L F') v) →
   DL P n w0 ops Q D R L B cp (k + 1) c l (E.putO o.dst v) F → DL P n w0 ops Q D R L B cp k c (o :: l) E F
 | a {k : Nat} {c : Bool} {d : Nat} {t ty : TypeId} {pos : String} {after : Array Edge} {l : List Oper} {E : Env} {F : HProp} {z : Value} {zs : List Value} : okDst n (some d) = true → Zero P t z zs →
   (∀ g, DL P n w0 ops Q D R L B cp (k + 1) c l ((d, ptr g 0) :: E) (cel g t zs * F)) → DL P n w0 ops Q D R L B cp k c (⟨some d, .alloc t, ty, pos, after, none⟩ :: l) E F
 | claim {l : List Oper} {E : Env} {F : HProp} : DL P n w0 ops Q D R L B cp cp true l E (L * F) → DL P n w0 ops Q D R L B cp cp false l E F

def allocOf (ops : Array Oper) (j : Nat) : Option Oper :=
 match ops[j]? with
 | some o => bif isAlloc o.op && o.guard.isNone && o.dst.isSome then some o else none
 | none => none
def desF (ops : Array Oper) (i : Nat) : Nat → List Nat
 | 0 => []
 | k + 1 => let r := desF ops i k
  bif k == i || (match ops[k]? with
   | some o => o.after.any fun e => Region.binds .any e && Nat.blt e.on k && r.contains e.on
   | none => false) then k :: r else r
def effAt (ops : Array Oper) (j : Nat) : Bool := match ops[j]? with
 | some o => effB o.op
 | none => false
def certD (ops : Array Oper) (B : Nat → Bool) (post : List Nat) : Nat → Nat → Nat → List Nat → Array Bool → Option Nat → Bool
 | 0, _, _, _, _, _ => false
 | m + 1, f, k, [], listed, e => e.isNone && (Region.ready .any ops listed).isEmpty
 | m + 1, f, k, i :: r, listed, e =>
  bif e == some i then certD ops B post m f (k + 1) r listed none
  else match f, ops[i]? with
   | f' + 1, some o =>
    (match e with
     | none => true
     | some j => match allocOf ops j with
      | some oj => oj.apart ops o
      | none => false) &&
    (bif effB o.op then
     (Region.ready .any ops listed).contains i && certD ops B post m f' (k + 1) r (listed.setIfInBounds i true) e &&
     (Region.ready .any ops listed).all fun j => j == i || (e.isNone && (allocOf ops j).isSome && certD ops B post m f' k (i :: r) (listed.setIfInBounds j true) (some j))
    else Region.free .any ops listed i && (Region.ready .any ops listed).contains i && (!B k || post.all fun j => (desF ops i ops.size).contains j) && (!B (k + 1000) || (e.isNone && (Region.ready .any ops listed).all fun j => j == i)) && certD ops B post m f' (k + 1) r (listed.setIfInBounds i true) e)
   | _, _ => false

def Down (ops : Array Oper) (listed : Array Bool) : Prop := ∀ j o, ops[j]? = some o → listed.getD j false = true → ∀ e ∈ o.after, Region.binds .any e = true → listed.getD e.on false = true
theorem Down.set {listed : Array Bool} (h : Down ops listed) {i : Nat} (hi : i ∈ Region.ready .any ops listed) : Down ops (listed.setIfInBounds i true) := by
 intro j o hj hl e he hb
 by_cases hji : j = i
 ·subst hji
  obtain ⟨_, o', ho', hall⟩ := mem_ready.1 hi
  rw [hj] at ho'; cases ho'
  exact getD_set_true (hall e he hb)
 ·rw [getD_set_ne false (Ne.symm hji)] at hl
  exact getD_set_true (h j o hj hl e he hb)
theorem desF_spec (i : Nat) : ∀ (k j : Nat), j ∈ desF ops i k → j = i ∨ ∃ o, ops[j]? = some o ∧ ∃ e ∈ o.after, Region.binds .any e = true ∧ e.on < j ∧ e.on ∈ desF ops i k
 | 0, j, h => by cases h
 | k + 1, j, h => by
  unfold desF at h ⊢
  simp only at h ⊢
  cases hb : (k == i || (match ops[k]? with
   | some o => o.after.any fun e => Region.binds .any e && Nat.blt e.on k && (desF ops i k).contains e.on
   | none => false)) with
  | false =>
   rw [hb] at h
   simp only [cond_false] at h ⊢
   exact desF_spec i k j h
  | true =>
   rw [hb] at h
   simp only [cond_true] at h ⊢
   rcases List.mem_cons.1 h with rfl | h
   ·by_cases hji : j = i
    ·exact .inl hji
    ·right
     simp only [Bool.or_eq_true, beq_iff_eq, hji, false_or] at hb
     cases ho : ops[j]? with
     | none => rw [ho] at hb; cases hb
     | some o =>
      rw [ho] at hb
      obtain ⟨e, he, hh⟩ := Array.any_eq_true'.1 hb
      simp only [Bool.and_eq_true] at hh
      obtain ⟨⟨h1, h2⟩, h3⟩ := hh
      exact ⟨o, rfl, e, he, h1, by simpa using h2, List.mem_cons_of_mem _ (by simpa using h3)⟩
   ·rcases desF_spec i k j h with h | ⟨o, ho, e, he, h1, h2, h3⟩
    ·exact .inl h
    ·exact .inr ⟨o, ho, e, he, h1, h2, List.mem_cons_of_mem _ h3⟩
theorem des_unlisted {listed : Array Bool} (hd : Down ops listed) {i m : Nat} (hi : listed.getD i true = false) : ∀ j, j ∈ desF ops i m → listed.getD j false = false := by
 have hi' : listed.getD i false = false := by
  rcases Nat.lt_or_ge i listed.size with h' | h'
  ·simp [h'] at hi ⊢; exact hi
  ·simp [Array.getElem?_eq_none h'] at hi
 intro j
 induction j using Nat.strongRecOn with
 | _ j ih =>
  intro hj
  rcases desF_spec i m j hj with rfl | ⟨o, ho, e, he, h1, h2, h3⟩
  ·exact hi'
  ·cases hl : listed.getD j false with
   | false => rfl
   | true =>
    have := hd j o ho hl e he h1
    rw [ih e.on h2 h3] at this
    cases this
def wpAnyL (P : Program) (ops : Array Oper) (Q : Exit → Act → World → Prop) (S : Array Bool → World → Prop) : Nat → Array Bool → Act → World → Prop
 | 0, listed, a, w => Region.ready .any ops listed = [] ∧ Q .normal a w
 | f + 1, listed, a, w => (Region.ready .any ops listed = [] → Q .normal a w) ∧
  ∀ i ∈ Region.ready .any ops listed, wpOp P ops Q i (fun a' w' => S (listed.setIfInBounds i true) w' ∧ wpAnyL P ops Q S f (listed.setIfInBounds i true) a' w') a w
theorem wpAny_of_L {Q : Exit → Act → World → Prop} {S : Array Bool → World → Prop} : ∀ (f : Nat) (listed : Array Bool) (a : Act) (w : World), wpAnyL P ops Q S f listed a w → wpAny P .any ops Q f listed a w
 | 0, _, _, _, h => h
 | f + 1, _, _, _, h => ⟨h.1, fun i hi => wpOp_mono (fun a' w' h' => wpAny_of_L f _ a' w' h'.2) (h.2 i hi)⟩
theorem wpAnyL_first {Q : Exit → Act → World → Prop} {S : Array Bool → World → Prop} {i : Nat} {oi : Oper} {v : Value} (hi : ops[i]? = some oi) (hsel : Region.noSelect ops = true)
  (hQ : ∀ (c : List PanicEntry) (a : Act) (w : World), ¬ Q (.panic c) a w) (T : World → Prop)
  (hT : ∀ listed w, Down ops listed → listed.getD i true = false → S listed w → T w) (hi1 : ∀ listed w, S listed w → S (listed.setIfInBounds i true) w)
  (hsw : ∀ listed j w, Down ops listed → listed.getD i true = false → j ≠ i → j ∈ Region.ready .any ops listed → S ((listed.setIfInBounds i true).setIfInBounds j true) w → S (listed.setIfInBounds j true) w) :
  ∀ (f : Nat) (listed : Array Bool) (a : Act) (w : World), Down ops listed →
   (∀ j oj, ops[j]? = some oj → j ≠ i → listed.getD j true = false → (∀ e ∈ oj.after, Region.binds .any e = true → e.on ≠ i) → oi.apart ops oj = true) →
   i ∈ Region.ready .any ops listed → YieldsIf P ops T oi v a → S listed w → wpAnyL P ops Q S f (listed.setIfInBounds i true) (a.put oi.dst v) w → wpAnyL P ops Q S (f + 1) listed a w := by
 intro f
 induction f with
 | zero =>
  intro listed a w hd hfree hr hy hS h
  refine ⟨fun h0 => (by rw [h0] at hr; cases hr), fun j hj => ?_⟩
  by_cases hji : j = i
  ·subst hji
   exact hy.wpOp hi (hT listed w hd (mem_ready.1 hr).1 hS) ⟨hi1 _ _ hS, h⟩
  ·have := ready_mono hj hji
   rw [h.1] at this
   cases this
 | succ f ih =>
  intro listed a w hd hfree hr hy hS h
  refine ⟨fun h0 => (by rw [h0] at hr; cases hr), fun j hj => ?_⟩
  by_cases hji : j = i
  ·subst hji
   exact hy.wpOp hi (hT listed w hd (mem_ready.1 hr).1 hS) ⟨hi1 _ _ hS, h⟩
  ·have hiun := (mem_ready.1 hr).1
   have h1 := h.2 j (ready_mono hj hji)
   obtain ⟨hjun, oj, hoj, hall⟩ := mem_ready.1 hj
   have hnot : ∀ e ∈ oj.after, Region.binds .any e = true → e.on ≠ i := fun e he hb heq => by
    have h2 := hall e he hb
    rw [heq] at h2
    rcases Nat.lt_or_ge i listed.size with h' | h'
    ·simp [h'] at hiun h2; rw [hiun] at h2; cases h2
    ·simp [Array.getElem?_eq_none h'] at h2
   have h2 := wpOp_putIf hoj (hfree j oj hoj hji hjun hnot) (fun cs b => Region.noSelect_spec hsel i oi cs b hi) (fun cs b => Region.noSelect_spec hsel j oj cs b hoj) (fun c a w hq => absurd hq (hQ _ _ _)) hy h1
   refine wpOp_mono (fun a' w' h3 => ?_) h2
   have hS' := hsw listed j w' hd hiun hji hj h3.2.1
   refine ⟨hS', ih (listed.setIfInBounds j true) a' w' (hd.set hj) (fun k ok hk hki hun hno => hfree k ok hk hki ?_ hno) (ready_mono hr (Ne.symm hji)) h3.1 hS' ?_⟩
   ·by_cases hjk : j = k
    ·subst hjk; exact hjun
    ·rw [getD_set_ne true hjk] at hun; exact hun
   ·rw [Array.setIfInBounds_comm _ _ hji]
    exact h3.2.2
theorem wpAnyL_done {Q : Exit → Act → World → Prop} {S : Array Bool → World → Prop} {listed : Array Bool} {a : Act} {w : World} (hr : Region.ready .any ops listed = []) (h : Q .normal a w) : ∀ f, wpAnyL P ops Q S f listed a w
 | 0 => ⟨hr, h⟩
 | _ + 1 => ⟨fun _ => h, by rw [hr]; simp⟩
def Held (w0 : World) (ops : Array Oper) (R L : HProp) (post : List Nat) (listed : Array Bool) (w : World) : Prop :=
 ∃ F', Sat w0 w (bif post.any (fun j => listed.getD j false) then R * F' else R * (L * F'))
theorem Held.read {R L : HProp} {post : List Nat} {listed : Array Bool} {w : World} (h : Held w0 ops R L post listed w) : ∃ F', Sat w0 w (R * F') := by
 obtain ⟨F', h⟩ := h
 cases hb : post.any (fun j => listed.getD j false) with
 | true => rw [hb] at h; exact ⟨_, h⟩
 | false => rw [hb] at h; exact ⟨_, h⟩
theorem Held.whole {R L : HProp} {post : List Nat} {listed : Array Bool} {w : World} {F' : HProp} (h : Sat w0 w (R * (L * F'))) : Held w0 ops R L post listed w := by
 cases hb : post.any (fun j => listed.getD j false) with
 | true => exact ⟨L * F', by rw [hb]; exact h⟩
 | false => exact ⟨F', by rw [hb]; exact h⟩
theorem Held.past {R L : HProp} {post : List Nat} {listed : Array Bool} {w : World} {F' : HProp} (hb : post.any (fun j => listed.getD j false) = true) (h : Sat w0 w (R * F')) : Held w0 ops R L post listed w :=
 ⟨F', by rw [hb]; exact h⟩
theorem any_set {post : List Nat} {listed : Array Bool} {i : Nat} (hi : i ∉ post) : post.any (fun j => (listed.setIfInBounds i true).getD j false) = post.any (fun j => listed.getD j false) := by
 rw [Bool.eq_iff_iff, List.any_eq_true, List.any_eq_true]
 constructor
 ·rintro ⟨j, hj, h⟩; exact ⟨j, hj, by rw [getD_set_ne false (fun e => hi (by rw [e]; exact hj))] at h; exact h⟩
 ·rintro ⟨j, hj, h⟩; exact ⟨j, hj, getD_set_true h⟩
theorem Held.set {R L : HProp} {post : List Nat} {listed : Array Bool} {w : World} (h : Held w0 ops R L post listed w) (i : Nat) : Held w0 ops R L post (listed.setIfInBounds i true) w := by
 cases hb : post.any (fun j => listed.getD j false) with
 | true =>
  obtain ⟨F', h⟩ := h
  rw [hb] at h
  refine .past ?_ h
  obtain ⟨j, hj, h⟩ := List.any_eq_true.1 hb
  exact List.any_eq_true.2 ⟨j, hj, getD_set_true h⟩
 | false => obtain ⟨F', h⟩ := h; rw [hb] at h; exact .whole h

theorem wp_put {o oj : Oper} {v : Value} (hap : oj.apart ops o = true) (hs : ∀ cs b, o.op ≠ .select cs b) {Q : Exit → Act → World → Prop} (hQ : ∀ c a w, ¬ Q (.panic c) a w) {K : Act → World → Prop} {a : Act} {w : World}
  (h : o.wp P a w (fun x w => K (x.put oj.dst v) w) Q) : o.wp P (a.put oj.dst v) w K Q := by
 obtain ⟨h1, h2, h3⟩ := Oper.apart_spec hap
 unfold Oper.wp at *
 rw [execOp_put o hs a oj.dst v h1]
 generalize (execOp a.eval o).run P w = r at *
 cases r with
 | ok nx w' =>
  cases nx <;> simp only [Oper.upon] at h ⊢
  case value u => rw [Act.put_comm a v u h2]; exact h
  case skip => rw [Act.put_comm a v undef h2]; exact h
  case defer d => rw [Act.put_defers, Act.put_comm _ v undef h2]; exact h
  case enter f args =>
   refine Calls.mono h fun e w'' he => ?_
   cases e with
   | returned u => show K ((a.put oj.dst v).put o.dst u) w''; rw [Act.put_comm a v u h2]; exact he
   | panicked c => exact absurd he (hQ _ _ _)
   | outgrown => exact he
  case row row args => exact Rows.mono h fun u w'' he => by show K ((a.put oj.dst v).put o.dst u) w''; rw [Act.put_comm a v u h2]; exact he
 | halt x w' =>
  cases x <;> simp only [Oper.upon] at h ⊢
  case panic u => exact absurd h (hQ _ _ _)

def noPanic (Q : Exit → Act → World → Prop) : Exit → Act → World → Prop
 | .panic _, _, _ => False
 | .outgrown, _, _ => False
 | e, a, w => Q e a w

theorem run_alloc (w : World) {t : TypeId} {z : Value} {zs : List Value} (hz : Zero P t z zs) : (Instr.alloc t true (.tuple #[])).run P w = .ok (ptr w.heap.size 0) (w.alloc (.cells zs.toArray t)) := by
 obtain ⟨i, hi, hi2⟩ := Option.map_eq_some_iff.1 hz.eq
 have hc : z.cells = zs.toArray := by rw [cellsL_eq, hz.cells]
 simp [Instr.alloc, zeroValue, typeInfo, hi, hi2, newVar, newRow, hc]
theorem execOp_alloc (ρ : Operand → Value) {d : Option Tmp} {t ty : TypeId} {pos : String} {after : Array Edge} {gu : Option (Nat × Bool)} (w : World) {z : Value} {zs : List Value} (hz : Zero P t z zs) :
  (execOp ρ ⟨d, .alloc t, ty, pos, after, gu⟩).run P w = .ok (.value (ptr w.heap.size 0)) (w.alloc (.cells zs.toArray t)) := by
 simp [execOp, run_alloc w hz]

inductive Early (P : Program) (n : Frm) (ops : Array Oper) (a0 : Act) (H : HProp) : Option Nat → Act → HProp → Prop
 | none : Early P n ops a0 H none a0 H
 | some {j d : Nat} {t ty : TypeId} {g : Nat} {pos : String} {after : Array Edge} {z : Value} {zs : List Value} : ops[j]? = some ⟨some d, .alloc t, ty, pos, after, none⟩ → Zero P t z zs →
   Early P n ops a0 H (some j) (a0.put (some d) (ptr g 0)) (cel g t zs * H)
def zerosB (P : Program) (ops : Array Oper) : Prop := ∀ (j d t ty : Nat) (pos : String) (after : Array Edge) (gu : Option (Nat × Bool)), ops[j]? = some (⟨some d, .alloc t, ty, pos, after, gu⟩ : Oper) → ∃ z zs, Zero P t z zs
def zeroOp (P : Program) (o : Oper) : Bool := match o.op with
 | .alloc t => match P.info? t with
  | some i => i.zero.isSome
  | none => false
 | _ => true
theorem zerosB_of {l : List Oper} (h : l.all (zeroOp P) = true) : zerosB P l.toArray := by
 intro j d t ty pos after gu hj
 have hm := List.all_eq_true.1 h _ (List.mem_of_getElem? (by simpa using hj))
 simp only [zeroOp] at hm
 cases hi : P.info? t with
 | none => rw [hi] at hm; cases hm
 | some i =>
  rw [hi] at hm
  simp only at hm
  obtain ⟨z, hz⟩ := Option.isSome_iff_exists.1 hm
  exact ⟨z, _, by rw [hi]; simp [hz], rfl⟩
theorem allocOf_some {j : Nat} {o : Oper} (h : allocOf ops j = some o) : ∃ (d t ty : Nat) (pos : String) (after : Array Edge), o = (⟨some d, .alloc t, ty, pos, after, none⟩ : Oper) ∧ ops[j]? = some o := by
 unfold allocOf at h
 cases ho : ops[j]? with
 | none => rw [ho] at h; cases h
 | some o' =>
  rw [ho] at h
  simp only at h
  cases hb : (isAlloc o'.op && o'.guard.isNone && o'.dst.isSome) with
  | false => rw [hb] at h; cases h
  | true =>
   rw [hb] at h
   cases h
   obtain ⟨dst, op, ty, pos, after, guard⟩ := o
   simp only [Bool.and_eq_true] at hb
   obtain ⟨⟨h1, h2⟩, h3⟩ := hb
   cases op <;> try (cases h1; done)
   cases guard <;> try (cases h2; done)
   cases dst <;> try (cases h3; done)
   exact ⟨_, _, _, _, _, rfl, rfl⟩

section sound
variable {R L : HProp} {B : Nat → Bool} {cp : Nat} {post idx0 : List Nat}
def SoundAt (P : Program) (n : Frm) (w0 : World) (ops : Array Oper) (Q : Exit → St → Prop) (D : List Deferred) (R L : HProp) (B : Nat → Bool) (cp : Nat) (post idx0 : List Nat) (c : Bool) (m : Nat) : Prop :=
 ∀ (f k : Nat) (idx : List Nat) (listed : Array Bool) (e : Option Nat) (l : List Oper) (E : Env) (F : HProp) (a0 a : Act) (H : HProp) (w : World),
  certD ops B post m f k idx listed e = true → idx0.drop k = idx → idx.map (ops[·]?) = l.map some → DL P n w0 ops Q D R L B cp k c l E F → (c = true → cp ≤ k) → Sees n E a0 → a0.defers = D → Early P n ops a0 (hp c R L F) e a H → Sat w0 w H → Down ops listed → Held w0 ops R L post listed w →
  wpAnyL P ops (noPanic (lift n w0 Q)) (Held w0 ops R L post) f listed a w
theorem DL_sound (hz : zerosB P ops) (hsel : Region.noSelect ops = true) (hpost : post = (idx0.drop cp).filter (effAt ops)) (c : Bool) (hclaim : c = false → ∀ m, SoundAt P n w0 ops Q D R L B cp post idx0 true m) : ∀ m, SoundAt P n w0 ops Q D R L B cp post idx0 c m := by
 have hQ0 : ∀ (c : List PanicEntry) (a : Act) (w : World), ¬ noPanic (lift n w0 Q) (.panic c) a w := fun _ _ _ h => h
 have hpe : ∀ j, j ∈ post → effAt ops j = true := fun j hj => by rw [hpost] at hj; exact (List.mem_filter.1 hj).2
 intro m
 induction m with
 | zero => intro f k idx listed e l E F a0 a H w hc; cases hc
 | succ m ih =>
  intro f k idx listed e l E F a0 a H w hc hk hidx hd hcp hs hD he hsat hdown hS
  -- a claim
  by_cases hcl : ∃ F', c = false ∧ k = cp ∧ F' = L * F ∧ DL P n w0 ops Q D R L B cp cp true l E F'
  ·obtain ⟨F', rfl, rfl, rfl, hd'⟩ := hcl
   exact hclaim rfl (m + 1) f k idx listed e l E (L * F) a0 a H w hc hk hidx hd' (fun _ => Nat.le_refl _) hs hD he hsat hdown hS
  cases idx with
  | nil =>
   have hl : l = [] := by simpa using hidx.symm
   subst hl
   simp only [certD, Bool.and_eq_true] at hc
   obtain ⟨he1, hr⟩ := hc
   cases he with
   | some _ _ => cases he1
   | none =>
    cases hd with
    | nil hH h => exact wpAnyL_done (by simpa using hr) ⟨_, h, hs, hD, hsat.cast hH.symm⟩ f
    | claim h => exact absurd ⟨_, rfl, rfl, rfl, h⟩ hcl
  | cons i r =>
   obtain ⟨o, l, rfl, hio, hidx'⟩ : ∃ o l', l = o :: l' ∧ ops[i]? = some o ∧ r.map (ops[·]?) = l'.map some := by
    cases l with
    | nil => simp at hidx
    | cons o l' => simp only [List.map_cons, List.cons.injEq] at hidx; exact ⟨o, l', rfl, hidx.1, hidx.2⟩
   have hidxA := hidx
   clear hidx
   have hidx := hidx'
   have hk1 : idx0.drop (k + 1) = r := by rw [← List.drop_drop, hk]; rfl
   have hki : idx0[k]? = some i := by
    have := congrArg (·[0]?) hk
    simpa using this
   have hcp1 : c = true → cp ≤ k + 1 := fun h => Nat.le_succ_of_le (hcp h)
   have inpost : effB o.op = true → c = true → i ∈ post := fun h1 h2 => by
    rw [hpost]
    refine List.mem_filter.2 ⟨?_, by simp [effAt, hio, h1]⟩
    refine List.mem_of_getElem? (i := k - cp) ?_
    rw [List.getElem?_drop, show cp + (k - cp) = k by have := hcp h2; omega]
    exact hki
   have hso : ∀ cs b, o.op ≠ .select cs b := fun cs b => Region.noSelect_spec hsel i o cs b hio
   simp only [certD] at hc
   by_cases hei : e = some i
   · -- it has come up earl
    subst hei
    simp only [beq_self_eq_true, cond_true] at hc
    cases he with
    | @some _ d t ty g pos after z zs hj hz' =>
     rw [hio] at hj
     cases hj
     cases hd with
     | q h1 => cases h1
     | qp h1 => cases h1
     | qs h1 => cases h1
     | skip h1 => cases h1
     | t _ h1 => cases h1
     | tq _ h1 => cases h1
     | claim h => exact absurd ⟨_, rfl, rfl, rfl, h⟩ hcl
     | a hok hz2 hn =>
      obtain rfl : _ = zs := hz2.cells.symm.trans ((congrArg cellsL (by
       obtain ⟨i1, e1, e2⟩ := Option.map_eq_some_iff.1 hz2.eq
       obtain ⟨i2, e3, e4⟩ := Option.map_eq_some_iff.1 hz'.eq
       rw [e1] at e3; cases e3; rw [e2] at e4; exact Option.some.inj e4)).trans hz'.cells)
      exact ih f (k + 1) r listed none l _ _ _ _ _ w hc hk1 hidx (hn g) hcp1 (hs.put _ hok) hD .none (hsat.cast (by cases c <;> simp only [hp, cond_true, cond_false] <;> ac_rfl)) hdown hS
   ·have hb : (e == some i) = false := by simpa using hei
    rw [hb] at hc
    simp only [cond_false] at hc
    cases f with
    | zero => simp at hc
    | succ f =>
     rw [hio] at hc
     simp only [Bool.and_eq_true] at hc
     obtain ⟨hap, hc⟩ := hc
     cases hef : effB o.op with
     | false =>
      rw [hef] at hc
      simp only [cond_false, Bool.and_eq_true] at hc
      obtain ⟨⟨⟨⟨h1, h2⟩, h3⟩, h3s⟩, h4⟩ := hc
      have h2' : i ∈ Region.ready .any ops listed := by simpa using h2
      have hip : i ∉ post := fun h => by have := hpe i h; simp [effAt, hio, hef] at this
      have take : ∀ (T : World → Prop) v, (∀ listed w, Down ops listed → listed.getD i true = false → Held w0 ops R L post listed w → T w) → YieldsIf P ops T o v a →
        (∀ x : Act, x = a.put o.dst v → wpAnyL P ops (noPanic (lift n w0 Q)) (Held w0 ops R L post) f (listed.setIfInBounds i true) x w) → wpAnyL P ops (noPanic (lift n w0 Q)) (Held w0 ops R L post) (f + 1) listed a w := fun T v hT hy hn =>
       wpAnyL_first hio hsel hQ0 T hT (fun listed w h => h.set i) (fun listed j w hdn hiu hji hj h => by
        obtain ⟨F', h⟩ := h
        refine ⟨F', ?_⟩
        rw [Array.setIfInBounds_comm _ _ (Ne.symm hji), any_set hip] at h
        exact h) f listed a w hdown (fun j oj hoj hji hun hno => Region.free_spec hio h1 j oj hoj hji hun hno) h2' hy hS (hn _ rfl)
      have main : ∀ (T : World → Prop) v, (∀ listed w, Down ops listed → listed.getD i true = false → Held w0 ops R L post listed w → T w) → okDst n o.dst = true → YieldsIf P ops T o v a0 → DL P n w0 ops Q D R L B cp (k + 1) c l (E.putO o.dst v) F → wpAnyL P ops (noPanic (lift n w0 Q)) (Held w0 ops R L post) (f + 1) listed a w := by
       intro T v hT hok hy hd
       cases he with
       | none => exact take T v hT hy fun x hx => by rw [hx]; exact ih f (k + 1) r _ none l _ _ _ _ _ w h4 hk1 hidx hd hcp1 (hs.putO _ _ hok) (by cases o.dst <;> exact hD) .none hsat (hdown.set h2') (hS.set i)
       | @some j d t ty g pos after z zs hj hz' =>
        have hap' : (⟨some d, .alloc t, ty, pos, after, none⟩ : Oper).apart ops o = true := by
         simpa [allocOf, hj, isAlloc] using hap
        obtain ⟨p1, p2, p3⟩ := Oper.apart_spec hap'
        have hy' : YieldsIf P ops T o v (a0.put (some d) (ptr g 0)) := hy.of_same (execOp_put o hso a0 (some d) _ p1) (wanted_put o a0 (some d) _ p1)
        refine take T v hT hy' fun x hx => ?_
        rw [hx, Act.put_comm a0 _ _ p2]
        exact ih f (k + 1) r _ (some j) l _ _ _ _ _ w h4 hk1 hidx hd hcp1 (hs.putO _ _ hok) (by cases o.dst <;> exact hD) (.some hj hz') hsat (hdown.set h2') (hS.set i)
      cases hd with
      | q _ hok hg hop hd =>
       obtain ⟨b, hg⟩ := hg
       exact main (fun w => ∃ F', Sat w0 w (R * F')) _ (fun _ _ _ _ h => h.read) hok (.inl ⟨by rw [wanted_of hs hg]; simp, fun w hw => by obtain ⟨F', hw⟩ := hw; exact hop F' a0 w hs hw⟩) hd
      | qp _ hok hB hg hop hd =>
       obtain ⟨b, hg⟩ := hg
       rw [hB] at h3
       simp only [Bool.not_true, Bool.false_or] at h3
       refine main (fun w => ∃ F', Sat w0 w (R * (L * F'))) _ (fun listed w hdn hiu h => ?_) hok (.inl ⟨by rw [wanted_of hs hg]; simp, fun w hw => by obtain ⟨F', hw⟩ := hw; exact hop F' a0 w hs hw⟩) hd
       obtain ⟨F', h⟩ := h
       have : post.any (fun j => listed.getD j false) = false := by
        rw [← Bool.not_eq_true, List.any_eq_true]
        rintro ⟨j, hj, hl⟩
        have hjd := List.all_eq_true.1 h3 j hj
        rw [des_unlisted hdn hiu j (by simpa using hjd)] at hl
        cases hl
       rw [this] at h
       exact ⟨F', h⟩
      | qs _ hok hB hg hop hd =>
       obtain ⟨b, hg⟩ := hg
       rw [hB] at h3s
       simp only [Bool.not_true, Bool.false_or, Bool.and_eq_true, Option.isNone_iff_eq_none] at h3s
       obtain ⟨rfl, hall⟩ := h3s
       cases he with
       | none =>
        refine ⟨fun h0 => (by rw [h0] at h2'; cases h2'), fun j hj => ?_⟩
        obtain rfl : j = i := by simpa using List.all_eq_true.1 hall j hj
        have hy : YieldsIf P ops (fun w => Sat w0 w (hp c R L F)) o _ a0 := .inl ⟨by rw [wanted_of hs hg]; simp, fun w hw => hop a0 w hs hw⟩
        exact hy.wpOp hio hsat ⟨hS.set j, ih f (k + 1) r _ none l _ _ _ _ _ w h4 hk1 hidx hd hcp1 (hs.putO _ _ hok) (by cases o.dst <;> exact hD) .none hsat (hdown.set h2') (hS.set j)⟩
      | skip _ hok hg hd => exact main (fun _ => True) _ (fun _ _ _ _ _ => trivial) hok (.inr ⟨by rw [wanted_of hs hg]; simp, rfl⟩) hd
      | t h1 => rw [hef] at h1; cases h1
      | tq h1 => rw [hef] at h1; cases h1
      | a => cases hef
      | claim h => exact absurd ⟨_, rfl, rfl, rfl, h⟩ hcl
     | true =>
      rw [hef] at hc
      simp only [cond_true, Bool.and_eq_true] at hc
      obtain ⟨⟨h1, h2⟩, h3⟩ := hc
      have hir : i ∈ Region.ready .any ops listed := by simpa using h1
      have hne : Region.ready .any ops listed ≠ [] := by intro h0; rw [h0] at h1; cases h1
      refine ⟨fun h0 => absurd h0 hne, fun j hj => ?_⟩
      have h3j := List.all_eq_true.1 h3 j hj
      by_cases hji : j = i
      ·subst hji
       -- behind it
       have step : ∀ (v : Value) (F' : HProp), okDst n o.dst = true → DL P n w0 ops Q D R L B cp (k + 1) c l (E.putO o.dst v) F' → ∀ (x : Act) (w' : World) (X : HProp), Early P n ops (a0.put o.dst v) (hp c R L F') e x X → Sat w0 w' X →
         Held w0 ops R L post (listed.setIfInBounds j true) w' ∧ wpAnyL P ops (noPanic (lift n w0 Q)) (Held w0 ops R L post) f (listed.setIfInBounds j true) x w' := by
        intro v F' hok hd x w' X he' hsat'
        have hheld : Held w0 ops R L post (listed.setIfInBounds j true) w' := by
         have hX : ∃ F2, Sat w0 w' (hp c R L F2) := by
          cases he' with
          | none => exact ⟨_, hsat'⟩
          | @some _ _ t' _ g' _ _ _ zs' _ _ => exact ⟨cel g' t' zs' * F', hsat'.cast (by cases c <;> simp only [hp, cond_true, cond_false] <;> ac_rfl)⟩
         obtain ⟨F2, hX⟩ := hX
         cases hcc : c with
         | false => rw [hcc] at hX; exact .whole hX
         | true =>
          rw [hcc] at hX
          refine .past (List.any_eq_true.2 ⟨j, inpost hef hcc, ?_⟩) hX
          have hlt : j < listed.size := by
           have := (mem_ready.1 hir).1
           rcases Nat.lt_or_ge j listed.size with h | h
           ·exact h
           ·simp [Array.getElem?_eq_none h] at this
          simp [hlt]
        exact ⟨hheld, ih f (k + 1) r _ e l _ _ _ _ _ w' h2 hk1 hidx hd hcp1 (hs.putO _ _ hok) (by cases o.dst <;> exact hD) he' hsat' (hdown.set hir) hheld⟩
       unfold wpOp
       rw [hio]
       have want0 : ∀ c b, guardV ops E o = some (c, b) → Region.wanted o (yielded ops a.tmps) = (c == b) := by
        intro c b hg
        cases he with
        | none => exact wanted_of hs hg
        | @some j' d t ty g pos after z zs hj' hz' =>
         have hap' : (⟨some d, .alloc t, ty, pos, after, none⟩ : Oper).apart ops o = true := by
          simpa [allocOf, hj', isAlloc] using hap
         obtain ⟨p1, p2, p3⟩ := Oper.apart_spec hap'
         rw [wanted_put o a0 (some d) _ p1]; exact wanted_of hs hg
       cases hd with
       | q h1 => rw [hef] at h1; cases h1
       | qp h1 => rw [hef] at h1; cases h1
       | qs h1 => rw [hef] at h1; cases h1
       | claim h => exact absurd ⟨_, rfl, rfl, rfl, h⟩ hcl
       | @skip _ _ _ _ _ _ b _ hok hg hd =>
        have hw := want0 _ _ hg
        simp only [hw]
        rw [if_neg (by simp)]
        cases he with
        | none => exact step _ _ hok hd _ _ _ .none hsat
        | @some j' d t ty g pos after z zs hj' hz' =>
         have hap' : (⟨some d, .alloc t, ty, pos, after, none⟩ : Oper).apart ops o = true := by
          simpa [allocOf, hj', isAlloc] using hap
         obtain ⟨p1, p2, p3⟩ := Oper.apart_spec hap'
         rw [Act.put_comm a0 _ _ p2]
         exact step _ _ hok hd _ _ _ (.some hj' hz') hsat
       | @t _ _ _ _ _ _ F' α pre v post' _ _ hok hg hop hF hd =>
        obtain ⟨b, hg⟩ := hg
        have hw := want0 _ _ hg
        simp only [hw]
        rw [if_pos (by simp)]
        refine .inl ?_
        cases he with
        | none =>
         refine hop (hp c R L F') a0 w _ _ hs (hsat.cast (by rw [hF]; cases c <;> simp only [hp, cond_true, cond_false] <;> ac_rfl)) fun x w' hs' => ?_
         exact step _ _ hok (hd x) _ _ _ .none (hs'.cast (by cases c <;> simp only [hp, cond_true, cond_false] <;> ac_rfl))
        | @some j' d t ty g pos after z zs hj' hz' =>
         have hap' : (⟨some d, .alloc t, ty, pos, after, none⟩ : Oper).apart ops o = true := by
          simpa [allocOf, hj', isAlloc] using hap
         refine wp_put hap' hso hQ0 ?_
         refine hop (cel g t zs * hp c R L F') a0 w _ _ hs (hsat.cast (by rw [hF]; cases c <;> simp only [hp, cond_true, cond_false] <;> ac_rfl)) fun x w' hs' => ?_
         exact step _ _ hok (hd x) _ _ _ (.some hj' hz') (hs'.cast (by cases c <;> simp only [hp, cond_true, cond_false] <;> ac_rfl))
       | @tq _ _ _ _ _ _ v _ _ hok hg hop hd =>
        obtain ⟨b, hg⟩ := hg
        have hw := want0 _ _ hg
        simp only [hw]
        rw [if_pos (by simp)]
        refine .inl ?_
        cases he with
        | none => exact hop F a0 w _ _ hs hsat fun w' hs' => step _ _ hok hd _ _ _ .none hs'
        | @some j' d t ty g pos after z zs hj' hz' =>
         have hap' : (⟨some d, .alloc t, ty, pos, after, none⟩ : Oper).apart ops o = true := by
          simpa [allocOf, hj', isAlloc] using hap
         refine wp_put hap' hso hQ0 ?_
         refine hop (cel g t zs * F) a0 w _ _ hs (hsat.cast (by cases c <;> simp only [hp, cond_true, cond_false] <;> ac_rfl)) fun w' hs' => ?_
         exact step _ _ hok hd _ _ _ (.some hj' hz') (hs'.cast (by cases c <;> simp only [hp, cond_true, cond_false] <;> ac_rfl))
       | @a _ _ d t ty pos after _ _ _ z zs hok hz2 hn =>
        simp only
        rw [if_pos (by rfl)]
        refine .inl ?_
        unfold Oper.wp
        rw [execOp_alloc a.eval w hz2, Oper.upon_value]
        cases he with
        | none =>
         exact step _ _ hok (hn _) _ _ _ .none ((hsat.new t zs.toArray).cast (by show cel _ _ _ * _ = _; cases c <;> simp only [hp, cond_true, cond_false] <;> ac_rfl))
        | @some j' d' t' ty' g' pos' after' z' zs' hj' hz' =>
         have hap' : (⟨some d', .alloc t', ty', pos', after', none⟩ : Oper).apart ops (⟨some d, .alloc t, ty, pos, after, none⟩ : Oper) = true := by
          simpa [allocOf, hj', isAlloc] using hap
         obtain ⟨p1, p2, p3⟩ := Oper.apart_spec hap'
         have := step (ptr w.heap.size 0) _ hok (hn w.heap.size) _ _ _ (.some (g := g') hj' hz') ((hsat.new t zs.toArray).cast (by show cel _ _ _ * _ = cel g' t' zs' * _; cases c <;> simp only [hp, cond_true, cond_false] <;> ac_rfl))
         rw [Act.put_comm a0 _ _ p2]
         exact this
      · -- an allocation comes up earl
       simp only [Bool.or_eq_true, beq_iff_eq, hji, false_or, Bool.and_eq_true] at h3j
       obtain ⟨⟨e1, e2⟩, e3⟩ := h3j
       obtain ⟨oj, e2⟩ := Option.isSome_iff_exists.1 e2
       obtain ⟨d, t, ty, pos, after, rfl, hj'⟩ := allocOf_some e2
       obtain ⟨z, zs, hz'⟩ := hz j d t ty pos after none hj'
       cases he with
       | some _ _ => cases e1
       | none =>
        unfold wpOp
        rw [hj']
        simp only
        rw [if_pos (by rfl)]
        refine .inl ?_
        unfold Oper.wp
        rw [execOp_alloc _ w hz', Oper.upon_value]
        have hn := hsat.new t zs.toArray
        have hh : Held w0 ops R L post (listed.setIfInBounds j true) (w.alloc (.cells zs.toArray t)) := by
         refine Held.set ?_ j
         obtain ⟨F', h⟩ := hS
         refine ⟨blk w.heap.size t zs.toArray * F', ?_⟩
         have := h.new t zs.toArray
         cases hb : post.any (fun j => listed.getD j false) with
         | true => rw [hb] at this; exact this.cast (by simp only [cond_true]; ac_rfl)
         | false => rw [hb] at this; exact this.cast (by simp only [cond_false]; ac_rfl)
        exact ⟨hh, ih f k (i :: r) _ (some j) (o :: l) E F a0 _ _ _ e3 hk (by simp [hio, hidx]) hd hcp hs hD (.some hj' hz') hn (hdown.set hj) hh⟩
end sound
theorem down_start (m : Nat) : Down ops (Array.replicate m false) := by
 intro j o hj hl
 exfalso
 by_cases h : j < m <;> simp [h] at hl
theorem wpOpIn_of {ro : Option Nat} {Q : Exit → Act → World → Prop} {i : Nat} {K K' : Act → World → Prop} {a : Act} {w : World} (hnd : ∀ (j : Nat) (o : Oper), ops[j]? = some o → ∀ c, o.op ≠ Op.defer c) (hQ : ¬ LetsOut Q) (hK : ∀ a w, K a w → K' a w) (h : wpOp P ops Q i K a w) : wpOpIn (fen ro) 0 P ops Q i K' a w := by
 unfold wpOp at h
 unfold Go.wpOpIn
 cases ho : ops[i]? with
 | none => rw [ho] at h; exact hK _ _ h
 | some o =>
  rw [ho] at h
  simp only at h ⊢
  by_cases hw : Region.wanted o (yielded ops a.tmps) = true
  ·rw [if_pos hw] at h ⊢
   rcases h with h | h
   ·exact wpIn_of_wp (.inr (hnd i o ho)) (Oper.wp_mono hK h)
   ·exact absurd h.2 hQ
  ·rw [if_neg hw] at h ⊢
   exact ⟨fun _ _ => trivial, hK _ _ h⟩
theorem wpAnyIn_of {ro : Option Nat} {md : Region.Mode} {Q : Exit → Act → World → Prop} (hnd : ∀ (j : Nat) (o : Oper), ops[j]? = some o → ∀ c, o.op ≠ Op.defer c) (hQ : ¬ LetsOut Q) : ∀ (f : Nat) (listed : Array Bool) (a : Act) (w : World), wpAny P md ops Q f listed a w → wpAnyIn (fen ro) 0 P md ops Q f listed a w
 | 0, _, _, _, h => h
 | f + 1, _, _, _, h => ⟨h.1, fun i hi => wpOpIn_of hnd hQ (fun a w h => wpAnyIn_of hnd hQ f _ a w h) (h.2 i hi)⟩
def isDefer : Op → Bool
 | .defer _ => true
 | _ => false
def statD (P : Program) (l : List Oper) (idx : List Nat) (B : Nat → Bool) (cp : Nat) : Bool :=
 (l.all fun o => !isDefer o.op) && P.follows .mixedOrders && l.all (zeroOp P) && Region.noSelect l.toArray && certD l.toArray B ((idx.drop cp).filter (effAt l.toArray)) (4 * l.length + 4) l.length 0 idx (Array.replicate l.length false) none
theorem WS_draw {id : Nat} (idx : List Nat) (l' : List Oper) (R L F : HProp) (B : Nat → Bool) (cp : Nat) (hs : statD P l idx B cp = true) (hH : H = R * (L * F)) (hl : idx.map (l[·]?) = l'.map some) (h : DL P n w0 l.toArray Q D R L B cp 0 false l' E F) : WS P n w0 (.region id l.toArray true) Q ⟨E, D, H⟩ := fun a w g => by
 simp only [statD, Bool.and_eq_true] at hs
 obtain ⟨⟨⟨⟨hnd, hm⟩, hz⟩, hsel⟩, hc⟩ := hs
 have hd : Sat w0 w.drew (R * (L * F)) := (g.sat.cast hH).drew
 have h1 := DL_sound (n := n) (w0 := w0) (Q := Q) (D := D) (R := R) (L := L) (B := B) (cp := cp) (zerosB_of hz) hsel rfl false (fun _ => DL_sound (zerosB_of hz) hsel rfl true (fun h => by cases h)) _ _ 0 idx _ none l' E F a a _ w.drew hc (by simp) (by rw [← hl]; simp) h (fun h => by cases h) g.sees g.defers .none hd (down_start _) (.whole hd)
 have h2 := wpAny_of_L _ _ _ _ h1
 have hnd' : ∀ (j : Nat) (o : Oper), l.toArray[j]? = some o → ∀ c, o.op ≠ Op.defer c := fun j o hj c hc => by
  have := List.all_eq_true.1 hnd o (List.mem_of_getElem? (by simpa using hj))
  rw [hc] at this; cases this
 have hout : ¬ LetsOut (noPanic (lift n w0 Q)) := fun ⟨_, _, h⟩ => h
 have h3 := wpIn_region_any (id := id) (F := fen n.round) (n := 0) hm (by rw [List.size_toArray]; exact wpAnyIn_of hnd' hout _ _ _ _ h2)
 exact Code.wpIn_mono (fun e a w h => by cases e <;> first | exact h | exact (h : False).elim) h3
theorem range_map (l : List Oper) : (List.range l.length).map (l[·]?) = l.map some := by
 apply List.ext_getElem?
 intro i
 simp only [List.getElem?_map]
 by_cases hi : i < l.length
 ·simp [hi]
 ·simp [List.getElem?_eq_none (by simpa using hi : (List.range l.length).length ≤ i), List.getElem?_eq_none (by simpa using hi : l.length ≤ i)]
theorem WS_drawT {id : Nat} (R L F : HProp) (B : Nat → Bool) (cp : Nat) (hs : statD P l (List.range l.length) B cp = true) (hH : H = R * (L * F)) (h : DL P n w0 l.toArray Q D R L B cp 0 false l E F) : WS P n w0 (.region id l.toArray true) Q ⟨E, D, H⟩ :=
 WS_draw _ l R L F B cp hs hH (range_map l) h
def cpOf : List Oper → Nat
 | [] => 0
 | o :: r => bif effB o.op then 0 else cpOf r + 1
theorem star_emp : F * emp = F := by rw [star_comm, emp_star]
theorem WS_drawS {id : Nat} (hs : statD P l (List.range l.length) (fun k => Nat.blt k (cpOf l)) (cpOf l) = true) (h : DL P n w0 l.toArray Q D emp H (fun k => Nat.blt k (cpOf l)) (cpOf l) 0 false l E emp) : WS P n w0 (.region id l.toArray true) Q ⟨E, D, H⟩ :=
 WS_drawT emp H emp _ _ hs (by rw [star_emp, emp_star]) h
theorem DL_claim {L R : HProp} {B : Nat → Bool} {k cp : Nat} {F' : HProp} (hk : k = cp) (hF : F' = L * F) (h : DL P n w0 ops Q D R L B cp k true l E F') : DL P n w0 ops Q D R L B cp k false l E F := by
 subst hk; subst hF; exact .claim h
theorem DL_claimS {R L : HProp} {B : Nat → Bool} {k cp : Nat} (hk : Nat.beq k cp = true) (h : DL P n w0 ops Q D R L B cp k true l E L) : DL P n w0 ops Q D R L B cp k false l E emp := DL_claim (Nat.eq_of_beq_eq_true hk) star_emp.symm h
theorem DL_nilS {B : Nat → Bool} {k cp : Nat} {L : HProp} (h : Q .normal ⟨E, D, F⟩) : DL P n w0 ops Q D emp L B cp k true [] E F := .nil (by simp only [hp, cond_true]; rw [emp_star]) h
theorem DL_nilN {B : Nat → Bool} {k cp : Nat} {L : HProp} (h : Q .normal ⟨E, D, L⟩) : DL P n w0 ops Q D emp L B cp k false [] E emp := .nil (by simp only [hp, cond_false]; rw [emp_star, star_emp]) h
end

section
open Go.RowKit
variable {P : Program} {n : Frm} {w0 : World} {E : Env} {D : List Deferred} {H F R : HProp} {ops : Array Oper} {l : List Oper} {Q : Exit → St → Prop} {o : Oper}

def OpH (P : Program) (n : Frm) (w0 : World) (o : Oper) (E : Env) (H : HProp) {α : Type} (v : α → Value) (post : α → HProp) : Prop :=
 ∃ (pre : HProp) (post0 : α → HProp) (F : HProp), OpT P n w0 o E pre v post0 ∧ H = pre * F ∧ ∀ x, post x = post0 x * F
theorem OpH.mk' {α : Type} {pre : HProp} {v : α → Value} {post : α → HProp} (h : OpT P n w0 o E pre v post) (hH : H = pre * F) : OpH P n w0 o E H v (fun x => post x * F) := ⟨pre, post, F, h, hH, fun _ => rfl⟩
section front
variable {d : Nat} {op : Op} {ty : TypeId} {pos : String} {after : Array Edge} {L : HProp} {B : Nat → Bool} {k cp : Nat} {c : Bool} {α : Type} {v : α → Value} {post : α → HProp} {gu : Option (Nat × Bool)} {u : Value}
theorem LS_ho (h : OpH P n w0 o E H v post) (hd : okDst n o.dst = true) (hg : o.guard = none)
  (hn : ∀ x, LS P n w0 ops Q l ⟨E.putO o.dst (v x), D, post x⟩) : LS P n w0 ops Q (o :: l) ⟨E, D, H⟩ := by
 obtain ⟨pre, post0, F, hop, hH, hp⟩ := h
 exact LS_t hop hH hd hg fun x => by rw [← hp]; exact hn x
theorem LS_h (h : OpH P n w0 ⟨some d, op, ty, pos, after, none⟩ E H v post) (hd : Nat.blt d n.tmps = true) (hn : ∀ x, LS P n w0 ops Q l ⟨(d, v x) :: E, D, post x⟩) : LS P n w0 ops Q (⟨some d, op, ty, pos, after, none⟩ :: l) ⟨E, D, H⟩ := LS_ho h hd rfl hn
theorem LS_h0 (h : OpH P n w0 ⟨none, op, ty, pos, after, none⟩ E H v post) (hn : ∀ x, LS P n w0 ops Q l ⟨E, D, post x⟩) : LS P n w0 ops Q (⟨none, op, ty, pos, after, none⟩ :: l) ⟨E, D, H⟩ := LS_ho h rfl rfl hn
theorem DL_ho (h : OpH P n w0 o E F v post) (he : effB o.op = true) (ha : isAlloc o.op = false) (hd : okDst n o.dst = true) (hg : ∃ b, guardV ops E o = some (b, b))
  (hn : ∀ x, DL P n w0 ops Q D R L B cp (k + 1) c l (E.putO o.dst (v x)) (post x)) : DL P n w0 ops Q D R L B cp k c (o :: l) E F := by
 obtain ⟨pre, post0, F, hop, hH, hp⟩ := h
 exact .t he ha hd hg hop hH fun x => by rw [← hp]; exact hn x
theorem DL_h (h : OpH P n w0 ⟨some d, op, ty, pos, after, none⟩ E F v post) (he : effB op = true) (ha : isAlloc op = false) (hd : Nat.blt d n.tmps = true)
  (hn : ∀ x, DL P n w0 ops Q D R L B cp (k + 1) c l ((d, v x) :: E) (post x)) : DL P n w0 ops Q D R L B cp k c (⟨some d, op, ty, pos, after, none⟩ :: l) E F := DL_ho h he ha hd ⟨true, rfl⟩ hn
theorem DL_h0 (h : OpH P n w0 ⟨none, op, ty, pos, after, none⟩ E F v post) (he : effB op = true) (ha : isAlloc op = false)
  (hn : ∀ x, DL P n w0 ops Q D R L B cp (k + 1) c l E (post x)) : DL P n w0 ops Q D R L B cp k c (⟨none, op, ty, pos, after, none⟩ :: l) E F := DL_ho h he ha rfl ⟨true, rfl⟩ hn
theorem DL_q (he : effB op = false) (hd : Nat.blt d n.tmps = true) (hop : ∀ F', OpQ P n w0 ⟨some d, op, ty, pos, after, none⟩ E (R * F') u) (h : DL P n w0 ops Q D R L B cp (k + 1) c l ((d, u) :: E) F) : DL P n w0 ops Q D R L B cp k c (⟨some d, op, ty, pos, after, none⟩ :: l) E F := .q he hd ⟨true, rfl⟩ hop h
theorem DL_qp (he : effB op = false) (hd : Nat.blt d n.tmps = true) (hB : B k = true) (hop : ∀ F', OpQ P n w0 ⟨some d, op, ty, pos, after, none⟩ E (R * (L * F')) u) (h : DL P n w0 ops Q D R L B cp (k + 1) false l ((d, u) :: E) F) : DL P n w0 ops Q D R L B cp k false (⟨some d, op, ty, pos, after, none⟩ :: l) E F := .qp he hd hB ⟨true, rfl⟩ hop h
theorem DL_qg {j : Nat} {b : Bool} (hg : guardV ops E ⟨some d, op, ty, pos, after, some (j, b)⟩ = some (b, b)) (he : effB op = false) (hd : Nat.blt d n.tmps = true) (hop : ∀ F', OpQ P n w0 ⟨some d, op, ty, pos, after, some (j, b)⟩ E (R * F') u) (h : DL P n w0 ops Q D R L B cp (k + 1) c l ((d, u) :: E) F) : DL P n w0 ops Q D R L B cp k c (⟨some d, op, ty, pos, after, some (j, b)⟩ :: l) E F := .q he hd ⟨b, hg⟩ hop h
theorem DL_qpg {j : Nat} {b : Bool} (hg : guardV ops E ⟨some d, op, ty, pos, after, some (j, b)⟩ = some (b, b)) (he : effB op = false) (hd : Nat.blt d n.tmps = true) (hB : B k = true) (hop : ∀ F', OpQ P n w0 ⟨some d, op, ty, pos, after, some (j, b)⟩ E (R * (L * F')) u) (h : DL P n w0 ops Q D R L B cp (k + 1) false l ((d, u) :: E) F) : DL P n w0 ops Q D R L B cp k false (⟨some d, op, ty, pos, after, some (j, b)⟩ :: l) E F := .qp he hd hB ⟨b, hg⟩ hop h
theorem DL_hg {j : Nat} {b : Bool} (hg : guardV ops E ⟨some d, op, ty, pos, after, some (j, b)⟩ = some (b, b)) (h : OpH P n w0 ⟨some d, op, ty, pos, after, some (j, b)⟩ E F v post) (he : effB op = true) (ha : isAlloc op = false) (hd : Nat.blt d n.tmps = true)
  (hn : ∀ x, DL P n w0 ops Q D R L B cp (k + 1) c l ((d, v x) :: E) (post x)) : DL P n w0 ops Q D R L B cp k c (⟨some d, op, ty, pos, after, some (j, b)⟩ :: l) E F := DL_ho h he ha hd ⟨b, hg⟩ hn
theorem DL_skip {j : Nat} {b b' : Bool} (hg : guardV ops E ⟨some d, op, ty, pos, after, some (j, b)⟩ = some (b', b)) (hb : b' = !b) (ha : isAlloc op = false) (hd : Nat.blt d n.tmps = true) (h : DL P n w0 ops Q D R L B cp (k + 1) c l ((d, undef) :: E) F) : DL P n w0 ops Q D R L B cp k c (⟨some d, op, ty, pos, after, some (j, b)⟩ :: l) E F :=
 .skip (b := !b) ha hd (by rw [hg, hb]; simp) h
theorem DL_alloc {t : TypeId} {z : Value} {zs : List Value} (hz : Zero P t z zs) (hd : Nat.blt d n.tmps = true) (hn : ∀ g, DL P n w0 ops Q D R L B cp (k + 1) c l ((d, ptr g 0) :: E) (cel g t zs * F)) : DL P n w0 ops Q D R L B cp k c (⟨some d, .alloc t, ty, pos, after, none⟩ :: l) E F := .a hd hz hn
theorem LS_binS {Q : Exit → St → Prop} {ops : Array Oper} {l : List Oper} {d : Nat} {ty : TypeId} {pos : String} {after : Array Edge} {op : BinOp} {t t2 : TypeId} {x y : Operand} {v u : Value} {q : Prop} {inst : Decidable q} (hx : E.ev x = some v) (hy : E.ev y = some u) (h : BinV P op t v u (.bool (decide q))) (hd : Nat.blt d n.tmps = true)
  (h1 : q → LS P n w0 ops Q l ⟨(d, .bool true) :: E, D, H⟩) (h2 : ¬ q → LS P n w0 ops Q l ⟨(d, .bool false) :: E, D, H⟩) : LS P n w0 ops Q (⟨some d, .binOp op t x y t2, ty, pos, after, none⟩ :: l) ⟨E, D, H⟩ := by
 by_cases hq : q
 ·exact LS_q (Q_bin_t hx hy h hq) hd (h1 hq)
 ·exact LS_q (Q_bin_f hx hy h hq) hd (h2 hq)
theorem LS_binN {Q : Exit → St → Prop} {ops : Array Oper} {l : List Oper} {d : Nat} {ty : TypeId} {pos : String} {after : Array Edge} {op : BinOp} {t t2 : TypeId} {x y : Operand} {v u : Value} {q : Prop} {inst : Decidable q} (hx : E.ev x = some v) (hy : E.ev y = some u) (h : BinV P op t v u (.bool (!decide q))) (hd : Nat.blt d n.tmps = true)
  (h1 : q → LS P n w0 ops Q l ⟨(d, .bool false) :: E, D, H⟩) (h2 : ¬ q → LS P n w0 ops Q l ⟨(d, .bool true) :: E, D, H⟩) : LS P n w0 ops Q (⟨some d, .binOp op t x y t2, ty, pos, after, none⟩ :: l) ⟨E, D, H⟩ := by
 by_cases hq : q
 ·exact LS_q (Q_bin_nf hx hy h hq) hd (h1 hq)
 ·exact LS_q (Q_bin_nt hx hy h hq) hd (h2 hq)
theorem DL_binS {Q : Exit → St → Prop} {ops : Array Oper} {R L : HProp} {B : Nat → Bool} {cp k : Nat} {c : Bool} {l : List Oper} {d : Nat} {ty : TypeId} {pos : String} {after : Array Edge} {op : BinOp} {t t2 : TypeId} {x y : Operand} {v u : Value} {b : Bool} (hx : E.ev x = some v) (hy : E.ev y = some u) (h : BinV P op t v u (.bool b)) (hd : Nat.blt d n.tmps = true)
  (h1 : b = true → DL P n w0 ops Q D R L B cp (k + 1) c l ((d, .bool true) :: E) F) (h2 : b = false → DL P n w0 ops Q D R L B cp (k + 1) c l ((d, .bool false) :: E) F) : DL P n w0 ops Q D R L B cp k c (⟨some d, .binOp op t x y t2, ty, pos, after, none⟩ :: l) E F := by
 cases b
 ·exact .q rfl hd ⟨true, rfl⟩ (fun F' => Q_bin hx hy h) (h2 rfl)
 ·exact .q rfl hd ⟨true, rfl⟩ (fun F' => Q_bin hx hy h) (h1 rfl)
theorem DL_tq (he : effB op = true) (ha : isAlloc op = false) (hd : Nat.blt d n.tmps = true) (hop : ∀ F', OpTQ P n w0 ⟨some d, op, ty, pos, after, none⟩ E (hp c R L F') u) (h : DL P n w0 ops Q D R L B cp (k + 1) c l ((d, u) :: E) F) : DL P n w0 ops Q D R L B cp k c (⟨some d, op, ty, pos, after, none⟩ :: l) E F := .tq he ha hd ⟨true, rfl⟩ hop h
end front

section ops
variable {d : Option Tmp} {ty : TypeId} {pos : String} {after : Array Edge} {gu : Option (Nat × Bool)} {x y : Operand} {v u : Value}
theorem T_new {f : Nat → Value} {t : TypeId} {cs : List Value} (h : ∀ a w, Sees n E a → (execOp a.eval o).run P w = .ok (.value (f w.heap.size)) (w.alloc (.cells cs.toArray t))) : OpT P n w0 o E emp f (fun g => cel g t cs) := fun G a w K Q s hs hK => by
 unfold Oper.wp
 rw [h a w s]
 rw [emp_star] at hs
 exact hK _ _ (hs.new t cs.toArray)
theorem H_new {f : Nat → Value} {t : TypeId} {cs : List Value} (h : ∀ a w, Sees n E a → (execOp a.eval o).run P w = .ok (.value (f w.heap.size)) (w.alloc (.cells cs.toArray t))) : OpH P n w0 o E H f (fun g => cel g t cs * H) := OpH.mk' (T_new h) emp_star.symm
theorem H_alloc {t : TypeId} {z : Value} {zs : List Value} (hz : Zero P t z zs) : OpH P n w0 ⟨d, .alloc t, ty, pos, after, gu⟩ E H (fun g => ptr g 0) (fun g => cel g t zs * H) := H_new fun a w s => execOp_alloc a.eval w hz
theorem H_box {t : TypeId} {vs : List Value} (hx : E.ev x = some (.agg vs.toArray)) : OpH P n w0 ⟨d, .box t x, ty, pos, after, gu⟩ E H (fun g => ptr g 0) (fun g => cel g t vs * H) := H_new fun a w s => by
 simp [execOp, s.ev hx, Instr.box, newVar, newRow, Value.cells]
def zeroRow (zs : List Value) : Nat → List Value
 | 0 => []
 | k + 1 => zs ++ zeroRow zs k
def fillRow (size : Nat) : List Value → List (Nat × List Value) → Option (List Value)
 | cs, [] => some cs
 | cs, (i, vs) :: r => match pasteL cs (i * size) vs with
  | some cs' => fillRow size cs' r
  | none => none
def Env.parts (E : Env) : List (Nat × Operand) → Option (List (Nat × List Value))
 | [] => some []
 | (i, x) :: r => match E.ev x, Env.parts E r with
  | some v, some vs => some ((i, cellsL v) :: vs)
  | _, _ => none
def Env.partsV (E : Env) : List (Nat × Operand) → Option (List (Nat × Value))
 | [] => some []
 | (i, x) :: r => match E.ev x, Env.partsV E r with
  | some v, some vs => some ((i, v) :: vs)
  | _, _ => none
theorem Sees.partsV {a : Act} (h : Sees n E a) : ∀ {xs : List (Nat × Operand)} {vs : List (Nat × Value)}, E.partsV xs = some vs → xs.map (fun p => (p.1, a.eval p.2)) = vs
 | [], vs, e => by cases e; rfl
 | (i, x) :: r, vs, e => by
  simp only [Env.partsV] at e
  split at e
  ·rename_i v us e1 e2
   cases e
   simp [h.ev e1, Sees.partsV h e2]
  ·cases e
def placesD (P : Program) (t : TypeId) : Option (List (Nat × Nat)) :=
 match P.underlying t with
 | some (.struct fs) => fs.toList.mapM (fun f => (P.info? f.type).map fun i => (f.offset, i.size))
 | _ => none
class Places (P : Program) (t : TypeId) (ps : outParam (List (Nat × Nat))) : Prop where
  eq : placesD P t = some ps
theorem Places.ex {P : Program} {t : TypeId} {ps : List (Nat × Nat)} (h : Places P t ps) : ∃ fs, P.underlying t = some (.struct fs) ∧ fs.toList.mapM (fun f => (P.info? f.type).map fun i => (f.offset, i.size)) = some ps := by
 have := h.eq
 unfold placesD at this
 split at this
 ·rename_i fs hu; exact ⟨fs, hu, this⟩
 ·cases this
def getP : List (Nat × Nat) → Nat → Option (Nat × Nat)
 | [], _ => none
 | p :: _, 0 => some p
 | _ :: r, i + 1 => getP r i
def buildL (ps : List (Nat × Nat)) : List Value → List (Nat × Value) → Option (List Value)
 | cs, [] => some cs
 | cs, (i, v) :: r => match getP ps i with
  | some (off, size) => bif Nat.beq (cellsL v).length size then match pasteL cs off (cellsL v) with
   | some cs' => buildL ps cs' r
   | none => none
   else none
  | none => none
theorem getP_eq : ∀ (ps : List (Nat × Nat)) (i : Nat), getP ps i = ps[i]?
 | [], i => by simp [getP]
 | v :: r, 0 => rfl
 | v :: r, i + 1 => by simp [getP, getP_eq r i]
theorem foldl_set (vs : List Value) : ∀ (k off : Nat) (cs : Array Value), off + k + vs.length ≤ cs.size →
  ((vs.zipIdx k).foldl (fun cs (c, j) => cs.setIfInBounds (off + j) c) cs).toList = cs.toList.take (off + k) ++ vs ++ cs.toList.drop (off + k + vs.length) := by
 induction vs with
 | nil => intro k off cs h; simp
 | cons v vs ih =>
  intro k off cs h
  simp only [List.zipIdx_cons, List.foldl_cons]
  rw [ih (k + 1) off _ (by simp at h ⊢; omega)]
  simp only [List.length_cons] at h
  rw [Array.toList_setIfInBounds, List.take_set, List.drop_set, if_pos (by omega)]
  have e1 : (cs.toList.take (off + (k + 1))).set (off + k) v = cs.toList.take (off + k) ++ [v] := by
   rw [List.set_eq_take_append_cons_drop, if_pos (by simp; omega)]
   simp [List.take_take, List.drop_take, show min (off + k) (off + (k + 1)) = off + k by omega]
   omega
  rw [e1]
  simp [show off + (k + 1) + vs.length = off + k + (vs.length + 1) by omega]
theorem fill_eq (ps : List (Nat × Nat)) : ∀ (parts : List (Nat × Value)) (cs r : List Value), buildL ps cs parts = some r → Instr.fill (ps.toArray[·]?) cs.toArray parts = some r.toArray
 | [], cs, r, h => by cases h; rfl
 | (i, v) :: parts, cs, r, h => by
  simp only [buildL, getP_eq] at h
  cases hp : ps[i]? with
  | none => rw [hp] at h; cases h
  | some p =>
   obtain ⟨off, size⟩ := p
   rw [hp] at h
   simp only at h
   cases hs : Nat.beq (cellsL v).length size with
   | false => rw [hs] at h; cases h
   | true =>
    rw [hs] at h
    simp only [cond_true] at h
    cases hq : pasteL cs off (cellsL v) with
    | none => rw [hq] at h; cases h
    | some cs' =>
     rw [hq] at h
     simp only at h
     obtain ⟨hle, hcs⟩ := pasteL_eq hq
     have hsz : v.cells.size = size := by rw [cellsL_eq]; simpa using Nat.eq_of_beq_eq_true hs
     have hfold : ((v.cells.zipIdx).foldl (fun cs (c, j) => cs.setIfInBounds (off + j) c) cs.toArray) = cs'.toArray := by
      apply Array.ext'
      have := foldl_set (cellsL v) 0 off cs.toArray (by simpa using hle)
      rw [← Array.foldl_toList]
      simp only [cellsL_eq]
      simpa [hcs] using this
     have hp' : ps.toArray[i]? = some (off, size) := by simp [hp]
     unfold Instr.fill
     rw [hp']
     simp only
     rw [if_neg (by
      rw [cellsL_eq] at hsz ⊢
      simp only [List.size_toArray] at hsz ⊢
      simp [hsz]; omega), hfold]
     exact fill_eq ps parts cs' r h
theorem Q_build {t : TypeId} {parts : List (Nat × Operand)} {vs : List (Nat × Value)} {ps : List (Nat × Nat)} {z : Value} {zs cs : List Value} (hz : Zero P t z zs) (hp : Places P t ps) (hv : E.partsV parts = some vs) (hb : buildL ps zs vs = some cs) :
  OpQ P n w0 ⟨d, .build t parts.toArray, ty, pos, after, gu⟩ E H (.agg cs.toArray) := fun a w s hs => by
 obtain ⟨fs, hu, hps⟩ := hp.ex
 obtain ⟨it, hit, hit2⟩ := Option.map_eq_some_iff.1 hz.eq
 have e1 := s.partsV hv
 have e2 : (parts.toArray.map fun (i, x) => (i, a.eval x)).toList = vs := by simpa using e1
 have h := run_build (P := P) w t (parts.toArray.map fun (i, x) => (i, a.eval x)) cs.toArray (by
  rw [e2]
  simp only [Program.built, hit, hu, hit2, hps]
  rw [cellsL_eq, hz.cells]
  exact fill_eq ps vs zs cs hb)
 simp only [execOp, Sem.run_bind, h, Result.andThen_ok, Sem.run_pure]
theorem run_storeVar_cel (w : World) {g off : Nat} {bt t : TypeId} {cs cs' vs : List Value} {val : Value} (hs : Sat w0 w (cel g bt cs * F)) (hsz : (P.info? t).map (·.size) = some vs.length) (hv : val.cells = vs.toArray) (h1 : ∀ u ∈ vs, u.oneCell' = true) (hp : pasteL cs off vs = some cs') :
  ∃ w', (storeVar t ⟨g, off, none⟩ val).run P w = .ok () w' ∧ Sat w0 w' (cel g bt cs' * F) := by
 obtain ⟨hle, hcs⟩ := pasteL_eq hp
 obtain ⟨i, hi, hi2⟩ := Option.map_eq_some_iff.1 hsz
 have hz : (sizeOf t).run P w = .ok vs.length w := by simp [sizeOf, typeInfo, hi, hi2]
 have hr := run_storeCells_fr (P := P) g off bt (0, 0) vs 0 cs.toArray w (Sat.at_ hs) (by simpa using hle) h1 (fun i _ _ => by simp)
 refine ⟨w.setRow g (cs.toArray.toList.take (off + 0) ++ vs ++ cs.toArray.toList.drop (off + 0 + vs.length)).toArray, ?_, ?_⟩
 ·simp only [storeVar, Sem.run_bind, hz, Result.andThen_ok, hv, List.size_toArray]
  rw [if_neg (by simp)]
  exact hr
 ·refine Sat.put (o := .cells cs.toArray bt (0, 0)) hs rfl rfl rfl ?_ fun k _ hk => setRow_other w g k _ hk
  have := setRow_heap w g cs.toArray (cs.toArray.toList.take (off + 0) ++ vs ++ cs.toArray.toList.drop (off + 0 + vs.length)).toArray bt (0, 0) (Sat.at_ hs)
  rw [this, hcs]
  simp
theorem cells_one {v : Value} (h : v.oneCell' = true) : v.cells = [v].toArray := by cases v <;> first | rfl | cases h
theorem H_store {t bt : TypeId} {g off : Nat} {cs cs' : List Value} (hx : E.ev x = some (ptr g off)) (hy : E.ev y = some v) (ht : Scal P t) (h1 : v.oneCell' = true) (hl : LimbB H g bt cs F) (hset : pasteL cs off [v] = some cs') :
  OpH P n w0 ⟨none, .store t x y, ty, pos, after, gu⟩ E H (fun _ : Unit => undef) (fun _ => cel g bt cs' * F) := OpH.mk' (pre := cel g bt cs) (post := fun _ => cel g bt cs') (fun G a w K Q s hs hK => by
 obtain ⟨w', hr, hs'⟩ := run_storeVar_cel (P := P) (t := t) (vs := [v]) w hs ht.size (cells_one h1) (by simpa using h1) hset
 have := hK () w' hs'
 simp only [Act.put] at this
 simp only [Oper.wp, execOp, s.ev hx, s.ev hy, Instr.storeAt, Instr.sureAddr, Sem.run_bind, Sem.run_pure, Result.andThen_ok, hr, Oper.upon_skip]
 exact this) hl.eq
theorem H_storeA {t bt : TypeId} {g off : Nat} {cs cs' vs : List Value} (hx : E.ev x = some (ptr g off)) (hy : E.ev y = some (.agg vs.toArray)) (ht : Aggr P t vs.length) (hl : LimbB H g bt cs F) (h1 : vs.all (·.oneCell') = true) (hset : pasteL cs off vs = some cs') :
  OpH P n w0 ⟨none, .store t x y, ty, pos, after, gu⟩ E H (fun _ : Unit => undef) (fun _ => cel g bt cs' * F) := OpH.mk' (pre := cel g bt cs) (post := fun _ => cel g bt cs') (fun G a w K Q s hs hK => by
 obtain ⟨w', hr, hs'⟩ := run_storeVar_cel (P := P) (t := t) (vs := vs) (val := .agg vs.toArray) w hs ht.size rfl (by simpa using h1) hset
 have := hK () w' hs'
 simp only [Act.put] at this
 simp only [Oper.wp, execOp, s.ev hx, s.ev hy, Instr.storeAt, Instr.sureAddr, Sem.run_bind, Sem.run_pure, Result.andThen_ok, hr, Oper.upon_skip]
 exact this) hl.eq
end ops

def Spec (P : Program) (w0 : World) (f : FuncId) (args : List Value) (pre : HProp) {α : Type} (res : α → Value) (post : α → HProp) : Prop :=
 ∀ (G : HProp) w, Sat w0 w (pre * G) → Calls P f args.toArray w fun e w' => ∃ x, e = .returned (res x) ∧ Sat w0 w' (post x * G)
class IsFun (P : Program) (f : FuncId) : Prop where
  ok : ∃ fn, P.funcs[f]? = some fn ∧ fn.name ≠ "runtime.NumGoroutine" ∧ fn.body.isNone = false
theorem run_callFunc {f : FuncId} (hf : IsFun P f) (args : Array Value) (w : World) : (callFunc f args).run P w = .ok (.enter f args) w := by
 obtain ⟨fn, h1, h2, h3⟩ := hf.ok
 cases hb : fn.body with
 | none => rw [hb] at h3; cases h3
 | some c => simp [callFunc, h1, h2, hb]
section call
variable {α : Type} {f : FuncId} {args : List Value} {pre : HProp} {res : α → Value} {post : α → HProp} {d : Option Tmp} {xs : List Operand} {ts : Array TypeId} {ty : TypeId} {pos : String} {after : Array Edge} {gu : Option (Nat × Bool)}
theorem T_call (hf : IsFun P f) (hargs : E.evs xs = some args) (spec : Spec P w0 f args pre res post) : OpT P n w0 ⟨d, .call ⟨.value (.func f), xs.toArray, ts⟩, ty, pos, after, gu⟩ E pre res post := fun G a w K Q s hs hK => by
 have e := s.evs hargs
 have hr : (execOp a.eval ⟨d, .call ⟨.value (.func f), xs.toArray, ts⟩, ty, pos, after, gu⟩).run P w = .ok (.enter f args.toArray) w := by
  have h := run_callFunc hf args.toArray w
  simp [execOp, resolve, Act.eval, Deferred.ofValue, invoke, e, h]
 unfold Oper.wp
 rw [hr]
 refine (spec G w hs).mono ?_
 rintro e w' ⟨x, rfl, hs'⟩
 exact hK x w' hs'
theorem T_callV {t : Tmp} {caps : List Value} (hf : IsFun P f) (ht : E.get t = some (.func (.func f) #[] caps.toArray)) (hargs : E.evs xs = some args) (spec : Spec P w0 f (args ++ caps) pre res post) : OpT P n w0 ⟨d, .call ⟨.value (.tmp t), xs.toArray, ts⟩, ty, pos, after, gu⟩ E pre res post := fun G a w K Q s hs hK => by
 have e := s.evs hargs
 have e2 : a.eval (.tmp t) = .func (.func f) #[] caps.toArray := s.ev (x := .tmp t) ht
 have hr : (execOp a.eval ⟨d, .call ⟨.value (.tmp t), xs.toArray, ts⟩, ty, pos, after, gu⟩).run P w = .ok (.enter f (args ++ caps).toArray) w := by
  have h := run_callFunc hf (args ++ caps).toArray w
  simp [execOp, resolve, e2, Deferred.ofValue, invoke, e] at h ⊢
  exact h
 unfold Oper.wp
 rw [hr]
 refine (spec G w hs).mono ?_
 rintro e w' ⟨x, rfl, hs'⟩
 exact hK x w' hs'
theorem H_call0 (hf : IsFun P f) (hargs : E.evs xs = some args) (spec : Spec P w0 f args emp res post) : OpH P n w0 ⟨d, .call ⟨.value (.func f), xs.toArray, ts⟩, ty, pos, after, gu⟩ E H res (fun x => post x * H) := OpH.mk' (T_call hf hargs spec) emp_star.symm
theorem H_callH (hf : IsFun P f) (hargs : E.evs xs = some args) (spec : Spec P w0 f args pre res post) (hH : H = pre * F) : OpH P n w0 ⟨d, .call ⟨.value (.func f), xs.toArray, ts⟩, ty, pos, after, gu⟩ E H res (fun x => post x * F) := OpH.mk' (T_call hf hargs spec) hH
end call

def SpecQ (P : Program) (w0 : World) (f : FuncId) (args : List Value) (H : HProp) (v : Value) : Prop :=
 ∀ w, Sat w0 w H → Calls P f args.toArray w fun e w' => e = .returned v ∧ Sat w0 w' H
theorem TQ_call {f : FuncId} {args : List Value} {v : Value} {d : Option Tmp} {xs : List Operand} {ts : Array TypeId} {ty : TypeId} {pos : String} {after : Array Edge} {gu : Option (Nat × Bool)} (hf : IsFun P f) (hargs : E.evs xs = some args) (spec : SpecQ P w0 f args H v) : OpTQ P n w0 ⟨d, .call ⟨.value (.func f), xs.toArray, ts⟩, ty, pos, after, gu⟩ E H v := fun a w K Q s hs hK => by
 have e := s.evs hargs
 have hr : (execOp a.eval ⟨d, .call ⟨.value (.func f), xs.toArray, ts⟩, ty, pos, after, gu⟩).run P w = .ok (.enter f args.toArray) w := by
  have h := run_callFunc hf args.toArray w
  simp [execOp, resolve, Act.eval, Deferred.ofValue, invoke, e, h]
 unfold Oper.wp
 rw [hr]
 refine (spec w hs).mono ?_
 rintro e w' ⟨rfl, hs'⟩
 exact hK w' hs'
def argE : Nat → List Value → Env
 | _, [] => []
 | k, v :: r => (k, v) :: argE (k + 1) r
theorem argE_get : ∀ (l : List Value) (k t : Nat) (v : Value), (argE k l).get t = some v → k ≤ t ∧ l[t - k]? = some v
 | [], k, t, v, h => by simp [argE, Env.get] at h
 | u :: r, k, t, v, h => by
  rw [argE, Env.get_cons] at h
  split at h
  ·rename_i e; subst e; simp at h; simp [h]
  ·obtain ⟨h1, h2⟩ := argE_get r (k + 1) t v h
   refine ⟨by omega, ?_⟩
   rw [show t - k = (t - (k + 1)) + 1 by omega]; simpa using h2
def retS (P : Program) (n : Frm) (w0 : World) (fn : Func) (R : Value → HProp → Prop) : Exit → St → Prop
 | .normal, σ | .ret, σ => σ.D = [] ∧ ∃ v, (∀ a w, Good n w0 σ a w → (results fn a.tmps).run P w = .ok v w) ∧ R v σ.H
 | _, _ => False
theorem Spec.enter {α : Type} {f : FuncId} {fn : Func} {c : Code} {args : List Value} {pre : HProp} {res : α → Value} {post : α → HProp} {m : Nat} (hf : P.funcs[f]? = some fn) (hb : fn.body = some c) (hn : fn.ntmps = m) (hle : Nat.ble args.length m = true)
  (h : ∀ G, WS P ⟨m, none⟩ w0 c (retS P ⟨m, none⟩ w0 fn fun v H' => ∃ x, v = res x ∧ Ent H' (post x * G)) ⟨argE 0 args, [], pre * G⟩) : Spec P w0 f args pre res post := by
 intro G w hs
 subst hn
 have hle' : args.length ≤ fn.ntmps := Nat.le_of_ble_eq_true hle
 refine calls_of_wp hf hb (wp_mono ((wpIn_wide (n := 0)).1 (h G _ w ⟨⟨by simp; omega, fun t v ht => ?_⟩, rfl, hs⟩)) ?_)
 ·obtain ⟨_, h2⟩ := argE_get args 0 t v ht
  have hlt := (List.getElem?_eq_some_iff.1 h2).1
  simp only [Nat.sub_zero] at h2 hlt
  simp [Array.getElem?_append, hlt] at h2 ⊢
  simp [h2]
 ·intro e a w' ⟨σ, h1, h2⟩
  cases e with
  | normal => obtain ⟨hD, v, hr, x, hv, he⟩ := h1; exact ⟨h2.defers.trans hD, v, hr a w' h2, x, by rw [hv], he.sat h2.sat⟩
  | ret => obtain ⟨hD, v, hr, x, hv, he⟩ := h1; exact ⟨h2.defers.trans hD, v, hr a w' h2, x, by rw [hv], he.sat h2.sat⟩
  | _ => exact h1.elim
section ret
variable {fn : Func} {R : Value → HProp → Prop}
theorem ret_none {e : Exit} (he : e = .ret ∨ e = .normal) (hr : fn.results = #[]) (h : R (.tuple #[]) H) : retS P n w0 fn R e ⟨E, [], H⟩ := by
 rcases he with rfl | rfl <;> exact ⟨rfl, _, fun a w g => results_none hr _ _ _, h⟩
theorem ret_tmp {e : Exit} {t : Nat} {v : Value} (he : e = .ret ∨ e = .normal) (hr : fn.results = #[.tmp t]) (hv : E.get t = some v) (h : R v H) : retS P n w0 fn R e ⟨E, [], H⟩ := by
 rcases he with rfl | rfl <;> exact ⟨rfl, v, fun a w g => by rw [results_tmp hr, g.sees.get t v hv], h⟩
theorem ret_tmp2 {e : Exit} {t t' : Nat} {v u : Value} (he : e = .ret ∨ e = .normal) (hr : fn.results = #[.tmp t, .tmp t']) (hv : E.get t = some v) (hu : E.get t' = some u) (h : R (.tuple #[v, u]) H) : retS P n w0 fn R e ⟨E, [], H⟩ := by
 rcases he with rfl | rfl <;> exact ⟨rfl, _, fun a w g => by rw [results_tmp2 hr, g.sees.get t v hv, g.sees.get t' u hu], h⟩
end ret
end

section
open Go.RowKit
variable {P : Program} {n : Frm} {w0 : World} {E : Env} {D : List Deferred} {H F R : HProp}

class AsU8 (v : Value) (x : outParam UInt8) : Prop where eq : v = u8 x
class AsU32 (v : Value) (x : outParam UInt32) : Prop where eq : v = u32 x
class AsU64 (v : Value) (x : outParam UInt64) : Prop where eq : v = u64 x
instance (x : UInt8) : AsU8 (u8 x) x := ⟨rfl⟩
instance (x : UInt32) : AsU32 (u32 x) x := ⟨rfl⟩
instance (x : UInt64) : AsU64 (u64 x) x := ⟨rfl⟩
instance : AsU8 (.int .u8 0) 0 := ⟨rfl⟩
instance : AsU8 (.int .u8 1) 1 := ⟨rfl⟩
instance : AsU8 (.int .u8 2) 2 := ⟨rfl⟩
instance : AsU8 (.int .u8 8) 8 := ⟨rfl⟩
instance : AsU32 (.int .u32 0) 0 := ⟨rfl⟩
instance : AsU32 (.int .u32 1) 1 := ⟨rfl⟩
instance : AsU64 (.int .u64 80) 80 := ⟨rfl⟩
instance : AsU64 (.int .u64 1000) 1000 := ⟨rfl⟩
instance : AsU64 (.int .u64 1280) 1280 := ⟨rfl⟩
instance : AsU64 (.int .u64 2000) 2000 := ⟨rfl⟩
instance : AsU64 (.int .u64 3000) 3000 := ⟨rfl⟩

theorem guard_int (op : BinOp) (t : TypeId) (a b : Operand) (k k' : IntKind) (x y : Int) (w : World) : (eqGuard op t a b (.int k x) (.int k' y)).run P w = .ok () w := by
 unfold eqGuard
 cases op <;> rfl
theorem wrap_u32 (m : Int) : IntKind.u32.wrap m = m % 4294967296 := by simp [IntKind.wrap, IntKind.signed, IntKind.bits]
theorem wrap_u64 (m : Int) : IntKind.u64.wrap m = m % 18446744073709551616 := by simp [IntKind.wrap, IntKind.signed, IntKind.bits]
theorem wrap_u8 (m : Int) : IntKind.u8.wrap m = m % 256 := by simp [IntKind.wrap, IntKind.signed, IntKind.bits]
theorem ofNat_u32 {m : Int} {x : UInt32} (h : m = (x.toNat : Int)) : Value.int .u32 m = u32 x := by rw [h]; rfl
theorem ofNat_u64 {m : Int} {x : UInt64} (h : m = (x.toNat : Int)) : Value.int .u64 m = u64 x := by rw [h]; rfl
theorem ofNat_u8 {m : Int} {x : UInt8} (h : m = (x.toNat : Int)) : Value.int .u8 m = u8 x := by rw [h]; rfl
section
variable {t : TypeId} {v u : Value}
instance addU32 {x y : UInt32} [a : AsU32 v x] [b : AsU32 u y] : BinV P .add t v u (u32 (x + y)) := by
 obtain ⟨rfl⟩ := a; obtain ⟨rfl⟩ := b
 refine ⟨fun w => ?_, fun w _ _ => guard_int _ _ _ _ _ _ _ _ _⟩
 have e : u32 (x + y) = .int .u32 (IntKind.u32.wrap ((x.toNat : Int) + (y.toNat : Int))) := (ofNat_u32 (by rw [wrap_u32, UInt32.toNat_add]; omega)).symm
 rw [e]; rfl
instance subU32 {x y : UInt32} [a : AsU32 v x] [b : AsU32 u y] : BinV P .sub t v u (u32 (x - y)) := by
 obtain ⟨rfl⟩ := a; obtain ⟨rfl⟩ := b
 refine ⟨fun w => ?_, fun w _ _ => guard_int _ _ _ _ _ _ _ _ _⟩
 have hx := x.toNat_lt; have hy := y.toNat_lt
 have e : u32 (x - y) = .int .u32 (IntKind.u32.wrap ((x.toNat : Int) - (y.toNat : Int))) := (ofNat_u32 (by rw [wrap_u32, UInt32.toNat_sub]; omega)).symm
 rw [e]; rfl
instance addU64 {x y : UInt64} [a : AsU64 v x] [b : AsU64 u y] : BinV P .add t v u (u64 (x + y)) := by
 obtain ⟨rfl⟩ := a; obtain ⟨rfl⟩ := b
 refine ⟨fun w => ?_, fun w _ _ => guard_int _ _ _ _ _ _ _ _ _⟩
 have e : u64 (x + y) = .int .u64 (IntKind.u64.wrap ((x.toNat : Int) + (y.toNat : Int))) := (ofNat_u64 (by rw [wrap_u64, UInt64.toNat_add]; omega)).symm
 rw [e]; rfl
instance subU64 {x y : UInt64} [a : AsU64 v x] [b : AsU64 u y] : BinV P .sub t v u (u64 (x - y)) := by
 obtain ⟨rfl⟩ := a; obtain ⟨rfl⟩ := b
 refine ⟨fun w => ?_, fun w _ _ => guard_int _ _ _ _ _ _ _ _ _⟩
 have hx := x.toNat_lt; have hy := y.toNat_lt
 have e : u64 (x - y) = .int .u64 (IntKind.u64.wrap ((x.toNat : Int) - (y.toNat : Int))) := (ofNat_u64 (by rw [wrap_u64, UInt64.toNat_sub]; omega)).symm
 rw [e]; rfl
instance mulU64 {x y : UInt64} [a : AsU64 v x] [b : AsU64 u y] : BinV P .mul t v u (u64 (x * y)) := by
 obtain ⟨rfl⟩ := a; obtain ⟨rfl⟩ := b
 refine ⟨fun w => ?_, fun w _ _ => guard_int _ _ _ _ _ _ _ _ _⟩
 have e : u64 (x * y) = .int .u64 (IntKind.u64.wrap ((x.toNat : Int) * (y.toNat : Int))) := (ofNat_u64 (by rw [wrap_u64, UInt64.toNat_mul]; simp)).symm
 rw [e]; rfl
instance remU64 {x y : UInt64} [a : AsU64 v x] [b : AsU64 u y] [hy : NeZero y.toNat] : BinV P .rem t v u (u64 (x % y)) := by
 obtain ⟨rfl⟩ := a; obtain ⟨rfl⟩ := b
 refine ⟨fun w => ?_, fun w _ _ => guard_int _ _ _ _ _ _ _ _ _⟩
 have e : u64 (x % y) = .int .u64 ((x.toNat : Int).tmod (y.toNat : Int)) := (ofNat_u64 (by rw [UInt64.toNat_mod, Int.ofNat_tmod])).symm
 rw [e]
 have h0 : y.toNat ≠ 0 := hy.out
 simp [binOp, u64, Op.intDiv, h0]
instance addU8 {x y : UInt8} [a : AsU8 v x] [b : AsU8 u y] : BinV P .add t v u (u8 (x + y)) := by
 obtain ⟨rfl⟩ := a; obtain ⟨rfl⟩ := b
 refine ⟨fun w => ?_, fun w _ _ => guard_int _ _ _ _ _ _ _ _ _⟩
 have e : u8 (x + y) = .int .u8 (IntKind.u8.wrap ((x.toNat : Int) + (y.toNat : Int))) := (ofNat_u8 (by rw [wrap_u8, UInt8.toNat_add]; omega)).symm
 rw [e]; rfl
theorem cmp_eql {k : IntKind} {x y : Int} {p : Prop} [Decidable p] (h : p ↔ x = y) : ∀ w, (binOp .eql t (.int k x) (.int k y)).run P w = .ok (.bool (decide p)) w := fun w => by
 have : decide p = (x == y) := by rw [Bool.eq_iff_iff]; simp [h]
 rw [this]; simp [binOp, Op.intCmp]
theorem cmp_neq {k : IntKind} {x y : Int} {p : Prop} [Decidable p] (h : p ↔ x = y) : ∀ w, (binOp .neq t (.int k x) (.int k y)).run P w = .ok (.bool (!decide p)) w := fun w => by
 have : (!decide p) = (x != y) := by rw [Bool.eq_iff_iff]; simp [h]
 rw [this]; simp [binOp, Op.intCmp]
theorem cmp_lss {k : IntKind} {x y : Int} {p : Prop} [Decidable p] (h : p ↔ x < y) : ∀ w, (binOp .lss t (.int k x) (.int k y)).run P w = .ok (.bool (decide p)) w := fun w => by
 have : decide p = decide (x < y) := by rw [Bool.eq_iff_iff]; simp [h]
 rw [this]; simp [binOp, Op.intCmp]
theorem cmp_leq {k : IntKind} {x y : Int} {p : Prop} [Decidable p] (h : p ↔ x ≤ y) : ∀ w, (binOp .leq t (.int k x) (.int k y)).run P w = .ok (.bool (decide p)) w := fun w => by
 have : decide p = decide (x ≤ y) := by rw [Bool.eq_iff_iff]; simp [h]
 rw [this]; simp [binOp, Op.intCmp]
theorem cmp_gtr {k : IntKind} {x y : Int} {p : Prop} [Decidable p] (h : p ↔ y < x) : ∀ w, (binOp .gtr t (.int k x) (.int k y)).run P w = .ok (.bool (decide p)) w := fun w => by
 have : decide p = decide (x > y) := by rw [Bool.eq_iff_iff]; simp [h]
 rw [this]; simp [binOp, Op.intCmp]
theorem cmp_geq {k : IntKind} {x y : Int} {p : Prop} [Decidable p] (h : p ↔ y ≤ x) : ∀ w, (binOp .geq t (.int k x) (.int k y)).run P w = .ok (.bool (decide p)) w := fun w => by
 have : decide p = decide (x ≥ y) := by rw [Bool.eq_iff_iff]; simp [h]
 rw [this]; simp [binOp, Op.intCmp]
instance eqlU32 {x y : UInt32} [a : AsU32 v x] [b : AsU32 u y] : BinV P .eql t v u (.bool (decide (x = y))) := by
 obtain ⟨rfl⟩ := a; obtain ⟨rfl⟩ := b; exact ⟨cmp_eql (by rw [← UInt32.toNat_inj]; omega), fun w _ _ => guard_int _ _ _ _ _ _ _ _ _⟩
instance neqU32 {x y : UInt32} [a : AsU32 v x] [b : AsU32 u y] : BinV P .neq t v u (.bool (!decide (x = y))) := by
 obtain ⟨rfl⟩ := a; obtain ⟨rfl⟩ := b; exact ⟨cmp_neq (by rw [← UInt32.toNat_inj]; omega), fun w _ _ => guard_int _ _ _ _ _ _ _ _ _⟩
instance lssU32 {x y : UInt32} [a : AsU32 v x] [b : AsU32 u y] : BinV P .lss t v u (.bool (decide (x < y))) := by
 obtain ⟨rfl⟩ := a; obtain ⟨rfl⟩ := b; exact ⟨cmp_lss (by rw [UInt32.lt_iff_toNat_lt]; omega), fun w _ _ => guard_int _ _ _ _ _ _ _ _ _⟩
instance leqU32 {x y : UInt32} [a : AsU32 v x] [b : AsU32 u y] : BinV P .leq t v u (.bool (decide (x ≤ y))) := by
 obtain ⟨rfl⟩ := a; obtain ⟨rfl⟩ := b; exact ⟨cmp_leq (by rw [UInt32.le_iff_toNat_le]; omega), fun w _ _ => guard_int _ _ _ _ _ _ _ _ _⟩
instance gtrU32 {x y : UInt32} [a : AsU32 v x] [b : AsU32 u y] : BinV P .gtr t v u (.bool (decide (y < x))) := by
 obtain ⟨rfl⟩ := a; obtain ⟨rfl⟩ := b; exact ⟨cmp_gtr (by rw [UInt32.lt_iff_toNat_lt]; omega), fun w _ _ => guard_int _ _ _ _ _ _ _ _ _⟩
instance geqU32 {x y : UInt32} [a : AsU32 v x] [b : AsU32 u y] : BinV P .geq t v u (.bool (decide (y ≤ x))) := by
 obtain ⟨rfl⟩ := a; obtain ⟨rfl⟩ := b; exact ⟨cmp_geq (by rw [UInt32.le_iff_toNat_le]; omega), fun w _ _ => guard_int _ _ _ _ _ _ _ _ _⟩
instance eqlU64 {x y : UInt64} [a : AsU64 v x] [b : AsU64 u y] : BinV P .eql t v u (.bool (decide (x = y))) := by
 obtain ⟨rfl⟩ := a; obtain ⟨rfl⟩ := b; exact ⟨cmp_eql (by rw [← UInt64.toNat_inj]; omega), fun w _ _ => guard_int _ _ _ _ _ _ _ _ _⟩
instance neqU64 {x y : UInt64} [a : AsU64 v x] [b : AsU64 u y] : BinV P .neq t v u (.bool (!decide (x = y))) := by
 obtain ⟨rfl⟩ := a; obtain ⟨rfl⟩ := b; exact ⟨cmp_neq (by rw [← UInt64.toNat_inj]; omega), fun w _ _ => guard_int _ _ _ _ _ _ _ _ _⟩
instance lssU64 {x y : UInt64} [a : AsU64 v x] [b : AsU64 u y] : BinV P .lss t v u (.bool (decide (x < y))) := by
 obtain ⟨rfl⟩ := a; obtain ⟨rfl⟩ := b; exact ⟨cmp_lss (by rw [UInt64.lt_iff_toNat_lt]; omega), fun w _ _ => guard_int _ _ _ _ _ _ _ _ _⟩
instance leqU64 {x y : UInt64} [a : AsU64 v x] [b : AsU64 u y] : BinV P .leq t v u (.bool (decide (x ≤ y))) := by
 obtain ⟨rfl⟩ := a; obtain ⟨rfl⟩ := b; exact ⟨cmp_leq (by rw [UInt64.le_iff_toNat_le]; omega), fun w _ _ => guard_int _ _ _ _ _ _ _ _ _⟩
instance gtrU64 {x y : UInt64} [a : AsU64 v x] [b : AsU64 u y] : BinV P .gtr t v u (.bool (decide (y < x))) := by
 obtain ⟨rfl⟩ := a; obtain ⟨rfl⟩ := b; exact ⟨cmp_gtr (by rw [UInt64.lt_iff_toNat_lt]; omega), fun w _ _ => guard_int _ _ _ _ _ _ _ _ _⟩
instance geqU64 {x y : UInt64} [a : AsU64 v x] [b : AsU64 u y] : BinV P .geq t v u (.bool (decide (y ≤ x))) := by
 obtain ⟨rfl⟩ := a; obtain ⟨rfl⟩ := b; exact ⟨cmp_geq (by rw [UInt64.le_iff_toNat_le]; omega), fun w _ _ => guard_int _ _ _ _ _ _ _ _ _⟩
instance eqlU8 {x y : UInt8} [a : AsU8 v x] [b : AsU8 u y] : BinV P .eql t v u (.bool (decide (x = y))) := by
 obtain ⟨rfl⟩ := a; obtain ⟨rfl⟩ := b; exact ⟨cmp_eql (by rw [← UInt8.toNat_inj]; omega), fun w _ _ => guard_int _ _ _ _ _ _ _ _ _⟩
instance neqU8 {x y : UInt8} [a : AsU8 v x] [b : AsU8 u y] : BinV P .neq t v u (.bool (!decide (x = y))) := by
 obtain ⟨rfl⟩ := a; obtain ⟨rfl⟩ := b; exact ⟨cmp_neq (by rw [← UInt8.toNat_inj]; omega), fun w _ _ => guard_int _ _ _ _ _ _ _ _ _⟩
instance eqlI {x y : Int} : BinV P .eql t (.int .i64 x) (.int .i64 y) (.bool (decide (x = y))) := ⟨cmp_eql Iff.rfl, fun w _ _ => guard_int _ _ _ _ _ _ _ _ _⟩
instance neqI {x y : Int} : BinV P .neq t (.int .i64 x) (.int .i64 y) (.bool (!decide (x = y))) := ⟨cmp_neq Iff.rfl, fun w _ _ => guard_int _ _ _ _ _ _ _ _ _⟩
instance lssI {x y : Int} : BinV P .lss t (.int .i64 x) (.int .i64 y) (.bool (decide (x < y))) := ⟨cmp_lss Iff.rfl, fun w _ _ => guard_int _ _ _ _ _ _ _ _ _⟩
instance leqI {x y : Int} : BinV P .leq t (.int .i64 x) (.int .i64 y) (.bool (decide (x ≤ y))) := ⟨cmp_leq Iff.rfl, fun w _ _ => guard_int _ _ _ _ _ _ _ _ _⟩
instance gtrI {x y : Int} : BinV P .gtr t (.int .i64 x) (.int .i64 y) (.bool (decide (y < x))) := ⟨cmp_gtr Iff.rfl, fun w _ _ => guard_int _ _ _ _ _ _ _ _ _⟩
instance geqI {x y : Int} : BinV P .geq t (.int .i64 x) (.int .i64 y) (.bool (decide (y ≤ x))) := ⟨cmp_geq Iff.rfl, fun w _ _ => guard_int _ _ _ _ _ _ _ _ _⟩
instance eqlB {x y : Bool} [h : Und P t .bool] : BinV P .eql t (.bool x) (.bool y) (.bool (x == y)) := ⟨fun w => run_eql_bool w t x y h.eq, fun w _ _ => rfl⟩
instance neqB {x y : Bool} [h : Und P t .bool] : BinV P .neq t (.bool x) (.bool y) (.bool (!(x == y))) := ⟨fun w => run_neq_bool w t x y h.eq, fun w _ _ => rfl⟩
instance notT : UnV P .not (.bool true) (.bool false) := ⟨fun w => rfl⟩
instance notF : UnV P .not (.bool false) (.bool true) := ⟨fun w => rfl⟩
instance (priority := low) notB {x : Bool} : UnV P .not (.bool x) (.bool (!x)) := ⟨fun w => rfl⟩
end
section
variable {d : Option Tmp} {ty : TypeId} {pos : String} {after : Array Edge} {gu : Option (Nat × Bool)} {x y : Operand}
theorem Q_addI {t t2 : TypeId} {a b : Int} (hx : E.ev x = some (.int .i64 a)) (hy : E.ev y = some (.int .i64 b)) (h : -9223372036854775808 ≤ a + b ∧ a + b ≤ 9223372036854775807) : OpQ P n w0 ⟨d, .binOp .add t x y t2, ty, pos, after, gu⟩ E H (.int .i64 (a + b)) := fun ac w s hs => by
 have := IntWalk.i64_in (a + b) h
 simp [execOp, s.ev hx, s.ev hy, guard_int, binOp, Op.intArith, this]
theorem Q_subI {t t2 : TypeId} {a b : Int} (hx : E.ev x = some (.int .i64 a)) (hy : E.ev y = some (.int .i64 b)) (h : -9223372036854775808 ≤ a - b ∧ a - b ≤ 9223372036854775807) : OpQ P n w0 ⟨d, .binOp .sub t x y t2, ty, pos, after, gu⟩ E H (.int .i64 (a - b)) := fun ac w s hs => by
 have := IntWalk.i64_in (a - b) h
 simp [execOp, s.ev hx, s.ev hy, guard_int, binOp, Op.intArith, this]
theorem Q_mulI {t t2 : TypeId} {a b : Int} (hx : E.ev x = some (.int .i64 a)) (hy : E.ev y = some (.int .i64 b)) (h : -9223372036854775808 ≤ a * b ∧ a * b ≤ 9223372036854775807) : OpQ P n w0 ⟨d, .binOp .mul t x y t2, ty, pos, after, gu⟩ E H (.int .i64 (a * b)) := fun ac w s hs => by
 have := IntWalk.i64_in (a * b) h
 simp [execOp, s.ev hx, s.ev hy, guard_int, binOp, Op.intArith, this]
theorem Q_negI {t : TypeId} {a : Int} (hx : E.ev x = some (.int .i64 a)) (h : -9223372036854775807 ≤ a ∧ a ≤ 9223372036854775807) : OpQ P n w0 ⟨d, .unOp .neg t x, ty, pos, after, gu⟩ E H (.int .i64 (-a)) := fun ac w s hs => by
 have := IntWalk.i64_in (-a) (by omega)
 simp [execOp, s.ev hx, Op.unary, Op.intArith, this]
theorem Q_remI {t t2 : TypeId} {a b : Int} (hx : E.ev x = some (.int .i64 a)) (hy : E.ev y = some (.int .i64 b)) (h : 0 ≤ a ∧ 0 < b) : OpQ P n w0 ⟨d, .binOp .rem t x y t2, ty, pos, after, gu⟩ E H (.int .i64 (a % b)) := fun ac w s hs => by
 have h0 : b ≠ 0 := by omega
 have := Int.tmod_eq_emod_of_nonneg (a := a) (b := b) h.1
 simp [execOp, s.ev hx, s.ev hy, guard_int, binOp, Op.intDiv, h0, this]
theorem Q_quoI {t t2 : TypeId} {a b : Int} (hx : E.ev x = some (.int .i64 a)) (hy : E.ev y = some (.int .i64 b)) (h : 0 ≤ a ∧ 0 < b ∧ a ≤ 9223372036854775807) : OpQ P n w0 ⟨d, .binOp .quo t x y t2, ty, pos, after, gu⟩ E H (.int .i64 (a / b)) := fun ac w s hs => by
 have h0 : b ≠ 0 := by omega
 have h1 := Int.tdiv_eq_ediv_of_nonneg (a := a) (b := b) h.1
 have h2 := Int.ediv_le_self b h.1
 have h3 := Int.ediv_nonneg h.1 (Int.le_of_lt h.2.1)
 have h4 := IntWalk.i64_in (a / b) (by omega)
 simp [execOp, s.ev hx, s.ev hy, guard_int, binOp, Op.intDiv, h0, h1, h4]
theorem Q_max32 {a b : UInt32} {ts : Array TypeId} {v u : Value} (hx : E.ev x = some v) (hy : E.ev y = some u) (h1 : AsU32 v a) (h2 : AsU32 u b) : OpQ P n w0 ⟨d, .call ⟨.builtin .max, #[x, y], ts⟩, ty, pos, after, gu⟩ E H (u32 (max a b)) := fun ac w s hs => by
 obtain ⟨rfl⟩ := h1; obtain ⟨rfl⟩ := h2
 have h := Q_max (P := P) (n := n) (w0 := w0) (H := H) (d := d) (ty := ty) (pos := pos) (after := after) (gu := gu) (ts := ts) hx hy ac w s hs
 rw [h]
 have : (max a b).toNat = if a.toNat ≤ b.toNat then b.toNat else a.toNat := by
  show (if a ≤ b then b else a).toNat = _
  by_cases hab : a ≤ b
  ·rw [if_pos hab, if_pos (UInt32.le_iff_toNat_le.1 hab)]
  ·rw [if_neg hab, if_neg (fun h => hab (UInt32.le_iff_toNat_le.2 h))]
 congr 2
 show Value.int .u32 _ = Value.int .u32 _
 congr 1
 rw [this]
 split <;> split <;> omega
theorem Q_max64 {a b : UInt64} {ts : Array TypeId} {v u : Value} (hx : E.ev x = some v) (hy : E.ev y = some u) (h1 : AsU64 v a) (h2 : AsU64 u b) : OpQ P n w0 ⟨d, .call ⟨.builtin .max, #[x, y], ts⟩, ty, pos, after, gu⟩ E H (u64 (max a b)) := fun ac w s hs => by
 obtain ⟨rfl⟩ := h1; obtain ⟨rfl⟩ := h2
 have h := Q_max (P := P) (n := n) (w0 := w0) (H := H) (d := d) (ty := ty) (pos := pos) (after := after) (gu := gu) (ts := ts) hx hy ac w s hs
 rw [h]
 have : (max a b).toNat = if a.toNat ≤ b.toNat then b.toNat else a.toNat := by
  show (if a ≤ b then b else a).toNat = _
  by_cases hab : a ≤ b
  ·rw [if_pos hab, if_pos (UInt64.le_iff_toNat_le.1 hab)]
  ·rw [if_neg hab, if_neg (fun h => hab (UInt64.le_iff_toNat_le.2 h))]
 congr 2
 show Value.int .u64 _ = Value.int .u64 _
 congr 1
 rw [this]
 split <;> split <;> omega
theorem Q_minI {a b : Int} {ts : Array TypeId} (hx : E.ev x = some (.int .i64 a)) (hy : E.ev y = some (.int .i64 b)) : OpQ P n w0 ⟨d, .call ⟨.builtin .min, #[x, y], ts⟩, ty, pos, after, gu⟩ E H (.int .i64 (min a b)) := fun ac w s hs => by
 rw [Q_min (P := P) (n := n) (w0 := w0) (H := H) hx hy ac w s hs]
 have : (if b < a then b else a) = min a b := by omega
 rw [this]
theorem Q_maxI {a b : Int} {ts : Array TypeId} (hx : E.ev x = some (.int .i64 a)) (hy : E.ev y = some (.int .i64 b)) : OpQ P n w0 ⟨d, .call ⟨.builtin .max, #[x, y], ts⟩, ty, pos, after, gu⟩ E H (.int .i64 (max a b)) := fun ac w s hs => by
 rw [Q_max (P := P) (n := n) (w0 := w0) (H := H) hx hy ac w s hs]
 have : (if b > a then b else a) = max a b := by omega
 rw [this]
@[reducible] def strV (l : List UInt8) : Value := .string ⟨l.toArray⟩
theorem Q_lenS {t : TypeId} {l : List UInt8} (hx : E.ev x = some (strV l)) (ht : Und P t .string) : OpQ P n w0 ⟨d, .call ⟨.builtin .len, #[x], #[t]⟩, ty, pos, after, gu⟩ E H (.int .i64 (l.length : Int)) := Q_len_str hx ht
theorem Q_conv32 {src t : TypeId} {v : Value} {a : UInt64} {ds : TypeDesc} (hx : E.ev x = some v) (hv : AsU64 v a) (hs : Und P src ds) (hd : Und P t (.int .u32)) : OpQ P n w0 ⟨d, .convert src t x, ty, pos, after, gu⟩ E H (u32 a.toUInt32) := by
 obtain ⟨rfl⟩ := hv
 exact Q_convI hx hs hd (by rw [wrap_u32]; simp)
theorem Q_conv64 {src t : TypeId} {v : Value} {a : UInt32} {ds : TypeDesc} (hx : E.ev x = some v) (hv : AsU32 v a) (hs : Und P src ds) (hd : Und P t (.int .u64)) : OpQ P n w0 ⟨d, .convert src t x, ty, pos, after, gu⟩ E H (u64 a.toUInt64) := by
 obtain ⟨rfl⟩ := hv
 exact Q_convI hx hs hd (by have := a.toNat_lt; rw [wrap_u64]; simp; omega)
end
end

end Go.Proofs.YtapoehkdnglahabGreat

