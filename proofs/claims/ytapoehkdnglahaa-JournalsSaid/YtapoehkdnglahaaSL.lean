/- Separating assertions over the model's heap: no program in sight. Proved: the laws by which a world that meets one keeps or changes it. -/
import Derived.Below
import Derived.WalkKit
import Derived.WalkSmall
import Derived.Deep.Draws
import Derived.Lib.Hide
import Derived.Deep.QuietTactic
import Derived.BigQuiet
import Derived.WalkLawsBesides
import Derived.WalkSpells
namespace Go.Proofs.Ytapoehkdnglahaa
open Go.RowKit
set_option linter.unusedVariables false

@[go_sem] theorem World.alloc_drewN (w : World) (n : Nat) (o : Obj) : (w.drewN n).alloc o = (w.alloc o).drewN n := rfl
@[go_sem] theorem World.setCell_drewN (w : World) (n : Nat) (a : Addr) (v : Value) : (w.drewN n).setCell a v = (w.setCell a v).drewN n := rfl
theorem World.block_lt {w : World} {a : Addr} {u : Value} (h : w.cell? a = some u) : a.block < w.heap.size := by
  rcases Nat.lt_or_ge a.block w.heap.size with hlt | hge
  · exact hlt
  · simp [World.cell?, Array.getElem?_eq_none hge] at h

/-- A part of a heap. -/
abbrev Part := Nat → Option Obj
def Part.disj (a b : Part) : Prop := ∀ k, a k = none ∨ b k = none
def Part.join (a b : Part) : Part := fun k => match a k with | some o => some o | none => b k
structure HProp where
  on : Part → Prop
theorem HProp.ext' {p q : HProp} (h : ∀ x, p.on x ↔ q.on x) : p = q := by
  cases p; cases q; congr 1; funext x; exact propext (h x)
def star (p q : HProp) : HProp := ⟨fun h => ∃ a b, Part.disj a b ∧ h = a.join b ∧ p.on a ∧ q.on b⟩
instance : Mul HProp := ⟨star⟩
def emp : HProp := ⟨fun h => ∀ k, h k = none⟩
def pts (b : Nat) (o : Obj) : HProp := ⟨fun h => h = fun k => if k = b then some o else none⟩
def pure' (φ : Prop) : HProp := ⟨fun h => φ ∧ ∀ k, h k = none⟩
def hex {α : Type} (P : α → HProp) : HProp := ⟨fun h => ∃ x, (P x).on h⟩
/-- All that lay in w0. -/
def old (w0 : World) : HProp := ⟨fun h => h = fun k => w0.heap[k]?⟩

theorem star_on {p q : HProp} {h : Part} : (p * q).on h ↔ ∃ a b, Part.disj a b ∧ h = a.join b ∧ p.on a ∧ q.on b := Iff.rfl

theorem Part.join_comm {a b : Part} (h : Part.disj a b) : a.join b = b.join a := by
  funext k
  rcases h k with h | h <;> simp only [Part.join, h]
  · cases b k <;> rfl
  · cases a k <;> rfl
theorem Part.disj.symm {a b : Part} (h : Part.disj a b) : Part.disj b a := fun k => (h k).symm
theorem Part.join_assoc (a b c : Part) : (a.join b).join c = a.join (b.join c) := by
  funext k
  simp only [Part.join]
  cases a k <;> rfl
theorem Part.disj_join {a b c : Part} : Part.disj (a.join b) c ↔ Part.disj a c ∧ Part.disj b c := by
  constructor
  · intro h
    constructor <;> intro k <;> have := h k <;> simp only [Part.join] at this <;> cases ha : a k <;> simp_all
  · rintro ⟨h1, h2⟩ k
    have h1 := h1 k; have h2 := h2 k
    simp only [Part.join]
    cases ha : a k <;> simp_all
theorem Part.disj_join' {a b c : Part} : Part.disj a (b.join c) ↔ Part.disj a b ∧ Part.disj a c := by
  constructor
  · intro h
    have := Part.disj_join.1 h.symm
    exact ⟨this.1.symm, this.2.symm⟩
  · rintro ⟨h1, h2⟩
    exact (Part.disj_join.2 ⟨h1.symm, h2.symm⟩).symm

theorem star_comm (p q : HProp) : p * q = q * p := HProp.ext' fun h => by
  constructor
  all_goals
    rintro ⟨a, b, hd, rfl, hp, hq⟩
    exact ⟨b, a, hd.symm, Part.join_comm hd, hq, hp⟩
theorem star_assoc (p q r : HProp) : p * q * r = p * (q * r) := HProp.ext' fun h => by
  constructor
  · rintro ⟨x, c, hd, rfl, ⟨a, b, hd2, rfl, hp, hq⟩, hr⟩
    obtain ⟨h1, h2⟩ := Part.disj_join.1 hd
    exact ⟨a, b.join c, Part.disj_join'.2 ⟨hd2, h1⟩, Part.join_assoc a b c, hp, b, c, h2, rfl, hq, hr⟩
  · rintro ⟨a, x, hd, rfl, hp, b, c, hd2, rfl, hq, hr⟩
    obtain ⟨h1, h2⟩ := Part.disj_join'.1 hd
    exact ⟨a.join b, c, Part.disj_join.2 ⟨h2, hd2⟩, (Part.join_assoc a b c).symm, ⟨a, b, h1, rfl, hp, hq⟩, hr⟩
instance : Std.Commutative (α := HProp) (· * ·) := ⟨star_comm⟩
instance : Std.Associative (α := HProp) (· * ·) := ⟨star_assoc⟩
theorem star_left_comm (p q r : HProp) : p * (q * r) = q * (p * r) := by ac_rfl

/-- The world w holds p, and beside the heap it is as w0 was. -/
structure Sat (w0 w : World) (p : HProp) : Prop where
  os : w.os = w0.os
  tape : w.tape = w0.tape
  output : w.output = w0.output
  heap : ∃ h : Part, p.on h ∧ ∀ k o, h k = some o → w.heap[k]? = some o

variable {w0 w w' : World} {p q r F : HProp}

theorem Sat.mono (h : Sat w0 w p) (hpq : ∀ x, p.on x → q.on x) : Sat w0 w q :=
  ⟨h.os, h.tape, h.output, let ⟨x, hx, hk⟩ := h.heap; ⟨x, hpq x hx, hk⟩⟩
theorem Sat.cast (h : Sat w0 w p) (e : p = q) : Sat w0 w q := e ▸ h
theorem Sat.drop (h : Sat w0 w (p * q)) : Sat w0 w q := by
  obtain ⟨x, ⟨a, b, hd, rfl, hp, hq⟩, hk⟩ := h.heap
  refine ⟨h.os, h.tape, h.output, b, hq, fun k o ho => hk k o ?_⟩
  rcases hd k with e | e
  · simp only [Part.join, e, ho]
  · rw [e] at ho; cases ho
theorem Sat.keep (h : Sat w0 w (p * q)) : Sat w0 w p := by
  rw [star_comm] at h; exact h.drop
/-- A limb brought to the front; the second limb dropped. -/
theorem Sat.p2 {a b : HProp} (h : Sat w0 w (a * (b * F))) : Sat w0 w (b * (a * F)) := h.cast (star_left_comm a b F)
theorem Sat.p3 {a b c : HProp} (h : Sat w0 w (a * (b * (c * F)))) : Sat w0 w (c * (a * (b * F))) := h.cast (by ac_rfl)
theorem Sat.p4 {a b c d : HProp} (h : Sat w0 w (a * (b * (c * (d * F))))) : Sat w0 w (d * (a * (b * (c * F)))) := h.cast (by ac_rfl)
theorem Sat.p5 {a b c d e : HProp} (h : Sat w0 w (a * (b * (c * (d * (e * F)))))) : Sat w0 w (e * (a * (b * (c * (d * F))))) := h.cast (by ac_rfl)
theorem Sat.p6 {a b c d e f : HProp} (h : Sat w0 w (a * (b * (c * (d * (e * (f * F))))))) : Sat w0 w (f * (a * (b * (c * (d * (e * F)))))) := h.cast (by ac_rfl)
theorem Sat.d2 {a b : HProp} (h : Sat w0 w (a * (b * F))) : Sat w0 w (a * F) := h.p2.drop
theorem Sat.d3 {a b c : HProp} (h : Sat w0 w (a * (b * (c * F)))) : Sat w0 w (a * (b * F)) := h.p3.drop
theorem Sat.d4 {a b c d : HProp} (h : Sat w0 w (a * (b * (c * (d * F))))) : Sat w0 w (a * (b * (c * F))) := h.p4.drop
theorem Sat.d5 {a b c d e : HProp} (h : Sat w0 w (a * (b * (c * (d * (e * F)))))) : Sat w0 w (a * (b * (c * (d * F)))) := h.p5.drop
theorem Sat.drew (h : Sat w0 w p) : Sat w0 w.drew p := ⟨h.os, h.tape, h.output, h.heap⟩
theorem Sat.drewN (h : Sat w0 w p) (n : Nat) : Sat w0 (w.drewN n) p := ⟨h.os, h.tape, h.output, h.heap⟩
theorem Sat.ex {α : Type} {P : α → HProp} (h : Sat w0 w (hex P * F)) : ∃ x, Sat w0 w (P x * F) := by
  obtain ⟨x, ⟨a, b, hd, rfl, ⟨y, hp⟩, hq⟩, hk⟩ := h.heap
  exact ⟨y, h.os, h.tape, h.output, _, ⟨a, b, hd, rfl, hp, hq⟩, hk⟩
theorem Sat.ex_mk {α : Type} {P : α → HProp} (x : α) (h : Sat w0 w (P x * F)) : Sat w0 w (hex P * F) :=
  h.mono fun _ ⟨a, b, hd, e, hp, hq⟩ => ⟨a, b, hd, e, ⟨x, hp⟩, hq⟩
theorem Part.join_none {a b : Part} (h : ∀ k, a k = none) : a.join b = b := by funext k; simp only [Part.join, h k]
theorem pure_star {φ : Prop} {h : Part} : (pure' φ * F).on h ↔ φ ∧ F.on h := by
  constructor
  · rintro ⟨a, b, _, rfl, ⟨hf, hn⟩, hb⟩
    rw [Part.join_none hn]; exact ⟨hf, hb⟩
  · rintro ⟨hf, hb⟩
    exact ⟨fun _ => none, h, fun _ => .inl rfl, (Part.join_none fun _ => rfl).symm, ⟨hf, fun _ => rfl⟩, hb⟩
theorem emp_star : emp * F = F := HProp.ext' fun h => by
  constructor
  · rintro ⟨a, b, _, rfl, hn, hb⟩
    rw [Part.join_none hn]; exact hb
  · intro hb
    exact ⟨fun _ => none, h, fun _ => .inl rfl, (Part.join_none fun _ => rfl).symm, fun _ => rfl, hb⟩
theorem Sat.pure {φ : Prop} (h : Sat w0 w (pure' φ * F)) : φ ∧ Sat w0 w F := by
  obtain ⟨x, hx, hk⟩ := h.heap
  obtain ⟨h1, h2⟩ := pure_star.1 hx
  exact ⟨h1, h.os, h.tape, h.output, x, h2, hk⟩
theorem Sat.pure_mk {φ : Prop} (hf : φ) (h : Sat w0 w F) : Sat w0 w (pure' φ * F) := h.mono fun _ hx => pure_star.2 ⟨hf, hx⟩

theorem Sat.at_ {b : Nat} {o : Obj} (h : Sat w0 w (pts b o * F)) : w.heap[b]? = some o := by
  obtain ⟨x, ⟨a, c, hd, rfl, hp, hq⟩, hk⟩ := h.heap
  have hp' : a = _ := hp
  exact hk b o (by simp [Part.join, hp'])
theorem Sat.lt {b : Nat} {o : Obj} (h : Sat w0 w (pts b o * F)) : b < w.heap.size := by
  have := h.at_
  rcases Nat.lt_or_ge b w.heap.size with hlt | hge
  · exact hlt
  · rw [Array.getElem?_eq_none hge] at this; cases this
/-- What stands beside block b does not stand at b. -/
theorem Sat.other {b : Nat} {o : Obj} (h : Sat w0 w (pts b o * F)) : ∃ x : Part, F.on x ∧ x b = none ∧ ∀ k u, x k = some u → w.heap[k]? = some u := by
  obtain ⟨x, ⟨a, c, hd, rfl, hp, hq⟩, hk⟩ := h.heap
  have hp' : a = _ := hp
  refine ⟨c, hq, ?_, fun k u hu => hk k u ?_⟩
  · rcases hd b with e | e
    · simp [hp'] at e
    · exact e
  · rcases hd k with e | e
    · simp only [Part.join, e, hu]
    · rw [e] at hu; cases hu
theorem Sat.ne {b c : Nat} {o u : Obj} (h : Sat w0 w (pts b o * (pts c u * F))) : b ≠ c := by
  obtain ⟨x, ⟨a, d, _, rfl, hp, _⟩, hb, _⟩ := h.other
  have hp' : a = _ := hp
  rintro rfl
  simp [Part.join, hp'] at hb
theorem Sat.put {b : Nat} {o o' : Obj} (h : Sat w0 w (pts b o * F)) (hs : w'.os = w.os) (ht : w'.tape = w.tape) (ho : w'.output = w.output)
    (hb : w'.heap[b]? = some o') (hk : ∀ k, k < w.heap.size → k ≠ b → w'.heap[k]? = w.heap[k]?) : Sat w0 w' (pts b o' * F) := by
  obtain ⟨x, hx, hxb, hxk⟩ := h.other
  refine ⟨hs.trans h.os, ht.trans h.tape, ho.trans h.output, _, ⟨fun k => if k = b then some o' else none, x, fun k => ?_, rfl, rfl, hx⟩, fun k u hu => ?_⟩
  · by_cases e : k = b
    · subst e; exact .inr hxb
    · simp [e]
  · simp only [Part.join] at hu
    by_cases e : k = b
    · subst e; simp at hu; subst hu; exact hb
    · simp only [e, if_false] at hu
      have := hxk k u hu
      have hlt : k < w.heap.size := by
        rcases Nat.lt_or_ge k w.heap.size with hlt | hge
        · exact hlt
        · rw [Array.getElem?_eq_none hge] at this; cases this
      exact (hk k hlt e).trans this
/-- New blocks, nothing else. -/
theorem Sat.below (h : Sat w0 w F) (hb : Below w.heap.size w w') : Sat w0 w' F := by
  obtain ⟨x, hx, hk⟩ := h.heap
  refine ⟨hb.os.trans h.os, hb.tape.trans h.tape, hb.output.trans h.output, x, hx, fun k o ho => ?_⟩
  have := hk k o ho
  have hlt : k < w.heap.size := by
    rcases Nat.lt_or_ge k w.heap.size with hlt | hge
    · exact hlt
    · rw [Array.getElem?_eq_none hge] at this; cases this
  exact (hb.block k hlt).trans this
theorem Sat.alloc (h : Sat w0 w F) (o : Obj) : Sat w0 (w.alloc o) (pts w.heap.size o * F) := by
  obtain ⟨x, hx, hk⟩ := h.heap
  have hlt : ∀ k u, x k = some u → k < w.heap.size := fun k u hu => by
    have := hk k u hu
    rcases Nat.lt_or_ge k w.heap.size with hlt | hge
    · exact hlt
    · rw [Array.getElem?_eq_none hge] at this; cases this
  refine ⟨h.os, h.tape, h.output, _, ⟨fun k => if k = w.heap.size then some o else none, x, fun k => ?_, rfl, rfl, hx⟩, fun k u hu => ?_⟩
  · by_cases e : k = w.heap.size
    · subst e
      refine .inr ?_
      cases hx0 : x w.heap.size with
      | none => rfl
      | some u => exact absurd (hlt _ _ hx0) (Nat.lt_irrefl _)
    · simp [e]
  · simp only [Part.join] at hu
    by_cases e : k = w.heap.size
    · subst e; simp at hu; subst hu; exact heap_alloc_new w o
    · simp only [e, if_false] at hu
      rw [Below.heap_alloc w o k (hlt k u hu)]; exact hk k u hu
/-- A block of cells, none frozen. -/
def blk (b : Nat) (t : TypeId) (cs : Array Value) : HProp := pts b (.cells cs t (0, 0))
theorem Sat.new (h : Sat w0 w F) (t : TypeId) (cs : Array Value) : Sat w0 (w.alloc (.cells cs t)) (blk w.heap.size t cs * F) := h.alloc _
theorem Sat.blk_lt {b : Nat} {t : TypeId} {cs : Array Value} (h : Sat w0 w (blk b t cs * F)) : b < w.heap.size := Sat.lt h
theorem Sat.cell {b : Nat} {t : TypeId} {cs : Array Value} (h : Sat w0 w (blk b t cs * F)) (i : Nat) : w.cell? ⟨b, i, none⟩ = cs[i]? := by
  have := Sat.at_ h
  simp [World.cell?, this]
theorem Sat.frozen {b : Nat} {t : TypeId} {cs : Array Value} (h : Sat w0 w (blk b t cs * F)) (i : Nat) : w.frozen? ⟨b, i, none⟩ = false := by
  have := Sat.at_ h
  simp [World.frozen?, this]
theorem Sat.set {b : Nat} {t : TypeId} {cs : Array Value} (h : Sat w0 w (blk b t cs * F)) (i : Nat) (v : Value) : Sat w0 (w.setCell ⟨b, i, none⟩ v) (blk b t (cs.setIfInBounds i v) * F) := by
  refine Sat.put (o := .cells cs t (0, 0)) h rfl rfl rfl ?_ fun k hk hne => Below.heap_setCell w ⟨b, i, none⟩ v k hne
  have := Sat.at_ h
  simp [World.setCell, Array.getElem?_modify, this]
theorem Sat.start (w : World) : Sat w w (old w) := ⟨rfl, rfl, rfl, fun k => w.heap[k]?, rfl, fun _ _ h => h⟩
theorem Sat.ends (h : Sat w0 w (old w0 * F)) : Below w0.heap.size w0 w := by
  obtain ⟨x, hx, hk⟩ := h.keep.heap
  have hx' : x = _ := hx
  subst hx'
  have hall : ∀ k, k < w0.heap.size → w.heap[k]? = w0.heap[k]? := fun k hlt => by
    have h1 : w0.heap[k]? = some w0.heap[k] := Array.getElem?_eq_getElem hlt
    exact (hk k _ h1).trans h1.symm
  refine ⟨h.os, h.tape, h.output, ?_, hall⟩
  rcases Nat.lt_or_ge w.heap.size w0.heap.size with hgt | hle
  · have h1 := hall w.heap.size hgt
    rw [Array.getElem?_eq_none (Nat.le_refl _), Array.getElem?_eq_getElem hgt] at h1
    cases h1
  · exact hle
theorem Sat.old_cell (h : Sat w0 w (old w0 * F)) {a : Addr} {v : Value} (hc : w0.cell? a = some v) : w.cell? a = some v := by
  have hb := h.ends
  have hlt : a.block < w0.heap.size := by
    rcases Nat.lt_or_ge a.block w0.heap.size with hlt | hge
    · exact hlt
    · simp [World.cell?, Array.getElem?_eq_none hge] at hc
  rw [hb.cell hlt]; exact hc
end Go.Proofs.Ytapoehkdnglahaa
