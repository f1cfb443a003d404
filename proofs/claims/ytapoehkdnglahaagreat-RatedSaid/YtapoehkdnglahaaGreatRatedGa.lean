/- SL Slc WireP Args S Op Draw Op2 Val Row App, joined. -/
import Derived.Below
import Derived.WalkKit
import Derived.WalkSmall
import Derived.Deep.Draws
import Derived.Lib.Hide
import Derived.Deep.QuietTactic
import Derived.BigQuiet
import Derived.WalkLawsBesides
import Derived.WalkSpells
import Derived.Laws.AppendOwn
import Derived.Laws.Tables
import Derived.Laws.CopyRow
import Derived.OwnWalk
import GoSem.Core.Value
import Derived.Test.YtapoehkdnglahaaGreatRows
import Derived.ProofKit
import Derived.OpenShut
import Derived.Deep.Slices
import Derived.Deep.Fields
import Derived.OrdersHeld
import Derived.Defers
import Derived.TacticsIn
import Derived.OrdersIn
import Derived.IntWalk
import Derived.Great.BuildSlice
import Derived.Laws.BytesString
import Derived.Laws.IdiomStrings
import Derived.Laws.Strings
import Derived.MapKept
import Derived.Laws.MakeOwn
import Derived.Test.YtapoehkdnglahaaGreatProg
import Derived.KernelRfl
import Derived.Laws.Pointers
import Derived.Shelf.SlSortCmp.WholeK
import Derived.RangeFuncRecord
import Derived.RangeFuncSeq
import Derived.Maps.RangeRun
import Derived.Laws.BitsAllLaws
import Derived.Laws.Entries
import Derived.RecoverIn
import Derived.Laws.Build
import Derived.WideLaws
import Derived.Shelf.SlSortCmp.NoneTotal
import Derived.Conc.MuLone
/- Separating assertions over the model's heap: no program in sight. Proved: the laws by which a world that meets one keeps or changes it. -/
namespace Go.Proofs.YtapoehkdnglahaaGreat
open Go.RowKit
set_option linter.unusedVariables false
set_option linter.unusedSectionVars false

@[go_sem] theorem World.alloc_drewN (w : World) (n : Nat) (o : Obj) : (w.drewN n).alloc o = (w.alloc o).drewN n := rfl
@[go_sem] theorem World.setCell_drewN (w : World) (n : Nat) (a : Addr) (v : Value) : (w.drewN n).setCell a v = (w.setCell a v).drewN n := rfl
/-- A part of a heap. -/
abbrev Part := Nat → Option Obj
def Part.disj (a b : Part) : Prop := ∀ k, a k = none ∨ b k = none
def Part.join (a b : Part) : Part := fun k => match a k with | some o => some o | none => b k
structure HProp where
  on : Part → Prop
theorem HProp.ext' {p q : HProp} (h : ∀ x, p.on x ↔ q.on x) : p = q := by
  cases p; cases q; congr 1; funext x; exact propext (h x)
def star (p q : HProp) : HProp := ⟨fun h => ∃ a b, Part.disj a b ∧ h = a.join b ∧ p.on a ∧ q.on b⟩
instance : Mul HProp := ⟨star⟩
def emp : HProp := ⟨fun h => ∀ k, h k = none⟩
def pts (b : Nat) (o : Obj) : HProp := ⟨fun h => h = fun k => if k = b then some o else none⟩
def pure' (φ : Prop) : HProp := ⟨fun h => φ ∧ ∀ k, h k = none⟩
def hex {α : Type} (P : α → HProp) : HProp := ⟨fun h => ∃ x, (P x).on h⟩
/-- All that lay in w0. -/
def old (w0 : World) : HProp := ⟨fun h => h = fun k => w0.heap[k]?⟩

theorem Part.join_comm {a b : Part} (h : Part.disj a b) : a.join b = b.join a := by
  funext k
  rcases h k with h | h <;> simp only [Part.join, h]
  · cases b k <;> rfl
  · cases a k <;> rfl
theorem Part.disj.symm {a b : Part} (h : Part.disj a b) : Part.disj b a := fun k => (h k).symm
theorem Part.join_assoc (a b c : Part) : (a.join b).join c = a.join (b.join c) := by
  funext k
  simp only [Part.join]
  cases a k <;> rfl
theorem Part.disj_join {a b c : Part} : Part.disj (a.join b) c ↔ Part.disj a c ∧ Part.disj b c := by
  constructor
  · intro h
    constructor <;> intro k <;> have := h k <;> simp only [Part.join] at this <;> cases ha : a k <;> simp_all
  · rintro ⟨h1, h2⟩ k
    have h1 := h1 k; have h2 := h2 k
    simp only [Part.join]
    cases ha : a k <;> simp_all
theorem Part.disj_join' {a b c : Part} : Part.disj a (b.join c) ↔ Part.disj a b ∧ Part.disj a c := by
  constructor
  · intro h
    have := Part.disj_join.1 h.symm
    exact ⟨this.1.symm, this.2.symm⟩
  · rintro ⟨h1, h2⟩
    exact (Part.disj_join.2 ⟨h1.symm, h2.symm⟩).symm

theorem star_comm (p q : HProp) : p * q = q * p := HProp.ext' fun h => by
  constructor
  all_goals
    rintro ⟨a, b, hd, rfl, hp, hq⟩
    exact ⟨b, a, hd.symm, Part.join_comm hd, hq, hp⟩
theorem star_assoc (p q r : HProp) : p * q * r = p * (q * r) := HProp.ext' fun h => by
  constructor
  · rintro ⟨x, c, hd, rfl, ⟨a, b, hd2, rfl, hp, hq⟩, hr⟩
    obtain ⟨h1, h2⟩ := Part.disj_join.1 hd
    exact ⟨a, b.join c, Part.disj_join'.2 ⟨hd2, h1⟩, Part.join_assoc a b c, hp, b, c, h2, rfl, hq, hr⟩
  · rintro ⟨a, x, hd, rfl, hp, b, c, hd2, rfl, hq, hr⟩
    obtain ⟨h1, h2⟩ := Part.disj_join'.1 hd
    exact ⟨a.join b, c, Part.disj_join.2 ⟨h2, hd2⟩, (Part.join_assoc a b c).symm, ⟨a, b, h1, rfl, hp, hq⟩, hr⟩
instance : Std.Commutative (α := HProp) (· * ·) := ⟨star_comm⟩
instance : Std.Associative (α := HProp) (· * ·) := ⟨star_assoc⟩
theorem star_left_comm (p q r : HProp) : p * (q * r) = q * (p * r) := by ac_rfl

/-- The world w holds p, and beside the heap it is as w0 was. -/
structure Sat (w0 w : World) (p : HProp) : Prop where
  os : w.os = w0.os
  tape : w.tape = w0.tape
  output : w.output = w0.output
  heap : ∃ h : Part, p.on h ∧ ∀ k o, h k = some o → w.heap[k]? = some o

variable {w0 w w' : World} {p q r F : HProp}

theorem Sat.mono (h : Sat w0 w p) (hpq : ∀ x, p.on x → q.on x) : Sat w0 w q :=
  ⟨h.os, h.tape, h.output, let ⟨x, hx, hk⟩ := h.heap; ⟨x, hpq x hx, hk⟩⟩
theorem Sat.cast (h : Sat w0 w p) (e : p = q) : Sat w0 w q := e ▸ h
theorem Sat.drop (h : Sat w0 w (p * q)) : Sat w0 w q := by
  obtain ⟨x, ⟨a, b, hd, rfl, hp, hq⟩, hk⟩ := h.heap
  refine ⟨h.os, h.tape, h.output, b, hq, fun k o ho => hk k o ?_⟩
  rcases hd k with e | e
  · simp only [Part.join, e, ho]
  · rw [e] at ho; cases ho
theorem Sat.keep (h : Sat w0 w (p * q)) : Sat w0 w p := by
  rw [star_comm] at h; exact h.drop
/-- A limb brought to the front; the second limb dropped. -/
theorem Sat.p2 {a b : HProp} (h : Sat w0 w (a * (b * F))) : Sat w0 w (b * (a * F)) := h.cast (star_left_comm a b F)
theorem Sat.p3 {a b c : HProp} (h : Sat w0 w (a * (b * (c * F)))) : Sat w0 w (c * (a * (b * F))) := h.cast (by ac_rfl)
theorem Sat.p4 {a b c d : HProp} (h : Sat w0 w (a * (b * (c * (d * F))))) : Sat w0 w (d * (a * (b * (c * F)))) := h.cast (by ac_rfl)
theorem Sat.p5 {a b c d e : HProp} (h : Sat w0 w (a * (b * (c * (d * (e * F)))))) : Sat w0 w (e * (a * (b * (c * (d * F))))) := h.cast (by ac_rfl)
theorem Sat.p6 {a b c d e f : HProp} (h : Sat w0 w (a * (b * (c * (d * (e * (f * F))))))) : Sat w0 w (f * (a * (b * (c * (d * (e * F)))))) := h.cast (by ac_rfl)
theorem Sat.d2 {a b : HProp} (h : Sat w0 w (a * (b * F))) : Sat w0 w (a * F) := h.p2.drop
theorem Sat.drew (h : Sat w0 w p) : Sat w0 w.drew p := ⟨h.os, h.tape, h.output, h.heap⟩
theorem Sat.drewN (h : Sat w0 w p) (n : Nat) : Sat w0 (w.drewN n) p := ⟨h.os, h.tape, h.output, h.heap⟩
theorem Sat.ex {α : Type} {P : α → HProp} (h : Sat w0 w (hex P * F)) : ∃ x, Sat w0 w (P x * F) := by
  obtain ⟨x, ⟨a, b, hd, rfl, ⟨y, hp⟩, hq⟩, hk⟩ := h.heap
  exact ⟨y, h.os, h.tape, h.output, _, ⟨a, b, hd, rfl, hp, hq⟩, hk⟩
theorem Sat.ex_mk {α : Type} {P : α → HProp} (x : α) (h : Sat w0 w (P x * F)) : Sat w0 w (hex P * F) :=
  h.mono fun _ ⟨a, b, hd, e, hp, hq⟩ => ⟨a, b, hd, e, ⟨x, hp⟩, hq⟩
theorem Part.join_none {a b : Part} (h : ∀ k, a k = none) : a.join b = b := by funext k; simp only [Part.join, h k]
theorem pure_star {φ : Prop} {h : Part} : (pure' φ * F).on h ↔ φ ∧ F.on h := by
  constructor
  · rintro ⟨a, b, _, rfl, ⟨hf, hn⟩, hb⟩
    rw [Part.join_none hn]; exact ⟨hf, hb⟩
  · rintro ⟨hf, hb⟩
    exact ⟨fun _ => none, h, fun _ => .inl rfl, (Part.join_none fun _ => rfl).symm, ⟨hf, fun _ => rfl⟩, hb⟩
theorem emp_star : emp * F = F := HProp.ext' fun h => by
  constructor
  · rintro ⟨a, b, _, rfl, hn, hb⟩
    rw [Part.join_none hn]; exact hb
  · intro hb
    exact ⟨fun _ => none, h, fun _ => .inl rfl, (Part.join_none fun _ => rfl).symm, fun _ => rfl, hb⟩
theorem Sat.pure {φ : Prop} (h : Sat w0 w (pure' φ * F)) : φ ∧ Sat w0 w F := by
  obtain ⟨x, hx, hk⟩ := h.heap
  obtain ⟨h1, h2⟩ := pure_star.1 hx
  exact ⟨h1, h.os, h.tape, h.output, x, h2, hk⟩
theorem Sat.pure_mk {φ : Prop} (hf : φ) (h : Sat w0 w F) : Sat w0 w (pure' φ * F) := h.mono fun _ hx => pure_star.2 ⟨hf, hx⟩

theorem Sat.at_ {b : Nat} {o : Obj} (h : Sat w0 w (pts b o * F)) : w.heap[b]? = some o := by
  obtain ⟨x, ⟨a, c, hd, rfl, hp, hq⟩, hk⟩ := h.heap
  have hp' : a = _ := hp
  exact hk b o (by simp [Part.join, hp'])
theorem Sat.lt {b : Nat} {o : Obj} (h : Sat w0 w (pts b o * F)) : b < w.heap.size := by
  have := h.at_
  rcases Nat.lt_or_ge b w.heap.size with hlt | hge
  · exact hlt
  · rw [Array.getElem?_eq_none hge] at this; cases this
/-- What stands beside block b does not stand at b. -/
theorem Sat.other {b : Nat} {o : Obj} (h : Sat w0 w (pts b o * F)) : ∃ x : Part, F.on x ∧ x b = none ∧ ∀ k u, x k = some u → w.heap[k]? = some u := by
  obtain ⟨x, ⟨a, c, hd, rfl, hp, hq⟩, hk⟩ := h.heap
  have hp' : a = _ := hp
  refine ⟨c, hq, ?_, fun k u hu => hk k u ?_⟩
  · rcases hd b with e | e
    · simp [hp'] at e
    · exact e
  · rcases hd k with e | e
    · simp only [Part.join, e, hu]
    · rw [e] at hu; cases hu
theorem Sat.put {b : Nat} {o o' : Obj} (h : Sat w0 w (pts b o * F)) (hs : w'.os = w.os) (ht : w'.tape = w.tape) (ho : w'.output = w.output)
    (hb : w'.heap[b]? = some o') (hk : ∀ k, k < w.heap.size → k ≠ b → w'.heap[k]? = w.heap[k]?) : Sat w0 w' (pts b o' * F) := by
  obtain ⟨x, hx, hxb, hxk⟩ := h.other
  refine ⟨hs.trans h.os, ht.trans h.tape, ho.trans h.output, _, ⟨fun k => if k = b then some o' else none, x, fun k => ?_, rfl, rfl, hx⟩, fun k u hu => ?_⟩
  · by_cases e : k = b
    · subst e; exact .inr hxb
    · simp [e]
  · simp only [Part.join] at hu
    by_cases e : k = b
    · subst e; simp at hu; subst hu; exact hb
    · simp only [e, if_false] at hu
      have := hxk k u hu
      have hlt : k < w.heap.size := by
        rcases Nat.lt_or_ge k w.heap.size with hlt | hge
        · exact hlt
        · rw [Array.getElem?_eq_none hge] at this; cases this
      exact (hk k hlt e).trans this
theorem Sat.alloc (h : Sat w0 w F) (o : Obj) : Sat w0 (w.alloc o) (pts w.heap.size o * F) := by
  obtain ⟨x, hx, hk⟩ := h.heap
  have hlt : ∀ k u, x k = some u → k < w.heap.size := fun k u hu => by
    have := hk k u hu
    rcases Nat.lt_or_ge k w.heap.size with hlt | hge
    · exact hlt
    · rw [Array.getElem?_eq_none hge] at this; cases this
  refine ⟨h.os, h.tape, h.output, _, ⟨fun k => if k = w.heap.size then some o else none, x, fun k => ?_, rfl, rfl, hx⟩, fun k u hu => ?_⟩
  · by_cases e : k = w.heap.size
    · subst e
      refine .inr ?_
      cases hx0 : x w.heap.size with
      | none => rfl
      | some u => exact absurd (hlt _ _ hx0) (Nat.lt_irrefl _)
    · simp [e]
  · simp only [Part.join] at hu
    by_cases e : k = w.heap.size
    · subst e; simp at hu; subst hu; exact heap_alloc_new w o
    · simp only [e, if_false] at hu
      rw [Below.heap_alloc w o k (hlt k u hu)]; exact hk k u hu
/-- A block of cells, none frozen. -/
def blk (b : Nat) (t : TypeId) (cs : Array Value) : HProp := pts b (.cells cs t (0, 0))
theorem Sat.new (h : Sat w0 w F) (t : TypeId) (cs : Array Value) : Sat w0 (w.alloc (.cells cs t)) (blk w.heap.size t cs * F) := h.alloc _
theorem Sat.cell {b : Nat} {t : TypeId} {cs : Array Value} (h : Sat w0 w (blk b t cs * F)) (i : Nat) : w.cell? ⟨b, i, none⟩ = cs[i]? := by
  have := Sat.at_ h
  simp [World.cell?, this]
theorem Sat.frozen {b : Nat} {t : TypeId} {cs : Array Value} (h : Sat w0 w (blk b t cs * F)) (i : Nat) : w.frozen? ⟨b, i, none⟩ = false := by
  have := Sat.at_ h
  simp [World.frozen?, this]
theorem Sat.set {b : Nat} {t : TypeId} {cs : Array Value} (h : Sat w0 w (blk b t cs * F)) (i : Nat) (v : Value) : Sat w0 (w.setCell ⟨b, i, none⟩ v) (blk b t (cs.setIfInBounds i v) * F) := by
  refine Sat.put (o := .cells cs t (0, 0)) h rfl rfl rfl ?_ fun k hk hne => Below.heap_setCell w ⟨b, i, none⟩ v k hne
  have := Sat.at_ h
  simp [World.setCell, Array.getElem?_modify, this]
theorem Sat.start (w : World) : Sat w w (old w) := ⟨rfl, rfl, rfl, fun k => w.heap[k]?, rfl, fun _ _ h => h⟩
theorem Sat.ends (h : Sat w0 w (old w0 * F)) : Below w0.heap.size w0 w := by
  obtain ⟨x, hx, hk⟩ := h.keep.heap
  have hx' : x = _ := hx
  subst hx'
  have hall : ∀ k, k < w0.heap.size → w.heap[k]? = w0.heap[k]? := fun k hlt => by
    have h1 : w0.heap[k]? = some w0.heap[k] := Array.getElem?_eq_getElem hlt
    exact (hk k _ h1).trans h1.symm
  refine ⟨h.os, h.tape, h.output, ?_, hall⟩
  rcases Nat.lt_or_ge w.heap.size w0.heap.size with hgt | hle
  · have h1 := hall w.heap.size hgt
    rw [Array.getElem?_eq_none (Nat.le_refl _), Array.getElem?_eq_getElem hgt] at h1
    cases h1
  · exact hle
theorem Sat.old_cell (h : Sat w0 w (old w0 * F)) {a : Addr} {v : Value} (hc : w0.cell? a = some v) : w.cell? a = some v := by
  have hb := h.ends
  have hlt : a.block < w0.heap.size := by
    rcases Nat.lt_or_ge a.block w0.heap.size with hlt | hge
    · exact hlt
    · simp [World.cell?, Array.getElem?_eq_none hge] at hc
  rw [hb.cell hlt]; exact hc
end Go.Proofs.YtapoehkdnglahaaGreat

/- Slices that a call owns, as separating assertions: reading, storing, append from whatever source: no program in sight. -/
namespace Go.Proofs.YtapoehkdnglahaaGreat
open Go.RowKit
set_option linter.unusedVariables false
set_option linter.unusedSectionVars false
variable {w0 w w' : World} {F : HProp} {P : Program}

def unfrozen (fr : Nat × Nat) (lo hi : Nat) : Prop := ∀ i, lo ≤ i → i < hi → (decide (fr.1 ≤ i) && decide (i < fr.2)) = false
/-- The slice value v of n elements (size cells each, element type e) owns its block, and its elements' cells are xs; a slice without capacity owns nothing. -/
def slc (e : TypeId) (size : Nat) (v : Value) (n : Nat) (xs : List Value) : HProp :=
  ⟨fun h => xs.length = n * size ∧ ((∃ A, v = .slice A 0 0 ∧ n = 0 ∧ ∀ k, h k = none) ∨
    ∃ g off cap cur fr, v = .slice (some ⟨g, off, none⟩) n cap ∧ n ≤ cap ∧ cap ≤ maxLen ∧ off + cap * size ≤ cur.size ∧ (cur.toList.drop off).take (n * size) = xs ∧
      unfrozen fr off (off + cap * size) ∧ h = fun k => if k = g then some (.cells cur e fr) else none)⟩

theorem Sat.slc_nil (h : Sat w0 w F) (e : TypeId) (size : Nat) (A : Option Addr) : Sat w0 w (slc e size (.slice A 0 0) 0 [] * F) := by
  rw [← emp_star (F := F)] at h
  exact h.mono fun x ⟨a, b, hd, he, hp, hq⟩ => ⟨a, b, hd, he, ⟨by simp, .inl ⟨A, rfl, rfl, hp⟩⟩, hq⟩

theorem Sat.slc_mk (e : TypeId) (size n g off cap : Nat) (cur : Array Value) (fr : Nat × Nat) (xs : List Value) (h : Sat w0 w (pts g (.cells cur e fr) * F))
    (hl : xs.length = n * size) (hn : n ≤ cap) (hm : cap ≤ maxLen) (hc : off + cap * size ≤ cur.size) (ht : (cur.toList.drop off).take (n * size) = xs) (hf : unfrozen fr off (off + cap * size)) :
    Sat w0 w (slc e size (.slice (some ⟨g, off, none⟩) n cap) n xs * F) :=
  h.mono fun _ ⟨a, b, hd, he, hp, hq⟩ => ⟨a, b, hd, he, ⟨hl, .inr ⟨g, off, cap, cur, fr, rfl, hn, hm, hc, ht, hf, hp⟩⟩, hq⟩

theorem Sat.slc_cases {e : TypeId} {size : Nat} {v : Value} {n : Nat} {xs : List Value} (h : Sat w0 w (slc e size v n xs * F)) :
    xs.length = n * size ∧ ((∃ A, v = .slice A 0 0 ∧ n = 0 ∧ Sat w0 w F) ∨
      ∃ g off cap cur fr, v = .slice (some ⟨g, off, none⟩) n cap ∧ n ≤ cap ∧ cap ≤ maxLen ∧ off + cap * size ≤ cur.size ∧ (cur.toList.drop off).take (n * size) = xs ∧
        unfrozen fr off (off + cap * size) ∧ Sat w0 w (pts g (.cells cur e fr) * F)) := by
  obtain ⟨x, ⟨a, b, hd, he, ⟨hl, hp⟩, hq⟩, hk⟩ := h.heap
  refine ⟨hl, ?_⟩
  rcases hp with ⟨A, rfl, rfl, hn⟩ | ⟨g, off, cap, cur, fr, rfl, hn, hm, hc, ht, hf, hp⟩
  · exact .inl ⟨A, rfl, rfl, h.drop⟩
  · exact .inr ⟨g, off, cap, cur, fr, rfl, hn, hm, hc, ht, hf, h.os, h.tape, h.output, x, ⟨a, b, hd, he, hp, hq⟩, hk⟩

theorem Sat.slc_form {e : TypeId} {size : Nat} {v : Value} {n : Nat} {xs : List Value} (h : Sat w0 w (slc e size v n xs * F)) : ∃ A c, v = .slice A n c := by
  obtain ⟨_, ⟨A, rfl, rfl, _⟩ | ⟨g, off, cap, _, _, rfl, _⟩⟩ := h.slc_cases
  · exact ⟨_, _, rfl⟩
  · exact ⟨_, _, rfl⟩
def sliceLen : Value → Nat
  | .slice _ n _ => n
  | _ => 0
theorem add_lit (g off j : Nat) : (⟨g, off, none⟩ : Addr).add j = ⟨g, off + j, none⟩ := by unfold Addr.add; split <;> simp_all

theorem slc_at {cur : Array Value} {off k j : Nat} {xs : List Value} {u : Value} (ht : (cur.toList.drop off).take k = xs) (hu : xs[j]? = some u) : cur[off + j]? = some u := by
  rw [← ht, List.getElem?_take] at hu
  split at hu
  · rw [List.getElem?_drop] at hu; simpa using hu
  · cases hu

/-- Its cells, read. -/
theorem Sat.slc_cell {e : TypeId} {size : Nat} {v : Value} {n : Nat} {xs : List Value} (h : Sat w0 w (slc e size v n xs * F)) (hn : xs ≠ []) :
    ∃ g off cap, v = .slice (some ⟨g, off, none⟩) n cap ∧ n ≤ cap ∧ cap ≤ maxLen ∧ (∀ j u, xs[j]? = some u → w.cell? ⟨g, off + j, none⟩ = some u ∧ w.frozen? ⟨g, off + j, none⟩ = false) := by
  obtain ⟨hl, ⟨A, rfl, rfl, _⟩ | ⟨g, off, cap, cur, fr, rfl, hn, hm, hc, ht, hf, hs⟩⟩ := h.slc_cases
  · exact absurd (List.eq_nil_of_length_eq_zero (by simpa using hl)) hn
  · refine ⟨g, off, cap, rfl, hn, hm, fun j u hu => ?_⟩
    have hg := hs.at_
    have hj : j < n * size := by rw [← hl]; exact (List.getElem?_eq_some_iff.1 hu).1
    have hle : n * size ≤ cap * size := Nat.mul_le_mul_right _ hn
    exact ⟨by simp [World.cell?, hg, slc_at ht hu], by have := hf (off + j) (by omega) (by omega); simpa [World.frozen?, hg] using this⟩

/-- What append takes behind it: m elements, the cells news. -/
structure Src (P : Program) (w : World) (size m : Nat) (x : Value) (news : List Value) : Prop where
  len : Builtin.lenOf x = pure m
  length : news.length = m * size
  cells : ∀ w' : World, w'.heap = w.heap → (Builtin.firstCells size m x).run P w' = .ok news.toArray w'

theorem Src.slice (size m c : Nat) (a : Addr) (news : List Value) (hl : news.length = m * size) (h : ∀ j u, news[j]? = some u → w.cell? (a.add j) = some u) :
    Src P w size m (.slice (some a) m c) news :=
  ⟨rfl, hl, fun w' hw => run_firstCells_some w' size m a m c news hl fun j u hu => (World.cell?_of_block (by rw [hw])).trans (h j u hu)⟩
theorem Src.nil (size c : Nat) : Src P w size 0 (.slice none 0 c) [] := ⟨rfl, by simp, fun w' _ => run_firstCells_none w' size 0 0 c⟩
theorem Src.string (s : ByteArray) : Src P w 1 s.size (.string s) (s.data.toList.map fun b => .int .u8 b.toNat) :=
  ⟨rfl, by simp, fun w' _ => by
    have hx : (s.extract 0 s.size) = s := by simp
    simp only [Builtin.firstCells, hx, Sem.run_pure]
    congr 1
    apply Array.ext'
    simp⟩
theorem Src.nothing (size c : Nat) (A : Option Addr) : Src P w size 0 (.slice A 0 c) [] := by
  cases A with
  | none => exact Src.nil size c
  | some a => exact Src.slice size 0 c a [] (by simp) (by simp)
theorem Src.row {A : Option Addr} {size n cap g off : Nat} {xs : List Value} (hs : 0 < size) (hl : xs.length = n * size) (hA : xs ≠ [] → A = some ⟨g, off, none⟩) (hc : ∀ j u, xs[j]? = some u → w.cell? ⟨g, off + j, none⟩ = some u) : Src P w size n (.slice A n cap) xs := by
  by_cases hx : xs = []
  · subst hx
    have : n = 0 := by
      rcases Nat.eq_zero_or_pos n with h | h
      · exact h
      · have := Nat.mul_pos h hs; simp at hl; omega
    subst this
    exact Src.nothing size cap A
  · rw [hA hx]
    exact Src.slice size n cap _ xs hl fun j u hu => by rw [add_lit]; exact hc j u hu
/-- A slice that the call owns is a source too; a whole block. -/
theorem Src.new {g : Nat} {t : TypeId} {cs : Array Value} {xs : List Value} (he : cs.toList = xs) (size m c : Nat) (h : Sat w0 w (blk g t cs * F)) (hl : xs.length = m * size) : Src P w size m (.slice (some ⟨g, 0, none⟩) m c) xs :=
  Src.slice size m c _ _ hl fun j u hu => by
    subst he
    rw [add_lit, h.cell]
    simpa using hu
theorem Src.own {e : TypeId} {size : Nat} {v : Value} {n : Nat} {xs : List Value} (h : Sat w0 w (slc e size v n xs * F)) : Src P w size n v xs := by
  obtain ⟨hl, ⟨A, rfl, rfl, _⟩ | ⟨g, off, cap, cur, fr, rfl, hn, hm, hc, ht, hf, hs⟩⟩ := h.slc_cases
  · obtain rfl : xs = [] := List.eq_nil_of_length_eq_zero (by simpa using hl)
    exact Src.nothing size 0 A
  · refine Src.slice size n cap _ xs hl fun j u hu => ?_
    rw [add_lit]
    have hg := hs.at_
    simp [World.cell?, hg, slc_at ht hu]

/-- A row of stores inside one block. -/
theorem run_storeCells_fr (g o : Nat) (t : TypeId) (fr : Nat × Nat) : ∀ (vs : List Value) (i : Nat) (cur : Array Value) (w : World), w.heap[g]? = some (.cells cur t fr) → o + i + vs.length ≤ cur.size → (∀ v ∈ vs, v.oneCell' = true) →
    unfrozen fr (o + i) (o + i + vs.length) →
    (storeCells ⟨g, o, none⟩ vs i).run P w = .ok () (w.setRow g (cur.toList.take (o + i) ++ vs ++ cur.toList.drop (o + i + vs.length)).toArray)
  | [], i, cur, w, hg, _, _, _ => by
    simp only [storeCells, List.append_nil, List.length_nil, Nat.add_zero, List.take_append_drop, Array.toArray_toList]
    rw [setRow_self w g cur t fr hg]
    rfl
  | v :: rest, i, cur, w, hg, hl, h1, hf => by
    have hi : o + i < cur.size := by simp at hl; omega
    have hadd : (⟨g, o, none⟩ : Addr).add i = ⟨g, o + i, none⟩ := add_lit g o i
    have hcell : w.cell? ⟨g, o + i, none⟩ = some cur[o + i] := by simp [World.cell?, hg, hi]
    have hfro : w.frozen? ⟨g, o + i, none⟩ = false := by
      have := hf (o + i) (by omega) (by simp)
      simpa [World.frozen?, hg] using this
    have hst : (store ((⟨g, o, none⟩ : Addr).add i) v).run P w = .ok () (w.setRow g (cur.setIfInBounds (o + i) v)) := by
      rw [hadd, run_store P w _ v _ (h1 v (by simp)), hcell]
      simp [hfro, setCell_eq_setRow w g (o + i) cur t fr v hg]
    have ih := run_storeCells_fr g o t fr rest (i + 1) (cur.setIfInBounds (o + i) v) (w.setRow g (cur.setIfInBounds (o + i) v)) (setRow_heap w g cur _ t _ hg) (by simp at hl ⊢; omega) (fun x hx => h1 x (by simp [hx]))
      (fun k hk1 hk2 => hf k (by omega) (by simp; omega))
    simp only [storeCells, Sem.run_bind, hst, Result.andThen]
    rw [ih]
    congr 1
    rw [setRow_setRow]
    congr 1
    apply Array.ext'
    apply List.ext_getElem?
    intro j
    simp only [Array.toList_setIfInBounds, List.length_cons]
    rw [List.getElem?_append, List.getElem?_append, List.getElem?_append, List.getElem?_append]
    simp only [List.length_append, List.length_take, List.length_set, Array.length_toList, List.getElem?_take, List.getElem?_drop, List.length_cons, List.getElem?_set]
    have e1 : min (o + (i + 1)) cur.size = o + i + 1 := by omega
    have e2 : min (o + i) cur.size = o + i := by omega
    rw [e1, e2]
    by_cases c1 : j < o + i
    · simp [c1, show j < o + i + 1 by omega, show j < o + i + 1 + rest.length by omega, show j < o + i + (rest.length + 1) by omega, show ¬ (o + i = j) by omega, show j < o + (i + 1) by omega]
    · by_cases c2 : j = o + i
      · subst c2
        simp [show o + i < o + (i + 1) by omega, show o + i < o + i + 1 + rest.length by omega, hi]
      · by_cases c3 : j < o + i + 1 + rest.length
        · have : j - (o + i) = (j - (o + i + 1)) + 1 := by omega
          simp [show ¬ j < o + i + 1 by omega, c1, show j < o + i + (rest.length + 1) by omega, c3, this]
        · simp [show ¬ j < o + i + (rest.length + 1) by omega, c3, show ¬ (o + i = o + (i + 1) + rest.length + (j - (o + i + 1 + rest.length))) by omega]
          congr 1
          omega

section append
variable (P) (t t2 ty e : TypeId) (i : TypeInfo) (z : Value) (size bytes : Nat)

theorem take_drop_mid {xs ys : List Value} {cur : List Value} {off k m : Nat} (ht : (cur.drop off).take k = xs) (hk : off + k + ys.length ≤ cur.length) (hx : xs.length = k) (hm : m = k + ys.length) :
    ((cur.take (off + k) ++ ys ++ cur.drop (off + k + ys.length)).drop off).take m = xs ++ ys := by
  subst hm
  have h1 : (cur.take (off + k)).drop off = xs := by rw [List.drop_take, ← ht]; congr 1; omega
  rw [List.append_assoc, List.drop_append_of_le_length (by simp; omega), h1, ← List.append_assoc, List.take_append_of_le_length (by simp; omega)]
  exact List.take_of_length_le (by simp; omega)

theorem run_append_sl (ht : P.underlying t = some (.slice e)) (h2 : P.underlying t2 = some (.slice e) ∨ P.underlying t2 = some .string) (hi : P.info? e = some i) (hz : i.zero = some z)
    (hsize : i.size = size) (hby : i.bytes = bytes) (hzs : z.cells.size = size) (hsz : 0 < size)
    (v : Value) (n : Nat) (xs : List Value) (h : Sat w0 w (slc e size v n xs * F)) (m : Nat) (x : Value) (news : List Value) (src : Src P w size m x news) (h1 : ∀ u ∈ news, u.oneCell' = true)
    (h63 : n + m ≤ maxLen) (hbytes : (n + m) * bytes ≤ 140737488355328) :
    ∃ v' w', (Builtin.append_ #[t, t2] ty #[v, x]).run P w = .ok v' w' ∧ Sat w0 w' (slc e size v' (n + m) (xs ++ news) * F) := by
  subst hsize
  subst hby
  obtain ⟨hl, hc⟩ := h.slc_cases
  have hlen : (xs ++ news).length = (n + m) * i.size := by rw [List.length_append, hl, src.length, Nat.add_mul]
  have hx0 := src.len
  have grow : ∀ (old : Nat) (A : Option Addr), old < n + m → v = .slice A n old → (∀ w' : World, w'.heap = w.heap → (Builtin.firstCells i.size n v).run P w' = .ok xs.toArray w') → Sat w0 w F →
      ∃ v' w', (Builtin.append_ #[t, t2] ty #[v, x]).run P w = .ok v' w' ∧ Sat w0 w' (slc e i.size v' (n + m) (xs ++ news) * F) := by
    intro old A ho hv hold hF
    subst hv
    have hge := grownCap_ge w (n + m) old e
    have hcm : grownCap w (n + m) old e ≤ maxLen := grownCap_le_maxLen w (n + m) old e h63
    have hn : ¬ (n + m ≤ old) := by omega
    have h63' : ¬ (9223372036854775807 < ((n : Int) + (m : Int))) := by simp only [maxLen] at h63; omega
    have hfit := growslice_fits ho hbytes
    have h48' : ¬ (281474976710656 < Builtin.nextslicecap (n + m) old * i.bytes) := by omega
    have hf := src.cells w.drew rfl
    have hfo := hold w.drew rfl
    have hcell : (w.drew.alloc (.cells (xs.toArray ++ news.toArray ++ Builtin.zeroCells z.cells (grownCap w (n + m) old e - (n + m))) e)) = w.drew.alloc (.cells (xs.toArray ++ news.toArray ++ Builtin.zeroCells z.cells (grownCap w (n + m) old e - (n + m))) e) := rfl
    refine ⟨.slice (some ⟨w.heap.size, 0, none⟩) (n + m) (grownCap w (n + m) old e), w.drew.alloc (.cells (xs.toArray ++ news.toArray ++ Builtin.zeroCells z.cells (grownCap w (n + m) old e - (n + m))) e), ?_, ?_⟩
    · unfold Builtin.append_
      rcases h2 with hu | hu <;> simp [run_underlying ht, run_underlying hu, sizeOf, typeInfo, zeroValue, hi, hz, hx0, hn, h63', h48', Question.forced, hf, hfo, newRow, grownCap] <;> (congr 2; apply Array.ext'; simp [List.append_assoc])
    · refine Sat.slc_mk e i.size (n + m) w.heap.size 0 _ _ (0, 0) _ (hF.drew.alloc _) hlen hge hcm ?_ ?_ ?_
      · simp only [Array.size_append, List.size_toArray, size_zeroCells, hzs, hl, src.length, Nat.zero_add]
        rw [← Nat.add_mul, ← Nat.add_mul]
        exact Nat.mul_le_mul_right _ (by omega)
      · simp only [Array.toList_append, List.append_assoc, List.drop_zero]
        rw [← List.append_assoc, ← hlen]
        exact List.take_left
      · intro k _ _
        simp
  rcases hc with ⟨A, rfl, rfl, hF⟩ | ⟨g, off, cap, cur, fr, rfl, hnc, hm, hcs, htake, hfr, hs⟩
  · have hx : xs = [] := List.eq_nil_of_length_eq_zero (by simpa using hl)
    subst hx
    by_cases hm : m = 0
    · subst hm
      have hn : news = [] := List.eq_nil_of_length_eq_zero (by simpa using src.length)
      subst hn
      refine ⟨.slice A 0 0, w, ?_, by simpa using hF.slc_nil e i.size A⟩
      have hf := src.cells w rfl
      unfold Builtin.append_
      rcases h2 with hu | hu <;> cases A <;> simp [run_underlying ht, run_underlying hu, sizeOf, typeInfo, hi, hx0, hf, storeCells]
    · exact grow 0 A (by omega) rfl (fun w' hw' => by cases A <;> simp [Builtin.firstCells, loadCells, loadCellsFrom]) hF
  · by_cases hroom : n + m ≤ cap
    · have hle : (n + m) * i.size ≤ cap * i.size := Nat.mul_le_mul_right _ hroom
      have hfit : off + n * i.size + news.length ≤ cur.size := by rw [src.length]; rw [Nat.add_mul] at hle; omega
      have hst := run_storeCells_fr (P := P) g (off + n * i.size) e fr news 0 cur w hs.at_ (by omega) h1 (fun k hk1 hk2 => hfr k (by omega) (by rw [src.length] at hk2; rw [Nat.add_mul] at hle; omega))
      simp only [Nat.add_zero] at hst
      refine ⟨.slice (some ⟨g, off, none⟩) (n + m) cap, w.setRow g (cur.toList.take (off + n * i.size) ++ news ++ cur.toList.drop (off + n * i.size + news.length)).toArray, ?_, ?_⟩
      · have hf := src.cells w rfl
        unfold Builtin.append_
        rcases h2 with hu | hu <;> simp [run_underlying ht, run_underlying hu, sizeOf, typeInfo, hi, hx0, hroom, hf, add_lit, hst]
      · refine Sat.slc_mk e i.size (n + m) g off cap (cur.toList.take (off + n * i.size) ++ news ++ cur.toList.drop (off + n * i.size + news.length)).toArray fr _ ?_ hlen hroom hm ?_ ?_ hfr
        · exact Sat.put hs rfl rfl rfl (setRow_heap w g cur _ e fr hs.at_) fun k _ hk => setRow_other w g k _ hk
        · simp only [List.size_toArray, List.length_append, List.length_take, List.length_drop, Array.length_toList]
          omega
        · exact take_drop_mid htake (by simpa using hfit) hl (by rw [src.length, Nat.add_mul])
    · exact grow cap (some ⟨g, off, none⟩) (by omega) rfl (fun w' hw' => (Src.own (P := P) h).cells w' hw') hs.drop

end append

/-- A slice type and its element's type, as the program has them. -/
structure SlT (P : Program) (t e : TypeId) (size bytes : Nat) : Prop where
  ht : P.underlying t = some (.slice e)
  info : ∃ i z, P.info? e = some i ∧ i.zero = some z ∧ i.size = size ∧ i.bytes = bytes ∧ z.cells.size = size
  pos : 0 < size
theorem SlT.of {t e size bytes : Nat} {z : Value} (ht : P.underlying t = some (.slice e)) (h : (P.info? e).map (fun i => (i.zero, i.size, i.bytes)) = some (some z, size, bytes)) (hz : z.cells.size = size) (hp : 0 < size) : SlT P t e size bytes := by
  obtain ⟨i, hi, h1, h2, h3⟩ := info_parts h
  exact ⟨ht, ⟨i, z, hi, h1, h2, h3, hz⟩, hp⟩

section
variable {t e size bytes : Nat} {ops : Array Oper} {rest : List Oper} {o : Oper} {a : Act} {K : Act → World → Prop} {Q : Exit → Act → World → Prop} {v xv : Value} {n m : Nat} {xs news : List Value}

theorem wp_append_sl (T : SlT P t e size bytes) {t2 : TypeId} (h2 : P.underlying t2 = some (.slice e) ∨ P.underlying t2 = some .string) (s x : Operand)
    (ho : o.op = .call { callee := .builtin .append, args := #[s, x], argTypes := #[t, t2] })
    (hS : Sat w0 w (slc e size v n xs * F)) (hs : a.eval s = v) (hx : a.eval x = xv) (src : Src P w size m xv news) (h1 : ∀ u ∈ news, u.oneCell' = true)
    (h63 : n + m ≤ maxLen) (hbytes : (n + m) * bytes ≤ 140737488355328)
    (h : ∀ v' w', Sat w0 w' (slc e size v' (n + m) (xs ++ news) * F) → K (a.put o.dst v') w') : o.wp P a w K Q := by
  obtain ⟨i, z, hi, hz, hsize, hby, hzs⟩ := T.info
  obtain ⟨v', w', hr, hS'⟩ := run_append_sl P t t2 o.type e i z size bytes T.ht h2 hi hz hsize hby hzs T.pos v n xs hS m xv news src h1 h63 hbytes
  unfold Oper.wp execOp
  simp only [ho, resolve, invoke, builtin, Sem.run_bind, Sem.run_pure, Result.andThen_ok, List.map_toArray, List.map_cons, List.map_nil, hs, hx, hr]
  exact h v' w' hS'
end
end Go.Proofs.YtapoehkdnglahaaGreat

/- What package wire reckons, in plain Lean: bytes of numbers, frames, records, sums. No program in sight. -/
namespace Go.Proofs.YtapoehkdnglahaaGreat
/-- A byte as a value. -/
def u8 (b : UInt8) : Value := .int .u8 (b.toNat : Int)
def u8s (l : List UInt8) : List Value := l.map u8
def u32 (k : UInt32) : Value := .int .u32 (k.toNat : Int)
def u64 (k : UInt64) : Value := .int .u64 (k.toNat : Int)
theorem u8s_length (a : List UInt8) : (u8s a).length = a.length := by simp [u8s]
/-- A number's four bytes, the highest first. -/
def be (k : UInt32) : List UInt8 := [UInt8.ofNat (k.toNat / 16777216), UInt8.ofNat (k.toNat / 65536 % 256), UInt8.ofNat (k.toNat / 256 % 256), UInt8.ofNat (k.toNat % 256)]
theorem be_length (k : UInt32) : (be k).length = 4 := rfl
/-- The number of four bytes. -/
def num (a b c d : UInt8) : UInt32 := UInt32.ofNat (a.toNat * 16777216 + b.toNat * 65536 + c.toNat * 256 + d.toNat)
theorem num_toNat (a b c d : UInt8) : (num a b c d).toNat = a.toNat * 16777216 + b.toNat * 65536 + c.toNat * 256 + d.toNat := by
  have h1 := a.toNat_lt; have h2 := b.toNat_lt; have h3 := c.toNat_lt; have h4 := d.toNat_lt
  simp only [num, UInt32.toNat_ofNat']
  omega
theorem num_be (k : UInt32) : num (UInt8.ofNat (k.toNat / 16777216)) (UInt8.ofNat (k.toNat / 65536 % 256)) (UInt8.ofNat (k.toNat / 256 % 256)) (UInt8.ofNat (k.toNat % 256)) = k := by
  have hk := k.toNat_lt
  apply UInt32.toNat_inj.1
  rw [num_toNat]
  simp only [UInt8.toNat_ofNat']
  omega
theorem be_num (a b c d : UInt8) : be (num a b c d) = [a, b, c, d] := by
  have h1 := a.toNat_lt; have h2 := b.toNat_lt; have h3 := c.toNat_lt; have h4 := d.toNat_lt
  simp only [be, num_toNat]
  congr 1
  · apply UInt8.toNat_inj.1; simp only [UInt8.toNat_ofNat']; omega
  congr 1
  · apply UInt8.toNat_inj.1; simp only [UInt8.toNat_ofNat']; omega
  congr 1
  · apply UInt8.toNat_inj.1; simp only [UInt8.toNat_ofNat']; omega
  congr 1
  · apply UInt8.toNat_inj.1; simp only [UInt8.toNat_ofNat']; omega
/-! ### The sum of a record. -/
/-- One bit falls out. -/
def fall (c : UInt32) : UInt32 := if c.toNat % 2 = 1 then UInt32.ofNat (c.toNat / 2) ^^^ 3988292384 else UInt32.ofNat (c.toNat / 2)
def falls : Nat → UInt32 → UInt32
  | 0, c => c
  | n + 1, c => fall (falls n c)
def sumOn (c : UInt32) (l : List UInt8) : UInt32 := l.foldl (fun c b => falls 8 (c ^^^ UInt32.ofNat b.toNat)) c
def sumOf (l : List UInt8) : UInt32 := 4294967295 ^^^ sumOn 4294967295 l
theorem half_toNat (c : UInt32) : (UInt32.ofNat (c.toNat / 2)).toNat = c.toNat / 2 := by
  have := c.toNat_lt
  rw [UInt32.toNat_ofNat']; omega
theorem byte_toNat (b : UInt8) : (UInt32.ofNat b.toNat).toNat = b.toNat := by
  have := b.toNat_lt
  rw [UInt32.toNat_ofNat']; omega
theorem sumOn_snoc (c : UInt32) (l : List UInt8) (b : UInt8) : sumOn c (l ++ [b]) = falls 8 (sumOn c l ^^^ UInt32.ofNat b.toNat) := by simp [sumOn]
/-! ### Records -/
structure Rec where
  own : Bool
  addr : UInt32
  seq : UInt32
def Rec.cells (r : Rec) : List Value := [.bool r.own, u32 r.addr, u32 r.seq]
def Rec.val (r : Rec) : Value := .agg #[.bool r.own, u32 r.addr, u32 r.seq]
/-- The nine bytes ahead of the sum. -/
def Rec.head (r : Rec) : List UInt8 := (if r.own then 1 else 2) :: (be (if r.own then 0 else r.addr) ++ be r.seq)
def Rec.bytes (r : Rec) : List UInt8 := r.head ++ be (sumOf r.head)
theorem Rec.bytes_length (r : Rec) : r.bytes.length = 13 := rfl
def recs (l : List Rec) : List Value := l.flatMap Rec.cells
def byteAt (y : List UInt8) (i : Nat) : UInt8 := y[i]?.getD 0
def numAt (y : List UInt8) (i : Nat) : UInt32 := num (byteAt y i) (byteAt y (i + 1)) (byteAt y (i + 2)) (byteAt y (i + 3))
/-- The record that thirteen bytes would be. -/
def recOf (l : List UInt8) : Rec := ⟨((byteAt l 0).toNat : Int) == 1, numAt l 1, numAt l 5⟩
/-- The records ahead of the first place where none stands, at most n. -/
def readN : Nat → List UInt8 → List Rec
  | 0, _ => []
  | n + 1, l => if 13 ≤ l.length ∧ (recOf l).bytes = l.take 13 then recOf l :: readN n (l.drop 13) else []
def readJ (l : List UInt8) : List Rec := readN (l.length / 13) l
theorem readN_short (n : Nat) (l : List UInt8) (h : l.length < 13) : readN n l = [] := by
  cases n with
  | zero => rfl
  | succ n => rw [readN, if_neg (by omega)]
theorem readN_not (n : Nat) (l : List UInt8) (h : ¬ (recOf l).bytes = l.take 13) : readN n l = [] := by
  cases n with
  | zero => rfl
  | succ n => rw [readN, if_neg (fun hh => h hh.2)]
theorem readN_yes (n : Nat) (l : List UInt8) (h0 : 13 ≤ l.length) (hn : 0 < n) (h : (recOf l).bytes = l.take 13) : readN n l = recOf l :: readN (n - 1) (l.drop 13) := by
  cases n with
  | zero => omega
  | succ n => rw [readN, if_pos ⟨h0, h⟩]; rfl
theorem readJ_step (xs : List UInt8) (js : List Rec) (k : Nat) (y : List UInt8) (hj : readJ xs = js ++ readN (xs.length / 13 - k) (xs.drop (13 * k))) (hy : y = xs.drop (13 * k)) (hlt : 13 ≤ xs.length - 13 * k) (hx : (recOf y).bytes = y.take 13) :
    readJ xs = (js ++ [recOf y]) ++ readN (xs.length / 13 - (k + 1)) (xs.drop (13 * (k + 1))) := by
  have hyl : y.length = xs.length - 13 * k := by rw [hy]; simp
  rw [hj, ← hy, readN_yes (xs.length / 13 - k) y (by omega) (by omega) hx, List.append_assoc]
  have e : y.drop 13 = xs.drop (13 * (k + 1)) := by rw [hy, List.drop_drop]; congr 1
  rw [e]; rfl
theorem readN_length (n : Nat) (l : List UInt8) : (readN n l).length ≤ n := by
  induction n generalizing l with
  | zero => simp [readN]
  | succ n ih =>
    rw [readN]
    split
    · have := ih (l.drop 13); simp; omega
    · simp
theorem readJ_length (l : List UInt8) : 13 * (readJ l).length ≤ l.length := by
  have := readN_length (l.length / 13) l
  simp only [readJ]; omega
end Go.Proofs.YtapoehkdnglahaaGreat

/- How arguments are opened, and how a law's row closes: of no program but for the numbers of types. -/
namespace Go.Proofs.YtapoehkdnglahaaGreat
open Go.ChangeShapes Go.WideShapes Go.ChangeAt Go.RowKit Go.Deep
set_option linter.unusedVariables false
set_option linter.unusedSectionVars false
section
variable {H : Type} {enc : TypeId × Value → H} {P : Program} {w : World} {base : Nat} {spare : Nat → Bool} {held : Bool}

theorem wf_u32 {n : Int} (h : (Lit.int .u32 n).wf = true) : ∃ k : UInt32, n = (k.toNat : Int) := by
  have hb : 0 ≤ n ∧ n ≤ 4294967295 := by simpa [Lit.wf, IntKind.min, IntKind.max, IntKind.signed, IntKind.bits] using h
  exact ⟨UInt32.ofNat n.toNat, by rw [UInt32.toNat_ofNat']; omega⟩
theorem wf_u64 {n : Int} (h : (Lit.int .u64 n).wf = true) : ∃ k : UInt64, n = (k.toNat : Int) := by
  have hb : 0 ≤ n ∧ n ≤ 18446744073709551615 := by simpa [Lit.wf, IntKind.min, IntKind.max, IntKind.signed, IntKind.bits] using h
  exact ⟨UInt64.ofNat n.toNat, by rw [UInt64.toNat_ofNat']; omega⟩
/-- A struct's fields, one cell each, in their order. -/
theorem struct_cells {t : TypeId} {fs : Array Field} {fuel : Nat} {c : List Value} {y : DataW H × List MemPlace} (hs : P.underlying t = some (.struct fs)) (hone : oneCellFields P fs = true) (hC : P.cellsOf t = fs.size)
    (h : DataW.trod enc P w base spare held fuel t c = some y) :
    c.length = fs.size ∧ ∃ (ys : List (DataW H × List MemPlace)) (n : Nat), y = (.agg (ys.map (·.1)), ys.flatMap (·.2)) ∧ ys.length = fs.size ∧ ∀ (j : Nat) (f : Field), fs[j]? = some f → ∃ v y', c[j]? = some v ∧ ys[j]? = some y' ∧ DataW.trod enc P w base spare held n f.type [v] = some y' := by
  obtain ⟨ys, n, _, hy, hlen, hyl, hf⟩ := DataW.trod_struct hs h
  refine ⟨hlen.trans hC, ys, n, hy, hyl, fun j f hj => ?_⟩
  obtain ⟨ho, hk⟩ := hone_of hone j f hj
  have hjl : j < fs.size := (Array.getElem?_eq_some_iff.1 hj).1
  have hjc : j < c.length := by rw [hlen, hC]; exact hjl
  have h1 := hf j f hj
  rw [ho, hk] at h1
  have hone' : (c.drop j).take 1 = [c[j]] := by
    rw [List.drop_eq_getElem_cons hjc]; rfl
  rw [hone'] at h1
  have hys : ys[j]? = some (ys[j]'(by omega)) := List.getElem?_eq_getElem (by omega)
  exact ⟨c[j], _, List.getElem?_eq_getElem hjc, hys, h1.trans hys⟩
end
theorem laid : laidOutB Tryz.prog = true := by kernel_rfl
end Go.Proofs.YtapoehkdnglahaaGreat

/- A walk's state without its world: slots as a list, memory as a separating assertion; the rules of the code's forms, of a region, of a region that draws its order. No program in sight. -/
namespace Go.Proofs.YtapoehkdnglahaaGreat
open Go.RowKit
set_option linter.unusedVariables false
set_option linter.unusedSectionVars false

/-! ### The slots -/
abbrev Env := List (Nat × Value)
def Env.get : Env → Nat → Option Value
  | [], _ => none
  | (k, v) :: r, t => bif Nat.beq k t then some v else Env.get r t
def Env.ev (E : Env) : Operand → Option Value
  | .tmp t => E.get t
  | .const v => some v
  | .global g => some (.pointer (some ⟨g, 0, none⟩))
  | .func f => some (.func (.func f) #[] #[])
def Env.evs (E : Env) : List Operand → Option (List Value)
  | [] => some []
  | x :: r => match E.ev x, Env.evs E r with
    | some v, some vs => some (v :: vs)
    | _, _ => none
/-- Each binding of the first is one of the second. -/
def Env.sub : Env → Env → Prop
  | [], _ => True
  | (k, v) :: r, E => E.get k = some v ∧ Env.sub r E
/-- A frame: how many slots; whether it is a round's of a range over a function. -/
structure Frm where
  tmps : Nat
  round : Option Nat
def fen (ro : Option Nat) : Fence := { Fence.wide with round := ro }
structure Sees (n : Frm) (E : Env) (a : Act) : Prop where
  size : a.tmps.size = n.tmps
  get : ∀ t v, E.get t = some v → a.tmps.getD t undef = v
theorem Env.get_cons (k : Nat) (v : Value) (r : Env) (t : Nat) : Env.get ((k, v) :: r) t = if k = t then some v else Env.get r t := by
  show (bif Nat.beq k t then some v else Env.get r t) = _
  by_cases h : k = t
  · subst h; simp
  · have : Nat.beq k t = false := by
      cases hb : Nat.beq k t with
      | false => rfl
      | true => exact absurd (Nat.eq_of_beq_eq_true hb) h
    simp [this, h]
theorem Env.sub_get : ∀ {E E' : Env}, E.sub E' → ∀ t v, E.get t = some v → E'.get t = some v
  | [], _, _, t, v, h => by simp [Env.get] at h
  | (k, u) :: r, E', hs, t, v, h => by
    rw [Env.get_cons] at h
    split at h
    · rename_i e; subst e; cases h; exact hs.1
    · exact Env.sub_get hs.2 t v h
/-- What an instance gives. -/
abbrev iI.{u} := @inferInstance.{u}
variable {P : Program} {n : Frm} {w0 : World} {E E' : Env} {D : List Deferred} {H F R : HProp}
theorem Sees.sub {a : Act} (h : Sees n E a) (hs : E'.sub E) : Sees n E' a := ⟨h.size, fun t v ht => h.get t v (Env.sub_get hs t v ht)⟩
theorem Sees.ev {a : Act} (h : Sees n E a) {x : Operand} {v : Value} (e : E.ev x = some v) : a.eval x = v := by
  cases x with
  | tmp t => exact h.get t v e
  | const u => cases e; rfl
  | global g => cases e; rfl
  | func f => cases e; rfl
theorem Sees.evs {a : Act} (h : Sees n E a) : ∀ {xs : List Operand} {vs : List Value}, E.evs xs = some vs → xs.map a.eval = vs
  | [], vs, e => by cases e; rfl
  | x :: r, vs, e => by
    simp only [Env.evs] at e
    split at e
    · rename_i v us e1 e2
      cases e
      simp [h.ev e1, Sees.evs h e2]
    · cases e
theorem Sees.put {a : Act} (h : Sees n E a) {d : Nat} (v : Value) (hd : Nat.blt d n.tmps = true) : Sees n ((d, v) :: E) (a.put (some d) v) := by
  have hd' : d < n.tmps := by simpa using hd
  refine ⟨by simp [Act.put, h.size], fun t u ht => ?_⟩
  rw [Env.get_cons] at ht
  split at ht
  · rename_i e; subst e; cases ht
    simp [Act.put, h.size, hd']
  · rename_i e
    have := h.get t u ht
    simpa [Act.put, Array.getElem?_setIfInBounds_ne e] using this
/-- What is put into slot d, if there is a slot. -/
def Env.putO (E : Env) : Option Tmp → Value → Env
  | some d, v => (d, v) :: E
  | none, _ => E
def okDst (n : Frm) : Option Tmp → Bool
  | some d => Nat.blt d n.tmps
  | none => true
theorem Sees.putO {a : Act} (h : Sees n E a) (d : Option Tmp) (v : Value) (hd : okDst n d = true) : Sees n (E.putO d v) (a.put d v) := by
  cases d with
  | none => exact h
  | some d => exact h.put v hd

/-- A Bool that is a literal. -/
class Lit (c : Bool) (b : Bool) : Prop where eq : c = b
instance : Lit true true := ⟨rfl⟩
instance : Lit false false := ⟨rfl⟩
instance : Lit true (!false) := ⟨rfl⟩
instance : Lit false (!true) := ⟨rfl⟩
instance : Lit (!false) true := ⟨rfl⟩
instance : Lit (!true) false := ⟨rfl⟩
/-! ### The state -/
structure St where
  E : Env
  D : List Deferred
  H : HProp
structure Good (n : Frm) (w0 : World) (σ : St) (a : Act) (w : World) : Prop where
  sees : Sees n σ.E a
  defers : a.defers = σ.D
  sat : Sat w0 w σ.H
/-- One assertion follows from another. -/
def Ent (H H' : HProp) : Prop := ∀ h : Part, H.on h → ∃ h' : Part, H'.on h' ∧ ∀ k o, h' k = some o → h k = some o
theorem Ent.sat {w : World} (e : Ent H F) (h : Sat w0 w H) : Sat w0 w F := by
  obtain ⟨x, hx, hk⟩ := h.heap
  obtain ⟨y, hy, hyx⟩ := e x hx
  exact ⟨h.os, h.tape, h.output, y, hy, fun k o ho => hk k o (hyx k o ho)⟩
theorem Ent.refl (H : HProp) : Ent H H := fun h hh => ⟨h, hh, fun _ _ e => e⟩
theorem Ent.of_eq (e : H = F) : Ent H F := e ▸ Ent.refl H
theorem Ent.trans {G : HProp} (a : Ent H F) (b : Ent F G) : Ent H G := fun h hh => by
  obtain ⟨x, hx, h1⟩ := a h hh
  obtain ⟨y, hy, h2⟩ := b x hx
  exact ⟨y, hy, fun k o e => h1 k o (h2 k o e)⟩
theorem Ent.drop (p q : HProp) : Ent (p * q) q := fun h ⟨a, b, hd, he, hp, hq⟩ => ⟨b, hq, fun k o e => by
  subst he
  rcases hd k with e' | e'
  · simp only [Part.join, e', e]
  · rw [e'] at e; cases e⟩
theorem Ent.star {a b c d : HProp} (h1 : Ent a b) (h2 : Ent c d) : Ent (a * c) (b * d) := fun h ⟨x, y, hd, he, hp, hq⟩ => by
  obtain ⟨x', hx', e1⟩ := h1 x hp
  obtain ⟨y', hy', e2⟩ := h2 y hq
  have hd' : Part.disj x' y' := fun k => by
    rcases hd k with e | e
    · left; cases hk : x' k with
      | none => rfl
      | some o => rw [e1 k o hk] at e; cases e
    · right; cases hk : y' k with
      | none => rfl
      | some o => rw [e2 k o hk] at e; cases e
  refine ⟨x'.join y', ⟨x', y', hd', rfl, hx', hy'⟩, fun k o e => ?_⟩
  subst he
  simp only [Part.join] at e ⊢
  cases hx : x' k with
  | some u => rw [hx] at e; rw [e1 k u hx]; exact e
  | none =>
    rw [hx] at e
    have hy := e2 k o e
    rcases hd k with e' | e'
    · simp only [e', hy]
    · rw [e'] at hy; cases hy
theorem Ent.tail {c d : HProp} (p : HProp) (h : Ent c d) : Ent (p * c) (p * d) := Ent.star (Ent.refl p) h

def lift (n : Frm) (w0 : World) (Q : Exit → St → Prop) : Exit → Act → World → Prop := fun e a w => ∃ σ, Q e σ ∧ Good n w0 σ a w
/-- The code, from a state: it comes out in a state that the post takes. -/
def WS (P : Program) (n : Frm) (w0 : World) (c : Code) (Q : Exit → St → Prop) (σ : St) : Prop := ∀ a w, Good n w0 σ a w → c.wpIn (fen n.round) 0 P (lift n w0 Q) a w
def thenS (K : St → Prop) (Q : Exit → St → Prop) : Exit → St → Prop
  | .normal, σ => K σ
  | e, σ => Q e σ
def blockS (id : Nat) (Q : Exit → St → Prop) : Exit → St → Prop
  | .exit j, σ => bif Nat.beq j id then Q .normal σ else Q (.exit j) σ
  | e, σ => Q e σ
variable {Q : Exit → St → Prop} {σ : St} {c x y : Code}
theorem WS.mono {Q' : Exit → St → Prop} (h : WS P n w0 c Q σ) (hq : ∀ e σ, Q e σ → Q' e σ) : WS P n w0 c Q' σ :=
  fun a w g => wpIn_mono (h a w g) fun e a w ⟨σ, h1, h2⟩ => ⟨σ, hq e σ h1, h2⟩
theorem WS_seq (h : WS P n w0 x (thenS (WS P n w0 y Q) Q) σ) : WS P n w0 (.seq x y) Q σ := fun a w g =>
  wpIn_seq (wpIn_mono (h a w g) fun e a w ⟨σ', h1, h2⟩ => by
    cases e with
    | normal => exact h1 a w h2
    | _ => exact ⟨σ', h1, h2⟩)
/-- The same, with the rest out of sight. -/
theorem WS_seqK (h : ∀ K : St → Prop, (∀ τ, WS P n w0 y Q τ → K τ) → WS P n w0 x (thenS K Q) σ) : WS P n w0 (.seq x y) Q σ := WS_seq (h _ fun _ h => h)
theorem thenS_n {K : St → Prop} (h : K σ) : thenS K Q .normal σ := h
theorem thenS_r {K : St → Prop} (h : Q .ret σ) : thenS K Q .ret σ := h
theorem thenS_e {K : St → Prop} {j : Nat} (h : Q (.exit j) σ) : thenS K Q (.exit j) σ := h
theorem blockS_n {id : Nat} (h : Q .normal σ) : blockS id Q .normal σ := h
theorem blockS_r {id : Nat} (h : Q .ret σ) : blockS id Q .ret σ := h
theorem blockS_e {id : Nat} (h : Q .normal σ) : blockS id Q (.exit id) σ := by
  show (bif Nat.beq id id then Q .normal σ else Q (.exit id) σ)
  rw [Nat.beq_refl]; exact h
theorem blockS_o {id j : Nat} (hj : Nat.beq j id = false) (h : Q (.exit j) σ) : blockS id Q (.exit j) σ := by
  show (bif Nat.beq j id then Q .normal σ else Q (.exit j) σ)
  rw [hj]; exact h
theorem use_K {K : St → Prop} {c : Code} (h : ∀ τ, WS P n w0 c Q τ → K τ) (g : WS P n w0 c Q σ) : K σ := h σ g
theorem WS_skip (h : Q .normal σ) : WS P n w0 .skip Q σ := fun a w g => wpIn_skip ⟨σ, h, g⟩
theorem WS_ret (h : Q .ret σ) : WS P n w0 .ret Q σ := fun a w g => wpIn_ret ⟨σ, h, g⟩
theorem WS_exit {id : Nat} (h : Q (.exit id) σ) : WS P n w0 (.exit id) Q σ := fun a w g => wpIn_exit ⟨σ, h, g⟩
theorem WS_label {l : Nat} (h : Q .normal σ) : WS P n w0 (.label l) Q σ := fun a w g => wpIn_label ⟨σ, h, g⟩
theorem WS_block {id : Nat} (h : WS P n w0 c (blockS id Q) σ) : WS P n w0 (.block id c) Q σ := fun a w g =>
  wpIn_block (wpIn_mono (h a w g) fun e a w ⟨σ', h1, h2⟩ => by
    cases e with
    | exit j =>
      simp only [Exit.inBlock]
      by_cases hj : j = id
      · subst hj
        rw [if_pos rfl]
        exact ⟨σ', by simpa [blockS] using h1, h2⟩
      · rw [if_neg hj]
        have : Nat.beq j id = false := by
          cases hb : Nat.beq j id with
          | false => rfl
          | true => exact absurd (Nat.eq_of_beq_eq_true hb) hj
        exact ⟨σ', by simpa [blockS, this] using h1, h2⟩
    | _ => exact ⟨σ', h1, h2⟩)
theorem WS_cond {o : Operand} {b : Bool} (hc : σ.E.ev o = some (.bool b)) (ht : b = true → WS P n w0 x Q σ) (hf : b = false → WS P n w0 y Q σ) : WS P n w0 (.cond o x y) Q σ := fun a w g =>
  wpIn_cond_split (g.sees.ev hc) (fun e => ht e a w g) (fun e => hf e a w g)
theorem WS_condT {o : Operand} {b : Bool} (hc : σ.E.ev o = some (.bool b)) (hl : Lit b true) (h : WS P n w0 x Q σ) : WS P n w0 (.cond o x y) Q σ := WS_cond hc (fun _ => h) (fun e => by cases hl.eq; cases e)
theorem WS_condF {o : Operand} {b : Bool} (hc : σ.E.ev o = some (.bool b)) (hl : Lit b false) (h : WS P n w0 y Q σ) : WS P n w0 (.cond o x y) Q σ := WS_cond hc (fun e => by cases hl.eq; cases e) (fun _ => h)
theorem exists_least {p : Nat → Prop} (h : ∃ m, p m) : ∃ m, p m ∧ ∀ k, p k → m ≤ k := by
  obtain ⟨m, hm⟩ := h
  induction m using Nat.strongRecOn with
  | _ m ih =>
    by_cases hk : ∃ k, k < m ∧ p k
    · obtain ⟨k, hlt, hp⟩ := hk; exact ih k hlt hp
    · exact ⟨m, hm, fun k hp => by
        rcases Nat.lt_or_ge k m with hlt | hge
        · exact absurd ⟨k, hlt, hp⟩ hk
        · exact hge⟩
/-- A loop: I m τ: what holds at its head, with m more rounds at most. -/
theorem WS_loopG (I : Nat → St → Prop) (h0 : ∃ m τ, I m τ ∧ ∀ a w, Good n w0 σ a w → Good n w0 τ a w)
    (round : ∀ m τ, I m τ → WS P n w0 c (thenS (fun σ' => ∃ m' τ', m' < m ∧ I m' τ' ∧ ∀ a w, Good n w0 σ' a w → Good n w0 τ' a w) Q) τ) : WS P n w0 (.loop c) Q σ := by
  intro a w g
  let p : Act → World → Nat → Prop := fun a w m => ∃ τ, I m τ ∧ Good n w0 τ a w
  let μ : Act → World → Nat := fun a w => by
    classical exact if h : ∃ m, p a w m then Classical.choose (exists_least h) else 0
  have hμ : ∀ a w, (∃ m, p a w m) → p a w (μ a w) ∧ ∀ k, p a w k → μ a w ≤ k := fun a w h => by
    have e : μ a w = Classical.choose (exists_least h) := by simp only [μ]; exact dif_pos h
    rw [e]; exact Classical.choose_spec (exists_least h)
  refine wpIn_loop (fun a w => ∃ m, p a w m) μ ?_ ?_
  · obtain ⟨m, τ, hI, h1⟩ := h0
    exact ⟨m, τ, hI, h1 a w g⟩
  · intro a w hp
    obtain ⟨⟨τ, hI, gτ⟩, hmin⟩ := hμ a w hp
    refine wpIn_mono (round _ τ hI a w gτ) fun e a' w' ⟨σ', h1, h2⟩ => ?_
    cases e with
    | normal =>
      obtain ⟨m', τ', hlt, hI', e1⟩ := h1
      have hp' : p a' w' m' := ⟨τ', hI', e1 a' w' h2⟩
      exact ⟨⟨m', hp'⟩, Nat.lt_of_le_of_lt ((hμ a' w' ⟨m', hp'⟩).2 m' hp') hlt⟩
    | _ => exact ⟨σ', h1, h2⟩
theorem Good.low {τ σ : St} {a : Act} {w : World} (g : Good n w0 σ a w) (h1 : τ.E.sub σ.E) (h2 : τ.D = σ.D) (h3 : Ent σ.H τ.H) : Good n w0 τ a w := ⟨g.sees.sub h1, g.defers.trans h2.symm, h3.sat g.sat⟩
theorem WS_loop (I : Nat → St → Prop) (h0 : ∃ m τ, I m τ ∧ τ.E.sub σ.E ∧ τ.D = σ.D ∧ Ent σ.H τ.H)
    (round : ∀ m τ, I m τ → WS P n w0 c (thenS (fun σ' => ∃ m' τ', m' < m ∧ I m' τ' ∧ τ'.E.sub σ'.E ∧ τ'.D = σ'.D ∧ Ent σ'.H τ'.H) Q) τ) : WS P n w0 (.loop c) Q σ := by
  refine WS_loopG I ?_ fun m τ hI => ?_
  · obtain ⟨m, τ, hI, h1, h2, h3⟩ := h0
    exact ⟨m, τ, hI, fun a w g => g.low h1 h2 h3⟩
  · refine (round m τ hI).mono fun e σ' h => ?_
    cases e with
    | normal =>
      obtain ⟨m', τ', hlt, hI', e1, e2, e3⟩ := h
      exact ⟨m', τ', hlt, hI', fun a w g => g.low e1 e2 e3⟩
    | _ => exact h
/-- A loop of a fixed count of rounds: each by itself. -/
def Un (P : Program) (n : Frm) (w0 : World) (c : Code) (Q : Exit → St → Prop) : Nat → St → Prop
  | 0, _ => False
  | m + 1, σ => WS P n w0 c (thenS (Un P n w0 c Q m) Q) σ
theorem Un_succ {m : Nat} (h : WS P n w0 c (thenS (Un P n w0 c Q m) Q) σ) : Un P n w0 c Q (m + 1) σ := h
theorem WS_unroll (m : Nat) (h : Un P n w0 c Q m σ) : WS P n w0 (.loop c) Q σ := by
  refine WS_loopG (Un P n w0 c Q) ⟨m, σ, h, fun _ _ g => g⟩ fun m τ hI => ?_
  cases m with
  | zero => exact hI.elim
  | succ m =>
    refine WS.mono hI fun e σ' h => ?_
    cases e with
    | normal => exact ⟨m, σ', Nat.lt_succ_self m, h, fun _ _ g => g⟩
    | _ => exact h

/-! ### Operations -/
/-- The operation leaves v and the world as it is, in every world that meets H. -/
def OpQ (P : Program) (n : Frm) (w0 : World) (o : Oper) (E : Env) (H : HProp) (v : Value) : Prop :=
  ∀ a w, Sees n E a → Sat w0 w H → (execOp a.eval o).run P w = .ok (.value v) w
/-- The operation turns pre into one of post, whatever stands beside it. -/
def OpT (P : Program) (n : Frm) (w0 : World) (o : Oper) (E : Env) (pre : HProp) {α : Type} (v : α → Value) (post : α → HProp) : Prop :=
  ∀ (G : HProp) a w (K : Act → World → Prop) (Q : Exit → Act → World → Prop), Sees n E a → Sat w0 w (pre * G) → (∀ x w', Sat w0 w' (post x * G) → K (a.put o.dst (v x)) w') → o.wp P a w K Q
/-- Operations in their order. -/
def LS (P : Program) (n : Frm) (w0 : World) (ops : Array Oper) (Q : Exit → St → Prop) (l : List Oper) (σ : St) : Prop := ∀ a w, Good n w0 σ a w → wpListIn (fen n.round) 0 P ops (lift n w0 Q) l a w
theorem calls_fen {ro : Option Nat} {m : Nat} {f : FuncId} {args : Array Value} {w : World} {R : Ending → World → Prop} (h : Calls P f args w R) : CallsIn (fen ro) m P f args w R := callsIn_wide.2 h
theorem rows_fen {ro : Option Nat} {m : Nat} {row : String} {args : Array Value} {w : World} {R : Value → World → Prop} (h : Rows P row args w R) : RowsIn (fen ro) m P row args w R := fun c cs _ =>
  let ⟨v, w', r, s⟩ := h c cs; ⟨v, w', r, stepsIn_wide.2 s⟩
/-- An operation that is no 'defer', at whatever frame. -/
theorem wpIn_of_wp {ro : Option Nat} {o : Oper} {a : Act} {w : World} {K : Act → World → Prop} {Q : Exit → Act → World → Prop} (hnd : ro = none ∨ ∀ c, o.op ≠ .defer c) (h : o.wp P a w K Q) : o.wpIn (fen ro) 0 P a w K Q := by
  refine ⟨fun _ _ => trivial, ?_⟩
  have e : o.semAt (fen ro).round a.eval = execOp a.eval o := by
    show o.semAt ro a.eval = _
    rcases hnd with rfl | hnd
    · rfl
    · exact Oper.semAt_eq _ _ _ hnd
  rw [e]
  unfold Oper.wp at h
  generalize (execOp a.eval o).run P w = r at *
  have hd : (fen ro).depth.isSome = true → 1 ≤ 0 := fun h => by cases h
  cases r with
  | ok x w' =>
    cases x <;> simp only [Oper.upon] at h <;> simp only [Oper.uponIn] <;> first
      | exact h
      | exact ⟨hd, calls_fen h⟩
      | exact ⟨hd, rows_fen h⟩
  | halt x w' => cases x <;> simp only [Oper.upon] at h <;> simp only [Oper.uponIn] <;> exact h
theorem not_defer {ρ : Operand → Value} {o : Oper} {w w' : World} {v : Value} (h : (execOp ρ o).run P w = .ok (.value v) w') : ∀ c, o.op ≠ .defer c := by
  intro c hc
  simp only [execOp, hc, Sem.run_bind] at h
  cases hr : (resolve ρ c o.type).run P w <;> rw [hr] at h <;> simp at h
theorem wp_not_defer {o : Oper} {a : Act} {w : World} (h : o.wp P a w (fun a' _ => a'.defers = a.defers) (fun _ _ _ => False)) : ∀ c, o.op ≠ .defer c := by
  intro c hc
  unfold Oper.wp at h
  simp only [execOp, hc, Sem.run_bind] at h
  cases hr : (resolve a.eval c o.type).run P w with
  | ok d w' =>
    rw [hr] at h
    simp only [Result.andThen_ok, Sem.run_pure, Oper.upon_defer] at h
    have : (d :: a.defers).length = a.defers.length := by
      have e := congrArg List.length h
      cases hd : o.dst <;> rw [hd] at e <;> exact e
    simp at this
  | halt x w' =>
    rw [hr] at h
    cases x <;> exact h
theorem put_defers (a : Act) (d : Option Tmp) (v : Value) : (a.put d v).defers = a.defers := by cases d <;> rfl
theorem OpQ.toIn {o : Oper} {v : Value} (hop : OpQ P n w0 o E H v) {a : Act} {w : World} (s : Sees n E a) (hs : Sat w0 w H) {K : Act → World → Prop} {Q : Exit → Act → World → Prop} (h : K (a.put o.dst v) w) : o.wpIn (fen n.round) 0 P a w K Q := by
  have e := hop a w s hs
  refine wpIn_of_wp (.inr (not_defer e)) ?_
  unfold Oper.wp
  rw [e]; exact h
theorem OpT.toIn {o : Oper} {α : Type} {pre : HProp} {v : α → Value} {post : α → HProp} (hop : OpT P n w0 o E pre v post) (G : HProp) {a : Act} {w : World} {K : Act → World → Prop} {Q : Exit → Act → World → Prop} (s : Sees n E a) (hs : Sat w0 w (pre * G)) (h : ∀ x w', Sat w0 w' (post x * G) → K (a.put o.dst (v x)) w') : o.wpIn (fen n.round) 0 P a w K Q :=
  wpIn_of_wp (.inr (wp_not_defer (hop G a w _ _ s hs fun x w' _ => put_defers _ _ _))) (hop G a w K Q s hs h)
variable {ops : Array Oper} {l : List Oper} {o : Oper}
theorem WS_region {id : Nat} (h : LS P n w0 l.toArray Q l σ) : WS P n w0 (.region id l.toArray false) Q σ := fun a w g => wpIn_region_lit (h a w g)
theorem LS_nil (h : Q .normal σ) : LS P n w0 ops Q [] σ := fun a w g => ⟨σ, h, g⟩
/-- Whether a guard lets an operation come up: the Bool of the slot that it looks at, and what it wants. -/
def guardV (ops : Array Oper) (E : Env) (o : Oper) : Option (Bool × Bool) :=
  match o.guard with
  | none => some (true, true)
  | some (j, want) => match (ops[j]?).bind (·.dst) with
    | some d => match E.get d with
      | some (.bool c) => some (c, want)
      | some (.tuple _) => some (!want, want)
      | _ => none
    | none => none
theorem wanted_of {a : Act} (h : Sees n E a) {c want : Bool} (hg : guardV ops E o = some (c, want)) : Region.wanted o (yielded ops a.tmps) = (c == want) := by
  unfold guardV at hg
  unfold Region.wanted
  cases hgu : o.guard with
  | none => rw [hgu] at hg; cases hg; rfl
  | some jw =>
    obtain ⟨j, want'⟩ := jw
    rw [hgu] at hg
    simp only at hg ⊢
    cases hd : (ops[j]?).bind (·.dst) with
    | none => rw [hd] at hg; cases hg
    | some d =>
      rw [hd] at hg
      simp only at hg
      cases hc : E.get d with
      | none => rw [hc] at hg; cases hg
      | some v =>
        rw [hc] at hg
        cases v with
        | bool c' =>
          cases hg
          have hy : yielded ops a.tmps j = some c := by
            have := h.get d _ hc
            unfold yielded
            rw [hd]
            simp only [Option.bind_some]
            have hlt : d < a.tmps.size := by
              rcases Nat.lt_or_ge d a.tmps.size with hlt | hge
              · exact hlt
              · simp [Array.getElem?_eq_none hge, undef] at this
            simp [hlt] at this ⊢
            rw [this]
          rw [hy]; cases c <;> cases want <;> rfl
        | tuple xs =>
          cases hg
          have hy : yielded ops a.tmps j = none := by
            have := h.get d _ hc
            unfold yielded
            rw [hd]
            simp only [Option.bind_some]
            rcases Nat.lt_or_ge d a.tmps.size with hlt | hge
            · simp [hlt] at this ⊢
              rw [this]
            · simp [Array.getElem?_eq_none hge]
          rw [hy]; cases want <;> rfl
        | _ => cases hg
theorem LS_qo {v : Value} (hop : OpQ P n w0 o E H v) (hd : okDst n o.dst = true) (hg : o.guard = none) (h : LS P n w0 ops Q l ⟨E.putO o.dst v, D, H⟩) : LS P n w0 ops Q (o :: l) ⟨E, D, H⟩ := fun a w g =>
  wpListIn_plain hg fun K hK => hop.toIn g.sees g.sat (hK _ _ (h _ _ ⟨g.sees.putO _ _ hd, by have := g.defers; cases o.dst <;> exact this, g.sat⟩))
theorem LS_q {d : Nat} {op : Op} {ty : TypeId} {pos : String} {after : Array Edge} {v : Value} (hop : OpQ P n w0 ⟨some d, op, ty, pos, after, none⟩ E H v) (hd : Nat.blt d n.tmps = true) (h : LS P n w0 ops Q l ⟨(d, v) :: E, D, H⟩) : LS P n w0 ops Q (⟨some d, op, ty, pos, after, none⟩ :: l) ⟨E, D, H⟩ := LS_qo hop hd rfl h
theorem LQ {d : Nat} {op : Op} {ty : TypeId} {pos : String} {after : Array Edge} {v : Value} (hop : ∀ _ : Unit, OpQ P n w0 ⟨some d, op, ty, pos, after, none⟩ E H v) (hd : Nat.blt d n.tmps = true) (h : LS P n w0 ops Q l ⟨(d, v) :: E, D, H⟩) : LS P n w0 ops Q (⟨some d, op, ty, pos, after, none⟩ :: l) ⟨E, D, H⟩ := LS_q (hop ()) hd h
theorem LS_t {α : Type} {pre : HProp} {v : α → Value} {post : α → HProp} (hop : OpT P n w0 o E pre v post) (hH : H = pre * F) (hd : okDst n o.dst = true) (hg : o.guard = none)
    (h : ∀ x, LS P n w0 ops Q l ⟨E.putO o.dst (v x), D, post x * F⟩) : LS P n w0 ops Q (o :: l) ⟨E, D, H⟩ := fun a w g =>
  wpListIn_plain hg fun K hK => hop.toIn F g.sees (g.sat.cast hH) fun x w' hs => hK _ _ (h x _ _ ⟨g.sees.putO _ _ hd, by have := g.defers; cases o.dst <;> exact this, hs⟩)
/-- A guarded operation that comes up, and one that does not. -/
theorem LS_wantO {d : Option Tmp} {op : Op} {ty : TypeId} {pos : String} {after : Array Edge} {gu : Option (Nat × Bool)} {c want : Bool} (hg : guardV ops E ⟨d, op, ty, pos, after, gu⟩ = some (c, want)) (hd : okDst n d = true)
    (h1 : c = want → LS P n w0 ops Q (⟨d, op, ty, pos, after, none⟩ :: l) ⟨E, D, H⟩) (h2 : c = !want → LS P n w0 ops Q l ⟨E.putO d undef, D, H⟩) : LS P n w0 ops Q (⟨d, op, ty, pos, after, gu⟩ :: l) ⟨E, D, H⟩ := fun a w g => by
  have hw := wanted_of g.sees hg
  unfold wpListIn
  by_cases e : c = want
  · have hw1 : Region.wanted (⟨d, op, ty, pos, after, gu⟩ : Oper) (yielded ops a.tmps) = true := by rw [hw, e]; simp
    rw [if_pos hw1]
    have := h1 e a w g
    unfold wpListIn at this
    rw [if_pos (by rfl)] at this
    exact this
  · have hw1 : ¬ Region.wanted (⟨d, op, ty, pos, after, gu⟩ : Oper) (yielded ops a.tmps) = true := by rw [hw]; simpa using e
    rw [if_neg hw1]
    exact ⟨fun _ _ => trivial, h2 (by cases c <;> cases want <;> simp_all) _ _ ⟨g.sees.putO _ _ hd, by have := g.defers; cases d <;> exact this, g.sat⟩⟩
theorem LS_want {d j : Nat} {op : Op} {ty : TypeId} {pos : String} {after : Array Edge} {b c want : Bool} (hg : guardV ops E ⟨some d, op, ty, pos, after, some (j, b)⟩ = some (c, want)) (hd : Nat.blt d n.tmps = true)
    (h1 : c = want → LS P n w0 ops Q (⟨some d, op, ty, pos, after, none⟩ :: l) ⟨E, D, H⟩) (h2 : c = !want → LS P n w0 ops Q l ⟨(d, undef) :: E, D, H⟩) : LS P n w0 ops Q (⟨some d, op, ty, pos, after, some (j, b)⟩ :: l) ⟨E, D, H⟩ := LS_wantO hg hd h1 h2
theorem LS_wantT {d j dj : Nat} {op : Op} {ty : TypeId} {pos : String} {after : Array Edge} {c want : Bool} (hj : (ops[j]?).bind (·.dst) = some dj) (hc : E.get dj = some (.bool c)) (hl : Lit c want) (hd : Nat.blt d n.tmps = true) (h : LS P n w0 ops Q (⟨some d, op, ty, pos, after, none⟩ :: l) ⟨E, D, H⟩) :
    LS P n w0 ops Q (⟨some d, op, ty, pos, after, some (j, want)⟩ :: l) ⟨E, D, H⟩ := LS_want (c := want) (want := want) (by simp only [guardV, hj, hc, hl.eq]) hd (fun _ => h) (fun e => by cases want <;> cases e)
theorem LS_wantF {d j dj : Nat} {op : Op} {ty : TypeId} {pos : String} {after : Array Edge} {c want : Bool} (hj : (ops[j]?).bind (·.dst) = some dj) (hc : E.get dj = some (.bool c)) (hl : Lit c (!want)) (hd : Nat.blt d n.tmps = true) (h : LS P n w0 ops Q l ⟨(d, undef) :: E, D, H⟩) :
    LS P n w0 ops Q (⟨some d, op, ty, pos, after, some (j, want)⟩ :: l) ⟨E, D, H⟩ := LS_want (c := !want) (want := want) (by simp only [guardV, hj, hc, hl.eq]) hd (fun e => by cases want <;> cases e) (fun _ => h)
/-- A guard that looks at what did not come up. -/
theorem LS_wantU {d j dj : Nat} {op : Op} {ty : TypeId} {pos : String} {after : Array Edge} {want : Bool} {xs : Array Value} (hj : (ops[j]?).bind (·.dst) = some dj) (hc : E.get dj = some (.tuple xs)) (hd : Nat.blt d n.tmps = true) (h : LS P n w0 ops Q l ⟨(d, undef) :: E, D, H⟩) :
    LS P n w0 ops Q (⟨some d, op, ty, pos, after, some (j, want)⟩ :: l) ⟨E, D, H⟩ := LS_want (c := !want) (want := want) (by simp only [guardV, hj, hc]) hd (fun e => by cases want <;> cases e) (fun _ => h)
/-- A guard that is not decided: either way; its slot is laid anew. -/
theorem LS_wantS {d j dj : Nat} {op : Op} {ty : TypeId} {pos : String} {after : Array Edge} {c want : Bool} (hj : (ops[j]?).bind (·.dst) = some dj) (hc : E.get dj = some (.bool c)) (hd : Nat.blt d n.tmps = true)
    (h1 : c = want → LS P n w0 ops Q (⟨some d, op, ty, pos, after, none⟩ :: l) ⟨(dj, .bool want) :: E, D, H⟩) (h2 : c = !want → LS P n w0 ops Q l ⟨(d, undef) :: (dj, .bool (!want)) :: E, D, H⟩) : LS P n w0 ops Q (⟨some d, op, ty, pos, after, some (j, want)⟩ :: l) ⟨E, D, H⟩ := by
  have weak : ∀ (b : Bool), c = b → ∀ a w, Good n w0 ⟨E, D, H⟩ a w → Good n w0 ⟨(dj, .bool b) :: E, D, H⟩ a w := fun b hb a w g => ⟨⟨g.sees.size, fun t v ht => by
    rw [Env.get_cons] at ht
    split at ht
    · rename_i e; subst e; cases ht; exact g.sees.get dj _ (by rw [hc, hb])
    · exact g.sees.get t v ht⟩, g.defers, g.sat⟩
  refine LS_want (c := c) (want := want) (by simp only [guardV, hj, hc]) hd (fun e a w g => h1 e a w (weak _ e a w g)) (fun e a w g => h2 e a w ?_)
  refine ⟨⟨g.sees.size, fun t v ht => ?_⟩, g.defers, g.sat⟩
  rw [Env.get_cons] at ht
  split at ht
  · rename_i e1; subst e1; cases ht; exact g.sees.get d _ (by rw [Env.get_cons, if_pos rfl])
  · rename_i e1
    rw [Env.get_cons] at ht
    split at ht
    · rename_i e2; subst e2; cases ht
      exact g.sees.get dj _ (by rw [Env.get_cons, if_neg e1, hc, e])
    · exact g.sees.get t v (by rw [Env.get_cons, if_neg e1]; exact ht)
theorem LS_wantN {j : Nat} {op : Op} {ty : TypeId} {pos : String} {after : Array Edge} {b c want : Bool} (hg : guardV ops E ⟨none, op, ty, pos, after, some (j, b)⟩ = some (c, want))
    (h1 : c = want → LS P n w0 ops Q (⟨none, op, ty, pos, after, none⟩ :: l) ⟨E, D, H⟩) (h2 : c = !want → LS P n w0 ops Q l ⟨E, D, H⟩) : LS P n w0 ops Q (⟨none, op, ty, pos, after, some (j, b)⟩ :: l) ⟨E, D, H⟩ := LS_wantO hg rfl h1 h2
end Go.Proofs.YtapoehkdnglahaaGreat

/- The rules of single operations, over a state without its world. No program in sight. -/
namespace Go.Proofs.YtapoehkdnglahaaGreat
open Go.RowKit
set_option linter.unusedVariables false
set_option linter.unusedSectionVars false

/-! ### Rows of cells, worked out -/
def getL : List Value → Nat → Option Value
  | [], _ => none
  | v :: _, 0 => some v
  | _ :: r, i + 1 => getL r i
def setL : List Value → Nat → Value → Option (List Value)
  | [], _, _ => none
  | _ :: r, 0, v => some (v :: r)
  | a :: r, i + 1, v => match setL r i v with
    | some r' => some (a :: r')
    | none => none
def headL : List Value → Nat → Option (List Value)
  | _, 0 => some []
  | [], _ + 1 => none
  | v :: r, k + 1 => match headL r k with
    | some r' => some (v :: r')
    | none => none
def takeL : List Value → Nat → Nat → Option (List Value)
  | cs, 0, k => headL cs k
  | [], _ + 1, _ => none
  | _ :: r, i + 1, k => takeL r i k
/-- The head of a row overwritten. -/
def overL : List Value → List Value → Option (List Value)
  | cs, [] => some cs
  | [], _ :: _ => none
  | _ :: r, v :: vs => match overL r vs with
    | some r' => some (v :: r')
    | none => none
def pasteL : List Value → Nat → List Value → Option (List Value)
  | cs, 0, vs => overL cs vs
  | [], _ + 1, _ => none
  | a :: r, i + 1, vs => match pasteL r i vs with
    | some r' => some (a :: r')
    | none => none
theorem getL_eq : ∀ (cs : List Value) (i : Nat), getL cs i = cs[i]?
  | [], i => by simp [getL]
  | v :: r, 0 => rfl
  | v :: r, i + 1 => by simp [getL, getL_eq r i]
theorem headL_eq : ∀ {cs : List Value} {k : Nat} {r : List Value}, headL cs k = some r → k ≤ cs.length ∧ r = cs.take k
  | cs, 0, _, h => by cases cs <;> cases h <;> simp
  | [], _ + 1, _, h => by cases h
  | v :: cs, k + 1, r, h => by
    simp only [headL] at h
    cases hr : headL cs k with
    | none => rw [hr] at h; cases h
    | some r' => rw [hr] at h; cases h; obtain ⟨h1, h2⟩ := headL_eq hr; simp [h2]; exact h1
theorem takeL_eq : ∀ {cs : List Value} {i k : Nat} {r : List Value}, takeL cs i k = some r → i + k ≤ cs.length ∧ r = (cs.drop i).take k
  | cs, 0, k, r, h => by
    have h' : headL cs k = some r := by cases cs <;> exact h
    simpa using headL_eq h'
  | [], _ + 1, _, _, h => by cases h
  | _ :: cs, i + 1, k, r, h => by
    have := takeL_eq (cs := cs) h
    exact ⟨by simp; omega, by simpa using this.2⟩
theorem overL_eq : ∀ {cs vs r : List Value}, overL cs vs = some r → vs.length ≤ cs.length ∧ r = vs ++ cs.drop vs.length
  | cs, [], _, h => by cases cs <;> cases h <;> simp
  | [], _ :: _, _, h => by cases h
  | _ :: cs, v :: vs, r, h => by
    simp only [overL] at h
    cases hr : overL cs vs with
    | none => rw [hr] at h; cases h
    | some r' => rw [hr] at h; cases h; obtain ⟨h1, h2⟩ := overL_eq hr; simp [h2]; exact h1
theorem pasteL_eq : ∀ {cs : List Value} {i : Nat} {vs r : List Value}, pasteL cs i vs = some r → i + vs.length ≤ cs.length ∧ r = cs.take i ++ vs ++ cs.drop (i + vs.length)
  | cs, 0, vs, r, h => by
    have h' : overL cs vs = some r := by cases cs <;> exact h
    simpa using overL_eq h'
  | [], _ + 1, _, _, h => by cases h
  | a :: cs, i + 1, vs, r, h => by
    simp only [pasteL] at h
    cases hr : pasteL cs i vs with
    | none => rw [hr] at h; cases h
    | some r' =>
      rw [hr] at h; cases h; obtain ⟨h1, h2⟩ := pasteL_eq hr
      refine ⟨by simp; omega, ?_⟩
      rw [h2, show i + 1 + vs.length = (i + vs.length) + 1 by omega]; simp

/-! ### Limbs of an assertion -/
/-- A block of cells, none frozen. -/
def cel (g : Nat) (t : TypeId) (cs : List Value) : HProp := blk g t cs.toArray
class LimbB (H : HProp) (g : Nat) (t : outParam TypeId) (cs : outParam (List Value)) (F : outParam HProp) : Prop where
  eq : H = cel g t cs * F
instance limbB_head (g : Nat) (t : TypeId) (cs : List Value) (F : HProp) : LimbB (cel g t cs * F) g t cs F := ⟨rfl⟩
instance (priority := low) limbB_tail (X H F : HProp) (g : Nat) (t : TypeId) (cs : List Value) [h : LimbB H g t cs F] : LimbB (X * H) g t cs (X * F) := ⟨by rw [h.eq, star_left_comm]⟩
instance (priority := low) limbB_left (X H F : HProp) (g : Nat) (t : TypeId) (cs : List Value) [h : LimbB X g t cs F] : LimbB (X * H) g t cs (F * H) := ⟨by rw [h.eq, star_assoc]⟩
/-- The limb p x, p given. -/
class Limb {α : Type} (H : HProp) (p : α → HProp) (x : outParam α) (F : outParam HProp) : Prop where
  eq : H = p x * F
instance limb_head {α : Type} (p : α → HProp) (x : α) (F : HProp) : Limb (p x * F) p x F := ⟨rfl⟩
instance (priority := low) limb_tail {α : Type} (X H F : HProp) (p : α → HProp) (x : α) [h : Limb H p x F] : Limb (X * H) p x (X * F) := ⟨by rw [h.eq, star_left_comm]⟩
instance (priority := low) limb_left {α : Type} (X H F : HProp) (p : α → HProp) (x : α) [h : Limb X p x F] : Limb (X * H) p x (F * H) := ⟨by rw [h.eq, star_assoc]⟩

/-! ### Types -/
class Und (P : Program) (t : TypeId) (d : outParam TypeDesc) : Prop where
  eq : P.underlying t = some d
/-- A type whose values take one cell. -/
def scalarD : Option TypeDesc → Bool
  | some (.struct _) | some (.array _ _) | none => false
  | _ => true
class Scal (P : Program) (t : TypeId) : Prop where
  ok : scalarD (P.underlying t) = true
  size : (P.info? t).map (·.size) = some 1
/-- A struct or an array of so many cells. -/
def aggD : Option TypeDesc → Bool
  | some (.struct _) | some (.array _ _) => true
  | _ => false
class Aggr (P : Program) (t : TypeId) (size : outParam Nat) : Prop where
  ok : aggD (P.underlying t) = true
  size : (P.info? t).map (·.size) = some size
/-- The cells of a type's zero. -/
def cellsL : Value → List Value
  | .agg cs => cs.toList
  | v => [v]
theorem cellsL_eq (v : Value) : v.cells = (cellsL v).toArray := by cases v <;> simp [Value.cells, cellsL]
class Zero (P : Program) (t : TypeId) (z : outParam Value) (zs : outParam (List Value)) : Prop where
  eq : (P.info? t).map (·.zero) = some (some z)
  cells : cellsL z = zs
/-- Field k of struct s: its first cell's place, its type; it takes some cells. -/
def fieldD (P : Program) (s k : Nat) : Option (Nat × TypeId × Nat) :=
  match P.underlying s with
  | some (.struct fs) => match fs[k]? with
    | some f => match P.info? f.type with
      | some i => some (f.offset, f.type, i.size)
      | none => none
    | none => none
  | _ => none
class Fld (P : Program) (s k : Nat) (off : outParam Nat) (t : outParam TypeId) : Prop where
  eq : ∃ size, fieldD P s k = some (off, t, size + 1)

variable {P : Program} {n : Frm} {w0 : World} {E : Env} {D : List Deferred} {H F : HProp} {ops : Array Oper} {l : List Oper} {Q : Exit → St → Prop} {w : World}
@[reducible] def ptr (g off : Nat) : Value := .pointer (some ⟨g, off, none⟩)

section quiet
variable {d : Option Tmp} {ty : TypeId} {pos : String} {after : Array Edge} {gu : Option (Nat × Bool)} {x y : Operand} {v u : Value}
theorem Q_move (h : E.ev x = some v) : OpQ P n w0 ⟨d, .move x, ty, pos, after, gu⟩ E H v := fun a w s hs => by
  simp only [execOp, s.ev h]; rfl
theorem Q_assign (h : E.ev x = some v) : OpQ P n w0 ⟨d, .assign x, ty, pos, after, gu⟩ E H v := fun a w s hs => by
  simp only [execOp, s.ev h]; rfl
theorem Q_pick_t {c : Operand} {b : Bool} (hc : E.ev c = some (.bool b)) (hl : Lit b true) (h1 : E.ev x = some v) : OpQ P n w0 ⟨d, .pick c x y, ty, pos, after, gu⟩ E H v := fun a w s hs => by
  cases hl.eq
  simp only [execOp, s.ev hc, s.ev h1, asBool]
  simp
theorem Q_pick_f {c : Operand} {b : Bool} (hc : E.ev c = some (.bool b)) (hl : Lit b false) (h1 : E.ev y = some v) : OpQ P n w0 ⟨d, .pick c x y, ty, pos, after, gu⟩ E H v := fun a w s hs => by
  cases hl.eq
  simp only [execOp, s.ev hc, s.ev h1, asBool]
  simp
theorem Q_nilCheck {a0 : Addr} (h : E.ev x = some (.pointer (some a0))) : OpQ P n w0 ⟨d, .nilCheck x, ty, pos, after, gu⟩ E H (.pointer (some a0)) := fun a w s hs => by
  simp only [execOp, s.ev h]; rfl
theorem Q_extract {vs : List Value} {k : Nat} (h : E.ev x = some (.tuple vs.toArray)) (hv : getL vs k = some v) : OpQ P n w0 ⟨d, .extract x k, ty, pos, after, gu⟩ E H v := fun a w s hs => by
  rw [getL_eq] at hv
  simp [execOp, s.ev h, Instr.extract, hv]
theorem Q_makeFunc {fn : Fn} {xs ys : List Operand} {vs us : List Value} (h1 : E.evs xs = some vs) (h2 : E.evs ys = some us) : OpQ P n w0 ⟨d, .makeFunc fn xs.toArray ys.toArray, ty, pos, after, gu⟩ E H (.func fn vs.toArray us.toArray) := fun a w s hs => by
  have e1 := s.evs h1
  have e2 := s.evs h2
  simp [execOp, Instr.makeFunc, e1, e2]
/-- An operator whose value hangs on its operands alone. -/
class BinV (P : Program) (op : BinOp) (t : TypeId) (x y : Value) (r : outParam Value) : Prop where
  run : ∀ w, (binOp op t x y).run P w = .ok r w
  guard : ∀ w (a b : Operand), (eqGuard op t a b x y).run P w = .ok () w
theorem Q_bin {op : BinOp} {t t2 : TypeId} (hx : E.ev x = some v) (hy : E.ev y = some u) {r : Value} (h : BinV P op t v u r) : OpQ P n w0 ⟨d, .binOp op t x y t2, ty, pos, after, gu⟩ E H r := fun a w s hs => by
  simp [execOp, s.ev hx, s.ev hy, h.guard, h.run]
/-- A test whose outcome is known. -/
theorem Q_bin_t {op : BinOp} {t t2 : TypeId} (hx : E.ev x = some v) (hy : E.ev y = some u) {q : Prop} {inst : Decidable q} (h : BinV P op t v u (.bool (decide q))) (hq : q) : OpQ P n w0 ⟨d, .binOp op t x y t2, ty, pos, after, gu⟩ E H (.bool true) := by
  have := Q_bin (n := n) (w0 := w0) (H := H) (d := d) (ty := ty) (pos := pos) (after := after) (gu := gu) (t2 := t2) hx hy h
  rwa [decide_eq_true hq] at this
theorem Q_bin_f {op : BinOp} {t t2 : TypeId} (hx : E.ev x = some v) (hy : E.ev y = some u) {q : Prop} {inst : Decidable q} (h : BinV P op t v u (.bool (decide q))) (hq : ¬ q) : OpQ P n w0 ⟨d, .binOp op t x y t2, ty, pos, after, gu⟩ E H (.bool false) := by
  have := Q_bin (n := n) (w0 := w0) (H := H) (d := d) (ty := ty) (pos := pos) (after := after) (gu := gu) (t2 := t2) hx hy h
  rwa [decide_eq_false hq] at this
theorem Q_bin_nt {op : BinOp} {t t2 : TypeId} (hx : E.ev x = some v) (hy : E.ev y = some u) {q : Prop} {inst : Decidable q} (h : BinV P op t v u (.bool (!decide q))) (hq : ¬ q) : OpQ P n w0 ⟨d, .binOp op t x y t2, ty, pos, after, gu⟩ E H (.bool true) := by
  have := Q_bin (n := n) (w0 := w0) (H := H) (d := d) (ty := ty) (pos := pos) (after := after) (gu := gu) (t2 := t2) hx hy h
  rwa [decide_eq_false hq] at this
theorem Q_bin_nf {op : BinOp} {t t2 : TypeId} (hx : E.ev x = some v) (hy : E.ev y = some u) {q : Prop} {inst : Decidable q} (h : BinV P op t v u (.bool (!decide q))) (hq : q) : OpQ P n w0 ⟨d, .binOp op t x y t2, ty, pos, after, gu⟩ E H (.bool false) := by
  have := Q_bin (n := n) (w0 := w0) (H := H) (d := d) (ty := ty) (pos := pos) (after := after) (gu := gu) (t2 := t2) hx hy h
  rwa [decide_eq_true hq] at this
class UnV (P : Program) (op : UnOp) (x : Value) (r : outParam Value) : Prop where
  run : ∀ w, (Op.unary op x).run P w = .ok r w
theorem Q_un {op : UnOp} {t : TypeId} (hx : E.ev x = some v) {r : Value} (h : UnV P op v r) : OpQ P n w0 ⟨d, .unOp op t x, ty, pos, after, gu⟩ E H r := fun a w s hs => by
  simp [execOp, s.ev hx, h.run]
theorem run_fieldAt_ptr (w : World) {s k g off o : Nat} {t : TypeId} (h : Fld P s k o t) : (Instr.fieldAt s (ptr g off) k).run P w = .ok (ptr g (off + o)) w := by
  obtain ⟨size, h⟩ := h.eq
  unfold fieldD at h
  split at h
  · rename_i fs hu
    split at h
    · rename_i f hf
      split at h
      · rename_i i hi
        simp only [Option.some.injEq, Prod.mk.injEq] at h
        obtain ⟨h1, h2, hsz⟩ := h
        subst h1
        have hadd : (⟨g, off, none⟩ : Addr).add f.offset = ⟨g, off + f.offset, none⟩ := add_lit g off f.offset
        simp [Instr.fieldAt, run_underlying hu, hf, Instr.sureAddr, fieldPlace, sizeOf, typeInfo, hi, hsz, hadd]
      · cases h
    · cases h
  · cases h
theorem Q_fieldAddr {s k g off o r : Nat} {t : TypeId} (hx : E.ev x = some (ptr g off)) (h : Fld P s k o t) (hr : off + o = r) : OpQ P n w0 ⟨d, .fieldAddr s x k, ty, pos, after, gu⟩ E H (ptr g r) := fun a w se hs => by
  subst hr
  simp [execOp, se.ev hx, run_fieldAt_ptr w h]
theorem Q_load {t bt : TypeId} {g off : Nat} {cs : List Value} (hx : E.ev x = some (ptr g off)) (hl : LimbB H g bt cs F) (ht : Scal P t) (hv : getL cs off = some v) : OpQ P n w0 ⟨d, .load t x, ty, pos, after, gu⟩ E H v := fun a w s hs => by
  have hc := Sat.cell (hs.cast hl.eq) off
  rw [getL_eq] at hv
  have hd := ht.ok
  obtain ⟨dd, hdd⟩ : ∃ dd, P.underlying t = some dd := by
    cases hu : P.underlying t with
    | none => rw [hu] at hd; cases hd
    | some dd => exact ⟨dd, rfl⟩
  rw [hdd] at hd
  have hagg : (isAgg t).run P w = .ok false w := by
    simp only [isAgg, Sem.run_bind, run_underlying hdd, Result.andThen_ok]
    cases dd <;> simp_all [scalarD]
  simp [execOp, s.ev hx, Instr.loadAt, Instr.sureAddr, loadVar, hagg, hc, hv]
theorem Q_loadA {t bt : TypeId} {g off size : Nat} {cs vs : List Value} (hx : E.ev x = some (ptr g off)) (hl : LimbB H g bt cs F) (ht : Aggr P t size) (hv : takeL cs off size = some vs) : OpQ P n w0 ⟨d, .load t x, ty, pos, after, gu⟩ E H (.agg vs.toArray) := fun a w s hs => by
  obtain ⟨hle, hvs⟩ := takeL_eq hv
  have hlen : vs.length = size := by rw [hvs]; simp; omega
  have hc : ∀ j u, vs[j]? = some u → w.cell? ((⟨g, off, none⟩ : Addr).add j) = some u := fun j u hu => by
    have hj : j < size := by rw [← hlen]; exact (List.getElem?_eq_some_iff.1 hu).1
    rw [add_lit, Sat.cell (hs.cast hl.eq)]
    rw [hvs, List.getElem?_take, if_pos hj, List.getElem?_drop] at hu
    simpa using hu
  have hd := ht.ok
  obtain ⟨dd, hdd⟩ : ∃ dd, P.underlying t = some dd := by
    cases hu : P.underlying t with
    | none => rw [hu] at hd; cases hd
    | some dd => exact ⟨dd, rfl⟩
  rw [hdd] at hd
  have hagg : (isAgg t).run P w = .ok true w := by
    simp only [isAgg, Sem.run_bind, run_underlying hdd, Result.andThen_ok]
    cases dd <;> simp_all [aggD]
  obtain ⟨i, hi, hi2⟩ := Option.map_eq_some_iff.1 ht.size
  have hz : (sizeOf t).run P w = .ok size w := by simp [sizeOf, typeInfo, hi, hi2]
  have hr := run_loadCells_list (P := P) (w := w) ⟨g, off, none⟩ vs hc
  rw [hlen] at hr
  simp [execOp, s.ev hx, Instr.loadAt, Instr.sureAddr, loadVar, hagg, hz, hr]
theorem Q_field {t ft : TypeId} {k off : Nat} {cs : List Value} (hx : E.ev x = some (.agg cs.toArray)) (h : Fld P t k off ft) (hs : Scal P ft) (hv : getL cs off = some v) : OpQ P n w0 ⟨d, .field t x k, ty, pos, after, gu⟩ E H v := fun a w se hs' => by
  obtain ⟨size, h⟩ := h.eq
  rw [getL_eq] at hv
  have hd := hs.ok
  obtain ⟨dd, hdd⟩ : ∃ dd, P.underlying ft = some dd := by
    cases hu : P.underlying ft with
    | none => rw [hu] at hd; cases hd
    | some dd => exact ⟨dd, rfl⟩
  rw [hdd] at hd
  have hagg : (isAgg ft).run P w = .ok false w := by
    simp only [isAgg, Sem.run_bind, run_underlying hdd, Result.andThen_ok]
    cases dd <;> simp_all [scalarD]
  unfold fieldD at h
  split at h
  · rename_i fs hu
    split at h
    · rename_i f hf
      split at h
      · rename_i i hi
        simp only [Option.some.injEq, Prod.mk.injEq] at h
        obtain ⟨h1, h2, h3⟩ := h
        subst h1; subst h2
        simp [execOp, se.ev hx, Instr.field, run_underlying hu, hf, asAgg, part, hagg, hv]
      · cases h
    · cases h
  · cases h
theorem Q_convI {src t : TypeId} {q k : IntKind} {m r : Int} {ds : TypeDesc} (hx : E.ev x = some (.int q m)) (hs : Und P src ds) (hd : Und P t (.int k)) (hr : k.wrap m = r) : OpQ P n w0 ⟨d, .convert src t x, ty, pos, after, gu⟩ E H (.int k r) := fun a w s hs' => by
  subst hr
  simp [execOp, s.ev hx, convert, run_underlying hs.eq, run_underlying hd.eq, Conv.intToInt]
theorem Q_len {t e : TypeId} {A : Option Addr} {m c : Nat} (hx : E.ev x = some (.slice A m c)) (ht : Und P t (.slice e)) : OpQ P n w0 ⟨d, .call ⟨.builtin .len, #[x], #[t]⟩, ty, pos, after, gu⟩ E H (.int .i64 (m : Int)) := fun a w s hs => by
  simp [execOp, resolve, invoke, builtin, s.ev hx, Builtin.len_, run_underlying ht.eq, goInt]
theorem Q_len_str {t : TypeId} {b : ByteArray} (hx : E.ev x = some (.string b)) (ht : Und P t .string) : OpQ P n w0 ⟨d, .call ⟨.builtin .len, #[x], #[t]⟩, ty, pos, after, gu⟩ E H (.int .i64 (b.size : Int)) := fun a w s hs => by
  simp [execOp, resolve, invoke, builtin, s.ev hx, Builtin.len_, run_underlying ht.eq, goInt]
theorem Q_max {k k2 : IntKind} {p q : Int} {ts : Array TypeId} (hx : E.ev x = some (.int k p)) (hy : E.ev y = some (.int k2 q)) : OpQ P n w0 ⟨d, .call ⟨.builtin .max, #[x, y], ts⟩, ty, pos, after, gu⟩ E H (.int k (if q > p then q else p)) := fun a w s hs => by
  simp [execOp, resolve, invoke, builtin, s.ev hx, s.ev hy, Builtin.max_, Builtin.max2]
end quiet
end Go.Proofs.YtapoehkdnglahaaGreat

/- A region that draws its order, over a state without its world: one order serves for all. No program in sight. -/
namespace Go.Proofs.YtapoehkdnglahaaGreat
open Go.RowKit
set_option linter.unusedVariables false
set_option linter.unusedSectionVars false
variable {P : Program} {n : Frm} {w0 : World} {E : Env} {D : List Deferred} {H F R : HProp} {ops : Array Oper} {l : List Oper} {Q : Exit → St → Prop} {w : World}

/-- What may change memory, or make some. -/
def effB : Op → Bool
  | .convert s t _ => Nat.beq t 9 || Nat.beq s 9
  | .move _ | .assign _ | .pick .. | .nilCheck _ | .binOp .. | .unOp .. | .fieldAddr .. | .field .. | .indexAddr .. | .index .. | .extract .. | .slice .. | .build .. | .load .. | .lookup .. | .makeFunc .. => false
  | .call { callee := .builtin .len, .. } | .call { callee := .builtin .cap, .. } | .call { callee := .builtin .min, .. } | .call { callee := .builtin .max, .. } => false
  | _ => true
def isAlloc : Op → Bool
  | .alloc _ => true
  | _ => false
/-- The operation leaves v, and memory as the assertion has it. -/
def OpTQ (P : Program) (n : Frm) (w0 : World) (o : Oper) (E : Env) (H : HProp) (v : Value) : Prop :=
  ∀ a w (K : Act → World → Prop) (Q : Exit → Act → World → Prop), Sees n E a → Sat w0 w H → (∀ w', Sat w0 w' H → K (a.put o.dst v) w') → o.wp P a w K Q
/-- R: what is only read; L: what is read till it is claimed; F: the rest. -/
@[reducible] def hp (c : Bool) (R L F : HProp) : HProp := bif c then R * F else R * (L * F)
/-- The region's operations in one order, each shown to serve. B: the places of those that read L; cp: the place where L is claimed. -/
inductive DL (P : Program) (n : Frm) (w0 : World) (ops : Array Oper) (Q : Exit → St → Prop) (D : List Deferred) (R L : HProp) (B : Nat → Bool) (cp : Nat) : Nat → Bool → List Oper → Env → HProp → Prop
  | nil {k : Nat} {c : Bool} {E : Env} {F H : HProp} : H = hp c R L F → Q .normal ⟨E, D, H⟩ → DL P n w0 ops Q D R L B cp k c [] E F
  | q {k : Nat} {c : Bool} {o : Oper} {l : List Oper} {E : Env} {F : HProp} {v : Value} : effB o.op = false → okDst n o.dst = true → (∃ b, guardV ops E o = some (b, b)) → (∀ F', OpQ P n w0 o E (R * F') v) → DL P n w0 ops Q D R L B cp (k + 1) c l (E.putO o.dst v) F → DL P n w0 ops Q D R L B cp k c (o :: l) E F
  | qp {k : Nat} {o : Oper} {l : List Oper} {E : Env} {F : HProp} {v : Value} : effB o.op = false → okDst n o.dst = true → B k = true → (∃ b, guardV ops E o = some (b, b)) → (∀ F', OpQ P n w0 o E (R * (L * F')) v) → DL P n w0 ops Q D R L B cp (k + 1) false l (E.putO o.dst v) F → DL P n w0 ops Q D R L B cp k false (o :: l) E F
  | qs {k : Nat} {c : Bool} {o : Oper} {l : List Oper} {E : Env} {F : HProp} {v : Value} : effB o.op = false → okDst n o.dst = true → B (k + 1000) = true → (∃ b, guardV ops E o = some (b, b)) → OpQ P n w0 o E (hp c R L F) v → DL P n w0 ops Q D R L B cp (k + 1) c l (E.putO o.dst v) F → DL P n w0 ops Q D R L B cp k c (o :: l) E F
  | skip {k : Nat} {c : Bool} {o : Oper} {l : List Oper} {E : Env} {F : HProp} {b : Bool} : isAlloc o.op = false → okDst n o.dst = true → guardV ops E o = some (b, !b) → DL P n w0 ops Q D R L B cp (k + 1) c l (E.putO o.dst undef) F → DL P n w0 ops Q D R L B cp k c (o :: l) E F
  | t {k : Nat} {c : Bool} {o : Oper} {l : List Oper} {E : Env} {F F' : HProp} {α : Type} {pre : HProp} {v : α → Value} {post : α → HProp} : effB o.op = true → isAlloc o.op = false → okDst n o.dst = true → (∃ b, guardV ops E o = some (b, b)) → OpT P n w0 o E pre v post → F = pre * F' →
      (∀ x, DL P n w0 ops Q D R L B cp (k + 1) c l (E.putO o.dst (v x)) (post x * F')) → DL P n w0 ops Q D R L B cp k c (o :: l) E F
  | tq {k : Nat} {c : Bool} {o : Oper} {l : List Oper} {E : Env} {F : HProp} {v : Value} : effB o.op = true → isAlloc o.op = false → okDst n o.dst = true → (∃ b, guardV ops E o = some (b, b)) → (∀ F', OpTQ P n w0 o E (hp c R L F') v) →
      DL P n w0 ops Q D R L B cp (k + 1) c l (E.putO o.dst v) F → DL P n w0 ops Q D R L B cp k c (o :: l) E F
  | a {k : Nat} {c : Bool} {d : Nat} {t ty : TypeId} {pos : String} {after : Array Edge} {l : List Oper} {E : Env} {F : HProp} {z : Value} {zs : List Value} : okDst n (some d) = true → Zero P t z zs →
      (∀ g, DL P n w0 ops Q D R L B cp (k + 1) c l ((d, ptr g 0) :: E) (cel g t zs * F)) → DL P n w0 ops Q D R L B cp k c (⟨some d, .alloc t, ty, pos, after, none⟩ :: l) E F
  | claim {l : List Oper} {E : Env} {F : HProp} : DL P n w0 ops Q D R L B cp cp true l E (L * F) → DL P n w0 ops Q D R L B cp cp false l E F

/-- The slot of an allocation that no guard holds. -/
def allocOf (ops : Array Oper) (j : Nat) : Option Oper :=
  match ops[j]? with
  | some o => bif isAlloc o.op && o.guard.isNone && o.dst.isSome then some o else none
  | none => none
/-- Whatever waits for operation i, by the text. -/
def desF (ops : Array Oper) (i : Nat) : Nat → List Nat
  | 0 => []
  | k + 1 => let r := desF ops i k
    bif k == i || (match ops[k]? with
      | some o => o.after.any fun e => Region.binds .any e && Nat.blt e.on k && r.contains e.on
      | none => false) then k :: r else r
def effAt (ops : Array Oper) (j : Nat) : Bool := match ops[j]? with
  | some o => effB o.op
  | none => false
/-- Is the order one that serves for all? post: the operations that may change what is claimed; e: an allocation that has come up early. -/
def certD (ops : Array Oper) (B : Nat → Bool) (post : List Nat) : Nat → Nat → Nat → List Nat → Array Bool → Option Nat → Bool
  | 0, _, _, _, _, _ => false
  | m + 1, f, k, [], listed, e => e.isNone && (Region.ready .any ops listed).isEmpty
  | m + 1, f, k, i :: r, listed, e =>
    bif e == some i then certD ops B post m f (k + 1) r listed none
    else match f, ops[i]? with
      | f' + 1, some o =>
        (match e with
          | none => true
          | some j => match allocOf ops j with
            | some oj => oj.apart ops o
            | none => false) &&
        (bif effB o.op then
          (Region.ready .any ops listed).contains i && certD ops B post m f' (k + 1) r (listed.setIfInBounds i true) e &&
          (Region.ready .any ops listed).all fun j => j == i || (e.isNone && (allocOf ops j).isSome && certD ops B post m f' k (i :: r) (listed.setIfInBounds j true) (some j))
        else Region.free .any ops listed i && (Region.ready .any ops listed).contains i && (!B k || post.all fun j => (desF ops i ops.size).contains j) && (!B (k + 1000) || (e.isNone && (Region.ready .any ops listed).all fun j => j == i)) && certD ops B post m f' (k + 1) r (listed.setIfInBounds i true) e)
      | _, _ => false

/-! ### Orders -/
def Down (ops : Array Oper) (listed : Array Bool) : Prop := ∀ j o, ops[j]? = some o → listed.getD j false = true → ∀ e ∈ o.after, Region.binds .any e = true → listed.getD e.on false = true
theorem Down.set {listed : Array Bool} (h : Down ops listed) {i : Nat} (hi : i ∈ Region.ready .any ops listed) : Down ops (listed.setIfInBounds i true) := by
  intro j o hj hl e he hb
  by_cases hji : j = i
  · subst hji
    obtain ⟨_, o', ho', hall⟩ := mem_ready.1 hi
    rw [hj] at ho'; cases ho'
    exact getD_set_true (hall e he hb)
  · rw [getD_set_ne false (Ne.symm hji)] at hl
    exact getD_set_true (h j o hj hl e he hb)
theorem desF_spec (i : Nat) : ∀ (k j : Nat), j ∈ desF ops i k → j = i ∨ ∃ o, ops[j]? = some o ∧ ∃ e ∈ o.after, Region.binds .any e = true ∧ e.on < j ∧ e.on ∈ desF ops i k
  | 0, j, h => by cases h
  | k + 1, j, h => by
    unfold desF at h ⊢
    simp only at h ⊢
    cases hb : (k == i || (match ops[k]? with
      | some o => o.after.any fun e => Region.binds .any e && Nat.blt e.on k && (desF ops i k).contains e.on
      | none => false)) with
    | false =>
      rw [hb] at h
      simp only [cond_false] at h ⊢
      exact desF_spec i k j h
    | true =>
      rw [hb] at h
      simp only [cond_true] at h ⊢
      rcases List.mem_cons.1 h with rfl | h
      · by_cases hji : j = i
        · exact .inl hji
        · right
          simp only [Bool.or_eq_true, beq_iff_eq, hji, false_or] at hb
          cases ho : ops[j]? with
          | none => rw [ho] at hb; cases hb
          | some o =>
            rw [ho] at hb
            obtain ⟨e, he, hh⟩ := Array.any_eq_true'.1 hb
            simp only [Bool.and_eq_true] at hh
            obtain ⟨⟨h1, h2⟩, h3⟩ := hh
            exact ⟨o, rfl, e, he, h1, by simpa using h2, List.mem_cons_of_mem _ (by simpa using h3)⟩
      · rcases desF_spec i k j h with h | ⟨o, ho, e, he, h1, h2, h3⟩
        · exact .inl h
        · exact .inr ⟨o, ho, e, he, h1, h2, List.mem_cons_of_mem _ h3⟩
/-- What waits for an operation that has not come up has not come up, and may not. -/
theorem des_unlisted {listed : Array Bool} (hd : Down ops listed) {i m : Nat} (hi : listed.getD i true = false) : ∀ j, j ∈ desF ops i m → listed.getD j false = false := by
  have hi' : listed.getD i false = false := by
    rcases Nat.lt_or_ge i listed.size with h' | h'
    · simp [h'] at hi ⊢; exact hi
    · simp [Array.getElem?_eq_none h'] at hi
  intro j
  induction j using Nat.strongRecOn with
  | _ j ih =>
    intro hj
    rcases desF_spec i m j hj with rfl | ⟨o, ho, e, he, h1, h2, h3⟩
    · exact hi'
    · cases hl : listed.getD j false with
      | false => rfl
      | true =>
        have := hd j o ho hl e he h1
        rw [ih e.on h2 h3] at this
        cases this
/-- Whatever order is picked, and S holds behind each operation. -/
def wpAnyL (P : Program) (ops : Array Oper) (Q : Exit → Act → World → Prop) (S : Array Bool → World → Prop) : Nat → Array Bool → Act → World → Prop
  | 0, listed, a, w => Region.ready .any ops listed = [] ∧ Q .normal a w
  | f + 1, listed, a, w => (Region.ready .any ops listed = [] → Q .normal a w) ∧
    ∀ i ∈ Region.ready .any ops listed, wpOp P ops Q i (fun a' w' => S (listed.setIfInBounds i true) w' ∧ wpAnyL P ops Q S f (listed.setIfInBounds i true) a' w') a w
theorem wpAny_of_L {Q : Exit → Act → World → Prop} {S : Array Bool → World → Prop} : ∀ (f : Nat) (listed : Array Bool) (a : Act) (w : World), wpAnyL P ops Q S f listed a w → wpAny P .any ops Q f listed a w
  | 0, _, _, _, h => h
  | f + 1, _, _, _, h => ⟨h.1, fun i hi => wpOp_mono (fun a' w' h' => wpAny_of_L f _ a' w' h'.2) (h.2 i hi)⟩
/-- An operation that yields in every world in which it may come up may come up first. -/
theorem wpAnyL_first {Q : Exit → Act → World → Prop} {S : Array Bool → World → Prop} {i : Nat} {oi : Oper} {v : Value} (hi : ops[i]? = some oi) (hsel : Region.noSelect ops = true)
    (hQ : ∀ (c : List PanicEntry) (a : Act) (w : World), ¬ Q (.panic c) a w) (T : World → Prop)
    (hT : ∀ listed w, Down ops listed → listed.getD i true = false → S listed w → T w) (hi1 : ∀ listed w, S listed w → S (listed.setIfInBounds i true) w)
    (hsw : ∀ listed j w, Down ops listed → listed.getD i true = false → j ≠ i → j ∈ Region.ready .any ops listed → S ((listed.setIfInBounds i true).setIfInBounds j true) w → S (listed.setIfInBounds j true) w) :
    ∀ (f : Nat) (listed : Array Bool) (a : Act) (w : World), Down ops listed →
      (∀ j oj, ops[j]? = some oj → j ≠ i → listed.getD j true = false → (∀ e ∈ oj.after, Region.binds .any e = true → e.on ≠ i) → oi.apart ops oj = true) →
      i ∈ Region.ready .any ops listed → YieldsIf P ops T oi v a → S listed w → wpAnyL P ops Q S f (listed.setIfInBounds i true) (a.put oi.dst v) w → wpAnyL P ops Q S (f + 1) listed a w := by
  intro f
  induction f with
  | zero =>
    intro listed a w hd hfree hr hy hS h
    refine ⟨fun h0 => (by rw [h0] at hr; cases hr), fun j hj => ?_⟩
    by_cases hji : j = i
    · subst hji
      exact hy.wpOp hi (hT listed w hd (mem_ready.1 hr).1 hS) ⟨hi1 _ _ hS, h⟩
    · have := ready_mono hj hji
      rw [h.1] at this
      cases this
  | succ f ih =>
    intro listed a w hd hfree hr hy hS h
    refine ⟨fun h0 => (by rw [h0] at hr; cases hr), fun j hj => ?_⟩
    by_cases hji : j = i
    · subst hji
      exact hy.wpOp hi (hT listed w hd (mem_ready.1 hr).1 hS) ⟨hi1 _ _ hS, h⟩
    · have hiun := (mem_ready.1 hr).1
      have h1 := h.2 j (ready_mono hj hji)
      obtain ⟨hjun, oj, hoj, hall⟩ := mem_ready.1 hj
      have hnot : ∀ e ∈ oj.after, Region.binds .any e = true → e.on ≠ i := fun e he hb heq => by
        have h2 := hall e he hb
        rw [heq] at h2
        rcases Nat.lt_or_ge i listed.size with h' | h'
        · simp [h'] at hiun h2; rw [hiun] at h2; cases h2
        · simp [Array.getElem?_eq_none h'] at h2
      have h2 := wpOp_putIf hoj (hfree j oj hoj hji hjun hnot) (fun cs b => Region.noSelect_spec hsel i oi cs b hi) (fun cs b => Region.noSelect_spec hsel j oj cs b hoj) (fun c a w hq => absurd hq (hQ _ _ _)) hy h1
      refine wpOp_mono (fun a' w' h3 => ?_) h2
      have hS' := hsw listed j w' hd hiun hji hj h3.2.1
      refine ⟨hS', ih (listed.setIfInBounds j true) a' w' (hd.set hj) (fun k ok hk hki hun hno => hfree k ok hk hki ?_ hno) (ready_mono hr (Ne.symm hji)) h3.1 hS' ?_⟩
      · by_cases hjk : j = k
        · subst hjk; exact hjun
        · rw [getD_set_ne true hjk] at hun; exact hun
      · rw [Array.setIfInBounds_comm _ _ hji]
        exact h3.2.2
theorem wpAnyL_done {Q : Exit → Act → World → Prop} {S : Array Bool → World → Prop} {listed : Array Bool} {a : Act} {w : World} (hr : Region.ready .any ops listed = []) (h : Q .normal a w) : ∀ f, wpAnyL P ops Q S f listed a w
  | 0 => ⟨hr, h⟩
  | _ + 1 => ⟨fun _ => h, by rw [hr]; simp⟩
/-- What holds between the operations: L is whole till one of post has come up. -/
def Held (w0 : World) (ops : Array Oper) (R L : HProp) (post : List Nat) (listed : Array Bool) (w : World) : Prop :=
  ∃ F', Sat w0 w (bif post.any (fun j => listed.getD j false) then R * F' else R * (L * F'))
theorem Held.read {R L : HProp} {post : List Nat} {listed : Array Bool} {w : World} (h : Held w0 ops R L post listed w) : ∃ F', Sat w0 w (R * F') := by
  obtain ⟨F', h⟩ := h
  cases hb : post.any (fun j => listed.getD j false) with
  | true => rw [hb] at h; exact ⟨_, h⟩
  | false => rw [hb] at h; exact ⟨_, h⟩
theorem Held.whole {R L : HProp} {post : List Nat} {listed : Array Bool} {w : World} {F' : HProp} (h : Sat w0 w (R * (L * F'))) : Held w0 ops R L post listed w := by
  cases hb : post.any (fun j => listed.getD j false) with
  | true => exact ⟨L * F', by rw [hb]; exact h⟩
  | false => exact ⟨F', by rw [hb]; exact h⟩
theorem Held.past {R L : HProp} {post : List Nat} {listed : Array Bool} {w : World} {F' : HProp} (hb : post.any (fun j => listed.getD j false) = true) (h : Sat w0 w (R * F')) : Held w0 ops R L post listed w :=
  ⟨F', by rw [hb]; exact h⟩
theorem any_set {post : List Nat} {listed : Array Bool} {i : Nat} (hi : i ∉ post) : post.any (fun j => (listed.setIfInBounds i true).getD j false) = post.any (fun j => listed.getD j false) := by
  rw [Bool.eq_iff_iff, List.any_eq_true, List.any_eq_true]
  constructor
  · rintro ⟨j, hj, h⟩; exact ⟨j, hj, by rw [getD_set_ne false (fun e => hi (by rw [e]; exact hj))] at h; exact h⟩
  · rintro ⟨j, hj, h⟩; exact ⟨j, hj, getD_set_true h⟩
theorem Held.set {R L : HProp} {post : List Nat} {listed : Array Bool} {w : World} (h : Held w0 ops R L post listed w) (i : Nat) : Held w0 ops R L post (listed.setIfInBounds i true) w := by
  cases hb : post.any (fun j => listed.getD j false) with
  | true =>
    obtain ⟨F', h⟩ := h
    rw [hb] at h
    refine .past ?_ h
    obtain ⟨j, hj, h⟩ := List.any_eq_true.1 hb
    exact List.any_eq_true.2 ⟨j, hj, getD_set_true h⟩
  | false => obtain ⟨F', h⟩ := h; rw [hb] at h; exact .whole h

/-- An operation that does not look at a slot, and whether that slot is filled. -/
theorem wp_put {o oj : Oper} {v : Value} (hap : oj.apart ops o = true) (hs : ∀ cs b, o.op ≠ .select cs b) {Q : Exit → Act → World → Prop} (hQ : ∀ c a w, ¬ Q (.panic c) a w) {K : Act → World → Prop} {a : Act} {w : World}
    (h : o.wp P a w (fun x w => K (x.put oj.dst v) w) Q) : o.wp P (a.put oj.dst v) w K Q := by
  obtain ⟨h1, h2, h3⟩ := Oper.apart_spec hap
  unfold Oper.wp at *
  rw [execOp_put o hs a oj.dst v h1]
  generalize (execOp a.eval o).run P w = r at *
  cases r with
  | ok nx w' =>
    cases nx <;> simp only [Oper.upon] at h ⊢
    case value u => rw [Act.put_comm a v u h2]; exact h
    case skip => rw [Act.put_comm a v undef h2]; exact h
    case defer d => rw [Act.put_defers, Act.put_comm _ v undef h2]; exact h
    case enter f args =>
      refine Calls.mono h fun e w'' he => ?_
      cases e with
      | returned u => show K ((a.put oj.dst v).put o.dst u) w''; rw [Act.put_comm a v u h2]; exact he
      | panicked c => exact absurd he (hQ _ _ _)
      | outgrown => exact he
    case row row args => exact Rows.mono h fun u w'' he => by show K ((a.put oj.dst v).put o.dst u) w''; rw [Act.put_comm a v u h2]; exact he
  | halt x w' =>
    cases x <;> simp only [Oper.upon] at h ⊢
    case panic u => exact absurd h (hQ _ _ _)

def noPanic (Q : Exit → Act → World → Prop) : Exit → Act → World → Prop
  | .panic _, _, _ => False
  | .outgrown, _, _ => False
  | e, a, w => Q e a w

theorem run_alloc (w : World) {t : TypeId} {z : Value} {zs : List Value} (hz : Zero P t z zs) : (Instr.alloc t true (.tuple #[])).run P w = .ok (ptr w.heap.size 0) (w.alloc (.cells zs.toArray t)) := by
  obtain ⟨i, hi, hi2⟩ := Option.map_eq_some_iff.1 hz.eq
  have hc : z.cells = zs.toArray := by rw [cellsL_eq, hz.cells]
  simp [Instr.alloc, zeroValue, typeInfo, hi, hi2, newVar, newRow, hc]
theorem execOp_alloc (ρ : Operand → Value) {d : Option Tmp} {t ty : TypeId} {pos : String} {after : Array Edge} {gu : Option (Nat × Bool)} (w : World) {z : Value} {zs : List Value} (hz : Zero P t z zs) :
    (execOp ρ ⟨d, .alloc t, ty, pos, after, gu⟩).run P w = .ok (.value (ptr w.heap.size 0)) (w.alloc (.cells zs.toArray t)) := by
  simp [execOp, run_alloc w hz]

/-- What of an early allocation is laid already: its slot, its block. -/
inductive Early (P : Program) (n : Frm) (ops : Array Oper) (a0 : Act) (H : HProp) : Option Nat → Act → HProp → Prop
  | none : Early P n ops a0 H none a0 H
  | some {j d : Nat} {t ty : TypeId} {g : Nat} {pos : String} {after : Array Edge} {z : Value} {zs : List Value} : ops[j]? = some ⟨some d, .alloc t, ty, pos, after, none⟩ → Zero P t z zs →
      Early P n ops a0 H (some j) (a0.put (some d) (ptr g 0)) (cel g t zs * H)
/-- All allocations of the region have their zeros. -/
def zerosB (P : Program) (ops : Array Oper) : Prop := ∀ (j d t ty : Nat) (pos : String) (after : Array Edge) (gu : Option (Nat × Bool)), ops[j]? = some (⟨some d, .alloc t, ty, pos, after, gu⟩ : Oper) → ∃ z zs, Zero P t z zs
def zeroOp (P : Program) (o : Oper) : Bool := match o.op with
  | .alloc t => match P.info? t with
    | some i => i.zero.isSome
    | none => false
  | _ => true
theorem zerosB_of {l : List Oper} (h : l.all (zeroOp P) = true) : zerosB P l.toArray := by
  intro j d t ty pos after gu hj
  have hm := List.all_eq_true.1 h _ (List.mem_of_getElem? (by simpa using hj))
  simp only [zeroOp] at hm
  cases hi : P.info? t with
  | none => rw [hi] at hm; cases hm
  | some i =>
    rw [hi] at hm
    simp only at hm
    obtain ⟨z, hz⟩ := Option.isSome_iff_exists.1 hm
    exact ⟨z, _, by rw [hi]; simp [hz], rfl⟩
theorem allocOf_some {j : Nat} {o : Oper} (h : allocOf ops j = some o) : ∃ (d t ty : Nat) (pos : String) (after : Array Edge), o = (⟨some d, .alloc t, ty, pos, after, none⟩ : Oper) ∧ ops[j]? = some o := by
  unfold allocOf at h
  cases ho : ops[j]? with
  | none => rw [ho] at h; cases h
  | some o' =>
    rw [ho] at h
    simp only at h
    cases hb : (isAlloc o'.op && o'.guard.isNone && o'.dst.isSome) with
    | false => rw [hb] at h; cases h
    | true =>
      rw [hb] at h
      cases h
      obtain ⟨dst, op, ty, pos, after, guard⟩ := o
      simp only [Bool.and_eq_true] at hb
      obtain ⟨⟨h1, h2⟩, h3⟩ := hb
      cases op <;> try (cases h1; done)
      cases guard <;> try (cases h2; done)
      cases dst <;> try (cases h3; done)
      exact ⟨_, _, _, _, _, rfl, rfl⟩

section sound
variable {R L : HProp} {B : Nat → Bool} {cp : Nat} {post idx0 : List Nat}
def SoundAt (P : Program) (n : Frm) (w0 : World) (ops : Array Oper) (Q : Exit → St → Prop) (D : List Deferred) (R L : HProp) (B : Nat → Bool) (cp : Nat) (post idx0 : List Nat) (c : Bool) (m : Nat) : Prop :=
  ∀ (f k : Nat) (idx : List Nat) (listed : Array Bool) (e : Option Nat) (l : List Oper) (E : Env) (F : HProp) (a0 a : Act) (H : HProp) (w : World),
    certD ops B post m f k idx listed e = true → idx0.drop k = idx → idx.map (ops[·]?) = l.map some → DL P n w0 ops Q D R L B cp k c l E F → (c = true → cp ≤ k) → Sees n E a0 → a0.defers = D → Early P n ops a0 (hp c R L F) e a H → Sat w0 w H → Down ops listed → Held w0 ops R L post listed w →
    wpAnyL P ops (noPanic (lift n w0 Q)) (Held w0 ops R L post) f listed a w
theorem DL_sound (hz : zerosB P ops) (hsel : Region.noSelect ops = true) (hpost : post = (idx0.drop cp).filter (effAt ops)) (c : Bool) (hclaim : c = false → ∀ m, SoundAt P n w0 ops Q D R L B cp post idx0 true m) : ∀ m, SoundAt P n w0 ops Q D R L B cp post idx0 c m := by
  have hQ0 : ∀ (c : List PanicEntry) (a : Act) (w : World), ¬ noPanic (lift n w0 Q) (.panic c) a w := fun _ _ _ h => h
  have hpe : ∀ j, j ∈ post → effAt ops j = true := fun j hj => by rw [hpost] at hj; exact (List.mem_filter.1 hj).2
  intro m
  induction m with
  | zero => intro f k idx listed e l E F a0 a H w hc; cases hc
  | succ m ih =>
    intro f k idx listed e l E F a0 a H w hc hk hidx hd hcp hs hD he hsat hdown hS
    -- a claim
    by_cases hcl : ∃ F', c = false ∧ k = cp ∧ F' = L * F ∧ DL P n w0 ops Q D R L B cp cp true l E F'
    · obtain ⟨F', rfl, rfl, rfl, hd'⟩ := hcl
      exact hclaim rfl (m + 1) f k idx listed e l E (L * F) a0 a H w hc hk hidx hd' (fun _ => Nat.le_refl _) hs hD he hsat hdown hS
    cases idx with
    | nil =>
      have hl : l = [] := by simpa using hidx.symm
      subst hl
      simp only [certD, Bool.and_eq_true] at hc
      obtain ⟨he1, hr⟩ := hc
      cases he with
      | some _ _ => cases he1
      | none =>
        cases hd with
        | nil hH h => exact wpAnyL_done (by simpa using hr) ⟨_, h, hs, hD, hsat.cast hH.symm⟩ f
        | claim h => exact absurd ⟨_, rfl, rfl, rfl, h⟩ hcl
    | cons i r =>
      obtain ⟨o, l, rfl, hio, hidx'⟩ : ∃ o l', l = o :: l' ∧ ops[i]? = some o ∧ r.map (ops[·]?) = l'.map some := by
        cases l with
        | nil => simp at hidx
        | cons o l' => simp only [List.map_cons, List.cons.injEq] at hidx; exact ⟨o, l', rfl, hidx.1, hidx.2⟩
      have hidxA := hidx
      clear hidx
      have hidx := hidx'
      have hk1 : idx0.drop (k + 1) = r := by rw [← List.drop_drop, hk]; rfl
      have hki : idx0[k]? = some i := by
        have := congrArg (·[0]?) hk
        simpa using this
      have hcp1 : c = true → cp ≤ k + 1 := fun h => Nat.le_succ_of_le (hcp h)
      have inpost : effB o.op = true → c = true → i ∈ post := fun h1 h2 => by
        rw [hpost]
        refine List.mem_filter.2 ⟨?_, by simp [effAt, hio, h1]⟩
        refine List.mem_of_getElem? (i := k - cp) ?_
        rw [List.getElem?_drop, show cp + (k - cp) = k by have := hcp h2; omega]
        exact hki
      have hso : ∀ cs b, o.op ≠ .select cs b := fun cs b => Region.noSelect_spec hsel i o cs b hio
      simp only [certD] at hc
      by_cases hei : e = some i
      · -- it has come up early
        subst hei
        simp only [beq_self_eq_true, cond_true] at hc
        cases he with
        | @some _ d t ty g pos after z zs hj hz' =>
          rw [hio] at hj
          cases hj
          cases hd with
          | q h1 => cases h1
          | qp h1 => cases h1
          | qs h1 => cases h1
          | skip h1 => cases h1
          | t _ h1 => cases h1
          | tq _ h1 => cases h1
          | claim h => exact absurd ⟨_, rfl, rfl, rfl, h⟩ hcl
          | a hok hz2 hn =>
            obtain rfl : _ = zs := hz2.cells.symm.trans ((congrArg cellsL (by
              obtain ⟨i1, e1, e2⟩ := Option.map_eq_some_iff.1 hz2.eq
              obtain ⟨i2, e3, e4⟩ := Option.map_eq_some_iff.1 hz'.eq
              rw [e1] at e3; cases e3; rw [e2] at e4; exact Option.some.inj e4)).trans hz'.cells)
            exact ih f (k + 1) r listed none l _ _ _ _ _ w hc hk1 hidx (hn g) hcp1 (hs.put _ hok) hD .none (hsat.cast (by cases c <;> simp only [hp, cond_true, cond_false] <;> ac_rfl)) hdown hS
      · have hb : (e == some i) = false := by simpa using hei
        rw [hb] at hc
        simp only [cond_false] at hc
        cases f with
        | zero => simp at hc
        | succ f =>
          rw [hio] at hc
          simp only [Bool.and_eq_true] at hc
          obtain ⟨hap, hc⟩ := hc
          cases hef : effB o.op with
          | false =>
            rw [hef] at hc
            simp only [cond_false, Bool.and_eq_true] at hc
            obtain ⟨⟨⟨⟨h1, h2⟩, h3⟩, h3s⟩, h4⟩ := hc
            have h2' : i ∈ Region.ready .any ops listed := by simpa using h2
            have hip : i ∉ post := fun h => by have := hpe i h; simp [effAt, hio, hef] at this
            have take : ∀ (T : World → Prop) v, (∀ listed w, Down ops listed → listed.getD i true = false → Held w0 ops R L post listed w → T w) → YieldsIf P ops T o v a →
                (∀ x : Act, x = a.put o.dst v → wpAnyL P ops (noPanic (lift n w0 Q)) (Held w0 ops R L post) f (listed.setIfInBounds i true) x w) → wpAnyL P ops (noPanic (lift n w0 Q)) (Held w0 ops R L post) (f + 1) listed a w := fun T v hT hy hn =>
              wpAnyL_first hio hsel hQ0 T hT (fun listed w h => h.set i) (fun listed j w hdn hiu hji hj h => by
                obtain ⟨F', h⟩ := h
                refine ⟨F', ?_⟩
                rw [Array.setIfInBounds_comm _ _ (Ne.symm hji), any_set hip] at h
                exact h) f listed a w hdown (fun j oj hoj hji hun hno => Region.free_spec hio h1 j oj hoj hji hun hno) h2' hy hS (hn _ rfl)
            have main : ∀ (T : World → Prop) v, (∀ listed w, Down ops listed → listed.getD i true = false → Held w0 ops R L post listed w → T w) → okDst n o.dst = true → YieldsIf P ops T o v a0 → DL P n w0 ops Q D R L B cp (k + 1) c l (E.putO o.dst v) F → wpAnyL P ops (noPanic (lift n w0 Q)) (Held w0 ops R L post) (f + 1) listed a w := by
              intro T v hT hok hy hd
              cases he with
              | none => exact take T v hT hy fun x hx => by rw [hx]; exact ih f (k + 1) r _ none l _ _ _ _ _ w h4 hk1 hidx hd hcp1 (hs.putO _ _ hok) (by cases o.dst <;> exact hD) .none hsat (hdown.set h2') (hS.set i)
              | @some j d t ty g pos after z zs hj hz' =>
                have hap' : (⟨some d, .alloc t, ty, pos, after, none⟩ : Oper).apart ops o = true := by
                  simpa [allocOf, hj, isAlloc] using hap
                obtain ⟨p1, p2, p3⟩ := Oper.apart_spec hap'
                have hy' : YieldsIf P ops T o v (a0.put (some d) (ptr g 0)) := hy.of_same (execOp_put o hso a0 (some d) _ p1) (wanted_put o a0 (some d) _ p1)
                refine take T v hT hy' fun x hx => ?_
                rw [hx, Act.put_comm a0 _ _ p2]
                exact ih f (k + 1) r _ (some j) l _ _ _ _ _ w h4 hk1 hidx hd hcp1 (hs.putO _ _ hok) (by cases o.dst <;> exact hD) (.some hj hz') hsat (hdown.set h2') (hS.set i)
            cases hd with
            | q _ hok hg hop hd =>
              obtain ⟨b, hg⟩ := hg
              exact main (fun w => ∃ F', Sat w0 w (R * F')) _ (fun _ _ _ _ h => h.read) hok (.inl ⟨by rw [wanted_of hs hg]; simp, fun w hw => by obtain ⟨F', hw⟩ := hw; exact hop F' a0 w hs hw⟩) hd
            | qp _ hok hB hg hop hd =>
              obtain ⟨b, hg⟩ := hg
              rw [hB] at h3
              simp only [Bool.not_true, Bool.false_or] at h3
              refine main (fun w => ∃ F', Sat w0 w (R * (L * F'))) _ (fun listed w hdn hiu h => ?_) hok (.inl ⟨by rw [wanted_of hs hg]; simp, fun w hw => by obtain ⟨F', hw⟩ := hw; exact hop F' a0 w hs hw⟩) hd
              obtain ⟨F', h⟩ := h
              have : post.any (fun j => listed.getD j false) = false := by
                rw [← Bool.not_eq_true, List.any_eq_true]
                rintro ⟨j, hj, hl⟩
                have hjd := List.all_eq_true.1 h3 j hj
                rw [des_unlisted hdn hiu j (by simpa using hjd)] at hl
                cases hl
              rw [this] at h
              exact ⟨F', h⟩
            | qs _ hok hB hg hop hd =>
              obtain ⟨b, hg⟩ := hg
              rw [hB] at h3s
              simp only [Bool.not_true, Bool.false_or, Bool.and_eq_true, Option.isNone_iff_eq_none] at h3s
              obtain ⟨rfl, hall⟩ := h3s
              cases he with
              | none =>
                refine ⟨fun h0 => (by rw [h0] at h2'; cases h2'), fun j hj => ?_⟩
                obtain rfl : j = i := by simpa using List.all_eq_true.1 hall j hj
                have hy : YieldsIf P ops (fun w => Sat w0 w (hp c R L F)) o _ a0 := .inl ⟨by rw [wanted_of hs hg]; simp, fun w hw => hop a0 w hs hw⟩
                exact hy.wpOp hio hsat ⟨hS.set j, ih f (k + 1) r _ none l _ _ _ _ _ w h4 hk1 hidx hd hcp1 (hs.putO _ _ hok) (by cases o.dst <;> exact hD) .none hsat (hdown.set h2') (hS.set j)⟩
            | skip _ hok hg hd => exact main (fun _ => True) _ (fun _ _ _ _ _ => trivial) hok (.inr ⟨by rw [wanted_of hs hg]; simp, rfl⟩) hd
            | t h1 => rw [hef] at h1; cases h1
            | tq h1 => rw [hef] at h1; cases h1
            | a => cases hef
            | claim h => exact absurd ⟨_, rfl, rfl, rfl, h⟩ hcl
          | true =>
            rw [hef] at hc
            simp only [cond_true, Bool.and_eq_true] at hc
            obtain ⟨⟨h1, h2⟩, h3⟩ := hc
            have hir : i ∈ Region.ready .any ops listed := by simpa using h1
            have hne : Region.ready .any ops listed ≠ [] := by intro h0; rw [h0] at h1; cases h1
            refine ⟨fun h0 => absurd h0 hne, fun j hj => ?_⟩
            have h3j := List.all_eq_true.1 h3 j hj
            by_cases hji : j = i
            · subst hji
              -- behind it
              have step : ∀ (v : Value) (F' : HProp), okDst n o.dst = true → DL P n w0 ops Q D R L B cp (k + 1) c l (E.putO o.dst v) F' → ∀ (x : Act) (w' : World) (X : HProp), Early P n ops (a0.put o.dst v) (hp c R L F') e x X → Sat w0 w' X →
                  Held w0 ops R L post (listed.setIfInBounds j true) w' ∧ wpAnyL P ops (noPanic (lift n w0 Q)) (Held w0 ops R L post) f (listed.setIfInBounds j true) x w' := by
                intro v F' hok hd x w' X he' hsat'
                have hheld : Held w0 ops R L post (listed.setIfInBounds j true) w' := by
                  have hX : ∃ F2, Sat w0 w' (hp c R L F2) := by
                    cases he' with
                    | none => exact ⟨_, hsat'⟩
                    | @some _ _ t' _ g' _ _ _ zs' _ _ => exact ⟨cel g' t' zs' * F', hsat'.cast (by cases c <;> simp only [hp, cond_true, cond_false] <;> ac_rfl)⟩
                  obtain ⟨F2, hX⟩ := hX
                  cases hcc : c with
                  | false => rw [hcc] at hX; exact .whole hX
                  | true =>
                    rw [hcc] at hX
                    refine .past (List.any_eq_true.2 ⟨j, inpost hef hcc, ?_⟩) hX
                    have hlt : j < listed.size := by
                      have := (mem_ready.1 hir).1
                      rcases Nat.lt_or_ge j listed.size with h | h
                      · exact h
                      · simp [Array.getElem?_eq_none h] at this
                    simp [hlt]
                exact ⟨hheld, ih f (k + 1) r _ e l _ _ _ _ _ w' h2 hk1 hidx hd hcp1 (hs.putO _ _ hok) (by cases o.dst <;> exact hD) he' hsat' (hdown.set hir) hheld⟩
              unfold wpOp
              rw [hio]
              have want0 : ∀ c b, guardV ops E o = some (c, b) → Region.wanted o (yielded ops a.tmps) = (c == b) := by
                intro c b hg
                cases he with
                | none => exact wanted_of hs hg
                | @some j' d t ty g pos after z zs hj' hz' =>
                  have hap' : (⟨some d, .alloc t, ty, pos, after, none⟩ : Oper).apart ops o = true := by
                    simpa [allocOf, hj', isAlloc] using hap
                  obtain ⟨p1, p2, p3⟩ := Oper.apart_spec hap'
                  rw [wanted_put o a0 (some d) _ p1]; exact wanted_of hs hg
              cases hd with
              | q h1 => rw [hef] at h1; cases h1
              | qp h1 => rw [hef] at h1; cases h1
              | qs h1 => rw [hef] at h1; cases h1
              | claim h => exact absurd ⟨_, rfl, rfl, rfl, h⟩ hcl
              | @skip _ _ _ _ _ _ b _ hok hg hd =>
                have hw := want0 _ _ hg
                simp only [hw]
                rw [if_neg (by simp)]
                cases he with
                | none => exact step _ _ hok hd _ _ _ .none hsat
                | @some j' d t ty g pos after z zs hj' hz' =>
                  have hap' : (⟨some d, .alloc t, ty, pos, after, none⟩ : Oper).apart ops o = true := by
                    simpa [allocOf, hj', isAlloc] using hap
                  obtain ⟨p1, p2, p3⟩ := Oper.apart_spec hap'
                  rw [Act.put_comm a0 _ _ p2]
                  exact step _ _ hok hd _ _ _ (.some hj' hz') hsat
              | @t _ _ _ _ _ _ F' α pre v post' _ _ hok hg hop hF hd =>
                obtain ⟨b, hg⟩ := hg
                have hw := want0 _ _ hg
                simp only [hw]
                rw [if_pos (by simp)]
                refine .inl ?_
                cases he with
                | none =>
                  refine hop (hp c R L F') a0 w _ _ hs (hsat.cast (by rw [hF]; cases c <;> simp only [hp, cond_true, cond_false] <;> ac_rfl)) fun x w' hs' => ?_
                  exact step _ _ hok (hd x) _ _ _ .none (hs'.cast (by cases c <;> simp only [hp, cond_true, cond_false] <;> ac_rfl))
                | @some j' d t ty g pos after z zs hj' hz' =>
                  have hap' : (⟨some d, .alloc t, ty, pos, after, none⟩ : Oper).apart ops o = true := by
                    simpa [allocOf, hj', isAlloc] using hap
                  refine wp_put hap' hso hQ0 ?_
                  refine hop (cel g t zs * hp c R L F') a0 w _ _ hs (hsat.cast (by rw [hF]; cases c <;> simp only [hp, cond_true, cond_false] <;> ac_rfl)) fun x w' hs' => ?_
                  exact step _ _ hok (hd x) _ _ _ (.some hj' hz') (hs'.cast (by cases c <;> simp only [hp, cond_true, cond_false] <;> ac_rfl))
              | @tq _ _ _ _ _ _ v _ _ hok hg hop hd =>
                obtain ⟨b, hg⟩ := hg
                have hw := want0 _ _ hg
                simp only [hw]
                rw [if_pos (by simp)]
                refine .inl ?_
                cases he with
                | none => exact hop F a0 w _ _ hs hsat fun w' hs' => step _ _ hok hd _ _ _ .none hs'
                | @some j' d t ty g pos after z zs hj' hz' =>
                  have hap' : (⟨some d, .alloc t, ty, pos, after, none⟩ : Oper).apart ops o = true := by
                    simpa [allocOf, hj', isAlloc] using hap
                  refine wp_put hap' hso hQ0 ?_
                  refine hop (cel g t zs * F) a0 w _ _ hs (hsat.cast (by cases c <;> simp only [hp, cond_true, cond_false] <;> ac_rfl)) fun w' hs' => ?_
                  exact step _ _ hok hd _ _ _ (.some hj' hz') (hs'.cast (by cases c <;> simp only [hp, cond_true, cond_false] <;> ac_rfl))
              | @a _ _ d t ty pos after _ _ _ z zs hok hz2 hn =>
                simp only
                rw [if_pos (by rfl)]
                refine .inl ?_
                unfold Oper.wp
                rw [execOp_alloc a.eval w hz2, Oper.upon_value]
                cases he with
                | none =>
                  exact step _ _ hok (hn _) _ _ _ .none ((hsat.new t zs.toArray).cast (by show cel _ _ _ * _ = _; cases c <;> simp only [hp, cond_true, cond_false] <;> ac_rfl))
                | @some j' d' t' ty' g' pos' after' z' zs' hj' hz' =>
                  have hap' : (⟨some d', .alloc t', ty', pos', after', none⟩ : Oper).apart ops (⟨some d, .alloc t, ty, pos, after, none⟩ : Oper) = true := by
                    simpa [allocOf, hj', isAlloc] using hap
                  obtain ⟨p1, p2, p3⟩ := Oper.apart_spec hap'
                  have := step (ptr w.heap.size 0) _ hok (hn w.heap.size) _ _ _ (.some (g := g') hj' hz') ((hsat.new t zs.toArray).cast (by show cel _ _ _ * _ = cel g' t' zs' * _; cases c <;> simp only [hp, cond_true, cond_false] <;> ac_rfl))
                  rw [Act.put_comm a0 _ _ p2]
                  exact this
            · -- an allocation comes up early
              simp only [Bool.or_eq_true, beq_iff_eq, hji, false_or, Bool.and_eq_true] at h3j
              obtain ⟨⟨e1, e2⟩, e3⟩ := h3j
              obtain ⟨oj, e2⟩ := Option.isSome_iff_exists.1 e2
              obtain ⟨d, t, ty, pos, after, rfl, hj'⟩ := allocOf_some e2
              obtain ⟨z, zs, hz'⟩ := hz j d t ty pos after none hj'
              cases he with
              | some _ _ => cases e1
              | none =>
                unfold wpOp
                rw [hj']
                simp only
                rw [if_pos (by rfl)]
                refine .inl ?_
                unfold Oper.wp
                rw [execOp_alloc _ w hz', Oper.upon_value]
                have hn := hsat.new t zs.toArray
                have hh : Held w0 ops R L post (listed.setIfInBounds j true) (w.alloc (.cells zs.toArray t)) := by
                  refine Held.set ?_ j
                  obtain ⟨F', h⟩ := hS
                  refine ⟨blk w.heap.size t zs.toArray * F', ?_⟩
                  have := h.new t zs.toArray
                  cases hb : post.any (fun j => listed.getD j false) with
                  | true => rw [hb] at this; exact this.cast (by simp only [cond_true]; ac_rfl)
                  | false => rw [hb] at this; exact this.cast (by simp only [cond_false]; ac_rfl)
                exact ⟨hh, ih f k (i :: r) _ (some j) (o :: l) E F a0 _ _ _ e3 hk (by simp [hio, hidx]) hd hcp hs hD (.some hj' hz') hn (hdown.set hj) hh⟩
end sound
theorem down_start (m : Nat) : Down ops (Array.replicate m false) := by
  intro j o hj hl
  exfalso
  by_cases h : j < m <;> simp [h] at hl
theorem wpOpIn_of {ro : Option Nat} {Q : Exit → Act → World → Prop} {i : Nat} {K K' : Act → World → Prop} {a : Act} {w : World} (hnd : ∀ (j : Nat) (o : Oper), ops[j]? = some o → ∀ c, o.op ≠ Op.defer c) (hQ : ¬ LetsOut Q) (hK : ∀ a w, K a w → K' a w) (h : wpOp P ops Q i K a w) : wpOpIn (fen ro) 0 P ops Q i K' a w := by
  unfold wpOp at h
  unfold Go.wpOpIn
  cases ho : ops[i]? with
  | none => rw [ho] at h; exact hK _ _ h
  | some o =>
    rw [ho] at h
    simp only at h ⊢
    by_cases hw : Region.wanted o (yielded ops a.tmps) = true
    · rw [if_pos hw] at h ⊢
      rcases h with h | h
      · exact wpIn_of_wp (.inr (hnd i o ho)) (Oper.wp_mono hK h)
      · exact absurd h.2 hQ
    · rw [if_neg hw] at h ⊢
      exact ⟨fun _ _ => trivial, hK _ _ h⟩
theorem wpAnyIn_of {ro : Option Nat} {md : Region.Mode} {Q : Exit → Act → World → Prop} (hnd : ∀ (j : Nat) (o : Oper), ops[j]? = some o → ∀ c, o.op ≠ Op.defer c) (hQ : ¬ LetsOut Q) : ∀ (f : Nat) (listed : Array Bool) (a : Act) (w : World), wpAny P md ops Q f listed a w → wpAnyIn (fen ro) 0 P md ops Q f listed a w
  | 0, _, _, _, h => h
  | f + 1, _, _, _, h => ⟨h.1, fun i hi => wpOpIn_of hnd hQ (fun a w h => wpAnyIn_of hnd hQ f _ a w h) (h.2 i hi)⟩
/-- What is asked of a region's text alone. -/
def isDefer : Op → Bool
  | .defer _ => true
  | _ => false
def statD (P : Program) (l : List Oper) (idx : List Nat) (B : Nat → Bool) (cp : Nat) : Bool :=
  (l.all fun o => !isDefer o.op) && P.follows .mixedOrders && l.all (zeroOp P) && Region.noSelect l.toArray && certD l.toArray B ((idx.drop cp).filter (effAt l.toArray)) (4 * l.length + 4) l.length 0 idx (Array.replicate l.length false) none
/-- A region that draws its order, in one order idx. R is only read; L is read at the places B, and claimed at place cp. -/
theorem WS_draw {id : Nat} (idx : List Nat) (l' : List Oper) (R L F : HProp) (B : Nat → Bool) (cp : Nat) (hs : statD P l idx B cp = true) (hH : H = R * (L * F)) (hl : idx.map (l[·]?) = l'.map some) (h : DL P n w0 l.toArray Q D R L B cp 0 false l' E F) : WS P n w0 (.region id l.toArray true) Q ⟨E, D, H⟩ := fun a w g => by
  simp only [statD, Bool.and_eq_true] at hs
  obtain ⟨⟨⟨⟨hnd, hm⟩, hz⟩, hsel⟩, hc⟩ := hs
  have hd : Sat w0 w.drew (R * (L * F)) := (g.sat.cast hH).drew
  have h1 := DL_sound (n := n) (w0 := w0) (Q := Q) (D := D) (R := R) (L := L) (B := B) (cp := cp) (zerosB_of hz) hsel rfl false (fun _ => DL_sound (zerosB_of hz) hsel rfl true (fun h => by cases h)) _ _ 0 idx _ none l' E F a a _ w.drew hc (by simp) (by rw [← hl]; simp) h (fun h => by cases h) g.sees g.defers .none hd (down_start _) (.whole hd)
  have h2 := wpAny_of_L _ _ _ _ h1
  have hnd' : ∀ (j : Nat) (o : Oper), l.toArray[j]? = some o → ∀ c, o.op ≠ Op.defer c := fun j o hj c hc => by
    have := List.all_eq_true.1 hnd o (List.mem_of_getElem? (by simpa using hj))
    rw [hc] at this; cases this
  have hout : ¬ LetsOut (noPanic (lift n w0 Q)) := fun ⟨_, _, h⟩ => h
  have h3 := wpIn_region_any (id := id) (F := fen n.round) (n := 0) hm (by rw [List.size_toArray]; exact wpAnyIn_of hnd' hout _ _ _ _ h2)
  exact Code.wpIn_mono (fun e a w h => by cases e <;> first | exact h | exact (h : False).elim) h3
theorem range_map (l : List Oper) : (List.range l.length).map (l[·]?) = l.map some := by
  apply List.ext_getElem?
  intro i
  simp only [List.getElem?_map]
  by_cases hi : i < l.length
  · simp [hi]
  · simp [List.getElem?_eq_none (by simpa using hi : (List.range l.length).length ≤ i), List.getElem?_eq_none (by simpa using hi : l.length ≤ i)]
/-- The same in the text's own order. -/
theorem WS_drawT {id : Nat} (R L F : HProp) (B : Nat → Bool) (cp : Nat) (hs : statD P l (List.range l.length) B cp = true) (hH : H = R * (L * F)) (h : DL P n w0 l.toArray Q D R L B cp 0 false l E F) : WS P n w0 (.region id l.toArray true) Q ⟨E, D, H⟩ :=
  WS_draw _ l R L F B cp hs hH (range_map l) h
/-- The place of the first operation that may change memory. -/
def cpOf : List Oper → Nat
  | [] => 0
  | o :: r => bif effB o.op then 0 else cpOf r + 1
theorem star_emp : F * emp = F := by rw [star_comm, emp_star]
/-- The commonest case: all that reads stands ahead of all that writes. -/
theorem WS_drawS {id : Nat} (hs : statD P l (List.range l.length) (fun k => Nat.blt k (cpOf l)) (cpOf l) = true) (h : DL P n w0 l.toArray Q D emp H (fun k => Nat.blt k (cpOf l)) (cpOf l) 0 false l E emp) : WS P n w0 (.region id l.toArray true) Q ⟨E, D, H⟩ :=
  WS_drawT emp H emp _ _ hs (by rw [star_emp, emp_star]) h
theorem DL_claim {L R : HProp} {B : Nat → Bool} {k cp : Nat} {F' : HProp} (hk : k = cp) (hF : F' = L * F) (h : DL P n w0 ops Q D R L B cp k true l E F') : DL P n w0 ops Q D R L B cp k false l E F := by
  subst hk; subst hF; exact .claim h
theorem DL_claimS {R L : HProp} {B : Nat → Bool} {k cp : Nat} (hk : Nat.beq k cp = true) (h : DL P n w0 ops Q D R L B cp k true l E L) : DL P n w0 ops Q D R L B cp k false l E emp := DL_claim (Nat.eq_of_beq_eq_true hk) star_emp.symm h
theorem DL_nilS {B : Nat → Bool} {k cp : Nat} {L : HProp} (h : Q .normal ⟨E, D, F⟩) : DL P n w0 ops Q D emp L B cp k true [] E F := .nil (by simp only [hp, cond_true]; rw [emp_star]) h
theorem DL_nilN {B : Nat → Bool} {k cp : Nat} {L : HProp} (h : Q .normal ⟨E, D, L⟩) : DL P n w0 ops Q D emp L B cp k false [] E emp := .nil (by simp only [hp, cond_false]; rw [emp_star, star_emp]) h
end Go.Proofs.YtapoehkdnglahaaGreat

/- The rules of operations that change memory, of calls, of entering and leaving a function, over a state without its world. No program in sight. -/
namespace Go.Proofs.YtapoehkdnglahaaGreat
open Go.RowKit
set_option linter.unusedVariables false
set_option linter.unusedSectionVars false
variable {P : Program} {n : Frm} {w0 : World} {E : Env} {D : List Deferred} {H F R : HProp} {ops : Array Oper} {l : List Oper} {Q : Exit → St → Prop} {o : Oper}

/-- The operation turns H into one of post. -/
def OpH (P : Program) (n : Frm) (w0 : World) (o : Oper) (E : Env) (H : HProp) {α : Type} (v : α → Value) (post : α → HProp) : Prop :=
  ∃ (pre : HProp) (post0 : α → HProp) (F : HProp), OpT P n w0 o E pre v post0 ∧ H = pre * F ∧ ∀ x, post x = post0 x * F
theorem OpH.mk' {α : Type} {pre : HProp} {v : α → Value} {post : α → HProp} (h : OpT P n w0 o E pre v post) (hH : H = pre * F) : OpH P n w0 o E H v (fun x => post x * F) := ⟨pre, post, F, h, hH, fun _ => rfl⟩
section front
variable {d : Nat} {op : Op} {ty : TypeId} {pos : String} {after : Array Edge} {L : HProp} {B : Nat → Bool} {k cp : Nat} {c : Bool} {α : Type} {v : α → Value} {post : α → HProp} {gu : Option (Nat × Bool)} {u : Value}
theorem LS_ho (h : OpH P n w0 o E H v post) (hd : okDst n o.dst = true) (hg : o.guard = none)
    (hn : ∀ x, LS P n w0 ops Q l ⟨E.putO o.dst (v x), D, post x⟩) : LS P n w0 ops Q (o :: l) ⟨E, D, H⟩ := by
  obtain ⟨pre, post0, F, hop, hH, hp⟩ := h
  exact LS_t hop hH hd hg fun x => by rw [← hp]; exact hn x
theorem LS_h (h : OpH P n w0 ⟨some d, op, ty, pos, after, none⟩ E H v post) (hd : Nat.blt d n.tmps = true) (hn : ∀ x, LS P n w0 ops Q l ⟨(d, v x) :: E, D, post x⟩) : LS P n w0 ops Q (⟨some d, op, ty, pos, after, none⟩ :: l) ⟨E, D, H⟩ := LS_ho h hd rfl hn
theorem LS_h0 (h : OpH P n w0 ⟨none, op, ty, pos, after, none⟩ E H v post) (hn : ∀ x, LS P n w0 ops Q l ⟨E, D, post x⟩) : LS P n w0 ops Q (⟨none, op, ty, pos, after, none⟩ :: l) ⟨E, D, H⟩ := LS_ho h rfl rfl hn
theorem DL_ho (h : OpH P n w0 o E F v post) (he : effB o.op = true) (ha : isAlloc o.op = false) (hd : okDst n o.dst = true) (hg : ∃ b, guardV ops E o = some (b, b))
    (hn : ∀ x, DL P n w0 ops Q D R L B cp (k + 1) c l (E.putO o.dst (v x)) (post x)) : DL P n w0 ops Q D R L B cp k c (o :: l) E F := by
  obtain ⟨pre, post0, F, hop, hH, hp⟩ := h
  exact .t he ha hd hg hop hH fun x => by rw [← hp]; exact hn x
theorem DL_h (h : OpH P n w0 ⟨some d, op, ty, pos, after, none⟩ E F v post) (he : effB op = true) (ha : isAlloc op = false) (hd : Nat.blt d n.tmps = true)
    (hn : ∀ x, DL P n w0 ops Q D R L B cp (k + 1) c l ((d, v x) :: E) (post x)) : DL P n w0 ops Q D R L B cp k c (⟨some d, op, ty, pos, after, none⟩ :: l) E F := DL_ho h he ha hd ⟨true, rfl⟩ hn
theorem DL_h0 (h : OpH P n w0 ⟨none, op, ty, pos, after, none⟩ E F v post) (he : effB op = true) (ha : isAlloc op = false)
    (hn : ∀ x, DL P n w0 ops Q D R L B cp (k + 1) c l E (post x)) : DL P n w0 ops Q D R L B cp k c (⟨none, op, ty, pos, after, none⟩ :: l) E F := DL_ho h he ha rfl ⟨true, rfl⟩ hn
theorem DL_q (he : effB op = false) (hd : Nat.blt d n.tmps = true) (hop : ∀ F', OpQ P n w0 ⟨some d, op, ty, pos, after, none⟩ E (R * F') u) (h : DL P n w0 ops Q D R L B cp (k + 1) c l ((d, u) :: E) F) : DL P n w0 ops Q D R L B cp k c (⟨some d, op, ty, pos, after, none⟩ :: l) E F := .q he hd ⟨true, rfl⟩ hop h
theorem DL_qp (he : effB op = false) (hd : Nat.blt d n.tmps = true) (hB : B k = true) (hop : ∀ F', OpQ P n w0 ⟨some d, op, ty, pos, after, none⟩ E (R * (L * F')) u) (h : DL P n w0 ops Q D R L B cp (k + 1) false l ((d, u) :: E) F) : DL P n w0 ops Q D R L B cp k false (⟨some d, op, ty, pos, after, none⟩ :: l) E F := .qp he hd hB ⟨true, rfl⟩ hop h
/-- The same under a guard that lets it come up; and one that is passed over. -/
theorem DL_qg {j : Nat} {b : Bool} (hg : guardV ops E ⟨some d, op, ty, pos, after, some (j, b)⟩ = some (b, b)) (he : effB op = false) (hd : Nat.blt d n.tmps = true) (hop : ∀ F', OpQ P n w0 ⟨some d, op, ty, pos, after, some (j, b)⟩ E (R * F') u) (h : DL P n w0 ops Q D R L B cp (k + 1) c l ((d, u) :: E) F) : DL P n w0 ops Q D R L B cp k c (⟨some d, op, ty, pos, after, some (j, b)⟩ :: l) E F := .q he hd ⟨b, hg⟩ hop h
theorem DL_hg {j : Nat} {b : Bool} (hg : guardV ops E ⟨some d, op, ty, pos, after, some (j, b)⟩ = some (b, b)) (h : OpH P n w0 ⟨some d, op, ty, pos, after, some (j, b)⟩ E F v post) (he : effB op = true) (ha : isAlloc op = false) (hd : Nat.blt d n.tmps = true)
    (hn : ∀ x, DL P n w0 ops Q D R L B cp (k + 1) c l ((d, v x) :: E) (post x)) : DL P n w0 ops Q D R L B cp k c (⟨some d, op, ty, pos, after, some (j, b)⟩ :: l) E F := DL_ho h he ha hd ⟨b, hg⟩ hn
theorem DL_skip {j : Nat} {b b' : Bool} (hg : guardV ops E ⟨some d, op, ty, pos, after, some (j, b)⟩ = some (b', b)) (hb : b' = !b) (ha : isAlloc op = false) (hd : Nat.blt d n.tmps = true) (h : DL P n w0 ops Q D R L B cp (k + 1) c l ((d, undef) :: E) F) : DL P n w0 ops Q D R L B cp k c (⟨some d, op, ty, pos, after, some (j, b)⟩ :: l) E F :=
  .skip (b := !b) ha hd (by rw [hg, hb]; simp) h
theorem DL_alloc {t : TypeId} {z : Value} {zs : List Value} (hz : Zero P t z zs) (hd : Nat.blt d n.tmps = true) (hn : ∀ g, DL P n w0 ops Q D R L B cp (k + 1) c l ((d, ptr g 0) :: E) (cel g t zs * F)) : DL P n w0 ops Q D R L B cp k c (⟨some d, .alloc t, ty, pos, after, none⟩ :: l) E F := .a hd hz hn
/-- A test, and both its outcomes. -/
theorem LS_binS {Q : Exit → St → Prop} {ops : Array Oper} {l : List Oper} {d : Nat} {ty : TypeId} {pos : String} {after : Array Edge} {op : BinOp} {t t2 : TypeId} {x y : Operand} {v u : Value} {q : Prop} {inst : Decidable q} (hx : E.ev x = some v) (hy : E.ev y = some u) (h : BinV P op t v u (.bool (decide q))) (hd : Nat.blt d n.tmps = true)
    (h1 : q → LS P n w0 ops Q l ⟨(d, .bool true) :: E, D, H⟩) (h2 : ¬ q → LS P n w0 ops Q l ⟨(d, .bool false) :: E, D, H⟩) : LS P n w0 ops Q (⟨some d, .binOp op t x y t2, ty, pos, after, none⟩ :: l) ⟨E, D, H⟩ := by
  by_cases hq : q
  · exact LS_q (Q_bin_t hx hy h hq) hd (h1 hq)
  · exact LS_q (Q_bin_f hx hy h hq) hd (h2 hq)
theorem LS_binN {Q : Exit → St → Prop} {ops : Array Oper} {l : List Oper} {d : Nat} {ty : TypeId} {pos : String} {after : Array Edge} {op : BinOp} {t t2 : TypeId} {x y : Operand} {v u : Value} {q : Prop} {inst : Decidable q} (hx : E.ev x = some v) (hy : E.ev y = some u) (h : BinV P op t v u (.bool (!decide q))) (hd : Nat.blt d n.tmps = true)
    (h1 : q → LS P n w0 ops Q l ⟨(d, .bool false) :: E, D, H⟩) (h2 : ¬ q → LS P n w0 ops Q l ⟨(d, .bool true) :: E, D, H⟩) : LS P n w0 ops Q (⟨some d, .binOp op t x y t2, ty, pos, after, none⟩ :: l) ⟨E, D, H⟩ := by
  by_cases hq : q
  · exact LS_q (Q_bin_nf hx hy h hq) hd (h1 hq)
  · exact LS_q (Q_bin_nt hx hy h hq) hd (h2 hq)
theorem DL_binS {Q : Exit → St → Prop} {ops : Array Oper} {R L : HProp} {B : Nat → Bool} {cp k : Nat} {c : Bool} {l : List Oper} {d : Nat} {ty : TypeId} {pos : String} {after : Array Edge} {op : BinOp} {t t2 : TypeId} {x y : Operand} {v u : Value} {b : Bool} (hx : E.ev x = some v) (hy : E.ev y = some u) (h : BinV P op t v u (.bool b)) (hd : Nat.blt d n.tmps = true)
    (h1 : b = true → DL P n w0 ops Q D R L B cp (k + 1) c l ((d, .bool true) :: E) F) (h2 : b = false → DL P n w0 ops Q D R L B cp (k + 1) c l ((d, .bool false) :: E) F) : DL P n w0 ops Q D R L B cp k c (⟨some d, .binOp op t x y t2, ty, pos, after, none⟩ :: l) E F := by
  cases b
  · exact .q rfl hd ⟨true, rfl⟩ (fun F' => Q_bin hx hy h) (h2 rfl)
  · exact .q rfl hd ⟨true, rfl⟩ (fun F' => Q_bin hx hy h) (h1 rfl)
theorem OpTQ.toIn {o : Oper} {v : Value} (hop : OpTQ P n w0 o E H v) {a : Act} {w : World} {K : Act → World → Prop} {Q : Exit → Act → World → Prop} (s : Sees n E a) (hs : Sat w0 w H) (h : ∀ w', Sat w0 w' H → K (a.put o.dst v) w') : o.wpIn (fen n.round) 0 P a w K Q :=
  wpIn_of_wp (.inr (wp_not_defer (hop a w _ _ s hs fun w' _ => put_defers _ _ _))) (hop a w K Q s hs h)
theorem DL_tq (he : effB op = true) (ha : isAlloc op = false) (hd : Nat.blt d n.tmps = true) (hop : ∀ F', OpTQ P n w0 ⟨some d, op, ty, pos, after, none⟩ E (hp c R L F') u) (h : DL P n w0 ops Q D R L B cp (k + 1) c l ((d, u) :: E) F) : DL P n w0 ops Q D R L B cp k c (⟨some d, op, ty, pos, after, none⟩ :: l) E F := .tq he ha hd ⟨true, rfl⟩ hop h
end front

section ops
variable {d : Option Tmp} {ty : TypeId} {pos : String} {after : Array Edge} {gu : Option (Nat × Bool)} {x y : Operand} {v u : Value}
/-- A block more. -/
theorem T_new {f : Nat → Value} {t : TypeId} {cs : List Value} (h : ∀ a w, Sees n E a → (execOp a.eval o).run P w = .ok (.value (f w.heap.size)) (w.alloc (.cells cs.toArray t))) : OpT P n w0 o E emp f (fun g => cel g t cs) := fun G a w K Q s hs hK => by
  unfold Oper.wp
  rw [h a w s]
  rw [emp_star] at hs
  exact hK _ _ (hs.new t cs.toArray)
theorem H_new {f : Nat → Value} {t : TypeId} {cs : List Value} (h : ∀ a w, Sees n E a → (execOp a.eval o).run P w = .ok (.value (f w.heap.size)) (w.alloc (.cells cs.toArray t))) : OpH P n w0 o E H f (fun g => cel g t cs * H) := OpH.mk' (T_new h) emp_star.symm
theorem H_alloc {t : TypeId} {z : Value} {zs : List Value} (hz : Zero P t z zs) : OpH P n w0 ⟨d, .alloc t, ty, pos, after, gu⟩ E H (fun g => ptr g 0) (fun g => cel g t zs * H) := H_new fun a w s => execOp_alloc a.eval w hz
theorem H_box {t : TypeId} {vs : List Value} (hx : E.ev x = some (.agg vs.toArray)) : OpH P n w0 ⟨d, .box t x, ty, pos, after, gu⟩ E H (fun g => ptr g 0) (fun g => cel g t vs * H) := H_new fun a w s => by
  simp [execOp, s.ev hx, Instr.box, newVar, newRow, Value.cells]
/-- The zeros of a row of n elements. -/
def zeroRow (zs : List Value) : Nat → List Value
  | 0 => []
  | k + 1 => zs ++ zeroRow zs k
def fillRow (size : Nat) : List Value → List (Nat × List Value) → Option (List Value)
  | cs, [] => some cs
  | cs, (i, vs) :: r => match pasteL cs (i * size) vs with
    | some cs' => fillRow size cs' r
    | none => none
def Env.parts (E : Env) : List (Nat × Operand) → Option (List (Nat × List Value))
  | [] => some []
  | (i, x) :: r => match E.ev x, Env.parts E r with
    | some v, some vs => some ((i, cellsL v) :: vs)
    | _, _ => none
def Env.partsV (E : Env) : List (Nat × Operand) → Option (List (Nat × Value))
  | [] => some []
  | (i, x) :: r => match E.ev x, Env.partsV E r with
    | some v, some vs => some ((i, v) :: vs)
    | _, _ => none
theorem Sees.partsV {a : Act} (h : Sees n E a) : ∀ {xs : List (Nat × Operand)} {vs : List (Nat × Value)}, E.partsV xs = some vs → xs.map (fun p => (p.1, a.eval p.2)) = vs
  | [], vs, e => by cases e; rfl
  | (i, x) :: r, vs, e => by
    simp only [Env.partsV] at e
    split at e
    · rename_i v us e1 e2
      cases e
      simp [h.ev e1, Sees.partsV h e2]
    · cases e
/-- Where the fields of a struct lie: first cell and number of cells. -/
def placesD (P : Program) (t : TypeId) : Option (List (Nat × Nat)) :=
  match P.underlying t with
  | some (.struct fs) => fs.toList.mapM (fun f => (P.info? f.type).map fun i => (f.offset, i.size))
  | _ => none
class Places (P : Program) (t : TypeId) (ps : outParam (List (Nat × Nat))) : Prop where
  eq : placesD P t = some ps
theorem Places.ex {P : Program} {t : TypeId} {ps : List (Nat × Nat)} (h : Places P t ps) : ∃ fs, P.underlying t = some (.struct fs) ∧ fs.toList.mapM (fun f => (P.info? f.type).map fun i => (f.offset, i.size)) = some ps := by
  have := h.eq
  unfold placesD at this
  split at this
  · rename_i fs hu; exact ⟨fs, hu, this⟩
  · cases this
def getP : List (Nat × Nat) → Nat → Option (Nat × Nat)
  | [], _ => none
  | p :: _, 0 => some p
  | _ :: r, i + 1 => getP r i
/-- A struct's cells, its parts laid in. -/
def buildL (ps : List (Nat × Nat)) : List Value → List (Nat × Value) → Option (List Value)
  | cs, [] => some cs
  | cs, (i, v) :: r => match getP ps i with
    | some (off, size) => bif Nat.beq (cellsL v).length size then match pasteL cs off (cellsL v) with
      | some cs' => buildL ps cs' r
      | none => none
      else none
    | none => none
theorem getP_eq : ∀ (ps : List (Nat × Nat)) (i : Nat), getP ps i = ps[i]?
  | [], i => by simp [getP]
  | v :: r, 0 => rfl
  | v :: r, i + 1 => by simp [getP, getP_eq r i]
theorem foldl_set (vs : List Value) : ∀ (k off : Nat) (cs : Array Value), off + k + vs.length ≤ cs.size →
    ((vs.zipIdx k).foldl (fun cs (c, j) => cs.setIfInBounds (off + j) c) cs).toList = cs.toList.take (off + k) ++ vs ++ cs.toList.drop (off + k + vs.length) := by
  induction vs with
  | nil => intro k off cs h; simp
  | cons v vs ih =>
    intro k off cs h
    simp only [List.zipIdx_cons, List.foldl_cons]
    rw [ih (k + 1) off _ (by simp at h ⊢; omega)]
    simp only [List.length_cons] at h
    rw [Array.toList_setIfInBounds, List.take_set, List.drop_set, if_pos (by omega)]
    have e1 : (cs.toList.take (off + (k + 1))).set (off + k) v = cs.toList.take (off + k) ++ [v] := by
      rw [List.set_eq_take_append_cons_drop, if_pos (by simp; omega)]
      simp [List.take_take, List.drop_take, show min (off + k) (off + (k + 1)) = off + k by omega]
      omega
    rw [e1]
    simp [show off + (k + 1) + vs.length = off + k + (vs.length + 1) by omega]
theorem fill_eq (ps : List (Nat × Nat)) : ∀ (parts : List (Nat × Value)) (cs r : List Value), buildL ps cs parts = some r → Instr.fill (ps.toArray[·]?) cs.toArray parts = some r.toArray
  | [], cs, r, h => by cases h; rfl
  | (i, v) :: parts, cs, r, h => by
    simp only [buildL, getP_eq] at h
    cases hp : ps[i]? with
    | none => rw [hp] at h; cases h
    | some p =>
      obtain ⟨off, size⟩ := p
      rw [hp] at h
      simp only at h
      cases hs : Nat.beq (cellsL v).length size with
      | false => rw [hs] at h; cases h
      | true =>
        rw [hs] at h
        simp only [cond_true] at h
        cases hq : pasteL cs off (cellsL v) with
        | none => rw [hq] at h; cases h
        | some cs' =>
          rw [hq] at h
          simp only at h
          obtain ⟨hle, hcs⟩ := pasteL_eq hq
          have hsz : v.cells.size = size := by rw [cellsL_eq]; simpa using Nat.eq_of_beq_eq_true hs
          have hfold : ((v.cells.zipIdx).foldl (fun cs (c, j) => cs.setIfInBounds (off + j) c) cs.toArray) = cs'.toArray := by
            apply Array.ext'
            have := foldl_set (cellsL v) 0 off cs.toArray (by simpa using hle)
            rw [← Array.foldl_toList]
            simp only [cellsL_eq]
            simpa [hcs] using this
          have hp' : ps.toArray[i]? = some (off, size) := by simp [hp]
          unfold Instr.fill
          rw [hp']
          simp only
          rw [if_neg (by
            rw [cellsL_eq] at hsz ⊢
            simp only [List.size_toArray] at hsz ⊢
            simp [hsz]; omega), hfold]
          exact fill_eq ps parts cs' r h
theorem Q_build {t : TypeId} {parts : List (Nat × Operand)} {vs : List (Nat × Value)} {ps : List (Nat × Nat)} {z : Value} {zs cs : List Value} (hz : Zero P t z zs) (hp : Places P t ps) (hv : E.partsV parts = some vs) (hb : buildL ps zs vs = some cs) :
    OpQ P n w0 ⟨d, .build t parts.toArray, ty, pos, after, gu⟩ E H (.agg cs.toArray) := fun a w s hs => by
  obtain ⟨fs, hu, hps⟩ := hp.ex
  obtain ⟨it, hit, hit2⟩ := Option.map_eq_some_iff.1 hz.eq
  have e1 := s.partsV hv
  have e2 : (parts.toArray.map fun (i, x) => (i, a.eval x)).toList = vs := by simpa using e1
  have h := run_build (P := P) w t (parts.toArray.map fun (i, x) => (i, a.eval x)) cs.toArray (by
    rw [e2]
    simp only [Program.built, hit, hu, hit2, hps]
    rw [cellsL_eq, hz.cells]
    exact fill_eq ps vs zs cs hb)
  simp only [execOp, Sem.run_bind, h, Result.andThen_ok, Sem.run_pure]
theorem run_storeVar_cel (w : World) {g off : Nat} {bt t : TypeId} {cs cs' vs : List Value} {val : Value} (hs : Sat w0 w (cel g bt cs * F)) (hsz : (P.info? t).map (·.size) = some vs.length) (hv : val.cells = vs.toArray) (h1 : ∀ u ∈ vs, u.oneCell' = true) (hp : pasteL cs off vs = some cs') :
    ∃ w', (storeVar t ⟨g, off, none⟩ val).run P w = .ok () w' ∧ Sat w0 w' (cel g bt cs' * F) := by
  obtain ⟨hle, hcs⟩ := pasteL_eq hp
  obtain ⟨i, hi, hi2⟩ := Option.map_eq_some_iff.1 hsz
  have hz : (sizeOf t).run P w = .ok vs.length w := by simp [sizeOf, typeInfo, hi, hi2]
  have hr := run_storeCells_fr (P := P) g off bt (0, 0) vs 0 cs.toArray w (Sat.at_ hs) (by simpa using hle) h1 (fun i _ _ => by simp)
  refine ⟨w.setRow g (cs.toArray.toList.take (off + 0) ++ vs ++ cs.toArray.toList.drop (off + 0 + vs.length)).toArray, ?_, ?_⟩
  · simp only [storeVar, Sem.run_bind, hz, Result.andThen_ok, hv, List.size_toArray]
    rw [if_neg (by simp)]
    exact hr
  · refine Sat.put (o := .cells cs.toArray bt (0, 0)) hs rfl rfl rfl ?_ fun k _ hk => setRow_other w g k _ hk
    have := setRow_heap w g cs.toArray (cs.toArray.toList.take (off + 0) ++ vs ++ cs.toArray.toList.drop (off + 0 + vs.length)).toArray bt (0, 0) (Sat.at_ hs)
    rw [this, hcs]
    simp
theorem cells_one {v : Value} (h : v.oneCell' = true) : v.cells = [v].toArray := by cases v <;> first | rfl | cases h
theorem H_storeA {t bt : TypeId} {g off : Nat} {cs cs' vs : List Value} (hx : E.ev x = some (ptr g off)) (hy : E.ev y = some (.agg vs.toArray)) (ht : Aggr P t vs.length) (hl : LimbB H g bt cs F) (h1 : vs.all (·.oneCell') = true) (hset : pasteL cs off vs = some cs') :
    OpH P n w0 ⟨none, .store t x y, ty, pos, after, gu⟩ E H (fun _ : Unit => undef) (fun _ => cel g bt cs' * F) := OpH.mk' (pre := cel g bt cs) (post := fun _ => cel g bt cs') (fun G a w K Q s hs hK => by
  obtain ⟨w', hr, hs'⟩ := run_storeVar_cel (P := P) (t := t) (vs := vs) (val := .agg vs.toArray) w hs ht.size rfl (by simpa using h1) hset
  have := hK () w' hs'
  simp only [Act.put] at this
  simp only [Oper.wp, execOp, s.ev hx, s.ev hy, Instr.storeAt, Instr.sureAddr, Sem.run_bind, Sem.run_pure, Result.andThen_ok, hr, Oper.upon_skip]
  exact this) hl.eq
end ops

/-! ### Calls -/
/-- A contract: the function turns pre into one of post, whatever stands beside it, and returns. -/
def Spec (P : Program) (w0 : World) (f : FuncId) (args : List Value) (pre : HProp) {α : Type} (res : α → Value) (post : α → HProp) : Prop :=
  ∀ (G : HProp) w, Sat w0 w (pre * G) → Calls P f args.toArray w fun e w' => ∃ x, e = .returned (res x) ∧ Sat w0 w' (post x * G)
class IsFun (P : Program) (f : FuncId) : Prop where
  ok : ∃ fn, P.funcs[f]? = some fn ∧ fn.name ≠ "runtime.NumGoroutine" ∧ fn.body.isNone = false
theorem run_callFunc {f : FuncId} (hf : IsFun P f) (args : Array Value) (w : World) : (callFunc f args).run P w = .ok (.enter f args) w := by
  obtain ⟨fn, h1, h2, h3⟩ := hf.ok
  cases hb : fn.body with
  | none => rw [hb] at h3; cases h3
  | some c => simp [callFunc, h1, h2, hb]
section call
variable {α : Type} {f : FuncId} {args : List Value} {pre : HProp} {res : α → Value} {post : α → HProp} {d : Option Tmp} {xs : List Operand} {ts : Array TypeId} {ty : TypeId} {pos : String} {after : Array Edge} {gu : Option (Nat × Bool)}
theorem T_call (hf : IsFun P f) (hargs : E.evs xs = some args) (spec : Spec P w0 f args pre res post) : OpT P n w0 ⟨d, .call ⟨.value (.func f), xs.toArray, ts⟩, ty, pos, after, gu⟩ E pre res post := fun G a w K Q s hs hK => by
  have e := s.evs hargs
  have hr : (execOp a.eval ⟨d, .call ⟨.value (.func f), xs.toArray, ts⟩, ty, pos, after, gu⟩).run P w = .ok (.enter f args.toArray) w := by
    have h := run_callFunc hf args.toArray w
    simp [execOp, resolve, Act.eval, Deferred.ofValue, invoke, e, h]
  unfold Oper.wp
  rw [hr]
  refine (spec G w hs).mono ?_
  rintro e w' ⟨x, rfl, hs'⟩
  exact hK x w' hs'
/-- A call of a value: a closure or a method value. -/
theorem T_callV {t : Tmp} {caps : List Value} (hf : IsFun P f) (ht : E.get t = some (.func (.func f) #[] caps.toArray)) (hargs : E.evs xs = some args) (spec : Spec P w0 f (args ++ caps) pre res post) : OpT P n w0 ⟨d, .call ⟨.value (.tmp t), xs.toArray, ts⟩, ty, pos, after, gu⟩ E pre res post := fun G a w K Q s hs hK => by
  have e := s.evs hargs
  have e2 : a.eval (.tmp t) = .func (.func f) #[] caps.toArray := s.ev (x := .tmp t) ht
  have hr : (execOp a.eval ⟨d, .call ⟨.value (.tmp t), xs.toArray, ts⟩, ty, pos, after, gu⟩).run P w = .ok (.enter f (args ++ caps).toArray) w := by
    have h := run_callFunc hf (args ++ caps).toArray w
    simp [execOp, resolve, e2, Deferred.ofValue, invoke, e] at h ⊢
    exact h
  unfold Oper.wp
  rw [hr]
  refine (spec G w hs).mono ?_
  rintro e w' ⟨x, rfl, hs'⟩
  exact hK x w' hs'
theorem H_call0 (hf : IsFun P f) (hargs : E.evs xs = some args) (spec : Spec P w0 f args emp res post) : OpH P n w0 ⟨d, .call ⟨.value (.func f), xs.toArray, ts⟩, ty, pos, after, gu⟩ E H res (fun x => post x * H) := OpH.mk' (T_call hf hargs spec) emp_star.symm
theorem H_callH (hf : IsFun P f) (hargs : E.evs xs = some args) (spec : Spec P w0 f args pre res post) (hH : H = pre * F) : OpH P n w0 ⟨d, .call ⟨.value (.func f), xs.toArray, ts⟩, ty, pos, after, gu⟩ E H res (fun x => post x * F) := OpH.mk' (T_call hf hargs spec) hH
end call

/-- The contract of a function that only reads: from any memory that meets H. -/
def SpecQ (P : Program) (w0 : World) (f : FuncId) (args : List Value) (H : HProp) (v : Value) : Prop :=
  ∀ w, Sat w0 w H → Calls P f args.toArray w fun e w' => e = .returned v ∧ Sat w0 w' H
theorem TQ_call {f : FuncId} {args : List Value} {v : Value} {d : Option Tmp} {xs : List Operand} {ts : Array TypeId} {ty : TypeId} {pos : String} {after : Array Edge} {gu : Option (Nat × Bool)} (hf : IsFun P f) (hargs : E.evs xs = some args) (spec : SpecQ P w0 f args H v) : OpTQ P n w0 ⟨d, .call ⟨.value (.func f), xs.toArray, ts⟩, ty, pos, after, gu⟩ E H v := fun a w K Q s hs hK => by
  have e := s.evs hargs
  have hr : (execOp a.eval ⟨d, .call ⟨.value (.func f), xs.toArray, ts⟩, ty, pos, after, gu⟩).run P w = .ok (.enter f args.toArray) w := by
    have h := run_callFunc hf args.toArray w
    simp [execOp, resolve, Act.eval, Deferred.ofValue, invoke, e, h]
  unfold Oper.wp
  rw [hr]
  refine (spec w hs).mono ?_
  rintro e w' ⟨rfl, hs'⟩
  exact hK w' hs'
/-! ### Entering and leaving -/
def argE : Nat → List Value → Env
  | _, [] => []
  | k, v :: r => (k, v) :: argE (k + 1) r
theorem argE_get : ∀ (l : List Value) (k t : Nat) (v : Value), (argE k l).get t = some v → k ≤ t ∧ l[t - k]? = some v
  | [], k, t, v, h => by simp [argE, Env.get] at h
  | u :: r, k, t, v, h => by
    rw [argE, Env.get_cons] at h
    split at h
    · rename_i e; subst e; simp at h; simp [h]
    · obtain ⟨h1, h2⟩ := argE_get r (k + 1) t v h
      refine ⟨by omega, ?_⟩
      rw [show t - k = (t - (k + 1)) + 1 by omega]; simpa using h2
/-- What a function's body must come to: it returns; v: its result. -/
def retS (P : Program) (n : Frm) (w0 : World) (fn : Func) (R : Value → HProp → Prop) : Exit → St → Prop
  | .normal, σ | .ret, σ => σ.D = [] ∧ ∃ v, (∀ a w, Good n w0 σ a w → (results fn a.tmps).run P w = .ok v w) ∧ R v σ.H
  | _, _ => False
theorem Spec.enter {α : Type} {f : FuncId} {fn : Func} {c : Code} {args : List Value} {pre : HProp} {res : α → Value} {post : α → HProp} {m : Nat} (hf : P.funcs[f]? = some fn) (hb : fn.body = some c) (hn : fn.ntmps = m) (hle : Nat.ble args.length m = true)
    (h : ∀ G, WS P ⟨m, none⟩ w0 c (retS P ⟨m, none⟩ w0 fn fun v H' => ∃ x, v = res x ∧ Ent H' (post x * G)) ⟨argE 0 args, [], pre * G⟩) : Spec P w0 f args pre res post := by
  intro G w hs
  subst hn
  have hle' : args.length ≤ fn.ntmps := Nat.le_of_ble_eq_true hle
  refine calls_of_wp hf hb (wp_mono ((wpIn_wide (n := 0)).1 (h G _ w ⟨⟨by simp; omega, fun t v ht => ?_⟩, rfl, hs⟩)) ?_)
  · obtain ⟨_, h2⟩ := argE_get args 0 t v ht
    have hlt := (List.getElem?_eq_some_iff.1 h2).1
    simp only [Nat.sub_zero] at h2 hlt
    simp [Array.getElem?_append, hlt] at h2 ⊢
    simp [h2]
  · intro e a w' ⟨σ, h1, h2⟩
    cases e with
    | normal => obtain ⟨hD, v, hr, x, hv, he⟩ := h1; exact ⟨h2.defers.trans hD, v, hr a w' h2, x, by rw [hv], he.sat h2.sat⟩
    | ret => obtain ⟨hD, v, hr, x, hv, he⟩ := h1; exact ⟨h2.defers.trans hD, v, hr a w' h2, x, by rw [hv], he.sat h2.sat⟩
    | _ => exact h1.elim
theorem SpecQ.enter {f : FuncId} {fn : Func} {c : Code} {args : List Value} {v : Value} {m : Nat} (hf : P.funcs[f]? = some fn) (hb : fn.body = some c) (hn : fn.ntmps = m) (hle : Nat.ble args.length m = true)
    (h : WS P ⟨m, none⟩ w0 c (retS P ⟨m, none⟩ w0 fn fun u H' => u = v ∧ Ent H' H) ⟨argE 0 args, [], H⟩) : SpecQ P w0 f args H v := by
  intro w hs
  subst hn
  have hle' : args.length ≤ fn.ntmps := Nat.le_of_ble_eq_true hle
  refine calls_of_wp hf hb (wp_mono ((wpIn_wide (n := 0)).1 (h _ w ⟨⟨by simp; omega, fun t v ht => ?_⟩, rfl, hs⟩)) ?_)
  · obtain ⟨_, h2⟩ := argE_get args 0 t v ht
    have hlt := (List.getElem?_eq_some_iff.1 h2).1
    simp only [Nat.sub_zero] at h2 hlt
    simp [Array.getElem?_append, hlt] at h2 ⊢
    simp [h2]
  · intro e a w' ⟨σ, h1, h2⟩
    cases e with
    | normal => obtain ⟨hD, u, hr, hv, he⟩ := h1; exact ⟨h2.defers.trans hD, u, hr a w' h2, by rw [hv], he.sat h2.sat⟩
    | ret => obtain ⟨hD, u, hr, hv, he⟩ := h1; exact ⟨h2.defers.trans hD, u, hr a w' h2, by rw [hv], he.sat h2.sat⟩
    | _ => exact h1.elim
section ret
variable {fn : Func} {R : Value → HProp → Prop}
theorem ret_none {e : Exit} (he : e = .ret ∨ e = .normal) (hr : fn.results = #[]) (h : R (.tuple #[]) H) : retS P n w0 fn R e ⟨E, [], H⟩ := by
  rcases he with rfl | rfl <;> exact ⟨rfl, _, fun a w g => results_none hr _ _ _, h⟩
theorem ret_tmp {e : Exit} {t : Nat} {v : Value} (he : e = .ret ∨ e = .normal) (hr : fn.results = #[.tmp t]) (hv : E.get t = some v) (h : R v H) : retS P n w0 fn R e ⟨E, [], H⟩ := by
  rcases he with rfl | rfl <;> exact ⟨rfl, v, fun a w g => by rw [results_tmp hr, g.sees.get t v hv], h⟩
theorem ret_tmp2 {e : Exit} {t t' : Nat} {v u : Value} (he : e = .ret ∨ e = .normal) (hr : fn.results = #[.tmp t, .tmp t']) (hv : E.get t = some v) (hu : E.get t' = some u) (h : R (.tuple #[v, u]) H) : retS P n w0 fn R e ⟨E, [], H⟩ := by
  rcases he with rfl | rfl <;> exact ⟨rfl, _, fun a w g => by rw [results_tmp2 hr, g.sees.get t v hv, g.sees.get t' u hu], h⟩
end ret
end Go.Proofs.YtapoehkdnglahaaGreat

/- Values as data of Lean, and what the operators make of them. No program in sight. -/
namespace Go.Proofs.YtapoehkdnglahaaGreat
open Go.RowKit
set_option linter.unusedVariables false
set_option linter.unusedSectionVars false
variable {P : Program} {n : Frm} {w0 : World} {E : Env} {D : List Deferred} {H F R : HProp}

/-! ### Constants -/
class AsU8 (v : Value) (x : outParam UInt8) : Prop where eq : v = u8 x
class AsU32 (v : Value) (x : outParam UInt32) : Prop where eq : v = u32 x
class AsU64 (v : Value) (x : outParam UInt64) : Prop where eq : v = u64 x
instance (x : UInt8) : AsU8 (u8 x) x := ⟨rfl⟩
instance (x : UInt32) : AsU32 (u32 x) x := ⟨rfl⟩
instance (x : UInt64) : AsU64 (u64 x) x := ⟨rfl⟩
instance : AsU8 (.int .u8 0) 0 := ⟨rfl⟩
instance : AsU8 (.int .u8 1) 1 := ⟨rfl⟩
instance : AsU8 (.int .u8 2) 2 := ⟨rfl⟩
instance : AsU8 (.int .u8 7) 7 := ⟨rfl⟩
instance : AsU8 (.int .u8 8) 8 := ⟨rfl⟩
instance : AsU32 (.int .u32 0) 0 := ⟨rfl⟩
instance : AsU32 (.int .u32 1) 1 := ⟨rfl⟩
instance : AsU32 (.int .u32 6) 6 := ⟨rfl⟩
instance : AsU32 (.int .u32 7) 7 := ⟨rfl⟩
instance : AsU32 (.int .u32 6000) 6000 := ⟨rfl⟩
instance : AsU32 (.int .u32 4294967295) 4294967295 := ⟨rfl⟩
instance : AsU64 (.int .u64 0) 0 := ⟨rfl⟩
instance : AsU64 (.int .u64 1) 1 := ⟨rfl⟩
instance : AsU64 (.int .u64 5) 5 := ⟨rfl⟩
instance : AsU64 (.int .u64 80) 80 := ⟨rfl⟩
instance : AsU64 (.int .u64 1000) 1000 := ⟨rfl⟩
instance : AsU64 (.int .u64 1280) 1280 := ⟨rfl⟩
instance : AsU64 (.int .u64 2000) 2000 := ⟨rfl⟩
instance : AsU64 (.int .u64 3000) 3000 := ⟨rfl⟩
instance : AsU64 (.int .u64 5000) 5000 := ⟨rfl⟩
instance : AsU64 (.int .u64 65536) 65536 := ⟨rfl⟩
instance : AsU64 (.int .u64 1099511627776) 1099511627776 := ⟨rfl⟩
instance : AsU64 (.int .u64 18446744073709551615) 18446744073709551615 := ⟨rfl⟩

/-! ### Operators -/
theorem guard_int (op : BinOp) (t : TypeId) (a b : Operand) (k k' : IntKind) (x y : Int) (w : World) : (eqGuard op t a b (.int k x) (.int k' y)).run P w = .ok () w := by
  unfold eqGuard
  cases op <;> rfl
theorem wrap_u32 (m : Int) : IntKind.u32.wrap m = m % 4294967296 := by simp [IntKind.wrap, IntKind.signed, IntKind.bits]
theorem wrap_u64 (m : Int) : IntKind.u64.wrap m = m % 18446744073709551616 := by simp [IntKind.wrap, IntKind.signed, IntKind.bits]
theorem wrap_u8 (m : Int) : IntKind.u8.wrap m = m % 256 := by simp [IntKind.wrap, IntKind.signed, IntKind.bits]
theorem ofNat_u32 {m : Int} {x : UInt32} (h : m = (x.toNat : Int)) : Value.int .u32 m = u32 x := by rw [h]; rfl
theorem ofNat_u64 {m : Int} {x : UInt64} (h : m = (x.toNat : Int)) : Value.int .u64 m = u64 x := by rw [h]; rfl
theorem ofNat_u8 {m : Int} {x : UInt8} (h : m = (x.toNat : Int)) : Value.int .u8 m = u8 x := by rw [h]; rfl
section
variable {t : TypeId} {v u : Value}
instance addU32 {x y : UInt32} [a : AsU32 v x] [b : AsU32 u y] : BinV P .add t v u (u32 (x + y)) := by
  obtain ⟨rfl⟩ := a; obtain ⟨rfl⟩ := b
  refine ⟨fun w => ?_, fun w _ _ => guard_int _ _ _ _ _ _ _ _ _⟩
  have e : u32 (x + y) = .int .u32 (IntKind.u32.wrap ((x.toNat : Int) + (y.toNat : Int))) := (ofNat_u32 (by rw [wrap_u32, UInt32.toNat_add]; omega)).symm
  rw [e]; rfl
instance subU32 {x y : UInt32} [a : AsU32 v x] [b : AsU32 u y] : BinV P .sub t v u (u32 (x - y)) := by
  obtain ⟨rfl⟩ := a; obtain ⟨rfl⟩ := b
  refine ⟨fun w => ?_, fun w _ _ => guard_int _ _ _ _ _ _ _ _ _⟩
  have hx := x.toNat_lt; have hy := y.toNat_lt
  have e : u32 (x - y) = .int .u32 (IntKind.u32.wrap ((x.toNat : Int) - (y.toNat : Int))) := (ofNat_u32 (by rw [wrap_u32, UInt32.toNat_sub]; omega)).symm
  rw [e]; rfl
instance addU64 {x y : UInt64} [a : AsU64 v x] [b : AsU64 u y] : BinV P .add t v u (u64 (x + y)) := by
  obtain ⟨rfl⟩ := a; obtain ⟨rfl⟩ := b
  refine ⟨fun w => ?_, fun w _ _ => guard_int _ _ _ _ _ _ _ _ _⟩
  have e : u64 (x + y) = .int .u64 (IntKind.u64.wrap ((x.toNat : Int) + (y.toNat : Int))) := (ofNat_u64 (by rw [wrap_u64, UInt64.toNat_add]; omega)).symm
  rw [e]; rfl
instance subU64 {x y : UInt64} [a : AsU64 v x] [b : AsU64 u y] : BinV P .sub t v u (u64 (x - y)) := by
  obtain ⟨rfl⟩ := a; obtain ⟨rfl⟩ := b
  refine ⟨fun w => ?_, fun w _ _ => guard_int _ _ _ _ _ _ _ _ _⟩
  have hx := x.toNat_lt; have hy := y.toNat_lt
  have e : u64 (x - y) = .int .u64 (IntKind.u64.wrap ((x.toNat : Int) - (y.toNat : Int))) := (ofNat_u64 (by rw [wrap_u64, UInt64.toNat_sub]; omega)).symm
  rw [e]; rfl
instance mulU64 {x y : UInt64} [a : AsU64 v x] [b : AsU64 u y] : BinV P .mul t v u (u64 (x * y)) := by
  obtain ⟨rfl⟩ := a; obtain ⟨rfl⟩ := b
  refine ⟨fun w => ?_, fun w _ _ => guard_int _ _ _ _ _ _ _ _ _⟩
  have e : u64 (x * y) = .int .u64 (IntKind.u64.wrap ((x.toNat : Int) * (y.toNat : Int))) := (ofNat_u64 (by rw [wrap_u64, UInt64.toNat_mul]; simp)).symm
  rw [e]; rfl
instance remU64 {x y : UInt64} [a : AsU64 v x] [b : AsU64 u y] [hy : NeZero y.toNat] : BinV P .rem t v u (u64 (x % y)) := by
  obtain ⟨rfl⟩ := a; obtain ⟨rfl⟩ := b
  refine ⟨fun w => ?_, fun w _ _ => guard_int _ _ _ _ _ _ _ _ _⟩
  have e : u64 (x % y) = .int .u64 ((x.toNat : Int).tmod (y.toNat : Int)) := (ofNat_u64 (by rw [UInt64.toNat_mod, Int.ofNat_tmod])).symm
  rw [e]
  have h0 : y.toNat ≠ 0 := hy.out
  simp [binOp, u64, Op.intDiv, h0]
instance : NeZero (UInt64.toNat 5000) := ⟨by decide⟩
instance : NeZero (UInt64.toNat 2000) := ⟨by decide⟩
instance : NeZero (UInt64.toNat 65536) := ⟨by decide⟩
instance addU8 {x y : UInt8} [a : AsU8 v x] [b : AsU8 u y] : BinV P .add t v u (u8 (x + y)) := by
  obtain ⟨rfl⟩ := a; obtain ⟨rfl⟩ := b
  refine ⟨fun w => ?_, fun w _ _ => guard_int _ _ _ _ _ _ _ _ _⟩
  have e : u8 (x + y) = .int .u8 (IntKind.u8.wrap ((x.toNat : Int) + (y.toNat : Int))) := (ofNat_u8 (by rw [wrap_u8, UInt8.toNat_add]; omega)).symm
  rw [e]; rfl
theorem cmp_eql {k : IntKind} {x y : Int} {p : Prop} [Decidable p] (h : p ↔ x = y) : ∀ w, (binOp .eql t (.int k x) (.int k y)).run P w = .ok (.bool (decide p)) w := fun w => by
  have : decide p = (x == y) := by rw [Bool.eq_iff_iff]; simp [h]
  rw [this]; simp [binOp, Op.intCmp]
theorem cmp_neq {k : IntKind} {x y : Int} {p : Prop} [Decidable p] (h : p ↔ x = y) : ∀ w, (binOp .neq t (.int k x) (.int k y)).run P w = .ok (.bool (!decide p)) w := fun w => by
  have : (!decide p) = (x != y) := by rw [Bool.eq_iff_iff]; simp [h]
  rw [this]; simp [binOp, Op.intCmp]
theorem cmp_lss {k : IntKind} {x y : Int} {p : Prop} [Decidable p] (h : p ↔ x < y) : ∀ w, (binOp .lss t (.int k x) (.int k y)).run P w = .ok (.bool (decide p)) w := fun w => by
  have : decide p = decide (x < y) := by rw [Bool.eq_iff_iff]; simp [h]
  rw [this]; simp [binOp, Op.intCmp]
theorem cmp_leq {k : IntKind} {x y : Int} {p : Prop} [Decidable p] (h : p ↔ x ≤ y) : ∀ w, (binOp .leq t (.int k x) (.int k y)).run P w = .ok (.bool (decide p)) w := fun w => by
  have : decide p = decide (x ≤ y) := by rw [Bool.eq_iff_iff]; simp [h]
  rw [this]; simp [binOp, Op.intCmp]
theorem cmp_gtr {k : IntKind} {x y : Int} {p : Prop} [Decidable p] (h : p ↔ y < x) : ∀ w, (binOp .gtr t (.int k x) (.int k y)).run P w = .ok (.bool (decide p)) w := fun w => by
  have : decide p = decide (x > y) := by rw [Bool.eq_iff_iff]; simp [h]
  rw [this]; simp [binOp, Op.intCmp]
theorem cmp_geq {k : IntKind} {x y : Int} {p : Prop} [Decidable p] (h : p ↔ y ≤ x) : ∀ w, (binOp .geq t (.int k x) (.int k y)).run P w = .ok (.bool (decide p)) w := fun w => by
  have : decide p = decide (x ≥ y) := by rw [Bool.eq_iff_iff]; simp [h]
  rw [this]; simp [binOp, Op.intCmp]
instance eqlU32 {x y : UInt32} [a : AsU32 v x] [b : AsU32 u y] : BinV P .eql t v u (.bool (decide (x = y))) := by
  obtain ⟨rfl⟩ := a; obtain ⟨rfl⟩ := b; exact ⟨cmp_eql (by rw [← UInt32.toNat_inj]; omega), fun w _ _ => guard_int _ _ _ _ _ _ _ _ _⟩
instance neqU32 {x y : UInt32} [a : AsU32 v x] [b : AsU32 u y] : BinV P .neq t v u (.bool (!decide (x = y))) := by
  obtain ⟨rfl⟩ := a; obtain ⟨rfl⟩ := b; exact ⟨cmp_neq (by rw [← UInt32.toNat_inj]; omega), fun w _ _ => guard_int _ _ _ _ _ _ _ _ _⟩
instance lssU32 {x y : UInt32} [a : AsU32 v x] [b : AsU32 u y] : BinV P .lss t v u (.bool (decide (x < y))) := by
  obtain ⟨rfl⟩ := a; obtain ⟨rfl⟩ := b; exact ⟨cmp_lss (by rw [UInt32.lt_iff_toNat_lt]; omega), fun w _ _ => guard_int _ _ _ _ _ _ _ _ _⟩
instance leqU32 {x y : UInt32} [a : AsU32 v x] [b : AsU32 u y] : BinV P .leq t v u (.bool (decide (x ≤ y))) := by
  obtain ⟨rfl⟩ := a; obtain ⟨rfl⟩ := b; exact ⟨cmp_leq (by rw [UInt32.le_iff_toNat_le]; omega), fun w _ _ => guard_int _ _ _ _ _ _ _ _ _⟩
instance gtrU32 {x y : UInt32} [a : AsU32 v x] [b : AsU32 u y] : BinV P .gtr t v u (.bool (decide (y < x))) := by
  obtain ⟨rfl⟩ := a; obtain ⟨rfl⟩ := b; exact ⟨cmp_gtr (by rw [UInt32.lt_iff_toNat_lt]; omega), fun w _ _ => guard_int _ _ _ _ _ _ _ _ _⟩
instance geqU32 {x y : UInt32} [a : AsU32 v x] [b : AsU32 u y] : BinV P .geq t v u (.bool (decide (y ≤ x))) := by
  obtain ⟨rfl⟩ := a; obtain ⟨rfl⟩ := b; exact ⟨cmp_geq (by rw [UInt32.le_iff_toNat_le]; omega), fun w _ _ => guard_int _ _ _ _ _ _ _ _ _⟩
instance eqlU64 {x y : UInt64} [a : AsU64 v x] [b : AsU64 u y] : BinV P .eql t v u (.bool (decide (x = y))) := by
  obtain ⟨rfl⟩ := a; obtain ⟨rfl⟩ := b; exact ⟨cmp_eql (by rw [← UInt64.toNat_inj]; omega), fun w _ _ => guard_int _ _ _ _ _ _ _ _ _⟩
instance neqU64 {x y : UInt64} [a : AsU64 v x] [b : AsU64 u y] : BinV P .neq t v u (.bool (!decide (x = y))) := by
  obtain ⟨rfl⟩ := a; obtain ⟨rfl⟩ := b; exact ⟨cmp_neq (by rw [← UInt64.toNat_inj]; omega), fun w _ _ => guard_int _ _ _ _ _ _ _ _ _⟩
instance lssU64 {x y : UInt64} [a : AsU64 v x] [b : AsU64 u y] : BinV P .lss t v u (.bool (decide (x < y))) := by
  obtain ⟨rfl⟩ := a; obtain ⟨rfl⟩ := b; exact ⟨cmp_lss (by rw [UInt64.lt_iff_toNat_lt]; omega), fun w _ _ => guard_int _ _ _ _ _ _ _ _ _⟩
instance leqU64 {x y : UInt64} [a : AsU64 v x] [b : AsU64 u y] : BinV P .leq t v u (.bool (decide (x ≤ y))) := by
  obtain ⟨rfl⟩ := a; obtain ⟨rfl⟩ := b; exact ⟨cmp_leq (by rw [UInt64.le_iff_toNat_le]; omega), fun w _ _ => guard_int _ _ _ _ _ _ _ _ _⟩
instance gtrU64 {x y : UInt64} [a : AsU64 v x] [b : AsU64 u y] : BinV P .gtr t v u (.bool (decide (y < x))) := by
  obtain ⟨rfl⟩ := a; obtain ⟨rfl⟩ := b; exact ⟨cmp_gtr (by rw [UInt64.lt_iff_toNat_lt]; omega), fun w _ _ => guard_int _ _ _ _ _ _ _ _ _⟩
instance geqU64 {x y : UInt64} [a : AsU64 v x] [b : AsU64 u y] : BinV P .geq t v u (.bool (decide (y ≤ x))) := by
  obtain ⟨rfl⟩ := a; obtain ⟨rfl⟩ := b; exact ⟨cmp_geq (by rw [UInt64.le_iff_toNat_le]; omega), fun w _ _ => guard_int _ _ _ _ _ _ _ _ _⟩
instance eqlU8 {x y : UInt8} [a : AsU8 v x] [b : AsU8 u y] : BinV P .eql t v u (.bool (decide (x = y))) := by
  obtain ⟨rfl⟩ := a; obtain ⟨rfl⟩ := b; exact ⟨cmp_eql (by rw [← UInt8.toNat_inj]; omega), fun w _ _ => guard_int _ _ _ _ _ _ _ _ _⟩
instance neqU8 {x y : UInt8} [a : AsU8 v x] [b : AsU8 u y] : BinV P .neq t v u (.bool (!decide (x = y))) := by
  obtain ⟨rfl⟩ := a; obtain ⟨rfl⟩ := b; exact ⟨cmp_neq (by rw [← UInt8.toNat_inj]; omega), fun w _ _ => guard_int _ _ _ _ _ _ _ _ _⟩
instance eqlI {x y : Int} : BinV P .eql t (.int .i64 x) (.int .i64 y) (.bool (decide (x = y))) := ⟨cmp_eql Iff.rfl, fun w _ _ => guard_int _ _ _ _ _ _ _ _ _⟩
instance neqI {x y : Int} : BinV P .neq t (.int .i64 x) (.int .i64 y) (.bool (!decide (x = y))) := ⟨cmp_neq Iff.rfl, fun w _ _ => guard_int _ _ _ _ _ _ _ _ _⟩
instance lssI {x y : Int} : BinV P .lss t (.int .i64 x) (.int .i64 y) (.bool (decide (x < y))) := ⟨cmp_lss Iff.rfl, fun w _ _ => guard_int _ _ _ _ _ _ _ _ _⟩
instance leqI {x y : Int} : BinV P .leq t (.int .i64 x) (.int .i64 y) (.bool (decide (x ≤ y))) := ⟨cmp_leq Iff.rfl, fun w _ _ => guard_int _ _ _ _ _ _ _ _ _⟩
instance gtrI {x y : Int} : BinV P .gtr t (.int .i64 x) (.int .i64 y) (.bool (decide (y < x))) := ⟨cmp_gtr Iff.rfl, fun w _ _ => guard_int _ _ _ _ _ _ _ _ _⟩
instance geqI {x y : Int} : BinV P .geq t (.int .i64 x) (.int .i64 y) (.bool (decide (y ≤ x))) := ⟨cmp_geq Iff.rfl, fun w _ _ => guard_int _ _ _ _ _ _ _ _ _⟩
instance eqlB {x y : Bool} [h : Und P t .bool] : BinV P .eql t (.bool x) (.bool y) (.bool (x == y)) := ⟨fun w => run_eql_bool w t x y h.eq, fun w _ _ => rfl⟩
instance neqB {x y : Bool} [h : Und P t .bool] : BinV P .neq t (.bool x) (.bool y) (.bool (!(x == y))) := ⟨fun w => run_neq_bool w t x y h.eq, fun w _ _ => rfl⟩
instance notT : UnV P .not (.bool true) (.bool false) := ⟨fun w => rfl⟩
instance notF : UnV P .not (.bool false) (.bool true) := ⟨fun w => rfl⟩
instance (priority := low) notB {x : Bool} : UnV P .not (.bool x) (.bool (!x)) := ⟨fun w => rfl⟩
end
section
variable {d : Option Tmp} {ty : TypeId} {pos : String} {after : Array Edge} {gu : Option (Nat × Bool)} {x y : Operand}
/-- int's sums, where they stay in their bounds. -/
theorem Q_addI {t t2 : TypeId} {a b : Int} (hx : E.ev x = some (.int .i64 a)) (hy : E.ev y = some (.int .i64 b)) (h : -9223372036854775808 ≤ a + b ∧ a + b ≤ 9223372036854775807) : OpQ P n w0 ⟨d, .binOp .add t x y t2, ty, pos, after, gu⟩ E H (.int .i64 (a + b)) := fun ac w s hs => by
  have := IntWalk.i64_in (a + b) h
  simp [execOp, s.ev hx, s.ev hy, guard_int, binOp, Op.intArith, this]
theorem Q_subI {t t2 : TypeId} {a b : Int} (hx : E.ev x = some (.int .i64 a)) (hy : E.ev y = some (.int .i64 b)) (h : -9223372036854775808 ≤ a - b ∧ a - b ≤ 9223372036854775807) : OpQ P n w0 ⟨d, .binOp .sub t x y t2, ty, pos, after, gu⟩ E H (.int .i64 (a - b)) := fun ac w s hs => by
  have := IntWalk.i64_in (a - b) h
  simp [execOp, s.ev hx, s.ev hy, guard_int, binOp, Op.intArith, this]
theorem Q_mulI {t t2 : TypeId} {a b : Int} (hx : E.ev x = some (.int .i64 a)) (hy : E.ev y = some (.int .i64 b)) (h : -9223372036854775808 ≤ a * b ∧ a * b ≤ 9223372036854775807) : OpQ P n w0 ⟨d, .binOp .mul t x y t2, ty, pos, after, gu⟩ E H (.int .i64 (a * b)) := fun ac w s hs => by
  have := IntWalk.i64_in (a * b) h
  simp [execOp, s.ev hx, s.ev hy, guard_int, binOp, Op.intArith, this]
theorem Q_quoI {t t2 : TypeId} {a b : Int} (hx : E.ev x = some (.int .i64 a)) (hy : E.ev y = some (.int .i64 b)) (h : 0 ≤ a ∧ 0 < b ∧ a ≤ 9223372036854775807) : OpQ P n w0 ⟨d, .binOp .quo t x y t2, ty, pos, after, gu⟩ E H (.int .i64 (a / b)) := fun ac w s hs => by
  have h0 : b ≠ 0 := by omega
  have h1 := Int.tdiv_eq_ediv_of_nonneg (a := a) (b := b) h.1
  have h2 := Int.ediv_le_self b h.1
  have h3 := Int.ediv_nonneg h.1 (Int.le_of_lt h.2.1)
  have h4 := IntWalk.i64_in (a / b) (by omega)
  simp [execOp, s.ev hx, s.ev hy, guard_int, binOp, Op.intDiv, h0, h1, h4]
theorem Q_max32 {a b : UInt32} {ts : Array TypeId} {v u : Value} (hx : E.ev x = some v) (hy : E.ev y = some u) (h1 : AsU32 v a) (h2 : AsU32 u b) : OpQ P n w0 ⟨d, .call ⟨.builtin .max, #[x, y], ts⟩, ty, pos, after, gu⟩ E H (u32 (max a b)) := fun ac w s hs => by
  obtain ⟨rfl⟩ := h1; obtain ⟨rfl⟩ := h2
  have h := Q_max (P := P) (n := n) (w0 := w0) (H := H) (d := d) (ty := ty) (pos := pos) (after := after) (gu := gu) (ts := ts) hx hy ac w s hs
  rw [h]
  have : (max a b).toNat = if a.toNat ≤ b.toNat then b.toNat else a.toNat := by
    show (if a ≤ b then b else a).toNat = _
    by_cases hab : a ≤ b
    · rw [if_pos hab, if_pos (UInt32.le_iff_toNat_le.1 hab)]
    · rw [if_neg hab, if_neg (fun h => hab (UInt32.le_iff_toNat_le.2 h))]
  congr 2
  show Value.int .u32 _ = Value.int .u32 _
  congr 1
  rw [this]
  split <;> split <;> omega
theorem Q_max64 {a b : UInt64} {ts : Array TypeId} {v u : Value} (hx : E.ev x = some v) (hy : E.ev y = some u) (h1 : AsU64 v a) (h2 : AsU64 u b) : OpQ P n w0 ⟨d, .call ⟨.builtin .max, #[x, y], ts⟩, ty, pos, after, gu⟩ E H (u64 (max a b)) := fun ac w s hs => by
  obtain ⟨rfl⟩ := h1; obtain ⟨rfl⟩ := h2
  have h := Q_max (P := P) (n := n) (w0 := w0) (H := H) (d := d) (ty := ty) (pos := pos) (after := after) (gu := gu) (ts := ts) hx hy ac w s hs
  rw [h]
  have : (max a b).toNat = if a.toNat ≤ b.toNat then b.toNat else a.toNat := by
    show (if a ≤ b then b else a).toNat = _
    by_cases hab : a ≤ b
    · rw [if_pos hab, if_pos (UInt64.le_iff_toNat_le.1 hab)]
    · rw [if_neg hab, if_neg (fun h => hab (UInt64.le_iff_toNat_le.2 h))]
  congr 2
  show Value.int .u64 _ = Value.int .u64 _
  congr 1
  rw [this]
  split <;> split <;> omega
/-- A string is a list of bytes. -/
@[reducible] def strV (l : List UInt8) : Value := .string ⟨l.toArray⟩
theorem Q_lenS {t : TypeId} {l : List UInt8} (hx : E.ev x = some (strV l)) (ht : Und P t .string) : OpQ P n w0 ⟨d, .call ⟨.builtin .len, #[x], #[t]⟩, ty, pos, after, gu⟩ E H (.int .i64 (l.length : Int)) := Q_len_str hx ht
end
end Go.Proofs.YtapoehkdnglahaaGreat

/- Slices whose elements read as data: length, elements, stores, append, parts. No program in sight. -/
namespace Go.Proofs.YtapoehkdnglahaaGreat
open Go.RowKit
set_option linter.unusedVariables false
set_option linter.unusedSectionVars false
set_option linter.unusedSimpArgs false
variable {P : Program} {n : Frm} {w0 : World} {E : Env} {D : List Deferred} {H F R : HProp} {ops : Array Oper} {l' : List Oper} {Q : Exit → St → Prop} {w : World}
/-- The slice value v owns its block; its elements are l, each in the cells f. -/
def rows {α : Type} (e : TypeId) (size : Nat) (f : α → List Value) (v : Value) (l : List α) : HProp := slc e size v l.length (l.flatMap f)
class FixLen {α : Type} (f : α → List Value) (size : Nat) : Prop where
  eq : ∀ x, (f x).length = size
class RowsOf (H : HProp) (v : Value) (α : outParam Type) (e : outParam TypeId) (size : outParam Nat) (f : outParam (α → List Value)) (l : outParam (List α)) (F : outParam HProp) : Prop where
  eq : H = rows e size f v l * F
instance rowsOf_head {α : Type} (e : TypeId) (size : Nat) (f : α → List Value) (v : Value) (l : List α) (F : HProp) : RowsOf (rows e size f v l * F) v α e size f l F := ⟨rfl⟩
instance (priority := low) rowsOf_tail {α : Type} (X H F : HProp) (e : TypeId) (size : Nat) (f : α → List Value) (v : Value) (l : List α) [h : RowsOf H v α e size f l F] : RowsOf (X * H) v α e size f l (X * F) := ⟨by rw [h.eq, star_left_comm]⟩
instance (priority := low) rowsOf_left {α : Type} (X H F : HProp) (e : TypeId) (size : Nat) (f : α → List Value) (v : Value) (l : List α) [h : RowsOf X v α e size f l F] : RowsOf (X * H) v α e size f l (F * H) := ⟨by rw [h.eq, star_assoc]⟩
class Siz (P : Program) (t : TypeId) (size : outParam Nat) : Prop where
  eq : (P.info? t).map (·.size) = some size
instance siz_scal (t : TypeId) [h : Scal P t] : Siz P t 1 := ⟨h.size⟩
instance siz_aggr (t : TypeId) (s : Nat) [h : Aggr P t s] : Siz P t s := ⟨h.size⟩
/-- A slice type: its element, its sizes. -/
class SlTC (P : Program) (t : TypeId) (e : outParam TypeId) (size bytes : outParam Nat) : Prop where
  out : SlT P t e size bytes
class AsNat (i : Int) (k : outParam Nat) : Prop where
  eq : i = (k : Int)
instance asNat_cast (k : Nat) : AsNat ((k : Nat) : Int) k := ⟨rfl⟩
instance asNat_zero : AsNat 0 0 := ⟨rfl⟩
instance : AsNat 2 2 := ⟨rfl⟩
instance : AsNat 3 3 := ⟨rfl⟩
instance : AsNat 4 4 := ⟨rfl⟩
instance : AsNat 5 5 := ⟨rfl⟩
instance : AsNat 6 6 := ⟨rfl⟩
instance : AsNat 7 7 := ⟨rfl⟩
instance : AsNat 8 8 := ⟨rfl⟩
instance : AsNat 9 9 := ⟨rfl⟩
instance : AsNat 10 10 := ⟨rfl⟩
instance : AsNat 11 11 := ⟨rfl⟩
instance : AsNat 12 12 := ⟨rfl⟩
instance : AsNat 13 13 := ⟨rfl⟩
instance : AsNat 14 14 := ⟨rfl⟩
instance : AsNat 15 15 := ⟨rfl⟩
instance : AsNat 16 16 := ⟨rfl⟩
instance asNat_one : AsNat 1 1 := ⟨rfl⟩
instance asNat_add (i j : Int) (k m : Nat) [a : AsNat i k] [b : AsNat j m] : AsNat (i + j) (k + m) := ⟨by rw [a.eq, b.eq]; simp⟩

/-- The address of cell j of element k of the slice v. -/
def eptr (v : Value) (size k j : Nat) : Value := match v with
  | .slice (some a) _ _ => .pointer (some (a.add (k * size + j)))
  | _ => undef
theorem flatMap_length {α : Type} (f : α → List Value) (size : Nat) (hf : ∀ x, (f x).length = size) (l : List α) : (l.flatMap f).length = l.length * size := by
  induction l with
  | nil => simp
  | cons x l ih => simp [ih, hf, Nat.succ_mul]; omega
theorem flatMap_at {α : Type} (f : α → List Value) (size : Nat) (hf : ∀ x, (f x).length = size) : ∀ (l : List α) (k j : Nat) (x : α), l[k]? = some x → j < size → (l.flatMap f)[k * size + j]? = (f x)[j]?
  | [], k, j, x, h, _ => by simp at h
  | y :: l, 0, j, x, h, hj => by
    simp at h; subst h
    simp only [List.flatMap_cons, Nat.zero_mul, Nat.zero_add]
    rw [List.getElem?_append_left (by rw [hf]; exact hj)]
  | y :: l, k + 1, j, x, h, hj => by
    have := flatMap_at f size hf l k j x (by simpa using h) hj
    simp only [List.flatMap_cons]
    rw [List.getElem?_append_right (by rw [hf, Nat.succ_mul]; omega), hf, ← this]
    congr 1
    rw [Nat.succ_mul]; omega
theorem flatMap_set {α : Type} (f : α → List Value) (size : Nat) (hf : ∀ x, (f x).length = size) : ∀ (l : List α) (k : Nat) (y : α), k < l.length → (l.set k y).flatMap f = (l.flatMap f).take (k * size) ++ f y ++ (l.flatMap f).drop (k * size + size)
  | [], k, y, h => by simp at h
  | x :: l, 0, y, h => by
    have hx := hf x
    have e : ((f x ++ l.flatMap f).drop (0 * size + size)) = l.flatMap f := by rw [Nat.zero_mul, Nat.zero_add, ← hx, List.drop_left]
    simp only [List.set_cons_zero, List.flatMap_cons]
    rw [e]; simp
  | x :: l, k + 1, y, h => by
    have ih := flatMap_set f size hf l k y (by simpa using h)
    have hx := hf x
    have e1 : (f x ++ l.flatMap f).take ((k + 1) * size) = f x ++ (l.flatMap f).take (k * size) := by
      rw [show (k + 1) * size = (f x).length + k * size by rw [hx, Nat.succ_mul]; omega, List.take_length_add_append]
    have e2 : (f x ++ l.flatMap f).drop ((k + 1) * size + size) = (l.flatMap f).drop (k * size + size) := by
      rw [show (k + 1) * size + size = (f x).length + (k * size + size) by rw [hx, Nat.succ_mul]; omega, List.drop_length_add_append]
    simp only [List.set_cons_succ, List.flatMap_cons, ih]
    rw [e1, e2]
    simp
/-- What is known of a slice that has an element. -/
theorem rows_cell {α : Type} {e : TypeId} {size : Nat} {f : α → List Value} {v : Value} {l : List α} [hf : FixLen f size] (hp : 0 < size) (h : Sat w0 w (rows e size f v l * F)) {k : Nat} (hk : k < l.length) :
    ∃ g off cap, v = .slice (some ⟨g, off, none⟩) l.length cap ∧ (∀ j u, j < size → (f l[k])[j]? = some u → w.cell? ⟨g, off + (k * size + j), none⟩ = some u) := by
  have hne : l.flatMap f ≠ [] := by
    intro e0
    have := flatMap_length f size hf.eq l
    rw [e0] at this
    have := Nat.mul_pos (Nat.lt_of_le_of_lt (Nat.zero_le _) hk) hp
    simp at *; omega
  obtain ⟨g, off, cap, hv, _, _, hc⟩ := Sat.slc_cell h hne
  exact ⟨g, off, cap, hv, fun j u hj hu => (hc _ u (by rw [flatMap_at f size hf.eq l k j l[k] (by simp) hj]; exact hu)).1⟩
theorem rows_form {α : Type} {e : TypeId} {size : Nat} {f : α → List Value} {v : Value} {l : List α} (h : Sat w0 w (rows e size f v l * F)) : ∃ A c, v = .slice A l.length c := Sat.slc_form h
/-- What the slice value v reads as, in the world w: l, each element in the cells f. -/
structure RowsAt (w : World) (size : Nat) {α : Type} (f : α → List Value) (v : Value) (l : List α) : Prop where
  form : ∃ A c, v = .slice A l.length c ∧ l.length ≤ c ∧ c ≤ maxLen
  cell : ∀ k (hk : k < l.length), ∃ g off cap, v = .slice (some ⟨g, off, none⟩) l.length cap ∧ ∀ j u, j < size → (f l[k])[j]? = some u → w.cell? ⟨g, off + (k * size + j), none⟩ = some u
/-- In every world that meets H the slice v reads as l. -/
class Rdr (w0 : World) (H : HProp) (v : Value) (α : outParam Type) (size : outParam Nat) (f : outParam (α → List Value)) (l : outParam (List α)) : Prop where
  at_ : ∀ w, Sat w0 w H → RowsAt w size f v l
theorem rows_at {α : Type} {e : TypeId} {size : Nat} {f : α → List Value} {v : Value} {l : List α} [hf : FixLen f size] (hp : 0 < size) (h : Sat w0 w (rows e size f v l * F)) : RowsAt w size f v l := by
  refine ⟨?_, fun k hk => rows_cell hp h hk⟩
  obtain ⟨_, ⟨A, rfl, h0, _⟩ | ⟨g, off, cap, _, _, rfl, h1, h2, _⟩⟩ := Sat.slc_cases h
  · exact ⟨A, 0, by rw [h0], by omega, by simp [maxLen]⟩
  · exact ⟨_, _, rfl, h1, h2⟩
instance rdr_rows {α : Type} (e : TypeId) (size : Nat) (f : α → List Value) (v : Value) (l : List α) (F : HProp) [hf : FixLen f size] [hp : NeZero size] : Rdr w0 (rows e size f v l * F) v α size f l := ⟨fun w h => rows_at (Nat.pos_of_ne_zero hp.out) h⟩
instance (priority := low) rdr_tail {α : Type} (X H : HProp) (size : Nat) (f : α → List Value) (v : Value) (l : List α) [h : Rdr w0 H v α size f l] : Rdr w0 (X * H) v α size f l := ⟨fun w hs => h.at_ w hs.drop⟩
instance (priority := low) rdr_left {α : Type} (X H : HProp) (size : Nat) (f : α → List Value) (v : Value) (l : List α) [h : Rdr w0 X v α size f l] : Rdr w0 (X * H) v α size f l := ⟨fun w hs => h.at_ w hs.keep⟩
instance rdr_bare {α : Type} (e : TypeId) (size : Nat) (f : α → List Value) (v : Value) (l : List α) [hf : FixLen f size] [hp : NeZero size] : Rdr w0 (rows e size f v l) v α size f l := ⟨fun w h => rows_at (F := emp) (Nat.pos_of_ne_zero hp.out) (h.cast star_emp.symm)⟩
instance : NeZero 1 := ⟨by decide⟩
instance : NeZero 2 := ⟨by decide⟩
instance : NeZero 3 := ⟨by decide⟩
instance : NeZero 4 := ⟨by decide⟩
instance : NeZero 5 := ⟨by decide⟩
instance : NeZero 6 := ⟨by decide⟩
instance : NeZero 7 := ⟨by decide⟩
instance : NeZero 8 := ⟨by decide⟩
section quiet
variable {α : Type} {e : TypeId} {size : Nat} {f : α → List Value} {v : Value} {l : List α} {d : Option Tmp} {ty : TypeId} {pos : String} {after : Array Edge} {gu : Option (Nat × Bool)} {x y : Operand}
theorem Q_lenR {t e' : TypeId} (hx : E.ev x = some v) (hl : Rdr w0 H v α size f l) (ht : Und P t (.slice e')) : OpQ P n w0 ⟨d, .call ⟨.builtin .len, #[x], #[t]⟩, ty, pos, after, gu⟩ E H (.int .i64 (l.length : Int)) := fun a w s hs => by
  obtain ⟨A, c, rfl, _⟩ := (hl.at_ w hs).form
  exact Q_len hx ht a w s hs
theorem Q_index {t e2 : TypeId} {q : IntKind} {i : Int} {k : Nat} (hx : E.ev x = some v) (hy : E.ev y = some (.int q i)) (hl : Rdr w0 H v α size f l) (ht : Und P t (.slice e2)) (hs2 : Siz P e2 size) (hi : AsNat i k) (hk : k < l.length) :
    OpQ P n w0 ⟨d, .indexAddr t x y, ty, pos, after, gu⟩ E H (eptr v size k 0) := fun a w s hs => by
  obtain ⟨g, off, cap, rfl, _⟩ := (hl.at_ w hs).cell k hk
  obtain ⟨i0, hi0, hi1⟩ := Option.map_eq_some_iff.1 hs2.eq
  obtain rfl := hi.eq
  have hel : P.elem t = e2 := by simp [Program.elem, ht.eq]
  have h := run_indexAt_slice (P := P) w t ⟨g, off, none⟩ l.length cap q (k : Int) (by rw [ht.eq, hel])
  rw [if_pos ⟨by omega, by omega⟩, hel] at h
  simp [execOp, s.ev hx, s.ev hy, h, sizeOf, typeInfo, hi0, hi1, eptr]
theorem run_fieldAt_some (w : World) {s k o : Nat} {t : TypeId} (a0 : Addr) (h : Fld P s k o t) : (Instr.fieldAt s (.pointer (some a0)) k).run P w = .ok (.pointer (some (a0.add o))) w := by
  obtain ⟨size, h⟩ := h.eq
  unfold fieldD at h
  split at h
  · rename_i fs hu
    split at h
    · rename_i f hf
      split at h
      · rename_i i hi
        simp only [Option.some.injEq, Prod.mk.injEq] at h
        obtain ⟨h1, h2, hsz⟩ := h
        subst h1
        simp [Instr.fieldAt, run_underlying hu, hf, Instr.sureAddr, fieldPlace, sizeOf, typeInfo, hi, hsz]
      · cases h
    · cases h
  · cases h
theorem Q_fieldR {s k j off r : Nat} {fld : Nat} {t : TypeId} (hx : E.ev x = some (eptr v size k j)) (hl : Rdr w0 H v α size f l) (h : Fld P s fld off t) (hr : j + off = r) (hk : k < l.length) : OpQ P n w0 ⟨d, .fieldAddr s x fld, ty, pos, after, gu⟩ E H (eptr v size k r) := fun a w se hs => by
  subst hr
  obtain ⟨g, o, cap, rfl, _⟩ := (hl.at_ w hs).cell k hk
  have e1 := run_fieldAt_some (P := P) w ((⟨g, o, none⟩ : Addr).add (k * size + j)) h
  rw [add_lit, add_lit] at e1
  simp [execOp, se.ev hx, eptr, add_lit, e1, Nat.add_assoc]
theorem Q_loadR {t : TypeId} {k j : Nat} {z : α} {u : Value} (hx : E.ev x = some (eptr v size k j)) (hl : Rdr w0 H v α size f l) (ht : Scal P t) (hf : FixLen f size) (hz : l[k]? = some z) (hv : getL (f z) j = some u) : OpQ P n w0 ⟨d, .load t x, ty, pos, after, gu⟩ E H u := fun a w s hs => by
  rw [getL_eq] at hv
  have hj : j < size := by rw [← hf.eq z]; exact (List.getElem?_eq_some_iff.1 hv).1
  have hk : k < l.length := (List.getElem?_eq_some_iff.1 hz).1
  obtain ⟨g, off, cap, rfl, hc⟩ := (hl.at_ w hs).cell k hk
  have hzk : l[k] = z := by have := (List.getElem?_eq_some_iff.1 hz).2; exact this
  have hcell := hc j u hj (by rw [hzk]; exact hv)
  have hd := ht.ok
  obtain ⟨dd, hdd⟩ : ∃ dd, P.underlying t = some dd := by
    cases hu : P.underlying t with
    | none => rw [hu] at hd; cases hd
    | some dd => exact ⟨dd, rfl⟩
  rw [hdd] at hd
  have hagg : (isAgg t).run P w = .ok false w := by
    simp only [isAgg, Sem.run_bind, run_underlying hdd, Result.andThen_ok]
    cases dd <;> simp_all [scalarD]
  simp [execOp, s.ev hx, eptr, Instr.loadAt, Instr.sureAddr, loadVar, hagg, add_lit, hcell]
theorem Q_loadRA {t : TypeId} {k : Nat} {z : α} (hx : E.ev x = some (eptr v size k 0)) (hl : Rdr w0 H v α size f l) (ht : Aggr P t size) (hf : FixLen f size) (hz : l[k]? = some z) : OpQ P n w0 ⟨d, .load t x, ty, pos, after, gu⟩ E H (.agg (f z).toArray) := fun a w s hs => by
  have hk : k < l.length := (List.getElem?_eq_some_iff.1 hz).1
  obtain ⟨g, off, cap, rfl, hc⟩ := (hl.at_ w hs).cell k hk
  have hzk : l[k] = z := by have := (List.getElem?_eq_some_iff.1 hz).2; exact this
  have hc' : ∀ j u, (f z)[j]? = some u → w.cell? ((⟨g, off + k * size, none⟩ : Addr).add j) = some u := fun j u hu => by
    rw [add_lit]
    have := hc j u (by rw [← hf.eq z]; exact (List.getElem?_eq_some_iff.1 hu).1) (by rw [hzk]; exact hu)
    rwa [← Nat.add_assoc] at this
  have hd := ht.ok
  obtain ⟨dd, hdd⟩ : ∃ dd, P.underlying t = some dd := by
    cases hu : P.underlying t with
    | none => rw [hu] at hd; cases hd
    | some dd => exact ⟨dd, rfl⟩
  rw [hdd] at hd
  have hagg : (isAgg t).run P w = .ok true w := by
    simp only [isAgg, Sem.run_bind, run_underlying hdd, Result.andThen_ok]
    cases dd <;> simp_all [aggD]
  obtain ⟨i, hi, hi2⟩ := Option.map_eq_some_iff.1 ht.size
  have hz2 : (sizeOf t).run P w = .ok size w := by simp [sizeOf, typeInfo, hi, hi2]
  have hr := run_loadCells_list (P := P) (w := w) ⟨g, off + k * size, none⟩ (f z) hc'
  rw [hf.eq] at hr
  simp [execOp, s.ev hx, eptr, add_lit, Instr.loadAt, Instr.sureAddr, loadVar, hagg, hz2, hr]
end quiet

/-! ### Stores -/
theorem run_storeVar_slc (w : World) {g off cap m size : Nat} {e t : TypeId} {xs vs : List Value} {val : Value} {p : Nat} (hs : Sat w0 w (slc e size (.slice (some ⟨g, off, none⟩) m cap) m xs * F)) (hsz : (P.info? t).map (·.size) = some vs.length) (hv : val.cells = vs.toArray) (h1 : ∀ u ∈ vs, u.oneCell' = true) (hp : p + vs.length ≤ m * size) (hpos : 0 < m * size) :
    ∃ w', (storeVar t ⟨g, off + p, none⟩ val).run P w = .ok () w' ∧ Sat w0 w' (slc e size (.slice (some ⟨g, off, none⟩) m cap) m (xs.take p ++ vs ++ xs.drop (p + vs.length)) * F) := by
  obtain ⟨hl, ⟨A, hv0, h0, _⟩ | ⟨g', off', cap', cur, fr, hv0, hn, hm, hc, ht, hf, hs'⟩⟩ := hs.slc_cases
  · subst h0; simp at hpos
  · injection hv0 with e1 _ e3
    injection e1 with e1
    injection e1 with e1 e2
    subst e1; subst e2; subst e3
    have hle : m * size ≤ cap * size := Nat.mul_le_mul_right _ hn
    obtain ⟨i, hi, hi2⟩ := Option.map_eq_some_iff.1 hsz
    have hz : (sizeOf t).run P w = .ok vs.length w := by simp [sizeOf, typeInfo, hi, hi2]
    have hr := run_storeCells_fr (P := P) g (off + p) e fr vs 0 cur w hs'.at_ (by omega) h1 (fun i h1 h2 => hf i (by omega) (by omega))
    refine ⟨w.setRow g (cur.toList.take (off + p + 0) ++ vs ++ cur.toList.drop (off + p + 0 + vs.length)).toArray, ?_, ?_⟩
    · simp only [storeVar, Sem.run_bind, hz, Result.andThen_ok, hv, List.size_toArray]
      rw [if_neg (by simp)]
      exact hr
    · have hp2 : Sat w0 (w.setRow g (cur.toList.take (off + p + 0) ++ vs ++ cur.toList.drop (off + p + 0 + vs.length)).toArray) (pts g (.cells (cur.toList.take (off + p + 0) ++ vs ++ cur.toList.drop (off + p + 0 + vs.length)).toArray e fr) * F) :=
        Sat.put hs' rfl rfl rfl (setRow_heap w g cur _ e fr hs'.at_) fun k _ hk => setRow_other w g k _ hk
      refine Sat.slc_mk e size m g off cap _ fr _ hp2 ?_ hn hm ?_ ?_ hf
      · simp only [List.length_append, List.length_take, List.length_drop, hl]; omega
      · simp only [List.size_toArray, List.length_append, List.length_take, List.length_drop, Array.length_toList]; omega
      · subst ht
        apply List.ext_getElem?
        intro j
        simp only [Nat.add_zero, List.getElem?_take, List.getElem?_drop, List.getElem?_append, List.length_append, List.length_take, List.length_drop, Array.length_toList]
        have e1 : min (off + p) cur.size = off + p := by omega
        have e2 : min p (min (m * size) (cur.size - off)) = p := by omega
        rw [e1, e2]
        by_cases c0 : j < m * size
        · simp only [c0, if_true]
          by_cases c1 : j < p
          · simp [c1, show off + j < off + p + vs.length by omega, show off + j < off + p by omega, show j < p + vs.length by omega]
          · by_cases c2 : j < p + vs.length
            · simp [c1, c2, show off + j < off + p + vs.length by omega, show off + j - (off + p) = j - p by omega]
            · simp [c1, c2, show ¬ off + j < off + p + vs.length by omega, show ¬ off + j < off + p by omega, show off + p + vs.length + (off + j - (off + p + vs.length)) = off + j by omega, show p + vs.length + (j - (p + vs.length)) = j by omega, c0]
        · simp only [c0, if_false]
          by_cases c2 : j < p + vs.length
          · omega
          · simp [c2, show ¬ j < p by omega, show ¬ p + vs.length + (j - (p + vs.length)) < m * size by omega]
theorem take_mid {A B C : List Value} {m j : Nat} (hA : A.length = m) (hj : j ≤ B.length) : (A ++ (B ++ C)).take (m + j) = A ++ B.take j := by
  subst hA
  rw [List.take_length_add_append, List.take_append_of_le_length hj]
theorem drop_mid {A B C : List Value} {m j : Nat} (hA : A.length = m) (hj : j ≤ B.length) : (A ++ (B ++ C)).drop (m + j) = B.drop j ++ C := by
  subst hA
  rw [List.drop_length_add_append, List.drop_append_of_le_length hj]
section stores
variable {α : Type} {e : TypeId} {size : Nat} {f : α → List Value} {v : Value} {l : List α} {ty : TypeId} {pos : String} {after : Array Edge} {gu : Option (Nat × Bool)} {x y : Operand}
/-- An element stored whole. -/
theorem H_storeRA (z' : α) {t : TypeId} {k : Nat} {vs : List Value} (hx : E.ev x = some (eptr v size k 0)) (hy : E.ev y = some (.agg vs.toArray)) (hz : vs = f z') (hl : RowsOf H v α e size f l F) (ht : Aggr P t size) (hf : FixLen f size) (hp : Nat.blt 0 size = true) (h1 : vs.all (·.oneCell') = true) (hk : k < l.length) :
    OpH P n w0 ⟨none, .store t x y, ty, pos, after, gu⟩ E H (fun _ : Unit => undef) (fun _ => rows e size f v (l.set k z') * F) := OpH.mk' (pre := rows e size f v l) (post := fun _ => rows e size f v (l.set k z')) (fun G a w K Q s hs hK => by
  have hp' : 0 < size := by simpa using hp
  obtain ⟨g, off, cap, rfl, _⟩ := rows_cell hp' hs hk
  have hvl : vs.length = size := by rw [hz]; exact hf.eq z'
  have hkm : (k + 1) * size ≤ l.length * size := Nat.mul_le_mul_right _ hk
  rw [Nat.succ_mul] at hkm
  obtain ⟨w', hr, hs'⟩ := run_storeVar_slc (P := P) (t := t) (vs := vs) (val := .agg vs.toArray) (p := k * size) w hs (by rw [hvl]; exact ht.size) rfl (by simpa using h1) (by omega) (by omega)
  have := hK () w' (hs'.cast (by unfold rows; rw [List.length_set, flatMap_set f size hf.eq l k z' hk, hvl, hz]))
  simp only [Act.put] at this
  simp only [Oper.wp, execOp, s.ev hx, s.ev hy, eptr, add_lit, Nat.add_zero, Instr.storeAt, Instr.sureAddr, Sem.run_bind, Sem.run_pure, Result.andThen_ok, hr, Oper.upon_skip]
  exact this) hl.eq
/-- One cell of an element stored. -/
theorem H_storeR (z' : α) {t : TypeId} {k j : Nat} {z : α} {u : Value} (hx : E.ev x = some (eptr v size k j)) (hy : E.ev y = some u) (hl : RowsOf H v α e size f l F) (ht : Scal P t) (hf : FixLen f size) (h1 : u.oneCell' = true) (hz : l[k]? = some z) (hz' : pasteL (f z) j [u] = some (f z')) :
    OpH P n w0 ⟨none, .store t x y, ty, pos, after, gu⟩ E H (fun _ : Unit => undef) (fun _ => rows e size f v (l.set k z') * F) := OpH.mk' (pre := rows e size f v l) (post := fun _ => rows e size f v (l.set k z')) (fun G a w K Q s hs hK => by
  obtain ⟨hle, hpa⟩ := pasteL_eq hz'
  have hj : j < size := by rw [← hf.eq z]; simp at hle; omega
  have hk : k < l.length := (List.getElem?_eq_some_iff.1 hz).1
  have hzk : l[k] = z := by have := (List.getElem?_eq_some_iff.1 hz).2; exact this
  obtain ⟨g, off, cap, rfl, _⟩ := rows_cell (by omega) hs hk
  have hkm : (k + 1) * size ≤ l.length * size := Nat.mul_le_mul_right _ hk
  rw [Nat.succ_mul] at hkm
  obtain ⟨w', hr, hs'⟩ := run_storeVar_slc (P := P) (t := t) (vs := [u]) (val := u) (p := k * size + j) w hs ht.size (cells_one h1) (by simpa using h1) (by simp; omega) (by omega)
  have hset : (l.flatMap f).take (k * size + j) ++ [u] ++ (l.flatMap f).drop (k * size + j + 1) = (l.set k z').flatMap f := by
    rw [flatMap_set f size hf.eq l k z' hk, hpa]
    have hlen := flatMap_length f size hf.eq l
    have hself : l.set k z = l := by rw [← hzk]; exact List.set_getElem_self hk
    have hX := flatMap_set f size hf.eq l k z hk
    rw [hself] at hX
    have hA : ((l.flatMap f).take (k * size)).length = k * size := by rw [List.length_take, hlen]; omega
    have hfz := hf.eq z
    generalize (l.flatMap f).take (k * size) = A at *
    generalize (l.flatMap f).drop (k * size + size) = C at *
    have hX' : l.flatMap f = A ++ (f z ++ C) := by rw [hX, List.append_assoc]
    have hle2 : j + 1 ≤ (f z).length := by omega
    have e1 := take_mid (C := C) hA (show j ≤ (f z).length by omega)
    have e2 := drop_mid (C := C) hA hle2
    rw [hX', e1, show k * size + j + 1 = k * size + (j + 1) by omega, e2]
    simp
  have := hK () w' (hs'.cast (by
    unfold rows
    rw [List.length_set, ← hset]
    simp))
  simp only [Act.put] at this
  simp only [Oper.wp, execOp, s.ev hx, s.ev hy, eptr, add_lit, Instr.storeAt, Instr.sureAddr, Sem.run_bind, Sem.run_pure, Result.andThen_ok, hr, Oper.upon_skip]
  exact this) hl.eq
end stores
/-! ### Nothing; another assertion -/
theorem LS_ent {H H' : HProp} (e : Ent H H') (h : LS P n w0 ops Q l' ⟨E, D, H'⟩) : LS P n w0 ops Q l' ⟨E, D, H⟩ := fun a w g => h a w ⟨g.sees, g.defers, e.sat g.sat⟩
theorem WS_ent {c : Code} {H H' : HProp} (e : Ent H H') (h : WS P n w0 c Q ⟨E, D, H'⟩) : WS P n w0 c Q ⟨E, D, H⟩ := fun a w g => h a w ⟨g.sees, g.defers, e.sat g.sat⟩
theorem Ent.nil {α : Type} (H : HProp) (e : TypeId) (size : Nat) (f : α → List Value) (A : Option Addr) : Ent H (rows e size f (.slice A 0 0) [] * H) := fun h hh =>
  ⟨h, ⟨fun _ => none, h, fun _ => .inl rfl, (Part.join_none fun _ => rfl).symm, ⟨by simp, .inl ⟨A, rfl, rfl, fun _ => rfl⟩⟩, hh⟩, fun _ _ e => e⟩
end Go.Proofs.YtapoehkdnglahaaGreat

/- Slice literals, append, parts of slices, strings and bytes. No program in sight. -/
namespace Go.Proofs.YtapoehkdnglahaaGreat
open Go.RowKit
set_option linter.unusedVariables false
set_option linter.unusedSectionVars false
set_option linter.unusedSimpArgs false
variable {P : Program} {n : Frm} {w0 : World} {E : Env} {D : List Deferred} {H F F2 R : HProp} {ops : Array Oper} {l' : List Oper} {Q : Exit → St → Prop} {w : World}
/-! ### Literals -/
def bsL (size : Nat) : List Value → List (Nat × Value) → Option (List Value)
  | cs, [] => some cs
  | cs, (i, v) :: r => bif Nat.beq (cellsL v).length size then match pasteL cs (i * size) (cellsL v) with
    | some cs' => bsL size cs' r
    | none => none
    else none
theorem fill_bs (size : Nat) : ∀ (parts : List (Nat × Value)) (cs r : List Value), bsL size cs parts = some r → Instr.fill (fun i => some (i * size, size)) cs.toArray parts = some r.toArray
  | [], cs, r, h => by cases h; rfl
  | (i, v) :: parts, cs, r, h => by
    simp only [bsL] at h
    cases hs : Nat.beq (cellsL v).length size with
    | false => rw [hs] at h; cases h
    | true =>
      rw [hs] at h
      simp only [cond_true] at h
      cases hq : pasteL cs (i * size) (cellsL v) with
      | none => rw [hq] at h; cases h
      | some cs' =>
        rw [hq] at h
        simp only at h
        obtain ⟨hle, hcs⟩ := pasteL_eq hq
        have hsz : v.cells.size = size := by rw [cellsL_eq]; simpa using Nat.eq_of_beq_eq_true hs
        have hfold : ((v.cells.zipIdx).foldl (fun cs (c, j) => cs.setIfInBounds (i * size + j) c) cs.toArray) = cs'.toArray := by
          apply Array.ext'
          have := foldl_set (cellsL v) 0 (i * size) cs.toArray (by simpa using hle)
          rw [← Array.foldl_toList]
          simp only [cellsL_eq]
          simpa [hcs] using this
        unfold Instr.fill
        simp only
        rw [if_neg (by
          rw [cellsL_eq] at hsz ⊢
          simp only [List.size_toArray] at hsz ⊢
          simp [hsz]; omega), hfold]
        exact fill_bs size parts cs' r h
theorem zeroRow_length (zs : List Value) : ∀ k, (zeroRow zs k).length = k * zs.length
  | 0 => by simp [zeroRow]
  | k + 1 => by simp [zeroRow, zeroRow_length zs k, Nat.succ_mul]; omega
theorem zeroRow_at (zs : List Value) : ∀ (k i : Nat), i < k * zs.length → (zeroRow zs k)[i]? = zs[i % zs.length]?
  | 0, i, h => by simp at h
  | k + 1, i, h => by
    simp only [zeroRow]
    rw [List.getElem?_append]
    split
    · rename_i hi; rw [Nat.mod_eq_of_lt hi]
    · rename_i hi
      have hpos : 0 < zs.length := by
        rcases Nat.eq_zero_or_pos zs.length with h0 | h0
        · rw [h0] at h; simp at h
        · exact h0
      rw [zeroRow_at zs k (i - zs.length) (by rw [Nat.succ_mul] at h; omega)]
      congr 1
      exact (Nat.mod_eq_sub_mod (by omega)).symm
section lit
variable {d : Option Tmp} {ty : TypeId} {pos : String} {after : Array Edge} {gu : Option (Nat × Bool)}
theorem H_buildSlice {t e : TypeId} {len size : Nat} {parts : List (Nat × Operand)} {vs : List (Nat × Value)} {z : Value} {zs cs : List Value} (ht : Und P t (.slice e)) (hz : Zero P e z zs) (hs : Siz P e size) (hl : Nat.beq zs.length size = true) (hsm : Nat.ble (len * size) 16777216 = true) (hpos : Nat.blt 0 (len * size) = true) (hv : E.partsV parts = some vs) (hb : bsL size (zeroRow zs len) vs = some cs) :
    OpH P n w0 ⟨d, .buildSlice t len parts.toArray, ty, pos, after, gu⟩ E H (fun g => .slice (some ⟨g, 0, none⟩) len len) (fun g => cel g e cs * H) := H_new fun a w s => by
  obtain ⟨ie, hie, hiz⟩ := Option.map_eq_some_iff.1 hz.eq
  obtain ⟨ie2, hie2, his⟩ := Option.map_eq_some_iff.1 hs.eq
  rw [hie] at hie2; cases hie2
  have hl' : zs.length = size := Nat.eq_of_beq_eq_true hl
  have hsm' : len * size ≤ 16777216 := Nat.le_of_ble_eq_true hsm
  have hpos' : 0 < len * size := by simpa using hpos
  have e1 := s.partsV hv
  have e2 : (parts.toArray.map fun (i, x) => (i, a.eval x)).toList = vs := by simpa using e1
  have harr : ((Array.range (len * size)).map (z.cells[· % z.cells.size]!)) = (zeroRow zs len).toArray := by
    apply Array.ext'
    apply List.ext_getElem?
    intro i
    have hc : z.cells = zs.toArray := by rw [cellsL_eq, hz.cells]
    rw [hc]
    by_cases hi : i < len * size
    · rw [List.toList_toArray, zeroRow_at zs len i (by rw [hl']; exact hi)]
      have hm : i % zs.length < zs.length := Nat.mod_lt _ (by
        rcases Nat.eq_zero_or_pos zs.length with h0 | h0
        · rw [hl'] at h0; rw [h0] at hpos'; simp at hpos'
        · exact h0)
      simp [hi, hm]
    · rw [List.getElem?_eq_none (by simpa using hi), List.getElem?_eq_none (by rw [List.toList_toArray, zeroRow_length, hl']; omega)]
  have h := run_buildSlice (P := P) w t e len (parts.toArray.map fun (i, x) => (i, a.eval x)) cs.toArray ie z ht.eq hie hiz (by rw [his]; omega) (by rw [his]; omega) (by
    rw [his, e2, harr]; exact fill_bs size vs _ _ hb)
  simp only [execOp, Sem.run_bind, h, Result.andThen_ok, Sem.run_pure]
end lit
/-- A whole new block, as a slice of data. -/
theorem Ent.rows_new {α : Type} (l : List α) {g : Nat} {e : TypeId} {size m : Nat} {f : α → List Value} {cs : List Value} [hf : FixLen f size] (hc : cs = l.flatMap f) (hm : l.length = m) (hmax : m ≤ 1000000) : Ent (cel g e cs * F) (rows e size f (.slice (some ⟨g, 0, none⟩) m m) l * F) := fun h hh => by
  refine ⟨h, ?_, fun _ _ e => e⟩
  obtain ⟨a, b, hd, he, hp, hq⟩ := hh
  refine ⟨a, b, hd, he, ⟨by rw [flatMap_length f size hf.eq], .inr ⟨g, 0, m, cs.toArray, (0, 0), ?_, by omega, by simp only [maxLen]; omega, ?_, ?_, fun i _ _ => by simp, hp⟩⟩, hq⟩
  · rw [hm]
  · simp [hc, flatMap_length f size hf.eq, hm]
  · simp only [List.drop_zero]
    rw [hc, ← flatMap_length f size hf.eq, List.take_length]

/-! ### Append -/
section append
variable {α : Type} {e : TypeId} {size bytes : Nat} {f : α → List Value} {v u : Value} {l : List α} {d : Option Tmp} {ty : TypeId} {pos : String} {after : Array Edge} {gu : Option (Nat × Bool)} {x y : Operand} {t t2 : TypeId}
theorem T_append (ys : List α) (X : HProp) (hx : E.ev x = some v) (hy : E.ev y = some u) (hT : SlT P t e size bytes) (h2 : P.underlying t2 = some (.slice e) ∨ P.underlying t2 = some .string) (hf : FixLen f size) (h1 : ∀ z, ∀ c ∈ f z, c.oneCell' = true)
    (hsrc : ∀ w G, Sat w0 w (rows e size f v l * (X * G)) → Src P w size ys.length u (ys.flatMap f)) (hn : l.length + ys.length ≤ 1000000) (hby : bytes ≤ 1000) :
    OpT P n w0 ⟨d, .call ⟨.builtin .append, #[x, y], #[t, t2]⟩, ty, pos, after, gu⟩ E (rows e size f v l * X) (fun v' : Value => v') (fun v' => rows e size f v' (l ++ ys) * X) := fun G a w K Q s hs hK => by
  rw [star_assoc] at hs
  refine wp_append_sl hT h2 x y rfl hs (s.ev hx) (s.ev hy) (hsrc w G hs) (fun c hc => ?_) (by simp only [maxLen]; omega) ?_ fun v' w' hs' => hK v' w' ?_
  · obtain ⟨z, _, hz⟩ := List.mem_flatMap.1 hc; exact h1 z c hz
  · have : (l.length + ys.length) * bytes ≤ 1000000 * 1000 := Nat.mul_le_mul hn hby
    omega
  · rw [star_assoc]
    unfold rows
    rw [List.length_append, List.flatMap_append]
    exact hs'
theorem src_of_rows {w : World} {α : Type} {size : Nat} {f : α → List Value} {u : Value} {ys : List α} (h : RowsAt w size f u ys) (hf : ∀ x, (f x).length = size) : Src P w size ys.length u (ys.flatMap f) := by
  obtain ⟨A, c, rfl, _⟩ := h.form
  by_cases hy : ys = []
  · subst hy; exact Src.nothing size c A
  · obtain ⟨g, off, cap, hv2, _⟩ := h.cell 0 (List.length_pos_iff.2 hy)
    injection hv2 with e1 e2 e3
    subst e1
    refine Src.slice size ys.length c _ _ (flatMap_length f size hf ys) fun j u hu => ?_
    rw [add_lit]
    have hj := (List.getElem?_eq_some_iff.1 hu).1
    rw [flatMap_length f size hf] at hj
    have hpos : 0 < size := by
      rcases Nat.eq_zero_or_pos size with h0 | h0
      · rw [h0] at hj; simp at hj
      · exact h0
    have hk : j / size < ys.length := Nat.div_lt_of_lt_mul (by rw [Nat.mul_comm]; exact hj)
    obtain ⟨g', off', cap', hv3, hc⟩ := h.cell (j / size) hk
    injection hv3 with e1
    injection e1 with e1
    injection e1 with e1 e2
    subst e1; subst e2
    have hjj : j / size * size + j % size = j := Nat.div_add_mod' j size
    have := hc (j % size) u (Nat.mod_lt _ hpos) (by
      rw [← flatMap_at f size hf ys (j / size) (j % size) ys[j / size] (by simp) (Nat.mod_lt _ hpos), hjj]; exact hu)
    rwa [hjj] at this
/-- All elements of a slice that can be read, whoever owns it. -/
theorem H_appendX {ys : List α} (X : HProp) {f' : α → List Value} (hx : E.ev x = some v) (hy : E.ev y = some u) (hl : RowsOf H v α e size f l F) (hX : Rdr w0 X u α size f' ys) (hF : F = X * F2) (hff : f' = f) (hT : SlTC P t e size bytes) (hf : FixLen f size) (h1 : ∀ z, ∀ c ∈ f z, c.oneCell' = true) (hn : l.length + ys.length ≤ 1000000) (hby : Nat.ble bytes 1000 = true) :
    OpH P n w0 ⟨d, .call ⟨.builtin .append, #[x, y], #[t, t]⟩, ty, pos, after, gu⟩ E H (fun v' : Value => v') (fun v' => rows e size f v' (l ++ ys) * (X * F2)) := by
  subst hff
  refine ⟨rows e size f' v l * X, fun v' => rows e size f' v' (l ++ ys) * X, F2, ?_, by rw [hl.eq, hF, star_assoc], fun _ => by rw [star_assoc]⟩
  exact T_append ys X hx hy hT.out (.inl hT.out.ht) hf h1 (fun w G hs => src_of_rows (hX.at_ w hs.p2.keep) hf.eq) hn (Nat.le_of_ble_eq_true hby)
/-- All elements of another slice that is owned. -/
theorem H_appendR {ys : List α} (hx : E.ev x = some v) (hy : E.ev y = some u) (hl : RowsOf H v α e size f l F) {f' : α → List Value} (hl2 : RowsOf F u α e size f' ys F2) (hff : f' = f) (hT : SlTC P t e size bytes) (hf : FixLen f size) (h1 : ∀ z, ∀ c ∈ f z, c.oneCell' = true) (hn : l.length + ys.length ≤ 1000000) (hby : Nat.ble bytes 1000 = true) :
    OpH P n w0 ⟨d, .call ⟨.builtin .append, #[x, y], #[t, t]⟩, ty, pos, after, gu⟩ E H (fun v' : Value => v') (fun v' => rows e size f v' (l ++ ys) * (rows e size f u ys * F2)) := by
  subst hff
  refine ⟨rows e size f' v l * rows e size f' u ys, fun v' => rows e size f' v' (l ++ ys) * rows e size f' u ys, F2, ?_, by rw [hl.eq, hl2.eq, star_assoc], fun _ => by rw [star_assoc]⟩
  exact T_append ys _ hx hy hT.out (.inl hT.out.ht) hf h1 (fun w G hs => Src.own hs.p2) hn (Nat.le_of_ble_eq_true hby)
end append

/-! ### Bytes and strings -/
/-- A byte's cell. -/
def byteC (b : UInt8) : List Value := [u8 b]
instance : FixLen byteC 1 := ⟨fun _ => rfl⟩
theorem byteC_one : ∀ z, ∀ c ∈ byteC z, c.oneCell' = true := by intro z c hc; simp [byteC] at hc; subst hc; rfl
theorem byteC_flat (l : List UInt8) : l.flatMap byteC = u8s l := by
  induction l with
  | nil => rfl
  | cons b l ih => rw [List.flatMap_cons, ih]; rfl
section bytes
variable {v u : Value} {l : List UInt8} {d : Option Tmp} {ty : TypeId} {pos : String} {after : Array Edge} {gu : Option (Nat × Bool)} {x y : Operand} {t t2 e src dst : TypeId} {f : UInt8 → List Value} {size : Nat}
theorem H_appendS {ys : List UInt8} {bytes : Nat} (hx : E.ev x = some v) (hy : E.ev y = some (strV ys)) (hl : RowsOf H v UInt8 e 1 f l F) (hfb : f = byteC) (hT : SlTC P t e 1 bytes) (h2 : Und P t2 .string) (hn : l.length + ys.length ≤ 1000000) (hby : Nat.ble bytes 1000 = true) :
    OpH P n w0 ⟨d, .call ⟨.builtin .append, #[x, y], #[t, t2]⟩, ty, pos, after, gu⟩ E H (fun v' : Value => v') (fun v' => rows e 1 f v' (l ++ ys) * F) := by
  subst hfb
  refine ⟨rows e 1 byteC v l * emp, fun v' => rows e 1 byteC v' (l ++ ys) * emp, F, ?_, by rw [hl.eq, star_emp], fun _ => by dsimp only; rw [star_emp]⟩
  refine T_append ys emp hx hy hT.out (.inr h2.eq) inferInstance byteC_one (fun w G hs => ?_) hn (Nat.le_of_ble_eq_true hby)
  have := Src.string (P := P) (w := w) ⟨ys.toArray⟩
  rw [byteC_flat]
  exact this
theorem conv_bytes {w : World} (A : Option Addr) (cap : Nat) (g off : Nat) (xs : List UInt8) (hs : Und P src (.slice e)) (he : Und P e (.int .u8)) (hd : Und P dst .string) (hA : xs ≠ [] → A = some ⟨g, off, none⟩) (hc : ∀ j u, (u8s xs)[j]? = some u → w.cell? ⟨g, off + j, none⟩ = some u) :
    (convert src dst (.slice A xs.length cap)).run P w = .ok (strV xs) w := by
  have key : (loadCells ⟨g, off, none⟩ xs.length).run P w = .ok (u8s xs).toArray w := by
    have := run_loadCells_list (P := P) (w := w) ⟨g, off, none⟩ (u8s xs) (fun j v hj => by rw [add_lit]; exact hc j v hj)
    rwa [u8s_length] at this
  by_cases hx : xs = []
  · subst hx
    show (convert src dst (.slice A 0 cap)).run P w = _
    rw [run_convert_bytes_string w src dst e A 0 cap hs.eq he.eq hd.eq]
    cases A with
    | none => simp [Conv.bytesToString]; rfl
    | some a => simp [Conv.bytesToString, loadCells, loadCellsFrom]; rfl
  · rw [hA hx, run_convert_bytes_string w src dst e _ _ cap hs.eq he.eq hd.eq, run_bytesToString w _ xs.length cap (xs.map fun b => (b.toNat : Int)) (by rw [key]; simp [u8s, u8, Function.comp_def]), foldl_push_byteCells]
    have he : (⟨ByteArray.empty.data ++ xs.toArray⟩ : ByteArray) = ⟨xs.toArray⟩ := by apply ByteArray.ext; simp
    rw [he]
theorem RowsAt.bytes {w : World} {v : Value} {l : List UInt8} (h : RowsAt w 1 byteC v l) : ∃ A c g off, v = .slice A l.length c ∧ (l ≠ [] → A = some ⟨g, off, none⟩) ∧ ∀ j u, (u8s l)[j]? = some u → w.cell? ⟨g, off + j, none⟩ = some u := by
  obtain ⟨A, c, hv, _⟩ := h.form
  by_cases hl : l = []
  · exact ⟨A, c, 0, 0, hv, fun h => absurd hl h, by subst hl; simp [u8s]⟩
  · obtain ⟨g, off, cap, hv2, _⟩ := h.cell 0 (List.length_pos_iff.2 hl)
    refine ⟨A, c, g, off, hv, fun _ => by rw [hv] at hv2; injection hv2, fun j u hu => ?_⟩
    have hj : j < l.length := by have := (List.getElem?_eq_some_iff.1 hu).1; rwa [u8s_length] at this
    obtain ⟨g', off', cap', hv3, hc⟩ := h.cell j hj
    rw [hv2] at hv3
    injection hv3 with e1
    injection e1 with e1
    injection e1 with e1 e2
    subst e1; subst e2
    have := hc 0 u (by omega) (by simp [byteC]; simpa [u8s, hj] using hu)
    simpa using this
/-- 'string(b)' of bytes that can be read. -/
theorem Q_convS (hx : E.ev x = some v) (hl : Rdr w0 H v UInt8 1 f l) (hfb : f = byteC) (hs : Und P src (.slice e)) (he : Und P e (.int .u8)) (hd : Und P dst .string) : OpQ P n w0 ⟨d, .convert src dst x, ty, pos, after, gu⟩ E H (strV l) := fun a w s hs' => by
  subst hfb
  obtain ⟨A, c, g, off, rfl, hA, hc⟩ := (hl.at_ w hs').bytes
  have hr : (convert src dst (.slice A l.length c)).run P w = .ok (strV l) w := conv_bytes A c g off l hs he hd hA hc
  simp only [execOp, s.ev hx, Sem.run_bind, hr, Result.andThen_ok, Sem.run_pure]
/-- 'string(b)', of bytes that a call owns: as an operation that has its place. -/
theorem H_convS {e' : TypeId} (hx : E.ev x = some v) (hl : RowsOf H v UInt8 e' 1 f l F) (hfb : f = byteC) (hs : Und P src (.slice e)) (he : Und P e (.int .u8)) (hd : Und P dst .string) : OpH P n w0 ⟨d, .convert src dst x, ty, pos, after, gu⟩ E H (fun _ : Unit => strV l) (fun _ => rows e' 1 f v l * F) := by
  refine OpH.mk' (pre := rows e' 1 f v l) (post := fun _ => rows e' 1 f v l) (fun G a w K Q s hs' hK => ?_) hl.eq
  subst hfb
  have h := Q_convS (P := P) (n := n) (w0 := w0) (E := E) (H := rows e' 1 byteC v l * G) (d := d) (ty := ty) (pos := pos) (after := after) (gu := gu) (src := src) (dst := dst) hx inferInstance rfl hs he hd a w s hs'
  unfold Oper.wp
  rw [h]
  exact hK () w hs'
/-- '[]byte(s)': new bytes. -/
theorem H_convB (hx : E.ev x = some (strV l)) (hs : Und P src .string) (hd : Und P dst (.slice e)) (he : Und P e (.int .u8)) (hn : l.length ≤ 1000000) : OpH P n w0 ⟨d, .convert src dst x, ty, pos, after, gu⟩ E H (fun v' : Value => v') (fun v' => rows e 1 byteC v' l * H) := by
  refine OpH.mk' (pre := emp) (post := fun v' => rows e 1 byteC v' l) ?_ emp_star.symm
  intro G a w K Q s hs' hK
  rw [emp_star] at hs'
  have hr := run_bytes_of_string (P := P) w src dst e ⟨l.toArray⟩ hs.eq hd.eq he.eq
  have hsz : (⟨l.toArray⟩ : ByteArray).size = l.length := rfl
  have hge := grownCap_ge w (⟨l.toArray⟩ : ByteArray).size 0 e
  have hle := grownCap_le_maxLen w (⟨l.toArray⟩ : ByteArray).size 0 e (by rw [hsz]; simp only [maxLen]; omega)
  rw [hsz] at hr hge hle
  simp only [Oper.wp, execOp, s.ev hx, Sem.run_bind, hr, Result.andThen_ok, Sem.run_pure, Oper.upon_value]
  refine hK _ _ ?_
  have h1 := (hs'.drew.alloc (.cells (bytesRow ⟨l.toArray⟩ (grownCap w l.length 0 e)) e ((bytesRow ⟨l.toArray⟩ (grownCap w l.length 0 e)).size, (bytesRow ⟨l.toArray⟩ (grownCap w l.length 0 e)).size + 1)))
  have hbsz : (bytesRow ⟨l.toArray⟩ (grownCap w l.length 0 e)).size = grownCap w l.length 0 e := by simp [bytesRow]; omega
  refine Sat.slc_mk e 1 l.length w.heap.size 0 _ (bytesRow ⟨l.toArray⟩ (grownCap w l.length 0 e)) _ _ h1 ?_ hge hle ?_ ?_ ?_
  · rw [byteC_flat, u8s_length]; simp
  · rw [hbsz]; simp
  · rw [byteC_flat]
    simp [bytesRow, u8s, u8, List.take_append_of_le_length]
  · intro i h1 h2
    rw [hbsz]
    simp; omega
theorem Q_addS {a b : List UInt8} (hx : E.ev x = some (strV a)) (hy : E.ev y = some (strV b)) (hn : a.length + b.length ≤ 9223372036854775807) : OpQ P n w0 ⟨d, .binOp .add t x y t2, ty, pos, after, gu⟩ E H (strV (a ++ b)) := fun ac w s hs => by
  have hsz : ((⟨a.toArray⟩ : ByteArray).size + (⟨b.toArray⟩ : ByteArray).size : Nat) = a.length + b.length := rfl
  have hap : (⟨a.toArray⟩ : ByteArray) ++ ⟨b.toArray⟩ = ⟨(a ++ b).toArray⟩ := by apply ByteArray.ext; simp
  have hg : ¬ (((⟨a.toArray⟩ : ByteArray).size + (⟨b.toArray⟩ : ByteArray).size : Nat) : Int) > IntKind.i64.max := by rw [hsz]; simp [IntKind.max, IntKind.signed, IntKind.bits]; omega
  simp only [execOp, s.ev hx, s.ev hy, eqGuard, binOp, Op.stringOp]
  rw [if_neg hg, hap]
  rfl
/-- A byte stored. -/
theorem H_store8 {t : TypeId} {k : Nat} {b : UInt8} (hx : E.ev x = some (eptr v 1 k 0)) (hy : E.ev y = some u) (hb : AsU8 u b) (hl : RowsOf H v UInt8 e 1 f l F) (hfb : f = byteC) (ht : Scal P t) (hk : k < l.length) :
    OpH P n w0 ⟨none, .store t x y, ty, pos, after, gu⟩ E H (fun _ : Unit => undef) (fun _ => rows e 1 f v (l.set k b) * F) := by
  subst hfb
  obtain rfl := hb.eq
  exact H_storeR (z := l[k]) b hx hy hl ht inferInstance rfl (by simp) rfl
/-- A whole number as a byte. -/
def b8 (m : Int) : UInt8 := UInt8.ofNat (m % 256).toNat
theorem Q_conv8 {m : Int} {k : IntKind} {ds : TypeDesc} (hx : E.ev x = some (.int k m)) (hs : Und P src ds) (hd : Und P dst (.int .u8)) : OpQ P n w0 ⟨d, .convert src dst x, ty, pos, after, gu⟩ E H (u8 (b8 m)) :=
  Q_convI hx hs hd (by
    rw [wrap_u8]
    have h0 := Int.emod_nonneg m (show (256 : Int) ≠ 0 by omega)
    have h1 := Int.emod_lt_of_pos m (show (0 : Int) < 256 by omega)
    simp only [b8, UInt8.toNat_ofNat']
    omega)
theorem Q_convI8 {b : UInt8} (hx : E.ev x = some (u8 b)) {ds : TypeDesc} (hs : Und P src ds) (hd : Und P dst (.int .i64)) : OpQ P n w0 ⟨d, .convert src dst x, ty, pos, after, gu⟩ E H (.int .i64 (b.toNat : Int)) :=
  Q_convI hx hs hd (by have := b.toNat_lt; exact IntWalk.i64_in _ (by omega))
theorem Q_conv328 {b : UInt8} (hx : E.ev x = some (u8 b)) {ds : TypeDesc} (hs : Und P src ds) (hd : Und P dst (.int .u32)) : OpQ P n w0 ⟨d, .convert src dst x, ty, pos, after, gu⟩ E H (u32 b.toUInt32) :=
  Q_convI hx hs hd (by have := b.toNat_lt; rw [wrap_u32]; simp; omega)
/-- An element of an array of scalars, by value. -/
theorem Q_indexA {t et : TypeId} {len : Nat} {cs : List Value} {q : IntKind} {i : Int} {k : Nat} {val : Value} (hx : E.ev x = some (.agg cs.toArray)) (hy : E.ev y = some (.int q i)) (hi : AsNat i k) (ht : Und P t (.array len et)) (hs : Scal P et) (hk : k < len) (hv : cs[k]? = some val) : OpQ P n w0 ⟨d, .index t x y, ty, pos, after, gu⟩ E H val := fun a w s hs' => by
  obtain rfl := hi.eq
  have hd := hs.ok
  obtain ⟨dd, hdd⟩ : ∃ dd, P.underlying et = some dd := by
    cases hu : P.underlying et with
    | none => rw [hu] at hd; cases hd
    | some dd => exact ⟨dd, rfl⟩
  rw [hdd] at hd
  have hagg : (isAgg et).run P w = .ok false w := by
    simp only [isAgg, Sem.run_bind, run_underlying hdd, Result.andThen_ok]
    cases dd <;> simp_all [scalarD]
  obtain ⟨ie, hie, his⟩ := Option.map_eq_some_iff.1 hs.size
  have hk2 : (k : Int) < (len : Int) := by omega
  simp [execOp, s.ev hx, s.ev hy, Instr.index, asIntOf, run_underlying ht.eq, hk2, hk, Nat.not_le.2 hk, part, hagg, sizeOf, typeInfo, hie, his, hv]
end bytes
instance eqlS {t : TypeId} {a b : List UInt8} : BinV P .eql t (strV a) (strV b) (.bool (decide (a = b))) := ⟨fun w => by
  have : decide (a = b) = ((⟨a.toArray⟩ : ByteArray).toList == (⟨b.toArray⟩ : ByteArray).toList) := by rw [ByteArray.toList_mk, ByteArray.toList_mk, Bool.eq_iff_iff]; simp
  rw [this]; rfl, fun w _ _ => rfl⟩
instance neqS {t : TypeId} {a b : List UInt8} : BinV P .neq t (strV a) (strV b) (.bool (!decide (a = b))) := ⟨fun w => by
  have : decide (a = b) = ((⟨a.toArray⟩ : ByteArray).toList == (⟨b.toArray⟩ : ByteArray).toList) := by rw [ByteArray.toList_mk, ByteArray.toList_mk, Bool.eq_iff_iff]; simp
  rw [this]; rfl, fun w _ _ => rfl⟩
end Go.Proofs.YtapoehkdnglahaaGreat

