/- A part of what Arrives needs. -/
import Derived.Below
import Derived.WalkKit
import Derived.WalkSmall
import Derived.Deep.Draws
import Derived.Lib.Hide
import Derived.Deep.QuietTactic
import Derived.BigQuiet
import Derived.WalkLawsBesides
import Derived.WalkSpells
import Derived.Laws.AppendOwn
import Derived.Laws.Tables
import Derived.Laws.CopyRow
import Derived.OwnWalk
import GoSem.Core.Value
import Derived.Test.YtapoehkdnglahabGreatRows
import Derived.ProofKit
import Derived.OpenShut
import Derived.Deep.Slices
import Derived.Deep.Fields
import Derived.OrdersHeld
import Derived.Defers
import Derived.TacticsIn
import Derived.OrdersIn
import Derived.IntWalk
import Derived.Great.BuildSlice
import Derived.Laws.BytesString
import Derived.Laws.IdiomStrings
import Derived.Laws.Strings
import Derived.MapKept
import Derived.Laws.MakeOwn
import Derived.Test.YtapoehkdnglahabGreatProg
import Derived.KernelRfl
import Derived.Laws.Pointers
import Derived.Shelf.SlSortCmp.WholeK
import Derived.RangeFuncRecord
import Derived.RangeFuncSeq
import Derived.Maps.RangeRun
import Derived.Laws.BitsAllLaws
import Derived.Laws.Entries
import Derived.RecoverIn
import Derived.Laws.Build
import Derived.WideLaws
import Derived.Shelf.SlSortCmp.NoneTotal
import Derived.Conc.MuLone
import Derived.Laws.Cover3
set_option linter.unusedVariables false
set_option linter.unusedSimpArgs false
set_option linter.unusedSectionVars false
namespace Go.Proofs.YtapoehkdnglahabGreat
theorem cS : (∀ (p : Prop) [Decidable p], (decide p = true) = p) ∧ (∀ (p : Prop) [Decidable p], (decide p = false) = ¬p) ∧ (∀ a b : Bool, ((!a) = b) = (a = !b)) ∧ ((!true) = false) ∧ ((!false) = true) ∧ (∀ a b : Bool, ((a && b) = true) = (a = true ∧ b = true)) ∧ (∀ a b : Bool, ((a || b) = true) = (a = true ∨ b = true)) ∧ (∀ (α : Type) [BEq α] [LawfulBEq α] (a b : α), ((a != b) = true) = (a ≠ b)) ∧ (∀ (α : Type) [BEq α] [LawfulBEq α] (a b : α), ((a == b) = true) = (a = b)) ∧ (∀ (α : Type) (a b : α), (a ≠ b) = ¬(a = b)) ∧ (∀ p : Prop, (¬¬p) = p) := ⟨fun p _ => by simp, fun p _ => by simp, fun a b => by cases a <;> cases b <;> simp, rfl, rfl, fun a b => by cases a <;> cases b <;> simp, fun a b => by cases a <;> cases b <;> simp, fun α _ _ a b => by simp, fun α _ _ a b => by simp, fun α a b => rfl, fun p => by simp⟩
theorem finE {p : Prop} (h : p := by ((try simp only [star_assoc, emp_star, star_emp]); (repeat' (first | exact Ent.last | refine Ent.take ?_ | refine Ent.nilT ?_ | refine Ent.takeR (by first | rfl | assumption | (simp; done)) ?_ | exact Ent.refl _)))) : p := h
theorem stZ {p q : Prop} (hq : q) (h : q → p := by (first | (with_reducible (first | exact thenS_n | exact thenS_e | exact blockS_n | exact blockS_e | exact blockS_o rfl | exact thenS_r | exact blockS_r | exact use_K (by assumption))) | exact WS_region | exact LS_nil | (show _ → LS _ _ _ _ _ (⟨_, _, _, _, _, some _⟩ :: _) _; first | exact LS_wantT rfl rfl iI rfl | exact LS_wantF rfl rfl iI rfl | exact LS_wantU rfl rfl rfl) | exact DL_nilA | exact DL_nilS | exact DL_nilN | exact DL_nilE | exact DL_nilR | exact DL_skip rfl rfl rfl rfl | exact DL_claimS rfl | exact DL_claim rfl rfl | exact WS_block | exact WS_skip | exact WS_ret | exact WS_exit | exact WS_label | (show _ → WS _ _ _ (.cond _ _ _) _ _; first | exact WS_condT rfl iI | exact WS_condF rfl iI | exact WS_condH_t rfl (by assumption) | exact WS_condH_f rfl (by assumption)))) : p := h hq
theorem s2Z {p q r : Prop} (hq : q) (hr : r) (h : q → r → p := by (first | (show _ → _ → LS _ _ _ _ _ (⟨_, _, _, _, _, some _⟩ :: _) _; first | exact LS_wantS rfl rfl rfl | exact LS_wantN rfl) | (show _ → _ → WS _ _ _ (.cond _ _ _) _ _; exact WS_cond rfl))) : p := h hq hr
theorem sqZ {p q : Prop} (hq : q) (h : q → p := by ((first | refine' LQ ?zh rfl | refine' DL_qp rfl rfl rfl ?zh | refine' DL_q rfl rfl ?zh | refine' DL_qpg rfl rfl rfl rfl ?zh | refine' DL_qg rfl rfl rfl ?zh); case zh => intro F'; first | exact Q_move rfl | exact Q_assign rfl | exact Q_nilCheck rfl | exact Q_fieldAddr rfl iI rfl | exact Q_load rfl iI iI rfl | exact Q_addI rfl rfl (by omega) | exact Q_subI rfl rfl (by omega) | exact Q_extract rfl rfl | exact Q_pick_t rfl iI rfl | exact Q_pick_f rfl iI rfl | exact Q_un rfl iI | exact Q_loadA rfl iI iI rfl | exact Q_build iI iI rfl rfl | exact Q_len rfl iI | exact Q_lenS rfl iI | exact Q_index rfl rfl iI iI iI iI (by first | assumption | omega | (simp [be_length] <;> omega)) | exact Q_fieldR rfl iI iI rfl (by first | assumption | omega | (simp [be_length] <;> omega)) | exact Q_loadR rfl iI iI iI (by assumption) rfl | exact Q_loadRA rfl iI iI iI (by assumption) | exact Q_lenR rfl iI iI | exact Q_lenM rfl iI iI | exact Q_minI rfl rfl | exact Q_max32 rfl rfl iI iI | exact Q_makeFunc rfl rfl | exact Q_mulI rfl rfl (by omega))) : p := h hq
theorem sbZ {p q : Prop} (hq : q) (h : q → p := by ((first | refine' LQ ?zh rfl | refine' DL_qp rfl rfl rfl ?zh | refine' DL_q rfl rfl ?zh | refine' DL_qpg rfl rfl rfl rfl ?zh | refine' DL_qg rfl rfl rfl ?zh); case zh => intro F'; first | exact Q_bin_t rfl rfl iI (by first | assumption | omega | decide) | exact Q_bin_f rfl rfl iI (by first | assumption | omega | decide) | exact Q_bin_nt rfl rfl iI (by first | assumption | omega | decide) | exact Q_bin_nf rfl rfl iI (by first | assumption | omega | decide))) : p := h hq
theorem shZ {α : Type} {p : Prop} {q : α → Prop} (hq : ∀ g, q g) (h : (∀ g, q g) → p := by ((first | refine' LS_h ?zh rfl | refine' DL_h ?zh rfl rfl rfl); (case zh => first | exact H_alloc iI | exact H_box rfl | exact H_boxO rfl iI))) : p := h hq
theorem s0Z {α : Type} {p : Prop} {q : α → Prop} (hq : ∀ g, q g) (h : (∀ g, q g) → p := by ((first | refine' LS_h0 ?zh | refine' DL_h0 ?zh rfl rfl); (case zh => first | exact H_storeO rfl rfl iI iI iI rfl | exact H_storeAO rfl rfl iI iI iI rfl))) : p := h hq
section
open Go.RowKit

@[go_sem] theorem World.alloc_drewN (w : World) (n : Nat) (o : Obj) : (w.drewN n).alloc o = (w.alloc o).drewN n := rfl
@[go_sem] theorem World.setCell_drewN (w : World) (n : Nat) (a : Addr) (v : Value) : (w.drewN n).setCell a v = (w.setCell a v).drewN n := rfl
abbrev Part := Nat → Option Obj
def Part.disj (a b : Part) : Prop := ∀ k, a k = none ∨ b k = none
def Part.join (a b : Part) : Part := fun k => match a k with | some o => some o | none => b k
structure HProp where
  on : Part → Prop
theorem HProp.ext' {p q : HProp} (h : ∀ x, p.on x ↔ q.on x) : p = q := by
 cases p; cases q; congr 1; funext x; exact propext (h x)
def star (p q : HProp) : HProp := ⟨fun h => ∃ a b, Part.disj a b ∧ h = a.join b ∧ p.on a ∧ q.on b⟩
instance : Mul HProp := ⟨star⟩
def emp : HProp := ⟨fun h => ∀ k, h k = none⟩
def pts (b : Nat) (o : Obj) : HProp := ⟨fun h => h = fun k => if k = b then some o else none⟩
def pure' (φ : Prop) : HProp := ⟨fun h => φ ∧ ∀ k, h k = none⟩
def hex {α : Type} (P : α → HProp) : HProp := ⟨fun h => ∃ x, (P x).on h⟩
def old (w0 : World) : HProp := ⟨fun h => h = fun k => w0.heap[k]?⟩

theorem Part.join_comm {a b : Part} (h : Part.disj a b) : a.join b = b.join a := by
 funext k
 rcases h k with h | h <;> simp only [Part.join, h]
 ·cases b k <;> rfl
 ·cases a k <;> rfl
theorem Part.disj.symm {a b : Part} (h : Part.disj a b) : Part.disj b a := fun k => (h k).symm
theorem Part.join_assoc (a b c : Part) : (a.join b).join c = a.join (b.join c) := by
 funext k
 simp only [Part.join]
 cases a k <;> rfl
theorem Part.disj_join {a b c : Part} : Part.disj (a.join b) c ↔ Part.disj a c ∧ Part.disj b c := by
 constructor
 ·intro h
  constructor <;> intro k <;> have := h k <;> simp only [Part.join] at this <;> cases ha : a k <;> simp_all
 ·rintro ⟨h1, h2⟩ k
  have h1 := h1 k; have h2 := h2 k
  simp only [Part.join]
  cases ha : a k <;> simp_all
theorem Part.disj_join' {a b c : Part} : Part.disj a (b.join c) ↔ Part.disj a b ∧ Part.disj a c := by
 constructor
 ·intro h
  have := Part.disj_join.1 h.symm
  exact ⟨this.1.symm, this.2.symm⟩
 ·rintro ⟨h1, h2⟩
  exact (Part.disj_join.2 ⟨h1.symm, h2.symm⟩).symm

theorem star_comm (p q : HProp) : p * q = q * p := HProp.ext' fun h => by
 constructor
 all_goals
  rintro ⟨a, b, hd, rfl, hp, hq⟩
  exact ⟨b, a, hd.symm, Part.join_comm hd, hq, hp⟩
theorem star_assoc (p q r : HProp) : p * q * r = p * (q * r) := HProp.ext' fun h => by
 constructor
 ·rintro ⟨x, c, hd, rfl, ⟨a, b, hd2, rfl, hp, hq⟩, hr⟩
  obtain ⟨h1, h2⟩ := Part.disj_join.1 hd
  exact ⟨a, b.join c, Part.disj_join'.2 ⟨hd2, h1⟩, Part.join_assoc a b c, hp, b, c, h2, rfl, hq, hr⟩
 ·rintro ⟨a, x, hd, rfl, hp, b, c, hd2, rfl, hq, hr⟩
  obtain ⟨h1, h2⟩ := Part.disj_join'.1 hd
  exact ⟨a.join b, c, Part.disj_join.2 ⟨h2, hd2⟩, (Part.join_assoc a b c).symm, ⟨a, b, h1, rfl, hp, hq⟩, hr⟩
instance : Std.Commutative (α := HProp) (· * ·) := ⟨star_comm⟩
instance : Std.Associative (α := HProp) (· * ·) := ⟨star_assoc⟩
theorem star_left_comm (p q r : HProp) : p * (q * r) = q * (p * r) := by ac_rfl

structure Sat (w0 w : World) (p : HProp) : Prop where
  os : w.os = w0.os
  tape : w.tape = w0.tape
  output : w.output = w0.output
  heap : ∃ h : Part, p.on h ∧ ∀ k o, h k = some o → w.heap[k]? = some o

variable {w0 w w' : World} {p q r F : HProp}

theorem Sat.mono (h : Sat w0 w p) (hpq : ∀ x, p.on x → q.on x) : Sat w0 w q :=
 ⟨h.os, h.tape, h.output, let ⟨x, hx, hk⟩ := h.heap; ⟨x, hpq x hx, hk⟩⟩
theorem Sat.cast (h : Sat w0 w p) (e : p = q) : Sat w0 w q := e ▸ h
theorem Sat.drop (h : Sat w0 w (p * q)) : Sat w0 w q := by
 obtain ⟨x, ⟨a, b, hd, rfl, hp, hq⟩, hk⟩ := h.heap
 refine ⟨h.os, h.tape, h.output, b, hq, fun k o ho => hk k o ?_⟩
 rcases hd k with e | e
 ·simp only [Part.join, e, ho]
 ·rw [e] at ho; cases ho
theorem Sat.keep (h : Sat w0 w (p * q)) : Sat w0 w p := by
 rw [star_comm] at h; exact h.drop
theorem Sat.p2 {a b : HProp} (h : Sat w0 w (a * (b * F))) : Sat w0 w (b * (a * F)) := h.cast (star_left_comm a b F)
theorem Sat.drew (h : Sat w0 w p) : Sat w0 w.drew p := ⟨h.os, h.tape, h.output, h.heap⟩
theorem Sat.ex {α : Type} {P : α → HProp} (h : Sat w0 w (hex P * F)) : ∃ x, Sat w0 w (P x * F) := by
 obtain ⟨x, ⟨a, b, hd, rfl, ⟨y, hp⟩, hq⟩, hk⟩ := h.heap
 exact ⟨y, h.os, h.tape, h.output, _, ⟨a, b, hd, rfl, hp, hq⟩, hk⟩
theorem Sat.ex_mk {α : Type} {P : α → HProp} (x : α) (h : Sat w0 w (P x * F)) : Sat w0 w (hex P * F) :=
 h.mono fun _ ⟨a, b, hd, e, hp, hq⟩ => ⟨a, b, hd, e, ⟨x, hp⟩, hq⟩
theorem Part.join_none {a b : Part} (h : ∀ k, a k = none) : a.join b = b := by funext k; simp only [Part.join, h k]
theorem pure_star {φ : Prop} {h : Part} : (pure' φ * F).on h ↔ φ ∧ F.on h := by
 constructor
 ·rintro ⟨a, b, _, rfl, ⟨hf, hn⟩, hb⟩
  rw [Part.join_none hn]; exact ⟨hf, hb⟩
 ·rintro ⟨hf, hb⟩
  exact ⟨fun _ => none, h, fun _ => .inl rfl, (Part.join_none fun _ => rfl).symm, ⟨hf, fun _ => rfl⟩, hb⟩
theorem emp_star : emp * F = F := HProp.ext' fun h => by
 constructor
 ·rintro ⟨a, b, _, rfl, hn, hb⟩
  rw [Part.join_none hn]; exact hb
 ·intro hb
  exact ⟨fun _ => none, h, fun _ => .inl rfl, (Part.join_none fun _ => rfl).symm, fun _ => rfl, hb⟩
theorem Sat.pure {φ : Prop} (h : Sat w0 w (pure' φ * F)) : φ ∧ Sat w0 w F := by
 obtain ⟨x, hx, hk⟩ := h.heap
 obtain ⟨h1, h2⟩ := pure_star.1 hx
 exact ⟨h1, h.os, h.tape, h.output, x, h2, hk⟩
theorem Sat.pure_mk {φ : Prop} (hf : φ) (h : Sat w0 w F) : Sat w0 w (pure' φ * F) := h.mono fun _ hx => pure_star.2 ⟨hf, hx⟩

theorem Sat.at_ {b : Nat} {o : Obj} (h : Sat w0 w (pts b o * F)) : w.heap[b]? = some o := by
 obtain ⟨x, ⟨a, c, hd, rfl, hp, hq⟩, hk⟩ := h.heap
 have hp' : a = _ := hp
 exact hk b o (by simp [Part.join, hp'])
theorem Sat.lt {b : Nat} {o : Obj} (h : Sat w0 w (pts b o * F)) : b < w.heap.size := by
 have := h.at_
 rcases Nat.lt_or_ge b w.heap.size with hlt | hge
 ·exact hlt
 ·rw [Array.getElem?_eq_none hge] at this; cases this
theorem Sat.other {b : Nat} {o : Obj} (h : Sat w0 w (pts b o * F)) : ∃ x : Part, F.on x ∧ x b = none ∧ ∀ k u, x k = some u → w.heap[k]? = some u := by
 obtain ⟨x, ⟨a, c, hd, rfl, hp, hq⟩, hk⟩ := h.heap
 have hp' : a = _ := hp
 refine ⟨c, hq, ?_, fun k u hu => hk k u ?_⟩
 ·rcases hd b with e | e
  ·simp [hp'] at e
  ·exact e
 ·rcases hd k with e | e
  ·simp only [Part.join, e, hu]
  ·rw [e] at hu; cases hu
theorem Sat.put {b : Nat} {o o' : Obj} (h : Sat w0 w (pts b o * F)) (hs : w'.os = w.os) (ht : w'.tape = w.tape) (ho : w'.output = w.output)
  (hb : w'.heap[b]? = some o') (hk : ∀ k, k < w.heap.size → k ≠ b → w'.heap[k]? = w.heap[k]?) : Sat w0 w' (pts b o' * F) := by
 obtain ⟨x, hx, hxb, hxk⟩ := h.other
 refine ⟨hs.trans h.os, ht.trans h.tape, ho.trans h.output, _, ⟨fun k => if k = b then some o' else none, x, fun k => ?_, rfl, rfl, hx⟩, fun k u hu => ?_⟩
 ·by_cases e : k = b
  ·subst e; exact .inr hxb
  ·simp [e]
 ·simp only [Part.join] at hu
  by_cases e : k = b
  ·subst e; simp at hu; subst hu; exact hb
  ·simp only [e, if_false] at hu
   have := hxk k u hu
   have hlt : k < w.heap.size := by
    rcases Nat.lt_or_ge k w.heap.size with hlt | hge
    ·exact hlt
    ·rw [Array.getElem?_eq_none hge] at this; cases this
   exact (hk k hlt e).trans this
theorem Sat.alloc (h : Sat w0 w F) (o : Obj) : Sat w0 (w.alloc o) (pts w.heap.size o * F) := by
 obtain ⟨x, hx, hk⟩ := h.heap
 have hlt : ∀ k u, x k = some u → k < w.heap.size := fun k u hu => by
  have := hk k u hu
  rcases Nat.lt_or_ge k w.heap.size with hlt | hge
  ·exact hlt
  ·rw [Array.getElem?_eq_none hge] at this; cases this
 refine ⟨h.os, h.tape, h.output, _, ⟨fun k => if k = w.heap.size then some o else none, x, fun k => ?_, rfl, rfl, hx⟩, fun k u hu => ?_⟩
 ·by_cases e : k = w.heap.size
  ·subst e
   refine .inr ?_
   cases hx0 : x w.heap.size with
   | none => rfl
   | some u => exact absurd (hlt _ _ hx0) (Nat.lt_irrefl _)
  ·simp [e]
 ·simp only [Part.join] at hu
  by_cases e : k = w.heap.size
  ·subst e; simp at hu; subst hu; exact heap_alloc_new w o
  ·simp only [e, if_false] at hu
   rw [Below.heap_alloc w o k (hlt k u hu)]; exact hk k u hu
def blk (b : Nat) (t : TypeId) (cs : Array Value) : HProp := pts b (.cells cs t (0, 0))
theorem Sat.new (h : Sat w0 w F) (t : TypeId) (cs : Array Value) : Sat w0 (w.alloc (.cells cs t)) (blk w.heap.size t cs * F) := h.alloc _
theorem Sat.cell {b : Nat} {t : TypeId} {cs : Array Value} (h : Sat w0 w (blk b t cs * F)) (i : Nat) : w.cell? ⟨b, i, none⟩ = cs[i]? := by
 have := Sat.at_ h
 simp [World.cell?, this]
theorem Sat.frozen {b : Nat} {t : TypeId} {cs : Array Value} (h : Sat w0 w (blk b t cs * F)) (i : Nat) : w.frozen? ⟨b, i, none⟩ = false := by
 have := Sat.at_ h
 simp [World.frozen?, this]
theorem Sat.set {b : Nat} {t : TypeId} {cs : Array Value} (h : Sat w0 w (blk b t cs * F)) (i : Nat) (v : Value) : Sat w0 (w.setCell ⟨b, i, none⟩ v) (blk b t (cs.setIfInBounds i v) * F) := by
 refine Sat.put (o := .cells cs t (0, 0)) h rfl rfl rfl ?_ fun k hk hne => Below.heap_setCell w ⟨b, i, none⟩ v k hne
 have := Sat.at_ h
 simp [World.setCell, Array.getElem?_modify, this]
theorem Sat.start (w : World) : Sat w w (old w) := ⟨rfl, rfl, rfl, fun k => w.heap[k]?, rfl, fun _ _ h => h⟩
theorem Sat.ends (h : Sat w0 w (old w0 * F)) : Below w0.heap.size w0 w := by
 obtain ⟨x, hx, hk⟩ := h.keep.heap
 have hx' : x = _ := hx
 subst hx'
 have hall : ∀ k, k < w0.heap.size → w.heap[k]? = w0.heap[k]? := fun k hlt => by
  have h1 : w0.heap[k]? = some w0.heap[k] := Array.getElem?_eq_getElem hlt
  exact (hk k _ h1).trans h1.symm
 refine ⟨h.os, h.tape, h.output, ?_, hall⟩
 rcases Nat.lt_or_ge w.heap.size w0.heap.size with hgt | hle
 ·have h1 := hall w.heap.size hgt
  rw [Array.getElem?_eq_none (Nat.le_refl _), Array.getElem?_eq_getElem hgt] at h1
  cases h1
 ·exact hle
theorem Sat.old_cell (h : Sat w0 w (old w0 * F)) {a : Addr} {v : Value} (hc : w0.cell? a = some v) : w.cell? a = some v := by
 have hb := h.ends
 have hlt : a.block < w0.heap.size := by
  rcases Nat.lt_or_ge a.block w0.heap.size with hlt | hge
  ·exact hlt
  ·simp [World.cell?, Array.getElem?_eq_none hge] at hc
 rw [hb.cell hlt]; exact hc
end

section
open Go.RowKit
variable {w0 w w' : World} {F : HProp} {P : Program}

def unfrozen (fr : Nat × Nat) (lo hi : Nat) : Prop := ∀ i, lo ≤ i → i < hi → (decide (fr.1 ≤ i) && decide (i < fr.2)) = false
def slc (e : TypeId) (size : Nat) (v : Value) (n : Nat) (xs : List Value) : HProp :=
 ⟨fun h => xs.length = n * size ∧ ((∃ A, v = .slice A 0 0 ∧ n = 0 ∧ ∀ k, h k = none) ∨
  ∃ g off cap cur fr, v = .slice (some ⟨g, off, none⟩) n cap ∧ n ≤ cap ∧ cap ≤ maxLen ∧ off + cap * size ≤ cur.size ∧ (cur.toList.drop off).take (n * size) = xs ∧
   unfrozen fr off (off + cap * size) ∧ h = fun k => if k = g then some (.cells cur e fr) else none)⟩

theorem Sat.slc_nil (h : Sat w0 w F) (e : TypeId) (size : Nat) (A : Option Addr) : Sat w0 w (slc e size (.slice A 0 0) 0 [] * F) := by
 rw [← emp_star (F := F)] at h
 exact h.mono fun x ⟨a, b, hd, he, hp, hq⟩ => ⟨a, b, hd, he, ⟨by simp, .inl ⟨A, rfl, rfl, hp⟩⟩, hq⟩

theorem Sat.slc_mk (e : TypeId) (size n g off cap : Nat) (cur : Array Value) (fr : Nat × Nat) (xs : List Value) (h : Sat w0 w (pts g (.cells cur e fr) * F))
  (hl : xs.length = n * size) (hn : n ≤ cap) (hm : cap ≤ maxLen) (hc : off + cap * size ≤ cur.size) (ht : (cur.toList.drop off).take (n * size) = xs) (hf : unfrozen fr off (off + cap * size)) :
  Sat w0 w (slc e size (.slice (some ⟨g, off, none⟩) n cap) n xs * F) :=
 h.mono fun _ ⟨a, b, hd, he, hp, hq⟩ => ⟨a, b, hd, he, ⟨hl, .inr ⟨g, off, cap, cur, fr, rfl, hn, hm, hc, ht, hf, hp⟩⟩, hq⟩

theorem Sat.slc_cases {e : TypeId} {size : Nat} {v : Value} {n : Nat} {xs : List Value} (h : Sat w0 w (slc e size v n xs * F)) :
  xs.length = n * size ∧ ((∃ A, v = .slice A 0 0 ∧ n = 0 ∧ Sat w0 w F) ∨
   ∃ g off cap cur fr, v = .slice (some ⟨g, off, none⟩) n cap ∧ n ≤ cap ∧ cap ≤ maxLen ∧ off + cap * size ≤ cur.size ∧ (cur.toList.drop off).take (n * size) = xs ∧
    unfrozen fr off (off + cap * size) ∧ Sat w0 w (pts g (.cells cur e fr) * F)) := by
 obtain ⟨x, ⟨a, b, hd, he, ⟨hl, hp⟩, hq⟩, hk⟩ := h.heap
 refine ⟨hl, ?_⟩
 rcases hp with ⟨A, rfl, rfl, hn⟩ | ⟨g, off, cap, cur, fr, rfl, hn, hm, hc, ht, hf, hp⟩
 ·exact .inl ⟨A, rfl, rfl, h.drop⟩
 ·exact .inr ⟨g, off, cap, cur, fr, rfl, hn, hm, hc, ht, hf, h.os, h.tape, h.output, x, ⟨a, b, hd, he, hp, hq⟩, hk⟩

theorem Sat.slc_form {e : TypeId} {size : Nat} {v : Value} {n : Nat} {xs : List Value} (h : Sat w0 w (slc e size v n xs * F)) : ∃ A c, v = .slice A n c := by
 obtain ⟨_, ⟨A, rfl, rfl, _⟩ | ⟨g, off, cap, _, _, rfl, _⟩⟩ := h.slc_cases
 ·exact ⟨_, _, rfl⟩
 ·exact ⟨_, _, rfl⟩
theorem add_lit (g off j : Nat) : (⟨g, off, none⟩ : Addr).add j = ⟨g, off + j, none⟩ := by unfold Addr.add; split <;> simp_all

theorem slc_at {cur : Array Value} {off k j : Nat} {xs : List Value} {u : Value} (ht : (cur.toList.drop off).take k = xs) (hu : xs[j]? = some u) : cur[off + j]? = some u := by
 rw [← ht, List.getElem?_take] at hu
 split at hu
 ·rw [List.getElem?_drop] at hu; simpa using hu
 ·cases hu

theorem Sat.slc_cell {e : TypeId} {size : Nat} {v : Value} {n : Nat} {xs : List Value} (h : Sat w0 w (slc e size v n xs * F)) (hn : xs ≠ []) :
  ∃ g off cap, v = .slice (some ⟨g, off, none⟩) n cap ∧ n ≤ cap ∧ cap ≤ maxLen ∧ (∀ j u, xs[j]? = some u → w.cell? ⟨g, off + j, none⟩ = some u ∧ w.frozen? ⟨g, off + j, none⟩ = false) := by
 obtain ⟨hl, ⟨A, rfl, rfl, _⟩ | ⟨g, off, cap, cur, fr, rfl, hn, hm, hc, ht, hf, hs⟩⟩ := h.slc_cases
 ·exact absurd (List.eq_nil_of_length_eq_zero (by simpa using hl)) hn
 ·refine ⟨g, off, cap, rfl, hn, hm, fun j u hu => ?_⟩
  have hg := hs.at_
  have hj : j < n * size := by rw [← hl]; exact (List.getElem?_eq_some_iff.1 hu).1
  have hle : n * size ≤ cap * size := Nat.mul_le_mul_right _ hn
  exact ⟨by simp [World.cell?, hg, slc_at ht hu], by have := hf (off + j) (by omega) (by omega); simpa [World.frozen?, hg] using this⟩

structure Src (P : Program) (w : World) (size m : Nat) (x : Value) (news : List Value) : Prop where
  len : Builtin.lenOf x = pure m
  length : news.length = m * size
  cells : ∀ w' : World, w'.heap = w.heap → (Builtin.firstCells size m x).run P w' = .ok news.toArray w'

theorem Src.slice (size m c : Nat) (a : Addr) (news : List Value) (hl : news.length = m * size) (h : ∀ j u, news[j]? = some u → w.cell? (a.add j) = some u) :
  Src P w size m (.slice (some a) m c) news :=
 ⟨rfl, hl, fun w' hw => run_firstCells_some w' size m a m c news hl fun j u hu => (World.cell?_of_block (by rw [hw])).trans (h j u hu)⟩
theorem Src.nil (size c : Nat) : Src P w size 0 (.slice none 0 c) [] := ⟨rfl, by simp, fun w' _ => run_firstCells_none w' size 0 0 c⟩
theorem Src.string (s : ByteArray) : Src P w 1 s.size (.string s) (s.data.toList.map fun b => .int .u8 b.toNat) :=
 ⟨rfl, by simp, fun w' _ => by
  have hx : (s.extract 0 s.size) = s := by simp
  simp only [Builtin.firstCells, hx, Sem.run_pure]
  congr 1
  apply Array.ext'
  simp⟩
theorem Src.nothing (size c : Nat) (A : Option Addr) : Src P w size 0 (.slice A 0 c) [] := by
 cases A with
 | none => exact Src.nil size c
 | some a => exact Src.slice size 0 c a [] (by simp) (by simp)
theorem Src.own {e : TypeId} {size : Nat} {v : Value} {n : Nat} {xs : List Value} (h : Sat w0 w (slc e size v n xs * F)) : Src P w size n v xs := by
 obtain ⟨hl, ⟨A, rfl, rfl, _⟩ | ⟨g, off, cap, cur, fr, rfl, hn, hm, hc, ht, hf, hs⟩⟩ := h.slc_cases
 ·obtain rfl : xs = [] := List.eq_nil_of_length_eq_zero (by simpa using hl)
  exact Src.nothing size 0 A
 ·refine Src.slice size n cap _ xs hl fun j u hu => ?_
  rw [add_lit]
  have hg := hs.at_
  simp [World.cell?, hg, slc_at ht hu]

theorem run_storeCells_fr (g o : Nat) (t : TypeId) (fr : Nat × Nat) : ∀ (vs : List Value) (i : Nat) (cur : Array Value) (w : World), w.heap[g]? = some (.cells cur t fr) → o + i + vs.length ≤ cur.size → (∀ v ∈ vs, v.oneCell' = true) →
  unfrozen fr (o + i) (o + i + vs.length) →
  (storeCells ⟨g, o, none⟩ vs i).run P w = .ok () (w.setRow g (cur.toList.take (o + i) ++ vs ++ cur.toList.drop (o + i + vs.length)).toArray)
 | [], i, cur, w, hg, _, _, _ => by
  simp only [storeCells, List.append_nil, List.length_nil, Nat.add_zero, List.take_append_drop, Array.toArray_toList]
  rw [setRow_self w g cur t fr hg]
  rfl
 | v :: rest, i, cur, w, hg, hl, h1, hf => by
  have hi : o + i < cur.size := by simp at hl; omega
  have hadd : (⟨g, o, none⟩ : Addr).add i = ⟨g, o + i, none⟩ := add_lit g o i
  have hcell : w.cell? ⟨g, o + i, none⟩ = some cur[o + i] := by simp [World.cell?, hg, hi]
  have hfro : w.frozen? ⟨g, o + i, none⟩ = false := by
   have := hf (o + i) (by omega) (by simp)
   simpa [World.frozen?, hg] using this
  have hst : (store ((⟨g, o, none⟩ : Addr).add i) v).run P w = .ok () (w.setRow g (cur.setIfInBounds (o + i) v)) := by
   rw [hadd, run_store P w _ v _ (h1 v (by simp)), hcell]
   simp [hfro, setCell_eq_setRow w g (o + i) cur t fr v hg]
  have ih := run_storeCells_fr g o t fr rest (i + 1) (cur.setIfInBounds (o + i) v) (w.setRow g (cur.setIfInBounds (o + i) v)) (setRow_heap w g cur _ t _ hg) (by simp at hl ⊢; omega) (fun x hx => h1 x (by simp [hx]))
   (fun k hk1 hk2 => hf k (by omega) (by simp; omega))
  simp only [storeCells, Sem.run_bind, hst, Result.andThen]
  rw [ih]
  congr 1
  rw [setRow_setRow]
  congr 1
  apply Array.ext'
  apply List.ext_getElem?
  intro j
  simp only [Array.toList_setIfInBounds, List.length_cons]
  rw [List.getElem?_append, List.getElem?_append, List.getElem?_append, List.getElem?_append]
  simp only [List.length_append, List.length_take, List.length_set, Array.length_toList, List.getElem?_take, List.getElem?_drop, List.length_cons, List.getElem?_set]
  have e1 : min (o + (i + 1)) cur.size = o + i + 1 := by omega
  have e2 : min (o + i) cur.size = o + i := by omega
  rw [e1, e2]
  by_cases c1 : j < o + i
  ·simp [c1, show j < o + i + 1 by omega, show j < o + i + 1 + rest.length by omega, show j < o + i + (rest.length + 1) by omega, show ¬ (o + i = j) by omega, show j < o + (i + 1) by omega]
  ·by_cases c2 : j = o + i
   ·subst c2
    simp [show o + i < o + (i + 1) by omega, show o + i < o + i + 1 + rest.length by omega, hi]
   ·by_cases c3 : j < o + i + 1 + rest.length
    ·have : j - (o + i) = (j - (o + i + 1)) + 1 := by omega
     simp [show ¬ j < o + i + 1 by omega, c1, show j < o + i + (rest.length + 1) by omega, c3, this]
    ·simp [show ¬ j < o + i + (rest.length + 1) by omega, c3, show ¬ (o + i = o + (i + 1) + rest.length + (j - (o + i + 1 + rest.length))) by omega]
     congr 1
     omega

section append
variable (P) (t t2 ty e : TypeId) (i : TypeInfo) (z : Value) (size bytes : Nat)

theorem take_drop_mid {xs ys : List Value} {cur : List Value} {off k m : Nat} (ht : (cur.drop off).take k = xs) (hk : off + k + ys.length ≤ cur.length) (hx : xs.length = k) (hm : m = k + ys.length) :
  ((cur.take (off + k) ++ ys ++ cur.drop (off + k + ys.length)).drop off).take m = xs ++ ys := by
 subst hm
 have h1 : (cur.take (off + k)).drop off = xs := by rw [List.drop_take, ← ht]; congr 1; omega
 rw [List.append_assoc, List.drop_append_of_le_length (by simp; omega), h1, ← List.append_assoc, List.take_append_of_le_length (by simp; omega)]
 exact List.take_of_length_le (by simp; omega)

theorem run_append_sl (ht : P.underlying t = some (.slice e)) (h2 : P.underlying t2 = some (.slice e) ∨ P.underlying t2 = some .string) (hi : P.info? e = some i) (hz : i.zero = some z)
  (hsize : i.size = size) (hby : i.bytes = bytes) (hzs : z.cells.size = size) (hsz : 0 < size)
  (v : Value) (n : Nat) (xs : List Value) (h : Sat w0 w (slc e size v n xs * F)) (m : Nat) (x : Value) (news : List Value) (src : Src P w size m x news) (h1 : ∀ u ∈ news, u.oneCell' = true)
  (h63 : n + m ≤ maxLen) (hbytes : (n + m) * bytes ≤ 140737488355328) :
  ∃ v' w', (Builtin.append_ #[t, t2] ty #[v, x]).run P w = .ok v' w' ∧ Sat w0 w' (slc e size v' (n + m) (xs ++ news) * F) := by
 subst hsize
 subst hby
 obtain ⟨hl, hc⟩ := h.slc_cases
 have hlen : (xs ++ news).length = (n + m) * i.size := by rw [List.length_append, hl, src.length, Nat.add_mul]
 have hx0 := src.len
 have grow : ∀ (old : Nat) (A : Option Addr), old < n + m → v = .slice A n old → (∀ w' : World, w'.heap = w.heap → (Builtin.firstCells i.size n v).run P w' = .ok xs.toArray w') → Sat w0 w F →
   ∃ v' w', (Builtin.append_ #[t, t2] ty #[v, x]).run P w = .ok v' w' ∧ Sat w0 w' (slc e i.size v' (n + m) (xs ++ news) * F) := by
  intro old A ho hv hold hF
  subst hv
  have hge := grownCap_ge w (n + m) old e
  have hcm : grownCap w (n + m) old e ≤ maxLen := grownCap_le_maxLen w (n + m) old e h63
  have hn : ¬ (n + m ≤ old) := by omega
  have h63' : ¬ (9223372036854775807 < ((n : Int) + (m : Int))) := by simp only [maxLen] at h63; omega
  have hfit := growslice_fits ho hbytes
  have h48' : ¬ (281474976710656 < Builtin.nextslicecap (n + m) old * i.bytes) := by omega
  have hf := src.cells w.drew rfl
  have hfo := hold w.drew rfl
  have hcell : (w.drew.alloc (.cells (xs.toArray ++ news.toArray ++ Builtin.zeroCells z.cells (grownCap w (n + m) old e - (n + m))) e)) = w.drew.alloc (.cells (xs.toArray ++ news.toArray ++ Builtin.zeroCells z.cells (grownCap w (n + m) old e - (n + m))) e) := rfl
  refine ⟨.slice (some ⟨w.heap.size, 0, none⟩) (n + m) (grownCap w (n + m) old e), w.drew.alloc (.cells (xs.toArray ++ news.toArray ++ Builtin.zeroCells z.cells (grownCap w (n + m) old e - (n + m))) e), ?_, ?_⟩
  ·unfold Builtin.append_
   rcases h2 with hu | hu <;> simp [run_underlying ht, run_underlying hu, sizeOf, typeInfo, zeroValue, hi, hz, hx0, hn, h63', h48', Question.forced, hf, hfo, newRow, grownCap] <;> (congr 2; apply Array.ext'; simp [List.append_assoc])
  ·refine Sat.slc_mk e i.size (n + m) w.heap.size 0 _ _ (0, 0) _ (hF.drew.alloc _) hlen hge hcm ?_ ?_ ?_
   ·simp only [Array.size_append, List.size_toArray, size_zeroCells, hzs, hl, src.length, Nat.zero_add]
    rw [← Nat.add_mul, ← Nat.add_mul]
    exact Nat.mul_le_mul_right _ (by omega)
   ·simp only [Array.toList_append, List.append_assoc, List.drop_zero]
    rw [← List.append_assoc, ← hlen]
    exact List.take_left
   ·intro k _ _
    simp
 rcases hc with ⟨A, rfl, rfl, hF⟩ | ⟨g, off, cap, cur, fr, rfl, hnc, hm, hcs, htake, hfr, hs⟩
 ·have hx : xs = [] := List.eq_nil_of_length_eq_zero (by simpa using hl)
  subst hx
  by_cases hm : m = 0
  ·subst hm
   have hn : news = [] := List.eq_nil_of_length_eq_zero (by simpa using src.length)
   subst hn
   refine ⟨.slice A 0 0, w, ?_, by simpa using hF.slc_nil e i.size A⟩
   have hf := src.cells w rfl
   unfold Builtin.append_
   rcases h2 with hu | hu <;> cases A <;> simp [run_underlying ht, run_underlying hu, sizeOf, typeInfo, hi, hx0, hf, storeCells]
  ·exact grow 0 A (by omega) rfl (fun w' hw' => by cases A <;> simp [Builtin.firstCells, loadCells, loadCellsFrom]) hF
 ·by_cases hroom : n + m ≤ cap
  ·have hle : (n + m) * i.size ≤ cap * i.size := Nat.mul_le_mul_right _ hroom
   have hfit : off + n * i.size + news.length ≤ cur.size := by rw [src.length]; rw [Nat.add_mul] at hle; omega
   have hst := run_storeCells_fr (P := P) g (off + n * i.size) e fr news 0 cur w hs.at_ (by omega) h1 (fun k hk1 hk2 => hfr k (by omega) (by rw [src.length] at hk2; rw [Nat.add_mul] at hle; omega))
   simp only [Nat.add_zero] at hst
   refine ⟨.slice (some ⟨g, off, none⟩) (n + m) cap, w.setRow g (cur.toList.take (off + n * i.size) ++ news ++ cur.toList.drop (off + n * i.size + news.length)).toArray, ?_, ?_⟩
   ·have hf := src.cells w rfl
    unfold Builtin.append_
    rcases h2 with hu | hu <;> simp [run_underlying ht, run_underlying hu, sizeOf, typeInfo, hi, hx0, hroom, hf, add_lit, hst]
   ·refine Sat.slc_mk e i.size (n + m) g off cap (cur.toList.take (off + n * i.size) ++ news ++ cur.toList.drop (off + n * i.size + news.length)).toArray fr _ ?_ hlen hroom hm ?_ ?_ hfr
    ·exact Sat.put hs rfl rfl rfl (setRow_heap w g cur _ e fr hs.at_) fun k _ hk => setRow_other w g k _ hk
    ·simp only [List.size_toArray, List.length_append, List.length_take, List.length_drop, Array.length_toList]
     omega
    ·exact take_drop_mid htake (by simpa using hfit) hl (by rw [src.length, Nat.add_mul])
  ·exact grow cap (some ⟨g, off, none⟩) (by omega) rfl (fun w' hw' => (Src.own (P := P) h).cells w' hw') hs.drop

end append

structure SlT (P : Program) (t e : TypeId) (size bytes : Nat) : Prop where
  ht : P.underlying t = some (.slice e)
  info : ∃ i z, P.info? e = some i ∧ i.zero = some z ∧ i.size = size ∧ i.bytes = bytes ∧ z.cells.size = size
  pos : 0 < size
theorem SlT.of {t e size bytes : Nat} {z : Value} (ht : P.underlying t = some (.slice e)) (h : (P.info? e).map (fun i => (i.zero, i.size, i.bytes)) = some (some z, size, bytes)) (hz : z.cells.size = size) (hp : 0 < size) : SlT P t e size bytes := by
 obtain ⟨i, hi, h1, h2, h3⟩ := info_parts h
 exact ⟨ht, ⟨i, z, hi, h1, h2, h3, hz⟩, hp⟩

section
variable {t e size bytes : Nat} {ops : Array Oper} {rest : List Oper} {o : Oper} {a : Act} {K : Act → World → Prop} {Q : Exit → Act → World → Prop} {v xv : Value} {n m : Nat} {xs news : List Value}

theorem wp_append_sl (T : SlT P t e size bytes) {t2 : TypeId} (h2 : P.underlying t2 = some (.slice e) ∨ P.underlying t2 = some .string) (s x : Operand)
  (ho : o.op = .call { callee := .builtin .append, args := #[s, x], argTypes := #[t, t2] })
  (hS : Sat w0 w (slc e size v n xs * F)) (hs : a.eval s = v) (hx : a.eval x = xv) (src : Src P w size m xv news) (h1 : ∀ u ∈ news, u.oneCell' = true)
  (h63 : n + m ≤ maxLen) (hbytes : (n + m) * bytes ≤ 140737488355328)
  (h : ∀ v' w', Sat w0 w' (slc e size v' (n + m) (xs ++ news) * F) → K (a.put o.dst v') w') : o.wp P a w K Q := by
 obtain ⟨i, z, hi, hz, hsize, hby, hzs⟩ := T.info
 obtain ⟨v', w', hr, hS'⟩ := run_append_sl P t t2 o.type e i z size bytes T.ht h2 hi hz hsize hby hzs T.pos v n xs hS m xv news src h1 h63 hbytes
 unfold Oper.wp execOp
 simp only [ho, resolve, invoke, builtin, Sem.run_bind, Sem.run_pure, Result.andThen_ok, List.map_toArray, List.map_cons, List.map_nil, hs, hx, hr]
 exact h v' w' hS'
end
end

section
def u8 (b : UInt8) : Value := .int .u8 (b.toNat : Int)
def u8s (l : List UInt8) : List Value := l.map u8
def u32 (k : UInt32) : Value := .int .u32 (k.toNat : Int)
def u64 (k : UInt64) : Value := .int .u64 (k.toNat : Int)
theorem u8s_length (a : List UInt8) : (u8s a).length = a.length := by simp [u8s]
def be (k : UInt32) : List UInt8 := [UInt8.ofNat (k.toNat / 16777216), UInt8.ofNat (k.toNat / 65536 % 256), UInt8.ofNat (k.toNat / 256 % 256), UInt8.ofNat (k.toNat % 256)]
theorem be_length (k : UInt32) : (be k).length = 4 := rfl
def num (a b c d : UInt8) : UInt32 := UInt32.ofNat (a.toNat * 16777216 + b.toNat * 65536 + c.toNat * 256 + d.toNat)
theorem num_toNat (a b c d : UInt8) : (num a b c d).toNat = a.toNat * 16777216 + b.toNat * 65536 + c.toNat * 256 + d.toNat := by
 have h1 := a.toNat_lt; have h2 := b.toNat_lt; have h3 := c.toNat_lt; have h4 := d.toNat_lt
 simp only [num, UInt32.toNat_ofNat']
 omega
theorem num_be (k : UInt32) : num (UInt8.ofNat (k.toNat / 16777216)) (UInt8.ofNat (k.toNat / 65536 % 256)) (UInt8.ofNat (k.toNat / 256 % 256)) (UInt8.ofNat (k.toNat % 256)) = k := by
 have hk := k.toNat_lt
 apply UInt32.toNat_inj.1
 rw [num_toNat]
 simp only [UInt8.toNat_ofNat']
 omega
theorem be_num (a b c d : UInt8) : be (num a b c d) = [a, b, c, d] := by
 have h1 := a.toNat_lt; have h2 := b.toNat_lt; have h3 := c.toNat_lt; have h4 := d.toNat_lt
 simp only [be, num_toNat]
 congr 1
 ·apply UInt8.toNat_inj.1; simp only [UInt8.toNat_ofNat']; omega
 congr 1
 ·apply UInt8.toNat_inj.1; simp only [UInt8.toNat_ofNat']; omega
 congr 1
 ·apply UInt8.toNat_inj.1; simp only [UInt8.toNat_ofNat']; omega
 congr 1
 ·apply UInt8.toNat_inj.1; simp only [UInt8.toNat_ofNat']; omega
def fall (c : UInt32) : UInt32 := if c.toNat % 2 = 1 then UInt32.ofNat (c.toNat / 2) ^^^ 3988292384 else UInt32.ofNat (c.toNat / 2)
def falls : Nat → UInt32 → UInt32
 | 0, c => c
 | n + 1, c => fall (falls n c)
def sumOn (c : UInt32) (l : List UInt8) : UInt32 := l.foldl (fun c b => falls 8 (c ^^^ UInt32.ofNat b.toNat)) c
def sumOf (l : List UInt8) : UInt32 := 4294967295 ^^^ sumOn 4294967295 l
theorem half_toNat (c : UInt32) : (UInt32.ofNat (c.toNat / 2)).toNat = c.toNat / 2 := by
 have := c.toNat_lt
 rw [UInt32.toNat_ofNat']; omega
theorem byte_toNat (b : UInt8) : (UInt32.ofNat b.toNat).toNat = b.toNat := by
 have := b.toNat_lt
 rw [UInt32.toNat_ofNat']; omega
theorem sumOn_snoc (c : UInt32) (l : List UInt8) (b : UInt8) : sumOn c (l ++ [b]) = falls 8 (sumOn c l ^^^ UInt32.ofNat b.toNat) := by simp [sumOn]
structure Rec where
  own : Bool
  addr : UInt32
  seq : UInt32
def Rec.cells (r : Rec) : List Value := [.bool r.own, u32 r.addr, u32 r.seq]
def Rec.head (r : Rec) : List UInt8 := (if r.own then 1 else 2) :: (be (if r.own then 0 else r.addr) ++ be r.seq)
def Rec.bytes (r : Rec) : List UInt8 := r.head ++ be (sumOf r.head)
theorem Rec.bytes_length (r : Rec) : r.bytes.length = 13 := rfl
def recs (l : List Rec) : List Value := l.flatMap Rec.cells
def byteAt (y : List UInt8) (i : Nat) : UInt8 := y[i]?.getD 0
def numAt (y : List UInt8) (i : Nat) : UInt32 := num (byteAt y i) (byteAt y (i + 1)) (byteAt y (i + 2)) (byteAt y (i + 3))
def recOf (l : List UInt8) : Rec := ⟨((byteAt l 0).toNat : Int) == 1, numAt l 1, numAt l 5⟩
def readN : Nat → List UInt8 → List Rec
 | 0, _ => []
 | n + 1, l => if 13 ≤ l.length ∧ (recOf l).bytes = l.take 13 then recOf l :: readN n (l.drop 13) else []
def readJ (l : List UInt8) : List Rec := readN (l.length / 13) l
theorem readN_short (n : Nat) (l : List UInt8) (h : l.length < 13) : readN n l = [] := by
 cases n with
 | zero => rfl
 | succ n => rw [readN, if_neg (by omega)]
theorem readN_not (n : Nat) (l : List UInt8) (h : ¬ (recOf l).bytes = l.take 13) : readN n l = [] := by
 cases n with
 | zero => rfl
 | succ n => rw [readN, if_neg (fun hh => h hh.2)]
theorem readN_yes (n : Nat) (l : List UInt8) (h0 : 13 ≤ l.length) (hn : 0 < n) (h : (recOf l).bytes = l.take 13) : readN n l = recOf l :: readN (n - 1) (l.drop 13) := by
 cases n with
 | zero => omega
 | succ n => rw [readN, if_pos ⟨h0, h⟩]; rfl
theorem readJ_step (xs : List UInt8) (js : List Rec) (k : Nat) (y : List UInt8) (hj : readJ xs = js ++ readN (xs.length / 13 - k) (xs.drop (13 * k))) (hy : y = xs.drop (13 * k)) (hlt : 13 ≤ xs.length - 13 * k) (hx : (recOf y).bytes = y.take 13) :
  readJ xs = (js ++ [recOf y]) ++ readN (xs.length / 13 - (k + 1)) (xs.drop (13 * (k + 1))) := by
 have hyl : y.length = xs.length - 13 * k := by rw [hy]; simp
 rw [hj, ← hy, readN_yes (xs.length / 13 - k) y (by omega) (by omega) hx, List.append_assoc]
 have e : y.drop 13 = xs.drop (13 * (k + 1)) := by rw [hy, List.drop_drop]; congr 1
 rw [e]; rfl
theorem readN_length (n : Nat) (l : List UInt8) : (readN n l).length ≤ n := by
 induction n generalizing l with
 | zero => simp [readN]
 | succ n ih =>
  rw [readN]
  split
  ·have := ih (l.drop 13); simp; omega
  ·simp
theorem readJ_length (l : List UInt8) : 13 * (readJ l).length ≤ l.length := by
 have := readN_length (l.length / 13) l
 simp only [readJ]; omega
end

section
open Go.ChangeShapes Go.WideShapes Go.ChangeAt Go.RowKit Go.Deep
section
variable {H : Type} {enc : TypeId × Value → H} {P : Program} {w : World} {base : Nat} {spare : Nat → Bool} {held : Bool}

theorem wf_i64 {n : Int} (h : (Lit.int .i64 n).wf = true) : -9223372036854775808 ≤ n ∧ n ≤ 9223372036854775807 := by
 simpa [Lit.wf, IntKind.min, IntKind.max, IntKind.signed, IntKind.bits] using h
end
theorem laid : laidOutB Tryz.prog = true := by kernel_rfl
end

section
open Go.RowKit

abbrev Env := List (Nat × Value)
def Env.get : Env → Nat → Option Value
 | [], _ => none
 | (k, v) :: r, t => bif Nat.beq k t then some v else Env.get r t
def Env.ev (E : Env) : Operand → Option Value
 | .tmp t => E.get t
 | .const v => some v
 | .global g => some (.pointer (some ⟨g, 0, none⟩))
 | .func f => some (.func (.func f) #[] #[])
def Env.evs (E : Env) : List Operand → Option (List Value)
 | [] => some []
 | x :: r => match E.ev x, Env.evs E r with
  | some v, some vs => some (v :: vs)
  | _, _ => none
def Env.sub : Env → Env → Prop
 | [], _ => True
 | (k, v) :: r, E => E.get k = some v ∧ Env.sub r E
structure Frm where
  tmps : Nat
  round : Option Nat
def fen (ro : Option Nat) : Fence := { Fence.wide with round := ro }
structure Sees (n : Frm) (E : Env) (a : Act) : Prop where
  size : a.tmps.size = n.tmps
  get : ∀ t v, E.get t = some v → a.tmps.getD t undef = v
theorem Env.get_cons (k : Nat) (v : Value) (r : Env) (t : Nat) : Env.get ((k, v) :: r) t = if k = t then some v else Env.get r t := by
 show (bif Nat.beq k t then some v else Env.get r t) = _
 by_cases h : k = t
 ·subst h; simp
 ·have : Nat.beq k t = false := by
   cases hb : Nat.beq k t with
   | false => rfl
   | true => exact absurd (Nat.eq_of_beq_eq_true hb) h
  simp [this, h]
theorem Env.sub_get : ∀ {E E' : Env}, E.sub E' → ∀ t v, E.get t = some v → E'.get t = some v
 | [], _, _, t, v, h => by simp [Env.get] at h
 | (k, u) :: r, E', hs, t, v, h => by
  rw [Env.get_cons] at h
  split at h
  ·rename_i e; subst e; cases h; exact hs.1
  ·exact Env.sub_get hs.2 t v h
abbrev iI.{u} := @inferInstance.{u}
variable {P : Program} {n : Frm} {w0 : World} {E E' : Env} {D : List Deferred} {H F R : HProp}
theorem Sees.sub {a : Act} (h : Sees n E a) (hs : E'.sub E) : Sees n E' a := ⟨h.size, fun t v ht => h.get t v (Env.sub_get hs t v ht)⟩
theorem Sees.ev {a : Act} (h : Sees n E a) {x : Operand} {v : Value} (e : E.ev x = some v) : a.eval x = v := by
 cases x with
 | tmp t => exact h.get t v e
 | const u => cases e; rfl
 | global g => cases e; rfl
 | func f => cases e; rfl
theorem Sees.evs {a : Act} (h : Sees n E a) : ∀ {xs : List Operand} {vs : List Value}, E.evs xs = some vs → xs.map a.eval = vs
 | [], vs, e => by cases e; rfl
 | x :: r, vs, e => by
  simp only [Env.evs] at e
  split at e
  ·rename_i v us e1 e2
   cases e
   simp [h.ev e1, Sees.evs h e2]
  ·cases e
theorem Sees.put {a : Act} (h : Sees n E a) {d : Nat} (v : Value) (hd : Nat.blt d n.tmps = true) : Sees n ((d, v) :: E) (a.put (some d) v) := by
 have hd' : d < n.tmps := by simpa using hd
 refine ⟨by simp [Act.put, h.size], fun t u ht => ?_⟩
 rw [Env.get_cons] at ht
 split at ht
 ·rename_i e; subst e; cases ht
  simp [Act.put, h.size, hd']
 ·rename_i e
  have := h.get t u ht
  simpa [Act.put, Array.getElem?_setIfInBounds_ne e] using this
def Env.putO (E : Env) : Option Tmp → Value → Env
 | some d, v => (d, v) :: E
 | none, _ => E
def okDst (n : Frm) : Option Tmp → Bool
 | some d => Nat.blt d n.tmps
 | none => true
theorem Sees.putO {a : Act} (h : Sees n E a) (d : Option Tmp) (v : Value) (hd : okDst n d = true) : Sees n (E.putO d v) (a.put d v) := by
 cases d with
 | none => exact h
 | some d => exact h.put v hd

class Lit (c : Bool) (b : Bool) : Prop where eq : c = b
instance : Lit true true := ⟨rfl⟩
instance : Lit false false := ⟨rfl⟩
instance : Lit true (!false) := ⟨rfl⟩
instance : Lit false (!true) := ⟨rfl⟩
structure St where
  E : Env
  D : List Deferred
  H : HProp
structure Good (n : Frm) (w0 : World) (σ : St) (a : Act) (w : World) : Prop where
  sees : Sees n σ.E a
  defers : a.defers = σ.D
  sat : Sat w0 w σ.H
def Ent (H H' : HProp) : Prop := ∀ h : Part, H.on h → ∃ h' : Part, H'.on h' ∧ ∀ k o, h' k = some o → h k = some o
theorem Ent.sat {w : World} (e : Ent H F) (h : Sat w0 w H) : Sat w0 w F := by
 obtain ⟨x, hx, hk⟩ := h.heap
 obtain ⟨y, hy, hyx⟩ := e x hx
 exact ⟨h.os, h.tape, h.output, y, hy, fun k o ho => hk k o (hyx k o ho)⟩
theorem Ent.refl (H : HProp) : Ent H H := fun h hh => ⟨h, hh, fun _ _ e => e⟩
theorem Ent.of_eq (e : H = F) : Ent H F := e ▸ Ent.refl H
theorem Ent.trans {G : HProp} (a : Ent H F) (b : Ent F G) : Ent H G := fun h hh => by
 obtain ⟨x, hx, h1⟩ := a h hh
 obtain ⟨y, hy, h2⟩ := b x hx
 exact ⟨y, hy, fun k o e => h1 k o (h2 k o e)⟩
theorem Ent.drop (p q : HProp) : Ent (p * q) q := fun h ⟨a, b, hd, he, hp, hq⟩ => ⟨b, hq, fun k o e => by
 subst he
 rcases hd k with e' | e'
 ·simp only [Part.join, e', e]
 ·rw [e'] at e; cases e⟩
theorem Ent.star {a b c d : HProp} (h1 : Ent a b) (h2 : Ent c d) : Ent (a * c) (b * d) := fun h ⟨x, y, hd, he, hp, hq⟩ => by
 obtain ⟨x', hx', e1⟩ := h1 x hp
 obtain ⟨y', hy', e2⟩ := h2 y hq
 have hd' : Part.disj x' y' := fun k => by
  rcases hd k with e | e
  ·left; cases hk : x' k with
   | none => rfl
   | some o => rw [e1 k o hk] at e; cases e
  ·right; cases hk : y' k with
   | none => rfl
   | some o => rw [e2 k o hk] at e; cases e
 refine ⟨x'.join y', ⟨x', y', hd', rfl, hx', hy'⟩, fun k o e => ?_⟩
 subst he
 simp only [Part.join] at e ⊢
 cases hx : x' k with
 | some u => rw [hx] at e; rw [e1 k u hx]; exact e
 | none =>
  rw [hx] at e
  have hy := e2 k o e
  rcases hd k with e' | e'
  ·simp only [e', hy]
  ·rw [e'] at hy; cases hy
theorem Ent.tail {c d : HProp} (p : HProp) (h : Ent c d) : Ent (p * c) (p * d) := Ent.star (Ent.refl p) h

def lift (n : Frm) (w0 : World) (Q : Exit → St → Prop) : Exit → Act → World → Prop := fun e a w => ∃ σ, Q e σ ∧ Good n w0 σ a w
def WS (P : Program) (n : Frm) (w0 : World) (c : Code) (Q : Exit → St → Prop) (σ : St) : Prop := ∀ a w, Good n w0 σ a w → c.wpIn (fen n.round) 0 P (lift n w0 Q) a w
def thenS (K : St → Prop) (Q : Exit → St → Prop) : Exit → St → Prop
 | .normal, σ => K σ
 | e, σ => Q e σ
def blockS (id : Nat) (Q : Exit → St → Prop) : Exit → St → Prop
 | .exit j, σ => bif Nat.beq j id then Q .normal σ else Q (.exit j) σ
 | e, σ => Q e σ
variable {Q : Exit → St → Prop} {σ : St} {c x y : Code}
theorem WS.mono {Q' : Exit → St → Prop} (h : WS P n w0 c Q σ) (hq : ∀ e σ, Q e σ → Q' e σ) : WS P n w0 c Q' σ :=
 fun a w g => wpIn_mono (h a w g) fun e a w ⟨σ, h1, h2⟩ => ⟨σ, hq e σ h1, h2⟩
theorem WS_seq (h : WS P n w0 x (thenS (WS P n w0 y Q) Q) σ) : WS P n w0 (.seq x y) Q σ := fun a w g =>
 wpIn_seq (wpIn_mono (h a w g) fun e a w ⟨σ', h1, h2⟩ => by
  cases e with
  | normal => exact h1 a w h2
  | _ => exact ⟨σ', h1, h2⟩)
theorem WS_seqK (h : ∀ K : St → Prop, (∀ τ, WS P n w0 y Q τ → K τ) → WS P n w0 x (thenS K Q) σ) : WS P n w0 (.seq x y) Q σ := WS_seq (h _ fun _ h => h)
theorem thenS_n {K : St → Prop} (h : K σ) : thenS K Q .normal σ := h
theorem thenS_r {K : St → Prop} (h : Q .ret σ) : thenS K Q .ret σ := h
theorem thenS_e {K : St → Prop} {j : Nat} (h : Q (.exit j) σ) : thenS K Q (.exit j) σ := h
theorem blockS_n {id : Nat} (h : Q .normal σ) : blockS id Q .normal σ := h
theorem blockS_r {id : Nat} (h : Q .ret σ) : blockS id Q .ret σ := h
theorem blockS_e {id : Nat} (h : Q .normal σ) : blockS id Q (.exit id) σ := by
 show (bif Nat.beq id id then Q .normal σ else Q (.exit id) σ)
 rw [Nat.beq_refl]; exact h
theorem blockS_o {id j : Nat} (hj : Nat.beq j id = false) (h : Q (.exit j) σ) : blockS id Q (.exit j) σ := by
 show (bif Nat.beq j id then Q .normal σ else Q (.exit j) σ)
 rw [hj]; exact h
theorem use_K {K : St → Prop} {c : Code} (h : ∀ τ, WS P n w0 c Q τ → K τ) (g : WS P n w0 c Q σ) : K σ := h σ g
theorem WS_skip (h : Q .normal σ) : WS P n w0 .skip Q σ := fun a w g => wpIn_skip ⟨σ, h, g⟩
theorem WS_ret (h : Q .ret σ) : WS P n w0 .ret Q σ := fun a w g => wpIn_ret ⟨σ, h, g⟩
theorem WS_exit {id : Nat} (h : Q (.exit id) σ) : WS P n w0 (.exit id) Q σ := fun a w g => wpIn_exit ⟨σ, h, g⟩
theorem WS_block {id : Nat} (h : WS P n w0 c (blockS id Q) σ) : WS P n w0 (.block id c) Q σ := fun a w g =>
 wpIn_block (wpIn_mono (h a w g) fun e a w ⟨σ', h1, h2⟩ => by
  cases e with
  | exit j =>
   simp only [Exit.inBlock]
   by_cases hj : j = id
   ·subst hj
    rw [if_pos rfl]
    exact ⟨σ', by simpa [blockS] using h1, h2⟩
   ·rw [if_neg hj]
    have : Nat.beq j id = false := by
     cases hb : Nat.beq j id with
     | false => rfl
     | true => exact absurd (Nat.eq_of_beq_eq_true hb) hj
    exact ⟨σ', by simpa [blockS, this] using h1, h2⟩
  | _ => exact ⟨σ', h1, h2⟩)
theorem WS_cond {o : Operand} {b : Bool} (hc : σ.E.ev o = some (.bool b)) (ht : b = true → WS P n w0 x Q σ) (hf : b = false → WS P n w0 y Q σ) : WS P n w0 (.cond o x y) Q σ := fun a w g =>
 wpIn_cond_split (g.sees.ev hc) (fun e => ht e a w g) (fun e => hf e a w g)
theorem WS_condT {o : Operand} {b : Bool} (hc : σ.E.ev o = some (.bool b)) (hl : Lit b true) (h : WS P n w0 x Q σ) : WS P n w0 (.cond o x y) Q σ := WS_cond hc (fun _ => h) (fun e => by cases hl.eq; cases e)
theorem WS_condF {o : Operand} {b : Bool} (hc : σ.E.ev o = some (.bool b)) (hl : Lit b false) (h : WS P n w0 y Q σ) : WS P n w0 (.cond o x y) Q σ := WS_cond hc (fun e => by cases hl.eq; cases e) (fun _ => h)
theorem exists_least {p : Nat → Prop} (h : ∃ m, p m) : ∃ m, p m ∧ ∀ k, p k → m ≤ k := by
 obtain ⟨m, hm⟩ := h
 induction m using Nat.strongRecOn with
 | _ m ih =>
  by_cases hk : ∃ k, k < m ∧ p k
  ·obtain ⟨k, hlt, hp⟩ := hk; exact ih k hlt hp
  ·exact ⟨m, hm, fun k hp => by
    rcases Nat.lt_or_ge k m with hlt | hge
    ·exact absurd ⟨k, hlt, hp⟩ hk
    ·exact hge⟩
theorem WS_loopG (I : Nat → St → Prop) (h0 : ∃ m τ, I m τ ∧ ∀ a w, Good n w0 σ a w → Good n w0 τ a w)
  (round : ∀ m τ, I m τ → WS P n w0 c (thenS (fun σ' => ∃ m' τ', m' < m ∧ I m' τ' ∧ ∀ a w, Good n w0 σ' a w → Good n w0 τ' a w) Q) τ) : WS P n w0 (.loop c) Q σ := by
 intro a w g
 let p : Act → World → Nat → Prop := fun a w m => ∃ τ, I m τ ∧ Good n w0 τ a w
 let μ : Act → World → Nat := fun a w => by
  classical exact if h : ∃ m, p a w m then Classical.choose (exists_least h) else 0
 have hμ : ∀ a w, (∃ m, p a w m) → p a w (μ a w) ∧ ∀ k, p a w k → μ a w ≤ k := fun a w h => by
  have e : μ a w = Classical.choose (exists_least h) := by simp only [μ]; exact dif_pos h
  rw [e]; exact Classical.choose_spec (exists_least h)
 refine wpIn_loop (fun a w => ∃ m, p a w m) μ ?_ ?_
 ·obtain ⟨m, τ, hI, h1⟩ := h0
  exact ⟨m, τ, hI, h1 a w g⟩
 ·intro a w hp
  obtain ⟨⟨τ, hI, gτ⟩, hmin⟩ := hμ a w hp
  refine wpIn_mono (round _ τ hI a w gτ) fun e a' w' ⟨σ', h1, h2⟩ => ?_
  cases e with
  | normal =>
   obtain ⟨m', τ', hlt, hI', e1⟩ := h1
   have hp' : p a' w' m' := ⟨τ', hI', e1 a' w' h2⟩
   exact ⟨⟨m', hp'⟩, Nat.lt_of_le_of_lt ((hμ a' w' ⟨m', hp'⟩).2 m' hp') hlt⟩
  | _ => exact ⟨σ', h1, h2⟩
theorem Good.low {τ σ : St} {a : Act} {w : World} (g : Good n w0 σ a w) (h1 : τ.E.sub σ.E) (h2 : τ.D = σ.D) (h3 : Ent σ.H τ.H) : Good n w0 τ a w := ⟨g.sees.sub h1, g.defers.trans h2.symm, h3.sat g.sat⟩
theorem WS_loop (I : Nat → St → Prop) (h0 : ∃ m τ, I m τ ∧ τ.E.sub σ.E ∧ τ.D = σ.D ∧ Ent σ.H τ.H)
  (round : ∀ m τ, I m τ → WS P n w0 c (thenS (fun σ' => ∃ m' τ', m' < m ∧ I m' τ' ∧ τ'.E.sub σ'.E ∧ τ'.D = σ'.D ∧ Ent σ'.H τ'.H) Q) τ) : WS P n w0 (.loop c) Q σ := by
 refine WS_loopG I ?_ fun m τ hI => ?_
 ·obtain ⟨m, τ, hI, h1, h2, h3⟩ := h0
  exact ⟨m, τ, hI, fun a w g => g.low h1 h2 h3⟩
 ·refine (round m τ hI).mono fun e σ' h => ?_
  cases e with
  | normal =>
   obtain ⟨m', τ', hlt, hI', e1, e2, e3⟩ := h
   exact ⟨m', τ', hlt, hI', fun a w g => g.low e1 e2 e3⟩
  | _ => exact h
def Un (P : Program) (n : Frm) (w0 : World) (c : Code) (Q : Exit → St → Prop) : Nat → St → Prop
 | 0, _ => False
 | m + 1, σ => WS P n w0 c (thenS (Un P n w0 c Q m) Q) σ
theorem Un_succ {m : Nat} (h : WS P n w0 c (thenS (Un P n w0 c Q m) Q) σ) : Un P n w0 c Q (m + 1) σ := h
theorem WS_unroll (m : Nat) (h : Un P n w0 c Q m σ) : WS P n w0 (.loop c) Q σ := by
 refine WS_loopG (Un P n w0 c Q) ⟨m, σ, h, fun _ _ g => g⟩ fun m τ hI => ?_
 cases m with
 | zero => exact hI.elim
 | succ m =>
  refine WS.mono hI fun e σ' h => ?_
  cases e with
  | normal => exact ⟨m, σ', Nat.lt_succ_self m, h, fun _ _ g => g⟩
  | _ => exact h

def OpQ (P : Program) (n : Frm) (w0 : World) (o : Oper) (E : Env) (H : HProp) (v : Value) : Prop :=
 ∀ a w, Sees n E a → Sat w0 w H → (execOp a.eval o).run P w = .ok (.value v) w
def OpT (P : Program) (n : Frm) (w0 : World) (o : Oper) (E : Env) (pre : HProp) {α : Type} (v : α → Value) (post : α → HProp) : Prop :=
 ∀ (G : HProp) a w (K : Act → World → Prop) (Q : Exit → Act → World → Prop), Sees n E a → Sat w0 w (pre * G) → (∀ x w', Sat w0 w' (post x * G) → K (a.put o.dst (v x)) w') → o.wp P a w K Q
def LS (P : Program) (n : Frm) (w0 : World) (ops : Array Oper) (Q : Exit → St → Prop) (l : List Oper) (σ : St) : Prop := ∀ a w, Good n w0 σ a w → wpListIn (fen n.round) 0 P ops (lift n w0 Q) l a w
theorem calls_fen {ro : Option Nat} {m : Nat} {f : FuncId} {args : Array Value} {w : World} {R : Ending → World → Prop} (h : Calls P f args w R) : CallsIn (fen ro) m P f args w R := callsIn_wide.2 h
theorem rows_fen {ro : Option Nat} {m : Nat} {row : String} {args : Array Value} {w : World} {R : Value → World → Prop} (h : Rows P row args w R) : RowsIn (fen ro) m P row args w R := fun c cs _ =>
 let ⟨v, w', r, s⟩ := h c cs; ⟨v, w', r, stepsIn_wide.2 s⟩
theorem wpIn_of_wp {ro : Option Nat} {o : Oper} {a : Act} {w : World} {K : Act → World → Prop} {Q : Exit → Act → World → Prop} (hnd : ro = none ∨ ∀ c, o.op ≠ .defer c) (h : o.wp P a w K Q) : o.wpIn (fen ro) 0 P a w K Q := by
 refine ⟨fun _ _ => trivial, ?_⟩
 have e : o.semAt (fen ro).round a.eval = execOp a.eval o := by
  show o.semAt ro a.eval = _
  rcases hnd with rfl | hnd
  ·rfl
  ·exact Oper.semAt_eq _ _ _ hnd
 rw [e]
 unfold Oper.wp at h
 generalize (execOp a.eval o).run P w = r at *
 have hd : (fen ro).depth.isSome = true → 1 ≤ 0 := fun h => by cases h
 cases r with
 | ok x w' =>
  cases x <;> simp only [Oper.upon] at h <;> simp only [Oper.uponIn] <;> first
   | exact h
   | exact ⟨hd, calls_fen h⟩
   | exact ⟨hd, rows_fen h⟩
 | halt x w' => cases x <;> simp only [Oper.upon] at h <;> simp only [Oper.uponIn] <;> exact h
theorem not_defer {ρ : Operand → Value} {o : Oper} {w w' : World} {v : Value} (h : (execOp ρ o).run P w = .ok (.value v) w') : ∀ c, o.op ≠ .defer c := by
 intro c hc
 simp only [execOp, hc, Sem.run_bind] at h
 cases hr : (resolve ρ c o.type).run P w <;> rw [hr] at h <;> simp at h
theorem wp_not_defer {o : Oper} {a : Act} {w : World} (h : o.wp P a w (fun a' _ => a'.defers = a.defers) (fun _ _ _ => False)) : ∀ c, o.op ≠ .defer c := by
 intro c hc
 unfold Oper.wp at h
 simp only [execOp, hc, Sem.run_bind] at h
 cases hr : (resolve a.eval c o.type).run P w with
 | ok d w' =>
  rw [hr] at h
  simp only [Result.andThen_ok, Sem.run_pure, Oper.upon_defer] at h
  have : (d :: a.defers).length = a.defers.length := by
   have e := congrArg List.length h
   cases hd : o.dst <;> rw [hd] at e <;> exact e
  simp at this
 | halt x w' =>
  rw [hr] at h
  cases x <;> exact h
theorem put_defers (a : Act) (d : Option Tmp) (v : Value) : (a.put d v).defers = a.defers := by cases d <;> rfl
theorem OpQ.toIn {o : Oper} {v : Value} (hop : OpQ P n w0 o E H v) {a : Act} {w : World} (s : Sees n E a) (hs : Sat w0 w H) {K : Act → World → Prop} {Q : Exit → Act → World → Prop} (h : K (a.put o.dst v) w) : o.wpIn (fen n.round) 0 P a w K Q := by
 have e := hop a w s hs
 refine wpIn_of_wp (.inr (not_defer e)) ?_
 unfold Oper.wp
 rw [e]; exact h
theorem OpT.toIn {o : Oper} {α : Type} {pre : HProp} {v : α → Value} {post : α → HProp} (hop : OpT P n w0 o E pre v post) (G : HProp) {a : Act} {w : World} {K : Act → World → Prop} {Q : Exit → Act → World → Prop} (s : Sees n E a) (hs : Sat w0 w (pre * G)) (h : ∀ x w', Sat w0 w' (post x * G) → K (a.put o.dst (v x)) w') : o.wpIn (fen n.round) 0 P a w K Q :=
 wpIn_of_wp (.inr (wp_not_defer (hop G a w _ _ s hs fun x w' _ => put_defers _ _ _))) (hop G a w K Q s hs h)
variable {ops : Array Oper} {l : List Oper} {o : Oper}
theorem WS_region {id : Nat} (h : LS P n w0 l.toArray Q l σ) : WS P n w0 (.region id l.toArray false) Q σ := fun a w g => wpIn_region_lit (h a w g)
theorem LS_nil (h : Q .normal σ) : LS P n w0 ops Q [] σ := fun a w g => ⟨σ, h, g⟩
def guardV (ops : Array Oper) (E : Env) (o : Oper) : Option (Bool × Bool) :=
 match o.guard with
 | none => some (true, true)
 | some (j, want) => match (ops[j]?).bind (·.dst) with
  | some d => match E.get d with
   | some (.bool c) => some (c, want)
   | some (.tuple _) => some (!want, want)
   | _ => none
  | none => none
theorem wanted_of {a : Act} (h : Sees n E a) {c want : Bool} (hg : guardV ops E o = some (c, want)) : Region.wanted o (yielded ops a.tmps) = (c == want) := by
 unfold guardV at hg
 unfold Region.wanted
 cases hgu : o.guard with
 | none => rw [hgu] at hg; cases hg; rfl
 | some jw =>
  obtain ⟨j, want'⟩ := jw
  rw [hgu] at hg
  simp only at hg ⊢
  cases hd : (ops[j]?).bind (·.dst) with
  | none => rw [hd] at hg; cases hg
  | some d =>
   rw [hd] at hg
   simp only at hg
   cases hc : E.get d with
   | none => rw [hc] at hg; cases hg
   | some v =>
    rw [hc] at hg
    cases v with
    | bool c' =>
     cases hg
     have hy : yielded ops a.tmps j = some c := by
      have := h.get d _ hc
      unfold yielded
      rw [hd]
      simp only [Option.bind_some]
      have hlt : d < a.tmps.size := by
       rcases Nat.lt_or_ge d a.tmps.size with hlt | hge
       ·exact hlt
       ·simp [Array.getElem?_eq_none hge, undef] at this
      simp [hlt] at this ⊢
      rw [this]
     rw [hy]; cases c <;> cases want <;> rfl
    | tuple xs =>
     cases hg
     have hy : yielded ops a.tmps j = none := by
      have := h.get d _ hc
      unfold yielded
      rw [hd]
      simp only [Option.bind_some]
      rcases Nat.lt_or_ge d a.tmps.size with hlt | hge
      ·simp [hlt] at this ⊢
       rw [this]
      ·simp [Array.getElem?_eq_none hge]
     rw [hy]; cases want <;> rfl
    | _ => cases hg
theorem LS_qo {v : Value} (hop : OpQ P n w0 o E H v) (hd : okDst n o.dst = true) (hg : o.guard = none) (h : LS P n w0 ops Q l ⟨E.putO o.dst v, D, H⟩) : LS P n w0 ops Q (o :: l) ⟨E, D, H⟩ := fun a w g =>
 wpListIn_plain hg fun K hK => hop.toIn g.sees g.sat (hK _ _ (h _ _ ⟨g.sees.putO _ _ hd, by have := g.defers; cases o.dst <;> exact this, g.sat⟩))
theorem LS_q {d : Nat} {op : Op} {ty : TypeId} {pos : String} {after : Array Edge} {v : Value} (hop : OpQ P n w0 ⟨some d, op, ty, pos, after, none⟩ E H v) (hd : Nat.blt d n.tmps = true) (h : LS P n w0 ops Q l ⟨(d, v) :: E, D, H⟩) : LS P n w0 ops Q (⟨some d, op, ty, pos, after, none⟩ :: l) ⟨E, D, H⟩ := LS_qo hop hd rfl h
theorem LQ {d : Nat} {op : Op} {ty : TypeId} {pos : String} {after : Array Edge} {v : Value} (hop : ∀ _ : Unit, OpQ P n w0 ⟨some d, op, ty, pos, after, none⟩ E H v) (hd : Nat.blt d n.tmps = true) (h : LS P n w0 ops Q l ⟨(d, v) :: E, D, H⟩) : LS P n w0 ops Q (⟨some d, op, ty, pos, after, none⟩ :: l) ⟨E, D, H⟩ := LS_q (hop ()) hd h
theorem LS_t {α : Type} {pre : HProp} {v : α → Value} {post : α → HProp} (hop : OpT P n w0 o E pre v post) (hH : H = pre * F) (hd : okDst n o.dst = true) (hg : o.guard = none)
  (h : ∀ x, LS P n w0 ops Q l ⟨E.putO o.dst (v x), D, post x * F⟩) : LS P n w0 ops Q (o :: l) ⟨E, D, H⟩ := fun a w g =>
 wpListIn_plain hg fun K hK => hop.toIn F g.sees (g.sat.cast hH) fun x w' hs => hK _ _ (h x _ _ ⟨g.sees.putO _ _ hd, by have := g.defers; cases o.dst <;> exact this, hs⟩)
theorem LS_wantO {d : Option Tmp} {op : Op} {ty : TypeId} {pos : String} {after : Array Edge} {gu : Option (Nat × Bool)} {c want : Bool} (hg : guardV ops E ⟨d, op, ty, pos, after, gu⟩ = some (c, want)) (hd : okDst n d = true)
  (h1 : c = want → LS P n w0 ops Q (⟨d, op, ty, pos, after, none⟩ :: l) ⟨E, D, H⟩) (h2 : c = !want → LS P n w0 ops Q l ⟨E.putO d undef, D, H⟩) : LS P n w0 ops Q (⟨d, op, ty, pos, after, gu⟩ :: l) ⟨E, D, H⟩ := fun a w g => by
 have hw := wanted_of g.sees hg
 unfold wpListIn
 by_cases e : c = want
 ·have hw1 : Region.wanted (⟨d, op, ty, pos, after, gu⟩ : Oper) (yielded ops a.tmps) = true := by rw [hw, e]; simp
  rw [if_pos hw1]
  have := h1 e a w g
  unfold wpListIn at this
  rw [if_pos (by rfl)] at this
  exact this
 ·have hw1 : ¬ Region.wanted (⟨d, op, ty, pos, after, gu⟩ : Oper) (yielded ops a.tmps) = true := by rw [hw]; simpa using e
  rw [if_neg hw1]
  exact ⟨fun _ _ => trivial, h2 (by cases c <;> cases want <;> simp_all) _ _ ⟨g.sees.putO _ _ hd, by have := g.defers; cases d <;> exact this, g.sat⟩⟩
theorem LS_want {d j : Nat} {op : Op} {ty : TypeId} {pos : String} {after : Array Edge} {b c want : Bool} (hg : guardV ops E ⟨some d, op, ty, pos, after, some (j, b)⟩ = some (c, want)) (hd : Nat.blt d n.tmps = true)
  (h1 : c = want → LS P n w0 ops Q (⟨some d, op, ty, pos, after, none⟩ :: l) ⟨E, D, H⟩) (h2 : c = !want → LS P n w0 ops Q l ⟨(d, undef) :: E, D, H⟩) : LS P n w0 ops Q (⟨some d, op, ty, pos, after, some (j, b)⟩ :: l) ⟨E, D, H⟩ := LS_wantO hg hd h1 h2
theorem LS_wantT {d j dj : Nat} {op : Op} {ty : TypeId} {pos : String} {after : Array Edge} {c want : Bool} (hj : (ops[j]?).bind (·.dst) = some dj) (hc : E.get dj = some (.bool c)) (hl : Lit c want) (hd : Nat.blt d n.tmps = true) (h : LS P n w0 ops Q (⟨some d, op, ty, pos, after, none⟩ :: l) ⟨E, D, H⟩) :
  LS P n w0 ops Q (⟨some d, op, ty, pos, after, some (j, want)⟩ :: l) ⟨E, D, H⟩ := LS_want (c := want) (want := want) (by simp only [guardV, hj, hc, hl.eq]) hd (fun _ => h) (fun e => by cases want <;> cases e)
theorem LS_wantF {d j dj : Nat} {op : Op} {ty : TypeId} {pos : String} {after : Array Edge} {c want : Bool} (hj : (ops[j]?).bind (·.dst) = some dj) (hc : E.get dj = some (.bool c)) (hl : Lit c (!want)) (hd : Nat.blt d n.tmps = true) (h : LS P n w0 ops Q l ⟨(d, undef) :: E, D, H⟩) :
  LS P n w0 ops Q (⟨some d, op, ty, pos, after, some (j, want)⟩ :: l) ⟨E, D, H⟩ := LS_want (c := !want) (want := want) (by simp only [guardV, hj, hc, hl.eq]) hd (fun e => by cases want <;> cases e) (fun _ => h)
theorem LS_wantU {d j dj : Nat} {op : Op} {ty : TypeId} {pos : String} {after : Array Edge} {want : Bool} {xs : Array Value} (hj : (ops[j]?).bind (·.dst) = some dj) (hc : E.get dj = some (.tuple xs)) (hd : Nat.blt d n.tmps = true) (h : LS P n w0 ops Q l ⟨(d, undef) :: E, D, H⟩) :
  LS P n w0 ops Q (⟨some d, op, ty, pos, after, some (j, want)⟩ :: l) ⟨E, D, H⟩ := LS_want (c := !want) (want := want) (by simp only [guardV, hj, hc]) hd (fun e => by cases want <;> cases e) (fun _ => h)
end

section
open Go.RowKit

def getL : List Value → Nat → Option Value
 | [], _ => none
 | v :: _, 0 => some v
 | _ :: r, i + 1 => getL r i
def setL : List Value → Nat → Value → Option (List Value)
 | [], _, _ => none
 | _ :: r, 0, v => some (v :: r)
 | a :: r, i + 1, v => match setL r i v with
  | some r' => some (a :: r')
  | none => none
def headL : List Value → Nat → Option (List Value)
 | _, 0 => some []
 | [], _ + 1 => none
 | v :: r, k + 1 => match headL r k with
  | some r' => some (v :: r')
  | none => none
def takeL : List Value → Nat → Nat → Option (List Value)
 | cs, 0, k => headL cs k
 | [], _ + 1, _ => none
 | _ :: r, i + 1, k => takeL r i k
def overL : List Value → List Value → Option (List Value)
 | cs, [] => some cs
 | [], _ :: _ => none
 | _ :: r, v :: vs => match overL r vs with
  | some r' => some (v :: r')
  | none => none
def pasteL : List Value → Nat → List Value → Option (List Value)
 | cs, 0, vs => overL cs vs
 | [], _ + 1, _ => none
 | a :: r, i + 1, vs => match pasteL r i vs with
  | some r' => some (a :: r')
  | none => none
theorem getL_eq : ∀ (cs : List Value) (i : Nat), getL cs i = cs[i]?
 | [], i => by simp [getL]
 | v :: r, 0 => rfl
 | v :: r, i + 1 => by simp [getL, getL_eq r i]
theorem headL_eq : ∀ {cs : List Value} {k : Nat} {r : List Value}, headL cs k = some r → k ≤ cs.length ∧ r = cs.take k
 | cs, 0, _, h => by cases cs <;> cases h <;> simp
 | [], _ + 1, _, h => by cases h
 | v :: cs, k + 1, r, h => by
  simp only [headL] at h
  cases hr : headL cs k with
  | none => rw [hr] at h; cases h
  | some r' => rw [hr] at h; cases h; obtain ⟨h1, h2⟩ := headL_eq hr; simp [h2]; exact h1
theorem takeL_eq : ∀ {cs : List Value} {i k : Nat} {r : List Value}, takeL cs i k = some r → i + k ≤ cs.length ∧ r = (cs.drop i).take k
 | cs, 0, k, r, h => by
  have h' : headL cs k = some r := by cases cs <;> exact h
  simpa using headL_eq h'
 | [], _ + 1, _, _, h => by cases h
 | _ :: cs, i + 1, k, r, h => by
  have := takeL_eq (cs := cs) h
  exact ⟨by simp; omega, by simpa using this.2⟩
theorem overL_eq : ∀ {cs vs r : List Value}, overL cs vs = some r → vs.length ≤ cs.length ∧ r = vs ++ cs.drop vs.length
 | cs, [], _, h => by cases cs <;> cases h <;> simp
 | [], _ :: _, _, h => by cases h
 | _ :: cs, v :: vs, r, h => by
  simp only [overL] at h
  cases hr : overL cs vs with
  | none => rw [hr] at h; cases h
  | some r' => rw [hr] at h; cases h; obtain ⟨h1, h2⟩ := overL_eq hr; simp [h2]; exact h1
theorem pasteL_eq : ∀ {cs : List Value} {i : Nat} {vs r : List Value}, pasteL cs i vs = some r → i + vs.length ≤ cs.length ∧ r = cs.take i ++ vs ++ cs.drop (i + vs.length)
 | cs, 0, vs, r, h => by
  have h' : overL cs vs = some r := by cases cs <;> exact h
  simpa using overL_eq h'
 | [], _ + 1, _, _, h => by cases h
 | a :: cs, i + 1, vs, r, h => by
  simp only [pasteL] at h
  cases hr : pasteL cs i vs with
  | none => rw [hr] at h; cases h
  | some r' =>
   rw [hr] at h; cases h; obtain ⟨h1, h2⟩ := pasteL_eq hr
   refine ⟨by simp; omega, ?_⟩
   rw [h2, show i + 1 + vs.length = (i + vs.length) + 1 by omega]; simp

def cel (g : Nat) (t : TypeId) (cs : List Value) : HProp := blk g t cs.toArray
class LimbB (H : HProp) (g : Nat) (t : outParam TypeId) (cs : outParam (List Value)) (F : outParam HProp) : Prop where
  eq : H = cel g t cs * F
instance limbB_head (g : Nat) (t : TypeId) (cs : List Value) (F : HProp) : LimbB (cel g t cs * F) g t cs F := ⟨rfl⟩
instance (priority := low) limbB_tail (X H F : HProp) (g : Nat) (t : TypeId) (cs : List Value) [h : LimbB H g t cs F] : LimbB (X * H) g t cs (X * F) := ⟨by rw [h.eq, star_left_comm]⟩
instance (priority := low) limbB_left (X H F : HProp) (g : Nat) (t : TypeId) (cs : List Value) [h : LimbB X g t cs F] : LimbB (X * H) g t cs (F * H) := ⟨by rw [h.eq, star_assoc]⟩
class Limb {α : Type} (H : HProp) (p : α → HProp) (x : outParam α) (F : outParam HProp) : Prop where
  eq : H = p x * F
instance limb_head {α : Type} (p : α → HProp) (x : α) (F : HProp) : Limb (p x * F) p x F := ⟨rfl⟩

class Und (P : Program) (t : TypeId) (d : outParam TypeDesc) : Prop where
  eq : P.underlying t = some d
def scalarD : Option TypeDesc → Bool
 | some (.struct _) | some (.array _ _) | none => false
 | _ => true
class Scal (P : Program) (t : TypeId) : Prop where
  ok : scalarD (P.underlying t) = true
  size : (P.info? t).map (·.size) = some 1
def aggD : Option TypeDesc → Bool
 | some (.struct _) | some (.array _ _) => true
 | _ => false
class Aggr (P : Program) (t : TypeId) (size : outParam Nat) : Prop where
  ok : aggD (P.underlying t) = true
  size : (P.info? t).map (·.size) = some size
def cellsL : Value → List Value
 | .agg cs => cs.toList
 | v => [v]
theorem cellsL_eq (v : Value) : v.cells = (cellsL v).toArray := by cases v <;> simp [Value.cells, cellsL]
class Zero (P : Program) (t : TypeId) (z : outParam Value) (zs : outParam (List Value)) : Prop where
  eq : (P.info? t).map (·.zero) = some (some z)
  cells : cellsL z = zs
def fieldD (P : Program) (s k : Nat) : Option (Nat × TypeId × Nat) :=
 match P.underlying s with
 | some (.struct fs) => match fs[k]? with
  | some f => match P.info? f.type with
   | some i => some (f.offset, f.type, i.size)
   | none => none
  | none => none
 | _ => none
class Fld (P : Program) (s k : Nat) (off : outParam Nat) (t : outParam TypeId) : Prop where
  eq : ∃ size, fieldD P s k = some (off, t, size + 1)

variable {P : Program} {n : Frm} {w0 : World} {E : Env} {D : List Deferred} {H F : HProp} {ops : Array Oper} {l : List Oper} {Q : Exit → St → Prop} {w : World}
@[reducible] def ptr (g off : Nat) : Value := .pointer (some ⟨g, off, none⟩)

section quiet
variable {d : Option Tmp} {ty : TypeId} {pos : String} {after : Array Edge} {gu : Option (Nat × Bool)} {x y : Operand} {v u : Value}
theorem Q_move (h : E.ev x = some v) : OpQ P n w0 ⟨d, .move x, ty, pos, after, gu⟩ E H v := fun a w s hs => by
 simp only [execOp, s.ev h]; rfl
theorem Q_assign (h : E.ev x = some v) : OpQ P n w0 ⟨d, .assign x, ty, pos, after, gu⟩ E H v := fun a w s hs => by
 simp only [execOp, s.ev h]; rfl
theorem Q_pick_t {c : Operand} {b : Bool} (hc : E.ev c = some (.bool b)) (hl : Lit b true) (h1 : E.ev x = some v) : OpQ P n w0 ⟨d, .pick c x y, ty, pos, after, gu⟩ E H v := fun a w s hs => by
 cases hl.eq
 simp only [execOp, s.ev hc, s.ev h1, asBool]
 simp
theorem Q_pick_f {c : Operand} {b : Bool} (hc : E.ev c = some (.bool b)) (hl : Lit b false) (h1 : E.ev y = some v) : OpQ P n w0 ⟨d, .pick c x y, ty, pos, after, gu⟩ E H v := fun a w s hs => by
 cases hl.eq
 simp only [execOp, s.ev hc, s.ev h1, asBool]
 simp
theorem Q_nilCheck {a0 : Addr} (h : E.ev x = some (.pointer (some a0))) : OpQ P n w0 ⟨d, .nilCheck x, ty, pos, after, gu⟩ E H (.pointer (some a0)) := fun a w s hs => by
 simp only [execOp, s.ev h]; rfl
theorem Q_extract {vs : List Value} {k : Nat} (h : E.ev x = some (.tuple vs.toArray)) (hv : getL vs k = some v) : OpQ P n w0 ⟨d, .extract x k, ty, pos, after, gu⟩ E H v := fun a w s hs => by
 rw [getL_eq] at hv
 simp [execOp, s.ev h, Instr.extract, hv]
theorem Q_makeFunc {fn : Fn} {xs ys : List Operand} {vs us : List Value} (h1 : E.evs xs = some vs) (h2 : E.evs ys = some us) : OpQ P n w0 ⟨d, .makeFunc fn xs.toArray ys.toArray, ty, pos, after, gu⟩ E H (.func fn vs.toArray us.toArray) := fun a w s hs => by
 have e1 := s.evs h1
 have e2 := s.evs h2
 simp [execOp, Instr.makeFunc, e1, e2]
class BinV (P : Program) (op : BinOp) (t : TypeId) (x y : Value) (r : outParam Value) : Prop where
  run : ∀ w, (binOp op t x y).run P w = .ok r w
  guard : ∀ w (a b : Operand), (eqGuard op t a b x y).run P w = .ok () w
theorem Q_bin {op : BinOp} {t t2 : TypeId} (hx : E.ev x = some v) (hy : E.ev y = some u) {r : Value} (h : BinV P op t v u r) : OpQ P n w0 ⟨d, .binOp op t x y t2, ty, pos, after, gu⟩ E H r := fun a w s hs => by
 simp [execOp, s.ev hx, s.ev hy, h.guard, h.run]
theorem Q_bin_t {op : BinOp} {t t2 : TypeId} (hx : E.ev x = some v) (hy : E.ev y = some u) {q : Prop} {inst : Decidable q} (h : BinV P op t v u (.bool (decide q))) (hq : q) : OpQ P n w0 ⟨d, .binOp op t x y t2, ty, pos, after, gu⟩ E H (.bool true) := by
 have := Q_bin (n := n) (w0 := w0) (H := H) (d := d) (ty := ty) (pos := pos) (after := after) (gu := gu) (t2 := t2) hx hy h
 rwa [decide_eq_true hq] at this
theorem Q_bin_f {op : BinOp} {t t2 : TypeId} (hx : E.ev x = some v) (hy : E.ev y = some u) {q : Prop} {inst : Decidable q} (h : BinV P op t v u (.bool (decide q))) (hq : ¬ q) : OpQ P n w0 ⟨d, .binOp op t x y t2, ty, pos, after, gu⟩ E H (.bool false) := by
 have := Q_bin (n := n) (w0 := w0) (H := H) (d := d) (ty := ty) (pos := pos) (after := after) (gu := gu) (t2 := t2) hx hy h
 rwa [decide_eq_false hq] at this
theorem Q_bin_nt {op : BinOp} {t t2 : TypeId} (hx : E.ev x = some v) (hy : E.ev y = some u) {q : Prop} {inst : Decidable q} (h : BinV P op t v u (.bool (!decide q))) (hq : ¬ q) : OpQ P n w0 ⟨d, .binOp op t x y t2, ty, pos, after, gu⟩ E H (.bool true) := by
 have := Q_bin (n := n) (w0 := w0) (H := H) (d := d) (ty := ty) (pos := pos) (after := after) (gu := gu) (t2 := t2) hx hy h
 rwa [decide_eq_false hq] at this
theorem Q_bin_nf {op : BinOp} {t t2 : TypeId} (hx : E.ev x = some v) (hy : E.ev y = some u) {q : Prop} {inst : Decidable q} (h : BinV P op t v u (.bool (!decide q))) (hq : q) : OpQ P n w0 ⟨d, .binOp op t x y t2, ty, pos, after, gu⟩ E H (.bool false) := by
 have := Q_bin (n := n) (w0 := w0) (H := H) (d := d) (ty := ty) (pos := pos) (after := after) (gu := gu) (t2 := t2) hx hy h
 rwa [decide_eq_true hq] at this
class UnV (P : Program) (op : UnOp) (x : Value) (r : outParam Value) : Prop where
  run : ∀ w, (Op.unary op x).run P w = .ok r w
theorem Q_un {op : UnOp} {t : TypeId} (hx : E.ev x = some v) {r : Value} (h : UnV P op v r) : OpQ P n w0 ⟨d, .unOp op t x, ty, pos, after, gu⟩ E H r := fun a w s hs => by
 simp [execOp, s.ev hx, h.run]
theorem run_fieldAt_ptr (w : World) {s k g off o : Nat} {t : TypeId} (h : Fld P s k o t) : (Instr.fieldAt s (ptr g off) k).run P w = .ok (ptr g (off + o)) w := by
 obtain ⟨size, h⟩ := h.eq
 unfold fieldD at h
 split at h
 ·rename_i fs hu
  split at h
  ·rename_i f hf
   split at h
   ·rename_i i hi
    simp only [Option.some.injEq, Prod.mk.injEq] at h
    obtain ⟨h1, h2, hsz⟩ := h
    subst h1
    have hadd : (⟨g, off, none⟩ : Addr).add f.offset = ⟨g, off + f.offset, none⟩ := add_lit g off f.offset
    simp [Instr.fieldAt, run_underlying hu, hf, Instr.sureAddr, fieldPlace, sizeOf, typeInfo, hi, hsz, hadd]
   ·cases h
  ·cases h
 ·cases h
theorem Q_fieldAddr {s k g off o r : Nat} {t : TypeId} (hx : E.ev x = some (ptr g off)) (h : Fld P s k o t) (hr : off + o = r) : OpQ P n w0 ⟨d, .fieldAddr s x k, ty, pos, after, gu⟩ E H (ptr g r) := fun a w se hs => by
 subst hr
 simp [execOp, se.ev hx, run_fieldAt_ptr w h]
theorem Q_load {t bt : TypeId} {g off : Nat} {cs : List Value} (hx : E.ev x = some (ptr g off)) (hl : LimbB H g bt cs F) (ht : Scal P t) (hv : getL cs off = some v) : OpQ P n w0 ⟨d, .load t x, ty, pos, after, gu⟩ E H v := fun a w s hs => by
 have hc := Sat.cell (hs.cast hl.eq) off
 rw [getL_eq] at hv
 have hd := ht.ok
 obtain ⟨dd, hdd⟩ : ∃ dd, P.underlying t = some dd := by
  cases hu : P.underlying t with
  | none => rw [hu] at hd; cases hd
  | some dd => exact ⟨dd, rfl⟩
 rw [hdd] at hd
 have hagg : (isAgg t).run P w = .ok false w := by
  simp only [isAgg, Sem.run_bind, run_underlying hdd, Result.andThen_ok]
  cases dd <;> simp_all [scalarD]
 simp [execOp, s.ev hx, Instr.loadAt, Instr.sureAddr, loadVar, hagg, hc, hv]
theorem Q_loadA {t bt : TypeId} {g off size : Nat} {cs vs : List Value} (hx : E.ev x = some (ptr g off)) (hl : LimbB H g bt cs F) (ht : Aggr P t size) (hv : takeL cs off size = some vs) : OpQ P n w0 ⟨d, .load t x, ty, pos, after, gu⟩ E H (.agg vs.toArray) := fun a w s hs => by
 obtain ⟨hle, hvs⟩ := takeL_eq hv
 have hlen : vs.length = size := by rw [hvs]; simp; omega
 have hc : ∀ j u, vs[j]? = some u → w.cell? ((⟨g, off, none⟩ : Addr).add j) = some u := fun j u hu => by
  have hj : j < size := by rw [← hlen]; exact (List.getElem?_eq_some_iff.1 hu).1
  rw [add_lit, Sat.cell (hs.cast hl.eq)]
  rw [hvs, List.getElem?_take, if_pos hj, List.getElem?_drop] at hu
  simpa using hu
 have hd := ht.ok
 obtain ⟨dd, hdd⟩ : ∃ dd, P.underlying t = some dd := by
  cases hu : P.underlying t with
  | none => rw [hu] at hd; cases hd
  | some dd => exact ⟨dd, rfl⟩
 rw [hdd] at hd
 have hagg : (isAgg t).run P w = .ok true w := by
  simp only [isAgg, Sem.run_bind, run_underlying hdd, Result.andThen_ok]
  cases dd <;> simp_all [aggD]
 obtain ⟨i, hi, hi2⟩ := Option.map_eq_some_iff.1 ht.size
 have hz : (sizeOf t).run P w = .ok size w := by simp [sizeOf, typeInfo, hi, hi2]
 have hr := run_loadCells_list (P := P) (w := w) ⟨g, off, none⟩ vs hc
 rw [hlen] at hr
 simp [execOp, s.ev hx, Instr.loadAt, Instr.sureAddr, loadVar, hagg, hz, hr]
theorem Q_field {t ft : TypeId} {k off : Nat} {cs : List Value} (hx : E.ev x = some (.agg cs.toArray)) (h : Fld P t k off ft) (hs : Scal P ft) (hv : getL cs off = some v) : OpQ P n w0 ⟨d, .field t x k, ty, pos, after, gu⟩ E H v := fun a w se hs' => by
 obtain ⟨size, h⟩ := h.eq
 rw [getL_eq] at hv
 have hd := hs.ok
 obtain ⟨dd, hdd⟩ : ∃ dd, P.underlying ft = some dd := by
  cases hu : P.underlying ft with
  | none => rw [hu] at hd; cases hd
  | some dd => exact ⟨dd, rfl⟩
 rw [hdd] at hd
 have hagg : (isAgg ft).run P w = .ok false w := by
  simp only [isAgg, Sem.run_bind, run_underlying hdd, Result.andThen_ok]
  cases dd <;> simp_all [scalarD]
 unfold fieldD at h
 split at h
 ·rename_i fs hu
  split at h
  ·rename_i f hf
   split at h
   ·rename_i i hi
    simp only [Option.some.injEq, Prod.mk.injEq] at h
    obtain ⟨h1, h2, h3⟩ := h
    subst h1; subst h2
    simp [execOp, se.ev hx, Instr.field, run_underlying hu, hf, asAgg, part, hagg, hv]
   ·cases h
  ·cases h
 ·cases h
theorem Q_convI {src t : TypeId} {q k : IntKind} {m r : Int} {ds : TypeDesc} (hx : E.ev x = some (.int q m)) (hs : Und P src ds) (hd : Und P t (.int k)) (hr : k.wrap m = r) : OpQ P n w0 ⟨d, .convert src t x, ty, pos, after, gu⟩ E H (.int k r) := fun a w s hs' => by
 subst hr
 simp [execOp, s.ev hx, convert, run_underlying hs.eq, run_underlying hd.eq, Conv.intToInt]
theorem Q_len {t e : TypeId} {A : Option Addr} {m c : Nat} (hx : E.ev x = some (.slice A m c)) (ht : Und P t (.slice e)) : OpQ P n w0 ⟨d, .call ⟨.builtin .len, #[x], #[t]⟩, ty, pos, after, gu⟩ E H (.int .i64 (m : Int)) := fun a w s hs => by
 simp [execOp, resolve, invoke, builtin, s.ev hx, Builtin.len_, run_underlying ht.eq, goInt]
theorem Q_len_str {t : TypeId} {b : ByteArray} (hx : E.ev x = some (.string b)) (ht : Und P t .string) : OpQ P n w0 ⟨d, .call ⟨.builtin .len, #[x], #[t]⟩, ty, pos, after, gu⟩ E H (.int .i64 (b.size : Int)) := fun a w s hs => by
 simp [execOp, resolve, invoke, builtin, s.ev hx, Builtin.len_, run_underlying ht.eq, goInt]
theorem Q_max {k k2 : IntKind} {p q : Int} {ts : Array TypeId} (hx : E.ev x = some (.int k p)) (hy : E.ev y = some (.int k2 q)) : OpQ P n w0 ⟨d, .call ⟨.builtin .max, #[x, y], ts⟩, ty, pos, after, gu⟩ E H (.int k (if q > p then q else p)) := fun a w s hs => by
 simp [execOp, resolve, invoke, builtin, s.ev hx, s.ev hy, Builtin.max_, Builtin.max2]
theorem Q_min {k k2 : IntKind} {p q : Int} {ts : Array TypeId} (hx : E.ev x = some (.int k p)) (hy : E.ev y = some (.int k2 q)) : OpQ P n w0 ⟨d, .call ⟨.builtin .min, #[x, y], ts⟩, ty, pos, after, gu⟩ E H (.int k (if q < p then q else p)) := fun a w s hs => by
 simp [execOp, resolve, invoke, builtin, s.ev hx, s.ev hy, Builtin.min_, Builtin.min2]
end quiet
end

end Go.Proofs.YtapoehkdnglahabGreat

