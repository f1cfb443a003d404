/- The rules of single operations, over a state without its world. No program in sight. -/
import Derived.Test.YtapoehkdnglahaaS
import Derived.Laws.Tables
import Derived.IntWalk
namespace Go.Proofs.Ytapoehkdnglahaa
open Go.RowKit
set_option linter.unusedVariables false

/-! ### Rows of cells, worked out -/
def getL : List Value → Nat → Option Value
  | [], _ => none
  | v :: _, 0 => some v
  | _ :: r, i + 1 => getL r i
def setL : List Value → Nat → Value → Option (List Value)
  | [], _, _ => none
  | _ :: r, 0, v => some (v :: r)
  | a :: r, i + 1, v => match setL r i v with
    | some r' => some (a :: r')
    | none => none
def headL : List Value → Nat → Option (List Value)
  | _, 0 => some []
  | [], _ + 1 => none
  | v :: r, k + 1 => match headL r k with
    | some r' => some (v :: r')
    | none => none
def takeL : List Value → Nat → Nat → Option (List Value)
  | cs, 0, k => headL cs k
  | [], _ + 1, _ => none
  | _ :: r, i + 1, k => takeL r i k
/-- The head of a row overwritten. -/
def overL : List Value → List Value → Option (List Value)
  | cs, [] => some cs
  | [], _ :: _ => none
  | _ :: r, v :: vs => match overL r vs with
    | some r' => some (v :: r')
    | none => none
def pasteL : List Value → Nat → List Value → Option (List Value)
  | cs, 0, vs => overL cs vs
  | [], _ + 1, _ => none
  | a :: r, i + 1, vs => match pasteL r i vs with
    | some r' => some (a :: r')
    | none => none
theorem getL_eq : ∀ (cs : List Value) (i : Nat), getL cs i = cs[i]?
  | [], i => by simp [getL]
  | v :: r, 0 => rfl
  | v :: r, i + 1 => by simp [getL, getL_eq r i]
theorem setL_eq : ∀ {cs : List Value} {i : Nat} {v : Value} {cs' : List Value}, setL cs i v = some cs' → i < cs.length ∧ cs' = cs.set i v
  | [], _, _, _, h => by cases h
  | a :: r, 0, v, _, h => by cases h; simp
  | a :: r, i + 1, v, cs', h => by
    simp only [setL] at h
    cases hr : setL r i v with
    | none => rw [hr] at h; cases h
    | some r' => rw [hr] at h; cases h; obtain ⟨h1, h2⟩ := setL_eq hr; simp [h2]; exact h1
theorem headL_eq : ∀ {cs : List Value} {k : Nat} {r : List Value}, headL cs k = some r → k ≤ cs.length ∧ r = cs.take k
  | cs, 0, _, h => by cases cs <;> cases h <;> simp
  | [], _ + 1, _, h => by cases h
  | v :: cs, k + 1, r, h => by
    simp only [headL] at h
    cases hr : headL cs k with
    | none => rw [hr] at h; cases h
    | some r' => rw [hr] at h; cases h; obtain ⟨h1, h2⟩ := headL_eq hr; simp [h2]; exact h1
theorem takeL_eq : ∀ {cs : List Value} {i k : Nat} {r : List Value}, takeL cs i k = some r → i + k ≤ cs.length ∧ r = (cs.drop i).take k
  | cs, 0, k, r, h => by
    have h' : headL cs k = some r := by cases cs <;> exact h
    simpa using headL_eq h'
  | [], _ + 1, _, _, h => by cases h
  | _ :: cs, i + 1, k, r, h => by
    have := takeL_eq (cs := cs) h
    exact ⟨by simp; omega, by simpa using this.2⟩
theorem overL_eq : ∀ {cs vs r : List Value}, overL cs vs = some r → vs.length ≤ cs.length ∧ r = vs ++ cs.drop vs.length
  | cs, [], _, h => by cases cs <;> cases h <;> simp
  | [], _ :: _, _, h => by cases h
  | _ :: cs, v :: vs, r, h => by
    simp only [overL] at h
    cases hr : overL cs vs with
    | none => rw [hr] at h; cases h
    | some r' => rw [hr] at h; cases h; obtain ⟨h1, h2⟩ := overL_eq hr; simp [h2]; exact h1
theorem pasteL_eq : ∀ {cs : List Value} {i : Nat} {vs r : List Value}, pasteL cs i vs = some r → i + vs.length ≤ cs.length ∧ r = cs.take i ++ vs ++ cs.drop (i + vs.length)
  | cs, 0, vs, r, h => by
    have h' : overL cs vs = some r := by cases cs <;> exact h
    simpa using overL_eq h'
  | [], _ + 1, _, _, h => by cases h
  | a :: cs, i + 1, vs, r, h => by
    simp only [pasteL] at h
    cases hr : pasteL cs i vs with
    | none => rw [hr] at h; cases h
    | some r' =>
      rw [hr] at h; cases h; obtain ⟨h1, h2⟩ := pasteL_eq hr
      refine ⟨by simp; omega, ?_⟩
      rw [h2, show i + 1 + vs.length = (i + vs.length) + 1 by omega]; simp

/-! ### Limbs of an assertion -/
/-- A block of cells, none frozen. -/
def cel (g : Nat) (t : TypeId) (cs : List Value) : HProp := blk g t cs.toArray
class LimbB (H : HProp) (g : Nat) (t : outParam TypeId) (cs : outParam (List Value)) (F : outParam HProp) : Prop where
  eq : H = cel g t cs * F
instance limbB_head (g : Nat) (t : TypeId) (cs : List Value) (F : HProp) : LimbB (cel g t cs * F) g t cs F := ⟨rfl⟩
instance (priority := low) limbB_tail (X H F : HProp) (g : Nat) (t : TypeId) (cs : List Value) [h : LimbB H g t cs F] : LimbB (X * H) g t cs (X * F) := ⟨by rw [h.eq, star_left_comm]⟩
instance (priority := low) limbB_left (X H F : HProp) (g : Nat) (t : TypeId) (cs : List Value) [h : LimbB X g t cs F] : LimbB (X * H) g t cs (F * H) := ⟨by rw [h.eq, star_assoc]⟩
/-- The limb p x, p given. -/
class Limb {α : Type} (H : HProp) (p : α → HProp) (x : outParam α) (F : outParam HProp) : Prop where
  eq : H = p x * F
instance limb_head {α : Type} (p : α → HProp) (x : α) (F : HProp) : Limb (p x * F) p x F := ⟨rfl⟩
instance (priority := low) limb_tail {α : Type} (X H F : HProp) (p : α → HProp) (x : α) [h : Limb H p x F] : Limb (X * H) p x (X * F) := ⟨by rw [h.eq, star_left_comm]⟩
instance (priority := low) limb_left {α : Type} (X H F : HProp) (p : α → HProp) (x : α) [h : Limb X p x F] : Limb (X * H) p x (F * H) := ⟨by rw [h.eq, star_assoc]⟩

/-! ### Types -/
class Und (P : Program) (t : TypeId) (d : outParam TypeDesc) : Prop where
  eq : P.underlying t = some d
/-- A type whose values take one cell. -/
def scalarD : Option TypeDesc → Bool
  | some (.struct _) | some (.array _ _) | none => false
  | _ => true
class Scal (P : Program) (t : TypeId) : Prop where
  ok : scalarD (P.underlying t) = true
  size : (P.info? t).map (·.size) = some 1
/-- A struct or an array of so many cells. -/
def aggD : Option TypeDesc → Bool
  | some (.struct _) | some (.array _ _) => true
  | _ => false
class Aggr (P : Program) (t : TypeId) (size : outParam Nat) : Prop where
  ok : aggD (P.underlying t) = true
  size : (P.info? t).map (·.size) = some size
/-- The cells of a type's zero. -/
def cellsL : Value → List Value
  | .agg cs => cs.toList
  | v => [v]
theorem cellsL_eq (v : Value) : v.cells = (cellsL v).toArray := by cases v <;> simp [Value.cells, cellsL]
class Zero (P : Program) (t : TypeId) (z : outParam Value) (zs : outParam (List Value)) : Prop where
  eq : (P.info? t).map (·.zero) = some (some z)
  cells : cellsL z = zs
/-- Field k of struct s: its first cell's place, its type; it takes some cells. -/
def fieldD (P : Program) (s k : Nat) : Option (Nat × TypeId × Nat) :=
  match P.underlying s with
  | some (.struct fs) => match fs[k]? with
    | some f => match P.info? f.type with
      | some i => some (f.offset, f.type, i.size)
      | none => none
    | none => none
  | _ => none
class Fld (P : Program) (s k : Nat) (off : outParam Nat) (t : outParam TypeId) : Prop where
  eq : ∃ size, fieldD P s k = some (off, t, size + 1)

variable {P : Program} {n : Frm} {w0 : World} {E : Env} {D : List Deferred} {H F : HProp} {ops : Array Oper} {l : List Oper} {Q : Exit → St → Prop} {w : World}
@[reducible] def ptr (g off : Nat) : Value := .pointer (some ⟨g, off, none⟩)

section quiet
variable {d : Option Tmp} {ty : TypeId} {pos : String} {after : Array Edge} {gu : Option (Nat × Bool)} {x y : Operand} {v u : Value}
theorem Q_move (h : E.ev x = some v) : OpQ P n w0 ⟨d, .move x, ty, pos, after, gu⟩ E H v := fun a w s hs => by
  simp only [execOp, s.ev h]; rfl
theorem Q_assign (h : E.ev x = some v) : OpQ P n w0 ⟨d, .assign x, ty, pos, after, gu⟩ E H v := fun a w s hs => by
  simp only [execOp, s.ev h]; rfl
theorem Q_pick {c : Operand} {b : Bool} (hc : E.ev c = some (.bool b)) (h1 : E.ev x = some v) (h2 : E.ev y = some u) : OpQ P n w0 ⟨d, .pick c x y, ty, pos, after, gu⟩ E H (bif b then v else u) := fun a w s hs => by
  simp only [execOp, s.ev hc, s.ev h1, s.ev h2, asBool]
  cases b <;> simp
theorem Q_pick_t {c : Operand} {b : Bool} (hc : E.ev c = some (.bool b)) (hl : Lit b true) (h1 : E.ev x = some v) : OpQ P n w0 ⟨d, .pick c x y, ty, pos, after, gu⟩ E H v := fun a w s hs => by
  cases hl.eq
  simp only [execOp, s.ev hc, s.ev h1, asBool]
  simp
theorem Q_pick_f {c : Operand} {b : Bool} (hc : E.ev c = some (.bool b)) (hl : Lit b false) (h1 : E.ev y = some v) : OpQ P n w0 ⟨d, .pick c x y, ty, pos, after, gu⟩ E H v := fun a w s hs => by
  cases hl.eq
  simp only [execOp, s.ev hc, s.ev h1, asBool]
  simp
theorem Q_nilCheck {a0 : Addr} (h : E.ev x = some (.pointer (some a0))) : OpQ P n w0 ⟨d, .nilCheck x, ty, pos, after, gu⟩ E H (.pointer (some a0)) := fun a w s hs => by
  simp only [execOp, s.ev h]; rfl
theorem Q_nilCheck_f {f : FuncId} {a1 a2 : Array Value} (h : E.ev x = some (.func (.func f) a1 a2)) : OpQ P n w0 ⟨d, .nilCheck x, ty, pos, after, gu⟩ E H (.func (.func f) a1 a2) := fun a w s hs => by
  simp only [execOp, s.ev h]; rfl
theorem Q_extract {vs : List Value} {k : Nat} (h : E.ev x = some (.tuple vs.toArray)) (hv : getL vs k = some v) : OpQ P n w0 ⟨d, .extract x k, ty, pos, after, gu⟩ E H v := fun a w s hs => by
  rw [getL_eq] at hv
  simp [execOp, s.ev h, Instr.extract, hv]
theorem Q_makeFunc {fn : Fn} {xs ys : List Operand} {vs us : List Value} (h1 : E.evs xs = some vs) (h2 : E.evs ys = some us) : OpQ P n w0 ⟨d, .makeFunc fn xs.toArray ys.toArray, ty, pos, after, gu⟩ E H (.func fn vs.toArray us.toArray) := fun a w s hs => by
  have e1 := s.evs h1
  have e2 := s.evs h2
  simp [execOp, Instr.makeFunc, e1, e2]
/-- An operator whose value hangs on its operands alone. -/
class BinV (P : Program) (op : BinOp) (t : TypeId) (x y : Value) (r : outParam Value) : Prop where
  run : ∀ w, (binOp op t x y).run P w = .ok r w
  guard : ∀ w (a b : Operand), (eqGuard op t a b x y).run P w = .ok () w
theorem Q_bin {op : BinOp} {t t2 : TypeId} (hx : E.ev x = some v) (hy : E.ev y = some u) {r : Value} (h : BinV P op t v u r) : OpQ P n w0 ⟨d, .binOp op t x y t2, ty, pos, after, gu⟩ E H r := fun a w s hs => by
  simp [execOp, s.ev hx, s.ev hy, h.guard, h.run]
/-- A test whose outcome is known. -/
theorem Q_bin_t {op : BinOp} {t t2 : TypeId} (hx : E.ev x = some v) (hy : E.ev y = some u) {q : Prop} {inst : Decidable q} (h : BinV P op t v u (.bool (decide q))) (hq : q) : OpQ P n w0 ⟨d, .binOp op t x y t2, ty, pos, after, gu⟩ E H (.bool true) := by
  have := Q_bin (n := n) (w0 := w0) (H := H) (d := d) (ty := ty) (pos := pos) (after := after) (gu := gu) (t2 := t2) hx hy h
  rwa [decide_eq_true hq] at this
theorem Q_bin_f {op : BinOp} {t t2 : TypeId} (hx : E.ev x = some v) (hy : E.ev y = some u) {q : Prop} {inst : Decidable q} (h : BinV P op t v u (.bool (decide q))) (hq : ¬ q) : OpQ P n w0 ⟨d, .binOp op t x y t2, ty, pos, after, gu⟩ E H (.bool false) := by
  have := Q_bin (n := n) (w0 := w0) (H := H) (d := d) (ty := ty) (pos := pos) (after := after) (gu := gu) (t2 := t2) hx hy h
  rwa [decide_eq_false hq] at this
theorem Q_bin_nt {op : BinOp} {t t2 : TypeId} (hx : E.ev x = some v) (hy : E.ev y = some u) {q : Prop} {inst : Decidable q} (h : BinV P op t v u (.bool (!decide q))) (hq : ¬ q) : OpQ P n w0 ⟨d, .binOp op t x y t2, ty, pos, after, gu⟩ E H (.bool true) := by
  have := Q_bin (n := n) (w0 := w0) (H := H) (d := d) (ty := ty) (pos := pos) (after := after) (gu := gu) (t2 := t2) hx hy h
  rwa [decide_eq_false hq] at this
theorem Q_bin_nf {op : BinOp} {t t2 : TypeId} (hx : E.ev x = some v) (hy : E.ev y = some u) {q : Prop} {inst : Decidable q} (h : BinV P op t v u (.bool (!decide q))) (hq : q) : OpQ P n w0 ⟨d, .binOp op t x y t2, ty, pos, after, gu⟩ E H (.bool false) := by
  have := Q_bin (n := n) (w0 := w0) (H := H) (d := d) (ty := ty) (pos := pos) (after := after) (gu := gu) (t2 := t2) hx hy h
  rwa [decide_eq_true hq] at this
class UnV (P : Program) (op : UnOp) (x : Value) (r : outParam Value) : Prop where
  run : ∀ w, (Op.unary op x).run P w = .ok r w
theorem Q_un {op : UnOp} {t : TypeId} (hx : E.ev x = some v) {r : Value} (h : UnV P op v r) : OpQ P n w0 ⟨d, .unOp op t x, ty, pos, after, gu⟩ E H r := fun a w s hs => by
  simp [execOp, s.ev hx, h.run]
theorem run_fieldAt_ptr (w : World) {s k g off o : Nat} {t : TypeId} (h : Fld P s k o t) : (Instr.fieldAt s (ptr g off) k).run P w = .ok (ptr g (off + o)) w := by
  obtain ⟨size, h⟩ := h.eq
  unfold fieldD at h
  split at h
  · rename_i fs hu
    split at h
    · rename_i f hf
      split at h
      · rename_i i hi
        simp only [Option.some.injEq, Prod.mk.injEq] at h
        obtain ⟨h1, h2, hsz⟩ := h
        subst h1
        have hadd : (⟨g, off, none⟩ : Addr).add f.offset = ⟨g, off + f.offset, none⟩ := add_lit g off f.offset
        simp [Instr.fieldAt, run_underlying hu, hf, Instr.sureAddr, fieldPlace, sizeOf, typeInfo, hi, hsz, hadd]
      · cases h
    · cases h
  · cases h
theorem Q_fieldAddr {s k g off o r : Nat} {t : TypeId} (hx : E.ev x = some (ptr g off)) (h : Fld P s k o t) (hr : off + o = r) : OpQ P n w0 ⟨d, .fieldAddr s x k, ty, pos, after, gu⟩ E H (ptr g r) := fun a w se hs => by
  subst hr
  simp [execOp, se.ev hx, run_fieldAt_ptr w h]
theorem Q_load {t bt : TypeId} {g off : Nat} {cs : List Value} (hx : E.ev x = some (ptr g off)) (hl : LimbB H g bt cs F) (ht : Scal P t) (hv : getL cs off = some v) : OpQ P n w0 ⟨d, .load t x, ty, pos, after, gu⟩ E H v := fun a w s hs => by
  have hc := Sat.cell (hs.cast hl.eq) off
  rw [getL_eq] at hv
  have hd := ht.ok
  obtain ⟨dd, hdd⟩ : ∃ dd, P.underlying t = some dd := by
    cases hu : P.underlying t with
    | none => rw [hu] at hd; cases hd
    | some dd => exact ⟨dd, rfl⟩
  rw [hdd] at hd
  have hagg : (isAgg t).run P w = .ok false w := by
    simp only [isAgg, Sem.run_bind, run_underlying hdd, Result.andThen_ok]
    cases dd <;> simp_all [scalarD]
  simp [execOp, s.ev hx, Instr.loadAt, Instr.sureAddr, loadVar, hagg, hc, hv]
theorem Q_loadA {t bt : TypeId} {g off size : Nat} {cs vs : List Value} (hx : E.ev x = some (ptr g off)) (hl : LimbB H g bt cs F) (ht : Aggr P t size) (hv : takeL cs off size = some vs) : OpQ P n w0 ⟨d, .load t x, ty, pos, after, gu⟩ E H (.agg vs.toArray) := fun a w s hs => by
  obtain ⟨hle, hvs⟩ := takeL_eq hv
  have hlen : vs.length = size := by rw [hvs]; simp; omega
  have hc : ∀ j u, vs[j]? = some u → w.cell? ((⟨g, off, none⟩ : Addr).add j) = some u := fun j u hu => by
    have hj : j < size := by rw [← hlen]; exact (List.getElem?_eq_some_iff.1 hu).1
    rw [add_lit, Sat.cell (hs.cast hl.eq)]
    rw [hvs, List.getElem?_take, if_pos hj, List.getElem?_drop] at hu
    simpa using hu
  have hd := ht.ok
  obtain ⟨dd, hdd⟩ : ∃ dd, P.underlying t = some dd := by
    cases hu : P.underlying t with
    | none => rw [hu] at hd; cases hd
    | some dd => exact ⟨dd, rfl⟩
  rw [hdd] at hd
  have hagg : (isAgg t).run P w = .ok true w := by
    simp only [isAgg, Sem.run_bind, run_underlying hdd, Result.andThen_ok]
    cases dd <;> simp_all [aggD]
  obtain ⟨i, hi, hi2⟩ := Option.map_eq_some_iff.1 ht.size
  have hz : (sizeOf t).run P w = .ok size w := by simp [sizeOf, typeInfo, hi, hi2]
  have hr := run_loadCells_list (P := P) (w := w) ⟨g, off, none⟩ vs hc
  rw [hlen] at hr
  simp [execOp, s.ev hx, Instr.loadAt, Instr.sureAddr, loadVar, hagg, hz, hr]
theorem Q_field {t ft : TypeId} {k off : Nat} {cs : List Value} (hx : E.ev x = some (.agg cs.toArray)) (h : Fld P t k off ft) (hs : Scal P ft) (hv : getL cs off = some v) : OpQ P n w0 ⟨d, .field t x k, ty, pos, after, gu⟩ E H v := fun a w se hs' => by
  obtain ⟨size, h⟩ := h.eq
  rw [getL_eq] at hv
  have hd := hs.ok
  obtain ⟨dd, hdd⟩ : ∃ dd, P.underlying ft = some dd := by
    cases hu : P.underlying ft with
    | none => rw [hu] at hd; cases hd
    | some dd => exact ⟨dd, rfl⟩
  rw [hdd] at hd
  have hagg : (isAgg ft).run P w = .ok false w := by
    simp only [isAgg, Sem.run_bind, run_underlying hdd, Result.andThen_ok]
    cases dd <;> simp_all [scalarD]
  unfold fieldD at h
  split at h
  · rename_i fs hu
    split at h
    · rename_i f hf
      split at h
      · rename_i i hi
        simp only [Option.some.injEq, Prod.mk.injEq] at h
        obtain ⟨h1, h2, h3⟩ := h
        subst h1; subst h2
        simp [execOp, se.ev hx, Instr.field, run_underlying hu, hf, asAgg, part, hagg, hv]
      · cases h
    · cases h
  · cases h
theorem Q_convI {src t : TypeId} {q k : IntKind} {m r : Int} {ds : TypeDesc} (hx : E.ev x = some (.int q m)) (hs : Und P src ds) (hd : Und P t (.int k)) (hr : k.wrap m = r) : OpQ P n w0 ⟨d, .convert src t x, ty, pos, after, gu⟩ E H (.int k r) := fun a w s hs' => by
  subst hr
  simp [execOp, s.ev hx, convert, run_underlying hs.eq, run_underlying hd.eq, Conv.intToInt]
theorem Q_len {t e : TypeId} {A : Option Addr} {m c : Nat} (hx : E.ev x = some (.slice A m c)) (ht : Und P t (.slice e)) : OpQ P n w0 ⟨d, .call ⟨.builtin .len, #[x], #[t]⟩, ty, pos, after, gu⟩ E H (.int .i64 (m : Int)) := fun a w s hs => by
  simp [execOp, resolve, invoke, builtin, s.ev hx, Builtin.len_, run_underlying ht.eq, goInt]
theorem Q_len_str {t : TypeId} {b : ByteArray} (hx : E.ev x = some (.string b)) (ht : Und P t .string) : OpQ P n w0 ⟨d, .call ⟨.builtin .len, #[x], #[t]⟩, ty, pos, after, gu⟩ E H (.int .i64 (b.size : Int)) := fun a w s hs => by
  simp [execOp, resolve, invoke, builtin, s.ev hx, Builtin.len_, run_underlying ht.eq, goInt]
theorem Q_max {k k2 : IntKind} {p q : Int} {ts : Array TypeId} (hx : E.ev x = some (.int k p)) (hy : E.ev y = some (.int k2 q)) : OpQ P n w0 ⟨d, .call ⟨.builtin .max, #[x, y], ts⟩, ty, pos, after, gu⟩ E H (.int k (if q > p then q else p)) := fun a w s hs => by
  simp [execOp, resolve, invoke, builtin, s.ev hx, s.ev hy, Builtin.max_, Builtin.max2]
theorem Q_min {k k2 : IntKind} {p q : Int} {ts : Array TypeId} (hx : E.ev x = some (.int k p)) (hy : E.ev y = some (.int k2 q)) : OpQ P n w0 ⟨d, .call ⟨.builtin .min, #[x, y], ts⟩, ty, pos, after, gu⟩ E H (.int k (if q < p then q else p)) := fun a w s hs => by
  simp [execOp, resolve, invoke, builtin, s.ev hx, s.ev hy, Builtin.min_, Builtin.min2]
end quiet
end Go.Proofs.Ytapoehkdnglahaa
