/- A part of what Arrives needs. -/
import Derived.Test.YtapoehkdnglahabGreatArrivesGc
set_option linter.unusedVariables false
set_option linter.unusedSimpArgs false
set_option linter.unusedSectionVars false
namespace Go.Proofs.YtapoehkdnglahabGreat
section
open Go.RowKit
variable {P : Program} {n : Frm} {w0 : World} {E : Env} {D : List Deferred} {H F F2 R : HProp} {ops : Array Oper} {l' : List Oper} {Q : Exit → St → Prop} {w : World}
def sHead (v : Value) (k : Nat) : Value := match v with
 | .slice A m c => .slice A (min k m) c
 | v => v
def sTail (size : Nat) (v : Value) (k : Nat) : Value := match v with
 | .slice A m c => sliced A (min k m) m c size
 | v => v
section
variable {α : Type} {e : TypeId} {size : Nat} {f : α → List Value} {v : Value} {l : List α}
theorem RowsAt.head (h : RowsAt w size f v l) (k : Nat) : RowsAt w size f (sHead v k) (l.take k) := by
 obtain ⟨A, c, rfl, h1, h2⟩ := h.form
 refine ⟨⟨A, c, by simp [sHead, List.length_take], by simp; omega, h2⟩, fun j hj => ?_⟩
 have hj' : j < l.length := by simp at hj; omega
 obtain ⟨g, off, cap, hv, hc⟩ := h.cell j hj'
 injection hv with e1 e2 e3
 subst e1
 refine ⟨g, off, c, by simp [sHead, List.length_take], fun i u hi hu => hc i u hi ?_⟩
 simpa using hu
theorem RowsAt.tail (h : RowsAt w size f v l) (k : Nat) : RowsAt w size f (sTail size v k) (l.drop k) := by
 obtain ⟨A, c, rfl, h1, h2⟩ := h.form
 refine ⟨⟨_, _, by simp only [sTail, sliced]; congr 1; simp; omega, by simp; omega, by omega⟩, fun j hj => ?_⟩
 have hj' : k + j < l.length := by simp at hj; omega
 obtain ⟨g, off, cap, hv, hc⟩ := h.cell (k + j) hj'
 injection hv with e1 e2 e3
 subst e1
 have hmin : min k l.length = k := by omega
 refine ⟨g, off + k * size, c - k, ?_, fun i u hi hu => ?_⟩
 ·simp only [sTail, sliced, hmin]
  rw [if_neg (by omega)]
  simp [add_lit]
 ·have := hc i u hi (by simpa using hu)
  rwa [Nat.add_mul, Nat.add_assoc (k * size), ← Nat.add_assoc off] at this
instance rdr_head (k : Nat) [h : Rdr w0 H v α size f l] : Rdr w0 H (sHead v k) α size f (l.take k) := ⟨fun w hs => (h.at_ w hs).head k⟩
instance rdr_tail' (k : Nat) [h : Rdr w0 H v α size f l] : Rdr w0 H (sTail size v k) α size f (l.drop k) := ⟨fun w hs => (h.at_ w hs).tail k⟩
variable {d : Option Tmp} {ty : TypeId} {pos : String} {after : Array Edge} {gu : Option (Nat × Bool)} {x y z : Operand}
theorem Q_sliceR_h {t e2 : TypeId} {q : IntKind} {i : Int} {k : Nat} (hx : E.ev x = some v) (hy : E.ev y = some (.int q i)) (hl : Rdr w0 H v α size f l) (ht : Und P t (.slice e2)) (hs2 : Siz P e2 size) (hi : AsNat i k) (hk : k ≤ l.length) :
  OpQ P n w0 ⟨d, .slice t x none (some y) none, ty, pos, after, gu⟩ E H (sHead v k) := fun a w s hs => by
 obtain ⟨A, c, rfl, h1, h2⟩ := (hl.at_ w hs).form
 obtain ⟨i0, hi0, hi1⟩ := Option.map_eq_some_iff.1 hs2.eq
 obtain rfl := hi.eq
 have hel : P.elem t = e2 := by simp [Program.elem, ht.eq]
 have ht' : P.underlying t = some (.slice (P.elem t)) := by rw [ht.eq, hel]
 have hr := run_slice_h (P := P) (w := w) t A l.length c ht' q (k : Int) (by omega) (by omega)
 have hmin : min k l.length = k := by omega
 have hz : (sizeOf e2).run P w = .ok size w := by simp [sizeOf, typeInfo, hi0, hi1]
 rw [hel, hz] at hr
 have hA : (if c = 0 then A else A.map (·.add (0 * size))) = A := by
  split
  ·rfl
  ·cases A with
   | none => rfl
   | some a => simp; unfold Addr.add; cases a; simp
 simp only [execOp, s.ev hx, s.ev hy, Option.map_some, Option.map_none, run_sliceAt_slice w t _ _ _ _ ht', Sem.run_bind, hr, Result.andThen_ok, Sem.run_pure, Int.toNat_natCast, sHead, hmin, sliced, hA, Nat.sub_zero]
theorem Q_sliceR_l {t e2 : TypeId} {q : IntKind} {i : Int} {k : Nat} (hx : E.ev x = some v) (hy : E.ev y = some (.int q i)) (hl : Rdr w0 H v α size f l) (ht : Und P t (.slice e2)) (hs2 : Siz P e2 size) (hi : AsNat i k) (hk : k ≤ l.length) :
  OpQ P n w0 ⟨d, .slice t x (some y) none none, ty, pos, after, gu⟩ E H (sTail size v k) := fun a w s hs => by
 obtain ⟨A, c, rfl, h1, h2⟩ := (hl.at_ w hs).form
 obtain ⟨i0, hi0, hi1⟩ := Option.map_eq_some_iff.1 hs2.eq
 obtain rfl := hi.eq
 have hel : P.elem t = e2 := by simp [Program.elem, ht.eq]
 have ht' : P.underlying t = some (.slice (P.elem t)) := by rw [ht.eq, hel]
 have hr := run_slice_l (P := P) (w := w) t A l.length c ht' q (k : Int) (by omega) (by omega)
 have hmin : min k l.length = k := by omega
 have hz : (sizeOf e2).run P w = .ok size w := by simp [sizeOf, typeInfo, hi0, hi1]
 rw [hel, hz] at hr
 simp only [execOp, s.ev hx, s.ev hy, Option.map_some, Option.map_none, run_sliceAt_slice w t _ _ _ _ ht', Sem.run_bind, hr, Result.andThen_ok, Sem.run_pure, Int.toNat_natCast, sTail, hmin]
theorem Ent.headR (k : Nat) [h : RowsOf H v α e size f l F] [hf : FixLen f size] : Ent H (rows e size f (sHead v k) (l.take k) * F) := by
 rw [h.eq]
 refine Ent.star (fun x hx => ⟨x, ?_, fun _ _ e => e⟩) (Ent.refl _)
 obtain ⟨hlen, hc⟩ := hx
 refine ⟨flatMap_length f size hf.eq _, ?_⟩
 have hle : min k l.length ≤ l.length := Nat.min_le_right _ _
 rcases hc with ⟨A, rfl, h0, hn⟩ | ⟨g, off, cap, cur, fr, rfl, h1, h2, h3, h4, h5, h6⟩
 ·left; exact ⟨A, by simp [sHead], by rw [List.length_take]; omega, hn⟩
 ·right
  refine ⟨g, off, cap, cur, fr, by simp [sHead, List.length_take], by simp; omega, h2, h3, ?_, h5, h6⟩
  have hm : min k l.length * size ≤ l.length * size := Nat.mul_le_mul_right _ hle
  have e1 : ∀ (k : Nat) (l : List α), (l.take k).flatMap f = (l.flatMap f).take (min k l.length * size) := by
   intro k l
   induction l generalizing k with
   | nil => simp
   | cons a l ih =>
    cases k with
    | zero => simp
    | succ k =>
     have : min (k + 1) (a :: l).length * size = (f a).length + min k l.length * size := by
      rw [hf.eq, List.length_cons, show min (k + 1) (l.length + 1) = min k l.length + 1 by omega, Nat.succ_mul]; omega
     simp only [List.take_succ_cons, List.flatMap_cons, ih, this, List.take_length_add_append]
  rw [e1, ← h4, List.take_take, List.length_take, Nat.min_eq_left hm]
theorem Ent.tailR (k : Nat) (hk : k ≤ l.length) [h : RowsOf H v α e size f l F] [hf : FixLen f size] : Ent H (rows e size f (sTail size v k) (l.drop k) * F) := by
 rw [h.eq]
 refine Ent.star (fun x hx => ?_) (Ent.refl _)
 obtain ⟨hlen, hc⟩ := hx
 rcases hc with ⟨A, rfl, h0, hn⟩ | ⟨g, off, cap, cur, fr, rfl, h1, h2, h3, h4, h5, h6⟩
 ·refine ⟨x, ⟨flatMap_length f size hf.eq _, .inl ⟨A, by simp [sTail, sliced], by simp; omega, hn⟩⟩, fun _ _ e => e⟩
 ·have hmin : min k l.length = k := by omega
  have hdrop : ∀ (k : Nat) (l : List α), k ≤ l.length → (l.drop k).flatMap f = (l.flatMap f).drop (k * size) := by
   intro k l hk
   induction l generalizing k with
   | nil => simp
   | cons a l ih =>
    cases k with
    | zero => simp
    | succ k =>
     have : (k + 1) * size = (f a).length + k * size := by rw [hf.eq, Nat.succ_mul]; omega
     simp only [List.drop_succ_cons, List.flatMap_cons, ih k (by simpa using hk), this, List.drop_length_add_append]
  by_cases hcap : cap = k
  ·refine ⟨fun _ => none, ⟨flatMap_length f size hf.eq _, .inl ⟨some ⟨g, off, none⟩, ?_, by simp; omega, fun _ => rfl⟩⟩, fun _ _ e => by cases e⟩
   simp only [sTail, sliced, hmin]
   rw [if_pos hcap]
   congr 1 <;> omega
  ·refine ⟨x, ⟨flatMap_length f size hf.eq _, .inr ⟨g, off + k * size, cap - k, cur, fr, ?_, by simp; omega, by omega, ?_, ?_, ?_, h6⟩⟩, fun _ _ e => e⟩
   ·simp only [sTail, sliced, hmin]
    rw [if_neg hcap]
    simp [add_lit]
   ·have : (cap - k) * size = cap * size - k * size := Nat.sub_mul _ _ _
    have : k * size ≤ cap * size := Nat.mul_le_mul_right _ (by omega)
    omega
   ·rw [hdrop k l hk, ← h4, List.drop_take, List.drop_drop, List.length_drop, Nat.sub_mul]
   ·intro i hi1 hi2
    have : (cap - k) * size = cap * size - k * size := Nat.sub_mul _ _ _
    have : k * size ≤ cap * size := Nat.mul_le_mul_right _ (by omega)
    exact h5 i (by omega) (by omega)
theorem WS_form {c : Code} (v : Value) (hl : RowsOf H v α e size f l F) (h : ∀ A cap, v = .slice A l.length cap → WS P n w0 c Q ⟨E, D, H⟩) : WS P n w0 c Q ⟨E, D, H⟩ := fun a w g => by
 obtain ⟨A, cap, hv⟩ := rows_form (g.sat.cast hl.eq)
 exact h A cap hv a w g
theorem LS_form (v : Value) (hl : RowsOf H v α e size f l F) (h : ∀ A cap, v = .slice A l.length cap → LS P n w0 ops Q l' ⟨E, D, H⟩) : LS P n w0 ops Q l' ⟨E, D, H⟩ := fun a w g => by
 obtain ⟨A, cap, hv⟩ := rows_form (g.sat.cast hl.eq)
 exact h A cap hv a w g
theorem WS_some {c : Code} (v : Value) (hl : RowsOf H v α e size f l F) (hf : FixLen f size) (hp : Nat.blt 0 size = true) (hk : 0 < l.length) (h : ∀ g off cap, v = .slice (some ⟨g, off, none⟩) l.length cap → WS P n w0 c Q ⟨E, D, H⟩) : WS P n w0 c Q ⟨E, D, H⟩ := fun a w g => by
 obtain ⟨g', off, cap, hv, _⟩ := rows_cell (by simpa using hp) (g.sat.cast hl.eq) hk
 exact h g' off cap hv a w g
theorem Q_indexV {t e2 : TypeId} {q : IntKind} {i : Int} {k m g off cap : Nat} (hx : E.ev x = some (.slice (some ⟨g, off, none⟩) m cap)) (hy : E.ev y = some (.int q i)) (ht : Und P t (.slice e2)) (hs2 : Siz P e2 size) (hi : AsNat i k) (hk : k < m) :
  OpQ P n w0 ⟨d, .indexAddr t x y, ty, pos, after, gu⟩ E H (eptr (.slice (some ⟨g, off, none⟩) m cap) size k 0) := fun a w s hs => by
 obtain ⟨i0, hi0, hi1⟩ := Option.map_eq_some_iff.1 hs2.eq
 obtain rfl := hi.eq
 have hel : P.elem t = e2 := by simp [Program.elem, ht.eq]
 have h := run_indexAt_slice (P := P) w t ⟨g, off, none⟩ m cap q (k : Int) (by rw [ht.eq, hel])
 rw [if_pos ⟨by omega, by omega⟩, hel] at h
 simp [execOp, s.ev hx, s.ev hy, h, sizeOf, typeInfo, hi0, hi1, eptr]
end
instance own_star (H A B F1 F : HProp) [h1 : Own H A F1] [h2 : Own F1 B F] : Own H (A * B) F := ⟨by rw [h1.eq, h2.eq, star_assoc]⟩
instance asNat_mul (i j : Int) (k m : Nat) [a : AsNat i k] [b : AsNat j m] : AsNat (i * j) (k * m) := ⟨by rw [a.eq, b.eq]; simp⟩
instance limbB_bare (g : Nat) (t : TypeId) (cs : List Value) : LimbB (cel g t cs) g t cs emp := ⟨star_emp.symm⟩
instance rowsOf_bare {α : Type} (e : TypeId) (size : Nat) (f : α → List Value) (v : Value) (l : List α) : RowsOf (rows e size f v l) v α e size f l emp := ⟨star_emp.symm⟩
instance mapOf_bare {κ ν : Type} (fk : κ → Value) (fv : ν → Value) (r : Nat) (m : List (κ × ν)) : MapOf (mp fk fv r m) r κ ν fk fv m emp := ⟨star_emp.symm⟩
class OneV (v : Value) : Prop where ok : v.oneCell' = true
class One (w0 : World) (H : HProp) (v : Value) : Prop where ok : ∀ w, Sat w0 w H → v.oneCell' = true
instance one_v {v : Value} [h : OneV v] : One w0 H v := ⟨fun _ _ => h.ok⟩
instance {k : IntKind} {m : Int} : OneV (.int k m) := ⟨rfl⟩
instance {b : Bool} : OneV (.bool b) := ⟨rfl⟩
instance {b : ByteArray} : OneV (.string b) := ⟨rfl⟩
instance {a : Option Addr} : OneV (.pointer a) := ⟨rfl⟩
instance {a : Option Addr} {m c : Nat} : OneV (.slice a m c) := ⟨rfl⟩
instance {m : Option Nat} : OneV (.map m) := ⟨rfl⟩
instance {f : Fn} {a b : Array Value} : OneV (.func f a b) := ⟨rfl⟩
instance {x : UInt32} : OneV (u32 x) := ⟨rfl⟩
instance {x : UInt64} : OneV (u64 x) := ⟨rfl⟩
instance (priority := low) one_rdr {α : Type} {size : Nat} {f : α → List Value} {v : Value} {l : List α} [h : Rdr w0 H v α size f l] : One w0 H v := ⟨fun w hs => by
 obtain ⟨A, c, rfl, _⟩ := (h.at_ w hs).form; rfl⟩
class OneL (w0 : World) (H : HProp) (vs : List Value) : Prop where ok : ∀ w, Sat w0 w H → ∀ u ∈ vs, u.oneCell' = true
instance oneL_nil : OneL w0 H [] := ⟨fun _ _ u hu => by cases hu⟩
instance oneL_cons {v : Value} {vs : List Value} [h1 : One w0 H v] [h2 : OneL w0 H vs] : OneL w0 H (v :: vs) := ⟨fun w hs u hu => by
 rcases List.mem_cons.1 hu with rfl | hu
 ·exact h1.ok w hs
 ·exact h2.ok w hs u hu⟩
theorem OpH.whole {o : Oper} {α : Type} {v : α → Value} {post : α → HProp} (h : ∀ G a w (K : Act → World → Prop) (Q : Exit → Act → World → Prop), Sees n E a → Sat w0 w (H * G) → (∀ x w', Sat w0 w' (post x * G) → K (a.put o.dst (v x)) w') → o.wp P a w K Q) : OpH P n w0 o E H v post :=
 ⟨H, post, emp, h, star_emp.symm, fun _ => star_emp.symm⟩
section
variable {ty : TypeId} {pos : String} {after : Array Edge} {gu : Option (Nat × Bool)} {x y : Operand} {v : Value}
theorem H_storeO {t bt : TypeId} {g off : Nat} {cs cs' : List Value} (hx : E.ev x = some (ptr g off)) (hy : E.ev y = some v) (ht : Scal P t) (h1 : One w0 H v) (hl : LimbB H g bt cs F) (hset : pasteL cs off [v] = some cs') :
  OpH P n w0 ⟨none, .store t x y, ty, pos, after, gu⟩ E H (fun _ : Unit => undef) (fun _ => cel g bt cs' * F) := OpH.whole fun G a w K Q s hs hK => by
 have h1' := h1.ok w hs.keep
 have hs' : Sat w0 w (cel g bt cs * (F * G)) := hs.cast (by rw [hl.eq, star_assoc])
 obtain ⟨w', hr, hs''⟩ := run_storeVar_cel (P := P) (t := t) (vs := [v]) w hs' ht.size (cells_one h1') (by simpa using h1') hset
 have := hK () w' (hs''.cast (star_assoc _ _ _).symm)
 simp only [Act.put] at this
 simp only [Oper.wp, execOp, s.ev hx, s.ev hy, Instr.storeAt, Instr.sureAddr, Sem.run_bind, Sem.run_pure, Result.andThen_ok, hr, Oper.upon_skip]
 exact this
theorem H_storeAO {t bt : TypeId} {g off : Nat} {cs cs' vs : List Value} (hx : E.ev x = some (ptr g off)) (hy : E.ev y = some (.agg vs.toArray)) (ht : Aggr P t vs.length) (hl : LimbB H g bt cs F) (h1 : OneL w0 H vs) (hset : pasteL cs off vs = some cs') :
  OpH P n w0 ⟨none, .store t x y, ty, pos, after, gu⟩ E H (fun _ : Unit => undef) (fun _ => cel g bt cs' * F) := OpH.whole fun G a w K Q s hs hK => by
 have h1' := h1.ok w hs.keep
 have hs' : Sat w0 w (cel g bt cs * (F * G)) := hs.cast (by rw [hl.eq, star_assoc])
 obtain ⟨w', hr, hs''⟩ := run_storeVar_cel (P := P) (t := t) (vs := vs) (val := .agg vs.toArray) w hs' ht.size rfl h1' hset
 have := hK () w' (hs''.cast (star_assoc _ _ _).symm)
 simp only [Act.put] at this
 simp only [Oper.wp, execOp, s.ev hx, s.ev hy, Instr.storeAt, Instr.sureAddr, Sem.run_bind, Sem.run_pure, Result.andThen_ok, hr, Oper.upon_skip]
 exact this
theorem H_boxO {d : Option Tmp} {t : TypeId} (hx : E.ev x = some v) (h1 : One w0 H v) : OpH P n w0 ⟨d, .box t x, ty, pos, after, gu⟩ E H (fun g => ptr g 0) (fun g => cel g t [v] * H) := OpH.whole fun G a w K Q s hs hK => by
 have hc : v.cells = [v].toArray := cells_one (h1.ok w hs.keep)
 have hr : (execOp a.eval ⟨d, .box t x, ty, pos, after, gu⟩).run P w = .ok (.value (ptr w.heap.size 0)) (w.alloc (.cells [v].toArray t)) := by
  simp [execOp, s.ev hx, Instr.box, newVar, newRow, hc]
 unfold Oper.wp
 rw [hr]
 exact hK w.heap.size _ ((hs.new t [v].toArray).cast (star_assoc _ _ _).symm)
end
theorem WS_hex {α : Type} {p : α → HProp} {c : Code} (h : ∀ x, WS P n w0 c Q ⟨E, D, p x * F⟩) : WS P n w0 c Q ⟨E, D, hex p * F⟩ := fun a w g => by
 obtain ⟨x, hx⟩ := g.sat.ex
 exact h x a w ⟨g.sees, g.defers, hx⟩
theorem LS_hex {α : Type} {p : α → HProp} (h : ∀ x, LS P n w0 ops Q l' ⟨E, D, p x * F⟩) : LS P n w0 ops Q l' ⟨E, D, hex p * F⟩ := fun a w g => by
 obtain ⟨x, hx⟩ := g.sat.ex
 exact h x a w ⟨g.sees, g.defers, hx⟩
theorem WS_pure {φ : Prop} {c : Code} (h : φ → WS P n w0 c Q ⟨E, D, F⟩) : WS P n w0 c Q ⟨E, D, pure' φ * F⟩ := fun a w g => by
 obtain ⟨hf, hs⟩ := g.sat.pure
 exact h hf a w ⟨g.sees, g.defers, hs⟩
theorem Ent.hex_in {α : Type} {p : α → HProp} (x : α) : Ent (p x * F) (hex p * F) := fun h ⟨a, b, hd, e, hp, hq⟩ => ⟨h, ⟨a, b, hd, e, ⟨x, hp⟩, hq⟩, fun _ _ e => e⟩
theorem Ent.pure_in {φ : Prop} (hf : φ) : Ent F (pure' φ * F) := fun h hh => ⟨h, pure_star.2 ⟨hf, hh⟩, fun _ _ e => e⟩
section
variable {d : Option Tmp} {ty : TypeId} {pos : String} {after : Array Edge} {gu : Option (Nat × Bool)} {x y : Operand}
theorem H_buildSlice0R {α : Type} (f : α → List Value) {t e : TypeId} {size : Nat} (ht : Und P t (.slice e)) (hs : Siz P e size) :
  OpH P n w0 ⟨d, .buildSlice t 0 #[], ty, pos, after, gu⟩ E H (fun v' : Value => v') (fun v' => rows e size f v' [] * H) :=
 (H_buildSlice0 ht hs).weak fun g => ⟨_, rfl, (Ent.drop _ _).trans (Ent.nil _ _ _ _ _)⟩
theorem H_buildSliceR {α : Type} (f : α → List Value) (ys : List α) {t e : TypeId} {len size : Nat} {parts : List (Nat × Operand)} {vs : List (Nat × Value)} {z : Value} {zs cs : List Value} (ht : Und P t (.slice e)) (hz : Zero P e z zs) (hs : Siz P e size) (hl : Nat.beq zs.length size = true) (hsm : Nat.ble (len * size) 16777216 = true) (hpos : Nat.blt 0 (len * size) = true) (hv : E.partsV parts = some vs) (hb : bsL size (zeroRow zs len) vs = some cs) (hf : FixLen f size) (hc : cs = ys.flatMap f) (hm : ys.length = len) (hmax : Nat.ble len 1000000 = true) :
  OpH P n w0 ⟨d, .buildSlice t len parts.toArray, ty, pos, after, gu⟩ E H (fun v' : Value => v') (fun v' => rows e size f v' ys * H) :=
 (H_buildSlice ht hz hs hl hsm hpos hv hb).weak fun g => ⟨_, rfl, Ent.rows_new ys hc hm (Nat.le_of_ble_eq_true hmax)⟩
end
theorem Ent.nilT {α : Type} {e : TypeId} {size : Nat} {f : α → List Value} {A : Option Addr} {F' : HProp} (r : Ent H F') : Ent H (rows e size f (.slice A 0 0) [] * F') := r.trans (Ent.nil _ _ _ _ _)
def getO : List Oper → Nat → Option Oper
 | [], _ => none
 | o :: _, 0 => some o
 | _ :: r, i + 1 => getO r i
def permL (l : List Oper) : List Nat → Option (List Oper)
 | [] => some []
 | i :: r => match getO l i, permL l r with
  | some o, some r' => some (o :: r')
  | _, _ => none
theorem getO_eq : ∀ (l : List Oper) (i : Nat), getO l i = l[i]?
 | [], i => by simp [getO]
 | o :: r, 0 => rfl
 | o :: r, i + 1 => by simp [getO, getO_eq r i]
theorem permL_eq {l : List Oper} : ∀ {idx : List Nat} {l' : List Oper}, permL l idx = some l' → idx.map (l[·]?) = l'.map some
 | [], _, h => by cases h; rfl
 | i :: r, l', h => by
  simp only [permL, getO_eq] at h
  split at h
  ·rename_i o r' h1 h2
   cases h
   simp [h1, permL_eq h2]
  ·cases h
theorem WS_drawA {l l' : List Oper} {id : Nat} (idx : List Nat) (hs : statD P l idx (fun _ => false) 1000 = true) (hl : permL l idx = some l') (h : DL P n w0 l.toArray Q D H emp (fun _ => false) 1000 0 false l' E emp) : WS P n w0 (.region id l.toArray true) Q ⟨E, D, H⟩ :=
 WS_draw idx l' H emp emp _ 1000 hs (by rw [emp_star, star_emp]) (permL_eq hl) h
def inB (bs : List Nat) (k : Nat) : Bool := bs.any (Nat.beq k)
theorem WS_drawK {l l' : List Oper} {id : Nat} (idx : List Nat) (cp : Nat) (bs : List Nat) (hs : statD P l idx (inB bs) cp = true) (hl : permL l idx = some l') (h : DL P n w0 l.toArray Q D emp H (inB bs) cp 0 false l' E emp) : WS P n w0 (.region id l.toArray true) Q ⟨E, D, H⟩ :=
 WS_draw idx l' emp H emp _ cp hs (by rw [star_emp, emp_star]) (permL_eq hl) h
theorem DL_nilR {L : HProp} {B : Nat → Bool} {k cp : Nat} (h : Q .normal ⟨E, D, R * F⟩) : DL P n w0 ops Q D R L B cp k true [] E F := .nil rfl h
theorem DL_nilA {B : Nat → Bool} {k cp : Nat} (h : Q .normal ⟨E, D, R⟩) : DL P n w0 ops Q D R emp B cp k false [] E emp := .nil (by simp only [hp, cond_false]; rw [emp_star, star_emp]) h
theorem DL_callQ {f : FuncId} {args : List Value} {v : Value} {d : Nat} {xs : List Operand} {ts : Array TypeId} {ty : TypeId} {pos : String} {after : Array Edge} {B : Nat → Bool} {L : HProp} {k cp : Nat} {c : Bool} {l : List Oper} (hf : IsFun P f) (hargs : E.evs xs = some args) (spec : Spec P w0 f args R (fun _ : Unit => v) (fun _ => R)) (hd : Nat.blt d n.tmps = true)
  (h : DL P n w0 ops Q D R L B cp (k + 1) c l ((d, v) :: E) F) : DL P n w0 ops Q D R L B cp k c (⟨some d, .call ⟨.value (.func f), xs.toArray, ts⟩, ty, pos, after, none⟩ :: l) E F :=
 DL_tq rfl rfl hd (fun F' a w K Q s hs hK => by
  have key : ∀ X, Sat w0 w (R * X) → (∀ w', Sat w0 w' (R * X) → K (a.put (some d) v) w') → (⟨some d, .call ⟨.value (.func f), xs.toArray, ts⟩, ty, pos, after, none⟩ : Oper).wp P a w K Q := fun X hs hK =>
   T_call (d := some d) (ty := ty) (pos := pos) (after := after) (gu := none) (ts := ts) hf hargs spec X a w K Q s hs fun _ w' hs' => hK w' hs'
  cases c with
  | true => exact key F' hs hK
  | false => exact key (L * F') hs hK) h
end

section
structure Pk where
  ttl : Int
  kind : Int
  hops : Int
  unknown : Bool
  id : UInt32
  dest : UInt32
  destSeq : UInt32
  from_ : UInt32
  fromSeq : UInt32
  life : UInt32
  lost : List (UInt32 × UInt32)
  payload : List UInt8
def Pk.cells (p : Pk) (v : Value) : List Value :=
 [.int .i64 p.ttl, .int .i64 p.kind, .int .i64 p.hops, .bool p.unknown, u32 p.id, u32 p.dest, u32 p.destSeq, u32 p.from_, u32 p.fromSeq, u32 p.life, v, strV p.payload]
def Pk.val (p : Pk) (v : Value) : Value := .agg (p.cells v).toArray
def i64R (n : Int) : Prop := -9223372036854775808 ≤ n ∧ n ≤ 9223372036854775807
structure Pk.Ok (p : Pk) : Prop where
  ttl : i64R p.ttl
  kind : i64R p.kind
  hops : i64R p.hops
  lost : p.lost.length ≤ 100000
  payload : p.payload.length ≤ 100000
def Pk.Fits (p : Pk) : Prop :=
  (1 ≤ p.ttl ∧ p.ttl ≤ 255 ∧ 0 ≤ p.hops ∧ p.hops ≤ 255 ∧ p.payload.length ≤ 16 ∧ p.lost.length ≤ 8) ∧
  ((p.kind = 1 ∧ p.life = 0 ∧ p.lost.length = 0 ∧ p.payload = [] ∧ (p.unknown = false ∨ p.destSeq = 0)) ∨
   (p.kind = 2 ∧ p.unknown = false ∧ p.fromSeq = 0 ∧ p.id = 0 ∧ p.lost.length = 0 ∧ p.payload = []) ∨
   (p.kind = 3 ∧ p.unknown = false ∧ p.fromSeq = 0 ∧ p.hops = 0 ∧ p.destSeq = 0 ∧ p.id = 0 ∧ p.life = 0 ∧ 0 < p.lost.length ∧ p.dest = 0 ∧ p.from_ = 0 ∧ p.payload = []) ∨
   (p.kind = 9 ∧ p.unknown = false ∧ p.fromSeq = 0 ∧ p.hops = 0 ∧ p.destSeq = 0 ∧ p.life = 0 ∧ p.lost.length = 0))
instance (p : Pk) : Decidable p.Fits := by unfold Pk.Fits; infer_instance
def lostC (x : UInt32 × UInt32) : List Value := [u32 x.1, u32 x.2]
instance : FixLen lostC 2 := ⟨fun _ => rfl⟩
theorem lostC_one : ∀ z, ∀ c ∈ lostC z, c.oneCell' = true := by intro z c hc; simp [lostC] at hc; rcases hc with rfl | rfl <;> rfl
def nums32 (l : List UInt32) : List UInt8 := l.flatMap be
def lostB (l : List (UInt32 × UInt32)) : List UInt8 := l.flatMap fun x => be x.1 ++ be x.2
theorem lostB_length (l : List (UInt32 × UInt32)) : (lostB l).length = 8 * l.length := by
 induction l with
 | nil => rfl
 | cons a l ih => simp [lostB, be_length] at ih ⊢; omega
theorem lostB_take_succ (l : List (UInt32 × UInt32)) (k : Nat) (x : UInt32 × UInt32) (h : l[k]? = some x) : lostB (l.take (k + 1)) = lostB (l.take k) ++ be x.1 ++ be x.2 := by
 rw [List.take_add_one, h]; simp [lostB]
def Pk.bytes (p : Pk) : List UInt8 :=
 if p.kind = 1 then [b8 p.ttl, 1, if p.unknown then 8 else 0, 0, b8 p.hops] ++ be p.id ++ be p.dest ++ be p.destSeq ++ be p.from_ ++ be p.fromSeq
 else if p.kind = 2 then [b8 p.ttl, 2, 0, 0, b8 p.hops] ++ be p.dest ++ be p.destSeq ++ be p.from_ ++ be p.life
 else if p.kind = 3 then [b8 p.ttl, 3, 0, 0, b8 p.lost.length] ++ lostB p.lost
 else [b8 p.ttl, 9, 0, 0, b8 p.payload.length] ++ be p.id ++ be p.dest ++ be p.from_ ++ p.payload
end

section
open Go.ChangeShapes Go.WideShapes Go.ChangeAt Go.RowKit Go.Deep
def Dec (t : TypeId) {α : Type} (f : α → List Value) (ok : World → α → Prop) : Prop :=
 ∀ {H : Type} {enc : TypeId × Value → H} {w : World} {base : Nat} {spare : Nat → Bool} {held : Bool} {n : Nat} {c : List Value} {y : DataW H × List MemPlace}, DataW.trod enc Tryz.prog w base spare held n t c = some y → ∃ a, c = f a ∧ ok w a
def i64C (n : Int) : List Value := [.int .i64 n]
def strC (l : List UInt8) : List Value := [strV l]
theorem dec_i64 {t : TypeId} (ht : Tryz.prog.underlying t = some (.int .i64)) : Dec t i64C (fun _ n => i64R n) := fun h => by
 obtain ⟨n, rfl, _, hw⟩ := DataW.trod_int ht h
 exact ⟨n, rfl, wf_i64 hw⟩
theorem dec_str {t : TypeId} (ht : Tryz.prog.underlying t = some .string) : Dec t strC (fun _ l => l.length ≤ maxLen) := fun h => by
 obtain ⟨s, rfl, _, hs⟩ := DataW.trod_string ht h
 refine ⟨s.data.toList, ?_, by simpa using hs⟩
 show [Value.string s] = [Value.string ⟨s.data.toList.toArray⟩]
 simp
def slV {α : Type} (x : Value × List α) : List Value := [x.1]
theorem dec_slice {α : Type} {f : α → List Value} {ok : World → α → Prop} {size : Nat} {t e : TypeId} (hf : ∀ x, (f x).length = size) (hp : 0 < size) (ht : Tryz.prog.underlying t = some (.slice e)) (hC : Tryz.prog.cellsOf e = size) (hd : Dec e f ok) :
  Dec t slV (fun w x => RowsAt w size f x.1 x.2 ∧ ∀ a ∈ x.2, ok w a) := fun {H enc w base spare held n c y} h => by
 rcases open_slice ht h with ⟨rfl, _⟩ | ⟨a, len, cap, m, n, D, Pl, rfl, hb, hl, hm, hmm, hx, hi⟩
 ·exact ⟨(.slice none 0 0, []), rfl, ⟨⟨none, 0, rfl, Nat.le_refl _, Nat.zero_le _⟩, fun k hk => absurd hk (Nat.not_lt_zero _)⟩, fun a ha => by cases ha⟩
 ·have hlm : len ≤ m := by rw [hmm]; split <;> omega
  have key : ∀ i, i < len → ∃ r : α, ok w r ∧ ∀ j u, (f r)[j]? = some u → w.cell? (a.add (i * size + j)) = some u := by
   intro i hi'
   obtain ⟨c, hc, ht'⟩ := hi i (by omega)
   obtain ⟨r, rfl, hr⟩ := hd ht'
   rw [hC] at hc
   obtain ⟨_, _, hat⟩ := World.cells?_some hc
   refine ⟨r, hr, fun j u hu => ?_⟩
   have hj : j < size := by rw [← hf r]; exact (List.getElem?_eq_some_iff.1 hu).1
   rw [← Go.Deep.add_add, hat j hj, hu]
  have build : ∀ k, k ≤ len → ∃ l : List α, l.length = k ∧ (∀ r ∈ l, ok w r) ∧ ∀ i (hi : i < l.length), ∀ j u, (f l[i])[j]? = some u → w.cell? (a.add (i * size + j)) = some u := by
   intro k
   induction k with
   | zero => intro _; exact ⟨[], rfl, by simp, fun i hi => by simp at hi⟩
   | succ k ih =>
    intro hk
    obtain ⟨l, hll, hlo, hlc⟩ := ih (by omega)
    obtain ⟨r, hr1, hr⟩ := key k (by omega)
    refine ⟨l ++ [r], by simp [hll], ?_, fun i hi j u hu => ?_⟩
    ·intro x hx
     rcases List.mem_append.1 hx with hx | hx
     ·exact hlo x hx
     ·simp at hx; subst hx; exact hr1
    ·by_cases hik : i < l.length
     ·rw [List.getElem_append_left hik] at hu
      exact hlc i hik j u hu
     ·simp at hi
      have : i = l.length := by omega
      subst this
      simp at hu
      rw [hll]; exact hr j u hu
  obtain ⟨l, hll, hlo, hlc⟩ := build len (Nat.le_refl _)
  subst hll
  refine ⟨(.slice (some a) l.length cap, l), rfl, ⟨⟨some a, cap, rfl, hl, hm⟩, fun k hk => ?_⟩, hlo⟩
  have hz : 0 < l.length := Nat.lt_of_le_of_lt (Nat.zero_le _) hk
  have h0 : ∃ u, (f l[0])[0]? = some u := ⟨(f l[0])[0]'(by rw [hf]; exact hp), List.getElem?_eq_getElem _⟩
  obtain ⟨u0, hu0⟩ := h0
  have hc0 := hlc 0 hz 0 u0 hu0
  rw [Nat.zero_mul] at hc0
  have hspot : a = ⟨a.block, a.off, none⟩ := by
   obtain ⟨b, o, s⟩ := a
   cases s with
   | none => rfl
   | some s => simp [World.cell?, Addr.add] at hc0; split at hc0 <;> simp at hc0
  refine ⟨a.block, a.off, cap, by rw [← hspot], fun j u hj hu => ?_⟩
  have := hlc k hk j u hu
  rw [hspot, add_lit] at this
  exact this
theorem RowsAt.rdr {α : Type} {w : World} {size : Nat} {f : α → List Value} {v : Value} {l : List α} (h : RowsAt w size f v l) : Rdr w (old w) v α size f l := ⟨fun w' hs => by
 have hs' : Sat w w' (old w * emp) := hs.cast star_emp.symm
 refine ⟨h.form, fun k hk => ?_⟩
 obtain ⟨g, off, cap, hv, hc⟩ := h.cell k hk
 exact ⟨g, off, cap, hv, fun j u hj hu => hs'.old_cell (hc j u hj hu)⟩⟩
theorem Spec.law {f : FuncId} {args : List Value} {w : World} (h : Spec Tryz.prog w f args (old w) (fun _ : Unit => .bool true) (fun _ => old w)) : Calls Tryz.prog f args.toArray w fun e w' => e = .returned (.bool true) ∧ Below w.heap.size w w' :=
 (h emp w ((Sat.start w).cast star_emp.symm)).mono fun e w' ⟨_, he, hs⟩ => ⟨he, hs.ends⟩
theorem dec_arg {t : TypeId} {α : Type} {f : α → List Value} {ok : World → α → Prop} (hd : Dec t f ok) {H : Type} {enc : TypeId × Value → H} {w : World} {base : Nat} {spare : Nat → Bool} {held : Bool} {v : Value} {d : DataW H} {ps : List MemPlace} (h : DataW.Trod enc Tryz.prog w base spare held t v d ps) : ∃ a, v.cells.toList = f a ∧ ok w a := by
 obtain ⟨n, hn⟩ := h
 exact hd hn
end

section
open Go.ChangeShapes Go.WideShapes Go.ChangeAt Go.RowKit Go.Deep
theorem arg_slice {α : Type} {f : α → List Value} {ok : World → α → Prop} {size : Nat} {t e : TypeId} (hf : ∀ x, (f x).length = size) (hp : 0 < size) (ht : Tryz.prog.underlying t = some (.slice e)) (hC : Tryz.prog.cellsOf e = size) (hd : Dec e f ok) {H : Type} {enc : TypeId × Value → H} {w : World} {base : Nat} {spare : Nat → Bool} {held : Bool} {A : Option Addr} {n c : Nat} {d : DataW H} {ps : List MemPlace} (h : DataW.Trod enc Tryz.prog w base spare held t (.slice A n c) d ps) : ∃ l : List α, RowsAt w size f (.slice A n c) l ∧ ∀ a ∈ l, ok w a := by
 obtain ⟨⟨x, l⟩, hc, hR, hl⟩ := dec_arg (dec_slice hf hp ht hC hd) h
 obtain rfl : x = .slice A n c := by simpa [Value.cells, slV] using hc.symm
 exact ⟨l, hR, hl⟩
end

section

instance : Scal Tryz.prog 1 := ⟨by kernel_rfl, by kernel_rfl⟩
instance : Und Tryz.prog 2 (.int .i64) := ⟨by kernel_rfl⟩
instance : Und Tryz.prog 3 (.int .i64) := ⟨by kernel_rfl⟩
instance : Scal Tryz.prog 3 := ⟨by kernel_rfl, by kernel_rfl⟩
instance : Zero Tryz.prog 3 (.int .i64 0) [(.int .i64 0)] := ⟨by kernel_rfl, rfl⟩
instance : Und Tryz.prog 4 .bool := ⟨by kernel_rfl⟩
instance : Scal Tryz.prog 4 := ⟨by kernel_rfl, by kernel_rfl⟩
instance : Zero Tryz.prog 4 (.bool false) [(.bool false)] := ⟨by kernel_rfl, rfl⟩
instance : Und Tryz.prog 5 (.int .u8) := ⟨by kernel_rfl⟩
instance : Scal Tryz.prog 5 := ⟨by kernel_rfl, by kernel_rfl⟩
instance : Zero Tryz.prog 5 (u8 0) [(u8 0)] := ⟨by kernel_rfl, rfl⟩
instance : Und Tryz.prog 9 .string := ⟨by kernel_rfl⟩
instance : Scal Tryz.prog 9 := ⟨by kernel_rfl, by kernel_rfl⟩
instance : Zero Tryz.prog 9 (strV []) [(strV [])] := ⟨by kernel_rfl, rfl⟩
instance : Und Tryz.prog 22 (.slice 28) := ⟨by kernel_rfl⟩
instance : Scal Tryz.prog 22 := ⟨by kernel_rfl, by kernel_rfl⟩
instance : SlTC Tryz.prog 22 28 3 12 := ⟨SlT.of (z := (.agg #[(.bool false), (u32 0), (u32 0)])) Tryz.underlying22 (by kernel_rfl) rfl (by decide)⟩
instance : Und Tryz.prog 23 (.slice 9) := ⟨by kernel_rfl⟩
instance : SlTC Tryz.prog 23 9 1 16 := ⟨SlT.of (z := (strV [])) Tryz.underlying23 (by kernel_rfl) rfl (by decide)⟩
instance : Zero Tryz.prog 23 (.slice none 0 0) [(.slice none 0 0)] := ⟨by kernel_rfl, rfl⟩
instance : Und Tryz.prog 24 (.int .u64) := ⟨by kernel_rfl⟩
instance : Scal Tryz.prog 24 := ⟨by kernel_rfl, by kernel_rfl⟩
instance : Zero Tryz.prog 24 (u64 0) [(u64 0)] := ⟨by kernel_rfl, rfl⟩
instance : Und Tryz.prog 25 (.slice 5) := ⟨by kernel_rfl⟩
instance : Scal Tryz.prog 25 := ⟨by kernel_rfl, by kernel_rfl⟩
instance : SlTC Tryz.prog 25 5 1 1 := ⟨SlT.of (z := (u8 0)) Tryz.underlying25 (by kernel_rfl) rfl (by decide)⟩
instance : Und Tryz.prog 26 (.int .u32) := ⟨by kernel_rfl⟩
instance : Scal Tryz.prog 26 := ⟨by kernel_rfl, by kernel_rfl⟩
instance : Zero Tryz.prog 26 (u32 0) [(u32 0)] := ⟨by kernel_rfl, rfl⟩
instance : Aggr Tryz.prog 28 3 := ⟨by kernel_rfl, by kernel_rfl⟩
instance : Zero Tryz.prog 28 (.agg #[(.bool false), (u32 0), (u32 0)]) [(.bool false), (u32 0), (u32 0)] := ⟨by kernel_rfl, rfl⟩
instance : Fld Tryz.prog 28 0 0 4 := ⟨0, by kernel_rfl⟩
instance : Fld Tryz.prog 28 1 1 26 := ⟨0, by kernel_rfl⟩
instance : Fld Tryz.prog 28 2 2 26 := ⟨0, by kernel_rfl⟩
instance : Places Tryz.prog 28 [(0, 1), (1, 1), (2, 1)] := ⟨by kernel_rfl⟩
instance : Und Tryz.prog 31 (.slice 48) := ⟨by kernel_rfl⟩
instance : Scal Tryz.prog 31 := ⟨by kernel_rfl, by kernel_rfl⟩
instance : SlTC Tryz.prog 31 48 2 24 := ⟨SlT.of (z := (.agg #[(u32 0), (strV [])])) Tryz.underlying31 (by kernel_rfl) rfl (by decide)⟩
instance : Und Tryz.prog 32 (.slice 70) := ⟨by kernel_rfl⟩
instance : Scal Tryz.prog 32 := ⟨by kernel_rfl, by kernel_rfl⟩
instance : SlTC Tryz.prog 32 70 2 24 := ⟨SlT.of (z := (.agg #[(u32 0), (strV [])])) Tryz.underlying32 (by kernel_rfl) rfl (by decide)⟩
instance : Und Tryz.prog 33 (.slice 166) := ⟨by kernel_rfl⟩
instance : Scal Tryz.prog 33 := ⟨by kernel_rfl, by kernel_rfl⟩
instance : SlTC Tryz.prog 33 166 1 8 := ⟨SlT.of (z := (.int .i64 0)) Tryz.underlying33 (by kernel_rfl) rfl (by decide)⟩
instance : Aggr Tryz.prog 35 5 := ⟨by kernel_rfl, by kernel_rfl⟩
instance : Zero Tryz.prog 35 (.agg #[(strV []), (.bool false), (.slice none 0 0), (.slice none 0 0), (.slice none 0 0)]) [(strV []), (.bool false), (.slice none 0 0), (.slice none 0 0), (.slice none 0 0)] := ⟨by kernel_rfl, rfl⟩
instance : Fld Tryz.prog 35 0 0 9 := ⟨0, by kernel_rfl⟩
instance : Fld Tryz.prog 35 1 1 4 := ⟨0, by kernel_rfl⟩
instance : Fld Tryz.prog 35 2 2 31 := ⟨0, by kernel_rfl⟩
instance : Fld Tryz.prog 35 3 3 32 := ⟨0, by kernel_rfl⟩
instance : Fld Tryz.prog 35 4 4 33 := ⟨0, by kernel_rfl⟩
instance : Places Tryz.prog 35 [(0, 1), (1, 1), (2, 1), (3, 1), (4, 1)] := ⟨by kernel_rfl⟩
instance : Und Tryz.prog 41 (.int .i64) := ⟨by kernel_rfl⟩
instance : Scal Tryz.prog 41 := ⟨by kernel_rfl, by kernel_rfl⟩
instance : Und Tryz.prog 42 (.slice 180) := ⟨by kernel_rfl⟩
instance : Scal Tryz.prog 42 := ⟨by kernel_rfl, by kernel_rfl⟩
instance : SlTC Tryz.prog 42 180 2 8 := ⟨SlT.of (z := (.agg #[(u32 0), (u32 0)])) Tryz.underlying42 (by kernel_rfl) rfl (by decide)⟩
instance : Zero Tryz.prog 42 (.slice none 0 0) [(.slice none 0 0)] := ⟨by kernel_rfl, rfl⟩
instance : Aggr Tryz.prog 44 12 := ⟨by kernel_rfl, by kernel_rfl⟩
instance : Zero Tryz.prog 44 (.agg #[(.int .i64 0), (.int .i64 0), (.int .i64 0), (.bool false), (u32 0), (u32 0), (u32 0), (u32 0), (u32 0), (u32 0), (.slice none 0 0), (strV [])]) [(.int .i64 0), (.int .i64 0), (.int .i64 0), (.bool false), (u32 0), (u32 0), (u32 0), (u32 0), (u32 0), (u32 0), (.slice none 0 0), (strV [])] := ⟨by kernel_rfl, rfl⟩
instance : Fld Tryz.prog 44 0 0 3 := ⟨0, by kernel_rfl⟩
instance : Fld Tryz.prog 44 1 1 41 := ⟨0, by kernel_rfl⟩
instance : Fld Tryz.prog 44 2 2 3 := ⟨0, by kernel_rfl⟩
instance : Fld Tryz.prog 44 3 3 4 := ⟨0, by kernel_rfl⟩
instance : Fld Tryz.prog 44 4 4 26 := ⟨0, by kernel_rfl⟩
instance : Fld Tryz.prog 44 5 5 26 := ⟨0, by kernel_rfl⟩
instance : Fld Tryz.prog 44 6 6 26 := ⟨0, by kernel_rfl⟩
instance : Fld Tryz.prog 44 7 7 26 := ⟨0, by kernel_rfl⟩
instance : Fld Tryz.prog 44 8 8 26 := ⟨0, by kernel_rfl⟩
instance : Fld Tryz.prog 44 9 9 26 := ⟨0, by kernel_rfl⟩
instance : Fld Tryz.prog 44 10 10 42 := ⟨0, by kernel_rfl⟩
instance : Fld Tryz.prog 44 11 11 9 := ⟨0, by kernel_rfl⟩
instance : Places Tryz.prog 44 [(0, 1), (1, 1), (2, 1), (3, 1), (4, 1), (5, 1), (6, 1), (7, 1), (8, 1), (9, 1), (10, 1), (11, 1)] := ⟨by kernel_rfl⟩
instance : Aggr Tryz.prog 48 2 := ⟨by kernel_rfl, by kernel_rfl⟩
instance : Zero Tryz.prog 48 (.agg #[(u32 0), (strV [])]) [(u32 0), (strV [])] := ⟨by kernel_rfl, rfl⟩
instance : Fld Tryz.prog 48 0 0 26 := ⟨0, by kernel_rfl⟩
instance : Fld Tryz.prog 48 1 1 9 := ⟨0, by kernel_rfl⟩
instance : Places Tryz.prog 48 [(0, 1), (1, 1)] := ⟨by kernel_rfl⟩
instance : Und Tryz.prog 49 (.slice 53) := ⟨by kernel_rfl⟩
instance : Scal Tryz.prog 49 := ⟨by kernel_rfl, by kernel_rfl⟩
instance : SlTC Tryz.prog 49 53 7 56 := ⟨SlT.of (z := (.agg #[(u32 0), (u32 0), (.int .i64 0), (u32 0), (.bool false), (u64 0), (.slice none 0 0)])) Tryz.underlying49 (by kernel_rfl) rfl (by decide)⟩
instance : Zero Tryz.prog 49 (.slice none 0 0) [(.slice none 0 0)] := ⟨by kernel_rfl, rfl⟩
instance : Und Tryz.prog 51 (.slice 26) := ⟨by kernel_rfl⟩
instance : Scal Tryz.prog 51 := ⟨by kernel_rfl, by kernel_rfl⟩
instance : SlTC Tryz.prog 51 26 1 4 := ⟨SlT.of (z := (u32 0)) Tryz.underlying51 (by kernel_rfl) rfl (by decide)⟩
instance : Aggr Tryz.prog 53 7 := ⟨by kernel_rfl, by kernel_rfl⟩
instance : Zero Tryz.prog 53 (.agg #[(u32 0), (u32 0), (.int .i64 0), (u32 0), (.bool false), (u64 0), (.slice none 0 0)]) [(u32 0), (u32 0), (.int .i64 0), (u32 0), (.bool false), (u64 0), (.slice none 0 0)] := ⟨by kernel_rfl, rfl⟩
instance : Fld Tryz.prog 53 0 0 26 := ⟨0, by kernel_rfl⟩
instance : Fld Tryz.prog 53 1 1 26 := ⟨0, by kernel_rfl⟩
instance : Fld Tryz.prog 53 2 2 3 := ⟨0, by kernel_rfl⟩
instance : Fld Tryz.prog 53 3 3 26 := ⟨0, by kernel_rfl⟩
instance : Fld Tryz.prog 53 4 4 4 := ⟨0, by kernel_rfl⟩
instance : Fld Tryz.prog 53 5 5 24 := ⟨0, by kernel_rfl⟩
instance : Fld Tryz.prog 53 6 6 51 := ⟨0, by kernel_rfl⟩
instance : Places Tryz.prog 53 [(0, 1), (1, 1), (2, 1), (3, 1), (4, 1), (5, 1), (6, 1)] := ⟨by kernel_rfl⟩
instance : Und Tryz.prog 60 (.pointer 108) := ⟨by kernel_rfl⟩
instance : Und Tryz.prog 62 (.slice 3) := ⟨by kernel_rfl⟩
instance : Aggr Tryz.prog 64 6 := ⟨by kernel_rfl, by kernel_rfl⟩
instance : Zero Tryz.prog 64 (.agg #[(.int .i64 0), (.int .i64 0), (.int .i64 0), (.int .i64 0), (.bool false), (strV [])]) [(.int .i64 0), (.int .i64 0), (.int .i64 0), (.int .i64 0), (.bool false), (strV [])] := ⟨by kernel_rfl, rfl⟩
instance : Fld Tryz.prog 64 0 0 3 := ⟨0, by kernel_rfl⟩
instance : Fld Tryz.prog 64 1 1 3 := ⟨0, by kernel_rfl⟩
instance : Fld Tryz.prog 64 2 2 3 := ⟨0, by kernel_rfl⟩
instance : Fld Tryz.prog 64 3 3 3 := ⟨0, by kernel_rfl⟩
instance : Fld Tryz.prog 64 4 4 4 := ⟨0, by kernel_rfl⟩
instance : Fld Tryz.prog 64 5 5 9 := ⟨0, by kernel_rfl⟩
instance : Places Tryz.prog 64 [(0, 1), (1, 1), (2, 1), (3, 1), (4, 1), (5, 1)] := ⟨by kernel_rfl⟩
instance : Und Tryz.prog 65 (.slice 68) := ⟨by kernel_rfl⟩
instance : Scal Tryz.prog 65 := ⟨by kernel_rfl, by kernel_rfl⟩
instance : SlTC Tryz.prog 65 68 7 112 := ⟨SlT.of (z := (.agg #[(.int .i64 0), (.int .i64 0), (strV []), (.bool false), (.slice none 0 0), (.slice none 0 0), (.slice none 0 0)])) Tryz.underlying65 (by kernel_rfl) rfl (by decide)⟩
instance : Aggr Tryz.prog 68 7 := ⟨by kernel_rfl, by kernel_rfl⟩
instance : Zero Tryz.prog 68 (.agg #[(.int .i64 0), (.int .i64 0), (strV []), (.bool false), (.slice none 0 0), (.slice none 0 0), (.slice none 0 0)]) [(.int .i64 0), (.int .i64 0), (strV []), (.bool false), (.slice none 0 0), (.slice none 0 0), (.slice none 0 0)] := ⟨by kernel_rfl, rfl⟩
instance : Fld Tryz.prog 68 0 0 3 := ⟨0, by kernel_rfl⟩
instance : Fld Tryz.prog 68 2 2 35 := ⟨4, by kernel_rfl⟩
instance : Places Tryz.prog 68 [(0, 1), (1, 1), (2, 5)] := ⟨by kernel_rfl⟩
instance : Aggr Tryz.prog 70 2 := ⟨by kernel_rfl, by kernel_rfl⟩
instance : Zero Tryz.prog 70 (.agg #[(u32 0), (strV [])]) [(u32 0), (strV [])] := ⟨by kernel_rfl, rfl⟩
instance : Fld Tryz.prog 70 0 0 26 := ⟨0, by kernel_rfl⟩
instance : Fld Tryz.prog 70 1 1 9 := ⟨0, by kernel_rfl⟩
instance : Places Tryz.prog 70 [(0, 1), (1, 1)] := ⟨by kernel_rfl⟩
instance : Und Tryz.prog 72 (.slice 114) := ⟨by kernel_rfl⟩
instance : Scal Tryz.prog 72 := ⟨by kernel_rfl, by kernel_rfl⟩
instance : SlTC Tryz.prog 72 114 3 32 := ⟨SlT.of (z := (.agg #[(.int .i64 0), (.int .i64 0), (strV [])])) Tryz.underlying72 (by kernel_rfl) rfl (by decide)⟩
instance : Und Tryz.prog 90 (.pointer 159) := ⟨by kernel_rfl⟩
instance : Scal Tryz.prog 90 := ⟨by kernel_rfl, by kernel_rfl⟩
instance : Und Tryz.prog 103 (.slice 115) := ⟨by kernel_rfl⟩
instance : Scal Tryz.prog 103 := ⟨by kernel_rfl, by kernel_rfl⟩
instance : SlTC Tryz.prog 103 115 1 8 := ⟨SlT.of (z := (.pointer none)) Tryz.underlying103 (by kernel_rfl) rfl (by decide)⟩
instance : Und Tryz.prog 104 (.map 26 3) := ⟨by kernel_rfl⟩
instance : Scal Tryz.prog 104 := ⟨by kernel_rfl, by kernel_rfl⟩
instance : Und Tryz.prog 105 (.array 6 4) := ⟨by kernel_rfl⟩
instance : Aggr Tryz.prog 105 6 := ⟨by kernel_rfl, by kernel_rfl⟩
instance : Und Tryz.prog 106 (.array 6 105) := ⟨by kernel_rfl⟩
instance : Fld Tryz.prog 108 0 0 103 := ⟨0, by kernel_rfl⟩
instance : Fld Tryz.prog 108 1 1 104 := ⟨0, by kernel_rfl⟩
instance : Fld Tryz.prog 108 2 2 106 := ⟨35, by kernel_rfl⟩
instance : Fld Tryz.prog 108 3 38 72 := ⟨0, by kernel_rfl⟩
instance : Fld Tryz.prog 108 4 39 24 := ⟨0, by kernel_rfl⟩
instance : Fld Tryz.prog 108 5 40 65 := ⟨0, by kernel_rfl⟩
instance : Places Tryz.prog 108 [(0, 1), (1, 1), (2, 36), (38, 1), (39, 1), (40, 1)] := ⟨by kernel_rfl⟩
instance : Aggr Tryz.prog 114 3 := ⟨by kernel_rfl, by kernel_rfl⟩
instance : Zero Tryz.prog 114 (.agg #[(.int .i64 0), (.int .i64 0), (strV [])]) [(.int .i64 0), (.int .i64 0), (strV [])] := ⟨by kernel_rfl, rfl⟩
instance : Fld Tryz.prog 114 0 0 3 := ⟨0, by kernel_rfl⟩
instance : Fld Tryz.prog 114 1 1 3 := ⟨0, by kernel_rfl⟩
instance : Fld Tryz.prog 114 2 2 9 := ⟨0, by kernel_rfl⟩
instance : Places Tryz.prog 114 [(0, 1), (1, 1), (2, 1)] := ⟨by kernel_rfl⟩
instance : Und Tryz.prog 115 (.pointer 118) := ⟨by kernel_rfl⟩
instance : Scal Tryz.prog 115 := ⟨by kernel_rfl, by kernel_rfl⟩
instance : Zero Tryz.prog 115 (.pointer none) [(.pointer none)] := ⟨by kernel_rfl, rfl⟩
instance : Zero Tryz.prog 118 (.agg #[(u32 0), (.pointer none), (.slice none 0 0), (.int .i64 0), (.bool false)]) [(u32 0), (.pointer none), (.slice none 0 0), (.int .i64 0), (.bool false)] := ⟨by kernel_rfl, rfl⟩
instance : Fld Tryz.prog 118 0 0 26 := ⟨0, by kernel_rfl⟩
instance : Fld Tryz.prog 118 1 1 90 := ⟨0, by kernel_rfl⟩
instance : Fld Tryz.prog 118 2 2 25 := ⟨0, by kernel_rfl⟩
instance : Fld Tryz.prog 118 3 3 3 := ⟨0, by kernel_rfl⟩
instance : Fld Tryz.prog 118 4 4 4 := ⟨0, by kernel_rfl⟩
instance : Places Tryz.prog 118 [(0, 1), (1, 1), (2, 1), (3, 1), (4, 1)] := ⟨by kernel_rfl⟩
instance : Scal Tryz.prog 139 := ⟨by kernel_rfl, by kernel_rfl⟩
instance : Und Tryz.prog 141 (.map 26 26) := ⟨by kernel_rfl⟩
instance : Scal Tryz.prog 141 := ⟨by kernel_rfl, by kernel_rfl⟩
instance : Zero Tryz.prog 143 (.agg #[(.slice none 0 0), (u32 0), (.map none)]) [(.slice none 0 0), (u32 0), (.map none)] := ⟨by kernel_rfl, rfl⟩
instance : Fld Tryz.prog 143 0 0 22 := ⟨0, by kernel_rfl⟩
instance : Fld Tryz.prog 143 1 1 26 := ⟨0, by kernel_rfl⟩
instance : Fld Tryz.prog 143 2 2 141 := ⟨0, by kernel_rfl⟩
instance : Places Tryz.prog 143 [(0, 1), (1, 1), (2, 1)] := ⟨by kernel_rfl⟩
instance : Und Tryz.prog 144 (.map 269 24) := ⟨by kernel_rfl⟩
instance : Scal Tryz.prog 144 := ⟨by kernel_rfl, by kernel_rfl⟩
instance : Und Tryz.prog 145 (.map 26 23) := ⟨by kernel_rfl⟩
instance : Scal Tryz.prog 145 := ⟨by kernel_rfl, by kernel_rfl⟩
instance : Und Tryz.prog 146 (.map 26 245) := ⟨by kernel_rfl⟩
instance : Scal Tryz.prog 146 := ⟨by kernel_rfl, by kernel_rfl⟩
instance : Und Tryz.prog 147 (.map 3 245) := ⟨by kernel_rfl⟩
instance : Scal Tryz.prog 147 := ⟨by kernel_rfl, by kernel_rfl⟩
instance : Scal Tryz.prog 148 := ⟨by kernel_rfl, by kernel_rfl⟩
instance : Zero Tryz.prog 150 (.agg #[]) [] := ⟨by kernel_rfl, rfl⟩
instance : Places Tryz.prog 150 [] := ⟨by kernel_rfl⟩
instance : Fld Tryz.prog 155 1 0 153 := ⟨1, by kernel_rfl⟩
instance : Und Tryz.prog 156 (.slice 269) := ⟨by kernel_rfl⟩
instance : Scal Tryz.prog 156 := ⟨by kernel_rfl, by kernel_rfl⟩
instance : SlTC Tryz.prog 156 269 2 8 := ⟨SlT.of (z := (.agg #[(u32 0), (u32 0)])) Tryz.underlying156 (by kernel_rfl) rfl (by decide)⟩
instance : Und Tryz.prog 157 (.slice 24) := ⟨by kernel_rfl⟩
instance : Scal Tryz.prog 157 := ⟨by kernel_rfl, by kernel_rfl⟩
instance : SlTC Tryz.prog 157 24 1 8 := ⟨SlT.of (z := (u64 0)) Tryz.underlying157 (by kernel_rfl) rfl (by decide)⟩
instance : Zero Tryz.prog 159 (.agg #[(.int .i32 0), (u32 0), (u32 0), (u32 0), (.pointer none), (.slice none 0 0), (u32 0), (.map none), (u64 0), (.map none), (.slice none 0 0), (.map none), (.map none), (.map none), (.pointer none), (.int .i64 0), (u32 0), (u32 0), (.slice none 0 0), (u64 0), (strV []), (.bool false), (.slice none 0 0), (.slice none 0 0), (.slice none 0 0)]) [(.int .i32 0), (u32 0), (u32 0), (u32 0), (.pointer none), (.slice none 0 0), (u32 0), (.map none), (u64 0), (.map none), (.slice none 0 0), (.map none), (.map none), (.map none), (.pointer none), (.int .i64 0), (u32 0), (u32 0), (.slice none 0 0), (u64 0), (strV []), (.bool false), (.slice none 0 0), (.slice none 0 0), (.slice none 0 0)] := ⟨by kernel_rfl, rfl⟩
instance : Fld Tryz.prog 159 0 0 155 := ⟨1, by kernel_rfl⟩
instance : Fld Tryz.prog 159 1 2 26 := ⟨0, by kernel_rfl⟩
instance : Fld Tryz.prog 159 2 3 26 := ⟨0, by kernel_rfl⟩
instance : Fld Tryz.prog 159 3 4 139 := ⟨0, by kernel_rfl⟩
instance : Fld Tryz.prog 159 4 5 143 := ⟨2, by kernel_rfl⟩
instance : Fld Tryz.prog 159 5 8 24 := ⟨0, by kernel_rfl⟩
instance : Fld Tryz.prog 159 6 9 144 := ⟨0, by kernel_rfl⟩
instance : Fld Tryz.prog 159 7 10 156 := ⟨0, by kernel_rfl⟩
instance : Fld Tryz.prog 159 8 11 145 := ⟨0, by kernel_rfl⟩
instance : Fld Tryz.prog 159 9 12 146 := ⟨0, by kernel_rfl⟩
instance : Fld Tryz.prog 159 10 13 147 := ⟨0, by kernel_rfl⟩
instance : Fld Tryz.prog 159 11 14 148 := ⟨0, by kernel_rfl⟩
instance : Fld Tryz.prog 159 12 15 3 := ⟨0, by kernel_rfl⟩
instance : Fld Tryz.prog 159 13 16 26 := ⟨0, by kernel_rfl⟩
instance : Fld Tryz.prog 159 14 17 26 := ⟨0, by kernel_rfl⟩
instance : Fld Tryz.prog 159 15 18 157 := ⟨0, by kernel_rfl⟩
instance : Fld Tryz.prog 159 16 19 24 := ⟨0, by kernel_rfl⟩
instance : Fld Tryz.prog 159 17 20 35 := ⟨4, by kernel_rfl⟩
instance : Places Tryz.prog 159 [(0, 2), (2, 1), (3, 1), (4, 1), (5, 3), (8, 1), (9, 1), (10, 1), (11, 1), (12, 1), (13, 1), (14, 1), (15, 1), (16, 1), (17, 1), (18, 1), (19, 1), (20, 5)] := ⟨by kernel_rfl⟩
instance : Scal Tryz.prog 166 := ⟨by kernel_rfl, by kernel_rfl⟩
instance : Zero Tryz.prog 166 (.int .i64 0) [(.int .i64 0)] := ⟨by kernel_rfl, rfl⟩
instance : Zero Tryz.prog 171 .nilFunc [.nilFunc] := ⟨by kernel_rfl, rfl⟩
instance : Und Tryz.prog 172 (.map 41 171) := ⟨by kernel_rfl⟩
instance : Zero Tryz.prog 176 (.agg #[(.slice none 0 0)]) [(.slice none 0 0)] := ⟨by kernel_rfl, rfl⟩
instance : Fld Tryz.prog 176 0 0 25 := ⟨0, by kernel_rfl⟩
instance : Places Tryz.prog 176 [(0, 1)] := ⟨by kernel_rfl⟩
instance : Aggr Tryz.prog 180 2 := ⟨by kernel_rfl, by kernel_rfl⟩
instance : Zero Tryz.prog 180 (.agg #[(u32 0), (u32 0)]) [(u32 0), (u32 0)] := ⟨by kernel_rfl, rfl⟩
instance : Fld Tryz.prog 180 0 0 26 := ⟨0, by kernel_rfl⟩
instance : Fld Tryz.prog 180 1 1 26 := ⟨0, by kernel_rfl⟩
instance : Places Tryz.prog 180 [(0, 1), (1, 1)] := ⟨by kernel_rfl⟩
instance : Und Tryz.prog 213 (.int .u64) := ⟨by kernel_rfl⟩
instance : Und Tryz.prog 214 (.map 26 226) := ⟨by kernel_rfl⟩
instance : Scal Tryz.prog 214 := ⟨by kernel_rfl, by kernel_rfl⟩
instance : Zero Tryz.prog 216 (.agg #[(u32 0), (.map none)]) [(u32 0), (.map none)] := ⟨by kernel_rfl, rfl⟩
instance : Fld Tryz.prog 216 0 0 26 := ⟨0, by kernel_rfl⟩
instance : Fld Tryz.prog 216 1 1 214 := ⟨0, by kernel_rfl⟩
instance : Places Tryz.prog 216 [(0, 1), (1, 1)] := ⟨by kernel_rfl⟩
instance : Und Tryz.prog 219 (.map 3 3) := ⟨by kernel_rfl⟩
instance : Scal Tryz.prog 219 := ⟨by kernel_rfl, by kernel_rfl⟩
instance : Und Tryz.prog 220 (.slice 292) := ⟨by kernel_rfl⟩
instance : Scal Tryz.prog 220 := ⟨by kernel_rfl, by kernel_rfl⟩
instance : SlTC Tryz.prog 220 292 3 24 := ⟨SlT.of (z := (.agg #[(u64 0), (.int .i64 0), (.int .i64 0)])) Tryz.underlying220 (by kernel_rfl) rfl (by decide)⟩
instance : Zero Tryz.prog 222 (.agg #[(.slice none 0 0), (.map none), (.int .i64 0)]) [(.slice none 0 0), (.map none), (.int .i64 0)] := ⟨by kernel_rfl, rfl⟩
instance : Fld Tryz.prog 222 0 0 220 := ⟨0, by kernel_rfl⟩
instance : Fld Tryz.prog 222 1 1 219 := ⟨0, by kernel_rfl⟩
instance : Fld Tryz.prog 222 2 2 3 := ⟨0, by kernel_rfl⟩
instance : Places Tryz.prog 222 [(0, 1), (1, 1), (2, 1)] := ⟨by kernel_rfl⟩
instance : Zero Tryz.prog 226 (.pointer none) [(.pointer none)] := ⟨by kernel_rfl, rfl⟩
instance : Und Tryz.prog 228 (.map 26 150) := ⟨by kernel_rfl⟩
instance : Scal Tryz.prog 228 := ⟨by kernel_rfl, by kernel_rfl⟩
instance : Zero Tryz.prog 230 (.agg #[(u32 0), (u32 0), (.int .i64 0), (u32 0), (.bool false), (u64 0), (.slice none 0 0), (.map none)]) [(u32 0), (u32 0), (.int .i64 0), (u32 0), (.bool false), (u64 0), (.slice none 0 0), (.map none)] := ⟨by kernel_rfl, rfl⟩
instance : Fld Tryz.prog 230 0 0 53 := ⟨6, by kernel_rfl⟩
instance : Fld Tryz.prog 230 1 7 228 := ⟨0, by kernel_rfl⟩
instance : Places Tryz.prog 230 [(0, 7), (7, 1)] := ⟨by kernel_rfl⟩
instance : Zero Tryz.prog 232 (.agg #[]) [] := ⟨by kernel_rfl, rfl⟩
instance : Places Tryz.prog 232 [] := ⟨by kernel_rfl⟩
instance : Und Tryz.prog 245 (.pointer 247) := ⟨by kernel_rfl⟩
instance : Zero Tryz.prog 245 (.pointer none) [(.pointer none)] := ⟨by kernel_rfl, rfl⟩
instance : Zero Tryz.prog 247 (.agg #[(u32 0), (.int .i64 0), (.int .i64 0), (.bool false), (.int .i64 0), .nilFunc, (.pointer none)]) [(u32 0), (.int .i64 0), (.int .i64 0), (.bool false), (.int .i64 0), .nilFunc, (.pointer none)] := ⟨by kernel_rfl, rfl⟩
instance : Fld Tryz.prog 247 0 0 26 := ⟨0, by kernel_rfl⟩
instance : Fld Tryz.prog 247 1 1 3 := ⟨0, by kernel_rfl⟩
instance : Fld Tryz.prog 247 2 2 3 := ⟨0, by kernel_rfl⟩
instance : Fld Tryz.prog 247 3 3 4 := ⟨0, by kernel_rfl⟩
instance : Fld Tryz.prog 247 4 4 3 := ⟨0, by kernel_rfl⟩
instance : Fld Tryz.prog 247 5 5 1 := ⟨0, by kernel_rfl⟩
instance : Fld Tryz.prog 247 6 6 90 := ⟨0, by kernel_rfl⟩
instance : Places Tryz.prog 247 [(0, 1), (1, 1), (2, 1), (3, 1), (4, 1), (5, 1), (6, 1)] := ⟨by kernel_rfl⟩
instance : Und Tryz.prog 252 (.map 28 26) := ⟨by kernel_rfl⟩
instance : Scal Tryz.prog 252 := ⟨by kernel_rfl, by kernel_rfl⟩
instance : Aggr Tryz.prog 269 2 := ⟨by kernel_rfl, by kernel_rfl⟩
instance : Zero Tryz.prog 269 (.agg #[(u32 0), (u32 0)]) [(u32 0), (u32 0)] := ⟨by kernel_rfl, rfl⟩
instance : Places Tryz.prog 269 [(0, 1), (1, 1)] := ⟨by kernel_rfl⟩
instance : Aggr Tryz.prog 292 3 := ⟨by kernel_rfl, by kernel_rfl⟩
instance : Zero Tryz.prog 292 (.agg #[(u64 0), (.int .i64 0), (.int .i64 0)]) [(u64 0), (.int .i64 0), (.int .i64 0)] := ⟨by kernel_rfl, rfl⟩
instance : Fld Tryz.prog 292 0 0 24 := ⟨0, by kernel_rfl⟩
instance : Fld Tryz.prog 292 1 1 3 := ⟨0, by kernel_rfl⟩
instance : Fld Tryz.prog 292 2 2 3 := ⟨0, by kernel_rfl⟩
instance : Places Tryz.prog 292 [(0, 1), (1, 1), (2, 1)] := ⟨by kernel_rfl⟩
instance : Und Tryz.prog 304 (.array 5 26) := ⟨by kernel_rfl⟩
instance : Zero Tryz.prog 304 (.agg #[(u32 0), (u32 0), (u32 0), (u32 0), (u32 0)]) [(u32 0), (u32 0), (u32 0), (u32 0), (u32 0)] := ⟨by kernel_rfl, rfl⟩
instance : Und Tryz.prog 305 (.array 4 26) := ⟨by kernel_rfl⟩
instance : Zero Tryz.prog 305 (.agg #[(u32 0), (u32 0), (u32 0), (u32 0)]) [(u32 0), (u32 0), (u32 0), (u32 0)] := ⟨by kernel_rfl, rfl⟩
instance : Und Tryz.prog 306 (.array 3 26) := ⟨by kernel_rfl⟩
instance : Zero Tryz.prog 306 (.agg #[(u32 0), (u32 0), (u32 0)]) [(u32 0), (u32 0), (u32 0)] := ⟨by kernel_rfl, rfl⟩
instance : IsFun Tryz.prog 17 := ⟨_, Tryz.func17, by decide +kernel, rfl⟩
instance : IsFun Tryz.prog 18 := ⟨_, Tryz.func18, by decide +kernel, rfl⟩
instance : IsFun Tryz.prog 19 := ⟨_, Tryz.func19, by decide +kernel, rfl⟩
instance : IsFun Tryz.prog 20 := ⟨_, Tryz.func20, by decide +kernel, rfl⟩
instance : IsFun Tryz.prog 26 := ⟨_, Tryz.func26, by decide +kernel, rfl⟩
instance : IsFun Tryz.prog 31 := ⟨_, Tryz.func31, by decide +kernel, rfl⟩
instance : IsFun Tryz.prog 32 := ⟨_, Tryz.func32, by decide +kernel, rfl⟩
instance : IsFun Tryz.prog 34 := ⟨_, Tryz.func34, by decide +kernel, rfl⟩
instance : IsFun Tryz.prog 35 := ⟨_, Tryz.func35, by decide +kernel, rfl⟩
instance : IsFun Tryz.prog 39 := ⟨_, Tryz.func39, by decide +kernel, rfl⟩
instance : IsFun Tryz.prog 40 := ⟨_, Tryz.func40, by decide +kernel, rfl⟩
instance : IsFun Tryz.prog 41 := ⟨_, Tryz.func41, by decide +kernel, rfl⟩
instance : IsFun Tryz.prog 42 := ⟨_, Tryz.func42, by decide +kernel, rfl⟩
instance : IsFun Tryz.prog 43 := ⟨_, Tryz.func43, by decide +kernel, rfl⟩
instance : IsFun Tryz.prog 54 := ⟨_, Tryz.func54, by decide +kernel, rfl⟩
instance : IsFun Tryz.prog 55 := ⟨_, Tryz.func55, by decide +kernel, rfl⟩
instance : IsFun Tryz.prog 56 := ⟨_, Tryz.func56, by decide +kernel, rfl⟩
instance : IsFun Tryz.prog 57 := ⟨_, Tryz.func57, by decide +kernel, rfl⟩
instance : IsFun Tryz.prog 58 := ⟨_, Tryz.func58, by decide +kernel, rfl⟩
instance : IsFun Tryz.prog 59 := ⟨_, Tryz.func59, by decide +kernel, rfl⟩
instance : IsFun Tryz.prog 60 := ⟨_, Tryz.func60, by decide +kernel, rfl⟩
instance : IsFun Tryz.prog 61 := ⟨_, Tryz.func61, by decide +kernel, rfl⟩
instance : IsFun Tryz.prog 62 := ⟨_, Tryz.func62, by decide +kernel, rfl⟩
instance : IsFun Tryz.prog 63 := ⟨_, Tryz.func63, by decide +kernel, rfl⟩
instance : IsFun Tryz.prog 64 := ⟨_, Tryz.func64, by decide +kernel, rfl⟩
instance : IsFun Tryz.prog 65 := ⟨_, Tryz.func65, by decide +kernel, rfl⟩
instance : IsFun Tryz.prog 66 := ⟨_, Tryz.func66, by decide +kernel, rfl⟩
instance : IsFun Tryz.prog 67 := ⟨_, Tryz.func67, by decide +kernel, rfl⟩
instance : IsFun Tryz.prog 68 := ⟨_, Tryz.func68, by decide +kernel, rfl⟩
instance : IsFun Tryz.prog 69 := ⟨_, Tryz.func69, by decide +kernel, rfl⟩
instance : IsFun Tryz.prog 70 := ⟨_, Tryz.func70, by decide +kernel, rfl⟩
instance : IsFun Tryz.prog 71 := ⟨_, Tryz.func71, by decide +kernel, rfl⟩
instance : IsFun Tryz.prog 72 := ⟨_, Tryz.func72, by decide +kernel, rfl⟩
instance : IsFun Tryz.prog 73 := ⟨_, Tryz.func73, by decide +kernel, rfl⟩
instance : IsFun Tryz.prog 74 := ⟨_, Tryz.func74, by decide +kernel, rfl⟩
instance : IsFun Tryz.prog 75 := ⟨_, Tryz.func75, by decide +kernel, rfl⟩
instance : IsFun Tryz.prog 84 := ⟨_, Tryz.func84, by decide +kernel, rfl⟩
instance : IsFun Tryz.prog 85 := ⟨_, Tryz.func85, by decide +kernel, rfl⟩
instance : IsFun Tryz.prog 86 := ⟨_, Tryz.func86, by decide +kernel, rfl⟩
instance : IsFun Tryz.prog 87 := ⟨_, Tryz.func87, by decide +kernel, rfl⟩
instance : IsFun Tryz.prog 88 := ⟨_, Tryz.func88, by decide +kernel, rfl⟩
instance : IsFun Tryz.prog 89 := ⟨_, Tryz.func89, by decide +kernel, rfl⟩
instance : IsFun Tryz.prog 90 := ⟨_, Tryz.func90, by decide +kernel, rfl⟩
instance : IsFun Tryz.prog 108 := ⟨_, Tryz.func108, by decide +kernel, rfl⟩
instance : IsFun Tryz.prog 109 := ⟨_, Tryz.func109, by decide +kernel, rfl⟩
instance : IsFun Tryz.prog 110 := ⟨_, Tryz.func110, by decide +kernel, rfl⟩
instance : IsFun Tryz.prog 111 := ⟨_, Tryz.func111, by decide +kernel, rfl⟩
instance : IsFun Tryz.prog 112 := ⟨_, Tryz.func112, by decide +kernel, rfl⟩
instance : IsFun Tryz.prog 114 := ⟨_, Tryz.func114, by decide +kernel, rfl⟩
instance : IsFun Tryz.prog 115 := ⟨_, Tryz.func115, by decide +kernel, rfl⟩
instance : IsFun Tryz.prog 116 := ⟨_, Tryz.func116, by decide +kernel, rfl⟩
instance : IsFun Tryz.prog 117 := ⟨_, Tryz.func117, by decide +kernel, rfl⟩
instance : IsFun Tryz.prog 118 := ⟨_, Tryz.func118, by decide +kernel, rfl⟩
instance : IsFun Tryz.prog 119 := ⟨_, Tryz.func119, by decide +kernel, rfl⟩
instance : IsFun Tryz.prog 120 := ⟨_, Tryz.func120, by decide +kernel, rfl⟩
instance : IsFun Tryz.prog 121 := ⟨_, Tryz.func121, by decide +kernel, rfl⟩
instance : IsFun Tryz.prog 122 := ⟨_, Tryz.func122, by decide +kernel, rfl⟩
instance : IsFun Tryz.prog 123 := ⟨_, Tryz.func123, by decide +kernel, rfl⟩
instance : IsFun Tryz.prog 136 := ⟨_, Tryz.func136, by decide +kernel, rfl⟩
instance : IsFun Tryz.prog 141 := ⟨_, Tryz.func141, by decide +kernel, rfl⟩
instance : IsFun Tryz.prog 142 := ⟨_, Tryz.func142, by decide +kernel, rfl⟩
instance : IsFun Tryz.prog 143 := ⟨_, Tryz.func143, by decide +kernel, rfl⟩
instance : IsFun Tryz.prog 144 := ⟨_, Tryz.func144, by decide +kernel, rfl⟩
instance : IsFun Tryz.prog 145 := ⟨_, Tryz.func145, by decide +kernel, rfl⟩
instance : IsFun Tryz.prog 146 := ⟨_, Tryz.func146, by decide +kernel, rfl⟩
instance : IsFun Tryz.prog 156 := ⟨_, Tryz.func156, by decide +kernel, rfl⟩
instance : IsFun Tryz.prog 157 := ⟨_, Tryz.func157, by decide +kernel, rfl⟩
instance : IsFun Tryz.prog 168 := ⟨_, Tryz.func168, by decide +kernel, rfl⟩
instance : IsFun Tryz.prog 169 := ⟨_, Tryz.func169, by decide +kernel, rfl⟩
instance : IsFun Tryz.prog 170 := ⟨_, Tryz.func170, by decide +kernel, rfl⟩
instance : IsFun Tryz.prog 171 := ⟨_, Tryz.func171, by decide +kernel, rfl⟩
instance : IsFun Tryz.prog 172 := ⟨_, Tryz.func172, by decide +kernel, rfl⟩
instance : IsFun Tryz.prog 173 := ⟨_, Tryz.func173, by decide +kernel, rfl⟩
instance : IsFun Tryz.prog 174 := ⟨_, Tryz.func174, by decide +kernel, rfl⟩
instance : IsFun Tryz.prog 175 := ⟨_, Tryz.func175, by decide +kernel, rfl⟩
instance : IsFun Tryz.prog 176 := ⟨_, Tryz.func176, by decide +kernel, rfl⟩
instance : IsFun Tryz.prog 177 := ⟨_, Tryz.func177, by decide +kernel, rfl⟩
instance : IsFun Tryz.prog 178 := ⟨_, Tryz.func178, by decide +kernel, rfl⟩
instance : IsFun Tryz.prog 179 := ⟨_, Tryz.func179, by decide +kernel, rfl⟩
instance : IsFun Tryz.prog 180 := ⟨_, Tryz.func180, by decide +kernel, rfl⟩
instance : IsFun Tryz.prog 181 := ⟨_, Tryz.func181, by decide +kernel, rfl⟩
instance : IsFun Tryz.prog 182 := ⟨_, Tryz.func182, by decide +kernel, rfl⟩
instance : IsFun Tryz.prog 183 := ⟨_, Tryz.func183, by decide +kernel, rfl⟩
instance : IsFun Tryz.prog 193 := ⟨_, Tryz.func193, by decide +kernel, rfl⟩
instance : IsFun Tryz.prog 194 := ⟨_, Tryz.func194, by decide +kernel, rfl⟩
instance : IsFun Tryz.prog 196 := ⟨_, Tryz.func196, by decide +kernel, rfl⟩
instance : IsFun Tryz.prog 197 := ⟨_, Tryz.func197, by decide +kernel, rfl⟩
instance : IsFun Tryz.prog 198 := ⟨_, Tryz.func198, by decide +kernel, rfl⟩
instance : IsFun Tryz.prog 201 := ⟨_, Tryz.func201, by decide +kernel, rfl⟩
instance : IsFun Tryz.prog 202 := ⟨_, Tryz.func202, by decide +kernel, rfl⟩
instance : IsFun Tryz.prog 203 := ⟨_, Tryz.func203, by decide +kernel, rfl⟩
instance : IsFun Tryz.prog 204 := ⟨_, Tryz.func204, by decide +kernel, rfl⟩
instance : IsFun Tryz.prog 212 := ⟨_, Tryz.func212, by decide +kernel, rfl⟩
instance : IsFun Tryz.prog 213 := ⟨_, Tryz.func213, by decide +kernel, rfl⟩
instance : IsFun Tryz.prog 214 := ⟨_, Tryz.func214, by decide +kernel, rfl⟩
instance : IsFun Tryz.prog 215 := ⟨_, Tryz.func215, by decide +kernel, rfl⟩
instance : IsFun Tryz.prog 216 := ⟨_, Tryz.func216, by decide +kernel, rfl⟩
instance : IsFun Tryz.prog 217 := ⟨_, Tryz.func217, by decide +kernel, rfl⟩
instance : IsFun Tryz.prog 218 := ⟨_, Tryz.func218, by decide +kernel, rfl⟩
instance : IsFun Tryz.prog 219 := ⟨_, Tryz.func219, by decide +kernel, rfl⟩
instance : IsFun Tryz.prog 222 := ⟨_, Tryz.func222, by decide +kernel, rfl⟩
instance : IsFun Tryz.prog 223 := ⟨_, Tryz.func223, by decide +kernel, rfl⟩
instance : IsFun Tryz.prog 224 := ⟨_, Tryz.func224, by decide +kernel, rfl⟩
instance : IsFun Tryz.prog 225 := ⟨_, Tryz.func225, by decide +kernel, rfl⟩
instance : IsFun Tryz.prog 226 := ⟨_, Tryz.func226, by decide +kernel, rfl⟩
instance : IsFun Tryz.prog 227 := ⟨_, Tryz.func227, by decide +kernel, rfl⟩
instance : IsFun Tryz.prog 228 := ⟨_, Tryz.func228, by decide +kernel, rfl⟩
instance : IsFun Tryz.prog 230 := ⟨_, Tryz.func230, by decide +kernel, rfl⟩
instance : IsFun Tryz.prog 231 := ⟨_, Tryz.func231, by decide +kernel, rfl⟩
instance : IsFun Tryz.prog 232 := ⟨_, Tryz.func232, by decide +kernel, rfl⟩
instance : IsFun Tryz.prog 233 := ⟨_, Tryz.func233, by decide +kernel, rfl⟩
instance : IsFun Tryz.prog 244 := ⟨_, Tryz.func244, by decide +kernel, rfl⟩
instance : IsFun Tryz.prog 250 := ⟨_, Tryz.func250, by decide +kernel, rfl⟩
end

section
open Go.RowKit
variable {P : Program} {n : Frm} {w0 : World} {E : Env} {D : List Deferred} {H F F2 R : HProp} {ops : Array Oper} {l' : List Oper} {Q : Exit → St → Prop} {w : World}
class PureOf (H : HProp) (φ : outParam Prop) (F : outParam HProp) : Prop where
  eq : H = pure' φ * F
instance pureOf_head (φ : Prop) (F : HProp) : PureOf (pure' φ * F) φ F := ⟨rfl⟩
instance (priority := low) pureOf_left (X H F : HProp) (φ : Prop) [h : PureOf X φ F] : PureOf (X * H) φ (F * H) := ⟨by rw [h.eq, star_assoc]⟩
theorem LS_pureI {φ : Prop} (hp : PureOf H φ F) (h : φ → LS P n w0 ops Q l' ⟨E, D, F⟩) : LS P n w0 ops Q l' ⟨E, D, H⟩ := fun a w g => by
 obtain ⟨h1, h2⟩ := (g.sat.cast hp.eq).pure
 exact h h1 a w ⟨g.sees, g.defers, h2⟩
theorem WS_pureI {φ : Prop} {c : Code} (hp : PureOf H φ F) (h : φ → WS P n w0 c Q ⟨E, D, F⟩) : WS P n w0 c Q ⟨E, D, H⟩ := fun a w g => by
 obtain ⟨h1, h2⟩ := (g.sat.cast hp.eq).pure
 exact h h1 a w ⟨g.sees, g.defers, h2⟩
variable {d : Nat} {op : Op} {ty : TypeId} {pos : String} {after : Array Edge} {α : Type} {v : α → Value} {post : α → HProp}
theorem LS_hP {φ : α → Prop} (h : OpH P n w0 ⟨some d, op, ty, pos, after, none⟩ E H v (fun x => (pure' (φ x) * post x) * F)) (hd : Nat.blt d n.tmps = true) (hn : ∀ x, φ x → LS P n w0 ops Q l' ⟨(d, v x) :: E, D, post x * F⟩) : LS P n w0 ops Q (⟨some d, op, ty, pos, after, none⟩ :: l') ⟨E, D, H⟩ :=
 LS_h h hd fun x => LS_pureI iI (hn x)
section lookup
variable {κ ν : Type} [DecidableEq κ] {fk : κ → Value} {fv : ν → Value} {r : Nat} {m : List (κ × ν)} {k : κ} {u : ν} {v : Value} {d : Option Tmp} {gu : Option (Nat × Bool)} {x y : Operand} {t kt et : TypeId} {z : Value} {zs : List Value}
theorem Q_lookupOk_s (hx : E.ev x = some (.map (some r))) (hy : E.ev y = some v) (hl : MapOf H r κ ν fk fv m F) (hkk : AsKey fk v k) (hm : MapT P t kt et) (hz : Zero P et z zs) (hk : KeyT P kt fk) (he : mget m k = some u) : OpQ P n w0 ⟨d, .lookup t x y true, ty, pos, after, gu⟩ E H (.tuple #[fv u, .bool true]) := by
 have := Q_lookupOk (n := n) (w0 := w0) (d := d) (ty := ty) (pos := pos) (after := after) (gu := gu) hx hy hl hkk hm hz hk
 rwa [he] at this
theorem Q_lookupOk_n (hx : E.ev x = some (.map (some r))) (hy : E.ev y = some v) (hl : MapOf H r κ ν fk fv m F) (hkk : AsKey fk v k) (hm : MapT P t kt et) (hz : Zero P et z zs) (hk : KeyT P kt fk) (he : mget m k = none) : OpQ P n w0 ⟨d, .lookup t x y true, ty, pos, after, gu⟩ E H (.tuple #[z, .bool false]) := by
 have := Q_lookupOk (n := n) (w0 := w0) (d := d) (ty := ty) (pos := pos) (after := after) (gu := gu) hx hy hl hkk hm hz hk
 rwa [he] at this
theorem Q_lookup_s (hx : E.ev x = some (.map (some r))) (hy : E.ev y = some v) (hl : MapOf H r κ ν fk fv m F) (hkk : AsKey fk v k) (hm : MapT P t kt et) (hz : Zero P et z zs) (hk : KeyT P kt fk) (he : mget m k = some u) : OpQ P n w0 ⟨d, .lookup t x y false, ty, pos, after, gu⟩ E H (fv u) := by
 have := Q_lookup (n := n) (w0 := w0) (d := d) (ty := ty) (pos := pos) (after := after) (gu := gu) hx hy hl hkk hm hz hk
 rwa [he] at this
theorem Q_lookup_n (hx : E.ev x = some (.map (some r))) (hy : E.ev y = some v) (hl : MapOf H r κ ν fk fv m F) (hkk : AsKey fk v k) (hm : MapT P t kt et) (hz : Zero P et z zs) (hk : KeyT P kt fk) (he : mget m k = none) : OpQ P n w0 ⟨d, .lookup t x y false, ty, pos, after, gu⟩ E H z := by
 have := Q_lookup (n := n) (w0 := w0) (d := d) (ty := ty) (pos := pos) (after := after) (gu := gu) hx hy hl hkk hm hz hk
 rwa [he] at this
end lookup
end

section
open Go.RowKit
variable {P : Program} {n : Frm} {w0 : World} {E : Env} {D : List Deferred} {H F F2 R : HProp} {ops : Array Oper} {l' : List Oper} {Q : Exit → St → Prop} {w : World}
instance eqlNilP {t e : TypeId} {a : Addr} [h : Und P t (.pointer e)] : BinV P .eql t (.pointer (some a)) (.pointer none) (.bool false) := ⟨fun w => by
 have hp : P.pointee t = e := by simp [Program.pointee, h.eq]
 have := run_eql_pointer_nil (w := w) t (some a) (by rw [hp]; exact h.eq)
 exact this, fun w _ _ => by rfl⟩
instance neqNilP {t e : TypeId} {a : Addr} [h : Und P t (.pointer e)] : BinV P .neq t (.pointer (some a)) (.pointer none) (.bool true) := ⟨fun w => by
 have hp : P.pointee t = e := by simp [Program.pointee, h.eq]
 have := run_neq_pointer_nil (w := w) t (some a) (by rw [hp]; exact h.eq)
 exact this, fun w _ _ => by rfl⟩
def ptrC (g : Nat) : List Value := [ptr g 0]
instance : FixLen ptrC 1 := ⟨fun _ => rfl⟩
theorem ptrC_one : ∀ z, ∀ c ∈ ptrC z, c.oneCell' = true := by intro z c hc; simp [ptrC] at hc; subst hc; rfl
end

section
section
variable {κ ν : Type} [DecidableEq κ]
def KN (m : List (κ × ν)) : Prop := (m.map (·.1)).Nodup
theorem KN.nil : KN ([] : List (κ × ν)) := List.nodup_nil
theorem mget_cons (k : κ) (v : ν) (m : List (κ × ν)) (k' : κ) : mget ((k, v) :: m) k' = if k = k' then some v else mget m k' := by
 unfold mget
 simp only [mfind]
 by_cases h : k = k'
 ·simp [h]
 ·simp only [h, if_false]
  cases mfind m k' with
  | none => rfl
  | some i => simp
theorem mget_nil (k : κ) : mget ([] : List (κ × ν)) k = none := rfl
theorem mset_cons (k : κ) (v : ν) (m : List (κ × ν)) (k' : κ) (v' : ν) : mset ((k, v) :: m) k' v' = if k = k' then (k', v') :: m else (k, v) :: mset m k' v' := by
 unfold mset
 simp only [mfind]
 by_cases h : k = k'
 ·simp [h]
 ·simp only [h, if_false]
  cases mfind m k' with
  | none => rfl
  | some i => simp
theorem mset_nil (k : κ) (v : ν) : mset ([] : List (κ × ν)) k v = [(k, v)] := rfl
theorem mdel_cons (k : κ) (v : ν) (m : List (κ × ν)) (k' : κ) : mdel ((k, v) :: m) k' = if k = k' then m else (k, v) :: mdel m k' := by
 unfold mdel
 simp only [mfind]
 by_cases h : k = k'
 ·simp [h]
 ·simp only [h, if_false]
  cases mfind m k' with
  | none => rfl
  | some i => simp
theorem mdel_nil (k : κ) : mdel ([] : List (κ × ν)) k = [] := rfl
theorem mget_mset (m : List (κ × ν)) (k : κ) (v : ν) (k' : κ) : mget (mset m k v) k' = if k = k' then some v else mget m k' := by
 induction m with
 | nil => rw [mset_nil, mget_cons, mget_nil]
 | cons p m ih =>
  obtain ⟨a, b⟩ := p
  rw [mset_cons]
  split
  ·rename_i h; subst h; rw [mget_cons, mget_cons]; split <;> rfl
  ·rename_i h
   rw [mget_cons, mget_cons, ih]
   split
   ·rename_i h2; subst h2; rw [if_neg (Ne.symm h)]
   ·rfl
theorem mget_none_iff (m : List (κ × ν)) (k : κ) : mget m k = none ↔ k ∉ m.map (·.1) := by
 induction m with
 | nil => simp [mget_nil]
 | cons p m ih =>
  obtain ⟨a, b⟩ := p
  rw [mget_cons]
  split
  ·rename_i h; subst h; simp
  ·rename_i h; rw [ih]; simp [Ne.symm h]
theorem mget_mem {m : List (κ × ν)} {k : κ} {v : ν} (h : mget m k = some v) : (k, v) ∈ m := by
 induction m with
 | nil => cases h
 | cons p m ih =>
  obtain ⟨a, b⟩ := p
  rw [mget_cons] at h
  split at h
  ·rename_i e; subst e; cases h; simp
  ·exact List.mem_cons_of_mem _ (ih h)
theorem mget_of_mem {m : List (κ × ν)} (hn : KN m) {k : κ} {v : ν} (h : (k, v) ∈ m) : mget m k = some v := by
 induction m with
 | nil => cases h
 | cons p m ih =>
  obtain ⟨a, b⟩ := p
  have hn' : a ∉ m.map (·.1) ∧ (m.map (·.1)).Nodup := by simpa [KN] using hn
  rw [mget_cons]
  rcases List.mem_cons.1 h with h | h
  ·cases h; simp
  ·rw [if_neg, ih hn'.2 h]
   rintro rfl
   exact hn'.1 (List.mem_map.2 ⟨_, h, rfl⟩)
theorem mset_keys (m : List (κ × ν)) (k : κ) (v : ν) : (mset m k v).map (·.1) = if k ∈ m.map (·.1) then m.map (·.1) else m.map (·.1) ++ [k] := by
 induction m with
 | nil => simp [mset_nil]
 | cons p m ih =>
  obtain ⟨a, b⟩ := p
  rw [mset_cons]
  split
  ·rename_i h; subst h; simp
  ·rename_i h
   simp only [List.map_cons, ih, List.mem_cons, Ne.symm h, false_or]
   split <;> simp
theorem KN.mset {m : List (κ × ν)} (h : KN m) (k : κ) (v : ν) : KN (mset m k v) := by
 unfold KN at *
 rw [mset_keys]
 split
 ·exact h
 ·rename_i hk
  refine List.nodup_append.2 ⟨h, by simp, ?_⟩
  intro a ha b hb
  simp at hb; subst hb
  rintro rfl; exact hk ha
theorem mdel_sublist (m : List (κ × ν)) (k : κ) : (mdel m k).Sublist m := by
 induction m with
 | nil => simp [mdel_nil]
 | cons p m ih =>
  obtain ⟨a, b⟩ := p
  rw [mdel_cons]
  split
  ·exact List.sublist_cons_self _ _
  ·exact ih.cons_cons _
theorem KN.mdel {m : List (κ × ν)} (h : KN m) (k : κ) : KN (mdel m k) := h.sublist ((mdel_sublist m k).map _)
theorem mget_mdel {m : List (κ × ν)} (h : KN m) (k : κ) (k' : κ) : mget (mdel m k) k' = if k = k' then none else mget m k' := by
 induction m with
 | nil => simp [mdel_nil, mget_nil]
 | cons p m ih =>
  obtain ⟨a, b⟩ := p
  have hn' : a ∉ m.map (·.1) ∧ (m.map (·.1)).Nodup := by simpa [KN] using h
  rw [mdel_cons]
  split
  ·rename_i e; subst e
   rw [mget_cons]
   split
   ·rename_i e; subst e; exact (mget_none_iff _ _).2 hn'.1
   ·rfl
  ·rename_i e
   rw [mget_cons, mget_cons, ih hn'.2]
   split
   ·rename_i e2; subst e2; rw [if_neg (Ne.symm e)]
   ·rfl
theorem mset_length (m : List (κ × ν)) (k : κ) (v : ν) : (mset m k v).length = if k ∈ m.map (·.1) then m.length else m.length + 1 := by
 have := congrArg List.length (mset_keys m k v)
 simp only [List.length_map] at this
 rw [this]
 split <;> simp
end
end

section

def Rec.norm (r : Rec) : Rec := { r with addr := if r.own then 0 else r.addr }
def recBytes (l : List Rec) : List UInt8 := l.flatMap Rec.bytes
theorem recBytes_length (l : List Rec) : (recBytes l).length = 13 * l.length := by
 induction l with
 | nil => rfl
 | cons r l ih => simp [recBytes, Rec.bytes_length] at ih ⊢; omega
end

section
deriving instance DecidableEq for Rec
def Rec.key (r : Rec) : Rec := { r.norm with seq := 0 }
def Rec.lt (a b : Rec) : Bool := if a.own != b.own then a.own else decide (a.addr < b.addr)
theorem Rec.lt_irrefl (a : Rec) : a.lt a = false := by simp [Rec.lt]
theorem Rec.lt_trans {a b c : Rec} (h1 : a.lt b = true) (h2 : b.lt c = true) : a.lt c = true := by
 obtain ⟨o1, a1, s1⟩ := a; obtain ⟨o2, a2, s2⟩ := b; obtain ⟨o3, a3, s3⟩ := c
 simp only [Rec.lt] at *
 cases o1 <;> cases o2 <;> cases o3 <;> simp [UInt32.lt_iff_toNat_lt] at * <;> omega
theorem Rec.lt_total {a b : Rec} (h1 : a.lt b = false) (h2 : b.lt a = false) : a.own = b.own ∧ a.addr = b.addr := by
 obtain ⟨o1, a1, s1⟩ := a; obtain ⟨o2, a2, s2⟩ := b
 simp only [Rec.lt] at *
 cases o1 <;> cases o2 <;> simp [← UInt32.toNat_inj, UInt32.lt_iff_toNat_lt] at * <;> omega
theorem Rec.key_eq {a b : Rec} (ha : a.norm = a) (hb : b.norm = b) : a.key = b.key ↔ a.own = b.own ∧ a.addr = b.addr := by
 obtain ⟨o1, a1, s1⟩ := a; obtain ⟨o2, a2, s2⟩ := b
 simp only [Rec.key, Rec.norm, Rec.mk.injEq, true_and, and_true] at *
 rw [ha, hb]
theorem Rec.norm_norm (r : Rec) : r.norm.norm = r.norm := by
 obtain ⟨o, a, s⟩ := r; cases o <;> rfl
theorem Rec.norm_key (r : Rec) : r.norm.key = r.key := by
 obtain ⟨o, a, s⟩ := r; cases o <;> rfl
theorem Rec.key_norm (r : Rec) : r.key.norm = r.key := by
 obtain ⟨o, a, s⟩ := r; cases o <;> rfl
theorem Rec.key_key (r : Rec) : r.key.key = r.key := by
 obtain ⟨o, a, s⟩ := r; cases o <;> rfl
theorem Rec.set_seq {r : Rec} (h : r.norm = r) : { r.key with seq := r.seq } = r := by
 obtain ⟨o, a, s⟩ := r
 simp only [Rec.key, Rec.norm, Rec.mk.injEq, true_and, and_true] at *
 exact h
def bump (o : Option UInt32) (s : UInt32) : UInt32 := match o with
 | some t => max t s
 | none => s
def seqOf (l : List Rec) (k : Rec) : Option UInt32 := l.foldl (fun o r => if r.norm.key = k then some (bump o r.seq) else o) none
theorem seqOf_snoc (l : List Rec) (r k : Rec) : seqOf (l ++ [r]) k = if r.norm.key = k then some (bump (seqOf l k) r.seq) else seqOf l k := by
 simp only [seqOf, List.foldl_append, List.foldl_cons, List.foldl_nil]
def lookR : List Rec → Rec → Option UInt32
 | [], _ => none
 | x :: xs, k => if x.key = k then some x.seq else lookR xs k
def putR : List Rec → Rec → List Rec
 | [], r => [r]
 | x :: xs, r => if x.own = r.own ∧ x.addr = r.addr then { x with seq := max x.seq r.seq } :: xs
  else if r.own = true ∨ (x.own = false ∧ r.addr < x.addr) then r :: x :: xs
  else x :: putR xs r
def compR (l : List Rec) : List Rec := l.foldl (fun out r => putR out r.norm) []
theorem compR_snoc (l : List Rec) (r : Rec) : compR (l ++ [r]) = putR (compR l) r.norm := by
 simp only [compR, List.foldl_append, List.foldl_cons, List.foldl_nil]
structure InO (l : List Rec) : Prop where
  rise : l.Pairwise (fun a b => a.lt b = true)
  norm : ∀ x ∈ l, x.norm = x
theorem InO.nil : InO [] := ⟨List.Pairwise.nil, fun _ h => by cases h⟩
theorem InO.tail {x : Rec} {l : List Rec} (h : InO (x :: l)) : InO l := ⟨(List.pairwise_cons.1 h.rise).2, fun y hy => h.norm y (List.mem_cons_of_mem _ hy)⟩
theorem InO.cons {x : Rec} {l : List Rec} (h : InO l) (hx : x.norm = x) (hl : ∀ y ∈ l, x.lt y = true) : InO (x :: l) :=
 ⟨List.pairwise_cons.2 ⟨hl, h.rise⟩, fun y hy => (List.mem_cons.1 hy).elim (fun e => e ▸ hx) (h.norm y)⟩
theorem stop_lt {x r : Rec} (hx : x.norm = x) (hr : r.norm = r) (hne : ¬ (x.own = r.own ∧ x.addr = r.addr)) : (r.own = true ∨ (x.own = false ∧ r.addr < x.addr)) ↔ r.lt x = true := by
 obtain ⟨o1, a1, s1⟩ := x; obtain ⟨o2, a2, s2⟩ := r
 simp only [Rec.norm, Rec.mk.injEq, true_and, and_true, Rec.lt] at *
 cases o1 <;> cases o2 <;> simp_all
theorem lt_key {a b : Rec} (ha : a.norm = a) (hb : b.norm = b) (h : a.lt b = true) : a.key ≠ b.key := by
 intro e
 obtain ⟨e1, e2⟩ := (Rec.key_eq ha hb).1 e
 simp [Rec.lt, e1, e2] at h
theorem lookR_none {l : List Rec} {k : Rec} (h : ∀ y ∈ l, y.key ≠ k) : lookR l k = none := by
 induction l with
 | nil => rfl
 | cons x l ih => simp only [lookR, if_neg (h x List.mem_cons_self)]; exact ih fun y hy => h y (List.mem_cons_of_mem _ hy)
theorem key_with (x : Rec) (s : UInt32) : ({ x with seq := s } : Rec).key = x.key := rfl
theorem norm_with {x : Rec} (s : UInt32) (h : x.norm = x) : ({ x with seq := s } : Rec).norm = { x with seq := s } := by
 obtain ⟨o1, a1, s1⟩ := x
 simp only [Rec.norm, Rec.mk.injEq, true_and, and_true] at *
 exact h
theorem lt_with (x y : Rec) (s : UInt32) : ({ x with seq := s } : Rec).lt y = x.lt y := rfl
theorem putR_mem {l : List Rec} {r : Rec} : ∀ y ∈ putR l r, (∃ s, y = { r with seq := s }) ∨ y ∈ l ∨ ∃ x ∈ l, ∃ s, y = { x with seq := s } := by
 induction l with
 | nil => intro y hy; rcases List.mem_singleton.1 hy with rfl; exact .inl ⟨y.seq, rfl⟩
 | cons x l ih =>
  intro y hy
  simp only [putR] at hy
  split at hy
  ·rcases List.mem_cons.1 hy with rfl | hy
   ·exact .inr (.inr ⟨x, List.mem_cons_self, _, rfl⟩)
   ·exact .inr (.inl (List.mem_cons_of_mem _ hy))
  ·split at hy
   ·rcases List.mem_cons.1 hy with rfl | hy
    ·exact .inl ⟨y.seq, rfl⟩
    ·exact .inr (.inl hy)
   ·rcases List.mem_cons.1 hy with rfl | hy
    ·exact .inr (.inl List.mem_cons_self)
    ·rcases ih y hy with h | h | ⟨x', h, s, e⟩
     ·exact .inl h
     ·exact .inr (.inl (List.mem_cons_of_mem _ h))
     ·exact .inr (.inr ⟨x', List.mem_cons_of_mem _ h, s, e⟩)
theorem putR_ino {l : List Rec} {r : Rec} (h : InO l) (hr : r.norm = r) : InO (putR l r) := by
 induction l with
 | nil => exact InO.nil.cons hr (fun y hy => by cases hy)
 | cons x l ih =>
  have hx := h.norm x List.mem_cons_self
  have hl := (List.pairwise_cons.1 h.rise).1
  simp only [putR]
  split
  ·exact h.tail.cons (norm_with _ hx) (fun y hy => by rw [lt_with]; exact hl y hy)
  ·rename_i hne
   split
   ·rename_i hs
    have hrx := (stop_lt hx hr hne).1 hs
    refine h.cons hr fun y hy => ?_
    rcases List.mem_cons.1 hy with rfl | hy
    ·exact hrx
    ·exact Rec.lt_trans hrx (hl y hy)
   ·rename_i hs
    have hrx : r.lt x = false := by rw [← Bool.not_eq_true]; exact fun e => hs ((stop_lt hx hr hne).2 e)
    have hxr : x.lt r = true := by
     cases e : x.lt r with
     | true => rfl
     | false => exact absurd (Rec.lt_total e hrx) hne
    refine (ih h.tail).cons hx fun y hy => ?_
    rcases putR_mem y hy with ⟨s, rfl⟩ | hy | ⟨x', hx', s, rfl⟩
    ·exact hxr
    ·exact hl y hy
    ·exact hl x' hx'
theorem lookR_put {l : List Rec} {r : Rec} (h : InO l) (hr : r.norm = r) (k : Rec) : lookR (putR l r) k = if r.key = k then some (bump (lookR l k) r.seq) else lookR l k := by
 induction l with
 | nil => rfl
 | cons x l ih =>
  have hx := h.norm x List.mem_cons_self
  have hl := (List.pairwise_cons.1 h.rise).1
  simp only [putR]
  split
  ·rename_i he
   have hk : x.key = r.key := (Rec.key_eq hx hr).2 he
   simp only [lookR, key_with, hk]
   split <;> rfl
  ·rename_i hne
   have hk : x.key ≠ r.key := fun e => hne ((Rec.key_eq hx hr).1 e)
   split
   ·rename_i hs
    have hrx := (stop_lt hx hr hne).1 hs
    have hno : lookR (x :: l) r.key = none := lookR_none fun y hy => by
     rcases List.mem_cons.1 hy with rfl | hy
     ·exact fun e => lt_key hr hx hrx e.symm
     ·exact fun e => lt_key hr (h.norm y (List.mem_cons_of_mem _ hy)) (Rec.lt_trans hrx (hl y hy)) e.symm
    show (if r.key = k then some r.seq else lookR (x :: l) k) = _
    split
    ·rename_i e; subst e; rw [hno]; rfl
    ·rfl
   ·simp only [lookR, ih h.tail]
    split
    ·rename_i e; subst e
     rw [if_neg (fun e => hk e.symm)]
    ·rfl
theorem compR_ino (l : List Rec) : InO (compR l) := by
 have key : ∀ (l out : List Rec), InO out → InO (l.foldl (fun out r => putR out r.norm) out) := by
  intro l
  induction l with
  | nil => intro out h; exact h
  | cons r l ih => intro out h; exact ih _ (putR_ino h (Rec.norm_norm r))
 exact key l [] InO.nil
theorem lookR_comp (l : List Rec) (k : Rec) : lookR (compR l) k = seqOf l k := by
 have key : ∀ (l out : List Rec) (o : Option UInt32), InO out → lookR out k = o → lookR (l.foldl (fun out r => putR out r.norm) out) k = l.foldl (fun o r => if r.norm.key = k then some (bump o r.seq) else o) o := by
  intro l
  induction l with
  | nil => intro out o _ h; exact h
  | cons r l ih =>
   intro out o hi h
   simp only [List.foldl_cons]
   refine ih _ _ (putR_ino hi (Rec.norm_norm r)) ?_
   rw [lookR_put hi (Rec.norm_norm r), h]
   rfl
 exact key l [] none InO.nil rfl
theorem mem_lookR {l : List Rec} (h : InO l) {x : Rec} : x ∈ l ↔ x.norm = x ∧ lookR l x.key = some x.seq := by
 induction l with
 | nil => simp [lookR]
 | cons y l ih =>
  have hy := h.norm y List.mem_cons_self
  have hl := (List.pairwise_cons.1 h.rise).1
  constructor
  ·intro hx
   refine ⟨h.norm x hx, ?_⟩
   rcases List.mem_cons.1 hx with rfl | hx
   ·simp [lookR]
   ·have := lt_key hy (h.norm x (List.mem_cons_of_mem _ hx)) (hl x hx)
    simp only [lookR, if_neg this]
    exact ((ih h.tail).1 hx).2
  ·rintro ⟨hn, hx⟩
   simp only [lookR] at hx
   split at hx
   ·rename_i e
    have := (Rec.key_eq hy hn).1 e
    have hx' := Option.some.inj hx
    have : x = y := by obtain ⟨_, _, _⟩ := x; obtain ⟨_, _, _⟩ := y; simp_all
    rw [this]; exact List.mem_cons_self
   ·exact List.mem_cons_of_mem _ ((ih h.tail).2 ⟨hn, hx⟩)
theorem InO.ext : ∀ {a b : List Rec}, InO a → InO b → (∀ x, x ∈ a ↔ x ∈ b) → a = b
 | [], [], _, _, _ => rfl
 | [], y :: b, _, _, h => absurd ((h y).2 List.mem_cons_self) (by simp)
 | x :: a, [], _, _, h => absurd ((h x).1 List.mem_cons_self) (by simp)
 | x :: a, y :: b, ha, hb, h => by
  have hla := (List.pairwise_cons.1 ha.rise).1
  have hlb := (List.pairwise_cons.1 hb.rise).1
  have e : x = y := by
   rcases List.mem_cons.1 ((h x).1 List.mem_cons_self) with e | hx
   ·exact e
   ·rcases List.mem_cons.1 ((h y).2 List.mem_cons_self) with e | hy
    ·exact e.symm
    ·have := Rec.lt_trans (hla y hy) (hlb x hx)
     rw [Rec.lt_irrefl] at this; cases this
  subst e
  have := InO.ext ha.tail hb.tail fun z => by
   constructor
   ·intro hz
    rcases List.mem_cons.1 ((h z).1 (List.mem_cons_of_mem _ hz)) with rfl | hz'
    ·have := hla z hz; rw [Rec.lt_irrefl] at this; cases this
    ·exact hz'
   ·intro hz
    rcases List.mem_cons.1 ((h z).2 (List.mem_cons_of_mem _ hz)) with rfl | hz'
    ·have := hlb z hz; rw [Rec.lt_irrefl] at this; cases this
    ·exact hz'
  rw [this]
def fillR (m : List (Rec × UInt32)) (ks : List Rec) : List Rec := ks.map fun k => { k with seq := (mget m k).getD 0 }
structure Most (l : List Rec) (m : List (Rec × UInt32)) : Prop where
  kn : KN m
  get : ∀ k, mget m k = seqOf l k
  keys : ∀ k v, (k, v) ∈ m → k.key = k
theorem Most.nil : Most [] [] := ⟨KN.nil, fun _ => rfl, fun _ _ h => by cases h⟩
theorem mset_mem {m : List (Rec × UInt32)} {k k' : Rec} {v v' : UInt32} : (k', v') ∈ mset m k v → (k', v') ∈ m ∨ k' = k := by
 induction m with
 | nil => rw [mset_nil]; intro h; rcases List.mem_singleton.1 h with h; cases h; exact .inr rfl
 | cons p m ih =>
  obtain ⟨a, b⟩ := p
  rw [mset_cons]
  split
  ·intro h
   rcases List.mem_cons.1 h with h | h
   ·cases h; exact .inr rfl
   ·exact .inl (List.mem_cons_of_mem _ h)
  ·intro h
   rcases List.mem_cons.1 h with h | h
   ·cases h; exact .inl List.mem_cons_self
   ·rcases ih h with h | h
    ·exact .inl (List.mem_cons_of_mem _ h)
    ·exact .inr h
theorem u32max0 (s : UInt32) : max 0 s = s := by
 have e : (max 0 s : UInt32) = if (0 : UInt32) ≤ s then s else 0 := rfl
 rw [e, if_pos (by simp)]
theorem Most.snoc {l : List Rec} {m : List (Rec × UInt32)} (h : Most l m) (r : Rec) : Most (l ++ [r]) (mset m r.norm.key (max ((mget m r.norm.key).getD 0) r.seq)) := by
 refine ⟨h.kn.mset _ _, fun k => ?_, fun k v hk => ?_⟩
 ·rw [mget_mset, seqOf_snoc]
  split
  ·rename_i e; subst e
   rw [h.get]
   cases seqOf l r.norm.key with
   | none => simp [bump, u32max0]
   | some t => rfl
  ·exact h.get k
 ·rcases mset_mem hk with hk | rfl
  ·exact h.keys k v hk
  ·exact (congrArg _ (Rec.norm_key r)).trans (by rw [Rec.norm_key, Rec.key_key])
theorem fill_comp {l : List Rec} {m : List (Rec × UInt32)} {ks : List Rec} (h : Most l m) (hp : ks.Perm (m.map (·.1))) (hs : ks.Pairwise (fun a b => b.lt a = false)) : fillR m ks = compR l := by
 have hk : ∀ k ∈ ks, k.key = k ∧ ∃ v, mget m k = some v := fun k hk => by
  obtain ⟨⟨k', v⟩, hm, rfl⟩ := List.mem_map.1 (hp.mem_iff.1 hk)
  exact ⟨h.keys _ _ hm, v, mget_of_mem h.kn hm⟩
 have hnd : ks.Nodup := hp.symm.nodup h.kn
 have hkn : ∀ k : Rec, k.key = k → k.norm = k := fun k e => by rw [← e]; exact Rec.key_norm k
 have hlt : ks.Pairwise (fun a b => a.lt b = true) := (hs.and hnd).imp_of_mem fun {a b} ha hb ⟨h1, h2⟩ => by
  cases e : a.lt b with
  | true => rfl
  | false =>
   have := (Rec.key_eq (hkn a (hk a ha).1) (hkn b (hk b hb).1)).2 (Rec.lt_total e h1)
   rw [(hk a ha).1, (hk b hb).1] at this
   exact absurd this h2
 refine InO.ext ⟨List.pairwise_map.2 (hlt.imp fun h => h), fun x hx => ?_⟩ (compR_ino l) fun x => ?_
 ·obtain ⟨k, hkk, rfl⟩ := List.mem_map.1 hx
  exact norm_with _ (hkn k (hk k hkk).1)
 ·rw [mem_lookR (compR_ino l), lookR_comp, ← h.get]
  constructor
  ·intro hx
   obtain ⟨k, hkk, rfl⟩ := List.mem_map.1 hx
   obtain ⟨h1, v, hv⟩ := hk k hkk
   refine ⟨norm_with _ (hkn k h1), ?_⟩
   rw [key_with, h1, hv]; rfl
  ·rintro ⟨hn, hx⟩
   have hm := hp.mem_iff.2 (List.mem_map.2 ⟨_, mget_mem hx, rfl⟩)
   refine List.mem_map.2 ⟨x.key, hm, ?_⟩
   rw [hx]; exact Rec.set_seq hn
end

section
open Go.RowKit Go.Shelf
set_option maxRecDepth 100000
def sortRen : Go.Shelf.Ren := ⟨fun | 6 => 202 | 14 => 229 | 15 => 230 | 20 => 234 | 21 => 235 | 22 => 236 | 23 => 237 | 24 => 238 | 25 => 239 | 26 => 240 | 27 => 241 | 28 => 242 | 29 => 243 | 46 => 253 | 47 => 254 | 48 => 255 | 49 => 256 | 50 => 257 | 57 => 261 | n => n, fun | 0 => 0 | 3 => 3 | 4 => 4 | 5 => 5 | 9 => 9 | 22 => 22 | 24 => 28 | 25 => 258 | 39 => 213 | 45 => 324 | 46 => 325 | 50 => 120 | 53 => 26 | 55 => 24 | 66 => 336 | 70 => 339 | 76 => 343 | 77 => 344 | n => n, fun | n => n⟩
theorem sortLays : SlLaysF0.n6 Tryz.prog sortRen := {
 mixed := by kernel_rfl,
 f6 := ⟨Tryz.f202.name, by decide, Tryz.func202.trans (congrArg some (by kernel_rfl))⟩,
 f14 := ⟨Tryz.f229.name, by decide, Tryz.func229.trans (congrArg some (by kernel_rfl))⟩,
 f15 := Tryz.func230.trans (congrArg some (by kernel_rfl)),
 f20 := ⟨Tryz.f234.name, by decide, Tryz.func234.trans (congrArg some (by kernel_rfl))⟩,
 f21 := ⟨Tryz.f235.name, by decide, Tryz.func235.trans (congrArg some (by kernel_rfl))⟩,
 f22 := ⟨Tryz.f236.name, by decide, Tryz.func236.trans (congrArg some (by kernel_rfl))⟩,
 f23 := ⟨Tryz.f237.name, by decide, Tryz.func237.trans (congrArg some (by kernel_rfl))⟩,
 f24 := ⟨Tryz.f238.name, by decide, Tryz.func238.trans (congrArg some (by kernel_rfl))⟩,
 f25 := ⟨Tryz.f239.name, by decide, Tryz.func239.trans (congrArg some (by kernel_rfl))⟩,
 f26 := ⟨Tryz.f240.name, by decide, Tryz.func240.trans (congrArg some (by kernel_rfl))⟩,
 f27 := ⟨Tryz.f241.name, by decide, Tryz.func241.trans (congrArg some (by kernel_rfl))⟩,
 f28 := Tryz.func242.trans (congrArg some (by kernel_rfl)),
 f29 := Tryz.func243.trans (congrArg some (by kernel_rfl)),
 f46 := ⟨Tryz.f253.name, by decide, Tryz.func253.trans (congrArg some (by kernel_rfl))⟩,
 f47 := Tryz.func254.trans (congrArg some (by kernel_rfl)),
 f48 := Tryz.func255.trans (congrArg some (by kernel_rfl)),
 f49 := ⟨Tryz.f256.name, by decide, Tryz.func256.trans (congrArg some (by kernel_rfl))⟩,
 f50 := ⟨Tryz.f257.name, by decide, Tryz.func257.trans (congrArg some (by kernel_rfl))⟩,
 f57 := ⟨Tryz.f261.name, by decide, Tryz.func261.trans (congrArg some (by kernel_rfl))⟩,
 t0 := Tryz.underlying0,
 a0 := Tryz.isAgg0,
 z0 := Tryz.sizeOf0,
 v0 := Tryz.zeroValue0,
 t3 := Tryz.underlying3,
 a3 := Tryz.isAgg3,
 z3 := Tryz.sizeOf3,
 v3 := Tryz.zeroValue3,
 t4 := Tryz.underlying4,
 a4 := Tryz.isAgg4,
 z4 := Tryz.sizeOf4,
 v4 := Tryz.zeroValue4,
 t5 := Tryz.underlying5,
 a5 := Tryz.isAgg5,
 z5 := Tryz.sizeOf5,
 v5 := Tryz.zeroValue5,
 t9 := Tryz.underlying9,
 a9 := Tryz.isAgg9,
 z9 := Tryz.sizeOf9,
 v9 := Tryz.zeroValue9,
 t22 := Tryz.underlying22,
 a22 := Tryz.isAgg22,
 z22 := Tryz.sizeOf22,
 v22 := Tryz.zeroValue22,
 t25 := Tryz.underlying258,
 a25 := Tryz.isAgg258,
 z25 := Tryz.sizeOf258,
 v25 := Tryz.zeroValue258,
 t39 := Tryz.underlying213,
 a39 := Tryz.isAgg213,
 z39 := Tryz.sizeOf213,
 v39 := Tryz.zeroValue213,
 t45 := Tryz.underlying324,
 a45 := Tryz.isAgg324,
 z45 := Tryz.sizeOf324,
 v45 := Tryz.zeroValue324,
 t46 := Tryz.underlying325,
 a46 := Tryz.isAgg325,
 z46 := Tryz.sizeOf325,
 v46 := Tryz.zeroValue325,
 t50 := Tryz.underlying120,
 a50 := Tryz.isAgg120,
 z50 := Tryz.sizeOf120,
 v50 := Tryz.zeroValue120,
 t53 := Tryz.underlying26,
 a53 := Tryz.isAgg26,
 z53 := Tryz.sizeOf26,
 v53 := Tryz.zeroValue26,
 t55 := Tryz.underlying24,
 a55 := Tryz.isAgg24,
 z55 := Tryz.sizeOf24,
 v55 := Tryz.zeroValue24,
 t66 := Tryz.underlying336,
 a66 := Tryz.isAgg336,
 z66 := Tryz.sizeOf336,
 v66 := Tryz.zeroValue336,
 t70 := Tryz.underlying339,
 a70 := Tryz.isAgg339,
 z70 := Tryz.sizeOf339,
 v70 := Tryz.zeroValue339,
 t76 := Tryz.underlying343,
 a76 := Tryz.isAgg343,
 z76 := Tryz.sizeOf343,
 v76 := Tryz.zeroValue343,
 t77 := Tryz.underlying344,
 a77 := Tryz.isAgg344,
 z77 := Tryz.sizeOf344,
 v77 := Tryz.zeroValue344 }

def cmpA (a b : UInt32) : Int := if a < b then -1 else if b < a then 1 else 0
def cmpRec (a b : Rec) : Int := if a.own != b.own then (if a.own then -1 else 1) else cmpA a.addr b.addr
theorem cmpRec_lt (a b : Rec) : Go.Proofs.ltOf cmpRec a b = a.lt b := by
 unfold Go.Proofs.ltOf cmpRec Rec.lt cmpA
 cases ha : a.own <;> cases hb : b.own <;> simp
 all_goals
  by_cases h1 : a.addr < b.addr
  ·simp [h1]
  ·by_cases h2 : b.addr < a.addr <;> simp [h1, h2]
theorem swo_rec : Go.Sort.SWO (Go.Proofs.ltOf cmpRec) where
  irrefl x := by rw [cmpRec_lt]; exact Rec.lt_irrefl x
  trans x y z h1 h2 := by rw [cmpRec_lt] at *; exact Rec.lt_trans h1 h2
  ntrans x y z h1 h2 := by
    rw [cmpRec_lt] at *
    unfold Rec.lt at *
    cases hx : x.own <;> cases hy : y.own <;> cases hz : z.own <;> simp [hx, hy, hz, UInt32.lt_iff_toNat_lt, UInt32.le_iff_toNat_le] at * <;> omega
end

end Go.Proofs.YtapoehkdnglahabGreat

