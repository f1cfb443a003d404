/- Parts of slices, slices that are made, the forms of slice values, assertions with an 'exists', regions that only read. No program in sight. -/
import Derived.Test.YtapoehkdnglahaaMore
import Derived.Laws.MakeOwn
namespace Go.Proofs.Ytapoehkdnglahaa
open Go.RowKit
set_option linter.unusedVariables false
set_option linter.unusedSimpArgs false
set_option linter.unusedSectionVars false
variable {P : Program} {n : Frm} {w0 : World} {E : Env} {D : List Deferred} {H F F2 R : HProp} {ops : Array Oper} {l' : List Oper} {Q : Exit → St → Prop} {w : World}
/-- v[:k] -/
def sHead (v : Value) (k : Nat) : Value := match v with
  | .slice A m c => .slice A (min k m) c
  | v => v
/-- v[k:], elements of so many cells. -/
def sTail (size : Nat) (v : Value) (k : Nat) : Value := match v with
  | .slice A m c => sliced A (min k m) m c size
  | v => v
section
variable {α : Type} {e : TypeId} {size : Nat} {f : α → List Value} {v : Value} {l : List α}
theorem RowsAt.head (h : RowsAt w size f v l) (k : Nat) : RowsAt w size f (sHead v k) (l.take k) := by
  obtain ⟨A, c, rfl, h1, h2⟩ := h.form
  refine ⟨⟨A, c, by simp [sHead, List.length_take], by simp; omega, h2⟩, fun j hj => ?_⟩
  have hj' : j < l.length := by simp at hj; omega
  obtain ⟨g, off, cap, hv, hc⟩ := h.cell j hj'
  injection hv with e1 e2 e3
  subst e1
  refine ⟨g, off, c, by simp [sHead, List.length_take], fun i u hi hu => hc i u hi ?_⟩
  simpa using hu
theorem RowsAt.tail (h : RowsAt w size f v l) (k : Nat) : RowsAt w size f (sTail size v k) (l.drop k) := by
  obtain ⟨A, c, rfl, h1, h2⟩ := h.form
  refine ⟨⟨_, _, by simp only [sTail, sliced]; congr 1; simp; omega, by simp; omega, by omega⟩, fun j hj => ?_⟩
  have hj' : k + j < l.length := by simp at hj; omega
  obtain ⟨g, off, cap, hv, hc⟩ := h.cell (k + j) hj'
  injection hv with e1 e2 e3
  subst e1
  have hmin : min k l.length = k := by omega
  refine ⟨g, off + k * size, c - k, ?_, fun i u hi hu => ?_⟩
  · simp only [sTail, sliced, hmin]
    rw [if_neg (by omega)]
    simp [add_lit]
  · have := hc i u hi (by simpa using hu)
    rwa [Nat.add_mul, Nat.add_assoc (k * size), ← Nat.add_assoc off] at this
instance rdr_head (k : Nat) [h : Rdr w0 H v α size f l] : Rdr w0 H (sHead v k) α size f (l.take k) := ⟨fun w hs => (h.at_ w hs).head k⟩
instance rdr_tail' (k : Nat) [h : Rdr w0 H v α size f l] : Rdr w0 H (sTail size v k) α size f (l.drop k) := ⟨fun w hs => (h.at_ w hs).tail k⟩
variable {d : Option Tmp} {ty : TypeId} {pos : String} {after : Array Edge} {gu : Option (Nat × Bool)} {x y z : Operand}
theorem Q_sliceR_h {t e2 : TypeId} {q : IntKind} {i : Int} {k : Nat} (hx : E.ev x = some v) (hy : E.ev y = some (.int q i)) (hl : Rdr w0 H v α size f l) (ht : Und P t (.slice e2)) (hs2 : Siz P e2 size) (hi : AsNat i k) (hk : k ≤ l.length) :
    OpQ P n w0 ⟨d, .slice t x none (some y) none, ty, pos, after, gu⟩ E H (sHead v k) := fun a w s hs => by
  obtain ⟨A, c, rfl, h1, h2⟩ := (hl.at_ w hs).form
  obtain ⟨i0, hi0, hi1⟩ := Option.map_eq_some_iff.1 hs2.eq
  obtain rfl := hi.eq
  have hel : P.elem t = e2 := by simp [Program.elem, ht.eq]
  have ht' : P.underlying t = some (.slice (P.elem t)) := by rw [ht.eq, hel]
  have hr := run_slice_h (P := P) (w := w) t A l.length c ht' q (k : Int) (by omega) (by omega)
  have hmin : min k l.length = k := by omega
  have hz : (sizeOf e2).run P w = .ok size w := by simp [sizeOf, typeInfo, hi0, hi1]
  rw [hel, hz] at hr
  have hA : (if c = 0 then A else A.map (·.add (0 * size))) = A := by
    split
    · rfl
    · cases A with
      | none => rfl
      | some a => simp; unfold Addr.add; cases a; simp
  simp only [execOp, s.ev hx, s.ev hy, Option.map_some, Option.map_none, run_sliceAt_slice w t _ _ _ _ ht', Sem.run_bind, hr, Result.andThen_ok, Sem.run_pure, Int.toNat_natCast, sHead, hmin, sliced, hA, Nat.sub_zero]
theorem Q_sliceR_l {t e2 : TypeId} {q : IntKind} {i : Int} {k : Nat} (hx : E.ev x = some v) (hy : E.ev y = some (.int q i)) (hl : Rdr w0 H v α size f l) (ht : Und P t (.slice e2)) (hs2 : Siz P e2 size) (hi : AsNat i k) (hk : k ≤ l.length) :
    OpQ P n w0 ⟨d, .slice t x (some y) none none, ty, pos, after, gu⟩ E H (sTail size v k) := fun a w s hs => by
  obtain ⟨A, c, rfl, h1, h2⟩ := (hl.at_ w hs).form
  obtain ⟨i0, hi0, hi1⟩ := Option.map_eq_some_iff.1 hs2.eq
  obtain rfl := hi.eq
  have hel : P.elem t = e2 := by simp [Program.elem, ht.eq]
  have ht' : P.underlying t = some (.slice (P.elem t)) := by rw [ht.eq, hel]
  have hr := run_slice_l (P := P) (w := w) t A l.length c ht' q (k : Int) (by omega) (by omega)
  have hmin : min k l.length = k := by omega
  have hz : (sizeOf e2).run P w = .ok size w := by simp [sizeOf, typeInfo, hi0, hi1]
  rw [hel, hz] at hr
  simp only [execOp, s.ev hx, s.ev hy, Option.map_some, Option.map_none, run_sliceAt_slice w t _ _ _ _ ht', Sem.run_bind, hr, Result.andThen_ok, Sem.run_pure, Int.toNat_natCast, sTail, hmin]
/-- The head of a slice that is owned; the tail. -/
theorem Ent.headR (k : Nat) [h : RowsOf H v α e size f l F] [hf : FixLen f size] : Ent H (rows e size f (sHead v k) (l.take k) * F) := by
  rw [h.eq]
  refine Ent.star (fun x hx => ⟨x, ?_, fun _ _ e => e⟩) (Ent.refl _)
  obtain ⟨hlen, hc⟩ := hx
  refine ⟨flatMap_length f size hf.eq _, ?_⟩
  have hle : min k l.length ≤ l.length := Nat.min_le_right _ _
  rcases hc with ⟨A, rfl, h0, hn⟩ | ⟨g, off, cap, cur, fr, rfl, h1, h2, h3, h4, h5, h6⟩
  · left; exact ⟨A, by simp [sHead], by rw [List.length_take]; omega, hn⟩
  · right
    refine ⟨g, off, cap, cur, fr, by simp [sHead, List.length_take], by simp; omega, h2, h3, ?_, h5, h6⟩
    have hm : min k l.length * size ≤ l.length * size := Nat.mul_le_mul_right _ hle
    have e1 : ∀ (k : Nat) (l : List α), (l.take k).flatMap f = (l.flatMap f).take (min k l.length * size) := by
      intro k l
      induction l generalizing k with
      | nil => simp
      | cons a l ih =>
        cases k with
        | zero => simp
        | succ k =>
          have : min (k + 1) (a :: l).length * size = (f a).length + min k l.length * size := by
            rw [hf.eq, List.length_cons, show min (k + 1) (l.length + 1) = min k l.length + 1 by omega, Nat.succ_mul]; omega
          simp only [List.take_succ_cons, List.flatMap_cons, ih, this, List.take_length_add_append]
    rw [e1, ← h4, List.take_take, List.length_take, Nat.min_eq_left hm]
theorem Ent.tailR (k : Nat) (hk : k ≤ l.length) [h : RowsOf H v α e size f l F] [hf : FixLen f size] : Ent H (rows e size f (sTail size v k) (l.drop k) * F) := by
  rw [h.eq]
  refine Ent.star (fun x hx => ?_) (Ent.refl _)
  obtain ⟨hlen, hc⟩ := hx
  rcases hc with ⟨A, rfl, h0, hn⟩ | ⟨g, off, cap, cur, fr, rfl, h1, h2, h3, h4, h5, h6⟩
  · refine ⟨x, ⟨flatMap_length f size hf.eq _, .inl ⟨A, by simp [sTail, sliced], by simp; omega, hn⟩⟩, fun _ _ e => e⟩
  · have hmin : min k l.length = k := by omega
    have hdrop : ∀ (k : Nat) (l : List α), k ≤ l.length → (l.drop k).flatMap f = (l.flatMap f).drop (k * size) := by
      intro k l hk
      induction l generalizing k with
      | nil => simp
      | cons a l ih =>
        cases k with
        | zero => simp
        | succ k =>
          have : (k + 1) * size = (f a).length + k * size := by rw [hf.eq, Nat.succ_mul]; omega
          simp only [List.drop_succ_cons, List.flatMap_cons, ih k (by simpa using hk), this, List.drop_length_add_append]
    by_cases hcap : cap = k
    · refine ⟨fun _ => none, ⟨flatMap_length f size hf.eq _, .inl ⟨some ⟨g, off, none⟩, ?_, by simp; omega, fun _ => rfl⟩⟩, fun _ _ e => by cases e⟩
      simp only [sTail, sliced, hmin]
      rw [if_pos hcap]
      congr 1 <;> omega
    · refine ⟨x, ⟨flatMap_length f size hf.eq _, .inr ⟨g, off + k * size, cap - k, cur, fr, ?_, by simp; omega, by omega, ?_, ?_, ?_, h6⟩⟩, fun _ _ e => e⟩
      · simp only [sTail, sliced, hmin]
        rw [if_neg hcap]
        simp [add_lit]
      · have : (cap - k) * size = cap * size - k * size := Nat.sub_mul _ _ _
        have : k * size ≤ cap * size := Nat.mul_le_mul_right _ (by omega)
        omega
      · rw [hdrop k l hk, ← h4, List.drop_take, List.drop_drop, List.length_drop, Nat.sub_mul]
      · intro i hi1 hi2
        have : (cap - k) * size = cap * size - k * size := Nat.sub_mul _ _ _
        have : k * size ≤ cap * size := Nat.mul_le_mul_right _ (by omega)
        exact h5 i (by omega) (by omega)
/-- A slice's form, as a fact. -/
theorem WS_form {c : Code} (v : Value) (hl : RowsOf H v α e size f l F) (h : ∀ A cap, v = .slice A l.length cap → WS P n w0 c Q ⟨E, D, H⟩) : WS P n w0 c Q ⟨E, D, H⟩ := fun a w g => by
  obtain ⟨A, cap, hv⟩ := rows_form (g.sat.cast hl.eq)
  exact h A cap hv a w g
theorem LS_form (v : Value) (hl : RowsOf H v α e size f l F) (h : ∀ A cap, v = .slice A l.length cap → LS P n w0 ops Q l' ⟨E, D, H⟩) : LS P n w0 ops Q l' ⟨E, D, H⟩ := fun a w g => by
  obtain ⟨A, cap, hv⟩ := rows_form (g.sat.cast hl.eq)
  exact h A cap hv a w g
theorem WS_some {c : Code} (v : Value) (hl : RowsOf H v α e size f l F) (hf : FixLen f size) (hp : Nat.blt 0 size = true) (hk : 0 < l.length) (h : ∀ g off cap, v = .slice (some ⟨g, off, none⟩) l.length cap → WS P n w0 c Q ⟨E, D, H⟩) : WS P n w0 c Q ⟨E, D, H⟩ := fun a w g => by
  obtain ⟨g', off, cap, hv, _⟩ := rows_cell (by simpa using hp) (g.sat.cast hl.eq) hk
  exact h g' off cap hv a w g
/-- The address of an element, the slice's form known. -/
theorem Q_indexV {t e2 : TypeId} {q : IntKind} {i : Int} {k m g off cap : Nat} (hx : E.ev x = some (.slice (some ⟨g, off, none⟩) m cap)) (hy : E.ev y = some (.int q i)) (ht : Und P t (.slice e2)) (hs2 : Siz P e2 size) (hi : AsNat i k) (hk : k < m) :
    OpQ P n w0 ⟨d, .indexAddr t x y, ty, pos, after, gu⟩ E H (eptr (.slice (some ⟨g, off, none⟩) m cap) size k 0) := fun a w s hs => by
  obtain ⟨i0, hi0, hi1⟩ := Option.map_eq_some_iff.1 hs2.eq
  obtain rfl := hi.eq
  have hel : P.elem t = e2 := by simp [Program.elem, ht.eq]
  have h := run_indexAt_slice (P := P) w t ⟨g, off, none⟩ m cap q (k : Int) (by rw [ht.eq, hel])
  rw [if_pos ⟨by omega, by omega⟩, hel] at h
  simp [execOp, s.ev hx, s.ev hy, h, sizeOf, typeInfo, hi0, hi1, eptr]
end
instance own_star (H A B F1 F : HProp) [h1 : Own H A F1] [h2 : Own F1 B F] : Own H (A * B) F := ⟨by rw [h1.eq, h2.eq, star_assoc]⟩
instance asNat_mul (i j : Int) (k m : Nat) [a : AsNat i k] [b : AsNat j m] : AsNat (i * j) (k * m) := ⟨by rw [a.eq, b.eq]; simp⟩
instance limbB_bare (g : Nat) (t : TypeId) (cs : List Value) : LimbB (cel g t cs) g t cs emp := ⟨star_emp.symm⟩
instance rowsOf_bare {α : Type} (e : TypeId) (size : Nat) (f : α → List Value) (v : Value) (l : List α) : RowsOf (rows e size f v l) v α e size f l emp := ⟨star_emp.symm⟩
instance mapOf_bare {κ ν : Type} (fk : κ → Value) (fv : ν → Value) (r : Nat) (m : List (κ × ν)) : MapOf (mp fk fv r m) r κ ν fk fv m emp := ⟨star_emp.symm⟩
/-! ### Values of one cell -/
class OneV (v : Value) : Prop where ok : v.oneCell' = true
class One (w0 : World) (H : HProp) (v : Value) : Prop where ok : ∀ w, Sat w0 w H → v.oneCell' = true
instance one_v {v : Value} [h : OneV v] : One w0 H v := ⟨fun _ _ => h.ok⟩
instance {k : IntKind} {m : Int} : OneV (.int k m) := ⟨rfl⟩
instance {b : Bool} : OneV (.bool b) := ⟨rfl⟩
instance {b : ByteArray} : OneV (.string b) := ⟨rfl⟩
instance {a : Option Addr} : OneV (.pointer a) := ⟨rfl⟩
instance {a : Option Addr} {m c : Nat} : OneV (.slice a m c) := ⟨rfl⟩
instance {m : Option Nat} : OneV (.map m) := ⟨rfl⟩
instance {f : Fn} {a b : Array Value} : OneV (.func f a b) := ⟨rfl⟩
instance : OneV .nilFunc := ⟨rfl⟩
instance {x : UInt8} : OneV (u8 x) := ⟨rfl⟩
instance {x : UInt32} : OneV (u32 x) := ⟨rfl⟩
instance {x : UInt64} : OneV (u64 x) := ⟨rfl⟩
instance (priority := low) one_rows {α : Type} {e : TypeId} {size : Nat} {f : α → List Value} {v : Value} {l : List α} {F : HProp} [h : RowsOf H v α e size f l F] : One w0 H v := ⟨fun w hs => by
  obtain ⟨A, c, rfl⟩ := rows_form (hs.cast h.eq); rfl⟩
instance (priority := low) one_rdr {α : Type} {size : Nat} {f : α → List Value} {v : Value} {l : List α} [h : Rdr w0 H v α size f l] : One w0 H v := ⟨fun w hs => by
  obtain ⟨A, c, rfl, _⟩ := (h.at_ w hs).form; rfl⟩
class OneL (w0 : World) (H : HProp) (vs : List Value) : Prop where ok : ∀ w, Sat w0 w H → ∀ u ∈ vs, u.oneCell' = true
instance oneL_nil : OneL w0 H [] := ⟨fun _ _ u hu => by cases hu⟩
instance oneL_cons {v : Value} {vs : List Value} [h1 : One w0 H v] [h2 : OneL w0 H vs] : OneL w0 H (v :: vs) := ⟨fun w hs u hu => by
  rcases List.mem_cons.1 hu with rfl | hu
  · exact h1.ok w hs
  · exact h2.ok w hs u hu⟩
theorem OpH.whole {o : Oper} {α : Type} {v : α → Value} {post : α → HProp} (h : ∀ G a w (K : Act → World → Prop) (Q : Exit → Act → World → Prop), Sees n E a → Sat w0 w (H * G) → (∀ x w', Sat w0 w' (post x * G) → K (a.put o.dst (v x)) w') → o.wp P a w K Q) : OpH P n w0 o E H v post :=
  ⟨H, post, emp, h, star_emp.symm, fun _ => star_emp.symm⟩
section
variable {ty : TypeId} {pos : String} {after : Array Edge} {gu : Option (Nat × Bool)} {x y : Operand} {v : Value}
theorem H_storeO {t bt : TypeId} {g off : Nat} {cs cs' : List Value} (hx : E.ev x = some (ptr g off)) (hy : E.ev y = some v) (ht : Scal P t) (h1 : One w0 H v) (hl : LimbB H g bt cs F) (hset : pasteL cs off [v] = some cs') :
    OpH P n w0 ⟨none, .store t x y, ty, pos, after, gu⟩ E H (fun _ : Unit => undef) (fun _ => cel g bt cs' * F) := OpH.whole fun G a w K Q s hs hK => by
  have h1' := h1.ok w hs.keep
  have hs' : Sat w0 w (cel g bt cs * (F * G)) := hs.cast (by rw [hl.eq, star_assoc])
  obtain ⟨w', hr, hs''⟩ := run_storeVar_cel (P := P) (t := t) (vs := [v]) w hs' ht.size (cells_one h1') (by simpa using h1') hset
  have := hK () w' (hs''.cast (star_assoc _ _ _).symm)
  simp only [Act.put] at this
  simp only [Oper.wp, execOp, s.ev hx, s.ev hy, Instr.storeAt, Instr.sureAddr, Sem.run_bind, Sem.run_pure, Result.andThen_ok, hr, Oper.upon_skip]
  exact this
theorem H_storeAO {t bt : TypeId} {g off : Nat} {cs cs' vs : List Value} (hx : E.ev x = some (ptr g off)) (hy : E.ev y = some (.agg vs.toArray)) (ht : Aggr P t vs.length) (hl : LimbB H g bt cs F) (h1 : OneL w0 H vs) (hset : pasteL cs off vs = some cs') :
    OpH P n w0 ⟨none, .store t x y, ty, pos, after, gu⟩ E H (fun _ : Unit => undef) (fun _ => cel g bt cs' * F) := OpH.whole fun G a w K Q s hs hK => by
  have h1' := h1.ok w hs.keep
  have hs' : Sat w0 w (cel g bt cs * (F * G)) := hs.cast (by rw [hl.eq, star_assoc])
  obtain ⟨w', hr, hs''⟩ := run_storeVar_cel (P := P) (t := t) (vs := vs) (val := .agg vs.toArray) w hs' ht.size rfl h1' hset
  have := hK () w' (hs''.cast (star_assoc _ _ _).symm)
  simp only [Act.put] at this
  simp only [Oper.wp, execOp, s.ev hx, s.ev hy, Instr.storeAt, Instr.sureAddr, Sem.run_bind, Sem.run_pure, Result.andThen_ok, hr, Oper.upon_skip]
  exact this
theorem H_boxO {d : Option Tmp} {t : TypeId} (hx : E.ev x = some v) (h1 : One w0 H v) : OpH P n w0 ⟨d, .box t x, ty, pos, after, gu⟩ E H (fun g => ptr g 0) (fun g => cel g t [v] * H) := OpH.whole fun G a w K Q s hs hK => by
  have hc : v.cells = [v].toArray := cells_one (h1.ok w hs.keep)
  have hr : (execOp a.eval ⟨d, .box t x, ty, pos, after, gu⟩).run P w = .ok (.value (ptr w.heap.size 0)) (w.alloc (.cells [v].toArray t)) := by
    simp [execOp, s.ev hx, Instr.box, newVar, newRow, hc]
  unfold Oper.wp
  rw [hr]
  exact hK w.heap.size _ ((hs.new t [v].toArray).cast (star_assoc _ _ _).symm)
end
/-! ### 'exists' and plain facts -/
theorem WS_hex {α : Type} {p : α → HProp} {c : Code} (h : ∀ x, WS P n w0 c Q ⟨E, D, p x * F⟩) : WS P n w0 c Q ⟨E, D, hex p * F⟩ := fun a w g => by
  obtain ⟨x, hx⟩ := g.sat.ex
  exact h x a w ⟨g.sees, g.defers, hx⟩
theorem LS_hex {α : Type} {p : α → HProp} (h : ∀ x, LS P n w0 ops Q l' ⟨E, D, p x * F⟩) : LS P n w0 ops Q l' ⟨E, D, hex p * F⟩ := fun a w g => by
  obtain ⟨x, hx⟩ := g.sat.ex
  exact h x a w ⟨g.sees, g.defers, hx⟩
theorem WS_pure {φ : Prop} {c : Code} (h : φ → WS P n w0 c Q ⟨E, D, F⟩) : WS P n w0 c Q ⟨E, D, pure' φ * F⟩ := fun a w g => by
  obtain ⟨hf, hs⟩ := g.sat.pure
  exact h hf a w ⟨g.sees, g.defers, hs⟩
theorem Ent.hex_in {α : Type} {p : α → HProp} (x : α) : Ent (p x * F) (hex p * F) := fun h ⟨a, b, hd, e, hp, hq⟩ => ⟨h, ⟨a, b, hd, e, ⟨x, hp⟩, hq⟩, fun _ _ e => e⟩
theorem Ent.pure_in {φ : Prop} (hf : φ) : Ent F (pure' φ * F) := fun h hh => ⟨h, pure_star.2 ⟨hf, hh⟩, fun _ _ e => e⟩
theorem Spec.ex {α β : Type} {f : FuncId} {args : List Value} {p : β → HProp} {res : α → Value} {post : α → HProp} (h : ∀ b, Spec P w0 f args (p b) res post) : Spec P w0 f args (hex p) res post := fun G w hs => by
  obtain ⟨b, hb⟩ := hs.ex
  exact h b G w hb
theorem Spec.weak {α β : Type} {f : FuncId} {args : List Value} {pre pre' : HProp} {res : α → Value} {post : α → HProp} {res' : β → Value} {post' : β → HProp} (h : Spec P w0 f args pre res post) (hp : Ent pre' pre) (hw : ∀ x, ∃ y, res x = res' y ∧ Ent (post x) (post' y)) : Spec P w0 f args pre' res' post' := fun G w hs =>
  (h G w ((Ent.star hp (Ent.refl G)).sat hs)).mono fun e w' ⟨x, hx, hs'⟩ => by
    obtain ⟨y, e1, e2⟩ := hw x
    exact ⟨y, by rw [hx, e1], (Ent.star e2 (Ent.refl G)).sat hs'⟩
/-! ### Slices that are made -/
section
variable {d : Option Tmp} {ty : TypeId} {pos : String} {after : Array Edge} {gu : Option (Nat × Bool)} {x y : Operand}
theorem H_makeSlice {α : Type} (f : α → List Value) (z0 : α) {t e : TypeId} {size bytes m : Nat} {z : Value} {zs : List Value} {q q' : IntKind} (hx : E.ev x = some (.int q (m : Int))) (hy : E.ev y = some (.int q' (m : Int))) (hT : SlTC P t e size bytes) (hz : Zero P e z zs) (hf : FixLen f size) (hzs : zs = f z0) (hpos : Nat.blt 0 size = true) (hm : m ≤ 1000000) (hby : Nat.ble bytes 1000 = true) :
    OpH P n w0 ⟨d, .makeSlice t x y, ty, pos, after, gu⟩ E H (fun v' : Value => v') (fun v' => rows e size f v' (List.replicate m z0) * H) := by
  obtain ⟨i, z', hi, hiz', hsz, hbt, _⟩ := hT.out.info
  obtain ⟨i', hi', hiz⟩ := Option.map_eq_some_iff.1 hz.eq
  rw [hi] at hi'; cases hi'
  rw [hiz] at hiz'; cases hiz'
  have hpos' : 0 < size := by simpa using hpos
  have hby' : bytes ≤ 1000 := Nat.le_of_ble_eq_true hby
  have hbm : (i.bytes : Int) * (m : Int) ≤ 281474976710656 := by
    rw [hbt]
    have : bytes * m ≤ 1000 * 1000000 := Nat.mul_le_mul hby' hm
    have e : ((bytes * m : Nat) : Int) = (bytes : Int) * (m : Int) := by simp
    omega
  have hlen : zs.length = size := by rw [hzs]; exact hf.eq z0
  have hc : z.cells = zs.toArray := by rw [cellsL_eq, hz.cells]
  have hcells : madeCells z.cells (m * size) = ((List.replicate m z0).flatMap f).toArray := by
    have hr : ∀ k, (List.replicate k z0).flatMap f = zeroRow zs k := by
      intro k
      induction k with
      | zero => rfl
      | succ k ih => rw [List.replicate_succ, List.flatMap_cons, ih, hzs]; rfl
    rw [hr, hc]
    apply Array.ext'
    apply List.ext_getElem?
    intro j
    by_cases hj : j < m * size
    · rw [List.toList_toArray, zeroRow_at zs m j (by rw [hlen]; exact hj)]
      have hm : j % zs.length < zs.length := Nat.mod_lt _ (by omega)
      simp [madeCells, hj, hm]
    · rw [List.getElem?_eq_none (by simpa [madeCells] using hj), List.getElem?_eq_none (by rw [List.toList_toArray, zeroRow_length, hlen]; omega)]
  refine (H_new (f := fun g => .slice (some ⟨g, 0, none⟩) m m) (t := e) (cs := (List.replicate m z0).flatMap f) fun a w s => ?_).weak fun g => ⟨_, rfl, Ent.rows_new (List.replicate m z0) rfl (by simp) hm⟩
  have h := run_make (P := P) w t e i z hT.out.ht hi hiz q q' m m (by omega) (by omega) hbm (by omega)
  simp only [Int.toNat_natCast, hsz, hcells] at h
  simp only [execOp, s.ev hx, s.ev hy, Sem.run_bind, h, Result.andThen_ok, Sem.run_pure]
/-- A slice literal without elements, as a slice of data. -/
theorem H_buildSlice0R {α : Type} (f : α → List Value) {t e : TypeId} {size : Nat} (ht : Und P t (.slice e)) (hs : Siz P e size) :
    OpH P n w0 ⟨d, .buildSlice t 0 #[], ty, pos, after, gu⟩ E H (fun v' : Value => v') (fun v' => rows e size f v' [] * H) :=
  (H_buildSlice0 ht hs).weak fun g => ⟨_, rfl, (Ent.drop _ _).trans (Ent.nil _ _ _ _ _)⟩
/-- A slice literal, as a slice of data. -/
theorem H_buildSliceR {α : Type} (f : α → List Value) (ys : List α) {t e : TypeId} {len size : Nat} {parts : List (Nat × Operand)} {vs : List (Nat × Value)} {z : Value} {zs cs : List Value} (ht : Und P t (.slice e)) (hz : Zero P e z zs) (hs : Siz P e size) (hl : Nat.beq zs.length size = true) (hsm : Nat.ble (len * size) 16777216 = true) (hpos : Nat.blt 0 (len * size) = true) (hv : E.partsV parts = some vs) (hb : bsL size (zeroRow zs len) vs = some cs) (hf : FixLen f size) (hc : cs = ys.flatMap f) (hm : ys.length = len) (hmax : Nat.ble len 1000000 = true) :
    OpH P n w0 ⟨d, .buildSlice t len parts.toArray, ty, pos, after, gu⟩ E H (fun v' : Value => v') (fun v' => rows e size f v' ys * H) :=
  (H_buildSlice ht hz hs hl hsm hpos hv hb).weak fun g => ⟨_, rfl, Ent.rows_new ys hc hm (Nat.le_of_ble_eq_true hmax)⟩
end
theorem Ent.nilT {α : Type} {e : TypeId} {size : Nat} {f : α → List Value} {A : Option Addr} {F' : HProp} (r : Ent H F') : Ent H (rows e size f (.slice A 0 0) [] * F') := r.trans (Ent.nil _ _ _ _ _)
/-- All elements of a slice that can be read in X. -/
theorem H_appendO {α : Type} {t e : TypeId} {size bytes : Nat} {f f' : α → List Value} {v u : Value} {l ys : List α} {d : Option Tmp} {ty : TypeId} {pos : String} {after : Array Edge} {gu : Option (Nat × Bool)} {x y : Operand} (X : HProp) (hx : E.ev x = some v) (hy : E.ev y = some u) (hl : RowsOf H v α e size f l F) (hX : Rdr w0 X u α size f' ys) (hF : Own F X F2) (hff : f' = f) (hT : SlTC P t e size bytes) (hf : FixLen f size) (h1 : ∀ z, ∀ c ∈ f z, c.oneCell' = true) (hn : l.length + ys.length ≤ 1000000) (hby : Nat.ble bytes 1000 = true) :
    OpH P n w0 ⟨d, .call ⟨.builtin .append, #[x, y], #[t, t]⟩, ty, pos, after, gu⟩ E H (fun v' : Value => v') (fun v' => rows e size f v' (l ++ ys) * (X * F2)) := H_appendX X hx hy hl hX hF.eq hff hT hf h1 hn hby
/-! ### Regions that draw and change nothing that is there -/
def getO : List Oper → Nat → Option Oper
  | [], _ => none
  | o :: _, 0 => some o
  | _ :: r, i + 1 => getO r i
/-- A list in another order. -/
def permL (l : List Oper) : List Nat → Option (List Oper)
  | [] => some []
  | i :: r => match getO l i, permL l r with
    | some o, some r' => some (o :: r')
    | _, _ => none
theorem getO_eq : ∀ (l : List Oper) (i : Nat), getO l i = l[i]?
  | [], i => by simp [getO]
  | o :: r, 0 => rfl
  | o :: r, i + 1 => by simp [getO, getO_eq r i]
theorem permL_eq {l : List Oper} : ∀ {idx : List Nat} {l' : List Oper}, permL l idx = some l' → idx.map (l[·]?) = l'.map some
  | [], _, h => by cases h; rfl
  | i :: r, l', h => by
    simp only [permL, getO_eq] at h
    split at h
    · rename_i o r' h1 h2
      cases h
      simp [h1, permL_eq h2]
    · cases h
theorem WS_drawA {l l' : List Oper} {id : Nat} (idx : List Nat) (hs : statD P l idx (fun _ => false) 1000 = true) (hl : permL l idx = some l') (h : DL P n w0 l.toArray Q D H emp (fun _ => false) 1000 0 false l' E emp) : WS P n w0 (.region id l.toArray true) Q ⟨E, D, H⟩ :=
  WS_draw idx l' H emp emp _ 1000 hs (by rw [emp_star, star_emp]) (permL_eq hl) h
theorem WS_drawJ {l l' : List Oper} {id : Nat} (idx : List Nat) (cp : Nat) (hs : statD P l idx (fun k => Nat.blt k cp) cp = true) (hl : permL l idx = some l') (h : DL P n w0 l.toArray Q D emp H (fun k => Nat.blt k cp) cp 0 false l' E emp) : WS P n w0 (.region id l.toArray true) Q ⟨E, D, H⟩ :=
  WS_draw idx l' emp H emp _ cp hs (by rw [star_emp, emp_star]) (permL_eq hl) h
def inB (bs : List Nat) (k : Nat) : Bool := bs.any (Nat.beq k)
/-- L is read at the places bs alone. -/
theorem WS_drawK {l l' : List Oper} {id : Nat} (idx : List Nat) (cp : Nat) (bs : List Nat) (hs : statD P l idx (inB bs) cp = true) (hl : permL l idx = some l') (h : DL P n w0 l.toArray Q D emp H (inB bs) cp 0 false l' E emp) : WS P n w0 (.region id l.toArray true) Q ⟨E, D, H⟩ :=
  WS_draw idx l' emp H emp _ cp hs (by rw [star_emp, emp_star]) (permL_eq hl) h
theorem DL_nilA {B : Nat → Bool} {k cp : Nat} (h : Q .normal ⟨E, D, R⟩) : DL P n w0 ops Q D R emp B cp k false [] E emp := .nil (by simp only [hp, cond_false]; rw [emp_star, star_emp]) h
/-- A call that only reads: what it reads is all that is only read, or all that is not claimed yet. -/
theorem DL_callQ {f : FuncId} {args : List Value} {v : Value} {d : Nat} {xs : List Operand} {ts : Array TypeId} {ty : TypeId} {pos : String} {after : Array Edge} {B : Nat → Bool} {L : HProp} {k cp : Nat} {c : Bool} {l : List Oper} (hf : IsFun P f) (hargs : E.evs xs = some args) (spec : Spec P w0 f args R (fun _ : Unit => v) (fun _ => R)) (hd : Nat.blt d n.tmps = true)
    (h : DL P n w0 ops Q D R L B cp (k + 1) c l ((d, v) :: E) F) : DL P n w0 ops Q D R L B cp k c (⟨some d, .call ⟨.value (.func f), xs.toArray, ts⟩, ty, pos, after, none⟩ :: l) E F :=
  DL_tq rfl rfl hd (fun F' a w K Q s hs hK => by
    have key : ∀ X, Sat w0 w (R * X) → (∀ w', Sat w0 w' (R * X) → K (a.put (some d) v) w') → (⟨some d, .call ⟨.value (.func f), xs.toArray, ts⟩, ty, pos, after, none⟩ : Oper).wp P a w K Q := fun X hs hK =>
      T_call (d := some d) (ty := ty) (pos := pos) (after := after) (gu := none) (ts := ts) hf hargs spec X a w K Q s hs fun _ w' hs' => hK w' hs'
    cases c with
    | true => exact key F' hs hK
    | false => exact key (L * F') hs hK) h
end Go.Proofs.Ytapoehkdnglahaa
