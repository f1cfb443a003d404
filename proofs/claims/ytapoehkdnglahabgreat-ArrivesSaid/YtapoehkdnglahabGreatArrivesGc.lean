/- A part of what Arrives needs. -/
import Derived.Test.YtapoehkdnglahabGreatArrivesGb
set_option linter.unusedVariables false
set_option linter.unusedSimpArgs false
set_option linter.unusedSectionVars false
namespace Go.Proofs.YtapoehkdnglahabGreat
section
open Go.RowKit
variable {P : Program} {n : Frm} {w0 : World} {E : Env} {D : List Deferred} {H F R : HProp} {ops : Array Oper} {l' : List Oper} {Q : Exit → St → Prop} {w : World}
def rows {α : Type} (e : TypeId) (size : Nat) (f : α → List Value) (v : Value) (l : List α) : HProp := slc e size v l.length (l.flatMap f)
class FixLen {α : Type} (f : α → List Value) (size : Nat) : Prop where
  eq : ∀ x, (f x).length = size
class RowsOf (H : HProp) (v : Value) (α : outParam Type) (e : outParam TypeId) (size : outParam Nat) (f : outParam (α → List Value)) (l : outParam (List α)) (F : outParam HProp) : Prop where
  eq : H = rows e size f v l * F
instance rowsOf_head {α : Type} (e : TypeId) (size : Nat) (f : α → List Value) (v : Value) (l : List α) (F : HProp) : RowsOf (rows e size f v l * F) v α e size f l F := ⟨rfl⟩
instance (priority := low) rowsOf_tail {α : Type} (X H F : HProp) (e : TypeId) (size : Nat) (f : α → List Value) (v : Value) (l : List α) [h : RowsOf H v α e size f l F] : RowsOf (X * H) v α e size f l (X * F) := ⟨by rw [h.eq, star_left_comm]⟩
instance (priority := low) rowsOf_left {α : Type} (X H F : HProp) (e : TypeId) (size : Nat) (f : α → List Value) (v : Value) (l : List α) [h : RowsOf X v α e size f l F] : RowsOf (X * H) v α e size f l (F * H) := ⟨by rw [h.eq, star_assoc]⟩
class Siz (P : Program) (t : TypeId) (size : outParam Nat) : Prop where
  eq : (P.info? t).map (·.size) = some size
instance siz_scal (t : TypeId) [h : Scal P t] : Siz P t 1 := ⟨h.size⟩
instance siz_aggr (t : TypeId) (s : Nat) [h : Aggr P t s] : Siz P t s := ⟨h.size⟩
class SlTC (P : Program) (t : TypeId) (e : outParam TypeId) (size bytes : outParam Nat) : Prop where
  out : SlT P t e size bytes
class AsNat (i : Int) (k : outParam Nat) : Prop where
  eq : i = (k : Int)
instance asNat_cast (k : Nat) : AsNat ((k : Nat) : Int) k := ⟨rfl⟩
instance asNat_zero : AsNat 0 0 := ⟨rfl⟩
instance : AsNat 2 2 := ⟨rfl⟩
instance : AsNat 3 3 := ⟨rfl⟩
instance : AsNat 5 5 := ⟨rfl⟩
instance : AsNat 13 13 := ⟨rfl⟩
instance asNat_one : AsNat 1 1 := ⟨rfl⟩
instance asNat_add (i j : Int) (k m : Nat) [a : AsNat i k] [b : AsNat j m] : AsNat (i + j) (k + m) := ⟨by rw [a.eq, b.eq]; simp⟩

def eptr (v : Value) (size k j : Nat) : Value := match v with
 | .slice (some a) _ _ => .pointer (some (a.add (k * size + j)))
 | _ => undef
theorem flatMap_length {α : Type} (f : α → List Value) (size : Nat) (hf : ∀ x, (f x).length = size) (l : List α) : (l.flatMap f).length = l.length * size := by
 induction l with
 | nil => simp
 | cons x l ih => simp [ih, hf, Nat.succ_mul]; omega
theorem flatMap_at {α : Type} (f : α → List Value) (size : Nat) (hf : ∀ x, (f x).length = size) : ∀ (l : List α) (k j : Nat) (x : α), l[k]? = some x → j < size → (l.flatMap f)[k * size + j]? = (f x)[j]?
 | [], k, j, x, h, _ => by simp at h
 | y :: l, 0, j, x, h, hj => by
  simp at h; subst h
  simp only [List.flatMap_cons, Nat.zero_mul, Nat.zero_add]
  rw [List.getElem?_append_left (by rw [hf]; exact hj)]
 | y :: l, k + 1, j, x, h, hj => by
  have := flatMap_at f size hf l k j x (by simpa using h) hj
  simp only [List.flatMap_cons]
  rw [List.getElem?_append_right (by rw [hf, Nat.succ_mul]; omega), hf, ← this]
  congr 1
  rw [Nat.succ_mul]; omega
theorem flatMap_set {α : Type} (f : α → List Value) (size : Nat) (hf : ∀ x, (f x).length = size) : ∀ (l : List α) (k : Nat) (y : α), k < l.length → (l.set k y).flatMap f = (l.flatMap f).take (k * size) ++ f y ++ (l.flatMap f).drop (k * size + size)
 | [], k, y, h => by simp at h
 | x :: l, 0, y, h => by
  have hx := hf x
  have e : ((f x ++ l.flatMap f).drop (0 * size + size)) = l.flatMap f := by rw [Nat.zero_mul, Nat.zero_add, ← hx, List.drop_left]
  simp only [List.set_cons_zero, List.flatMap_cons]
  rw [e]; simp
 | x :: l, k + 1, y, h => by
  have ih := flatMap_set f size hf l k y (by simpa using h)
  have hx := hf x
  have e1 : (f x ++ l.flatMap f).take ((k + 1) * size) = f x ++ (l.flatMap f).take (k * size) := by
   rw [show (k + 1) * size = (f x).length + k * size by rw [hx, Nat.succ_mul]; omega, List.take_length_add_append]
  have e2 : (f x ++ l.flatMap f).drop ((k + 1) * size + size) = (l.flatMap f).drop (k * size + size) := by
   rw [show (k + 1) * size + size = (f x).length + (k * size + size) by rw [hx, Nat.succ_mul]; omega, List.drop_length_add_append]
  simp only [List.set_cons_succ, List.flatMap_cons, ih]
  rw [e1, e2]
  simp
theorem rows_cell {α : Type} {e : TypeId} {size : Nat} {f : α → List Value} {v : Value} {l : List α} [hf : FixLen f size] (hp : 0 < size) (h : Sat w0 w (rows e size f v l * F)) {k : Nat} (hk : k < l.length) :
  ∃ g off cap, v = .slice (some ⟨g, off, none⟩) l.length cap ∧ (∀ j u, j < size → (f l[k])[j]? = some u → w.cell? ⟨g, off + (k * size + j), none⟩ = some u) := by
 have hne : l.flatMap f ≠ [] := by
  intro e0
  have := flatMap_length f size hf.eq l
  rw [e0] at this
  have := Nat.mul_pos (Nat.lt_of_le_of_lt (Nat.zero_le _) hk) hp
  simp at *; omega
 obtain ⟨g, off, cap, hv, _, _, hc⟩ := Sat.slc_cell h hne
 exact ⟨g, off, cap, hv, fun j u hj hu => (hc _ u (by rw [flatMap_at f size hf.eq l k j l[k] (by simp) hj]; exact hu)).1⟩
theorem rows_form {α : Type} {e : TypeId} {size : Nat} {f : α → List Value} {v : Value} {l : List α} (h : Sat w0 w (rows e size f v l * F)) : ∃ A c, v = .slice A l.length c := Sat.slc_form h
structure RowsAt (w : World) (size : Nat) {α : Type} (f : α → List Value) (v : Value) (l : List α) : Prop where
  form : ∃ A c, v = .slice A l.length c ∧ l.length ≤ c ∧ c ≤ maxLen
  cell : ∀ k (hk : k < l.length), ∃ g off cap, v = .slice (some ⟨g, off, none⟩) l.length cap ∧ ∀ j u, j < size → (f l[k])[j]? = some u → w.cell? ⟨g, off + (k * size + j), none⟩ = some u
class Rdr (w0 : World) (H : HProp) (v : Value) (α : outParam Type) (size : outParam Nat) (f : outParam (α → List Value)) (l : outParam (List α)) : Prop where
  at_ : ∀ w, Sat w0 w H → RowsAt w size f v l
theorem rows_at {α : Type} {e : TypeId} {size : Nat} {f : α → List Value} {v : Value} {l : List α} [hf : FixLen f size] (hp : 0 < size) (h : Sat w0 w (rows e size f v l * F)) : RowsAt w size f v l := by
 refine ⟨?_, fun k hk => rows_cell hp h hk⟩
 obtain ⟨_, ⟨A, rfl, h0, _⟩ | ⟨g, off, cap, _, _, rfl, h1, h2, _⟩⟩ := Sat.slc_cases h
 ·exact ⟨A, 0, by rw [h0], by omega, by simp [maxLen]⟩
 ·exact ⟨_, _, rfl, h1, h2⟩
instance rdr_rows {α : Type} (e : TypeId) (size : Nat) (f : α → List Value) (v : Value) (l : List α) (F : HProp) [hf : FixLen f size] [hp : NeZero size] : Rdr w0 (rows e size f v l * F) v α size f l := ⟨fun w h => rows_at (Nat.pos_of_ne_zero hp.out) h⟩
instance (priority := low) rdr_tail {α : Type} (X H : HProp) (size : Nat) (f : α → List Value) (v : Value) (l : List α) [h : Rdr w0 H v α size f l] : Rdr w0 (X * H) v α size f l := ⟨fun w hs => h.at_ w hs.drop⟩
instance (priority := low) rdr_left {α : Type} (X H : HProp) (size : Nat) (f : α → List Value) (v : Value) (l : List α) [h : Rdr w0 X v α size f l] : Rdr w0 (X * H) v α size f l := ⟨fun w hs => h.at_ w hs.keep⟩
instance rdr_bare {α : Type} (e : TypeId) (size : Nat) (f : α → List Value) (v : Value) (l : List α) [hf : FixLen f size] [hp : NeZero size] : Rdr w0 (rows e size f v l) v α size f l := ⟨fun w h => rows_at (F := emp) (Nat.pos_of_ne_zero hp.out) (h.cast star_emp.symm)⟩
instance : NeZero 1 := ⟨by decide⟩
instance : NeZero 2 := ⟨by decide⟩
instance : NeZero 3 := ⟨by decide⟩
instance : NeZero 7 := ⟨by decide⟩
section quiet
variable {α : Type} {e : TypeId} {size : Nat} {f : α → List Value} {v : Value} {l : List α} {d : Option Tmp} {ty : TypeId} {pos : String} {after : Array Edge} {gu : Option (Nat × Bool)} {x y : Operand}
theorem Q_lenR {t e' : TypeId} (hx : E.ev x = some v) (hl : Rdr w0 H v α size f l) (ht : Und P t (.slice e')) : OpQ P n w0 ⟨d, .call ⟨.builtin .len, #[x], #[t]⟩, ty, pos, after, gu⟩ E H (.int .i64 (l.length : Int)) := fun a w s hs => by
 obtain ⟨A, c, rfl, _⟩ := (hl.at_ w hs).form
 exact Q_len hx ht a w s hs
theorem Q_index {t e2 : TypeId} {q : IntKind} {i : Int} {k : Nat} (hx : E.ev x = some v) (hy : E.ev y = some (.int q i)) (hl : Rdr w0 H v α size f l) (ht : Und P t (.slice e2)) (hs2 : Siz P e2 size) (hi : AsNat i k) (hk : k < l.length) :
  OpQ P n w0 ⟨d, .indexAddr t x y, ty, pos, after, gu⟩ E H (eptr v size k 0) := fun a w s hs => by
 obtain ⟨g, off, cap, rfl, _⟩ := (hl.at_ w hs).cell k hk
 obtain ⟨i0, hi0, hi1⟩ := Option.map_eq_some_iff.1 hs2.eq
 obtain rfl := hi.eq
 have hel : P.elem t = e2 := by simp [Program.elem, ht.eq]
 have h := run_indexAt_slice (P := P) w t ⟨g, off, none⟩ l.length cap q (k : Int) (by rw [ht.eq, hel])
 rw [if_pos ⟨by omega, by omega⟩, hel] at h
 simp [execOp, s.ev hx, s.ev hy, h, sizeOf, typeInfo, hi0, hi1, eptr]
theorem run_fieldAt_some (w : World) {s k o : Nat} {t : TypeId} (a0 : Addr) (h : Fld P s k o t) : (Instr.fieldAt s (.pointer (some a0)) k).run P w = .ok (.pointer (some (a0.add o))) w := by
 obtain ⟨size, h⟩ := h.eq
 unfold fieldD at h
 split at h
 ·rename_i fs hu
  split at h
  ·rename_i f hf
   split at h
   ·rename_i i hi
    simp only [Option.some.injEq, Prod.mk.injEq] at h
    obtain ⟨h1, h2, hsz⟩ := h
    subst h1
    simp [Instr.fieldAt, run_underlying hu, hf, Instr.sureAddr, fieldPlace, sizeOf, typeInfo, hi, hsz]
   ·cases h
  ·cases h
 ·cases h
theorem Q_fieldR {s k j off r : Nat} {fld : Nat} {t : TypeId} (hx : E.ev x = some (eptr v size k j)) (hl : Rdr w0 H v α size f l) (h : Fld P s fld off t) (hr : j + off = r) (hk : k < l.length) : OpQ P n w0 ⟨d, .fieldAddr s x fld, ty, pos, after, gu⟩ E H (eptr v size k r) := fun a w se hs => by
 subst hr
 obtain ⟨g, o, cap, rfl, _⟩ := (hl.at_ w hs).cell k hk
 have e1 := run_fieldAt_some (P := P) w ((⟨g, o, none⟩ : Addr).add (k * size + j)) h
 rw [add_lit, add_lit] at e1
 simp [execOp, se.ev hx, eptr, add_lit, e1, Nat.add_assoc]
theorem Q_loadR {t : TypeId} {k j : Nat} {z : α} {u : Value} (hx : E.ev x = some (eptr v size k j)) (hl : Rdr w0 H v α size f l) (ht : Scal P t) (hf : FixLen f size) (hz : l[k]? = some z) (hv : getL (f z) j = some u) : OpQ P n w0 ⟨d, .load t x, ty, pos, after, gu⟩ E H u := fun a w s hs => by
 rw [getL_eq] at hv
 have hj : j < size := by rw [← hf.eq z]; exact (List.getElem?_eq_some_iff.1 hv).1
 have hk : k < l.length := (List.getElem?_eq_some_iff.1 hz).1
 obtain ⟨g, off, cap, rfl, hc⟩ := (hl.at_ w hs).cell k hk
 have hzk : l[k] = z := by have := (List.getElem?_eq_some_iff.1 hz).2; exact this
 have hcell := hc j u hj (by rw [hzk]; exact hv)
 have hd := ht.ok
 obtain ⟨dd, hdd⟩ : ∃ dd, P.underlying t = some dd := by
  cases hu : P.underlying t with
  | none => rw [hu] at hd; cases hd
  | some dd => exact ⟨dd, rfl⟩
 rw [hdd] at hd
 have hagg : (isAgg t).run P w = .ok false w := by
  simp only [isAgg, Sem.run_bind, run_underlying hdd, Result.andThen_ok]
  cases dd <;> simp_all [scalarD]
 simp [execOp, s.ev hx, eptr, Instr.loadAt, Instr.sureAddr, loadVar, hagg, add_lit, hcell]
theorem Q_loadRA {t : TypeId} {k : Nat} {z : α} (hx : E.ev x = some (eptr v size k 0)) (hl : Rdr w0 H v α size f l) (ht : Aggr P t size) (hf : FixLen f size) (hz : l[k]? = some z) : OpQ P n w0 ⟨d, .load t x, ty, pos, after, gu⟩ E H (.agg (f z).toArray) := fun a w s hs => by
 have hk : k < l.length := (List.getElem?_eq_some_iff.1 hz).1
 obtain ⟨g, off, cap, rfl, hc⟩ := (hl.at_ w hs).cell k hk
 have hzk : l[k] = z := by have := (List.getElem?_eq_some_iff.1 hz).2; exact this
 have hc' : ∀ j u, (f z)[j]? = some u → w.cell? ((⟨g, off + k * size, none⟩ : Addr).add j) = some u := fun j u hu => by
  rw [add_lit]
  have := hc j u (by rw [← hf.eq z]; exact (List.getElem?_eq_some_iff.1 hu).1) (by rw [hzk]; exact hu)
  rwa [← Nat.add_assoc] at this
 have hd := ht.ok
 obtain ⟨dd, hdd⟩ : ∃ dd, P.underlying t = some dd := by
  cases hu : P.underlying t with
  | none => rw [hu] at hd; cases hd
  | some dd => exact ⟨dd, rfl⟩
 rw [hdd] at hd
 have hagg : (isAgg t).run P w = .ok true w := by
  simp only [isAgg, Sem.run_bind, run_underlying hdd, Result.andThen_ok]
  cases dd <;> simp_all [aggD]
 obtain ⟨i, hi, hi2⟩ := Option.map_eq_some_iff.1 ht.size
 have hz2 : (sizeOf t).run P w = .ok size w := by simp [sizeOf, typeInfo, hi, hi2]
 have hr := run_loadCells_list (P := P) (w := w) ⟨g, off + k * size, none⟩ (f z) hc'
 rw [hf.eq] at hr
 simp [execOp, s.ev hx, eptr, add_lit, Instr.loadAt, Instr.sureAddr, loadVar, hagg, hz2, hr]
end quiet

theorem run_storeVar_slc (w : World) {g off cap m size : Nat} {e t : TypeId} {xs vs : List Value} {val : Value} {p : Nat} (hs : Sat w0 w (slc e size (.slice (some ⟨g, off, none⟩) m cap) m xs * F)) (hsz : (P.info? t).map (·.size) = some vs.length) (hv : val.cells = vs.toArray) (h1 : ∀ u ∈ vs, u.oneCell' = true) (hp : p + vs.length ≤ m * size) (hpos : 0 < m * size) :
  ∃ w', (storeVar t ⟨g, off + p, none⟩ val).run P w = .ok () w' ∧ Sat w0 w' (slc e size (.slice (some ⟨g, off, none⟩) m cap) m (xs.take p ++ vs ++ xs.drop (p + vs.length)) * F) := by
 obtain ⟨hl, ⟨A, hv0, h0, _⟩ | ⟨g', off', cap', cur, fr, hv0, hn, hm, hc, ht, hf, hs'⟩⟩ := hs.slc_cases
 ·subst h0; simp at hpos
 ·injection hv0 with e1 _ e3
  injection e1 with e1
  injection e1 with e1 e2
  subst e1; subst e2; subst e3
  have hle : m * size ≤ cap * size := Nat.mul_le_mul_right _ hn
  obtain ⟨i, hi, hi2⟩ := Option.map_eq_some_iff.1 hsz
  have hz : (sizeOf t).run P w = .ok vs.length w := by simp [sizeOf, typeInfo, hi, hi2]
  have hr := run_storeCells_fr (P := P) g (off + p) e fr vs 0 cur w hs'.at_ (by omega) h1 (fun i h1 h2 => hf i (by omega) (by omega))
  refine ⟨w.setRow g (cur.toList.take (off + p + 0) ++ vs ++ cur.toList.drop (off + p + 0 + vs.length)).toArray, ?_, ?_⟩
  ·simp only [storeVar, Sem.run_bind, hz, Result.andThen_ok, hv, List.size_toArray]
   rw [if_neg (by simp)]
   exact hr
  ·have hp2 : Sat w0 (w.setRow g (cur.toList.take (off + p + 0) ++ vs ++ cur.toList.drop (off + p + 0 + vs.length)).toArray) (pts g (.cells (cur.toList.take (off + p + 0) ++ vs ++ cur.toList.drop (off + p + 0 + vs.length)).toArray e fr) * F) :=
    Sat.put hs' rfl rfl rfl (setRow_heap w g cur _ e fr hs'.at_) fun k _ hk => setRow_other w g k _ hk
   refine Sat.slc_mk e size m g off cap _ fr _ hp2 ?_ hn hm ?_ ?_ hf
   ·simp only [List.length_append, List.length_take, List.length_drop, hl]; omega
   ·simp only [List.size_toArray, List.length_append, List.length_take, List.length_drop, Array.length_toList]; omega
   ·subst ht
    apply List.ext_getElem?
    intro j
    simp only [Nat.add_zero, List.getElem?_take, List.getElem?_drop, List.getElem?_append, List.length_append, List.length_take, List.length_drop, Array.length_toList]
    have e1 : min (off + p) cur.size = off + p := by omega
    have e2 : min p (min (m * size) (cur.size - off)) = p := by omega
    rw [e1, e2]
    by_cases c0 : j < m * size
    ·simp only [c0, if_true]
     by_cases c1 : j < p
     ·simp [c1, show off + j < off + p + vs.length by omega, show off + j < off + p by omega, show j < p + vs.length by omega]
     ·by_cases c2 : j < p + vs.length
      ·simp [c1, c2, show off + j < off + p + vs.length by omega, show off + j - (off + p) = j - p by omega]
      ·simp [c1, c2, show ¬ off + j < off + p + vs.length by omega, show ¬ off + j < off + p by omega, show off + p + vs.length + (off + j - (off + p + vs.length)) = off + j by omega, show p + vs.length + (j - (p + vs.length)) = j by omega, c0]
    ·simp only [c0, if_false]
     by_cases c2 : j < p + vs.length
     ·omega
     ·simp [c2, show ¬ j < p by omega, show ¬ p + vs.length + (j - (p + vs.length)) < m * size by omega]
theorem take_mid {A B C : List Value} {m j : Nat} (hA : A.length = m) (hj : j ≤ B.length) : (A ++ (B ++ C)).take (m + j) = A ++ B.take j := by
 subst hA
 rw [List.take_length_add_append, List.take_append_of_le_length hj]
theorem drop_mid {A B C : List Value} {m j : Nat} (hA : A.length = m) (hj : j ≤ B.length) : (A ++ (B ++ C)).drop (m + j) = B.drop j ++ C := by
 subst hA
 rw [List.drop_length_add_append, List.drop_append_of_le_length hj]
section stores
variable {α : Type} {e : TypeId} {size : Nat} {f : α → List Value} {v : Value} {l : List α} {ty : TypeId} {pos : String} {after : Array Edge} {gu : Option (Nat × Bool)} {x y : Operand}
theorem H_storeRA (z' : α) {t : TypeId} {k : Nat} {vs : List Value} (hx : E.ev x = some (eptr v size k 0)) (hy : E.ev y = some (.agg vs.toArray)) (hz : vs = f z') (hl : RowsOf H v α e size f l F) (ht : Aggr P t size) (hf : FixLen f size) (hp : Nat.blt 0 size = true) (h1 : vs.all (·.oneCell') = true) (hk : k < l.length) :
  OpH P n w0 ⟨none, .store t x y, ty, pos, after, gu⟩ E H (fun _ : Unit => undef) (fun _ => rows e size f v (l.set k z') * F) := OpH.mk' (pre := rows e size f v l) (post := fun _ => rows e size f v (l.set k z')) (fun G a w K Q s hs hK => by
 have hp' : 0 < size := by simpa using hp
 obtain ⟨g, off, cap, rfl, _⟩ := rows_cell hp' hs hk
 have hvl : vs.length = size := by rw [hz]; exact hf.eq z'
 have hkm : (k + 1) * size ≤ l.length * size := Nat.mul_le_mul_right _ hk
 rw [Nat.succ_mul] at hkm
 obtain ⟨w', hr, hs'⟩ := run_storeVar_slc (P := P) (t := t) (vs := vs) (val := .agg vs.toArray) (p := k * size) w hs (by rw [hvl]; exact ht.size) rfl (by simpa using h1) (by omega) (by omega)
 have := hK () w' (hs'.cast (by unfold rows; rw [List.length_set, flatMap_set f size hf.eq l k z' hk, hvl, hz]))
 simp only [Act.put] at this
 simp only [Oper.wp, execOp, s.ev hx, s.ev hy, eptr, add_lit, Nat.add_zero, Instr.storeAt, Instr.sureAddr, Sem.run_bind, Sem.run_pure, Result.andThen_ok, hr, Oper.upon_skip]
 exact this) hl.eq
theorem H_storeR (z' : α) {t : TypeId} {k j : Nat} {z : α} {u : Value} (hx : E.ev x = some (eptr v size k j)) (hy : E.ev y = some u) (hl : RowsOf H v α e size f l F) (ht : Scal P t) (hf : FixLen f size) (h1 : u.oneCell' = true) (hz : l[k]? = some z) (hz' : pasteL (f z) j [u] = some (f z')) :
  OpH P n w0 ⟨none, .store t x y, ty, pos, after, gu⟩ E H (fun _ : Unit => undef) (fun _ => rows e size f v (l.set k z') * F) := OpH.mk' (pre := rows e size f v l) (post := fun _ => rows e size f v (l.set k z')) (fun G a w K Q s hs hK => by
 obtain ⟨hle, hpa⟩ := pasteL_eq hz'
 have hj : j < size := by rw [← hf.eq z]; simp at hle; omega
 have hk : k < l.length := (List.getElem?_eq_some_iff.1 hz).1
 have hzk : l[k] = z := by have := (List.getElem?_eq_some_iff.1 hz).2; exact this
 obtain ⟨g, off, cap, rfl, _⟩ := rows_cell (by omega) hs hk
 have hkm : (k + 1) * size ≤ l.length * size := Nat.mul_le_mul_right _ hk
 rw [Nat.succ_mul] at hkm
 obtain ⟨w', hr, hs'⟩ := run_storeVar_slc (P := P) (t := t) (vs := [u]) (val := u) (p := k * size + j) w hs ht.size (cells_one h1) (by simpa using h1) (by simp; omega) (by omega)
 have hset : (l.flatMap f).take (k * size + j) ++ [u] ++ (l.flatMap f).drop (k * size + j + 1) = (l.set k z').flatMap f := by
  rw [flatMap_set f size hf.eq l k z' hk, hpa]
  have hlen := flatMap_length f size hf.eq l
  have hself : l.set k z = l := by rw [← hzk]; exact List.set_getElem_self hk
  have hX := flatMap_set f size hf.eq l k z hk
  rw [hself] at hX
  have hA : ((l.flatMap f).take (k * size)).length = k * size := by rw [List.length_take, hlen]; omega
  have hfz := hf.eq z
  generalize (l.flatMap f).take (k * size) = A at *
  generalize (l.flatMap f).drop (k * size + size) = C at *
  have hX' : l.flatMap f = A ++ (f z ++ C) := by rw [hX, List.append_assoc]
  have hle2 : j + 1 ≤ (f z).length := by omega
  have e1 := take_mid (C := C) hA (show j ≤ (f z).length by omega)
  have e2 := drop_mid (C := C) hA hle2
  rw [hX', e1, show k * size + j + 1 = k * size + (j + 1) by omega, e2]
  simp
 have := hK () w' (hs'.cast (by
  unfold rows
  rw [List.length_set, ← hset]
  simp))
 simp only [Act.put] at this
 simp only [Oper.wp, execOp, s.ev hx, s.ev hy, eptr, add_lit, Instr.storeAt, Instr.sureAddr, Sem.run_bind, Sem.run_pure, Result.andThen_ok, hr, Oper.upon_skip]
 exact this) hl.eq
end stores
theorem LS_ent {H H' : HProp} (e : Ent H H') (h : LS P n w0 ops Q l' ⟨E, D, H'⟩) : LS P n w0 ops Q l' ⟨E, D, H⟩ := fun a w g => h a w ⟨g.sees, g.defers, e.sat g.sat⟩
theorem WS_ent {c : Code} {H H' : HProp} (e : Ent H H') (h : WS P n w0 c Q ⟨E, D, H'⟩) : WS P n w0 c Q ⟨E, D, H⟩ := fun a w g => h a w ⟨g.sees, g.defers, e.sat g.sat⟩
theorem Ent.nil {α : Type} (H : HProp) (e : TypeId) (size : Nat) (f : α → List Value) (A : Option Addr) : Ent H (rows e size f (.slice A 0 0) [] * H) := fun h hh =>
 ⟨h, ⟨fun _ => none, h, fun _ => .inl rfl, (Part.join_none fun _ => rfl).symm, ⟨by simp, .inl ⟨A, rfl, rfl, fun _ => rfl⟩⟩, hh⟩, fun _ _ e => e⟩
end

section
open Go.RowKit
variable {P : Program} {n : Frm} {w0 : World} {E : Env} {D : List Deferred} {H F F2 R : HProp} {ops : Array Oper} {l' : List Oper} {Q : Exit → St → Prop} {w : World}
def bsL (size : Nat) : List Value → List (Nat × Value) → Option (List Value)
 | cs, [] => some cs
 | cs, (i, v) :: r => bif Nat.beq (cellsL v).length size then match pasteL cs (i * size) (cellsL v) with
  | some cs' => bsL size cs' r
  | none => none
  else none
theorem fill_bs (size : Nat) : ∀ (parts : List (Nat × Value)) (cs r : List Value), bsL size cs parts = some r → Instr.fill (fun i => some (i * size, size)) cs.toArray parts = some r.toArray
 | [], cs, r, h => by cases h; rfl
 | (i, v) :: parts, cs, r, h => by
  simp only [bsL] at h
  cases hs : Nat.beq (cellsL v).length size with
  | false => rw [hs] at h; cases h
  | true =>
   rw [hs] at h
   simp only [cond_true] at h
   cases hq : pasteL cs (i * size) (cellsL v) with
   | none => rw [hq] at h; cases h
   | some cs' =>
    rw [hq] at h
    simp only at h
    obtain ⟨hle, hcs⟩ := pasteL_eq hq
    have hsz : v.cells.size = size := by rw [cellsL_eq]; simpa using Nat.eq_of_beq_eq_true hs
    have hfold : ((v.cells.zipIdx).foldl (fun cs (c, j) => cs.setIfInBounds (i * size + j) c) cs.toArray) = cs'.toArray := by
     apply Array.ext'
     have := foldl_set (cellsL v) 0 (i * size) cs.toArray (by simpa using hle)
     rw [← Array.foldl_toList]
     simp only [cellsL_eq]
     simpa [hcs] using this
    unfold Instr.fill
    simp only
    rw [if_neg (by
     rw [cellsL_eq] at hsz ⊢
     simp only [List.size_toArray] at hsz ⊢
     simp [hsz]; omega), hfold]
    exact fill_bs size parts cs' r h
theorem zeroRow_length (zs : List Value) : ∀ k, (zeroRow zs k).length = k * zs.length
 | 0 => by simp [zeroRow]
 | k + 1 => by simp [zeroRow, zeroRow_length zs k, Nat.succ_mul]; omega
theorem zeroRow_at (zs : List Value) : ∀ (k i : Nat), i < k * zs.length → (zeroRow zs k)[i]? = zs[i % zs.length]?
 | 0, i, h => by simp at h
 | k + 1, i, h => by
  simp only [zeroRow]
  rw [List.getElem?_append]
  split
  ·rename_i hi; rw [Nat.mod_eq_of_lt hi]
  ·rename_i hi
   have hpos : 0 < zs.length := by
    rcases Nat.eq_zero_or_pos zs.length with h0 | h0
    ·rw [h0] at h; simp at h
    ·exact h0
   rw [zeroRow_at zs k (i - zs.length) (by rw [Nat.succ_mul] at h; omega)]
   congr 1
   exact (Nat.mod_eq_sub_mod (by omega)).symm
section lit
variable {d : Option Tmp} {ty : TypeId} {pos : String} {after : Array Edge} {gu : Option (Nat × Bool)}
theorem H_buildSlice {t e : TypeId} {len size : Nat} {parts : List (Nat × Operand)} {vs : List (Nat × Value)} {z : Value} {zs cs : List Value} (ht : Und P t (.slice e)) (hz : Zero P e z zs) (hs : Siz P e size) (hl : Nat.beq zs.length size = true) (hsm : Nat.ble (len * size) 16777216 = true) (hpos : Nat.blt 0 (len * size) = true) (hv : E.partsV parts = some vs) (hb : bsL size (zeroRow zs len) vs = some cs) :
  OpH P n w0 ⟨d, .buildSlice t len parts.toArray, ty, pos, after, gu⟩ E H (fun g => .slice (some ⟨g, 0, none⟩) len len) (fun g => cel g e cs * H) := H_new fun a w s => by
 obtain ⟨ie, hie, hiz⟩ := Option.map_eq_some_iff.1 hz.eq
 obtain ⟨ie2, hie2, his⟩ := Option.map_eq_some_iff.1 hs.eq
 rw [hie] at hie2; cases hie2
 have hl' : zs.length = size := Nat.eq_of_beq_eq_true hl
 have hsm' : len * size ≤ 16777216 := Nat.le_of_ble_eq_true hsm
 have hpos' : 0 < len * size := by simpa using hpos
 have e1 := s.partsV hv
 have e2 : (parts.toArray.map fun (i, x) => (i, a.eval x)).toList = vs := by simpa using e1
 have harr : ((Array.range (len * size)).map (z.cells[· % z.cells.size]!)) = (zeroRow zs len).toArray := by
  apply Array.ext'
  apply List.ext_getElem?
  intro i
  have hc : z.cells = zs.toArray := by rw [cellsL_eq, hz.cells]
  rw [hc]
  by_cases hi : i < len * size
  ·rw [List.toList_toArray, zeroRow_at zs len i (by rw [hl']; exact hi)]
   have hm : i % zs.length < zs.length := Nat.mod_lt _ (by
    rcases Nat.eq_zero_or_pos zs.length with h0 | h0
    ·rw [hl'] at h0; rw [h0] at hpos'; simp at hpos'
    ·exact h0)
   simp [hi, hm]
  ·rw [List.getElem?_eq_none (by simpa using hi), List.getElem?_eq_none (by rw [List.toList_toArray, zeroRow_length, hl']; omega)]
 have h := run_buildSlice (P := P) w t e len (parts.toArray.map fun (i, x) => (i, a.eval x)) cs.toArray ie z ht.eq hie hiz (by rw [his]; omega) (by rw [his]; omega) (by
  rw [his, e2, harr]; exact fill_bs size vs _ _ hb)
 simp only [execOp, Sem.run_bind, h, Result.andThen_ok, Sem.run_pure]
theorem H_buildSlice0 {t e : TypeId} {size : Nat} (ht : Und P t (.slice e)) (hs : Siz P e size) :
  OpH P n w0 ⟨d, .buildSlice t 0 #[], ty, pos, after, gu⟩ E H (fun g => .slice (some ⟨g, 0, none⟩) 0 0) (fun g => cel g e [] * H) := H_new fun a w s => by
 obtain ⟨ie, hie, his⟩ := Option.map_eq_some_iff.1 hs.eq
 simp [execOp, Instr.buildSlice, run_underlying ht.eq, sizeOf, typeInfo, hie, newRow, Instr.fill]
 exact congrArg (fun c => w.alloc (Obj.cells c e)) (by apply Array.ext'; simp)
end lit
theorem Ent.rows_new {α : Type} (l : List α) {g : Nat} {e : TypeId} {size m : Nat} {f : α → List Value} {cs : List Value} [hf : FixLen f size] (hc : cs = l.flatMap f) (hm : l.length = m) (hmax : m ≤ 1000000) : Ent (cel g e cs * F) (rows e size f (.slice (some ⟨g, 0, none⟩) m m) l * F) := fun h hh => by
 refine ⟨h, ?_, fun _ _ e => e⟩
 obtain ⟨a, b, hd, he, hp, hq⟩ := hh
 refine ⟨a, b, hd, he, ⟨by rw [flatMap_length f size hf.eq], .inr ⟨g, 0, m, cs.toArray, (0, 0), ?_, by omega, by simp only [maxLen]; omega, ?_, ?_, fun i _ _ => by simp, hp⟩⟩, hq⟩
 ·rw [hm]
 ·simp [hc, flatMap_length f size hf.eq, hm]
 ·simp only [List.drop_zero]
  rw [hc, ← flatMap_length f size hf.eq, List.take_length]

section append
variable {α : Type} {e : TypeId} {size bytes : Nat} {f : α → List Value} {v u : Value} {l : List α} {d : Option Tmp} {ty : TypeId} {pos : String} {after : Array Edge} {gu : Option (Nat × Bool)} {x y : Operand} {t t2 : TypeId}
theorem T_append (ys : List α) (X : HProp) (hx : E.ev x = some v) (hy : E.ev y = some u) (hT : SlT P t e size bytes) (h2 : P.underlying t2 = some (.slice e) ∨ P.underlying t2 = some .string) (hf : FixLen f size) (h1 : ∀ z, ∀ c ∈ f z, c.oneCell' = true)
  (hsrc : ∀ w G, Sat w0 w (rows e size f v l * (X * G)) → Src P w size ys.length u (ys.flatMap f)) (hn : l.length + ys.length ≤ 1000000) (hby : bytes ≤ 1000) :
  OpT P n w0 ⟨d, .call ⟨.builtin .append, #[x, y], #[t, t2]⟩, ty, pos, after, gu⟩ E (rows e size f v l * X) (fun v' : Value => v') (fun v' => rows e size f v' (l ++ ys) * X) := fun G a w K Q s hs hK => by
 rw [star_assoc] at hs
 refine wp_append_sl hT h2 x y rfl hs (s.ev hx) (s.ev hy) (hsrc w G hs) (fun c hc => ?_) (by simp only [maxLen]; omega) ?_ fun v' w' hs' => hK v' w' ?_
 ·obtain ⟨z, _, hz⟩ := List.mem_flatMap.1 hc; exact h1 z c hz
 ·have : (l.length + ys.length) * bytes ≤ 1000000 * 1000 := Nat.mul_le_mul hn hby
  omega
 ·rw [star_assoc]
  unfold rows
  rw [List.length_append, List.flatMap_append]
  exact hs'
theorem src_of_rows {w : World} {α : Type} {size : Nat} {f : α → List Value} {u : Value} {ys : List α} (h : RowsAt w size f u ys) (hf : ∀ x, (f x).length = size) : Src P w size ys.length u (ys.flatMap f) := by
 obtain ⟨A, c, rfl, _⟩ := h.form
 by_cases hy : ys = []
 ·subst hy; exact Src.nothing size c A
 ·obtain ⟨g, off, cap, hv2, _⟩ := h.cell 0 (List.length_pos_iff.2 hy)
  injection hv2 with e1 e2 e3
  subst e1
  refine Src.slice size ys.length c _ _ (flatMap_length f size hf ys) fun j u hu => ?_
  rw [add_lit]
  have hj := (List.getElem?_eq_some_iff.1 hu).1
  rw [flatMap_length f size hf] at hj
  have hpos : 0 < size := by
   rcases Nat.eq_zero_or_pos size with h0 | h0
   ·rw [h0] at hj; simp at hj
   ·exact h0
  have hk : j / size < ys.length := Nat.div_lt_of_lt_mul (by rw [Nat.mul_comm]; exact hj)
  obtain ⟨g', off', cap', hv3, hc⟩ := h.cell (j / size) hk
  injection hv3 with e1
  injection e1 with e1
  injection e1 with e1 e2
  subst e1; subst e2
  have hjj : j / size * size + j % size = j := Nat.div_add_mod' j size
  have := hc (j % size) u (Nat.mod_lt _ hpos) (by
   rw [← flatMap_at f size hf ys (j / size) (j % size) ys[j / size] (by simp) (Nat.mod_lt _ hpos), hjj]; exact hu)
  rwa [hjj] at this
theorem H_appendR {ys : List α} (hx : E.ev x = some v) (hy : E.ev y = some u) (hl : RowsOf H v α e size f l F) {f' : α → List Value} (hl2 : RowsOf F u α e size f' ys F2) (hff : f' = f) (hT : SlTC P t e size bytes) (hf : FixLen f size) (h1 : ∀ z, ∀ c ∈ f z, c.oneCell' = true) (hn : l.length + ys.length ≤ 1000000) (hby : Nat.ble bytes 1000 = true) :
  OpH P n w0 ⟨d, .call ⟨.builtin .append, #[x, y], #[t, t]⟩, ty, pos, after, gu⟩ E H (fun v' : Value => v') (fun v' => rows e size f v' (l ++ ys) * (rows e size f u ys * F2)) := by
 subst hff
 refine ⟨rows e size f' v l * rows e size f' u ys, fun v' => rows e size f' v' (l ++ ys) * rows e size f' u ys, F2, ?_, by rw [hl.eq, hl2.eq, star_assoc], fun _ => by rw [star_assoc]⟩
 exact T_append ys _ hx hy hT.out (.inl hT.out.ht) hf h1 (fun w G hs => Src.own hs.p2) hn (Nat.le_of_ble_eq_true hby)
end append

def byteC (b : UInt8) : List Value := [u8 b]
instance : FixLen byteC 1 := ⟨fun _ => rfl⟩
theorem byteC_one : ∀ z, ∀ c ∈ byteC z, c.oneCell' = true := by intro z c hc; simp [byteC] at hc; subst hc; rfl
theorem byteC_flat (l : List UInt8) : l.flatMap byteC = u8s l := by
 induction l with
 | nil => rfl
 | cons b l ih => rw [List.flatMap_cons, ih]; rfl
section bytes
variable {v u : Value} {l : List UInt8} {d : Option Tmp} {ty : TypeId} {pos : String} {after : Array Edge} {gu : Option (Nat × Bool)} {x y : Operand} {t t2 e src dst : TypeId} {f : UInt8 → List Value} {size : Nat}
theorem H_appendS {ys : List UInt8} {bytes : Nat} (hx : E.ev x = some v) (hy : E.ev y = some (strV ys)) (hl : RowsOf H v UInt8 e 1 f l F) (hfb : f = byteC) (hT : SlTC P t e 1 bytes) (h2 : Und P t2 .string) (hn : l.length + ys.length ≤ 1000000) (hby : Nat.ble bytes 1000 = true) :
  OpH P n w0 ⟨d, .call ⟨.builtin .append, #[x, y], #[t, t2]⟩, ty, pos, after, gu⟩ E H (fun v' : Value => v') (fun v' => rows e 1 f v' (l ++ ys) * F) := by
 subst hfb
 refine ⟨rows e 1 byteC v l * emp, fun v' => rows e 1 byteC v' (l ++ ys) * emp, F, ?_, by rw [hl.eq, star_emp], fun _ => by dsimp only; rw [star_emp]⟩
 refine T_append ys emp hx hy hT.out (.inr h2.eq) iI byteC_one (fun w G hs => ?_) hn (Nat.le_of_ble_eq_true hby)
 have := Src.string (P := P) (w := w) ⟨ys.toArray⟩
 rw [byteC_flat]
 exact this
theorem conv_bytes {w : World} (A : Option Addr) (cap : Nat) (g off : Nat) (xs : List UInt8) (hs : Und P src (.slice e)) (he : Und P e (.int .u8)) (hd : Und P dst .string) (hA : xs ≠ [] → A = some ⟨g, off, none⟩) (hc : ∀ j u, (u8s xs)[j]? = some u → w.cell? ⟨g, off + j, none⟩ = some u) :
  (convert src dst (.slice A xs.length cap)).run P w = .ok (strV xs) w := by
 have key : (loadCells ⟨g, off, none⟩ xs.length).run P w = .ok (u8s xs).toArray w := by
  have := run_loadCells_list (P := P) (w := w) ⟨g, off, none⟩ (u8s xs) (fun j v hj => by rw [add_lit]; exact hc j v hj)
  rwa [u8s_length] at this
 by_cases hx : xs = []
 ·subst hx
  show (convert src dst (.slice A 0 cap)).run P w = _
  rw [run_convert_bytes_string w src dst e A 0 cap hs.eq he.eq hd.eq]
  cases A with
  | none => simp [Conv.bytesToString]; rfl
  | some a => simp [Conv.bytesToString, loadCells, loadCellsFrom]; rfl
 ·rw [hA hx, run_convert_bytes_string w src dst e _ _ cap hs.eq he.eq hd.eq, run_bytesToString w _ xs.length cap (xs.map fun b => (b.toNat : Int)) (by rw [key]; simp [u8s, u8, Function.comp_def]), foldl_push_byteCells]
  have he : (⟨ByteArray.empty.data ++ xs.toArray⟩ : ByteArray) = ⟨xs.toArray⟩ := by apply ByteArray.ext; simp
  rw [he]
theorem RowsAt.bytes {w : World} {v : Value} {l : List UInt8} (h : RowsAt w 1 byteC v l) : ∃ A c g off, v = .slice A l.length c ∧ (l ≠ [] → A = some ⟨g, off, none⟩) ∧ ∀ j u, (u8s l)[j]? = some u → w.cell? ⟨g, off + j, none⟩ = some u := by
 obtain ⟨A, c, hv, _⟩ := h.form
 by_cases hl : l = []
 ·exact ⟨A, c, 0, 0, hv, fun h => absurd hl h, by subst hl; simp [u8s]⟩
 ·obtain ⟨g, off, cap, hv2, _⟩ := h.cell 0 (List.length_pos_iff.2 hl)
  refine ⟨A, c, g, off, hv, fun _ => by rw [hv] at hv2; injection hv2, fun j u hu => ?_⟩
  have hj : j < l.length := by have := (List.getElem?_eq_some_iff.1 hu).1; rwa [u8s_length] at this
  obtain ⟨g', off', cap', hv3, hc⟩ := h.cell j hj
  rw [hv2] at hv3
  injection hv3 with e1
  injection e1 with e1
  injection e1 with e1 e2
  subst e1; subst e2
  have := hc 0 u (by omega) (by simp [byteC]; simpa [u8s, hj] using hu)
  simpa using this
theorem Q_convS (hx : E.ev x = some v) (hl : Rdr w0 H v UInt8 1 f l) (hfb : f = byteC) (hs : Und P src (.slice e)) (he : Und P e (.int .u8)) (hd : Und P dst .string) : OpQ P n w0 ⟨d, .convert src dst x, ty, pos, after, gu⟩ E H (strV l) := fun a w s hs' => by
 subst hfb
 obtain ⟨A, c, g, off, rfl, hA, hc⟩ := (hl.at_ w hs').bytes
 have hr : (convert src dst (.slice A l.length c)).run P w = .ok (strV l) w := conv_bytes A c g off l hs he hd hA hc
 simp only [execOp, s.ev hx, Sem.run_bind, hr, Result.andThen_ok, Sem.run_pure]
theorem H_convS {e' : TypeId} (hx : E.ev x = some v) (hl : RowsOf H v UInt8 e' 1 f l F) (hfb : f = byteC) (hs : Und P src (.slice e)) (he : Und P e (.int .u8)) (hd : Und P dst .string) : OpH P n w0 ⟨d, .convert src dst x, ty, pos, after, gu⟩ E H (fun _ : Unit => strV l) (fun _ => rows e' 1 f v l * F) := by
 refine OpH.mk' (pre := rows e' 1 f v l) (post := fun _ => rows e' 1 f v l) (fun G a w K Q s hs' hK => ?_) hl.eq
 subst hfb
 have h := Q_convS (P := P) (n := n) (w0 := w0) (E := E) (H := rows e' 1 byteC v l * G) (d := d) (ty := ty) (pos := pos) (after := after) (gu := gu) (src := src) (dst := dst) hx iI rfl hs he hd a w s hs'
 unfold Oper.wp
 rw [h]
 exact hK () w hs'
theorem H_convB (hx : E.ev x = some (strV l)) (hs : Und P src .string) (hd : Und P dst (.slice e)) (he : Und P e (.int .u8)) (hn : l.length ≤ 1000000) : OpH P n w0 ⟨d, .convert src dst x, ty, pos, after, gu⟩ E H (fun v' : Value => v') (fun v' => rows e 1 byteC v' l * H) := by
 refine OpH.mk' (pre := emp) (post := fun v' => rows e 1 byteC v' l) ?_ emp_star.symm
 intro G a w K Q s hs' hK
 rw [emp_star] at hs'
 have hr := run_bytes_of_string (P := P) w src dst e ⟨l.toArray⟩ hs.eq hd.eq he.eq
 have hsz : (⟨l.toArray⟩ : ByteArray).size = l.length := rfl
 have hge := grownCap_ge w (⟨l.toArray⟩ : ByteArray).size 0 e
 have hle := grownCap_le_maxLen w (⟨l.toArray⟩ : ByteArray).size 0 e (by rw [hsz]; simp only [maxLen]; omega)
 rw [hsz] at hr hge hle
 simp only [Oper.wp, execOp, s.ev hx, Sem.run_bind, hr, Result.andThen_ok, Sem.run_pure, Oper.upon_value]
 refine hK _ _ ?_
 have h1 := (hs'.drew.alloc (.cells (bytesRow ⟨l.toArray⟩ (grownCap w l.length 0 e)) e ((bytesRow ⟨l.toArray⟩ (grownCap w l.length 0 e)).size, (bytesRow ⟨l.toArray⟩ (grownCap w l.length 0 e)).size + 1)))
 have hbsz : (bytesRow ⟨l.toArray⟩ (grownCap w l.length 0 e)).size = grownCap w l.length 0 e := by simp [bytesRow]; omega
 refine Sat.slc_mk e 1 l.length w.heap.size 0 _ (bytesRow ⟨l.toArray⟩ (grownCap w l.length 0 e)) _ _ h1 ?_ hge hle ?_ ?_ ?_
 ·rw [byteC_flat, u8s_length]; simp
 ·rw [hbsz]; simp
 ·rw [byteC_flat]
  simp [bytesRow, u8s, u8, List.take_append_of_le_length]
 ·intro i h1 h2
  rw [hbsz]
  simp; omega
theorem Q_addS {a b : List UInt8} (hx : E.ev x = some (strV a)) (hy : E.ev y = some (strV b)) (hn : a.length + b.length ≤ 9223372036854775807) : OpQ P n w0 ⟨d, .binOp .add t x y t2, ty, pos, after, gu⟩ E H (strV (a ++ b)) := fun ac w s hs => by
 have hsz : ((⟨a.toArray⟩ : ByteArray).size + (⟨b.toArray⟩ : ByteArray).size : Nat) = a.length + b.length := rfl
 have hap : (⟨a.toArray⟩ : ByteArray) ++ ⟨b.toArray⟩ = ⟨(a ++ b).toArray⟩ := by apply ByteArray.ext; simp
 have hg : ¬ (((⟨a.toArray⟩ : ByteArray).size + (⟨b.toArray⟩ : ByteArray).size : Nat) : Int) > IntKind.i64.max := by rw [hsz]; simp [IntKind.max, IntKind.signed, IntKind.bits]; omega
 simp only [execOp, s.ev hx, s.ev hy, eqGuard, binOp, Op.stringOp]
 rw [if_neg hg, hap]
 rfl
theorem Q_sliceS_h {a : List UInt8} {q : IntKind} {i : Int} {k : Nat} (hx : E.ev x = some (strV a)) (hy : E.ev y = some (.int q i)) (hi : AsNat i k) (ht : Und P t .string) (hk : k ≤ a.length) : OpQ P n w0 ⟨d, .slice t x none (some y) none, ty, pos, after, gu⟩ E H (strV (a.take k)) := fun ac w s hs => by
 obtain rfl := hi.eq
 have hr := run_slice_string_h (P := P) w t ⟨a.toArray⟩ ht.eq q (k : Int) (by omega) (by show (k : Int) ≤ (a.length : Nat); omega)
 have e1 : (⟨a.toArray⟩ : ByteArray).extract 0 k = ⟨(a.take k).toArray⟩ := by apply ByteArray.ext; simp
 simp only [execOp, s.ev hx, s.ev hy, Option.map_some, Option.map_none, run_sliceAt_string w t _ _ _ _ ht.eq, Sem.run_bind, hr, Result.andThen_ok, Sem.run_pure, Int.toNat_natCast, e1]
theorem H_store8 {t : TypeId} {k : Nat} {b : UInt8} (hx : E.ev x = some (eptr v 1 k 0)) (hy : E.ev y = some u) (hb : AsU8 u b) (hl : RowsOf H v UInt8 e 1 f l F) (hfb : f = byteC) (ht : Scal P t) (hk : k < l.length) :
  OpH P n w0 ⟨none, .store t x y, ty, pos, after, gu⟩ E H (fun _ : Unit => undef) (fun _ => rows e 1 f v (l.set k b) * F) := by
 subst hfb
 obtain rfl := hb.eq
 exact H_storeR (z := l[k]) b hx hy hl ht iI rfl (by simp) rfl
def b8 (m : Int) : UInt8 := UInt8.ofNat (m % 256).toNat
theorem Q_conv8 {m : Int} {k : IntKind} {ds : TypeDesc} (hx : E.ev x = some (.int k m)) (hs : Und P src ds) (hd : Und P dst (.int .u8)) : OpQ P n w0 ⟨d, .convert src dst x, ty, pos, after, gu⟩ E H (u8 (b8 m)) :=
 Q_convI hx hs hd (by
  rw [wrap_u8]
  have h0 := Int.emod_nonneg m (show (256 : Int) ≠ 0 by omega)
  have h1 := Int.emod_lt_of_pos m (show (0 : Int) < 256 by omega)
  simp only [b8, UInt8.toNat_ofNat']
  omega)
theorem Q_convI8 {b : UInt8} (hx : E.ev x = some (u8 b)) {ds : TypeDesc} (hs : Und P src ds) (hd : Und P dst (.int .i64)) : OpQ P n w0 ⟨d, .convert src dst x, ty, pos, after, gu⟩ E H (.int .i64 (b.toNat : Int)) :=
 Q_convI hx hs hd (by have := b.toNat_lt; exact IntWalk.i64_in _ (by omega))
theorem Q_conv328 {b : UInt8} (hx : E.ev x = some (u8 b)) {ds : TypeDesc} (hs : Und P src ds) (hd : Und P dst (.int .u32)) : OpQ P n w0 ⟨d, .convert src dst x, ty, pos, after, gu⟩ E H (u32 b.toUInt32) :=
 Q_convI hx hs hd (by have := b.toNat_lt; rw [wrap_u32]; simp; omega)
theorem Q_indexA {t et : TypeId} {len : Nat} {cs : List Value} {q : IntKind} {i : Int} {k : Nat} {val : Value} (hx : E.ev x = some (.agg cs.toArray)) (hy : E.ev y = some (.int q i)) (hi : AsNat i k) (ht : Und P t (.array len et)) (hs : Scal P et) (hk : k < len) (hv : cs[k]? = some val) : OpQ P n w0 ⟨d, .index t x y, ty, pos, after, gu⟩ E H val := fun a w s hs' => by
 obtain rfl := hi.eq
 have hd := hs.ok
 obtain ⟨dd, hdd⟩ : ∃ dd, P.underlying et = some dd := by
  cases hu : P.underlying et with
  | none => rw [hu] at hd; cases hd
  | some dd => exact ⟨dd, rfl⟩
 rw [hdd] at hd
 have hagg : (isAgg et).run P w = .ok false w := by
  simp only [isAgg, Sem.run_bind, run_underlying hdd, Result.andThen_ok]
  cases dd <;> simp_all [scalarD]
 obtain ⟨ie, hie, his⟩ := Option.map_eq_some_iff.1 hs.size
 have hk2 : (k : Int) < (len : Int) := by omega
 simp [execOp, s.ev hx, s.ev hy, Instr.index, asIntOf, run_underlying ht.eq, hk2, hk, Nat.not_le.2 hk, part, hagg, sizeOf, typeInfo, hie, his, hv]
end bytes
instance eqlS {t : TypeId} {a b : List UInt8} : BinV P .eql t (strV a) (strV b) (.bool (decide (a = b))) := ⟨fun w => by
 have : decide (a = b) = ((⟨a.toArray⟩ : ByteArray).toList == (⟨b.toArray⟩ : ByteArray).toList) := by rw [ByteArray.toList_mk, ByteArray.toList_mk, Bool.eq_iff_iff]; simp
 rw [this]; rfl, fun w _ _ => rfl⟩
instance neqS {t : TypeId} {a b : List UInt8} : BinV P .neq t (strV a) (strV b) (.bool (!decide (a = b))) := ⟨fun w => by
 have : decide (a = b) = ((⟨a.toArray⟩ : ByteArray).toList == (⟨b.toArray⟩ : ByteArray).toList) := by rw [ByteArray.toList_mk, ByteArray.toList_mk, Bool.eq_iff_iff]; simp
 rw [this]; rfl, fun w _ _ => rfl⟩
end

section
open Go.RowKit
variable {P : Program} {n : Frm} {w0 : World} {E : Env} {D : List Deferred} {H F F2 R : HProp} {ops : Array Oper} {l' : List Oper} {Q : Exit → St → Prop} {w : World}
section pairs
variable {κ ν : Type} [DecidableEq κ]
def mfind : List (κ × ν) → κ → Option Nat
 | [], _ => none
 | p :: r, k => if p.1 = k then some 0 else (mfind r k).map (· + 1)
def mget (m : List (κ × ν)) (k : κ) : Option ν := match mfind m k with
 | some i => (m[i]?).map (·.2)
 | none => none
def mset (m : List (κ × ν)) (k : κ) (v : ν) : List (κ × ν) := match mfind m k with
 | some i => m.set i (k, v)
 | none => m ++ [(k, v)]
def mdel (m : List (κ × ν)) (k : κ) : List (κ × ν) := match mfind m k with
 | some i => m.eraseIdx i
 | none => m
theorem mfind_some : ∀ {m : List (κ × ν)} {k : κ} {i : Nat}, mfind m k = some i → ∃ v, m[i]? = some (k, v)
 | [], _, _, h => by cases h
 | p :: r, k, i, h => by
  simp only [mfind] at h
  split at h
  ·rename_i e; cases h; exact ⟨p.2, by subst e; rfl⟩
  ·cases hr : mfind r k with
   | none => rw [hr] at h; cases h
   | some j => rw [hr] at h; cases h; obtain ⟨v, hv⟩ := mfind_some hr; exact ⟨v, by simpa using hv⟩
theorem mget_some {m : List (κ × ν)} {k : κ} {v : ν} (h : mget m k = some v) : ∃ i, mfind m k = some i ∧ m[i]? = some (k, v) := by
 unfold mget at h
 cases hf : mfind m k with
 | none => rw [hf] at h; cases h
 | some i =>
  rw [hf] at h
  obtain ⟨u, hu⟩ := mfind_some hf
  simp only [hu, Option.map_some, Option.some.injEq] at h
  subst h; exact ⟨i, rfl, hu⟩
theorem mget_none {m : List (κ × ν)} {k : κ} (h : mget m k = none) : mfind m k = none := by
 unfold mget at h
 cases hf : mfind m k with
 | none => rfl
 | some i =>
  rw [hf] at h
  obtain ⟨u, hu⟩ := mfind_some hf
  simp [hu] at h
end pairs

class KeyT (P : Program) (kt : TypeId) {κ : Type} (fk : κ → Value) : Prop where
  check : ∀ (empty : Bool) (k : κ) (w : World), (Instr.checkKey empty 10000 kt (fk k)).run P w = .ok () w
  same : ∀ k : κ, Instr.sameBits 10000 (fk k) (fk k) = true
  find : ∀ [DecidableEq κ] {ν : Type} (fv : ν → Value) (m : List (κ × ν)) (k : κ) (es : List MapEntry) (w : World), es.map (fun e => (e.key, e.val)) = m.map (fun p => (fk p.1, fv p.2)) →
    (Instr.findKey kt (fk k) es).run P w = .ok ((mfind m k).bind fun i => (m[i]?).map fun p => (i, fv p.2)) w
def mp {κ ν : Type} (fk : κ → Value) (fv : ν → Value) (r : Nat) (m : List (κ × ν)) : HProp :=
 ⟨fun h => ∃ (es : Array MapEntry) (clock : Nat), h = (fun k => if k = r then some (.map es clock) else none) ∧ es.toList.map (fun e => (e.key, e.val)) = m.map (fun p => (fk p.1, fv p.2)) ∧ (es.toList.map (·.born)).Nodup ∧ ∀ e ∈ es.toList, e.born < clock⟩
theorem Sat.map_at {κ ν : Type} {fk : κ → Value} {fv : ν → Value} {r : Nat} {m : List (κ × ν)} (h : Sat w0 w (mp fk fv r m * F)) :
  ∃ es clock, w.heap[r]? = some (.map es clock) ∧ es.toList.map (fun e => (e.key, e.val)) = m.map (fun p => (fk p.1, fv p.2)) ∧ (es.toList.map (·.born)).Nodup ∧ (∀ e ∈ es.toList, e.born < clock) ∧ Sat w0 w (pts r (.map es clock) * F) := by
 obtain ⟨x, ⟨a, b, hd, he, ⟨es, clock, hp, h1, h2, h3⟩, hq⟩, hk⟩ := h.heap
 have hs : Sat w0 w (pts r (.map es clock) * F) := ⟨h.os, h.tape, h.output, x, ⟨a, b, hd, he, hp, hq⟩, hk⟩
 exact ⟨es, clock, hs.at_, h1, h2, h3, hs⟩
theorem Sat.map_mk {κ ν : Type} {fk : κ → Value} {fv : ν → Value} {r : Nat} {m : List (κ × ν)} {es : Array MapEntry} {clock : Nat} (h : Sat w0 w (pts r (.map es clock) * F)) (h1 : es.toList.map (fun e => (e.key, e.val)) = m.map (fun p => (fk p.1, fv p.2))) (h2 : (es.toList.map (·.born)).Nodup) (h3 : ∀ e ∈ es.toList, e.born < clock) :
  Sat w0 w (mp fk fv r m * F) := h.mono fun _ ⟨a, b, hd, he, hp, hq⟩ => ⟨a, b, hd, he, ⟨es, clock, hp, h1, h2, h3⟩, hq⟩
theorem Sat.setObj {r : Nat} {o o' : Obj} (h : Sat w0 w (pts r o * F)) : Sat w0 { w with heap := w.heap.setIfInBounds r o' } (pts r o' * F) := by
 have hlt := h.lt
 refine Sat.put h rfl rfl rfl ?_ fun k _ hk => ?_
 ·simp [hlt]
 ·simp [Array.getElem?_setIfInBounds_ne (Ne.symm hk)]
theorem run_getObj_map {r : Nat} {es : Array MapEntry} {clock : Nat} (h : w.heap[r]? = some (.map es clock)) : (getObj r).run P w = .ok (.map es clock) w := by
 simp [getObj, Sem.run, h]
theorem run_setObj_map {r : Nat} {es : Array MapEntry} {clock : Nat} {o : Obj} (h : w.heap[r]? = some (.map es clock)) : (setObj r o).run P w = .ok () { w with heap := w.heap.setIfInBounds r o } := by
 simp [setObj, Sem.run, h]
class MapT (P : Program) (t : TypeId) (kt et : outParam TypeId) : Prop where
  eq : P.underlying t = some (.map kt et)
instance (t kt et : TypeId) [h : Und P t (.map kt et)] : MapT P t kt et := ⟨h.eq⟩
def optV {ν : Type} (fv : ν → Value) (z : Value) : Option ν → Value
 | some v => fv v
 | none => z
class MapOf (H : HProp) (r : Nat) (κ ν : outParam Type) (fk : outParam (κ → Value)) (fv : outParam (ν → Value)) (m : outParam (List (κ × ν))) (F : outParam HProp) : Prop where
  eq : H = mp fk fv r m * F
instance mapOf_head {κ ν : Type} (fk : κ → Value) (fv : ν → Value) (r : Nat) (m : List (κ × ν)) (F : HProp) : MapOf (mp fk fv r m * F) r κ ν fk fv m F := ⟨rfl⟩
instance (priority := low) mapOf_tail {κ ν : Type} (X H F : HProp) (fk : κ → Value) (fv : ν → Value) (r : Nat) (m : List (κ × ν)) [h : MapOf H r κ ν fk fv m F] : MapOf (X * H) r κ ν fk fv m (X * F) := ⟨by rw [h.eq, star_left_comm]⟩
instance (priority := low) mapOf_left {κ ν : Type} (X H F : HProp) (fk : κ → Value) (fv : ν → Value) (r : Nat) (m : List (κ × ν)) [h : MapOf X r κ ν fk fv m F] : MapOf (X * H) r κ ν fk fv m (F * H) := ⟨by rw [h.eq, star_assoc]⟩
class AsKey {κ : Type} (fk : κ → Value) (v : Value) (k : outParam κ) : Prop where
  eq : v = fk k
section mapops
variable {κ ν : Type} [DecidableEq κ] {fk : κ → Value} {fv : ν → Value} {r : Nat} {m : List (κ × ν)} {d : Option Tmp} {ty : TypeId} {pos : String} {after : Array Edge} {gu : Option (Nat × Bool)} {x y z' : Operand} {t kt et : TypeId} {k : κ} {v : Value}
theorem run_lookup (w : World) {z : Value} (hm : P.underlying t = some (.map kt et)) (hz : (P.info? et).map (·.zero) = some (some z)) [hk : KeyT P kt fk] (hs : Sat w0 w (mp fk fv r m * F)) (ok : Bool) :
  (Instr.lookup t (.map (some r)) (fk k) ok).run P w = .ok (if ok then .tuple #[optV fv z (mget m k), .bool (mget m k).isSome] else optV fv z (mget m k)) w := by
 obtain ⟨es, clock, hat, h1, _, _, _⟩ := hs.map_at
 have hf := hk.find fv m k es.toList w h1
 obtain ⟨i, hi, hi2⟩ := Option.map_eq_some_iff.1 hz
 cases hg : mget m k with
 | none =>
  rw [mget_none hg] at hf
  simp only [Option.bind_none] at hf
  simp [Instr.lookup, run_underlying hm, run_getObj_map hat, hk.check, hf, zeroValue, typeInfo, hi, hi2, optV]
 | some u =>
  obtain ⟨j, hj, hu⟩ := mget_some hg
  rw [hj] at hf
  simp only [Option.bind_some, hu, Option.map_some] at hf
  simp [Instr.lookup, run_underlying hm, run_getObj_map hat, hk.check, hf, optV]
theorem Q_lookupOk {z : Value} {zs : List Value} (hx : E.ev x = some (.map (some r))) (hy : E.ev y = some v) (hl : MapOf H r κ ν fk fv m F) (hkk : AsKey fk v k) (hm : MapT P t kt et) (hz : Zero P et z zs) (hk : KeyT P kt fk) : OpQ P n w0 ⟨d, .lookup t x y true, ty, pos, after, gu⟩ E H (.tuple #[optV fv z (mget m k), .bool (mget m k).isSome]) := fun a w s hs => by
 obtain rfl := hkk.eq
 have := run_lookup (k := k) w hm.eq hz.eq (hs.cast hl.eq) true
 simp only [execOp, s.ev hx, s.ev hy, Sem.run_bind, this, Result.andThen_ok, Sem.run_pure, if_true]
theorem Q_lookup {z : Value} {zs : List Value} (hx : E.ev x = some (.map (some r))) (hy : E.ev y = some v) (hl : MapOf H r κ ν fk fv m F) (hkk : AsKey fk v k) (hm : MapT P t kt et) (hz : Zero P et z zs) (hk : KeyT P kt fk) : OpQ P n w0 ⟨d, .lookup t x y false, ty, pos, after, gu⟩ E H (optV fv z (mget m k)) := fun a w s hs => by
 obtain rfl := hkk.eq
 have := run_lookup (k := k) w hm.eq hz.eq (hs.cast hl.eq) false
 simp only [execOp, s.ev hx, s.ev hy, Sem.run_bind, this, Result.andThen_ok, Sem.run_pure, Bool.false_eq_true, if_false]
theorem map_lenE {es : Array MapEntry} (h1 : es.toList.map (fun e => (e.key, e.val)) = m.map (fun p => (fk p.1, fv p.2))) : es.size = m.length := by
 have := congrArg List.length h1; simpa using this
theorem Q_lenM (hx : E.ev x = some (.map (some r))) (hl : MapOf H r κ ν fk fv m F) (hm : MapT P t kt et) : OpQ P n w0 ⟨d, .call ⟨.builtin .len, #[x], #[t]⟩, ty, pos, after, gu⟩ E H (.int .i64 (m.length : Int)) := fun a w s hs => by
 obtain ⟨es, clock, hat, h1, _, _, _⟩ := (hs.cast hl.eq).map_at
 have hsz := map_lenE h1
 simp [execOp, resolve, invoke, builtin, s.ev hx, Builtin.len_, run_underlying hm.eq, run_getObj_map hat, goInt, hsz]
theorem H_makeMap (fk : κ → Value) (fv : ν → Value) : OpH P n w0 ⟨d, .makeMap t none, ty, pos, after, gu⟩ E H (fun r => .map (some r)) (fun r => mp fk fv r [] * H) := by
 refine OpH.mk' (pre := emp) (post := fun r => mp fk fv r []) (fun G a w K Q s hs hK => ?_) emp_star.symm
 rw [emp_star] at hs
 simp [Oper.wp, execOp, Instr.makeMap, Oper.upon]
 exact hK w.heap.size _ (Sat.map_mk (hs.alloc (.map #[] 0)) (by simp) (by simp) (by simp))
theorem map_eraseIdx' {α β : Type} (f : α → β) : ∀ (l : List α) (i : Nat), (l.eraseIdx i).map f = (l.map f).eraseIdx i
 | [], i => by simp
 | x :: l, 0 => by simp
 | x :: l, i + 1 => by simp [map_eraseIdx' f l i]
theorem nodup_modify {es : Array MapEntry} {i : Nat} {f : MapEntry → MapEntry} (hf : ∀ e, (f e).born = e.born) : (es.modify i f).toList.map (·.born) = es.toList.map (·.born) := by
 apply List.ext_getElem?
 intro j
 simp only [List.getElem?_map, Array.getElem?_toList, Array.getElem?_modify]
 by_cases h : i = j
 ·subst h; cases es[i]? <;> simp [hf]
 ·simp [h]
theorem run_mapUpdate (w : World) {u : ν} (hm : P.underlying t = some (.map kt et)) [hk : KeyT P kt fk] (hs : Sat w0 w (mp fk fv r m * F)) :
  ∃ w', (Instr.mapUpdate t (.map (some r)) (fk k) (fv u)).run P w = .ok () w' ∧ Sat w0 w' (mp fk fv r (mset m k u) * F) := by
 obtain ⟨es, clock, hat, h1, h2, h3, hp⟩ := hs.map_at
 have hf := hk.find fv m k es.toList w h1
 cases hg : mfind m k with
 | none =>
  rw [hg] at hf
  simp only [Option.bind_none] at hf
  refine ⟨_, by simp [Instr.mapUpdate, run_underlying hm, run_getObj_map hat, hk.check, hf, run_setObj_map hat]; rfl, ?_⟩
  refine Sat.map_mk hp.setObj ?_ ?_ ?_
  ·simp [mset, hg, h1]
  ·simp only [Array.toList_push, List.map_append, List.map_cons, List.map_nil]
   refine List.nodup_append.2 ⟨h2, by simp, ?_⟩
   intro a ha b hb
   obtain ⟨e, he, rfl⟩ := List.mem_map.1 ha
   have := h3 e he
   simp at hb
   omega
  ·intro e he
   simp only [Array.toList_push, List.mem_append, List.mem_cons, List.not_mem_nil, or_false] at he
   rcases he with he | rfl
   ·exact Nat.lt_succ_of_lt (h3 e he)
   ·exact Nat.lt_succ_self _
 | some i =>
  obtain ⟨v0, hv0⟩ := mfind_some hg
  rw [hg] at hf
  simp only [Option.bind_some, hv0, Option.map_some] at hf
  have hlt : i < es.size := by rw [map_lenE h1]; exact (List.getElem?_eq_some_iff.1 hv0).1
  have hkey : es[i].key = fk k := by
   have := congrArg (·[i]?) h1
   simp [hv0, hlt] at this
   exact this.1
  refine ⟨_, by simp [Instr.mapUpdate, run_underlying hm, run_getObj_map hat, hk.check, hf, hlt, hkey, Instr.keyThatStays, hk.same, run_setObj_map hat]; rfl, ?_⟩
  refine Sat.map_mk hp.setObj ?_ ?_ ?_
  ·apply List.ext_getElem?
   intro j
   have hj := congrArg (·[j]?) h1
   simp only [mset, hg, List.getElem?_map, Array.getElem?_toList, Array.getElem?_modify, List.getElem?_set] at hj ⊢
   by_cases hij : i = j
   ·subst hij
    have hlm : i < m.length := (List.getElem?_eq_some_iff.1 hv0).1
    simp [hlt, hlm]
   ·simp only [hij, if_false]; exact hj
  ·exact (nodup_modify (es := es) (i := i) (f := fun e => ⟨fk k, fv u, e.born⟩) (fun _ => rfl)).symm ▸ h2
  ·intro e he
   have : e.born ∈ (es.modify i fun e => { e with key := fk k, val := fv u }).toList.map (·.born) := List.mem_map.2 ⟨e, he, rfl⟩
   have hnm := nodup_modify (es := es) (i := i) (f := fun e => ⟨fk k, fv u, e.born⟩) (fun _ => rfl)
   rw [show ((es.modify i fun e => { e with key := fk k, val := fv u }).toList.map (·.born)) = es.toList.map (·.born) from hnm] at this
   obtain ⟨e', he', hb⟩ := List.mem_map.1 this
   rw [← hb]; exact h3 e' he'
theorem H_mapUpdate {u : ν} {uv : Value} (hx : E.ev x = some (.map (some r))) (hy : E.ev y = some v) (hz : E.ev z' = some uv) (hl : MapOf H r κ ν fk fv m F) (hkk : AsKey fk v k) (hvv : AsKey fv uv u) (hm : MapT P t kt et) (hk : KeyT P kt fk) :
  OpH P n w0 ⟨none, .mapUpdate t x y z', ty, pos, after, gu⟩ E H (fun _ : Unit => undef) (fun _ => mp fk fv r (mset m k u) * F) := by
 obtain rfl := hkk.eq
 obtain rfl := hvv.eq
 refine OpH.mk' (pre := mp fk fv r m) (post := fun _ => mp fk fv r (mset m k u)) (fun G a w K Q s hs hK => ?_) hl.eq
 obtain ⟨w', hr, hs'⟩ := run_mapUpdate (k := k) (u := u) w hm.eq hs
 have := hK () w' hs'
 simp only [Act.put] at this
 simp only [Oper.wp, execOp, s.ev hx, s.ev hy, s.ev hz, Sem.run_bind, hr, Result.andThen_ok, Sem.run_pure, Oper.upon_skip]
 exact this
theorem H_delete {d : Option Tmp} (hx : E.ev x = some (.map (some r))) (hy : E.ev y = some v) (hl : MapOf H r κ ν fk fv m F) (hkk : AsKey fk v k) {t2 : TypeId} (hm : MapT P t kt et) (hk : KeyT P kt fk) :
  OpH P n w0 ⟨d, .call ⟨.builtin .delete, #[x, y], #[t, t2]⟩, ty, pos, after, gu⟩ E H (fun _ : Unit => .tuple #[]) (fun _ => mp fk fv r (mdel m k) * F) := by
 obtain rfl := hkk.eq
 refine OpH.mk' (pre := mp fk fv r m) (post := fun _ => mp fk fv r (mdel m k)) (fun G a w K Q s hs hK => ?_) hl.eq
 obtain ⟨es, clock, hat, h1, h2, h3, hp⟩ := hs.map_at
 have hf := hk.find fv m k es.toList w h1
 have key : ∃ w', (Builtin.delete_ #[t, t2] ty #[.map (some r), fk k]).run P w = .ok (.tuple #[]) w' ∧ Sat w0 w' (mp fk fv r (mdel m k) * G) := by
  cases hg : mfind m k with
  | none =>
   rw [hg] at hf
   simp only [Option.bind_none] at hf
   refine ⟨_, by simp [Builtin.delete_, run_underlying hm.eq, run_getObj_map hat, hk.check, hf, run_setObj_map hat]; rfl, ?_⟩
   exact Sat.map_mk hp.setObj (by simpa [mdel, hg] using h1) h2 h3
  | some i =>
   obtain ⟨v0, hv0⟩ := mfind_some hg
   rw [hg] at hf
   simp only [Option.bind_some, hv0, Option.map_some] at hf
   refine ⟨_, by simp [Builtin.delete_, run_underlying hm.eq, run_getObj_map hat, hk.check, hf, run_setObj_map hat]; rfl, ?_⟩
   have hE : (es.eraseIdxIfInBounds i).toList = es.toList.eraseIdx i := by simp [Array.eraseIdxIfInBounds]; split <;> simp_all [List.eraseIdx_of_length_le]
   refine Sat.map_mk hp.setObj ?_ ?_ ?_
   ·rw [hE, map_eraseIdx', h1, ← map_eraseIdx']; simp [mdel, hg]
   ·rw [hE, map_eraseIdx']; exact h2.sublist (List.eraseIdx_sublist _ _)
   ·intro e he; rw [hE] at he; exact h3 e ((List.eraseIdx_sublist _ _).subset he)
 obtain ⟨w', hr, hs'⟩ := key
 simp only [Oper.wp, execOp, resolve, invoke, builtin, Sem.run_bind, Sem.run_pure, Result.andThen_ok, List.map_toArray, List.map_cons, List.map_nil, s.ev hx, s.ev hy, hr, Oper.upon_value]
 exact hK () w' hs'
end mapops
theorem find_int {κ ν : Type} [DecidableEq κ] {fk : κ → Value} {fv : ν → Value} {q q' : IntKind} (num : κ → Int) (hn : ∀ k, fk k = .int q (num k)) (hi : ∀ a b, num a = num b → a = b) (k : κ) : ∀ (m : List (κ × ν)) (es : List MapEntry) (i : Nat), es.map (fun e => (e.key, e.val)) = m.map (fun p => (fk p.1, fv p.2)) →
  Instr.findNow (.int q') (fk k) es i = some ((mfind m k).bind fun j => (m[j]?).map fun p => (i + j, fv p.2))
 | [], es, i, h => by
  have : es = [] := by simpa using h
  subst this; rfl
 | p :: m, [], i, h => by simp at h
 | p :: m, e :: es, i, h => by
  simp only [List.map_cons, List.cons.injEq, Prod.mk.injEq] at h
  obtain ⟨⟨h1, h2⟩, h3⟩ := h
  have ih := find_int (q' := q') num hn hi k m es (i + 1) h3
  simp only [Instr.findNow, h1, hn, Instr.sameNow, if_true]
  by_cases he : p.1 = k
  ·subst he
   simp [mfind, h2]
  ·have hne : (num k == num p.1) = false := by rw [beq_eq_false_iff_ne]; exact fun e => he (hi _ _ e.symm)
   rw [hne]
   simp only
   rw [← hn, ih]
   simp only [mfind, he, if_false]
   cases mfind m k with
   | none => rfl
   | some j => simp [Nat.add_assoc, Nat.add_comm 1 j]
theorem keyT_int {κ : Type} {fk : κ → Value} {kt : TypeId} {q : IntKind} (num : κ → Int) (hn : ∀ k, fk k = .int q (num k)) (hi : ∀ a b, num a = num b → a = b) (hu : P.underlying kt = some (.int q)) : KeyT P kt fk where
  check := fun empty k w => by rw [hn]; exact Go.MapKept.run_checkKey hu (show Go.MapKept.IsKey (.int q) (.int q (num k)) from rfl) empty 9999
  same := fun k => by rw [hn]; show ((q == q) && (num k == num k)) = true; simp
  find := fun fv m k es w h => by
    have := find_int (q' := q) num hn hi k m es 0 h
    simp only [Instr.findKey, Sem.run_bind, run_underlying hu, Result.andThen_ok, this, Sem.run_pure]
    cases mfind m k <;> simp
@[reducible] def i64 (n : Int) : Value := .int .i64 n
instance (kt : TypeId) [h : Und P kt (.int .i64)] : KeyT P kt i64 := keyT_int id (fun _ => rfl) (fun _ _ h => h) h.eq
instance (kt : TypeId) [h : Und P kt (.int .u32)] : KeyT P kt u32 := keyT_int (fun k => (k.toNat : Int)) (fun _ => rfl) (fun a b h => UInt32.toNat_inj.1 (by omega)) h.eq
instance (k : Int) : AsKey i64 (.int .i64 k) k := ⟨rfl⟩
instance (v : Value) (k : UInt32) [h : AsU32 v k] : AsKey u32 v k := ⟨h.eq⟩
instance (v : Value) (k : UInt64) [h : AsU64 v k] : AsKey u64 v k := ⟨h.eq⟩
end

section
open Go.RowKit
variable {P : Program} {n : Frm} {w0 : World} {E : Env} {D : List Deferred} {H F F2 R : HProp}
section
variable {t : TypeId} {v u : Value}
theorem shr32 {x : UInt32} {q : IntKind} (k : Nat) (kk : UInt32) (h : kk.toNat = k) (hk : k < 32) : BinV P .shr t (u32 x) (.int q (k : Int)) (u32 (x >>> kk)) := by
 refine ⟨fun w => ?_, fun w _ _ => guard_int _ _ _ _ _ _ _ _ _⟩
 have hp : ((2 : Int) ^ k) = ((2 ^ k : Nat) : Int) := by simp
 have e : u32 (x >>> kk) = .int .u32 (((x.toNat : Int)).fdiv (2 ^ k)) := by
  refine (ofNat_u32 ?_).symm
  rw [UInt32.toNat_shiftRight, h, Nat.mod_eq_of_lt hk, Nat.shiftRight_eq_div_pow, hp, Int.fdiv_eq_ediv_of_nonneg _ (Int.natCast_nonneg _)]
  rfl
 rw [e]
 have h0 : ¬ ((k : Int) < 0) := by omega
 have hm : min k 32 = k := by omega
 show (Op.shift .shr .u32 (x.toNat : Int) q (k : Int)).run P w = _
 unfold Op.shift
 rw [if_neg h0]
 show Result.ok (Value.int .u32 ((x.toNat : Int).fdiv (2 ^ min (k : Int).toNat 32))) w = _
 rw [Int.toNat_natCast, hm]
instance {x : UInt32} : BinV P .shr t (u32 x) (.int .u64 24) (u32 (x >>> 24)) := shr32 24 24 rfl (by decide)
instance {x : UInt32} : BinV P .shr t (u32 x) (.int .u64 16) (u32 (x >>> 16)) := shr32 16 16 rfl (by decide)
instance {x : UInt32} : BinV P .shr t (u32 x) (.int .u64 8) (u32 (x >>> 8)) := shr32 8 8 rfl (by decide)
instance {x : UInt32} : BinV P .shr t (u32 x) (.int .u64 1) (u32 (x >>> 1)) := shr32 1 1 rfl (by decide)
end
theorem be_shr (x : UInt32) : be x = [(x >>> 24).toUInt8, (x >>> 16).toUInt8, (x >>> 8).toUInt8, x.toUInt8] := by
 have hx := x.toNat_lt
 have e : ∀ (k : Nat) (a : Nat) (kk : UInt32), kk.toNat = k → k < 32 → a % 256 = x.toNat / 2 ^ k % 256 → UInt8.ofNat a = (x >>> kk).toUInt8 := fun k a kk h1 h2 h => by
  rw [← UInt8.toNat_inj]
  simp only [UInt8.toNat_ofNat', UInt32.toNat_toUInt8, UInt32.toNat_shiftRight, h1, Nat.mod_eq_of_lt h2, Nat.shiftRight_eq_div_pow]
  exact h
 unfold be
 congr 1
 ·exact e 24 _ 24 rfl (by decide) rfl
 ·congr 1
  ·exact e 16 _ 16 rfl (by decide) (by simp)
  ·congr 1
   ·exact e 8 _ 8 rfl (by decide) (by simp)
   ·congr 1
    rw [← UInt8.toNat_inj]; simp
class Bytes (cs : List Value) (l : outParam (List UInt8)) : Prop where eq : cs = l.flatMap byteC
instance (z : List Value) : Bytes (List.append [] (zeroRow z 0)) [] := ⟨rfl⟩
instance (v : Value) (cs : List Value) (b : UInt8) (l : List UInt8) [h : AsU8 v b] [h2 : Bytes cs l] : Bytes (v :: cs) (b :: l) := ⟨by rw [h.eq, h2.eq]; rfl⟩
section
variable {d : Option Tmp} {ty : TypeId} {pos : String} {after : Array Edge} {gu : Option (Nat × Bool)} {x y : Operand}
theorem Q_conv32_8 {src t : TypeId} {v : Value} {a : UInt32} {ds : TypeDesc} (hx : E.ev x = some v) (hv : AsU32 v a) (hs : Und P src ds) (hd : Und P t (.int .u8)) : OpQ P n w0 ⟨d, .convert src t x, ty, pos, after, gu⟩ E H (u8 a.toUInt8) := by
 obtain ⟨rfl⟩ := hv
 exact Q_convI hx hs hd (by have := a.toNat_lt; rw [wrap_u8]; simp)
theorem Q_buildA {t e : TypeId} {len size : Nat} {parts : List (Nat × Operand)} {vs : List (Nat × Value)} {z : Value} {zs cs : List Value} (ht : Und P t (.array len e)) (hs : Siz P e size) (hz : Zero P t z zs) (hv : E.partsV parts = some vs) (hb : bsL size zs vs = some cs) :
  OpQ P n w0 ⟨d, .build t parts.toArray, ty, pos, after, gu⟩ E H (.agg cs.toArray) := fun a w s hs' => by
 obtain ⟨it, hit, hit2⟩ := Option.map_eq_some_iff.1 hz.eq
 obtain ⟨ie, hie, his⟩ := Option.map_eq_some_iff.1 hs.eq
 have e1 := s.partsV hv
 have e2 : (parts.toArray.map fun (i, x) => (i, a.eval x)).toList = vs := by simpa using e1
 have h := run_build (P := P) w t (parts.toArray.map fun (i, x) => (i, a.eval x)) cs.toArray (by
  rw [e2]
  simp only [Program.built, hit, ht.eq, hit2, hie, his]
  rw [cellsL_eq, hz.cells]
  exact fill_bs size vs zs cs hb)
 simp only [execOp, Sem.run_bind, h, Result.andThen_ok, Sem.run_pure]
theorem OpH.weak {o : Oper} {α β : Type} {v : α → Value} {post : α → HProp} {v' : β → Value} {post' : β → HProp} (h : OpH P n w0 o E H v post) (hw : ∀ x, ∃ y, v x = v' y ∧ Ent (post x) (post' y)) : OpH P n w0 o E H v' post' := by
 obtain ⟨pre, post0, F, hT, hH, he⟩ := h
 refine ⟨H, post', emp, fun G a w K Q s hs hK => ?_, star_emp.symm, fun _ => star_emp.symm⟩
 refine hT (F * G) a w K Q s (hs.cast (by rw [hH, star_assoc])) fun x w' hs' => ?_
 obtain ⟨y, e1, e2⟩ := hw x
 rw [e1]
 refine hK y w' ((Ent.star e2 (Ent.refl G)).sat (hs'.cast (by rw [he, star_assoc])))
theorem H_buildB {t e : TypeId} {len : Nat} {parts : List (Nat × Operand)} {vs : List (Nat × Value)} {zs cs : List Value} {ys : List UInt8} (ht : Und P t (.slice e)) (hz : Zero P e (u8 0) zs) (hs : Siz P e 1) (hl : Nat.beq zs.length 1 = true) (hsm : Nat.ble (len * 1) 16777216 = true) (hpos : Nat.blt 0 (len * 1) = true) (hv : E.partsV parts = some vs) (hb : bsL 1 (zeroRow zs len) vs = some cs) (hc : Bytes cs ys) (hm : ys.length = len) (hmax : Nat.ble len 1000000 = true) :
  OpH P n w0 ⟨d, .buildSlice t len parts.toArray, ty, pos, after, gu⟩ E H (fun v' : Value => v') (fun v' => rows e 1 byteC v' ys * H) :=
 (H_buildSlice ht hz hs hl hsm hpos hv hb).weak fun g => ⟨_, rfl, Ent.rows_new ys hc.eq hm (Nat.le_of_ble_eq_true hmax)⟩
theorem H_appendD {α : Type} {t e : TypeId} {size bytes : Nat} {f f' : α → List Value} {v u : Value} {l ys : List α} (hx : E.ev x = some v) (hy : E.ev y = some u) (hl : RowsOf H v α e size f l F) (hl2 : RowsOf F u α e size f' ys F2) (hff : f' = f) (hT : SlTC P t e size bytes) (hf : FixLen f size) (h1 : ∀ z, ∀ c ∈ f z, c.oneCell' = true) (hn : l.length + ys.length ≤ 1000000) (hby : Nat.ble bytes 1000 = true) :
  OpH P n w0 ⟨d, .call ⟨.builtin .append, #[x, y], #[t, t]⟩, ty, pos, after, gu⟩ E H (fun v' : Value => v') (fun v' => rows e size f v' (l ++ ys) * F2) :=
 (H_appendR hx hy hl hl2 hff hT hf h1 hn hby).weak fun v' => ⟨v', rfl, Ent.star (Ent.refl _) (Ent.drop _ _)⟩
theorem H_callR {f : FuncId} {args : List Value} {α β : Type} {e : TypeId} {size : Nat} {fc : β → List Value} {v : Value} {l : List β} {res : α → Value} {post : α → HProp} {xs : List Operand} {ts : Array TypeId} (hf : IsFun P f) (hargs : E.evs xs = some args) (spec : Spec P w0 f args (rows e size fc v l) res post) (hl : RowsOf H v β e size fc l F) :
  OpH P n w0 ⟨d, .call ⟨.value (.func f), xs.toArray, ts⟩, ty, pos, after, gu⟩ E H res (fun x => post x * F) := OpH.mk' (T_call hf hargs spec) hl.eq
class Nth (l : List Oper) (i : Nat) (o : outParam Oper) : Prop where eq : l[i]? = some o
instance nth_zero (o : Oper) (l : List Oper) : Nth (o :: l) 0 o := ⟨rfl⟩
instance nth_succ (a o : Oper) (l : List Oper) (i : Nat) [h : Nth l i o] : Nth (a :: l) (i + 1) o := ⟨h.eq⟩
class Perm (l : List Oper) (idx : List Nat) (l' : outParam (List Oper)) : Prop where eq : idx.map (l[·]?) = l'.map some
instance perm_nil (l : List Oper) : Perm l [] [] := ⟨rfl⟩
instance perm_cons (l l' : List Oper) (i : Nat) (r : List Nat) (o : Oper) [h : Nth l i o] [h2 : Perm l r l'] : Perm l (i :: r) (o :: l') := ⟨by simp only [List.map_cons, h.eq, h2.eq]⟩
class Own (H X : HProp) (F : outParam HProp) : Prop where eq : H = X * F
instance own_head (X F : HProp) : Own (X * F) X F := ⟨rfl⟩
instance (priority := low) own_tail (Y X H F : HProp) [h : Own H X F] : Own (Y * H) X (Y * F) := ⟨by rw [h.eq, star_left_comm]⟩
instance (priority := low) own_left (Y X H F : HProp) [h : Own Y X F] : Own (Y * H) X (F * H) := ⟨by rw [h.eq, star_assoc]⟩
instance own_self (X : HProp) : Own X X emp := ⟨star_emp.symm⟩
instance (priority := low) own_emp (H : HProp) : Own H emp H := ⟨emp_star.symm⟩
theorem DL_nilE {ops : Array Oper} {Q : Exit → St → Prop} {B : Nat → Bool} {k cp : Nat} (h : Q .normal ⟨E, D, R * F⟩) : DL P n w0 ops Q D R emp B cp k false [] E F := .nil (by simp only [hp, cond_false]; rw [emp_star]) h
theorem WS_drawC {Q : Exit → St → Prop} {l l' : List Oper} {id g : Nat} {t : TypeId} {cs : List Value} (idx : List Nat) (hs : statD P l idx (fun _ => false) 1000 = true) (hl : Perm l idx l') (h : DL P n w0 l.toArray Q D (cel g t cs) emp (fun _ => false) 1000 0 false l' E F) : WS P n w0 (.region id l.toArray true) Q ⟨E, D, cel g t cs * F⟩ :=
 WS_draw idx l' (cel g t cs) emp F _ 1000 hs (by rw [emp_star]) hl.eq h
theorem Ent.take {X F' : HProp} [h : Own H X F] (r : Ent F F') : Ent H (X * F') := by rw [h.eq]; exact Ent.tail _ r
theorem Ent.takeR {α : Type} {e : TypeId} {size : Nat} {f : α → List Value} {v : Value} {l l' : List α} {F' : HProp} [h : RowsOf H v α e size f l F] (hl : l = l') (r : Ent F F') : Ent H (rows e size f v l' * F') := by rw [h.eq, hl]; exact Ent.tail _ r
theorem Ent.last {X : HProp} [h : Own H X F] : Ent H X := by rw [h.eq, star_comm]; exact Ent.drop _ _
theorem H_callX {f : FuncId} {args : List Value} {α : Type} {X : HProp} {res : α → Value} {post : α → HProp} {xs : List Operand} {ts : Array TypeId} (hf : IsFun P f) (hargs : E.evs xs = some args) (spec : Spec P w0 f args X res post) (hl : Own H X F) :
  OpH P n w0 ⟨d, .call ⟨.value (.func f), xs.toArray, ts⟩, ty, pos, after, gu⟩ E H res (fun x => post x * F) := OpH.mk' (T_call hf hargs spec) hl.eq
end
def readR (r : ResultVar) (a : Act) : Sem Value := match r with
 | .tmp t => pure (a.tmps.getD t undef)
 | .cell b t => do loadVar t (← asAddr (a.tmps.getD b undef))
def RV (P : Program) (n : Frm) (w0 : World) (E : Env) (H : HProp) (r : ResultVar) (v : Value) : Prop := ∀ a w, Sees n E a → Sat w0 w H → (readR r a).run P w = .ok v w
theorem RV_tmp {t : Nat} {v : Value} (h : E.get t = some v) : RV P n w0 E H (.tmp t) v := fun a w s hs => by
 show Result.ok (a.tmps.getD t undef) w = _
 rw [s.get t v h]
theorem RV_cell {b g off size : Nat} {t bt : TypeId} {cs vs : List Value} (hx : E.get b = some (ptr g off)) (hl : LimbB H g bt cs F) (ht : Aggr P t size) (hv : takeL cs off size = some vs) : RV P n w0 E H (.cell b t) (.agg vs.toArray) := fun a w s hs => by
 obtain ⟨hle, hvs⟩ := takeL_eq hv
 have hlen : vs.length = size := by rw [hvs]; simp; omega
 have hc : ∀ j u, vs[j]? = some u → w.cell? ((⟨g, off, none⟩ : Addr).add j) = some u := fun j u hu => by
  have hj : j < size := by rw [← hlen]; exact (List.getElem?_eq_some_iff.1 hu).1
  rw [add_lit, Sat.cell (hs.cast hl.eq)]
  rw [hvs, List.getElem?_take, if_pos hj, List.getElem?_drop] at hu
  simpa using hu
 have hd := ht.ok
 obtain ⟨dd, hdd⟩ : ∃ dd, P.underlying t = some dd := by
  cases hu : P.underlying t with
  | none => rw [hu] at hd; cases hd
  | some dd => exact ⟨dd, rfl⟩
 rw [hdd] at hd
 have hagg : (isAgg t).run P w = .ok true w := by
  simp only [isAgg, Sem.run_bind, run_underlying hdd, Result.andThen_ok]
  cases dd <;> simp_all [aggD]
 obtain ⟨i, hi, hi2⟩ := Option.map_eq_some_iff.1 ht.size
 have hz : (sizeOf t).run P w = .ok size w := by simp [sizeOf, typeInfo, hi, hi2]
 have hr := run_loadCells_list (P := P) (w := w) ⟨g, off, none⟩ vs hc
 rw [hlen] at hr
 show (do loadVar t (← asAddr (a.tmps.getD b undef)) : Sem Value).run P w = _
 rw [s.get b _ hx]
 simp [asAddr, loadVar, hagg, hz, hr]
theorem RV_cellS {b g off : Nat} {t bt : TypeId} {cs : List Value} {v : Value} (hx : E.get b = some (ptr g off)) (hl : LimbB H g bt cs F) (ht : Scal P t) (hv : getL cs off = some v) : RV P n w0 E H (.cell b t) v := fun a w s hs => by
 have h := Q_load (P := P) (n := n) (w0 := w0) (H := H) (x := .tmp b) (d := none) (ty := 0) (pos := "") (after := #[]) (gu := none) (t := t) hx hl ht hv a w s hs
 show (do loadVar t (← asAddr (a.tmps.getD b undef)) : Sem Value).run P w = _
 rw [s.get b _ hx]
 have he : a.eval (.tmp b) = ptr g off := s.get b _ hx
 simp only [execOp, he, Instr.loadAt, Instr.sureAddr, Sem.run_bind, Sem.run_pure, Result.andThen_ok] at h
 cases hr : (loadVar t ⟨g, off, none⟩).run P w with
 | ok u w' =>
  rw [hr] at h
  simp only [Result.andThen_ok, Sem.run_pure] at h
  cases h
  simp [asAddr, hr]
 | halt x w' => rw [hr] at h; cases h
theorem results_1 {fn : Func} {r : ResultVar} {a : Act} {w : World} {v : Value} (hr : fn.results = #[r]) (h : (readR r a).run P w = .ok v w) : (results fn a.tmps).run P w = .ok v w := by
 have e : results fn a.tmps = readR r a := by
  unfold results; rw [hr]
  cases r <;> simp [readR]
 rw [e, h]
theorem results_2 {fn : Func} {r r2 : ResultVar} {a : Act} {w : World} {v v2 : Value} (hr : fn.results = #[r, r2]) (h : (readR r a).run P w = .ok v w) (h2 : (readR r2 a).run P w = .ok v2 w) : (results fn a.tmps).run P w = .ok (.tuple #[v, v2]) w := by
 have e : results fn a.tmps = (do let v ← readR r a; let v2 ← readR r2 a; pure (.tuple #[v, v2])) := by
  unfold results; rw [hr]
  cases r <;> cases r2 <;> simp [readR]
 rw [e]
 simp only [Sem.run_bind, h, h2, Result.andThen_ok, Sem.run_pure]
theorem results_3 {fn : Func} {r r2 r3 : ResultVar} {a : Act} {w : World} {v v2 v3 : Value} (hr : fn.results = #[r, r2, r3]) (h : (readR r a).run P w = .ok v w) (h2 : (readR r2 a).run P w = .ok v2 w) (h3 : (readR r3 a).run P w = .ok v3 w) : (results fn a.tmps).run P w = .ok (.tuple #[v, v2, v3]) w := by
 have e : results fn a.tmps = (do let v ← readR r a; let v2 ← readR r2 a; let v3 ← readR r3 a; pure (.tuple #[v, v2, v3])) := by
  unfold results; rw [hr]
  cases r <;> cases r2 <;> cases r3 <;> simp [readR]
 rw [e]
 simp only [Sem.run_bind, h, h2, h3, Result.andThen_ok, Sem.run_pure]
section
variable {fn : Func} {R : Value → HProp → Prop} {r r2 r3 : ResultVar} {v v2 v3 : Value}
theorem ret_1 {e : Exit} (he : e = .ret ∨ e = .normal) (hr : fn.results = #[r]) (h1 : RV P n w0 E H r v) (h : R v H) : retS P n w0 fn R e ⟨E, [], H⟩ := by
 rcases he with rfl | rfl <;> exact ⟨rfl, v, fun a w g => results_1 hr (h1 a w g.sees g.sat), h⟩
theorem ret_2 {e : Exit} (he : e = .ret ∨ e = .normal) (hr : fn.results = #[r, r2]) (h1 : RV P n w0 E H r v) (h2 : RV P n w0 E H r2 v2) (h : R (.tuple #[v, v2]) H) : retS P n w0 fn R e ⟨E, [], H⟩ := by
 rcases he with rfl | rfl <;> exact ⟨rfl, _, fun a w g => results_2 hr (h1 a w g.sees g.sat) (h2 a w g.sees g.sat), h⟩
theorem ret_3 {e : Exit} (he : e = .ret ∨ e = .normal) (hr : fn.results = #[r, r2, r3]) (h1 : RV P n w0 E H r v) (h2 : RV P n w0 E H r2 v2) (h3 : RV P n w0 E H r3 v3) (h : R (.tuple #[v, v2, v3]) H) : retS P n w0 fn R e ⟨E, [], H⟩ := by
 rcases he with rfl | rfl <;> exact ⟨rfl, _, fun a w g => results_3 hr (h1 a w g.sees g.sat) (h2 a w g.sees g.sat) (h3 a w g.sees g.sat), h⟩
end
theorem rdr_nil (H : HProp) {α : Type} (size : Nat) (f : α → List Value) : Rdr w0 H (.slice none 0 0) α size f [] := ⟨fun w hs => ⟨⟨none, 0, rfl, Nat.zero_le _, Nat.zero_le _⟩, fun k hk => by simp at hk⟩⟩
end

end Go.Proofs.YtapoehkdnglahabGreat

