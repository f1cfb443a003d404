/- Slices whose elements read as data: length, elements, stores, append, parts. No program in sight. -/
import Derived.Test.YtapoehkdnglahaaVal
namespace Go.Proofs.Ytapoehkdnglahaa
open Go.RowKit
set_option linter.unusedVariables false
set_option linter.unusedSimpArgs false
variable {P : Program} {n : Frm} {w0 : World} {E : Env} {D : List Deferred} {H F R : HProp} {ops : Array Oper} {l' : List Oper} {Q : Exit → St → Prop} {w : World}
/-- The slice value v owns its block; its elements are l, each in the cells f. -/
def rows {α : Type} (e : TypeId) (size : Nat) (f : α → List Value) (v : Value) (l : List α) : HProp := slc e size v l.length (l.flatMap f)
class FixLen {α : Type} (f : α → List Value) (size : Nat) : Prop where
  eq : ∀ x, (f x).length = size
class RowsOf (H : HProp) (v : Value) (α : outParam Type) (e : outParam TypeId) (size : outParam Nat) (f : outParam (α → List Value)) (l : outParam (List α)) (F : outParam HProp) : Prop where
  eq : H = rows e size f v l * F
instance rowsOf_head {α : Type} (e : TypeId) (size : Nat) (f : α → List Value) (v : Value) (l : List α) (F : HProp) : RowsOf (rows e size f v l * F) v α e size f l F := ⟨rfl⟩
instance (priority := low) rowsOf_tail {α : Type} (X H F : HProp) (e : TypeId) (size : Nat) (f : α → List Value) (v : Value) (l : List α) [h : RowsOf H v α e size f l F] : RowsOf (X * H) v α e size f l (X * F) := ⟨by rw [h.eq, star_left_comm]⟩
instance (priority := low) rowsOf_left {α : Type} (X H F : HProp) (e : TypeId) (size : Nat) (f : α → List Value) (v : Value) (l : List α) [h : RowsOf X v α e size f l F] : RowsOf (X * H) v α e size f l (F * H) := ⟨by rw [h.eq, star_assoc]⟩
class Siz (P : Program) (t : TypeId) (size : outParam Nat) : Prop where
  eq : (P.info? t).map (·.size) = some size
instance siz_scal (t : TypeId) [h : Scal P t] : Siz P t 1 := ⟨h.size⟩
instance siz_aggr (t : TypeId) (s : Nat) [h : Aggr P t s] : Siz P t s := ⟨h.size⟩
/-- A slice type: its element, its sizes. -/
class SlTC (P : Program) (t : TypeId) (e : outParam TypeId) (size bytes : outParam Nat) : Prop where
  out : SlT P t e size bytes
class AsNat (i : Int) (k : outParam Nat) : Prop where
  eq : i = (k : Int)
instance asNat_cast (k : Nat) : AsNat ((k : Nat) : Int) k := ⟨rfl⟩
instance asNat_zero : AsNat 0 0 := ⟨rfl⟩
instance : AsNat 2 2 := ⟨rfl⟩
instance : AsNat 3 3 := ⟨rfl⟩
instance : AsNat 4 4 := ⟨rfl⟩
instance : AsNat 5 5 := ⟨rfl⟩
instance : AsNat 6 6 := ⟨rfl⟩
instance : AsNat 7 7 := ⟨rfl⟩
instance : AsNat 8 8 := ⟨rfl⟩
instance : AsNat 9 9 := ⟨rfl⟩
instance : AsNat 10 10 := ⟨rfl⟩
instance : AsNat 11 11 := ⟨rfl⟩
instance : AsNat 12 12 := ⟨rfl⟩
instance : AsNat 13 13 := ⟨rfl⟩
instance : AsNat 14 14 := ⟨rfl⟩
instance : AsNat 15 15 := ⟨rfl⟩
instance : AsNat 16 16 := ⟨rfl⟩
instance asNat_one : AsNat 1 1 := ⟨rfl⟩
instance asNat_add (i j : Int) (k m : Nat) [a : AsNat i k] [b : AsNat j m] : AsNat (i + j) (k + m) := ⟨by rw [a.eq, b.eq]; simp⟩

/-- The address of cell j of element k of the slice v. -/
def eptr (v : Value) (size k j : Nat) : Value := match v with
  | .slice (some a) _ _ => .pointer (some (a.add (k * size + j)))
  | _ => undef
theorem flatMap_length {α : Type} (f : α → List Value) (size : Nat) (hf : ∀ x, (f x).length = size) (l : List α) : (l.flatMap f).length = l.length * size := by
  induction l with
  | nil => simp
  | cons x l ih => simp [ih, hf, Nat.succ_mul]; omega
theorem flatMap_at {α : Type} (f : α → List Value) (size : Nat) (hf : ∀ x, (f x).length = size) : ∀ (l : List α) (k j : Nat) (x : α), l[k]? = some x → j < size → (l.flatMap f)[k * size + j]? = (f x)[j]?
  | [], k, j, x, h, _ => by simp at h
  | y :: l, 0, j, x, h, hj => by
    simp at h; subst h
    simp only [List.flatMap_cons, Nat.zero_mul, Nat.zero_add]
    rw [List.getElem?_append_left (by rw [hf]; exact hj)]
  | y :: l, k + 1, j, x, h, hj => by
    have := flatMap_at f size hf l k j x (by simpa using h) hj
    simp only [List.flatMap_cons]
    rw [List.getElem?_append_right (by rw [hf, Nat.succ_mul]; omega), hf, ← this]
    congr 1
    rw [Nat.succ_mul]; omega
theorem flatMap_set {α : Type} (f : α → List Value) (size : Nat) (hf : ∀ x, (f x).length = size) : ∀ (l : List α) (k : Nat) (y : α), k < l.length → (l.set k y).flatMap f = (l.flatMap f).take (k * size) ++ f y ++ (l.flatMap f).drop (k * size + size)
  | [], k, y, h => by simp at h
  | x :: l, 0, y, h => by
    have hx := hf x
    have e : ((f x ++ l.flatMap f).drop (0 * size + size)) = l.flatMap f := by rw [Nat.zero_mul, Nat.zero_add, ← hx, List.drop_left]
    simp only [List.set_cons_zero, List.flatMap_cons]
    rw [e]; simp
  | x :: l, k + 1, y, h => by
    have ih := flatMap_set f size hf l k y (by simpa using h)
    have hx := hf x
    have e1 : (f x ++ l.flatMap f).take ((k + 1) * size) = f x ++ (l.flatMap f).take (k * size) := by
      rw [show (k + 1) * size = (f x).length + k * size by rw [hx, Nat.succ_mul]; omega, List.take_length_add_append]
    have e2 : (f x ++ l.flatMap f).drop ((k + 1) * size + size) = (l.flatMap f).drop (k * size + size) := by
      rw [show (k + 1) * size + size = (f x).length + (k * size + size) by rw [hx, Nat.succ_mul]; omega, List.drop_length_add_append]
    simp only [List.set_cons_succ, List.flatMap_cons, ih]
    rw [e1, e2]
    simp
/-- What is known of a slice that has an element. -/
theorem rows_cell {α : Type} {e : TypeId} {size : Nat} {f : α → List Value} {v : Value} {l : List α} [hf : FixLen f size] (hp : 0 < size) (h : Sat w0 w (rows e size f v l * F)) {k : Nat} (hk : k < l.length) :
    ∃ g off cap, v = .slice (some ⟨g, off, none⟩) l.length cap ∧ (∀ j u, j < size → (f l[k])[j]? = some u → w.cell? ⟨g, off + (k * size + j), none⟩ = some u) := by
  have hne : l.flatMap f ≠ [] := by
    intro e0
    have := flatMap_length f size hf.eq l
    rw [e0] at this
    have := Nat.mul_pos (Nat.lt_of_le_of_lt (Nat.zero_le _) hk) hp
    simp at *; omega
  obtain ⟨g, off, cap, hv, _, _, hc⟩ := Sat.slc_cell h hne
  exact ⟨g, off, cap, hv, fun j u hj hu => (hc _ u (by rw [flatMap_at f size hf.eq l k j l[k] (by simp) hj]; exact hu)).1⟩
theorem rows_form {α : Type} {e : TypeId} {size : Nat} {f : α → List Value} {v : Value} {l : List α} (h : Sat w0 w (rows e size f v l * F)) : ∃ A c, v = .slice A l.length c := Sat.slc_form h
/-- What the slice value v reads as, in the world w: l, each element in the cells f. -/
structure RowsAt (w : World) (size : Nat) {α : Type} (f : α → List Value) (v : Value) (l : List α) : Prop where
  form : ∃ A c, v = .slice A l.length c ∧ l.length ≤ c ∧ c ≤ maxLen
  cell : ∀ k (hk : k < l.length), ∃ g off cap, v = .slice (some ⟨g, off, none⟩) l.length cap ∧ ∀ j u, j < size → (f l[k])[j]? = some u → w.cell? ⟨g, off + (k * size + j), none⟩ = some u
/-- In every world that meets H the slice v reads as l. -/
class Rdr (w0 : World) (H : HProp) (v : Value) (α : outParam Type) (size : outParam Nat) (f : outParam (α → List Value)) (l : outParam (List α)) : Prop where
  at_ : ∀ w, Sat w0 w H → RowsAt w size f v l
theorem rows_at {α : Type} {e : TypeId} {size : Nat} {f : α → List Value} {v : Value} {l : List α} [hf : FixLen f size] (hp : 0 < size) (h : Sat w0 w (rows e size f v l * F)) : RowsAt w size f v l := by
  refine ⟨?_, fun k hk => rows_cell hp h hk⟩
  obtain ⟨_, ⟨A, rfl, h0, _⟩ | ⟨g, off, cap, _, _, rfl, h1, h2, _⟩⟩ := Sat.slc_cases h
  · exact ⟨A, 0, by rw [h0], by omega, by simp [maxLen]⟩
  · exact ⟨_, _, rfl, h1, h2⟩
instance rdr_rows {α : Type} (e : TypeId) (size : Nat) (f : α → List Value) (v : Value) (l : List α) (F : HProp) [hf : FixLen f size] [hp : NeZero size] : Rdr w0 (rows e size f v l * F) v α size f l := ⟨fun w h => rows_at (Nat.pos_of_ne_zero hp.out) h⟩
instance (priority := low) rdr_tail {α : Type} (X H : HProp) (size : Nat) (f : α → List Value) (v : Value) (l : List α) [h : Rdr w0 H v α size f l] : Rdr w0 (X * H) v α size f l := ⟨fun w hs => h.at_ w hs.drop⟩
instance (priority := low) rdr_left {α : Type} (X H : HProp) (size : Nat) (f : α → List Value) (v : Value) (l : List α) [h : Rdr w0 X v α size f l] : Rdr w0 (X * H) v α size f l := ⟨fun w hs => h.at_ w hs.keep⟩
instance rdr_bare {α : Type} (e : TypeId) (size : Nat) (f : α → List Value) (v : Value) (l : List α) [hf : FixLen f size] [hp : NeZero size] : Rdr w0 (rows e size f v l) v α size f l := ⟨fun w h => rows_at (F := emp) (Nat.pos_of_ne_zero hp.out) (h.cast star_emp.symm)⟩
instance : NeZero 1 := ⟨by decide⟩
instance : NeZero 2 := ⟨by decide⟩
instance : NeZero 3 := ⟨by decide⟩
instance : NeZero 4 := ⟨by decide⟩
instance : NeZero 5 := ⟨by decide⟩
instance : NeZero 6 := ⟨by decide⟩
instance : NeZero 7 := ⟨by decide⟩
instance : NeZero 8 := ⟨by decide⟩
section quiet
variable {α : Type} {e : TypeId} {size : Nat} {f : α → List Value} {v : Value} {l : List α} {d : Option Tmp} {ty : TypeId} {pos : String} {after : Array Edge} {gu : Option (Nat × Bool)} {x y : Operand}
theorem Q_lenR {t e' : TypeId} (hx : E.ev x = some v) (hl : Rdr w0 H v α size f l) (ht : Und P t (.slice e')) : OpQ P n w0 ⟨d, .call ⟨.builtin .len, #[x], #[t]⟩, ty, pos, after, gu⟩ E H (.int .i64 (l.length : Int)) := fun a w s hs => by
  obtain ⟨A, c, rfl, _⟩ := (hl.at_ w hs).form
  exact Q_len hx ht a w s hs
theorem Q_index {t e2 : TypeId} {q : IntKind} {i : Int} {k : Nat} (hx : E.ev x = some v) (hy : E.ev y = some (.int q i)) (hl : Rdr w0 H v α size f l) (ht : Und P t (.slice e2)) (hs2 : Siz P e2 size) (hi : AsNat i k) (hk : k < l.length) :
    OpQ P n w0 ⟨d, .indexAddr t x y, ty, pos, after, gu⟩ E H (eptr v size k 0) := fun a w s hs => by
  obtain ⟨g, off, cap, rfl, _⟩ := (hl.at_ w hs).cell k hk
  obtain ⟨i0, hi0, hi1⟩ := Option.map_eq_some_iff.1 hs2.eq
  obtain rfl := hi.eq
  have hel : P.elem t = e2 := by simp [Program.elem, ht.eq]
  have h := run_indexAt_slice (P := P) w t ⟨g, off, none⟩ l.length cap q (k : Int) (by rw [ht.eq, hel])
  rw [if_pos ⟨by omega, by omega⟩, hel] at h
  simp [execOp, s.ev hx, s.ev hy, h, sizeOf, typeInfo, hi0, hi1, eptr]
theorem run_fieldAt_some (w : World) {s k o : Nat} {t : TypeId} (a0 : Addr) (h : Fld P s k o t) : (Instr.fieldAt s (.pointer (some a0)) k).run P w = .ok (.pointer (some (a0.add o))) w := by
  obtain ⟨size, h⟩ := h.eq
  unfold fieldD at h
  split at h
  · rename_i fs hu
    split at h
    · rename_i f hf
      split at h
      · rename_i i hi
        simp only [Option.some.injEq, Prod.mk.injEq] at h
        obtain ⟨h1, h2, hsz⟩ := h
        subst h1
        simp [Instr.fieldAt, run_underlying hu, hf, Instr.sureAddr, fieldPlace, sizeOf, typeInfo, hi, hsz]
      · cases h
    · cases h
  · cases h
theorem Q_fieldR {s k j off r : Nat} {fld : Nat} {t : TypeId} (hx : E.ev x = some (eptr v size k j)) (hl : Rdr w0 H v α size f l) (h : Fld P s fld off t) (hr : j + off = r) (hk : k < l.length) : OpQ P n w0 ⟨d, .fieldAddr s x fld, ty, pos, after, gu⟩ E H (eptr v size k r) := fun a w se hs => by
  subst hr
  obtain ⟨g, o, cap, rfl, _⟩ := (hl.at_ w hs).cell k hk
  have e1 := run_fieldAt_some (P := P) w ((⟨g, o, none⟩ : Addr).add (k * size + j)) h
  rw [add_lit, add_lit] at e1
  simp [execOp, se.ev hx, eptr, add_lit, e1, Nat.add_assoc]
theorem Q_loadR {t : TypeId} {k j : Nat} {z : α} {u : Value} (hx : E.ev x = some (eptr v size k j)) (hl : Rdr w0 H v α size f l) (ht : Scal P t) (hf : FixLen f size) (hz : l[k]? = some z) (hv : getL (f z) j = some u) : OpQ P n w0 ⟨d, .load t x, ty, pos, after, gu⟩ E H u := fun a w s hs => by
  rw [getL_eq] at hv
  have hj : j < size := by rw [← hf.eq z]; exact (List.getElem?_eq_some_iff.1 hv).1
  have hk : k < l.length := (List.getElem?_eq_some_iff.1 hz).1
  obtain ⟨g, off, cap, rfl, hc⟩ := (hl.at_ w hs).cell k hk
  have hzk : l[k] = z := by have := (List.getElem?_eq_some_iff.1 hz).2; exact this
  have hcell := hc j u hj (by rw [hzk]; exact hv)
  have hd := ht.ok
  obtain ⟨dd, hdd⟩ : ∃ dd, P.underlying t = some dd := by
    cases hu : P.underlying t with
    | none => rw [hu] at hd; cases hd
    | some dd => exact ⟨dd, rfl⟩
  rw [hdd] at hd
  have hagg : (isAgg t).run P w = .ok false w := by
    simp only [isAgg, Sem.run_bind, run_underlying hdd, Result.andThen_ok]
    cases dd <;> simp_all [scalarD]
  simp [execOp, s.ev hx, eptr, Instr.loadAt, Instr.sureAddr, loadVar, hagg, add_lit, hcell]
theorem Q_loadRA {t : TypeId} {k : Nat} {z : α} (hx : E.ev x = some (eptr v size k 0)) (hl : Rdr w0 H v α size f l) (ht : Aggr P t size) (hf : FixLen f size) (hz : l[k]? = some z) : OpQ P n w0 ⟨d, .load t x, ty, pos, after, gu⟩ E H (.agg (f z).toArray) := fun a w s hs => by
  have hk : k < l.length := (List.getElem?_eq_some_iff.1 hz).1
  obtain ⟨g, off, cap, rfl, hc⟩ := (hl.at_ w hs).cell k hk
  have hzk : l[k] = z := by have := (List.getElem?_eq_some_iff.1 hz).2; exact this
  have hc' : ∀ j u, (f z)[j]? = some u → w.cell? ((⟨g, off + k * size, none⟩ : Addr).add j) = some u := fun j u hu => by
    rw [add_lit]
    have := hc j u (by rw [← hf.eq z]; exact (List.getElem?_eq_some_iff.1 hu).1) (by rw [hzk]; exact hu)
    rwa [← Nat.add_assoc] at this
  have hd := ht.ok
  obtain ⟨dd, hdd⟩ : ∃ dd, P.underlying t = some dd := by
    cases hu : P.underlying t with
    | none => rw [hu] at hd; cases hd
    | some dd => exact ⟨dd, rfl⟩
  rw [hdd] at hd
  have hagg : (isAgg t).run P w = .ok true w := by
    simp only [isAgg, Sem.run_bind, run_underlying hdd, Result.andThen_ok]
    cases dd <;> simp_all [aggD]
  obtain ⟨i, hi, hi2⟩ := Option.map_eq_some_iff.1 ht.size
  have hz2 : (sizeOf t).run P w = .ok size w := by simp [sizeOf, typeInfo, hi, hi2]
  have hr := run_loadCells_list (P := P) (w := w) ⟨g, off + k * size, none⟩ (f z) hc'
  rw [hf.eq] at hr
  simp [execOp, s.ev hx, eptr, add_lit, Instr.loadAt, Instr.sureAddr, loadVar, hagg, hz2, hr]
end quiet

/-! ### Stores -/
theorem run_storeVar_slc (w : World) {g off cap m size : Nat} {e t : TypeId} {xs vs : List Value} {val : Value} {p : Nat} (hs : Sat w0 w (slc e size (.slice (some ⟨g, off, none⟩) m cap) m xs * F)) (hsz : (P.info? t).map (·.size) = some vs.length) (hv : val.cells = vs.toArray) (h1 : ∀ u ∈ vs, u.oneCell' = true) (hp : p + vs.length ≤ m * size) (hpos : 0 < m * size) :
    ∃ w', (storeVar t ⟨g, off + p, none⟩ val).run P w = .ok () w' ∧ Sat w0 w' (slc e size (.slice (some ⟨g, off, none⟩) m cap) m (xs.take p ++ vs ++ xs.drop (p + vs.length)) * F) := by
  obtain ⟨hl, ⟨A, hv0, h0, _⟩ | ⟨g', off', cap', cur, fr, hv0, hn, hm, hc, ht, hf, hs'⟩⟩ := hs.slc_cases
  · subst h0; simp at hpos
  · injection hv0 with e1 _ e3
    injection e1 with e1
    injection e1 with e1 e2
    subst e1; subst e2; subst e3
    have hle : m * size ≤ cap * size := Nat.mul_le_mul_right _ hn
    obtain ⟨i, hi, hi2⟩ := Option.map_eq_some_iff.1 hsz
    have hz : (sizeOf t).run P w = .ok vs.length w := by simp [sizeOf, typeInfo, hi, hi2]
    have hr := run_storeCells_fr (P := P) g (off + p) e fr vs 0 cur w hs'.at_ (by omega) h1 (fun i h1 h2 => hf i (by omega) (by omega))
    refine ⟨w.setRow g (cur.toList.take (off + p + 0) ++ vs ++ cur.toList.drop (off + p + 0 + vs.length)).toArray, ?_, ?_⟩
    · simp only [storeVar, Sem.run_bind, hz, Result.andThen_ok, hv, List.size_toArray]
      rw [if_neg (by simp)]
      exact hr
    · have hp2 : Sat w0 (w.setRow g (cur.toList.take (off + p + 0) ++ vs ++ cur.toList.drop (off + p + 0 + vs.length)).toArray) (pts g (.cells (cur.toList.take (off + p + 0) ++ vs ++ cur.toList.drop (off + p + 0 + vs.length)).toArray e fr) * F) :=
        Sat.put hs' rfl rfl rfl (setRow_heap w g cur _ e fr hs'.at_) fun k _ hk => setRow_other w g k _ hk
      refine Sat.slc_mk e size m g off cap _ fr _ hp2 ?_ hn hm ?_ ?_ hf
      · simp only [List.length_append, List.length_take, List.length_drop, hl]; omega
      · simp only [List.size_toArray, List.length_append, List.length_take, List.length_drop, Array.length_toList]; omega
      · subst ht
        apply List.ext_getElem?
        intro j
        simp only [Nat.add_zero, List.getElem?_take, List.getElem?_drop, List.getElem?_append, List.length_append, List.length_take, List.length_drop, Array.length_toList]
        have e1 : min (off + p) cur.size = off + p := by omega
        have e2 : min p (min (m * size) (cur.size - off)) = p := by omega
        rw [e1, e2]
        by_cases c0 : j < m * size
        · simp only [c0, if_true]
          by_cases c1 : j < p
          · simp [c1, show off + j < off + p + vs.length by omega, show off + j < off + p by omega, show j < p + vs.length by omega]
          · by_cases c2 : j < p + vs.length
            · simp [c1, c2, show off + j < off + p + vs.length by omega, show off + j - (off + p) = j - p by omega]
            · simp [c1, c2, show ¬ off + j < off + p + vs.length by omega, show ¬ off + j < off + p by omega, show off + p + vs.length + (off + j - (off + p + vs.length)) = off + j by omega, show p + vs.length + (j - (p + vs.length)) = j by omega, c0]
        · simp only [c0, if_false]
          by_cases c2 : j < p + vs.length
          · omega
          · simp [c2, show ¬ j < p by omega, show ¬ p + vs.length + (j - (p + vs.length)) < m * size by omega]
theorem take_mid {A B C : List Value} {m j : Nat} (hA : A.length = m) (hj : j ≤ B.length) : (A ++ (B ++ C)).take (m + j) = A ++ B.take j := by
  subst hA
  rw [List.take_length_add_append, List.take_append_of_le_length hj]
theorem drop_mid {A B C : List Value} {m j : Nat} (hA : A.length = m) (hj : j ≤ B.length) : (A ++ (B ++ C)).drop (m + j) = B.drop j ++ C := by
  subst hA
  rw [List.drop_length_add_append, List.drop_append_of_le_length hj]
section stores
variable {α : Type} {e : TypeId} {size : Nat} {f : α → List Value} {v : Value} {l : List α} {ty : TypeId} {pos : String} {after : Array Edge} {gu : Option (Nat × Bool)} {x y : Operand}
/-- An element stored whole. -/
theorem H_storeRA (z' : α) {t : TypeId} {k : Nat} {vs : List Value} (hx : E.ev x = some (eptr v size k 0)) (hy : E.ev y = some (.agg vs.toArray)) (hz : vs = f z') (hl : RowsOf H v α e size f l F) (ht : Aggr P t size) (hf : FixLen f size) (hp : Nat.blt 0 size = true) (h1 : vs.all (·.oneCell') = true) (hk : k < l.length) :
    OpH P n w0 ⟨none, .store t x y, ty, pos, after, gu⟩ E H (fun _ : Unit => undef) (fun _ => rows e size f v (l.set k z') * F) := OpH.mk' (pre := rows e size f v l) (post := fun _ => rows e size f v (l.set k z')) (fun G a w K Q s hs hK => by
  have hp' : 0 < size := by simpa using hp
  obtain ⟨g, off, cap, rfl, _⟩ := rows_cell hp' hs hk
  have hvl : vs.length = size := by rw [hz]; exact hf.eq z'
  have hkm : (k + 1) * size ≤ l.length * size := Nat.mul_le_mul_right _ hk
  rw [Nat.succ_mul] at hkm
  obtain ⟨w', hr, hs'⟩ := run_storeVar_slc (P := P) (t := t) (vs := vs) (val := .agg vs.toArray) (p := k * size) w hs (by rw [hvl]; exact ht.size) rfl (by simpa using h1) (by omega) (by omega)
  have := hK () w' (hs'.cast (by unfold rows; rw [List.length_set, flatMap_set f size hf.eq l k z' hk, hvl, hz]))
  simp only [Act.put] at this
  simp only [Oper.wp, execOp, s.ev hx, s.ev hy, eptr, add_lit, Nat.add_zero, Instr.storeAt, Instr.sureAddr, Sem.run_bind, Sem.run_pure, Result.andThen_ok, hr, Oper.upon_skip]
  exact this) hl.eq
/-- One cell of an element stored. -/
theorem H_storeR (z' : α) {t : TypeId} {k j : Nat} {z : α} {u : Value} (hx : E.ev x = some (eptr v size k j)) (hy : E.ev y = some u) (hl : RowsOf H v α e size f l F) (ht : Scal P t) (hf : FixLen f size) (h1 : u.oneCell' = true) (hz : l[k]? = some z) (hz' : pasteL (f z) j [u] = some (f z')) :
    OpH P n w0 ⟨none, .store t x y, ty, pos, after, gu⟩ E H (fun _ : Unit => undef) (fun _ => rows e size f v (l.set k z') * F) := OpH.mk' (pre := rows e size f v l) (post := fun _ => rows e size f v (l.set k z')) (fun G a w K Q s hs hK => by
  obtain ⟨hle, hpa⟩ := pasteL_eq hz'
  have hj : j < size := by rw [← hf.eq z]; simp at hle; omega
  have hk : k < l.length := (List.getElem?_eq_some_iff.1 hz).1
  have hzk : l[k] = z := by have := (List.getElem?_eq_some_iff.1 hz).2; exact this
  obtain ⟨g, off, cap, rfl, _⟩ := rows_cell (by omega) hs hk
  have hkm : (k + 1) * size ≤ l.length * size := Nat.mul_le_mul_right _ hk
  rw [Nat.succ_mul] at hkm
  obtain ⟨w', hr, hs'⟩ := run_storeVar_slc (P := P) (t := t) (vs := [u]) (val := u) (p := k * size + j) w hs ht.size (cells_one h1) (by simpa using h1) (by simp; omega) (by omega)
  have hset : (l.flatMap f).take (k * size + j) ++ [u] ++ (l.flatMap f).drop (k * size + j + 1) = (l.set k z').flatMap f := by
    rw [flatMap_set f size hf.eq l k z' hk, hpa]
    have hlen := flatMap_length f size hf.eq l
    have hself : l.set k z = l := by rw [← hzk]; exact List.set_getElem_self hk
    have hX := flatMap_set f size hf.eq l k z hk
    rw [hself] at hX
    have hA : ((l.flatMap f).take (k * size)).length = k * size := by rw [List.length_take, hlen]; omega
    have hfz := hf.eq z
    generalize (l.flatMap f).take (k * size) = A at *
    generalize (l.flatMap f).drop (k * size + size) = C at *
    have hX' : l.flatMap f = A ++ (f z ++ C) := by rw [hX, List.append_assoc]
    have hle2 : j + 1 ≤ (f z).length := by omega
    have e1 := take_mid (C := C) hA (show j ≤ (f z).length by omega)
    have e2 := drop_mid (C := C) hA hle2
    rw [hX', e1, show k * size + j + 1 = k * size + (j + 1) by omega, e2]
    simp
  have := hK () w' (hs'.cast (by
    unfold rows
    rw [List.length_set, ← hset]
    simp))
  simp only [Act.put] at this
  simp only [Oper.wp, execOp, s.ev hx, s.ev hy, eptr, add_lit, Instr.storeAt, Instr.sureAddr, Sem.run_bind, Sem.run_pure, Result.andThen_ok, hr, Oper.upon_skip]
  exact this) hl.eq
end stores
/-! ### Nothing; another assertion -/
theorem LS_ent {H H' : HProp} (e : Ent H H') (h : LS P n w0 ops Q l' ⟨E, D, H'⟩) : LS P n w0 ops Q l' ⟨E, D, H⟩ := fun a w g => h a w ⟨g.sees, g.defers, e.sat g.sat⟩
theorem WS_ent {c : Code} {H H' : HProp} (e : Ent H H') (h : WS P n w0 c Q ⟨E, D, H'⟩) : WS P n w0 c Q ⟨E, D, H⟩ := fun a w g => h a w ⟨g.sees, g.defers, e.sat g.sat⟩
theorem Ent.nil {α : Type} (H : HProp) (e : TypeId) (size : Nat) (f : α → List Value) (A : Option Addr) : Ent H (rows e size f (.slice A 0 0) [] * H) := fun h hh =>
  ⟨h, ⟨fun _ => none, h, fun _ => .inl rfl, (Part.join_none fun _ => rfl).symm, ⟨by simp, .inl ⟨A, rfl, rfl, fun _ => rfl⟩⟩, hh⟩, fun _ _ e => e⟩
end Go.Proofs.Ytapoehkdnglahaa
