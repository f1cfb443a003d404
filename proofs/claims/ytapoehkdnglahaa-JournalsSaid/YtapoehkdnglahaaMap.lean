/- Maps that a call owns: look-up, store, delete, length. No program in sight. -/
import Derived.Test.YtapoehkdnglahaaApp
import Derived.MapKept
namespace Go.Proofs.Ytapoehkdnglahaa
open Go.RowKit
set_option linter.unusedVariables false
set_option linter.unusedSimpArgs false
set_option linter.unusedSectionVars false
variable {P : Program} {n : Frm} {w0 : World} {E : Env} {D : List Deferred} {H F F2 R : HProp} {ops : Array Oper} {l' : List Oper} {Q : Exit → St → Prop} {w : World}
/-! ### Lists of pairs -/
section pairs
variable {κ ν : Type} [DecidableEq κ]
def mfind : List (κ × ν) → κ → Option Nat
  | [], _ => none
  | p :: r, k => if p.1 = k then some 0 else (mfind r k).map (· + 1)
def mget (m : List (κ × ν)) (k : κ) : Option ν := match mfind m k with
  | some i => (m[i]?).map (·.2)
  | none => none
def mset (m : List (κ × ν)) (k : κ) (v : ν) : List (κ × ν) := match mfind m k with
  | some i => m.set i (k, v)
  | none => m ++ [(k, v)]
def mdel (m : List (κ × ν)) (k : κ) : List (κ × ν) := match mfind m k with
  | some i => m.eraseIdx i
  | none => m
theorem mfind_some : ∀ {m : List (κ × ν)} {k : κ} {i : Nat}, mfind m k = some i → ∃ v, m[i]? = some (k, v)
  | [], _, _, h => by cases h
  | p :: r, k, i, h => by
    simp only [mfind] at h
    split at h
    · rename_i e; cases h; exact ⟨p.2, by subst e; rfl⟩
    · cases hr : mfind r k with
      | none => rw [hr] at h; cases h
      | some j => rw [hr] at h; cases h; obtain ⟨v, hv⟩ := mfind_some hr; exact ⟨v, by simpa using hv⟩
theorem mget_some {m : List (κ × ν)} {k : κ} {v : ν} (h : mget m k = some v) : ∃ i, mfind m k = some i ∧ m[i]? = some (k, v) := by
  unfold mget at h
  cases hf : mfind m k with
  | none => rw [hf] at h; cases h
  | some i =>
    rw [hf] at h
    obtain ⟨u, hu⟩ := mfind_some hf
    simp only [hu, Option.map_some, Option.some.injEq] at h
    subst h; exact ⟨i, rfl, hu⟩
theorem mget_none {m : List (κ × ν)} {k : κ} (h : mget m k = none) : mfind m k = none := by
  unfold mget at h
  cases hf : mfind m k with
  | none => rfl
  | some i =>
    rw [hf] at h
    obtain ⟨u, hu⟩ := mfind_some hf
    simp [hu] at h
end pairs

/-- Keys that the model tells apart as Lean does. -/
class KeyT (P : Program) (kt : TypeId) {κ : Type} (fk : κ → Value) : Prop where
  check : ∀ (empty : Bool) (k : κ) (w : World), (Instr.checkKey empty 10000 kt (fk k)).run P w = .ok () w
  same : ∀ k : κ, Instr.sameBits 10000 (fk k) (fk k) = true
  find : ∀ [DecidableEq κ] {ν : Type} (fv : ν → Value) (m : List (κ × ν)) (k : κ) (es : List MapEntry) (w : World), es.map (fun e => (e.key, e.val)) = m.map (fun p => (fk p.1, fv p.2)) →
    (Instr.findKey kt (fk k) es).run P w = .ok ((mfind m k).bind fun i => (m[i]?).map fun p => (i, fv p.2)) w
/-- The map at block r: its pairs in the order in which they came. -/
def mp {κ ν : Type} (fk : κ → Value) (fv : ν → Value) (r : Nat) (m : List (κ × ν)) : HProp :=
  ⟨fun h => ∃ (es : Array MapEntry) (clock : Nat), h = (fun k => if k = r then some (.map es clock) else none) ∧ es.toList.map (fun e => (e.key, e.val)) = m.map (fun p => (fk p.1, fv p.2)) ∧ (es.toList.map (·.born)).Nodup ∧ ∀ e ∈ es.toList, e.born < clock⟩
theorem Sat.map_at {κ ν : Type} {fk : κ → Value} {fv : ν → Value} {r : Nat} {m : List (κ × ν)} (h : Sat w0 w (mp fk fv r m * F)) :
    ∃ es clock, w.heap[r]? = some (.map es clock) ∧ es.toList.map (fun e => (e.key, e.val)) = m.map (fun p => (fk p.1, fv p.2)) ∧ (es.toList.map (·.born)).Nodup ∧ (∀ e ∈ es.toList, e.born < clock) ∧ Sat w0 w (pts r (.map es clock) * F) := by
  obtain ⟨x, ⟨a, b, hd, he, ⟨es, clock, hp, h1, h2, h3⟩, hq⟩, hk⟩ := h.heap
  have hs : Sat w0 w (pts r (.map es clock) * F) := ⟨h.os, h.tape, h.output, x, ⟨a, b, hd, he, hp, hq⟩, hk⟩
  exact ⟨es, clock, hs.at_, h1, h2, h3, hs⟩
theorem Sat.map_mk {κ ν : Type} {fk : κ → Value} {fv : ν → Value} {r : Nat} {m : List (κ × ν)} {es : Array MapEntry} {clock : Nat} (h : Sat w0 w (pts r (.map es clock) * F)) (h1 : es.toList.map (fun e => (e.key, e.val)) = m.map (fun p => (fk p.1, fv p.2))) (h2 : (es.toList.map (·.born)).Nodup) (h3 : ∀ e ∈ es.toList, e.born < clock) :
    Sat w0 w (mp fk fv r m * F) := h.mono fun _ ⟨a, b, hd, he, hp, hq⟩ => ⟨a, b, hd, he, ⟨es, clock, hp, h1, h2, h3⟩, hq⟩
theorem Sat.setObj {r : Nat} {o o' : Obj} (h : Sat w0 w (pts r o * F)) : Sat w0 { w with heap := w.heap.setIfInBounds r o' } (pts r o' * F) := by
  have hlt := h.lt
  refine Sat.put h rfl rfl rfl ?_ fun k _ hk => ?_
  · simp [hlt]
  · simp [Array.getElem?_setIfInBounds_ne (Ne.symm hk)]
theorem run_getObj_map {r : Nat} {es : Array MapEntry} {clock : Nat} (h : w.heap[r]? = some (.map es clock)) : (getObj r).run P w = .ok (.map es clock) w := by
  simp [getObj, Sem.run, h]
theorem run_setObj_map {r : Nat} {es : Array MapEntry} {clock : Nat} {o : Obj} (h : w.heap[r]? = some (.map es clock)) : (setObj r o).run P w = .ok () { w with heap := w.heap.setIfInBounds r o } := by
  simp [setObj, Sem.run, h]
/-- A map type, and how its keys and its elements read. -/
class MapT (P : Program) (t : TypeId) (kt et : outParam TypeId) : Prop where
  eq : P.underlying t = some (.map kt et)
instance (t kt et : TypeId) [h : Und P t (.map kt et)] : MapT P t kt et := ⟨h.eq⟩
def optV {ν : Type} (fv : ν → Value) (z : Value) : Option ν → Value
  | some v => fv v
  | none => z
class MapOf (H : HProp) (r : Nat) (κ ν : outParam Type) (fk : outParam (κ → Value)) (fv : outParam (ν → Value)) (m : outParam (List (κ × ν))) (F : outParam HProp) : Prop where
  eq : H = mp fk fv r m * F
instance mapOf_head {κ ν : Type} (fk : κ → Value) (fv : ν → Value) (r : Nat) (m : List (κ × ν)) (F : HProp) : MapOf (mp fk fv r m * F) r κ ν fk fv m F := ⟨rfl⟩
instance (priority := low) mapOf_tail {κ ν : Type} (X H F : HProp) (fk : κ → Value) (fv : ν → Value) (r : Nat) (m : List (κ × ν)) [h : MapOf H r κ ν fk fv m F] : MapOf (X * H) r κ ν fk fv m (X * F) := ⟨by rw [h.eq, star_left_comm]⟩
instance (priority := low) mapOf_left {κ ν : Type} (X H F : HProp) (fk : κ → Value) (fv : ν → Value) (r : Nat) (m : List (κ × ν)) [h : MapOf X r κ ν fk fv m F] : MapOf (X * H) r κ ν fk fv m (F * H) := ⟨by rw [h.eq, star_assoc]⟩
/-- A value as a key. -/
class AsKey {κ : Type} (fk : κ → Value) (v : Value) (k : outParam κ) : Prop where
  eq : v = fk k
section mapops
variable {κ ν : Type} [DecidableEq κ] {fk : κ → Value} {fv : ν → Value} {r : Nat} {m : List (κ × ν)} {d : Option Tmp} {ty : TypeId} {pos : String} {after : Array Edge} {gu : Option (Nat × Bool)} {x y z' : Operand} {t kt et : TypeId} {k : κ} {v : Value}
theorem run_lookup (w : World) {z : Value} (hm : P.underlying t = some (.map kt et)) (hz : (P.info? et).map (·.zero) = some (some z)) [hk : KeyT P kt fk] (hs : Sat w0 w (mp fk fv r m * F)) (ok : Bool) :
    (Instr.lookup t (.map (some r)) (fk k) ok).run P w = .ok (if ok then .tuple #[optV fv z (mget m k), .bool (mget m k).isSome] else optV fv z (mget m k)) w := by
  obtain ⟨es, clock, hat, h1, _, _, _⟩ := hs.map_at
  have hf := hk.find fv m k es.toList w h1
  obtain ⟨i, hi, hi2⟩ := Option.map_eq_some_iff.1 hz
  cases hg : mget m k with
  | none =>
    rw [mget_none hg] at hf
    simp only [Option.bind_none] at hf
    simp [Instr.lookup, run_underlying hm, run_getObj_map hat, hk.check, hf, zeroValue, typeInfo, hi, hi2, optV]
  | some u =>
    obtain ⟨j, hj, hu⟩ := mget_some hg
    rw [hj] at hf
    simp only [Option.bind_some, hu, Option.map_some] at hf
    simp [Instr.lookup, run_underlying hm, run_getObj_map hat, hk.check, hf, optV]
theorem Q_lookupOk {z : Value} {zs : List Value} (hx : E.ev x = some (.map (some r))) (hy : E.ev y = some v) (hl : MapOf H r κ ν fk fv m F) (hkk : AsKey fk v k) (hm : MapT P t kt et) (hz : Zero P et z zs) (hk : KeyT P kt fk) : OpQ P n w0 ⟨d, .lookup t x y true, ty, pos, after, gu⟩ E H (.tuple #[optV fv z (mget m k), .bool (mget m k).isSome]) := fun a w s hs => by
  obtain rfl := hkk.eq
  have := run_lookup (k := k) w hm.eq hz.eq (hs.cast hl.eq) true
  simp only [execOp, s.ev hx, s.ev hy, Sem.run_bind, this, Result.andThen_ok, Sem.run_pure, if_true]
theorem Q_lookup {z : Value} {zs : List Value} (hx : E.ev x = some (.map (some r))) (hy : E.ev y = some v) (hl : MapOf H r κ ν fk fv m F) (hkk : AsKey fk v k) (hm : MapT P t kt et) (hz : Zero P et z zs) (hk : KeyT P kt fk) : OpQ P n w0 ⟨d, .lookup t x y false, ty, pos, after, gu⟩ E H (optV fv z (mget m k)) := fun a w s hs => by
  obtain rfl := hkk.eq
  have := run_lookup (k := k) w hm.eq hz.eq (hs.cast hl.eq) false
  simp only [execOp, s.ev hx, s.ev hy, Sem.run_bind, this, Result.andThen_ok, Sem.run_pure, Bool.false_eq_true, if_false]
theorem map_lenE {es : Array MapEntry} (h1 : es.toList.map (fun e => (e.key, e.val)) = m.map (fun p => (fk p.1, fv p.2))) : es.size = m.length := by
  have := congrArg List.length h1; simpa using this
theorem Q_lenM (hx : E.ev x = some (.map (some r))) (hl : MapOf H r κ ν fk fv m F) (hm : MapT P t kt et) : OpQ P n w0 ⟨d, .call ⟨.builtin .len, #[x], #[t]⟩, ty, pos, after, gu⟩ E H (.int .i64 (m.length : Int)) := fun a w s hs => by
  obtain ⟨es, clock, hat, h1, _, _, _⟩ := (hs.cast hl.eq).map_at
  have hsz := map_lenE h1
  simp [execOp, resolve, invoke, builtin, s.ev hx, Builtin.len_, run_underlying hm.eq, run_getObj_map hat, goInt, hsz]
theorem H_makeMap (fk : κ → Value) (fv : ν → Value) : OpH P n w0 ⟨d, .makeMap t none, ty, pos, after, gu⟩ E H (fun r => .map (some r)) (fun r => mp fk fv r [] * H) := by
  refine OpH.mk' (pre := emp) (post := fun r => mp fk fv r []) (fun G a w K Q s hs hK => ?_) emp_star.symm
  rw [emp_star] at hs
  simp [Oper.wp, execOp, Instr.makeMap, Oper.upon]
  exact hK w.heap.size _ (Sat.map_mk (hs.alloc (.map #[] 0)) (by simp) (by simp) (by simp))
theorem map_eraseIdx' {α β : Type} (f : α → β) : ∀ (l : List α) (i : Nat), (l.eraseIdx i).map f = (l.map f).eraseIdx i
  | [], i => by simp
  | x :: l, 0 => by simp
  | x :: l, i + 1 => by simp [map_eraseIdx' f l i]
theorem nodup_modify {es : Array MapEntry} {i : Nat} {f : MapEntry → MapEntry} (hf : ∀ e, (f e).born = e.born) : (es.modify i f).toList.map (·.born) = es.toList.map (·.born) := by
  apply List.ext_getElem?
  intro j
  simp only [List.getElem?_map, Array.getElem?_toList, Array.getElem?_modify]
  by_cases h : i = j
  · subst h; cases es[i]? <;> simp [hf]
  · simp [h]
theorem run_mapUpdate (w : World) {u : ν} (hm : P.underlying t = some (.map kt et)) [hk : KeyT P kt fk] (hs : Sat w0 w (mp fk fv r m * F)) :
    ∃ w', (Instr.mapUpdate t (.map (some r)) (fk k) (fv u)).run P w = .ok () w' ∧ Sat w0 w' (mp fk fv r (mset m k u) * F) := by
  obtain ⟨es, clock, hat, h1, h2, h3, hp⟩ := hs.map_at
  have hf := hk.find fv m k es.toList w h1
  cases hg : mfind m k with
  | none =>
    rw [hg] at hf
    simp only [Option.bind_none] at hf
    refine ⟨_, by simp [Instr.mapUpdate, run_underlying hm, run_getObj_map hat, hk.check, hf, run_setObj_map hat]; rfl, ?_⟩
    refine Sat.map_mk hp.setObj ?_ ?_ ?_
    · simp [mset, hg, h1]
    · simp only [Array.toList_push, List.map_append, List.map_cons, List.map_nil]
      refine List.nodup_append.2 ⟨h2, by simp, ?_⟩
      intro a ha b hb
      obtain ⟨e, he, rfl⟩ := List.mem_map.1 ha
      have := h3 e he
      simp at hb
      omega
    · intro e he
      simp only [Array.toList_push, List.mem_append, List.mem_cons, List.not_mem_nil, or_false] at he
      rcases he with he | rfl
      · exact Nat.lt_succ_of_lt (h3 e he)
      · exact Nat.lt_succ_self _
  | some i =>
    obtain ⟨v0, hv0⟩ := mfind_some hg
    rw [hg] at hf
    simp only [Option.bind_some, hv0, Option.map_some] at hf
    have hlt : i < es.size := by rw [map_lenE h1]; exact (List.getElem?_eq_some_iff.1 hv0).1
    have hkey : es[i].key = fk k := by
      have := congrArg (·[i]?) h1
      simp [hv0, hlt] at this
      exact this.1
    refine ⟨_, by simp [Instr.mapUpdate, run_underlying hm, run_getObj_map hat, hk.check, hf, hlt, hkey, Instr.keyThatStays, hk.same, run_setObj_map hat]; rfl, ?_⟩
    refine Sat.map_mk hp.setObj ?_ ?_ ?_
    · apply List.ext_getElem?
      intro j
      have hj := congrArg (·[j]?) h1
      simp only [mset, hg, List.getElem?_map, Array.getElem?_toList, Array.getElem?_modify, List.getElem?_set] at hj ⊢
      by_cases hij : i = j
      · subst hij
        have hlm : i < m.length := (List.getElem?_eq_some_iff.1 hv0).1
        simp [hlt, hlm]
      · simp only [hij, if_false]; exact hj
    · exact (nodup_modify (es := es) (i := i) (f := fun e => ⟨fk k, fv u, e.born⟩) (fun _ => rfl)).symm ▸ h2
    · intro e he
      have : e.born ∈ (es.modify i fun e => { e with key := fk k, val := fv u }).toList.map (·.born) := List.mem_map.2 ⟨e, he, rfl⟩
      have hnm := nodup_modify (es := es) (i := i) (f := fun e => ⟨fk k, fv u, e.born⟩) (fun _ => rfl)
      rw [show ((es.modify i fun e => { e with key := fk k, val := fv u }).toList.map (·.born)) = es.toList.map (·.born) from hnm] at this
      obtain ⟨e', he', hb⟩ := List.mem_map.1 this
      rw [← hb]; exact h3 e' he'
theorem H_mapUpdate {u : ν} {uv : Value} (hx : E.ev x = some (.map (some r))) (hy : E.ev y = some v) (hz : E.ev z' = some uv) (hl : MapOf H r κ ν fk fv m F) (hkk : AsKey fk v k) (hvv : AsKey fv uv u) (hm : MapT P t kt et) (hk : KeyT P kt fk) :
    OpH P n w0 ⟨none, .mapUpdate t x y z', ty, pos, after, gu⟩ E H (fun _ : Unit => undef) (fun _ => mp fk fv r (mset m k u) * F) := by
  obtain rfl := hkk.eq
  obtain rfl := hvv.eq
  refine OpH.mk' (pre := mp fk fv r m) (post := fun _ => mp fk fv r (mset m k u)) (fun G a w K Q s hs hK => ?_) hl.eq
  obtain ⟨w', hr, hs'⟩ := run_mapUpdate (k := k) (u := u) w hm.eq hs
  have := hK () w' hs'
  simp only [Act.put] at this
  simp only [Oper.wp, execOp, s.ev hx, s.ev hy, s.ev hz, Sem.run_bind, hr, Result.andThen_ok, Sem.run_pure, Oper.upon_skip]
  exact this
theorem H_delete {d : Option Tmp} (hx : E.ev x = some (.map (some r))) (hy : E.ev y = some v) (hl : MapOf H r κ ν fk fv m F) (hkk : AsKey fk v k) {t2 : TypeId} (hm : MapT P t kt et) (hk : KeyT P kt fk) :
    OpH P n w0 ⟨d, .call ⟨.builtin .delete, #[x, y], #[t, t2]⟩, ty, pos, after, gu⟩ E H (fun _ : Unit => .tuple #[]) (fun _ => mp fk fv r (mdel m k) * F) := by
  obtain rfl := hkk.eq
  refine OpH.mk' (pre := mp fk fv r m) (post := fun _ => mp fk fv r (mdel m k)) (fun G a w K Q s hs hK => ?_) hl.eq
  obtain ⟨es, clock, hat, h1, h2, h3, hp⟩ := hs.map_at
  have hf := hk.find fv m k es.toList w h1
  have key : ∃ w', (Builtin.delete_ #[t, t2] ty #[.map (some r), fk k]).run P w = .ok (.tuple #[]) w' ∧ Sat w0 w' (mp fk fv r (mdel m k) * G) := by
    cases hg : mfind m k with
    | none =>
      rw [hg] at hf
      simp only [Option.bind_none] at hf
      refine ⟨_, by simp [Builtin.delete_, run_underlying hm.eq, run_getObj_map hat, hk.check, hf, run_setObj_map hat]; rfl, ?_⟩
      exact Sat.map_mk hp.setObj (by simpa [mdel, hg] using h1) h2 h3
    | some i =>
      obtain ⟨v0, hv0⟩ := mfind_some hg
      rw [hg] at hf
      simp only [Option.bind_some, hv0, Option.map_some] at hf
      refine ⟨_, by simp [Builtin.delete_, run_underlying hm.eq, run_getObj_map hat, hk.check, hf, run_setObj_map hat]; rfl, ?_⟩
      have hE : (es.eraseIdxIfInBounds i).toList = es.toList.eraseIdx i := by simp [Array.eraseIdxIfInBounds]; split <;> simp_all [List.eraseIdx_of_length_le]
      refine Sat.map_mk hp.setObj ?_ ?_ ?_
      · rw [hE, map_eraseIdx', h1, ← map_eraseIdx']; simp [mdel, hg]
      · rw [hE, map_eraseIdx']; exact h2.sublist (List.eraseIdx_sublist _ _)
      · intro e he; rw [hE] at he; exact h3 e ((List.eraseIdx_sublist _ _).subset he)
  obtain ⟨w', hr, hs'⟩ := key
  simp only [Oper.wp, execOp, resolve, invoke, builtin, Sem.run_bind, Sem.run_pure, Result.andThen_ok, List.map_toArray, List.map_cons, List.map_nil, s.ev hx, s.ev hy, hr, Oper.upon_value]
  exact hK () w' hs'
end mapops
/-! ### Keys that are numbers -/
theorem find_int {κ ν : Type} [DecidableEq κ] {fk : κ → Value} {fv : ν → Value} {q q' : IntKind} (num : κ → Int) (hn : ∀ k, fk k = .int q (num k)) (hi : ∀ a b, num a = num b → a = b) (k : κ) : ∀ (m : List (κ × ν)) (es : List MapEntry) (i : Nat), es.map (fun e => (e.key, e.val)) = m.map (fun p => (fk p.1, fv p.2)) →
    Instr.findNow (.int q') (fk k) es i = some ((mfind m k).bind fun j => (m[j]?).map fun p => (i + j, fv p.2))
  | [], es, i, h => by
    have : es = [] := by simpa using h
    subst this; rfl
  | p :: m, [], i, h => by simp at h
  | p :: m, e :: es, i, h => by
    simp only [List.map_cons, List.cons.injEq, Prod.mk.injEq] at h
    obtain ⟨⟨h1, h2⟩, h3⟩ := h
    have ih := find_int (q' := q') num hn hi k m es (i + 1) h3
    simp only [Instr.findNow, h1, hn, Instr.sameNow, if_true]
    by_cases he : p.1 = k
    · subst he
      simp [mfind, h2]
    · have hne : (num k == num p.1) = false := by rw [beq_eq_false_iff_ne]; exact fun e => he (hi _ _ e.symm)
      rw [hne]
      simp only
      rw [← hn, ih]
      simp only [mfind, he, if_false]
      cases mfind m k with
      | none => rfl
      | some j => simp [Nat.add_assoc, Nat.add_comm 1 j]
theorem keyT_int {κ : Type} {fk : κ → Value} {kt : TypeId} {q : IntKind} (num : κ → Int) (hn : ∀ k, fk k = .int q (num k)) (hi : ∀ a b, num a = num b → a = b) (hu : P.underlying kt = some (.int q)) : KeyT P kt fk where
  check := fun empty k w => by rw [hn]; exact Go.MapKept.run_checkKey hu (show Go.MapKept.IsKey (.int q) (.int q (num k)) from rfl) empty 9999
  same := fun k => by rw [hn]; show ((q == q) && (num k == num k)) = true; simp
  find := fun fv m k es w h => by
    have := find_int (q' := q) num hn hi k m es 0 h
    simp only [Instr.findKey, Sem.run_bind, run_underlying hu, Result.andThen_ok, this, Sem.run_pure]
    cases mfind m k <;> simp
@[reducible] def i64 (n : Int) : Value := .int .i64 n
instance (kt : TypeId) [h : Und P kt (.int .i64)] : KeyT P kt i64 := keyT_int id (fun _ => rfl) (fun _ _ h => h) h.eq
instance (kt : TypeId) [h : Und P kt (.int .u32)] : KeyT P kt u32 := keyT_int (fun k => (k.toNat : Int)) (fun _ => rfl) (fun a b h => UInt32.toNat_inj.1 (by omega)) h.eq
instance (k : Int) : AsKey i64 (.int .i64 k) k := ⟨rfl⟩
instance (v : Value) (k : UInt32) [h : AsU32 v k] : AsKey u32 v k := ⟨h.eq⟩
instance (v : Value) (k : UInt64) [h : AsU64 v k] : AsKey u64 v k := ⟨h.eq⟩
end Go.Proofs.Ytapoehkdnglahaa
