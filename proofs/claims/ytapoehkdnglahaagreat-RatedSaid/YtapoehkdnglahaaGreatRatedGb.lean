/- Map More Sub Pk Args2 ArgS Ty Sub2 Sub3 MapL TornP CmpP, joined. -/
import Derived.Test.YtapoehkdnglahaaGreatRatedGa
/- Maps that a call owns: look-up, store, delete, length. No program in sight. -/
namespace Go.Proofs.YtapoehkdnglahaaGreat
open Go.RowKit
set_option linter.unusedVariables false
set_option linter.unusedSimpArgs false
set_option linter.unusedSectionVars false
variable {P : Program} {n : Frm} {w0 : World} {E : Env} {D : List Deferred} {H F F2 R : HProp} {ops : Array Oper} {l' : List Oper} {Q : Exit → St → Prop} {w : World}
/-! ### Lists of pairs -/
section pairs
variable {κ ν : Type} [DecidableEq κ]
def mfind : List (κ × ν) → κ → Option Nat
  | [], _ => none
  | p :: r, k => if p.1 = k then some 0 else (mfind r k).map (· + 1)
def mget (m : List (κ × ν)) (k : κ) : Option ν := match mfind m k with
  | some i => (m[i]?).map (·.2)
  | none => none
def mset (m : List (κ × ν)) (k : κ) (v : ν) : List (κ × ν) := match mfind m k with
  | some i => m.set i (k, v)
  | none => m ++ [(k, v)]
def mdel (m : List (κ × ν)) (k : κ) : List (κ × ν) := match mfind m k with
  | some i => m.eraseIdx i
  | none => m
theorem mfind_some : ∀ {m : List (κ × ν)} {k : κ} {i : Nat}, mfind m k = some i → ∃ v, m[i]? = some (k, v)
  | [], _, _, h => by cases h
  | p :: r, k, i, h => by
    simp only [mfind] at h
    split at h
    · rename_i e; cases h; exact ⟨p.2, by subst e; rfl⟩
    · cases hr : mfind r k with
      | none => rw [hr] at h; cases h
      | some j => rw [hr] at h; cases h; obtain ⟨v, hv⟩ := mfind_some hr; exact ⟨v, by simpa using hv⟩
theorem mget_some {m : List (κ × ν)} {k : κ} {v : ν} (h : mget m k = some v) : ∃ i, mfind m k = some i ∧ m[i]? = some (k, v) := by
  unfold mget at h
  cases hf : mfind m k with
  | none => rw [hf] at h; cases h
  | some i =>
    rw [hf] at h
    obtain ⟨u, hu⟩ := mfind_some hf
    simp only [hu, Option.map_some, Option.some.injEq] at h
    subst h; exact ⟨i, rfl, hu⟩
theorem mget_none {m : List (κ × ν)} {k : κ} (h : mget m k = none) : mfind m k = none := by
  unfold mget at h
  cases hf : mfind m k with
  | none => rfl
  | some i =>
    rw [hf] at h
    obtain ⟨u, hu⟩ := mfind_some hf
    simp [hu] at h
end pairs

/-- Keys that the model tells apart as Lean does. -/
class KeyT (P : Program) (kt : TypeId) {κ : Type} (fk : κ → Value) : Prop where
  check : ∀ (empty : Bool) (k : κ) (w : World), (Instr.checkKey empty 10000 kt (fk k)).run P w = .ok () w
  same : ∀ k : κ, Instr.sameBits 10000 (fk k) (fk k) = true
  find : ∀ [DecidableEq κ] {ν : Type} (fv : ν → Value) (m : List (κ × ν)) (k : κ) (es : List MapEntry) (w : World), es.map (fun e => (e.key, e.val)) = m.map (fun p => (fk p.1, fv p.2)) →
    (Instr.findKey kt (fk k) es).run P w = .ok ((mfind m k).bind fun i => (m[i]?).map fun p => (i, fv p.2)) w
/-- The map at block r: its pairs in the order in which they came. -/
def mp {κ ν : Type} (fk : κ → Value) (fv : ν → Value) (r : Nat) (m : List (κ × ν)) : HProp :=
  ⟨fun h => ∃ (es : Array MapEntry) (clock : Nat), h = (fun k => if k = r then some (.map es clock) else none) ∧ es.toList.map (fun e => (e.key, e.val)) = m.map (fun p => (fk p.1, fv p.2)) ∧ (es.toList.map (·.born)).Nodup ∧ ∀ e ∈ es.toList, e.born < clock⟩
theorem Sat.map_at {κ ν : Type} {fk : κ → Value} {fv : ν → Value} {r : Nat} {m : List (κ × ν)} (h : Sat w0 w (mp fk fv r m * F)) :
    ∃ es clock, w.heap[r]? = some (.map es clock) ∧ es.toList.map (fun e => (e.key, e.val)) = m.map (fun p => (fk p.1, fv p.2)) ∧ (es.toList.map (·.born)).Nodup ∧ (∀ e ∈ es.toList, e.born < clock) ∧ Sat w0 w (pts r (.map es clock) * F) := by
  obtain ⟨x, ⟨a, b, hd, he, ⟨es, clock, hp, h1, h2, h3⟩, hq⟩, hk⟩ := h.heap
  have hs : Sat w0 w (pts r (.map es clock) * F) := ⟨h.os, h.tape, h.output, x, ⟨a, b, hd, he, hp, hq⟩, hk⟩
  exact ⟨es, clock, hs.at_, h1, h2, h3, hs⟩
theorem Sat.map_mk {κ ν : Type} {fk : κ → Value} {fv : ν → Value} {r : Nat} {m : List (κ × ν)} {es : Array MapEntry} {clock : Nat} (h : Sat w0 w (pts r (.map es clock) * F)) (h1 : es.toList.map (fun e => (e.key, e.val)) = m.map (fun p => (fk p.1, fv p.2))) (h2 : (es.toList.map (·.born)).Nodup) (h3 : ∀ e ∈ es.toList, e.born < clock) :
    Sat w0 w (mp fk fv r m * F) := h.mono fun _ ⟨a, b, hd, he, hp, hq⟩ => ⟨a, b, hd, he, ⟨es, clock, hp, h1, h2, h3⟩, hq⟩
theorem Sat.setObj {r : Nat} {o o' : Obj} (h : Sat w0 w (pts r o * F)) : Sat w0 { w with heap := w.heap.setIfInBounds r o' } (pts r o' * F) := by
  have hlt := h.lt
  refine Sat.put h rfl rfl rfl ?_ fun k _ hk => ?_
  · simp [hlt]
  · simp [Array.getElem?_setIfInBounds_ne (Ne.symm hk)]
theorem run_getObj_map {r : Nat} {es : Array MapEntry} {clock : Nat} (h : w.heap[r]? = some (.map es clock)) : (getObj r).run P w = .ok (.map es clock) w := by
  simp [getObj, Sem.run, h]
theorem run_setObj_map {r : Nat} {es : Array MapEntry} {clock : Nat} {o : Obj} (h : w.heap[r]? = some (.map es clock)) : (setObj r o).run P w = .ok () { w with heap := w.heap.setIfInBounds r o } := by
  simp [setObj, Sem.run, h]
/-- A map type, and how its keys and its elements read. -/
class MapT (P : Program) (t : TypeId) (kt et : outParam TypeId) : Prop where
  eq : P.underlying t = some (.map kt et)
instance (t kt et : TypeId) [h : Und P t (.map kt et)] : MapT P t kt et := ⟨h.eq⟩
def optV {ν : Type} (fv : ν → Value) (z : Value) : Option ν → Value
  | some v => fv v
  | none => z
class MapOf (H : HProp) (r : Nat) (κ ν : outParam Type) (fk : outParam (κ → Value)) (fv : outParam (ν → Value)) (m : outParam (List (κ × ν))) (F : outParam HProp) : Prop where
  eq : H = mp fk fv r m * F
instance mapOf_head {κ ν : Type} (fk : κ → Value) (fv : ν → Value) (r : Nat) (m : List (κ × ν)) (F : HProp) : MapOf (mp fk fv r m * F) r κ ν fk fv m F := ⟨rfl⟩
instance (priority := low) mapOf_tail {κ ν : Type} (X H F : HProp) (fk : κ → Value) (fv : ν → Value) (r : Nat) (m : List (κ × ν)) [h : MapOf H r κ ν fk fv m F] : MapOf (X * H) r κ ν fk fv m (X * F) := ⟨by rw [h.eq, star_left_comm]⟩
instance (priority := low) mapOf_left {κ ν : Type} (X H F : HProp) (fk : κ → Value) (fv : ν → Value) (r : Nat) (m : List (κ × ν)) [h : MapOf X r κ ν fk fv m F] : MapOf (X * H) r κ ν fk fv m (F * H) := ⟨by rw [h.eq, star_assoc]⟩
/-- A value as a key. -/
class AsKey {κ : Type} (fk : κ → Value) (v : Value) (k : outParam κ) : Prop where
  eq : v = fk k
section mapops
variable {κ ν : Type} [DecidableEq κ] {fk : κ → Value} {fv : ν → Value} {r : Nat} {m : List (κ × ν)} {d : Option Tmp} {ty : TypeId} {pos : String} {after : Array Edge} {gu : Option (Nat × Bool)} {x y z' : Operand} {t kt et : TypeId} {k : κ} {v : Value}
theorem run_lookup (w : World) {z : Value} (hm : P.underlying t = some (.map kt et)) (hz : (P.info? et).map (·.zero) = some (some z)) [hk : KeyT P kt fk] (hs : Sat w0 w (mp fk fv r m * F)) (ok : Bool) :
    (Instr.lookup t (.map (some r)) (fk k) ok).run P w = .ok (if ok then .tuple #[optV fv z (mget m k), .bool (mget m k).isSome] else optV fv z (mget m k)) w := by
  obtain ⟨es, clock, hat, h1, _, _, _⟩ := hs.map_at
  have hf := hk.find fv m k es.toList w h1
  obtain ⟨i, hi, hi2⟩ := Option.map_eq_some_iff.1 hz
  cases hg : mget m k with
  | none =>
    rw [mget_none hg] at hf
    simp only [Option.bind_none] at hf
    simp [Instr.lookup, run_underlying hm, run_getObj_map hat, hk.check, hf, zeroValue, typeInfo, hi, hi2, optV]
  | some u =>
    obtain ⟨j, hj, hu⟩ := mget_some hg
    rw [hj] at hf
    simp only [Option.bind_some, hu, Option.map_some] at hf
    simp [Instr.lookup, run_underlying hm, run_getObj_map hat, hk.check, hf, optV]
theorem Q_lookupOk {z : Value} {zs : List Value} (hx : E.ev x = some (.map (some r))) (hy : E.ev y = some v) (hl : MapOf H r κ ν fk fv m F) (hkk : AsKey fk v k) (hm : MapT P t kt et) (hz : Zero P et z zs) (hk : KeyT P kt fk) : OpQ P n w0 ⟨d, .lookup t x y true, ty, pos, after, gu⟩ E H (.tuple #[optV fv z (mget m k), .bool (mget m k).isSome]) := fun a w s hs => by
  obtain rfl := hkk.eq
  have := run_lookup (k := k) w hm.eq hz.eq (hs.cast hl.eq) true
  simp only [execOp, s.ev hx, s.ev hy, Sem.run_bind, this, Result.andThen_ok, Sem.run_pure, if_true]
theorem Q_lookup {z : Value} {zs : List Value} (hx : E.ev x = some (.map (some r))) (hy : E.ev y = some v) (hl : MapOf H r κ ν fk fv m F) (hkk : AsKey fk v k) (hm : MapT P t kt et) (hz : Zero P et z zs) (hk : KeyT P kt fk) : OpQ P n w0 ⟨d, .lookup t x y false, ty, pos, after, gu⟩ E H (optV fv z (mget m k)) := fun a w s hs => by
  obtain rfl := hkk.eq
  have := run_lookup (k := k) w hm.eq hz.eq (hs.cast hl.eq) false
  simp only [execOp, s.ev hx, s.ev hy, Sem.run_bind, this, Result.andThen_ok, Sem.run_pure, Bool.false_eq_true, if_false]
theorem map_lenE {es : Array MapEntry} (h1 : es.toList.map (fun e => (e.key, e.val)) = m.map (fun p => (fk p.1, fv p.2))) : es.size = m.length := by
  have := congrArg List.length h1; simpa using this
theorem Q_lenM (hx : E.ev x = some (.map (some r))) (hl : MapOf H r κ ν fk fv m F) (hm : MapT P t kt et) : OpQ P n w0 ⟨d, .call ⟨.builtin .len, #[x], #[t]⟩, ty, pos, after, gu⟩ E H (.int .i64 (m.length : Int)) := fun a w s hs => by
  obtain ⟨es, clock, hat, h1, _, _, _⟩ := (hs.cast hl.eq).map_at
  have hsz := map_lenE h1
  simp [execOp, resolve, invoke, builtin, s.ev hx, Builtin.len_, run_underlying hm.eq, run_getObj_map hat, goInt, hsz]
theorem H_makeMap (fk : κ → Value) (fv : ν → Value) : OpH P n w0 ⟨d, .makeMap t none, ty, pos, after, gu⟩ E H (fun r => .map (some r)) (fun r => mp fk fv r [] * H) := by
  refine OpH.mk' (pre := emp) (post := fun r => mp fk fv r []) (fun G a w K Q s hs hK => ?_) emp_star.symm
  rw [emp_star] at hs
  simp [Oper.wp, execOp, Instr.makeMap, Oper.upon]
  exact hK w.heap.size _ (Sat.map_mk (hs.alloc (.map #[] 0)) (by simp) (by simp) (by simp))
theorem map_eraseIdx' {α β : Type} (f : α → β) : ∀ (l : List α) (i : Nat), (l.eraseIdx i).map f = (l.map f).eraseIdx i
  | [], i => by simp
  | x :: l, 0 => by simp
  | x :: l, i + 1 => by simp [map_eraseIdx' f l i]
theorem nodup_modify {es : Array MapEntry} {i : Nat} {f : MapEntry → MapEntry} (hf : ∀ e, (f e).born = e.born) : (es.modify i f).toList.map (·.born) = es.toList.map (·.born) := by
  apply List.ext_getElem?
  intro j
  simp only [List.getElem?_map, Array.getElem?_toList, Array.getElem?_modify]
  by_cases h : i = j
  · subst h; cases es[i]? <;> simp [hf]
  · simp [h]
theorem run_mapUpdate (w : World) {u : ν} (hm : P.underlying t = some (.map kt et)) [hk : KeyT P kt fk] (hs : Sat w0 w (mp fk fv r m * F)) :
    ∃ w', (Instr.mapUpdate t (.map (some r)) (fk k) (fv u)).run P w = .ok () w' ∧ Sat w0 w' (mp fk fv r (mset m k u) * F) := by
  obtain ⟨es, clock, hat, h1, h2, h3, hp⟩ := hs.map_at
  have hf := hk.find fv m k es.toList w h1
  cases hg : mfind m k with
  | none =>
    rw [hg] at hf
    simp only [Option.bind_none] at hf
    refine ⟨_, by simp [Instr.mapUpdate, run_underlying hm, run_getObj_map hat, hk.check, hf, run_setObj_map hat]; rfl, ?_⟩
    refine Sat.map_mk hp.setObj ?_ ?_ ?_
    · simp [mset, hg, h1]
    · simp only [Array.toList_push, List.map_append, List.map_cons, List.map_nil]
      refine List.nodup_append.2 ⟨h2, by simp, ?_⟩
      intro a ha b hb
      obtain ⟨e, he, rfl⟩ := List.mem_map.1 ha
      have := h3 e he
      simp at hb
      omega
    · intro e he
      simp only [Array.toList_push, List.mem_append, List.mem_cons, List.not_mem_nil, or_false] at he
      rcases he with he | rfl
      · exact Nat.lt_succ_of_lt (h3 e he)
      · exact Nat.lt_succ_self _
  | some i =>
    obtain ⟨v0, hv0⟩ := mfind_some hg
    rw [hg] at hf
    simp only [Option.bind_some, hv0, Option.map_some] at hf
    have hlt : i < es.size := by rw [map_lenE h1]; exact (List.getElem?_eq_some_iff.1 hv0).1
    have hkey : es[i].key = fk k := by
      have := congrArg (·[i]?) h1
      simp [hv0, hlt] at this
      exact this.1
    refine ⟨_, by simp [Instr.mapUpdate, run_underlying hm, run_getObj_map hat, hk.check, hf, hlt, hkey, Instr.keyThatStays, hk.same, run_setObj_map hat]; rfl, ?_⟩
    refine Sat.map_mk hp.setObj ?_ ?_ ?_
    · apply List.ext_getElem?
      intro j
      have hj := congrArg (·[j]?) h1
      simp only [mset, hg, List.getElem?_map, Array.getElem?_toList, Array.getElem?_modify, List.getElem?_set] at hj ⊢
      by_cases hij : i = j
      · subst hij
        have hlm : i < m.length := (List.getElem?_eq_some_iff.1 hv0).1
        simp [hlt, hlm]
      · simp only [hij, if_false]; exact hj
    · exact (nodup_modify (es := es) (i := i) (f := fun e => ⟨fk k, fv u, e.born⟩) (fun _ => rfl)).symm ▸ h2
    · intro e he
      have : e.born ∈ (es.modify i fun e => { e with key := fk k, val := fv u }).toList.map (·.born) := List.mem_map.2 ⟨e, he, rfl⟩
      have hnm := nodup_modify (es := es) (i := i) (f := fun e => ⟨fk k, fv u, e.born⟩) (fun _ => rfl)
      rw [show ((es.modify i fun e => { e with key := fk k, val := fv u }).toList.map (·.born)) = es.toList.map (·.born) from hnm] at this
      obtain ⟨e', he', hb⟩ := List.mem_map.1 this
      rw [← hb]; exact h3 e' he'
theorem H_mapUpdate {u : ν} {uv : Value} (hx : E.ev x = some (.map (some r))) (hy : E.ev y = some v) (hz : E.ev z' = some uv) (hl : MapOf H r κ ν fk fv m F) (hkk : AsKey fk v k) (hvv : AsKey fv uv u) (hm : MapT P t kt et) (hk : KeyT P kt fk) :
    OpH P n w0 ⟨none, .mapUpdate t x y z', ty, pos, after, gu⟩ E H (fun _ : Unit => undef) (fun _ => mp fk fv r (mset m k u) * F) := by
  obtain rfl := hkk.eq
  obtain rfl := hvv.eq
  refine OpH.mk' (pre := mp fk fv r m) (post := fun _ => mp fk fv r (mset m k u)) (fun G a w K Q s hs hK => ?_) hl.eq
  obtain ⟨w', hr, hs'⟩ := run_mapUpdate (k := k) (u := u) w hm.eq hs
  have := hK () w' hs'
  simp only [Act.put] at this
  simp only [Oper.wp, execOp, s.ev hx, s.ev hy, s.ev hz, Sem.run_bind, hr, Result.andThen_ok, Sem.run_pure, Oper.upon_skip]
  exact this
theorem H_delete {d : Option Tmp} (hx : E.ev x = some (.map (some r))) (hy : E.ev y = some v) (hl : MapOf H r κ ν fk fv m F) (hkk : AsKey fk v k) {t2 : TypeId} (hm : MapT P t kt et) (hk : KeyT P kt fk) :
    OpH P n w0 ⟨d, .call ⟨.builtin .delete, #[x, y], #[t, t2]⟩, ty, pos, after, gu⟩ E H (fun _ : Unit => .tuple #[]) (fun _ => mp fk fv r (mdel m k) * F) := by
  obtain rfl := hkk.eq
  refine OpH.mk' (pre := mp fk fv r m) (post := fun _ => mp fk fv r (mdel m k)) (fun G a w K Q s hs hK => ?_) hl.eq
  obtain ⟨es, clock, hat, h1, h2, h3, hp⟩ := hs.map_at
  have hf := hk.find fv m k es.toList w h1
  have key : ∃ w', (Builtin.delete_ #[t, t2] ty #[.map (some r), fk k]).run P w = .ok (.tuple #[]) w' ∧ Sat w0 w' (mp fk fv r (mdel m k) * G) := by
    cases hg : mfind m k with
    | none =>
      rw [hg] at hf
      simp only [Option.bind_none] at hf
      refine ⟨_, by simp [Builtin.delete_, run_underlying hm.eq, run_getObj_map hat, hk.check, hf, run_setObj_map hat]; rfl, ?_⟩
      exact Sat.map_mk hp.setObj (by simpa [mdel, hg] using h1) h2 h3
    | some i =>
      obtain ⟨v0, hv0⟩ := mfind_some hg
      rw [hg] at hf
      simp only [Option.bind_some, hv0, Option.map_some] at hf
      refine ⟨_, by simp [Builtin.delete_, run_underlying hm.eq, run_getObj_map hat, hk.check, hf, run_setObj_map hat]; rfl, ?_⟩
      have hE : (es.eraseIdxIfInBounds i).toList = es.toList.eraseIdx i := by simp [Array.eraseIdxIfInBounds]; split <;> simp_all [List.eraseIdx_of_length_le]
      refine Sat.map_mk hp.setObj ?_ ?_ ?_
      · rw [hE, map_eraseIdx', h1, ← map_eraseIdx']; simp [mdel, hg]
      · rw [hE, map_eraseIdx']; exact h2.sublist (List.eraseIdx_sublist _ _)
      · intro e he; rw [hE] at he; exact h3 e ((List.eraseIdx_sublist _ _).subset he)
  obtain ⟨w', hr, hs'⟩ := key
  simp only [Oper.wp, execOp, resolve, invoke, builtin, Sem.run_bind, Sem.run_pure, Result.andThen_ok, List.map_toArray, List.map_cons, List.map_nil, s.ev hx, s.ev hy, hr, Oper.upon_value]
  exact hK () w' hs'
end mapops
/-! ### Keys that are numbers -/
theorem find_int {κ ν : Type} [DecidableEq κ] {fk : κ → Value} {fv : ν → Value} {q q' : IntKind} (num : κ → Int) (hn : ∀ k, fk k = .int q (num k)) (hi : ∀ a b, num a = num b → a = b) (k : κ) : ∀ (m : List (κ × ν)) (es : List MapEntry) (i : Nat), es.map (fun e => (e.key, e.val)) = m.map (fun p => (fk p.1, fv p.2)) →
    Instr.findNow (.int q') (fk k) es i = some ((mfind m k).bind fun j => (m[j]?).map fun p => (i + j, fv p.2))
  | [], es, i, h => by
    have : es = [] := by simpa using h
    subst this; rfl
  | p :: m, [], i, h => by simp at h
  | p :: m, e :: es, i, h => by
    simp only [List.map_cons, List.cons.injEq, Prod.mk.injEq] at h
    obtain ⟨⟨h1, h2⟩, h3⟩ := h
    have ih := find_int (q' := q') num hn hi k m es (i + 1) h3
    simp only [Instr.findNow, h1, hn, Instr.sameNow, if_true]
    by_cases he : p.1 = k
    · subst he
      simp [mfind, h2]
    · have hne : (num k == num p.1) = false := by rw [beq_eq_false_iff_ne]; exact fun e => he (hi _ _ e.symm)
      rw [hne]
      simp only
      rw [← hn, ih]
      simp only [mfind, he, if_false]
      cases mfind m k with
      | none => rfl
      | some j => simp [Nat.add_assoc, Nat.add_comm 1 j]
theorem keyT_int {κ : Type} {fk : κ → Value} {kt : TypeId} {q : IntKind} (num : κ → Int) (hn : ∀ k, fk k = .int q (num k)) (hi : ∀ a b, num a = num b → a = b) (hu : P.underlying kt = some (.int q)) : KeyT P kt fk where
  check := fun empty k w => by rw [hn]; exact Go.MapKept.run_checkKey hu (show Go.MapKept.IsKey (.int q) (.int q (num k)) from rfl) empty 9999
  same := fun k => by rw [hn]; show ((q == q) && (num k == num k)) = true; simp
  find := fun fv m k es w h => by
    have := find_int (q' := q) num hn hi k m es 0 h
    simp only [Instr.findKey, Sem.run_bind, run_underlying hu, Result.andThen_ok, this, Sem.run_pure]
    cases mfind m k <;> simp
@[reducible] def i64 (n : Int) : Value := .int .i64 n
instance (kt : TypeId) [h : Und P kt (.int .i64)] : KeyT P kt i64 := keyT_int id (fun _ => rfl) (fun _ _ h => h) h.eq
instance (kt : TypeId) [h : Und P kt (.int .u32)] : KeyT P kt u32 := keyT_int (fun k => (k.toNat : Int)) (fun _ => rfl) (fun a b h => UInt32.toNat_inj.1 (by omega)) h.eq
instance (k : Int) : AsKey i64 (.int .i64 k) k := ⟨rfl⟩
instance (v : Value) (k : UInt32) [h : AsU32 v k] : AsKey u32 v k := ⟨h.eq⟩
instance (v : Value) (k : UInt64) [h : AsU64 v k] : AsKey u64 v k := ⟨h.eq⟩
end Go.Proofs.YtapoehkdnglahaaGreat

/- Shifts, bytes out of words, literals appended. No program in sight. -/
namespace Go.Proofs.YtapoehkdnglahaaGreat
open Go.RowKit
set_option linter.unusedVariables false
set_option linter.unusedSectionVars false
set_option linter.unusedSimpArgs false
variable {P : Program} {n : Frm} {w0 : World} {E : Env} {D : List Deferred} {H F F2 R : HProp}
section
variable {t : TypeId} {v u : Value}
theorem shr32 {x : UInt32} {q : IntKind} (k : Nat) (kk : UInt32) (h : kk.toNat = k) (hk : k < 32) : BinV P .shr t (u32 x) (.int q (k : Int)) (u32 (x >>> kk)) := by
  refine ⟨fun w => ?_, fun w _ _ => guard_int _ _ _ _ _ _ _ _ _⟩
  have hp : ((2 : Int) ^ k) = ((2 ^ k : Nat) : Int) := by simp
  have e : u32 (x >>> kk) = .int .u32 (((x.toNat : Int)).fdiv (2 ^ k)) := by
    refine (ofNat_u32 ?_).symm
    rw [UInt32.toNat_shiftRight, h, Nat.mod_eq_of_lt hk, Nat.shiftRight_eq_div_pow, hp, Int.fdiv_eq_ediv_of_nonneg _ (Int.natCast_nonneg _)]
    rfl
  rw [e]
  have h0 : ¬ ((k : Int) < 0) := by omega
  have hm : min k 32 = k := by omega
  show (Op.shift .shr .u32 (x.toNat : Int) q (k : Int)).run P w = _
  unfold Op.shift
  rw [if_neg h0]
  show Result.ok (Value.int .u32 ((x.toNat : Int).fdiv (2 ^ min (k : Int).toNat 32))) w = _
  rw [Int.toNat_natCast, hm]
instance {x : UInt32} : BinV P .shr t (u32 x) (.int .u64 24) (u32 (x >>> 24)) := shr32 24 24 rfl (by decide)
instance {x : UInt32} : BinV P .shr t (u32 x) (.int .u64 16) (u32 (x >>> 16)) := shr32 16 16 rfl (by decide)
instance {x : UInt32} : BinV P .shr t (u32 x) (.int .u64 8) (u32 (x >>> 8)) := shr32 8 8 rfl (by decide)
instance {x : UInt32} : BinV P .shr t (u32 x) (.int .u64 1) (u32 (x >>> 1)) := shr32 1 1 rfl (by decide)
end
theorem be_shr (x : UInt32) : be x = [(x >>> 24).toUInt8, (x >>> 16).toUInt8, (x >>> 8).toUInt8, x.toUInt8] := by
  have hx := x.toNat_lt
  have e : ∀ (k : Nat) (a : Nat) (kk : UInt32), kk.toNat = k → k < 32 → a % 256 = x.toNat / 2 ^ k % 256 → UInt8.ofNat a = (x >>> kk).toUInt8 := fun k a kk h1 h2 h => by
    rw [← UInt8.toNat_inj]
    simp only [UInt8.toNat_ofNat', UInt32.toNat_toUInt8, UInt32.toNat_shiftRight, h1, Nat.mod_eq_of_lt h2, Nat.shiftRight_eq_div_pow]
    exact h
  unfold be
  congr 1
  · exact e 24 _ 24 rfl (by decide) rfl
  · congr 1
    · exact e 16 _ 16 rfl (by decide) (by simp)
    · congr 1
      · exact e 8 _ 8 rfl (by decide) (by simp)
      · congr 1
        rw [← UInt8.toNat_inj]; simp
/-- Cells that are a list of bytes. -/
class Bytes (cs : List Value) (l : outParam (List UInt8)) : Prop where eq : cs = l.flatMap byteC
instance : Bytes [] [] := ⟨rfl⟩
instance (z : List Value) : Bytes (List.append [] (zeroRow z 0)) [] := ⟨rfl⟩
instance (v : Value) (cs : List Value) (b : UInt8) (l : List UInt8) [h : AsU8 v b] [h2 : Bytes cs l] : Bytes (v :: cs) (b :: l) := ⟨by rw [h.eq, h2.eq]; rfl⟩
section
variable {d : Option Tmp} {ty : TypeId} {pos : String} {after : Array Edge} {gu : Option (Nat × Bool)} {x y : Operand}
theorem Q_conv32_8 {src t : TypeId} {v : Value} {a : UInt32} {ds : TypeDesc} (hx : E.ev x = some v) (hv : AsU32 v a) (hs : Und P src ds) (hd : Und P t (.int .u8)) : OpQ P n w0 ⟨d, .convert src t x, ty, pos, after, gu⟩ E H (u8 a.toUInt8) := by
  obtain ⟨rfl⟩ := hv
  exact Q_convI hx hs hd (by have := a.toNat_lt; rw [wrap_u8]; simp)
/-- A literal of an array. -/
theorem Q_buildA {t e : TypeId} {len size : Nat} {parts : List (Nat × Operand)} {vs : List (Nat × Value)} {z : Value} {zs cs : List Value} (ht : Und P t (.array len e)) (hs : Siz P e size) (hz : Zero P t z zs) (hv : E.partsV parts = some vs) (hb : bsL size zs vs = some cs) :
    OpQ P n w0 ⟨d, .build t parts.toArray, ty, pos, after, gu⟩ E H (.agg cs.toArray) := fun a w s hs' => by
  obtain ⟨it, hit, hit2⟩ := Option.map_eq_some_iff.1 hz.eq
  obtain ⟨ie, hie, his⟩ := Option.map_eq_some_iff.1 hs.eq
  have e1 := s.partsV hv
  have e2 : (parts.toArray.map fun (i, x) => (i, a.eval x)).toList = vs := by simpa using e1
  have h := run_build (P := P) w t (parts.toArray.map fun (i, x) => (i, a.eval x)) cs.toArray (by
    rw [e2]
    simp only [Program.built, hit, ht.eq, hit2, hie, his]
    rw [cellsL_eq, hz.cells]
    exact fill_bs size vs zs cs hb)
  simp only [execOp, Sem.run_bind, h, Result.andThen_ok, Sem.run_pure]
theorem OpH.weak {o : Oper} {α β : Type} {v : α → Value} {post : α → HProp} {v' : β → Value} {post' : β → HProp} (h : OpH P n w0 o E H v post) (hw : ∀ x, ∃ y, v x = v' y ∧ Ent (post x) (post' y)) : OpH P n w0 o E H v' post' := by
  obtain ⟨pre, post0, F, hT, hH, he⟩ := h
  refine ⟨H, post', emp, fun G a w K Q s hs hK => ?_, star_emp.symm, fun _ => star_emp.symm⟩
  refine hT (F * G) a w K Q s (hs.cast (by rw [hH, star_assoc])) fun x w' hs' => ?_
  obtain ⟨y, e1, e2⟩ := hw x
  rw [e1]
  refine hK y w' ((Ent.star e2 (Ent.refl G)).sat (hs'.cast (by rw [he, star_assoc])))
/-- A literal of bytes, as a slice of data. -/
theorem H_buildB {t e : TypeId} {len : Nat} {parts : List (Nat × Operand)} {vs : List (Nat × Value)} {zs cs : List Value} {ys : List UInt8} (ht : Und P t (.slice e)) (hz : Zero P e (u8 0) zs) (hs : Siz P e 1) (hl : Nat.beq zs.length 1 = true) (hsm : Nat.ble (len * 1) 16777216 = true) (hpos : Nat.blt 0 (len * 1) = true) (hv : E.partsV parts = some vs) (hb : bsL 1 (zeroRow zs len) vs = some cs) (hc : Bytes cs ys) (hm : ys.length = len) (hmax : Nat.ble len 1000000 = true) :
    OpH P n w0 ⟨d, .buildSlice t len parts.toArray, ty, pos, after, gu⟩ E H (fun v' : Value => v') (fun v' => rows e 1 byteC v' ys * H) :=
  (H_buildSlice ht hz hs hl hsm hpos hv hb).weak fun g => ⟨_, rfl, Ent.rows_new ys hc.eq hm (Nat.le_of_ble_eq_true hmax)⟩
/-- All elements of a slice that is not used further. -/
theorem H_appendD {α : Type} {t e : TypeId} {size bytes : Nat} {f f' : α → List Value} {v u : Value} {l ys : List α} (hx : E.ev x = some v) (hy : E.ev y = some u) (hl : RowsOf H v α e size f l F) (hl2 : RowsOf F u α e size f' ys F2) (hff : f' = f) (hT : SlTC P t e size bytes) (hf : FixLen f size) (h1 : ∀ z, ∀ c ∈ f z, c.oneCell' = true) (hn : l.length + ys.length ≤ 1000000) (hby : Nat.ble bytes 1000 = true) :
    OpH P n w0 ⟨d, .call ⟨.builtin .append, #[x, y], #[t, t]⟩, ty, pos, after, gu⟩ E H (fun v' : Value => v') (fun v' => rows e size f v' (l ++ ys) * F2) :=
  (H_appendR hx hy hl hl2 hff hT hf h1 hn hby).weak fun v' => ⟨v', rfl, Ent.star (Ent.refl _) (Ent.drop _ _)⟩
/-- A call that takes one slice. -/
theorem H_callR {f : FuncId} {args : List Value} {α β : Type} {e : TypeId} {size : Nat} {fc : β → List Value} {v : Value} {l : List β} {res : α → Value} {post : α → HProp} {xs : List Operand} {ts : Array TypeId} (hf : IsFun P f) (hargs : E.evs xs = some args) (spec : Spec P w0 f args (rows e size fc v l) res post) (hl : RowsOf H v β e size fc l F) :
    OpH P n w0 ⟨d, .call ⟨.value (.func f), xs.toArray, ts⟩, ty, pos, after, gu⟩ E H res (fun x => post x * F) := OpH.mk' (T_call hf hargs spec) hl.eq
/-- A list in another order. -/
class Nth (l : List Oper) (i : Nat) (o : outParam Oper) : Prop where eq : l[i]? = some o
instance nth_zero (o : Oper) (l : List Oper) : Nth (o :: l) 0 o := ⟨rfl⟩
instance nth_succ (a o : Oper) (l : List Oper) (i : Nat) [h : Nth l i o] : Nth (a :: l) (i + 1) o := ⟨h.eq⟩
class Perm (l : List Oper) (idx : List Nat) (l' : outParam (List Oper)) : Prop where eq : idx.map (l[·]?) = l'.map some
instance perm_nil (l : List Oper) : Perm l [] [] := ⟨rfl⟩
instance perm_cons (l l' : List Oper) (i : Nat) (r : List Nat) (o : Oper) [h : Nth l i o] [h2 : Perm l r l'] : Perm l (i :: r) (o :: l') := ⟨by simp only [List.map_cons, h.eq, h2.eq]⟩
/-- An assertion that stands somewhere in another. -/
class Own (H X : HProp) (F : outParam HProp) : Prop where eq : H = X * F
instance own_head (X F : HProp) : Own (X * F) X F := ⟨rfl⟩
instance (priority := low) own_tail (Y X H F : HProp) [h : Own H X F] : Own (Y * H) X (Y * F) := ⟨by rw [h.eq, star_left_comm]⟩
instance (priority := low) own_left (Y X H F : HProp) [h : Own Y X F] : Own (Y * H) X (F * H) := ⟨by rw [h.eq, star_assoc]⟩
instance own_self (X : HProp) : Own X X emp := ⟨star_emp.symm⟩
instance (priority := low) own_emp (H : HProp) : Own H emp H := ⟨emp_star.symm⟩
theorem DL_nilE {ops : Array Oper} {Q : Exit → St → Prop} {B : Nat → Bool} {k cp : Nat} (h : Q .normal ⟨E, D, R * F⟩) : DL P n w0 ops Q D R emp B cp k false [] E F := .nil (by simp only [hp, cond_false]; rw [emp_star]) h
/-- The same, with a block that is only read. -/
theorem WS_drawC {Q : Exit → St → Prop} {l l' : List Oper} {id g : Nat} {t : TypeId} {cs : List Value} (idx : List Nat) (hs : statD P l idx (fun _ => false) 1000 = true) (hl : Perm l idx l') (h : DL P n w0 l.toArray Q D (cel g t cs) emp (fun _ => false) 1000 0 false l' E F) : WS P n w0 (.region id l.toArray true) Q ⟨E, D, cel g t cs * F⟩ :=
  WS_draw idx l' (cel g t cs) emp F _ 1000 hs (by rw [emp_star]) hl.eq h
theorem Ent.take {X F' : HProp} [h : Own H X F] (r : Ent F F') : Ent H (X * F') := by rw [h.eq]; exact Ent.tail _ r
theorem Ent.takeR {α : Type} {e : TypeId} {size : Nat} {f : α → List Value} {v : Value} {l l' : List α} {F' : HProp} [h : RowsOf H v α e size f l F] (hl : l = l') (r : Ent F F') : Ent H (rows e size f v l' * F') := by rw [h.eq, hl]; exact Ent.tail _ r
theorem Ent.last {X : HProp} [h : Own H X F] : Ent H X := by rw [h.eq, star_comm]; exact Ent.drop _ _
theorem H_callX {f : FuncId} {args : List Value} {α : Type} {X : HProp} {res : α → Value} {post : α → HProp} {xs : List Operand} {ts : Array TypeId} (hf : IsFun P f) (hargs : E.evs xs = some args) (spec : Spec P w0 f args X res post) (hl : Own H X F) :
    OpH P n w0 ⟨d, .call ⟨.value (.func f), xs.toArray, ts⟩, ty, pos, after, gu⟩ E H res (fun x => post x * F) := OpH.mk' (T_call hf hargs spec) hl.eq
end
/-! ### Results -/
def readR (r : ResultVar) (a : Act) : Sem Value := match r with
  | .tmp t => pure (a.tmps.getD t undef)
  | .cell b t => do loadVar t (← asAddr (a.tmps.getD b undef))
def RV (P : Program) (n : Frm) (w0 : World) (E : Env) (H : HProp) (r : ResultVar) (v : Value) : Prop := ∀ a w, Sees n E a → Sat w0 w H → (readR r a).run P w = .ok v w
theorem RV_tmp {t : Nat} {v : Value} (h : E.get t = some v) : RV P n w0 E H (.tmp t) v := fun a w s hs => by
  show Result.ok (a.tmps.getD t undef) w = _
  rw [s.get t v h]
theorem RV_cell {b g off size : Nat} {t bt : TypeId} {cs vs : List Value} (hx : E.get b = some (ptr g off)) (hl : LimbB H g bt cs F) (ht : Aggr P t size) (hv : takeL cs off size = some vs) : RV P n w0 E H (.cell b t) (.agg vs.toArray) := fun a w s hs => by
  obtain ⟨hle, hvs⟩ := takeL_eq hv
  have hlen : vs.length = size := by rw [hvs]; simp; omega
  have hc : ∀ j u, vs[j]? = some u → w.cell? ((⟨g, off, none⟩ : Addr).add j) = some u := fun j u hu => by
    have hj : j < size := by rw [← hlen]; exact (List.getElem?_eq_some_iff.1 hu).1
    rw [add_lit, Sat.cell (hs.cast hl.eq)]
    rw [hvs, List.getElem?_take, if_pos hj, List.getElem?_drop] at hu
    simpa using hu
  have hd := ht.ok
  obtain ⟨dd, hdd⟩ : ∃ dd, P.underlying t = some dd := by
    cases hu : P.underlying t with
    | none => rw [hu] at hd; cases hd
    | some dd => exact ⟨dd, rfl⟩
  rw [hdd] at hd
  have hagg : (isAgg t).run P w = .ok true w := by
    simp only [isAgg, Sem.run_bind, run_underlying hdd, Result.andThen_ok]
    cases dd <;> simp_all [aggD]
  obtain ⟨i, hi, hi2⟩ := Option.map_eq_some_iff.1 ht.size
  have hz : (sizeOf t).run P w = .ok size w := by simp [sizeOf, typeInfo, hi, hi2]
  have hr := run_loadCells_list (P := P) (w := w) ⟨g, off, none⟩ vs hc
  rw [hlen] at hr
  show (do loadVar t (← asAddr (a.tmps.getD b undef)) : Sem Value).run P w = _
  rw [s.get b _ hx]
  simp [asAddr, loadVar, hagg, hz, hr]
theorem RV_cellS {b g off : Nat} {t bt : TypeId} {cs : List Value} {v : Value} (hx : E.get b = some (ptr g off)) (hl : LimbB H g bt cs F) (ht : Scal P t) (hv : getL cs off = some v) : RV P n w0 E H (.cell b t) v := fun a w s hs => by
  have h := Q_load (P := P) (n := n) (w0 := w0) (H := H) (x := .tmp b) (d := none) (ty := 0) (pos := "") (after := #[]) (gu := none) (t := t) hx hl ht hv a w s hs
  show (do loadVar t (← asAddr (a.tmps.getD b undef)) : Sem Value).run P w = _
  rw [s.get b _ hx]
  have he : a.eval (.tmp b) = ptr g off := s.get b _ hx
  simp only [execOp, he, Instr.loadAt, Instr.sureAddr, Sem.run_bind, Sem.run_pure, Result.andThen_ok] at h
  cases hr : (loadVar t ⟨g, off, none⟩).run P w with
  | ok u w' =>
    rw [hr] at h
    simp only [Result.andThen_ok, Sem.run_pure] at h
    cases h
    simp [asAddr, hr]
  | halt x w' => rw [hr] at h; cases h
theorem results_1 {fn : Func} {r : ResultVar} {a : Act} {w : World} {v : Value} (hr : fn.results = #[r]) (h : (readR r a).run P w = .ok v w) : (results fn a.tmps).run P w = .ok v w := by
  have e : results fn a.tmps = readR r a := by
    unfold results; rw [hr]
    cases r <;> simp [readR]
  rw [e, h]
theorem results_2 {fn : Func} {r r2 : ResultVar} {a : Act} {w : World} {v v2 : Value} (hr : fn.results = #[r, r2]) (h : (readR r a).run P w = .ok v w) (h2 : (readR r2 a).run P w = .ok v2 w) : (results fn a.tmps).run P w = .ok (.tuple #[v, v2]) w := by
  have e : results fn a.tmps = (do let v ← readR r a; let v2 ← readR r2 a; pure (.tuple #[v, v2])) := by
    unfold results; rw [hr]
    cases r <;> cases r2 <;> simp [readR]
  rw [e]
  simp only [Sem.run_bind, h, h2, Result.andThen_ok, Sem.run_pure]
theorem results_3 {fn : Func} {r r2 r3 : ResultVar} {a : Act} {w : World} {v v2 v3 : Value} (hr : fn.results = #[r, r2, r3]) (h : (readR r a).run P w = .ok v w) (h2 : (readR r2 a).run P w = .ok v2 w) (h3 : (readR r3 a).run P w = .ok v3 w) : (results fn a.tmps).run P w = .ok (.tuple #[v, v2, v3]) w := by
  have e : results fn a.tmps = (do let v ← readR r a; let v2 ← readR r2 a; let v3 ← readR r3 a; pure (.tuple #[v, v2, v3])) := by
    unfold results; rw [hr]
    cases r <;> cases r2 <;> cases r3 <;> simp [readR]
  rw [e]
  simp only [Sem.run_bind, h, h2, h3, Result.andThen_ok, Sem.run_pure]
section
variable {fn : Func} {R : Value → HProp → Prop} {r r2 r3 : ResultVar} {v v2 v3 : Value}
theorem ret_1 {e : Exit} (he : e = .ret ∨ e = .normal) (hr : fn.results = #[r]) (h1 : RV P n w0 E H r v) (h : R v H) : retS P n w0 fn R e ⟨E, [], H⟩ := by
  rcases he with rfl | rfl <;> exact ⟨rfl, v, fun a w g => results_1 hr (h1 a w g.sees g.sat), h⟩
theorem ret_2 {e : Exit} (he : e = .ret ∨ e = .normal) (hr : fn.results = #[r, r2]) (h1 : RV P n w0 E H r v) (h2 : RV P n w0 E H r2 v2) (h : R (.tuple #[v, v2]) H) : retS P n w0 fn R e ⟨E, [], H⟩ := by
  rcases he with rfl | rfl <;> exact ⟨rfl, _, fun a w g => results_2 hr (h1 a w g.sees g.sat) (h2 a w g.sees g.sat), h⟩
theorem ret_3 {e : Exit} (he : e = .ret ∨ e = .normal) (hr : fn.results = #[r, r2, r3]) (h1 : RV P n w0 E H r v) (h2 : RV P n w0 E H r2 v2) (h3 : RV P n w0 E H r3 v3) (h : R (.tuple #[v, v2, v3]) H) : retS P n w0 fn R e ⟨E, [], H⟩ := by
  rcases he with rfl | rfl <;> exact ⟨rfl, _, fun a w g => results_3 hr (h1 a w g.sees g.sat) (h2 a w g.sees g.sat) (h3 a w g.sees g.sat), h⟩
end
/-- A nil slice can be read. -/
theorem rdr_nil (H : HProp) {α : Type} (size : Nat) (f : α → List Value) : Rdr w0 H (.slice none 0 0) α size f [] := ⟨fun w hs => ⟨⟨none, 0, rfl, Nat.zero_le _, Nat.zero_le _⟩, fun k hk => by simp at hk⟩⟩
end Go.Proofs.YtapoehkdnglahaaGreat

/- Parts of slices, slices that are made, the forms of slice values, assertions with an 'exists', regions that only read. No program in sight. -/
namespace Go.Proofs.YtapoehkdnglahaaGreat
open Go.RowKit
set_option linter.unusedVariables false
set_option linter.unusedSimpArgs false
set_option linter.unusedSectionVars false
variable {P : Program} {n : Frm} {w0 : World} {E : Env} {D : List Deferred} {H F F2 R : HProp} {ops : Array Oper} {l' : List Oper} {Q : Exit → St → Prop} {w : World}
/-- v[:k] -/
def sHead (v : Value) (k : Nat) : Value := match v with
  | .slice A m c => .slice A (min k m) c
  | v => v
/-- v[k:], elements of so many cells. -/
def sTail (size : Nat) (v : Value) (k : Nat) : Value := match v with
  | .slice A m c => sliced A (min k m) m c size
  | v => v
section
variable {α : Type} {e : TypeId} {size : Nat} {f : α → List Value} {v : Value} {l : List α}
theorem RowsAt.head (h : RowsAt w size f v l) (k : Nat) : RowsAt w size f (sHead v k) (l.take k) := by
  obtain ⟨A, c, rfl, h1, h2⟩ := h.form
  refine ⟨⟨A, c, by simp [sHead, List.length_take], by simp; omega, h2⟩, fun j hj => ?_⟩
  have hj' : j < l.length := by simp at hj; omega
  obtain ⟨g, off, cap, hv, hc⟩ := h.cell j hj'
  injection hv with e1 e2 e3
  subst e1
  refine ⟨g, off, c, by simp [sHead, List.length_take], fun i u hi hu => hc i u hi ?_⟩
  simpa using hu
theorem RowsAt.tail (h : RowsAt w size f v l) (k : Nat) : RowsAt w size f (sTail size v k) (l.drop k) := by
  obtain ⟨A, c, rfl, h1, h2⟩ := h.form
  refine ⟨⟨_, _, by simp only [sTail, sliced]; congr 1; simp; omega, by simp; omega, by omega⟩, fun j hj => ?_⟩
  have hj' : k + j < l.length := by simp at hj; omega
  obtain ⟨g, off, cap, hv, hc⟩ := h.cell (k + j) hj'
  injection hv with e1 e2 e3
  subst e1
  have hmin : min k l.length = k := by omega
  refine ⟨g, off + k * size, c - k, ?_, fun i u hi hu => ?_⟩
  · simp only [sTail, sliced, hmin]
    rw [if_neg (by omega)]
    simp [add_lit]
  · have := hc i u hi (by simpa using hu)
    rwa [Nat.add_mul, Nat.add_assoc (k * size), ← Nat.add_assoc off] at this
instance rdr_head (k : Nat) [h : Rdr w0 H v α size f l] : Rdr w0 H (sHead v k) α size f (l.take k) := ⟨fun w hs => (h.at_ w hs).head k⟩
instance rdr_tail' (k : Nat) [h : Rdr w0 H v α size f l] : Rdr w0 H (sTail size v k) α size f (l.drop k) := ⟨fun w hs => (h.at_ w hs).tail k⟩
variable {d : Option Tmp} {ty : TypeId} {pos : String} {after : Array Edge} {gu : Option (Nat × Bool)} {x y z : Operand}
theorem Q_sliceR_h {t e2 : TypeId} {q : IntKind} {i : Int} {k : Nat} (hx : E.ev x = some v) (hy : E.ev y = some (.int q i)) (hl : Rdr w0 H v α size f l) (ht : Und P t (.slice e2)) (hs2 : Siz P e2 size) (hi : AsNat i k) (hk : k ≤ l.length) :
    OpQ P n w0 ⟨d, .slice t x none (some y) none, ty, pos, after, gu⟩ E H (sHead v k) := fun a w s hs => by
  obtain ⟨A, c, rfl, h1, h2⟩ := (hl.at_ w hs).form
  obtain ⟨i0, hi0, hi1⟩ := Option.map_eq_some_iff.1 hs2.eq
  obtain rfl := hi.eq
  have hel : P.elem t = e2 := by simp [Program.elem, ht.eq]
  have ht' : P.underlying t = some (.slice (P.elem t)) := by rw [ht.eq, hel]
  have hr := run_slice_h (P := P) (w := w) t A l.length c ht' q (k : Int) (by omega) (by omega)
  have hmin : min k l.length = k := by omega
  have hz : (sizeOf e2).run P w = .ok size w := by simp [sizeOf, typeInfo, hi0, hi1]
  rw [hel, hz] at hr
  have hA : (if c = 0 then A else A.map (·.add (0 * size))) = A := by
    split
    · rfl
    · cases A with
      | none => rfl
      | some a => simp; unfold Addr.add; cases a; simp
  simp only [execOp, s.ev hx, s.ev hy, Option.map_some, Option.map_none, run_sliceAt_slice w t _ _ _ _ ht', Sem.run_bind, hr, Result.andThen_ok, Sem.run_pure, Int.toNat_natCast, sHead, hmin, sliced, hA, Nat.sub_zero]
theorem Q_sliceR_l {t e2 : TypeId} {q : IntKind} {i : Int} {k : Nat} (hx : E.ev x = some v) (hy : E.ev y = some (.int q i)) (hl : Rdr w0 H v α size f l) (ht : Und P t (.slice e2)) (hs2 : Siz P e2 size) (hi : AsNat i k) (hk : k ≤ l.length) :
    OpQ P n w0 ⟨d, .slice t x (some y) none none, ty, pos, after, gu⟩ E H (sTail size v k) := fun a w s hs => by
  obtain ⟨A, c, rfl, h1, h2⟩ := (hl.at_ w hs).form
  obtain ⟨i0, hi0, hi1⟩ := Option.map_eq_some_iff.1 hs2.eq
  obtain rfl := hi.eq
  have hel : P.elem t = e2 := by simp [Program.elem, ht.eq]
  have ht' : P.underlying t = some (.slice (P.elem t)) := by rw [ht.eq, hel]
  have hr := run_slice_l (P := P) (w := w) t A l.length c ht' q (k : Int) (by omega) (by omega)
  have hmin : min k l.length = k := by omega
  have hz : (sizeOf e2).run P w = .ok size w := by simp [sizeOf, typeInfo, hi0, hi1]
  rw [hel, hz] at hr
  simp only [execOp, s.ev hx, s.ev hy, Option.map_some, Option.map_none, run_sliceAt_slice w t _ _ _ _ ht', Sem.run_bind, hr, Result.andThen_ok, Sem.run_pure, Int.toNat_natCast, sTail, hmin]
/-- The head of a slice that is owned; the tail. -/
theorem Ent.headR (k : Nat) [h : RowsOf H v α e size f l F] [hf : FixLen f size] : Ent H (rows e size f (sHead v k) (l.take k) * F) := by
  rw [h.eq]
  refine Ent.star (fun x hx => ⟨x, ?_, fun _ _ e => e⟩) (Ent.refl _)
  obtain ⟨hlen, hc⟩ := hx
  refine ⟨flatMap_length f size hf.eq _, ?_⟩
  have hle : min k l.length ≤ l.length := Nat.min_le_right _ _
  rcases hc with ⟨A, rfl, h0, hn⟩ | ⟨g, off, cap, cur, fr, rfl, h1, h2, h3, h4, h5, h6⟩
  · left; exact ⟨A, by simp [sHead], by rw [List.length_take]; omega, hn⟩
  · right
    refine ⟨g, off, cap, cur, fr, by simp [sHead, List.length_take], by simp; omega, h2, h3, ?_, h5, h6⟩
    have hm : min k l.length * size ≤ l.length * size := Nat.mul_le_mul_right _ hle
    have e1 : ∀ (k : Nat) (l : List α), (l.take k).flatMap f = (l.flatMap f).take (min k l.length * size) := by
      intro k l
      induction l generalizing k with
      | nil => simp
      | cons a l ih =>
        cases k with
        | zero => simp
        | succ k =>
          have : min (k + 1) (a :: l).length * size = (f a).length + min k l.length * size := by
            rw [hf.eq, List.length_cons, show min (k + 1) (l.length + 1) = min k l.length + 1 by omega, Nat.succ_mul]; omega
          simp only [List.take_succ_cons, List.flatMap_cons, ih, this, List.take_length_add_append]
    rw [e1, ← h4, List.take_take, List.length_take, Nat.min_eq_left hm]
theorem Ent.tailR (k : Nat) (hk : k ≤ l.length) [h : RowsOf H v α e size f l F] [hf : FixLen f size] : Ent H (rows e size f (sTail size v k) (l.drop k) * F) := by
  rw [h.eq]
  refine Ent.star (fun x hx => ?_) (Ent.refl _)
  obtain ⟨hlen, hc⟩ := hx
  rcases hc with ⟨A, rfl, h0, hn⟩ | ⟨g, off, cap, cur, fr, rfl, h1, h2, h3, h4, h5, h6⟩
  · refine ⟨x, ⟨flatMap_length f size hf.eq _, .inl ⟨A, by simp [sTail, sliced], by simp; omega, hn⟩⟩, fun _ _ e => e⟩
  · have hmin : min k l.length = k := by omega
    have hdrop : ∀ (k : Nat) (l : List α), k ≤ l.length → (l.drop k).flatMap f = (l.flatMap f).drop (k * size) := by
      intro k l hk
      induction l generalizing k with
      | nil => simp
      | cons a l ih =>
        cases k with
        | zero => simp
        | succ k =>
          have : (k + 1) * size = (f a).length + k * size := by rw [hf.eq, Nat.succ_mul]; omega
          simp only [List.drop_succ_cons, List.flatMap_cons, ih k (by simpa using hk), this, List.drop_length_add_append]
    by_cases hcap : cap = k
    · refine ⟨fun _ => none, ⟨flatMap_length f size hf.eq _, .inl ⟨some ⟨g, off, none⟩, ?_, by simp; omega, fun _ => rfl⟩⟩, fun _ _ e => by cases e⟩
      simp only [sTail, sliced, hmin]
      rw [if_pos hcap]
      congr 1 <;> omega
    · refine ⟨x, ⟨flatMap_length f size hf.eq _, .inr ⟨g, off + k * size, cap - k, cur, fr, ?_, by simp; omega, by omega, ?_, ?_, ?_, h6⟩⟩, fun _ _ e => e⟩
      · simp only [sTail, sliced, hmin]
        rw [if_neg hcap]
        simp [add_lit]
      · have : (cap - k) * size = cap * size - k * size := Nat.sub_mul _ _ _
        have : k * size ≤ cap * size := Nat.mul_le_mul_right _ (by omega)
        omega
      · rw [hdrop k l hk, ← h4, List.drop_take, List.drop_drop, List.length_drop, Nat.sub_mul]
      · intro i hi1 hi2
        have : (cap - k) * size = cap * size - k * size := Nat.sub_mul _ _ _
        have : k * size ≤ cap * size := Nat.mul_le_mul_right _ (by omega)
        exact h5 i (by omega) (by omega)
/-- A slice's form, as a fact. -/
theorem WS_form {c : Code} (v : Value) (hl : RowsOf H v α e size f l F) (h : ∀ A cap, v = .slice A l.length cap → WS P n w0 c Q ⟨E, D, H⟩) : WS P n w0 c Q ⟨E, D, H⟩ := fun a w g => by
  obtain ⟨A, cap, hv⟩ := rows_form (g.sat.cast hl.eq)
  exact h A cap hv a w g
theorem LS_form (v : Value) (hl : RowsOf H v α e size f l F) (h : ∀ A cap, v = .slice A l.length cap → LS P n w0 ops Q l' ⟨E, D, H⟩) : LS P n w0 ops Q l' ⟨E, D, H⟩ := fun a w g => by
  obtain ⟨A, cap, hv⟩ := rows_form (g.sat.cast hl.eq)
  exact h A cap hv a w g
theorem WS_some {c : Code} (v : Value) (hl : RowsOf H v α e size f l F) (hf : FixLen f size) (hp : Nat.blt 0 size = true) (hk : 0 < l.length) (h : ∀ g off cap, v = .slice (some ⟨g, off, none⟩) l.length cap → WS P n w0 c Q ⟨E, D, H⟩) : WS P n w0 c Q ⟨E, D, H⟩ := fun a w g => by
  obtain ⟨g', off, cap, hv, _⟩ := rows_cell (by simpa using hp) (g.sat.cast hl.eq) hk
  exact h g' off cap hv a w g
/-- The address of an element, the slice's form known. -/
theorem Q_indexV {t e2 : TypeId} {q : IntKind} {i : Int} {k m g off cap : Nat} (hx : E.ev x = some (.slice (some ⟨g, off, none⟩) m cap)) (hy : E.ev y = some (.int q i)) (ht : Und P t (.slice e2)) (hs2 : Siz P e2 size) (hi : AsNat i k) (hk : k < m) :
    OpQ P n w0 ⟨d, .indexAddr t x y, ty, pos, after, gu⟩ E H (eptr (.slice (some ⟨g, off, none⟩) m cap) size k 0) := fun a w s hs => by
  obtain ⟨i0, hi0, hi1⟩ := Option.map_eq_some_iff.1 hs2.eq
  obtain rfl := hi.eq
  have hel : P.elem t = e2 := by simp [Program.elem, ht.eq]
  have h := run_indexAt_slice (P := P) w t ⟨g, off, none⟩ m cap q (k : Int) (by rw [ht.eq, hel])
  rw [if_pos ⟨by omega, by omega⟩, hel] at h
  simp [execOp, s.ev hx, s.ev hy, h, sizeOf, typeInfo, hi0, hi1, eptr]
end
instance own_star (H A B F1 F : HProp) [h1 : Own H A F1] [h2 : Own F1 B F] : Own H (A * B) F := ⟨by rw [h1.eq, h2.eq, star_assoc]⟩
instance asNat_mul (i j : Int) (k m : Nat) [a : AsNat i k] [b : AsNat j m] : AsNat (i * j) (k * m) := ⟨by rw [a.eq, b.eq]; simp⟩
instance limbB_bare (g : Nat) (t : TypeId) (cs : List Value) : LimbB (cel g t cs) g t cs emp := ⟨star_emp.symm⟩
instance rowsOf_bare {α : Type} (e : TypeId) (size : Nat) (f : α → List Value) (v : Value) (l : List α) : RowsOf (rows e size f v l) v α e size f l emp := ⟨star_emp.symm⟩
instance mapOf_bare {κ ν : Type} (fk : κ → Value) (fv : ν → Value) (r : Nat) (m : List (κ × ν)) : MapOf (mp fk fv r m) r κ ν fk fv m emp := ⟨star_emp.symm⟩
/-! ### Values of one cell -/
class OneV (v : Value) : Prop where ok : v.oneCell' = true
class One (w0 : World) (H : HProp) (v : Value) : Prop where ok : ∀ w, Sat w0 w H → v.oneCell' = true
instance one_v {v : Value} [h : OneV v] : One w0 H v := ⟨fun _ _ => h.ok⟩
instance {k : IntKind} {m : Int} : OneV (.int k m) := ⟨rfl⟩
instance {b : Bool} : OneV (.bool b) := ⟨rfl⟩
instance {b : ByteArray} : OneV (.string b) := ⟨rfl⟩
instance {a : Option Addr} : OneV (.pointer a) := ⟨rfl⟩
instance {a : Option Addr} {m c : Nat} : OneV (.slice a m c) := ⟨rfl⟩
instance {m : Option Nat} : OneV (.map m) := ⟨rfl⟩
instance {f : Fn} {a b : Array Value} : OneV (.func f a b) := ⟨rfl⟩
instance : OneV .nilFunc := ⟨rfl⟩
instance {x : UInt8} : OneV (u8 x) := ⟨rfl⟩
instance {x : UInt32} : OneV (u32 x) := ⟨rfl⟩
instance {x : UInt64} : OneV (u64 x) := ⟨rfl⟩
instance (priority := low) one_rows {α : Type} {e : TypeId} {size : Nat} {f : α → List Value} {v : Value} {l : List α} {F : HProp} [h : RowsOf H v α e size f l F] : One w0 H v := ⟨fun w hs => by
  obtain ⟨A, c, rfl⟩ := rows_form (hs.cast h.eq); rfl⟩
instance (priority := low) one_rdr {α : Type} {size : Nat} {f : α → List Value} {v : Value} {l : List α} [h : Rdr w0 H v α size f l] : One w0 H v := ⟨fun w hs => by
  obtain ⟨A, c, rfl, _⟩ := (h.at_ w hs).form; rfl⟩
class OneL (w0 : World) (H : HProp) (vs : List Value) : Prop where ok : ∀ w, Sat w0 w H → ∀ u ∈ vs, u.oneCell' = true
instance oneL_nil : OneL w0 H [] := ⟨fun _ _ u hu => by cases hu⟩
instance oneL_cons {v : Value} {vs : List Value} [h1 : One w0 H v] [h2 : OneL w0 H vs] : OneL w0 H (v :: vs) := ⟨fun w hs u hu => by
  rcases List.mem_cons.1 hu with rfl | hu
  · exact h1.ok w hs
  · exact h2.ok w hs u hu⟩
theorem OpH.whole {o : Oper} {α : Type} {v : α → Value} {post : α → HProp} (h : ∀ G a w (K : Act → World → Prop) (Q : Exit → Act → World → Prop), Sees n E a → Sat w0 w (H * G) → (∀ x w', Sat w0 w' (post x * G) → K (a.put o.dst (v x)) w') → o.wp P a w K Q) : OpH P n w0 o E H v post :=
  ⟨H, post, emp, h, star_emp.symm, fun _ => star_emp.symm⟩
section
variable {ty : TypeId} {pos : String} {after : Array Edge} {gu : Option (Nat × Bool)} {x y : Operand} {v : Value}
theorem H_storeO {t bt : TypeId} {g off : Nat} {cs cs' : List Value} (hx : E.ev x = some (ptr g off)) (hy : E.ev y = some v) (ht : Scal P t) (h1 : One w0 H v) (hl : LimbB H g bt cs F) (hset : pasteL cs off [v] = some cs') :
    OpH P n w0 ⟨none, .store t x y, ty, pos, after, gu⟩ E H (fun _ : Unit => undef) (fun _ => cel g bt cs' * F) := OpH.whole fun G a w K Q s hs hK => by
  have h1' := h1.ok w hs.keep
  have hs' : Sat w0 w (cel g bt cs * (F * G)) := hs.cast (by rw [hl.eq, star_assoc])
  obtain ⟨w', hr, hs''⟩ := run_storeVar_cel (P := P) (t := t) (vs := [v]) w hs' ht.size (cells_one h1') (by simpa using h1') hset
  have := hK () w' (hs''.cast (star_assoc _ _ _).symm)
  simp only [Act.put] at this
  simp only [Oper.wp, execOp, s.ev hx, s.ev hy, Instr.storeAt, Instr.sureAddr, Sem.run_bind, Sem.run_pure, Result.andThen_ok, hr, Oper.upon_skip]
  exact this
theorem H_storeAO {t bt : TypeId} {g off : Nat} {cs cs' vs : List Value} (hx : E.ev x = some (ptr g off)) (hy : E.ev y = some (.agg vs.toArray)) (ht : Aggr P t vs.length) (hl : LimbB H g bt cs F) (h1 : OneL w0 H vs) (hset : pasteL cs off vs = some cs') :
    OpH P n w0 ⟨none, .store t x y, ty, pos, after, gu⟩ E H (fun _ : Unit => undef) (fun _ => cel g bt cs' * F) := OpH.whole fun G a w K Q s hs hK => by
  have h1' := h1.ok w hs.keep
  have hs' : Sat w0 w (cel g bt cs * (F * G)) := hs.cast (by rw [hl.eq, star_assoc])
  obtain ⟨w', hr, hs''⟩ := run_storeVar_cel (P := P) (t := t) (vs := vs) (val := .agg vs.toArray) w hs' ht.size rfl h1' hset
  have := hK () w' (hs''.cast (star_assoc _ _ _).symm)
  simp only [Act.put] at this
  simp only [Oper.wp, execOp, s.ev hx, s.ev hy, Instr.storeAt, Instr.sureAddr, Sem.run_bind, Sem.run_pure, Result.andThen_ok, hr, Oper.upon_skip]
  exact this
theorem H_boxO {d : Option Tmp} {t : TypeId} (hx : E.ev x = some v) (h1 : One w0 H v) : OpH P n w0 ⟨d, .box t x, ty, pos, after, gu⟩ E H (fun g => ptr g 0) (fun g => cel g t [v] * H) := OpH.whole fun G a w K Q s hs hK => by
  have hc : v.cells = [v].toArray := cells_one (h1.ok w hs.keep)
  have hr : (execOp a.eval ⟨d, .box t x, ty, pos, after, gu⟩).run P w = .ok (.value (ptr w.heap.size 0)) (w.alloc (.cells [v].toArray t)) := by
    simp [execOp, s.ev hx, Instr.box, newVar, newRow, hc]
  unfold Oper.wp
  rw [hr]
  exact hK w.heap.size _ ((hs.new t [v].toArray).cast (star_assoc _ _ _).symm)
end
/-! ### 'exists' and plain facts -/
theorem WS_hex {α : Type} {p : α → HProp} {c : Code} (h : ∀ x, WS P n w0 c Q ⟨E, D, p x * F⟩) : WS P n w0 c Q ⟨E, D, hex p * F⟩ := fun a w g => by
  obtain ⟨x, hx⟩ := g.sat.ex
  exact h x a w ⟨g.sees, g.defers, hx⟩
theorem LS_hex {α : Type} {p : α → HProp} (h : ∀ x, LS P n w0 ops Q l' ⟨E, D, p x * F⟩) : LS P n w0 ops Q l' ⟨E, D, hex p * F⟩ := fun a w g => by
  obtain ⟨x, hx⟩ := g.sat.ex
  exact h x a w ⟨g.sees, g.defers, hx⟩
theorem WS_pure {φ : Prop} {c : Code} (h : φ → WS P n w0 c Q ⟨E, D, F⟩) : WS P n w0 c Q ⟨E, D, pure' φ * F⟩ := fun a w g => by
  obtain ⟨hf, hs⟩ := g.sat.pure
  exact h hf a w ⟨g.sees, g.defers, hs⟩
theorem Ent.hex_in {α : Type} {p : α → HProp} (x : α) : Ent (p x * F) (hex p * F) := fun h ⟨a, b, hd, e, hp, hq⟩ => ⟨h, ⟨a, b, hd, e, ⟨x, hp⟩, hq⟩, fun _ _ e => e⟩
theorem Ent.pure_in {φ : Prop} (hf : φ) : Ent F (pure' φ * F) := fun h hh => ⟨h, pure_star.2 ⟨hf, hh⟩, fun _ _ e => e⟩
theorem Spec.ex {α β : Type} {f : FuncId} {args : List Value} {p : β → HProp} {res : α → Value} {post : α → HProp} (h : ∀ b, Spec P w0 f args (p b) res post) : Spec P w0 f args (hex p) res post := fun G w hs => by
  obtain ⟨b, hb⟩ := hs.ex
  exact h b G w hb
theorem Spec.weak {α β : Type} {f : FuncId} {args : List Value} {pre pre' : HProp} {res : α → Value} {post : α → HProp} {res' : β → Value} {post' : β → HProp} (h : Spec P w0 f args pre res post) (hp : Ent pre' pre) (hw : ∀ x, ∃ y, res x = res' y ∧ Ent (post x) (post' y)) : Spec P w0 f args pre' res' post' := fun G w hs =>
  (h G w ((Ent.star hp (Ent.refl G)).sat hs)).mono fun e w' ⟨x, hx, hs'⟩ => by
    obtain ⟨y, e1, e2⟩ := hw x
    exact ⟨y, by rw [hx, e1], (Ent.star e2 (Ent.refl G)).sat hs'⟩
/-! ### Slices that are made -/
section
variable {d : Option Tmp} {ty : TypeId} {pos : String} {after : Array Edge} {gu : Option (Nat × Bool)} {x y : Operand}
/-- A slice literal, as a slice of data. -/
theorem H_buildSliceR {α : Type} (f : α → List Value) (ys : List α) {t e : TypeId} {len size : Nat} {parts : List (Nat × Operand)} {vs : List (Nat × Value)} {z : Value} {zs cs : List Value} (ht : Und P t (.slice e)) (hz : Zero P e z zs) (hs : Siz P e size) (hl : Nat.beq zs.length size = true) (hsm : Nat.ble (len * size) 16777216 = true) (hpos : Nat.blt 0 (len * size) = true) (hv : E.partsV parts = some vs) (hb : bsL size (zeroRow zs len) vs = some cs) (hf : FixLen f size) (hc : cs = ys.flatMap f) (hm : ys.length = len) (hmax : Nat.ble len 1000000 = true) :
    OpH P n w0 ⟨d, .buildSlice t len parts.toArray, ty, pos, after, gu⟩ E H (fun v' : Value => v') (fun v' => rows e size f v' ys * H) :=
  (H_buildSlice ht hz hs hl hsm hpos hv hb).weak fun g => ⟨_, rfl, Ent.rows_new ys hc hm (Nat.le_of_ble_eq_true hmax)⟩
end
theorem Ent.nilT {α : Type} {e : TypeId} {size : Nat} {f : α → List Value} {A : Option Addr} {F' : HProp} (r : Ent H F') : Ent H (rows e size f (.slice A 0 0) [] * F') := r.trans (Ent.nil _ _ _ _ _)
/-- All elements of a slice that can be read in X. -/
theorem H_appendO {α : Type} {t e : TypeId} {size bytes : Nat} {f f' : α → List Value} {v u : Value} {l ys : List α} {d : Option Tmp} {ty : TypeId} {pos : String} {after : Array Edge} {gu : Option (Nat × Bool)} {x y : Operand} (X : HProp) (hx : E.ev x = some v) (hy : E.ev y = some u) (hl : RowsOf H v α e size f l F) (hX : Rdr w0 X u α size f' ys) (hF : Own F X F2) (hff : f' = f) (hT : SlTC P t e size bytes) (hf : FixLen f size) (h1 : ∀ z, ∀ c ∈ f z, c.oneCell' = true) (hn : l.length + ys.length ≤ 1000000) (hby : Nat.ble bytes 1000 = true) :
    OpH P n w0 ⟨d, .call ⟨.builtin .append, #[x, y], #[t, t]⟩, ty, pos, after, gu⟩ E H (fun v' : Value => v') (fun v' => rows e size f v' (l ++ ys) * (X * F2)) := H_appendX X hx hy hl hX hF.eq hff hT hf h1 hn hby
/-! ### Regions that draw and change nothing that is there -/
def getO : List Oper → Nat → Option Oper
  | [], _ => none
  | o :: _, 0 => some o
  | _ :: r, i + 1 => getO r i
/-- A list in another order. -/
def permL (l : List Oper) : List Nat → Option (List Oper)
  | [] => some []
  | i :: r => match getO l i, permL l r with
    | some o, some r' => some (o :: r')
    | _, _ => none
theorem getO_eq : ∀ (l : List Oper) (i : Nat), getO l i = l[i]?
  | [], i => by simp [getO]
  | o :: r, 0 => rfl
  | o :: r, i + 1 => by simp [getO, getO_eq r i]
theorem permL_eq {l : List Oper} : ∀ {idx : List Nat} {l' : List Oper}, permL l idx = some l' → idx.map (l[·]?) = l'.map some
  | [], _, h => by cases h; rfl
  | i :: r, l', h => by
    simp only [permL, getO_eq] at h
    split at h
    · rename_i o r' h1 h2
      cases h
      simp [h1, permL_eq h2]
    · cases h
theorem WS_drawA {l l' : List Oper} {id : Nat} (idx : List Nat) (hs : statD P l idx (fun _ => false) 1000 = true) (hl : permL l idx = some l') (h : DL P n w0 l.toArray Q D H emp (fun _ => false) 1000 0 false l' E emp) : WS P n w0 (.region id l.toArray true) Q ⟨E, D, H⟩ :=
  WS_draw idx l' H emp emp _ 1000 hs (by rw [emp_star, star_emp]) (permL_eq hl) h
def inB (bs : List Nat) (k : Nat) : Bool := bs.any (Nat.beq k)
/-- L is read at the places bs alone. -/
theorem WS_drawK {l l' : List Oper} {id : Nat} (idx : List Nat) (cp : Nat) (bs : List Nat) (hs : statD P l idx (inB bs) cp = true) (hl : permL l idx = some l') (h : DL P n w0 l.toArray Q D emp H (inB bs) cp 0 false l' E emp) : WS P n w0 (.region id l.toArray true) Q ⟨E, D, H⟩ :=
  WS_draw idx l' emp H emp _ cp hs (by rw [star_emp, emp_star]) (permL_eq hl) h
theorem DL_nilR {L : HProp} {B : Nat → Bool} {k cp : Nat} (h : Q .normal ⟨E, D, R * F⟩) : DL P n w0 ops Q D R L B cp k true [] E F := .nil rfl h
theorem DL_nilA {B : Nat → Bool} {k cp : Nat} (h : Q .normal ⟨E, D, R⟩) : DL P n w0 ops Q D R emp B cp k false [] E emp := .nil (by simp only [hp, cond_false]; rw [emp_star, star_emp]) h
/-- A call that only reads: what it reads is all that is only read, or all that is not claimed yet. -/
theorem DL_callQ {f : FuncId} {args : List Value} {v : Value} {d : Nat} {xs : List Operand} {ts : Array TypeId} {ty : TypeId} {pos : String} {after : Array Edge} {B : Nat → Bool} {L : HProp} {k cp : Nat} {c : Bool} {l : List Oper} (hf : IsFun P f) (hargs : E.evs xs = some args) (spec : Spec P w0 f args R (fun _ : Unit => v) (fun _ => R)) (hd : Nat.blt d n.tmps = true)
    (h : DL P n w0 ops Q D R L B cp (k + 1) c l ((d, v) :: E) F) : DL P n w0 ops Q D R L B cp k c (⟨some d, .call ⟨.value (.func f), xs.toArray, ts⟩, ty, pos, after, none⟩ :: l) E F :=
  DL_tq rfl rfl hd (fun F' a w K Q s hs hK => by
    have key : ∀ X, Sat w0 w (R * X) → (∀ w', Sat w0 w' (R * X) → K (a.put (some d) v) w') → (⟨some d, .call ⟨.value (.func f), xs.toArray, ts⟩, ty, pos, after, none⟩ : Oper).wp P a w K Q := fun X hs hK =>
      T_call (d := some d) (ty := ty) (pos := pos) (after := after) (gu := none) (ts := ts) hf hargs spec X a w K Q s hs fun _ w' hs' => hK w' hs'
    cases c with
    | true => exact key F' hs hK
    | false => exact key (L * F') hs hK) h
end Go.Proofs.YtapoehkdnglahaaGreat

/- Packets, and when one is a frame, in plain Lean. -/
namespace Go.Proofs.YtapoehkdnglahaaGreat
/-- A packet. -/
structure Pk where
  ttl : Int
  kind : Int
  hops : Int
  unknown : Bool
  id : UInt32
  dest : UInt32
  destSeq : UInt32
  from_ : UInt32
  fromSeq : UInt32
  life : UInt32
  lost : List (UInt32 × UInt32)
  payload : List UInt8
/-- Its cells; v: the slice of what is lost. -/
def Pk.cells (p : Pk) (v : Value) : List Value :=
  [.int .i64 p.ttl, .int .i64 p.kind, .int .i64 p.hops, .bool p.unknown, u32 p.id, u32 p.dest, u32 p.destSeq, u32 p.from_, u32 p.fromSeq, u32 p.life, v, strV p.payload]
def Pk.val (p : Pk) (v : Value) : Value := .agg (p.cells v).toArray
def i64R (n : Int) : Prop := -9223372036854775808 ≤ n ∧ n ≤ 9223372036854775807
structure Pk.Ok (p : Pk) : Prop where
  ttl : i64R p.ttl
  kind : i64R p.kind
  hops : i64R p.hops
  lost : p.lost.length ≤ 100000
  payload : p.payload.length ≤ 100000
/-- It can be a frame: the numbers in their bounds, and nothing that its kind has not. -/
def Pk.Fits (p : Pk) : Prop :=
  (1 ≤ p.ttl ∧ p.ttl ≤ 255 ∧ 0 ≤ p.hops ∧ p.hops ≤ 255 ∧ p.payload.length ≤ 16 ∧ p.lost.length ≤ 8) ∧
  ((p.kind = 1 ∧ p.life = 0 ∧ p.lost.length = 0 ∧ p.payload = [] ∧ (p.unknown = false ∨ p.destSeq = 0)) ∨
   (p.kind = 2 ∧ p.unknown = false ∧ p.fromSeq = 0 ∧ p.id = 0 ∧ p.lost.length = 0 ∧ p.payload = []) ∨
   (p.kind = 3 ∧ p.unknown = false ∧ p.fromSeq = 0 ∧ p.hops = 0 ∧ p.destSeq = 0 ∧ p.id = 0 ∧ p.life = 0 ∧ 0 < p.lost.length ∧ p.dest = 0 ∧ p.from_ = 0 ∧ p.payload = []) ∨
   (p.kind = 9 ∧ p.unknown = false ∧ p.fromSeq = 0 ∧ p.hops = 0 ∧ p.destSeq = 0 ∧ p.life = 0 ∧ p.lost.length = 0))
instance (p : Pk) : Decidable p.Fits := by unfold Pk.Fits; infer_instance
/-- An element of what is lost. -/
def lostC (x : UInt32 × UInt32) : List Value := [u32 x.1, u32 x.2]
instance : FixLen lostC 2 := ⟨fun _ => rfl⟩
theorem lostC_one : ∀ z, ∀ c ∈ lostC z, c.oneCell' = true := by intro z c hc; simp [lostC] at hc; rcases hc with rfl | rfl <;> rfl
def nums32 (l : List UInt32) : List UInt8 := l.flatMap be
def lostB (l : List (UInt32 × UInt32)) : List UInt8 := l.flatMap fun x => be x.1 ++ be x.2
theorem lostB_length (l : List (UInt32 × UInt32)) : (lostB l).length = 8 * l.length := by
  induction l with
  | nil => rfl
  | cons a l ih => simp [lostB, be_length] at ih ⊢; omega
theorem lostB_take_succ (l : List (UInt32 × UInt32)) (k : Nat) (x : UInt32 × UInt32) (h : l[k]? = some x) : lostB (l.take (k + 1)) = lostB (l.take k) ++ be x.1 ++ be x.2 := by
  rw [List.take_add_one, h]; simp [lostB]
/-- The frame of a packet that can be one. -/
def Pk.bytes (p : Pk) : List UInt8 :=
  if p.kind = 1 then [b8 p.ttl, 1, if p.unknown then 8 else 0, 0, b8 p.hops] ++ be p.id ++ be p.dest ++ be p.destSeq ++ be p.from_ ++ be p.fromSeq
  else if p.kind = 2 then [b8 p.ttl, 2, 0, 0, b8 p.hops] ++ be p.dest ++ be p.destSeq ++ be p.from_ ++ be p.life
  else if p.kind = 3 then [b8 p.ttl, 3, 0, 0, b8 p.lost.length] ++ lostB p.lost
  else [b8 p.ttl, 9, 0, 0, b8 p.payload.length] ++ be p.id ++ be p.dest ++ be p.from_ ++ p.payload
end Go.Proofs.YtapoehkdnglahaaGreat

/- How arguments read as data of Lean: by type; how a law's row closes. -/
namespace Go.Proofs.YtapoehkdnglahaaGreat
open Go.ChangeShapes Go.WideShapes Go.ChangeAt Go.RowKit Go.Deep
set_option linter.unusedVariables false
set_option linter.unusedSectionVars false
/-- What decodes at type t is some a, its cells f a; ok: what holds of it in that memory. -/
def Dec (t : TypeId) {α : Type} (f : α → List Value) (ok : World → α → Prop) : Prop :=
  ∀ {H : Type} {enc : TypeId × Value → H} {w : World} {base : Nat} {spare : Nat → Bool} {held : Bool} {n : Nat} {c : List Value} {y : DataW H × List MemPlace}, DataW.trod enc Tryz.prog w base spare held n t c = some y → ∃ a, c = f a ∧ ok w a
def i64C (n : Int) : List Value := [.int .i64 n]
def u32C (x : UInt32) : List Value := [u32 x]
def u64C (x : UInt64) : List Value := [u64 x]
def boolC (b : Bool) : List Value := [.bool b]
def strC (l : List UInt8) : List Value := [strV l]
instance : FixLen i64C 1 := ⟨fun _ => rfl⟩
instance : FixLen u32C 1 := ⟨fun _ => rfl⟩
instance : FixLen u64C 1 := ⟨fun _ => rfl⟩
instance : FixLen boolC 1 := ⟨fun _ => rfl⟩
instance : FixLen strC 1 := ⟨fun _ => rfl⟩
theorem dec_u32 {t : TypeId} (ht : Tryz.prog.underlying t = some (.int .u32)) : Dec t u32C (fun _ _ => True) := fun h => by
  obtain ⟨n, rfl, _, hw⟩ := DataW.trod_int ht h
  obtain ⟨k, rfl⟩ := wf_u32 hw
  exact ⟨k, rfl, trivial⟩
theorem dec_u64 {t : TypeId} (ht : Tryz.prog.underlying t = some (.int .u64)) : Dec t u64C (fun _ _ => True) := fun h => by
  obtain ⟨n, rfl, _, hw⟩ := DataW.trod_int ht h
  obtain ⟨k, rfl⟩ := wf_u64 hw
  exact ⟨k, rfl, trivial⟩
theorem dec_bool {t : TypeId} (ht : Tryz.prog.underlying t = some .bool) : Dec t boolC (fun _ _ => True) := fun h => by
  obtain ⟨b, rfl, _⟩ := DataW.trod_bool ht h
  exact ⟨b, rfl, trivial⟩
/-- A slice of what decodes. -/
def slV {α : Type} (x : Value × List α) : List Value := [x.1]
theorem dec_slice {α : Type} {f : α → List Value} {ok : World → α → Prop} {size : Nat} {t e : TypeId} (hf : ∀ x, (f x).length = size) (hp : 0 < size) (ht : Tryz.prog.underlying t = some (.slice e)) (hC : Tryz.prog.cellsOf e = size) (hd : Dec e f ok) :
    Dec t slV (fun w x => RowsAt w size f x.1 x.2 ∧ ∀ a ∈ x.2, ok w a) := fun {H enc w base spare held n c y} h => by
  rcases open_slice ht h with ⟨rfl, _⟩ | ⟨a, len, cap, m, n, D, Pl, rfl, hb, hl, hm, hmm, hx, hi⟩
  · exact ⟨(.slice none 0 0, []), rfl, ⟨⟨none, 0, rfl, Nat.le_refl _, Nat.zero_le _⟩, fun k hk => absurd hk (Nat.not_lt_zero _)⟩, fun a ha => by cases ha⟩
  · have hlm : len ≤ m := by rw [hmm]; split <;> omega
    have key : ∀ i, i < len → ∃ r : α, ok w r ∧ ∀ j u, (f r)[j]? = some u → w.cell? (a.add (i * size + j)) = some u := by
      intro i hi'
      obtain ⟨c, hc, ht'⟩ := hi i (by omega)
      obtain ⟨r, rfl, hr⟩ := hd ht'
      rw [hC] at hc
      obtain ⟨_, _, hat⟩ := World.cells?_some hc
      refine ⟨r, hr, fun j u hu => ?_⟩
      have hj : j < size := by rw [← hf r]; exact (List.getElem?_eq_some_iff.1 hu).1
      rw [← Go.Deep.add_add, hat j hj, hu]
    have build : ∀ k, k ≤ len → ∃ l : List α, l.length = k ∧ (∀ r ∈ l, ok w r) ∧ ∀ i (hi : i < l.length), ∀ j u, (f l[i])[j]? = some u → w.cell? (a.add (i * size + j)) = some u := by
      intro k
      induction k with
      | zero => intro _; exact ⟨[], rfl, by simp, fun i hi => by simp at hi⟩
      | succ k ih =>
        intro hk
        obtain ⟨l, hll, hlo, hlc⟩ := ih (by omega)
        obtain ⟨r, hr1, hr⟩ := key k (by omega)
        refine ⟨l ++ [r], by simp [hll], ?_, fun i hi j u hu => ?_⟩
        · intro x hx
          rcases List.mem_append.1 hx with hx | hx
          · exact hlo x hx
          · simp at hx; subst hx; exact hr1
        · by_cases hik : i < l.length
          · rw [List.getElem_append_left hik] at hu
            exact hlc i hik j u hu
          · simp at hi
            have : i = l.length := by omega
            subst this
            simp at hu
            rw [hll]; exact hr j u hu
    obtain ⟨l, hll, hlo, hlc⟩ := build len (Nat.le_refl _)
    subst hll
    refine ⟨(.slice (some a) l.length cap, l), rfl, ⟨⟨some a, cap, rfl, hl, hm⟩, fun k hk => ?_⟩, hlo⟩
    have hz : 0 < l.length := Nat.lt_of_le_of_lt (Nat.zero_le _) hk
    have h0 : ∃ u, (f l[0])[0]? = some u := ⟨(f l[0])[0]'(by rw [hf]; exact hp), List.getElem?_eq_getElem _⟩
    obtain ⟨u0, hu0⟩ := h0
    have hc0 := hlc 0 hz 0 u0 hu0
    rw [Nat.zero_mul] at hc0
    have hspot : a = ⟨a.block, a.off, none⟩ := by
      obtain ⟨b, o, s⟩ := a
      cases s with
      | none => rfl
      | some s => simp [World.cell?, Addr.add] at hc0; split at hc0 <;> simp at hc0
    refine ⟨a.block, a.off, cap, by rw [← hspot], fun j u hj hu => ?_⟩
    have := hlc k hk j u hu
    rw [hspot, add_lit] at this
    exact this
theorem RowsAt.rdr {α : Type} {w : World} {size : Nat} {f : α → List Value} {v : Value} {l : List α} (h : RowsAt w size f v l) : Rdr w (old w) v α size f l := ⟨fun w' hs => by
  have hs' : Sat w w' (old w * emp) := hs.cast star_emp.symm
  refine ⟨h.form, fun k hk => ?_⟩
  obtain ⟨g, off, cap, hv, hc⟩ := h.cell k hk
  exact ⟨g, off, cap, hv, fun j u hj hu => hs'.old_cell (hc j u hj hu)⟩⟩
/-- What the walk of a law says, as its row wants it. -/
theorem Spec.law {f : FuncId} {args : List Value} {w : World} (h : Spec Tryz.prog w f args (old w) (fun _ : Unit => .bool true) (fun _ => old w)) : Calls Tryz.prog f args.toArray w fun e w' => e = .returned (.bool true) ∧ Below w.heap.size w w' :=
  (h emp w ((Sat.start w).cast star_emp.symm)).mono fun e w' ⟨_, he, hs⟩ => ⟨he, hs.ends⟩
/-- An argument of a struct's type, of a slice's. -/
theorem dec_arg {t : TypeId} {α : Type} {f : α → List Value} {ok : World → α → Prop} (hd : Dec t f ok) {H : Type} {enc : TypeId × Value → H} {w : World} {base : Nat} {spare : Nat → Bool} {held : Bool} {v : Value} {d : DataW H} {ps : List MemPlace} (h : DataW.Trod enc Tryz.prog w base spare held t v d ps) : ∃ a, v.cells.toList = f a ∧ ok w a := by
  obtain ⟨n, hn⟩ := h
  exact hd hn
end Go.Proofs.YtapoehkdnglahaaGreat

/- A slice as an argument. -/
namespace Go.Proofs.YtapoehkdnglahaaGreat
open Go.ChangeShapes Go.WideShapes Go.ChangeAt Go.RowKit Go.Deep
set_option linter.unusedVariables false
set_option linter.unusedSectionVars false
/-- A slice that came in. -/
theorem arg_slice {α : Type} {f : α → List Value} {ok : World → α → Prop} {size : Nat} {t e : TypeId} (hf : ∀ x, (f x).length = size) (hp : 0 < size) (ht : Tryz.prog.underlying t = some (.slice e)) (hC : Tryz.prog.cellsOf e = size) (hd : Dec e f ok) {H : Type} {enc : TypeId × Value → H} {w : World} {base : Nat} {spare : Nat → Bool} {held : Bool} {A : Option Addr} {n c : Nat} {d : DataW H} {ps : List MemPlace} (h : DataW.Trod enc Tryz.prog w base spare held t (.slice A n c) d ps) : ∃ l : List α, RowsAt w size f (.slice A n c) l ∧ ∀ a ∈ l, ok w a := by
  obtain ⟨⟨x, l⟩, hc, hR, hl⟩ := dec_arg (dec_slice hf hp ht hC hd) h
  obtain rfl : x = .slice A n c := by simpa [Value.cells, slV] using hc.symm
  exact ⟨l, hR, hl⟩
end Go.Proofs.YtapoehkdnglahaaGreat

/- Facts on this program's types and functions, as instances: printed by a program (gen_ty.py) off the loaded program; each is checked here. -/
namespace Go.Proofs.YtapoehkdnglahaaGreat
set_option linter.unusedVariables false

instance : Scal Tryz.prog 1 := ⟨by kernel_rfl, by kernel_rfl⟩
instance : Zero Tryz.prog 1 .nilFunc [.nilFunc] := ⟨by kernel_rfl, rfl⟩
instance : Und Tryz.prog 2 (.int .i64) := ⟨by kernel_rfl⟩
instance : Scal Tryz.prog 2 := ⟨by kernel_rfl, by kernel_rfl⟩
instance : Zero Tryz.prog 2 (.int .i64 0) [(.int .i64 0)] := ⟨by kernel_rfl, rfl⟩
instance : Und Tryz.prog 3 (.int .i64) := ⟨by kernel_rfl⟩
instance : Scal Tryz.prog 3 := ⟨by kernel_rfl, by kernel_rfl⟩
instance : Zero Tryz.prog 3 (.int .i64 0) [(.int .i64 0)] := ⟨by kernel_rfl, rfl⟩
instance : Und Tryz.prog 4 .bool := ⟨by kernel_rfl⟩
instance : Scal Tryz.prog 4 := ⟨by kernel_rfl, by kernel_rfl⟩
instance : Zero Tryz.prog 4 (.bool false) [(.bool false)] := ⟨by kernel_rfl, rfl⟩
instance : Und Tryz.prog 5 (.int .u8) := ⟨by kernel_rfl⟩
instance : Scal Tryz.prog 5 := ⟨by kernel_rfl, by kernel_rfl⟩
instance : Zero Tryz.prog 5 (u8 0) [(u8 0)] := ⟨by kernel_rfl, rfl⟩
instance : Und Tryz.prog 6 (.int .u8) := ⟨by kernel_rfl⟩
instance : Scal Tryz.prog 6 := ⟨by kernel_rfl, by kernel_rfl⟩
instance : Zero Tryz.prog 6 (u8 0) [(u8 0)] := ⟨by kernel_rfl, rfl⟩
instance : Aggr Tryz.prog 7 4 := ⟨by kernel_rfl, by kernel_rfl⟩
instance : Zero Tryz.prog 7 (.agg #[(.int .i64 0), (.int .i64 0), (.bool false), (u8 0)]) [(.int .i64 0), (.int .i64 0), (.bool false), (u8 0)] := ⟨by kernel_rfl, rfl⟩
instance : Fld Tryz.prog 7 0 0 2 := ⟨0, by kernel_rfl⟩
instance : Fld Tryz.prog 7 1 1 3 := ⟨0, by kernel_rfl⟩
instance : Fld Tryz.prog 7 2 2 4 := ⟨0, by kernel_rfl⟩
instance : Fld Tryz.prog 7 3 3 6 := ⟨0, by kernel_rfl⟩
instance : Places Tryz.prog 7 [(0, 1), (1, 1), (2, 1), (3, 1)] := ⟨by kernel_rfl⟩
instance : Aggr Tryz.prog 8 4 := ⟨by kernel_rfl, by kernel_rfl⟩
instance : Zero Tryz.prog 8 (.agg #[(.int .i64 0), (.int .i64 0), (.bool false), (u8 0)]) [(.int .i64 0), (.int .i64 0), (.bool false), (u8 0)] := ⟨by kernel_rfl, rfl⟩
instance : Fld Tryz.prog 8 0 0 2 := ⟨0, by kernel_rfl⟩
instance : Fld Tryz.prog 8 1 1 3 := ⟨0, by kernel_rfl⟩
instance : Fld Tryz.prog 8 2 2 4 := ⟨0, by kernel_rfl⟩
instance : Fld Tryz.prog 8 3 3 6 := ⟨0, by kernel_rfl⟩
instance : Places Tryz.prog 8 [(0, 1), (1, 1), (2, 1), (3, 1)] := ⟨by kernel_rfl⟩
instance : Und Tryz.prog 9 .string := ⟨by kernel_rfl⟩
instance : Scal Tryz.prog 9 := ⟨by kernel_rfl, by kernel_rfl⟩
instance : Zero Tryz.prog 9 (strV []) [(strV [])] := ⟨by kernel_rfl, rfl⟩
instance : Und Tryz.prog 10 .string := ⟨by kernel_rfl⟩
instance : Scal Tryz.prog 10 := ⟨by kernel_rfl, by kernel_rfl⟩
instance : Zero Tryz.prog 10 (strV []) [(strV [])] := ⟨by kernel_rfl, rfl⟩
instance : Und Tryz.prog 11 .string := ⟨by kernel_rfl⟩
instance : Scal Tryz.prog 11 := ⟨by kernel_rfl, by kernel_rfl⟩
instance : Zero Tryz.prog 11 (strV []) [(strV [])] := ⟨by kernel_rfl, rfl⟩
instance : Und Tryz.prog 12 (.int .u64) := ⟨by kernel_rfl⟩
instance : Scal Tryz.prog 12 := ⟨by kernel_rfl, by kernel_rfl⟩
instance : Zero Tryz.prog 12 (u64 0) [(u64 0)] := ⟨by kernel_rfl, rfl⟩
instance : Aggr Tryz.prog 13 2 := ⟨by kernel_rfl, by kernel_rfl⟩
instance : Zero Tryz.prog 13 (.agg #[(strV []), (u64 0)]) [(strV []), (u64 0)] := ⟨by kernel_rfl, rfl⟩
instance : Fld Tryz.prog 13 0 0 9 := ⟨0, by kernel_rfl⟩
instance : Fld Tryz.prog 13 1 1 12 := ⟨0, by kernel_rfl⟩
instance : Places Tryz.prog 13 [(0, 1), (1, 1)] := ⟨by kernel_rfl⟩
instance : Aggr Tryz.prog 14 2 := ⟨by kernel_rfl, by kernel_rfl⟩
instance : Zero Tryz.prog 14 (.agg #[(strV []), (u64 0)]) [(strV []), (u64 0)] := ⟨by kernel_rfl, rfl⟩
instance : Fld Tryz.prog 14 0 0 9 := ⟨0, by kernel_rfl⟩
instance : Fld Tryz.prog 14 1 1 12 := ⟨0, by kernel_rfl⟩
instance : Places Tryz.prog 14 [(0, 1), (1, 1)] := ⟨by kernel_rfl⟩
instance : Und Tryz.prog 15 (.pointer 378) := ⟨by kernel_rfl⟩
instance : Scal Tryz.prog 15 := ⟨by kernel_rfl, by kernel_rfl⟩
instance : Zero Tryz.prog 15 (.pointer none) [(.pointer none)] := ⟨by kernel_rfl, rfl⟩
instance : Und Tryz.prog 16 (.pointer 381) := ⟨by kernel_rfl⟩
instance : Scal Tryz.prog 16 := ⟨by kernel_rfl, by kernel_rfl⟩
instance : Zero Tryz.prog 16 (.pointer none) [(.pointer none)] := ⟨by kernel_rfl, rfl⟩
instance : Und Tryz.prog 17 (.pointer 389) := ⟨by kernel_rfl⟩
instance : Scal Tryz.prog 17 := ⟨by kernel_rfl, by kernel_rfl⟩
instance : Zero Tryz.prog 17 (.pointer none) [(.pointer none)] := ⟨by kernel_rfl, rfl⟩
instance : Aggr Tryz.prog 18 1 := ⟨by kernel_rfl, by kernel_rfl⟩
instance : Zero Tryz.prog 18 (.agg #[(.pointer none)]) [(.pointer none)] := ⟨by kernel_rfl, rfl⟩
instance : Fld Tryz.prog 18 0 0 17 := ⟨0, by kernel_rfl⟩
instance : Places Tryz.prog 18 [(0, 1)] := ⟨by kernel_rfl⟩
instance : Aggr Tryz.prog 19 1 := ⟨by kernel_rfl, by kernel_rfl⟩
instance : Zero Tryz.prog 19 (.agg #[(.pointer none)]) [(.pointer none)] := ⟨by kernel_rfl, rfl⟩
instance : Fld Tryz.prog 19 0 0 17 := ⟨0, by kernel_rfl⟩
instance : Places Tryz.prog 19 [(0, 1)] := ⟨by kernel_rfl⟩
instance : Scal Tryz.prog 20 := ⟨by kernel_rfl, by kernel_rfl⟩
instance : Zero Tryz.prog 20 .nilIface [.nilIface] := ⟨by kernel_rfl, rfl⟩
instance : Und Tryz.prog 21 (.int .i32) := ⟨by kernel_rfl⟩
instance : Scal Tryz.prog 21 := ⟨by kernel_rfl, by kernel_rfl⟩
instance : Zero Tryz.prog 21 (.int .i32 0) [(.int .i32 0)] := ⟨by kernel_rfl, rfl⟩
instance : Und Tryz.prog 22 (.slice 27) := ⟨by kernel_rfl⟩
instance : Scal Tryz.prog 22 := ⟨by kernel_rfl, by kernel_rfl⟩
instance : SlTC Tryz.prog 22 27 6 56 := ⟨SlT.of (z := (.agg #[(.int .i64 0), (.int .i64 0), (.int .i64 0), (.int .i64 0), (.bool false), (strV [])])) Tryz.underlying22 (by kernel_rfl) rfl (by decide)⟩
instance : Zero Tryz.prog 22 (.slice none 0 0) [(.slice none 0 0)] := ⟨by kernel_rfl, rfl⟩
instance : Scal Tryz.prog 23 := ⟨by kernel_rfl, by kernel_rfl⟩
instance : Zero Tryz.prog 23 .nilFunc [.nilFunc] := ⟨by kernel_rfl, rfl⟩
instance : Und Tryz.prog 24 (.pointer 89) := ⟨by kernel_rfl⟩
instance : Scal Tryz.prog 24 := ⟨by kernel_rfl, by kernel_rfl⟩
instance : Zero Tryz.prog 24 (.pointer none) [(.pointer none)] := ⟨by kernel_rfl, rfl⟩
instance : Scal Tryz.prog 25 := ⟨by kernel_rfl, by kernel_rfl⟩
instance : Zero Tryz.prog 25 .nilFunc [.nilFunc] := ⟨by kernel_rfl, rfl⟩
instance : Aggr Tryz.prog 26 6 := ⟨by kernel_rfl, by kernel_rfl⟩
instance : Zero Tryz.prog 26 (.agg #[(.int .i64 0), (.int .i64 0), (.int .i64 0), (.int .i64 0), (.bool false), (strV [])]) [(.int .i64 0), (.int .i64 0), (.int .i64 0), (.int .i64 0), (.bool false), (strV [])] := ⟨by kernel_rfl, rfl⟩
instance : Fld Tryz.prog 26 0 0 3 := ⟨0, by kernel_rfl⟩
instance : Fld Tryz.prog 26 1 1 3 := ⟨0, by kernel_rfl⟩
instance : Fld Tryz.prog 26 2 2 3 := ⟨0, by kernel_rfl⟩
instance : Fld Tryz.prog 26 3 3 3 := ⟨0, by kernel_rfl⟩
instance : Fld Tryz.prog 26 4 4 4 := ⟨0, by kernel_rfl⟩
instance : Fld Tryz.prog 26 5 5 9 := ⟨0, by kernel_rfl⟩
instance : Places Tryz.prog 26 [(0, 1), (1, 1), (2, 1), (3, 1), (4, 1), (5, 1)] := ⟨by kernel_rfl⟩
instance : Aggr Tryz.prog 27 6 := ⟨by kernel_rfl, by kernel_rfl⟩
instance : Zero Tryz.prog 27 (.agg #[(.int .i64 0), (.int .i64 0), (.int .i64 0), (.int .i64 0), (.bool false), (strV [])]) [(.int .i64 0), (.int .i64 0), (.int .i64 0), (.int .i64 0), (.bool false), (strV [])] := ⟨by kernel_rfl, rfl⟩
instance : Fld Tryz.prog 27 0 0 3 := ⟨0, by kernel_rfl⟩
instance : Fld Tryz.prog 27 1 1 3 := ⟨0, by kernel_rfl⟩
instance : Fld Tryz.prog 27 2 2 3 := ⟨0, by kernel_rfl⟩
instance : Fld Tryz.prog 27 3 3 3 := ⟨0, by kernel_rfl⟩
instance : Fld Tryz.prog 27 4 4 4 := ⟨0, by kernel_rfl⟩
instance : Fld Tryz.prog 27 5 5 9 := ⟨0, by kernel_rfl⟩
instance : Places Tryz.prog 27 [(0, 1), (1, 1), (2, 1), (3, 1), (4, 1), (5, 1)] := ⟨by kernel_rfl⟩
instance : Und Tryz.prog 28 (.slice 229) := ⟨by kernel_rfl⟩
instance : Scal Tryz.prog 28 := ⟨by kernel_rfl, by kernel_rfl⟩
instance : SlTC Tryz.prog 28 229 7 112 := ⟨SlT.of (z := (.agg #[(.int .i64 0), (.int .i64 0), (strV []), (.bool false), (.slice none 0 0), (.slice none 0 0), (.slice none 0 0)])) Tryz.underlying28 (by kernel_rfl) rfl (by decide)⟩
instance : Zero Tryz.prog 28 (.slice none 0 0) [(.slice none 0 0)] := ⟨by kernel_rfl, rfl⟩
instance : Scal Tryz.prog 29 := ⟨by kernel_rfl, by kernel_rfl⟩
instance : Zero Tryz.prog 29 .nilFunc [.nilFunc] := ⟨by kernel_rfl, rfl⟩
instance : Und Tryz.prog 30 (.slice 95) := ⟨by kernel_rfl⟩
instance : Scal Tryz.prog 30 := ⟨by kernel_rfl, by kernel_rfl⟩
instance : SlTC Tryz.prog 30 95 3 32 := ⟨SlT.of (z := (.agg #[(.int .i64 0), (.int .i64 0), (strV [])])) Tryz.underlying30 (by kernel_rfl) rfl (by decide)⟩
instance : Zero Tryz.prog 30 (.slice none 0 0) [(.slice none 0 0)] := ⟨by kernel_rfl, rfl⟩
instance : Scal Tryz.prog 31 := ⟨by kernel_rfl, by kernel_rfl⟩
instance : Zero Tryz.prog 31 .nilFunc [.nilFunc] := ⟨by kernel_rfl, rfl⟩
instance : Und Tryz.prog 32 (.slice 38) := ⟨by kernel_rfl⟩
instance : Scal Tryz.prog 32 := ⟨by kernel_rfl, by kernel_rfl⟩
instance : SlTC Tryz.prog 32 38 7 56 := ⟨SlT.of (z := (.agg #[(u32 0), (u32 0), (.int .i64 0), (u32 0), (.bool false), (u64 0), (.slice none 0 0)])) Tryz.underlying32 (by kernel_rfl) rfl (by decide)⟩
instance : Zero Tryz.prog 32 (.slice none 0 0) [(.slice none 0 0)] := ⟨by kernel_rfl, rfl⟩
instance : Scal Tryz.prog 33 := ⟨by kernel_rfl, by kernel_rfl⟩
instance : Zero Tryz.prog 33 .nilFunc [.nilFunc] := ⟨by kernel_rfl, rfl⟩
instance : Und Tryz.prog 34 (.int .u32) := ⟨by kernel_rfl⟩
instance : Scal Tryz.prog 34 := ⟨by kernel_rfl, by kernel_rfl⟩
instance : Zero Tryz.prog 34 (u32 0) [(u32 0)] := ⟨by kernel_rfl, rfl⟩
instance : Und Tryz.prog 35 (.int .u64) := ⟨by kernel_rfl⟩
instance : Scal Tryz.prog 35 := ⟨by kernel_rfl, by kernel_rfl⟩
instance : Zero Tryz.prog 35 (u64 0) [(u64 0)] := ⟨by kernel_rfl, rfl⟩
instance : Und Tryz.prog 36 (.slice 34) := ⟨by kernel_rfl⟩
instance : Scal Tryz.prog 36 := ⟨by kernel_rfl, by kernel_rfl⟩
instance : SlTC Tryz.prog 36 34 1 4 := ⟨SlT.of (z := (u32 0)) Tryz.underlying36 (by kernel_rfl) rfl (by decide)⟩
instance : Zero Tryz.prog 36 (.slice none 0 0) [(.slice none 0 0)] := ⟨by kernel_rfl, rfl⟩
instance : Aggr Tryz.prog 37 7 := ⟨by kernel_rfl, by kernel_rfl⟩
instance : Zero Tryz.prog 37 (.agg #[(u32 0), (u32 0), (.int .i64 0), (u32 0), (.bool false), (u64 0), (.slice none 0 0)]) [(u32 0), (u32 0), (.int .i64 0), (u32 0), (.bool false), (u64 0), (.slice none 0 0)] := ⟨by kernel_rfl, rfl⟩
instance : Fld Tryz.prog 37 0 0 34 := ⟨0, by kernel_rfl⟩
instance : Fld Tryz.prog 37 1 1 34 := ⟨0, by kernel_rfl⟩
instance : Fld Tryz.prog 37 2 2 3 := ⟨0, by kernel_rfl⟩
instance : Fld Tryz.prog 37 3 3 34 := ⟨0, by kernel_rfl⟩
instance : Fld Tryz.prog 37 4 4 4 := ⟨0, by kernel_rfl⟩
instance : Fld Tryz.prog 37 5 5 35 := ⟨0, by kernel_rfl⟩
instance : Fld Tryz.prog 37 6 6 36 := ⟨0, by kernel_rfl⟩
instance : Places Tryz.prog 37 [(0, 1), (1, 1), (2, 1), (3, 1), (4, 1), (5, 1), (6, 1)] := ⟨by kernel_rfl⟩
instance : Aggr Tryz.prog 38 7 := ⟨by kernel_rfl, by kernel_rfl⟩
instance : Zero Tryz.prog 38 (.agg #[(u32 0), (u32 0), (.int .i64 0), (u32 0), (.bool false), (u64 0), (.slice none 0 0)]) [(u32 0), (u32 0), (.int .i64 0), (u32 0), (.bool false), (u64 0), (.slice none 0 0)] := ⟨by kernel_rfl, rfl⟩
instance : Fld Tryz.prog 38 0 0 34 := ⟨0, by kernel_rfl⟩
instance : Fld Tryz.prog 38 1 1 34 := ⟨0, by kernel_rfl⟩
instance : Fld Tryz.prog 38 2 2 3 := ⟨0, by kernel_rfl⟩
instance : Fld Tryz.prog 38 3 3 34 := ⟨0, by kernel_rfl⟩
instance : Fld Tryz.prog 38 4 4 4 := ⟨0, by kernel_rfl⟩
instance : Fld Tryz.prog 38 5 5 35 := ⟨0, by kernel_rfl⟩
instance : Fld Tryz.prog 38 6 6 36 := ⟨0, by kernel_rfl⟩
instance : Places Tryz.prog 38 [(0, 1), (1, 1), (2, 1), (3, 1), (4, 1), (5, 1), (6, 1)] := ⟨by kernel_rfl⟩
instance : Scal Tryz.prog 39 := ⟨by kernel_rfl, by kernel_rfl⟩
instance : Zero Tryz.prog 39 .nilFunc [.nilFunc] := ⟨by kernel_rfl, rfl⟩
instance : Und Tryz.prog 40 (.slice 5) := ⟨by kernel_rfl⟩
instance : Scal Tryz.prog 40 := ⟨by kernel_rfl, by kernel_rfl⟩
instance : SlTC Tryz.prog 40 5 1 1 := ⟨SlT.of (z := (u8 0)) Tryz.underlying40 (by kernel_rfl) rfl (by decide)⟩
instance : Zero Tryz.prog 40 (.slice none 0 0) [(.slice none 0 0)] := ⟨by kernel_rfl, rfl⟩
instance : Scal Tryz.prog 41 := ⟨by kernel_rfl, by kernel_rfl⟩
instance : Zero Tryz.prog 41 .nilFunc [.nilFunc] := ⟨by kernel_rfl, rfl⟩
instance : Scal Tryz.prog 42 := ⟨by kernel_rfl, by kernel_rfl⟩
instance : Zero Tryz.prog 42 .nilFunc [.nilFunc] := ⟨by kernel_rfl, rfl⟩
instance : Und Tryz.prog 43 (.int .i64) := ⟨by kernel_rfl⟩
instance : Scal Tryz.prog 43 := ⟨by kernel_rfl, by kernel_rfl⟩
instance : Zero Tryz.prog 43 (.int .i64 0) [(.int .i64 0)] := ⟨by kernel_rfl, rfl⟩
instance : Und Tryz.prog 44 (.slice 145) := ⟨by kernel_rfl⟩
instance : Scal Tryz.prog 44 := ⟨by kernel_rfl, by kernel_rfl⟩
instance : SlTC Tryz.prog 44 145 2 8 := ⟨SlT.of (z := (.agg #[(u32 0), (u32 0)])) Tryz.underlying44 (by kernel_rfl) rfl (by decide)⟩
instance : Zero Tryz.prog 44 (.slice none 0 0) [(.slice none 0 0)] := ⟨by kernel_rfl, rfl⟩
instance : Aggr Tryz.prog 45 12 := ⟨by kernel_rfl, by kernel_rfl⟩
instance : Zero Tryz.prog 45 (.agg #[(.int .i64 0), (.int .i64 0), (.int .i64 0), (.bool false), (u32 0), (u32 0), (u32 0), (u32 0), (u32 0), (u32 0), (.slice none 0 0), (strV [])]) [(.int .i64 0), (.int .i64 0), (.int .i64 0), (.bool false), (u32 0), (u32 0), (u32 0), (u32 0), (u32 0), (u32 0), (.slice none 0 0), (strV [])] := ⟨by kernel_rfl, rfl⟩
instance : Fld Tryz.prog 45 0 0 3 := ⟨0, by kernel_rfl⟩
instance : Fld Tryz.prog 45 1 1 43 := ⟨0, by kernel_rfl⟩
instance : Fld Tryz.prog 45 2 2 3 := ⟨0, by kernel_rfl⟩
instance : Fld Tryz.prog 45 3 3 4 := ⟨0, by kernel_rfl⟩
instance : Fld Tryz.prog 45 4 4 34 := ⟨0, by kernel_rfl⟩
instance : Fld Tryz.prog 45 5 5 34 := ⟨0, by kernel_rfl⟩
instance : Fld Tryz.prog 45 6 6 34 := ⟨0, by kernel_rfl⟩
instance : Fld Tryz.prog 45 7 7 34 := ⟨0, by kernel_rfl⟩
instance : Fld Tryz.prog 45 8 8 34 := ⟨0, by kernel_rfl⟩
instance : Fld Tryz.prog 45 9 9 34 := ⟨0, by kernel_rfl⟩
instance : Fld Tryz.prog 45 10 10 44 := ⟨0, by kernel_rfl⟩
instance : Fld Tryz.prog 45 11 11 9 := ⟨0, by kernel_rfl⟩
instance : Places Tryz.prog 45 [(0, 1), (1, 1), (2, 1), (3, 1), (4, 1), (5, 1), (6, 1), (7, 1), (8, 1), (9, 1), (10, 1), (11, 1)] := ⟨by kernel_rfl⟩
instance : Aggr Tryz.prog 46 12 := ⟨by kernel_rfl, by kernel_rfl⟩
instance : Zero Tryz.prog 46 (.agg #[(.int .i64 0), (.int .i64 0), (.int .i64 0), (.bool false), (u32 0), (u32 0), (u32 0), (u32 0), (u32 0), (u32 0), (.slice none 0 0), (strV [])]) [(.int .i64 0), (.int .i64 0), (.int .i64 0), (.bool false), (u32 0), (u32 0), (u32 0), (u32 0), (u32 0), (u32 0), (.slice none 0 0), (strV [])] := ⟨by kernel_rfl, rfl⟩
instance : Fld Tryz.prog 46 0 0 3 := ⟨0, by kernel_rfl⟩
instance : Fld Tryz.prog 46 1 1 43 := ⟨0, by kernel_rfl⟩
instance : Fld Tryz.prog 46 2 2 3 := ⟨0, by kernel_rfl⟩
instance : Fld Tryz.prog 46 3 3 4 := ⟨0, by kernel_rfl⟩
instance : Fld Tryz.prog 46 4 4 34 := ⟨0, by kernel_rfl⟩
instance : Fld Tryz.prog 46 5 5 34 := ⟨0, by kernel_rfl⟩
instance : Fld Tryz.prog 46 6 6 34 := ⟨0, by kernel_rfl⟩
instance : Fld Tryz.prog 46 7 7 34 := ⟨0, by kernel_rfl⟩
instance : Fld Tryz.prog 46 8 8 34 := ⟨0, by kernel_rfl⟩
instance : Fld Tryz.prog 46 9 9 34 := ⟨0, by kernel_rfl⟩
instance : Fld Tryz.prog 46 10 10 44 := ⟨0, by kernel_rfl⟩
instance : Fld Tryz.prog 46 11 11 9 := ⟨0, by kernel_rfl⟩
instance : Places Tryz.prog 46 [(0, 1), (1, 1), (2, 1), (3, 1), (4, 1), (5, 1), (6, 1), (7, 1), (8, 1), (9, 1), (10, 1), (11, 1)] := ⟨by kernel_rfl⟩
instance : Aggr Tryz.prog 47 3 := ⟨by kernel_rfl, by kernel_rfl⟩
instance : Zero Tryz.prog 47 (.agg #[(.bool false), (u32 0), (u32 0)]) [(.bool false), (u32 0), (u32 0)] := ⟨by kernel_rfl, rfl⟩
instance : Fld Tryz.prog 47 0 0 4 := ⟨0, by kernel_rfl⟩
instance : Fld Tryz.prog 47 1 1 34 := ⟨0, by kernel_rfl⟩
instance : Fld Tryz.prog 47 2 2 34 := ⟨0, by kernel_rfl⟩
instance : Places Tryz.prog 47 [(0, 1), (1, 1), (2, 1)] := ⟨by kernel_rfl⟩
instance : Aggr Tryz.prog 48 3 := ⟨by kernel_rfl, by kernel_rfl⟩
instance : Zero Tryz.prog 48 (.agg #[(.bool false), (u32 0), (u32 0)]) [(.bool false), (u32 0), (u32 0)] := ⟨by kernel_rfl, rfl⟩
instance : Fld Tryz.prog 48 0 0 4 := ⟨0, by kernel_rfl⟩
instance : Fld Tryz.prog 48 1 1 34 := ⟨0, by kernel_rfl⟩
instance : Fld Tryz.prog 48 2 2 34 := ⟨0, by kernel_rfl⟩
instance : Places Tryz.prog 48 [(0, 1), (1, 1), (2, 1)] := ⟨by kernel_rfl⟩
instance : Und Tryz.prog 49 (.slice 48) := ⟨by kernel_rfl⟩
instance : Scal Tryz.prog 49 := ⟨by kernel_rfl, by kernel_rfl⟩
instance : SlTC Tryz.prog 49 48 3 12 := ⟨SlT.of (z := (.agg #[(.bool false), (u32 0), (u32 0)])) Tryz.underlying49 (by kernel_rfl) rfl (by decide)⟩
instance : Zero Tryz.prog 49 (.slice none 0 0) [(.slice none 0 0)] := ⟨by kernel_rfl, rfl⟩
instance : Und Tryz.prog 50 (.slice 126) := ⟨by kernel_rfl⟩
instance : Scal Tryz.prog 50 := ⟨by kernel_rfl, by kernel_rfl⟩
instance : SlTC Tryz.prog 50 126 4 32 := ⟨SlT.of (z := (.agg #[(.int .i64 0), (.int .i64 0), (u64 0), (.bool false)])) Tryz.underlying50 (by kernel_rfl) rfl (by decide)⟩
instance : Zero Tryz.prog 50 (.slice none 0 0) [(.slice none 0 0)] := ⟨by kernel_rfl, rfl⟩
instance : Und Tryz.prog 51 (.slice 136) := ⟨by kernel_rfl⟩
instance : Scal Tryz.prog 51 := ⟨by kernel_rfl, by kernel_rfl⟩
instance : SlTC Tryz.prog 51 136 6 40 := ⟨SlT.of (z := (.agg #[(.int .i64 0), (u32 0), (u32 0), (.int .i64 0), (u32 0), (u64 0)])) Tryz.underlying51 (by kernel_rfl) rfl (by decide)⟩
instance : Zero Tryz.prog 51 (.slice none 0 0) [(.slice none 0 0)] := ⟨by kernel_rfl, rfl⟩
instance : Und Tryz.prog 52 (.slice 214) := ⟨by kernel_rfl⟩
instance : Scal Tryz.prog 52 := ⟨by kernel_rfl, by kernel_rfl⟩
instance : SlTC Tryz.prog 52 214 16 136 := ⟨SlT.of (z := (.agg #[(.int .i64 0), (u32 0), (strV []), (.int .i64 0), (.int .i64 0), (.int .i64 0), (.bool false), (u32 0), (u32 0), (u32 0), (u32 0), (u32 0), (u32 0), (.slice none 0 0), (strV []), (u64 0)])) Tryz.underlying52 (by kernel_rfl) rfl (by decide)⟩
instance : Zero Tryz.prog 52 (.slice none 0 0) [(.slice none 0 0)] := ⟨by kernel_rfl, rfl⟩
instance : Scal Tryz.prog 53 := ⟨by kernel_rfl, by kernel_rfl⟩
instance : Zero Tryz.prog 53 .nilFunc [.nilFunc] := ⟨by kernel_rfl, rfl⟩
instance : Scal Tryz.prog 54 := ⟨by kernel_rfl, by kernel_rfl⟩
instance : Zero Tryz.prog 54 .nilFunc [.nilFunc] := ⟨by kernel_rfl, rfl⟩
instance : Scal Tryz.prog 55 := ⟨by kernel_rfl, by kernel_rfl⟩
instance : Zero Tryz.prog 55 .nilFunc [.nilFunc] := ⟨by kernel_rfl, rfl⟩
instance : Scal Tryz.prog 56 := ⟨by kernel_rfl, by kernel_rfl⟩
instance : Zero Tryz.prog 56 .nilFunc [.nilFunc] := ⟨by kernel_rfl, rfl⟩
instance : Scal Tryz.prog 57 := ⟨by kernel_rfl, by kernel_rfl⟩
instance : Zero Tryz.prog 57 .nilFunc [.nilFunc] := ⟨by kernel_rfl, rfl⟩
instance : Scal Tryz.prog 58 := ⟨by kernel_rfl, by kernel_rfl⟩
instance : Zero Tryz.prog 58 .nilFunc [.nilFunc] := ⟨by kernel_rfl, rfl⟩
instance : Scal Tryz.prog 59 := ⟨by kernel_rfl, by kernel_rfl⟩
instance : Zero Tryz.prog 59 .nilFunc [.nilFunc] := ⟨by kernel_rfl, rfl⟩
instance : Scal Tryz.prog 60 := ⟨by kernel_rfl, by kernel_rfl⟩
instance : Zero Tryz.prog 60 .nilFunc [.nilFunc] := ⟨by kernel_rfl, rfl⟩
instance : Und Tryz.prog 61 (.slice 72) := ⟨by kernel_rfl⟩
instance : Scal Tryz.prog 61 := ⟨by kernel_rfl, by kernel_rfl⟩
instance : SlTC Tryz.prog 61 72 3 24 := ⟨SlT.of (z := (.agg #[(u32 0), (u64 0), (.bool false)])) Tryz.underlying61 (by kernel_rfl) rfl (by decide)⟩
instance : Zero Tryz.prog 61 (.slice none 0 0) [(.slice none 0 0)] := ⟨by kernel_rfl, rfl⟩
instance : Und Tryz.prog 62 (.pointer 159) := ⟨by kernel_rfl⟩
instance : Scal Tryz.prog 62 := ⟨by kernel_rfl, by kernel_rfl⟩
instance : Zero Tryz.prog 62 (.pointer none) [(.pointer none)] := ⟨by kernel_rfl, rfl⟩
instance : Und Tryz.prog 63 (.slice 80) := ⟨by kernel_rfl⟩
instance : Scal Tryz.prog 63 := ⟨by kernel_rfl, by kernel_rfl⟩
instance : SlTC Tryz.prog 63 80 2 24 := ⟨SlT.of (z := (.agg #[(u32 0), (strV [])])) Tryz.underlying63 (by kernel_rfl) rfl (by decide)⟩
instance : Zero Tryz.prog 63 (.slice none 0 0) [(.slice none 0 0)] := ⟨by kernel_rfl, rfl⟩
instance : Und Tryz.prog 64 (.slice 301) := ⟨by kernel_rfl⟩
instance : Scal Tryz.prog 64 := ⟨by kernel_rfl, by kernel_rfl⟩
instance : SlTC Tryz.prog 64 301 2 24 := ⟨SlT.of (z := (.agg #[(u32 0), (strV [])])) Tryz.underlying64 (by kernel_rfl) rfl (by decide)⟩
instance : Zero Tryz.prog 64 (.slice none 0 0) [(.slice none 0 0)] := ⟨by kernel_rfl, rfl⟩
instance : Und Tryz.prog 65 (.slice 238) := ⟨by kernel_rfl⟩
instance : Scal Tryz.prog 65 := ⟨by kernel_rfl, by kernel_rfl⟩
instance : SlTC Tryz.prog 65 238 1 8 := ⟨SlT.of (z := (.int .i64 0)) Tryz.underlying65 (by kernel_rfl) rfl (by decide)⟩
instance : Zero Tryz.prog 65 (.slice none 0 0) [(.slice none 0 0)] := ⟨by kernel_rfl, rfl⟩
instance : Aggr Tryz.prog 66 5 := ⟨by kernel_rfl, by kernel_rfl⟩
instance : Zero Tryz.prog 66 (.agg #[(strV []), (.bool false), (.slice none 0 0), (.slice none 0 0), (.slice none 0 0)]) [(strV []), (.bool false), (.slice none 0 0), (.slice none 0 0), (.slice none 0 0)] := ⟨by kernel_rfl, rfl⟩
instance : Fld Tryz.prog 66 0 0 9 := ⟨0, by kernel_rfl⟩
instance : Fld Tryz.prog 66 1 1 4 := ⟨0, by kernel_rfl⟩
instance : Fld Tryz.prog 66 2 2 63 := ⟨0, by kernel_rfl⟩
instance : Fld Tryz.prog 66 3 3 64 := ⟨0, by kernel_rfl⟩
instance : Fld Tryz.prog 66 4 4 65 := ⟨0, by kernel_rfl⟩
instance : Places Tryz.prog 66 [(0, 1), (1, 1), (2, 1), (3, 1), (4, 1)] := ⟨by kernel_rfl⟩
instance : Aggr Tryz.prog 67 5 := ⟨by kernel_rfl, by kernel_rfl⟩
instance : Zero Tryz.prog 67 (.agg #[(strV []), (.bool false), (.slice none 0 0), (.slice none 0 0), (.slice none 0 0)]) [(strV []), (.bool false), (.slice none 0 0), (.slice none 0 0), (.slice none 0 0)] := ⟨by kernel_rfl, rfl⟩
instance : Fld Tryz.prog 67 0 0 9 := ⟨0, by kernel_rfl⟩
instance : Fld Tryz.prog 67 1 1 4 := ⟨0, by kernel_rfl⟩
instance : Fld Tryz.prog 67 2 2 63 := ⟨0, by kernel_rfl⟩
instance : Fld Tryz.prog 67 3 3 64 := ⟨0, by kernel_rfl⟩
instance : Fld Tryz.prog 67 4 4 65 := ⟨0, by kernel_rfl⟩
instance : Places Tryz.prog 67 [(0, 1), (1, 1), (2, 1), (3, 1), (4, 1)] := ⟨by kernel_rfl⟩
instance : Und Tryz.prog 68 (.int .i64) := ⟨by kernel_rfl⟩
instance : Scal Tryz.prog 68 := ⟨by kernel_rfl, by kernel_rfl⟩
instance : Zero Tryz.prog 68 (.int .i64 0) [(.int .i64 0)] := ⟨by kernel_rfl, rfl⟩
instance : Scal Tryz.prog 70 := ⟨by kernel_rfl, by kernel_rfl⟩
instance : Zero Tryz.prog 70 .nilFunc [.nilFunc] := ⟨by kernel_rfl, rfl⟩
instance : Aggr Tryz.prog 71 3 := ⟨by kernel_rfl, by kernel_rfl⟩
instance : Zero Tryz.prog 71 (.agg #[(u32 0), (u64 0), (.bool false)]) [(u32 0), (u64 0), (.bool false)] := ⟨by kernel_rfl, rfl⟩
instance : Fld Tryz.prog 71 0 0 34 := ⟨0, by kernel_rfl⟩
instance : Fld Tryz.prog 71 1 1 35 := ⟨0, by kernel_rfl⟩
instance : Fld Tryz.prog 71 2 2 4 := ⟨0, by kernel_rfl⟩
instance : Places Tryz.prog 71 [(0, 1), (1, 1), (2, 1)] := ⟨by kernel_rfl⟩
instance : Aggr Tryz.prog 72 3 := ⟨by kernel_rfl, by kernel_rfl⟩
instance : Zero Tryz.prog 72 (.agg #[(u32 0), (u64 0), (.bool false)]) [(u32 0), (u64 0), (.bool false)] := ⟨by kernel_rfl, rfl⟩
instance : Fld Tryz.prog 72 0 0 34 := ⟨0, by kernel_rfl⟩
instance : Fld Tryz.prog 72 1 1 35 := ⟨0, by kernel_rfl⟩
instance : Fld Tryz.prog 72 2 2 4 := ⟨0, by kernel_rfl⟩
instance : Places Tryz.prog 72 [(0, 1), (1, 1), (2, 1)] := ⟨by kernel_rfl⟩
instance : Und Tryz.prog 73 (.slice 35) := ⟨by kernel_rfl⟩
instance : Scal Tryz.prog 73 := ⟨by kernel_rfl, by kernel_rfl⟩
instance : SlTC Tryz.prog 73 35 1 8 := ⟨SlT.of (z := (u64 0)) Tryz.underlying73 (by kernel_rfl) rfl (by decide)⟩
instance : Zero Tryz.prog 73 (.slice none 0 0) [(.slice none 0 0)] := ⟨by kernel_rfl, rfl⟩
instance : Scal Tryz.prog 74 := ⟨by kernel_rfl, by kernel_rfl⟩
instance : Zero Tryz.prog 74 .nilFunc [.nilFunc] := ⟨by kernel_rfl, rfl⟩
instance : Scal Tryz.prog 76 := ⟨by kernel_rfl, by kernel_rfl⟩
instance : Zero Tryz.prog 76 .nilFunc [.nilFunc] := ⟨by kernel_rfl, rfl⟩
instance : Scal Tryz.prog 78 := ⟨by kernel_rfl, by kernel_rfl⟩
instance : Zero Tryz.prog 78 .nilFunc [.nilFunc] := ⟨by kernel_rfl, rfl⟩
instance : Aggr Tryz.prog 79 2 := ⟨by kernel_rfl, by kernel_rfl⟩
instance : Zero Tryz.prog 79 (.agg #[(u32 0), (strV [])]) [(u32 0), (strV [])] := ⟨by kernel_rfl, rfl⟩
instance : Fld Tryz.prog 79 0 0 34 := ⟨0, by kernel_rfl⟩
instance : Fld Tryz.prog 79 1 1 9 := ⟨0, by kernel_rfl⟩
instance : Places Tryz.prog 79 [(0, 1), (1, 1)] := ⟨by kernel_rfl⟩
instance : Aggr Tryz.prog 80 2 := ⟨by kernel_rfl, by kernel_rfl⟩
instance : Zero Tryz.prog 80 (.agg #[(u32 0), (strV [])]) [(u32 0), (strV [])] := ⟨by kernel_rfl, rfl⟩
instance : Fld Tryz.prog 80 0 0 34 := ⟨0, by kernel_rfl⟩
instance : Fld Tryz.prog 80 1 1 9 := ⟨0, by kernel_rfl⟩
instance : Places Tryz.prog 80 [(0, 1), (1, 1)] := ⟨by kernel_rfl⟩
instance : Scal Tryz.prog 81 := ⟨by kernel_rfl, by kernel_rfl⟩
instance : Zero Tryz.prog 81 .nilFunc [.nilFunc] := ⟨by kernel_rfl, rfl⟩
instance : Scal Tryz.prog 83 := ⟨by kernel_rfl, by kernel_rfl⟩
instance : Zero Tryz.prog 83 .nilFunc [.nilFunc] := ⟨by kernel_rfl, rfl⟩
instance : Und Tryz.prog 84 (.slice 96) := ⟨by kernel_rfl⟩
instance : Scal Tryz.prog 84 := ⟨by kernel_rfl, by kernel_rfl⟩
instance : SlTC Tryz.prog 84 96 1 8 := ⟨SlT.of (z := (.pointer none)) Tryz.underlying84 (by kernel_rfl) rfl (by decide)⟩
instance : Zero Tryz.prog 84 (.slice none 0 0) [(.slice none 0 0)] := ⟨by kernel_rfl, rfl⟩
instance : Und Tryz.prog 85 (.map 34 3) := ⟨by kernel_rfl⟩
instance : Scal Tryz.prog 85 := ⟨by kernel_rfl, by kernel_rfl⟩
instance : Zero Tryz.prog 85 (.map none) [(.map none)] := ⟨by kernel_rfl, rfl⟩
instance : Und Tryz.prog 86 (.array 6 4) := ⟨by kernel_rfl⟩
instance : Aggr Tryz.prog 86 6 := ⟨by kernel_rfl, by kernel_rfl⟩
instance : Zero Tryz.prog 86 (.agg #[(.bool false), (.bool false), (.bool false), (.bool false), (.bool false), (.bool false)]) [(.bool false), (.bool false), (.bool false), (.bool false), (.bool false), (.bool false)] := ⟨by kernel_rfl, rfl⟩
instance : Und Tryz.prog 87 (.array 6 86) := ⟨by kernel_rfl⟩
instance : Aggr Tryz.prog 87 36 := ⟨by kernel_rfl, by kernel_rfl⟩
instance : Zero Tryz.prog 87 (.agg #[(.bool false), (.bool false), (.bool false), (.bool false), (.bool false), (.bool false), (.bool false), (.bool false), (.bool false), (.bool false), (.bool false), (.bool false), (.bool false), (.bool false), (.bool false), (.bool false), (.bool false), (.bool false), (.bool false), (.bool false), (.bool false), (.bool false), (.bool false), (.bool false), (.bool false), (.bool false), (.bool false), (.bool false), (.bool false), (.bool false), (.bool false), (.bool false), (.bool false), (.bool false), (.bool false), (.bool false)]) [(.bool false), (.bool false), (.bool false), (.bool false), (.bool false), (.bool false), (.bool false), (.bool false), (.bool false), (.bool false), (.bool false), (.bool false), (.bool false), (.bool false), (.bool false), (.bool false), (.bool false), (.bool false), (.bool false), (.bool false), (.bool false), (.bool false), (.bool false), (.bool false), (.bool false), (.bool false), (.bool false), (.bool false), (.bool false), (.bool false), (.bool false), (.bool false), (.bool false), (.bool false), (.bool false), (.bool false)] := ⟨by kernel_rfl, rfl⟩
instance : Aggr Tryz.prog 88 41 := ⟨by kernel_rfl, by kernel_rfl⟩
instance : Fld Tryz.prog 88 0 0 84 := ⟨0, by kernel_rfl⟩
instance : Fld Tryz.prog 88 1 1 85 := ⟨0, by kernel_rfl⟩
instance : Fld Tryz.prog 88 2 2 87 := ⟨35, by kernel_rfl⟩
instance : Fld Tryz.prog 88 3 38 30 := ⟨0, by kernel_rfl⟩
instance : Fld Tryz.prog 88 4 39 35 := ⟨0, by kernel_rfl⟩
instance : Fld Tryz.prog 88 5 40 28 := ⟨0, by kernel_rfl⟩
instance : Places Tryz.prog 88 [(0, 1), (1, 1), (2, 36), (38, 1), (39, 1), (40, 1)] := ⟨by kernel_rfl⟩
instance : Aggr Tryz.prog 89 41 := ⟨by kernel_rfl, by kernel_rfl⟩
instance : Fld Tryz.prog 89 0 0 84 := ⟨0, by kernel_rfl⟩
instance : Fld Tryz.prog 89 1 1 85 := ⟨0, by kernel_rfl⟩
instance : Fld Tryz.prog 89 2 2 87 := ⟨35, by kernel_rfl⟩
instance : Fld Tryz.prog 89 3 38 30 := ⟨0, by kernel_rfl⟩
instance : Fld Tryz.prog 89 4 39 35 := ⟨0, by kernel_rfl⟩
instance : Fld Tryz.prog 89 5 40 28 := ⟨0, by kernel_rfl⟩
instance : Places Tryz.prog 89 [(0, 1), (1, 1), (2, 36), (38, 1), (39, 1), (40, 1)] := ⟨by kernel_rfl⟩
instance : Scal Tryz.prog 90 := ⟨by kernel_rfl, by kernel_rfl⟩
instance : Zero Tryz.prog 90 .nilFunc [.nilFunc] := ⟨by kernel_rfl, rfl⟩
instance : Scal Tryz.prog 91 := ⟨by kernel_rfl, by kernel_rfl⟩
instance : Zero Tryz.prog 91 .nilFunc [.nilFunc] := ⟨by kernel_rfl, rfl⟩
instance : Scal Tryz.prog 92 := ⟨by kernel_rfl, by kernel_rfl⟩
instance : Zero Tryz.prog 92 .nilFunc [.nilFunc] := ⟨by kernel_rfl, rfl⟩
instance : Scal Tryz.prog 93 := ⟨by kernel_rfl, by kernel_rfl⟩
instance : Zero Tryz.prog 93 .nilFunc [.nilFunc] := ⟨by kernel_rfl, rfl⟩
instance : Aggr Tryz.prog 94 3 := ⟨by kernel_rfl, by kernel_rfl⟩
instance : Zero Tryz.prog 94 (.agg #[(.int .i64 0), (.int .i64 0), (strV [])]) [(.int .i64 0), (.int .i64 0), (strV [])] := ⟨by kernel_rfl, rfl⟩
instance : Fld Tryz.prog 94 0 0 3 := ⟨0, by kernel_rfl⟩
instance : Fld Tryz.prog 94 1 1 3 := ⟨0, by kernel_rfl⟩
instance : Fld Tryz.prog 94 2 2 9 := ⟨0, by kernel_rfl⟩
instance : Places Tryz.prog 94 [(0, 1), (1, 1), (2, 1)] := ⟨by kernel_rfl⟩
instance : Aggr Tryz.prog 95 3 := ⟨by kernel_rfl, by kernel_rfl⟩
instance : Zero Tryz.prog 95 (.agg #[(.int .i64 0), (.int .i64 0), (strV [])]) [(.int .i64 0), (.int .i64 0), (strV [])] := ⟨by kernel_rfl, rfl⟩
instance : Fld Tryz.prog 95 0 0 3 := ⟨0, by kernel_rfl⟩
instance : Fld Tryz.prog 95 1 1 3 := ⟨0, by kernel_rfl⟩
instance : Fld Tryz.prog 95 2 2 9 := ⟨0, by kernel_rfl⟩
instance : Places Tryz.prog 95 [(0, 1), (1, 1), (2, 1)] := ⟨by kernel_rfl⟩
instance : Und Tryz.prog 96 (.pointer 100) := ⟨by kernel_rfl⟩
instance : Scal Tryz.prog 96 := ⟨by kernel_rfl, by kernel_rfl⟩
instance : Zero Tryz.prog 96 (.pointer none) [(.pointer none)] := ⟨by kernel_rfl, rfl⟩
instance : Scal Tryz.prog 97 := ⟨by kernel_rfl, by kernel_rfl⟩
instance : Zero Tryz.prog 97 .nilFunc [.nilFunc] := ⟨by kernel_rfl, rfl⟩
instance : Und Tryz.prog 98 (.pointer 184) := ⟨by kernel_rfl⟩
instance : Scal Tryz.prog 98 := ⟨by kernel_rfl, by kernel_rfl⟩
instance : Zero Tryz.prog 98 (.pointer none) [(.pointer none)] := ⟨by kernel_rfl, rfl⟩
instance : Aggr Tryz.prog 99 5 := ⟨by kernel_rfl, by kernel_rfl⟩
instance : Zero Tryz.prog 99 (.agg #[(u32 0), (.pointer none), (.slice none 0 0), (.int .i64 0), (.bool false)]) [(u32 0), (.pointer none), (.slice none 0 0), (.int .i64 0), (.bool false)] := ⟨by kernel_rfl, rfl⟩
instance : Fld Tryz.prog 99 0 0 34 := ⟨0, by kernel_rfl⟩
instance : Fld Tryz.prog 99 1 1 98 := ⟨0, by kernel_rfl⟩
instance : Fld Tryz.prog 99 2 2 40 := ⟨0, by kernel_rfl⟩
instance : Fld Tryz.prog 99 3 3 3 := ⟨0, by kernel_rfl⟩
instance : Fld Tryz.prog 99 4 4 4 := ⟨0, by kernel_rfl⟩
instance : Places Tryz.prog 99 [(0, 1), (1, 1), (2, 1), (3, 1), (4, 1)] := ⟨by kernel_rfl⟩
instance : Aggr Tryz.prog 100 5 := ⟨by kernel_rfl, by kernel_rfl⟩
instance : Zero Tryz.prog 100 (.agg #[(u32 0), (.pointer none), (.slice none 0 0), (.int .i64 0), (.bool false)]) [(u32 0), (.pointer none), (.slice none 0 0), (.int .i64 0), (.bool false)] := ⟨by kernel_rfl, rfl⟩
instance : Fld Tryz.prog 100 0 0 34 := ⟨0, by kernel_rfl⟩
instance : Fld Tryz.prog 100 1 1 98 := ⟨0, by kernel_rfl⟩
instance : Fld Tryz.prog 100 2 2 40 := ⟨0, by kernel_rfl⟩
instance : Fld Tryz.prog 100 3 3 3 := ⟨0, by kernel_rfl⟩
instance : Fld Tryz.prog 100 4 4 4 := ⟨0, by kernel_rfl⟩
instance : Places Tryz.prog 100 [(0, 1), (1, 1), (2, 1), (3, 1), (4, 1)] := ⟨by kernel_rfl⟩
instance : Scal Tryz.prog 101 := ⟨by kernel_rfl, by kernel_rfl⟩
instance : Zero Tryz.prog 101 .nilFunc [.nilFunc] := ⟨by kernel_rfl, rfl⟩
instance : Scal Tryz.prog 102 := ⟨by kernel_rfl, by kernel_rfl⟩
instance : Zero Tryz.prog 102 .nilFunc [.nilFunc] := ⟨by kernel_rfl, rfl⟩
instance : Scal Tryz.prog 104 := ⟨by kernel_rfl, by kernel_rfl⟩
instance : Zero Tryz.prog 104 .nilFunc [.nilFunc] := ⟨by kernel_rfl, rfl⟩
instance : Scal Tryz.prog 106 := ⟨by kernel_rfl, by kernel_rfl⟩
instance : Zero Tryz.prog 106 .nilFunc [.nilFunc] := ⟨by kernel_rfl, rfl⟩
instance : Scal Tryz.prog 107 := ⟨by kernel_rfl, by kernel_rfl⟩
instance : Zero Tryz.prog 107 .nilFunc [.nilFunc] := ⟨by kernel_rfl, rfl⟩
instance : Scal Tryz.prog 108 := ⟨by kernel_rfl, by kernel_rfl⟩
instance : Zero Tryz.prog 108 .nilFunc [.nilFunc] := ⟨by kernel_rfl, rfl⟩
instance : Scal Tryz.prog 109 := ⟨by kernel_rfl, by kernel_rfl⟩
instance : Zero Tryz.prog 109 .nilFunc [.nilFunc] := ⟨by kernel_rfl, rfl⟩
instance : Scal Tryz.prog 110 := ⟨by kernel_rfl, by kernel_rfl⟩
instance : Zero Tryz.prog 110 .nilFunc [.nilFunc] := ⟨by kernel_rfl, rfl⟩
instance : Scal Tryz.prog 111 := ⟨by kernel_rfl, by kernel_rfl⟩
instance : Zero Tryz.prog 111 .nilFunc [.nilFunc] := ⟨by kernel_rfl, rfl⟩
instance : Scal Tryz.prog 113 := ⟨by kernel_rfl, by kernel_rfl⟩
instance : Zero Tryz.prog 113 .nilFunc [.nilFunc] := ⟨by kernel_rfl, rfl⟩
instance : Scal Tryz.prog 114 := ⟨by kernel_rfl, by kernel_rfl⟩
instance : Zero Tryz.prog 114 .nilFunc [.nilFunc] := ⟨by kernel_rfl, rfl⟩
instance : Scal Tryz.prog 115 := ⟨by kernel_rfl, by kernel_rfl⟩
instance : Zero Tryz.prog 115 .nilFunc [.nilFunc] := ⟨by kernel_rfl, rfl⟩
instance : Scal Tryz.prog 116 := ⟨by kernel_rfl, by kernel_rfl⟩
instance : Zero Tryz.prog 116 .nilFunc [.nilFunc] := ⟨by kernel_rfl, rfl⟩
instance : Und Tryz.prog 117 (.pointer 194) := ⟨by kernel_rfl⟩
instance : Scal Tryz.prog 117 := ⟨by kernel_rfl, by kernel_rfl⟩
instance : Zero Tryz.prog 117 (.pointer none) [(.pointer none)] := ⟨by kernel_rfl, rfl⟩
instance : Scal Tryz.prog 118 := ⟨by kernel_rfl, by kernel_rfl⟩
instance : Zero Tryz.prog 118 .nilFunc [.nilFunc] := ⟨by kernel_rfl, rfl⟩
instance : Und Tryz.prog 119 (.slice 117) := ⟨by kernel_rfl⟩
instance : Scal Tryz.prog 119 := ⟨by kernel_rfl, by kernel_rfl⟩
instance : SlTC Tryz.prog 119 117 1 8 := ⟨SlT.of (z := (.pointer none)) Tryz.underlying119 (by kernel_rfl) rfl (by decide)⟩
instance : Zero Tryz.prog 119 (.slice none 0 0) [(.slice none 0 0)] := ⟨by kernel_rfl, rfl⟩
instance : Und Tryz.prog 120 (.pointer 123) := ⟨by kernel_rfl⟩
instance : Scal Tryz.prog 120 := ⟨by kernel_rfl, by kernel_rfl⟩
instance : Zero Tryz.prog 120 (.pointer none) [(.pointer none)] := ⟨by kernel_rfl, rfl⟩
instance : Und Tryz.prog 121 (.slice 196) := ⟨by kernel_rfl⟩
instance : Scal Tryz.prog 121 := ⟨by kernel_rfl, by kernel_rfl⟩
instance : SlTC Tryz.prog 121 196 3 24 := ⟨SlT.of (z := (.agg #[(.int .i64 0), (.int .i64 0), (u64 0)])) Tryz.underlying121 (by kernel_rfl) rfl (by decide)⟩
instance : Zero Tryz.prog 121 (.slice none 0 0) [(.slice none 0 0)] := ⟨by kernel_rfl, rfl⟩
instance : Aggr Tryz.prog 122 2 := ⟨by kernel_rfl, by kernel_rfl⟩
instance : Zero Tryz.prog 122 (.agg #[(.slice none 0 0), (.int .i64 0)]) [(.slice none 0 0), (.int .i64 0)] := ⟨by kernel_rfl, rfl⟩
instance : Fld Tryz.prog 122 0 0 121 := ⟨0, by kernel_rfl⟩
instance : Fld Tryz.prog 122 1 1 3 := ⟨0, by kernel_rfl⟩
instance : Places Tryz.prog 122 [(0, 1), (1, 1)] := ⟨by kernel_rfl⟩
instance : Aggr Tryz.prog 123 2 := ⟨by kernel_rfl, by kernel_rfl⟩
instance : Zero Tryz.prog 123 (.agg #[(.slice none 0 0), (.int .i64 0)]) [(.slice none 0 0), (.int .i64 0)] := ⟨by kernel_rfl, rfl⟩
instance : Fld Tryz.prog 123 0 0 121 := ⟨0, by kernel_rfl⟩
instance : Fld Tryz.prog 123 1 1 3 := ⟨0, by kernel_rfl⟩
instance : Places Tryz.prog 123 [(0, 1), (1, 1)] := ⟨by kernel_rfl⟩
instance : Und Tryz.prog 124 (.slice 120) := ⟨by kernel_rfl⟩
instance : Scal Tryz.prog 124 := ⟨by kernel_rfl, by kernel_rfl⟩
instance : SlTC Tryz.prog 124 120 1 8 := ⟨SlT.of (z := (.pointer none)) Tryz.underlying124 (by kernel_rfl) rfl (by decide)⟩
instance : Zero Tryz.prog 124 (.slice none 0 0) [(.slice none 0 0)] := ⟨by kernel_rfl, rfl⟩
instance : Aggr Tryz.prog 125 4 := ⟨by kernel_rfl, by kernel_rfl⟩
instance : Zero Tryz.prog 125 (.agg #[(.int .i64 0), (.int .i64 0), (u64 0), (.bool false)]) [(.int .i64 0), (.int .i64 0), (u64 0), (.bool false)] := ⟨by kernel_rfl, rfl⟩
instance : Fld Tryz.prog 125 0 0 3 := ⟨0, by kernel_rfl⟩
instance : Fld Tryz.prog 125 1 1 3 := ⟨0, by kernel_rfl⟩
instance : Fld Tryz.prog 125 2 2 35 := ⟨0, by kernel_rfl⟩
instance : Fld Tryz.prog 125 3 3 4 := ⟨0, by kernel_rfl⟩
instance : Places Tryz.prog 125 [(0, 1), (1, 1), (2, 1), (3, 1)] := ⟨by kernel_rfl⟩
instance : Aggr Tryz.prog 126 4 := ⟨by kernel_rfl, by kernel_rfl⟩
instance : Zero Tryz.prog 126 (.agg #[(.int .i64 0), (.int .i64 0), (u64 0), (.bool false)]) [(.int .i64 0), (.int .i64 0), (u64 0), (.bool false)] := ⟨by kernel_rfl, rfl⟩
instance : Fld Tryz.prog 126 0 0 3 := ⟨0, by kernel_rfl⟩
instance : Fld Tryz.prog 126 1 1 3 := ⟨0, by kernel_rfl⟩
instance : Fld Tryz.prog 126 2 2 35 := ⟨0, by kernel_rfl⟩
instance : Fld Tryz.prog 126 3 3 4 := ⟨0, by kernel_rfl⟩
instance : Places Tryz.prog 126 [(0, 1), (1, 1), (2, 1), (3, 1)] := ⟨by kernel_rfl⟩
instance : Scal Tryz.prog 127 := ⟨by kernel_rfl, by kernel_rfl⟩
instance : Zero Tryz.prog 127 .nilFunc [.nilFunc] := ⟨by kernel_rfl, rfl⟩
instance : Scal Tryz.prog 129 := ⟨by kernel_rfl, by kernel_rfl⟩
instance : Zero Tryz.prog 129 .nilFunc [.nilFunc] := ⟨by kernel_rfl, rfl⟩
instance : Scal Tryz.prog 130 := ⟨by kernel_rfl, by kernel_rfl⟩
instance : Zero Tryz.prog 130 .nilFunc [.nilFunc] := ⟨by kernel_rfl, rfl⟩
instance : Und Tryz.prog 131 (.pointer 200) := ⟨by kernel_rfl⟩
instance : Scal Tryz.prog 131 := ⟨by kernel_rfl, by kernel_rfl⟩
instance : Zero Tryz.prog 131 (.pointer none) [(.pointer none)] := ⟨by kernel_rfl, rfl⟩
instance : Scal Tryz.prog 132 := ⟨by kernel_rfl, by kernel_rfl⟩
instance : Zero Tryz.prog 132 .nilFunc [.nilFunc] := ⟨by kernel_rfl, rfl⟩
instance : Und Tryz.prog 133 (.pointer 149) := ⟨by kernel_rfl⟩
instance : Scal Tryz.prog 133 := ⟨by kernel_rfl, by kernel_rfl⟩
instance : Zero Tryz.prog 133 (.pointer none) [(.pointer none)] := ⟨by kernel_rfl, rfl⟩
instance : Scal Tryz.prog 134 := ⟨by kernel_rfl, by kernel_rfl⟩
instance : Zero Tryz.prog 134 .nilFunc [.nilFunc] := ⟨by kernel_rfl, rfl⟩
instance : Aggr Tryz.prog 135 6 := ⟨by kernel_rfl, by kernel_rfl⟩
instance : Zero Tryz.prog 135 (.agg #[(.int .i64 0), (u32 0), (u32 0), (.int .i64 0), (u32 0), (u64 0)]) [(.int .i64 0), (u32 0), (u32 0), (.int .i64 0), (u32 0), (u64 0)] := ⟨by kernel_rfl, rfl⟩
instance : Fld Tryz.prog 135 0 0 3 := ⟨0, by kernel_rfl⟩
instance : Fld Tryz.prog 135 1 1 34 := ⟨0, by kernel_rfl⟩
instance : Fld Tryz.prog 135 2 2 34 := ⟨0, by kernel_rfl⟩
instance : Fld Tryz.prog 135 3 3 3 := ⟨0, by kernel_rfl⟩
instance : Fld Tryz.prog 135 4 4 34 := ⟨0, by kernel_rfl⟩
instance : Fld Tryz.prog 135 5 5 35 := ⟨0, by kernel_rfl⟩
instance : Places Tryz.prog 135 [(0, 1), (1, 1), (2, 1), (3, 1), (4, 1), (5, 1)] := ⟨by kernel_rfl⟩
instance : Aggr Tryz.prog 136 6 := ⟨by kernel_rfl, by kernel_rfl⟩
instance : Zero Tryz.prog 136 (.agg #[(.int .i64 0), (u32 0), (u32 0), (.int .i64 0), (u32 0), (u64 0)]) [(.int .i64 0), (u32 0), (u32 0), (.int .i64 0), (u32 0), (u64 0)] := ⟨by kernel_rfl, rfl⟩
instance : Fld Tryz.prog 136 0 0 3 := ⟨0, by kernel_rfl⟩
instance : Fld Tryz.prog 136 1 1 34 := ⟨0, by kernel_rfl⟩
instance : Fld Tryz.prog 136 2 2 34 := ⟨0, by kernel_rfl⟩
instance : Fld Tryz.prog 136 3 3 3 := ⟨0, by kernel_rfl⟩
instance : Fld Tryz.prog 136 4 4 34 := ⟨0, by kernel_rfl⟩
instance : Fld Tryz.prog 136 5 5 35 := ⟨0, by kernel_rfl⟩
instance : Places Tryz.prog 136 [(0, 1), (1, 1), (2, 1), (3, 1), (4, 1), (5, 1)] := ⟨by kernel_rfl⟩
instance : Scal Tryz.prog 137 := ⟨by kernel_rfl, by kernel_rfl⟩
instance : Zero Tryz.prog 137 .nilFunc [.nilFunc] := ⟨by kernel_rfl, rfl⟩
instance : Scal Tryz.prog 139 := ⟨by kernel_rfl, by kernel_rfl⟩
instance : Zero Tryz.prog 139 .nilFunc [.nilFunc] := ⟨by kernel_rfl, rfl⟩
instance : Scal Tryz.prog 140 := ⟨by kernel_rfl, by kernel_rfl⟩
instance : Zero Tryz.prog 140 .nilFunc [.nilFunc] := ⟨by kernel_rfl, rfl⟩
instance : Scal Tryz.prog 141 := ⟨by kernel_rfl, by kernel_rfl⟩
instance : Zero Tryz.prog 141 .nilFunc [.nilFunc] := ⟨by kernel_rfl, rfl⟩
instance : Scal Tryz.prog 142 := ⟨by kernel_rfl, by kernel_rfl⟩
instance : Zero Tryz.prog 142 .nilFunc [.nilFunc] := ⟨by kernel_rfl, rfl⟩
instance : Scal Tryz.prog 143 := ⟨by kernel_rfl, by kernel_rfl⟩
instance : Zero Tryz.prog 143 .nilFunc [.nilFunc] := ⟨by kernel_rfl, rfl⟩
instance : Aggr Tryz.prog 144 2 := ⟨by kernel_rfl, by kernel_rfl⟩
instance : Zero Tryz.prog 144 (.agg #[(u32 0), (u32 0)]) [(u32 0), (u32 0)] := ⟨by kernel_rfl, rfl⟩
instance : Fld Tryz.prog 144 0 0 34 := ⟨0, by kernel_rfl⟩
instance : Fld Tryz.prog 144 1 1 34 := ⟨0, by kernel_rfl⟩
instance : Places Tryz.prog 144 [(0, 1), (1, 1)] := ⟨by kernel_rfl⟩
instance : Aggr Tryz.prog 145 2 := ⟨by kernel_rfl, by kernel_rfl⟩
instance : Zero Tryz.prog 145 (.agg #[(u32 0), (u32 0)]) [(u32 0), (u32 0)] := ⟨by kernel_rfl, rfl⟩
instance : Fld Tryz.prog 145 0 0 34 := ⟨0, by kernel_rfl⟩
instance : Fld Tryz.prog 145 1 1 34 := ⟨0, by kernel_rfl⟩
instance : Places Tryz.prog 145 [(0, 1), (1, 1)] := ⟨by kernel_rfl⟩
instance : Scal Tryz.prog 146 := ⟨by kernel_rfl, by kernel_rfl⟩
instance : Zero Tryz.prog 146 .nilFunc [.nilFunc] := ⟨by kernel_rfl, rfl⟩
instance : Scal Tryz.prog 147 := ⟨by kernel_rfl, by kernel_rfl⟩
instance : Zero Tryz.prog 147 .nilFunc [.nilFunc] := ⟨by kernel_rfl, rfl⟩
instance : Aggr Tryz.prog 148 2 := ⟨by kernel_rfl, by kernel_rfl⟩
instance : Zero Tryz.prog 148 (.agg #[(u32 0), (.slice none 0 0)]) [(u32 0), (.slice none 0 0)] := ⟨by kernel_rfl, rfl⟩
instance : Fld Tryz.prog 148 0 0 34 := ⟨0, by kernel_rfl⟩
instance : Fld Tryz.prog 148 1 1 32 := ⟨0, by kernel_rfl⟩
instance : Places Tryz.prog 148 [(0, 1), (1, 1)] := ⟨by kernel_rfl⟩
instance : Aggr Tryz.prog 149 2 := ⟨by kernel_rfl, by kernel_rfl⟩
instance : Zero Tryz.prog 149 (.agg #[(u32 0), (.slice none 0 0)]) [(u32 0), (.slice none 0 0)] := ⟨by kernel_rfl, rfl⟩
instance : Fld Tryz.prog 149 0 0 34 := ⟨0, by kernel_rfl⟩
instance : Fld Tryz.prog 149 1 1 32 := ⟨0, by kernel_rfl⟩
instance : Places Tryz.prog 149 [(0, 1), (1, 1)] := ⟨by kernel_rfl⟩
instance : Scal Tryz.prog 150 := ⟨by kernel_rfl, by kernel_rfl⟩
instance : Zero Tryz.prog 150 .nilFunc [.nilFunc] := ⟨by kernel_rfl, rfl⟩
instance : Und Tryz.prog 151 (.pointer 219) := ⟨by kernel_rfl⟩
instance : Scal Tryz.prog 151 := ⟨by kernel_rfl, by kernel_rfl⟩
instance : Zero Tryz.prog 151 (.pointer none) [(.pointer none)] := ⟨by kernel_rfl, rfl⟩
instance : Scal Tryz.prog 153 := ⟨by kernel_rfl, by kernel_rfl⟩
instance : Zero Tryz.prog 153 .nilFunc [.nilFunc] := ⟨by kernel_rfl, rfl⟩
instance : Scal Tryz.prog 154 := ⟨by kernel_rfl, by kernel_rfl⟩
instance : Zero Tryz.prog 154 .nilFunc [.nilFunc] := ⟨by kernel_rfl, rfl⟩
instance : Scal Tryz.prog 155 := ⟨by kernel_rfl, by kernel_rfl⟩
instance : Zero Tryz.prog 155 .nilFunc [.nilFunc] := ⟨by kernel_rfl, rfl⟩
instance : Scal Tryz.prog 157 := ⟨by kernel_rfl, by kernel_rfl⟩
instance : Zero Tryz.prog 157 .nilFunc [.nilFunc] := ⟨by kernel_rfl, rfl⟩
instance : Aggr Tryz.prog 158 1 := ⟨by kernel_rfl, by kernel_rfl⟩
instance : Zero Tryz.prog 158 (.agg #[(.pointer none)]) [(.pointer none)] := ⟨by kernel_rfl, rfl⟩
instance : Fld Tryz.prog 158 0 0 98 := ⟨0, by kernel_rfl⟩
instance : Places Tryz.prog 158 [(0, 1)] := ⟨by kernel_rfl⟩
instance : Aggr Tryz.prog 159 1 := ⟨by kernel_rfl, by kernel_rfl⟩
instance : Zero Tryz.prog 159 (.agg #[(.pointer none)]) [(.pointer none)] := ⟨by kernel_rfl, rfl⟩
instance : Fld Tryz.prog 159 0 0 98 := ⟨0, by kernel_rfl⟩
instance : Places Tryz.prog 159 [(0, 1)] := ⟨by kernel_rfl⟩
instance : Scal Tryz.prog 161 := ⟨by kernel_rfl, by kernel_rfl⟩
instance : Zero Tryz.prog 161 .nilFunc [.nilFunc] := ⟨by kernel_rfl, rfl⟩
instance : Scal Tryz.prog 162 := ⟨by kernel_rfl, by kernel_rfl⟩
instance : Zero Tryz.prog 162 .nilFunc [.nilFunc] := ⟨by kernel_rfl, rfl⟩
instance : Scal Tryz.prog 163 := ⟨by kernel_rfl, by kernel_rfl⟩
instance : Zero Tryz.prog 163 .nilFunc [.nilFunc] := ⟨by kernel_rfl, rfl⟩
instance : Scal Tryz.prog 164 := ⟨by kernel_rfl, by kernel_rfl⟩
instance : Zero Tryz.prog 164 .nilFunc [.nilFunc] := ⟨by kernel_rfl, rfl⟩
instance : Scal Tryz.prog 165 := ⟨by kernel_rfl, by kernel_rfl⟩
instance : Zero Tryz.prog 165 .nilFunc [.nilFunc] := ⟨by kernel_rfl, rfl⟩
instance : Scal Tryz.prog 166 := ⟨by kernel_rfl, by kernel_rfl⟩
instance : Zero Tryz.prog 166 .nilFunc [.nilFunc] := ⟨by kernel_rfl, rfl⟩
instance : Aggr Tryz.prog 167 0 := ⟨by kernel_rfl, by kernel_rfl⟩
instance : Zero Tryz.prog 167 (.agg #[]) [] := ⟨by kernel_rfl, rfl⟩
instance : Places Tryz.prog 167 [] := ⟨by kernel_rfl⟩
instance : Aggr Tryz.prog 168 0 := ⟨by kernel_rfl, by kernel_rfl⟩
instance : Zero Tryz.prog 168 (.agg #[]) [] := ⟨by kernel_rfl, rfl⟩
instance : Places Tryz.prog 168 [] := ⟨by kernel_rfl⟩
instance : Aggr Tryz.prog 169 2 := ⟨by kernel_rfl, by kernel_rfl⟩
instance : Zero Tryz.prog 169 (.agg #[(.int .i32 0), (u32 0)]) [(.int .i32 0), (u32 0)] := ⟨by kernel_rfl, rfl⟩
instance : Fld Tryz.prog 169 0 0 21 := ⟨0, by kernel_rfl⟩
instance : Fld Tryz.prog 169 1 1 34 := ⟨0, by kernel_rfl⟩
instance : Places Tryz.prog 169 [(0, 1), (1, 1)] := ⟨by kernel_rfl⟩
instance : Aggr Tryz.prog 170 2 := ⟨by kernel_rfl, by kernel_rfl⟩
instance : Zero Tryz.prog 170 (.agg #[(.int .i32 0), (u32 0)]) [(.int .i32 0), (u32 0)] := ⟨by kernel_rfl, rfl⟩
instance : Fld Tryz.prog 170 0 0 21 := ⟨0, by kernel_rfl⟩
instance : Fld Tryz.prog 170 1 1 34 := ⟨0, by kernel_rfl⟩
instance : Places Tryz.prog 170 [(0, 1), (1, 1)] := ⟨by kernel_rfl⟩
instance : Aggr Tryz.prog 171 2 := ⟨by kernel_rfl, by kernel_rfl⟩
instance : Zero Tryz.prog 171 (.agg #[(.int .i32 0), (u32 0)]) [(.int .i32 0), (u32 0)] := ⟨by kernel_rfl, rfl⟩
instance : Fld Tryz.prog 171 1 0 170 := ⟨1, by kernel_rfl⟩
instance : Places Tryz.prog 171 [(0, 0), (0, 2)] := ⟨by kernel_rfl⟩
instance : Aggr Tryz.prog 172 2 := ⟨by kernel_rfl, by kernel_rfl⟩
instance : Zero Tryz.prog 172 (.agg #[(.int .i32 0), (u32 0)]) [(.int .i32 0), (u32 0)] := ⟨by kernel_rfl, rfl⟩
instance : Fld Tryz.prog 172 1 0 170 := ⟨1, by kernel_rfl⟩
instance : Places Tryz.prog 172 [(0, 0), (0, 2)] := ⟨by kernel_rfl⟩
instance : Und Tryz.prog 173 (.pointer 281) := ⟨by kernel_rfl⟩
instance : Scal Tryz.prog 173 := ⟨by kernel_rfl, by kernel_rfl⟩
instance : Zero Tryz.prog 173 (.pointer none) [(.pointer none)] := ⟨by kernel_rfl, rfl⟩
instance : Und Tryz.prog 174 (.map 34 34) := ⟨by kernel_rfl⟩
instance : Scal Tryz.prog 174 := ⟨by kernel_rfl, by kernel_rfl⟩
instance : Zero Tryz.prog 174 (.map none) [(.map none)] := ⟨by kernel_rfl, rfl⟩
instance : Aggr Tryz.prog 175 3 := ⟨by kernel_rfl, by kernel_rfl⟩
instance : Zero Tryz.prog 175 (.agg #[(.slice none 0 0), (u32 0), (.map none)]) [(.slice none 0 0), (u32 0), (.map none)] := ⟨by kernel_rfl, rfl⟩
instance : Fld Tryz.prog 175 0 0 49 := ⟨0, by kernel_rfl⟩
instance : Fld Tryz.prog 175 1 1 34 := ⟨0, by kernel_rfl⟩
instance : Fld Tryz.prog 175 2 2 174 := ⟨0, by kernel_rfl⟩
instance : Places Tryz.prog 175 [(0, 1), (1, 1), (2, 1)] := ⟨by kernel_rfl⟩
instance : Aggr Tryz.prog 176 3 := ⟨by kernel_rfl, by kernel_rfl⟩
instance : Zero Tryz.prog 176 (.agg #[(.slice none 0 0), (u32 0), (.map none)]) [(.slice none 0 0), (u32 0), (.map none)] := ⟨by kernel_rfl, rfl⟩
instance : Fld Tryz.prog 176 0 0 49 := ⟨0, by kernel_rfl⟩
instance : Fld Tryz.prog 176 1 1 34 := ⟨0, by kernel_rfl⟩
instance : Fld Tryz.prog 176 2 2 174 := ⟨0, by kernel_rfl⟩
instance : Places Tryz.prog 176 [(0, 1), (1, 1), (2, 1)] := ⟨by kernel_rfl⟩
instance : Und Tryz.prog 177 (.map 336 35) := ⟨by kernel_rfl⟩
instance : Scal Tryz.prog 177 := ⟨by kernel_rfl, by kernel_rfl⟩
instance : Zero Tryz.prog 177 (.map none) [(.map none)] := ⟨by kernel_rfl, rfl⟩
instance : Und Tryz.prog 178 (.slice 336) := ⟨by kernel_rfl⟩
instance : Scal Tryz.prog 178 := ⟨by kernel_rfl, by kernel_rfl⟩
instance : SlTC Tryz.prog 178 336 2 8 := ⟨SlT.of (z := (.agg #[(u32 0), (u32 0)])) Tryz.underlying178 (by kernel_rfl) rfl (by decide)⟩
instance : Zero Tryz.prog 178 (.slice none 0 0) [(.slice none 0 0)] := ⟨by kernel_rfl, rfl⟩
instance : Und Tryz.prog 179 (.map 34 236) := ⟨by kernel_rfl⟩
instance : Scal Tryz.prog 179 := ⟨by kernel_rfl, by kernel_rfl⟩
instance : Zero Tryz.prog 179 (.map none) [(.map none)] := ⟨by kernel_rfl, rfl⟩
instance : Und Tryz.prog 180 (.map 34 232) := ⟨by kernel_rfl⟩
instance : Scal Tryz.prog 180 := ⟨by kernel_rfl, by kernel_rfl⟩
instance : Zero Tryz.prog 180 (.map none) [(.map none)] := ⟨by kernel_rfl, rfl⟩
instance : Und Tryz.prog 181 (.map 3 232) := ⟨by kernel_rfl⟩
instance : Scal Tryz.prog 181 := ⟨by kernel_rfl, by kernel_rfl⟩
instance : Zero Tryz.prog 181 (.map none) [(.map none)] := ⟨by kernel_rfl, rfl⟩
instance : Und Tryz.prog 182 (.pointer 275) := ⟨by kernel_rfl⟩
instance : Scal Tryz.prog 182 := ⟨by kernel_rfl, by kernel_rfl⟩
instance : Zero Tryz.prog 182 (.pointer none) [(.pointer none)] := ⟨by kernel_rfl, rfl⟩
instance : Aggr Tryz.prog 183 25 := ⟨by kernel_rfl, by kernel_rfl⟩
instance : Zero Tryz.prog 183 (.agg #[(.int .i32 0), (u32 0), (u32 0), (u32 0), (.pointer none), (.slice none 0 0), (u32 0), (.map none), (u64 0), (.map none), (.slice none 0 0), (.map none), (.map none), (.map none), (.pointer none), (.int .i64 0), (u32 0), (u32 0), (.slice none 0 0), (u64 0), (strV []), (.bool false), (.slice none 0 0), (.slice none 0 0), (.slice none 0 0)]) [(.int .i32 0), (u32 0), (u32 0), (u32 0), (.pointer none), (.slice none 0 0), (u32 0), (.map none), (u64 0), (.map none), (.slice none 0 0), (.map none), (.map none), (.map none), (.pointer none), (.int .i64 0), (u32 0), (u32 0), (.slice none 0 0), (u64 0), (strV []), (.bool false), (.slice none 0 0), (.slice none 0 0), (.slice none 0 0)] := ⟨by kernel_rfl, rfl⟩
instance : Fld Tryz.prog 183 0 0 172 := ⟨1, by kernel_rfl⟩
instance : Fld Tryz.prog 183 1 2 34 := ⟨0, by kernel_rfl⟩
instance : Fld Tryz.prog 183 2 3 34 := ⟨0, by kernel_rfl⟩
instance : Fld Tryz.prog 183 3 4 173 := ⟨0, by kernel_rfl⟩
instance : Fld Tryz.prog 183 4 5 176 := ⟨2, by kernel_rfl⟩
instance : Fld Tryz.prog 183 5 8 35 := ⟨0, by kernel_rfl⟩
instance : Fld Tryz.prog 183 6 9 177 := ⟨0, by kernel_rfl⟩
instance : Fld Tryz.prog 183 7 10 178 := ⟨0, by kernel_rfl⟩
instance : Fld Tryz.prog 183 8 11 179 := ⟨0, by kernel_rfl⟩
instance : Fld Tryz.prog 183 9 12 180 := ⟨0, by kernel_rfl⟩
instance : Fld Tryz.prog 183 10 13 181 := ⟨0, by kernel_rfl⟩
instance : Fld Tryz.prog 183 11 14 182 := ⟨0, by kernel_rfl⟩
instance : Fld Tryz.prog 183 12 15 3 := ⟨0, by kernel_rfl⟩
instance : Fld Tryz.prog 183 13 16 34 := ⟨0, by kernel_rfl⟩
instance : Fld Tryz.prog 183 14 17 34 := ⟨0, by kernel_rfl⟩
instance : Fld Tryz.prog 183 15 18 73 := ⟨0, by kernel_rfl⟩
instance : Fld Tryz.prog 183 16 19 35 := ⟨0, by kernel_rfl⟩
instance : Fld Tryz.prog 183 17 20 67 := ⟨4, by kernel_rfl⟩
instance : Places Tryz.prog 183 [(0, 2), (2, 1), (3, 1), (4, 1), (5, 3), (8, 1), (9, 1), (10, 1), (11, 1), (12, 1), (13, 1), (14, 1), (15, 1), (16, 1), (17, 1), (18, 1), (19, 1), (20, 5)] := ⟨by kernel_rfl⟩
instance : Aggr Tryz.prog 184 25 := ⟨by kernel_rfl, by kernel_rfl⟩
instance : Zero Tryz.prog 184 (.agg #[(.int .i32 0), (u32 0), (u32 0), (u32 0), (.pointer none), (.slice none 0 0), (u32 0), (.map none), (u64 0), (.map none), (.slice none 0 0), (.map none), (.map none), (.map none), (.pointer none), (.int .i64 0), (u32 0), (u32 0), (.slice none 0 0), (u64 0), (strV []), (.bool false), (.slice none 0 0), (.slice none 0 0), (.slice none 0 0)]) [(.int .i32 0), (u32 0), (u32 0), (u32 0), (.pointer none), (.slice none 0 0), (u32 0), (.map none), (u64 0), (.map none), (.slice none 0 0), (.map none), (.map none), (.map none), (.pointer none), (.int .i64 0), (u32 0), (u32 0), (.slice none 0 0), (u64 0), (strV []), (.bool false), (.slice none 0 0), (.slice none 0 0), (.slice none 0 0)] := ⟨by kernel_rfl, rfl⟩
instance : Fld Tryz.prog 184 0 0 172 := ⟨1, by kernel_rfl⟩
instance : Fld Tryz.prog 184 1 2 34 := ⟨0, by kernel_rfl⟩
instance : Fld Tryz.prog 184 2 3 34 := ⟨0, by kernel_rfl⟩
instance : Fld Tryz.prog 184 3 4 173 := ⟨0, by kernel_rfl⟩
instance : Fld Tryz.prog 184 4 5 176 := ⟨2, by kernel_rfl⟩
instance : Fld Tryz.prog 184 5 8 35 := ⟨0, by kernel_rfl⟩
instance : Fld Tryz.prog 184 6 9 177 := ⟨0, by kernel_rfl⟩
instance : Fld Tryz.prog 184 7 10 178 := ⟨0, by kernel_rfl⟩
instance : Fld Tryz.prog 184 8 11 179 := ⟨0, by kernel_rfl⟩
instance : Fld Tryz.prog 184 9 12 180 := ⟨0, by kernel_rfl⟩
instance : Fld Tryz.prog 184 10 13 181 := ⟨0, by kernel_rfl⟩
instance : Fld Tryz.prog 184 11 14 182 := ⟨0, by kernel_rfl⟩
instance : Fld Tryz.prog 184 12 15 3 := ⟨0, by kernel_rfl⟩
instance : Fld Tryz.prog 184 13 16 34 := ⟨0, by kernel_rfl⟩
instance : Fld Tryz.prog 184 14 17 34 := ⟨0, by kernel_rfl⟩
instance : Fld Tryz.prog 184 15 18 73 := ⟨0, by kernel_rfl⟩
instance : Fld Tryz.prog 184 16 19 35 := ⟨0, by kernel_rfl⟩
instance : Fld Tryz.prog 184 17 20 67 := ⟨4, by kernel_rfl⟩
instance : Places Tryz.prog 184 [(0, 2), (2, 1), (3, 1), (4, 1), (5, 3), (8, 1), (9, 1), (10, 1), (11, 1), (12, 1), (13, 1), (14, 1), (15, 1), (16, 1), (17, 1), (18, 1), (19, 1), (20, 5)] := ⟨by kernel_rfl⟩
instance : Scal Tryz.prog 186 := ⟨by kernel_rfl, by kernel_rfl⟩
instance : Zero Tryz.prog 186 .nilFunc [.nilFunc] := ⟨by kernel_rfl, rfl⟩
instance : Scal Tryz.prog 187 := ⟨by kernel_rfl, by kernel_rfl⟩
instance : Zero Tryz.prog 187 .nilFunc [.nilFunc] := ⟨by kernel_rfl, rfl⟩
instance : Scal Tryz.prog 188 := ⟨by kernel_rfl, by kernel_rfl⟩
instance : Zero Tryz.prog 188 .nilFunc [.nilFunc] := ⟨by kernel_rfl, rfl⟩
instance : Scal Tryz.prog 189 := ⟨by kernel_rfl, by kernel_rfl⟩
instance : Zero Tryz.prog 189 .nilFunc [.nilFunc] := ⟨by kernel_rfl, rfl⟩
instance : Scal Tryz.prog 190 := ⟨by kernel_rfl, by kernel_rfl⟩
instance : Zero Tryz.prog 190 .nilFunc [.nilFunc] := ⟨by kernel_rfl, rfl⟩
instance : Scal Tryz.prog 191 := ⟨by kernel_rfl, by kernel_rfl⟩
instance : Zero Tryz.prog 191 .nilFunc [.nilFunc] := ⟨by kernel_rfl, rfl⟩
instance : Scal Tryz.prog 192 := ⟨by kernel_rfl, by kernel_rfl⟩
instance : Zero Tryz.prog 192 .nilFunc [.nilFunc] := ⟨by kernel_rfl, rfl⟩
instance : Aggr Tryz.prog 193 1 := ⟨by kernel_rfl, by kernel_rfl⟩
instance : Zero Tryz.prog 193 (.agg #[(.pointer none)]) [(.pointer none)] := ⟨by kernel_rfl, rfl⟩
instance : Fld Tryz.prog 193 0 0 182 := ⟨0, by kernel_rfl⟩
instance : Places Tryz.prog 193 [(0, 1)] := ⟨by kernel_rfl⟩
instance : Aggr Tryz.prog 194 1 := ⟨by kernel_rfl, by kernel_rfl⟩
instance : Zero Tryz.prog 194 (.agg #[(.pointer none)]) [(.pointer none)] := ⟨by kernel_rfl, rfl⟩
instance : Fld Tryz.prog 194 0 0 182 := ⟨0, by kernel_rfl⟩
instance : Places Tryz.prog 194 [(0, 1)] := ⟨by kernel_rfl⟩
instance : Aggr Tryz.prog 195 3 := ⟨by kernel_rfl, by kernel_rfl⟩
instance : Zero Tryz.prog 195 (.agg #[(.int .i64 0), (.int .i64 0), (u64 0)]) [(.int .i64 0), (.int .i64 0), (u64 0)] := ⟨by kernel_rfl, rfl⟩
instance : Fld Tryz.prog 195 0 0 3 := ⟨0, by kernel_rfl⟩
instance : Fld Tryz.prog 195 1 1 3 := ⟨0, by kernel_rfl⟩
instance : Fld Tryz.prog 195 2 2 35 := ⟨0, by kernel_rfl⟩
instance : Places Tryz.prog 195 [(0, 1), (1, 1), (2, 1)] := ⟨by kernel_rfl⟩
instance : Aggr Tryz.prog 196 3 := ⟨by kernel_rfl, by kernel_rfl⟩
instance : Zero Tryz.prog 196 (.agg #[(.int .i64 0), (.int .i64 0), (u64 0)]) [(.int .i64 0), (.int .i64 0), (u64 0)] := ⟨by kernel_rfl, rfl⟩
instance : Fld Tryz.prog 196 0 0 3 := ⟨0, by kernel_rfl⟩
instance : Fld Tryz.prog 196 1 1 3 := ⟨0, by kernel_rfl⟩
instance : Fld Tryz.prog 196 2 2 35 := ⟨0, by kernel_rfl⟩
instance : Places Tryz.prog 196 [(0, 1), (1, 1), (2, 1)] := ⟨by kernel_rfl⟩
instance : Scal Tryz.prog 197 := ⟨by kernel_rfl, by kernel_rfl⟩
instance : Zero Tryz.prog 197 .nilFunc [.nilFunc] := ⟨by kernel_rfl, rfl⟩
instance : Scal Tryz.prog 198 := ⟨by kernel_rfl, by kernel_rfl⟩
instance : Zero Tryz.prog 198 .nilFunc [.nilFunc] := ⟨by kernel_rfl, rfl⟩
instance : Aggr Tryz.prog 199 1 := ⟨by kernel_rfl, by kernel_rfl⟩
instance : Zero Tryz.prog 199 (.agg #[(.pointer none)]) [(.pointer none)] := ⟨by kernel_rfl, rfl⟩
instance : Fld Tryz.prog 199 0 0 173 := ⟨0, by kernel_rfl⟩
instance : Places Tryz.prog 199 [(0, 1)] := ⟨by kernel_rfl⟩
instance : Aggr Tryz.prog 200 1 := ⟨by kernel_rfl, by kernel_rfl⟩
instance : Zero Tryz.prog 200 (.agg #[(.pointer none)]) [(.pointer none)] := ⟨by kernel_rfl, rfl⟩
instance : Fld Tryz.prog 200 0 0 173 := ⟨0, by kernel_rfl⟩
instance : Places Tryz.prog 200 [(0, 1)] := ⟨by kernel_rfl⟩
instance : Scal Tryz.prog 201 := ⟨by kernel_rfl, by kernel_rfl⟩
instance : Zero Tryz.prog 201 .nilFunc [.nilFunc] := ⟨by kernel_rfl, rfl⟩
instance : Scal Tryz.prog 202 := ⟨by kernel_rfl, by kernel_rfl⟩
instance : Zero Tryz.prog 202 .nilFunc [.nilFunc] := ⟨by kernel_rfl, rfl⟩
instance : Scal Tryz.prog 203 := ⟨by kernel_rfl, by kernel_rfl⟩
instance : Zero Tryz.prog 203 .nilFunc [.nilFunc] := ⟨by kernel_rfl, rfl⟩
instance : Scal Tryz.prog 204 := ⟨by kernel_rfl, by kernel_rfl⟩
instance : Zero Tryz.prog 204 .nilFunc [.nilFunc] := ⟨by kernel_rfl, rfl⟩
instance : Scal Tryz.prog 205 := ⟨by kernel_rfl, by kernel_rfl⟩
instance : Zero Tryz.prog 205 .nilFunc [.nilFunc] := ⟨by kernel_rfl, rfl⟩
instance : Scal Tryz.prog 206 := ⟨by kernel_rfl, by kernel_rfl⟩
instance : Zero Tryz.prog 206 .nilFunc [.nilFunc] := ⟨by kernel_rfl, rfl⟩
instance : Scal Tryz.prog 208 := ⟨by kernel_rfl, by kernel_rfl⟩
instance : Zero Tryz.prog 208 .nilFunc [.nilFunc] := ⟨by kernel_rfl, rfl⟩
instance : Scal Tryz.prog 209 := ⟨by kernel_rfl, by kernel_rfl⟩
instance : Zero Tryz.prog 209 .nilFunc [.nilFunc] := ⟨by kernel_rfl, rfl⟩
instance : Und Tryz.prog 210 (.pointer 291) := ⟨by kernel_rfl⟩
instance : Scal Tryz.prog 210 := ⟨by kernel_rfl, by kernel_rfl⟩
instance : Zero Tryz.prog 210 (.pointer none) [(.pointer none)] := ⟨by kernel_rfl, rfl⟩
instance : Scal Tryz.prog 212 := ⟨by kernel_rfl, by kernel_rfl⟩
instance : Zero Tryz.prog 212 .nilFunc [.nilFunc] := ⟨by kernel_rfl, rfl⟩
instance : Aggr Tryz.prog 213 16 := ⟨by kernel_rfl, by kernel_rfl⟩
instance : Zero Tryz.prog 213 (.agg #[(.int .i64 0), (u32 0), (strV []), (.int .i64 0), (.int .i64 0), (.int .i64 0), (.bool false), (u32 0), (u32 0), (u32 0), (u32 0), (u32 0), (u32 0), (.slice none 0 0), (strV []), (u64 0)]) [(.int .i64 0), (u32 0), (strV []), (.int .i64 0), (.int .i64 0), (.int .i64 0), (.bool false), (u32 0), (u32 0), (u32 0), (u32 0), (u32 0), (u32 0), (.slice none 0 0), (strV []), (u64 0)] := ⟨by kernel_rfl, rfl⟩
instance : Fld Tryz.prog 213 0 0 3 := ⟨0, by kernel_rfl⟩
instance : Fld Tryz.prog 213 1 1 34 := ⟨0, by kernel_rfl⟩
instance : Fld Tryz.prog 213 2 2 9 := ⟨0, by kernel_rfl⟩
instance : Fld Tryz.prog 213 3 3 46 := ⟨11, by kernel_rfl⟩
instance : Fld Tryz.prog 213 4 15 35 := ⟨0, by kernel_rfl⟩
instance : Places Tryz.prog 213 [(0, 1), (1, 1), (2, 1), (3, 12), (15, 1)] := ⟨by kernel_rfl⟩
instance : Aggr Tryz.prog 214 16 := ⟨by kernel_rfl, by kernel_rfl⟩
instance : Zero Tryz.prog 214 (.agg #[(.int .i64 0), (u32 0), (strV []), (.int .i64 0), (.int .i64 0), (.int .i64 0), (.bool false), (u32 0), (u32 0), (u32 0), (u32 0), (u32 0), (u32 0), (.slice none 0 0), (strV []), (u64 0)]) [(.int .i64 0), (u32 0), (strV []), (.int .i64 0), (.int .i64 0), (.int .i64 0), (.bool false), (u32 0), (u32 0), (u32 0), (u32 0), (u32 0), (u32 0), (.slice none 0 0), (strV []), (u64 0)] := ⟨by kernel_rfl, rfl⟩
instance : Fld Tryz.prog 214 0 0 3 := ⟨0, by kernel_rfl⟩
instance : Fld Tryz.prog 214 1 1 34 := ⟨0, by kernel_rfl⟩
instance : Fld Tryz.prog 214 2 2 9 := ⟨0, by kernel_rfl⟩
instance : Fld Tryz.prog 214 3 3 46 := ⟨11, by kernel_rfl⟩
instance : Fld Tryz.prog 214 4 15 35 := ⟨0, by kernel_rfl⟩
instance : Places Tryz.prog 214 [(0, 1), (1, 1), (2, 1), (3, 12), (15, 1)] := ⟨by kernel_rfl⟩
instance : Scal Tryz.prog 215 := ⟨by kernel_rfl, by kernel_rfl⟩
instance : Zero Tryz.prog 215 .nilFunc [.nilFunc] := ⟨by kernel_rfl, rfl⟩
instance : Und Tryz.prog 216 (.slice 223) := ⟨by kernel_rfl⟩
instance : Scal Tryz.prog 216 := ⟨by kernel_rfl, by kernel_rfl⟩
instance : SlTC Tryz.prog 216 223 1 8 := ⟨SlT.of (z := (.pointer none)) Tryz.underlying216 (by kernel_rfl) rfl (by decide)⟩
instance : Zero Tryz.prog 216 (.slice none 0 0) [(.slice none 0 0)] := ⟨by kernel_rfl, rfl⟩
instance : Und Tryz.prog 217 (.slice 226) := ⟨by kernel_rfl⟩
instance : Scal Tryz.prog 217 := ⟨by kernel_rfl, by kernel_rfl⟩
instance : SlTC Tryz.prog 217 226 1 24 := ⟨SlT.of (z := (.slice none 0 0)) Tryz.underlying217 (by kernel_rfl) rfl (by decide)⟩
instance : Zero Tryz.prog 217 (.slice none 0 0) [(.slice none 0 0)] := ⟨by kernel_rfl, rfl⟩
instance : Aggr Tryz.prog 218 5 := ⟨by kernel_rfl, by kernel_rfl⟩
instance : Zero Tryz.prog 218 (.agg #[(.slice none 0 0), (.slice none 0 0), (.slice none 0 0), (u64 0), (.slice none 0 0)]) [(.slice none 0 0), (.slice none 0 0), (.slice none 0 0), (u64 0), (.slice none 0 0)] := ⟨by kernel_rfl, rfl⟩
instance : Fld Tryz.prog 218 0 0 216 := ⟨0, by kernel_rfl⟩
instance : Fld Tryz.prog 218 1 1 217 := ⟨0, by kernel_rfl⟩
instance : Fld Tryz.prog 218 2 2 30 := ⟨0, by kernel_rfl⟩
instance : Fld Tryz.prog 218 3 3 35 := ⟨0, by kernel_rfl⟩
instance : Fld Tryz.prog 218 4 4 28 := ⟨0, by kernel_rfl⟩
instance : Places Tryz.prog 218 [(0, 1), (1, 1), (2, 1), (3, 1), (4, 1)] := ⟨by kernel_rfl⟩
instance : Aggr Tryz.prog 219 5 := ⟨by kernel_rfl, by kernel_rfl⟩
instance : Zero Tryz.prog 219 (.agg #[(.slice none 0 0), (.slice none 0 0), (.slice none 0 0), (u64 0), (.slice none 0 0)]) [(.slice none 0 0), (.slice none 0 0), (.slice none 0 0), (u64 0), (.slice none 0 0)] := ⟨by kernel_rfl, rfl⟩
instance : Fld Tryz.prog 219 0 0 216 := ⟨0, by kernel_rfl⟩
instance : Fld Tryz.prog 219 1 1 217 := ⟨0, by kernel_rfl⟩
instance : Fld Tryz.prog 219 2 2 30 := ⟨0, by kernel_rfl⟩
instance : Fld Tryz.prog 219 3 3 35 := ⟨0, by kernel_rfl⟩
instance : Fld Tryz.prog 219 4 4 28 := ⟨0, by kernel_rfl⟩
instance : Places Tryz.prog 219 [(0, 1), (1, 1), (2, 1), (3, 1), (4, 1)] := ⟨by kernel_rfl⟩
instance : Und Tryz.prog 220 (.pointer 298) := ⟨by kernel_rfl⟩
instance : Scal Tryz.prog 220 := ⟨by kernel_rfl, by kernel_rfl⟩
instance : Zero Tryz.prog 220 (.pointer none) [(.pointer none)] := ⟨by kernel_rfl, rfl⟩
instance : Scal Tryz.prog 222 := ⟨by kernel_rfl, by kernel_rfl⟩
instance : Zero Tryz.prog 222 .nilFunc [.nilFunc] := ⟨by kernel_rfl, rfl⟩
instance : Und Tryz.prog 223 (.pointer 225) := ⟨by kernel_rfl⟩
instance : Scal Tryz.prog 223 := ⟨by kernel_rfl, by kernel_rfl⟩
instance : Zero Tryz.prog 223 (.pointer none) [(.pointer none)] := ⟨by kernel_rfl, rfl⟩
instance : Aggr Tryz.prog 224 5 := ⟨by kernel_rfl, by kernel_rfl⟩
instance : Zero Tryz.prog 224 (.agg #[(u32 0), (.pointer none), (strV []), (.int .i64 0), (.bool false)]) [(u32 0), (.pointer none), (strV []), (.int .i64 0), (.bool false)] := ⟨by kernel_rfl, rfl⟩
instance : Fld Tryz.prog 224 0 0 34 := ⟨0, by kernel_rfl⟩
instance : Fld Tryz.prog 224 1 1 220 := ⟨0, by kernel_rfl⟩
instance : Fld Tryz.prog 224 2 2 9 := ⟨0, by kernel_rfl⟩
instance : Fld Tryz.prog 224 3 3 3 := ⟨0, by kernel_rfl⟩
instance : Fld Tryz.prog 224 4 4 4 := ⟨0, by kernel_rfl⟩
instance : Places Tryz.prog 224 [(0, 1), (1, 1), (2, 1), (3, 1), (4, 1)] := ⟨by kernel_rfl⟩
instance : Aggr Tryz.prog 225 5 := ⟨by kernel_rfl, by kernel_rfl⟩
instance : Zero Tryz.prog 225 (.agg #[(u32 0), (.pointer none), (strV []), (.int .i64 0), (.bool false)]) [(u32 0), (.pointer none), (strV []), (.int .i64 0), (.bool false)] := ⟨by kernel_rfl, rfl⟩
instance : Fld Tryz.prog 225 0 0 34 := ⟨0, by kernel_rfl⟩
instance : Fld Tryz.prog 225 1 1 220 := ⟨0, by kernel_rfl⟩
instance : Fld Tryz.prog 225 2 2 9 := ⟨0, by kernel_rfl⟩
instance : Fld Tryz.prog 225 3 3 3 := ⟨0, by kernel_rfl⟩
instance : Fld Tryz.prog 225 4 4 4 := ⟨0, by kernel_rfl⟩
instance : Places Tryz.prog 225 [(0, 1), (1, 1), (2, 1), (3, 1), (4, 1)] := ⟨by kernel_rfl⟩
instance : Und Tryz.prog 226 (.slice 4) := ⟨by kernel_rfl⟩
instance : Scal Tryz.prog 226 := ⟨by kernel_rfl, by kernel_rfl⟩
instance : SlTC Tryz.prog 226 4 1 1 := ⟨SlT.of (z := (.bool false)) Tryz.underlying226 (by kernel_rfl) rfl (by decide)⟩
instance : Zero Tryz.prog 226 (.slice none 0 0) [(.slice none 0 0)] := ⟨by kernel_rfl, rfl⟩
instance : Scal Tryz.prog 227 := ⟨by kernel_rfl, by kernel_rfl⟩
instance : Zero Tryz.prog 227 .nilFunc [.nilFunc] := ⟨by kernel_rfl, rfl⟩
instance : Aggr Tryz.prog 228 7 := ⟨by kernel_rfl, by kernel_rfl⟩
instance : Zero Tryz.prog 228 (.agg #[(.int .i64 0), (.int .i64 0), (strV []), (.bool false), (.slice none 0 0), (.slice none 0 0), (.slice none 0 0)]) [(.int .i64 0), (.int .i64 0), (strV []), (.bool false), (.slice none 0 0), (.slice none 0 0), (.slice none 0 0)] := ⟨by kernel_rfl, rfl⟩
instance : Fld Tryz.prog 228 0 0 3 := ⟨0, by kernel_rfl⟩
instance : Fld Tryz.prog 228 1 1 68 := ⟨0, by kernel_rfl⟩
instance : Fld Tryz.prog 228 2 2 67 := ⟨4, by kernel_rfl⟩
instance : Places Tryz.prog 228 [(0, 1), (1, 1), (2, 5)] := ⟨by kernel_rfl⟩
instance : Aggr Tryz.prog 229 7 := ⟨by kernel_rfl, by kernel_rfl⟩
instance : Zero Tryz.prog 229 (.agg #[(.int .i64 0), (.int .i64 0), (strV []), (.bool false), (.slice none 0 0), (.slice none 0 0), (.slice none 0 0)]) [(.int .i64 0), (.int .i64 0), (strV []), (.bool false), (.slice none 0 0), (.slice none 0 0), (.slice none 0 0)] := ⟨by kernel_rfl, rfl⟩
instance : Fld Tryz.prog 229 0 0 3 := ⟨0, by kernel_rfl⟩
instance : Fld Tryz.prog 229 1 1 68 := ⟨0, by kernel_rfl⟩
instance : Fld Tryz.prog 229 2 2 67 := ⟨4, by kernel_rfl⟩
instance : Places Tryz.prog 229 [(0, 1), (1, 1), (2, 5)] := ⟨by kernel_rfl⟩
instance : Scal Tryz.prog 230 := ⟨by kernel_rfl, by kernel_rfl⟩
instance : Zero Tryz.prog 230 .nilFunc [.nilFunc] := ⟨by kernel_rfl, rfl⟩
instance : Scal Tryz.prog 231 := ⟨by kernel_rfl, by kernel_rfl⟩
instance : Zero Tryz.prog 231 .nilFunc [.nilFunc] := ⟨by kernel_rfl, rfl⟩
instance : Und Tryz.prog 232 (.pointer 234) := ⟨by kernel_rfl⟩
instance : Scal Tryz.prog 232 := ⟨by kernel_rfl, by kernel_rfl⟩
instance : Zero Tryz.prog 232 (.pointer none) [(.pointer none)] := ⟨by kernel_rfl, rfl⟩
instance : Aggr Tryz.prog 233 7 := ⟨by kernel_rfl, by kernel_rfl⟩
instance : Zero Tryz.prog 233 (.agg #[(u32 0), (.int .i64 0), (.int .i64 0), (.bool false), (.int .i64 0), .nilFunc, (.pointer none)]) [(u32 0), (.int .i64 0), (.int .i64 0), (.bool false), (.int .i64 0), .nilFunc, (.pointer none)] := ⟨by kernel_rfl, rfl⟩
instance : Fld Tryz.prog 233 0 0 34 := ⟨0, by kernel_rfl⟩
instance : Fld Tryz.prog 233 1 1 3 := ⟨0, by kernel_rfl⟩
instance : Fld Tryz.prog 233 2 2 3 := ⟨0, by kernel_rfl⟩
instance : Fld Tryz.prog 233 3 3 4 := ⟨0, by kernel_rfl⟩
instance : Fld Tryz.prog 233 4 4 3 := ⟨0, by kernel_rfl⟩
instance : Fld Tryz.prog 233 5 5 1 := ⟨0, by kernel_rfl⟩
instance : Fld Tryz.prog 233 6 6 98 := ⟨0, by kernel_rfl⟩
instance : Places Tryz.prog 233 [(0, 1), (1, 1), (2, 1), (3, 1), (4, 1), (5, 1), (6, 1)] := ⟨by kernel_rfl⟩
instance : Aggr Tryz.prog 234 7 := ⟨by kernel_rfl, by kernel_rfl⟩
instance : Zero Tryz.prog 234 (.agg #[(u32 0), (.int .i64 0), (.int .i64 0), (.bool false), (.int .i64 0), .nilFunc, (.pointer none)]) [(u32 0), (.int .i64 0), (.int .i64 0), (.bool false), (.int .i64 0), .nilFunc, (.pointer none)] := ⟨by kernel_rfl, rfl⟩
instance : Fld Tryz.prog 234 0 0 34 := ⟨0, by kernel_rfl⟩
instance : Fld Tryz.prog 234 1 1 3 := ⟨0, by kernel_rfl⟩
instance : Fld Tryz.prog 234 2 2 3 := ⟨0, by kernel_rfl⟩
instance : Fld Tryz.prog 234 3 3 4 := ⟨0, by kernel_rfl⟩
instance : Fld Tryz.prog 234 4 4 3 := ⟨0, by kernel_rfl⟩
instance : Fld Tryz.prog 234 5 5 1 := ⟨0, by kernel_rfl⟩
instance : Fld Tryz.prog 234 6 6 98 := ⟨0, by kernel_rfl⟩
instance : Places Tryz.prog 234 [(0, 1), (1, 1), (2, 1), (3, 1), (4, 1), (5, 1), (6, 1)] := ⟨by kernel_rfl⟩
instance : Scal Tryz.prog 235 := ⟨by kernel_rfl, by kernel_rfl⟩
instance : Zero Tryz.prog 235 .nilFunc [.nilFunc] := ⟨by kernel_rfl, rfl⟩
instance : Und Tryz.prog 236 (.slice 9) := ⟨by kernel_rfl⟩
instance : Scal Tryz.prog 236 := ⟨by kernel_rfl, by kernel_rfl⟩
instance : SlTC Tryz.prog 236 9 1 16 := ⟨SlT.of (z := (strV [])) Tryz.underlying236 (by kernel_rfl) rfl (by decide)⟩
instance : Zero Tryz.prog 236 (.slice none 0 0) [(.slice none 0 0)] := ⟨by kernel_rfl, rfl⟩
instance : Scal Tryz.prog 237 := ⟨by kernel_rfl, by kernel_rfl⟩
instance : Zero Tryz.prog 237 .nilFunc [.nilFunc] := ⟨by kernel_rfl, rfl⟩
instance : Und Tryz.prog 238 (.int .i64) := ⟨by kernel_rfl⟩
instance : Scal Tryz.prog 238 := ⟨by kernel_rfl, by kernel_rfl⟩
instance : Zero Tryz.prog 238 (.int .i64 0) [(.int .i64 0)] := ⟨by kernel_rfl, rfl⟩
instance : Scal Tryz.prog 239 := ⟨by kernel_rfl, by kernel_rfl⟩
instance : Zero Tryz.prog 239 .nilFunc [.nilFunc] := ⟨by kernel_rfl, rfl⟩
instance : Und Tryz.prog 240 (.pointer 242) := ⟨by kernel_rfl⟩
instance : Scal Tryz.prog 240 := ⟨by kernel_rfl, by kernel_rfl⟩
instance : Zero Tryz.prog 240 (.pointer none) [(.pointer none)] := ⟨by kernel_rfl, rfl⟩
instance : Aggr Tryz.prog 241 1 := ⟨by kernel_rfl, by kernel_rfl⟩
instance : Zero Tryz.prog 241 (.agg #[(.slice none 0 0)]) [(.slice none 0 0)] := ⟨by kernel_rfl, rfl⟩
instance : Fld Tryz.prog 241 0 0 40 := ⟨0, by kernel_rfl⟩
instance : Places Tryz.prog 241 [(0, 1)] := ⟨by kernel_rfl⟩
instance : Aggr Tryz.prog 242 1 := ⟨by kernel_rfl, by kernel_rfl⟩
instance : Zero Tryz.prog 242 (.agg #[(.slice none 0 0)]) [(.slice none 0 0)] := ⟨by kernel_rfl, rfl⟩
instance : Fld Tryz.prog 242 0 0 40 := ⟨0, by kernel_rfl⟩
instance : Places Tryz.prog 242 [(0, 1)] := ⟨by kernel_rfl⟩
instance : Scal Tryz.prog 243 := ⟨by kernel_rfl, by kernel_rfl⟩
instance : Zero Tryz.prog 243 .nilFunc [.nilFunc] := ⟨by kernel_rfl, rfl⟩
instance : Scal Tryz.prog 244 := ⟨by kernel_rfl, by kernel_rfl⟩
instance : Zero Tryz.prog 244 .nilFunc [.nilFunc] := ⟨by kernel_rfl, rfl⟩
instance : Scal Tryz.prog 245 := ⟨by kernel_rfl, by kernel_rfl⟩
instance : Zero Tryz.prog 245 .nilFunc [.nilFunc] := ⟨by kernel_rfl, rfl⟩
instance : Scal Tryz.prog 246 := ⟨by kernel_rfl, by kernel_rfl⟩
instance : Zero Tryz.prog 246 .nilFunc [.nilFunc] := ⟨by kernel_rfl, rfl⟩
instance : Scal Tryz.prog 248 := ⟨by kernel_rfl, by kernel_rfl⟩
instance : Zero Tryz.prog 248 .nilFunc [.nilFunc] := ⟨by kernel_rfl, rfl⟩
instance : Scal Tryz.prog 249 := ⟨by kernel_rfl, by kernel_rfl⟩
instance : Zero Tryz.prog 249 .nilFunc [.nilFunc] := ⟨by kernel_rfl, rfl⟩
instance : Scal Tryz.prog 250 := ⟨by kernel_rfl, by kernel_rfl⟩
instance : Zero Tryz.prog 250 .nilFunc [.nilFunc] := ⟨by kernel_rfl, rfl⟩
instance : Scal Tryz.prog 251 := ⟨by kernel_rfl, by kernel_rfl⟩
instance : Zero Tryz.prog 251 .nilFunc [.nilFunc] := ⟨by kernel_rfl, rfl⟩
instance : Und Tryz.prog 252 (.map 43 251) := ⟨by kernel_rfl⟩
instance : Scal Tryz.prog 252 := ⟨by kernel_rfl, by kernel_rfl⟩
instance : Zero Tryz.prog 252 (.map none) [(.map none)] := ⟨by kernel_rfl, rfl⟩
instance : Scal Tryz.prog 253 := ⟨by kernel_rfl, by kernel_rfl⟩
instance : Zero Tryz.prog 253 .nilFunc [.nilFunc] := ⟨by kernel_rfl, rfl⟩
instance : Und Tryz.prog 254 (.pointer 172) := ⟨by kernel_rfl⟩
instance : Scal Tryz.prog 254 := ⟨by kernel_rfl, by kernel_rfl⟩
instance : Zero Tryz.prog 254 (.pointer none) [(.pointer none)] := ⟨by kernel_rfl, rfl⟩
instance : Scal Tryz.prog 255 := ⟨by kernel_rfl, by kernel_rfl⟩
instance : Zero Tryz.prog 255 .nilFunc [.nilFunc] := ⟨by kernel_rfl, rfl⟩
instance : Und Tryz.prog 256 (.pointer 289) := ⟨by kernel_rfl⟩
instance : Scal Tryz.prog 256 := ⟨by kernel_rfl, by kernel_rfl⟩
instance : Zero Tryz.prog 256 (.pointer none) [(.pointer none)] := ⟨by kernel_rfl, rfl⟩
instance : Scal Tryz.prog 257 := ⟨by kernel_rfl, by kernel_rfl⟩
instance : Zero Tryz.prog 257 .nilFunc [.nilFunc] := ⟨by kernel_rfl, rfl⟩
instance : Und Tryz.prog 258 (.array 5 34) := ⟨by kernel_rfl⟩
instance : Aggr Tryz.prog 258 5 := ⟨by kernel_rfl, by kernel_rfl⟩
instance : Zero Tryz.prog 258 (.agg #[(u32 0), (u32 0), (u32 0), (u32 0), (u32 0)]) [(u32 0), (u32 0), (u32 0), (u32 0), (u32 0)] := ⟨by kernel_rfl, rfl⟩
instance : Scal Tryz.prog 259 := ⟨by kernel_rfl, by kernel_rfl⟩
instance : Zero Tryz.prog 259 .nilFunc [.nilFunc] := ⟨by kernel_rfl, rfl⟩
instance : Und Tryz.prog 260 (.array 4 34) := ⟨by kernel_rfl⟩
instance : Aggr Tryz.prog 260 4 := ⟨by kernel_rfl, by kernel_rfl⟩
instance : Zero Tryz.prog 260 (.agg #[(u32 0), (u32 0), (u32 0), (u32 0)]) [(u32 0), (u32 0), (u32 0), (u32 0)] := ⟨by kernel_rfl, rfl⟩
instance : Und Tryz.prog 261 (.array 3 34) := ⟨by kernel_rfl⟩
instance : Aggr Tryz.prog 261 3 := ⟨by kernel_rfl, by kernel_rfl⟩
instance : Zero Tryz.prog 261 (.agg #[(u32 0), (u32 0), (u32 0)]) [(u32 0), (u32 0), (u32 0)] := ⟨by kernel_rfl, rfl⟩
instance : Und Tryz.prog 262 (.int .u64) := ⟨by kernel_rfl⟩
instance : Scal Tryz.prog 262 := ⟨by kernel_rfl, by kernel_rfl⟩
instance : Zero Tryz.prog 262 (u64 0) [(u64 0)] := ⟨by kernel_rfl, rfl⟩
instance : Scal Tryz.prog 263 := ⟨by kernel_rfl, by kernel_rfl⟩
instance : Zero Tryz.prog 263 .nilFunc [.nilFunc] := ⟨by kernel_rfl, rfl⟩
instance : Scal Tryz.prog 264 := ⟨by kernel_rfl, by kernel_rfl⟩
instance : Zero Tryz.prog 264 .nilFunc [.nilFunc] := ⟨by kernel_rfl, rfl⟩
instance : Und Tryz.prog 265 (.map 48 34) := ⟨by kernel_rfl⟩
instance : Scal Tryz.prog 265 := ⟨by kernel_rfl, by kernel_rfl⟩
instance : Zero Tryz.prog 265 (.map none) [(.map none)] := ⟨by kernel_rfl, rfl⟩
instance : Scal Tryz.prog 266 := ⟨by kernel_rfl, by kernel_rfl⟩
instance : Zero Tryz.prog 266 .nilFunc [.nilFunc] := ⟨by kernel_rfl, rfl⟩
instance : Scal Tryz.prog 267 := ⟨by kernel_rfl, by kernel_rfl⟩
instance : Zero Tryz.prog 267 .nilFunc [.nilFunc] := ⟨by kernel_rfl, rfl⟩
instance : Scal Tryz.prog 268 := ⟨by kernel_rfl, by kernel_rfl⟩
instance : Zero Tryz.prog 268 .nilFunc [.nilFunc] := ⟨by kernel_rfl, rfl⟩
instance : Scal Tryz.prog 269 := ⟨by kernel_rfl, by kernel_rfl⟩
instance : Zero Tryz.prog 269 .nilFunc [.nilFunc] := ⟨by kernel_rfl, rfl⟩
instance : Scal Tryz.prog 270 := ⟨by kernel_rfl, by kernel_rfl⟩
instance : Zero Tryz.prog 270 .nilFunc [.nilFunc] := ⟨by kernel_rfl, rfl⟩
instance : Scal Tryz.prog 271 := ⟨by kernel_rfl, by kernel_rfl⟩
instance : Zero Tryz.prog 271 .nilFunc [.nilFunc] := ⟨by kernel_rfl, rfl⟩
instance : Und Tryz.prog 272 (.map 3 3) := ⟨by kernel_rfl⟩
instance : Scal Tryz.prog 272 := ⟨by kernel_rfl, by kernel_rfl⟩
instance : Zero Tryz.prog 272 (.map none) [(.map none)] := ⟨by kernel_rfl, rfl⟩
instance : Und Tryz.prog 273 (.slice 277) := ⟨by kernel_rfl⟩
instance : Scal Tryz.prog 273 := ⟨by kernel_rfl, by kernel_rfl⟩
instance : SlTC Tryz.prog 273 277 3 24 := ⟨SlT.of (z := (.agg #[(u64 0), (.int .i64 0), (.int .i64 0)])) Tryz.underlying273 (by kernel_rfl) rfl (by decide)⟩
instance : Zero Tryz.prog 273 (.slice none 0 0) [(.slice none 0 0)] := ⟨by kernel_rfl, rfl⟩
instance : Aggr Tryz.prog 274 3 := ⟨by kernel_rfl, by kernel_rfl⟩
instance : Zero Tryz.prog 274 (.agg #[(.slice none 0 0), (.map none), (.int .i64 0)]) [(.slice none 0 0), (.map none), (.int .i64 0)] := ⟨by kernel_rfl, rfl⟩
instance : Fld Tryz.prog 274 0 0 273 := ⟨0, by kernel_rfl⟩
instance : Fld Tryz.prog 274 1 1 272 := ⟨0, by kernel_rfl⟩
instance : Fld Tryz.prog 274 2 2 3 := ⟨0, by kernel_rfl⟩
instance : Places Tryz.prog 274 [(0, 1), (1, 1), (2, 1)] := ⟨by kernel_rfl⟩
instance : Aggr Tryz.prog 275 3 := ⟨by kernel_rfl, by kernel_rfl⟩
instance : Zero Tryz.prog 275 (.agg #[(.slice none 0 0), (.map none), (.int .i64 0)]) [(.slice none 0 0), (.map none), (.int .i64 0)] := ⟨by kernel_rfl, rfl⟩
instance : Fld Tryz.prog 275 0 0 273 := ⟨0, by kernel_rfl⟩
instance : Fld Tryz.prog 275 1 1 272 := ⟨0, by kernel_rfl⟩
instance : Fld Tryz.prog 275 2 2 3 := ⟨0, by kernel_rfl⟩
instance : Places Tryz.prog 275 [(0, 1), (1, 1), (2, 1)] := ⟨by kernel_rfl⟩
instance : Aggr Tryz.prog 276 3 := ⟨by kernel_rfl, by kernel_rfl⟩
instance : Zero Tryz.prog 276 (.agg #[(u64 0), (.int .i64 0), (.int .i64 0)]) [(u64 0), (.int .i64 0), (.int .i64 0)] := ⟨by kernel_rfl, rfl⟩
instance : Fld Tryz.prog 276 0 0 35 := ⟨0, by kernel_rfl⟩
instance : Fld Tryz.prog 276 1 1 3 := ⟨0, by kernel_rfl⟩
instance : Fld Tryz.prog 276 2 2 3 := ⟨0, by kernel_rfl⟩
instance : Places Tryz.prog 276 [(0, 1), (1, 1), (2, 1)] := ⟨by kernel_rfl⟩
instance : Aggr Tryz.prog 277 3 := ⟨by kernel_rfl, by kernel_rfl⟩
instance : Zero Tryz.prog 277 (.agg #[(u64 0), (.int .i64 0), (.int .i64 0)]) [(u64 0), (.int .i64 0), (.int .i64 0)] := ⟨by kernel_rfl, rfl⟩
instance : Fld Tryz.prog 277 0 0 35 := ⟨0, by kernel_rfl⟩
instance : Fld Tryz.prog 277 1 1 3 := ⟨0, by kernel_rfl⟩
instance : Fld Tryz.prog 277 2 2 3 := ⟨0, by kernel_rfl⟩
instance : Places Tryz.prog 277 [(0, 1), (1, 1), (2, 1)] := ⟨by kernel_rfl⟩
instance : Scal Tryz.prog 278 := ⟨by kernel_rfl, by kernel_rfl⟩
instance : Zero Tryz.prog 278 .nilFunc [.nilFunc] := ⟨by kernel_rfl, rfl⟩
instance : Und Tryz.prog 279 (.map 34 256) := ⟨by kernel_rfl⟩
instance : Scal Tryz.prog 279 := ⟨by kernel_rfl, by kernel_rfl⟩
instance : Zero Tryz.prog 279 (.map none) [(.map none)] := ⟨by kernel_rfl, rfl⟩
instance : Aggr Tryz.prog 280 2 := ⟨by kernel_rfl, by kernel_rfl⟩
instance : Zero Tryz.prog 280 (.agg #[(u32 0), (.map none)]) [(u32 0), (.map none)] := ⟨by kernel_rfl, rfl⟩
instance : Fld Tryz.prog 280 0 0 34 := ⟨0, by kernel_rfl⟩
instance : Fld Tryz.prog 280 1 1 279 := ⟨0, by kernel_rfl⟩
instance : Places Tryz.prog 280 [(0, 1), (1, 1)] := ⟨by kernel_rfl⟩
instance : Aggr Tryz.prog 281 2 := ⟨by kernel_rfl, by kernel_rfl⟩
instance : Zero Tryz.prog 281 (.agg #[(u32 0), (.map none)]) [(u32 0), (.map none)] := ⟨by kernel_rfl, rfl⟩
instance : Fld Tryz.prog 281 0 0 34 := ⟨0, by kernel_rfl⟩
instance : Fld Tryz.prog 281 1 1 279 := ⟨0, by kernel_rfl⟩
instance : Places Tryz.prog 281 [(0, 1), (1, 1)] := ⟨by kernel_rfl⟩
instance : Scal Tryz.prog 282 := ⟨by kernel_rfl, by kernel_rfl⟩
instance : Zero Tryz.prog 282 .nilFunc [.nilFunc] := ⟨by kernel_rfl, rfl⟩
instance : Scal Tryz.prog 285 := ⟨by kernel_rfl, by kernel_rfl⟩
instance : Zero Tryz.prog 285 .nilFunc [.nilFunc] := ⟨by kernel_rfl, rfl⟩
instance : Scal Tryz.prog 286 := ⟨by kernel_rfl, by kernel_rfl⟩
instance : Zero Tryz.prog 286 .nilFunc [.nilFunc] := ⟨by kernel_rfl, rfl⟩
instance : Und Tryz.prog 287 (.map 34 167) := ⟨by kernel_rfl⟩
instance : Scal Tryz.prog 287 := ⟨by kernel_rfl, by kernel_rfl⟩
instance : Zero Tryz.prog 287 (.map none) [(.map none)] := ⟨by kernel_rfl, rfl⟩
instance : Aggr Tryz.prog 288 8 := ⟨by kernel_rfl, by kernel_rfl⟩
instance : Zero Tryz.prog 288 (.agg #[(u32 0), (u32 0), (.int .i64 0), (u32 0), (.bool false), (u64 0), (.slice none 0 0), (.map none)]) [(u32 0), (u32 0), (.int .i64 0), (u32 0), (.bool false), (u64 0), (.slice none 0 0), (.map none)] := ⟨by kernel_rfl, rfl⟩
instance : Fld Tryz.prog 288 0 0 38 := ⟨6, by kernel_rfl⟩
instance : Fld Tryz.prog 288 1 7 287 := ⟨0, by kernel_rfl⟩
instance : Places Tryz.prog 288 [(0, 7), (7, 1)] := ⟨by kernel_rfl⟩
instance : Aggr Tryz.prog 289 8 := ⟨by kernel_rfl, by kernel_rfl⟩
instance : Zero Tryz.prog 289 (.agg #[(u32 0), (u32 0), (.int .i64 0), (u32 0), (.bool false), (u64 0), (.slice none 0 0), (.map none)]) [(u32 0), (u32 0), (.int .i64 0), (u32 0), (.bool false), (u64 0), (.slice none 0 0), (.map none)] := ⟨by kernel_rfl, rfl⟩
instance : Fld Tryz.prog 289 0 0 38 := ⟨6, by kernel_rfl⟩
instance : Fld Tryz.prog 289 1 7 287 := ⟨0, by kernel_rfl⟩
instance : Places Tryz.prog 289 [(0, 7), (7, 1)] := ⟨by kernel_rfl⟩
instance : Aggr Tryz.prog 290 4 := ⟨by kernel_rfl, by kernel_rfl⟩
instance : Zero Tryz.prog 290 (.agg #[(.pointer none), (.pointer none), (strV []), (u64 0)]) [(.pointer none), (.pointer none), (strV []), (u64 0)] := ⟨by kernel_rfl, rfl⟩
instance : Fld Tryz.prog 290 0 0 62 := ⟨0, by kernel_rfl⟩
instance : Fld Tryz.prog 290 1 1 220 := ⟨0, by kernel_rfl⟩
instance : Fld Tryz.prog 290 2 2 9 := ⟨0, by kernel_rfl⟩
instance : Fld Tryz.prog 290 3 3 35 := ⟨0, by kernel_rfl⟩
instance : Places Tryz.prog 290 [(0, 1), (1, 1), (2, 1), (3, 1)] := ⟨by kernel_rfl⟩
instance : Aggr Tryz.prog 291 4 := ⟨by kernel_rfl, by kernel_rfl⟩
instance : Zero Tryz.prog 291 (.agg #[(.pointer none), (.pointer none), (strV []), (u64 0)]) [(.pointer none), (.pointer none), (strV []), (u64 0)] := ⟨by kernel_rfl, rfl⟩
instance : Fld Tryz.prog 291 0 0 62 := ⟨0, by kernel_rfl⟩
instance : Fld Tryz.prog 291 1 1 220 := ⟨0, by kernel_rfl⟩
instance : Fld Tryz.prog 291 2 2 9 := ⟨0, by kernel_rfl⟩
instance : Fld Tryz.prog 291 3 3 35 := ⟨0, by kernel_rfl⟩
instance : Places Tryz.prog 291 [(0, 1), (1, 1), (2, 1), (3, 1)] := ⟨by kernel_rfl⟩
instance : Scal Tryz.prog 292 := ⟨by kernel_rfl, by kernel_rfl⟩
instance : Zero Tryz.prog 292 .nilFunc [.nilFunc] := ⟨by kernel_rfl, rfl⟩
instance : Scal Tryz.prog 293 := ⟨by kernel_rfl, by kernel_rfl⟩
instance : Zero Tryz.prog 293 .nilFunc [.nilFunc] := ⟨by kernel_rfl, rfl⟩
instance : Und Tryz.prog 294 (.slice 359) := ⟨by kernel_rfl⟩
instance : Scal Tryz.prog 294 := ⟨by kernel_rfl, by kernel_rfl⟩
instance : SlTC Tryz.prog 294 359 3 16 := ⟨SlT.of (z := (.agg #[(u32 0), (u32 0), (u64 0)])) Tryz.underlying294 (by kernel_rfl) rfl (by decide)⟩
instance : Zero Tryz.prog 294 (.slice none 0 0) [(.slice none 0 0)] := ⟨by kernel_rfl, rfl⟩
instance : Und Tryz.prog 295 (.slice 332) := ⟨by kernel_rfl⟩
instance : Scal Tryz.prog 295 := ⟨by kernel_rfl, by kernel_rfl⟩
instance : SlTC Tryz.prog 295 332 2 24 := ⟨SlT.of (z := (.agg #[(u32 0), (strV [])])) Tryz.underlying295 (by kernel_rfl) rfl (by decide)⟩
instance : Zero Tryz.prog 295 (.slice none 0 0) [(.slice none 0 0)] := ⟨by kernel_rfl, rfl⟩
instance : Und Tryz.prog 296 (.slice 305) := ⟨by kernel_rfl⟩
instance : Scal Tryz.prog 296 := ⟨by kernel_rfl, by kernel_rfl⟩
instance : SlTC Tryz.prog 296 305 6 48 := ⟨SlT.of (z := (.agg #[(u32 0), (.int .i64 0), (.int .i64 0), (u64 0), (.int .i64 0), (.bool false)])) Tryz.underlying296 (by kernel_rfl) rfl (by decide)⟩
instance : Zero Tryz.prog 296 (.slice none 0 0) [(.slice none 0 0)] := ⟨by kernel_rfl, rfl⟩
instance : Aggr Tryz.prog 297 20 := ⟨by kernel_rfl, by kernel_rfl⟩
instance : Zero Tryz.prog 297 (.agg #[(u32 0), (u32 0), (.pointer none), (.slice none 0 0), (u64 0), (.slice none 0 0), (.slice none 0 0), (.slice none 0 0), (.int .i64 0), (u32 0), (u32 0), (.slice none 0 0), (u64 0), (strV []), (.bool false), (.slice none 0 0), (.slice none 0 0), (.slice none 0 0), (.slice none 0 0), (u32 0)]) [(u32 0), (u32 0), (.pointer none), (.slice none 0 0), (u64 0), (.slice none 0 0), (.slice none 0 0), (.slice none 0 0), (.int .i64 0), (u32 0), (u32 0), (.slice none 0 0), (u64 0), (strV []), (.bool false), (.slice none 0 0), (.slice none 0 0), (.slice none 0 0), (.slice none 0 0), (u32 0)] := ⟨by kernel_rfl, rfl⟩
instance : Fld Tryz.prog 297 0 0 34 := ⟨0, by kernel_rfl⟩
instance : Fld Tryz.prog 297 1 1 34 := ⟨0, by kernel_rfl⟩
instance : Fld Tryz.prog 297 2 2 133 := ⟨0, by kernel_rfl⟩
instance : Fld Tryz.prog 297 3 3 49 := ⟨0, by kernel_rfl⟩
instance : Fld Tryz.prog 297 4 4 35 := ⟨0, by kernel_rfl⟩
instance : Fld Tryz.prog 297 5 5 294 := ⟨0, by kernel_rfl⟩
instance : Fld Tryz.prog 297 6 6 295 := ⟨0, by kernel_rfl⟩
instance : Fld Tryz.prog 297 7 7 296 := ⟨0, by kernel_rfl⟩
instance : Fld Tryz.prog 297 8 8 3 := ⟨0, by kernel_rfl⟩
instance : Fld Tryz.prog 297 9 9 34 := ⟨0, by kernel_rfl⟩
instance : Fld Tryz.prog 297 10 10 34 := ⟨0, by kernel_rfl⟩
instance : Fld Tryz.prog 297 11 11 73 := ⟨0, by kernel_rfl⟩
instance : Fld Tryz.prog 297 12 12 35 := ⟨0, by kernel_rfl⟩
instance : Fld Tryz.prog 297 13 13 67 := ⟨4, by kernel_rfl⟩
instance : Fld Tryz.prog 297 14 18 49 := ⟨0, by kernel_rfl⟩
instance : Fld Tryz.prog 297 15 19 34 := ⟨0, by kernel_rfl⟩
instance : Places Tryz.prog 297 [(0, 1), (1, 1), (2, 1), (3, 1), (4, 1), (5, 1), (6, 1), (7, 1), (8, 1), (9, 1), (10, 1), (11, 1), (12, 1), (13, 5), (18, 1), (19, 1)] := ⟨by kernel_rfl⟩
instance : Aggr Tryz.prog 298 20 := ⟨by kernel_rfl, by kernel_rfl⟩
instance : Zero Tryz.prog 298 (.agg #[(u32 0), (u32 0), (.pointer none), (.slice none 0 0), (u64 0), (.slice none 0 0), (.slice none 0 0), (.slice none 0 0), (.int .i64 0), (u32 0), (u32 0), (.slice none 0 0), (u64 0), (strV []), (.bool false), (.slice none 0 0), (.slice none 0 0), (.slice none 0 0), (.slice none 0 0), (u32 0)]) [(u32 0), (u32 0), (.pointer none), (.slice none 0 0), (u64 0), (.slice none 0 0), (.slice none 0 0), (.slice none 0 0), (.int .i64 0), (u32 0), (u32 0), (.slice none 0 0), (u64 0), (strV []), (.bool false), (.slice none 0 0), (.slice none 0 0), (.slice none 0 0), (.slice none 0 0), (u32 0)] := ⟨by kernel_rfl, rfl⟩
instance : Fld Tryz.prog 298 0 0 34 := ⟨0, by kernel_rfl⟩
instance : Fld Tryz.prog 298 1 1 34 := ⟨0, by kernel_rfl⟩
instance : Fld Tryz.prog 298 2 2 133 := ⟨0, by kernel_rfl⟩
instance : Fld Tryz.prog 298 3 3 49 := ⟨0, by kernel_rfl⟩
instance : Fld Tryz.prog 298 4 4 35 := ⟨0, by kernel_rfl⟩
instance : Fld Tryz.prog 298 5 5 294 := ⟨0, by kernel_rfl⟩
instance : Fld Tryz.prog 298 6 6 295 := ⟨0, by kernel_rfl⟩
instance : Fld Tryz.prog 298 7 7 296 := ⟨0, by kernel_rfl⟩
instance : Fld Tryz.prog 298 8 8 3 := ⟨0, by kernel_rfl⟩
instance : Fld Tryz.prog 298 9 9 34 := ⟨0, by kernel_rfl⟩
instance : Fld Tryz.prog 298 10 10 34 := ⟨0, by kernel_rfl⟩
instance : Fld Tryz.prog 298 11 11 73 := ⟨0, by kernel_rfl⟩
instance : Fld Tryz.prog 298 12 12 35 := ⟨0, by kernel_rfl⟩
instance : Fld Tryz.prog 298 13 13 67 := ⟨4, by kernel_rfl⟩
instance : Fld Tryz.prog 298 14 18 49 := ⟨0, by kernel_rfl⟩
instance : Fld Tryz.prog 298 15 19 34 := ⟨0, by kernel_rfl⟩
instance : Places Tryz.prog 298 [(0, 1), (1, 1), (2, 1), (3, 1), (4, 1), (5, 1), (6, 1), (7, 1), (8, 1), (9, 1), (10, 1), (11, 1), (12, 1), (13, 5), (18, 1), (19, 1)] := ⟨by kernel_rfl⟩
instance : Scal Tryz.prog 299 := ⟨by kernel_rfl, by kernel_rfl⟩
instance : Zero Tryz.prog 299 .nilFunc [.nilFunc] := ⟨by kernel_rfl, rfl⟩
instance : Aggr Tryz.prog 300 2 := ⟨by kernel_rfl, by kernel_rfl⟩
instance : Zero Tryz.prog 300 (.agg #[(u32 0), (strV [])]) [(u32 0), (strV [])] := ⟨by kernel_rfl, rfl⟩
instance : Fld Tryz.prog 300 0 0 34 := ⟨0, by kernel_rfl⟩
instance : Fld Tryz.prog 300 1 1 9 := ⟨0, by kernel_rfl⟩
instance : Places Tryz.prog 300 [(0, 1), (1, 1)] := ⟨by kernel_rfl⟩
instance : Aggr Tryz.prog 301 2 := ⟨by kernel_rfl, by kernel_rfl⟩
instance : Zero Tryz.prog 301 (.agg #[(u32 0), (strV [])]) [(u32 0), (strV [])] := ⟨by kernel_rfl, rfl⟩
instance : Fld Tryz.prog 301 0 0 34 := ⟨0, by kernel_rfl⟩
instance : Fld Tryz.prog 301 1 1 9 := ⟨0, by kernel_rfl⟩
instance : Places Tryz.prog 301 [(0, 1), (1, 1)] := ⟨by kernel_rfl⟩
instance : Scal Tryz.prog 302 := ⟨by kernel_rfl, by kernel_rfl⟩
instance : Zero Tryz.prog 302 .nilFunc [.nilFunc] := ⟨by kernel_rfl, rfl⟩
instance : Scal Tryz.prog 303 := ⟨by kernel_rfl, by kernel_rfl⟩
instance : Zero Tryz.prog 303 .nilFunc [.nilFunc] := ⟨by kernel_rfl, rfl⟩
instance : Aggr Tryz.prog 304 6 := ⟨by kernel_rfl, by kernel_rfl⟩
instance : Zero Tryz.prog 304 (.agg #[(u32 0), (.int .i64 0), (.int .i64 0), (u64 0), (.int .i64 0), (.bool false)]) [(u32 0), (.int .i64 0), (.int .i64 0), (u64 0), (.int .i64 0), (.bool false)] := ⟨by kernel_rfl, rfl⟩
instance : Fld Tryz.prog 304 0 0 34 := ⟨0, by kernel_rfl⟩
instance : Fld Tryz.prog 304 1 1 3 := ⟨0, by kernel_rfl⟩
instance : Fld Tryz.prog 304 2 2 3 := ⟨0, by kernel_rfl⟩
instance : Fld Tryz.prog 304 3 3 35 := ⟨0, by kernel_rfl⟩
instance : Fld Tryz.prog 304 4 4 3 := ⟨0, by kernel_rfl⟩
instance : Fld Tryz.prog 304 5 5 4 := ⟨0, by kernel_rfl⟩
instance : Places Tryz.prog 304 [(0, 1), (1, 1), (2, 1), (3, 1), (4, 1), (5, 1)] := ⟨by kernel_rfl⟩
instance : Aggr Tryz.prog 305 6 := ⟨by kernel_rfl, by kernel_rfl⟩
instance : Zero Tryz.prog 305 (.agg #[(u32 0), (.int .i64 0), (.int .i64 0), (u64 0), (.int .i64 0), (.bool false)]) [(u32 0), (.int .i64 0), (.int .i64 0), (u64 0), (.int .i64 0), (.bool false)] := ⟨by kernel_rfl, rfl⟩
instance : Fld Tryz.prog 305 0 0 34 := ⟨0, by kernel_rfl⟩
instance : Fld Tryz.prog 305 1 1 3 := ⟨0, by kernel_rfl⟩
instance : Fld Tryz.prog 305 2 2 3 := ⟨0, by kernel_rfl⟩
instance : Fld Tryz.prog 305 3 3 35 := ⟨0, by kernel_rfl⟩
instance : Fld Tryz.prog 305 4 4 3 := ⟨0, by kernel_rfl⟩
instance : Fld Tryz.prog 305 5 5 4 := ⟨0, by kernel_rfl⟩
instance : Places Tryz.prog 305 [(0, 1), (1, 1), (2, 1), (3, 1), (4, 1), (5, 1)] := ⟨by kernel_rfl⟩
instance : Scal Tryz.prog 306 := ⟨by kernel_rfl, by kernel_rfl⟩
instance : Zero Tryz.prog 306 .nilFunc [.nilFunc] := ⟨by kernel_rfl, rfl⟩
instance : Scal Tryz.prog 307 := ⟨by kernel_rfl, by kernel_rfl⟩
instance : Zero Tryz.prog 307 .nilFunc [.nilFunc] := ⟨by kernel_rfl, rfl⟩
instance : Scal Tryz.prog 308 := ⟨by kernel_rfl, by kernel_rfl⟩
instance : Zero Tryz.prog 308 .nilFunc [.nilFunc] := ⟨by kernel_rfl, rfl⟩
instance : Scal Tryz.prog 309 := ⟨by kernel_rfl, by kernel_rfl⟩
instance : Zero Tryz.prog 309 .nilFunc [.nilFunc] := ⟨by kernel_rfl, rfl⟩
instance : Aggr Tryz.prog 310 0 := ⟨by kernel_rfl, by kernel_rfl⟩
instance : Zero Tryz.prog 310 (.agg #[]) [] := ⟨by kernel_rfl, rfl⟩
instance : Places Tryz.prog 310 [] := ⟨by kernel_rfl⟩
instance : Scal Tryz.prog 311 := ⟨by kernel_rfl, by kernel_rfl⟩
instance : Zero Tryz.prog 311 .nilFunc [.nilFunc] := ⟨by kernel_rfl, rfl⟩
instance : Und Tryz.prog 312 (.pointer 170) := ⟨by kernel_rfl⟩
instance : Scal Tryz.prog 312 := ⟨by kernel_rfl, by kernel_rfl⟩
instance : Zero Tryz.prog 312 (.pointer none) [(.pointer none)] := ⟨by kernel_rfl, rfl⟩
instance : Scal Tryz.prog 313 := ⟨by kernel_rfl, by kernel_rfl⟩
instance : Zero Tryz.prog 313 .nilFunc [.nilFunc] := ⟨by kernel_rfl, rfl⟩
instance : Und Tryz.prog 314 (.pointer 21) := ⟨by kernel_rfl⟩
instance : Scal Tryz.prog 314 := ⟨by kernel_rfl, by kernel_rfl⟩
instance : Zero Tryz.prog 314 (.pointer none) [(.pointer none)] := ⟨by kernel_rfl, rfl⟩
instance : Scal Tryz.prog 315 := ⟨by kernel_rfl, by kernel_rfl⟩
instance : Zero Tryz.prog 315 .nilFunc [.nilFunc] := ⟨by kernel_rfl, rfl⟩
instance : Und Tryz.prog 316 .unsafePointer := ⟨by kernel_rfl⟩
instance : Scal Tryz.prog 316 := ⟨by kernel_rfl, by kernel_rfl⟩
instance : Zero Tryz.prog 316 (.pointer none) [(.pointer none)] := ⟨by kernel_rfl, rfl⟩
instance : Scal Tryz.prog 317 := ⟨by kernel_rfl, by kernel_rfl⟩
instance : Zero Tryz.prog 317 .nilFunc [.nilFunc] := ⟨by kernel_rfl, rfl⟩
instance : Scal Tryz.prog 318 := ⟨by kernel_rfl, by kernel_rfl⟩
instance : Zero Tryz.prog 318 .nilFunc [.nilFunc] := ⟨by kernel_rfl, rfl⟩
instance : Scal Tryz.prog 319 := ⟨by kernel_rfl, by kernel_rfl⟩
instance : Zero Tryz.prog 319 .nilFunc [.nilFunc] := ⟨by kernel_rfl, rfl⟩
instance : Scal Tryz.prog 320 := ⟨by kernel_rfl, by kernel_rfl⟩
instance : Zero Tryz.prog 320 .nilFunc [.nilFunc] := ⟨by kernel_rfl, rfl⟩
instance : Scal Tryz.prog 321 := ⟨by kernel_rfl, by kernel_rfl⟩
instance : Zero Tryz.prog 321 .nilFunc [.nilFunc] := ⟨by kernel_rfl, rfl⟩
instance : Scal Tryz.prog 322 := ⟨by kernel_rfl, by kernel_rfl⟩
instance : Zero Tryz.prog 322 .nilFunc [.nilFunc] := ⟨by kernel_rfl, rfl⟩
instance : Scal Tryz.prog 323 := ⟨by kernel_rfl, by kernel_rfl⟩
instance : Zero Tryz.prog 323 .nilFunc [.nilFunc] := ⟨by kernel_rfl, rfl⟩
instance : Scal Tryz.prog 324 := ⟨by kernel_rfl, by kernel_rfl⟩
instance : Zero Tryz.prog 324 .nilFunc [.nilFunc] := ⟨by kernel_rfl, rfl⟩
instance : Scal Tryz.prog 325 := ⟨by kernel_rfl, by kernel_rfl⟩
instance : Zero Tryz.prog 325 .nilFunc [.nilFunc] := ⟨by kernel_rfl, rfl⟩
instance : Scal Tryz.prog 326 := ⟨by kernel_rfl, by kernel_rfl⟩
instance : Zero Tryz.prog 326 .nilFunc [.nilFunc] := ⟨by kernel_rfl, rfl⟩
instance : Scal Tryz.prog 327 := ⟨by kernel_rfl, by kernel_rfl⟩
instance : Zero Tryz.prog 327 .nilFunc [.nilFunc] := ⟨by kernel_rfl, rfl⟩
instance : Scal Tryz.prog 328 := ⟨by kernel_rfl, by kernel_rfl⟩
instance : Zero Tryz.prog 328 .nilFunc [.nilFunc] := ⟨by kernel_rfl, rfl⟩
instance : Scal Tryz.prog 329 := ⟨by kernel_rfl, by kernel_rfl⟩
instance : Zero Tryz.prog 329 .nilFunc [.nilFunc] := ⟨by kernel_rfl, rfl⟩
instance : Scal Tryz.prog 330 := ⟨by kernel_rfl, by kernel_rfl⟩
instance : Zero Tryz.prog 330 .nilFunc [.nilFunc] := ⟨by kernel_rfl, rfl⟩
instance : Aggr Tryz.prog 331 2 := ⟨by kernel_rfl, by kernel_rfl⟩
instance : Zero Tryz.prog 331 (.agg #[(u32 0), (strV [])]) [(u32 0), (strV [])] := ⟨by kernel_rfl, rfl⟩
instance : Fld Tryz.prog 331 0 0 34 := ⟨0, by kernel_rfl⟩
instance : Fld Tryz.prog 331 1 1 9 := ⟨0, by kernel_rfl⟩
instance : Places Tryz.prog 331 [(0, 1), (1, 1)] := ⟨by kernel_rfl⟩
instance : Aggr Tryz.prog 332 2 := ⟨by kernel_rfl, by kernel_rfl⟩
instance : Zero Tryz.prog 332 (.agg #[(u32 0), (strV [])]) [(u32 0), (strV [])] := ⟨by kernel_rfl, rfl⟩
instance : Fld Tryz.prog 332 0 0 34 := ⟨0, by kernel_rfl⟩
instance : Fld Tryz.prog 332 1 1 9 := ⟨0, by kernel_rfl⟩
instance : Places Tryz.prog 332 [(0, 1), (1, 1)] := ⟨by kernel_rfl⟩
instance : Scal Tryz.prog 333 := ⟨by kernel_rfl, by kernel_rfl⟩
instance : Zero Tryz.prog 333 .nilFunc [.nilFunc] := ⟨by kernel_rfl, rfl⟩
instance : Scal Tryz.prog 334 := ⟨by kernel_rfl, by kernel_rfl⟩
instance : Zero Tryz.prog 334 .nilFunc [.nilFunc] := ⟨by kernel_rfl, rfl⟩
instance : Aggr Tryz.prog 335 2 := ⟨by kernel_rfl, by kernel_rfl⟩
instance : Zero Tryz.prog 335 (.agg #[(u32 0), (u32 0)]) [(u32 0), (u32 0)] := ⟨by kernel_rfl, rfl⟩
instance : Fld Tryz.prog 335 0 0 34 := ⟨0, by kernel_rfl⟩
instance : Fld Tryz.prog 335 1 1 34 := ⟨0, by kernel_rfl⟩
instance : Places Tryz.prog 335 [(0, 1), (1, 1)] := ⟨by kernel_rfl⟩
instance : Aggr Tryz.prog 336 2 := ⟨by kernel_rfl, by kernel_rfl⟩
instance : Zero Tryz.prog 336 (.agg #[(u32 0), (u32 0)]) [(u32 0), (u32 0)] := ⟨by kernel_rfl, rfl⟩
instance : Fld Tryz.prog 336 0 0 34 := ⟨0, by kernel_rfl⟩
instance : Fld Tryz.prog 336 1 1 34 := ⟨0, by kernel_rfl⟩
instance : Places Tryz.prog 336 [(0, 1), (1, 1)] := ⟨by kernel_rfl⟩
instance : Scal Tryz.prog 337 := ⟨by kernel_rfl, by kernel_rfl⟩
instance : Zero Tryz.prog 337 .nilFunc [.nilFunc] := ⟨by kernel_rfl, rfl⟩
instance : Scal Tryz.prog 338 := ⟨by kernel_rfl, by kernel_rfl⟩
instance : Zero Tryz.prog 338 .nilFunc [.nilFunc] := ⟨by kernel_rfl, rfl⟩
instance : Scal Tryz.prog 339 := ⟨by kernel_rfl, by kernel_rfl⟩
instance : Zero Tryz.prog 339 .nilFunc [.nilFunc] := ⟨by kernel_rfl, rfl⟩
instance : Scal Tryz.prog 340 := ⟨by kernel_rfl, by kernel_rfl⟩
instance : Zero Tryz.prog 340 .nilFunc [.nilFunc] := ⟨by kernel_rfl, rfl⟩
instance : Und Tryz.prog 341 (.pointer 34) := ⟨by kernel_rfl⟩
instance : Scal Tryz.prog 341 := ⟨by kernel_rfl, by kernel_rfl⟩
instance : Zero Tryz.prog 341 (.pointer none) [(.pointer none)] := ⟨by kernel_rfl, rfl⟩
instance : Scal Tryz.prog 342 := ⟨by kernel_rfl, by kernel_rfl⟩
instance : Zero Tryz.prog 342 .nilFunc [.nilFunc] := ⟨by kernel_rfl, rfl⟩
instance : Scal Tryz.prog 343 := ⟨by kernel_rfl, by kernel_rfl⟩
instance : Zero Tryz.prog 343 .nilFunc [.nilFunc] := ⟨by kernel_rfl, rfl⟩
instance : Scal Tryz.prog 344 := ⟨by kernel_rfl, by kernel_rfl⟩
instance : Zero Tryz.prog 344 .nilFunc [.nilFunc] := ⟨by kernel_rfl, rfl⟩
instance : Scal Tryz.prog 345 := ⟨by kernel_rfl, by kernel_rfl⟩
instance : Zero Tryz.prog 345 .nilFunc [.nilFunc] := ⟨by kernel_rfl, rfl⟩
instance : Scal Tryz.prog 346 := ⟨by kernel_rfl, by kernel_rfl⟩
instance : Zero Tryz.prog 346 .nilFunc [.nilFunc] := ⟨by kernel_rfl, rfl⟩
instance : Scal Tryz.prog 347 := ⟨by kernel_rfl, by kernel_rfl⟩
instance : Zero Tryz.prog 347 .nilFunc [.nilFunc] := ⟨by kernel_rfl, rfl⟩
instance : Scal Tryz.prog 348 := ⟨by kernel_rfl, by kernel_rfl⟩
instance : Zero Tryz.prog 348 .nilFunc [.nilFunc] := ⟨by kernel_rfl, rfl⟩
instance : Scal Tryz.prog 349 := ⟨by kernel_rfl, by kernel_rfl⟩
instance : Zero Tryz.prog 349 .nilFunc [.nilFunc] := ⟨by kernel_rfl, rfl⟩
instance : Scal Tryz.prog 350 := ⟨by kernel_rfl, by kernel_rfl⟩
instance : Zero Tryz.prog 350 .nilFunc [.nilFunc] := ⟨by kernel_rfl, rfl⟩
instance : Und Tryz.prog 351 (.int .i64) := ⟨by kernel_rfl⟩
instance : Scal Tryz.prog 351 := ⟨by kernel_rfl, by kernel_rfl⟩
instance : Zero Tryz.prog 351 (.int .i64 0) [(.int .i64 0)] := ⟨by kernel_rfl, rfl⟩
instance : Scal Tryz.prog 353 := ⟨by kernel_rfl, by kernel_rfl⟩
instance : Zero Tryz.prog 353 .nilFunc [.nilFunc] := ⟨by kernel_rfl, rfl⟩
instance : Scal Tryz.prog 354 := ⟨by kernel_rfl, by kernel_rfl⟩
instance : Zero Tryz.prog 354 .nilFunc [.nilFunc] := ⟨by kernel_rfl, rfl⟩
instance : Scal Tryz.prog 355 := ⟨by kernel_rfl, by kernel_rfl⟩
instance : Zero Tryz.prog 355 .nilFunc [.nilFunc] := ⟨by kernel_rfl, rfl⟩
instance : Scal Tryz.prog 356 := ⟨by kernel_rfl, by kernel_rfl⟩
instance : Zero Tryz.prog 356 .nilFunc [.nilFunc] := ⟨by kernel_rfl, rfl⟩
instance : Scal Tryz.prog 357 := ⟨by kernel_rfl, by kernel_rfl⟩
instance : Zero Tryz.prog 357 .nilFunc [.nilFunc] := ⟨by kernel_rfl, rfl⟩
instance : Aggr Tryz.prog 358 3 := ⟨by kernel_rfl, by kernel_rfl⟩
instance : Zero Tryz.prog 358 (.agg #[(u32 0), (u32 0), (u64 0)]) [(u32 0), (u32 0), (u64 0)] := ⟨by kernel_rfl, rfl⟩
instance : Fld Tryz.prog 358 0 0 34 := ⟨0, by kernel_rfl⟩
instance : Fld Tryz.prog 358 1 1 34 := ⟨0, by kernel_rfl⟩
instance : Fld Tryz.prog 358 2 2 35 := ⟨0, by kernel_rfl⟩
instance : Places Tryz.prog 358 [(0, 1), (1, 1), (2, 1)] := ⟨by kernel_rfl⟩
instance : Aggr Tryz.prog 359 3 := ⟨by kernel_rfl, by kernel_rfl⟩
instance : Zero Tryz.prog 359 (.agg #[(u32 0), (u32 0), (u64 0)]) [(u32 0), (u32 0), (u64 0)] := ⟨by kernel_rfl, rfl⟩
instance : Fld Tryz.prog 359 0 0 34 := ⟨0, by kernel_rfl⟩
instance : Fld Tryz.prog 359 1 1 34 := ⟨0, by kernel_rfl⟩
instance : Fld Tryz.prog 359 2 2 35 := ⟨0, by kernel_rfl⟩
instance : Places Tryz.prog 359 [(0, 1), (1, 1), (2, 1)] := ⟨by kernel_rfl⟩
instance : Scal Tryz.prog 360 := ⟨by kernel_rfl, by kernel_rfl⟩
instance : Zero Tryz.prog 360 .nilFunc [.nilFunc] := ⟨by kernel_rfl, rfl⟩
instance : Scal Tryz.prog 361 := ⟨by kernel_rfl, by kernel_rfl⟩
instance : Zero Tryz.prog 361 .nilFunc [.nilFunc] := ⟨by kernel_rfl, rfl⟩
instance : Scal Tryz.prog 362 := ⟨by kernel_rfl, by kernel_rfl⟩
instance : Zero Tryz.prog 362 .nilFunc [.nilFunc] := ⟨by kernel_rfl, rfl⟩
instance : Scal Tryz.prog 363 := ⟨by kernel_rfl, by kernel_rfl⟩
instance : Zero Tryz.prog 363 .nilFunc [.nilFunc] := ⟨by kernel_rfl, rfl⟩
instance : Scal Tryz.prog 364 := ⟨by kernel_rfl, by kernel_rfl⟩
instance : Zero Tryz.prog 364 .nilFunc [.nilFunc] := ⟨by kernel_rfl, rfl⟩
instance : Und Tryz.prog 365 (.int .u64) := ⟨by kernel_rfl⟩
instance : Scal Tryz.prog 365 := ⟨by kernel_rfl, by kernel_rfl⟩
instance : Zero Tryz.prog 365 (u64 0) [(u64 0)] := ⟨by kernel_rfl, rfl⟩
instance : Scal Tryz.prog 366 := ⟨by kernel_rfl, by kernel_rfl⟩
instance : Zero Tryz.prog 366 .nilFunc [.nilFunc] := ⟨by kernel_rfl, rfl⟩
instance : Scal Tryz.prog 367 := ⟨by kernel_rfl, by kernel_rfl⟩
instance : Zero Tryz.prog 367 .nilFunc [.nilFunc] := ⟨by kernel_rfl, rfl⟩
instance : Und Tryz.prog 368 (.pointer 3) := ⟨by kernel_rfl⟩
instance : Scal Tryz.prog 368 := ⟨by kernel_rfl, by kernel_rfl⟩
instance : Zero Tryz.prog 368 (.pointer none) [(.pointer none)] := ⟨by kernel_rfl, rfl⟩
instance : Scal Tryz.prog 369 := ⟨by kernel_rfl, by kernel_rfl⟩
instance : Zero Tryz.prog 369 .nilFunc [.nilFunc] := ⟨by kernel_rfl, rfl⟩
instance : Scal Tryz.prog 370 := ⟨by kernel_rfl, by kernel_rfl⟩
instance : Zero Tryz.prog 370 .nilFunc [.nilFunc] := ⟨by kernel_rfl, rfl⟩
instance : Scal Tryz.prog 371 := ⟨by kernel_rfl, by kernel_rfl⟩
instance : Zero Tryz.prog 371 .nilFunc [.nilFunc] := ⟨by kernel_rfl, rfl⟩
instance : Und Tryz.prog 372 (.pointer 365) := ⟨by kernel_rfl⟩
instance : Scal Tryz.prog 372 := ⟨by kernel_rfl, by kernel_rfl⟩
instance : Zero Tryz.prog 372 (.pointer none) [(.pointer none)] := ⟨by kernel_rfl, rfl⟩
instance : Scal Tryz.prog 374 := ⟨by kernel_rfl, by kernel_rfl⟩
instance : Zero Tryz.prog 374 .nilFunc [.nilFunc] := ⟨by kernel_rfl, rfl⟩
instance : Scal Tryz.prog 375 := ⟨by kernel_rfl, by kernel_rfl⟩
instance : Zero Tryz.prog 375 .nilFunc [.nilFunc] := ⟨by kernel_rfl, rfl⟩
instance : Scal Tryz.prog 376 := ⟨by kernel_rfl, by kernel_rfl⟩
instance : Zero Tryz.prog 376 .nilFunc [.nilFunc] := ⟨by kernel_rfl, rfl⟩
instance : Aggr Tryz.prog 377 4 := ⟨by kernel_rfl, by kernel_rfl⟩
instance : Zero Tryz.prog 377 (.agg #[(.pointer none), (.pointer none), (.pointer none), (strV [])]) [(.pointer none), (.pointer none), (.pointer none), (strV [])] := ⟨by kernel_rfl, rfl⟩
instance : Fld Tryz.prog 377 0 0 17 := ⟨0, by kernel_rfl⟩
instance : Fld Tryz.prog 377 1 1 17 := ⟨0, by kernel_rfl⟩
instance : Fld Tryz.prog 377 2 2 17 := ⟨0, by kernel_rfl⟩
instance : Fld Tryz.prog 377 3 3 9 := ⟨0, by kernel_rfl⟩
instance : Places Tryz.prog 377 [(0, 1), (1, 1), (2, 1), (3, 1)] := ⟨by kernel_rfl⟩
instance : Aggr Tryz.prog 378 4 := ⟨by kernel_rfl, by kernel_rfl⟩
instance : Zero Tryz.prog 378 (.agg #[(.pointer none), (.pointer none), (.pointer none), (strV [])]) [(.pointer none), (.pointer none), (.pointer none), (strV [])] := ⟨by kernel_rfl, rfl⟩
instance : Fld Tryz.prog 378 0 0 17 := ⟨0, by kernel_rfl⟩
instance : Fld Tryz.prog 378 1 1 17 := ⟨0, by kernel_rfl⟩
instance : Fld Tryz.prog 378 2 2 17 := ⟨0, by kernel_rfl⟩
instance : Fld Tryz.prog 378 3 3 9 := ⟨0, by kernel_rfl⟩
instance : Places Tryz.prog 378 [(0, 1), (1, 1), (2, 1), (3, 1)] := ⟨by kernel_rfl⟩
instance : Und Tryz.prog 379 (.array 0 16) := ⟨by kernel_rfl⟩
instance : Aggr Tryz.prog 379 0 := ⟨by kernel_rfl, by kernel_rfl⟩
instance : Zero Tryz.prog 379 (.agg #[]) [] := ⟨by kernel_rfl, rfl⟩
instance : Aggr Tryz.prog 380 0 := ⟨by kernel_rfl, by kernel_rfl⟩
instance : Zero Tryz.prog 380 (.agg #[]) [] := ⟨by kernel_rfl, rfl⟩
instance : Places Tryz.prog 380 [(0, 0)] := ⟨by kernel_rfl⟩
instance : Aggr Tryz.prog 381 0 := ⟨by kernel_rfl, by kernel_rfl⟩
instance : Zero Tryz.prog 381 (.agg #[]) [] := ⟨by kernel_rfl, rfl⟩
instance : Places Tryz.prog 381 [(0, 0)] := ⟨by kernel_rfl⟩
instance : Und Tryz.prog 382 (.int .u8) := ⟨by kernel_rfl⟩
instance : Scal Tryz.prog 382 := ⟨by kernel_rfl, by kernel_rfl⟩
instance : Zero Tryz.prog 382 (u8 0) [(u8 0)] := ⟨by kernel_rfl, rfl⟩
instance : Und Tryz.prog 383 (.int .u8) := ⟨by kernel_rfl⟩
instance : Scal Tryz.prog 383 := ⟨by kernel_rfl, by kernel_rfl⟩
instance : Zero Tryz.prog 383 (u8 0) [(u8 0)] := ⟨by kernel_rfl, rfl⟩
instance : Scal Tryz.prog 384 := ⟨by kernel_rfl, by kernel_rfl⟩
instance : Zero Tryz.prog 384 .nilFunc [.nilFunc] := ⟨by kernel_rfl, rfl⟩
instance : Und Tryz.prog 385 (.pointer 5) := ⟨by kernel_rfl⟩
instance : Scal Tryz.prog 385 := ⟨by kernel_rfl, by kernel_rfl⟩
instance : Zero Tryz.prog 385 (.pointer none) [(.pointer none)] := ⟨by kernel_rfl, rfl⟩
instance : Und Tryz.prog 386 (.int .i32) := ⟨by kernel_rfl⟩
instance : Scal Tryz.prog 386 := ⟨by kernel_rfl, by kernel_rfl⟩
instance : Zero Tryz.prog 386 (.int .i32 0) [(.int .i32 0)] := ⟨by kernel_rfl, rfl⟩
instance : Und Tryz.prog 387 (.int .i32) := ⟨by kernel_rfl⟩
instance : Scal Tryz.prog 387 := ⟨by kernel_rfl, by kernel_rfl⟩
instance : Zero Tryz.prog 387 (.int .i32 0) [(.int .i32 0)] := ⟨by kernel_rfl, rfl⟩
instance : Aggr Tryz.prog 388 11 := ⟨by kernel_rfl, by kernel_rfl⟩
instance : Zero Tryz.prog 388 (.agg #[(u64 0), (u64 0), (u32 0), (u8 0), (u8 0), (u8 0), (u8 0), .nilFunc, (.pointer none), (.int .i32 0), (.int .i32 0)]) [(u64 0), (u64 0), (u32 0), (u8 0), (u8 0), (u8 0), (u8 0), .nilFunc, (.pointer none), (.int .i32 0), (.int .i32 0)] := ⟨by kernel_rfl, rfl⟩
instance : Fld Tryz.prog 388 0 0 12 := ⟨0, by kernel_rfl⟩
instance : Fld Tryz.prog 388 1 1 12 := ⟨0, by kernel_rfl⟩
instance : Fld Tryz.prog 388 2 2 34 := ⟨0, by kernel_rfl⟩
instance : Fld Tryz.prog 388 3 3 382 := ⟨0, by kernel_rfl⟩
instance : Fld Tryz.prog 388 4 4 5 := ⟨0, by kernel_rfl⟩
instance : Fld Tryz.prog 388 5 5 5 := ⟨0, by kernel_rfl⟩
instance : Fld Tryz.prog 388 6 6 383 := ⟨0, by kernel_rfl⟩
instance : Fld Tryz.prog 388 7 7 384 := ⟨0, by kernel_rfl⟩
instance : Fld Tryz.prog 388 8 8 385 := ⟨0, by kernel_rfl⟩
instance : Fld Tryz.prog 388 9 9 386 := ⟨0, by kernel_rfl⟩
instance : Fld Tryz.prog 388 10 10 387 := ⟨0, by kernel_rfl⟩
instance : Places Tryz.prog 388 [(0, 1), (1, 1), (2, 1), (3, 1), (4, 1), (5, 1), (6, 1), (7, 1), (8, 1), (9, 1), (10, 1)] := ⟨by kernel_rfl⟩
instance : Aggr Tryz.prog 389 11 := ⟨by kernel_rfl, by kernel_rfl⟩
instance : Zero Tryz.prog 389 (.agg #[(u64 0), (u64 0), (u32 0), (u8 0), (u8 0), (u8 0), (u8 0), .nilFunc, (.pointer none), (.int .i32 0), (.int .i32 0)]) [(u64 0), (u64 0), (u32 0), (u8 0), (u8 0), (u8 0), (u8 0), .nilFunc, (.pointer none), (.int .i32 0), (.int .i32 0)] := ⟨by kernel_rfl, rfl⟩
instance : Fld Tryz.prog 389 0 0 12 := ⟨0, by kernel_rfl⟩
instance : Fld Tryz.prog 389 1 1 12 := ⟨0, by kernel_rfl⟩
instance : Fld Tryz.prog 389 2 2 34 := ⟨0, by kernel_rfl⟩
instance : Fld Tryz.prog 389 3 3 382 := ⟨0, by kernel_rfl⟩
instance : Fld Tryz.prog 389 4 4 5 := ⟨0, by kernel_rfl⟩
instance : Fld Tryz.prog 389 5 5 5 := ⟨0, by kernel_rfl⟩
instance : Fld Tryz.prog 389 6 6 383 := ⟨0, by kernel_rfl⟩
instance : Fld Tryz.prog 389 7 7 384 := ⟨0, by kernel_rfl⟩
instance : Fld Tryz.prog 389 8 8 385 := ⟨0, by kernel_rfl⟩
instance : Fld Tryz.prog 389 9 9 386 := ⟨0, by kernel_rfl⟩
instance : Fld Tryz.prog 389 10 10 387 := ⟨0, by kernel_rfl⟩
instance : Places Tryz.prog 389 [(0, 1), (1, 1), (2, 1), (3, 1), (4, 1), (5, 1), (6, 1), (7, 1), (8, 1), (9, 1), (10, 1)] := ⟨by kernel_rfl⟩
instance : IsFun Tryz.prog 2 := ⟨_, Tryz.func2, by decide +kernel, rfl⟩
instance : IsFun Tryz.prog 3 := ⟨_, Tryz.func3, by decide +kernel, rfl⟩
instance : IsFun Tryz.prog 4 := ⟨_, Tryz.func4, by decide +kernel, rfl⟩
instance : IsFun Tryz.prog 5 := ⟨_, Tryz.func5, by decide +kernel, rfl⟩
instance : IsFun Tryz.prog 6 := ⟨_, Tryz.func6, by decide +kernel, rfl⟩
instance : IsFun Tryz.prog 7 := ⟨_, Tryz.func7, by decide +kernel, rfl⟩
instance : IsFun Tryz.prog 8 := ⟨_, Tryz.func8, by decide +kernel, rfl⟩
instance : IsFun Tryz.prog 9 := ⟨_, Tryz.func9, by decide +kernel, rfl⟩
instance : IsFun Tryz.prog 10 := ⟨_, Tryz.func10, by decide +kernel, rfl⟩
instance : IsFun Tryz.prog 11 := ⟨_, Tryz.func11, by decide +kernel, rfl⟩
instance : IsFun Tryz.prog 12 := ⟨_, Tryz.func12, by decide +kernel, rfl⟩
instance : IsFun Tryz.prog 13 := ⟨_, Tryz.func13, by decide +kernel, rfl⟩
instance : IsFun Tryz.prog 14 := ⟨_, Tryz.func14, by decide +kernel, rfl⟩
instance : IsFun Tryz.prog 15 := ⟨_, Tryz.func15, by decide +kernel, rfl⟩
instance : IsFun Tryz.prog 16 := ⟨_, Tryz.func16, by decide +kernel, rfl⟩
instance : IsFun Tryz.prog 17 := ⟨_, Tryz.func17, by decide +kernel, rfl⟩
instance : IsFun Tryz.prog 18 := ⟨_, Tryz.func18, by decide +kernel, rfl⟩
instance : IsFun Tryz.prog 19 := ⟨_, Tryz.func19, by decide +kernel, rfl⟩
instance : IsFun Tryz.prog 20 := ⟨_, Tryz.func20, by decide +kernel, rfl⟩
instance : IsFun Tryz.prog 21 := ⟨_, Tryz.func21, by decide +kernel, rfl⟩
instance : IsFun Tryz.prog 22 := ⟨_, Tryz.func22, by decide +kernel, rfl⟩
instance : IsFun Tryz.prog 23 := ⟨_, Tryz.func23, by decide +kernel, rfl⟩
instance : IsFun Tryz.prog 24 := ⟨_, Tryz.func24, by decide +kernel, rfl⟩
instance : IsFun Tryz.prog 25 := ⟨_, Tryz.func25, by decide +kernel, rfl⟩
instance : IsFun Tryz.prog 26 := ⟨_, Tryz.func26, by decide +kernel, rfl⟩
instance : IsFun Tryz.prog 27 := ⟨_, Tryz.func27, by decide +kernel, rfl⟩
instance : IsFun Tryz.prog 28 := ⟨_, Tryz.func28, by decide +kernel, rfl⟩
instance : IsFun Tryz.prog 29 := ⟨_, Tryz.func29, by decide +kernel, rfl⟩
instance : IsFun Tryz.prog 30 := ⟨_, Tryz.func30, by decide +kernel, rfl⟩
instance : IsFun Tryz.prog 31 := ⟨_, Tryz.func31, by decide +kernel, rfl⟩
instance : IsFun Tryz.prog 32 := ⟨_, Tryz.func32, by decide +kernel, rfl⟩
instance : IsFun Tryz.prog 33 := ⟨_, Tryz.func33, by decide +kernel, rfl⟩
instance : IsFun Tryz.prog 34 := ⟨_, Tryz.func34, by decide +kernel, rfl⟩
instance : IsFun Tryz.prog 35 := ⟨_, Tryz.func35, by decide +kernel, rfl⟩
instance : IsFun Tryz.prog 36 := ⟨_, Tryz.func36, by decide +kernel, rfl⟩
instance : IsFun Tryz.prog 37 := ⟨_, Tryz.func37, by decide +kernel, rfl⟩
instance : IsFun Tryz.prog 38 := ⟨_, Tryz.func38, by decide +kernel, rfl⟩
instance : IsFun Tryz.prog 39 := ⟨_, Tryz.func39, by decide +kernel, rfl⟩
instance : IsFun Tryz.prog 40 := ⟨_, Tryz.func40, by decide +kernel, rfl⟩
instance : IsFun Tryz.prog 41 := ⟨_, Tryz.func41, by decide +kernel, rfl⟩
instance : IsFun Tryz.prog 42 := ⟨_, Tryz.func42, by decide +kernel, rfl⟩
instance : IsFun Tryz.prog 43 := ⟨_, Tryz.func43, by decide +kernel, rfl⟩
instance : IsFun Tryz.prog 44 := ⟨_, Tryz.func44, by decide +kernel, rfl⟩
instance : IsFun Tryz.prog 45 := ⟨_, Tryz.func45, by decide +kernel, rfl⟩
instance : IsFun Tryz.prog 46 := ⟨_, Tryz.func46, by decide +kernel, rfl⟩
instance : IsFun Tryz.prog 47 := ⟨_, Tryz.func47, by decide +kernel, rfl⟩
instance : IsFun Tryz.prog 48 := ⟨_, Tryz.func48, by decide +kernel, rfl⟩
instance : IsFun Tryz.prog 49 := ⟨_, Tryz.func49, by decide +kernel, rfl⟩
instance : IsFun Tryz.prog 50 := ⟨_, Tryz.func50, by decide +kernel, rfl⟩
instance : IsFun Tryz.prog 51 := ⟨_, Tryz.func51, by decide +kernel, rfl⟩
instance : IsFun Tryz.prog 52 := ⟨_, Tryz.func52, by decide +kernel, rfl⟩
instance : IsFun Tryz.prog 53 := ⟨_, Tryz.func53, by decide +kernel, rfl⟩
instance : IsFun Tryz.prog 54 := ⟨_, Tryz.func54, by decide +kernel, rfl⟩
instance : IsFun Tryz.prog 55 := ⟨_, Tryz.func55, by decide +kernel, rfl⟩
instance : IsFun Tryz.prog 56 := ⟨_, Tryz.func56, by decide +kernel, rfl⟩
instance : IsFun Tryz.prog 57 := ⟨_, Tryz.func57, by decide +kernel, rfl⟩
instance : IsFun Tryz.prog 58 := ⟨_, Tryz.func58, by decide +kernel, rfl⟩
instance : IsFun Tryz.prog 59 := ⟨_, Tryz.func59, by decide +kernel, rfl⟩
instance : IsFun Tryz.prog 60 := ⟨_, Tryz.func60, by decide +kernel, rfl⟩
instance : IsFun Tryz.prog 61 := ⟨_, Tryz.func61, by decide +kernel, rfl⟩
instance : IsFun Tryz.prog 62 := ⟨_, Tryz.func62, by decide +kernel, rfl⟩
instance : IsFun Tryz.prog 63 := ⟨_, Tryz.func63, by decide +kernel, rfl⟩
instance : IsFun Tryz.prog 64 := ⟨_, Tryz.func64, by decide +kernel, rfl⟩
instance : IsFun Tryz.prog 65 := ⟨_, Tryz.func65, by decide +kernel, rfl⟩
instance : IsFun Tryz.prog 66 := ⟨_, Tryz.func66, by decide +kernel, rfl⟩
instance : IsFun Tryz.prog 67 := ⟨_, Tryz.func67, by decide +kernel, rfl⟩
instance : IsFun Tryz.prog 68 := ⟨_, Tryz.func68, by decide +kernel, rfl⟩
instance : IsFun Tryz.prog 69 := ⟨_, Tryz.func69, by decide +kernel, rfl⟩
instance : IsFun Tryz.prog 70 := ⟨_, Tryz.func70, by decide +kernel, rfl⟩
instance : IsFun Tryz.prog 71 := ⟨_, Tryz.func71, by decide +kernel, rfl⟩
instance : IsFun Tryz.prog 72 := ⟨_, Tryz.func72, by decide +kernel, rfl⟩
instance : IsFun Tryz.prog 73 := ⟨_, Tryz.func73, by decide +kernel, rfl⟩
instance : IsFun Tryz.prog 74 := ⟨_, Tryz.func74, by decide +kernel, rfl⟩
instance : IsFun Tryz.prog 75 := ⟨_, Tryz.func75, by decide +kernel, rfl⟩
instance : IsFun Tryz.prog 76 := ⟨_, Tryz.func76, by decide +kernel, rfl⟩
instance : IsFun Tryz.prog 77 := ⟨_, Tryz.func77, by decide +kernel, rfl⟩
instance : IsFun Tryz.prog 78 := ⟨_, Tryz.func78, by decide +kernel, rfl⟩
instance : IsFun Tryz.prog 79 := ⟨_, Tryz.func79, by decide +kernel, rfl⟩
instance : IsFun Tryz.prog 80 := ⟨_, Tryz.func80, by decide +kernel, rfl⟩
instance : IsFun Tryz.prog 81 := ⟨_, Tryz.func81, by decide +kernel, rfl⟩
instance : IsFun Tryz.prog 82 := ⟨_, Tryz.func82, by decide +kernel, rfl⟩
instance : IsFun Tryz.prog 83 := ⟨_, Tryz.func83, by decide +kernel, rfl⟩
instance : IsFun Tryz.prog 84 := ⟨_, Tryz.func84, by decide +kernel, rfl⟩
instance : IsFun Tryz.prog 85 := ⟨_, Tryz.func85, by decide +kernel, rfl⟩
instance : IsFun Tryz.prog 86 := ⟨_, Tryz.func86, by decide +kernel, rfl⟩
instance : IsFun Tryz.prog 87 := ⟨_, Tryz.func87, by decide +kernel, rfl⟩
instance : IsFun Tryz.prog 88 := ⟨_, Tryz.func88, by decide +kernel, rfl⟩
instance : IsFun Tryz.prog 89 := ⟨_, Tryz.func89, by decide +kernel, rfl⟩
instance : IsFun Tryz.prog 90 := ⟨_, Tryz.func90, by decide +kernel, rfl⟩
instance : IsFun Tryz.prog 91 := ⟨_, Tryz.func91, by decide +kernel, rfl⟩
instance : IsFun Tryz.prog 92 := ⟨_, Tryz.func92, by decide +kernel, rfl⟩
instance : IsFun Tryz.prog 93 := ⟨_, Tryz.func93, by decide +kernel, rfl⟩
instance : IsFun Tryz.prog 94 := ⟨_, Tryz.func94, by decide +kernel, rfl⟩
instance : IsFun Tryz.prog 95 := ⟨_, Tryz.func95, by decide +kernel, rfl⟩
instance : IsFun Tryz.prog 96 := ⟨_, Tryz.func96, by decide +kernel, rfl⟩
instance : IsFun Tryz.prog 97 := ⟨_, Tryz.func97, by decide +kernel, rfl⟩
instance : IsFun Tryz.prog 98 := ⟨_, Tryz.func98, by decide +kernel, rfl⟩
instance : IsFun Tryz.prog 99 := ⟨_, Tryz.func99, by decide +kernel, rfl⟩
instance : IsFun Tryz.prog 100 := ⟨_, Tryz.func100, by decide +kernel, rfl⟩
instance : IsFun Tryz.prog 101 := ⟨_, Tryz.func101, by decide +kernel, rfl⟩
instance : IsFun Tryz.prog 102 := ⟨_, Tryz.func102, by decide +kernel, rfl⟩
instance : IsFun Tryz.prog 103 := ⟨_, Tryz.func103, by decide +kernel, rfl⟩
instance : IsFun Tryz.prog 104 := ⟨_, Tryz.func104, by decide +kernel, rfl⟩
instance : IsFun Tryz.prog 105 := ⟨_, Tryz.func105, by decide +kernel, rfl⟩
instance : IsFun Tryz.prog 106 := ⟨_, Tryz.func106, by decide +kernel, rfl⟩
instance : IsFun Tryz.prog 107 := ⟨_, Tryz.func107, by decide +kernel, rfl⟩
instance : IsFun Tryz.prog 108 := ⟨_, Tryz.func108, by decide +kernel, rfl⟩
instance : IsFun Tryz.prog 109 := ⟨_, Tryz.func109, by decide +kernel, rfl⟩
instance : IsFun Tryz.prog 110 := ⟨_, Tryz.func110, by decide +kernel, rfl⟩
instance : IsFun Tryz.prog 111 := ⟨_, Tryz.func111, by decide +kernel, rfl⟩
instance : IsFun Tryz.prog 112 := ⟨_, Tryz.func112, by decide +kernel, rfl⟩
instance : IsFun Tryz.prog 113 := ⟨_, Tryz.func113, by decide +kernel, rfl⟩
instance : IsFun Tryz.prog 114 := ⟨_, Tryz.func114, by decide +kernel, rfl⟩
instance : IsFun Tryz.prog 115 := ⟨_, Tryz.func115, by decide +kernel, rfl⟩
instance : IsFun Tryz.prog 116 := ⟨_, Tryz.func116, by decide +kernel, rfl⟩
instance : IsFun Tryz.prog 117 := ⟨_, Tryz.func117, by decide +kernel, rfl⟩
instance : IsFun Tryz.prog 118 := ⟨_, Tryz.func118, by decide +kernel, rfl⟩
instance : IsFun Tryz.prog 119 := ⟨_, Tryz.func119, by decide +kernel, rfl⟩
instance : IsFun Tryz.prog 120 := ⟨_, Tryz.func120, by decide +kernel, rfl⟩
instance : IsFun Tryz.prog 121 := ⟨_, Tryz.func121, by decide +kernel, rfl⟩
instance : IsFun Tryz.prog 122 := ⟨_, Tryz.func122, by decide +kernel, rfl⟩
instance : IsFun Tryz.prog 123 := ⟨_, Tryz.func123, by decide +kernel, rfl⟩
instance : IsFun Tryz.prog 124 := ⟨_, Tryz.func124, by decide +kernel, rfl⟩
instance : IsFun Tryz.prog 125 := ⟨_, Tryz.func125, by decide +kernel, rfl⟩
instance : IsFun Tryz.prog 126 := ⟨_, Tryz.func126, by decide +kernel, rfl⟩
instance : IsFun Tryz.prog 127 := ⟨_, Tryz.func127, by decide +kernel, rfl⟩
instance : IsFun Tryz.prog 128 := ⟨_, Tryz.func128, by decide +kernel, rfl⟩
instance : IsFun Tryz.prog 129 := ⟨_, Tryz.func129, by decide +kernel, rfl⟩
instance : IsFun Tryz.prog 130 := ⟨_, Tryz.func130, by decide +kernel, rfl⟩
instance : IsFun Tryz.prog 131 := ⟨_, Tryz.func131, by decide +kernel, rfl⟩
instance : IsFun Tryz.prog 132 := ⟨_, Tryz.func132, by decide +kernel, rfl⟩
instance : IsFun Tryz.prog 133 := ⟨_, Tryz.func133, by decide +kernel, rfl⟩
instance : IsFun Tryz.prog 134 := ⟨_, Tryz.func134, by decide +kernel, rfl⟩
instance : IsFun Tryz.prog 135 := ⟨_, Tryz.func135, by decide +kernel, rfl⟩
instance : IsFun Tryz.prog 136 := ⟨_, Tryz.func136, by decide +kernel, rfl⟩
instance : IsFun Tryz.prog 137 := ⟨_, Tryz.func137, by decide +kernel, rfl⟩
instance : IsFun Tryz.prog 138 := ⟨_, Tryz.func138, by decide +kernel, rfl⟩
instance : IsFun Tryz.prog 139 := ⟨_, Tryz.func139, by decide +kernel, rfl⟩
instance : IsFun Tryz.prog 140 := ⟨_, Tryz.func140, by decide +kernel, rfl⟩
instance : IsFun Tryz.prog 141 := ⟨_, Tryz.func141, by decide +kernel, rfl⟩
instance : IsFun Tryz.prog 142 := ⟨_, Tryz.func142, by decide +kernel, rfl⟩
instance : IsFun Tryz.prog 143 := ⟨_, Tryz.func143, by decide +kernel, rfl⟩
instance : IsFun Tryz.prog 144 := ⟨_, Tryz.func144, by decide +kernel, rfl⟩
instance : IsFun Tryz.prog 145 := ⟨_, Tryz.func145, by decide +kernel, rfl⟩
instance : IsFun Tryz.prog 146 := ⟨_, Tryz.func146, by decide +kernel, rfl⟩
instance : IsFun Tryz.prog 147 := ⟨_, Tryz.func147, by decide +kernel, rfl⟩
instance : IsFun Tryz.prog 148 := ⟨_, Tryz.func148, by decide +kernel, rfl⟩
instance : IsFun Tryz.prog 149 := ⟨_, Tryz.func149, by decide +kernel, rfl⟩
instance : IsFun Tryz.prog 150 := ⟨_, Tryz.func150, by decide +kernel, rfl⟩
instance : IsFun Tryz.prog 151 := ⟨_, Tryz.func151, by decide +kernel, rfl⟩
instance : IsFun Tryz.prog 152 := ⟨_, Tryz.func152, by decide +kernel, rfl⟩
instance : IsFun Tryz.prog 153 := ⟨_, Tryz.func153, by decide +kernel, rfl⟩
instance : IsFun Tryz.prog 154 := ⟨_, Tryz.func154, by decide +kernel, rfl⟩
instance : IsFun Tryz.prog 155 := ⟨_, Tryz.func155, by decide +kernel, rfl⟩
instance : IsFun Tryz.prog 156 := ⟨_, Tryz.func156, by decide +kernel, rfl⟩
instance : IsFun Tryz.prog 157 := ⟨_, Tryz.func157, by decide +kernel, rfl⟩
instance : IsFun Tryz.prog 158 := ⟨_, Tryz.func158, by decide +kernel, rfl⟩
instance : IsFun Tryz.prog 159 := ⟨_, Tryz.func159, by decide +kernel, rfl⟩
instance : IsFun Tryz.prog 160 := ⟨_, Tryz.func160, by decide +kernel, rfl⟩
instance : IsFun Tryz.prog 161 := ⟨_, Tryz.func161, by decide +kernel, rfl⟩
instance : IsFun Tryz.prog 162 := ⟨_, Tryz.func162, by decide +kernel, rfl⟩
instance : IsFun Tryz.prog 163 := ⟨_, Tryz.func163, by decide +kernel, rfl⟩
instance : IsFun Tryz.prog 164 := ⟨_, Tryz.func164, by decide +kernel, rfl⟩
instance : IsFun Tryz.prog 165 := ⟨_, Tryz.func165, by decide +kernel, rfl⟩
instance : IsFun Tryz.prog 166 := ⟨_, Tryz.func166, by decide +kernel, rfl⟩
instance : IsFun Tryz.prog 167 := ⟨_, Tryz.func167, by decide +kernel, rfl⟩
instance : IsFun Tryz.prog 168 := ⟨_, Tryz.func168, by decide +kernel, rfl⟩
instance : IsFun Tryz.prog 169 := ⟨_, Tryz.func169, by decide +kernel, rfl⟩
instance : IsFun Tryz.prog 170 := ⟨_, Tryz.func170, by decide +kernel, rfl⟩
instance : IsFun Tryz.prog 171 := ⟨_, Tryz.func171, by decide +kernel, rfl⟩
instance : IsFun Tryz.prog 172 := ⟨_, Tryz.func172, by decide +kernel, rfl⟩
instance : IsFun Tryz.prog 173 := ⟨_, Tryz.func173, by decide +kernel, rfl⟩
instance : IsFun Tryz.prog 174 := ⟨_, Tryz.func174, by decide +kernel, rfl⟩
instance : IsFun Tryz.prog 175 := ⟨_, Tryz.func175, by decide +kernel, rfl⟩
instance : IsFun Tryz.prog 176 := ⟨_, Tryz.func176, by decide +kernel, rfl⟩
instance : IsFun Tryz.prog 177 := ⟨_, Tryz.func177, by decide +kernel, rfl⟩
instance : IsFun Tryz.prog 178 := ⟨_, Tryz.func178, by decide +kernel, rfl⟩
instance : IsFun Tryz.prog 179 := ⟨_, Tryz.func179, by decide +kernel, rfl⟩
instance : IsFun Tryz.prog 180 := ⟨_, Tryz.func180, by decide +kernel, rfl⟩
instance : IsFun Tryz.prog 181 := ⟨_, Tryz.func181, by decide +kernel, rfl⟩
instance : IsFun Tryz.prog 182 := ⟨_, Tryz.func182, by decide +kernel, rfl⟩
instance : IsFun Tryz.prog 183 := ⟨_, Tryz.func183, by decide +kernel, rfl⟩
instance : IsFun Tryz.prog 184 := ⟨_, Tryz.func184, by decide +kernel, rfl⟩
instance : IsFun Tryz.prog 185 := ⟨_, Tryz.func185, by decide +kernel, rfl⟩
instance : IsFun Tryz.prog 186 := ⟨_, Tryz.func186, by decide +kernel, rfl⟩
instance : IsFun Tryz.prog 187 := ⟨_, Tryz.func187, by decide +kernel, rfl⟩
instance : IsFun Tryz.prog 188 := ⟨_, Tryz.func188, by decide +kernel, rfl⟩
instance : IsFun Tryz.prog 189 := ⟨_, Tryz.func189, by decide +kernel, rfl⟩
instance : IsFun Tryz.prog 190 := ⟨_, Tryz.func190, by decide +kernel, rfl⟩
instance : IsFun Tryz.prog 191 := ⟨_, Tryz.func191, by decide +kernel, rfl⟩
instance : IsFun Tryz.prog 192 := ⟨_, Tryz.func192, by decide +kernel, rfl⟩
instance : IsFun Tryz.prog 193 := ⟨_, Tryz.func193, by decide +kernel, rfl⟩
instance : IsFun Tryz.prog 194 := ⟨_, Tryz.func194, by decide +kernel, rfl⟩
instance : IsFun Tryz.prog 195 := ⟨_, Tryz.func195, by decide +kernel, rfl⟩
instance : IsFun Tryz.prog 196 := ⟨_, Tryz.func196, by decide +kernel, rfl⟩
instance : IsFun Tryz.prog 197 := ⟨_, Tryz.func197, by decide +kernel, rfl⟩
instance : IsFun Tryz.prog 202 := ⟨_, Tryz.func202, by decide +kernel, rfl⟩
instance : IsFun Tryz.prog 205 := ⟨_, Tryz.func205, by decide +kernel, rfl⟩
instance : IsFun Tryz.prog 206 := ⟨_, Tryz.func206, by decide +kernel, rfl⟩
instance : IsFun Tryz.prog 207 := ⟨_, Tryz.func207, by decide +kernel, rfl⟩
instance : IsFun Tryz.prog 208 := ⟨_, Tryz.func208, by decide +kernel, rfl⟩
instance : IsFun Tryz.prog 209 := ⟨_, Tryz.func209, by decide +kernel, rfl⟩
instance : IsFun Tryz.prog 210 := ⟨_, Tryz.func210, by decide +kernel, rfl⟩
instance : IsFun Tryz.prog 211 := ⟨_, Tryz.func211, by decide +kernel, rfl⟩
instance : IsFun Tryz.prog 212 := ⟨_, Tryz.func212, by decide +kernel, rfl⟩
instance : IsFun Tryz.prog 213 := ⟨_, Tryz.func213, by decide +kernel, rfl⟩
instance : IsFun Tryz.prog 214 := ⟨_, Tryz.func214, by decide +kernel, rfl⟩
instance : IsFun Tryz.prog 215 := ⟨_, Tryz.func215, by decide +kernel, rfl⟩
instance : IsFun Tryz.prog 216 := ⟨_, Tryz.func216, by decide +kernel, rfl⟩
instance : IsFun Tryz.prog 217 := ⟨_, Tryz.func217, by decide +kernel, rfl⟩
instance : IsFun Tryz.prog 218 := ⟨_, Tryz.func218, by decide +kernel, rfl⟩
instance : IsFun Tryz.prog 219 := ⟨_, Tryz.func219, by decide +kernel, rfl⟩
instance : IsFun Tryz.prog 220 := ⟨_, Tryz.func220, by decide +kernel, rfl⟩
instance : IsFun Tryz.prog 221 := ⟨_, Tryz.func221, by decide +kernel, rfl⟩
instance : IsFun Tryz.prog 222 := ⟨_, Tryz.func222, by decide +kernel, rfl⟩
instance : IsFun Tryz.prog 223 := ⟨_, Tryz.func223, by decide +kernel, rfl⟩
instance : IsFun Tryz.prog 224 := ⟨_, Tryz.func224, by decide +kernel, rfl⟩
instance : IsFun Tryz.prog 225 := ⟨_, Tryz.func225, by decide +kernel, rfl⟩
instance : IsFun Tryz.prog 226 := ⟨_, Tryz.func226, by decide +kernel, rfl⟩
instance : IsFun Tryz.prog 227 := ⟨_, Tryz.func227, by decide +kernel, rfl⟩
instance : IsFun Tryz.prog 228 := ⟨_, Tryz.func228, by decide +kernel, rfl⟩
instance : IsFun Tryz.prog 229 := ⟨_, Tryz.func229, by decide +kernel, rfl⟩
instance : IsFun Tryz.prog 230 := ⟨_, Tryz.func230, by decide +kernel, rfl⟩
instance : IsFun Tryz.prog 231 := ⟨_, Tryz.func231, by decide +kernel, rfl⟩
instance : IsFun Tryz.prog 232 := ⟨_, Tryz.func232, by decide +kernel, rfl⟩
instance : IsFun Tryz.prog 233 := ⟨_, Tryz.func233, by decide +kernel, rfl⟩
instance : IsFun Tryz.prog 234 := ⟨_, Tryz.func234, by decide +kernel, rfl⟩
instance : IsFun Tryz.prog 235 := ⟨_, Tryz.func235, by decide +kernel, rfl⟩
instance : IsFun Tryz.prog 236 := ⟨_, Tryz.func236, by decide +kernel, rfl⟩
instance : IsFun Tryz.prog 237 := ⟨_, Tryz.func237, by decide +kernel, rfl⟩
instance : IsFun Tryz.prog 245 := ⟨_, Tryz.func245, by decide +kernel, rfl⟩
instance : IsFun Tryz.prog 246 := ⟨_, Tryz.func246, by decide +kernel, rfl⟩
instance : IsFun Tryz.prog 247 := ⟨_, Tryz.func247, by decide +kernel, rfl⟩
instance : IsFun Tryz.prog 248 := ⟨_, Tryz.func248, by decide +kernel, rfl⟩
instance : IsFun Tryz.prog 249 := ⟨_, Tryz.func249, by decide +kernel, rfl⟩
instance : IsFun Tryz.prog 250 := ⟨_, Tryz.func250, by decide +kernel, rfl⟩
instance : IsFun Tryz.prog 251 := ⟨_, Tryz.func251, by decide +kernel, rfl⟩
instance : IsFun Tryz.prog 252 := ⟨_, Tryz.func252, by decide +kernel, rfl⟩
instance : IsFun Tryz.prog 253 := ⟨_, Tryz.func253, by decide +kernel, rfl⟩
instance : IsFun Tryz.prog 254 := ⟨_, Tryz.func254, by decide +kernel, rfl⟩
instance : IsFun Tryz.prog 255 := ⟨_, Tryz.func255, by decide +kernel, rfl⟩
instance : IsFun Tryz.prog 256 := ⟨_, Tryz.func256, by decide +kernel, rfl⟩
instance : IsFun Tryz.prog 257 := ⟨_, Tryz.func257, by decide +kernel, rfl⟩
instance : IsFun Tryz.prog 258 := ⟨_, Tryz.func258, by decide +kernel, rfl⟩
instance : IsFun Tryz.prog 259 := ⟨_, Tryz.func259, by decide +kernel, rfl⟩
instance : IsFun Tryz.prog 260 := ⟨_, Tryz.func260, by decide +kernel, rfl⟩
instance : IsFun Tryz.prog 261 := ⟨_, Tryz.func261, by decide +kernel, rfl⟩
instance : IsFun Tryz.prog 262 := ⟨_, Tryz.func262, by decide +kernel, rfl⟩
instance : IsFun Tryz.prog 263 := ⟨_, Tryz.func263, by decide +kernel, rfl⟩
instance : IsFun Tryz.prog 264 := ⟨_, Tryz.func264, by decide +kernel, rfl⟩
instance : IsFun Tryz.prog 265 := ⟨_, Tryz.func265, by decide +kernel, rfl⟩
instance : IsFun Tryz.prog 266 := ⟨_, Tryz.func266, by decide +kernel, rfl⟩
instance : IsFun Tryz.prog 267 := ⟨_, Tryz.func267, by decide +kernel, rfl⟩
instance : IsFun Tryz.prog 268 := ⟨_, Tryz.func268, by decide +kernel, rfl⟩
instance : IsFun Tryz.prog 269 := ⟨_, Tryz.func269, by decide +kernel, rfl⟩
instance : IsFun Tryz.prog 270 := ⟨_, Tryz.func270, by decide +kernel, rfl⟩
instance : IsFun Tryz.prog 271 := ⟨_, Tryz.func271, by decide +kernel, rfl⟩
instance : IsFun Tryz.prog 272 := ⟨_, Tryz.func272, by decide +kernel, rfl⟩
instance : IsFun Tryz.prog 273 := ⟨_, Tryz.func273, by decide +kernel, rfl⟩
instance : IsFun Tryz.prog 274 := ⟨_, Tryz.func274, by decide +kernel, rfl⟩
instance : IsFun Tryz.prog 275 := ⟨_, Tryz.func275, by decide +kernel, rfl⟩
instance : IsFun Tryz.prog 276 := ⟨_, Tryz.func276, by decide +kernel, rfl⟩
instance : IsFun Tryz.prog 277 := ⟨_, Tryz.func277, by decide +kernel, rfl⟩
instance : IsFun Tryz.prog 278 := ⟨_, Tryz.func278, by decide +kernel, rfl⟩
instance : IsFun Tryz.prog 279 := ⟨_, Tryz.func279, by decide +kernel, rfl⟩
instance : IsFun Tryz.prog 280 := ⟨_, Tryz.func280, by decide +kernel, rfl⟩
instance : IsFun Tryz.prog 281 := ⟨_, Tryz.func281, by decide +kernel, rfl⟩
instance : IsFun Tryz.prog 282 := ⟨_, Tryz.func282, by decide +kernel, rfl⟩
instance : IsFun Tryz.prog 283 := ⟨_, Tryz.func283, by decide +kernel, rfl⟩
instance : IsFun Tryz.prog 284 := ⟨_, Tryz.func284, by decide +kernel, rfl⟩
instance : IsFun Tryz.prog 285 := ⟨_, Tryz.func285, by decide +kernel, rfl⟩
instance : IsFun Tryz.prog 286 := ⟨_, Tryz.func286, by decide +kernel, rfl⟩
instance : IsFun Tryz.prog 287 := ⟨_, Tryz.func287, by decide +kernel, rfl⟩
end Go.Proofs.YtapoehkdnglahaaGreat

/- Calls whose results bear facts; facts among limbs. No program in sight. -/
namespace Go.Proofs.YtapoehkdnglahaaGreat
open Go.RowKit
set_option linter.unusedVariables false
set_option linter.unusedSectionVars false
variable {P : Program} {n : Frm} {w0 : World} {E : Env} {D : List Deferred} {H F F2 R : HProp} {ops : Array Oper} {l' : List Oper} {Q : Exit → St → Prop} {w : World}
/-- A fact among limbs. -/
class PureOf (H : HProp) (φ : outParam Prop) (F : outParam HProp) : Prop where
  eq : H = pure' φ * F
instance pureOf_head (φ : Prop) (F : HProp) : PureOf (pure' φ * F) φ F := ⟨rfl⟩
instance (priority := low) pureOf_left (X H F : HProp) (φ : Prop) [h : PureOf X φ F] : PureOf (X * H) φ (F * H) := ⟨by rw [h.eq, star_assoc]⟩
instance (priority := low) pureOf_tail (X H F : HProp) (φ : Prop) [h : PureOf H φ F] : PureOf (X * H) φ (X * F) := ⟨by rw [h.eq, star_left_comm]⟩
theorem LS_pureI {φ : Prop} (hp : PureOf H φ F) (h : φ → LS P n w0 ops Q l' ⟨E, D, F⟩) : LS P n w0 ops Q l' ⟨E, D, H⟩ := fun a w g => by
  obtain ⟨h1, h2⟩ := (g.sat.cast hp.eq).pure
  exact h h1 a w ⟨g.sees, g.defers, h2⟩
theorem WS_pureI {φ : Prop} {c : Code} (hp : PureOf H φ F) (h : φ → WS P n w0 c Q ⟨E, D, F⟩) : WS P n w0 c Q ⟨E, D, H⟩ := fun a w g => by
  obtain ⟨h1, h2⟩ := (g.sat.cast hp.eq).pure
  exact h h1 a w ⟨g.sees, g.defers, h2⟩
variable {d : Nat} {op : Op} {ty : TypeId} {pos : String} {after : Array Edge} {α : Type} {v : α → Value} {post : α → HProp}
theorem LS_hP {φ : α → Prop} (h : OpH P n w0 ⟨some d, op, ty, pos, after, none⟩ E H v (fun x => (pure' (φ x) * post x) * F)) (hd : Nat.blt d n.tmps = true) (hn : ∀ x, φ x → LS P n w0 ops Q l' ⟨(d, v x) :: E, D, post x * F⟩) : LS P n w0 ops Q (⟨some d, op, ty, pos, after, none⟩ :: l') ⟨E, D, H⟩ :=
  LS_h h hd fun x => LS_pureI inferInstance (hn x)
section lookup
variable {κ ν : Type} [DecidableEq κ] {fk : κ → Value} {fv : ν → Value} {r : Nat} {m : List (κ × ν)} {k : κ} {u : ν} {v : Value} {d : Option Tmp} {gu : Option (Nat × Bool)} {x y : Operand} {t kt et : TypeId} {z : Value} {zs : List Value}
/-- A key that is there, one that is not. -/
theorem Q_lookupOk_s (hx : E.ev x = some (.map (some r))) (hy : E.ev y = some v) (hl : MapOf H r κ ν fk fv m F) (hkk : AsKey fk v k) (hm : MapT P t kt et) (hz : Zero P et z zs) (hk : KeyT P kt fk) (he : mget m k = some u) : OpQ P n w0 ⟨d, .lookup t x y true, ty, pos, after, gu⟩ E H (.tuple #[fv u, .bool true]) := by
  have := Q_lookupOk (n := n) (w0 := w0) (d := d) (ty := ty) (pos := pos) (after := after) (gu := gu) hx hy hl hkk hm hz hk
  rwa [he] at this
theorem Q_lookupOk_n (hx : E.ev x = some (.map (some r))) (hy : E.ev y = some v) (hl : MapOf H r κ ν fk fv m F) (hkk : AsKey fk v k) (hm : MapT P t kt et) (hz : Zero P et z zs) (hk : KeyT P kt fk) (he : mget m k = none) : OpQ P n w0 ⟨d, .lookup t x y true, ty, pos, after, gu⟩ E H (.tuple #[z, .bool false]) := by
  have := Q_lookupOk (n := n) (w0 := w0) (d := d) (ty := ty) (pos := pos) (after := after) (gu := gu) hx hy hl hkk hm hz hk
  rwa [he] at this
theorem Q_lookup_s (hx : E.ev x = some (.map (some r))) (hy : E.ev y = some v) (hl : MapOf H r κ ν fk fv m F) (hkk : AsKey fk v k) (hm : MapT P t kt et) (hz : Zero P et z zs) (hk : KeyT P kt fk) (he : mget m k = some u) : OpQ P n w0 ⟨d, .lookup t x y false, ty, pos, after, gu⟩ E H (fv u) := by
  have := Q_lookup (n := n) (w0 := w0) (d := d) (ty := ty) (pos := pos) (after := after) (gu := gu) hx hy hl hkk hm hz hk
  rwa [he] at this
theorem Q_lookup_n (hx : E.ev x = some (.map (some r))) (hy : E.ev y = some v) (hl : MapOf H r κ ν fk fv m F) (hkk : AsKey fk v k) (hm : MapT P t kt et) (hz : Zero P et z zs) (hk : KeyT P kt fk) (he : mget m k = none) : OpQ P n w0 ⟨d, .lookup t x y false, ty, pos, after, gu⟩ E H z := by
  have := Q_lookup (n := n) (w0 := w0) (d := d) (ty := ty) (pos := pos) (after := after) (gu := gu) hx hy hl hkk hm hz hk
  rwa [he] at this
end lookup
end Go.Proofs.YtapoehkdnglahaaGreat

/- More operators; rows of pointers. No program in sight. -/
namespace Go.Proofs.YtapoehkdnglahaaGreat
open Go.RowKit
set_option linter.unusedVariables false
set_option linter.unusedSectionVars false
variable {P : Program} {n : Frm} {w0 : World} {E : Env} {D : List Deferred} {H F F2 R : HProp} {ops : Array Oper} {l' : List Oper} {Q : Exit → St → Prop} {w : World}
/-! ### Pointers against nil -/
instance eqlNilP {t e : TypeId} {a : Addr} [h : Und P t (.pointer e)] : BinV P .eql t (.pointer (some a)) (.pointer none) (.bool false) := ⟨fun w => by
  have hp : P.pointee t = e := by simp [Program.pointee, h.eq]
  have := run_eql_pointer_nil (w := w) t (some a) (by rw [hp]; exact h.eq)
  exact this, fun w _ _ => by rfl⟩
instance neqNilP {t e : TypeId} {a : Addr} [h : Und P t (.pointer e)] : BinV P .neq t (.pointer (some a)) (.pointer none) (.bool true) := ⟨fun w => by
  have hp : P.pointee t = e := by simp [Program.pointee, h.eq]
  have := run_neq_pointer_nil (w := w) t (some a) (by rw [hp]; exact h.eq)
  exact this, fun w _ _ => by rfl⟩
/-- A test whose outcome is a hypothesis. -/
theorem WS_condH_t {o : Operand} {b : Bool} {x y : Code} {σ : St} (hc : σ.E.ev o = some (.bool b)) (hl : b = true) (h : WS P n w0 x Q σ) : WS P n w0 (.cond o x y) Q σ := WS_cond hc (fun _ => h) (fun e => by rw [hl] at e; cases e)
theorem WS_condH_f {o : Operand} {b : Bool} {x y : Code} {σ : St} (hc : σ.E.ev o = some (.bool b)) (hl : b = false) (h : WS P n w0 y Q σ) : WS P n w0 (.cond o x y) Q σ := WS_cond hc (fun e => by rw [hl] at e; cases e) (fun _ => h)
/-- A pointer's cell. -/
def ptrC (g : Nat) : List Value := [ptr g 0]
instance : FixLen ptrC 1 := ⟨fun _ => rfl⟩
end Go.Proofs.YtapoehkdnglahaaGreat

/- Lists of pairs as maps, in plain Lean. -/
namespace Go.Proofs.YtapoehkdnglahaaGreat
set_option linter.unusedVariables false
set_option linter.unusedSectionVars false
section
variable {κ ν : Type} [DecidableEq κ]
/-- No key stands twice. -/
def KN (m : List (κ × ν)) : Prop := (m.map (·.1)).Nodup
theorem KN.nil : KN ([] : List (κ × ν)) := List.nodup_nil
theorem mget_cons (k : κ) (v : ν) (m : List (κ × ν)) (k' : κ) : mget ((k, v) :: m) k' = if k = k' then some v else mget m k' := by
  unfold mget
  simp only [mfind]
  by_cases h : k = k'
  · simp [h]
  · simp only [h, if_false]
    cases mfind m k' with
    | none => rfl
    | some i => simp
theorem mget_nil (k : κ) : mget ([] : List (κ × ν)) k = none := rfl
theorem mset_cons (k : κ) (v : ν) (m : List (κ × ν)) (k' : κ) (v' : ν) : mset ((k, v) :: m) k' v' = if k = k' then (k', v') :: m else (k, v) :: mset m k' v' := by
  unfold mset
  simp only [mfind]
  by_cases h : k = k'
  · simp [h]
  · simp only [h, if_false]
    cases mfind m k' with
    | none => rfl
    | some i => simp
theorem mset_nil (k : κ) (v : ν) : mset ([] : List (κ × ν)) k v = [(k, v)] := rfl
theorem mdel_cons (k : κ) (v : ν) (m : List (κ × ν)) (k' : κ) : mdel ((k, v) :: m) k' = if k = k' then m else (k, v) :: mdel m k' := by
  unfold mdel
  simp only [mfind]
  by_cases h : k = k'
  · simp [h]
  · simp only [h, if_false]
    cases mfind m k' with
    | none => rfl
    | some i => simp
theorem mdel_nil (k : κ) : mdel ([] : List (κ × ν)) k = [] := rfl
theorem mget_mset (m : List (κ × ν)) (k : κ) (v : ν) (k' : κ) : mget (mset m k v) k' = if k = k' then some v else mget m k' := by
  induction m with
  | nil => rw [mset_nil, mget_cons, mget_nil]
  | cons p m ih =>
    obtain ⟨a, b⟩ := p
    rw [mset_cons]
    split
    · rename_i h; subst h; rw [mget_cons, mget_cons]; split <;> rfl
    · rename_i h
      rw [mget_cons, mget_cons, ih]
      split
      · rename_i h2; subst h2; rw [if_neg (Ne.symm h)]
      · rfl
theorem mget_none_iff (m : List (κ × ν)) (k : κ) : mget m k = none ↔ k ∉ m.map (·.1) := by
  induction m with
  | nil => simp [mget_nil]
  | cons p m ih =>
    obtain ⟨a, b⟩ := p
    rw [mget_cons]
    split
    · rename_i h; subst h; simp
    · rename_i h; rw [ih]; simp [Ne.symm h]
theorem mget_mem {m : List (κ × ν)} {k : κ} {v : ν} (h : mget m k = some v) : (k, v) ∈ m := by
  induction m with
  | nil => cases h
  | cons p m ih =>
    obtain ⟨a, b⟩ := p
    rw [mget_cons] at h
    split at h
    · rename_i e; subst e; cases h; simp
    · exact List.mem_cons_of_mem _ (ih h)
theorem mget_of_mem {m : List (κ × ν)} (hn : KN m) {k : κ} {v : ν} (h : (k, v) ∈ m) : mget m k = some v := by
  induction m with
  | nil => cases h
  | cons p m ih =>
    obtain ⟨a, b⟩ := p
    have hn' : a ∉ m.map (·.1) ∧ (m.map (·.1)).Nodup := by simpa [KN] using hn
    rw [mget_cons]
    rcases List.mem_cons.1 h with h | h
    · cases h; simp
    · rw [if_neg, ih hn'.2 h]
      rintro rfl
      exact hn'.1 (List.mem_map.2 ⟨_, h, rfl⟩)
theorem mset_keys (m : List (κ × ν)) (k : κ) (v : ν) : (mset m k v).map (·.1) = if k ∈ m.map (·.1) then m.map (·.1) else m.map (·.1) ++ [k] := by
  induction m with
  | nil => simp [mset_nil]
  | cons p m ih =>
    obtain ⟨a, b⟩ := p
    rw [mset_cons]
    split
    · rename_i h; subst h; simp
    · rename_i h
      simp only [List.map_cons, ih, List.mem_cons, Ne.symm h, false_or]
      split <;> simp
theorem KN.mset {m : List (κ × ν)} (h : KN m) (k : κ) (v : ν) : KN (mset m k v) := by
  unfold KN at *
  rw [mset_keys]
  split
  · exact h
  · rename_i hk
    refine List.nodup_append.2 ⟨h, by simp, ?_⟩
    intro a ha b hb
    simp at hb; subst hb
    rintro rfl; exact hk ha
theorem mdel_sublist (m : List (κ × ν)) (k : κ) : (mdel m k).Sublist m := by
  induction m with
  | nil => simp [mdel_nil]
  | cons p m ih =>
    obtain ⟨a, b⟩ := p
    rw [mdel_cons]
    split
    · exact List.sublist_cons_self _ _
    · exact ih.cons_cons _
theorem KN.mdel {m : List (κ × ν)} (h : KN m) (k : κ) : KN (mdel m k) := h.sublist ((mdel_sublist m k).map _)
theorem mget_mdel {m : List (κ × ν)} (h : KN m) (k : κ) (k' : κ) : mget (mdel m k) k' = if k = k' then none else mget m k' := by
  induction m with
  | nil => simp [mdel_nil, mget_nil]
  | cons p m ih =>
    obtain ⟨a, b⟩ := p
    have hn' : a ∉ m.map (·.1) ∧ (m.map (·.1)).Nodup := by simpa [KN] using h
    rw [mdel_cons]
    split
    · rename_i e; subst e
      rw [mget_cons]
      split
      · rename_i e; subst e; exact (mget_none_iff _ _).2 hn'.1
      · rfl
    · rename_i e
      rw [mget_cons, mget_cons, ih hn'.2]
      split
      · rename_i e2; subst e2; rw [if_neg (Ne.symm e)]
      · rfl
theorem mset_length (m : List (κ × ν)) (k : κ) (v : ν) : (mset m k v).length = if k ∈ m.map (·.1) then m.length else m.length + 1 := by
  have := congrArg List.length (mset_keys m k v)
  simp only [List.length_map] at this
  rw [this]
  split <;> simp
end
end Go.Proofs.YtapoehkdnglahaaGreat

/- Plain Lean: of a journal that is cut, or in which one byte is another, just the records ahead of the place are read. -/
namespace Go.Proofs.YtapoehkdnglahaaGreat

/-- What is read of a record. -/
def Rec.norm (r : Rec) : Rec := { r with addr := if r.own then 0 else r.addr }
def recBytes (l : List Rec) : List UInt8 := l.flatMap Rec.bytes
theorem recBytes_length (l : List Rec) : (recBytes l).length = 13 * l.length := by
  induction l with
  | nil => rfl
  | cons r l ih => simp [recBytes, Rec.bytes_length] at ih ⊢; omega
end Go.Proofs.YtapoehkdnglahaaGreat

/- Compact, in plain Lean: the list in its order against the map. No program in sight. -/
namespace Go.Proofs.YtapoehkdnglahaaGreat
set_option linter.unusedVariables false
set_option linter.unusedSectionVars false
set_option linter.unusedSimpArgs false
deriving instance DecidableEq for Rec
/-- A record without its number. -/
def Rec.key (r : Rec) : Rec := { r.norm with seq := 0 }
def Rec.lt (a b : Rec) : Bool := if a.own != b.own then a.own else decide (a.addr < b.addr)
theorem Rec.lt_irrefl (a : Rec) : a.lt a = false := by simp [Rec.lt]
theorem Rec.lt_trans {a b c : Rec} (h1 : a.lt b = true) (h2 : b.lt c = true) : a.lt c = true := by
  obtain ⟨o1, a1, s1⟩ := a; obtain ⟨o2, a2, s2⟩ := b; obtain ⟨o3, a3, s3⟩ := c
  simp only [Rec.lt] at *
  cases o1 <;> cases o2 <;> cases o3 <;> simp [UInt32.lt_iff_toNat_lt] at * <;> omega
theorem Rec.lt_total {a b : Rec} (h1 : a.lt b = false) (h2 : b.lt a = false) : a.own = b.own ∧ a.addr = b.addr := by
  obtain ⟨o1, a1, s1⟩ := a; obtain ⟨o2, a2, s2⟩ := b
  simp only [Rec.lt] at *
  cases o1 <;> cases o2 <;> simp [← UInt32.toNat_inj, UInt32.lt_iff_toNat_lt] at * <;> omega
theorem Rec.key_eq {a b : Rec} (ha : a.norm = a) (hb : b.norm = b) : a.key = b.key ↔ a.own = b.own ∧ a.addr = b.addr := by
  obtain ⟨o1, a1, s1⟩ := a; obtain ⟨o2, a2, s2⟩ := b
  simp only [Rec.key, Rec.norm, Rec.mk.injEq, true_and, and_true] at *
  rw [ha, hb]
theorem Rec.norm_norm (r : Rec) : r.norm.norm = r.norm := by
  obtain ⟨o, a, s⟩ := r; cases o <;> rfl
theorem Rec.norm_key (r : Rec) : r.norm.key = r.key := by
  obtain ⟨o, a, s⟩ := r; cases o <;> rfl
theorem Rec.key_norm (r : Rec) : r.key.norm = r.key := by
  obtain ⟨o, a, s⟩ := r; cases o <;> rfl
theorem Rec.key_key (r : Rec) : r.key.key = r.key := by
  obtain ⟨o, a, s⟩ := r; cases o <;> rfl
theorem Rec.set_seq {r : Rec} (h : r.norm = r) : { r.key with seq := r.seq } = r := by
  obtain ⟨o, a, s⟩ := r
  simp only [Rec.key, Rec.norm, Rec.mk.injEq, true_and, and_true] at *
  exact h
/-- One number more at a key. -/
def bump (o : Option UInt32) (s : UInt32) : UInt32 := match o with
  | some t => max t s
  | none => s
/-- The greatest number at a key. -/
def seqOf (l : List Rec) (k : Rec) : Option UInt32 := l.foldl (fun o r => if r.norm.key = k then some (bump o r.seq) else o) none
theorem seqOf_snoc (l : List Rec) (r k : Rec) : seqOf (l ++ [r]) k = if r.norm.key = k then some (bump (seqOf l k) r.seq) else seqOf l k := by
  simp only [seqOf, List.foldl_append, List.foldl_cons, List.foldl_nil]
/-- The number at a key, in a list where it stands once. -/
def lookR : List Rec → Rec → Option UInt32
  | [], _ => none
  | x :: xs, k => if x.key = k then some x.seq else lookR xs k
/-- A record put among those that count. -/
def putR : List Rec → Rec → List Rec
  | [], r => [r]
  | x :: xs, r => if x.own = r.own ∧ x.addr = r.addr then { x with seq := max x.seq r.seq } :: xs
    else if r.own = true ∨ (x.own = false ∧ r.addr < x.addr) then r :: x :: xs
    else x :: putR xs r
/-- What counts. -/
def compR (l : List Rec) : List Rec := l.foldl (fun out r => putR out r.norm) []
theorem compR_snoc (l : List Rec) (r : Rec) : compR (l ++ [r]) = putR (compR l) r.norm := by
  simp only [compR, List.foldl_append, List.foldl_cons, List.foldl_nil]
/-- In order, as Encode writes them. -/
structure InO (l : List Rec) : Prop where
  rise : l.Pairwise (fun a b => a.lt b = true)
  norm : ∀ x ∈ l, x.norm = x
theorem InO.nil : InO [] := ⟨List.Pairwise.nil, fun _ h => by cases h⟩
theorem InO.tail {x : Rec} {l : List Rec} (h : InO (x :: l)) : InO l := ⟨(List.pairwise_cons.1 h.rise).2, fun y hy => h.norm y (List.mem_cons_of_mem _ hy)⟩
theorem InO.cons {x : Rec} {l : List Rec} (h : InO l) (hx : x.norm = x) (hl : ∀ y ∈ l, x.lt y = true) : InO (x :: l) :=
  ⟨List.pairwise_cons.2 ⟨hl, h.rise⟩, fun y hy => (List.mem_cons.1 hy).elim (fun e => e ▸ hx) (h.norm y)⟩
theorem stop_lt {x r : Rec} (hx : x.norm = x) (hr : r.norm = r) (hne : ¬ (x.own = r.own ∧ x.addr = r.addr)) : (r.own = true ∨ (x.own = false ∧ r.addr < x.addr)) ↔ r.lt x = true := by
  obtain ⟨o1, a1, s1⟩ := x; obtain ⟨o2, a2, s2⟩ := r
  simp only [Rec.norm, Rec.mk.injEq, true_and, and_true, Rec.lt] at *
  cases o1 <;> cases o2 <;> simp_all
theorem lt_key {a b : Rec} (ha : a.norm = a) (hb : b.norm = b) (h : a.lt b = true) : a.key ≠ b.key := by
  intro e
  obtain ⟨e1, e2⟩ := (Rec.key_eq ha hb).1 e
  simp [Rec.lt, e1, e2] at h
theorem lookR_none {l : List Rec} {k : Rec} (h : ∀ y ∈ l, y.key ≠ k) : lookR l k = none := by
  induction l with
  | nil => rfl
  | cons x l ih => simp only [lookR, if_neg (h x List.mem_cons_self)]; exact ih fun y hy => h y (List.mem_cons_of_mem _ hy)
theorem key_with (x : Rec) (s : UInt32) : ({ x with seq := s } : Rec).key = x.key := rfl
theorem norm_with {x : Rec} (s : UInt32) (h : x.norm = x) : ({ x with seq := s } : Rec).norm = { x with seq := s } := by
  obtain ⟨o1, a1, s1⟩ := x
  simp only [Rec.norm, Rec.mk.injEq, true_and, and_true] at *
  exact h
theorem lt_with (x y : Rec) (s : UInt32) : ({ x with seq := s } : Rec).lt y = x.lt y := rfl
theorem putR_mem {l : List Rec} {r : Rec} : ∀ y ∈ putR l r, (∃ s, y = { r with seq := s }) ∨ y ∈ l ∨ ∃ x ∈ l, ∃ s, y = { x with seq := s } := by
  induction l with
  | nil => intro y hy; rcases List.mem_singleton.1 hy with rfl; exact .inl ⟨y.seq, rfl⟩
  | cons x l ih =>
    intro y hy
    simp only [putR] at hy
    split at hy
    · rcases List.mem_cons.1 hy with rfl | hy
      · exact .inr (.inr ⟨x, List.mem_cons_self, _, rfl⟩)
      · exact .inr (.inl (List.mem_cons_of_mem _ hy))
    · split at hy
      · rcases List.mem_cons.1 hy with rfl | hy
        · exact .inl ⟨y.seq, rfl⟩
        · exact .inr (.inl hy)
      · rcases List.mem_cons.1 hy with rfl | hy
        · exact .inr (.inl List.mem_cons_self)
        · rcases ih y hy with h | h | ⟨x', h, s, e⟩
          · exact .inl h
          · exact .inr (.inl (List.mem_cons_of_mem _ h))
          · exact .inr (.inr ⟨x', List.mem_cons_of_mem _ h, s, e⟩)
theorem putR_ino {l : List Rec} {r : Rec} (h : InO l) (hr : r.norm = r) : InO (putR l r) := by
  induction l with
  | nil => exact InO.nil.cons hr (fun y hy => by cases hy)
  | cons x l ih =>
    have hx := h.norm x List.mem_cons_self
    have hl := (List.pairwise_cons.1 h.rise).1
    simp only [putR]
    split
    · exact h.tail.cons (norm_with _ hx) (fun y hy => by rw [lt_with]; exact hl y hy)
    · rename_i hne
      split
      · rename_i hs
        have hrx := (stop_lt hx hr hne).1 hs
        refine h.cons hr fun y hy => ?_
        rcases List.mem_cons.1 hy with rfl | hy
        · exact hrx
        · exact Rec.lt_trans hrx (hl y hy)
      · rename_i hs
        have hrx : r.lt x = false := by rw [← Bool.not_eq_true]; exact fun e => hs ((stop_lt hx hr hne).2 e)
        have hxr : x.lt r = true := by
          cases e : x.lt r with
          | true => rfl
          | false => exact absurd (Rec.lt_total e hrx) hne
        refine (ih h.tail).cons hx fun y hy => ?_
        rcases putR_mem y hy with ⟨s, rfl⟩ | hy | ⟨x', hx', s, rfl⟩
        · exact hxr
        · exact hl y hy
        · exact hl x' hx'
theorem lookR_put {l : List Rec} {r : Rec} (h : InO l) (hr : r.norm = r) (k : Rec) : lookR (putR l r) k = if r.key = k then some (bump (lookR l k) r.seq) else lookR l k := by
  induction l with
  | nil => rfl
  | cons x l ih =>
    have hx := h.norm x List.mem_cons_self
    have hl := (List.pairwise_cons.1 h.rise).1
    simp only [putR]
    split
    · rename_i he
      have hk : x.key = r.key := (Rec.key_eq hx hr).2 he
      simp only [lookR, key_with, hk]
      split <;> rfl
    · rename_i hne
      have hk : x.key ≠ r.key := fun e => hne ((Rec.key_eq hx hr).1 e)
      split
      · rename_i hs
        have hrx := (stop_lt hx hr hne).1 hs
        have hno : lookR (x :: l) r.key = none := lookR_none fun y hy => by
          rcases List.mem_cons.1 hy with rfl | hy
          · exact fun e => lt_key hr hx hrx e.symm
          · exact fun e => lt_key hr (h.norm y (List.mem_cons_of_mem _ hy)) (Rec.lt_trans hrx (hl y hy)) e.symm
        show (if r.key = k then some r.seq else lookR (x :: l) k) = _
        split
        · rename_i e; subst e; rw [hno]; rfl
        · rfl
      · simp only [lookR, ih h.tail]
        split
        · rename_i e; subst e
          rw [if_neg (fun e => hk e.symm)]
        · rfl
theorem compR_ino (l : List Rec) : InO (compR l) := by
  have key : ∀ (l out : List Rec), InO out → InO (l.foldl (fun out r => putR out r.norm) out) := by
    intro l
    induction l with
    | nil => intro out h; exact h
    | cons r l ih => intro out h; exact ih _ (putR_ino h (Rec.norm_norm r))
  exact key l [] InO.nil
theorem lookR_comp (l : List Rec) (k : Rec) : lookR (compR l) k = seqOf l k := by
  have key : ∀ (l out : List Rec) (o : Option UInt32), InO out → lookR out k = o → lookR (l.foldl (fun out r => putR out r.norm) out) k = l.foldl (fun o r => if r.norm.key = k then some (bump o r.seq) else o) o := by
    intro l
    induction l with
    | nil => intro out o _ h; exact h
    | cons r l ih =>
      intro out o hi h
      simp only [List.foldl_cons]
      refine ih _ _ (putR_ino hi (Rec.norm_norm r)) ?_
      rw [lookR_put hi (Rec.norm_norm r), h]
      rfl
  exact key l [] none InO.nil rfl
theorem mem_lookR {l : List Rec} (h : InO l) {x : Rec} : x ∈ l ↔ x.norm = x ∧ lookR l x.key = some x.seq := by
  induction l with
  | nil => simp [lookR]
  | cons y l ih =>
    have hy := h.norm y List.mem_cons_self
    have hl := (List.pairwise_cons.1 h.rise).1
    constructor
    · intro hx
      refine ⟨h.norm x hx, ?_⟩
      rcases List.mem_cons.1 hx with rfl | hx
      · simp [lookR]
      · have := lt_key hy (h.norm x (List.mem_cons_of_mem _ hx)) (hl x hx)
        simp only [lookR, if_neg this]
        exact ((ih h.tail).1 hx).2
    · rintro ⟨hn, hx⟩
      simp only [lookR] at hx
      split at hx
      · rename_i e
        have := (Rec.key_eq hy hn).1 e
        have hx' := Option.some.inj hx
        have : x = y := by obtain ⟨_, _, _⟩ := x; obtain ⟨_, _, _⟩ := y; simp_all
        rw [this]; exact List.mem_cons_self
      · exact List.mem_cons_of_mem _ ((ih h.tail).2 ⟨hn, hx⟩)
theorem InO.ext : ∀ {a b : List Rec}, InO a → InO b → (∀ x, x ∈ a ↔ x ∈ b) → a = b
  | [], [], _, _, _ => rfl
  | [], y :: b, _, _, h => absurd ((h y).2 List.mem_cons_self) (by simp)
  | x :: a, [], _, _, h => absurd ((h x).1 List.mem_cons_self) (by simp)
  | x :: a, y :: b, ha, hb, h => by
    have hla := (List.pairwise_cons.1 ha.rise).1
    have hlb := (List.pairwise_cons.1 hb.rise).1
    have e : x = y := by
      rcases List.mem_cons.1 ((h x).1 List.mem_cons_self) with e | hx
      · exact e
      · rcases List.mem_cons.1 ((h y).2 List.mem_cons_self) with e | hy
        · exact e.symm
        · have := Rec.lt_trans (hla y hy) (hlb x hx)
          rw [Rec.lt_irrefl] at this; cases this
    subst e
    have := InO.ext ha.tail hb.tail fun z => by
      constructor
      · intro hz
        rcases List.mem_cons.1 ((h z).1 (List.mem_cons_of_mem _ hz)) with rfl | hz'
        · have := hla z hz; rw [Rec.lt_irrefl] at this; cases this
        · exact hz'
      · intro hz
        rcases List.mem_cons.1 ((h z).2 (List.mem_cons_of_mem _ hz)) with rfl | hz'
        · have := hlb z hz; rw [Rec.lt_irrefl] at this; cases this
        · exact hz'
    rw [this]
/-- The map's keys in their order, each with its number. -/
def fillR (m : List (Rec × UInt32)) (ks : List Rec) : List Rec := ks.map fun k => { k with seq := (mget m k).getD 0 }
/-- Of the records l the map m holds the greatest numbers. -/
structure Most (l : List Rec) (m : List (Rec × UInt32)) : Prop where
  kn : KN m
  get : ∀ k, mget m k = seqOf l k
  keys : ∀ k v, (k, v) ∈ m → k.key = k
theorem Most.nil : Most [] [] := ⟨KN.nil, fun _ => rfl, fun _ _ h => by cases h⟩
theorem mset_mem {m : List (Rec × UInt32)} {k k' : Rec} {v v' : UInt32} : (k', v') ∈ mset m k v → (k', v') ∈ m ∨ k' = k := by
  induction m with
  | nil => rw [mset_nil]; intro h; rcases List.mem_singleton.1 h with h; cases h; exact .inr rfl
  | cons p m ih =>
    obtain ⟨a, b⟩ := p
    rw [mset_cons]
    split
    · intro h
      rcases List.mem_cons.1 h with h | h
      · cases h; exact .inr rfl
      · exact .inl (List.mem_cons_of_mem _ h)
    · intro h
      rcases List.mem_cons.1 h with h | h
      · cases h; exact .inl List.mem_cons_self
      · rcases ih h with h | h
        · exact .inl (List.mem_cons_of_mem _ h)
        · exact .inr h
theorem u32max0 (s : UInt32) : max 0 s = s := by
  have e : (max 0 s : UInt32) = if (0 : UInt32) ≤ s then s else 0 := rfl
  rw [e, if_pos (by simp)]
theorem Most.snoc {l : List Rec} {m : List (Rec × UInt32)} (h : Most l m) (r : Rec) : Most (l ++ [r]) (mset m r.norm.key (max ((mget m r.norm.key).getD 0) r.seq)) := by
  refine ⟨h.kn.mset _ _, fun k => ?_, fun k v hk => ?_⟩
  · rw [mget_mset, seqOf_snoc]
    split
    · rename_i e; subst e
      rw [h.get]
      cases seqOf l r.norm.key with
      | none => simp [bump, u32max0]
      | some t => rfl
    · exact h.get k
  · rcases mset_mem hk with hk | rfl
    · exact h.keys k v hk
    · exact (congrArg _ (Rec.norm_key r)).trans (by rw [Rec.norm_key, Rec.key_key])
theorem fill_comp {l : List Rec} {m : List (Rec × UInt32)} {ks : List Rec} (h : Most l m) (hp : ks.Perm (m.map (·.1))) (hs : ks.Pairwise (fun a b => b.lt a = false)) : fillR m ks = compR l := by
  have hk : ∀ k ∈ ks, k.key = k ∧ ∃ v, mget m k = some v := fun k hk => by
    obtain ⟨⟨k', v⟩, hm, rfl⟩ := List.mem_map.1 (hp.mem_iff.1 hk)
    exact ⟨h.keys _ _ hm, v, mget_of_mem h.kn hm⟩
  have hnd : ks.Nodup := hp.symm.nodup h.kn
  have hkn : ∀ k : Rec, k.key = k → k.norm = k := fun k e => by rw [← e]; exact Rec.key_norm k
  have hlt : ks.Pairwise (fun a b => a.lt b = true) := (hs.and hnd).imp_of_mem fun {a b} ha hb ⟨h1, h2⟩ => by
    cases e : a.lt b with
    | true => rfl
    | false =>
      have := (Rec.key_eq (hkn a (hk a ha).1) (hkn b (hk b hb).1)).2 (Rec.lt_total e h1)
      rw [(hk a ha).1, (hk b hb).1] at this
      exact absurd this h2
  refine InO.ext ⟨List.pairwise_map.2 (hlt.imp fun h => h), fun x hx => ?_⟩ (compR_ino l) fun x => ?_
  · obtain ⟨k, hkk, rfl⟩ := List.mem_map.1 hx
    exact norm_with _ (hkn k (hk k hkk).1)
  · rw [mem_lookR (compR_ino l), lookR_comp, ← h.get]
    constructor
    · intro hx
      obtain ⟨k, hkk, rfl⟩ := List.mem_map.1 hx
      obtain ⟨h1, v, hv⟩ := hk k hkk
      refine ⟨norm_with _ (hkn k h1), ?_⟩
      rw [key_with, h1, hv]; rfl
    · rintro ⟨hn, hx⟩
      have hm := hp.mem_iff.2 (List.mem_map.2 ⟨_, mget_mem hx, rfl⟩)
      refine List.mem_map.2 ⟨x.key, hm, ?_⟩
      rw [hx]; exact Rec.set_seq hn
end Go.Proofs.YtapoehkdnglahaaGreat

