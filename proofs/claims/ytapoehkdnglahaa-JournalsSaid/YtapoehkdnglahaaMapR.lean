/- Ranges over maps that a call owns. No program in sight. -/
import Derived.Test.YtapoehkdnglahaaLeave
namespace Go.Proofs.Ytapoehkdnglahaa
open Go.RowKit
open Go.ChangeMaps (setBlock)
set_option linter.unusedVariables false
set_option linter.unusedSimpArgs false
set_option linter.unusedSectionVars false
variable {P : Program} {n : Frm} {w0 : World} {E : Env} {D : List Deferred} {H F F2 R : HProp} {ops : Array Oper} {l' : List Oper} {Q : Exit → St → Prop} {w : World}
section
variable {κ ν : Type} {fk : κ → Value} {fv : ν → Value} {b r : Nat} {m left : List (κ × ν)} {cur : Option (κ × ν)}
structure MpiOk (fk : κ → Value) (fv : ν → Value) (m left : List (κ × ν)) (cur : Option (κ × ν)) (es : Array MapEntry) (clock since c0 : Nat) (seen : Array Nat) : Prop where
  oes : es.toList.map (fun e => (e.key, e.val)) = m.map (fun p => (fk p.1, fv p.2))
  onodup : (es.toList.map (·.born)).Nodup
  oborn : ∀ e ∈ es.toList, e.born < clock
  osince : ∀ e ∈ es.toList, e.born < since
  oc0 : since ≤ c0
  oclock : since ≤ clock
  oleft : (es.toList.filter fun e => !seen.contains e.born).map (fun e => (e.key, e.val)) = left.map (fun p => (fk p.1, fv p.2))
  ocur : ∀ p, cur = some p → ∃ e ∈ es.toList, ∃ s' : Array Nat, seen = s'.push e.born ∧ e.key = fk p.1 ∧ e.val = fv p.2
  olast : cur ≠ none → c0 = clock
/-- The map at b under a range by the iterator at r; left: what is still to come; cur: what came last. -/
def mpi (fk : κ → Value) (fv : ν → Value) (b r : Nat) (m left : List (κ × ν)) (cur : Option (κ × ν)) : HProp :=
  hex fun x : Array MapEntry × Nat × Nat × Nat × Array Nat => pure' (MpiOk fk fv m left cur x.1 x.2.1 x.2.2.1 x.2.2.2.1 x.2.2.2.2) * (pts b (.map x.1 x.2.1) * pts r (.mapIter (some b) x.2.2.1 x.2.2.2.2 x.2.2.2.1))
theorem mpi_open (h : Sat w0 w (mpi fk fv b r m left cur * F)) : ∃ es clock since c0 seen, MpiOk fk fv m left cur es clock since c0 seen ∧ Sat w0 w (pts b (.map es clock) * (pts r (.mapIter (some b) since seen c0) * F)) := by
  obtain ⟨⟨es, clock, since, c0, seen⟩, h⟩ := h.ex
  have h2 : Sat w0 w (pure' _ * (pts b (.map es clock) * (pts r (.mapIter (some b) since seen c0) * F))) := h.cast (by rw [star_assoc, star_assoc])
  obtain ⟨h3, h4⟩ := h2.pure
  exact ⟨es, clock, since, c0, seen, h3, h4⟩
theorem mpi_close {es : Array MapEntry} {clock since c0 : Nat} {seen : Array Nat} (h0 : MpiOk fk fv m left cur es clock since c0 seen) (h : Sat w0 w (pts b (.map es clock) * (pts r (.mapIter (some b) since seen c0) * F))) : Sat w0 w (mpi fk fv b r m left cur * F) :=
  Sat.ex_mk (P := fun x : Array MapEntry × Nat × Nat × Nat × Array Nat => pure' (MpiOk fk fv m left cur x.1 x.2.1 x.2.2.1 x.2.2.2.1 x.2.2.2.2) * (pts b (.map x.1 x.2.1) * pts r (.mapIter (some b) x.2.2.1 x.2.2.2.2 x.2.2.2.1))) (es, clock, since, c0, seen) ((Sat.pure_mk h0 h).cast (by rw [star_assoc, star_assoc]))
theorem Ent.mpi_mp : Ent (mpi fk fv b r m left cur * F) (mp fk fv b m * F) := by
  intro h hh
  obtain ⟨a, c, hd, he, ⟨x, hx⟩, hF⟩ := hh
  obtain ⟨hok, hx2⟩ := pure_star.1 hx
  obtain ⟨a1, a2, hd2, he2, hp1, hp2⟩ := hx2
  have hd3 : Part.disj a1 c := by
    intro k
    rcases hd k with e | e
    · left; rw [he2] at e; simp only [Part.join] at e; cases h1 : a1 k with
      | none => rfl
      | some o => rw [h1] at e; cases e
    · exact .inr e
  refine ⟨a1.join c, ⟨a1, c, hd3, rfl, ⟨x.1, x.2.1, hp1, hok.oes, hok.onodup, hok.oborn⟩, hF⟩, fun k o ho => ?_⟩
  rw [he, he2]
  simp only [Part.join] at ho ⊢
  cases h1 : a1 k with
  | some u => rw [h1] at ho; exact ho
  | none =>
    rw [h1] at ho
    simp only at ho ⊢
    rcases hd k with e | e
    · rw [he2] at e; simp only [Part.join, h1] at e; rw [e]; exact ho
    · rw [e] at ho; cases ho
class MapI (H : HProp) (r : Nat) (κ ν : outParam Type) (fk : outParam (κ → Value)) (fv : outParam (ν → Value)) (b : outParam Nat) (m left : outParam (List (κ × ν))) (cur : outParam (Option (κ × ν))) (F : outParam HProp) : Prop where
  eq : H = mpi fk fv b r m left cur * F
instance mapI_head (F : HProp) : MapI (mpi fk fv b r m left cur * F) r κ ν fk fv b m left cur F := ⟨rfl⟩
instance mapI_bare : MapI (mpi fk fv b r m left cur) r κ ν fk fv b m left cur emp := ⟨star_emp.symm⟩
instance (priority := low) mapI_tail (X H F : HProp) [h : MapI H r κ ν fk fv b m left cur F] : MapI (X * H) r κ ν fk fv b m left cur (X * F) := ⟨by rw [h.eq, star_left_comm]⟩
instance (priority := low) mapI_left (X H F : HProp) [h : MapI X r κ ν fk fv b m left cur F] : MapI (X * H) r κ ν fk fv b m left cur (F * H) := ⟨by rw [h.eq, star_assoc]⟩
variable {d : Option Tmp} {ty : TypeId} {pos : String} {after : Array Edge} {gu : Option (Nat × Bool)} {x : Operand} {t kt et : TypeId}
theorem H_range (hx : E.ev x = some (.map (some b))) (hl : MapOf H b κ ν fk fv m F) (hm : MapT P t kt et) : OpH P n w0 ⟨d, .range t x, ty, pos, after, gu⟩ E H (fun r => ptr r 0) (fun r => mpi fk fv b r m m none * F) := by
  refine OpH.mk' (pre := mp fk fv b m) (post := fun r => mpi fk fv b r m m none) (fun G a w K Q s hs hK => ?_) hl.eq
  obtain ⟨es, clock, hat, h1, h2, h3, hp⟩ := hs.map_at
  have hr : (Instr.range t (.map (some b))).run P w = .ok (ptr w.heap.size 0) (w.alloc (.mapIter (some b) clock #[] clock)) := by
    simp [Instr.range, run_underlying hm.eq, run_getObj_map hat]
  have hs' := hp.alloc (.mapIter (some b) clock #[] clock)
  simp only [Oper.wp, execOp, s.ev hx, Sem.run_bind, hr, Result.andThen_ok, Sem.run_pure, Oper.upon_value]
  refine hK w.heap.size _ (mpi_close ⟨h1, h2, h3, h3, Nat.le_refl _, Nat.le_refl _, ?_, (by intro p hp; cases hp), (by intro h; exact absurd rfl h)⟩ (hs'.cast (star_left_comm _ _ _)))
  have e0 : (es.toList.filter fun e => !(#[] : Array Nat).contains e.born) = es.toList := List.filter_eq_self.2 (by simp)
  rw [e0]; exact h1
/-- What a step of the range brings. -/
def NextR (left : List (κ × ν)) : Type := { o : Option (Nat × κ × ν) // match o with | none => left = [] | some (i, k, v) => left[i]? = some (k, v) }
def NextR.val (fk : κ → Value) (fv : ν → Value) {left : List (κ × ν)} (o : NextR left) : Value := match o.1 with
  | none => .tuple #[.bool false]
  | some (_, k, v) => .tuple #[.bool true, fk k, fv v]
def NextR.rest {left : List (κ × ν)} (o : NextR left) : List (κ × ν) := match o.1 with
  | none => left
  | some (i, _, _) => left.eraseIdx i
def NextR.now {left : List (κ × ν)} (o : NextR left) (c : Option (κ × ν)) : Option (κ × ν) := match o.1 with
  | none => c
  | some (_, k, v) => some (k, v)
theorem filter_push (es : List MapEntry) (seen : Array Nat) : ∀ (i : Nat) (e : MapEntry), (es.map (·.born)).Nodup → (es.filter fun x => !seen.contains x.born)[i]? = some e →
    (es.filter fun x => !(seen.push e.born).contains x.born) = (es.filter fun x => !seen.contains x.born).eraseIdx i := by
  induction es with
  | nil => intro i e _ h; simp at h
  | cons y es ih =>
    intro i e hn h
    simp only [List.map_cons, List.nodup_cons] at hn
    have hpush : ∀ z, (seen.push e.born).contains z = (seen.contains z || z == e.born) := by
      intro z; rw [Bool.eq_iff_iff]; simp
    by_cases hy : seen.contains y.born = true
    · have e1 : (!seen.contains y.born) = false := by rw [hy]; rfl
      have e2 : (!(seen.push e.born).contains y.born) = false := by rw [hpush, hy]; rfl
      simp only [List.filter_cons, e1, e2, Bool.false_eq_true, if_false] at h ⊢
      exact ih i e hn.2 h
    · have e1 : (!seen.contains y.born) = true := by simpa using hy
      simp only [List.filter_cons, e1, if_true] at h ⊢
      cases i with
      | zero =>
        simp at h; subst h
        have e2 : (!(seen.push y.born).contains y.born) = false := by rw [hpush]; simp
        simp only [e2, Bool.false_eq_true, if_false, List.eraseIdx_cons_zero]
        apply List.filter_congr
        intro z hz
        have hne : z.born ≠ y.born := fun e => hn.1 (by rw [← e]; exact List.mem_map.2 ⟨z, hz, rfl⟩)
        have : (z.born == y.born) = false := by simpa using hne
        rw [hpush, this, Bool.or_false]
      | succ i =>
        simp at h
        have hmem : e ∈ es := (List.mem_filter.1 (List.mem_of_getElem? h)).1
        have hne : y.born ≠ e.born := fun e' => hn.1 (by rw [e']; exact List.mem_map.2 ⟨e, hmem, rfl⟩)
        have h3 : (y.born == e.born) = false := by simpa using hne
        have e2 : (!(seen.push e.born).contains y.born) = true := by rw [hpush, h3, Bool.or_false]; exact e1
        simp only [e2, if_true, List.eraseIdx_cons_succ]
        rw [ih i e hn.2 (by simpa using h)]
theorem H_next (hx : E.ev x = some (ptr r 0)) (hl : MapI H r κ ν fk fv b m left cur F) : OpH P n w0 ⟨d, .next x false, ty, pos, after, gu⟩ E H (fun o : NextR left => o.val fk fv) (fun o => mpi fk fv b r m o.rest (o.now cur) * F) := by
  refine OpH.mk' (pre := mpi fk fv b r m left cur) (post := fun o : NextR left => mpi fk fv b r m o.rest (o.now cur)) (fun G a w K Q s hs hK => ?_) hl.eq
  obtain ⟨es, clock, since, c0, seen, hok, hp⟩ := mpi_open hs
  have hb := hp.at_
  have hr := hp.p2.at_
  have hlen := congrArg List.length hok.oleft
  simp only [List.length_map] at hlen
  rcases run_next_at (P := P) w ty r b since c0 seen es clock hr hb hok.osince hok.oc0 with ⟨h0, hrun⟩ | ⟨e, he, w1, hal, hrun⟩
  · simp only [leftOf] at h0
    have hl0 : left = [] := List.eq_nil_of_length_eq_zero (by rw [← hlen, ← h0, ← Array.length_toList, Array.toList_filter])
    have := hK ⟨none, hl0⟩ w hs
    simp only [Oper.wp, execOp, s.ev hx, Sem.run_bind, hrun, Result.andThen_ok, Sem.run_pure, Oper.upon_value]
    exact this
  · have he' : e ∈ es.toList.filter (fun x => !seen.contains x.born) := by simpa [leftOf] using he
    obtain ⟨i, hi⟩ := List.getElem?_of_mem he'
    have hli := congrArg (·[i]?) hok.oleft
    simp only [List.getElem?_map, hi, Option.map_some] at hli
    cases hq : left[i]? with
    | none => rw [hq] at hli; cases hli
    | some p =>
      rw [hq] at hli
      simp only [Option.map_some, Option.some.injEq, Prod.mk.injEq] at hli
      obtain ⟨hk1, hk2⟩ := hli
      have hmem : e ∈ es.toList := (List.mem_filter.1 he').1
      have hsat : Sat w0 w1 (pts b (.map es clock) * (pts r (.mapIter (some b) since seen c0) * G)) := by rcases hal with rfl | rfl <;> first | exact hp | exact hp.drew
      have hset : Sat w0 (setBlock w1 r (.mapIter (some b) since (seen.push e.born) clock)) (pts b (.map es clock) * (pts r (.mapIter (some b) since (seen.push e.born) clock) * G)) := hsat.p2.setObj.p2
      have hfin := hK ⟨some (i, p.1, p.2), hq⟩ _ (mpi_close (left := left.eraseIdx i) (cur := some p) ⟨hok.oes, hok.onodup, hok.oborn, hok.osince, hok.oclock, hok.oclock, ?_, ?_, fun _ => rfl⟩ hset)
      · simp only [Oper.wp, execOp, s.ev hx, Sem.run_bind, hrun, Result.andThen_ok, Sem.run_pure, Oper.upon_value]
        rw [hk1, hk2]
        exact hfin
      · rw [filter_push es.toList seen i e hok.onodup hi, map_eraseIdx', hok.oleft, ← map_eraseIdx']
      · intro p' hp'
        cases hp'
        exact ⟨e, hmem, seen, rfl, hk1, hk2⟩
theorem Q_entry {p : κ × ν} (hx : E.ev x = some (ptr r 0)) (hl : MapI H r κ ν fk fv b m left (some p) F) : OpQ P n w0 ⟨d, .entry x, ty, pos, after, gu⟩ E H (.tuple #[fk p.1, fv p.2]) := fun a w s hs => by
  obtain ⟨es, clock, since, c0, seen, hok, hp⟩ := mpi_open (hs.cast hl.eq)
  obtain ⟨e, he, s', rfl, hk1, hk2⟩ := hok.ocur p rfl
  have hc := hok.olast (by simp)
  subst hc
  have := run_entry_at (P := P) w r b since s' es c0 e hp.p2.at_ hp.at_ he hok.onodup
  simp only [execOp, s.ev hx, Sem.run_bind, this, Result.andThen_ok, Sem.run_pure, hk1, hk2]
end
end Go.Proofs.Ytapoehkdnglahaa
