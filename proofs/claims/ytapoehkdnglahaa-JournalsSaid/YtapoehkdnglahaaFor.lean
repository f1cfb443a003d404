/- A range over a function, from both sides; functions that leave with marks and deferred calls. No program in sight. -/
import Derived.Test.YtapoehkdnglahaaSub
import Derived.RangeFuncRecord
import Derived.RangeFuncSeq
namespace Go.Proofs.Ytapoehkdnglahaa
open Go.RowKit
set_option linter.unusedVariables false
set_option linter.unusedSimpArgs false
set_option linter.unusedSectionVars false
variable {P : Program} {n : Frm} {w0 : World} {E : Env} {D : List Deferred} {H F F2 R : HProp} {ops : Array Oper} {l' : List Oper} {Q : Exit → St → Prop} {w : World}
/-! ### A call of yield -/
/-- An operation, at this frame, whatever it does. -/
def OpI (P : Program) (n : Frm) (w0 : World) (o : Oper) (E : Env) (pre : HProp) {α : Type} (v : α → Value) (post : α → HProp) : Prop :=
  ∀ (G : HProp) a w (K : Act → World → Prop) (Q : Exit → Act → World → Prop), Sees n E a → Sat w0 w (pre * G) → (∀ x w', Sat w0 w' (post x * G) → K (a.put o.dst (v x)) w') → o.wpIn (fen n.round) 0 P a w K Q
theorem LS_i {α : Type} {pre : HProp} {v : α → Value} {post : α → HProp} {d : Nat} {op : Op} {ty : TypeId} {pos : String} {after : Array Edge} (hop : OpI P n w0 ⟨some d, op, ty, pos, after, none⟩ E pre v post) (hH : Own H pre F) (hd : Nat.blt d n.tmps = true)
    (h : ∀ x, LS P n w0 ops Q l' ⟨(d, v x) :: E, D, post x * F⟩) : LS P n w0 ops Q (⟨some d, op, ty, pos, after, none⟩ :: l') ⟨E, D, H⟩ := fun a w g =>
  wpListIn_plain rfl fun K hK => hop F a w K _ g.sees (g.sat.cast hH.eq) fun x w' hs => hK _ _ (h x _ _ ⟨g.sees.putO (some d) _ hd, g.defers, hs⟩)
def YieldS (P : Program) (w0 : World) (l : Nat) (args : List Value) (pre : HProp) (post : Bool → HProp) : Prop :=
  ∀ (G : HProp) W, Sat w0 W (pre * G) → YieldAt (fen none) 0 P l args.toArray W fun e W' => ∃ b, e = .returned (.bool b) ∧ Sat w0 W' (post b * G)
@[reducible] def yieldV (l : Nat) : Value := .func (.yield l) #[] #[]
theorem I_yield {d : Option Tmp} {t : Tmp} {l : Nat} {args : List Value} {xs : List Operand} {ts : Array TypeId} {ty : TypeId} {pos : String} {after : Array Edge} {gu : Option (Nat × Bool)} {pre : HProp} {post : Bool → HProp} (hn : n.round = none) (ht : E.get t = some (yieldV l)) (hargs : E.evs xs = some args) (spec : YieldS P w0 l args pre post) :
    OpI P n w0 ⟨d, .call ⟨.value (.tmp t), xs.toArray, ts⟩, ty, pos, after, gu⟩ E pre (fun b : Bool => .bool b) post := fun G a w K Q s hs hK => by
  have e := s.evs hargs
  have e2 : a.eval (.tmp t) = .func (.yield l) #[] #[] := s.ev (x := .tmp t) ht
  obtain ⟨fn, tmps, assign, body, hy, hR⟩ := spec G w hs
  have hr : (execOp a.eval ⟨d, .call ⟨.value (.tmp t), xs.toArray, ts⟩, ty, pos, after, gu⟩).run P w = .ok (.round l fn tmps assign body) w := by
    simp [execOp, resolve, e2, Deferred.ofValue, invoke, e, hy]
  rw [hn]
  refine ⟨fun _ _ => trivial, ?_⟩
  show Oper.uponIn _ _ _ _ _ _ _ ((Oper.semAt none a.eval _).run P w)
  rw [Oper.semAt_none, hr]
  refine ⟨fun h => (by cases h), hR.mono ?_⟩
  rintro e w' ⟨b, rfl, hs'⟩
  exact hK b w' hs'
/-! ### The loop's record -/
def lrec (l : Nat) (r : Loop) : HProp := pts l (.loop r)
def dblk (b : Nat) : HProp := pts b (.deferred (some []))
theorem Sat.putObj {r : Nat} {o o' : Obj} (h : Sat w0 w (pts r o * F)) : Sat w0 (w.putObj r o') (pts r o' * F) := h.setObj
def bindE : List Tmp → List Value → Env → Env
  | t :: ts, v :: vs, E => bindE ts vs ((t, v) :: E)
  | _, _, E => E
theorem bindE_sees : ∀ (ts : List Tmp) (vs : List Value) {E : Env} {a : Act} {ro : Option Nat}, ts.all (fun t => Nat.blt t n.tmps) = true → Sees n E a →
    Sees ⟨n.tmps, ro⟩ (bindE ts vs E) ⟨(ts.zip vs).foldl (fun tmps (t, v) => tmps.setIfInBounds t v) a.tmps, []⟩
  | [], vs, E, a, ro, _, h => ⟨h.size, h.get⟩
  | t :: ts, [], E, a, ro, _, h => ⟨h.size, h.get⟩
  | t :: ts, v :: vs, E, a, ro, ht, h => by
    simp only [List.all_cons, Bool.and_eq_true] at ht
    have := bindE_sees ts vs (ro := ro) ht.2 (h.put v ht.1)
    exact this
/-! ### An iterator -/
/-- The iterator's contract: it has its own memory X; some xs come, one by one, with S xs; or a round has said 'no more'. -/
def IterS (P : Program) (w0 : World) (gf : FuncId) (lb : List Value) (X : HProp) {α : Type} (encs : α → List Value) (S : List α → Prop) : Prop :=
  ∀ (l : Nat) (J Jx : List α → HProp), (∀ pre x, (∃ xs, S xs ∧ pre ++ [x] <+: xs) → YieldS P w0 l (encs x) (J pre) (fun b => bif b then J (pre ++ [x]) else Jx (pre ++ [x]))) →
    Spec P w0 gf (yieldV l :: lb) (X * J []) (fun _ : List α × Bool => .tuple #[]) (fun p => bif p.2 then pure' (S p.1) * (X * J p.1) else X * Jx p.1)
/-- What a round's body must come to: J, or a jump c with Jx c. -/
def rndS (J : HProp) (Jx : Code → HProp) : Exit → St → Prop
  | .normal, σ => Ent σ.H J
  | .ret, σ => Ent σ.H (Jx .ret)
  | .exit id, σ => Ent σ.H (Jx (.exit id))
  | _, _ => False
def asgS (P : Program) (n : Frm) (w0 : World) (body : Code) (J : HProp) (Jx : Code → HProp) (R : HProp) : Exit → St → Prop
  | .normal, σ => σ.D = [] ∧ ∃ J1, Ent σ.H (J1 * R) ∧ ∀ R', WS P n w0 body (rndS (J * R') (fun c => Jx c * R')) ⟨σ.E, [], J1 * R'⟩
  | _, _ => False
theorem asgS_mk {P : Program} {n : Frm} {w0 : World} {body : Code} {J : HProp} {Jx : Code → HProp} {R : HProp} {σ : St} (hD : σ.D = []) (J1 : HProp) (hE : Ent σ.H (J1 * R)) (h : ∀ R', WS P n w0 body (rndS (J * R') (fun c => Jx c * R')) ⟨σ.E, [], J1 * R'⟩) : asgS P n w0 body J Jx R .normal σ := ⟨hD, J1, hE, h⟩
theorem WS_rangeFunc {g : Operand} {ps : List Tmp} {assign body : Code} {gf : FuncId} {lb : List Value} {α : Type} {encs : α → List Value} {S : List α → Prop} {X G : HProp} (hn : n.round = none) (hg : E.ev g = some (.func (.func gf) #[] lb.toArray)) (hf : IsFun P gf) (it : IterS P w0 gf lb X encs S)
    (hps : ps.all (fun t => Nat.blt t n.tmps) = true) (hsz : ∀ x, (encs x).length = ps.length) (J : List α → HProp) (Jx : Code → List α → HProp) (hH : H = X * (J [] * G))
    (round : ∀ l pre x R, (∃ xs, S xs ∧ pre ++ [x] <+: xs) → WS P ⟨n.tmps, some l⟩ w0 assign (asgS P ⟨n.tmps, some l⟩ w0 body (J (pre ++ [x])) (fun c => Jx c (pre ++ [x])) R) ⟨bindE ps (encs x) E, [], J pre * R⟩)
    (done : ∀ b xs, S xs → Q .normal ⟨E, ⟨.collected b, #[]⟩ :: D, J xs * (dblk b * (X * G))⟩)
    (stop : ∀ b c pre, WS P n w0 c Q ⟨E, ⟨.collected b, #[]⟩ :: D, Jx c pre * (dblk b * (X * G))⟩) : WS P n w0 (.rangeFunc g ps.toArray assign body) Q ⟨E, D, H⟩ := by
  intro a w gd
  have hfen : fen n.round = fen none := by rw [hn]
  rw [hfen]
  refine wpIn_rangeFunc fun fn _ => ?_
  have e2 : a.eval g = .func (.func gf) #[] lb.toArray := gd.sees.ev hg
  have hcall := run_callFunc (P := P) hf (yieldV (w.heap.size + 1) :: lb).toArray ((w.alloc (.deferred (some []))).alloc (.loop { state := .ready, pending := none, fn, tmps := a.tmps, params := ps.toArray, assign, body, defers := w.heap.size }))
  refine ⟨_, _, _, ⟨.fn (.func gf) lb.toArray, #[yieldV (w.heap.size + 1)]⟩, _, gf, (yieldV (w.heap.size + 1) :: lb).toArray, _, run_enterLoop_outer fn a.tmps ps.toArray assign body, by simp [resolve, e2, Deferred.ofValue]; exact ⟨rfl, rfl⟩, fun _ _ => trivial, by simpa [invoke] using hcall, fun h => (by cases h), ?_⟩
  refine calls_fen ?_
  generalize hl : w.heap.size + 1 = l
  generalize hb : w.heap.size = b
  let r0 : Loop := { state := .ready, pending := none, fn, tmps := a.tmps, params := ps.toArray, assign, body, defers := b }
  have hsat : Sat w0 ((w.alloc (.deferred (some []))).alloc (.loop r0)) ((X * (J [] * lrec l r0)) * (dblk b * G)) := by
    have h1 := (gd.sat.alloc (.deferred (some []))).alloc (.loop r0)
    rw [World.size_alloc, hl, hb] at h1
    refine h1.cast ?_
    show lrec l r0 * (dblk b * H) = _
    rw [hH]; ac_rfl
  have hY : ∀ pre x, (∃ xs, S xs ∧ pre ++ [x] <+: xs) → YieldS P w0 l (encs x) (J pre * lrec l r0) (fun b' => bif b' then J (pre ++ [x]) * lrec l r0 else hex fun c => Jx c (pre ++ [x]) * lrec l { r0 with state := .done, pending := some c }) := by
    intro pre x hx G' W hs
    have hs1 : Sat w0 W (lrec l r0 * (J pre * G')) := hs.cast (by ac_rfl)
    refine ⟨_, _, _, _, run_yield hs1.at_ (by simp [hsz, r0]), ?_⟩
    refine roundIn_of_wpIn trivial ?_
    have hW := round l pre x (lrec l r0 * G') hx ⟨((ps.toArray.zip (encs x).toArray).foldl (fun tmps (t, v) => tmps.setIfInBounds t v) a.tmps), []⟩ W ⟨by
      have := bindE_sees (n := n) (ro := some l) ps (encs x) hps gd.sees
      simpa using this, rfl, hs.cast (by ac_rfl)⟩
    refine wpIn_mono hW ?_
    rintro e a1 w1 ⟨σ1, hq, hg1⟩
    cases e with
    | normal =>
      obtain ⟨hD1, J1, hE1, hbody⟩ := hq
      have hs2 : Sat w0 w1 (lrec l r0 * (J1 * G')) := (hE1.sat hg1.sat).cast (by ac_rfl)
      refine ⟨_, run_beginRound hs2.at_ rfl, ?_⟩
      have hs3 := hs2.putObj (o' := .loop { r0 with state := .busy })
      refine wpIn_mono (hbody (lrec l { r0 with state := .busy } * G') a1 _ ⟨hg1.sees, hg1.defers.trans hD1, hs3.cast (by show lrec l _ * _ = _; ac_rfl)⟩) ?_
      rintro e a2 w2 ⟨σ2, hq2, hg2⟩
      have fin : ∀ (jump : Option Code) (J2 : HProp), Ent σ2.H (J2 * (lrec l { r0 with state := .busy } * G')) →
          ∃ v w', (Instr.endRound l jump).run P w2 = .ok v w' ∧ v = .bool jump.isNone ∧ Sat w0 w' (J2 * (lrec l { r0 with state := if jump.isNone then .ready else .done, pending := jump } * G')) := by
        intro jump J2 hE2
        have hs4 : Sat w0 w2 (lrec l { r0 with state := .busy } * (J2 * G')) := (hE2.sat hg2.sat).cast (by ac_rfl)
        refine ⟨_, _, run_endRound jump hs4.at_, rfl, ?_⟩
        exact hs4.putObj.cast (by show lrec l _ * _ = _; ac_rfl)
      have jump : ∀ c, Ent σ2.H (Jx c (pre ++ [x]) * (lrec l { r0 with state := .busy } * G')) → ∃ v w', (Instr.endRound l (some c)).run P w2 = .ok v w' ∧ ∃ b', Ending.returned v = .returned (.bool b') ∧ Sat w0 w' ((bif b' then J (pre ++ [x]) * lrec l r0 else hex fun c => Jx c (pre ++ [x]) * lrec l { r0 with state := .done, pending := some c }) * G') := by
        intro c hc
        obtain ⟨v, w', h1, h2, h3⟩ := fin (some c) _ hc
        refine ⟨v, w', h1, false, by rw [h2]; rfl, ?_⟩
        show Sat w0 w' (hex _ * G')
        exact Sat.ex_mk c (h3.cast (by simp; ac_rfl))
      cases e with
      | normal =>
        obtain ⟨v, w', h1, h2, h3⟩ := fin none _ hq2
        exact ⟨v, w', h1, true, by rw [h2]; rfl, h3.cast (by simp; show _ * (lrec l r0 * G') = _; ac_rfl)⟩
      | ret => exact jump _ hq2
      | exit id => exact jump _ hq2
      | goto id => exact hq2.elim
      | panic c => exact hq2.elim
      | outgrown => exact hq2.elim
    | _ => exact hq.elim
  refine ((it l (fun pre => J pre * lrec l r0) (fun pre => hex fun c => Jx c pre * lrec l { r0 with state := .done, pending := some c }) hY) (dblk b * G) _ hsat).mono ?_
  rintro e W' ⟨⟨pre, c⟩, rfl, hs'⟩
  cases c with
  | true =>
    have hs1 : Sat w0 W' (pure' (S pre) * (lrec l r0 * (J pre * (X * (dblk b * G))))) := hs'.cast (by simp only [cond_true]; ac_rfl)
    obtain ⟨hS, hs2⟩ := hs1.pure
    refine ⟨none, _, run_endLoop hs2.at_ (by simp [r0]), _, done b pre hS, ⟨gd.sees.size, gd.sees.get⟩, by simp [gd.defers], ?_⟩
    exact hs2.putObj.drop.cast (by ac_rfl)
  | false =>
    have hs1 : Sat w0 W' ((hex fun c => Jx c pre * lrec l { r0 with state := .done, pending := some c }) * (X * (dblk b * G))) := hs'.cast (by simp only [cond_false]; ac_rfl)
    obtain ⟨c, hs2⟩ := hs1.ex
    have hs3 : Sat w0 W' (lrec l { r0 with state := .done, pending := some c } * (Jx c pre * (X * (dblk b * G)))) := hs2.cast (by ac_rfl)
    refine ⟨some c, _, run_endLoop hs3.at_ (by simp), ?_⟩
    have := stop b c pre { a with defers := [⟨.collected b, #[]⟩] ++ a.defers } (W'.putObj l (.loop { r0 with state := .exhausted, pending := some c })) ⟨⟨gd.sees.size, gd.sees.get⟩, by simp [gd.defers], hs3.putObj.drop.cast (by ac_rfl)⟩
    rw [hfen] at this
    exact this
end Go.Proofs.Ytapoehkdnglahaa
