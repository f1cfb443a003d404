/- Functions that leave with marks, with deferred calls, by a panic; ranges over maps. No program in sight. -/
import Derived.Test.YtapoehkdnglahaaFor
import Derived.Maps.RangeRun
namespace Go.Proofs.Ytapoehkdnglahaa
open Go.RowKit
set_option linter.unusedVariables false
set_option linter.unusedSimpArgs false
set_option linter.unusedSectionVars false
variable {P : Program} {n : Frm} {w0 : World} {E : Env} {D : List Deferred} {H F F2 R : HProp} {ops : Array Oper} {l' : List Oper} {Q : Exit → St → Prop} {w : World}
/-! ### Deferred calls -/
/-- What a function does that is called as a deferred one, in mode u. -/
def DSpec (P : Program) (w0 : World) (f : FuncId) (args : List Value) (u : FrameMode) (H : HProp) (K : FrameMode → HProp → Prop) : Prop :=
  ∀ w, Sat w0 w H → CallsDIn (fen none) 0 P f args.toArray u w fun e u' w' => ∃ v H', e = .returned v ∧ Sat w0 w' H' ∧ K u' H'
/-- A function on its way out, in mode u. -/
def lvS (P : Program) (n : Frm) (w0 : World) (fn : Func) (R : Value → HProp → Prop) : List Deferred → FrameMode → Env → HProp → Prop
  | [], .returning, E, H => ∃ v, (∀ a w, Sees n E a → Sat w0 w H → (results fn a.tmps).run P w = .ok v w) ∧ R v H
  | [], _, _, _ => False
  | d :: ds, u, E, H => u ≠ .run ∧ ((∃ b F, d = ⟨.collected b, #[]⟩ ∧ Ent H (dblk b * F) ∧ lvS P n w0 fn R ds u E F) ∨
      (∃ f caps args, d = ⟨.fn (.func f) (List.toArray caps), List.toArray args⟩ ∧ IsFun P f ∧ DSpec P w0 f (args ++ caps) u H fun u' H' => lvS P n w0 fn R ds (settle u') E H'))
theorem lvS_leaves {fn : Func} {R : Value → HProp → Prop} {R' : Ending → World → Prop} (hR : ∀ v H w, R v H → Sat w0 w H → R' (.returned v) w) : ∀ (ds : List Deferred) (u : FrameMode) (E : Env) (H : HProp) (a : Act) (w : World), lvS P n w0 fn R ds u E H → Sees n E a → Sat w0 w H →
    LeavesInM (fen none) 0 P fn a.tmps R' ds u w
  | [], u, E, H, a, w, h, hs, hw => by
    cases u with
    | returning =>
      obtain ⟨v, h1, h2⟩ := h
      exact ⟨v, h1 a w hs hw, hR v H w h2 hw⟩
    | run => exact h.elim
    | panicking c => exact h.elim
  | d :: ds, u, E, H, a, w, h, hs, hw => by
    obtain ⟨hu, h⟩ := h
    refine ⟨hu, ?_⟩
    rcases h with ⟨b, F, rfl, he, h⟩ | ⟨f, caps, args, rfl, hf, h⟩
    · left
      have hw' := he.sat hw
      exact ⟨b, _, rfl, run_takeDeferred hw'.at_, lvS_leaves hR ds u E F a _ h hs hw'.putObj.drop⟩
    · right
      refine ⟨(fun h => by cases h), _, _, f, (args ++ caps).toArray, rfl, ?_, fun _ _ => trivial, (h w hw).mono ?_⟩
      · have := run_callFunc (P := P) hf (args ++ caps).toArray w
        simpa [invoke] using this
      · rintro e u' w' ⟨v, H', rfl, hw', hK⟩
        exact lvS_leaves hR ds (settle u') E H' a w' hK hs hw'
def outS (P : Program) (n : Frm) (w0 : World) (fn : Func) (R : Value → HProp → Prop) : Exit → St → Prop
  | .normal, σ | .ret, σ => lvS P n w0 fn R σ.D .returning σ.E σ.H
  | .panic c, σ => lvS P n w0 fn R σ.D (.panicking c) σ.E σ.H
  | _, _ => False
theorem enter_sees {args : List Value} {m : Nat} (hle : Nat.ble args.length m = true) : Sees ⟨m, none⟩ (argE 0 args) ⟨args.toArray ++ Array.replicate (m - args.toArray.size) undef, []⟩ := by
  have hle' : args.length ≤ m := Nat.le_of_ble_eq_true hle
  refine ⟨by simp; omega, fun t v ht => ?_⟩
  obtain ⟨_, h2⟩ := argE_get args 0 t v ht
  have hlt := (List.getElem?_eq_some_iff.1 h2).1
  simp only [Nat.sub_zero] at h2 hlt
  simp [Array.getElem?_append, hlt] at h2 ⊢
  simp [h2]
theorem Spec.enterM {α : Type} {f : FuncId} {fn : Func} {c : Code} {args : List Value} {pre : HProp} {res : α → Value} {post : α → HProp} {m : Nat} (hf : P.funcs[f]? = some fn) (hb : fn.body = some c) (hn : fn.ntmps = m) (hle : Nat.ble args.length m = true)
    (h : ∀ G, WS P ⟨m, none⟩ w0 c (outS P ⟨m, none⟩ w0 fn fun v H' => ∃ x, v = res x ∧ Ent H' (post x * G)) ⟨argE 0 args, [], pre * G⟩) : Spec P w0 f args pre res post := by
  intro G w hs
  subst hn
  refine (callsIn_wide (n := 0)).1 (callsIn_of_wp_marks hf hb trivial (wpIn_mono (h G _ w ⟨enter_sees hle, rfl, hs⟩) ?_))
  intro e a w' ⟨σ, h1, h2⟩
  have key := fun u (h1 : lvS P ⟨fn.ntmps, none⟩ w0 fn (fun v H' => ∃ x, v = res x ∧ Ent H' (post x * G)) σ.D u σ.E σ.H) => lvS_leaves (R' := fun e w' => ∃ x, e = Ending.returned (res x) ∧ Sat w0 w' (post x * G)) (fun v H w ⟨x, hv, he⟩ hw => ⟨x, by rw [hv], he.sat hw⟩) σ.D u σ.E σ.H a w' h1 h2.sees h2.sat
  cases e with
  | normal => show LeavesInM _ _ _ _ _ _ a.defers _ _; rw [h2.defers]; exact key _ h1
  | ret => show LeavesInM _ _ _ _ _ _ a.defers _ _; rw [h2.defers]; exact key _ h1
  | panic c => show LeavesInM _ _ _ _ _ _ a.defers _ _; rw [h2.defers]; exact key _ h1
  | _ => exact h1.elim
section out
variable {fn : Func} {R : Value → HProp → Prop} {u : FrameMode}
theorem lv_ret0 (hr : fn.results = #[]) (h : R (.tuple #[]) H) : lvS P n w0 fn R [] .returning E H := ⟨_, fun a w _ _ => results_none hr _ _ _, h⟩
theorem lv_ret1 {r : ResultVar} {v : Value} (hr : fn.results = #[r]) (h1 : RV P n w0 E H r v) (h : R v H) : lvS P n w0 fn R [] .returning E H := ⟨v, fun a w hs hw => results_1 hr (h1 a w hs hw), h⟩
theorem lv_ret2 {r r2 : ResultVar} {v v2 : Value} (hr : fn.results = #[r, r2]) (h1 : RV P n w0 E H r v) (h2 : RV P n w0 E H r2 v2) (h : R (.tuple #[v, v2]) H) : lvS P n w0 fn R [] .returning E H := ⟨_, fun a w hs hw => results_2 hr (h1 a w hs hw) (h2 a w hs hw), h⟩
theorem lv_mark {ds : List Deferred} {b : Nat} (hu : u ≠ .run) (hH : Own H (dblk b) F) (h : lvS P n w0 fn R ds u E F) : lvS P n w0 fn R (⟨.collected b, #[]⟩ :: ds) u E H := ⟨hu, .inl ⟨b, F, rfl, Ent.of_eq hH.eq, h⟩⟩
theorem lv_call {ds : List Deferred} {f : FuncId} {caps args : List Value} (hu : u ≠ .run) (hf : IsFun P f) (h : DSpec P w0 f (args ++ caps) u H fun u' H' => lvS P n w0 fn R ds (settle u') E H') : lvS P n w0 fn R (⟨.fn (.func f) caps.toArray, args.toArray⟩ :: ds) u E H := ⟨hu, .inr ⟨f, caps, args, rfl, hf, h⟩⟩
theorem out_r {σ : St} (h : lvS P n w0 fn R σ.D .returning σ.E σ.H) : outS P n w0 fn R .ret σ := h
theorem out_n {σ : St} (h : lvS P n w0 fn R σ.D .returning σ.E σ.H) : outS P n w0 fn R .normal σ := h
theorem out_p {σ : St} {c : List PanicEntry} (h : lvS P n w0 fn R σ.D (.panicking c) σ.E σ.H) : outS P n w0 fn R (.panic c) σ := h
end out
/-- A function that is called as a deferred one and does not recover. -/
theorem DSpec.enter {f : FuncId} {fn : Func} {c : Code} {args : List Value} {u : FrameMode} {H : HProp} {K : FrameMode → HProp → Prop} {m : Nat} (hf : P.funcs[f]? = some fn) (hb : fn.body = some c) (hn : fn.ntmps = m) (hle : Nat.ble args.length m = true)
    (h : WS P ⟨m, none⟩ w0 c (retS P ⟨m, none⟩ w0 fn fun v H' => K u H') ⟨argE 0 args, [], H⟩) : DSpec P w0 f args u H K := by
  intro w hs
  subst hn
  refine CallsDIn.mono (callsDIn_of_wp (R := fun e w' => ∃ v H', e = Ending.returned v ∧ Sat w0 w' H' ∧ K u H') hf hb trivial (wpIn_mono (h _ w ⟨enter_sees hle, rfl, hs⟩) ?_)) ?_
  · intro e a w' ⟨σ, h1, h2⟩
    cases e with
    | normal => obtain ⟨hD, v, hr, hK⟩ := h1; exact ⟨h2.defers.trans hD, v, hr a w' h2, v, σ.H, rfl, h2.sat, hK⟩
    | ret => obtain ⟨hD, v, hr, hK⟩ := h1; exact ⟨h2.defers.trans hD, v, hr a w' h2, v, σ.H, rfl, h2.sat, hK⟩
    | _ => exact h1.elim
  · rintro e u' w' ⟨rfl, v, H', he, hw, hK⟩
    exact ⟨v, H', he, hw, hK⟩
/-- A 'defer' statement. -/
theorem LS_defer {d : Option Tmp} {f : FuncId} {args : List Value} {xs : List Operand} {ts : Array TypeId} {ty : TypeId} {pos : String} {after : Array Edge} (hn : n.round = none) (hd : okDst n d = true) (hargs : E.evs xs = some args)
    (h : LS P n w0 ops Q l' ⟨E.putO d undef, ⟨.fn (.func f) ([] : List Value).toArray, args.toArray⟩ :: D, H⟩) : LS P n w0 ops Q (⟨d, .defer ⟨.value (.func f), xs.toArray, ts⟩, ty, pos, after, none⟩ :: l') ⟨E, D, H⟩ := fun a w g => by
  refine wpListIn_plain rfl fun K hK => ?_
  have e := g.sees.evs hargs
  rw [hn]
  refine wpIn_of_wp (.inl rfl) ?_
  have hr : (execOp a.eval ⟨d, .defer ⟨.value (.func f), xs.toArray, ts⟩, ty, pos, after, none⟩).run P w = .ok (.defer ⟨.fn (.func f) ([] : List Value).toArray, args.toArray⟩) w := by
    simp [execOp, resolve, Act.eval, Deferred.ofValue, e]
  unfold Oper.wp
  rw [hr]
  exact hK _ _ (h _ _ ⟨Sees.putO (a := ⟨a.tmps, ⟨.fn (.func f) ([] : List Value).toArray, args.toArray⟩ :: a.defers⟩) ⟨g.sees.size, g.sees.get⟩ d undef hd, by rw [put_defers]; exact congrArg _ g.defers, g.sat⟩)
/-- The same of a closure. -/
theorem LS_deferV {d : Option Tmp} {t : Tmp} {f : FuncId} {caps args : List Value} {xs : List Operand} {ts : Array TypeId} {ty : TypeId} {pos : String} {after : Array Edge} (hn : n.round = none) (hd : okDst n d = true) (ht : E.get t = some (.func (.func f) #[] caps.toArray)) (hargs : E.evs xs = some args)
    (h : LS P n w0 ops Q l' ⟨E.putO d undef, ⟨.fn (.func f) caps.toArray, args.toArray⟩ :: D, H⟩) : LS P n w0 ops Q (⟨d, .defer ⟨.value (.tmp t), xs.toArray, ts⟩, ty, pos, after, none⟩ :: l') ⟨E, D, H⟩ := fun a w g => by
  refine wpListIn_plain rfl fun K hK => ?_
  have e := g.sees.evs hargs
  have e2 : a.eval (.tmp t) = .func (.func f) #[] caps.toArray := g.sees.ev (x := .tmp t) ht
  rw [hn]
  refine wpIn_of_wp (.inl rfl) ?_
  have hr : (execOp a.eval ⟨d, .defer ⟨.value (.tmp t), xs.toArray, ts⟩, ty, pos, after, none⟩).run P w = .ok (.defer ⟨.fn (.func f) caps.toArray, args.toArray⟩) w := by
    simp [execOp, resolve, e2, Deferred.ofValue, e]
  unfold Oper.wp
  rw [hr]
  exact hK _ _ (h _ _ ⟨Sees.putO (a := ⟨a.tmps, ⟨.fn (.func f) caps.toArray, args.toArray⟩ :: a.defers⟩) ⟨g.sees.size, g.sees.get⟩ d undef hd, by rw [put_defers]; exact congrArg _ g.defers, g.sat⟩)
/-! ### Panics -/
/-- The function panics. -/
def SpecX (P : Program) (w0 : World) (f : FuncId) (args : List Value) (pre : HProp) (chain : List PanicEntry) (post : HProp) : Prop :=
  ∀ (G : HProp) w, Sat w0 w (pre * G) → Calls P f args.toArray w fun e w' => e = .panicked chain ∧ Sat w0 w' (post * G)
def retX (chain : List PanicEntry) (H : HProp) : Exit → St → Prop
  | .panic c, σ => σ.D = [] ∧ c = chain ∧ Ent σ.H H
  | _, _ => False
theorem SpecX.enter {f : FuncId} {fn : Func} {c : Code} {args : List Value} {pre : HProp} {chain : List PanicEntry} {post : HProp} {m : Nat} (hf : P.funcs[f]? = some fn) (hb : fn.body = some c) (hn : fn.ntmps = m) (hle : Nat.ble args.length m = true)
    (h : ∀ G, WS P ⟨m, none⟩ w0 c (retX chain (post * G)) ⟨argE 0 args, [], pre * G⟩) : SpecX P w0 f args pre chain post := by
  intro G w hs
  subst hn
  refine calls_of_wp hf hb (wp_mono ((wpIn_wide (n := 0)).1 (h G _ w ⟨enter_sees hle, rfl, hs⟩)) ?_)
  intro e a w' ⟨σ, h1, h2⟩
  cases e with
  | panic c => obtain ⟨hD, rfl, he⟩ := h1; exact ⟨h2.defers.trans hD, rfl, he.sat h2.sat⟩
  | _ => exact h1.elim
theorem thenS_p {K : St → Prop} {c : List PanicEntry} {σ : St} (h : Q (.panic c) σ) : thenS K Q (.panic c) σ := h
theorem blockS_p {id : Nat} {c : List PanicEntry} {σ : St} (h : Q (.panic c) σ) : blockS id Q (.panic c) σ := h
theorem LS_x {o : Oper} (hg : o.guard = none) (h : ∀ a w K (Q' : Exit → Act → World → Prop), Good n w0 ⟨E, D, H⟩ a w → (∀ c σ w', Q (.panic c) σ → Good n w0 σ a w' → Q' (.panic c) a w') → o.wp P a w K Q') (hnd : ∀ c, o.op ≠ .defer c) : LS P n w0 ops Q (o :: l') ⟨E, D, H⟩ := fun a w g =>
  wpListIn_plain hg fun K hK => wpIn_of_wp (.inr hnd) (h a w K _ g fun c σ w' hq hg => ⟨σ, hq, hg⟩)
/-- A call that panics. -/
theorem LS_callX {f : FuncId} {args : List Value} {pre post : HProp} {chain : List PanicEntry} {d : Option Tmp} {xs : List Operand} {ts : Array TypeId} {ty : TypeId} {pos : String} {after : Array Edge} (hf : IsFun P f) (hargs : E.evs xs = some args) (spec : SpecX P w0 f args pre chain post) (hH : Own H pre F) (h : Q (.panic chain) ⟨E, D, post * F⟩) :
    LS P n w0 ops Q (⟨d, .call ⟨.value (.func f), xs.toArray, ts⟩, ty, pos, after, none⟩ :: l') ⟨E, D, H⟩ := by
  refine LS_x rfl (fun a w K Q' g hQ => ?_) (fun c hc => by cases hc)
  have e := g.sees.evs hargs
  have hr : (execOp a.eval ⟨d, .call ⟨.value (.func f), xs.toArray, ts⟩, ty, pos, after, none⟩).run P w = .ok (.enter f args.toArray) w := by
    have h := run_callFunc hf args.toArray w
    simp [execOp, resolve, Act.eval, Deferred.ofValue, invoke, e, h]
  unfold Oper.wp
  rw [hr]
  refine (spec F w (g.sat.cast hH.eq)).mono ?_
  rintro e w' ⟨rfl, hs'⟩
  exact hQ chain _ w' h ⟨g.sees, g.defers, hs'⟩
/-- The statement 'panic'. -/
theorem LS_panic {d : Option Tmp} {x : Operand} {t : TypeId} {v : Value} {ty : TypeId} {pos : String} {after : Array Edge} (hx : E.ev x = some (.iface t v)) (h : Q (.panic [{ v := .iface t v, recovered := false }]) ⟨E, D, H⟩) :
    LS P n w0 ops Q (⟨d, .panic x, ty, pos, after, none⟩ :: l') ⟨E, D, H⟩ := by
  refine LS_x rfl (fun a w K Q' g hQ => ?_) (fun c hc => by cases hc)
  have hr : (execOp a.eval ⟨d, .panic x, ty, pos, after, none⟩).run P w = .halt (.panic (.iface t v)) w := by
    simp [execOp, g.sees.ev hx, Instr.panic, goPanic]
  unfold Oper.wp
  rw [hr]
  exact hQ _ _ w h ⟨g.sees, g.defers, g.sat⟩
end Go.Proofs.Ytapoehkdnglahaa
