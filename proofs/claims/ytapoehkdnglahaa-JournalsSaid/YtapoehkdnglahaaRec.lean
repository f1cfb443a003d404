/- A deferred function that recovers. No program in sight. -/
import Derived.Test.YtapoehkdnglahaaLeave
import Derived.RecoverIn
import Derived.Laws.Build
import Derived.WideLaws
namespace Go.Proofs.Ytapoehkdnglahaa
open Go.RowKit
set_option linter.unusedVariables false
set_option linter.unusedSimpArgs false
variable {P : Program} {w0 : World}
/-- A value as an interface's. -/
theorem Q_makeInterface {n : Frm} {E : Env} {H : HProp} {d : Option Tmp} {ty : TypeId} {pos : String} {after : Array Edge} {gu : Option (Nat × Bool)} {x : Operand} {v : Value} {t : TypeId} (hx : E.ev x = some v) (h : P.concrete t = true) : OpQ P n w0 ⟨d, .makeInterface t x, ty, pos, after, gu⟩ E H (.iface t v) := fun a w s hs => by
  simp [execOp, s.ev hx, run_makeInterface (w := w) t v h]
/-- What recover hands out in mode u, and the mode then. -/
def recV : FrameMode → Value × FrameMode
  | .panicking ({ v, recovered := false, goexit := false } :: older) => (v, .panicking ({ v, recovered := true } :: older))
  | u => (.nilIface, u)
theorem recoverD_eq (c₀ : Frame) (cs : List Frame) (u : FrameMode) (hu : c₀.mode = u) : (recoverD (c₀ :: cs) = some ((recV u).1, { c₀ with mode := (recV u).2 } :: cs)) ∨ (recoverD (c₀ :: cs) = none ∧ recV u = (.nilIface, u)) := by
  subst hu
  cases hm : c₀.mode with
  | panicking ch =>
    cases ch with
    | nil => simp [recoverD, recV, hm]
    | cons p older => obtain ⟨v, r, g⟩ := p; cases r <;> cases g <;> simp [recoverD, recV, hm]
  | _ => simp [recoverD, recV, hm]
/-- The body: 'if recover() != nil { .. }'. -/
theorem DSpec.enterR {f : FuncId} {fn : Func} {c2 : Code} {args : List Value} {u : FrameMode} {H : HProp} {K : FrameMode → HProp → Prop} {m id d d2 : Nat} {ty ty2 : TypeId} {pos pos2 : String} {after after2 : Array Edge} {op2 : Op} {b : Bool}
    (hf : P.funcs[f]? = some fn) (hb : fn.body = some (.seq (.region id #[⟨some d, .call ⟨.builtin .recover, #[], #[]⟩, ty, pos, after, none⟩, ⟨some d2, op2, ty2, pos2, after2, none⟩] false) c2)) (hn : fn.ntmps = m) (hle : Nat.ble args.length m = true) (hd : Nat.blt d m = true) (hd2 : Nat.blt d2 m = true)
    (hop : OpQ P ⟨m, none⟩ w0 ⟨some d2, op2, ty2, pos2, after2, none⟩ ((d, (recV u).1) :: argE 0 args) H (.bool b))
    (h : WS P ⟨m, none⟩ w0 c2 (retS P ⟨m, none⟩ w0 fn fun v H' => K (recV u).2 H') ⟨(d2, .bool b) :: (d, (recV u).1) :: argE 0 args, [], H⟩) : DSpec P w0 f args u H K := by
  intro w hs
  subst hn
  refine callsDIn_of_wpSIn hf hb trivial fun c₀ cs hu => ?_
  refine wpSIn_seq (wpSIn_region ?_)
  have s0 := enter_sees (args := args) hle
  have s1 : Sees ⟨fn.ntmps, none⟩ ((d, (recV u).1) :: argE 0 args) (Act.put ⟨args.toArray ++ Array.replicate (fn.ntmps - args.toArray.size) undef, []⟩ (some d) (recV u).1) := s0.put _ hd
  have s2 := s1.put (.bool b) hd2
  have hr1 : ∀ a : Act, (execOp a.eval ⟨some d, .call ⟨.builtin .recover, #[], #[]⟩, ty, pos, after, none⟩).run P w = .ok .recover w := fun a => by
    rfl
  have hr2 := hop _ w s1 hs
  have rest : ∀ (cs' : List Frame), cs' = { c₀ with mode := (recV u).2 } :: cs → c2.wpSIn (fen none) 0 P (bodyPostS P fn c₀ cs fun e u' w' => ∃ v H', e = Ending.returned v ∧ Sat w0 w' H' ∧ K u' H') ((Act.put ⟨args.toArray ++ Array.replicate (fn.ntmps - args.toArray.size) undef, []⟩ (some d) (recV u).1).put (some d2) (.bool b)) cs' w := by
    rintro cs' rfl
    refine wpSIn_of_wpIn rfl (wpIn_mono (h _ w ⟨s2, rfl, hs⟩) ?_)
    rintro e a w' ⟨σ, h1, h2⟩
    cases e with
    | normal => obtain ⟨hD, v, hr, hK⟩ := h1; exact ⟨h2.defers.trans hD, _, rfl, v, hr a w' h2, v, σ.H, rfl, h2.sat, hK⟩
    | ret => obtain ⟨hD, v, hr, hK⟩ := h1; exact ⟨h2.defers.trans hD, _, rfl, v, hr a w' h2, v, σ.H, rfl, h2.sat, hK⟩
    | _ => exact h1.elim
  have e0 : (List.range (#[(⟨some d, .call ⟨.builtin .recover, #[], #[]⟩, ty, pos, after, none⟩ : Oper), ⟨some d2, op2, ty2, pos2, after2, none⟩] : Array Oper).size) = [0, 1] := rfl
  rw [e0]
  have tail : ∀ (cs' : List Frame), cs' = { c₀ with mode := (recV u).2 } :: cs → wpOpsSIn (fen none) 0 P #[⟨some d, .call ⟨.builtin .recover, #[], #[]⟩, ty, pos, after, none⟩, ⟨some d2, op2, ty2, pos2, after2, none⟩] (Exit.thenS (c2.wpSIn (fen none) 0 P (bodyPostS P fn c₀ cs fun e u' w' => ∃ v H', e = Ending.returned v ∧ Sat w0 w' H' ∧ K u' H')) (bodyPostS P fn c₀ cs fun e u' w' => ∃ v H', e = Ending.returned v ∧ Sat w0 w' H' ∧ K u' H')) [1] (Act.put ⟨args.toArray ++ Array.replicate (fn.ntmps - args.toArray.size) undef, []⟩ (some d) (recV u).1) cs' w := by
    intro cs' hcs
    simp only [wpOpsSIn, List.getElem?_toArray, List.getElem?_cons_succ, List.getElem?_cons_zero]
    refine ⟨fun _ _ => trivial, ?_⟩
    rw [if_pos (by rfl), hr2]
    exact rest cs' hcs
  unfold wpOpsSIn
  simp only [List.getElem?_toArray, List.getElem?_cons_zero]
  refine ⟨fun _ _ => trivial, ?_⟩
  rw [if_pos (by rfl), hr1]
  rcases recoverD_eq c₀ cs u hu with h1 | ⟨h1, h2⟩
  · simp only [h1]
    exact tail _ rfl
  · simp only [h1]
    have : (recV u).1 = .nilIface := by rw [h2]
    rw [← this]
    refine tail _ ?_
    rw [h2]
    subst hu; rfl
/-- What is recovered, against nil. -/
class IfaceT (P : Program) (t : TypeId) : Prop where
  eq : P.underlying t = some (.interface (P.methodsAt t))
instance neqHeld {t u : TypeId} {x : Value} [h : IfaceT P t] : BinV P .neq t (.iface u x) .nilIface (.bool true) := ⟨fun w => run_neq_held_nil (w := w) t u x h.eq, fun w _ _ => by rfl⟩
theorem Q_neqNilC {n : Frm} {E : Env} {H : HProp} {d : Option Tmp} {ty t t2 : TypeId} {pos : String} {after : Array Edge} {gu : Option (Nat × Bool)} {x : Operand} (hx : E.ev x = some .nilIface) (h : IfaceT P t) : OpQ P n w0 ⟨d, .binOp .neq t x (.const .nilIface) t2, ty, pos, after, gu⟩ E H (.bool false) := fun a w s hs => by
  have e := s.ev hx
  have e2 : a.eval (.const .nilIface) = .nilIface := rfl
  have hr := run_neq_nil_nil (w := w) t h.eq
  have hg : (eqGuard .neq t x (.const .nilIface) .nilIface .nilIface).run P w = .ok () w := by simp [eqGuard]
  simp only [execOp, e, e2, Sem.run_bind, hg, hr, Result.andThen_ok, Sem.run_pure]
end Go.Proofs.Ytapoehkdnglahaa
