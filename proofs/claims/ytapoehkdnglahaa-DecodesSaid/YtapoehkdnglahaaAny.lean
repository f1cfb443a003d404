/- A region that draws, gone through in every order: for regions that may panic. No program in sight. -/
import Derived.Test.YtapoehkdnglahaaLeave
namespace Go.Proofs.Ytapoehkdnglahaa
open Go.RowKit
set_option linter.unusedVariables false
set_option linter.unusedSimpArgs false
variable {P : Program} {n : Frm} {w0 : World} {E : Env} {D : List Deferred} {H F F2 R : HProp} {ops : Array Oper} {Q : Exit → St → Prop} {σ : St}
/-- Which operations are done; the last one stands first. -/
def maskD (m : Nat) : List Nat → Array Bool
  | [] => Array.replicate m false
  | i :: r => (maskD m r).setIfInBounds i true
def AS (P : Program) (n : Frm) (w0 : World) (ops : Array Oper) (Q : Exit → St → Prop) (done : List Nat) (σ : St) : Prop :=
  ∀ a w, Good n w0 σ a w → wpAnyIn (fen n.round) 0 P .any ops (lift n w0 Q) (ops.size - done.length) (maskD ops.size done) a w
def AO (P : Program) (n : Frm) (w0 : World) (ops : Array Oper) (Q : Exit → St → Prop) (done : List Nat) (i : Nat) (σ : St) : Prop :=
  ∀ a w, Good n w0 σ a w → wpOpIn (fen n.round) 0 P ops (lift n w0 Q) i (wpAnyIn (fen n.round) 0 P .any ops (lift n w0 Q) (ops.size - (i :: done).length) (maskD ops.size (i :: done))) a w
/-- Each operation that is ready is gone through. -/
def allO (P : Program) (n : Frm) (w0 : World) (ops : Array Oper) (Q : Exit → St → Prop) (done : List Nat) (σ : St) : List Nat → Prop
  | [] => True
  | i :: r => AO P n w0 ops Q done i σ ∧ allO P n w0 ops Q done σ r
theorem allO_mem {done : List Nat} : ∀ {r : List Nat}, allO P n w0 ops Q done σ r → ∀ i ∈ r, AO P n w0 ops Q done i σ
  | [], _, i, hi => by cases hi
  | j :: r, h, i, hi => by
    rcases List.mem_cons.1 hi with rfl | hi
    · exact h.1
    · exact allO_mem h.2 i hi
theorem AS_step {done r : List Nat} (hr : Region.ready .any ops (maskD ops.size done) = r) (hlt : Nat.blt done.length ops.size = true) (hne : r.isEmpty = false) (h : allO P n w0 ops Q done σ r) : AS P n w0 ops Q done σ := fun a w g => by
  have hlt' : done.length < ops.size := by simpa using hlt
  obtain ⟨f, hf⟩ : ∃ f, ops.size - done.length = f + 1 := ⟨ops.size - done.length - 1, by omega⟩
  have hf2 : ops.size - ((0 : Nat) :: done).length = f := by simp; omega
  rw [hf]
  refine ⟨fun h0 => ?_, fun i hi => ?_⟩
  · rw [hr] at h0; subst h0; cases hne
  · rw [hr] at hi
    have := allO_mem h i hi a w g
    have e : ops.size - (i :: done).length = f := by simp; omega
    rw [e] at this
    exact this
theorem allO_nil {done : List Nat} : allO P n w0 ops Q done σ [] := trivial
theorem allO_cons {done r : List Nat} {i : Nat} (h1 : AO P n w0 ops Q done i σ) (h2 : allO P n w0 ops Q done σ r) : allO P n w0 ops Q done σ (i :: r) := ⟨h1, h2⟩
theorem AS_stepU {done : List Nat} (hlt : Nat.blt done.length ops.size = true) (hne : (Region.ready .any ops (maskD ops.size done)).isEmpty = false) (h : allO P n w0 ops Q done σ (Region.ready .any ops (maskD ops.size done))) : AS P n w0 ops Q done σ := AS_step rfl hlt hne h
theorem AO_q {done : List Nat} {i d : Nat} {op : Op} {ty : TypeId} {pos : String} {after : Array Edge} {v : Value} (hi : ops[i]? = some ⟨some d, op, ty, pos, after, none⟩) (hop : OpQ P n w0 ⟨some d, op, ty, pos, after, none⟩ E H v) (hd : Nat.blt d n.tmps = true) (h : AS P n w0 ops Q (i :: done) ⟨(d, v) :: E, D, H⟩) : AO P n w0 ops Q done i ⟨E, D, H⟩ := fun a w g => by
  unfold wpOpIn
  rw [hi]
  simp only
  rw [if_pos (by rfl)]
  exact hop.toIn g.sees g.sat (h _ _ ⟨g.sees.putO (some d) _ hd, g.defers, g.sat⟩)
theorem AO_h {done : List Nat} {i d : Nat} {op : Op} {ty : TypeId} {pos : String} {after : Array Edge} {α : Type} {v : α → Value} {post : α → HProp} (hi : ops[i]? = some ⟨some d, op, ty, pos, after, none⟩) (hop : OpH P n w0 ⟨some d, op, ty, pos, after, none⟩ E H v post) (hd : Nat.blt d n.tmps = true) (h : ∀ x, AS P n w0 ops Q (i :: done) ⟨(d, v x) :: E, D, post x⟩) : AO P n w0 ops Q done i ⟨E, D, H⟩ := fun a w g => by
  unfold wpOpIn
  rw [hi]
  simp only
  rw [if_pos (by rfl)]
  obtain ⟨pre, post', G, hT, hH, hp⟩ := hop
  exact hT.toIn G g.sees (g.sat.cast hH) fun x w' hs => h x _ _ ⟨g.sees.putO (some d) _ hd, g.defers, hs.cast (hp x).symm⟩
theorem AO_h0 {done : List Nat} {i : Nat} {op : Op} {ty : TypeId} {pos : String} {after : Array Edge} {α : Type} {v : α → Value} {post : α → HProp} (hi : ops[i]? = some ⟨none, op, ty, pos, after, none⟩) (hop : OpH P n w0 ⟨none, op, ty, pos, after, none⟩ E H v post) (h : ∀ x, AS P n w0 ops Q (i :: done) ⟨E, D, post x⟩) : AO P n w0 ops Q done i ⟨E, D, H⟩ := fun a w g => by
  unfold wpOpIn
  rw [hi]
  simp only
  rw [if_pos (by rfl)]
  obtain ⟨pre, post', G, hT, hH, hp⟩ := hop
  exact hT.toIn G g.sees (g.sat.cast hH) fun x w' hs => h x _ _ ⟨g.sees, g.defers, hs.cast (hp x).symm⟩
theorem AS_end {done : List Nat} (hlen : Nat.beq done.length ops.size = true) (hr : (Region.ready .any ops (maskD ops.size done)).isEmpty = true) (h : Q .normal σ) : AS P n w0 ops Q done σ := fun a w g => by
  have e : ops.size - done.length = 0 := by have := Nat.eq_of_beq_eq_true hlen; omega
  rw [e]
  exact ⟨by simpa using hr, _, h, g⟩
/-- A call that panics. -/
theorem AO_x {done : List Nat} {i : Nat} {f : FuncId} {args : List Value} {pre post : HProp} {chain : List PanicEntry} {d : Option Tmp} {xs : List Operand} {ts : Array TypeId} {ty : TypeId} {pos : String} {after : Array Edge} (hi : ops[i]? = some ⟨d, .call ⟨.value (.func f), xs.toArray, ts⟩, ty, pos, after, none⟩) (hf : IsFun P f) (hargs : E.evs xs = some args) (spec : SpecX P w0 f args pre chain post) (hH : Own H pre F) (h : Q (.panic chain) ⟨E, D, post * F⟩) : AO P n w0 ops Q done i ⟨E, D, H⟩ := fun a w g => by
  unfold wpOpIn
  rw [hi]
  simp only
  rw [if_pos (by rfl)]
  refine wpIn_of_wp (.inr (fun c hc => by cases hc)) ?_
  have e := g.sees.evs hargs
  have hr : (execOp a.eval ⟨d, .call ⟨.value (.func f), xs.toArray, ts⟩, ty, pos, after, none⟩).run P w = .ok (.enter f args.toArray) w := by
    have h := run_callFunc hf args.toArray w
    simp [execOp, resolve, Act.eval, Deferred.ofValue, invoke, e, h]
  unfold Oper.wp
  rw [hr]
  refine (spec F w (g.sat.cast hH.eq)).mono ?_
  rintro e w' ⟨rfl, hs'⟩
  exact ⟨_, h, g.sees, g.defers, hs'⟩
theorem WS_drawAny {id : Nat} {l : List Oper} (hm : P.follows .mixedOrders = true) (h : AS P n w0 l.toArray Q [] ⟨E, D, H⟩) : WS P n w0 (.region id l.toArray true) Q ⟨E, D, H⟩ := fun a w g => by
  refine wpIn_region_any hm ?_
  exact h a w.drew ⟨g.sees, g.defers, g.sat.drew⟩
/-- A region that draws, in whose order the block that slot t points to is read ahead of place cp alone; all else may be changed from the beginning. -/
theorem WS_drawM {l l' : List Oper} {id : Nat} (t : Nat) (idx : List Nat) (cp : Nat) (bs : List Nat) {g off : Nat} {bt : TypeId} {cs : List Value} (hs : statD P l idx (inB bs) cp = true) (hl : permL l idx = some l') (hx : E.get t = some (ptr g off)) (hL : LimbB H g bt cs F) (h : DL P n w0 l.toArray Q D emp (cel g bt cs) (inB bs) cp 0 false l' E F) : WS P n w0 (.region id l.toArray true) Q ⟨E, D, H⟩ :=
  WS_draw idx l' emp (cel g bt cs) F _ cp hs (by rw [emp_star]; exact hL.eq) (permL_eq hl) h
end Go.Proofs.Ytapoehkdnglahaa
