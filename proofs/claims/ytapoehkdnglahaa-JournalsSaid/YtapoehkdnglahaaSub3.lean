/- More operators; rows of pointers. No program in sight. -/
import Derived.Test.YtapoehkdnglahaaSub2
import Derived.Laws.Pointers
namespace Go.Proofs.Ytapoehkdnglahaa
open Go.RowKit
set_option linter.unusedVariables false
variable {P : Program} {n : Frm} {w0 : World} {E : Env} {D : List Deferred} {H F F2 R : HProp} {ops : Array Oper} {l' : List Oper} {Q : Exit → St → Prop} {w : World}
/-! ### Pointers against nil -/
instance eqlNilP {t e : TypeId} {a : Addr} [h : Und P t (.pointer e)] : BinV P .eql t (.pointer (some a)) (.pointer none) (.bool false) := ⟨fun w => by
  have hp : P.pointee t = e := by simp [Program.pointee, h.eq]
  have := run_eql_pointer_nil (w := w) t (some a) (by rw [hp]; exact h.eq)
  exact this, fun w _ _ => by rfl⟩
instance neqNilP {t e : TypeId} {a : Addr} [h : Und P t (.pointer e)] : BinV P .neq t (.pointer (some a)) (.pointer none) (.bool true) := ⟨fun w => by
  have hp : P.pointee t = e := by simp [Program.pointee, h.eq]
  have := run_neq_pointer_nil (w := w) t (some a) (by rw [hp]; exact h.eq)
  exact this, fun w _ _ => by rfl⟩
/-- A test whose outcome is a hypothesis. -/
theorem WS_condH_t {o : Operand} {b : Bool} {x y : Code} {σ : St} (hc : σ.E.ev o = some (.bool b)) (hl : b = true) (h : WS P n w0 x Q σ) : WS P n w0 (.cond o x y) Q σ := WS_cond hc (fun _ => h) (fun e => by rw [hl] at e; cases e)
theorem WS_condH_f {o : Operand} {b : Bool} {x y : Code} {σ : St} (hc : σ.E.ev o = some (.bool b)) (hl : b = false) (h : WS P n w0 y Q σ) : WS P n w0 (.cond o x y) Q σ := WS_cond hc (fun e => by rw [hl] at e; cases e) (fun _ => h)
/-- A pointer's cell. -/
def ptrC (g : Nat) : List Value := [ptr g 0]
instance : FixLen ptrC 1 := ⟨fun _ => rfl⟩
theorem ptrC_one : ∀ z, ∀ c ∈ ptrC z, c.oneCell' = true := by intro z c hc; simp [ptrC] at hc; subst hc; rfl
end Go.Proofs.Ytapoehkdnglahaa
