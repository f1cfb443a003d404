/- How the arguments of the timers' laws read as data of Lean. -/
import Derived.Test.YtapoehkdnglahaaArgs2
namespace Go.Proofs.Ytapoehkdnglahaa
open Go.ChangeShapes Go.WideShapes Go.ChangeAt Go.RowKit Go.Deep
set_option linter.unusedVariables false
theorem dec_timer : Dec 61 (fun x : Int × Int × UInt64 × Bool => [.int .i64 x.1, .int .i64 x.2.1, u64 x.2.2.1, .bool x.2.2.2]) (fun _ _ => True) := fun {H enc w base spare held n c y} h => by
  obtain ⟨hl, ys, m, _, _, hf⟩ := struct_cells Try.underlying61 (by kernel_rfl) (by kernel_rfl) h
  obtain ⟨v0, y0, e0, _, t0⟩ := hf 0 _ rfl
  obtain ⟨v1, y1, e1, _, t1⟩ := hf 1 _ rfl
  obtain ⟨v2, y2, e2, _, t2⟩ := hf 2 _ rfl
  obtain ⟨v3, y3, e3, _, t3⟩ := hf 3 _ rfl
  obtain ⟨a0, q0, _⟩ := dec_i64 Try.underlying3 t0
  obtain ⟨a1, q1, _⟩ := dec_i64 Try.underlying3 t1
  obtain ⟨a2, q2, _⟩ := dec_u64 Try.underlying59 t2
  obtain ⟨a3, q3, _⟩ := dec_bool Try.underlying4 t3
  refine ⟨(a0, a1, a2, a3), ?_, trivial⟩
  simp only [i64C, u64C, boolC, List.cons.injEq, and_true] at q0 q1 q2 q3
  subst q0; subst q1; subst q2; subst q3
  match c, hl with
  | [c0, c1, c2, c3], _ => simp at e0 e1 e2 e3; subst e0; subst e1; subst e2; subst e3; rfl
/-- A slice that came in. -/
theorem arg_slice {α : Type} {f : α → List Value} {ok : World → α → Prop} {size : Nat} {t e : TypeId} (hf : ∀ x, (f x).length = size) (hp : 0 < size) (ht : Try.prog.underlying t = some (.slice e)) (hC : Try.prog.cellsOf e = size) (hd : Dec e f ok) {H : Type} {enc : TypeId × Value → H} {w : World} {base : Nat} {spare : Nat → Bool} {held : Bool} {A : Option Addr} {n c : Nat} {d : DataW H} {ps : List MemPlace} (h : DataW.Trod enc Try.prog w base spare held t (.slice A n c) d ps) : ∃ l : List α, RowsAt w size f (.slice A n c) l ∧ ∀ a ∈ l, ok w a := by
  obtain ⟨⟨x, l⟩, hc, hR, hl⟩ := dec_arg (dec_slice hf hp ht hC hd) h
  obtain rfl : x = .slice A n c := by simpa [Value.cells, slV] using hc.symm
  exact ⟨l, hR, hl⟩
end Go.Proofs.Ytapoehkdnglahaa
