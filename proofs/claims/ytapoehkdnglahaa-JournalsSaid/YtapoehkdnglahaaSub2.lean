/- Calls whose results bear facts; facts among limbs. No program in sight. -/
import Derived.Test.YtapoehkdnglahaaSub
namespace Go.Proofs.Ytapoehkdnglahaa
open Go.RowKit
set_option linter.unusedVariables false
variable {P : Program} {n : Frm} {w0 : World} {E : Env} {D : List Deferred} {H F F2 R : HProp} {ops : Array Oper} {l' : List Oper} {Q : Exit → St → Prop} {w : World}
/-- A fact among limbs. -/
class PureOf (H : HProp) (φ : outParam Prop) (F : outParam HProp) : Prop where
  eq : H = pure' φ * F
instance pureOf_head (φ : Prop) (F : HProp) : PureOf (pure' φ * F) φ F := ⟨rfl⟩
instance (priority := low) pureOf_left (X H F : HProp) (φ : Prop) [h : PureOf X φ F] : PureOf (X * H) φ (F * H) := ⟨by rw [h.eq, star_assoc]⟩
instance (priority := low) pureOf_tail (X H F : HProp) (φ : Prop) [h : PureOf H φ F] : PureOf (X * H) φ (X * F) := ⟨by rw [h.eq, star_left_comm]⟩
theorem pure_cases {φ : Prop} {w : World} (h : Sat w0 w (pure' φ * F)) : φ ∧ Sat w0 w F := h.pure
theorem LS_pureI {φ : Prop} (hp : PureOf H φ F) (h : φ → LS P n w0 ops Q l' ⟨E, D, F⟩) : LS P n w0 ops Q l' ⟨E, D, H⟩ := fun a w g => by
  obtain ⟨h1, h2⟩ := (g.sat.cast hp.eq).pure
  exact h h1 a w ⟨g.sees, g.defers, h2⟩
theorem WS_pureI {φ : Prop} {c : Code} (hp : PureOf H φ F) (h : φ → WS P n w0 c Q ⟨E, D, F⟩) : WS P n w0 c Q ⟨E, D, H⟩ := fun a w g => by
  obtain ⟨h1, h2⟩ := (g.sat.cast hp.eq).pure
  exact h h1 a w ⟨g.sees, g.defers, h2⟩
variable {d : Nat} {op : Op} {ty : TypeId} {pos : String} {after : Array Edge} {α : Type} {v : α → Value} {post : α → HProp}
theorem LS_hP {φ : α → Prop} (h : OpH P n w0 ⟨some d, op, ty, pos, after, none⟩ E H v (fun x => (pure' (φ x) * post x) * F)) (hd : Nat.blt d n.tmps = true) (hn : ∀ x, φ x → LS P n w0 ops Q l' ⟨(d, v x) :: E, D, post x * F⟩) : LS P n w0 ops Q (⟨some d, op, ty, pos, after, none⟩ :: l') ⟨E, D, H⟩ :=
  LS_h h hd fun x => LS_pureI inferInstance (hn x)
section lookup
variable {κ ν : Type} [DecidableEq κ] {fk : κ → Value} {fv : ν → Value} {r : Nat} {m : List (κ × ν)} {k : κ} {u : ν} {v : Value} {d : Option Tmp} {gu : Option (Nat × Bool)} {x y : Operand} {t kt et : TypeId} {z : Value} {zs : List Value}
/-- A key that is there, one that is not. -/
theorem Q_lookupOk_s (hx : E.ev x = some (.map (some r))) (hy : E.ev y = some v) (hl : MapOf H r κ ν fk fv m F) (hkk : AsKey fk v k) (hm : MapT P t kt et) (hz : Zero P et z zs) (hk : KeyT P kt fk) (he : mget m k = some u) : OpQ P n w0 ⟨d, .lookup t x y true, ty, pos, after, gu⟩ E H (.tuple #[fv u, .bool true]) := by
  have := Q_lookupOk (n := n) (w0 := w0) (d := d) (ty := ty) (pos := pos) (after := after) (gu := gu) hx hy hl hkk hm hz hk
  rwa [he] at this
theorem Q_lookupOk_n (hx : E.ev x = some (.map (some r))) (hy : E.ev y = some v) (hl : MapOf H r κ ν fk fv m F) (hkk : AsKey fk v k) (hm : MapT P t kt et) (hz : Zero P et z zs) (hk : KeyT P kt fk) (he : mget m k = none) : OpQ P n w0 ⟨d, .lookup t x y true, ty, pos, after, gu⟩ E H (.tuple #[z, .bool false]) := by
  have := Q_lookupOk (n := n) (w0 := w0) (d := d) (ty := ty) (pos := pos) (after := after) (gu := gu) hx hy hl hkk hm hz hk
  rwa [he] at this
theorem Q_lookup_s (hx : E.ev x = some (.map (some r))) (hy : E.ev y = some v) (hl : MapOf H r κ ν fk fv m F) (hkk : AsKey fk v k) (hm : MapT P t kt et) (hz : Zero P et z zs) (hk : KeyT P kt fk) (he : mget m k = some u) : OpQ P n w0 ⟨d, .lookup t x y false, ty, pos, after, gu⟩ E H (fv u) := by
  have := Q_lookup (n := n) (w0 := w0) (d := d) (ty := ty) (pos := pos) (after := after) (gu := gu) hx hy hl hkk hm hz hk
  rwa [he] at this
theorem Q_lookup_n (hx : E.ev x = some (.map (some r))) (hy : E.ev y = some v) (hl : MapOf H r κ ν fk fv m F) (hkk : AsKey fk v k) (hm : MapT P t kt et) (hz : Zero P et z zs) (hk : KeyT P kt fk) (he : mget m k = none) : OpQ P n w0 ⟨d, .lookup t x y false, ty, pos, after, gu⟩ E H z := by
  have := Q_lookup (n := n) (w0 := w0) (d := d) (ty := ty) (pos := pos) (after := after) (gu := gu) hx hy hl hkk hm hz hk
  rwa [he] at this
end lookup
end Go.Proofs.Ytapoehkdnglahaa
