/- Values as data of Lean, and what the operators make of them. No program in sight. -/
import Derived.Test.YtapoehkdnglahaaOp2
import Derived.Test.YtapoehkdnglahaaWireP
namespace Go.Proofs.Ytapoehkdnglahaa
open Go.RowKit
set_option linter.unusedVariables false
variable {P : Program} {n : Frm} {w0 : World} {E : Env} {D : List Deferred} {H F R : HProp}

/-! ### Constants -/
class AsU8 (v : Value) (x : outParam UInt8) : Prop where eq : v = u8 x
class AsU32 (v : Value) (x : outParam UInt32) : Prop where eq : v = u32 x
class AsU64 (v : Value) (x : outParam UInt64) : Prop where eq : v = u64 x
instance (x : UInt8) : AsU8 (u8 x) x := ⟨rfl⟩
instance (x : UInt32) : AsU32 (u32 x) x := ⟨rfl⟩
instance (x : UInt64) : AsU64 (u64 x) x := ⟨rfl⟩
instance : AsU8 (.int .u8 0) 0 := ⟨rfl⟩
instance : AsU8 (.int .u8 1) 1 := ⟨rfl⟩
instance : AsU8 (.int .u8 2) 2 := ⟨rfl⟩
instance : AsU8 (.int .u8 7) 7 := ⟨rfl⟩
instance : AsU8 (.int .u8 8) 8 := ⟨rfl⟩
instance : AsU32 (.int .u32 0) 0 := ⟨rfl⟩
instance : AsU32 (.int .u32 1) 1 := ⟨rfl⟩
instance : AsU32 (.int .u32 6) 6 := ⟨rfl⟩
instance : AsU32 (.int .u32 7) 7 := ⟨rfl⟩
instance : AsU32 (.int .u32 6000) 6000 := ⟨rfl⟩
instance : AsU32 (.int .u32 4294967295) 4294967295 := ⟨rfl⟩
instance : AsU64 (.int .u64 0) 0 := ⟨rfl⟩
instance : AsU64 (.int .u64 1) 1 := ⟨rfl⟩
instance : AsU64 (.int .u64 5) 5 := ⟨rfl⟩
instance : AsU64 (.int .u64 80) 80 := ⟨rfl⟩
instance : AsU64 (.int .u64 1000) 1000 := ⟨rfl⟩
instance : AsU64 (.int .u64 1280) 1280 := ⟨rfl⟩
instance : AsU64 (.int .u64 2000) 2000 := ⟨rfl⟩
instance : AsU64 (.int .u64 3000) 3000 := ⟨rfl⟩
instance : AsU64 (.int .u64 5000) 5000 := ⟨rfl⟩
instance : AsU64 (.int .u64 65536) 65536 := ⟨rfl⟩
instance : AsU64 (.int .u64 1099511627776) 1099511627776 := ⟨rfl⟩
instance : AsU64 (.int .u64 18446744073709551615) 18446744073709551615 := ⟨rfl⟩

/-! ### Operators -/
theorem guard_int (op : BinOp) (t : TypeId) (a b : Operand) (k k' : IntKind) (x y : Int) (w : World) : (eqGuard op t a b (.int k x) (.int k' y)).run P w = .ok () w := by
  unfold eqGuard
  cases op <;> rfl
theorem wrap_u32 (m : Int) : IntKind.u32.wrap m = m % 4294967296 := by simp [IntKind.wrap, IntKind.signed, IntKind.bits]
theorem wrap_u64 (m : Int) : IntKind.u64.wrap m = m % 18446744073709551616 := by simp [IntKind.wrap, IntKind.signed, IntKind.bits]
theorem wrap_u8 (m : Int) : IntKind.u8.wrap m = m % 256 := by simp [IntKind.wrap, IntKind.signed, IntKind.bits]
theorem ofNat_u32 {m : Int} {x : UInt32} (h : m = (x.toNat : Int)) : Value.int .u32 m = u32 x := by rw [h]; rfl
theorem ofNat_u64 {m : Int} {x : UInt64} (h : m = (x.toNat : Int)) : Value.int .u64 m = u64 x := by rw [h]; rfl
theorem ofNat_u8 {m : Int} {x : UInt8} (h : m = (x.toNat : Int)) : Value.int .u8 m = u8 x := by rw [h]; rfl
section
variable {t : TypeId} {v u : Value}
instance addU32 {x y : UInt32} [a : AsU32 v x] [b : AsU32 u y] : BinV P .add t v u (u32 (x + y)) := by
  obtain ⟨rfl⟩ := a; obtain ⟨rfl⟩ := b
  refine ⟨fun w => ?_, fun w _ _ => guard_int _ _ _ _ _ _ _ _ _⟩
  have e : u32 (x + y) = .int .u32 (IntKind.u32.wrap ((x.toNat : Int) + (y.toNat : Int))) := (ofNat_u32 (by rw [wrap_u32, UInt32.toNat_add]; omega)).symm
  rw [e]; rfl
instance subU32 {x y : UInt32} [a : AsU32 v x] [b : AsU32 u y] : BinV P .sub t v u (u32 (x - y)) := by
  obtain ⟨rfl⟩ := a; obtain ⟨rfl⟩ := b
  refine ⟨fun w => ?_, fun w _ _ => guard_int _ _ _ _ _ _ _ _ _⟩
  have hx := x.toNat_lt; have hy := y.toNat_lt
  have e : u32 (x - y) = .int .u32 (IntKind.u32.wrap ((x.toNat : Int) - (y.toNat : Int))) := (ofNat_u32 (by rw [wrap_u32, UInt32.toNat_sub]; omega)).symm
  rw [e]; rfl
instance addU64 {x y : UInt64} [a : AsU64 v x] [b : AsU64 u y] : BinV P .add t v u (u64 (x + y)) := by
  obtain ⟨rfl⟩ := a; obtain ⟨rfl⟩ := b
  refine ⟨fun w => ?_, fun w _ _ => guard_int _ _ _ _ _ _ _ _ _⟩
  have e : u64 (x + y) = .int .u64 (IntKind.u64.wrap ((x.toNat : Int) + (y.toNat : Int))) := (ofNat_u64 (by rw [wrap_u64, UInt64.toNat_add]; omega)).symm
  rw [e]; rfl
instance subU64 {x y : UInt64} [a : AsU64 v x] [b : AsU64 u y] : BinV P .sub t v u (u64 (x - y)) := by
  obtain ⟨rfl⟩ := a; obtain ⟨rfl⟩ := b
  refine ⟨fun w => ?_, fun w _ _ => guard_int _ _ _ _ _ _ _ _ _⟩
  have hx := x.toNat_lt; have hy := y.toNat_lt
  have e : u64 (x - y) = .int .u64 (IntKind.u64.wrap ((x.toNat : Int) - (y.toNat : Int))) := (ofNat_u64 (by rw [wrap_u64, UInt64.toNat_sub]; omega)).symm
  rw [e]; rfl
instance mulU64 {x y : UInt64} [a : AsU64 v x] [b : AsU64 u y] : BinV P .mul t v u (u64 (x * y)) := by
  obtain ⟨rfl⟩ := a; obtain ⟨rfl⟩ := b
  refine ⟨fun w => ?_, fun w _ _ => guard_int _ _ _ _ _ _ _ _ _⟩
  have e : u64 (x * y) = .int .u64 (IntKind.u64.wrap ((x.toNat : Int) * (y.toNat : Int))) := (ofNat_u64 (by rw [wrap_u64, UInt64.toNat_mul]; simp)).symm
  rw [e]; rfl
instance remU64 {x y : UInt64} [a : AsU64 v x] [b : AsU64 u y] [hy : NeZero y.toNat] : BinV P .rem t v u (u64 (x % y)) := by
  obtain ⟨rfl⟩ := a; obtain ⟨rfl⟩ := b
  refine ⟨fun w => ?_, fun w _ _ => guard_int _ _ _ _ _ _ _ _ _⟩
  have e : u64 (x % y) = .int .u64 ((x.toNat : Int).tmod (y.toNat : Int)) := (ofNat_u64 (by rw [UInt64.toNat_mod, Int.ofNat_tmod])).symm
  rw [e]
  have h0 : y.toNat ≠ 0 := hy.out
  simp [binOp, u64, Op.intDiv, h0]
instance : NeZero (UInt64.toNat 5000) := ⟨by decide⟩
instance : NeZero (UInt64.toNat 2000) := ⟨by decide⟩
instance : NeZero (UInt64.toNat 65536) := ⟨by decide⟩
instance addU8 {x y : UInt8} [a : AsU8 v x] [b : AsU8 u y] : BinV P .add t v u (u8 (x + y)) := by
  obtain ⟨rfl⟩ := a; obtain ⟨rfl⟩ := b
  refine ⟨fun w => ?_, fun w _ _ => guard_int _ _ _ _ _ _ _ _ _⟩
  have e : u8 (x + y) = .int .u8 (IntKind.u8.wrap ((x.toNat : Int) + (y.toNat : Int))) := (ofNat_u8 (by rw [wrap_u8, UInt8.toNat_add]; omega)).symm
  rw [e]; rfl
theorem cmp_eql {k : IntKind} {x y : Int} {p : Prop} [Decidable p] (h : p ↔ x = y) : ∀ w, (binOp .eql t (.int k x) (.int k y)).run P w = .ok (.bool (decide p)) w := fun w => by
  have : decide p = (x == y) := by rw [Bool.eq_iff_iff]; simp [h]
  rw [this]; simp [binOp, Op.intCmp]
theorem cmp_neq {k : IntKind} {x y : Int} {p : Prop} [Decidable p] (h : p ↔ x = y) : ∀ w, (binOp .neq t (.int k x) (.int k y)).run P w = .ok (.bool (!decide p)) w := fun w => by
  have : (!decide p) = (x != y) := by rw [Bool.eq_iff_iff]; simp [h]
  rw [this]; simp [binOp, Op.intCmp]
theorem cmp_lss {k : IntKind} {x y : Int} {p : Prop} [Decidable p] (h : p ↔ x < y) : ∀ w, (binOp .lss t (.int k x) (.int k y)).run P w = .ok (.bool (decide p)) w := fun w => by
  have : decide p = decide (x < y) := by rw [Bool.eq_iff_iff]; simp [h]
  rw [this]; simp [binOp, Op.intCmp]
theorem cmp_leq {k : IntKind} {x y : Int} {p : Prop} [Decidable p] (h : p ↔ x ≤ y) : ∀ w, (binOp .leq t (.int k x) (.int k y)).run P w = .ok (.bool (decide p)) w := fun w => by
  have : decide p = decide (x ≤ y) := by rw [Bool.eq_iff_iff]; simp [h]
  rw [this]; simp [binOp, Op.intCmp]
theorem cmp_gtr {k : IntKind} {x y : Int} {p : Prop} [Decidable p] (h : p ↔ y < x) : ∀ w, (binOp .gtr t (.int k x) (.int k y)).run P w = .ok (.bool (decide p)) w := fun w => by
  have : decide p = decide (x > y) := by rw [Bool.eq_iff_iff]; simp [h]
  rw [this]; simp [binOp, Op.intCmp]
theorem cmp_geq {k : IntKind} {x y : Int} {p : Prop} [Decidable p] (h : p ↔ y ≤ x) : ∀ w, (binOp .geq t (.int k x) (.int k y)).run P w = .ok (.bool (decide p)) w := fun w => by
  have : decide p = decide (x ≥ y) := by rw [Bool.eq_iff_iff]; simp [h]
  rw [this]; simp [binOp, Op.intCmp]
instance eqlU32 {x y : UInt32} [a : AsU32 v x] [b : AsU32 u y] : BinV P .eql t v u (.bool (decide (x = y))) := by
  obtain ⟨rfl⟩ := a; obtain ⟨rfl⟩ := b; exact ⟨cmp_eql (by rw [← UInt32.toNat_inj]; omega), fun w _ _ => guard_int _ _ _ _ _ _ _ _ _⟩
instance neqU32 {x y : UInt32} [a : AsU32 v x] [b : AsU32 u y] : BinV P .neq t v u (.bool (!decide (x = y))) := by
  obtain ⟨rfl⟩ := a; obtain ⟨rfl⟩ := b; exact ⟨cmp_neq (by rw [← UInt32.toNat_inj]; omega), fun w _ _ => guard_int _ _ _ _ _ _ _ _ _⟩
instance lssU32 {x y : UInt32} [a : AsU32 v x] [b : AsU32 u y] : BinV P .lss t v u (.bool (decide (x < y))) := by
  obtain ⟨rfl⟩ := a; obtain ⟨rfl⟩ := b; exact ⟨cmp_lss (by rw [UInt32.lt_iff_toNat_lt]; omega), fun w _ _ => guard_int _ _ _ _ _ _ _ _ _⟩
instance leqU32 {x y : UInt32} [a : AsU32 v x] [b : AsU32 u y] : BinV P .leq t v u (.bool (decide (x ≤ y))) := by
  obtain ⟨rfl⟩ := a; obtain ⟨rfl⟩ := b; exact ⟨cmp_leq (by rw [UInt32.le_iff_toNat_le]; omega), fun w _ _ => guard_int _ _ _ _ _ _ _ _ _⟩
instance gtrU32 {x y : UInt32} [a : AsU32 v x] [b : AsU32 u y] : BinV P .gtr t v u (.bool (decide (y < x))) := by
  obtain ⟨rfl⟩ := a; obtain ⟨rfl⟩ := b; exact ⟨cmp_gtr (by rw [UInt32.lt_iff_toNat_lt]; omega), fun w _ _ => guard_int _ _ _ _ _ _ _ _ _⟩
instance geqU32 {x y : UInt32} [a : AsU32 v x] [b : AsU32 u y] : BinV P .geq t v u (.bool (decide (y ≤ x))) := by
  obtain ⟨rfl⟩ := a; obtain ⟨rfl⟩ := b; exact ⟨cmp_geq (by rw [UInt32.le_iff_toNat_le]; omega), fun w _ _ => guard_int _ _ _ _ _ _ _ _ _⟩
instance eqlU64 {x y : UInt64} [a : AsU64 v x] [b : AsU64 u y] : BinV P .eql t v u (.bool (decide (x = y))) := by
  obtain ⟨rfl⟩ := a; obtain ⟨rfl⟩ := b; exact ⟨cmp_eql (by rw [← UInt64.toNat_inj]; omega), fun w _ _ => guard_int _ _ _ _ _ _ _ _ _⟩
instance neqU64 {x y : UInt64} [a : AsU64 v x] [b : AsU64 u y] : BinV P .neq t v u (.bool (!decide (x = y))) := by
  obtain ⟨rfl⟩ := a; obtain ⟨rfl⟩ := b; exact ⟨cmp_neq (by rw [← UInt64.toNat_inj]; omega), fun w _ _ => guard_int _ _ _ _ _ _ _ _ _⟩
instance lssU64 {x y : UInt64} [a : AsU64 v x] [b : AsU64 u y] : BinV P .lss t v u (.bool (decide (x < y))) := by
  obtain ⟨rfl⟩ := a; obtain ⟨rfl⟩ := b; exact ⟨cmp_lss (by rw [UInt64.lt_iff_toNat_lt]; omega), fun w _ _ => guard_int _ _ _ _ _ _ _ _ _⟩
instance leqU64 {x y : UInt64} [a : AsU64 v x] [b : AsU64 u y] : BinV P .leq t v u (.bool (decide (x ≤ y))) := by
  obtain ⟨rfl⟩ := a; obtain ⟨rfl⟩ := b; exact ⟨cmp_leq (by rw [UInt64.le_iff_toNat_le]; omega), fun w _ _ => guard_int _ _ _ _ _ _ _ _ _⟩
instance gtrU64 {x y : UInt64} [a : AsU64 v x] [b : AsU64 u y] : BinV P .gtr t v u (.bool (decide (y < x))) := by
  obtain ⟨rfl⟩ := a; obtain ⟨rfl⟩ := b; exact ⟨cmp_gtr (by rw [UInt64.lt_iff_toNat_lt]; omega), fun w _ _ => guard_int _ _ _ _ _ _ _ _ _⟩
instance geqU64 {x y : UInt64} [a : AsU64 v x] [b : AsU64 u y] : BinV P .geq t v u (.bool (decide (y ≤ x))) := by
  obtain ⟨rfl⟩ := a; obtain ⟨rfl⟩ := b; exact ⟨cmp_geq (by rw [UInt64.le_iff_toNat_le]; omega), fun w _ _ => guard_int _ _ _ _ _ _ _ _ _⟩
instance eqlU8 {x y : UInt8} [a : AsU8 v x] [b : AsU8 u y] : BinV P .eql t v u (.bool (decide (x = y))) := by
  obtain ⟨rfl⟩ := a; obtain ⟨rfl⟩ := b; exact ⟨cmp_eql (by rw [← UInt8.toNat_inj]; omega), fun w _ _ => guard_int _ _ _ _ _ _ _ _ _⟩
instance neqU8 {x y : UInt8} [a : AsU8 v x] [b : AsU8 u y] : BinV P .neq t v u (.bool (!decide (x = y))) := by
  obtain ⟨rfl⟩ := a; obtain ⟨rfl⟩ := b; exact ⟨cmp_neq (by rw [← UInt8.toNat_inj]; omega), fun w _ _ => guard_int _ _ _ _ _ _ _ _ _⟩
instance eqlI {x y : Int} : BinV P .eql t (.int .i64 x) (.int .i64 y) (.bool (decide (x = y))) := ⟨cmp_eql Iff.rfl, fun w _ _ => guard_int _ _ _ _ _ _ _ _ _⟩
instance neqI {x y : Int} : BinV P .neq t (.int .i64 x) (.int .i64 y) (.bool (!decide (x = y))) := ⟨cmp_neq Iff.rfl, fun w _ _ => guard_int _ _ _ _ _ _ _ _ _⟩
instance lssI {x y : Int} : BinV P .lss t (.int .i64 x) (.int .i64 y) (.bool (decide (x < y))) := ⟨cmp_lss Iff.rfl, fun w _ _ => guard_int _ _ _ _ _ _ _ _ _⟩
instance leqI {x y : Int} : BinV P .leq t (.int .i64 x) (.int .i64 y) (.bool (decide (x ≤ y))) := ⟨cmp_leq Iff.rfl, fun w _ _ => guard_int _ _ _ _ _ _ _ _ _⟩
instance gtrI {x y : Int} : BinV P .gtr t (.int .i64 x) (.int .i64 y) (.bool (decide (y < x))) := ⟨cmp_gtr Iff.rfl, fun w _ _ => guard_int _ _ _ _ _ _ _ _ _⟩
instance geqI {x y : Int} : BinV P .geq t (.int .i64 x) (.int .i64 y) (.bool (decide (y ≤ x))) := ⟨cmp_geq Iff.rfl, fun w _ _ => guard_int _ _ _ _ _ _ _ _ _⟩
instance eqlB {x y : Bool} [h : Und P t .bool] : BinV P .eql t (.bool x) (.bool y) (.bool (x == y)) := ⟨fun w => run_eql_bool w t x y h.eq, fun w _ _ => rfl⟩
instance neqB {x y : Bool} [h : Und P t .bool] : BinV P .neq t (.bool x) (.bool y) (.bool (!(x == y))) := ⟨fun w => run_neq_bool w t x y h.eq, fun w _ _ => rfl⟩
instance notT : UnV P .not (.bool true) (.bool false) := ⟨fun w => rfl⟩
instance notF : UnV P .not (.bool false) (.bool true) := ⟨fun w => rfl⟩
instance (priority := low) notB {x : Bool} : UnV P .not (.bool x) (.bool (!x)) := ⟨fun w => rfl⟩
end
section
variable {d : Option Tmp} {ty : TypeId} {pos : String} {after : Array Edge} {gu : Option (Nat × Bool)} {x y : Operand}
/-- int's sums, where they stay in their bounds. -/
theorem Q_addI {t t2 : TypeId} {a b : Int} (hx : E.ev x = some (.int .i64 a)) (hy : E.ev y = some (.int .i64 b)) (h : -9223372036854775808 ≤ a + b ∧ a + b ≤ 9223372036854775807) : OpQ P n w0 ⟨d, .binOp .add t x y t2, ty, pos, after, gu⟩ E H (.int .i64 (a + b)) := fun ac w s hs => by
  have := IntWalk.i64_in (a + b) h
  simp [execOp, s.ev hx, s.ev hy, guard_int, binOp, Op.intArith, this]
theorem Q_subI {t t2 : TypeId} {a b : Int} (hx : E.ev x = some (.int .i64 a)) (hy : E.ev y = some (.int .i64 b)) (h : -9223372036854775808 ≤ a - b ∧ a - b ≤ 9223372036854775807) : OpQ P n w0 ⟨d, .binOp .sub t x y t2, ty, pos, after, gu⟩ E H (.int .i64 (a - b)) := fun ac w s hs => by
  have := IntWalk.i64_in (a - b) h
  simp [execOp, s.ev hx, s.ev hy, guard_int, binOp, Op.intArith, this]
theorem Q_mulI {t t2 : TypeId} {a b : Int} (hx : E.ev x = some (.int .i64 a)) (hy : E.ev y = some (.int .i64 b)) (h : -9223372036854775808 ≤ a * b ∧ a * b ≤ 9223372036854775807) : OpQ P n w0 ⟨d, .binOp .mul t x y t2, ty, pos, after, gu⟩ E H (.int .i64 (a * b)) := fun ac w s hs => by
  have := IntWalk.i64_in (a * b) h
  simp [execOp, s.ev hx, s.ev hy, guard_int, binOp, Op.intArith, this]
theorem Q_negI {t : TypeId} {a : Int} (hx : E.ev x = some (.int .i64 a)) (h : -9223372036854775807 ≤ a ∧ a ≤ 9223372036854775807) : OpQ P n w0 ⟨d, .unOp .neg t x, ty, pos, after, gu⟩ E H (.int .i64 (-a)) := fun ac w s hs => by
  have := IntWalk.i64_in (-a) (by omega)
  simp [execOp, s.ev hx, Op.unary, Op.intArith, this]
theorem Q_remI {t t2 : TypeId} {a b : Int} (hx : E.ev x = some (.int .i64 a)) (hy : E.ev y = some (.int .i64 b)) (h : 0 ≤ a ∧ 0 < b) : OpQ P n w0 ⟨d, .binOp .rem t x y t2, ty, pos, after, gu⟩ E H (.int .i64 (a % b)) := fun ac w s hs => by
  have h0 : b ≠ 0 := by omega
  have := Int.tmod_eq_emod_of_nonneg (a := a) (b := b) h.1
  simp [execOp, s.ev hx, s.ev hy, guard_int, binOp, Op.intDiv, h0, this]
theorem Q_quoI {t t2 : TypeId} {a b : Int} (hx : E.ev x = some (.int .i64 a)) (hy : E.ev y = some (.int .i64 b)) (h : 0 ≤ a ∧ 0 < b ∧ a ≤ 9223372036854775807) : OpQ P n w0 ⟨d, .binOp .quo t x y t2, ty, pos, after, gu⟩ E H (.int .i64 (a / b)) := fun ac w s hs => by
  have h0 : b ≠ 0 := by omega
  have h1 := Int.tdiv_eq_ediv_of_nonneg (a := a) (b := b) h.1
  have h2 := Int.ediv_le_self b h.1
  have h3 := Int.ediv_nonneg h.1 (Int.le_of_lt h.2.1)
  have h4 := IntWalk.i64_in (a / b) (by omega)
  simp [execOp, s.ev hx, s.ev hy, guard_int, binOp, Op.intDiv, h0, h1, h4]
theorem Q_max32 {a b : UInt32} {ts : Array TypeId} {v u : Value} (hx : E.ev x = some v) (hy : E.ev y = some u) (h1 : AsU32 v a) (h2 : AsU32 u b) : OpQ P n w0 ⟨d, .call ⟨.builtin .max, #[x, y], ts⟩, ty, pos, after, gu⟩ E H (u32 (max a b)) := fun ac w s hs => by
  obtain ⟨rfl⟩ := h1; obtain ⟨rfl⟩ := h2
  have h := Q_max (P := P) (n := n) (w0 := w0) (H := H) (d := d) (ty := ty) (pos := pos) (after := after) (gu := gu) (ts := ts) hx hy ac w s hs
  rw [h]
  have : (max a b).toNat = if a.toNat ≤ b.toNat then b.toNat else a.toNat := by
    show (if a ≤ b then b else a).toNat = _
    by_cases hab : a ≤ b
    · rw [if_pos hab, if_pos (UInt32.le_iff_toNat_le.1 hab)]
    · rw [if_neg hab, if_neg (fun h => hab (UInt32.le_iff_toNat_le.2 h))]
  congr 2
  show Value.int .u32 _ = Value.int .u32 _
  congr 1
  rw [this]
  split <;> split <;> omega
theorem Q_max64 {a b : UInt64} {ts : Array TypeId} {v u : Value} (hx : E.ev x = some v) (hy : E.ev y = some u) (h1 : AsU64 v a) (h2 : AsU64 u b) : OpQ P n w0 ⟨d, .call ⟨.builtin .max, #[x, y], ts⟩, ty, pos, after, gu⟩ E H (u64 (max a b)) := fun ac w s hs => by
  obtain ⟨rfl⟩ := h1; obtain ⟨rfl⟩ := h2
  have h := Q_max (P := P) (n := n) (w0 := w0) (H := H) (d := d) (ty := ty) (pos := pos) (after := after) (gu := gu) (ts := ts) hx hy ac w s hs
  rw [h]
  have : (max a b).toNat = if a.toNat ≤ b.toNat then b.toNat else a.toNat := by
    show (if a ≤ b then b else a).toNat = _
    by_cases hab : a ≤ b
    · rw [if_pos hab, if_pos (UInt64.le_iff_toNat_le.1 hab)]
    · rw [if_neg hab, if_neg (fun h => hab (UInt64.le_iff_toNat_le.2 h))]
  congr 2
  show Value.int .u64 _ = Value.int .u64 _
  congr 1
  rw [this]
  split <;> split <;> omega
theorem Q_minI {a b : Int} {ts : Array TypeId} (hx : E.ev x = some (.int .i64 a)) (hy : E.ev y = some (.int .i64 b)) : OpQ P n w0 ⟨d, .call ⟨.builtin .min, #[x, y], ts⟩, ty, pos, after, gu⟩ E H (.int .i64 (min a b)) := fun ac w s hs => by
  rw [Q_min (P := P) (n := n) (w0 := w0) (H := H) hx hy ac w s hs]
  have : (if b < a then b else a) = min a b := by omega
  rw [this]
theorem Q_maxI {a b : Int} {ts : Array TypeId} (hx : E.ev x = some (.int .i64 a)) (hy : E.ev y = some (.int .i64 b)) : OpQ P n w0 ⟨d, .call ⟨.builtin .max, #[x, y], ts⟩, ty, pos, after, gu⟩ E H (.int .i64 (max a b)) := fun ac w s hs => by
  rw [Q_max (P := P) (n := n) (w0 := w0) (H := H) hx hy ac w s hs]
  have : (if b > a then b else a) = max a b := by omega
  rw [this]
/-- A string is a list of bytes. -/
@[reducible] def strV (l : List UInt8) : Value := .string ⟨l.toArray⟩
theorem Q_lenS {t : TypeId} {l : List UInt8} (hx : E.ev x = some (strV l)) (ht : Und P t .string) : OpQ P n w0 ⟨d, .call ⟨.builtin .len, #[x], #[t]⟩, ty, pos, after, gu⟩ E H (.int .i64 (l.length : Int)) := Q_len_str hx ht
theorem Q_conv32 {src t : TypeId} {v : Value} {a : UInt64} {ds : TypeDesc} (hx : E.ev x = some v) (hv : AsU64 v a) (hs : Und P src ds) (hd : Und P t (.int .u32)) : OpQ P n w0 ⟨d, .convert src t x, ty, pos, after, gu⟩ E H (u32 a.toUInt32) := by
  obtain ⟨rfl⟩ := hv
  exact Q_convI hx hs hd (by rw [wrap_u32]; simp)
theorem Q_conv64 {src t : TypeId} {v : Value} {a : UInt32} {ds : TypeDesc} (hx : E.ev x = some v) (hv : AsU32 v a) (hs : Und P src ds) (hd : Und P t (.int .u64)) : OpQ P n w0 ⟨d, .convert src t x, ty, pos, after, gu⟩ E H (u64 a.toUInt64) := by
  obtain ⟨rfl⟩ := hv
  exact Q_convI hx hs hd (by have := a.toNat_lt; rw [wrap_u64]; simp; omega)
end
end Go.Proofs.Ytapoehkdnglahaa
