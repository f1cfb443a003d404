/- Records and requests as keys of maps. -/
import Derived.Test.YtapoehkdnglahaaJouR
import Derived.Test.YtapoehkdnglahaaMapR
namespace Go.Proofs.Ytapoehkdnglahaa
open Go.RowKit
set_option linter.unusedVariables false
set_option linter.unusedSimpArgs false
theorem find_ask {P : Program} {κ ν : Type} [DecidableEq κ] {fk : κ → Value} {fv : ν → Value} {kt : TypeId} (heq : ∀ a b w, (Op.equal kt (fk a) (fk b)).run P w = .ok (decide (a = b)) w) (k : κ) (w : World) : ∀ (m : List (κ × ν)) (es : List MapEntry) (i : Nat), es.map (fun e => (e.key, e.val)) = m.map (fun p => (fk p.1, fv p.2)) →
    (Instr.findAsking kt (fk k) es i).run P w = .ok ((mfind m k).bind fun j => (m[j]?).map fun p => (i + j, fv p.2)) w
  | [], es, i, h => by
    have : es = [] := by simpa using h
    subst this; rfl
  | p :: m, [], i, h => by simp at h
  | p :: m, e :: es, i, h => by
    simp only [List.map_cons, List.cons.injEq, Prod.mk.injEq] at h
    obtain ⟨⟨h1, h2⟩, h3⟩ := h
    have ih := find_ask heq k w m es (i + 1) h3
    simp only [Instr.findAsking, h1, Sem.run_bind, heq, Result.andThen_ok]
    by_cases he : k = p.1
    · subst he
      simp [mfind, h2]
    · rw [decide_eq_false he]
      simp only [Bool.false_eq_true, if_false, ih, mfind, Ne.symm he]
      cases mfind m k with
      | none => rfl
      | some j => simp [Nat.add_assoc, Nat.add_comm 1 j]
theorem keyT_agg {P : Program} {κ : Type} {fk : κ → Value} {kt : TypeId} {fs : Array Field} (hu : P.underlying kt = some (.struct fs)) (heq : ∀ (d : DecidableEq κ) a b w, (Op.equal kt (fk a) (fk b)).run P w = .ok (decide (a = b)) w)
    (hc : ∀ (empty : Bool) (k : κ) (w : World), (Instr.checkKey empty 10000 kt (fk k)).run P w = .ok () w) (hs : ∀ k : κ, Instr.sameBits 10000 (fk k) (fk k) = true) : KeyT P kt fk where
  check := hc
  same := hs
  find := fun {_} {ν} fv m k es w h => by
    have := find_ask (fk := fk) (fv := fv) (heq inferInstance) k w m es 0 h
    cases es with
    | nil =>
      have hm : m = [] := by simpa using h.symm
      subst hm
      simp [Instr.findKey, run_underlying hu, Instr.findNow, mfind]
    | cons e es =>
      simp only [Instr.findKey, Sem.run_bind, run_underlying hu, Result.andThen_ok]
      have e0 : Instr.findNow (.struct fs) (fk k) (e :: es) 0 = none := by simp [Instr.findNow, Instr.sameNow]
      rw [e0]
      simp only [this, Nat.zero_add]
theorem check_b (empty : Bool) (n : Nat) (o : Bool) (w : World) : (Instr.checkKey empty (n + 1) 4 (.bool o)).run Try.prog w = .ok () w := by
  have u1 := Try.underlying4
  unfold Instr.checkKey
  go_simp
theorem check_u (empty : Bool) (n : Nat) (x : Int) (w : World) : (Instr.checkKey empty (n + 1) 26 (.int .u32 x)).run Try.prog w = .ok () w := by
  have u1 := Try.underlying26
  unfold Instr.checkKey
  go_simp
theorem rec_check (empty : Bool) (o : Bool) (x y : Int) (w : World) : (Instr.checkKey empty 10000 28 (.agg #[.bool o, .int .u32 x, .int .u32 y])).run Try.prog w = .ok () w := by
  have u4 := Try.underlying26
  have u1 := Try.underlying4
  have hS := Try.underlying28
  have c1 := check_b empty 9998 o
  have c2 := check_u empty 9998
  rw [show (10000 : Nat) = 9999 + 1 from rfl]
  unfold Instr.checkKey
  go_simp
theorem rec_eql (o o' : Bool) (x y x' y' : Int) (w : World) :
    (Op.equal 28 (.agg #[.bool o, .int .u32 x, .int .u32 y]) (.agg #[.bool o', .int .u32 x', .int .u32 y'])).run Try.prog w = .ok (o == o' && (x == x' && y == y')) w := by
  have u4 := Try.underlying26
  have u1 := Try.underlying4
  have hS : Try.prog.underlying 28 = some (.struct (Try.prog.fieldsOf 28)) := by kernel_rfl
  have hp : Try.prog.stoodInHeld 28 = false := by kernel_rfl
  rw [show Op.equal 28 = Op.equalIn (9999 + 1) 28 from rfl, run_equalIn_agg w 9999 28 _ _ hS hp]
  simp only [Program.fieldsOf, Try.underlying28]
  by_cases h0 : o = o' <;> by_cases h1 : x = x' <;> by_cases h2 : y = y' <;> go_simp
@[reducible] def keyV (r : Rec) : Value := .agg r.cells.toArray
instance : KeyT Try.prog 28 keyV := keyT_agg (fs := Try.prog.fieldsOf 28) (by kernel_rfl) (fun _ a b w => by
    have h := rec_eql a.own b.own (a.addr.toNat : Int) (a.seq.toNat : Int) (b.addr.toNat : Int) (b.seq.toNat : Int) w
    have e : (a.own == b.own && (((a.addr.toNat : Int) == (b.addr.toNat : Int)) && ((a.seq.toNat : Int) == (b.seq.toNat : Int)))) = decide (a = b) := by
      rw [Bool.eq_iff_iff]
      simp only [Bool.and_eq_true, beq_iff_eq, decide_eq_true_eq]
      constructor
      · intro ⟨h0, h1, h2⟩
        have e1 : a.addr = b.addr := UInt32.toNat_inj.1 (by omega)
        have e2 : a.seq = b.seq := UInt32.toNat_inj.1 (by omega)
        cases a; cases b; simp_all
      · rintro rfl; exact ⟨rfl, rfl, rfl⟩
    rw [e] at h
    exact h) (fun empty k w => rec_check empty k.own _ _ w) (fun k => by
    show Instr.sameBits (9999 + 1) (.agg #[.bool k.own, u32 k.addr, u32 k.seq]) (.agg #[.bool k.own, u32 k.addr, u32 k.seq]) = true
    simp [Instr.sameBits, u32])
instance (o : Bool) (v1 v2 : Value) (a b : UInt32) [h1 : AsU32 v1 a] [h2 : AsU32 v2 b] : AsKey keyV (.agg #[.bool o, v1, v2]) ⟨o, a, b⟩ := ⟨by rw [h1.eq, h2.eq]; rfl⟩
instance (k : Rec) : AsKey keyV (.agg k.cells.toArray) k := ⟨rfl⟩
end Go.Proofs.Ytapoehkdnglahaa
