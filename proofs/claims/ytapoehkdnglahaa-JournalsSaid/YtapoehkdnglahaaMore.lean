/- Shifts, bytes out of words, literals appended. No program in sight. -/
import Derived.Test.YtapoehkdnglahaaMap
namespace Go.Proofs.Ytapoehkdnglahaa
open Go.RowKit
set_option linter.unusedVariables false
set_option linter.unusedSimpArgs false
variable {P : Program} {n : Frm} {w0 : World} {E : Env} {D : List Deferred} {H F F2 R : HProp}
section
variable {t : TypeId} {v u : Value}
theorem shr32 {x : UInt32} {q : IntKind} (k : Nat) (kk : UInt32) (h : kk.toNat = k) (hk : k < 32) : BinV P .shr t (u32 x) (.int q (k : Int)) (u32 (x >>> kk)) := by
  refine ⟨fun w => ?_, fun w _ _ => guard_int _ _ _ _ _ _ _ _ _⟩
  have hp : ((2 : Int) ^ k) = ((2 ^ k : Nat) : Int) := by simp
  have e : u32 (x >>> kk) = .int .u32 (((x.toNat : Int)).fdiv (2 ^ k)) := by
    refine (ofNat_u32 ?_).symm
    rw [UInt32.toNat_shiftRight, h, Nat.mod_eq_of_lt hk, Nat.shiftRight_eq_div_pow, hp, Int.fdiv_eq_ediv_of_nonneg _ (Int.natCast_nonneg _)]
    rfl
  rw [e]
  have h0 : ¬ ((k : Int) < 0) := by omega
  have hm : min k 32 = k := by omega
  show (Op.shift .shr .u32 (x.toNat : Int) q (k : Int)).run P w = _
  unfold Op.shift
  rw [if_neg h0]
  show Result.ok (Value.int .u32 ((x.toNat : Int).fdiv (2 ^ min (k : Int).toNat 32))) w = _
  rw [Int.toNat_natCast, hm]
instance {x : UInt32} : BinV P .shr t (u32 x) (.int .u64 24) (u32 (x >>> 24)) := shr32 24 24 rfl (by decide)
instance {x : UInt32} : BinV P .shr t (u32 x) (.int .u64 16) (u32 (x >>> 16)) := shr32 16 16 rfl (by decide)
instance {x : UInt32} : BinV P .shr t (u32 x) (.int .u64 8) (u32 (x >>> 8)) := shr32 8 8 rfl (by decide)
instance {x : UInt32} : BinV P .shr t (u32 x) (.int .u64 1) (u32 (x >>> 1)) := shr32 1 1 rfl (by decide)
end
theorem be_shr (x : UInt32) : be x = [(x >>> 24).toUInt8, (x >>> 16).toUInt8, (x >>> 8).toUInt8, x.toUInt8] := by
  have hx := x.toNat_lt
  have e : ∀ (k : Nat) (a : Nat) (kk : UInt32), kk.toNat = k → k < 32 → a % 256 = x.toNat / 2 ^ k % 256 → UInt8.ofNat a = (x >>> kk).toUInt8 := fun k a kk h1 h2 h => by
    rw [← UInt8.toNat_inj]
    simp only [UInt8.toNat_ofNat', UInt32.toNat_toUInt8, UInt32.toNat_shiftRight, h1, Nat.mod_eq_of_lt h2, Nat.shiftRight_eq_div_pow]
    exact h
  unfold be
  congr 1
  · exact e 24 _ 24 rfl (by decide) rfl
  · congr 1
    · exact e 16 _ 16 rfl (by decide) (by simp)
    · congr 1
      · exact e 8 _ 8 rfl (by decide) (by simp)
      · congr 1
        rw [← UInt8.toNat_inj]; simp
/-- Cells that are a list of bytes. -/
class Bytes (cs : List Value) (l : outParam (List UInt8)) : Prop where eq : cs = l.flatMap byteC
instance : Bytes [] [] := ⟨rfl⟩
instance (z : List Value) : Bytes (List.append [] (zeroRow z 0)) [] := ⟨rfl⟩
instance (v : Value) (cs : List Value) (b : UInt8) (l : List UInt8) [h : AsU8 v b] [h2 : Bytes cs l] : Bytes (v :: cs) (b :: l) := ⟨by rw [h.eq, h2.eq]; rfl⟩
section
variable {d : Option Tmp} {ty : TypeId} {pos : String} {after : Array Edge} {gu : Option (Nat × Bool)} {x y : Operand}
theorem Q_conv32_8 {src t : TypeId} {v : Value} {a : UInt32} {ds : TypeDesc} (hx : E.ev x = some v) (hv : AsU32 v a) (hs : Und P src ds) (hd : Und P t (.int .u8)) : OpQ P n w0 ⟨d, .convert src t x, ty, pos, after, gu⟩ E H (u8 a.toUInt8) := by
  obtain ⟨rfl⟩ := hv
  exact Q_convI hx hs hd (by have := a.toNat_lt; rw [wrap_u8]; simp)
/-- A literal of an array. -/
theorem Q_buildA {t e : TypeId} {len size : Nat} {parts : List (Nat × Operand)} {vs : List (Nat × Value)} {z : Value} {zs cs : List Value} (ht : Und P t (.array len e)) (hs : Siz P e size) (hz : Zero P t z zs) (hv : E.partsV parts = some vs) (hb : bsL size zs vs = some cs) :
    OpQ P n w0 ⟨d, .build t parts.toArray, ty, pos, after, gu⟩ E H (.agg cs.toArray) := fun a w s hs' => by
  obtain ⟨it, hit, hit2⟩ := Option.map_eq_some_iff.1 hz.eq
  obtain ⟨ie, hie, his⟩ := Option.map_eq_some_iff.1 hs.eq
  have e1 := s.partsV hv
  have e2 : (parts.toArray.map fun (i, x) => (i, a.eval x)).toList = vs := by simpa using e1
  have h := run_build (P := P) w t (parts.toArray.map fun (i, x) => (i, a.eval x)) cs.toArray (by
    rw [e2]
    simp only [Program.built, hit, ht.eq, hit2, hie, his]
    rw [cellsL_eq, hz.cells]
    exact fill_bs size vs zs cs hb)
  simp only [execOp, Sem.run_bind, h, Result.andThen_ok, Sem.run_pure]
theorem OpH.weak {o : Oper} {α β : Type} {v : α → Value} {post : α → HProp} {v' : β → Value} {post' : β → HProp} (h : OpH P n w0 o E H v post) (hw : ∀ x, ∃ y, v x = v' y ∧ Ent (post x) (post' y)) : OpH P n w0 o E H v' post' := by
  obtain ⟨pre, post0, F, hT, hH, he⟩ := h
  refine ⟨H, post', emp, fun G a w K Q s hs hK => ?_, star_emp.symm, fun _ => star_emp.symm⟩
  refine hT (F * G) a w K Q s (hs.cast (by rw [hH, star_assoc])) fun x w' hs' => ?_
  obtain ⟨y, e1, e2⟩ := hw x
  rw [e1]
  refine hK y w' ((Ent.star e2 (Ent.refl G)).sat (hs'.cast (by rw [he, star_assoc])))
/-- A literal of bytes, as a slice of data. -/
theorem H_buildB {t e : TypeId} {len : Nat} {parts : List (Nat × Operand)} {vs : List (Nat × Value)} {zs cs : List Value} {ys : List UInt8} (ht : Und P t (.slice e)) (hz : Zero P e (u8 0) zs) (hs : Siz P e 1) (hl : Nat.beq zs.length 1 = true) (hsm : Nat.ble (len * 1) 16777216 = true) (hpos : Nat.blt 0 (len * 1) = true) (hv : E.partsV parts = some vs) (hb : bsL 1 (zeroRow zs len) vs = some cs) (hc : Bytes cs ys) (hm : ys.length = len) (hmax : Nat.ble len 1000000 = true) :
    OpH P n w0 ⟨d, .buildSlice t len parts.toArray, ty, pos, after, gu⟩ E H (fun v' : Value => v') (fun v' => rows e 1 byteC v' ys * H) :=
  (H_buildSlice ht hz hs hl hsm hpos hv hb).weak fun g => ⟨_, rfl, Ent.rows_new ys hc.eq hm (Nat.le_of_ble_eq_true hmax)⟩
/-- All elements of a slice that is not used further. -/
theorem H_appendD {α : Type} {t e : TypeId} {size bytes : Nat} {f f' : α → List Value} {v u : Value} {l ys : List α} (hx : E.ev x = some v) (hy : E.ev y = some u) (hl : RowsOf H v α e size f l F) (hl2 : RowsOf F u α e size f' ys F2) (hff : f' = f) (hT : SlTC P t e size bytes) (hf : FixLen f size) (h1 : ∀ z, ∀ c ∈ f z, c.oneCell' = true) (hn : l.length + ys.length ≤ 1000000) (hby : Nat.ble bytes 1000 = true) :
    OpH P n w0 ⟨d, .call ⟨.builtin .append, #[x, y], #[t, t]⟩, ty, pos, after, gu⟩ E H (fun v' : Value => v') (fun v' => rows e size f v' (l ++ ys) * F2) :=
  (H_appendR hx hy hl hl2 hff hT hf h1 hn hby).weak fun v' => ⟨v', rfl, Ent.star (Ent.refl _) (Ent.drop _ _)⟩
/-- A literal's bytes appended. -/
theorem H_appendB {v : Value} {e t : TypeId} {bytes : Nat} {l ys : List UInt8} {f : UInt8 → List Value} {g m c : Nat} {cs : List Value} (hx : E.ev x = some v) (hy : E.ev y = some (.slice (some ⟨g, 0, none⟩) m c)) (hl : RowsOf H v UInt8 e 1 f l F) (hb : LimbB F g e cs F2) (hc : Bytes cs ys) (hff : f = byteC) (hm : ys.length = m) (hT : SlTC P t e 1 bytes) (hn : l.length + ys.length ≤ 1000000) (hby : Nat.ble bytes 1000 = true) :
    OpH P n w0 ⟨d, .call ⟨.builtin .append, #[x, y], #[t, t]⟩, ty, pos, after, gu⟩ E H (fun v' : Value => v') (fun v' => rows e 1 byteC v' (l ++ ys) * F2) := by
  subst hff
  refine ⟨rows e 1 byteC v l * cel g e cs, fun v' => rows e 1 byteC v' (l ++ ys), F2, ?_, by rw [hl.eq, hb.eq, star_assoc], fun _ => rfl⟩
  intro G a w K Q s hs hK
  refine T_append ys (cel g e cs) hx (hm ▸ hy) hT.out (.inl hT.out.ht) inferInstance byteC_one (fun w G hs => ?_) hn (Nat.le_of_ble_eq_true hby) G a w K Q s hs fun v' w' hs' => hK v' w' ?_
  · refine Src.slice 1 _ c _ _ (by rw [byteC_flat]; simp [u8s]) fun j u hu => ?_
    rw [add_lit, Nat.zero_add, Sat.cell hs.p2, hc.eq]
    simpa using hu
  · rw [star_assoc] at hs'
    exact hs'.d2
/-- A literal's bytes as a string. -/
theorem Q_bytesS {t t' e e' : TypeId} {g m c : Nat} {cs : List Value} {ys : List UInt8} (hx : E.ev x = some (.slice (some ⟨g, 0, none⟩) m c)) (hb : LimbB H g e' cs F) (hc : Bytes cs ys) (hm : ys.length = m) (hs : Und P t (.slice e)) (he : Und P e (.int .u8)) (hd : Und P t' .string) : OpQ P n w0 ⟨d, .convert t t' x, ty, pos, after, gu⟩ E H (strV ys) := fun a w s hs' => by
  have h := conv_bytes (P := P) (w := w) (some ⟨g, 0, none⟩) c g 0 ys hs he hd (fun _ => rfl) (fun j u hu => by
    rw [Nat.zero_add, Sat.cell (hs'.cast hb.eq), hc.eq, byteC_flat]
    simpa using hu)
  simp only [execOp, s.ev hx, ← hm, Sem.run_bind, h, Result.andThen_ok, Sem.run_pure]
/-- A call that takes one slice. -/
theorem H_callR {f : FuncId} {args : List Value} {α β : Type} {e : TypeId} {size : Nat} {fc : β → List Value} {v : Value} {l : List β} {res : α → Value} {post : α → HProp} {xs : List Operand} {ts : Array TypeId} (hf : IsFun P f) (hargs : E.evs xs = some args) (spec : Spec P w0 f args (rows e size fc v l) res post) (hl : RowsOf H v β e size fc l F) :
    OpH P n w0 ⟨d, .call ⟨.value (.func f), xs.toArray, ts⟩, ty, pos, after, gu⟩ E H res (fun x => post x * F) := OpH.mk' (T_call hf hargs spec) hl.eq
/-- A list in another order. -/
class Nth (l : List Oper) (i : Nat) (o : outParam Oper) : Prop where eq : l[i]? = some o
instance nth_zero (o : Oper) (l : List Oper) : Nth (o :: l) 0 o := ⟨rfl⟩
instance nth_succ (a o : Oper) (l : List Oper) (i : Nat) [h : Nth l i o] : Nth (a :: l) (i + 1) o := ⟨h.eq⟩
class Perm (l : List Oper) (idx : List Nat) (l' : outParam (List Oper)) : Prop where eq : idx.map (l[·]?) = l'.map some
instance perm_nil (l : List Oper) : Perm l [] [] := ⟨rfl⟩
instance perm_cons (l l' : List Oper) (i : Nat) (r : List Nat) (o : Oper) [h : Nth l i o] [h2 : Perm l r l'] : Perm l (i :: r) (o :: l') := ⟨by simp only [List.map_cons, h.eq, h2.eq]⟩
/-- A region that draws, in an order that reads all before the first effect. -/
theorem WS_drawI {Q : Exit → St → Prop} {l l' : List Oper} {id : Nat} (idx : List Nat) (cp : Nat) (hs : statD P l idx (fun k => Nat.blt k cp) cp = true) (hl : Perm l idx l') (h : DL P n w0 l.toArray Q D emp H (fun k => Nat.blt k cp) cp 0 false l' E emp) : WS P n w0 (.region id l.toArray true) Q ⟨E, D, H⟩ :=
  WS_draw idx l' emp H emp _ cp hs (by rw [star_emp, emp_star]) hl.eq h
/-- An assertion that stands somewhere in another. -/
class Own (H X : HProp) (F : outParam HProp) : Prop where eq : H = X * F
instance own_head (X F : HProp) : Own (X * F) X F := ⟨rfl⟩
instance (priority := low) own_tail (Y X H F : HProp) [h : Own H X F] : Own (Y * H) X (Y * F) := ⟨by rw [h.eq, star_left_comm]⟩
instance (priority := low) own_left (Y X H F : HProp) [h : Own Y X F] : Own (Y * H) X (F * H) := ⟨by rw [h.eq, star_assoc]⟩
instance own_self (X : HProp) : Own X X emp := ⟨star_emp.symm⟩
instance (priority := low) own_emp (H : HProp) : Own H emp H := ⟨emp_star.symm⟩
theorem DL_nilE {ops : Array Oper} {Q : Exit → St → Prop} {B : Nat → Bool} {k cp : Nat} (h : Q .normal ⟨E, D, R * F⟩) : DL P n w0 ops Q D R emp B cp k false [] E F := .nil (by simp only [hp, cond_false]; rw [emp_star]) h
/-- A region that draws: R is only read, F is not read outside the effects. -/
theorem WS_drawR {Q : Exit → St → Prop} {l : List Oper} {id : Nat} (R : HProp) (hs : statD P l (List.range l.length) (fun _ => false) 1000 = true) (hl : Own H R F) (h : DL P n w0 l.toArray Q D R emp (fun _ => false) 1000 0 false l E F) : WS P n w0 (.region id l.toArray true) Q ⟨E, D, H⟩ :=
  WS_drawT R emp F (fun _ => false) 1000 hs (by rw [emp_star, hl.eq]) h
/-- The same, with a block that is only read. -/
theorem WS_drawC {Q : Exit → St → Prop} {l l' : List Oper} {id g : Nat} {t : TypeId} {cs : List Value} (idx : List Nat) (hs : statD P l idx (fun _ => false) 1000 = true) (hl : Perm l idx l') (h : DL P n w0 l.toArray Q D (cel g t cs) emp (fun _ => false) 1000 0 false l' E F) : WS P n w0 (.region id l.toArray true) Q ⟨E, D, cel g t cs * F⟩ :=
  WS_draw idx l' (cel g t cs) emp F _ 1000 hs (by rw [emp_star]) hl.eq h
theorem WS_drawRI {Q : Exit → St → Prop} {l l' : List Oper} {id : Nat} (R : HProp) (idx : List Nat) (hs : statD P l idx (fun _ => false) 1000 = true) (hl : Perm l idx l') (hR : Own H R F) (h : DL P n w0 l.toArray Q D R emp (fun _ => false) 1000 0 false l' E F) : WS P n w0 (.region id l.toArray true) Q ⟨E, D, H⟩ :=
  WS_draw idx l' R emp F _ 1000 hs (by rw [emp_star, hR.eq]) hl.eq h
/-- The block that slot t points to is only read; all that floats stands ahead of the effects. -/
theorem WS_drawL {Q : Exit → St → Prop} {l l' : List Oper} {id g off : Nat} {bt : TypeId} {cs : List Value} (t : Nat) (idx : List Nat) (hs : statD P l idx (fun _ => false) 1000 = true) (hl : Perm l idx l') (hx : E.get t = some (ptr g off)) (hR : LimbB H g bt cs F) (h : DL P n w0 l.toArray Q D (cel g bt cs) emp (fun _ => false) 1000 0 false l' E F) : WS P n w0 (.region id l.toArray true) Q ⟨E, D, H⟩ :=
  WS_draw idx l' (cel g bt cs) emp F _ 1000 hs (by rw [emp_star, hR.eq]) hl.eq h
theorem Ent.take {X F' : HProp} [h : Own H X F] (r : Ent F F') : Ent H (X * F') := by rw [h.eq]; exact Ent.tail _ r
theorem Ent.takeR {α : Type} {e : TypeId} {size : Nat} {f : α → List Value} {v : Value} {l l' : List α} {F' : HProp} [h : RowsOf H v α e size f l F] (hl : l = l') (r : Ent F F') : Ent H (rows e size f v l' * F') := by rw [h.eq, hl]; exact Ent.tail _ r
theorem Ent.last {X : HProp} [h : Own H X F] : Ent H X := by rw [h.eq, star_comm]; exact Ent.drop _ _
theorem H_callX {f : FuncId} {args : List Value} {α : Type} {X : HProp} {res : α → Value} {post : α → HProp} {xs : List Operand} {ts : Array TypeId} (hf : IsFun P f) (hargs : E.evs xs = some args) (spec : Spec P w0 f args X res post) (hl : Own H X F) :
    OpH P n w0 ⟨d, .call ⟨.value (.func f), xs.toArray, ts⟩, ty, pos, after, gu⟩ E H res (fun x => post x * F) := OpH.mk' (T_call hf hargs spec) hl.eq
end
/-! ### Results -/
def readR (r : ResultVar) (a : Act) : Sem Value := match r with
  | .tmp t => pure (a.tmps.getD t undef)
  | .cell b t => do loadVar t (← asAddr (a.tmps.getD b undef))
def RV (P : Program) (n : Frm) (w0 : World) (E : Env) (H : HProp) (r : ResultVar) (v : Value) : Prop := ∀ a w, Sees n E a → Sat w0 w H → (readR r a).run P w = .ok v w
theorem RV_tmp {t : Nat} {v : Value} (h : E.get t = some v) : RV P n w0 E H (.tmp t) v := fun a w s hs => by
  show Result.ok (a.tmps.getD t undef) w = _
  rw [s.get t v h]
theorem RV_cell {b g off size : Nat} {t bt : TypeId} {cs vs : List Value} (hx : E.get b = some (ptr g off)) (hl : LimbB H g bt cs F) (ht : Aggr P t size) (hv : takeL cs off size = some vs) : RV P n w0 E H (.cell b t) (.agg vs.toArray) := fun a w s hs => by
  obtain ⟨hle, hvs⟩ := takeL_eq hv
  have hlen : vs.length = size := by rw [hvs]; simp; omega
  have hc : ∀ j u, vs[j]? = some u → w.cell? ((⟨g, off, none⟩ : Addr).add j) = some u := fun j u hu => by
    have hj : j < size := by rw [← hlen]; exact (List.getElem?_eq_some_iff.1 hu).1
    rw [add_lit, Sat.cell (hs.cast hl.eq)]
    rw [hvs, List.getElem?_take, if_pos hj, List.getElem?_drop] at hu
    simpa using hu
  have hd := ht.ok
  obtain ⟨dd, hdd⟩ : ∃ dd, P.underlying t = some dd := by
    cases hu : P.underlying t with
    | none => rw [hu] at hd; cases hd
    | some dd => exact ⟨dd, rfl⟩
  rw [hdd] at hd
  have hagg : (isAgg t).run P w = .ok true w := by
    simp only [isAgg, Sem.run_bind, run_underlying hdd, Result.andThen_ok]
    cases dd <;> simp_all [aggD]
  obtain ⟨i, hi, hi2⟩ := Option.map_eq_some_iff.1 ht.size
  have hz : (sizeOf t).run P w = .ok size w := by simp [sizeOf, typeInfo, hi, hi2]
  have hr := run_loadCells_list (P := P) (w := w) ⟨g, off, none⟩ vs hc
  rw [hlen] at hr
  show (do loadVar t (← asAddr (a.tmps.getD b undef)) : Sem Value).run P w = _
  rw [s.get b _ hx]
  simp [asAddr, loadVar, hagg, hz, hr]
theorem RV_cellS {b g off : Nat} {t bt : TypeId} {cs : List Value} {v : Value} (hx : E.get b = some (ptr g off)) (hl : LimbB H g bt cs F) (ht : Scal P t) (hv : getL cs off = some v) : RV P n w0 E H (.cell b t) v := fun a w s hs => by
  have h := Q_load (P := P) (n := n) (w0 := w0) (H := H) (x := .tmp b) (d := none) (ty := 0) (pos := "") (after := #[]) (gu := none) (t := t) hx hl ht hv a w s hs
  show (do loadVar t (← asAddr (a.tmps.getD b undef)) : Sem Value).run P w = _
  rw [s.get b _ hx]
  have he : a.eval (.tmp b) = ptr g off := s.get b _ hx
  simp only [execOp, he, Instr.loadAt, Instr.sureAddr, Sem.run_bind, Sem.run_pure, Result.andThen_ok] at h
  cases hr : (loadVar t ⟨g, off, none⟩).run P w with
  | ok u w' =>
    rw [hr] at h
    simp only [Result.andThen_ok, Sem.run_pure] at h
    cases h
    simp [asAddr, hr]
  | halt x w' => rw [hr] at h; cases h
theorem results_1 {fn : Func} {r : ResultVar} {a : Act} {w : World} {v : Value} (hr : fn.results = #[r]) (h : (readR r a).run P w = .ok v w) : (results fn a.tmps).run P w = .ok v w := by
  have e : results fn a.tmps = readR r a := by
    unfold results; rw [hr]
    cases r <;> simp [readR]
  rw [e, h]
theorem results_2 {fn : Func} {r r2 : ResultVar} {a : Act} {w : World} {v v2 : Value} (hr : fn.results = #[r, r2]) (h : (readR r a).run P w = .ok v w) (h2 : (readR r2 a).run P w = .ok v2 w) : (results fn a.tmps).run P w = .ok (.tuple #[v, v2]) w := by
  have e : results fn a.tmps = (do let v ← readR r a; let v2 ← readR r2 a; pure (.tuple #[v, v2])) := by
    unfold results; rw [hr]
    cases r <;> cases r2 <;> simp [readR]
  rw [e]
  simp only [Sem.run_bind, h, h2, Result.andThen_ok, Sem.run_pure]
theorem results_3 {fn : Func} {r r2 r3 : ResultVar} {a : Act} {w : World} {v v2 v3 : Value} (hr : fn.results = #[r, r2, r3]) (h : (readR r a).run P w = .ok v w) (h2 : (readR r2 a).run P w = .ok v2 w) (h3 : (readR r3 a).run P w = .ok v3 w) : (results fn a.tmps).run P w = .ok (.tuple #[v, v2, v3]) w := by
  have e : results fn a.tmps = (do let v ← readR r a; let v2 ← readR r2 a; let v3 ← readR r3 a; pure (.tuple #[v, v2, v3])) := by
    unfold results; rw [hr]
    cases r <;> cases r2 <;> cases r3 <;> simp [readR]
  rw [e]
  simp only [Sem.run_bind, h, h2, h3, Result.andThen_ok, Sem.run_pure]
section
variable {fn : Func} {R : Value → HProp → Prop} {r r2 r3 : ResultVar} {v v2 v3 : Value}
theorem ret_1 {e : Exit} (he : e = .ret ∨ e = .normal) (hr : fn.results = #[r]) (h1 : RV P n w0 E H r v) (h : R v H) : retS P n w0 fn R e ⟨E, [], H⟩ := by
  rcases he with rfl | rfl <;> exact ⟨rfl, v, fun a w g => results_1 hr (h1 a w g.sees g.sat), h⟩
theorem ret_2 {e : Exit} (he : e = .ret ∨ e = .normal) (hr : fn.results = #[r, r2]) (h1 : RV P n w0 E H r v) (h2 : RV P n w0 E H r2 v2) (h : R (.tuple #[v, v2]) H) : retS P n w0 fn R e ⟨E, [], H⟩ := by
  rcases he with rfl | rfl <;> exact ⟨rfl, _, fun a w g => results_2 hr (h1 a w g.sees g.sat) (h2 a w g.sees g.sat), h⟩
theorem ret_3 {e : Exit} (he : e = .ret ∨ e = .normal) (hr : fn.results = #[r, r2, r3]) (h1 : RV P n w0 E H r v) (h2 : RV P n w0 E H r2 v2) (h3 : RV P n w0 E H r3 v3) (h : R (.tuple #[v, v2, v3]) H) : retS P n w0 fn R e ⟨E, [], H⟩ := by
  rcases he with rfl | rfl <;> exact ⟨rfl, _, fun a w g => results_3 hr (h1 a w g.sees g.sat) (h2 a w g.sees g.sat) (h3 a w g.sees g.sat), h⟩
end
/-- A nil slice can be read. -/
theorem rdr_nil (H : HProp) {α : Type} (size : Nat) (f : α → List Value) : Rdr w0 H (.slice none 0 0) α size f [] := ⟨fun w hs => ⟨⟨none, 0, rfl, Nat.zero_le _, Nat.zero_le _⟩, fun k hk => by simp at hk⟩⟩
end Go.Proofs.Ytapoehkdnglahaa
