/- A part of what Arrives needs. -/
import Derived.Test.YtapoehkdnglahabGreatArrivesGf
set_option maxHeartbeats 8000000
set_option linter.unusedVariables false
set_option linter.unusedSimpArgs false
set_option linter.unusedSectionVars false
namespace Go.Proofs.YtapoehkdnglahabGreat
section
open Go.RowKit
attribute [local irreducible] WS LS OpQ OpT OpH OpTQ Spec SpecQ cel
variable (w0 : World)
set_option maxRecDepth 100000 in
theorem equal_spec (l m : List UInt8) (hl : l.length ≤ 1000000) (v u : Value) (X : HProp) [hX : Rdr w0 X v UInt8 1 byteC l] [hY : Rdr w0 X u UInt8 1 byteC m] : Spec Tryz.prog w0 112 [v, u] X (fun _ : Unit => .bool (decide (l = m))) (fun _ => X) := by
  refine Spec.enter Tryz.func112 rfl Tryz.ntmps112 rfl fun G => ?_
  simp only [argE]
  repeat' (first | (refine WS_seqK ?_; intro K hK) | (refine hK _ ?_; clear hK K) | refine stZ ?_ | (refine s2Z ?_ ?_ <;> intro hc <;> (try simp only [cS] at hc) <;> (try (exfalso; first | contradiction | omega))) | refine sqZ ?_ | ((first | refine LS_binS rfl rfl iI rfl ?_ ?_ | refine LS_binN rfl rfl iI rfl ?_ ?_ | refine DL_binS rfl rfl iI rfl ?_ ?_) <;> intro hc))
  rotate_left
  · refine ret_tmp (.inl rfl) rfl rfl ⟨(), ?_, Ent.take Ent.last⟩
    rw [decide_eq_false]; rintro rfl; exact hc rfl
  refine WS_loop (fun k τ => ∃ j, j + k = l.length ∧ l.take j = m.take j ∧ τ = ⟨[(13, .int .i64 (j : Int)), (12, .int .i64 (l.length : Int)), (0, v), (1, u)], [], X * G⟩) ?_ ?_
  · exact ⟨l.length, _, ⟨0, by omega, rfl, rfl⟩, ⟨rfl, rfl, rfl, rfl, trivial⟩, rfl, Ent.refl _⟩
  · rintro k τ ⟨j, hjk, hj, rfl⟩
    rcases Nat.lt_or_ge j l.length with hlt | hge
    · obtain ⟨z, hz⟩ : ∃ z, l[j]? = some z := ⟨_, List.getElem?_eq_getElem hlt⟩
      have hlt2 : j < m.length := by omega
      obtain ⟨z', hz'⟩ : ∃ z, m[j]? = some z := ⟨_, List.getElem?_eq_getElem hlt2⟩
      repeat' (first | (show WS _ _ _ (.region 6 _ true) _ _; refine WS_drawA (.range 9) (by decide +kernel) rfl ?_) | (refine WS_seqK ?_; intro K hK) | (refine hK _ ?_; clear hK K) | refine stZ ?_ | (refine s2Z ?_ ?_ <;> intro hc <;> (try simp only [cS] at hc) <;> (try (exfalso; first | contradiction | omega))) | refine sbZ ?_ | refine sqZ ?_ | ((first | refine LS_binS rfl rfl iI rfl ?_ ?_ | refine LS_binN rfl rfl iI rfl ?_ ?_ | refine DL_binS rfl rfl iI rfl ?_ ?_) <;> intro hc))
      · refine ret_tmp (.inl rfl) rfl rfl ⟨(), ?_, Ent.take Ent.last⟩
        rw [decide_eq_false]; rintro rfl; rw [hz] at hz'; cases hz'; simp at hc
      · exact ⟨k - 1, _, by omega, ⟨j + 1, by omega, take_succ_eq hj hz hz' (by simpa using hc), rfl⟩, ⟨rfl, rfl, rfl, rfl, trivial⟩, rfl, Ent.refl _⟩
    · obtain rfl : j = l.length := by omega
      have e : l = m := by rw [List.take_length, List.take_of_length_le (by omega)] at hj; exact hj
      repeat' (first | (refine WS_seqK ?_; intro K hK) | (refine hK _ ?_; clear hK K) | refine stZ ?_ | (refine s2Z ?_ ?_ <;> intro hc <;> (try simp only [cS] at hc) <;> (try (exfalso; first | contradiction | omega))) | refine sbZ ?_ | refine sqZ ?_)
      refine ret_tmp (.inl rfl) rfl rfl ⟨(), ?_, Ent.take Ent.last⟩
      rw [decide_eq_true e]
theorem rec_neq (o o' : Bool) (x y x' y' : Int) (w : World) :
  (binOp .neq 28 (.agg #[.bool o, .int .u32 x, .int .u32 y]) (.agg #[.bool o', .int .u32 x', .int .u32 y'])).run Tryz.prog w = .ok (.bool (!(o == o' && (x == x' && y == y')))) w := by
 have u4 := Tryz.underlying26
 have u1 := Tryz.underlying4
 have hS : Tryz.prog.underlying 28 = some (.struct (Tryz.prog.fieldsOf 28)) := by kernel_rfl
 have hp : Tryz.prog.stoodInHeld 28 = false := by kernel_rfl
 rw [run_neq_struct, show (10000 : Nat) = 9999 + 1 from rfl, run_equalIn_agg w 9999 28 _ _ hS hp]
 simp only [Program.fieldsOf, Tryz.underlying28]
 by_cases h0 : o = o' <;> by_cases h1 : x = x' <;> by_cases h2 : y = y' <;> go_simp
instance neqRec (a b : Rec) : BinV Tryz.prog .neq 28 (.agg (Rec.cells a).toArray) (.agg (Rec.cells b).toArray) (.bool (!decide (a = b))) := ⟨fun w => by
 have h := rec_neq a.own b.own (a.addr.toNat : Int) (a.seq.toNat : Int) (b.addr.toNat : Int) (b.seq.toNat : Int) w
 have e : (a.own == b.own && (((a.addr.toNat : Int) == (b.addr.toNat : Int)) && ((a.seq.toNat : Int) == (b.seq.toNat : Int)))) = decide (a = b) := by
  rw [Bool.eq_iff_iff]
  simp only [Bool.and_eq_true, beq_iff_eq, decide_eq_true_eq]
  constructor
  ·intro ⟨h0, h1, h2⟩
   have e1 : a.addr = b.addr := UInt32.toNat_inj.1 (by omega)
   have e2 : a.seq = b.seq := UInt32.toNat_inj.1 (by omega)
   cases a; cases b; simp_all
  ·rintro rfl; exact ⟨rfl, rfl, rfl⟩
 rw [e] at h
 exact h, fun w x y => by apply run_eqGuard_agg; kernel_rfl⟩
theorem own_bit (x : UInt8) : decide (x = 1) = (((x.toNat : Nat) : Int) == 1) := by
 rw [Bool.eq_iff_iff]; simp only [decide_eq_true_eq, beq_iff_eq]
 constructor
 ·rintro rfl; rfl
 ·intro h; apply UInt8.toNat_inj.1; show x.toNat = 1; omega
theorem numAt_drop (l : List UInt8) (i : Nat) (h : i + 4 ≤ l.length) : numAt (l.drop i) 0 = numAt l i := by
 unfold numAt byteAt
 simp [List.getD_eq_getElem?_getD]
theorem recOf_take (l : List UInt8) (h : 13 ≤ l.length) : recOf (l.take 13) = recOf l := by
 have e : ∀ i, i < 13 → byteAt (l.take 13) i = byteAt l i := fun i hi => by
  unfold byteAt; simp [List.getD_eq_getElem?_getD, List.getElem?_take, hi]
 unfold recOf numAt
 rw [e 0 (by omega), e 1 (by omega), e (1 + 1) (by omega), e (1 + 2) (by omega), e (1 + 3) (by omega), e 5 (by omega), e (5 + 1) (by omega), e (5 + 2) (by omega), e (5 + 3) (by omega)]
def tailN (v : Value) : Nat → Value
 | 0 => v
 | j + 1 => sTail 1 (tailN v j) 13
instance rdr_tailN {α : Type} {H : HProp} {v : Value} {f : α → List Value} {l : List α} (j : Nat) [h : Rdr w0 H v α 1 f l] : Rdr w0 H (tailN v j) α 1 f (l.drop (13 * j)) := by
 induction j with
 | zero => exact h
 | succ j ih =>
  have := rdr_tail' (size := 1) (w0 := w0) (H := H) (v := tailN v j) (f := f) (l := l.drop (13 * j)) 13
  rw [List.drop_drop] at this
  exact this
theorem rd_go (xs : List UInt8) (js : List Rec) (k : Nat) (hj : readJ xs = js ++ readN (xs.length / 13 - k) (xs.drop (13 * k))) (hlt : 13 * k + 13 ≤ xs.length) (hx : (recOf (xs.drop (13 * k))).bytes = (xs.drop (13 * k)).take 13) :
  readJ xs = (js ++ [recOf (xs.drop (13 * k))]) ++ readN (xs.length / 13 - (k + 1)) (xs.drop (13 * (k + 1))) :=
 readJ_step xs js k _ hj rfl (by omega) hx
theorem rd_no (xs : List UInt8) (js : List Rec) (k : Nat) (hj : readJ xs = js ++ readN (xs.length / 13 - k) (xs.drop (13 * k))) (hx : ¬ (recOf (xs.drop (13 * k))).bytes = (xs.drop (13 * k)).take 13) : readJ xs = js := by
 rw [hj, readN_not _ _ hx, List.append_nil]
theorem rd_short (xs : List UInt8) (js : List Rec) (k : Nat) (hj : readJ xs = js ++ readN (xs.length / 13 - k) (xs.drop (13 * k))) (h : ¬ 13 * k + 13 ≤ xs.length) : readJ xs = js := by
 rw [hj, readN_short _ _ (by simp; omega), List.append_nil]
set_option maxRecDepth 100000 in
theorem wread_spec (l : List UInt8) (hl : l.length ≤ 1000000) (v : Value) (X : HProp) [hX : Rdr w0 X v UInt8 1 byteC l] : Spec Tryz.prog w0 58 [v] X (fun m : Value => .tuple #[m, .int .i64 (13 * ((readJ l).length : Int))]) (fun m => rows 28 3 Rec.cells m (readJ l) * X) := by
  refine Spec.enter Tryz.func58 rfl Tryz.ntmps58 rfl fun G => ?_
  simp only [argE]
  repeat' (first | (refine WS_seqK ?_; intro K hK) | (refine hK _ ?_; clear hK K) | refine stZ ?_ | refine sqZ ?_)
  refine WS_ent (Ent.nil _ 28 3 Rec.cells none) ?_
  refine WS_loop (fun m τ => ∃ (j : Nat) (u : Value) (js : List Rec), j + m = l.length / 13 ∧ js.length = j ∧ readJ l = js ++ readN (l.length / 13 - j) (l.drop (13 * j)) ∧ τ = ⟨[(5, tailN v j), (4, u)], [], rows 28 3 Rec.cells u js * (X * G)⟩) ?_ ?_
  · exact ⟨l.length / 13, _, ⟨0, _, [], by omega, rfl, by simp [readJ], rfl⟩, ⟨rfl, rfl, trivial⟩, rfl, finE⟩
  · rintro m τ ⟨j, u, js, hjm, hjs, hj, rfl⟩
    have hdl : (l.drop (13 * j)).length = l.length - 13 * j := by simp
    rcases Nat.lt_or_ge j (l.length / 13) with hlt | hge
    · have h13 : 13 * j + 13 ≤ l.length := by omega
      have htl : ((l.drop (13 * j)).take 13).length = 13 := by simp; omega
      have hz : ((l.drop (13 * j)).take 13)[0]? = some (byteAt (l.drop (13 * j)) 0) := by
        rw [List.getElem?_take, if_pos (by omega)]
        exact byteAt_get (by omega)
      have hn1 := wnumber_spec w0 (((l.drop (13 * j)).take 13).drop 1) (by simp; omega) (sTail 1 (sHead (tailN v j) 13) 1) (rows 28 3 Rec.cells u js * (X * G))
      have hn5 := wnumber_spec w0 (((l.drop (13 * j)).take 13).drop 5) (by simp; omega) (sTail 1 (sHead (tailN v j) 13) 5) (rows 28 3 Rec.cells u js * (X * G))
      have hr : (⟨decide (byteAt (l.drop (13 * j)) 0 = 1), numAt (((l.drop (13 * j)).take 13).drop 1) 0, numAt (((l.drop (13 * j)).take 13).drop 5) 0⟩ : Rec) = recOf (l.drop (13 * j)) := by
        rw [← recOf_take (l.drop (13 * j)) (by omega), own_bit, numAt_drop _ 1 (by omega), numAt_drop _ 5 (by omega)]
        unfold recOf
        congr 2
        unfold byteAt; simp [List.getD_eq_getElem?_getD, List.getElem?_take]
      have hrec : ∀ r', r' = recOf (l.drop (13 * j)) → Spec Tryz.prog w0 31 [.agg r'.cells.toArray] emp (fun v' : Value => v') (fun v' => rows 5 1 byteC v' (recOf (l.drop (13 * j))).bytes) := by
        rintro _ rfl; exact wrecord_spec w0 _
      have hrec' := hrec _ hr
      have hbl : (recOf (l.drop (13 * j))).bytes.length = 13 := Rec.bytes_length _
      repeat' (first | (refine WS_seqK ?_; intro K hK) | (refine hK _ ?_; clear hK K) | refine stZ ?_ | (refine s2Z ?_ ?_ <;> intro hc <;> (try simp only [cS] at hc) <;> (try (exfalso; first | contradiction | omega))) | (refine DL_alloc iI rfl ?_; intro g) | refine sbZ ?_ | refine sqZ ?_ | ((first | refine' LQ ?zh rfl ?_ | refine' DL_q rfl rfl ?zh ?_); case zh => intro F'; first | exact Q_bin rfl rfl iI | exact Q_sliceR_h rfl rfl iI iI iI iI (by first | assumption | omega | (simp [be_length] <;> omega)) | exact Q_sliceR_l rfl rfl iI iI iI iI (by first | assumption | omega | (simp [be_length] <;> omega))) | (refine s0Z ?_; intro g) | (show WS _ _ _ (.region 6 _ true) _ _; refine WS_drawA [0, 1, 2, 3, 4, 5, 7, 8, 6, 9, 10, 11, 12] (by kernel_rfl) rfl ?_) | (refine DL_callQ iI rfl hn1 rfl ?_) | (refine DL_callQ iI rfl hn5 rfl ?_) | (refine LS_h (H_callX iI rfl hrec' iI) rfl ?_; intro vb) | (refine LS_h (H_callX iI rfl (equal_spec w0 (recOf (l.drop (13 * j))).bytes ((l.drop (13 * j)).take 13) (by omega) vb (sHead (tailN v j) 13) (rows 5 1 byteC vb (recOf (l.drop (13 * j))).bytes * X)) iI) rfl ?_; intro ue) | (refine LS_h (H_buildSliceR Rec.cells [⟨decide (byteAt (l.drop (13 * j)) 0 = 1), numAt (((l.drop (13 * j)).take 13).drop 1) 0, numAt (((l.drop (13 * j)).take 13).drop 5) 0⟩] iI iI iI rfl rfl rfl rfl rfl iI rfl rfl rfl) rfl ?_; intro vs) | (refine LS_h (H_appendR rfl rfl iI iI rfl iI iI recC_one (by first | omega | (simp [be_length] <;> omega)) rfl) rfl ?_; intro va))
      · have hrd := rd_no l js j hj (by simpa using hc)
        rw [← hrd]
        exact ret_tmp2 (.inl rfl) rfl rfl rfl ⟨u, by rw [hrd], by rw [hrd]; exact finE⟩
      · have hrd := rd_go l js j hj h13 (by simpa using hc)
        refine ⟨m - 1, _, by omega, ⟨j + 1, va, js ++ [recOf (l.drop (13 * j))], by omega, by simp [hjs], hrd, rfl⟩, ⟨rfl, rfl, trivial⟩, rfl, ?_⟩
        rw [← hr]
        exact finE
    · have hsh : ¬ 13 * j + 13 ≤ l.length := by omega
      have hrd := rd_short l js j hj hsh
      repeat' (first | (refine WS_seqK ?_; intro K hK) | (refine hK _ ?_; clear hK K) | refine stZ ?_ | (refine s2Z ?_ ?_ <;> intro hc <;> (try simp only [cS] at hc) <;> (try (exfalso; first | contradiction | omega))) | refine sbZ ?_ | refine sqZ ?_)
      subst hjs
      rw [hrd]
      exact ret_tmp2 (.inl rfl) rfl rfl rfl ⟨u, rfl, finE⟩
theorem snocInd {α : Type} {p : List α → Prop} (l : List α) (nil : p []) (snoc : ∀ l x, p l → p (l ++ [x])) : p l := by
 suffices h : ∀ m : List α, p m.reverse by simpa using h l.reverse
 intro m
 induction m with
 | nil => exact nil
 | cons x m ih => rw [List.reverse_cons]; exact snoc _ _ ih
theorem putR_length (l : List Rec) (r : Rec) : (putR l r).length ≤ l.length + 1 := by
 induction l with
 | nil => simp [putR]
 | cons x l ih =>
  rw [putR]
  split
  ·simp
  ·split
   ·simp
   ·simp; omega
theorem compR_length (l : List Rec) : (compR l).length ≤ l.length := by
 induction l using snocInd with
 | nil => simp [compR]
 | snoc l r ih => rw [compR_snoc]; have := putR_length (compR l) r.norm; simp; omega
end

section
open Go.RowKit
theorem find_ask {P : Program} {κ ν : Type} [DecidableEq κ] {fk : κ → Value} {fv : ν → Value} {kt : TypeId} (heq : ∀ a b w, (Op.equal kt (fk a) (fk b)).run P w = .ok (decide (a = b)) w) (k : κ) (w : World) : ∀ (m : List (κ × ν)) (es : List MapEntry) (i : Nat), es.map (fun e => (e.key, e.val)) = m.map (fun p => (fk p.1, fv p.2)) →
  (Instr.findAsking kt (fk k) es i).run P w = .ok ((mfind m k).bind fun j => (m[j]?).map fun p => (i + j, fv p.2)) w
 | [], es, i, h => by
  have : es = [] := by simpa using h
  subst this; rfl
 | p :: m, [], i, h => by simp at h
 | p :: m, e :: es, i, h => by
  simp only [List.map_cons, List.cons.injEq, Prod.mk.injEq] at h
  obtain ⟨⟨h1, h2⟩, h3⟩ := h
  have ih := find_ask heq k w m es (i + 1) h3
  simp only [Instr.findAsking, h1, Sem.run_bind, heq, Result.andThen_ok]
  by_cases he : k = p.1
  ·subst he
   simp [mfind, h2]
  ·rw [decide_eq_false he]
   simp only [Bool.false_eq_true, if_false, ih, mfind, Ne.symm he]
   cases mfind m k with
   | none => rfl
   | some j => simp [Nat.add_assoc, Nat.add_comm 1 j]
theorem keyT_agg {P : Program} {κ : Type} {fk : κ → Value} {kt : TypeId} {fs : Array Field} (hu : P.underlying kt = some (.struct fs)) (heq : ∀ (d : DecidableEq κ) a b w, (Op.equal kt (fk a) (fk b)).run P w = .ok (decide (a = b)) w)
  (hc : ∀ (empty : Bool) (k : κ) (w : World), (Instr.checkKey empty 10000 kt (fk k)).run P w = .ok () w) (hs : ∀ k : κ, Instr.sameBits 10000 (fk k) (fk k) = true) : KeyT P kt fk where
 check := hc
 same := hs
 find := fun {_} {ν} fv m k es w h => by
  have := find_ask (fk := fk) (fv := fv) (heq inferInstance) k w m es 0 h
  cases es with
  | nil =>
   have hm : m = [] := by simpa using h.symm
   subst hm
   simp [Instr.findKey, run_underlying hu, Instr.findNow, mfind]
  | cons e es =>
   simp only [Instr.findKey, Sem.run_bind, run_underlying hu, Result.andThen_ok]
   have e0 : Instr.findNow (.struct fs) (fk k) (e :: es) 0 = none := by simp [Instr.findNow, Instr.sameNow]
   rw [e0]
   simp only [this, Nat.zero_add]
theorem check_b (empty : Bool) (n : Nat) (o : Bool) (w : World) : (Instr.checkKey empty (n + 1) 4 (.bool o)).run Tryz.prog w = .ok () w := by
 have u1 := Tryz.underlying4
 unfold Instr.checkKey
 go_simp
theorem check_u (empty : Bool) (n : Nat) (x : Int) (w : World) : (Instr.checkKey empty (n + 1) 26 (.int .u32 x)).run Tryz.prog w = .ok () w := by
 have u1 := Tryz.underlying26
 unfold Instr.checkKey
 go_simp
theorem rec_check (empty : Bool) (o : Bool) (x y : Int) (w : World) : (Instr.checkKey empty 10000 28 (.agg #[.bool o, .int .u32 x, .int .u32 y])).run Tryz.prog w = .ok () w := by
 have u4 := Tryz.underlying26
 have u1 := Tryz.underlying4
 have hS := Tryz.underlying28
 have c1 := check_b empty 9998 o
 have c2 := check_u empty 9998
 rw [show (10000 : Nat) = 9999 + 1 from rfl]
 unfold Instr.checkKey
 go_simp
theorem rec_eql (o o' : Bool) (x y x' y' : Int) (w : World) :
  (Op.equal 28 (.agg #[.bool o, .int .u32 x, .int .u32 y]) (.agg #[.bool o', .int .u32 x', .int .u32 y'])).run Tryz.prog w = .ok (o == o' && (x == x' && y == y')) w := by
 have u4 := Tryz.underlying26
 have u1 := Tryz.underlying4
 have hS : Tryz.prog.underlying 28 = some (.struct (Tryz.prog.fieldsOf 28)) := by kernel_rfl
 have hp : Tryz.prog.stoodInHeld 28 = false := by kernel_rfl
 rw [show Op.equal 28 = Op.equalIn (9999 + 1) 28 from rfl, run_equalIn_agg w 9999 28 _ _ hS hp]
 simp only [Program.fieldsOf, Tryz.underlying28]
 by_cases h0 : o = o' <;> by_cases h1 : x = x' <;> by_cases h2 : y = y' <;> go_simp
@[reducible] def keyV (r : Rec) : Value := .agg r.cells.toArray
instance : KeyT Tryz.prog 28 keyV := keyT_agg (fs := Tryz.prog.fieldsOf 28) (by kernel_rfl) (fun _ a b w => by
  have h := rec_eql a.own b.own (a.addr.toNat : Int) (a.seq.toNat : Int) (b.addr.toNat : Int) (b.seq.toNat : Int) w
  have e : (a.own == b.own && (((a.addr.toNat : Int) == (b.addr.toNat : Int)) && ((a.seq.toNat : Int) == (b.seq.toNat : Int)))) = decide (a = b) := by
   rw [Bool.eq_iff_iff]
   simp only [Bool.and_eq_true, beq_iff_eq, decide_eq_true_eq]
   constructor
   ·intro ⟨h0, h1, h2⟩
    have e1 : a.addr = b.addr := UInt32.toNat_inj.1 (by omega)
    have e2 : a.seq = b.seq := UInt32.toNat_inj.1 (by omega)
    cases a; cases b; simp_all
   ·rintro rfl; exact ⟨rfl, rfl, rfl⟩
  rw [e] at h
  exact h) (fun empty k w => rec_check empty k.own _ _ w) (fun k => by
  show Instr.sameBits (9999 + 1) (.agg #[.bool k.own, u32 k.addr, u32 k.seq]) (.agg #[.bool k.own, u32 k.addr, u32 k.seq]) = true
  simp [Instr.sameBits, u32])
instance (o : Bool) (v1 v2 : Value) (a b : UInt32) [h1 : AsU32 v1 a] [h2 : AsU32 v2 b] : AsKey keyV (.agg #[.bool o, v1, v2]) ⟨o, a, b⟩ := ⟨by rw [h1.eq, h2.eq]; rfl⟩
end

section
open Go.RowKit Go.Shelf
open Go.Sort (flatK HoldsK get_flatK)
set_option maxRecDepth 100000
theorem nan_exI (x : Int) (W : World) : Calls Tryz.prog 204 #[.int .u32 x] W fun e w' => e = .returned (.bool false) ∧ w' = W := by
 go_enter Tryz.func204, Tryz.ntmps204
 go_wp2_with fail
 go_ret
 simp
def cmpI (x y : Int) : Int := if x < y then -1 else if y < x then 1 else 0
theorem cmp_exI (x y : Int) (W : World) : Calls Tryz.prog 159 #[.int .u32 x, .int .u32 y] W fun e w' => e = .returned (.int .i64 (cmpI x y)) ∧ w' = W := by
 have hn := nan_exI
 go_enter Tryz.func159, Tryz.ntmps159
 go_wp2_with (go_at_call 204; refine (hn _ _).mono ?_; rintro e w' ⟨rfl, rfl⟩)
 all_goals go_ret
 all_goals first | omega | (simp_all [cmpI]; done) | (simp_all [cmpI]; omega)
theorem cmpI_A (a b : UInt32) : cmpI (a.toNat : Int) (b.toNat : Int) = cmpA a b := by
 unfold cmpI cmpA
 simp only [UInt32.lt_iff_toNat_lt, Int.ofNat_lt]
theorem clos_ex (o1 o2 : Bool) (x y s1 s2 : Int) (W : World) : Calls Tryz.prog 158 #[.agg #[.bool o1, .int .u32 x, .int .u32 s1], .agg #[.bool o2, .int .u32 y, .int .u32 s2]] W fun e w' => e = .returned (.int .i64 (if o1 != o2 then (if o1 then -1 else 1) else cmpI x y)) ∧ ∃ q os', w' = Go.Sort.grow (W.drewN q) os' := by
 have hcon := fun W' => cmp_exI x y W'
 generalize cmpI x y = r at hcon ⊢
 go_enter Tryz.func158, Tryz.ntmps158
 go_wp2_with (go_at_call 159; refine (hcon _).mono ?_; rintro e w' ⟨rfl, rfl⟩)
 all_goals try go_ret
 all_goals (refine ⟨?_, 0, _, by rw [Go.Sort.alloc_eq_grow, Go.Sort.alloc_eq_grow, Go.Sort.grow_grow]; rfl⟩)
 all_goals (show Ending.returned (Value.int _ _) = _; clear hcon; cases o1 <;> cases o2 <;> first | rfl | contradiction)
theorem clos_rec (a b : Rec) (W : World) : Calls Tryz.prog 158 (#[.agg a.cells.toArray, .agg b.cells.toArray] ++ #[]) W fun e w' => e = .returned (.int .i64 (cmpRec a b)) ∧ ∃ q os', w' = Go.Sort.grow (W.drewN q) os' := by
 have h := clos_ex a.own b.own a.addr.toNat b.addr.toNat a.seq.toNat b.seq.toNat W
 rw [cmpI_A] at h
 exact h
instance : Inhabited Rec := ⟨⟨false, 0, 0⟩⟩
theorem flatK_get (l : List Rec) (j : Nat) (h : j < l.length * 3) : (flatK Rec.cells 3 l.toArray)[j]! = (l.flatMap Rec.cells)[j]'(by rw [flatMap_length Rec.cells 3 (fun _ => rfl)]; exact h) := by
 have hq : j / 3 < l.length := by omega
 rw [get_flatK _ _ _ _ (by simpa using h)]
 have h2 := flatMap_at Rec.cells 3 (fun _ => rfl) l (j / 3) (j % 3) l[j / 3] (by simp [hq]) (by omega)
 rw [show j / 3 * 3 + j % 3 = j by omega] at h2
 have h3 := List.getElem?_eq_getElem (l := l.flatMap Rec.cells) (i := j) (by rw [flatMap_length Rec.cells 3 (fun _ => rfl)]; exact h)
 rw [h3] at h2
 have h4 : l.toArray[j / 3]! = l[j / 3] := by simp [hq]
 rw [h4]
 have h5 : j % 3 < (Rec.cells l[j / 3]).length := by show j % 3 < 3; omega
 rw [List.getElem?_eq_getElem h5] at h2
 rw [getElem!_pos (Rec.cells l[j / 3]) (j % 3) h5]
 exact (Option.some.inj h2).symm
theorem Sat.sortK {w0 w : World} {e : TypeId} {g off cap : Nat} {l l' : List Rec} {F : HProp} (n : Nat) (os : Array Obj) (hs : Sat w0 w (rows e 3 Rec.cells (.slice (some ⟨g, off, none⟩) l.length cap) l * F)) (hn : 0 < l.length) (hl : l'.length = l.length) :
  Sat w0 (sortWorldK Rec.cells 3 w g off n l'.toArray os) (rows e 3 Rec.cells (.slice (some ⟨g, off, none⟩) l.length cap) l' * F) := by
 obtain ⟨hx, ⟨A, hv, h0, _⟩ | ⟨g', off', cap', cur, fr, hv, hle, hm, hc, ht, hf, hp⟩⟩ := hs.slc_cases
 ·omega
 injection hv with e1 _ e3
 injection e1 with e1
 injection e1 with e1 e2
 subst e1; subst e2; subst e3
 have hg := hp.at_
 let cur' : Array Value := Go.Sort.putCells id off (flatK Rec.cells 3 l'.toArray) cur
 have hsz : cur'.size = cur.size := by simp [cur', Go.Sort.putCells]
 have hlt : g < w.heap.size := hp.lt
 have hp2 : Sat w0 (sortWorldK Rec.cells 3 w g off n l'.toArray os) (pts g (.cells cur' e fr) * F) := by
  refine Sat.put hp rfl rfl rfl ?_ fun k hk hne => ?_
  ·show ((w.heap.modify g _) ++ os)[g]? = _
   rw [Array.getElem?_append_left (by simpa using hlt), Array.getElem?_modify, if_pos rfl, hg]
   rfl
  ·show ((w.heap.modify g _) ++ os)[k]? = _
   rw [Array.getElem?_append_left (by simpa using hk), Array.getElem?_modify, if_neg (Ne.symm hne)]
 unfold rows
 rw [hl]
 refine Sat.slc_mk e 3 l.length g off cap cur' fr _ hp2 ?_ hle hm (by rw [hsz]; exact hc) ?_ hf
 ·rw [flatMap_length Rec.cells 3 (fun _ => rfl), hl]
 ·have hle3 : l.length * 3 ≤ cap * 3 := Nat.mul_le_mul_right _ hle
  apply List.ext_getElem?
  intro j
  rw [List.getElem?_take]
  by_cases hj : j < l.length * 3
  ·rw [if_pos hj, List.getElem?_drop, Array.getElem?_toList]
   have hin : off + j < cur.size := by omega
   have hj' : j < l'.length * 3 := by rw [hl]; exact hj
   have h1 : cur'[off + j]? = some ((flatK Rec.cells 3 l'.toArray)[j]!) := by
    simp only [cur', Go.Sort.putCells, Array.getElem?_mapIdx]
    rw [Array.getElem?_eq_getElem hin]
    simp only [Option.map_some, id]
    rw [if_pos ⟨by omega, by simp; omega⟩, Nat.add_sub_cancel_left]
   rw [h1, flatK_get l' j hj', ← List.getElem?_eq_getElem]
  ·rw [if_neg hj]
   symm
   apply List.getElem?_eq_none
   rw [flatMap_length Rec.cells 3 (fun _ => rfl), hl]; omega
theorem perm_all {l : List Rec} {d' : Array Rec} (h : Go.Sort.PermIn 0 l.toArray.size l.toArray d') : d'.toList.Perm l := by
 obtain ⟨h1, _, h3⟩ := h
 have e1 : d'.extract 0 l.toArray.size = d' := by rw [← h1]; simp
 have e2 : l.toArray.extract 0 l.toArray.size = l.toArray := by simp
 rw [e1, e2] at h3
 simpa using h3
theorem sorted_all {l : List Rec} {d' : Array Rec} (hz : d'.size = l.length) (h : Go.Sort.SortedIn (Go.Proofs.ltOf cmpRec) 0 l.toArray.size d') : d'.toList.Pairwise (fun a b => b.lt a = false) := by
 rw [List.pairwise_iff_getElem]
 intro i j hi hj hij
 have := h i j (Nat.zero_le _) hij (by simp at hj ⊢; omega)
 rw [cmpRec_lt] at this
 simp only [Array.length_toList] at hi hj
 rw [getElem!_pos d' i hi, getElem!_pos d' j hj] at this
 simpa using this
structure SortedR (l : List Rec) where
  l' : List Rec
  perm : l'.Perm l
  rise : l'.Pairwise (fun a b => b.lt a = false)
theorem sortF_spec (w0 : World) (v : Value) (l : List Rec) (hl : l.length ≤ 1000000) : Spec Tryz.prog w0 202 [v, .func (.func 158) #[] #[]] (rows 28 3 Rec.cells v l) (fun _ : SortedR l => .tuple #[]) (fun s => rows 28 3 Rec.cells v s.l') := by
 intro G w hs
 rcases Nat.eq_zero_or_pos l.length with h0 | hpos
 ·obtain rfl := List.eq_nil_of_length_eq_zero h0
  obtain ⟨A, c, rfl⟩ := rows_form hs
  have := AnyF.slices_SortFunc_none sortLays A c (.func (.func 158) #[] #[]) w
  refine Calls.mono (this) ?_
  rintro e w' ⟨rfl, rfl⟩
  exact ⟨⟨[], .refl _, .nil⟩, rfl, hs⟩
 ·have hne : l.flatMap Rec.cells ≠ [] := by
   intro e0
   have := flatMap_length Rec.cells 3 (fun _ => rfl) l
   rw [e0] at this
   simp at this; omega
  obtain ⟨g, off, cap, rfl, hle, hm, hc⟩ := Sat.slc_cell hs hne
  have hH : HoldsK Rec.cells 3 w g off l.toArray := by
   intro j hj
   have hj' : j < l.length * 3 := by simpa using hj
   have := hc j ((l.flatMap Rec.cells)[j]'(by rw [flatMap_length Rec.cells 3 (fun _ => rfl)]; exact hj')) (List.getElem?_eq_getElem _)
   rw [flatK_get l j hj']
   exact this
  have hblk : g < w.heap.size := by
   have := (hc 0 ((l.flatMap Rec.cells)[0]'(List.length_pos_iff.2 hne)) (List.getElem?_eq_getElem _)).1
   unfold World.cell? at this
   rcases Nat.lt_or_ge g w.heap.size with hlt | hge
   ·exact hlt
   ·simp [Array.getElem?_eq_none hge] at this
  have eg : ∀ args w, (callFunc 158 args).run Tryz.prog w = .ok (.enter 158 args) w := enters_of Tryz.func158 (by kernel_rfl) rfl
  have hcon := AnyQ.slices_SortFunc sortLays 3 Tryz.isAgg28 Tryz.sizeOf28 Rec.cells (fun _ => rfl) (fun z v hv => by simp [Rec.cells] at hv; rcases hv with rfl | rfl | rfl <;> rfl) cmpRec swo_rec 158 #[] g off cap l.toArray w eg (fun _ _ _ _ x y => clos_rec x y _) hH hblk (by simp; omega)
  refine Calls.mono (hcon) ?_
  rintro e w' ⟨rfl, d', n, os, hp, hso, rfl⟩
  have hz : d'.size = l.length := by simpa using hp.1
  refine ⟨⟨d'.toList, perm_all hp, sorted_all hz hso⟩, rfl, ?_⟩
  exact Sat.sortK n os hs hpos (by simpa using hz)
end

section
open Go.RowKit
attribute [local irreducible] WS LS OpQ OpT OpH OpTQ Spec SpecQ cel
variable (w0 : World)
set_option maxRecDepth 100000 in
theorem keysR_iter (m : List (Rec × UInt32)) (r gm : Nat) : IterS Tryz.prog w0 203 [ptr gm 0] (cel gm 252 [.map (some r)] * mp keyV u32 r m) (fun k => [keyV k]) (fun xs => xs.Perm (m.map (·.1))) := by
  intro l J Jx hY
  refine Spec.enter Tryz.func203 rfl Tryz.ntmps203 rfl fun G => ?_
  simp only [argE]
  repeat' (first | (refine WS_seqK ?_; intro K hK) | (refine hK _ ?_; clear hK K) | refine stZ ?_ | refine sqZ ?_ | (refine LS_h (H_range rfl iI iI) rfl ?_; intro it))
  refine WS_loop (fun k τ => ∃ (pre : List Rec) (left : List (Rec × UInt32)) (cur : Option (Rec × UInt32)), left.length = k ∧ (pre ++ left.map (·.1)).Perm (m.map (·.1)) ∧ τ = ⟨[(5, ptr it 0), (0, yieldV l)], [], mpi keyV u32 r it m left cur * (J pre * (cel gm 252 [.map (some r)] * G))⟩) ?_ ?_
  · exact ⟨m.length, _, ⟨[], m, none, rfl, .refl _, rfl⟩, ⟨rfl, rfl, trivial⟩, rfl, finE⟩
  · rintro k τ ⟨pre, left, cur, hk, hp, rfl⟩
    repeat' (first | (refine WS_seqK ?_; intro K hK) | (refine hK _ ?_; clear hK K) | refine stZ ?_ | (refine s2Z ?_ ?_ <;> intro hc <;> (try simp only [cS] at hc) <;> (try (exfalso; first | contradiction | omega))) | refine sqZ ?_ | (refine shZ ?_; intro g) | ((refine' LS_h0 ?zh ?_); (case zh => exact H_storeA rfl rfl iI iI (by first | rfl | (simp only [List.all_cons, List.all_nil, *]; rfl)) rfl); intro g) | (refine LS_h (H_next rfl iI) rfl ?_; rintro ⟨_ | ⟨i, z, u⟩, ho⟩ <;> simp only [NextR.val, NextR.rest, NextR.now]) | (refine LS_q (Q_entry rfl iI) rfl ?_))
    · obtain rfl : left = [] := ho
      refine ret_none (.inr rfl) rfl ⟨(pre, true), rfl, ?_⟩
      rw [List.map_nil, List.append_nil] at hp
      show Ent _ ((pure' _ * (_ * _)) * G)
      refine Ent.trans Ent.mpi_mp ?_
      rw [star_assoc]
      refine Ent.pureI hp ?_
      exact finE
    · refine LS_i (I_yield rfl rfl rfl (hY pre z ⟨pre ++ [z] ++ (left.eraseIdx i).map (·.1), perm_next hp ho, ⟨_, rfl⟩⟩)) iI rfl ?_
      intro b
      cases b
      all_goals simp only [cond_true, cond_false]
      · repeat' (first | (refine hK _ ?_; clear hK K) | refine stZ ?_ | (refine s2Z ?_ ?_ <;> intro hc <;> (try simp only [cS] at hc) <;> (try (exfalso; first | contradiction | omega))) | refine sqZ ?_)
        refine ret_none (.inl rfl) rfl ⟨(pre ++ [z], false), rfl, ?_⟩
        show Ent _ ((_ * _) * G)
        exact Ent.trans (F := mpi keyV u32 r it m (left.eraseIdx i) (some (z, u)) * (Jx (pre ++ [z]) * (cel gm 252 [.map (some r)] * G))) (finE) (Ent.trans Ent.mpi_mp (finE))
      · repeat' (first | (refine hK _ ?_; clear hK K) | refine stZ ?_ | (refine s2Z ?_ ?_ <;> intro hc <;> (try simp only [cS] at hc) <;> (try (exfalso; first | contradiction | omega))) | refine sqZ ?_)
        have hlt := (List.getElem?_eq_some_iff.1 ho).1
        exact ⟨k - 1, _, by omega, ⟨pre ++ [z], left.eraseIdx i, some (z, u), by rw [List.length_eraseIdx, if_pos hlt, hk], perm_next hp ho, rfl⟩, ⟨rfl, rfl, trivial⟩, rfl, finE⟩
set_option maxRecDepth 100000 in
theorem appendSeqR_spec {gf : FuncId} {lb : List Value} {X : HProp} {S : List Rec → Prop} (hf : IsFun Tryz.prog gf) (it : IterS Tryz.prog w0 gf lb X (fun k => [keyV k]) S) (hS : ∀ xs, S xs → xs.length ≤ 100000) :
    Spec Tryz.prog w0 228 [.slice none 0 0, .func (.func gf) #[] lb.toArray] X (fun p : Value × List Rec => p.1) (fun p => pure' (S p.2) * (rows 28 3 Rec.cells p.1 p.2 * X)) := by
  refine Spec.enterM Tryz.func228 rfl Tryz.ntmps228 rfl fun G => ?_
  simp only [argE]
  repeat' (first | (refine WS_seqK ?_; intro K hK) | (refine hK _ ?_; clear hK K) | refine stZ ?_ | refine sqZ ?_ | (refine shZ ?_; intro g))
  revert g; intro gs
  refine WS_ent (Ent.nil _ 28 3 Rec.cells none) ?_
  refine WS_ent (H' := X * ((hex fun v => cel gs 22 [v] * rows 28 3 Rec.cells v ([] : List Rec)) * G)) (Ent.trans (F := (hex fun v => cel gs 22 [v] * rows 28 3 Rec.cells v ([] : List Rec)) * (X * G)) (Ent.hexI (p := fun v => cel gs 22 [v] * rows 28 3 Rec.cells v ([] : List Rec)) (Value.slice none 0 0) (finE)) (finE)) ?_
  refine WS_rangeFunc rfl rfl hf it rfl (fun _ => rfl) (fun pre => hex fun v => cel gs 22 [v] * rows 28 3 Rec.cells v pre) (fun _ _ => pure' False) rfl ?_ ?_ ?_
  · rintro l pre x R ⟨xs, hxs, hpx⟩
    have hlen : pre.length + 1 ≤ 100000 := by
      have := hpx.length_le
      have := hS xs hxs
      simp at *; omega
    refine WS_hex fun v => ?_
    repeat' (first | refine stZ ?_ | (refine shZ ?_; intro g) | ((refine' LS_h0 ?zh ?_); (case zh => exact H_storeA rfl rfl iI iI (by first | rfl | (simp only [List.all_cons, List.all_nil, *]; rfl)) rfl); intro g))
    rename_i g2
    refine asgS_mk rfl (cel g2 28 x.cells * (cel gs 22 [v] * rows 28 3 Rec.cells v pre)) (finE) fun R' => ?_
    repeat' (first | refine stZ ?_ | refine sqZ ?_ | (refine s0Z ?_; intro g) | (refine LS_h (H_buildSliceR Rec.cells [x] iI iI iI rfl rfl rfl rfl rfl iI rfl rfl rfl) rfl ?_; intro vs) | (refine LS_h (H_appendR rfl rfl iI iI rfl iI iI recC_one (by first | omega | (simp [be_length] <;> omega)) rfl) rfl ?_; intro va))
    show Ent _ _
    refine Ent.hexI va ?_
    exact finE
  · intro b xs hxs
    refine hK _ ?_
    refine WS_ent (H' := (hex fun v => cel gs 22 [v] * rows 28 3 Rec.cells v xs) * (dblk b * (X * G))) (finE) ?_
    refine WS_hex fun v => ?_
    repeat' (first | (refine WS_seqK ?_; intro K hK) | (refine hK _ ?_; clear hK K) | refine stZ ?_ | refine sqZ ?_)
    refine out_r ?_
    refine lv_mark (fun h => by cases h) iI ?_
    refine lv_ret1 rfl (RV_tmp rfl) ⟨(v, xs), rfl, ?_⟩
    show Ent _ ((pure' (S xs) * (rows 28 3 Rec.cells v xs * X)) * G)
    rw [star_assoc (pure' (S xs))]
    refine Ent.pureI hxs ?_
    exact finE
  · intro b c pre
    exact WS_pure (φ := False) fun h => h.elim
set_option maxRecDepth 100000 in
theorem collectR_spec {gf : FuncId} {lb : List Value} {X : HProp} {S : List Rec → Prop} (hf : IsFun Tryz.prog gf) (it : IterS Tryz.prog w0 gf lb X (fun k => [keyV k]) S) (hS : ∀ xs, S xs → xs.length ≤ 100000) :
    Spec Tryz.prog w0 201 [.func (.func gf) #[] lb.toArray] X (fun p : Value × List Rec => p.1) (fun p => pure' (S p.2) * (rows 28 3 Rec.cells p.1 p.2 * X)) := by
  have happ := appendSeqR_spec w0 hf it hS
  refine Spec.enter Tryz.func201 rfl Tryz.ntmps201 rfl fun G => ?_
  simp only [argE]
  repeat' (first | (refine WS_seqK ?_; intro K hK) | (refine hK _ ?_; clear hK K) | refine stZ ?_ | refine sqZ ?_ | (refine LS_h (H_callX iI rfl happ iI) rfl ?_; intro p))
  exact ret_tmp (.inl rfl) rfl rfl ⟨p, rfl, finE⟩
set_option maxRecDepth 100000 in
theorem sortedR_spec {gf : FuncId} {lb : List Value} {X : HProp} {S : List Rec → Prop} (hf : IsFun Tryz.prog gf) (it : IterS Tryz.prog w0 gf lb X (fun k => [keyV k]) S) (hS : ∀ xs, S xs → xs.length ≤ 100000) :
    Spec Tryz.prog w0 156 [.func (.func gf) #[] lb.toArray, .func (.func 158) #[] #[]] X (fun p : Value × (l : List Rec) × SortedR l => p.1) (fun p => pure' (S p.2.1) * (rows 28 3 Rec.cells p.1 p.2.2.l' * X)) := by
  have hcol := collectR_spec w0 hf it hS
  refine Spec.enter Tryz.func156 rfl Tryz.ntmps156 rfl fun G => ?_
  simp only [argE]
  repeat' (first | (refine WS_seqK ?_; intro K hK) | (refine hK _ ?_; clear hK K) | refine stZ ?_ | refine sqZ ?_ | (refine LS_h (H_callX iI rfl hcol iI) rfl ?_; rintro ⟨v, l⟩; refine LS_pureI iI fun hp => ?_; have hsort := sortF_spec w0 v l (by have := hS l hp; omega); dsimp only) | (refine LS_h (H_callX iI rfl (by assumption) iI) rfl ?_; intro s))
  refine ret_tmp (.inl rfl) rfl rfl ⟨(v, ⟨l, s⟩), rfl, ?_⟩
  show Ent _ ((pure' (S l) * (rows 28 3 Rec.cells v s.l' * X)) * G)
  rw [star_assoc (pure' (S l))]
  exact Ent.pureI hp (finE)
end

section
open Go.RowKit
attribute [local irreducible] WS LS OpQ OpT OpH OpTQ Spec SpecQ cel
variable (w0 : World)
set_option maxRecDepth 100000 in
theorem keysR_spec (r : Nat) : Spec Tryz.prog w0 157 [.map (some r)] emp (fun g : Nat => .func (.func 203) #[] [ptr g 0].toArray) (fun g => cel g 252 [.map (some r)]) := by
  refine Spec.enter Tryz.func157 rfl Tryz.ntmps157 rfl fun G => ?_
  simp only [argE]
  repeat' (first | (refine WS_seqK ?_; intro K hK) | (refine hK _ ?_; clear hK K) | refine stZ ?_ | refine sqZ ?_ | (refine shZ ?_; intro g))
  exact ret_tmp (.inl rfl) rfl rfl ⟨g, rfl, finE⟩
theorem mset_le {κ ν : Type} [DecidableEq κ] (m : List (κ × ν)) (k : κ) (v : ν) : (mset m k v).length ≤ m.length + 1 := by
 rw [mset_length]; split <;> omega
theorem fillR_step {m : List (Rec × UInt32)} {ks : List Rec} {j : Nat} {x : Rec} {u : UInt32} (hx : ks[j]? = some x) (hu : mget m x = some u) : (fillR m (ks.take j) ++ ks.drop j).set j { x with seq := u } = fillR m (ks.take (j + 1)) ++ ks.drop (j + 1) := by
 obtain ⟨hlt, he⟩ := List.getElem?_eq_some_iff.1 hx
 have h1 : (fillR m (ks.take j)).length = j := by simp [fillR]; omega
 have h2 : ks.drop j = x :: ks.drop (j + 1) := by rw [← he, List.getElem_cons_drop]
 rw [List.take_add_one, hx, h2, List.set_append, if_neg (by omega), h1, Nat.sub_self, List.set_cons_zero]
 simp [fillR, hu]
theorem fillR_at {m : List (Rec × UInt32)} {ks : List Rec} {j : Nat} {x : Rec} (hx : ks[j]? = some x) : (fillR m (ks.take j) ++ ks.drop j)[j]? = some x := by
 obtain ⟨hlt, he⟩ := List.getElem?_eq_some_iff.1 hx
 have h1 : (fillR m (ks.take j)).length = j := by simp [fillR]; omega
 rw [List.getElem?_append_right (by omega), h1, Nat.sub_self, List.getElem?_drop]; exact hx
theorem fillR_len {m : List (Rec × UInt32)} {ks : List Rec} {j : Nat} (hj : j ≤ ks.length) : (fillR m (ks.take j) ++ ks.drop j).length = ks.length := by
 simp [fillR]; omega
set_option maxRecDepth 100000 in
theorem wcompact_spec (l : List Rec) (hl : l.length ≤ 100000) (v : Value) (X : HProp) [hX : Rdr w0 X v Rec 3 Rec.cells l] : Spec Tryz.prog w0 109 [v] X (fun m : Value => m) (fun m => rows 28 3 Rec.cells m (compR l) * X) := by
  refine Spec.enter Tryz.func109 rfl Tryz.ntmps109 rfl fun G => ?_
  simp only [argE]
  repeat' (first | (refine WS_seqK ?_; intro K hK) | (refine hK _ ?_; clear hK K) | refine stZ ?_ | refine sqZ ?_ | (refine LS_h (H_makeMap keyV u32) rfl ?_; intro r))
  refine WS_loop (fun k τ => ∃ (j : Nat) (m : List (Rec × UInt32)), j + k = l.length ∧ Most (l.take j) m ∧ m.length ≤ j ∧ τ = ⟨[(13, .int .i64 (j : Int)), (12, .int .i64 (l.length : Int)), (11, v), (3, .map (some r))], [], mp keyV u32 r m * (X * G)⟩) ?_ ?_
  · exact ⟨l.length, _, ⟨0, [], by omega, Most.nil, Nat.le_refl _, rfl⟩, ⟨rfl, rfl, rfl, rfl, trivial⟩, rfl, finE⟩
  · rintro k τ ⟨j, m, hjk, hm, hml, rfl⟩
    rcases Nat.lt_or_ge j l.length with hlt | hge
    · obtain ⟨z, hz⟩ : ∃ z, l[j]? = some z := ⟨_, List.getElem?_eq_getElem hlt⟩
      have hsn := hm.snoc z
      have htk : l.take j ++ [z] = l.take (j + 1) := by rw [List.take_add_one, hz, Option.toList_some]
      rw [htk] at hsn
      have hlen := mset_le m z.norm.key (max ((mget m z.norm.key).getD 0) z.seq)
      obtain ⟨o, a, q⟩ := z
      cases o
      · have hk0 : (⟨false, a, q⟩ : Rec).norm.key = ⟨false, a, 0⟩ := rfl
        rw [hk0] at hsn hlen
        cases hg : mget m ⟨false, a, 0⟩ with
        | none =>
          rw [hg] at hsn hlen
          simp only [Option.getD_none, Option.getD_some] at hsn hlen
          repeat' (first | (show WS _ _ _ (.region 9 _ true) _ _; refine WS_drawK (.range 9) 8 [1, 3, 4, 6, 7] (by decide +kernel) rfl ?_) | (refine WS_seqK ?_; intro K hK) | (refine hK _ ?_; clear hK K) | refine stZ ?_ | (refine s2Z ?_ ?_ <;> intro hc <;> (try simp only [cS] at hc) <;> (try (exfalso; first | contradiction | omega))) | refine sbZ ?_ | refine sqZ ?_ | ((first | refine' LQ ?zh rfl ?_ | refine' DL_qp rfl rfl rfl ?zh ?_ | refine' DL_q rfl rfl ?zh ?_); case zh => intro F'; exact Q_lookup_n rfl rfl iI iI iI iI iI (by assumption)) | (refine shZ ?_; intro g) | (refine s0Z ?_; intro g) | ((first | refine' LS_h0 ?zh ?_ | refine' DL_h0 ?zh rfl rfl ?_); (case zh => first | exact H_mapUpdate rfl rfl rfl iI iI iI iI iI | exact H_storeA rfl rfl iI iI (by first | rfl | (simp only [List.all_cons, List.all_nil, *]; rfl)) rfl); intro g))
          exact ⟨k - 1, _, by omega, ⟨j + 1, _, by omega, hsn, by have := hlen; omega, rfl⟩, ⟨rfl, rfl, rfl, rfl, trivial⟩, rfl, finE⟩
        | some u =>
          rw [hg] at hsn hlen
          simp only [Option.getD_none, Option.getD_some] at hsn hlen
          repeat' (first | (show WS _ _ _ (.region 9 _ true) _ _; refine WS_drawK (.range 9) 8 [1, 3, 4, 6, 7] (by decide +kernel) rfl ?_) | (refine WS_seqK ?_; intro K hK) | (refine hK _ ?_; clear hK K) | refine stZ ?_ | (refine s2Z ?_ ?_ <;> intro hc <;> (try simp only [cS] at hc) <;> (try (exfalso; first | contradiction | omega))) | refine sbZ ?_ | refine sqZ ?_ | ((first | refine' LQ ?zh rfl ?_ | refine' DL_qp rfl rfl rfl ?zh ?_ | refine' DL_q rfl rfl ?zh ?_); case zh => intro F'; exact Q_lookup_s rfl rfl iI iI iI iI iI (by assumption)) | (refine shZ ?_; intro g) | (refine s0Z ?_; intro g) | ((first | refine' LS_h0 ?zh ?_ | refine' DL_h0 ?zh rfl rfl ?_); (case zh => first | exact H_mapUpdate rfl rfl rfl iI iI iI iI iI | exact H_storeA rfl rfl iI iI (by first | rfl | (simp only [List.all_cons, List.all_nil, *]; rfl)) rfl); intro g))
          exact ⟨k - 1, _, by omega, ⟨j + 1, _, by omega, hsn, by have := hlen; omega, rfl⟩, ⟨rfl, rfl, rfl, rfl, trivial⟩, rfl, finE⟩
      · have hk0 : (⟨true, a, q⟩ : Rec).norm.key = ⟨true, 0, 0⟩ := rfl
        rw [hk0] at hsn hlen
        cases hg : mget m ⟨true, 0, 0⟩ with
        | none =>
          rw [hg] at hsn hlen
          simp only [Option.getD_none, Option.getD_some] at hsn hlen
          repeat' (first | (show WS _ _ _ (.region 9 _ true) _ _; refine WS_drawK (.range 9) 8 [1, 3, 4, 6, 7] (by decide +kernel) rfl ?_) | (refine WS_seqK ?_; intro K hK) | (refine hK _ ?_; clear hK K) | refine stZ ?_ | (refine s2Z ?_ ?_ <;> intro hc <;> (try simp only [cS] at hc) <;> (try (exfalso; first | contradiction | omega))) | refine sbZ ?_ | refine sqZ ?_ | ((first | refine' LQ ?zh rfl ?_ | refine' DL_qp rfl rfl rfl ?zh ?_ | refine' DL_q rfl rfl ?zh ?_); case zh => intro F'; exact Q_lookup_n rfl rfl iI iI iI iI iI (by assumption)) | (refine shZ ?_; intro g) | (refine s0Z ?_; intro g) | ((first | refine' LS_h0 ?zh ?_ | refine' DL_h0 ?zh rfl rfl ?_); (case zh => first | exact H_mapUpdate rfl rfl rfl iI iI iI iI iI | exact H_storeA rfl rfl iI iI (by first | rfl | (simp only [List.all_cons, List.all_nil, *]; rfl)) rfl); intro g))
          exact ⟨k - 1, _, by omega, ⟨j + 1, _, by omega, hsn, by have := hlen; omega, rfl⟩, ⟨rfl, rfl, rfl, rfl, trivial⟩, rfl, finE⟩
        | some u =>
          rw [hg] at hsn hlen
          simp only [Option.getD_none, Option.getD_some] at hsn hlen
          repeat' (first | (show WS _ _ _ (.region 9 _ true) _ _; refine WS_drawK (.range 9) 8 [1, 3, 4, 6, 7] (by decide +kernel) rfl ?_) | (refine WS_seqK ?_; intro K hK) | (refine hK _ ?_; clear hK K) | refine stZ ?_ | (refine s2Z ?_ ?_ <;> intro hc <;> (try simp only [cS] at hc) <;> (try (exfalso; first | contradiction | omega))) | refine sbZ ?_ | refine sqZ ?_ | ((first | refine' LQ ?zh rfl ?_ | refine' DL_qp rfl rfl rfl ?zh ?_ | refine' DL_q rfl rfl ?zh ?_); case zh => intro F'; exact Q_lookup_s rfl rfl iI iI iI iI iI (by assumption)) | (refine shZ ?_; intro g) | (refine s0Z ?_; intro g) | ((first | refine' LS_h0 ?zh ?_ | refine' DL_h0 ?zh rfl rfl ?_); (case zh => first | exact H_mapUpdate rfl rfl rfl iI iI iI iI iI | exact H_storeA rfl rfl iI iI (by first | rfl | (simp only [List.all_cons, List.all_nil, *]; rfl)) rfl); intro g))
          exact ⟨k - 1, _, by omega, ⟨j + 1, _, by omega, hsn, by have := hlen; omega, rfl⟩, ⟨rfl, rfl, rfl, rfl, trivial⟩, rfl, finE⟩
    · obtain rfl : j = l.length := by omega
      rw [List.take_length] at hm
      have hkeys := keysR_spec w0 r
      have hsorted : ∀ g, Spec Tryz.prog w0 156 [.func (.func 203) #[] [ptr g 0].toArray, .func (.func 158) #[] #[]] (cel g 252 [.map (some r)] * mp keyV u32 r m) (fun p : Value × (l : List Rec) × SortedR l => p.1) (fun p => pure' (p.2.1.Perm (m.map (·.1))) * (rows 28 3 Rec.cells p.1 p.2.2.l' * (cel g 252 [.map (some r)] * mp keyV u32 r m))) := fun g =>
        sortedR_spec w0 iI (keysR_iter w0 m r g) (fun xs hx => by have := hx.length_eq; simp at this; omega)
      repeat' (first | (refine WS_seqK ?_; intro K hK) | (refine hK _ ?_; clear hK K) | refine stZ ?_ | (refine s2Z ?_ ?_ <;> intro hc <;> (try simp only [cS] at hc) <;> (try (exfalso; first | contradiction | omega))) | refine sbZ ?_ | refine sqZ ?_ | (refine LS_h (H_callX iI rfl hkeys iI) rfl ?_; intro gk) | (refine LS_h (H_callX iI rfl (hsorted gk) iI) rfl ?_; rintro ⟨vk, l0, sk⟩; refine LS_pureI iI fun hp => ?_; dsimp only))
      have hp' : l0.Perm (m.map (·.1)) := hp
      have hpm : sk.l'.Perm (m.map (·.1)) := sk.perm.trans hp'
      have hfin := fill_comp hm hpm sk.rise
      have hkl : sk.l'.length ≤ 100000 := by have := hpm.length_eq; simp at this; omega
      refine WS_loop (fun k τ => ∃ j : Nat, j + k = sk.l'.length ∧ τ = ⟨[(36, .int .i64 (j : Int)), (35, .int .i64 (sk.l'.length : Int)), (34, vk), (7, vk), (3, .map (some r))], [], rows 28 3 Rec.cells vk (fillR m (sk.l'.take j) ++ sk.l'.drop j) * (mp keyV u32 r m * (X * G))⟩) ?_ ?_
      · exact ⟨sk.l'.length, _, ⟨0, by omega, rfl⟩, ⟨rfl, rfl, rfl, rfl, rfl, trivial⟩, rfl, by simp only [List.take_zero, List.drop_zero, fillR, List.map_nil, List.nil_append]; exact finE⟩
      · rintro k τ ⟨j, hjk2, rfl⟩
        have hfl := fillR_len (m := m) (ks := sk.l') (j := j) (by omega)
        rcases Nat.lt_or_ge j sk.l'.length with hlt | hge
        · obtain ⟨x, hx⟩ : ∃ z, sk.l'[j]? = some z := ⟨_, List.getElem?_eq_getElem hlt⟩
          have hxm : x ∈ m.map (·.1) := hpm.subset (List.mem_of_getElem? hx)
          obtain ⟨u, hu⟩ : ∃ u, mget m x = some u := by
            cases hg : mget m x with
            | none => exact absurd hxm ((mget_none_iff m x).1 hg)
            | some u => exact ⟨u, rfl⟩
          have hat := fillR_at (m := m) hx
          have hst := fillR_step hx hu
          have hj2 : j < (fillR m (sk.l'.take j) ++ sk.l'.drop j).length := by omega
          generalize fillR m (sk.l'.take j) ++ sk.l'.drop j = cur at hat hst hfl hj2 ⊢
          repeat' (first | (refine WS_seqK ?_; intro K hK) | (refine hK _ ?_; clear hK K) | refine stZ ?_ | (refine s2Z ?_ ?_ <;> intro hc <;> (try simp only [cS] at hc) <;> (try (exfalso; first | contradiction | omega))) | refine sbZ ?_ | refine sqZ ?_ | ((refine' LQ ?zh rfl ?_); case zh => intro F'; exact Q_lookup_s rfl rfl iI iI iI iI iI (by assumption)) | (refine shZ ?_; intro g) | ((refine' LS_h0 ?zh ?_); (case zh => exact H_storeA rfl rfl iI iI (by first | rfl | (simp only [List.all_cons, List.all_nil, *]; rfl)) rfl); intro g) | (refine LS_h0 (H_storeR (z := x) { x with seq := u } rfl rfl iI iI iI rfl (by assumption) rfl) ?_; intro g))
          exact ⟨k - 1, _, by omega, ⟨j + 1, by omega, rfl⟩, ⟨rfl, rfl, rfl, rfl, rfl, trivial⟩, rfl, by rw [← hst]; exact finE⟩
        · obtain rfl : j = sk.l'.length := by omega
          rw [List.take_length, List.drop_length, List.append_nil, hfin]
          repeat' (first | (refine WS_seqK ?_; intro K hK) | (refine hK _ ?_; clear hK K) | refine stZ ?_ | (refine s2Z ?_ ?_ <;> intro hc <;> (try simp only [cS] at hc) <;> (try (exfalso; first | contradiction | omega))) | refine sbZ ?_ | refine sqZ ?_)
          exact ret_tmp (.inl rfl) rfl rfl ⟨vk, rfl, finE⟩
end

section
open Go.RowKit
theorem WS_tabQ {P : Program} {n : Frm} {w0 : World} {E : Env} {D : List Deferred} {F : HProp} {c : Code} {Q : Exit → St → Prop} {g : Nat} {self : UInt32} {ls : List Ln} (h : ∀ r bs, bs.length = ls.length → WS P n w0 c Q ⟨E, D, tabP g r self bs ls * F⟩) : WS P n w0 c Q ⟨E, D, tabQ g self ls * F⟩ := by
 unfold tabQ
 refine WS_hex fun x => ?_
 rw [star_assoc]
 exact WS_pure fun hl => h x.1 x.2 hl
def Rec.ln (r : Rec) : Ln := ⟨r.addr, growS r.seq, 0, 0, false, 0, []⟩
def newStep (self : UInt32) (ls : List Ln) (r : Rec) : List Ln := if r.own = false ∧ r.addr ≠ self ∧ ls.length < 8 then putT ls r.ln else ls
def newT (self : UInt32) (c : List Rec) : List Ln := c.foldl (newStep self) []
theorem newT_snoc (self : UInt32) (c : List Rec) (r : Rec) : newT self (c ++ [r]) = newStep self (newT self c) r := by simp [newT]
theorem putT_length (ls : List Ln) (x : Ln) : (putT ls x).length ≤ ls.length + 1 := by unfold putT; split <;> simp
theorem newT_length (self : UInt32) (c : List Rec) : (newT self c).length ≤ 8 := by
 induction c using snocInd with
 | nil => simp [newT]
 | snoc c r ih =>
  rw [newT_snoc]; unfold newStep
  split
  ·rename_i h; have := putT_length (newT self c) r.ln; omega
  ·exact ih
attribute [local irreducible] WS LS OpQ OpT OpH OpTQ Spec SpecQ cel
variable (w0 : World)
set_option maxRecDepth 100000 in
theorem newT_spec (self : UInt32) (l : List Rec) (hl : l.length ≤ 100000) (v : Value) (X : HProp) [hX : Rdr w0 X v Rec 3 Rec.cells l] :
    Spec Tryz.prog w0 56 [u32 self, v] X (fun g : Nat => ptr g 0) (fun g => tabQ g self (newT self (compR l)) * X) := by
  have hcomp := wcompact_spec w0 l hl v X
  refine Spec.enter Tryz.func56 rfl Tryz.ntmps56 rfl fun G => ?_
  simp only [argE]
  repeat' (first | (refine WS_seqK ?_; intro K hK) | (refine hK _ ?_; clear hK K) | refine stZ ?_ | refine sqZ ?_ | (refine shZ ?_; intro g) | (refine LS_h (H_makeMap u32 ptrV) rfl ?_; intro r) | (refine LS_h (H_callX iI rfl hcomp iI) rfl ?_; intro vc))
  revert g; intro gt
  have hcl := compR_length l
  generalize compR l = c at *
  refine WS_loop (fun k τ => ∃ j : Nat, j + k = c.length ∧ τ = ⟨[(15, .int .i64 (j : Int)), (14, .int .i64 (c.length : Int)), (13, vc), (5, ptr gt 0), (0, u32 self)], [], tabQ gt self (newT self (c.take j)) * (rows 28 3 Rec.cells vc c * (X * G))⟩) ?_ ?_
  · exact ⟨c.length, _, ⟨0, by omega, rfl⟩, ⟨rfl, rfl, rfl, rfl, rfl, trivial⟩, rfl, Ent.tabQ (r := r) (bs := []) rfl (by simp only [newT, List.take_zero, List.foldl_nil, tabP, lmap, List.zipWith_nil_left, linesP]; exact finE)⟩
  · rintro k τ ⟨j, hjk, rfl⟩
    clear r
    refine WS_tabQ fun r bs hlen => ?_
    rcases Nat.lt_or_ge j c.length with hlt | hge
    · obtain ⟨⟨zo, za, zs⟩, hz⟩ : ∃ z, c[j]? = some z := ⟨_, List.getElem?_eq_getElem hlt⟩
      have htk : newT self (c.take (j + 1)) = newStep self (newT self (c.take j)) ⟨zo, za, zs⟩ := by rw [List.take_add_one, hz, Option.toList_some, newT_snoc]
      have hml : (lmap bs (newT self (c.take j))).length = (newT self (c.take j)).length := by simp [lmap, hlen]
      have hl8 := newT_length self (c.take j)
      have hgr := grow_spec w0 zs
      have hput := put_specT w0 gt r self bs (newT self (c.take j)) hlen (Rec.ln ⟨zo, za, zs⟩) rfl
      simp only [routeC, Rec.ln, growS, u32_0, u64_0] at hput
      cases zo
      · by_cases h1 : za = self
        · have hst : newStep self (newT self (c.take j)) ⟨false, za, zs⟩ = newT self (c.take j) := by simp [newStep, h1]
          rw [hst] at htk
          simp only [tabP]
          repeat' (first | (refine WS_seqK ?_; intro K hK) | (refine hK _ ?_; clear hK K) | refine stZ ?_ | (refine s2Z ?_ ?_ <;> intro hc <;> (try simp only [cS] at hc) <;> (try (exfalso; first | contradiction | omega))) | refine sbZ ?_ | refine sqZ ?_ | (refine shZ ?_; intro g) | ((refine' LS_h0 ?zh ?_); (case zh => exact H_storeA rfl rfl iI iI (by first | rfl | (simp only [List.all_cons, List.all_nil, *]; rfl)) rfl); intro g))
          exact ⟨k - 1, _, by omega, ⟨j + 1, by omega, rfl⟩, ⟨rfl, rfl, rfl, rfl, rfl, trivial⟩, rfl, by rw [htk]; exact Ent.tabQ (r := r) (bs := bs) hlen (by unfold tabP; exact finE)⟩
        · by_cases h2 : (newT self (c.take j)).length < 8
          · have hst : newStep self (newT self (c.take j)) ⟨false, za, zs⟩ = putT (newT self (c.take j)) (Rec.ln ⟨false, za, zs⟩) := by simp [newStep, h1, h2]
            rw [hst] at htk
            simp only [tabP] at hput ⊢
            repeat' (first | (show WS _ _ _ (.region 6 _ true) _ _; refine WS_drawK (.range 8) 7 [2, 4] (by decide +kernel) rfl ?_) | (refine WS_seqK ?_; intro K hK) | (refine hK _ ?_; clear hK K) | refine stZ ?_ | (refine s2Z ?_ ?_ <;> intro hc <;> (try simp only [cS] at hc) <;> (try (exfalso; first | contradiction | omega))) | refine sbZ ?_ | refine sqZ ?_ | (refine shZ ?_; intro g) | ((refine' LS_h0 ?zh ?_); (case zh => exact H_storeA rfl rfl iI iI (by first | rfl | (simp only [List.all_cons, List.all_nil, *]; rfl)) rfl); intro g) | (refine DL_h (H_callX iI rfl hgr iI) rfl rfl rfl ?_; intro u) | (refine DL_h (H_callX iI rfl hput iI) rfl rfl rfl ?_; intro u))
            exact ⟨k - 1, _, by omega, ⟨j + 1, by omega, rfl⟩, ⟨rfl, rfl, rfl, rfl, rfl, trivial⟩, rfl, by rw [htk]; simp only [Rec.ln, growS]; exact finE⟩
          · have hst : newStep self (newT self (c.take j)) ⟨false, za, zs⟩ = newT self (c.take j) := by simp [newStep, h2]
            rw [hst] at htk
            simp only [tabP]
            repeat' (first | (refine WS_seqK ?_; intro K hK) | (refine hK _ ?_; clear hK K) | refine stZ ?_ | (refine s2Z ?_ ?_ <;> intro hc <;> (try simp only [cS] at hc) <;> (try (exfalso; first | contradiction | omega))) | refine sbZ ?_ | refine sqZ ?_ | (refine shZ ?_; intro g) | ((refine' LS_h0 ?zh ?_); (case zh => exact H_storeA rfl rfl iI iI (by first | rfl | (simp only [List.all_cons, List.all_nil, *]; rfl)) rfl); intro g))
            exact ⟨k - 1, _, by omega, ⟨j + 1, by omega, rfl⟩, ⟨rfl, rfl, rfl, rfl, rfl, trivial⟩, rfl, by rw [htk]; exact Ent.tabQ (r := r) (bs := bs) hlen (by unfold tabP; exact finE)⟩
      · have hst : newStep self (newT self (c.take j)) ⟨true, za, zs⟩ = newT self (c.take j) := by simp [newStep]
        rw [hst] at htk
        simp only [tabP]
        repeat' (first | (refine WS_seqK ?_; intro K hK) | (refine hK _ ?_; clear hK K) | refine stZ ?_ | (refine s2Z ?_ ?_ <;> intro hc <;> (try simp only [cS] at hc) <;> (try (exfalso; first | contradiction | omega))) | refine sbZ ?_ | refine sqZ ?_ | (refine shZ ?_; intro g) | ((refine' LS_h0 ?zh ?_); (case zh => exact H_storeA rfl rfl iI iI (by first | rfl | (simp only [List.all_cons, List.all_nil, *]; rfl)) rfl); intro g))
        exact ⟨k - 1, _, by omega, ⟨j + 1, by omega, rfl⟩, ⟨rfl, rfl, rfl, rfl, rfl, trivial⟩, rfl, by rw [htk]; exact Ent.tabQ (r := r) (bs := bs) hlen (by unfold tabP; exact finE)⟩
    · obtain rfl : j = c.length := by omega
      simp only [List.take_length] at hlen ⊢
      repeat' (first | (refine WS_seqK ?_; intro K hK) | (refine hK _ ?_; clear hK K) | refine stZ ?_ | (refine s2Z ?_ ?_ <;> intro hc <;> (try simp only [cS] at hc) <;> (try (exfalso; first | contradiction | omega))) | refine sbZ ?_ | refine sqZ ?_)
      exact ret_tmp (.inl rfl) rfl rfl ⟨gt, rfl, by rw [star_assoc]; exact Ent.tabQ (r := r) (bs := bs) hlen (finE)⟩
end

section
open Go.RowKit
variable {P : Program} {n : Frm} {w0 : World} {E : Env} {D : List Deferred} {H F F2 R : HProp} {ops : Array Oper} {Q : Exit → St → Prop} {σ : St}
def maskD (m : Nat) : List Nat → Array Bool
 | [] => Array.replicate m false
 | i :: r => (maskD m r).setIfInBounds i true
def AS (P : Program) (n : Frm) (w0 : World) (ops : Array Oper) (Q : Exit → St → Prop) (done : List Nat) (σ : St) : Prop :=
 ∀ a w, Good n w0 σ a w → wpAnyIn (fen n.round) 0 P .any ops (lift n w0 Q) (ops.size - done.length) (maskD ops.size done) a w
def AO (P : Program) (n : Frm) (w0 : World) (ops : Array Oper) (Q : Exit → St → Prop) (done : List Nat) (i : Nat) (σ : St) : Prop :=
 ∀ a w, Good n w0 σ a w → wpOpIn (fen n.round) 0 P ops (lift n w0 Q) i (wpAnyIn (fen n.round) 0 P .any ops (lift n w0 Q) (ops.size - (i :: done).length) (maskD ops.size (i :: done))) a w
def allO (P : Program) (n : Frm) (w0 : World) (ops : Array Oper) (Q : Exit → St → Prop) (done : List Nat) (σ : St) : List Nat → Prop
 | [] => True
 | i :: r => AO P n w0 ops Q done i σ ∧ allO P n w0 ops Q done σ r
theorem allO_mem {done : List Nat} : ∀ {r : List Nat}, allO P n w0 ops Q done σ r → ∀ i ∈ r, AO P n w0 ops Q done i σ
 | [], _, i, hi => by cases hi
 | j :: r, h, i, hi => by
  rcases List.mem_cons.1 hi with rfl | hi
  ·exact h.1
  ·exact allO_mem h.2 i hi
theorem AS_step {done r : List Nat} (hr : Region.ready .any ops (maskD ops.size done) = r) (hlt : Nat.blt done.length ops.size = true) (hne : r.isEmpty = false) (h : allO P n w0 ops Q done σ r) : AS P n w0 ops Q done σ := fun a w g => by
 have hlt' : done.length < ops.size := by simpa using hlt
 obtain ⟨f, hf⟩ : ∃ f, ops.size - done.length = f + 1 := ⟨ops.size - done.length - 1, by omega⟩
 have hf2 : ops.size - ((0 : Nat) :: done).length = f := by simp; omega
 rw [hf]
 refine ⟨fun h0 => ?_, fun i hi => ?_⟩
 ·rw [hr] at h0; subst h0; cases hne
 ·rw [hr] at hi
  have := allO_mem h i hi a w g
  have e : ops.size - (i :: done).length = f := by simp; omega
  rw [e] at this
  exact this
theorem AO_q {done : List Nat} {i d : Nat} {op : Op} {ty : TypeId} {pos : String} {after : Array Edge} {v : Value} (hi : ops[i]? = some ⟨some d, op, ty, pos, after, none⟩) (hop : OpQ P n w0 ⟨some d, op, ty, pos, after, none⟩ E H v) (hd : Nat.blt d n.tmps = true) (h : AS P n w0 ops Q (i :: done) ⟨(d, v) :: E, D, H⟩) : AO P n w0 ops Q done i ⟨E, D, H⟩ := fun a w g => by
 unfold wpOpIn
 rw [hi]
 simp only
 rw [if_pos (by rfl)]
 exact hop.toIn g.sees g.sat (h _ _ ⟨g.sees.putO (some d) _ hd, g.defers, g.sat⟩)
theorem AO_h {done : List Nat} {i d : Nat} {op : Op} {ty : TypeId} {pos : String} {after : Array Edge} {α : Type} {v : α → Value} {post : α → HProp} (hi : ops[i]? = some ⟨some d, op, ty, pos, after, none⟩) (hop : OpH P n w0 ⟨some d, op, ty, pos, after, none⟩ E H v post) (hd : Nat.blt d n.tmps = true) (h : ∀ x, AS P n w0 ops Q (i :: done) ⟨(d, v x) :: E, D, post x⟩) : AO P n w0 ops Q done i ⟨E, D, H⟩ := fun a w g => by
 unfold wpOpIn
 rw [hi]
 simp only
 rw [if_pos (by rfl)]
 obtain ⟨pre, post', G, hT, hH, hp⟩ := hop
 exact hT.toIn G g.sees (g.sat.cast hH) fun x w' hs => h x _ _ ⟨g.sees.putO (some d) _ hd, g.defers, hs.cast (hp x).symm⟩
theorem AO_x {done : List Nat} {i : Nat} {f : FuncId} {args : List Value} {pre post : HProp} {chain : List PanicEntry} {d : Option Tmp} {xs : List Operand} {ts : Array TypeId} {ty : TypeId} {pos : String} {after : Array Edge} (hi : ops[i]? = some ⟨d, .call ⟨.value (.func f), xs.toArray, ts⟩, ty, pos, after, none⟩) (hf : IsFun P f) (hargs : E.evs xs = some args) (spec : SpecX P w0 f args pre chain post) (hH : Own H pre F) (h : Q (.panic chain) ⟨E, D, post * F⟩) : AO P n w0 ops Q done i ⟨E, D, H⟩ := fun a w g => by
 unfold wpOpIn
 rw [hi]
 simp only
 rw [if_pos (by rfl)]
 refine wpIn_of_wp (.inr (fun c hc => by cases hc)) ?_
 have e := g.sees.evs hargs
 have hr : (execOp a.eval ⟨d, .call ⟨.value (.func f), xs.toArray, ts⟩, ty, pos, after, none⟩).run P w = .ok (.enter f args.toArray) w := by
  have h := run_callFunc hf args.toArray w
  simp [execOp, resolve, Act.eval, Deferred.ofValue, invoke, e, h]
 unfold Oper.wp
 rw [hr]
 refine (spec F w (g.sat.cast hH.eq)).mono ?_
 rintro e w' ⟨rfl, hs'⟩
 exact ⟨_, h, g.sees, g.defers, hs'⟩
theorem WS_drawAny {id : Nat} {l : List Oper} (hm : P.follows .mixedOrders = true) (h : AS P n w0 l.toArray Q [] ⟨E, D, H⟩) : WS P n w0 (.region id l.toArray true) Q ⟨E, D, H⟩ := fun a w g => by
 refine wpIn_region_any hm ?_
 exact h a w.drew ⟨g.sees, g.defers, g.sat.drew⟩
theorem WS_drawM {l l' : List Oper} {id : Nat} (t : Nat) (idx : List Nat) (cp : Nat) (bs : List Nat) {g off : Nat} {bt : TypeId} {cs : List Value} (hs : statD P l idx (inB bs) cp = true) (hl : permL l idx = some l') (hx : E.get t = some (ptr g off)) (hL : LimbB H g bt cs F) (h : DL P n w0 l.toArray Q D emp (cel g bt cs) (inB bs) cp 0 false l' E F) : WS P n w0 (.region id l.toArray true) Q ⟨E, D, H⟩ :=
 WS_draw idx l' emp (cel g bt cs) F _ cp hs (by rw [emp_star]; exact hL.eq) (permL_eq hl) h
theorem WS_drawN {l l' : List Oper} {id : Nat} (t t2 : Nat) (idx : List Nat) (cp : Nat) (bs : List Nat) {g off g2 off2 : Nat} {bt bt2 : TypeId} {cs cs2 : List Value} {F1 : HProp} (hs : statD P l idx (inB bs) cp = true) (hl : permL l idx = some l') (hx : E.get t = some (ptr g off)) (hx2 : E.get t2 = some (ptr g2 off2)) (hR : LimbB H g2 bt2 cs2 F1) (hL : LimbB F1 g bt cs F) (h : DL P n w0 l.toArray Q D (cel g2 bt2 cs2) (cel g bt cs) (inB bs) cp 0 false l' E F) : WS P n w0 (.region id l.toArray true) Q ⟨E, D, H⟩ :=
 WS_draw idx l' (cel g2 bt2 cs2) (cel g bt cs) F _ cp hs (by rw [hR.eq, hL.eq]) (permL_eq hl) h
end

section
open Go.RowKit
def blkOf (bs : List (Nat × Nat)) (ls : List Ln) (d : UInt32) : Nat := (mget (lmap bs ls) d).getD 0
theorem mget_dest {bs : List (Nat × Nat)} {ls : List Ln} {d : UInt32} (hlen : bs.length = ls.length) (hd : d ∈ dests ls) : mget (lmap bs ls) d = some (blkOf bs ls d) := by
 unfold blkOf
 cases h : mget (lmap bs ls) d with
 | none => exact absurd (by rw [lmap_fst hlen]; exact hd) ((mget_none_iff _ d).1 h)
 | some b => rfl
theorem mem_sortU {l : List UInt32} {d : UInt32} : d ∈ sortU l ↔ d ∈ l := (List.mergeSort_perm l _).mem_iff
theorem sortU_length (l : List UInt32) : (sortU l).length = l.length := (List.mergeSort_perm l _).length_eq
def brkL (nb : UInt32) (pre : List UInt32) (ls : List Ln) : List Ln := ls.map fun l => if l.dest ∈ pre then l.brk nb else l
def brkT (nb : UInt32) (ls : List Ln) : List Ln := ls.map (Ln.brk nb)
def outB (nb : UInt32) (pre : List UInt32) (ls : List Ln) : List (UInt32 × UInt32) := pre.filterMap fun d => match lget ls d with
 | some l => if l.valid = true ∧ l.next = nb ∧ 0 < l.before.length then some (l.dest, (l.ended 0).seq) else none
 | none => none
theorem brkL_nil (nb : UInt32) (ls : List Ln) : brkL nb [] ls = ls := by simp [brkL]
theorem brkL_all (nb : UInt32) (ls : List Ln) : brkL nb (sortU (dests ls)) ls = brkT nb ls := by
 apply List.map_congr_left
 intro l hl
 have : l.dest ∈ sortU (dests ls) := mem_sortU.2 (List.mem_map.2 ⟨l, hl, rfl⟩)
 rw [if_pos this]
theorem brk_dest (nb : UInt32) (l : Ln) : (l.brk nb).dest = l.dest := by unfold Ln.brk; split <;> rfl
theorem brkT_lmap (nb : UInt32) (bs : List (Nat × Nat)) (ls : List Ln) : lmap bs (brkT nb ls) = lmap bs ls := by
 apply List.ext_getElem?
 intro j
 simp only [lmap, brkT, List.getElem?_zipWith, List.getElem?_map]
 cases bs[j]? <;> cases ls[j]? <;> simp [brk_dest]
theorem brk_step {nb : UInt32} {pre : List UInt32} {ls : List Ln} {j : Nat} {d : UInt32} {l : Ln} (hn : (dests ls).Nodup) (hl : ls[j]? = some l) (hd : l.dest = d) (hp : d ∉ pre) :
  (brkL nb pre ls)[j]? = some l ∧ (brkL nb pre ls).set j (l.brk nb) = brkL nb (pre ++ [d]) ls := by
 refine ⟨by simp only [brkL, List.getElem?_map, hl, Option.map_some]; rw [if_neg (hd ▸ hp)], ?_⟩
 apply List.ext_getElem?
 intro m
 have hlt := (List.getElem?_eq_some_iff.1 hl).1
 rw [List.getElem?_set]
 simp only [brkL, List.getElem?_map, List.length_map]
 by_cases e : j = m
 ·subst e
  rw [if_pos rfl, if_pos hlt, hl, Option.map_some, if_pos (by simp [hd])]
 ·rw [if_neg e]
  cases hm : ls[m]? with
  | none => rfl
  | some x =>
   simp only [Option.map_some]
   have hne : x.dest ≠ d := fun hx => e (by
    have h1 := lfind_nodup hn hl
    have h2 := lfind_nodup hn hm
    rw [hd] at h1; rw [hx, h1] at h2; exact Option.some.inj h2)
   congr 1
   by_cases hx : x.dest ∈ pre
   ·rw [if_pos hx, if_pos (by simp [hx])]
   ·rw [if_neg hx, if_neg (by simp [hx, hne])]
attribute [local irreducible] WS LS OpQ OpT OpH OpTQ Spec SpecQ cel
variable (w0 : World)
set_option maxRecDepth 100000 in
theorem inOrder_iter (gt r : Nat) (self : UInt32) (bs : List (Nat × Nat)) (ls : List Ln) (hlen : bs.length = ls.length) (h12 : ls.length ≤ 12) :
    IterG Tryz.prog w0 122 [ptr gt 0] [] (cel gt 216 [u32 self, .map (some r)] * mp u32 ptrV r (lmap bs ls)) (fun d => [ptr (blkOf bs ls d) 0]) (fun xs => xs = sortU (dests ls)) := by
  intro l J Jx hY
  have hkeys := keysLf_spec w0 r
  have hs : ∀ gk, Spec Tryz.prog w0 181 [.func (.func 218) #[] [ptr gk 0].toArray] (cel gk 214 [.map (some r)] * mp u32 ptrV r (lmap bs ls)) (fun p : Value × (l : List UInt32) × SortedU l => p.1) (fun p => pure' (p.2.1.Perm ((lmap bs ls).map (·.1))) * (rows 26 1 wordC p.1 p.2.2.l' * (cel gk 214 [.map (some r)] * mp u32 ptrV r (lmap bs ls)))) := fun gk =>
    sorted32_spec w0 iI (keysL_iter w0 (lmap bs ls) r gk) (fun xs hx => by have := hx.length_eq; rw [lmap_fst hlen] at this; simp [dests] at this; omega)
  refine Spec.enter Tryz.func122 rfl Tryz.ntmps122 rfl fun G => ?_
  simp only [List.cons_append, List.nil_append, argE]
  repeat' (first | (refine WS_seqK ?_; intro K hK) | (refine hK _ ?_; clear hK K) | refine stZ ?_ | refine sqZ ?_ | (refine LS_h (H_callX iI rfl hkeys iI) rfl ?_; intro gk) | (refine LS_h (H_callX iI rfl (hs gk) iI) rfl ?_; rintro ⟨vk, l0, sk⟩; refine LS_pureI iI fun hp => ?_; dsimp only))
  have hp' : l0.Perm (dests ls) := by rw [← lmap_fst hlen]; exact hp
  have hsk := sortU_eq hp' sk
  rw [hsk]
  have hxl := sortU_length (dests ls)
  have hdl : (dests ls).length = ls.length := by simp [dests]
  have hmem : ∀ d ∈ sortU (dests ls), mget (lmap bs ls) d = some (blkOf bs ls d) := fun d hd => mget_dest hlen (mem_sortU.1 hd)
  generalize hxs : sortU (dests ls) = xs at *
  refine WS_loop (fun k τ => ∃ j : Nat, j + k = xs.length ∧ τ = ⟨[(13, .int .i64 (j : Int)), (12, .int .i64 (xs.length : Int)), (11, vk), (0, ptr gt 0), (1, yieldV l)], [], rows 26 1 wordC vk xs * (J (xs.take j) * (cel gt 216 [u32 self, .map (some r)] * (mp u32 ptrV r (lmap bs ls) * G)))⟩) ?_ ?_
  · exact ⟨xs.length, _, ⟨0, by omega, rfl⟩, ⟨rfl, rfl, rfl, rfl, rfl, trivial⟩, rfl, by rw [List.take_zero]; exact finE⟩
  · rintro k τ ⟨j, hjk, rfl⟩
    rcases Nat.lt_or_ge j xs.length with hlt | hge
    · obtain ⟨d, hz⟩ : ∃ z, xs[j]? = some z := ⟨_, List.getElem?_eq_getElem hlt⟩
      have hg := hmem d (List.mem_of_getElem? hz)
      have htk : xs.take j ++ [d] = xs.take (j + 1) := by rw [List.take_add_one, hz, Option.toList_some]
      have hyl := hY (xs.take j) d ⟨xs, rfl, by rw [htk]; exact List.take_prefix _ _⟩
      rw [htk] at hyl
      repeat' (first | (refine WS_seqK ?_; intro K hK) | (refine hK _ ?_; clear hK K) | refine stZ ?_ | (refine s2Z ?_ ?_ <;> intro hc <;> (try simp only [cS] at hc) <;> (try (exfalso; first | contradiction | omega))) | refine sbZ ?_ | refine sqZ ?_ | ((refine' LQ ?zh rfl ?_); case zh => intro F'; exact Q_lookup_s rfl rfl iI iI iI iI iI (by assumption)) | (refine LS_i (I_yield rfl rfl rfl hyl) iI rfl ?_; rintro (_ | _) <;> simp only [cond_true, cond_false]))
      · exact ret_none (.inl rfl) rfl ⟨(xs.take (j + 1), false), rfl, by simp only [cond_false]; exact finE⟩
      · exact ⟨k - 1, _, by omega, ⟨j + 1, by omega, rfl⟩, ⟨rfl, rfl, rfl, rfl, rfl, trivial⟩, rfl, finE⟩
    · obtain rfl : j = xs.length := by omega
      rw [List.take_length]
      repeat' (first | (refine WS_seqK ?_; intro K hK) | (refine hK _ ?_; clear hK K) | refine stZ ?_ | (refine s2Z ?_ ?_ <;> intro hc <;> (try simp only [cS] at hc) <;> (try (exfalso; first | contradiction | omega))) | refine sbZ ?_)
      refine ret_none (.inr rfl) rfl ⟨(xs, true), rfl, ?_⟩
      simp only [cond_true]
      rw [star_assoc (pure' _)]
      exact Ent.pureI trivial (finE)
set_option maxRecDepth 100000 in
theorem broken_specT (gt r : Nat) (self : UInt32) (bs : List (Nat × Nat)) (ls : List Ln) (hlen : bs.length = ls.length) (hn : (dests ls).Nodup) (h12 : ls.length ≤ 12) (nb : UInt32) :
    Spec Tryz.prog w0 194 [ptr gt 0, u32 nb] (tabP gt r self bs ls) (fun v : Value => v) (fun v => rows 180 2 lostC v (outB nb (sortU (dests ls)) ls) * tabP gt r self bs (brkT nb ls)) := by
  have it := inOrder_iter w0 gt r self bs ls hlen h12
  have hns : (sortU (dests ls)).Nodup := ((List.mergeSort_perm (dests ls) _).nodup_iff).2 hn
  refine Spec.enterM Tryz.func194 rfl Tryz.ntmps194 rfl fun G => ?_
  simp only [argE, tabP]
  repeat' (first | (refine WS_seqK ?_; intro K hK) | (refine hK _ ?_; clear hK K) | refine stZ ?_ | refine sqZ ?_ | (refine shZ ?_; intro g))
  rename_i g3
  revert g; intro g5
  refine WS_ent (Ent.nil _ 180 2 lostC none) ?_
  refine WS_ent (H' := (cel gt 216 [u32 self, .map (some r)] * mp u32 ptrV r (lmap bs ls)) * ((hex fun v => cel g5 42 [v] * (rows 180 2 lostC v (outB nb [] ls) * (cel g3 26 [u32 nb] * linesP bs (brkL nb [] ls)))) * G)) (Ent.trans (F := (hex fun v => cel g5 42 [v] * (rows 180 2 lostC v (outB nb [] ls) * (cel g3 26 [u32 nb] * linesP bs (brkL nb [] ls)))) * ((cel gt 216 [u32 self, .map (some r)] * mp u32 ptrV r (lmap bs ls)) * G)) (Ent.hexI (p := fun v => cel g5 42 [v] * (rows 180 2 lostC v (outB nb [] ls) * (cel g3 26 [u32 nb] * linesP bs (brkL nb [] ls)))) (Value.slice none 0 0) (by rw [brkL_nil]; simp only [outB, List.filterMap_nil]; exact finE)) (finE)) ?_
  refine WS_rangeFuncG (fb := [ptr gt 0]) rfl rfl iI it rfl (fun _ => rfl) (fun pre => hex fun v => cel g5 42 [v] * (rows 180 2 lostC v (outB nb pre ls) * (cel g3 26 [u32 nb] * linesP bs (brkL nb pre ls)))) (fun _ _ => pure' False) rfl ?_ ?_ ?_
  · rintro l pre d R ⟨xs, rfl, hpx⟩
    have hdm : d ∈ dests ls := mem_sortU.1 (hpx.subset (by simp))
    have hpl : pre.length + 1 ≤ 12 := by
      have := hpx.length_le
      rw [sortU_length] at this
      simp [dests] at this; omega
    have hdp : d ∉ pre := by
      have h1 := hpx.sublist.nodup hns
      rw [List.nodup_append] at h1
      exact fun h => h1.2.2 d h d (by simp) rfl
    have hmg := mget_dest hlen hdm
    obtain ⟨j, rb, x, hx, hbj, hxd⟩ := lmap_mem (by obtain ⟨i, _, hi⟩ := mget_some hmg; exact List.mem_of_getElem? hi)
    obtain ⟨hat, hst⟩ := brk_step (nb := nb) hn hx hxd hdp
    obtain ⟨F, h1, h2⟩ := linesP_hole hbj hat
    have h3 := h2 (x.brk nb)
    rw [hst] at h3
    have hgl : lget ls d = some x := lget_some (hxd ▸ lfind_nodup hn hx) hx
    have hol : (outB nb pre ls).length ≤ pre.length := List.length_filterMap_le _ _
    have hen := end_spec w0 (blkOf bs ls d) rb x 0
    have hbl := bmap_length x.before
    generalize blkOf bs ls d = b at *
    refine WS_hex fun v => ?_
    rw [h1]
    simp only [linP, lineC, bindE] at hen ⊢
    repeat' (first | refine stZ ?_ | refine sqZ ?_)
    refine asgS_mk rfl (cel g5 42 [v] * (rows 180 2 lostC v (outB nb pre ls) * (cel g3 26 [u32 nb] * (cel b 230 (lineC x rb) * (mp u32 unitV rb (bmap x.before) * F))))) (by simp only [lineC]; exact finE) fun R' => ?_
    simp only [lineC]
    by_cases c1 : x.valid = true ∧ x.next = nb
    · obtain ⟨c1, c2⟩ := c1
      have hbk : x.brk nb = x.ended 0 := by simp [Ln.brk, c1, c2]
      rw [hbk] at h3
      rw [c1] at hen ⊢
      by_cases c3 : 0 < x.before.length
      · have ho : outB nb (pre ++ [d]) ls = outB nb pre ls ++ [(x.dest, (x.ended 0).seq)] := by simp [outB, hgl, c1, c2, c3, hxd]
        repeat' (first | (show WS _ _ _ (.region 4 _ true) _ _; refine WS_drawA (.range 14) (by decide +kernel) rfl ?_) | (show WS _ _ _ (.region 8 _ true) _ _; first | refine WS_drawK (.range 15) 13 [0, 5, 10] (by decide +kernel) rfl ?_ | refine WS_drawN 5 6 (.range 15) 14 [0] (by decide +kernel) rfl rfl rfl iI iI ?_) | (refine WS_seqK ?_; intro K hK) | (refine hK _ ?_; clear hK K) | refine stZ ?_ | (refine s2Z ?_ ?_ <;> intro hc <;> (try simp only [cS] at hc) <;> (try (exfalso; first | contradiction | omega))) | refine sbZ ?_ | refine sqZ ?_ | (refine s0Z ?_; intro g) | (refine LS_h (H_callX iI rfl hen iI) rfl ?_; intro u) | (refine DL_h (H_buildSliceR lostC [(x.dest, (x.ended 0).seq)] iI iI iI rfl rfl rfl rfl rfl iI rfl rfl rfl) rfl rfl rfl ?_; intro vs) | (refine DL_h (H_appendR rfl rfl iI iI rfl iI iI lostC_one (by first | omega | (simp [be_length] <;> omega)) rfl) rfl rfl rfl ?_; intro va))
        show Ent _ ((hex _) * R')
        refine Ent.hexI va ?_
        rw [ho, h3]
        simp only [linP, lineC]
        exact finE
      · have ho : outB nb (pre ++ [d]) ls = outB nb pre ls := by simp [outB, hgl, c3]
        repeat' (first | (show WS _ _ _ (.region 4 _ true) _ _; refine WS_drawA (.range 14) (by decide +kernel) rfl ?_) | (refine WS_seqK ?_; intro K hK) | (refine hK _ ?_; clear hK K) | refine stZ ?_ | (refine s2Z ?_ ?_ <;> intro hc <;> (try simp only [cS] at hc) <;> (try (exfalso; first | contradiction | omega))) | refine sbZ ?_ | refine sqZ ?_ | (refine LS_h (H_callX iI rfl hen iI) rfl ?_; intro u))
        show Ent _ ((hex _) * R')
        refine Ent.hexI v ?_
        rw [ho, h3]
        simp only [linP, lineC]
        exact finE
    · have hbk : x.brk nb = x := by unfold Ln.brk; rw [if_neg c1]
      rw [hbk] at h3
      have ho : outB nb (pre ++ [d]) ls = outB nb pre ls := by
        have : ¬ (x.valid = true ∧ x.next = nb ∧ 0 < x.before.length) := fun h => c1 ⟨h.1, h.2.1⟩
        simp only [outB, List.filterMap_append, List.filterMap_cons, List.filterMap_nil, hgl, if_neg this, List.append_nil]
      by_cases c2 : x.valid = true
      · have c3 : ¬ x.next = nb := fun h => c1 ⟨c2, h⟩
        rw [c2]
        repeat' (first | (show WS _ _ _ (.region 4 _ true) _ _; refine WS_drawA (.range 14) (by decide +kernel) rfl ?_) | (refine WS_seqK ?_; intro K hK) | (refine hK _ ?_; clear hK K) | refine stZ ?_ | (refine s2Z ?_ ?_ <;> intro hc <;> (try simp only [cS] at hc) <;> (try (exfalso; first | contradiction | omega))) | refine sbZ ?_ | refine sqZ ?_)
        show Ent _ ((hex _) * R')
        refine Ent.hexI v ?_
        rw [ho, h3]
        simp only [linP, lineC, c2]
        exact finE
      · have c2' : x.valid = false := by simpa using c2
        rw [c2']
        repeat' (first | (show WS _ _ _ (.region 4 _ true) _ _; refine WS_drawA (.range 14) (by decide +kernel) rfl ?_) | (refine WS_seqK ?_; intro K hK) | (refine hK _ ?_; clear hK K) | refine stZ ?_ | (refine s2Z ?_ ?_ <;> intro hc <;> (try simp only [cS] at hc) <;> (try (exfalso; first | contradiction | omega))) | refine sqZ ?_)
        show Ent _ ((hex _) * R')
        refine Ent.hexI v ?_
        rw [ho, h3]
        simp only [linP, lineC, c2']
        exact finE
  · intro b xs hxs
    subst hxs
    refine hK _ ?_
    refine WS_ent (H' := (hex fun v => cel g5 42 [v] * (rows 180 2 lostC v (outB nb (sortU (dests ls)) ls) * (cel g3 26 [u32 nb] * linesP bs (brkL nb (sortU (dests ls)) ls)))) * (dblk b * ((cel gt 216 [u32 self, .map (some r)] * mp u32 ptrV r (lmap bs ls)) * G))) (finE) ?_
    refine WS_hex fun v => ?_
    rw [brkL_all]
    repeat' (first | (refine WS_seqK ?_; intro K hK) | (refine hK _ ?_; clear hK K) | refine stZ ?_ | refine sqZ ?_)
    refine out_r ?_
    refine lv_mark (fun h => by cases h) iI ?_
    refine lv_ret1 rfl (RV_tmp rfl) ⟨v, rfl, ?_⟩
    rw [brkT_lmap]
    exact finE
  · intro b c pre
    exact WS_pure (φ := False) fun h => h.elim
def listT (ls : List Ln) : List Ln := (sortU (dests ls)).filterMap (lget ls)
abbrev LnS := Ln × (Option Addr × Nat)
def routeS (p : LnS) : List Value := routeC p.1 (befV p.1 p.2)
instance : FixLen routeS 7 := ⟨fun _ => rfl⟩
theorem routeS_one : ∀ z, ∀ c ∈ routeS z, c.oneCell' = true := by
 intro z c hc
 simp [routeS, routeC] at hc
 rcases hc with rfl | rfl | rfl | rfl | rfl | rfl | rfl <;> rfl
def befs : List LnS → HProp
 | [] => emp
 | p :: r => rows 26 1 wordC (befV p.1 p.2) (sortU p.1.before) * befs r
theorem befs_snoc : ∀ (ps : List LnS) (p : LnS), befs (ps ++ [p]) = rows 26 1 wordC (befV p.1 p.2) (sortU p.1.before) * befs ps
 | [], p => rfl
 | q :: ps, p => by
  show _ * befs (ps ++ [p]) = _
  rw [befs_snoc ps p, star_left_comm]; rfl
set_option maxRecDepth 100000 in
theorem list_specT (gt r : Nat) (self : UInt32) (bs : List (Nat × Nat)) (ls : List Ln) (hlen : bs.length = ls.length) (hn : (dests ls).Nodup) (h12 : ls.length ≤ 12) (hb : ∀ l ∈ ls, l.before.length ≤ 12) :
    Spec Tryz.prog w0 75 [ptr gt 0] (tabP gt r self bs ls) (fun x : Value × List LnS => x.1) (fun x => pure' (x.2.map (·.1) = listT ls) * (rows 53 7 routeS x.1 x.2 * (befs x.2 * tabP gt r self bs ls))) := by
  have it := inOrder_iter w0 gt r self bs ls hlen h12
  refine Spec.enterM Tryz.func75 rfl Tryz.ntmps75 rfl fun G => ?_
  simp only [argE, tabP]
  repeat' (first | (refine WS_seqK ?_; intro K hK) | (refine hK _ ?_; clear hK K) | refine stZ ?_ | refine sqZ ?_ | (refine shZ ?_; intro g))
  revert g; intro g3
  refine WS_ent (Ent.nil _ 53 7 routeS none) ?_
  refine WS_ent (H' := (cel gt 216 [u32 self, .map (some r)] * mp u32 ptrV r (lmap bs ls)) * ((hex fun x : Value × List LnS => pure' (x.2.map (·.1) = ([] : List UInt32).filterMap (lget ls)) * (cel g3 49 [x.1] * (rows 53 7 routeS x.1 x.2 * (befs x.2 * linesP bs ls)))) * G)) (Ent.trans (F := (hex fun x : Value × List LnS => pure' (x.2.map (·.1) = ([] : List UInt32).filterMap (lget ls)) * (cel g3 49 [x.1] * (rows 53 7 routeS x.1 x.2 * (befs x.2 * linesP bs ls)))) * ((cel gt 216 [u32 self, .map (some r)] * mp u32 ptrV r (lmap bs ls)) * G)) (Ent.hexI (p := fun x : Value × List LnS => pure' (x.2.map (·.1) = ([] : List UInt32).filterMap (lget ls)) * (cel g3 49 [x.1] * (rows 53 7 routeS x.1 x.2 * (befs x.2 * linesP bs ls)))) (Value.slice none 0 0, []) (by rw [star_assoc (pure' _)]; refine Ent.pureI rfl ?_; simp only [befs]; exact finE)) (finE)) ?_
  refine WS_rangeFuncG (fb := [ptr gt 0]) rfl rfl iI it rfl (fun _ => rfl) (fun pre => hex fun x : Value × List LnS => pure' (x.2.map (·.1) = pre.filterMap (lget ls)) * (cel g3 49 [x.1] * (rows 53 7 routeS x.1 x.2 * (befs x.2 * linesP bs ls)))) (fun _ _ => pure' False) rfl ?_ ?_ ?_
  · rintro l pre d R ⟨xs, rfl, hpx⟩
    have hdm : d ∈ dests ls := mem_sortU.1 (hpx.subset (by simp))
    have hpl : pre.length + 1 ≤ 12 := by
      have := hpx.length_le
      rw [sortU_length] at this
      simp [dests] at this; omega
    have hmg := mget_dest hlen hdm
    obtain ⟨j, rb, x, hx, hbj, hxd⟩ := lmap_mem (by obtain ⟨i, _, hi⟩ := mget_some hmg; exact List.mem_of_getElem? hi)
    obtain ⟨F, h1, h2⟩ := linesP_hole hbj hx
    have hgl : lget ls d = some x := lget_some (hxd ▸ lfind_nodup hn hx) hx
    have hcp := copied_spec w0 (blkOf bs ls d) rb x (hb x (List.mem_of_getElem? hx))
    generalize blkOf bs ls d = b at *
    refine WS_hex fun y => ?_
    rw [star_assoc (pure' _)]
    refine WS_pure fun hy => ?_
    obtain ⟨v, ps⟩ := y
    have hps : ps.length ≤ 12 := by
      have e1 := congrArg List.length hy
      have e2 := List.length_filterMap_le (lget ls) pre
      simp at e1; omega
    rw [h1]
    simp only [linP, lineC, bindE] at hcp ⊢
    repeat' (first | refine stZ ?_ | refine sqZ ?_)
    refine asgS_mk rfl (cel g3 49 [v] * (rows 53 7 routeS v ps * (befs ps * (cel b 230 (lineC x rb) * (mp u32 unitV rb (bmap x.before) * F))))) (by simp only [lineC]; exact finE) fun R' => ?_
    simp only [lineC]
    repeat' (first | (show WS _ _ _ (.region 4 _ true) _ _; first | refine WS_drawK (.range 6) 2 [0] (by decide +kernel) rfl ?_ | refine WS_drawM 3 (.range 6) 5 [0] (by decide +kernel) rfl rfl iI ?_) | refine stZ ?_ | refine sqZ ?_ | (refine s0Z ?_; intro g) | (refine DL_h (H_callX iI rfl hcp iI) rfl rfl rfl ?_; intro p) | (refine DL_h (H_buildSliceR routeS [(x, p)] iI iI iI rfl rfl rfl rfl rfl iI rfl rfl rfl) rfl rfl rfl ?_; intro vs) | (refine DL_h (H_appendR rfl rfl iI iI rfl iI iI routeS_one (by first | omega | (simp [be_length] <;> omega)) rfl) rfl rfl rfl ?_; intro va))
    show Ent _ ((hex _) * R')
    refine Ent.hexI (va, ps ++ [(x, p)]) ?_
    rw [star_assoc (pure' _)]
    refine Ent.pureI (by rw [List.map_append, List.filterMap_append]; simp only [List.map_cons, List.map_nil, List.filterMap_cons, List.filterMap_nil, hgl]; simp only at hy; rw [hy]) ?_
    dsimp only
    rw [befs_snoc]
    simp only [linP, lineC]
    exact finE
  · intro b xs hxs
    subst hxs
    refine hK _ ?_
    refine WS_ent (H' := (hex fun x : Value × List LnS => pure' (x.2.map (·.1) = (sortU (dests ls)).filterMap (lget ls)) * (cel g3 49 [x.1] * (rows 53 7 routeS x.1 x.2 * (befs x.2 * linesP bs ls)))) * (dblk b * ((cel gt 216 [u32 self, .map (some r)] * mp u32 ptrV r (lmap bs ls)) * G))) (finE) ?_
    refine WS_hex fun y => ?_
    rw [star_assoc (pure' _)]
    refine WS_pure fun hy => ?_
    obtain ⟨v, ps⟩ := y
    repeat' (first | (refine WS_seqK ?_; intro K hK) | (refine hK _ ?_; clear hK K) | refine stZ ?_ | refine sqZ ?_)
    refine out_r ?_
    refine lv_mark (fun h => by cases h) iI ?_
    refine lv_ret1 rfl (RV_tmp rfl) ⟨(v, ps), rfl, ?_⟩
    rw [star_assoc (pure' _)]
    refine Ent.pureI hy ?_
    exact finE
  · intro b c pre
    exact WS_pure (φ := False) fun h => h.elim
end

end Go.Proofs.YtapoehkdnglahabGreat

