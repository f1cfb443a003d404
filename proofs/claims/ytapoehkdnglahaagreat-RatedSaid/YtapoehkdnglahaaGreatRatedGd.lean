/- JouR KeyS SortC KeysI KeysC RouI Any RouL TimP TimQ TimS TimS2 TimS3 TimS4 JouW NodP NodS RouQ NodN NodM, joined. -/
import Derived.Test.YtapoehkdnglahaaGreatRatedGc
/- What the readers of journals, the comparisons of bytes and of records, meshref.Compact and wire.Records return, by a walk. -/
namespace Go.Proofs.YtapoehkdnglahaaGreat
open Go.RowKit
set_option linter.unusedVariables false
set_option linter.unusedSectionVars false
set_option linter.unusedSimpArgs false
attribute [local irreducible] WS LS OpQ OpT OpH OpTQ Spec SpecQ cel
variable (w0 : World)
set_option maxRecDepth 100000 in
theorem equal_spec (l m : List UInt8) (hl : l.length ≤ 1000000) (v u : Value) (X : HProp) [hX : Rdr w0 X v UInt8 1 byteC l] [hY : Rdr w0 X u UInt8 1 byteC m] : Spec Tryz.prog w0 157 [v, u] X (fun _ : Unit => .bool (decide (l = m))) (fun _ => X) := by
  refine Spec.enter Tryz.func157 rfl Tryz.ntmps157 rfl fun G => ?_
  simp only [argE]
  repeat' (first | (refine WS_seqK ?_; intro K hK) | (refine hK _ ?_; clear hK K) | (with_reducible (first | refine thenS_n ?_ | refine thenS_e ?_ | refine blockS_n ?_ | refine blockS_e ?_ | refine blockS_o rfl ?_ | refine thenS_r ?_ | refine blockS_r ?_ | refine use_K (by assumption) ?_)) | refine WS_region ?_ | refine LS_nil ?_ | ((refine' LQ ?zh rfl ?_); case zh => intro F'; first | exact Q_move rfl | exact Q_assign rfl | exact Q_lenR rfl iI iI) | ((first | refine LS_binS rfl rfl iI rfl ?_ ?_ | refine LS_binN rfl rfl iI rfl ?_ ?_ | refine DL_binS rfl rfl iI rfl ?_ ?_) <;> intro hc) | (first | refine WS_block ?_ | refine WS_skip ?_ | refine WS_ret ?_ | refine WS_exit ?_ | refine WS_label ?_) | (show WS _ _ _ (.cond _ _ _) _ _; first | refine WS_condT rfl iI ?_ | refine WS_condF rfl iI ?_ | refine WS_condH_t rfl (by assumption) ?_ | refine WS_condH_f rfl (by assumption) ?_ | (refine WS_cond rfl ?_ ?_ <;> intro hc <;> (try simp only [decide_eq_true_eq, decide_eq_false_iff_not, Bool.not_eq_eq_eq_not, Bool.not_true, Bool.not_false, Bool.and_eq_true, Bool.or_eq_true, bne_iff_ne, beq_iff_eq, ne_eq, Decidable.not_not] at hc) <;> (try (exfalso; first | contradiction | omega; done)))))
  rotate_left
  · refine ret_tmp (.inl rfl) rfl rfl ⟨(), ?_, Ent.take Ent.last⟩
    rw [decide_eq_false]; rintro rfl; exact hc rfl
  refine WS_loop (fun k τ => ∃ j, j + k = l.length ∧ l.take j = m.take j ∧ τ = ⟨[(13, .int .i64 (j : Int)), (12, .int .i64 (l.length : Int)), (0, v), (1, u)], [], X * G⟩) ?_ ?_
  · exact ⟨l.length, _, ⟨0, by omega, rfl, rfl⟩, ⟨rfl, rfl, rfl, rfl, trivial⟩, rfl, Ent.refl _⟩
  · rintro k τ ⟨j, hjk, hj, rfl⟩
    rcases Nat.lt_or_ge j l.length with hlt | hge
    · obtain ⟨z, hz⟩ : ∃ z, l[j]? = some z := ⟨_, List.getElem?_eq_getElem hlt⟩
      have hlt2 : j < m.length := by omega
      obtain ⟨z', hz'⟩ : ∃ z, m[j]? = some z := ⟨_, List.getElem?_eq_getElem hlt2⟩
      repeat' (first | (show WS _ _ _ (.region 6 _ true) _ _; refine WS_drawA [0, 1, 2, 3, 4, 5, 6, 7, 8] (by decide +kernel) rfl ?_) | (refine WS_seqK ?_; intro K hK) | (refine hK _ ?_; clear hK K) | (with_reducible (first | refine thenS_n ?_ | refine thenS_e ?_ | refine blockS_n ?_ | refine blockS_e ?_ | refine blockS_o rfl ?_ | refine thenS_r ?_ | refine blockS_r ?_ | refine use_K (by assumption) ?_)) | refine WS_region ?_ | refine LS_nil ?_ | (first | refine DL_nilA ?_ | refine DL_nilS ?_ | refine DL_nilN ?_ | refine DL_nilE ?_ | refine DL_nilR ?_) | ((first | refine' LQ ?zh rfl ?_ | refine' DL_q rfl rfl ?zh ?_); case zh => intro F'; first | exact Q_move rfl | exact Q_assign rfl | exact Q_bin_t rfl rfl iI (by first | assumption | omega | decide) | exact Q_addI rfl rfl (by omega) | exact Q_index rfl rfl iI iI iI iI (by first | assumption | omega | (simp [be_length] <;> omega)) | exact Q_loadR rfl iI iI iI (by assumption) rfl) | ((first | refine LS_binS rfl rfl iI rfl ?_ ?_ | refine LS_binN rfl rfl iI rfl ?_ ?_ | refine DL_binS rfl rfl iI rfl ?_ ?_) <;> intro hc) | (first | refine WS_block ?_ | refine WS_skip ?_ | refine WS_ret ?_ | refine WS_exit ?_ | refine WS_label ?_) | (show WS _ _ _ (.cond _ _ _) _ _; first | refine WS_condT rfl iI ?_ | refine WS_condF rfl iI ?_ | refine WS_condH_t rfl (by assumption) ?_ | refine WS_condH_f rfl (by assumption) ?_ | (refine WS_cond rfl ?_ ?_ <;> intro hc <;> (try simp only [decide_eq_true_eq, decide_eq_false_iff_not, Bool.not_eq_eq_eq_not, Bool.not_true, Bool.not_false, Bool.and_eq_true, Bool.or_eq_true, bne_iff_ne, beq_iff_eq, ne_eq, Decidable.not_not] at hc) <;> (try (exfalso; first | contradiction | omega; done)))))
      · refine ret_tmp (.inl rfl) rfl rfl ⟨(), ?_, Ent.take Ent.last⟩
        rw [decide_eq_false]; rintro rfl; rw [hz] at hz'; cases hz'; simp at hc
      · exact ⟨k - 1, _, by omega, ⟨j + 1, by omega, take_succ_eq hj hz hz' (by simpa using hc), rfl⟩, ⟨rfl, rfl, rfl, rfl, trivial⟩, rfl, Ent.refl _⟩
    · obtain rfl : j = l.length := by omega
      have e : l = m := by rw [List.take_length, List.take_of_length_le (by omega)] at hj; exact hj
      repeat' (first | (refine WS_seqK ?_; intro K hK) | (refine hK _ ?_; clear hK K) | (with_reducible (first | refine thenS_n ?_ | refine thenS_e ?_ | refine blockS_n ?_ | refine blockS_e ?_ | refine blockS_o rfl ?_ | refine thenS_r ?_ | refine blockS_r ?_ | refine use_K (by assumption) ?_)) | refine WS_region ?_ | refine LS_nil ?_ | ((refine' LQ ?zh rfl ?_); case zh => intro F'; first | exact Q_assign rfl | exact Q_bin_f rfl rfl iI (by first | assumption | omega | decide)) | (first | refine WS_block ?_ | refine WS_skip ?_ | refine WS_ret ?_ | refine WS_exit ?_ | refine WS_label ?_) | (show WS _ _ _ (.cond _ _ _) _ _; first | refine WS_condT rfl iI ?_ | refine WS_condF rfl iI ?_ | refine WS_condH_t rfl (by assumption) ?_ | refine WS_condH_f rfl (by assumption) ?_ | (refine WS_cond rfl ?_ ?_ <;> intro hc <;> (try simp only [decide_eq_true_eq, decide_eq_false_iff_not, Bool.not_eq_eq_eq_not, Bool.not_true, Bool.not_false, Bool.and_eq_true, Bool.or_eq_true, bne_iff_ne, beq_iff_eq, ne_eq, Decidable.not_not] at hc) <;> (try (exfalso; first | contradiction | omega; done)))))
      refine ret_tmp (.inl rfl) rfl rfl ⟨(), ?_, Ent.take Ent.last⟩
      rw [decide_eq_true e]
theorem rec_neq (o o' : Bool) (x y x' y' : Int) (w : World) :
    (binOp .neq 48 (.agg #[.bool o, .int .u32 x, .int .u32 y]) (.agg #[.bool o', .int .u32 x', .int .u32 y'])).run Tryz.prog w = .ok (.bool (!(o == o' && (x == x' && y == y')))) w := by
  have u4 := Tryz.underlying34
  have u1 := Tryz.underlying4
  have hS : Tryz.prog.underlying 48 = some (.struct (Tryz.prog.fieldsOf 48)) := by kernel_rfl
  have hp : Tryz.prog.stoodInHeld 48 = false := by kernel_rfl
  rw [run_neq_struct, show (10000 : Nat) = 9999 + 1 from rfl, run_equalIn_agg w 9999 48 _ _ hS hp]
  simp only [Program.fieldsOf, Tryz.underlying48]
  by_cases h0 : o = o' <;> by_cases h1 : x = x' <;> by_cases h2 : y = y' <;> go_simp
instance neqRec (a b : Rec) : BinV Tryz.prog .neq 48 (.agg (Rec.cells a).toArray) (.agg (Rec.cells b).toArray) (.bool (!decide (a = b))) := ⟨fun w => by
  have h := rec_neq a.own b.own (a.addr.toNat : Int) (a.seq.toNat : Int) (b.addr.toNat : Int) (b.seq.toNat : Int) w
  have e : (a.own == b.own && (((a.addr.toNat : Int) == (b.addr.toNat : Int)) && ((a.seq.toNat : Int) == (b.seq.toNat : Int)))) = decide (a = b) := by
    rw [Bool.eq_iff_iff]
    simp only [Bool.and_eq_true, beq_iff_eq, decide_eq_true_eq]
    constructor
    · intro ⟨h0, h1, h2⟩
      have e1 : a.addr = b.addr := UInt32.toNat_inj.1 (by omega)
      have e2 : a.seq = b.seq := UInt32.toNat_inj.1 (by omega)
      cases a; cases b; simp_all
    · rintro rfl; exact ⟨rfl, rfl, rfl⟩
  rw [e] at h
  exact h, fun w x y => by apply run_eqGuard_agg; kernel_rfl⟩
theorem own_bit (x : UInt8) : decide (x = 1) = (((x.toNat : Nat) : Int) == 1) := by
  rw [Bool.eq_iff_iff]; simp only [decide_eq_true_eq, beq_iff_eq]
  constructor
  · rintro rfl; rfl
  · intro h; apply UInt8.toNat_inj.1; show x.toNat = 1; omega
theorem numAt_drop (l : List UInt8) (i : Nat) (h : i + 4 ≤ l.length) : numAt (l.drop i) 0 = numAt l i := by
  unfold numAt byteAt
  simp [List.getD_eq_getElem?_getD]
theorem recOf_take (l : List UInt8) (h : 13 ≤ l.length) : recOf (l.take 13) = recOf l := by
  have e : ∀ i, i < 13 → byteAt (l.take 13) i = byteAt l i := fun i hi => by
    unfold byteAt; simp [List.getD_eq_getElem?_getD, List.getElem?_take, hi]
  unfold recOf numAt
  rw [e 0 (by omega), e 1 (by omega), e (1 + 1) (by omega), e (1 + 2) (by omega), e (1 + 3) (by omega), e 5 (by omega), e (5 + 1) (by omega), e (5 + 2) (by omega), e (5 + 3) (by omega)]
def tailN (v : Value) : Nat → Value
  | 0 => v
  | j + 1 => sTail 1 (tailN v j) 13
instance rdr_tailN {α : Type} {H : HProp} {v : Value} {f : α → List Value} {l : List α} (j : Nat) [h : Rdr w0 H v α 1 f l] : Rdr w0 H (tailN v j) α 1 f (l.drop (13 * j)) := by
  induction j with
  | zero => exact h
  | succ j ih =>
    have := rdr_tail' (size := 1) (w0 := w0) (H := H) (v := tailN v j) (f := f) (l := l.drop (13 * j)) 13
    rw [List.drop_drop] at this
    exact this
theorem rd_go (xs : List UInt8) (js : List Rec) (k : Nat) (hj : readJ xs = js ++ readN (xs.length / 13 - k) (xs.drop (13 * k))) (hlt : 13 * k + 13 ≤ xs.length) (hx : (recOf (xs.drop (13 * k))).bytes = (xs.drop (13 * k)).take 13) :
    readJ xs = (js ++ [recOf (xs.drop (13 * k))]) ++ readN (xs.length / 13 - (k + 1)) (xs.drop (13 * (k + 1))) :=
  readJ_step xs js k _ hj rfl (by omega) hx
theorem rd_no (xs : List UInt8) (js : List Rec) (k : Nat) (hj : readJ xs = js ++ readN (xs.length / 13 - k) (xs.drop (13 * k))) (hx : ¬ (recOf (xs.drop (13 * k))).bytes = (xs.drop (13 * k)).take 13) : readJ xs = js := by
  rw [hj, readN_not _ _ hx, List.append_nil]
theorem rd_short (xs : List UInt8) (js : List Rec) (k : Nat) (hj : readJ xs = js ++ readN (xs.length / 13 - k) (xs.drop (13 * k))) (h : ¬ 13 * k + 13 ≤ xs.length) : readJ xs = js := by
  rw [hj, readN_short _ _ (by simp; omega), List.append_nil]
set_option maxRecDepth 100000 in
set_option maxHeartbeats 4000000 in
theorem wread_spec (l : List UInt8) (hl : l.length ≤ 1000000) (v : Value) (X : HProp) [hX : Rdr w0 X v UInt8 1 byteC l] : Spec Tryz.prog w0 97 [v] X (fun m : Value => .tuple #[m, .int .i64 (13 * ((readJ l).length : Int))]) (fun m => rows 48 3 Rec.cells m (readJ l) * X) := by
  refine Spec.enter Tryz.func97 rfl Tryz.ntmps97 rfl fun G => ?_
  simp only [argE]
  repeat' (first | (refine WS_seqK ?_; intro K hK) | (refine hK _ ?_; clear hK K) | refine WS_region ?_ | refine LS_nil ?_ | ((refine' LQ ?zh rfl ?_); case zh => intro F'; first | exact Q_move rfl | exact Q_assign rfl) | (first | refine WS_block ?_ | refine WS_skip ?_ | refine WS_ret ?_ | refine WS_exit ?_ | refine WS_label ?_))
  refine WS_ent (Ent.nil _ 48 3 Rec.cells none) ?_
  refine WS_loop (fun m τ => ∃ (j : Nat) (u : Value) (js : List Rec), j + m = l.length / 13 ∧ js.length = j ∧ readJ l = js ++ readN (l.length / 13 - j) (l.drop (13 * j)) ∧ τ = ⟨[(5, tailN v j), (4, u)], [], rows 48 3 Rec.cells u js * (X * G)⟩) ?_ ?_
  · exact ⟨l.length / 13, _, ⟨0, _, [], by omega, rfl, by simp [readJ], rfl⟩, ⟨rfl, rfl, trivial⟩, rfl, by ((try simp only [star_assoc, emp_star, star_emp]); (repeat' (first | exact Ent.last | refine Ent.take ?_ | refine Ent.nilT ?_ | refine Ent.takeR (by first | rfl | assumption | (simp; done)) ?_ | exact Ent.refl _)))⟩
  · rintro m τ ⟨j, u, js, hjm, hjs, hj, rfl⟩
    have hdl : (l.drop (13 * j)).length = l.length - 13 * j := by simp
    rcases Nat.lt_or_ge j (l.length / 13) with hlt | hge
    · have h13 : 13 * j + 13 ≤ l.length := by omega
      have htl : ((l.drop (13 * j)).take 13).length = 13 := by simp; omega
      have hz : ((l.drop (13 * j)).take 13)[0]? = some (byteAt (l.drop (13 * j)) 0) := by
        rw [List.getElem?_take, if_pos (by omega)]
        exact byteAt_get (by omega)
      have hn1 := wnumber_spec w0 (((l.drop (13 * j)).take 13).drop 1) (by simp; omega) (sTail 1 (sHead (tailN v j) 13) 1) (rows 48 3 Rec.cells u js * (X * G))
      have hn5 := wnumber_spec w0 (((l.drop (13 * j)).take 13).drop 5) (by simp; omega) (sTail 1 (sHead (tailN v j) 13) 5) (rows 48 3 Rec.cells u js * (X * G))
      have hr : (⟨decide (byteAt (l.drop (13 * j)) 0 = 1), numAt (((l.drop (13 * j)).take 13).drop 1) 0, numAt (((l.drop (13 * j)).take 13).drop 5) 0⟩ : Rec) = recOf (l.drop (13 * j)) := by
        rw [← recOf_take (l.drop (13 * j)) (by omega), own_bit, numAt_drop _ 1 (by omega), numAt_drop _ 5 (by omega)]
        unfold recOf
        congr 2
        unfold byteAt; simp [List.getD_eq_getElem?_getD, List.getElem?_take]
      have hrec : ∀ r', r' = recOf (l.drop (13 * j)) → Spec Tryz.prog w0 95 [.agg r'.cells.toArray] emp (fun v' : Value => v') (fun v' => rows 5 1 byteC v' (recOf (l.drop (13 * j))).bytes) := by
        rintro _ rfl; exact wrecord_spec w0 _
      have hrec' := hrec _ hr
      have hbl : (recOf (l.drop (13 * j))).bytes.length = 13 := Rec.bytes_length _
      repeat' (first | (refine WS_seqK ?_; intro K hK) | (refine hK _ ?_; clear hK K) | (with_reducible (first | refine thenS_n ?_ | refine thenS_e ?_ | refine blockS_n ?_ | refine blockS_e ?_ | refine blockS_o rfl ?_ | refine thenS_r ?_ | refine blockS_r ?_ | refine use_K (by assumption) ?_)) | refine WS_region ?_ | refine LS_nil ?_ | (first | refine DL_nilA ?_ | refine DL_nilS ?_ | refine DL_nilN ?_ | refine DL_nilE ?_ | refine DL_nilR ?_) | (refine DL_alloc iI rfl ?_; intro g) | ((first | refine' LQ ?zh rfl ?_ | refine' DL_q rfl rfl ?zh ?_); case zh => intro F'; first | exact Q_move rfl | exact Q_assign rfl | exact Q_bin_t rfl rfl iI (by first | assumption | omega | decide) | exact Q_bin rfl rfl iI | exact Q_un rfl iI | exact Q_loadA rfl iI iI rfl | exact Q_build iI iI rfl rfl | exact Q_index rfl rfl iI iI iI iI (by first | assumption | omega | (simp [be_length] <;> omega)) | exact Q_loadR rfl iI iI iI (by assumption) rfl | exact Q_lenR rfl iI iI | exact Q_sliceR_h rfl rfl iI iI iI iI (by first | assumption | omega | (simp [be_length] <;> omega)) | exact Q_sliceR_l rfl rfl iI iI iI iI (by first | assumption | omega | (simp [be_length] <;> omega)) | exact Q_mulI rfl rfl (by omega)) | ((refine' DL_h0 ?zh rfl rfl ?_); (case zh => exact H_storeAO rfl rfl iI iI iI rfl); intro g) | (first | refine WS_block ?_ | refine WS_skip ?_ | refine WS_ret ?_ | refine WS_exit ?_ | refine WS_label ?_) | (show WS _ _ _ (.cond _ _ _) _ _; first | refine WS_condT rfl iI ?_ | refine WS_condF rfl iI ?_ | refine WS_condH_t rfl (by assumption) ?_ | refine WS_condH_f rfl (by assumption) ?_ | (refine WS_cond rfl ?_ ?_ <;> intro hc <;> (try simp only [decide_eq_true_eq, decide_eq_false_iff_not, Bool.not_eq_eq_eq_not, Bool.not_true, Bool.not_false, Bool.and_eq_true, Bool.or_eq_true, bne_iff_ne, beq_iff_eq, ne_eq, Decidable.not_not] at hc) <;> (try (exfalso; first | contradiction | omega; done)))) | (show WS _ _ _ (.region 6 _ true) _ _; refine WS_drawA [0, 1, 2, 3, 4, 5, 7, 8, 6, 9, 10, 11, 12] (by kernel_rfl) rfl ?_) | (refine DL_callQ iI rfl hn1 rfl ?_) | (refine DL_callQ iI rfl hn5 rfl ?_) | (refine LS_h (H_callX iI rfl hrec' iI) rfl ?_; intro vb) | (refine LS_h (H_callX iI rfl (equal_spec w0 (recOf (l.drop (13 * j))).bytes ((l.drop (13 * j)).take 13) (by omega) vb (sHead (tailN v j) 13) (rows 5 1 byteC vb (recOf (l.drop (13 * j))).bytes * X)) iI) rfl ?_; intro ue) | (refine LS_h (H_buildSliceR Rec.cells [⟨decide (byteAt (l.drop (13 * j)) 0 = 1), numAt (((l.drop (13 * j)).take 13).drop 1) 0, numAt (((l.drop (13 * j)).take 13).drop 5) 0⟩] iI iI iI rfl rfl rfl rfl rfl iI rfl rfl rfl) rfl ?_; intro vs) | (refine LS_h (H_appendR rfl rfl iI iI rfl iI iI recC_one (by first | omega | (simp [be_length] <;> omega)) rfl) rfl ?_; intro va))
      · have hrd := rd_no l js j hj (by simpa using hc)
        rw [← hrd]
        exact ret_tmp2 (.inl rfl) rfl rfl rfl ⟨u, by rw [hrd], by rw [hrd]; ((try simp only [star_assoc, emp_star, star_emp]); (repeat' (first | exact Ent.last | refine Ent.take ?_ | refine Ent.nilT ?_ | refine Ent.takeR (by first | rfl | assumption | (simp; done)) ?_ | exact Ent.refl _)))⟩
      · have hrd := rd_go l js j hj h13 (by simpa using hc)
        refine ⟨m - 1, _, by omega, ⟨j + 1, va, js ++ [recOf (l.drop (13 * j))], by omega, by simp [hjs], hrd, rfl⟩, ⟨rfl, rfl, trivial⟩, rfl, ?_⟩
        rw [← hr]
        ((try simp only [star_assoc, emp_star, star_emp]); (repeat' (first | exact Ent.last | refine Ent.take ?_ | refine Ent.nilT ?_ | refine Ent.takeR (by first | rfl | assumption | (simp; done)) ?_ | exact Ent.refl _)))
    · have hsh : ¬ 13 * j + 13 ≤ l.length := by omega
      have hrd := rd_short l js j hj hsh
      repeat' (first | (refine WS_seqK ?_; intro K hK) | (refine hK _ ?_; clear hK K) | (with_reducible (first | refine thenS_n ?_ | refine thenS_e ?_ | refine blockS_n ?_ | refine blockS_e ?_ | refine blockS_o rfl ?_ | refine thenS_r ?_ | refine blockS_r ?_ | refine use_K (by assumption) ?_)) | refine WS_region ?_ | refine LS_nil ?_ | ((refine' LQ ?zh rfl ?_); case zh => intro F'; first | exact Q_move rfl | exact Q_assign rfl | exact Q_bin_f rfl rfl iI (by first | assumption | omega | decide) | exact Q_lenR rfl iI iI | exact Q_mulI rfl rfl (by omega)) | (first | refine WS_block ?_ | refine WS_skip ?_ | refine WS_ret ?_ | refine WS_exit ?_ | refine WS_label ?_) | (show WS _ _ _ (.cond _ _ _) _ _; first | refine WS_condT rfl iI ?_ | refine WS_condF rfl iI ?_ | refine WS_condH_t rfl (by assumption) ?_ | refine WS_condH_f rfl (by assumption) ?_ | (refine WS_cond rfl ?_ ?_ <;> intro hc <;> (try simp only [decide_eq_true_eq, decide_eq_false_iff_not, Bool.not_eq_eq_eq_not, Bool.not_true, Bool.not_false, Bool.and_eq_true, Bool.or_eq_true, bne_iff_ne, beq_iff_eq, ne_eq, Decidable.not_not] at hc) <;> (try (exfalso; first | contradiction | omega; done)))))
      subst hjs
      rw [hrd]
      exact ret_tmp2 (.inl rfl) rfl rfl rfl ⟨u, rfl, by ((try simp only [star_assoc, emp_star, star_emp]); (repeat' (first | exact Ent.last | refine Ent.take ?_ | refine Ent.nilT ?_ | refine Ent.takeR (by first | rfl | assumption | (simp; done)) ?_ | exact Ent.refl _)))⟩
theorem snocInd {α : Type} {p : List α → Prop} (l : List α) (nil : p []) (snoc : ∀ l x, p l → p (l ++ [x])) : p l := by
  suffices h : ∀ m : List α, p m.reverse by simpa using h l.reverse
  intro m
  induction m with
  | nil => exact nil
  | cons x m ih => rw [List.reverse_cons]; exact snoc _ _ ih
theorem putR_length (l : List Rec) (r : Rec) : (putR l r).length ≤ l.length + 1 := by
  induction l with
  | nil => simp [putR]
  | cons x l ih =>
    rw [putR]
    split
    · simp
    · split
      · simp
      · simp; omega
theorem compR_length (l : List Rec) : (compR l).length ≤ l.length := by
  induction l using snocInd with
  | nil => simp [compR]
  | snoc l r ih => rw [compR_snoc]; have := putR_length (compR l) r.norm; simp; omega
end Go.Proofs.YtapoehkdnglahaaGreat

/- Records and requests as keys of maps. -/
namespace Go.Proofs.YtapoehkdnglahaaGreat
open Go.RowKit
set_option linter.unusedVariables false
set_option linter.unusedSectionVars false
set_option linter.unusedSimpArgs false
theorem find_ask {P : Program} {κ ν : Type} [DecidableEq κ] {fk : κ → Value} {fv : ν → Value} {kt : TypeId} (heq : ∀ a b w, (Op.equal kt (fk a) (fk b)).run P w = .ok (decide (a = b)) w) (k : κ) (w : World) : ∀ (m : List (κ × ν)) (es : List MapEntry) (i : Nat), es.map (fun e => (e.key, e.val)) = m.map (fun p => (fk p.1, fv p.2)) →
    (Instr.findAsking kt (fk k) es i).run P w = .ok ((mfind m k).bind fun j => (m[j]?).map fun p => (i + j, fv p.2)) w
  | [], es, i, h => by
    have : es = [] := by simpa using h
    subst this; rfl
  | p :: m, [], i, h => by simp at h
  | p :: m, e :: es, i, h => by
    simp only [List.map_cons, List.cons.injEq, Prod.mk.injEq] at h
    obtain ⟨⟨h1, h2⟩, h3⟩ := h
    have ih := find_ask heq k w m es (i + 1) h3
    simp only [Instr.findAsking, h1, Sem.run_bind, heq, Result.andThen_ok]
    by_cases he : k = p.1
    · subst he
      simp [mfind, h2]
    · rw [decide_eq_false he]
      simp only [Bool.false_eq_true, if_false, ih, mfind, Ne.symm he]
      cases mfind m k with
      | none => rfl
      | some j => simp [Nat.add_assoc, Nat.add_comm 1 j]
theorem keyT_agg {P : Program} {κ : Type} {fk : κ → Value} {kt : TypeId} {fs : Array Field} (hu : P.underlying kt = some (.struct fs)) (heq : ∀ (d : DecidableEq κ) a b w, (Op.equal kt (fk a) (fk b)).run P w = .ok (decide (a = b)) w)
    (hc : ∀ (empty : Bool) (k : κ) (w : World), (Instr.checkKey empty 10000 kt (fk k)).run P w = .ok () w) (hs : ∀ k : κ, Instr.sameBits 10000 (fk k) (fk k) = true) : KeyT P kt fk where
  check := hc
  same := hs
  find := fun {_} {ν} fv m k es w h => by
    have := find_ask (fk := fk) (fv := fv) (heq inferInstance) k w m es 0 h
    cases es with
    | nil =>
      have hm : m = [] := by simpa using h.symm
      subst hm
      simp [Instr.findKey, run_underlying hu, Instr.findNow, mfind]
    | cons e es =>
      simp only [Instr.findKey, Sem.run_bind, run_underlying hu, Result.andThen_ok]
      have e0 : Instr.findNow (.struct fs) (fk k) (e :: es) 0 = none := by simp [Instr.findNow, Instr.sameNow]
      rw [e0]
      simp only [this, Nat.zero_add]
theorem check_b (empty : Bool) (n : Nat) (o : Bool) (w : World) : (Instr.checkKey empty (n + 1) 4 (.bool o)).run Tryz.prog w = .ok () w := by
  have u1 := Tryz.underlying4
  unfold Instr.checkKey
  go_simp
theorem check_u (empty : Bool) (n : Nat) (x : Int) (w : World) : (Instr.checkKey empty (n + 1) 34 (.int .u32 x)).run Tryz.prog w = .ok () w := by
  have u1 := Tryz.underlying34
  unfold Instr.checkKey
  go_simp
theorem rec_check (empty : Bool) (o : Bool) (x y : Int) (w : World) : (Instr.checkKey empty 10000 48 (.agg #[.bool o, .int .u32 x, .int .u32 y])).run Tryz.prog w = .ok () w := by
  have u4 := Tryz.underlying34
  have u1 := Tryz.underlying4
  have hS := Tryz.underlying48
  have c1 := check_b empty 9998 o
  have c2 := check_u empty 9998
  rw [show (10000 : Nat) = 9999 + 1 from rfl]
  unfold Instr.checkKey
  go_simp
theorem rec_eql (o o' : Bool) (x y x' y' : Int) (w : World) :
    (Op.equal 48 (.agg #[.bool o, .int .u32 x, .int .u32 y]) (.agg #[.bool o', .int .u32 x', .int .u32 y'])).run Tryz.prog w = .ok (o == o' && (x == x' && y == y')) w := by
  have u4 := Tryz.underlying34
  have u1 := Tryz.underlying4
  have hS : Tryz.prog.underlying 48 = some (.struct (Tryz.prog.fieldsOf 48)) := by kernel_rfl
  have hp : Tryz.prog.stoodInHeld 48 = false := by kernel_rfl
  rw [show Op.equal 48 = Op.equalIn (9999 + 1) 48 from rfl, run_equalIn_agg w 9999 48 _ _ hS hp]
  simp only [Program.fieldsOf, Tryz.underlying48]
  by_cases h0 : o = o' <;> by_cases h1 : x = x' <;> by_cases h2 : y = y' <;> go_simp
@[reducible] def keyV (r : Rec) : Value := .agg r.cells.toArray
instance : KeyT Tryz.prog 48 keyV := keyT_agg (fs := Tryz.prog.fieldsOf 48) (by kernel_rfl) (fun _ a b w => by
    have h := rec_eql a.own b.own (a.addr.toNat : Int) (a.seq.toNat : Int) (b.addr.toNat : Int) (b.seq.toNat : Int) w
    have e : (a.own == b.own && (((a.addr.toNat : Int) == (b.addr.toNat : Int)) && ((a.seq.toNat : Int) == (b.seq.toNat : Int)))) = decide (a = b) := by
      rw [Bool.eq_iff_iff]
      simp only [Bool.and_eq_true, beq_iff_eq, decide_eq_true_eq]
      constructor
      · intro ⟨h0, h1, h2⟩
        have e1 : a.addr = b.addr := UInt32.toNat_inj.1 (by omega)
        have e2 : a.seq = b.seq := UInt32.toNat_inj.1 (by omega)
        cases a; cases b; simp_all
      · rintro rfl; exact ⟨rfl, rfl, rfl⟩
    rw [e] at h
    exact h) (fun empty k w => rec_check empty k.own _ _ w) (fun k => by
    show Instr.sameBits (9999 + 1) (.agg #[.bool k.own, u32 k.addr, u32 k.seq]) (.agg #[.bool k.own, u32 k.addr, u32 k.seq]) = true
    simp [Instr.sameBits, u32])
instance (o : Bool) (v1 v2 : Value) (a b : UInt32) [h1 : AsU32 v1 a] [h2 : AsU32 v2 b] : AsKey keyV (.agg #[.bool o, v1, v2]) ⟨o, a, b⟩ := ⟨by rw [h1.eq, h2.eq]; rfl⟩
instance (k : Rec) : AsKey keyV (.agg k.cells.toArray) k := ⟨rfl⟩
end Go.Proofs.YtapoehkdnglahaaGreat

/- The comparison of records that Compact sorts by, walked in whatever world; slices.SortFunc as a contract over rows. -/
namespace Go.Proofs.YtapoehkdnglahaaGreat
open Go.RowKit Go.Shelf
open Go.Sort (flatK HoldsK get_flatK)
set_option linter.unusedVariables false
set_option linter.unusedSectionVars false
set_option linter.unusedSimpArgs false
set_option maxRecDepth 100000
theorem nan_exI (x : Int) (W : World) : Calls Tryz.prog 213 #[.int .u32 x] W fun e w' => e = .returned (.bool false) ∧ w' = W := by
  go_enter Tryz.func213, Tryz.ntmps213
  go_wp2_with fail
  go_ret
  simp
def cmpI (x y : Int) : Int := if x < y then -1 else if y < x then 1 else 0
theorem cmp_exI (x y : Int) (W : World) : Calls Tryz.prog 161 #[.int .u32 x, .int .u32 y] W fun e w' => e = .returned (.int .i64 (cmpI x y)) ∧ w' = W := by
  have hn := nan_exI
  go_enter Tryz.func161, Tryz.ntmps161
  go_wp2_with (go_at_call 213; refine (hn _ _).mono ?_; rintro e w' ⟨rfl, rfl⟩)
  all_goals go_ret
  all_goals first | omega | (simp_all [cmpI]; done) | (simp_all [cmpI]; omega)
theorem cmpI_A (a b : UInt32) : cmpI (a.toNat : Int) (b.toNat : Int) = cmpA a b := by
  unfold cmpI cmpA
  simp only [UInt32.lt_iff_toNat_lt, Int.ofNat_lt]
theorem clos_ex (o1 o2 : Bool) (x y s1 s2 : Int) (W : World) : Calls Tryz.prog 160 #[.agg #[.bool o1, .int .u32 x, .int .u32 s1], .agg #[.bool o2, .int .u32 y, .int .u32 s2]] W fun e w' => e = .returned (.int .i64 (if o1 != o2 then (if o1 then -1 else 1) else cmpI x y)) ∧ ∃ q os', w' = Go.Sort.grow (W.drewN q) os' := by
  have hcon := fun W' => cmp_exI x y W'
  generalize cmpI x y = r at hcon ⊢
  go_enter Tryz.func160, Tryz.ntmps160
  go_wp2_with (go_at_call 161; refine (hcon _).mono ?_; rintro e w' ⟨rfl, rfl⟩)
  all_goals try go_ret
  all_goals (refine ⟨?_, 0, _, by rw [Go.Sort.alloc_eq_grow, Go.Sort.alloc_eq_grow, Go.Sort.grow_grow]; rfl⟩)
  all_goals (show Ending.returned (Value.int _ _) = _; clear hcon; cases o1 <;> cases o2 <;> first | rfl | contradiction)
theorem clos_rec (a b : Rec) (W : World) : Calls Tryz.prog 160 (#[.agg a.cells.toArray, .agg b.cells.toArray] ++ #[]) W fun e w' => e = .returned (.int .i64 (cmpRec a b)) ∧ ∃ q os', w' = Go.Sort.grow (W.drewN q) os' := by
  have h := clos_ex a.own b.own a.addr.toNat b.addr.toNat a.seq.toNat b.seq.toNat W
  rw [cmpI_A] at h
  exact h
instance : Inhabited Rec := ⟨⟨false, 0, 0⟩⟩
theorem flatK_get (l : List Rec) (j : Nat) (h : j < l.length * 3) : (flatK Rec.cells 3 l.toArray)[j]! = (l.flatMap Rec.cells)[j]'(by rw [flatMap_length Rec.cells 3 (fun _ => rfl)]; exact h) := by
  have hq : j / 3 < l.length := by omega
  rw [get_flatK _ _ _ _ (by simpa using h)]
  have h2 := flatMap_at Rec.cells 3 (fun _ => rfl) l (j / 3) (j % 3) l[j / 3] (by simp [hq]) (by omega)
  rw [show j / 3 * 3 + j % 3 = j by omega] at h2
  have h3 := List.getElem?_eq_getElem (l := l.flatMap Rec.cells) (i := j) (by rw [flatMap_length Rec.cells 3 (fun _ => rfl)]; exact h)
  rw [h3] at h2
  have h4 : l.toArray[j / 3]! = l[j / 3] := by simp [hq]
  rw [h4]
  have h5 : j % 3 < (Rec.cells l[j / 3]).length := by show j % 3 < 3; omega
  rw [List.getElem?_eq_getElem h5] at h2
  rw [getElem!_pos (Rec.cells l[j / 3]) (j % 3) h5]
  exact (Option.some.inj h2).symm
/-- The row laid anew, draws, blocks behind. -/
theorem Sat.sortK {w0 w : World} {e : TypeId} {g off cap : Nat} {l l' : List Rec} {F : HProp} (n : Nat) (os : Array Obj) (hs : Sat w0 w (rows e 3 Rec.cells (.slice (some ⟨g, off, none⟩) l.length cap) l * F)) (hn : 0 < l.length) (hl : l'.length = l.length) :
    Sat w0 (sortWorldK Rec.cells 3 w g off n l'.toArray os) (rows e 3 Rec.cells (.slice (some ⟨g, off, none⟩) l.length cap) l' * F) := by
  obtain ⟨hx, ⟨A, hv, h0, _⟩ | ⟨g', off', cap', cur, fr, hv, hle, hm, hc, ht, hf, hp⟩⟩ := hs.slc_cases
  · omega
  injection hv with e1 _ e3
  injection e1 with e1
  injection e1 with e1 e2
  subst e1; subst e2; subst e3
  have hg := hp.at_
  let cur' : Array Value := Go.Sort.putCells id off (flatK Rec.cells 3 l'.toArray) cur
  have hsz : cur'.size = cur.size := by simp [cur', Go.Sort.putCells]
  have hlt : g < w.heap.size := hp.lt
  have hp2 : Sat w0 (sortWorldK Rec.cells 3 w g off n l'.toArray os) (pts g (.cells cur' e fr) * F) := by
    refine Sat.put hp rfl rfl rfl ?_ fun k hk hne => ?_
    · show ((w.heap.modify g _) ++ os)[g]? = _
      rw [Array.getElem?_append_left (by simpa using hlt), Array.getElem?_modify, if_pos rfl, hg]
      rfl
    · show ((w.heap.modify g _) ++ os)[k]? = _
      rw [Array.getElem?_append_left (by simpa using hk), Array.getElem?_modify, if_neg (Ne.symm hne)]
  unfold rows
  rw [hl]
  refine Sat.slc_mk e 3 l.length g off cap cur' fr _ hp2 ?_ hle hm (by rw [hsz]; exact hc) ?_ hf
  · rw [flatMap_length Rec.cells 3 (fun _ => rfl), hl]
  · have hle3 : l.length * 3 ≤ cap * 3 := Nat.mul_le_mul_right _ hle
    apply List.ext_getElem?
    intro j
    rw [List.getElem?_take]
    by_cases hj : j < l.length * 3
    · rw [if_pos hj, List.getElem?_drop, Array.getElem?_toList]
      have hin : off + j < cur.size := by omega
      have hj' : j < l'.length * 3 := by rw [hl]; exact hj
      have h1 : cur'[off + j]? = some ((flatK Rec.cells 3 l'.toArray)[j]!) := by
        simp only [cur', Go.Sort.putCells, Array.getElem?_mapIdx]
        rw [Array.getElem?_eq_getElem hin]
        simp only [Option.map_some, id]
        rw [if_pos ⟨by omega, by simp; omega⟩, Nat.add_sub_cancel_left]
      rw [h1, flatK_get l' j hj', ← List.getElem?_eq_getElem]
    · rw [if_neg hj]
      symm
      apply List.getElem?_eq_none
      rw [flatMap_length Rec.cells 3 (fun _ => rfl), hl]; omega
theorem perm_all {l : List Rec} {d' : Array Rec} (h : Go.Sort.PermIn 0 l.toArray.size l.toArray d') : d'.toList.Perm l := by
  obtain ⟨h1, _, h3⟩ := h
  have e1 : d'.extract 0 l.toArray.size = d' := by rw [← h1]; simp
  have e2 : l.toArray.extract 0 l.toArray.size = l.toArray := by simp
  rw [e1, e2] at h3
  simpa using h3
theorem sorted_all {l : List Rec} {d' : Array Rec} (hz : d'.size = l.length) (h : Go.Sort.SortedIn (Go.Proofs.ltOf cmpRec) 0 l.toArray.size d') : d'.toList.Pairwise (fun a b => b.lt a = false) := by
  rw [List.pairwise_iff_getElem]
  intro i j hi hj hij
  have := h i j (Nat.zero_le _) hij (by simp at hj ⊢; omega)
  rw [cmpRec_lt] at this
  simp only [Array.length_toList] at hi hj
  rw [getElem!_pos d' i hi, getElem!_pos d' j hj] at this
  simpa using this
structure SortedR (l : List Rec) where
  l' : List Rec
  perm : l'.Perm l
  rise : l'.Pairwise (fun a b => b.lt a = false)
theorem sortF_spec (w0 : World) (v : Value) (l : List Rec) (hl : l.length ≤ 1000000) : Spec Tryz.prog w0 211 [v, .func (.func 160) #[] #[]] (rows 48 3 Rec.cells v l) (fun _ : SortedR l => .tuple #[]) (fun s => rows 48 3 Rec.cells v s.l') := by
  intro G w hs
  rcases Nat.eq_zero_or_pos l.length with h0 | hpos
  · obtain rfl := List.eq_nil_of_length_eq_zero h0
    obtain ⟨A, c, rfl⟩ := rows_form hs
    have := AnyF.slices_SortFunc_none sortLays A c (.func (.func 160) #[] #[]) w
    refine Calls.mono (this) ?_
    rintro e w' ⟨rfl, rfl⟩
    exact ⟨⟨[], .refl _, .nil⟩, rfl, hs⟩
  · have hne : l.flatMap Rec.cells ≠ [] := by
      intro e0
      have := flatMap_length Rec.cells 3 (fun _ => rfl) l
      rw [e0] at this
      simp at this; omega
    obtain ⟨g, off, cap, rfl, hle, hm, hc⟩ := Sat.slc_cell hs hne
    have hH : HoldsK Rec.cells 3 w g off l.toArray := by
      intro j hj
      have hj' : j < l.length * 3 := by simpa using hj
      have := hc j ((l.flatMap Rec.cells)[j]'(by rw [flatMap_length Rec.cells 3 (fun _ => rfl)]; exact hj')) (List.getElem?_eq_getElem _)
      rw [flatK_get l j hj']
      exact this
    have hblk : g < w.heap.size := by
      have := (hc 0 ((l.flatMap Rec.cells)[0]'(List.length_pos_iff.2 hne)) (List.getElem?_eq_getElem _)).1
      unfold World.cell? at this
      rcases Nat.lt_or_ge g w.heap.size with hlt | hge
      · exact hlt
      · simp [Array.getElem?_eq_none hge] at this
    have eg : ∀ args w, (callFunc 160 args).run Tryz.prog w = .ok (.enter 160 args) w := enters_of Tryz.func160 (by kernel_rfl) rfl
    have hcon := AnyQ.slices_SortFunc sortLays 3 Tryz.isAgg48 Tryz.sizeOf48 Rec.cells (fun _ => rfl) (fun z v hv => by simp [Rec.cells] at hv; rcases hv with rfl | rfl | rfl <;> rfl) cmpRec swo_rec 160 #[] g off cap l.toArray w eg (fun _ _ _ _ x y => clos_rec x y _) hH hblk (by simp; omega)
    refine Calls.mono (hcon) ?_
    rintro e w' ⟨rfl, d', n, os, hp, hso, rfl⟩
    have hz : d'.size = l.length := by simpa using hp.1
    refine ⟨⟨d'.toList, perm_all hp, sorted_all hz hso⟩, rfl, ?_⟩
    exact Sat.sortK n os hs hpos (by simpa using hz)
end Go.Proofs.YtapoehkdnglahaaGreat

/- maps.Keys of a map from records, slices.Collect and slices.SortedFunc over it, wire.Compact, by a walk. -/
namespace Go.Proofs.YtapoehkdnglahaaGreat
open Go.RowKit
set_option linter.unusedVariables false
set_option linter.unusedSectionVars false
set_option linter.unusedSimpArgs false
attribute [local irreducible] WS LS OpQ OpT OpH OpTQ Spec SpecQ cel
variable (w0 : World)
set_option maxRecDepth 100000 in
set_option maxHeartbeats 4000000 in
theorem keysR_iter (m : List (Rec × UInt32)) (r gm : Nat) : IterS Tryz.prog w0 212 [ptr gm 0] (cel gm 265 [.map (some r)] * mp keyV u32 r m) (fun k => [keyV k]) (fun xs => xs.Perm (m.map (·.1))) := by
  intro l J Jx hY
  refine Spec.enter Tryz.func212 rfl Tryz.ntmps212 rfl fun G => ?_
  simp only [argE]
  repeat' (first | (refine WS_seqK ?_; intro K hK) | (refine hK _ ?_; clear hK K) | refine WS_region ?_ | refine LS_nil ?_ | ((refine' LQ ?zh rfl ?_); case zh => intro F'; exact Q_load rfl iI iI rfl) | (first | refine WS_block ?_ | refine WS_skip ?_ | refine WS_ret ?_ | refine WS_exit ?_ | refine WS_label ?_) | (refine LS_h (H_range rfl iI iI) rfl ?_; intro it))
  refine WS_loop (fun k τ => ∃ (pre : List Rec) (left : List (Rec × UInt32)) (cur : Option (Rec × UInt32)), left.length = k ∧ (pre ++ left.map (·.1)).Perm (m.map (·.1)) ∧ τ = ⟨[(5, ptr it 0), (0, yieldV l)], [], mpi keyV u32 r it m left cur * (J pre * (cel gm 265 [.map (some r)] * G))⟩) ?_ ?_
  · exact ⟨m.length, _, ⟨[], m, none, rfl, .refl _, rfl⟩, ⟨rfl, rfl, trivial⟩, rfl, by ((try simp only [star_assoc, emp_star, star_emp]); (repeat' (first | exact Ent.last | refine Ent.take ?_ | refine Ent.nilT ?_ | refine Ent.takeR (by first | rfl | assumption | (simp; done)) ?_ | exact Ent.refl _)))⟩
  · rintro k τ ⟨pre, left, cur, hk, hp, rfl⟩
    repeat' (first | (refine WS_seqK ?_; intro K hK) | (refine hK _ ?_; clear hK K) | (with_reducible (first | refine thenS_n ?_ | refine thenS_e ?_ | refine blockS_n ?_ | refine blockS_e ?_ | refine blockS_o rfl ?_ | refine thenS_r ?_ | refine blockS_r ?_ | refine use_K (by assumption) ?_)) | refine WS_region ?_ | refine LS_nil ?_ | ((refine' LQ ?zh rfl ?_); case zh => intro F'; first | exact Q_move rfl | exact Q_extract rfl rfl | exact Q_loadA rfl iI iI rfl) | ((refine' LS_h ?zh rfl ?_); (case zh => exact H_alloc iI); intro g) | ((refine' LS_h0 ?zh ?_); (case zh => exact H_storeA rfl rfl iI iI (by first | rfl | (simp only [List.all_cons, List.all_nil, *]; rfl)) rfl); intro g) | (first | refine WS_block ?_ | refine WS_skip ?_ | refine WS_ret ?_ | refine WS_exit ?_ | refine WS_label ?_) | (show WS _ _ _ (.cond _ _ _) _ _; first | refine WS_condT rfl iI ?_ | refine WS_condF rfl iI ?_ | refine WS_condH_t rfl (by assumption) ?_ | refine WS_condH_f rfl (by assumption) ?_ | (refine WS_cond rfl ?_ ?_ <;> intro hc <;> (try simp only [decide_eq_true_eq, decide_eq_false_iff_not, Bool.not_eq_eq_eq_not, Bool.not_true, Bool.not_false, Bool.and_eq_true, Bool.or_eq_true, bne_iff_ne, beq_iff_eq, ne_eq, Decidable.not_not] at hc) <;> (try (exfalso; first | contradiction | omega; done)))) | (refine LS_h (H_next rfl iI) rfl ?_; rintro ⟨_ | ⟨i, z, u⟩, ho⟩ <;> simp only [NextR.val, NextR.rest, NextR.now]) | (refine LS_q (Q_entry rfl iI) rfl ?_))
    · obtain rfl : left = [] := ho
      refine ret_none (.inr rfl) rfl ⟨(pre, true), rfl, ?_⟩
      rw [List.map_nil, List.append_nil] at hp
      show Ent _ ((pure' _ * (_ * _)) * G)
      refine Ent.trans Ent.mpi_mp ?_
      rw [star_assoc]
      refine Ent.pureI hp ?_
      ((try simp only [star_assoc, emp_star, star_emp]); (repeat' (first | exact Ent.last | refine Ent.take ?_ | refine Ent.nilT ?_ | refine Ent.takeR (by first | rfl | assumption | (simp; done)) ?_ | exact Ent.refl _)))
    · refine LS_i (I_yield rfl rfl rfl (hY pre z ⟨pre ++ [z] ++ (left.eraseIdx i).map (·.1), perm_next hp ho, ⟨_, rfl⟩⟩)) inferInstance rfl ?_
      intro b
      cases b
      all_goals simp only [cond_true, cond_false]
      · repeat' (first | (refine hK _ ?_; clear hK K) | (with_reducible (first | refine thenS_n ?_ | refine thenS_e ?_ | refine blockS_n ?_ | refine blockS_e ?_ | refine blockS_o rfl ?_ | refine thenS_r ?_ | refine blockS_r ?_ | refine use_K (by assumption) ?_)) | refine LS_nil ?_ | ((refine' LQ ?zh rfl ?_); case zh => intro F'; exact Q_un rfl iI) | (first | refine WS_block ?_ | refine WS_skip ?_ | refine WS_ret ?_ | refine WS_exit ?_ | refine WS_label ?_) | (show WS _ _ _ (.cond _ _ _) _ _; first | refine WS_condT rfl iI ?_ | refine WS_condF rfl iI ?_ | refine WS_condH_t rfl (by assumption) ?_ | refine WS_condH_f rfl (by assumption) ?_ | (refine WS_cond rfl ?_ ?_ <;> intro hc <;> (try simp only [decide_eq_true_eq, decide_eq_false_iff_not, Bool.not_eq_eq_eq_not, Bool.not_true, Bool.not_false, Bool.and_eq_true, Bool.or_eq_true, bne_iff_ne, beq_iff_eq, ne_eq, Decidable.not_not] at hc) <;> (try (exfalso; first | contradiction | omega; done)))))
        refine ret_none (.inl rfl) rfl ⟨(pre ++ [z], false), rfl, ?_⟩
        show Ent _ ((_ * _) * G)
        exact Ent.trans (F := mpi keyV u32 r it m (left.eraseIdx i) (some (z, u)) * (Jx (pre ++ [z]) * (cel gm 265 [.map (some r)] * G))) (by ((try simp only [star_assoc, emp_star, star_emp]); (repeat' (first | exact Ent.last | refine Ent.take ?_ | refine Ent.nilT ?_ | refine Ent.takeR (by first | rfl | assumption | (simp; done)) ?_ | exact Ent.refl _)))) (Ent.trans Ent.mpi_mp (by ((try simp only [star_assoc, emp_star, star_emp]); (repeat' (first | exact Ent.last | refine Ent.take ?_ | refine Ent.nilT ?_ | refine Ent.takeR (by first | rfl | assumption | (simp; done)) ?_ | exact Ent.refl _)))))
      · repeat' (first | (refine hK _ ?_; clear hK K) | (with_reducible (first | refine thenS_n ?_ | refine thenS_e ?_ | refine blockS_n ?_ | refine blockS_e ?_ | refine blockS_o rfl ?_ | refine thenS_r ?_ | refine blockS_r ?_ | refine use_K (by assumption) ?_)) | refine LS_nil ?_ | ((refine' LQ ?zh rfl ?_); case zh => intro F'; exact Q_un rfl iI) | (first | refine WS_block ?_ | refine WS_skip ?_ | refine WS_ret ?_ | refine WS_exit ?_ | refine WS_label ?_) | (show WS _ _ _ (.cond _ _ _) _ _; first | refine WS_condT rfl iI ?_ | refine WS_condF rfl iI ?_ | refine WS_condH_t rfl (by assumption) ?_ | refine WS_condH_f rfl (by assumption) ?_ | (refine WS_cond rfl ?_ ?_ <;> intro hc <;> (try simp only [decide_eq_true_eq, decide_eq_false_iff_not, Bool.not_eq_eq_eq_not, Bool.not_true, Bool.not_false, Bool.and_eq_true, Bool.or_eq_true, bne_iff_ne, beq_iff_eq, ne_eq, Decidable.not_not] at hc) <;> (try (exfalso; first | contradiction | omega; done)))))
        have hlt := (List.getElem?_eq_some_iff.1 ho).1
        exact ⟨k - 1, _, by omega, ⟨pre ++ [z], left.eraseIdx i, some (z, u), by rw [List.length_eraseIdx, if_pos hlt, hk], perm_next hp ho, rfl⟩, ⟨rfl, rfl, trivial⟩, rfl, by ((try simp only [star_assoc, emp_star, star_emp]); (repeat' (first | exact Ent.last | refine Ent.take ?_ | refine Ent.nilT ?_ | refine Ent.takeR (by first | rfl | assumption | (simp; done)) ?_ | exact Ent.refl _)))⟩
set_option maxRecDepth 100000 in
set_option maxHeartbeats 4000000 in
theorem appendSeqR_spec {gf : FuncId} {lb : List Value} {X : HProp} {S : List Rec → Prop} (hf : IsFun Tryz.prog gf) (it : IterS Tryz.prog w0 gf lb X (fun k => [keyV k]) S) (hS : ∀ xs, S xs → xs.length ≤ 100000) :
    Spec Tryz.prog w0 249 [.slice none 0 0, .func (.func gf) #[] lb.toArray] X (fun p : Value × List Rec => p.1) (fun p => pure' (S p.2) * (rows 48 3 Rec.cells p.1 p.2 * X)) := by
  refine Spec.enterM Tryz.func249 rfl Tryz.ntmps249 rfl fun G => ?_
  simp only [argE]
  repeat' (first | (refine WS_seqK ?_; intro K hK) | (refine hK _ ?_; clear hK K) | refine WS_region ?_ | refine LS_nil ?_ | ((refine' LQ ?zh rfl ?_); case zh => intro F'; first | exact Q_move rfl | exact Q_assign rfl) | ((refine' LS_h ?zh rfl ?_); (case zh => exact H_boxO rfl iI); intro g) | (first | refine WS_block ?_ | refine WS_skip ?_ | refine WS_ret ?_ | refine WS_exit ?_ | refine WS_label ?_))
  revert g; intro gs
  refine WS_ent (Ent.nil _ 48 3 Rec.cells none) ?_
  refine WS_ent (H' := X * ((hex fun v => cel gs 49 [v] * rows 48 3 Rec.cells v ([] : List Rec)) * G)) (Ent.trans (F := (hex fun v => cel gs 49 [v] * rows 48 3 Rec.cells v ([] : List Rec)) * (X * G)) (Ent.hexI (p := fun v => cel gs 49 [v] * rows 48 3 Rec.cells v ([] : List Rec)) (Value.slice none 0 0) (by ((try simp only [star_assoc, emp_star, star_emp]); (repeat' (first | exact Ent.last | refine Ent.take ?_ | refine Ent.nilT ?_ | refine Ent.takeR (by first | rfl | assumption | (simp; done)) ?_ | exact Ent.refl _))))) (by ((try simp only [star_assoc, emp_star, star_emp]); (repeat' (first | exact Ent.last | refine Ent.take ?_ | refine Ent.nilT ?_ | refine Ent.takeR (by first | rfl | assumption | (simp; done)) ?_ | exact Ent.refl _))))) ?_
  refine WS_rangeFunc rfl rfl hf it rfl (fun _ => rfl) (fun pre => hex fun v => cel gs 49 [v] * rows 48 3 Rec.cells v pre) (fun _ _ => pure' False) rfl ?_ ?_ ?_
  · rintro l pre x R ⟨xs, hxs, hpx⟩
    have hlen : pre.length + 1 ≤ 100000 := by
      have := hpx.length_le
      have := hS xs hxs
      simp at *; omega
    refine WS_hex fun v => ?_
    repeat' (first | refine WS_region ?_ | refine LS_nil ?_ | ((refine' LS_h ?zh rfl ?_); (case zh => exact H_alloc iI); intro g) | ((refine' LS_h0 ?zh ?_); (case zh => exact H_storeA rfl rfl iI iI (by first | rfl | (simp only [List.all_cons, List.all_nil, *]; rfl)) rfl); intro g))
    rename_i g2
    refine asgS_mk rfl (cel g2 48 x.cells * (cel gs 49 [v] * rows 48 3 Rec.cells v pre)) (by ((try simp only [star_assoc, emp_star, star_emp]); (repeat' (first | exact Ent.last | refine Ent.take ?_ | refine Ent.nilT ?_ | refine Ent.takeR (by first | rfl | assumption | (simp; done)) ?_ | exact Ent.refl _)))) fun R' => ?_
    repeat' (first | (with_reducible (first | refine thenS_n ?_ | refine thenS_e ?_ | refine blockS_n ?_ | refine blockS_e ?_ | refine blockS_o rfl ?_ | refine thenS_r ?_ | refine blockS_r ?_ | refine use_K (by assumption) ?_)) | refine WS_region ?_ | refine LS_nil ?_ | ((refine' LQ ?zh rfl ?_); case zh => intro F'; first | exact Q_load rfl iI iI rfl | exact Q_loadA rfl iI iI rfl) | ((refine' LS_h0 ?zh ?_); (case zh => exact H_storeO rfl rfl iI iI iI rfl); intro g) | (first | refine WS_block ?_ | refine WS_skip ?_ | refine WS_ret ?_ | refine WS_exit ?_ | refine WS_label ?_) | (refine LS_h (H_buildSliceR Rec.cells [x] iI iI iI rfl rfl rfl rfl rfl iI rfl rfl rfl) rfl ?_; intro vs) | (refine LS_h (H_appendR rfl rfl iI iI rfl iI iI recC_one (by first | omega | (simp [be_length] <;> omega)) rfl) rfl ?_; intro va))
    show Ent _ _
    refine Ent.hexI va ?_
    ((try simp only [star_assoc, emp_star, star_emp]); (repeat' (first | exact Ent.last | refine Ent.take ?_ | refine Ent.nilT ?_ | refine Ent.takeR (by first | rfl | assumption | (simp; done)) ?_ | exact Ent.refl _)))
  · intro b xs hxs
    refine hK _ ?_
    refine WS_ent (H' := (hex fun v => cel gs 49 [v] * rows 48 3 Rec.cells v xs) * (dblk b * (X * G))) (by ((try simp only [star_assoc, emp_star, star_emp]); (repeat' (first | exact Ent.last | refine Ent.take ?_ | refine Ent.nilT ?_ | refine Ent.takeR (by first | rfl | assumption | (simp; done)) ?_ | exact Ent.refl _)))) ?_
    refine WS_hex fun v => ?_
    repeat' (first | (refine WS_seqK ?_; intro K hK) | (refine hK _ ?_; clear hK K) | refine WS_region ?_ | refine LS_nil ?_ | ((refine' LQ ?zh rfl ?_); case zh => intro F'; first | exact Q_assign rfl | exact Q_load rfl iI iI rfl) | (first | refine WS_block ?_ | refine WS_skip ?_ | refine WS_ret ?_ | refine WS_exit ?_ | refine WS_label ?_))
    refine out_r ?_
    refine lv_mark (fun h => by cases h) inferInstance ?_
    refine lv_ret1 rfl (RV_tmp rfl) ⟨(v, xs), rfl, ?_⟩
    show Ent _ ((pure' (S xs) * (rows 48 3 Rec.cells v xs * X)) * G)
    rw [star_assoc (pure' (S xs))]
    refine Ent.pureI hxs ?_
    ((try simp only [star_assoc, emp_star, star_emp]); (repeat' (first | exact Ent.last | refine Ent.take ?_ | refine Ent.nilT ?_ | refine Ent.takeR (by first | rfl | assumption | (simp; done)) ?_ | exact Ent.refl _)))
  · intro b c pre
    exact WS_pure (φ := False) fun h => h.elim
set_option maxRecDepth 100000 in
set_option maxHeartbeats 4000000 in
theorem collectR_spec {gf : FuncId} {lb : List Value} {X : HProp} {S : List Rec → Prop} (hf : IsFun Tryz.prog gf) (it : IterS Tryz.prog w0 gf lb X (fun k => [keyV k]) S) (hS : ∀ xs, S xs → xs.length ≤ 100000) :
    Spec Tryz.prog w0 210 [.func (.func gf) #[] lb.toArray] X (fun p : Value × List Rec => p.1) (fun p => pure' (S p.2) * (rows 48 3 Rec.cells p.1 p.2 * X)) := by
  have happ := appendSeqR_spec w0 hf it hS
  refine Spec.enter Tryz.func210 rfl Tryz.ntmps210 rfl fun G => ?_
  simp only [argE]
  repeat' (first | (refine WS_seqK ?_; intro K hK) | (refine hK _ ?_; clear hK K) | refine WS_region ?_ | refine LS_nil ?_ | ((refine' LQ ?zh rfl ?_); case zh => intro F'; first | exact Q_move rfl | exact Q_assign rfl) | (first | refine WS_block ?_ | refine WS_skip ?_ | refine WS_ret ?_ | refine WS_exit ?_ | refine WS_label ?_) | (refine LS_h (H_callX iI rfl happ iI) rfl ?_; intro p))
  exact ret_tmp (.inl rfl) rfl rfl ⟨p, rfl, by ((try simp only [star_assoc, emp_star, star_emp]); (repeat' (first | exact Ent.last | refine Ent.take ?_ | refine Ent.nilT ?_ | refine Ent.takeR (by first | rfl | assumption | (simp; done)) ?_ | exact Ent.refl _)))⟩
set_option maxRecDepth 100000 in
set_option maxHeartbeats 4000000 in
theorem sortedR_spec {gf : FuncId} {lb : List Value} {X : HProp} {S : List Rec → Prop} (hf : IsFun Tryz.prog gf) (it : IterS Tryz.prog w0 gf lb X (fun k => [keyV k]) S) (hS : ∀ xs, S xs → xs.length ≤ 100000) :
    Spec Tryz.prog w0 158 [.func (.func gf) #[] lb.toArray, .func (.func 160) #[] #[]] X (fun p : Value × (l : List Rec) × SortedR l => p.1) (fun p => pure' (S p.2.1) * (rows 48 3 Rec.cells p.1 p.2.2.l' * X)) := by
  have hcol := collectR_spec w0 hf it hS
  refine Spec.enter Tryz.func158 rfl Tryz.ntmps158 rfl fun G => ?_
  simp only [argE]
  repeat' (first | (refine WS_seqK ?_; intro K hK) | (refine hK _ ?_; clear hK K) | refine WS_region ?_ | refine LS_nil ?_ | ((refine' LQ ?zh rfl ?_); case zh => intro F'; first | exact Q_move rfl | exact Q_assign rfl) | (first | refine WS_block ?_ | refine WS_skip ?_ | refine WS_ret ?_ | refine WS_exit ?_ | refine WS_label ?_) | (refine LS_h (H_callX iI rfl hcol iI) rfl ?_; rintro ⟨v, l⟩; refine LS_pureI iI fun hp => ?_; have hsort := sortF_spec w0 v l (by have := hS l hp; omega); dsimp only) | (refine LS_h (H_callX iI rfl (by assumption) iI) rfl ?_; intro s))
  refine ret_tmp (.inl rfl) rfl rfl ⟨(v, ⟨l, s⟩), rfl, ?_⟩
  show Ent _ ((pure' (S l) * (rows 48 3 Rec.cells v s.l' * X)) * G)
  rw [star_assoc (pure' (S l))]
  exact Ent.pureI hp (by ((try simp only [star_assoc, emp_star, star_emp]); (repeat' (first | exact Ent.last | refine Ent.take ?_ | refine Ent.nilT ?_ | refine Ent.takeR (by first | rfl | assumption | (simp; done)) ?_ | exact Ent.refl _))))
end Go.Proofs.YtapoehkdnglahaaGreat

/- maps.Keys and wire.Compact, by a walk. -/
namespace Go.Proofs.YtapoehkdnglahaaGreat
open Go.RowKit
set_option linter.unusedVariables false
set_option linter.unusedSectionVars false
set_option linter.unusedSimpArgs false
attribute [local irreducible] WS LS OpQ OpT OpH OpTQ Spec SpecQ cel
variable (w0 : World)
set_option maxRecDepth 100000 in
theorem keysR_spec (r : Nat) : Spec Tryz.prog w0 159 [.map (some r)] emp (fun g : Nat => .func (.func 212) #[] [ptr g 0].toArray) (fun g => cel g 265 [.map (some r)]) := by
  refine Spec.enter Tryz.func159 rfl Tryz.ntmps159 rfl fun G => ?_
  simp only [argE]
  repeat' (first | (refine WS_seqK ?_; intro K hK) | (refine hK _ ?_; clear hK K) | refine WS_region ?_ | refine LS_nil ?_ | ((refine' LQ ?zh rfl ?_); case zh => intro F'; first | exact Q_assign rfl | exact Q_makeFunc rfl rfl) | ((refine' LS_h ?zh rfl ?_); (case zh => exact H_boxO rfl iI); intro g) | (first | refine WS_block ?_ | refine WS_skip ?_ | refine WS_ret ?_ | refine WS_exit ?_ | refine WS_label ?_))
  exact ret_tmp (.inl rfl) rfl rfl ⟨g, rfl, by ((try simp only [star_assoc, emp_star, star_emp]); (repeat' (first | exact Ent.last | refine Ent.take ?_ | refine Ent.nilT ?_ | refine Ent.takeR (by first | rfl | assumption | (simp; done)) ?_ | exact Ent.refl _)))⟩
theorem mset_le {κ ν : Type} [DecidableEq κ] (m : List (κ × ν)) (k : κ) (v : ν) : (mset m k v).length ≤ m.length + 1 := by
  rw [mset_length]; split <;> omega
theorem fillR_step {m : List (Rec × UInt32)} {ks : List Rec} {j : Nat} {x : Rec} {u : UInt32} (hx : ks[j]? = some x) (hu : mget m x = some u) : (fillR m (ks.take j) ++ ks.drop j).set j { x with seq := u } = fillR m (ks.take (j + 1)) ++ ks.drop (j + 1) := by
  obtain ⟨hlt, he⟩ := List.getElem?_eq_some_iff.1 hx
  have h1 : (fillR m (ks.take j)).length = j := by simp [fillR]; omega
  have h2 : ks.drop j = x :: ks.drop (j + 1) := by rw [← he, List.getElem_cons_drop]
  rw [List.take_add_one, hx, h2, List.set_append, if_neg (by omega), h1, Nat.sub_self, List.set_cons_zero]
  simp [fillR, hu]
theorem fillR_at {m : List (Rec × UInt32)} {ks : List Rec} {j : Nat} {x : Rec} (hx : ks[j]? = some x) : (fillR m (ks.take j) ++ ks.drop j)[j]? = some x := by
  obtain ⟨hlt, he⟩ := List.getElem?_eq_some_iff.1 hx
  have h1 : (fillR m (ks.take j)).length = j := by simp [fillR]; omega
  rw [List.getElem?_append_right (by omega), h1, Nat.sub_self, List.getElem?_drop]; exact hx
theorem fillR_len {m : List (Rec × UInt32)} {ks : List Rec} {j : Nat} (hj : j ≤ ks.length) : (fillR m (ks.take j) ++ ks.drop j).length = ks.length := by
  simp [fillR]; omega
set_option maxRecDepth 100000 in
set_option maxHeartbeats 4000000 in
theorem wcompact_spec (l : List Rec) (hl : l.length ≤ 100000) (v : Value) (X : HProp) [hX : Rdr w0 X v Rec 3 Rec.cells l] : Spec Tryz.prog w0 98 [v] X (fun m : Value => m) (fun m => rows 48 3 Rec.cells m (compR l) * X) := by
  refine Spec.enter Tryz.func98 rfl Tryz.ntmps98 rfl fun G => ?_
  simp only [argE]
  repeat' (first | (refine WS_seqK ?_; intro K hK) | (refine hK _ ?_; clear hK K) | refine WS_region ?_ | refine LS_nil ?_ | ((refine' LQ ?zh rfl ?_); case zh => intro F'; first | exact Q_move rfl | exact Q_assign rfl | exact Q_lenR rfl iI iI) | (first | refine WS_block ?_ | refine WS_skip ?_ | refine WS_ret ?_ | refine WS_exit ?_ | refine WS_label ?_) | (refine LS_h (H_makeMap keyV u32) rfl ?_; intro r))
  refine WS_loop (fun k τ => ∃ (j : Nat) (m : List (Rec × UInt32)), j + k = l.length ∧ Most (l.take j) m ∧ m.length ≤ j ∧ τ = ⟨[(13, .int .i64 (j : Int)), (12, .int .i64 (l.length : Int)), (11, v), (3, .map (some r))], [], mp keyV u32 r m * (X * G)⟩) ?_ ?_
  · exact ⟨l.length, _, ⟨0, [], by omega, Most.nil, Nat.le_refl _, rfl⟩, ⟨rfl, rfl, rfl, rfl, trivial⟩, rfl, by ((try simp only [star_assoc, emp_star, star_emp]); (repeat' (first | exact Ent.last | refine Ent.take ?_ | refine Ent.nilT ?_ | refine Ent.takeR (by first | rfl | assumption | (simp; done)) ?_ | exact Ent.refl _)))⟩
  · rintro k τ ⟨j, m, hjk, hm, hml, rfl⟩
    rcases Nat.lt_or_ge j l.length with hlt | hge
    · obtain ⟨z, hz⟩ : ∃ z, l[j]? = some z := ⟨_, List.getElem?_eq_getElem hlt⟩
      have hsn := hm.snoc z
      have htk : l.take j ++ [z] = l.take (j + 1) := by rw [List.take_add_one, hz, Option.toList_some]
      rw [htk] at hsn
      have hlen := mset_le m z.norm.key (max ((mget m z.norm.key).getD 0) z.seq)
      obtain ⟨o, a, q⟩ := z
      cases o
      · have hk0 : (⟨false, a, q⟩ : Rec).norm.key = ⟨false, a, 0⟩ := rfl
        rw [hk0] at hsn hlen
        cases hg : mget m ⟨false, a, 0⟩ with
        | none =>
          rw [hg] at hsn hlen
          simp only [Option.getD_none, Option.getD_some] at hsn hlen
          repeat' (first | (show WS _ _ _ (.region 9 _ true) _ _; refine WS_drawK [0, 1, 2, 3, 4, 5, 6, 7, 8] 8 [1, 3, 4, 6, 7] (by decide +kernel) rfl ?_) | (refine WS_seqK ?_; intro K hK) | (refine hK _ ?_; clear hK K) | (with_reducible (first | refine thenS_n ?_ | refine thenS_e ?_ | refine blockS_n ?_ | refine blockS_e ?_ | refine blockS_o rfl ?_ | refine thenS_r ?_ | refine blockS_r ?_ | refine use_K (by assumption) ?_)) | refine WS_region ?_ | refine LS_nil ?_ | (first | refine DL_nilA ?_ | refine DL_nilS ?_ | refine DL_nilN ?_ | refine DL_nilE ?_ | refine DL_nilR ?_) | (first | refine DL_claimS rfl ?_ | refine DL_claim rfl rfl ?_) | ((first | refine' LQ ?zh rfl ?_ | refine' DL_qp rfl rfl rfl ?zh ?_ | refine' DL_q rfl rfl ?zh ?_); case zh => intro F'; first | exact Q_move rfl | exact Q_fieldAddr rfl iI rfl | exact Q_load rfl iI iI rfl | exact Q_bin_t rfl rfl iI (by first | assumption | omega | decide) | exact Q_addI rfl rfl (by omega) | exact Q_loadA rfl iI iI rfl | exact Q_index rfl rfl iI iI iI iI (by first | assumption | omega | (simp [be_length] <;> omega)) | exact Q_loadRA rfl iI iI iI (by assumption) | exact Q_lookup_n rfl rfl iI iI iI iI iI (by assumption) | exact Q_max32 rfl rfl iI iI) | ((refine' LS_h ?zh rfl ?_); (case zh => exact H_alloc iI); intro g) | ((first | refine' LS_h0 ?zh ?_ | refine' DL_h0 ?zh rfl rfl ?_); (case zh => first | exact H_storeO rfl rfl iI iI iI rfl | exact H_storeAO rfl rfl iI iI iI rfl | exact H_mapUpdate rfl rfl rfl iI iI iI iI iI | exact H_storeA rfl rfl iI iI (by first | rfl | (simp only [List.all_cons, List.all_nil, *]; rfl)) rfl); intro g) | (first | refine WS_block ?_ | refine WS_skip ?_ | refine WS_ret ?_ | refine WS_exit ?_ | refine WS_label ?_) | (show WS _ _ _ (.cond _ _ _) _ _; first | refine WS_condT rfl iI ?_ | refine WS_condF rfl iI ?_ | refine WS_condH_t rfl (by assumption) ?_ | refine WS_condH_f rfl (by assumption) ?_ | (refine WS_cond rfl ?_ ?_ <;> intro hc <;> (try simp only [decide_eq_true_eq, decide_eq_false_iff_not, Bool.not_eq_eq_eq_not, Bool.not_true, Bool.not_false, Bool.and_eq_true, Bool.or_eq_true, bne_iff_ne, beq_iff_eq, ne_eq, Decidable.not_not] at hc) <;> (try (exfalso; first | contradiction | omega; done)))))
          exact ⟨k - 1, _, by omega, ⟨j + 1, _, by omega, hsn, by have := hlen; omega, rfl⟩, ⟨rfl, rfl, rfl, rfl, trivial⟩, rfl, by ((try simp only [star_assoc, emp_star, star_emp]); (repeat' (first | exact Ent.last | refine Ent.take ?_ | refine Ent.nilT ?_ | refine Ent.takeR (by first | rfl | assumption | (simp; done)) ?_ | exact Ent.refl _)))⟩
        | some u =>
          rw [hg] at hsn hlen
          simp only [Option.getD_none, Option.getD_some] at hsn hlen
          repeat' (first | (show WS _ _ _ (.region 9 _ true) _ _; refine WS_drawK [0, 1, 2, 3, 4, 5, 6, 7, 8] 8 [1, 3, 4, 6, 7] (by decide +kernel) rfl ?_) | (refine WS_seqK ?_; intro K hK) | (refine hK _ ?_; clear hK K) | (with_reducible (first | refine thenS_n ?_ | refine thenS_e ?_ | refine blockS_n ?_ | refine blockS_e ?_ | refine blockS_o rfl ?_ | refine thenS_r ?_ | refine blockS_r ?_ | refine use_K (by assumption) ?_)) | refine WS_region ?_ | refine LS_nil ?_ | (first | refine DL_nilA ?_ | refine DL_nilS ?_ | refine DL_nilN ?_ | refine DL_nilE ?_ | refine DL_nilR ?_) | (first | refine DL_claimS rfl ?_ | refine DL_claim rfl rfl ?_) | ((first | refine' LQ ?zh rfl ?_ | refine' DL_qp rfl rfl rfl ?zh ?_ | refine' DL_q rfl rfl ?zh ?_); case zh => intro F'; first | exact Q_move rfl | exact Q_fieldAddr rfl iI rfl | exact Q_load rfl iI iI rfl | exact Q_bin_t rfl rfl iI (by first | assumption | omega | decide) | exact Q_addI rfl rfl (by omega) | exact Q_loadA rfl iI iI rfl | exact Q_index rfl rfl iI iI iI iI (by first | assumption | omega | (simp [be_length] <;> omega)) | exact Q_loadRA rfl iI iI iI (by assumption) | exact Q_lookup_s rfl rfl iI iI iI iI iI (by assumption) | exact Q_max32 rfl rfl iI iI) | ((refine' LS_h ?zh rfl ?_); (case zh => exact H_alloc iI); intro g) | ((first | refine' LS_h0 ?zh ?_ | refine' DL_h0 ?zh rfl rfl ?_); (case zh => first | exact H_storeO rfl rfl iI iI iI rfl | exact H_storeAO rfl rfl iI iI iI rfl | exact H_mapUpdate rfl rfl rfl iI iI iI iI iI | exact H_storeA rfl rfl iI iI (by first | rfl | (simp only [List.all_cons, List.all_nil, *]; rfl)) rfl); intro g) | (first | refine WS_block ?_ | refine WS_skip ?_ | refine WS_ret ?_ | refine WS_exit ?_ | refine WS_label ?_) | (show WS _ _ _ (.cond _ _ _) _ _; first | refine WS_condT rfl iI ?_ | refine WS_condF rfl iI ?_ | refine WS_condH_t rfl (by assumption) ?_ | refine WS_condH_f rfl (by assumption) ?_ | (refine WS_cond rfl ?_ ?_ <;> intro hc <;> (try simp only [decide_eq_true_eq, decide_eq_false_iff_not, Bool.not_eq_eq_eq_not, Bool.not_true, Bool.not_false, Bool.and_eq_true, Bool.or_eq_true, bne_iff_ne, beq_iff_eq, ne_eq, Decidable.not_not] at hc) <;> (try (exfalso; first | contradiction | omega; done)))))
          exact ⟨k - 1, _, by omega, ⟨j + 1, _, by omega, hsn, by have := hlen; omega, rfl⟩, ⟨rfl, rfl, rfl, rfl, trivial⟩, rfl, by ((try simp only [star_assoc, emp_star, star_emp]); (repeat' (first | exact Ent.last | refine Ent.take ?_ | refine Ent.nilT ?_ | refine Ent.takeR (by first | rfl | assumption | (simp; done)) ?_ | exact Ent.refl _)))⟩
      · have hk0 : (⟨true, a, q⟩ : Rec).norm.key = ⟨true, 0, 0⟩ := rfl
        rw [hk0] at hsn hlen
        cases hg : mget m ⟨true, 0, 0⟩ with
        | none =>
          rw [hg] at hsn hlen
          simp only [Option.getD_none, Option.getD_some] at hsn hlen
          repeat' (first | (show WS _ _ _ (.region 9 _ true) _ _; refine WS_drawK [0, 1, 2, 3, 4, 5, 6, 7, 8] 8 [1, 3, 4, 6, 7] (by decide +kernel) rfl ?_) | (refine WS_seqK ?_; intro K hK) | (refine hK _ ?_; clear hK K) | (with_reducible (first | refine thenS_n ?_ | refine thenS_e ?_ | refine blockS_n ?_ | refine blockS_e ?_ | refine blockS_o rfl ?_ | refine thenS_r ?_ | refine blockS_r ?_ | refine use_K (by assumption) ?_)) | refine WS_region ?_ | refine LS_nil ?_ | (first | refine DL_nilA ?_ | refine DL_nilS ?_ | refine DL_nilN ?_ | refine DL_nilE ?_ | refine DL_nilR ?_) | (first | refine DL_claimS rfl ?_ | refine DL_claim rfl rfl ?_) | ((first | refine' LQ ?zh rfl ?_ | refine' DL_qp rfl rfl rfl ?zh ?_ | refine' DL_q rfl rfl ?zh ?_); case zh => intro F'; first | exact Q_move rfl | exact Q_fieldAddr rfl iI rfl | exact Q_load rfl iI iI rfl | exact Q_bin_t rfl rfl iI (by first | assumption | omega | decide) | exact Q_addI rfl rfl (by omega) | exact Q_loadA rfl iI iI rfl | exact Q_index rfl rfl iI iI iI iI (by first | assumption | omega | (simp [be_length] <;> omega)) | exact Q_loadRA rfl iI iI iI (by assumption) | exact Q_lookup_n rfl rfl iI iI iI iI iI (by assumption) | exact Q_max32 rfl rfl iI iI) | ((refine' LS_h ?zh rfl ?_); (case zh => exact H_alloc iI); intro g) | ((first | refine' LS_h0 ?zh ?_ | refine' DL_h0 ?zh rfl rfl ?_); (case zh => first | exact H_storeO rfl rfl iI iI iI rfl | exact H_storeAO rfl rfl iI iI iI rfl | exact H_mapUpdate rfl rfl rfl iI iI iI iI iI | exact H_storeA rfl rfl iI iI (by first | rfl | (simp only [List.all_cons, List.all_nil, *]; rfl)) rfl); intro g) | (first | refine WS_block ?_ | refine WS_skip ?_ | refine WS_ret ?_ | refine WS_exit ?_ | refine WS_label ?_) | (show WS _ _ _ (.cond _ _ _) _ _; first | refine WS_condT rfl iI ?_ | refine WS_condF rfl iI ?_ | refine WS_condH_t rfl (by assumption) ?_ | refine WS_condH_f rfl (by assumption) ?_ | (refine WS_cond rfl ?_ ?_ <;> intro hc <;> (try simp only [decide_eq_true_eq, decide_eq_false_iff_not, Bool.not_eq_eq_eq_not, Bool.not_true, Bool.not_false, Bool.and_eq_true, Bool.or_eq_true, bne_iff_ne, beq_iff_eq, ne_eq, Decidable.not_not] at hc) <;> (try (exfalso; first | contradiction | omega; done)))))
          exact ⟨k - 1, _, by omega, ⟨j + 1, _, by omega, hsn, by have := hlen; omega, rfl⟩, ⟨rfl, rfl, rfl, rfl, trivial⟩, rfl, by ((try simp only [star_assoc, emp_star, star_emp]); (repeat' (first | exact Ent.last | refine Ent.take ?_ | refine Ent.nilT ?_ | refine Ent.takeR (by first | rfl | assumption | (simp; done)) ?_ | exact Ent.refl _)))⟩
        | some u =>
          rw [hg] at hsn hlen
          simp only [Option.getD_none, Option.getD_some] at hsn hlen
          repeat' (first | (show WS _ _ _ (.region 9 _ true) _ _; refine WS_drawK [0, 1, 2, 3, 4, 5, 6, 7, 8] 8 [1, 3, 4, 6, 7] (by decide +kernel) rfl ?_) | (refine WS_seqK ?_; intro K hK) | (refine hK _ ?_; clear hK K) | (with_reducible (first | refine thenS_n ?_ | refine thenS_e ?_ | refine blockS_n ?_ | refine blockS_e ?_ | refine blockS_o rfl ?_ | refine thenS_r ?_ | refine blockS_r ?_ | refine use_K (by assumption) ?_)) | refine WS_region ?_ | refine LS_nil ?_ | (first | refine DL_nilA ?_ | refine DL_nilS ?_ | refine DL_nilN ?_ | refine DL_nilE ?_ | refine DL_nilR ?_) | (first | refine DL_claimS rfl ?_ | refine DL_claim rfl rfl ?_) | ((first | refine' LQ ?zh rfl ?_ | refine' DL_qp rfl rfl rfl ?zh ?_ | refine' DL_q rfl rfl ?zh ?_); case zh => intro F'; first | exact Q_move rfl | exact Q_fieldAddr rfl iI rfl | exact Q_load rfl iI iI rfl | exact Q_bin_t rfl rfl iI (by first | assumption | omega | decide) | exact Q_addI rfl rfl (by omega) | exact Q_loadA rfl iI iI rfl | exact Q_index rfl rfl iI iI iI iI (by first | assumption | omega | (simp [be_length] <;> omega)) | exact Q_loadRA rfl iI iI iI (by assumption) | exact Q_lookup_s rfl rfl iI iI iI iI iI (by assumption) | exact Q_max32 rfl rfl iI iI) | ((refine' LS_h ?zh rfl ?_); (case zh => exact H_alloc iI); intro g) | ((first | refine' LS_h0 ?zh ?_ | refine' DL_h0 ?zh rfl rfl ?_); (case zh => first | exact H_storeO rfl rfl iI iI iI rfl | exact H_storeAO rfl rfl iI iI iI rfl | exact H_mapUpdate rfl rfl rfl iI iI iI iI iI | exact H_storeA rfl rfl iI iI (by first | rfl | (simp only [List.all_cons, List.all_nil, *]; rfl)) rfl); intro g) | (first | refine WS_block ?_ | refine WS_skip ?_ | refine WS_ret ?_ | refine WS_exit ?_ | refine WS_label ?_) | (show WS _ _ _ (.cond _ _ _) _ _; first | refine WS_condT rfl iI ?_ | refine WS_condF rfl iI ?_ | refine WS_condH_t rfl (by assumption) ?_ | refine WS_condH_f rfl (by assumption) ?_ | (refine WS_cond rfl ?_ ?_ <;> intro hc <;> (try simp only [decide_eq_true_eq, decide_eq_false_iff_not, Bool.not_eq_eq_eq_not, Bool.not_true, Bool.not_false, Bool.and_eq_true, Bool.or_eq_true, bne_iff_ne, beq_iff_eq, ne_eq, Decidable.not_not] at hc) <;> (try (exfalso; first | contradiction | omega; done)))))
          exact ⟨k - 1, _, by omega, ⟨j + 1, _, by omega, hsn, by have := hlen; omega, rfl⟩, ⟨rfl, rfl, rfl, rfl, trivial⟩, rfl, by ((try simp only [star_assoc, emp_star, star_emp]); (repeat' (first | exact Ent.last | refine Ent.take ?_ | refine Ent.nilT ?_ | refine Ent.takeR (by first | rfl | assumption | (simp; done)) ?_ | exact Ent.refl _)))⟩
    · obtain rfl : j = l.length := by omega
      rw [List.take_length] at hm
      have hkeys := keysR_spec w0 r
      have hsorted : ∀ g, Spec Tryz.prog w0 158 [.func (.func 212) #[] [ptr g 0].toArray, .func (.func 160) #[] #[]] (cel g 265 [.map (some r)] * mp keyV u32 r m) (fun p : Value × (l : List Rec) × SortedR l => p.1) (fun p => pure' (p.2.1.Perm (m.map (·.1))) * (rows 48 3 Rec.cells p.1 p.2.2.l' * (cel g 265 [.map (some r)] * mp keyV u32 r m))) := fun g =>
        sortedR_spec w0 inferInstance (keysR_iter w0 m r g) (fun xs hx => by have := hx.length_eq; simp at this; omega)
      repeat' (first | (refine WS_seqK ?_; intro K hK) | (refine hK _ ?_; clear hK K) | (with_reducible (first | refine thenS_n ?_ | refine thenS_e ?_ | refine blockS_n ?_ | refine blockS_e ?_ | refine blockS_o rfl ?_ | refine thenS_r ?_ | refine blockS_r ?_ | refine use_K (by assumption) ?_)) | refine WS_region ?_ | refine LS_nil ?_ | ((refine' LQ ?zh rfl ?_); case zh => intro F'; first | exact Q_move rfl | exact Q_assign rfl | exact Q_bin_f rfl rfl iI (by first | assumption | omega | decide) | exact Q_lenR rfl iI iI) | (first | refine WS_block ?_ | refine WS_skip ?_ | refine WS_ret ?_ | refine WS_exit ?_ | refine WS_label ?_) | (show WS _ _ _ (.cond _ _ _) _ _; first | refine WS_condT rfl iI ?_ | refine WS_condF rfl iI ?_ | refine WS_condH_t rfl (by assumption) ?_ | refine WS_condH_f rfl (by assumption) ?_ | (refine WS_cond rfl ?_ ?_ <;> intro hc <;> (try simp only [decide_eq_true_eq, decide_eq_false_iff_not, Bool.not_eq_eq_eq_not, Bool.not_true, Bool.not_false, Bool.and_eq_true, Bool.or_eq_true, bne_iff_ne, beq_iff_eq, ne_eq, Decidable.not_not] at hc) <;> (try (exfalso; first | contradiction | omega; done)))) | (refine LS_h (H_callX iI rfl hkeys iI) rfl ?_; intro gk) | (refine LS_h (H_callX iI rfl (hsorted gk) iI) rfl ?_; rintro ⟨vk, l0, sk⟩; refine LS_pureI iI fun hp => ?_; dsimp only))
      have hp' : l0.Perm (m.map (·.1)) := hp
      have hpm : sk.l'.Perm (m.map (·.1)) := sk.perm.trans hp'
      have hfin := fill_comp hm hpm sk.rise
      have hkl : sk.l'.length ≤ 100000 := by have := hpm.length_eq; simp at this; omega
      refine WS_loop (fun k τ => ∃ j : Nat, j + k = sk.l'.length ∧ τ = ⟨[(36, .int .i64 (j : Int)), (35, .int .i64 (sk.l'.length : Int)), (34, vk), (7, vk), (3, .map (some r))], [], rows 48 3 Rec.cells vk (fillR m (sk.l'.take j) ++ sk.l'.drop j) * (mp keyV u32 r m * (X * G))⟩) ?_ ?_
      · exact ⟨sk.l'.length, _, ⟨0, by omega, rfl⟩, ⟨rfl, rfl, rfl, rfl, rfl, trivial⟩, rfl, by simp only [List.take_zero, List.drop_zero, fillR, List.map_nil, List.nil_append]; ((try simp only [star_assoc, emp_star, star_emp]); (repeat' (first | exact Ent.last | refine Ent.take ?_ | refine Ent.nilT ?_ | refine Ent.takeR (by first | rfl | assumption | (simp; done)) ?_ | exact Ent.refl _)))⟩
      · rintro k τ ⟨j, hjk2, rfl⟩
        have hfl := fillR_len (m := m) (ks := sk.l') (j := j) (by omega)
        rcases Nat.lt_or_ge j sk.l'.length with hlt | hge
        · obtain ⟨x, hx⟩ : ∃ z, sk.l'[j]? = some z := ⟨_, List.getElem?_eq_getElem hlt⟩
          have hxm : x ∈ m.map (·.1) := hpm.subset (List.mem_of_getElem? hx)
          obtain ⟨u, hu⟩ : ∃ u, mget m x = some u := by
            cases hg : mget m x with
            | none => exact absurd hxm ((mget_none_iff m x).1 hg)
            | some u => exact ⟨u, rfl⟩
          have hat := fillR_at (m := m) hx
          have hst := fillR_step hx hu
          have hj2 : j < (fillR m (sk.l'.take j) ++ sk.l'.drop j).length := by omega
          generalize fillR m (sk.l'.take j) ++ sk.l'.drop j = cur at hat hst hfl hj2 ⊢
          repeat' (first | (refine WS_seqK ?_; intro K hK) | (refine hK _ ?_; clear hK K) | (with_reducible (first | refine thenS_n ?_ | refine thenS_e ?_ | refine blockS_n ?_ | refine blockS_e ?_ | refine blockS_o rfl ?_ | refine thenS_r ?_ | refine blockS_r ?_ | refine use_K (by assumption) ?_)) | refine WS_region ?_ | refine LS_nil ?_ | ((refine' LQ ?zh rfl ?_); case zh => intro F'; first | exact Q_move rfl | exact Q_assign rfl | exact Q_bin_t rfl rfl iI (by first | assumption | omega | decide) | exact Q_addI rfl rfl (by omega) | exact Q_loadA rfl iI iI rfl | exact Q_index rfl rfl iI iI iI iI (by first | assumption | omega | (simp [be_length] <;> omega)) | exact Q_fieldR rfl iI iI rfl (by first | assumption | omega | (simp [be_length] <;> omega)) | exact Q_loadRA rfl iI iI iI (by assumption) | exact Q_lookup_s rfl rfl iI iI iI iI iI (by assumption)) | ((refine' LS_h ?zh rfl ?_); (case zh => exact H_alloc iI); intro g) | ((refine' LS_h0 ?zh ?_); (case zh => exact H_storeA rfl rfl iI iI (by first | rfl | (simp only [List.all_cons, List.all_nil, *]; rfl)) rfl); intro g) | (first | refine WS_block ?_ | refine WS_skip ?_ | refine WS_ret ?_ | refine WS_exit ?_ | refine WS_label ?_) | (show WS _ _ _ (.cond _ _ _) _ _; first | refine WS_condT rfl iI ?_ | refine WS_condF rfl iI ?_ | refine WS_condH_t rfl (by assumption) ?_ | refine WS_condH_f rfl (by assumption) ?_ | (refine WS_cond rfl ?_ ?_ <;> intro hc <;> (try simp only [decide_eq_true_eq, decide_eq_false_iff_not, Bool.not_eq_eq_eq_not, Bool.not_true, Bool.not_false, Bool.and_eq_true, Bool.or_eq_true, bne_iff_ne, beq_iff_eq, ne_eq, Decidable.not_not] at hc) <;> (try (exfalso; first | contradiction | omega; done)))) | (refine LS_h0 (H_storeR (z := x) { x with seq := u } rfl rfl iI iI iI rfl (by assumption) rfl) ?_; intro g))
          exact ⟨k - 1, _, by omega, ⟨j + 1, by omega, rfl⟩, ⟨rfl, rfl, rfl, rfl, rfl, trivial⟩, rfl, by rw [← hst]; ((try simp only [star_assoc, emp_star, star_emp]); (repeat' (first | exact Ent.last | refine Ent.take ?_ | refine Ent.nilT ?_ | refine Ent.takeR (by first | rfl | assumption | (simp; done)) ?_ | exact Ent.refl _)))⟩
        · obtain rfl : j = sk.l'.length := by omega
          rw [List.take_length, List.drop_length, List.append_nil, hfin]
          repeat' (first | (refine WS_seqK ?_; intro K hK) | (refine hK _ ?_; clear hK K) | (with_reducible (first | refine thenS_n ?_ | refine thenS_e ?_ | refine blockS_n ?_ | refine blockS_e ?_ | refine blockS_o rfl ?_ | refine thenS_r ?_ | refine blockS_r ?_ | refine use_K (by assumption) ?_)) | refine WS_region ?_ | refine LS_nil ?_ | ((refine' LQ ?zh rfl ?_); case zh => intro F'; first | exact Q_move rfl | exact Q_assign rfl | exact Q_bin_f rfl rfl iI (by first | assumption | omega | decide)) | (first | refine WS_block ?_ | refine WS_skip ?_ | refine WS_ret ?_ | refine WS_exit ?_ | refine WS_label ?_) | (show WS _ _ _ (.cond _ _ _) _ _; first | refine WS_condT rfl iI ?_ | refine WS_condF rfl iI ?_ | refine WS_condH_t rfl (by assumption) ?_ | refine WS_condH_f rfl (by assumption) ?_ | (refine WS_cond rfl ?_ ?_ <;> intro hc <;> (try simp only [decide_eq_true_eq, decide_eq_false_iff_not, Bool.not_eq_eq_eq_not, Bool.not_true, Bool.not_false, Bool.and_eq_true, Bool.or_eq_true, bne_iff_ne, beq_iff_eq, ne_eq, Decidable.not_not] at hc) <;> (try (exfalso; first | contradiction | omega; done)))))
          exact ret_tmp (.inl rfl) rfl rfl ⟨vk, rfl, by ((try simp only [star_assoc, emp_star, star_emp]); (repeat' (first | exact Ent.last | refine Ent.take ?_ | refine Ent.nilT ?_ | refine Ent.takeR (by first | rfl | assumption | (simp; done)) ?_ | exact Ent.refl _)))⟩
end Go.Proofs.YtapoehkdnglahaaGreat

/- What routes.New, a table's inOrder, Broken and List return, by a walk. -/
namespace Go.Proofs.YtapoehkdnglahaaGreat
open Go.RowKit
set_option linter.unusedVariables false
set_option linter.unusedSectionVars false
set_option linter.unusedSimpArgs false
theorem WS_tabQ {P : Program} {n : Frm} {w0 : World} {E : Env} {D : List Deferred} {F : HProp} {c : Code} {Q : Exit → St → Prop} {g : Nat} {self : UInt32} {ls : List Ln} (h : ∀ r bs, bs.length = ls.length → WS P n w0 c Q ⟨E, D, tabP g r self bs ls * F⟩) : WS P n w0 c Q ⟨E, D, tabQ g self ls * F⟩ := by
  unfold tabQ
  refine WS_hex fun x => ?_
  rw [star_assoc]
  exact WS_pure fun hl => h x.1 x.2 hl
/-- A line out of a record. -/
def Rec.ln (r : Rec) : Ln := ⟨r.addr, growS r.seq, 0, 0, false, 0, []⟩
def newStep (self : UInt32) (ls : List Ln) (r : Rec) : List Ln := if r.own = false ∧ r.addr ≠ self ∧ ls.length < 8 then putT ls r.ln else ls
def newT (self : UInt32) (c : List Rec) : List Ln := c.foldl (newStep self) []
theorem newT_snoc (self : UInt32) (c : List Rec) (r : Rec) : newT self (c ++ [r]) = newStep self (newT self c) r := by simp [newT]
theorem putT_length (ls : List Ln) (x : Ln) : (putT ls x).length ≤ ls.length + 1 := by unfold putT; split <;> simp
theorem newT_length (self : UInt32) (c : List Rec) : (newT self c).length ≤ 8 := by
  induction c using snocInd with
  | nil => simp [newT]
  | snoc c r ih =>
    rw [newT_snoc]; unfold newStep
    split
    · rename_i h; have := putT_length (newT self c) r.ln; omega
    · exact ih
attribute [local irreducible] WS LS OpQ OpT OpH OpTQ Spec SpecQ cel
variable (w0 : World)
set_option maxRecDepth 100000 in
set_option maxHeartbeats 8000000 in
theorem newT_spec (self : UInt32) (l : List Rec) (hl : l.length ≤ 100000) (v : Value) (X : HProp) [hX : Rdr w0 X v Rec 3 Rec.cells l] :
    Spec Tryz.prog w0 106 [u32 self, v] X (fun g : Nat => ptr g 0) (fun g => tabQ g self (newT self (compR l)) * X) := by
  have hcomp := wcompact_spec w0 l hl v X
  refine Spec.enter Tryz.func106 rfl Tryz.ntmps106 rfl fun G => ?_
  simp only [argE]
  repeat' (first | (refine WS_seqK ?_; intro K hK) | (refine hK _ ?_; clear hK K) | refine WS_region ?_ | refine LS_nil ?_ | ((refine' LQ ?zh rfl ?_); case zh => intro F'; first | exact Q_move rfl | exact Q_assign rfl | exact Q_build iI iI rfl rfl | exact Q_lenR rfl iI iI) | ((refine' LS_h ?zh rfl ?_); (case zh => exact H_box rfl); intro g) | (first | refine WS_block ?_ | refine WS_skip ?_ | refine WS_ret ?_ | refine WS_exit ?_ | refine WS_label ?_) | (refine LS_h (H_makeMap u32 ptrV) rfl ?_; intro r) | (refine LS_h (H_callX iI rfl hcomp iI) rfl ?_; intro vc))
  revert g; intro gt
  have hcl := compR_length l
  generalize compR l = c at *
  refine WS_loop (fun k τ => ∃ j : Nat, j + k = c.length ∧ τ = ⟨[(15, .int .i64 (j : Int)), (14, .int .i64 (c.length : Int)), (13, vc), (5, ptr gt 0), (0, u32 self)], [], tabQ gt self (newT self (c.take j)) * (rows 48 3 Rec.cells vc c * (X * G))⟩) ?_ ?_
  · exact ⟨c.length, _, ⟨0, by omega, rfl⟩, ⟨rfl, rfl, rfl, rfl, rfl, trivial⟩, rfl, Ent.tabQ (r := r) (bs := []) rfl (by simp only [newT, List.take_zero, List.foldl_nil, tabP, lmap, List.zipWith_nil_left, linesP]; ((try simp only [star_assoc, emp_star, star_emp]); (repeat' (first | exact Ent.last | refine Ent.take ?_ | refine Ent.nilT ?_ | refine Ent.takeR (by first | rfl | assumption | (simp; done)) ?_ | exact Ent.refl _))))⟩
  · rintro k τ ⟨j, hjk, rfl⟩
    clear r
    refine WS_tabQ fun r bs hlen => ?_
    rcases Nat.lt_or_ge j c.length with hlt | hge
    · obtain ⟨⟨zo, za, zs⟩, hz⟩ : ∃ z, c[j]? = some z := ⟨_, List.getElem?_eq_getElem hlt⟩
      have htk : newT self (c.take (j + 1)) = newStep self (newT self (c.take j)) ⟨zo, za, zs⟩ := by rw [List.take_add_one, hz, Option.toList_some, newT_snoc]
      have hml : (lmap bs (newT self (c.take j))).length = (newT self (c.take j)).length := by simp [lmap, hlen]
      have hl8 := newT_length self (c.take j)
      have hgr := grow_spec w0 zs
      have hput := put_specT w0 gt r self bs (newT self (c.take j)) hlen (Rec.ln ⟨zo, za, zs⟩) rfl
      simp only [routeC, Rec.ln, growS, u32_0, u64_0] at hput
      cases zo
      · by_cases h1 : za = self
        · have hst : newStep self (newT self (c.take j)) ⟨false, za, zs⟩ = newT self (c.take j) := by simp [newStep, h1]
          rw [hst] at htk
          simp only [tabP]
          repeat' (first | (refine WS_seqK ?_; intro K hK) | (refine hK _ ?_; clear hK K) | (with_reducible (first | refine thenS_n ?_ | refine thenS_e ?_ | refine blockS_n ?_ | refine blockS_e ?_ | refine blockS_o rfl ?_ | refine thenS_r ?_ | refine blockS_r ?_ | refine use_K (by assumption) ?_)) | refine WS_region ?_ | refine LS_nil ?_ | (show LS _ _ _ _ _ (⟨_, _, _, _, _, some _⟩ :: _) _; first | refine LS_wantT rfl rfl iI rfl ?_ | refine LS_wantF rfl rfl iI rfl ?_ | refine LS_wantU rfl rfl rfl ?_ | ((first | refine LS_wantS rfl rfl rfl ?_ ?_ | refine LS_wantN rfl ?_ ?_) <;> intro hc <;> (try simp only [decide_eq_true_eq, decide_eq_false_iff_not, Bool.not_eq_eq_eq_not, Bool.not_true, Bool.not_false, Bool.and_eq_true, Bool.or_eq_true, bne_iff_ne, beq_iff_eq, ne_eq, Decidable.not_not] at hc) <;> (try (exfalso; first | contradiction | omega; done)))) | ((refine' LQ ?zh rfl ?_); case zh => intro F'; first | exact Q_move rfl | exact Q_fieldAddr rfl iI rfl | exact Q_load rfl iI iI rfl | exact Q_bin_t rfl rfl iI (by first | assumption | omega) | exact Q_bin_nf rfl rfl iI (by first | assumption | omega) | exact Q_addI rfl rfl (by omega) | exact Q_pick_t rfl iI rfl | exact Q_pick_f rfl iI rfl | exact Q_un rfl iI | exact Q_index rfl rfl iI iI iI iI (by first | assumption | omega | (simp [be_length] <;> omega)) | exact Q_loadRA rfl iI iI iI (by assumption)) | ((refine' LS_h ?zh rfl ?_); (case zh => exact H_alloc iI); intro g) | ((refine' LS_h0 ?zh ?_); (case zh => exact H_storeA rfl rfl iI iI (by first | rfl | (simp only [List.all_cons, List.all_nil, *]; rfl)) rfl); intro g) | (first | refine WS_block ?_ | refine WS_skip ?_ | refine WS_ret ?_ | refine WS_exit ?_ | refine WS_label ?_) | (show WS _ _ _ (.cond _ _ _) _ _; first | refine WS_condT rfl iI ?_ | refine WS_condF rfl iI ?_ | refine WS_condH_t rfl (by assumption) ?_ | refine WS_condH_f rfl (by assumption) ?_ | (refine WS_cond rfl ?_ ?_ <;> intro hc <;> (try simp only [decide_eq_true_eq, decide_eq_false_iff_not, Bool.not_eq_eq_eq_not, Bool.not_true, Bool.not_false, Bool.and_eq_true, Bool.or_eq_true, bne_iff_ne, beq_iff_eq, ne_eq, Decidable.not_not] at hc) <;> (try (exfalso; first | contradiction | omega; done)))))
          exact ⟨k - 1, _, by omega, ⟨j + 1, by omega, rfl⟩, ⟨rfl, rfl, rfl, rfl, rfl, trivial⟩, rfl, by rw [htk]; exact Ent.tabQ (r := r) (bs := bs) hlen (by unfold tabP; ((try simp only [star_assoc, emp_star, star_emp]); (repeat' (first | exact Ent.last | refine Ent.take ?_ | refine Ent.nilT ?_ | refine Ent.takeR (by first | rfl | assumption | (simp; done)) ?_ | exact Ent.refl _))))⟩
        · by_cases h2 : (newT self (c.take j)).length < 8
          · have hst : newStep self (newT self (c.take j)) ⟨false, za, zs⟩ = putT (newT self (c.take j)) (Rec.ln ⟨false, za, zs⟩) := by simp [newStep, h1, h2]
            rw [hst] at htk
            simp only [tabP] at hput ⊢
            repeat' (first | (show WS _ _ _ (.region 6 _ true) _ _; refine WS_drawK [0, 1, 2, 3, 4, 5, 6, 7] 7 [2, 4] (by decide +kernel) rfl ?_) | (refine WS_seqK ?_; intro K hK) | (refine hK _ ?_; clear hK K) | (with_reducible (first | refine thenS_n ?_ | refine thenS_e ?_ | refine blockS_n ?_ | refine blockS_e ?_ | refine blockS_o rfl ?_ | refine thenS_r ?_ | refine blockS_r ?_ | refine use_K (by assumption) ?_)) | refine WS_region ?_ | refine LS_nil ?_ | (show LS _ _ _ _ _ (⟨_, _, _, _, _, some _⟩ :: _) _; first | refine LS_wantT rfl rfl iI rfl ?_ | refine LS_wantF rfl rfl iI rfl ?_ | refine LS_wantU rfl rfl rfl ?_ | ((first | refine LS_wantS rfl rfl rfl ?_ ?_ | refine LS_wantN rfl ?_ ?_) <;> intro hc <;> (try simp only [decide_eq_true_eq, decide_eq_false_iff_not, Bool.not_eq_eq_eq_not, Bool.not_true, Bool.not_false, Bool.and_eq_true, Bool.or_eq_true, bne_iff_ne, beq_iff_eq, ne_eq, Decidable.not_not] at hc) <;> (try (exfalso; first | contradiction | omega; done)))) | (first | refine DL_nilA ?_ | refine DL_nilS ?_ | refine DL_nilN ?_ | refine DL_nilE ?_ | refine DL_nilR ?_) | (first | refine DL_claimS rfl ?_ | refine DL_claim rfl rfl ?_) | ((first | refine' LQ ?zh rfl ?_ | refine' DL_qp rfl rfl rfl ?zh ?_ | refine' DL_q rfl rfl ?zh ?_); case zh => intro F'; first | exact Q_move rfl | exact Q_nilCheck rfl | exact Q_fieldAddr rfl iI rfl | exact Q_load rfl iI iI rfl | exact Q_bin_t rfl rfl iI (by first | assumption | omega) | exact Q_bin_nt rfl rfl iI (by first | assumption | omega) | exact Q_addI rfl rfl (by omega) | exact Q_pick_t rfl iI rfl | exact Q_un rfl iI | exact Q_build iI iI rfl rfl | exact Q_index rfl rfl iI iI iI iI (by first | assumption | omega | (simp [be_length] <;> omega)) | exact Q_loadRA rfl iI iI iI (by assumption) | exact Q_lenM rfl iI iI) | ((first | refine' LS_h ?zh rfl ?_ | refine' DL_h ?zh rfl rfl rfl ?_); (case zh => exact H_alloc iI); intro g) | ((refine' LS_h0 ?zh ?_); (case zh => exact H_storeA rfl rfl iI iI (by first | rfl | (simp only [List.all_cons, List.all_nil, *]; rfl)) rfl); intro g) | (first | refine WS_block ?_ | refine WS_skip ?_ | refine WS_ret ?_ | refine WS_exit ?_ | refine WS_label ?_) | (show WS _ _ _ (.cond _ _ _) _ _; first | refine WS_condT rfl iI ?_ | refine WS_condF rfl iI ?_ | refine WS_condH_t rfl (by assumption) ?_ | refine WS_condH_f rfl (by assumption) ?_ | (refine WS_cond rfl ?_ ?_ <;> intro hc <;> (try simp only [decide_eq_true_eq, decide_eq_false_iff_not, Bool.not_eq_eq_eq_not, Bool.not_true, Bool.not_false, Bool.and_eq_true, Bool.or_eq_true, bne_iff_ne, beq_iff_eq, ne_eq, Decidable.not_not] at hc) <;> (try (exfalso; first | contradiction | omega; done)))) | (refine DL_h (H_callX iI rfl hgr iI) rfl rfl rfl ?_; intro u) | (refine DL_h (H_callX iI rfl hput iI) rfl rfl rfl ?_; intro u))
            exact ⟨k - 1, _, by omega, ⟨j + 1, by omega, rfl⟩, ⟨rfl, rfl, rfl, rfl, rfl, trivial⟩, rfl, by rw [htk]; simp only [Rec.ln, growS]; ((try simp only [star_assoc, emp_star, star_emp]); (repeat' (first | exact Ent.last | refine Ent.take ?_ | refine Ent.nilT ?_ | refine Ent.takeR (by first | rfl | assumption | (simp; done)) ?_ | exact Ent.refl _)))⟩
          · have hst : newStep self (newT self (c.take j)) ⟨false, za, zs⟩ = newT self (c.take j) := by simp [newStep, h2]
            rw [hst] at htk
            simp only [tabP]
            repeat' (first | (refine WS_seqK ?_; intro K hK) | (refine hK _ ?_; clear hK K) | (with_reducible (first | refine thenS_n ?_ | refine thenS_e ?_ | refine blockS_n ?_ | refine blockS_e ?_ | refine blockS_o rfl ?_ | refine thenS_r ?_ | refine blockS_r ?_ | refine use_K (by assumption) ?_)) | refine WS_region ?_ | refine LS_nil ?_ | (show LS _ _ _ _ _ (⟨_, _, _, _, _, some _⟩ :: _) _; first | refine LS_wantT rfl rfl iI rfl ?_ | refine LS_wantF rfl rfl iI rfl ?_ | refine LS_wantU rfl rfl rfl ?_ | ((first | refine LS_wantS rfl rfl rfl ?_ ?_ | refine LS_wantN rfl ?_ ?_) <;> intro hc <;> (try simp only [decide_eq_true_eq, decide_eq_false_iff_not, Bool.not_eq_eq_eq_not, Bool.not_true, Bool.not_false, Bool.and_eq_true, Bool.or_eq_true, bne_iff_ne, beq_iff_eq, ne_eq, Decidable.not_not] at hc) <;> (try (exfalso; first | contradiction | omega; done)))) | ((refine' LQ ?zh rfl ?_); case zh => intro F'; first | exact Q_move rfl | exact Q_nilCheck rfl | exact Q_fieldAddr rfl iI rfl | exact Q_load rfl iI iI rfl | exact Q_bin_t rfl rfl iI (by first | assumption | omega) | exact Q_bin_f rfl rfl iI (by first | assumption | omega) | exact Q_bin_nt rfl rfl iI (by first | assumption | omega) | exact Q_addI rfl rfl (by omega) | exact Q_pick_t rfl iI rfl | exact Q_un rfl iI | exact Q_index rfl rfl iI iI iI iI (by first | assumption | omega | (simp [be_length] <;> omega)) | exact Q_loadRA rfl iI iI iI (by assumption) | exact Q_lenM rfl iI iI) | ((refine' LS_h ?zh rfl ?_); (case zh => exact H_alloc iI); intro g) | ((refine' LS_h0 ?zh ?_); (case zh => exact H_storeA rfl rfl iI iI (by first | rfl | (simp only [List.all_cons, List.all_nil, *]; rfl)) rfl); intro g) | (first | refine WS_block ?_ | refine WS_skip ?_ | refine WS_ret ?_ | refine WS_exit ?_ | refine WS_label ?_) | (show WS _ _ _ (.cond _ _ _) _ _; first | refine WS_condT rfl iI ?_ | refine WS_condF rfl iI ?_ | refine WS_condH_t rfl (by assumption) ?_ | refine WS_condH_f rfl (by assumption) ?_ | (refine WS_cond rfl ?_ ?_ <;> intro hc <;> (try simp only [decide_eq_true_eq, decide_eq_false_iff_not, Bool.not_eq_eq_eq_not, Bool.not_true, Bool.not_false, Bool.and_eq_true, Bool.or_eq_true, bne_iff_ne, beq_iff_eq, ne_eq, Decidable.not_not] at hc) <;> (try (exfalso; first | contradiction | omega; done)))))
            exact ⟨k - 1, _, by omega, ⟨j + 1, by omega, rfl⟩, ⟨rfl, rfl, rfl, rfl, rfl, trivial⟩, rfl, by rw [htk]; exact Ent.tabQ (r := r) (bs := bs) hlen (by unfold tabP; ((try simp only [star_assoc, emp_star, star_emp]); (repeat' (first | exact Ent.last | refine Ent.take ?_ | refine Ent.nilT ?_ | refine Ent.takeR (by first | rfl | assumption | (simp; done)) ?_ | exact Ent.refl _))))⟩
      · have hst : newStep self (newT self (c.take j)) ⟨true, za, zs⟩ = newT self (c.take j) := by simp [newStep]
        rw [hst] at htk
        simp only [tabP]
        repeat' (first | (refine WS_seqK ?_; intro K hK) | (refine hK _ ?_; clear hK K) | (with_reducible (first | refine thenS_n ?_ | refine thenS_e ?_ | refine blockS_n ?_ | refine blockS_e ?_ | refine blockS_o rfl ?_ | refine thenS_r ?_ | refine blockS_r ?_ | refine use_K (by assumption) ?_)) | refine WS_region ?_ | refine LS_nil ?_ | (show LS _ _ _ _ _ (⟨_, _, _, _, _, some _⟩ :: _) _; first | refine LS_wantT rfl rfl iI rfl ?_ | refine LS_wantF rfl rfl iI rfl ?_ | refine LS_wantU rfl rfl rfl ?_ | ((first | refine LS_wantS rfl rfl rfl ?_ ?_ | refine LS_wantN rfl ?_ ?_) <;> intro hc <;> (try simp only [decide_eq_true_eq, decide_eq_false_iff_not, Bool.not_eq_eq_eq_not, Bool.not_true, Bool.not_false, Bool.and_eq_true, Bool.or_eq_true, bne_iff_ne, beq_iff_eq, ne_eq, Decidable.not_not] at hc) <;> (try (exfalso; first | contradiction | omega; done)))) | ((refine' LQ ?zh rfl ?_); case zh => intro F'; first | exact Q_move rfl | exact Q_fieldAddr rfl iI rfl | exact Q_load rfl iI iI rfl | exact Q_bin_t rfl rfl iI (by first | assumption | omega) | exact Q_addI rfl rfl (by omega) | exact Q_pick_f rfl iI rfl | exact Q_un rfl iI | exact Q_index rfl rfl iI iI iI iI (by first | assumption | omega | (simp [be_length] <;> omega)) | exact Q_loadRA rfl iI iI iI (by assumption)) | ((refine' LS_h ?zh rfl ?_); (case zh => exact H_alloc iI); intro g) | ((refine' LS_h0 ?zh ?_); (case zh => exact H_storeA rfl rfl iI iI (by first | rfl | (simp only [List.all_cons, List.all_nil, *]; rfl)) rfl); intro g) | (first | refine WS_block ?_ | refine WS_skip ?_ | refine WS_ret ?_ | refine WS_exit ?_ | refine WS_label ?_) | (show WS _ _ _ (.cond _ _ _) _ _; first | refine WS_condT rfl iI ?_ | refine WS_condF rfl iI ?_ | refine WS_condH_t rfl (by assumption) ?_ | refine WS_condH_f rfl (by assumption) ?_ | (refine WS_cond rfl ?_ ?_ <;> intro hc <;> (try simp only [decide_eq_true_eq, decide_eq_false_iff_not, Bool.not_eq_eq_eq_not, Bool.not_true, Bool.not_false, Bool.and_eq_true, Bool.or_eq_true, bne_iff_ne, beq_iff_eq, ne_eq, Decidable.not_not] at hc) <;> (try (exfalso; first | contradiction | omega; done)))))
        exact ⟨k - 1, _, by omega, ⟨j + 1, by omega, rfl⟩, ⟨rfl, rfl, rfl, rfl, rfl, trivial⟩, rfl, by rw [htk]; exact Ent.tabQ (r := r) (bs := bs) hlen (by unfold tabP; ((try simp only [star_assoc, emp_star, star_emp]); (repeat' (first | exact Ent.last | refine Ent.take ?_ | refine Ent.nilT ?_ | refine Ent.takeR (by first | rfl | assumption | (simp; done)) ?_ | exact Ent.refl _))))⟩
    · obtain rfl : j = c.length := by omega
      simp only [List.take_length] at hlen ⊢
      repeat' (first | (refine WS_seqK ?_; intro K hK) | (refine hK _ ?_; clear hK K) | (with_reducible (first | refine thenS_n ?_ | refine thenS_e ?_ | refine blockS_n ?_ | refine blockS_e ?_ | refine blockS_o rfl ?_ | refine thenS_r ?_ | refine blockS_r ?_ | refine use_K (by assumption) ?_)) | refine WS_region ?_ | refine LS_nil ?_ | ((refine' LQ ?zh rfl ?_); case zh => intro F'; first | exact Q_move rfl | exact Q_assign rfl | exact Q_bin_f rfl rfl iI (by first | assumption | omega | decide)) | (first | refine WS_block ?_ | refine WS_skip ?_ | refine WS_ret ?_ | refine WS_exit ?_ | refine WS_label ?_) | (show WS _ _ _ (.cond _ _ _) _ _; first | refine WS_condT rfl iI ?_ | refine WS_condF rfl iI ?_ | refine WS_condH_t rfl (by assumption) ?_ | refine WS_condH_f rfl (by assumption) ?_ | (refine WS_cond rfl ?_ ?_ <;> intro hc <;> (try simp only [decide_eq_true_eq, decide_eq_false_iff_not, Bool.not_eq_eq_eq_not, Bool.not_true, Bool.not_false, Bool.and_eq_true, Bool.or_eq_true, bne_iff_ne, beq_iff_eq, ne_eq, Decidable.not_not] at hc) <;> (try (exfalso; first | contradiction | omega; done)))))
      exact ret_tmp (.inl rfl) rfl rfl ⟨gt, rfl, by rw [star_assoc]; exact Ent.tabQ (r := r) (bs := bs) hlen (by ((try simp only [star_assoc, emp_star, star_emp]); (repeat' (first | exact Ent.last | refine Ent.take ?_ | refine Ent.nilT ?_ | refine Ent.takeR (by first | rfl | assumption | (simp; done)) ?_ | exact Ent.refl _))))⟩
end Go.Proofs.YtapoehkdnglahaaGreat

/- A region that draws, gone through in every order: for regions that may panic. No program in sight. -/
namespace Go.Proofs.YtapoehkdnglahaaGreat
open Go.RowKit
set_option linter.unusedVariables false
set_option linter.unusedSectionVars false
set_option linter.unusedSimpArgs false
variable {P : Program} {n : Frm} {w0 : World} {E : Env} {D : List Deferred} {H F F2 R : HProp} {ops : Array Oper} {Q : Exit → St → Prop} {σ : St}
/-- Which operations are done; the last one stands first. -/
def maskD (m : Nat) : List Nat → Array Bool
  | [] => Array.replicate m false
  | i :: r => (maskD m r).setIfInBounds i true
def AS (P : Program) (n : Frm) (w0 : World) (ops : Array Oper) (Q : Exit → St → Prop) (done : List Nat) (σ : St) : Prop :=
  ∀ a w, Good n w0 σ a w → wpAnyIn (fen n.round) 0 P .any ops (lift n w0 Q) (ops.size - done.length) (maskD ops.size done) a w
def AO (P : Program) (n : Frm) (w0 : World) (ops : Array Oper) (Q : Exit → St → Prop) (done : List Nat) (i : Nat) (σ : St) : Prop :=
  ∀ a w, Good n w0 σ a w → wpOpIn (fen n.round) 0 P ops (lift n w0 Q) i (wpAnyIn (fen n.round) 0 P .any ops (lift n w0 Q) (ops.size - (i :: done).length) (maskD ops.size (i :: done))) a w
/-- Each operation that is ready is gone through. -/
def allO (P : Program) (n : Frm) (w0 : World) (ops : Array Oper) (Q : Exit → St → Prop) (done : List Nat) (σ : St) : List Nat → Prop
  | [] => True
  | i :: r => AO P n w0 ops Q done i σ ∧ allO P n w0 ops Q done σ r
theorem allO_mem {done : List Nat} : ∀ {r : List Nat}, allO P n w0 ops Q done σ r → ∀ i ∈ r, AO P n w0 ops Q done i σ
  | [], _, i, hi => by cases hi
  | j :: r, h, i, hi => by
    rcases List.mem_cons.1 hi with rfl | hi
    · exact h.1
    · exact allO_mem h.2 i hi
theorem AS_step {done r : List Nat} (hr : Region.ready .any ops (maskD ops.size done) = r) (hlt : Nat.blt done.length ops.size = true) (hne : r.isEmpty = false) (h : allO P n w0 ops Q done σ r) : AS P n w0 ops Q done σ := fun a w g => by
  have hlt' : done.length < ops.size := by simpa using hlt
  obtain ⟨f, hf⟩ : ∃ f, ops.size - done.length = f + 1 := ⟨ops.size - done.length - 1, by omega⟩
  have hf2 : ops.size - ((0 : Nat) :: done).length = f := by simp; omega
  rw [hf]
  refine ⟨fun h0 => ?_, fun i hi => ?_⟩
  · rw [hr] at h0; subst h0; cases hne
  · rw [hr] at hi
    have := allO_mem h i hi a w g
    have e : ops.size - (i :: done).length = f := by simp; omega
    rw [e] at this
    exact this
theorem AO_q {done : List Nat} {i d : Nat} {op : Op} {ty : TypeId} {pos : String} {after : Array Edge} {v : Value} (hi : ops[i]? = some ⟨some d, op, ty, pos, after, none⟩) (hop : OpQ P n w0 ⟨some d, op, ty, pos, after, none⟩ E H v) (hd : Nat.blt d n.tmps = true) (h : AS P n w0 ops Q (i :: done) ⟨(d, v) :: E, D, H⟩) : AO P n w0 ops Q done i ⟨E, D, H⟩ := fun a w g => by
  unfold wpOpIn
  rw [hi]
  simp only
  rw [if_pos (by rfl)]
  exact hop.toIn g.sees g.sat (h _ _ ⟨g.sees.putO (some d) _ hd, g.defers, g.sat⟩)
theorem AO_h {done : List Nat} {i d : Nat} {op : Op} {ty : TypeId} {pos : String} {after : Array Edge} {α : Type} {v : α → Value} {post : α → HProp} (hi : ops[i]? = some ⟨some d, op, ty, pos, after, none⟩) (hop : OpH P n w0 ⟨some d, op, ty, pos, after, none⟩ E H v post) (hd : Nat.blt d n.tmps = true) (h : ∀ x, AS P n w0 ops Q (i :: done) ⟨(d, v x) :: E, D, post x⟩) : AO P n w0 ops Q done i ⟨E, D, H⟩ := fun a w g => by
  unfold wpOpIn
  rw [hi]
  simp only
  rw [if_pos (by rfl)]
  obtain ⟨pre, post', G, hT, hH, hp⟩ := hop
  exact hT.toIn G g.sees (g.sat.cast hH) fun x w' hs => h x _ _ ⟨g.sees.putO (some d) _ hd, g.defers, hs.cast (hp x).symm⟩
/-- A call that panics. -/
theorem AO_x {done : List Nat} {i : Nat} {f : FuncId} {args : List Value} {pre post : HProp} {chain : List PanicEntry} {d : Option Tmp} {xs : List Operand} {ts : Array TypeId} {ty : TypeId} {pos : String} {after : Array Edge} (hi : ops[i]? = some ⟨d, .call ⟨.value (.func f), xs.toArray, ts⟩, ty, pos, after, none⟩) (hf : IsFun P f) (hargs : E.evs xs = some args) (spec : SpecX P w0 f args pre chain post) (hH : Own H pre F) (h : Q (.panic chain) ⟨E, D, post * F⟩) : AO P n w0 ops Q done i ⟨E, D, H⟩ := fun a w g => by
  unfold wpOpIn
  rw [hi]
  simp only
  rw [if_pos (by rfl)]
  refine wpIn_of_wp (.inr (fun c hc => by cases hc)) ?_
  have e := g.sees.evs hargs
  have hr : (execOp a.eval ⟨d, .call ⟨.value (.func f), xs.toArray, ts⟩, ty, pos, after, none⟩).run P w = .ok (.enter f args.toArray) w := by
    have h := run_callFunc hf args.toArray w
    simp [execOp, resolve, Act.eval, Deferred.ofValue, invoke, e, h]
  unfold Oper.wp
  rw [hr]
  refine (spec F w (g.sat.cast hH.eq)).mono ?_
  rintro e w' ⟨rfl, hs'⟩
  exact ⟨_, h, g.sees, g.defers, hs'⟩
theorem WS_drawAny {id : Nat} {l : List Oper} (hm : P.follows .mixedOrders = true) (h : AS P n w0 l.toArray Q [] ⟨E, D, H⟩) : WS P n w0 (.region id l.toArray true) Q ⟨E, D, H⟩ := fun a w g => by
  refine wpIn_region_any hm ?_
  exact h a w.drew ⟨g.sees, g.defers, g.sat.drew⟩
/-- A region that draws, in whose order the block that slot t points to is read ahead of place cp alone; all else may be changed from the beginning. -/
theorem WS_drawM {l l' : List Oper} {id : Nat} (t : Nat) (idx : List Nat) (cp : Nat) (bs : List Nat) {g off : Nat} {bt : TypeId} {cs : List Value} (hs : statD P l idx (inB bs) cp = true) (hl : permL l idx = some l') (hx : E.get t = some (ptr g off)) (hL : LimbB H g bt cs F) (h : DL P n w0 l.toArray Q D emp (cel g bt cs) (inB bs) cp 0 false l' E F) : WS P n w0 (.region id l.toArray true) Q ⟨E, D, H⟩ :=
  WS_draw idx l' emp (cel g bt cs) F _ cp hs (by rw [emp_star]; exact hL.eq) (permL_eq hl) h
/-- The same, where one block more is read, that no operation changes: the one that slot t2 points to. -/
theorem WS_drawN {l l' : List Oper} {id : Nat} (t t2 : Nat) (idx : List Nat) (cp : Nat) (bs : List Nat) {g off g2 off2 : Nat} {bt bt2 : TypeId} {cs cs2 : List Value} {F1 : HProp} (hs : statD P l idx (inB bs) cp = true) (hl : permL l idx = some l') (hx : E.get t = some (ptr g off)) (hx2 : E.get t2 = some (ptr g2 off2)) (hR : LimbB H g2 bt2 cs2 F1) (hL : LimbB F1 g bt cs F) (h : DL P n w0 l.toArray Q D (cel g2 bt2 cs2) (cel g bt cs) (inB bs) cp 0 false l' E F) : WS P n w0 (.region id l.toArray true) Q ⟨E, D, H⟩ :=
  WS_draw idx l' (cel g2 bt2 cs2) (cel g bt cs) F _ cp hs (by rw [hR.eq, hL.eq]) (permL_eq hl) h
end Go.Proofs.YtapoehkdnglahaaGreat

/- What a table's inOrder, Broken and List return, by a walk. -/
namespace Go.Proofs.YtapoehkdnglahaaGreat
open Go.RowKit
set_option linter.unusedVariables false
set_option linter.unusedSectionVars false
set_option linter.unusedSimpArgs false
/-- The block of line d. -/
def blkOf (bs : List (Nat × Nat)) (ls : List Ln) (d : UInt32) : Nat := (mget (lmap bs ls) d).getD 0
theorem mget_dest {bs : List (Nat × Nat)} {ls : List Ln} {d : UInt32} (hlen : bs.length = ls.length) (hd : d ∈ dests ls) : mget (lmap bs ls) d = some (blkOf bs ls d) := by
  unfold blkOf
  cases h : mget (lmap bs ls) d with
  | none => exact absurd (by rw [lmap_fst hlen]; exact hd) ((mget_none_iff _ d).1 h)
  | some b => rfl
theorem mem_sortU {l : List UInt32} {d : UInt32} : d ∈ sortU l ↔ d ∈ l := (List.mergeSort_perm l _).mem_iff
theorem sortU_length (l : List UInt32) : (sortU l).length = l.length := (List.mergeSort_perm l _).length_eq
/-- The lines of those that came by already, ended where they go by nb. -/
def brkL (nb : UInt32) (pre : List UInt32) (ls : List Ln) : List Ln := ls.map fun l => if l.dest ∈ pre then l.brk nb else l
def brkT (nb : UInt32) (ls : List Ln) : List Ln := ls.map (Ln.brk nb)
def outB (nb : UInt32) (pre : List UInt32) (ls : List Ln) : List (UInt32 × UInt32) := pre.filterMap fun d => match lget ls d with
  | some l => if l.valid = true ∧ l.next = nb ∧ 0 < l.before.length then some (l.dest, (l.ended 0).seq) else none
  | none => none
attribute [local irreducible] WS LS OpQ OpT OpH OpTQ Spec SpecQ cel
variable (w0 : World)
set_option maxRecDepth 100000 in
set_option maxHeartbeats 8000000 in
theorem inOrder_iter (gt r : Nat) (self : UInt32) (bs : List (Nat × Nat)) (ls : List Ln) (hlen : bs.length = ls.length) (h12 : ls.length ≤ 12) :
    IterG Tryz.prog w0 151 [ptr gt 0] [] (cel gt 281 [u32 self, .map (some r)] * mp u32 ptrV r (lmap bs ls)) (fun d => [ptr (blkOf bs ls d) 0]) (fun xs => xs = sortU (dests ls)) := by
  intro l J Jx hY
  have hkeys := keysLf_spec w0 r
  have hs : ∀ gk, Spec Tryz.prog w0 206 [.func (.func 247) #[] [ptr gk 0].toArray] (cel gk 279 [.map (some r)] * mp u32 ptrV r (lmap bs ls)) (fun p : Value × (l : List UInt32) × SortedU l => p.1) (fun p => pure' (p.2.1.Perm ((lmap bs ls).map (·.1))) * (rows 34 1 wordC p.1 p.2.2.l' * (cel gk 279 [.map (some r)] * mp u32 ptrV r (lmap bs ls)))) := fun gk =>
    sorted32_spec w0 iI (keysL_iter w0 (lmap bs ls) r gk) (fun xs hx => by have := hx.length_eq; rw [lmap_fst hlen] at this; simp [dests] at this; omega)
  refine Spec.enter Tryz.func151 rfl Tryz.ntmps151 rfl fun G => ?_
  simp only [List.cons_append, List.nil_append, argE]
  repeat' (first | (refine WS_seqK ?_; intro K hK) | (refine hK _ ?_; clear hK K) | refine WS_region ?_ | refine LS_nil ?_ | ((refine' LQ ?zh rfl ?_); case zh => intro F'; first | exact Q_move rfl | exact Q_nilCheck rfl | exact Q_fieldAddr rfl iI rfl | exact Q_load rfl iI iI rfl | exact Q_lenR rfl iI iI) | (first | refine WS_block ?_ | refine WS_skip ?_ | refine WS_ret ?_ | refine WS_exit ?_ | refine WS_label ?_) | (refine LS_h (H_callX iI rfl hkeys iI) rfl ?_; intro gk) | (refine LS_h (H_callX iI rfl (hs gk) iI) rfl ?_; rintro ⟨vk, l0, sk⟩; refine LS_pureI iI fun hp => ?_; dsimp only))
  have hp' : l0.Perm (dests ls) := by rw [← lmap_fst hlen]; exact hp
  have hsk := sortU_eq hp' sk
  rw [hsk]
  have hxl := sortU_length (dests ls)
  have hdl : (dests ls).length = ls.length := by simp [dests]
  have hmem : ∀ d ∈ sortU (dests ls), mget (lmap bs ls) d = some (blkOf bs ls d) := fun d hd => mget_dest hlen (mem_sortU.1 hd)
  generalize hxs : sortU (dests ls) = xs at *
  refine WS_loop (fun k τ => ∃ j : Nat, j + k = xs.length ∧ τ = ⟨[(13, .int .i64 (j : Int)), (12, .int .i64 (xs.length : Int)), (11, vk), (0, ptr gt 0), (1, yieldV l)], [], rows 34 1 wordC vk xs * (J (xs.take j) * (cel gt 281 [u32 self, .map (some r)] * (mp u32 ptrV r (lmap bs ls) * G)))⟩) ?_ ?_
  · exact ⟨xs.length, _, ⟨0, by omega, rfl⟩, ⟨rfl, rfl, rfl, rfl, rfl, trivial⟩, rfl, by rw [List.take_zero]; ((try simp only [star_assoc, emp_star, star_emp]); (repeat' (first | exact Ent.last | refine Ent.take ?_ | refine Ent.nilT ?_ | refine Ent.takeR (by first | rfl | assumption | (simp; done)) ?_ | exact Ent.refl _)))⟩
  · rintro k τ ⟨j, hjk, rfl⟩
    rcases Nat.lt_or_ge j xs.length with hlt | hge
    · obtain ⟨d, hz⟩ : ∃ z, xs[j]? = some z := ⟨_, List.getElem?_eq_getElem hlt⟩
      have hg := hmem d (List.mem_of_getElem? hz)
      have htk : xs.take j ++ [d] = xs.take (j + 1) := by rw [List.take_add_one, hz, Option.toList_some]
      have hyl := hY (xs.take j) d ⟨xs, rfl, by rw [htk]; exact List.take_prefix _ _⟩
      rw [htk] at hyl
      repeat' (first | (refine WS_seqK ?_; intro K hK) | (refine hK _ ?_; clear hK K) | (with_reducible (first | refine thenS_n ?_ | refine thenS_e ?_ | refine blockS_n ?_ | refine blockS_e ?_ | refine blockS_o rfl ?_ | refine thenS_r ?_ | refine blockS_r ?_ | refine use_K (by assumption) ?_)) | refine WS_region ?_ | refine LS_nil ?_ | ((refine' LQ ?zh rfl ?_); case zh => intro F'; first | exact Q_move rfl | exact Q_assign rfl | exact Q_nilCheck rfl | exact Q_fieldAddr rfl iI rfl | exact Q_load rfl iI iI rfl | exact Q_bin_t rfl rfl iI (by first | assumption | omega) | exact Q_addI rfl rfl (by omega) | exact Q_un rfl iI | exact Q_index rfl rfl iI iI iI iI (by first | assumption | omega | (simp [be_length] <;> omega)) | exact Q_loadR rfl iI iI iI (by assumption) rfl | exact Q_lookup_s rfl rfl iI iI iI iI iI (by assumption)) | (first | refine WS_block ?_ | refine WS_skip ?_ | refine WS_ret ?_ | refine WS_exit ?_ | refine WS_label ?_) | (show WS _ _ _ (.cond _ _ _) _ _; first | refine WS_condT rfl iI ?_ | refine WS_condF rfl iI ?_ | refine WS_condH_t rfl (by assumption) ?_ | refine WS_condH_f rfl (by assumption) ?_ | (refine WS_cond rfl ?_ ?_ <;> intro hc <;> (try simp only [decide_eq_true_eq, decide_eq_false_iff_not, Bool.not_eq_eq_eq_not, Bool.not_true, Bool.not_false, Bool.and_eq_true, Bool.or_eq_true, bne_iff_ne, beq_iff_eq, ne_eq, Decidable.not_not] at hc) <;> (try (exfalso; first | contradiction | omega; done)))) | (refine LS_i (I_yield rfl rfl rfl hyl) iI rfl ?_; rintro (_ | _) <;> simp only [cond_true, cond_false]))
      · exact ret_none (.inl rfl) rfl ⟨(xs.take (j + 1), false), rfl, by simp only [cond_false]; ((try simp only [star_assoc, emp_star, star_emp]); (repeat' (first | exact Ent.last | refine Ent.take ?_ | refine Ent.nilT ?_ | refine Ent.takeR (by first | rfl | assumption | (simp; done)) ?_ | exact Ent.refl _)))⟩
      · exact ⟨k - 1, _, by omega, ⟨j + 1, by omega, rfl⟩, ⟨rfl, rfl, rfl, rfl, rfl, trivial⟩, rfl, by ((try simp only [star_assoc, emp_star, star_emp]); (repeat' (first | exact Ent.last | refine Ent.take ?_ | refine Ent.nilT ?_ | refine Ent.takeR (by first | rfl | assumption | (simp; done)) ?_ | exact Ent.refl _)))⟩
    · obtain rfl : j = xs.length := by omega
      rw [List.take_length]
      repeat' (first | (refine WS_seqK ?_; intro K hK) | (refine hK _ ?_; clear hK K) | (with_reducible (first | refine thenS_n ?_ | refine thenS_e ?_ | refine blockS_n ?_ | refine blockS_e ?_ | refine blockS_o rfl ?_ | refine thenS_r ?_ | refine blockS_r ?_ | refine use_K (by assumption) ?_)) | refine WS_region ?_ | refine LS_nil ?_ | ((refine' LQ ?zh rfl ?_); case zh => intro F'; exact Q_bin_f rfl rfl iI (by first | assumption | omega | decide)) | (first | refine WS_block ?_ | refine WS_skip ?_ | refine WS_ret ?_ | refine WS_exit ?_ | refine WS_label ?_) | (show WS _ _ _ (.cond _ _ _) _ _; first | refine WS_condT rfl iI ?_ | refine WS_condF rfl iI ?_ | refine WS_condH_t rfl (by assumption) ?_ | refine WS_condH_f rfl (by assumption) ?_ | (refine WS_cond rfl ?_ ?_ <;> intro hc <;> (try simp only [decide_eq_true_eq, decide_eq_false_iff_not, Bool.not_eq_eq_eq_not, Bool.not_true, Bool.not_false, Bool.and_eq_true, Bool.or_eq_true, bne_iff_ne, beq_iff_eq, ne_eq, Decidable.not_not] at hc) <;> (try (exfalso; first | contradiction | omega; done)))))
      refine ret_none (.inr rfl) rfl ⟨(xs, true), rfl, ?_⟩
      simp only [cond_true]
      rw [star_assoc (pure' _)]
      exact Ent.pureI trivial (by ((try simp only [star_assoc, emp_star, star_emp]); (repeat' (first | exact Ent.last | refine Ent.take ?_ | refine Ent.nilT ?_ | refine Ent.takeR (by first | rfl | assumption | (simp; done)) ?_ | exact Ent.refl _))))
/-- All lines, in rising order. -/
def listT (ls : List Ln) : List Ln := (sortU (dests ls)).filterMap (lget ls)
/-- Lines as others see them: with their neighbours' slices. -/
abbrev LnS := Ln × (Option Addr × Nat)
def routeS (p : LnS) : List Value := routeC p.1 (befV p.1 p.2)
instance : FixLen routeS 7 := ⟨fun _ => rfl⟩
theorem routeS_one : ∀ z, ∀ c ∈ routeS z, c.oneCell' = true := by
  intro z c hc
  simp [routeS, routeC] at hc
  rcases hc with rfl | rfl | rfl | rfl | rfl | rfl | rfl <;> rfl
def befs : List LnS → HProp
  | [] => emp
  | p :: r => rows 34 1 wordC (befV p.1 p.2) (sortU p.1.before) * befs r
theorem befs_snoc : ∀ (ps : List LnS) (p : LnS), befs (ps ++ [p]) = rows 34 1 wordC (befV p.1 p.2) (sortU p.1.before) * befs ps
  | [], p => rfl
  | q :: ps, p => by
    show _ * befs (ps ++ [p]) = _
    rw [befs_snoc ps p, star_left_comm]; rfl
set_option maxRecDepth 100000 in
set_option maxHeartbeats 8000000 in
theorem list_specT (gt r : Nat) (self : UInt32) (bs : List (Nat × Nat)) (ls : List Ln) (hlen : bs.length = ls.length) (hn : (dests ls).Nodup) (h12 : ls.length ≤ 12) (hb : ∀ l ∈ ls, l.before.length ≤ 12) :
    Spec Tryz.prog w0 88 [ptr gt 0] (tabP gt r self bs ls) (fun x : Value × List LnS => x.1) (fun x => pure' (x.2.map (·.1) = listT ls) * (rows 38 7 routeS x.1 x.2 * (befs x.2 * tabP gt r self bs ls))) := by
  have it := inOrder_iter w0 gt r self bs ls hlen h12
  refine Spec.enterM Tryz.func88 rfl Tryz.ntmps88 rfl fun G => ?_
  simp only [argE, tabP]
  repeat' (first | (refine WS_seqK ?_; intro K hK) | (refine hK _ ?_; clear hK K) | refine WS_region ?_ | refine LS_nil ?_ | ((refine' LQ ?zh rfl ?_); case zh => intro F'; first | exact Q_move rfl | exact Q_assign rfl | exact Q_makeFunc rfl rfl) | ((refine' LS_h ?zh rfl ?_); (case zh => exact H_alloc iI); intro g) | (first | refine WS_block ?_ | refine WS_skip ?_ | refine WS_ret ?_ | refine WS_exit ?_ | refine WS_label ?_))
  revert g; intro g3
  refine WS_ent (Ent.nil _ 38 7 routeS none) ?_
  refine WS_ent (H' := (cel gt 281 [u32 self, .map (some r)] * mp u32 ptrV r (lmap bs ls)) * ((hex fun x : Value × List LnS => pure' (x.2.map (·.1) = ([] : List UInt32).filterMap (lget ls)) * (cel g3 32 [x.1] * (rows 38 7 routeS x.1 x.2 * (befs x.2 * linesP bs ls)))) * G)) (Ent.trans (F := (hex fun x : Value × List LnS => pure' (x.2.map (·.1) = ([] : List UInt32).filterMap (lget ls)) * (cel g3 32 [x.1] * (rows 38 7 routeS x.1 x.2 * (befs x.2 * linesP bs ls)))) * ((cel gt 281 [u32 self, .map (some r)] * mp u32 ptrV r (lmap bs ls)) * G)) (Ent.hexI (p := fun x : Value × List LnS => pure' (x.2.map (·.1) = ([] : List UInt32).filterMap (lget ls)) * (cel g3 32 [x.1] * (rows 38 7 routeS x.1 x.2 * (befs x.2 * linesP bs ls)))) (Value.slice none 0 0, []) (by rw [star_assoc (pure' _)]; refine Ent.pureI rfl ?_; simp only [befs]; ((try simp only [star_assoc, emp_star, star_emp]); (repeat' (first | exact Ent.last | refine Ent.take ?_ | refine Ent.nilT ?_ | refine Ent.takeR (by first | rfl | assumption | (simp; done)) ?_ | exact Ent.refl _))))) (by ((try simp only [star_assoc, emp_star, star_emp]); (repeat' (first | exact Ent.last | refine Ent.take ?_ | refine Ent.nilT ?_ | refine Ent.takeR (by first | rfl | assumption | (simp; done)) ?_ | exact Ent.refl _))))) ?_
  refine WS_rangeFuncG (fb := [ptr gt 0]) rfl rfl iI it rfl (fun _ => rfl) (fun pre => hex fun x : Value × List LnS => pure' (x.2.map (·.1) = pre.filterMap (lget ls)) * (cel g3 32 [x.1] * (rows 38 7 routeS x.1 x.2 * (befs x.2 * linesP bs ls)))) (fun _ _ => pure' False) rfl ?_ ?_ ?_
  · rintro l pre d R ⟨xs, rfl, hpx⟩
    have hdm : d ∈ dests ls := mem_sortU.1 (hpx.subset (by simp))
    have hpl : pre.length + 1 ≤ 12 := by
      have := hpx.length_le
      rw [sortU_length] at this
      simp [dests] at this; omega
    have hmg := mget_dest hlen hdm
    obtain ⟨j, rb, x, hx, hbj, hxd⟩ := lmap_mem (by obtain ⟨i, _, hi⟩ := mget_some hmg; exact List.mem_of_getElem? hi)
    obtain ⟨F, h1, h2⟩ := linesP_hole hbj hx
    have hgl : lget ls d = some x := lget_some (hxd ▸ lfind_nodup hn hx) hx
    have hcp := copied_spec w0 (blkOf bs ls d) rb x (hb x (List.mem_of_getElem? hx))
    generalize blkOf bs ls d = b at *
    refine WS_hex fun y => ?_
    rw [star_assoc (pure' _)]
    refine WS_pure fun hy => ?_
    obtain ⟨v, ps⟩ := y
    have hps : ps.length ≤ 12 := by
      have e1 := congrArg List.length hy
      have e2 := List.length_filterMap_le (lget ls) pre
      simp at e1; omega
    rw [h1]
    simp only [linP, lineC, bindE] at hcp ⊢
    repeat' (first | refine WS_region ?_ | refine LS_nil ?_ | ((refine' LQ ?zh rfl ?_); case zh => intro F'; exact Q_assign rfl))
    refine asgS_mk rfl (cel g3 32 [v] * (rows 38 7 routeS v ps * (befs ps * (cel b 289 (lineC x rb) * (mp u32 unitV rb (bmap x.before) * F))))) (by simp only [lineC]; ((try simp only [star_assoc, emp_star, star_emp]); (repeat' (first | exact Ent.last | refine Ent.take ?_ | refine Ent.nilT ?_ | refine Ent.takeR (by first | rfl | assumption | (simp; done)) ?_ | exact Ent.refl _)))) fun R' => ?_
    simp only [lineC]
    repeat' (first | (show WS _ _ _ (.region 4 _ true) _ _; first | refine WS_drawK [0, 1, 2, 3, 4, 5] 2 [0] (by decide +kernel) rfl ?_ | refine WS_drawM 3 [0, 1, 2, 3, 4, 5] 5 [0] (by decide +kernel) rfl rfl iI ?_) | (with_reducible (first | refine thenS_n ?_ | refine thenS_e ?_ | refine blockS_n ?_ | refine blockS_e ?_ | refine blockS_o rfl ?_ | refine thenS_r ?_ | refine blockS_r ?_ | refine use_K (by assumption) ?_)) | (first | refine DL_nilA ?_ | refine DL_nilS ?_ | refine DL_nilN ?_ | refine DL_nilE ?_ | refine DL_nilR ?_) | (first | refine DL_claimS rfl ?_ | refine DL_claim rfl rfl ?_) | ((first | refine' DL_qp rfl rfl rfl ?zh ?_ | refine' DL_q rfl rfl ?zh ?_); case zh => intro F'; first | exact Q_move rfl | exact Q_load rfl iI iI rfl) | ((refine' DL_h0 ?zh rfl rfl ?_); (case zh => exact H_storeO rfl rfl iI iI iI rfl); intro g) | (first | refine WS_block ?_ | refine WS_skip ?_ | refine WS_ret ?_ | refine WS_exit ?_ | refine WS_label ?_) | (refine DL_h (H_callX iI rfl hcp iI) rfl rfl rfl ?_; intro p) | (refine DL_h (H_buildSliceR routeS [(x, p)] iI iI iI rfl rfl rfl rfl rfl iI rfl rfl rfl) rfl rfl rfl ?_; intro vs) | (refine DL_h (H_appendR rfl rfl iI iI rfl iI iI routeS_one (by first | omega | (simp [be_length] <;> omega)) rfl) rfl rfl rfl ?_; intro va))
    show Ent _ ((hex _) * R')
    refine Ent.hexI (va, ps ++ [(x, p)]) ?_
    rw [star_assoc (pure' _)]
    refine Ent.pureI (by rw [List.map_append, List.filterMap_append]; simp only [List.map_cons, List.map_nil, List.filterMap_cons, List.filterMap_nil, hgl]; simp only at hy; rw [hy]) ?_
    dsimp only
    rw [befs_snoc]
    simp only [linP, lineC]
    ((try simp only [star_assoc, emp_star, star_emp]); (repeat' (first | exact Ent.last | refine Ent.take ?_ | refine Ent.nilT ?_ | refine Ent.takeR (by first | rfl | assumption | (simp; done)) ?_ | exact Ent.refl _)))
  · intro b xs hxs
    subst hxs
    refine hK _ ?_
    refine WS_ent (H' := (hex fun x : Value × List LnS => pure' (x.2.map (·.1) = (sortU (dests ls)).filterMap (lget ls)) * (cel g3 32 [x.1] * (rows 38 7 routeS x.1 x.2 * (befs x.2 * linesP bs ls)))) * (dblk b * ((cel gt 281 [u32 self, .map (some r)] * mp u32 ptrV r (lmap bs ls)) * G))) (by ((try simp only [star_assoc, emp_star, star_emp]); (repeat' (first | exact Ent.last | refine Ent.take ?_ | refine Ent.nilT ?_ | refine Ent.takeR (by first | rfl | assumption | (simp; done)) ?_ | exact Ent.refl _)))) ?_
    refine WS_hex fun y => ?_
    rw [star_assoc (pure' _)]
    refine WS_pure fun hy => ?_
    obtain ⟨v, ps⟩ := y
    repeat' (first | (refine WS_seqK ?_; intro K hK) | (refine hK _ ?_; clear hK K) | refine WS_region ?_ | refine LS_nil ?_ | ((refine' LQ ?zh rfl ?_); case zh => intro F'; first | exact Q_assign rfl | exact Q_load rfl iI iI rfl) | (first | refine WS_block ?_ | refine WS_skip ?_ | refine WS_ret ?_ | refine WS_exit ?_ | refine WS_label ?_))
    refine out_r ?_
    refine lv_mark (fun h => by cases h) iI ?_
    refine lv_ret1 rfl (RV_tmp rfl) ⟨(v, ps), rfl, ?_⟩
    rw [star_assoc (pure' _)]
    refine Ent.pureI hy ?_
    ((try simp only [star_assoc, emp_star, star_emp]); (repeat' (first | exact Ent.last | refine Ent.take ?_ | refine Ent.nilT ?_ | refine Ent.takeR (by first | rfl | assumption | (simp; done)) ?_ | exact Ent.refl _)))
  · intro b c pre
    exact WS_pure (φ := False) fun h => h.elim
end Go.Proofs.YtapoehkdnglahaaGreat

/- Timers in a heap, and timers in a list, in plain Lean: both answer alike. No program in sight. -/
namespace Go.Proofs.YtapoehkdnglahaaGreat
set_option linter.unusedVariables false
set_option linter.unusedSectionVars false
/-- Something that is to happen. -/
structure Tm where
  at_ : UInt64
  id : Int
  what : Int
deriving DecidableEq
instance : Inhabited Tm := ⟨⟨0, 0, 0⟩⟩
/-- One comes ahead of another. -/
def Tm.ahead (t u : Tm) : Bool := decide (t.at_ < u.at_) || (decide (t.at_ = u.at_) && decide (t.id < u.id))
theorem ahead_iff {t u : Tm} : t.ahead u = true ↔ (t.at_.toNat < u.at_.toNat ∨ (t.at_.toNat = u.at_.toNat ∧ t.id < u.id)) := by
  simp [Tm.ahead, UInt64.lt_iff_toNat_lt, ← UInt64.toNat_inj]
theorem ahead_irrefl (t : Tm) : t.ahead t = false := by
  cases h : t.ahead t with
  | false => rfl
  | true => rw [ahead_iff] at h; omega
theorem ahead_trans {t u v : Tm} (h : t.ahead u = true) (h2 : u.ahead v = true) : t.ahead v = true := by
  rw [ahead_iff] at *; omega
theorem ahead_asymm {t u : Tm} (h : t.ahead u = true) : u.ahead t = false := by
  cases h2 : u.ahead t with
  | false => rfl
  | true => rw [ahead_iff] at *; omega
/-- Not behind. -/
theorem nahead_trans {t u v : Tm} (h : u.ahead t = false) (h2 : v.ahead u = false) : v.ahead t = false := by
  cases h3 : v.ahead t with
  | false => rfl
  | true =>
    have h' : ¬ u.ahead t = true := by simp [h]
    have h2' : ¬ v.ahead u = true := by simp [h2]
    rw [ahead_iff] at *; omega
/-- Element k. -/
def at' (l : List Tm) (k : Nat) : Tm := l[k]?.getD default
theorem at'_get {l : List Tm} {k : Nat} (h : k < l.length) : l[k]? = some (at' l k) := by simp [at', h]
def swp (l : List Tm) (i j : Nat) : List Tm := (l.set i (at' l j)).set j (at' l i)
@[simp] theorem swp_length (l : List Tm) (i j : Nat) : (swp l i j).length = l.length := by simp [swp]
theorem at'_set {l : List Tm} {i : Nat} (t : Tm) (h : i < l.length) (k : Nat) : at' (l.set i t) k = if k = i then t else at' l k := by
  unfold at'
  rw [List.getElem?_set]
  by_cases e : i = k
  · subst e; simp [h]
  · simp [e, Ne.symm e]
theorem at'_swp {l : List Tm} {i j : Nat} (hi : i < l.length) (hj : j < l.length) (k : Nat) : at' (swp l i j) k = if k = j then at' l i else if k = i then at' l j else at' l k := by
  unfold swp
  rw [at'_set _ (by simpa using hj), at'_set _ hi]
theorem swp_perm {l : List Tm} {i j : Nat} (hi : i < l.length) (hj : j < l.length) : (swp l i j).Perm l := by
  have e1 : at' l i = l[i] := by simp [at', hi]
  have e2 : at' l j = l[j] := by simp [at', hj]
  unfold swp
  rw [e1, e2]
  exact List.set_set_perm hi hj
/-- The way up. -/
def upF : Nat → List Tm → Nat → List Tm
  | 0, l, _ => l
  | f + 1, l, i => if 0 < i ∧ (at' l i).ahead (at' l ((i - 1) / 2)) = true then upF f (swp l i ((i - 1) / 2)) ((i - 1) / 2) else l
/-- Of i and its children the one that comes first. -/
def firstF (l : List Tm) (i : Nat) : Nat :=
  let a := if 2 * i + 1 < l.length ∧ (at' l (2 * i + 1)).ahead (at' l i) = true then 2 * i + 1 else i
  if 2 * i + 2 < l.length ∧ (at' l (2 * i + 2)).ahead (at' l a) = true then 2 * i + 2 else a
/-- The way down. -/
def downF : Nat → List Tm → Nat → List Tm
  | 0, l, _ => l
  | f + 1, l, i => if firstF l i = i then l else downF f (swp l i (firstF l i)) (firstF l i)
theorem firstF_lt {l : List Tm} {i : Nat} (h : i < l.length) : firstF l i < l.length := by
  unfold firstF; simp only; repeat' split
  all_goals omega
theorem firstF_cases (l : List Tm) (i : Nat) : firstF l i = i ∨ (firstF l i = 2 * i + 1 ∧ 2 * i + 1 < l.length) ∨ (firstF l i = 2 * i + 2 ∧ 2 * i + 2 < l.length) := by
  unfold firstF; simp only; repeat' split
  all_goals omega
theorem firstF_spec (l : List Tm) (i : Nat) : (∀ k, (k = 2 * i + 1 ∨ k = 2 * i + 2) → k < l.length → (at' l k).ahead (at' l (firstF l i)) = false) ∧ (at' l i).ahead (at' l (firstF l i)) = false ∧ (firstF l i ≠ i → (at' l (firstF l i)).ahead (at' l i) = true) := by
  unfold firstF
  by_cases h1 : 2 * i + 1 < l.length ∧ (at' l (2 * i + 1)).ahead (at' l i) = true
  · simp only [h1, and_self, if_true]
    by_cases h2 : 2 * i + 2 < l.length ∧ (at' l (2 * i + 2)).ahead (at' l (2 * i + 1)) = true
    · simp only [h2, and_self, if_true]
      refine ⟨fun k hk hl => ?_, ahead_asymm (ahead_trans h2.2 h1.2), fun _ => ahead_trans h2.2 h1.2⟩
      rcases hk with rfl | rfl
      · exact ahead_asymm h2.2
      · exact ahead_irrefl _
    · simp only [h2, if_false]
      refine ⟨fun k hk hl => ?_, ahead_asymm h1.2, fun _ => h1.2⟩
      rcases hk with rfl | rfl
      · exact ahead_irrefl _
      · cases hh : (at' l (2 * i + 2)).ahead (at' l (2 * i + 1)) with
        | false => rfl
        | true => exact absurd ⟨hl, hh⟩ h2
  · simp only [h1, if_false]
    by_cases h2 : 2 * i + 2 < l.length ∧ (at' l (2 * i + 2)).ahead (at' l i) = true
    · rw [if_pos h2]
      refine ⟨fun k hk hl => ?_, ahead_asymm h2.2, fun _ => h2.2⟩
      rcases hk with rfl | rfl
      · cases hh : (at' l (2 * i + 1)).ahead (at' l (2 * i + 2)) with
        | false => rfl
        | true => exact absurd ⟨hl, ahead_trans hh h2.2⟩ h1
      · exact ahead_irrefl _
    · simp only [h2, if_false]
      refine ⟨fun k hk hl => ?_, ahead_irrefl _, fun h => absurd rfl h⟩
      rcases hk with rfl | rfl
      · cases hh : (at' l (2 * i + 1)).ahead (at' l i) with
        | false => rfl
        | true => exact absurd ⟨hl, hh⟩ h1
      · cases hh : (at' l (2 * i + 2)).ahead (at' l i) with
        | false => rfl
        | true => exact absurd ⟨hl, hh⟩ h2
theorem upF_perm (f : Nat) : ∀ (l : List Tm) (i : Nat), i < l.length → (upF f l i).Perm l := by
  induction f with
  | zero => intro l i _; exact List.Perm.refl _
  | succ f ih =>
    intro l i hi
    unfold upF
    split
    · exact (ih _ _ (by simp; omega)).trans (swp_perm hi (by omega))
    · exact List.Perm.refl _
theorem downF_perm (f : Nat) : ∀ (l : List Tm) (i : Nat), i < l.length → (downF f l i).Perm l := by
  induction f with
  | zero => intro l i _; exact List.Perm.refl _
  | succ f ih =>
    intro l i hi
    unfold downF
    split
    · exact List.Perm.refl _
    · exact (ih _ _ (by simpa using firstF_lt hi)).trans (swp_perm hi (firstF_lt hi))
/-- No element is ahead of the one over it. -/
def Hp (l : List Tm) : Prop := ∀ k, 0 < k → k < l.length → (at' l k).ahead (at' l ((k - 1) / 2)) = false
/-- The same, but for i against the one over it; what is under i is not ahead of that. -/
def HpUp (l : List Tm) (i : Nat) : Prop := (∀ k, 0 < k → k < l.length → k ≠ i → (at' l k).ahead (at' l ((k - 1) / 2)) = false) ∧ (0 < i → ∀ k, 0 < k → k < l.length → (k - 1) / 2 = i → (at' l k).ahead (at' l ((i - 1) / 2)) = false)
/-- The same, but for i against the one over it and those under it. -/
def HpAt (l : List Tm) (i : Nat) : Prop := (∀ k, 0 < k → k < l.length → k ≠ i → (k - 1) / 2 ≠ i → (at' l k).ahead (at' l ((k - 1) / 2)) = false) ∧ (0 < i → ∀ k, 0 < k → k < l.length → (k - 1) / 2 = i → (at' l k).ahead (at' l ((i - 1) / 2)) = false)
theorem Hp.up {l : List Tm} (h : Hp l) (i : Nat) (hi : i < l.length) : HpUp l i :=
  ⟨fun k h1 h2 _ => h k h1 h2, fun h0 k h1 h2 h3 => nahead_trans (h i h0 hi) (h3 ▸ h k h1 h2)⟩
theorem upF_hp (f : Nat) : ∀ (l : List Tm) (i : Nat), i < l.length → i ≤ f → HpUp l i → Hp (upF f l i) := by
  induction f with
  | zero =>
    intro l i hi hf h k h1 h2
    exact h.1 k h1 h2 (by omega)
  | succ f ih =>
    intro l i hi hf h
    unfold upF
    split
    · rename_i hc
      obtain ⟨h0, ha⟩ := hc
      have hp : (i - 1) / 2 < l.length := by omega
      have hpi : (i - 1) / 2 < i := by omega
      refine ih _ _ (by simpa using hp) (by omega) ⟨fun k h1 h2 hne => ?_, fun hp0 k h1 h2 hk => ?_⟩
      · simp only [swp_length] at h2
        rw [at'_swp hi hp, at'_swp hi hp, if_neg hne]
        by_cases hki : k = i
        · subst hki
          rw [if_pos rfl, if_pos rfl]; exact ahead_asymm ha
        · rw [if_neg hki]
          by_cases hkp : (k - 1) / 2 = (i - 1) / 2
          · rw [if_pos hkp]
            have := h.1 k h1 h2 hki
            rw [hkp] at this
            exact nahead_trans (ahead_asymm ha) this
          · rw [if_neg hkp]
            by_cases hkp2 : (k - 1) / 2 = i
            · rw [if_pos hkp2]
              exact h.2 h0 k h1 h2 hkp2
            · rw [if_neg hkp2]
              exact h.1 k h1 h2 hki
      · simp only [swp_length] at h2
        have hq := h.1 ((i - 1) / 2) hp0 hp (by omega)
        rw [at'_swp hi hp, at'_swp hi hp, if_neg (by omega), if_neg (c := ((i - 1) / 2 - 1) / 2 = (i - 1) / 2) (by omega), if_neg (c := ((i - 1) / 2 - 1) / 2 = i) (by omega)]
        by_cases hki : k = i
        · subst hki; rw [if_pos rfl]; exact hq
        · rw [if_neg hki]
          have := h.1 k h1 h2 hki
          rw [hk] at this
          exact nahead_trans hq this
    · rename_i hc
      intro k h1 h2
      by_cases hki : k = i
      · subst hki
        cases hh : (at' l k).ahead (at' l ((k - 1) / 2)) with
        | false => rfl
        | true => exact absurd ⟨h1, hh⟩ hc
      · exact h.1 k h1 h2 hki
/-- Behind the way down all is well but for i against the one over it; if it moved, all is well. -/
theorem downF_hp (f : Nat) : ∀ (l : List Tm) (i : Nat), i < l.length → l.length ≤ f + i → HpAt l i → ((0 < i → (at' l i).ahead (at' l ((i - 1) / 2)) = false) → Hp (downF f l i)) ∧ HpUp (downF f l i) i := by
  induction f with
  | zero => intro l i hi hf h; omega
  | succ f ih =>
    intro l i hi hf h
    unfold downF
    split
    · rename_i hc
      obtain ⟨s1, _, _⟩ := firstF_spec l i
      rw [hc] at s1
      have hall : ∀ k, 0 < k → k < l.length → k ≠ i → (at' l k).ahead (at' l ((k - 1) / 2)) = false := fun k h1 h2 h3 => by
        by_cases hk : (k - 1) / 2 = i
        · rw [hk]; exact s1 k (by omega) h2
        · exact h.1 k h1 h2 h3 hk
      refine ⟨fun hov k h1 h2 => ?_, hall, h.2⟩
      by_cases hk : k = i
      · subst hk; exact hov h1
      · exact hall k h1 h2 hk
    · rename_i hc
      obtain ⟨s1, s2, s3⟩ := firstF_spec l i
      have s3 := s3 hc
      have hfl := firstF_lt hi
      have hcs := firstF_cases l i
      generalize firstF l i = j at *
      have hji : i < j := by omega
      have hpj : (j - 1) / 2 = i := by omega
      have hat : HpAt (swp l i j) j := by
        refine ⟨fun k h1 h2 h3 h4 => ?_, fun h0 k h1 h2 hk => ?_⟩
        · simp only [swp_length] at h2
          rw [at'_swp hi hfl, at'_swp hi hfl, if_neg h3, if_neg h4]
          by_cases hki : k = i
          · subst hki
            rw [if_pos rfl, if_neg (by omega)]
            exact h.2 h1 j (by omega) hfl hpj
          · rw [if_neg hki]
            by_cases hkp : (k - 1) / 2 = i
            · rw [if_pos hkp]; exact s1 k (by omega) h2
            · rw [if_neg hkp]; exact h.1 k h1 h2 hki hkp
        · simp only [swp_length] at h2
          rw [at'_swp hi hfl, at'_swp hi hfl, if_neg (by omega), if_neg (by omega), if_neg (by omega), if_pos hpj]
          have := h.1 k h1 h2 (by omega) (by omega)
          rwa [hk] at this
      have hov : 0 < j → (at' (swp l i j) j).ahead (at' (swp l i j) ((j - 1) / 2)) = false := fun _ => by
        rw [at'_swp hi hfl, at'_swp hi hfl, if_pos rfl, if_neg (by omega), if_pos hpj]
        exact ahead_asymm s3
      obtain ⟨g1, _⟩ := ih (swp l i j) j (by simpa using hfl) (by simp; omega) hat
      have hH := g1 hov
      refine ⟨fun _ => hH, hH.up i ?_⟩
      have := (downF_perm f (swp l i j) j (by simpa using hfl)).length_eq
      rw [this]; simpa using hi
theorem Hp.min {l : List Tm} (h : Hp l) : ∀ k, k < l.length → (at' l k).ahead (at' l 0) = false := by
  intro k
  induction k using Nat.strongRecOn with
  | _ k ih =>
    intro hk
    by_cases h0 : k = 0
    · subst h0; exact ahead_irrefl _
    · exact nahead_trans (ih ((k - 1) / 2) (by omega) (by omega)) (h k (by omega) hk)
/-- One more. -/
def addF (l : List Tm) (t : Tm) : List Tm := upF l.length (l ++ [t]) l.length
theorem addF_perm (l : List Tm) (t : Tm) : (addF l t).Perm (l ++ [t]) := upF_perm _ _ _ (by simp)
theorem addF_hp {l : List Tm} (t : Tm) (h : Hp l) : Hp (addF l t) := by
  have e : ∀ k, k < l.length → at' (l ++ [t]) k = at' l k := fun k hk => by simp [at', List.getElem?_append, hk]
  refine upF_hp _ _ _ (by simp) (Nat.le_refl _) ⟨fun k h1 h2 h3 => ?_, fun h0 k h1 h2 h3 => ?_⟩
  · simp only [List.length_append, List.length_cons, List.length_nil] at h2
    rw [e k (by omega), e _ (by omega)]
    exact h k h1 (by omega)
  · simp only [List.length_append, List.length_cons, List.length_nil] at h2
    omega
/-- One less. -/
def cutF (l : List Tm) (i : Nat) : List Tm := (swp l i (l.length - 1)).take (l.length - 1)
def remF (l : List Tm) (i : Nat) : List Tm := if i < l.length - 1 then upF i (downF l.length (cutF l i) i) i else cutF l i
theorem cutF_length {l : List Tm} {i : Nat} : (cutF l i).length = l.length - 1 := by simp [cutF]
theorem cutF_perm {l : List Tm} {i : Nat} (hi : i < l.length) : (at' l i :: cutF l i).Perm l := by
  have hp := swp_perm hi (show l.length - 1 < l.length by omega)
  refine List.Perm.trans ?_ hp
  have h1 : (swp l i (l.length - 1)).drop (l.length - 1) = [at' l i] := by
    apply List.ext_getElem?
    intro k
    rw [List.getElem?_drop]
    by_cases hk : k = 0
    · subst hk
      rw [at'_get (by simp; omega), at'_swp hi (by omega)]
      simp
    · rw [List.getElem?_eq_none (by simp; omega), List.getElem?_eq_none (by simp; omega)]
  have h2 := List.take_append_drop (l.length - 1) (swp l i (l.length - 1))
  rw [h1] at h2
  rw [← h2, cutF]
  exact (List.perm_append_singleton _ _).symm
theorem remF_perm {l : List Tm} {i : Nat} (hi : i < l.length) : (at' l i :: remF l i).Perm l := by
  unfold remF
  split
  · refine List.Perm.trans (List.Perm.cons _ ?_) (cutF_perm hi)
    have hd := downF_perm l.length (cutF l i) i (by rw [cutF_length]; omega)
    exact (upF_perm _ _ _ (by rw [hd.length_eq, cutF_length]; omega)).trans hd
  · exact cutF_perm hi
theorem at'_cutF {l : List Tm} {i : Nat} (hi : i < l.length) {k : Nat} (hk : k < l.length - 1) : at' (cutF l i) k = if k = i then at' l (l.length - 1) else at' l k := by
  have : at' (cutF l i) k = at' (swp l i (l.length - 1)) k := by simp only [at', cutF, List.getElem?_take, if_pos hk]
  rw [this, at'_swp hi (by omega), if_neg (by omega)]
theorem remF_hp {l : List Tm} {i : Nat} (hi : i < l.length) (h : Hp l) : Hp (remF l i) := by
  unfold remF
  split
  · rename_i hlt
    have hl := @cutF_length l i
    have hat : HpAt (cutF l i) i := by
      refine ⟨fun k h1 h2 h3 h4 => ?_, fun h0 k h1 h2 hk => ?_⟩
      · rw [hl] at h2
        rw [at'_cutF hi h2, at'_cutF hi (by omega), if_neg h3, if_neg h4]
        exact h k h1 (by omega)
      · rw [hl] at h2
        rw [at'_cutF hi h2, at'_cutF hi (by omega), if_neg (by omega), if_neg (by omega)]
        have e1 := h k h1 (by omega)
        rw [hk] at e1
        exact nahead_trans (h i h0 (by omega)) e1
    obtain ⟨_, g⟩ := downF_hp l.length (cutF l i) i (by rw [hl]; omega) (by rw [hl]; omega) hat
    have hd := (downF_perm l.length (cutF l i) i (by rw [hl]; omega)).length_eq
    exact upF_hp i _ i (by rw [hd, hl]; omega) (Nat.le_refl _) g
  · rename_i hlt
    intro k h1 h2
    rw [cutF_length] at h2
    rw [at'_cutF hi h2, at'_cutF hi (by omega), if_neg (by omega), if_neg (by omega)]
    exact h k h1 (by omega)
end Go.Proofs.YtapoehkdnglahaaGreat

/- A heap of timers against a list of timers: each call answers alike; and where each number stands. Plain Lean. -/
namespace Go.Proofs.YtapoehkdnglahaaGreat
set_option linter.unusedVariables false
set_option linter.unusedSectionVars false
/-- No two timers have the same number. -/
def IdN (l : List Tm) : Prop := (l.map (·.id)).Nodup
theorem IdN.perm {l L : List Tm} (h : IdN l) (p : l.Perm L) : IdN L := (p.map _).nodup_iff.1 h
theorem IdN.inj {l : List Tm} (h : IdN l) {a b : Nat} (ha : a < l.length) (hb : b < l.length) (e : (at' l a).id = (at' l b).id) : a = b := by
  have h' : (l.map (·.id)).Nodup := h
  exact (List.getElem_inj (xs := l.map (·.id)) (h₀ := by simpa using ha) (h₁ := by simpa using hb) h').1 (by simpa [at', ha, hb] using e)
theorem mem_at' {l : List Tm} {t : Tm} : t ∈ l ↔ ∃ k, k < l.length ∧ at' l k = t := by
  rw [List.mem_iff_getElem]
  constructor
  · rintro ⟨k, hk, rfl⟩; exact ⟨k, hk, by simp [at', hk]⟩
  · rintro ⟨k, hk, rfl⟩; exact ⟨k, hk, by simp [at', hk]⟩
theorem at'_mem {l : List Tm} {k : Nat} (h : k < l.length) : at' l k ∈ l := mem_at'.2 ⟨k, h, rfl⟩
/-- The map tells where each number stands. -/
def PlOk (l : List Tm) (m : List (Int × Int)) : Prop := KN m ∧ ∀ id v, mget m id = some v ↔ ∃ k : Nat, k < l.length ∧ (at' l k).id = id ∧ v = (k : Int)
theorem PlOk.nil : PlOk [] [] := ⟨KN.nil, fun id v => by simp [mget_nil]⟩
theorem PlOk.none {l : List Tm} {m : List (Int × Int)} (h : PlOk l m) {id : Int} (h0 : mget m id = none) : ∀ t ∈ l, t.id ≠ id := by
  intro t ht e
  obtain ⟨k, hk, rfl⟩ := mem_at'.1 ht
  have := (h.2 id k).2 ⟨k, hk, e, rfl⟩
  rw [h0] at this; cases this
theorem PlOk.swap {l : List Tm} {m : List (Int × Int)} (h : PlOk l m) (hn : IdN l) {i j : Nat} (hi : i < l.length) (hj : j < l.length) :
    PlOk (swp l i j) (mset (mset m (at' (swp l i j) i).id (i : Int)) (at' (swp l i j) j).id (j : Int)) := by
  have hn' : IdN (swp l i j) := hn.perm (swp_perm hi hj).symm
  refine ⟨(h.1.mset _ _).mset _ _, fun id v => ?_⟩
  rw [mget_mset, mget_mset]
  have hj' : j < (swp l i j).length := by simpa using hj
  have hi' : i < (swp l i j).length := by simpa using hi
  by_cases e1 : (at' (swp l i j) j).id = id
  · rw [if_pos e1]
    constructor
    · intro e; cases e; exact ⟨j, hj', e1, rfl⟩
    · rintro ⟨k, hk, e, rfl⟩
      rw [hn'.inj hk hj' (e.trans e1.symm)]
  · rw [if_neg e1]
    by_cases e2 : (at' (swp l i j) i).id = id
    · rw [if_pos e2]
      constructor
      · intro e; cases e; exact ⟨i, hi', e2, rfl⟩
      · rintro ⟨k, hk, e, rfl⟩
        rw [hn'.inj hk hi' (e.trans e2.symm)]
    · rw [if_neg e2, h.2 id v]
      have a1 := at'_swp hi hj j
      have a2 := at'_swp hi hj i
      rw [if_pos rfl] at a1
      constructor
      · rintro ⟨k, hk, e, rfl⟩
        have k1 : k ≠ i := by rintro rfl; rw [a1] at e1; exact e1 e
        have k2 : k ≠ j := by
          rintro rfl
          by_cases hij : i = k
          · subst hij; rw [a1] at e1; exact e1 e
          · rw [if_neg hij, if_pos rfl] at a2; rw [a2] at e2; exact e2 e
        exact ⟨k, by simpa using hk, by rw [at'_swp hi hj, if_neg k2, if_neg k1]; exact e, rfl⟩
      · rintro ⟨k, hk, e, rfl⟩
        have k1 : k ≠ i := by rintro rfl; exact e2 e
        have k2 : k ≠ j := by rintro rfl; exact e1 e
        rw [at'_swp hi hj, if_neg k2, if_neg k1] at e
        exact ⟨k, by simpa using hk, e, rfl⟩
theorem at'_append {l : List Tm} (t : Tm) (k : Nat) : at' (l ++ [t]) k = if k = l.length then t else at' l k := by
  unfold at'
  rw [List.getElem?_append]
  split
  · rw [if_neg (by omega)]
  · split
    · rename_i h; subst h; simp
    · rw [List.getElem?_eq_none (by simp; omega), List.getElem?_eq_none (by omega)]
theorem PlOk.snoc {l : List Tm} {m : List (Int × Int)} (h : PlOk l m) (t : Tm) (ht : ∀ u ∈ l, u.id ≠ t.id) : PlOk (l ++ [t]) (mset m t.id (l.length : Int)) := by
  refine ⟨h.1.mset _ _, fun id v => ?_⟩
  rw [mget_mset]
  by_cases e : t.id = id
  · rw [if_pos e]
    constructor
    · intro e2; cases e2; exact ⟨l.length, by simp, by rw [at'_append, if_pos rfl]; exact e, rfl⟩
    · rintro ⟨k, hk, e2, rfl⟩
      rw [at'_append] at e2
      split at e2
      · rename_i hk2; rw [hk2]
      · simp at hk
        exact absurd (e2.trans e.symm) (ht _ (at'_mem (by omega)))
  · rw [if_neg e, h.2]
    constructor
    · rintro ⟨k, hk, e2, rfl⟩; exact ⟨k, by simp; omega, by rw [at'_append, if_neg (by omega)]; exact e2, rfl⟩
    · rintro ⟨k, hk, e2, rfl⟩
      rw [at'_append] at e2
      split at e2
      · exact absurd e2 e
      · simp at hk; exact ⟨k, by omega, e2, rfl⟩
theorem at'_take {l : List Tm} {n k : Nat} (h : k < n) : at' (l.take n) k = at' l k := by simp only [at', List.getElem?_take, if_pos h]
theorem PlOk.pop {l : List Tm} {m : List (Int × Int)} (h : PlOk l m) (hn : IdN l) (h0 : 0 < l.length) : PlOk (l.take (l.length - 1)) (mdel m (at' l (l.length - 1)).id) := by
  refine ⟨h.1.mdel _, fun id v => ?_⟩
  rw [mget_mdel h.1]
  by_cases e : (at' l (l.length - 1)).id = id
  · rw [if_pos e]
    constructor
    · intro e2; cases e2
    · rintro ⟨k, hk, e2, rfl⟩
      simp at hk
      rw [at'_take (by omega)] at e2
      have := hn.inj (by omega) (by omega) (e2.trans e.symm)
      omega
  · rw [if_neg e, h.2]
    constructor
    · rintro ⟨k, hk, e2, rfl⟩
      have : k ≠ l.length - 1 := by rintro rfl; exact e e2
      exact ⟨k, by simp; omega, by rw [at'_take (by omega)]; exact e2, rfl⟩
    · rintro ⟨k, hk, e2, rfl⟩
      simp at hk
      rw [at'_take (by omega)] at e2
      exact ⟨k, by omega, e2, rfl⟩
/-! ### The list's answers -/
/-- The place of the first timer with a number. -/
def findT (l : List Tm) (id : Int) : Option Nat := l.findIdx? (fun t => decide (t.id = id))
/-- The place of the one that is due first, among the first n. -/
def bestN (L : List Tm) (now : UInt64) : Nat → Option Nat
  | 0 => none
  | n + 1 => match bestN L now n with
    | none => if (at' L n).at_ ≤ now then some n else none
    | some b => if (at' L n).at_ ≤ now ∧ (at' L n).at_ < (at' L b).at_ then some n else some b
theorem bestN_none {L : List Tm} {now : UInt64} : ∀ {n : Nat}, bestN L now n = none → ∀ j, j < n → now < (at' L j).at_
  | 0, _, j, hj => absurd hj (Nat.not_lt_zero _)
  | n + 1, h, j, hj => by
    simp only [bestN] at h
    cases hb : bestN L now n with
    | none =>
      rw [hb] at h
      simp only at h
      split at h
      · cases h
      · rename_i hc
        by_cases e : j = n
        · subst e; simpa [UInt64.lt_iff_toNat_lt, UInt64.le_iff_toNat_le] using hc
        · exact bestN_none hb j (by omega)
    | some b =>
      rw [hb] at h
      simp only at h
      split at h <;> cases h
theorem bestN_some {L : List Tm} {now : UInt64} : ∀ {n b : Nat}, bestN L now n = some b → b < n ∧ (at' L b).at_.toNat ≤ now.toNat ∧ (∀ j, j < n → (at' L b).at_.toNat ≤ (at' L j).at_.toNat) ∧ ∀ j, j < b → (at' L b).at_.toNat < (at' L j).at_.toNat
  | 0, b, h => by cases h
  | n + 1, b, h => by
    simp only [bestN] at h
    cases hb : bestN L now n with
    | none =>
      rw [hb] at h
      simp only at h
      split at h
      · rename_i hc
        obtain rfl : n = b := by simpa using h
        have h1 := bestN_none hb
        rw [UInt64.le_iff_toNat_le] at hc
        refine ⟨by omega, hc, fun j hj => ?_, fun j hj => ?_⟩
        · by_cases e : j = n
          · subst e; exact Nat.le_refl _
          · have := h1 j (by omega); rw [UInt64.lt_iff_toNat_lt] at this; omega
        · have := h1 j (by omega); rw [UInt64.lt_iff_toNat_lt] at this; omega
      · cases h
    | some c =>
      rw [hb] at h
      obtain ⟨g1, g2, g3, g4⟩ := bestN_some hb
      simp only [UInt64.lt_iff_toNat_lt, UInt64.le_iff_toNat_le] at h
      split at h
      · rename_i hc
        obtain rfl : n = b := by simpa using h
        refine ⟨by omega, hc.1, fun j hj => ?_, fun j hj => ?_⟩
        · by_cases e : j = n
          · subst e; exact Nat.le_refl _
          · have := g3 j (by omega); omega
        · have := g3 j (by omega); omega
      · rename_i hc
        cases h
        refine ⟨by omega, g2, fun j hj => ?_, g4⟩
        by_cases e : j = n
        · subst e; omega
        · exact g3 j (by omega)
/-! ### Both -/
/-- The heap l and the list L hold the same timers. -/
structure TR (l L : List Tm) (last : Int) : Prop where
  perm : l.Perm L
  hp : Hp l
  rising : (L.map (·.id)).Pairwise (· < ·)
  bound : ∀ t ∈ L, 1 ≤ t.id ∧ t.id ≤ last
theorem TR.nil : TR [] [] 0 := ⟨List.Perm.refl _, fun k _ h => absurd h (Nat.not_lt_zero _), List.Pairwise.nil, fun t h => by cases h⟩
theorem TR.idN {l L : List Tm} {last : Int} (h : TR l L last) : IdN L := h.rising.imp (fun h => by omega)
theorem TR.idn {l L : List Tm} {last : Int} (h : TR l L last) : IdN l := h.idN.perm h.perm.symm
theorem TR.add {l L : List Tm} {last : Int} (h : TR l L last) (hl : 0 ≤ last) (t : Tm) (ht : t.id = last + 1) : TR (addF l t) (L ++ [t]) (last + 1) := by
  refine ⟨(addF_perm l t).trans (h.perm.append_right [t]), addF_hp t h.hp, ?_, fun u hu => ?_⟩
  · rw [List.map_append]
    refine List.pairwise_append.2 ⟨h.rising, by simp, fun a ha b hb => ?_⟩
    obtain ⟨u, hu, rfl⟩ := List.mem_map.1 ha
    have := h.bound u hu
    simp at hb; subst hb; omega
  · rcases List.mem_append.1 hu with hu | hu
    · have := h.bound u hu; omega
    · simp at hu; subst hu; omega
theorem erase_perm {L : List Tm} {k : Nat} (h : k < L.length) : (at' L k :: L.eraseIdx k).Perm L := by
  have e : at' L k = L[k] := by simp [at', h]
  rw [e]
  clear e
  induction L generalizing k with
  | nil => simp at h
  | cons a L ih =>
    cases k with
    | zero => simp
    | succ k =>
      have := ih (k := k) (by simpa using h)
      simp only [List.getElem_cons_succ, List.eraseIdx_cons_succ]
      exact (List.Perm.swap _ _ _).trans (this.cons a)
theorem TR.rem {l L : List Tm} {last : Int} (h : TR l L last) {i k : Nat} (hi : i < l.length) (hk : k < L.length) (e : (at' l i).id = (at' L k).id) : at' l i = at' L k ∧ TR (remF l i) (L.eraseIdx k) last := by
  have e1 : at' l i = at' L k := by
    have h1 := h.perm.mem_iff.1 (at'_mem hi)
    obtain ⟨j, hj, hje⟩ := mem_at'.1 h1
    rw [← hje] at e ⊢
    rw [h.idN.inj hj hk e]
  refine ⟨e1, ?_, remF_hp hi h.hp, ?_, fun t ht => h.bound t (List.mem_of_mem_eraseIdx ht)⟩
  · have := (remF_perm hi).trans (h.perm.trans (erase_perm hk).symm)
    rw [e1] at this
    exact this.cons_inv
  · exact h.rising.sublist ((List.eraseIdx_sublist L k).map _)
/-- Nothing is due. -/
theorem TR.idle {l L : List Tm} {last : Int} (h : TR l L last) {now : UInt64} (h0 : 0 < l.length → now < (at' l 0).at_) : bestN L now L.length = none := by
  cases hb : bestN L now L.length with
  | none => rfl
  | some b =>
    obtain ⟨g1, g2, _, _⟩ := bestN_some hb
    have hm := h.perm.mem_iff.2 (at'_mem g1)
    obtain ⟨j, hj, hje⟩ := mem_at'.1 hm
    have h1 := h0 (by omega)
    have h2 := h.hp.min j hj
    rw [UInt64.lt_iff_toNat_lt] at h1
    have : ¬ (at' l j).ahead (at' l 0) = true := by simp [h2]
    rw [ahead_iff, hje] at this
    omega
/-- What is due first stands at the top. -/
theorem TR.due {l L : List Tm} {last : Int} (h : TR l L last) {now : UInt64} (h0 : 0 < l.length) (h1 : ¬ now < (at' l 0).at_) : ∃ b, bestN L now L.length = some b ∧ b < L.length ∧ at' l 0 = at' L b ∧ TR (remF l 0) (L.eraseIdx b) last := by
  obtain ⟨j, hj, hje⟩ := mem_at'.1 (h.perm.mem_iff.1 (at'_mem h0))
  cases hb : bestN L now L.length with
  | none =>
    have := bestN_none hb j hj
    rw [hje] at this
    exact absurd this h1
  | some b =>
    obtain ⟨g1, g2, g3, g4⟩ := bestN_some hb
    obtain ⟨i, hi, hie⟩ := mem_at'.1 (h.perm.mem_iff.2 (at'_mem g1))
    have h2 := h.hp.min i hi
    have h3 : ¬ (at' l i).ahead (at' l 0) = true := by simp [h2]
    rw [ahead_iff, hie, ← hje] at h3
    have h4 := g3 j hj
    have hjb : j = b := by
      rcases Nat.lt_trichotomy j b with hlt | he | hgt
      · have := g4 j hlt; omega
      · exact he
      · have := List.pairwise_iff_getElem.1 h.rising b j (by simpa using g1) (by simpa using hj) hgt
        simp only [List.getElem_map] at this
        have e1 : at' L b = L[b] := by simp [at', g1]
        have e2 : at' L j = L[j] := by simp [at', hj]
        rw [e1, e2] at h3
        rw [e1, e2] at h4
        omega
    subst hjb
    have hr := h.rem h0 g1 (by rw [hje])
    exact ⟨j, rfl, g1, hr.1, hr.2⟩
end Go.Proofs.YtapoehkdnglahaaGreat

/- What the functions of package timers return, by a walk: the heap. -/
namespace Go.Proofs.YtapoehkdnglahaaGreat
open Go.RowKit
set_option linter.unusedVariables false
set_option linter.unusedSectionVars false
set_option linter.unusedSimpArgs false
attribute [local irreducible] WS LS OpQ OpT OpH OpTQ Spec SpecQ cel
variable (w0 : World)
/-- A timer's cells. -/
def tmC (t : Tm) : List Value := [u64 t.at_, .int .i64 t.id, .int .i64 t.what]
instance : FixLen tmC 3 := ⟨fun _ => rfl⟩
theorem tmC_one : ∀ z, ∀ c ∈ tmC z, c.oneCell' = true := by intro z c hc; simp [tmC] at hc; rcases hc with rfl | rfl | rfl <;> rfl
/-- A heap at block b: its slice v, its map at block r. -/
abbrev heapP (b : Nat) (v : Value) (r : Nat) (last : Int) (l : List Tm) (m : List (Int × Int)) : HProp :=
  cel b 275 [v, .map (some r), .int .i64 last] * (rows 277 3 tmC v l * mp i64 i64 r m)
theorem ahead_spec (t u : Tm) : Spec Tryz.prog w0 214 [.agg (tmC t).toArray, .agg (tmC u).toArray] emp (fun _ : Unit => .bool (t.ahead u)) (fun _ => emp) := by
  refine Spec.enter Tryz.func214 rfl Tryz.ntmps214 rfl fun G => ?_
  simp only [argE, tmC]
  repeat' (first | (refine WS_seqK ?_; intro K hK) | (refine hK _ ?_; clear hK K) | refine WS_region ?_ | refine LS_nil ?_ | (show LS _ _ _ _ _ (⟨_, _, _, _, _, some _⟩ :: _) _; first | refine LS_wantT rfl rfl iI rfl ?_ | refine LS_wantF rfl rfl iI rfl ?_ | refine LS_wantU rfl rfl rfl ?_ | ((first | refine LS_wantS rfl rfl rfl ?_ ?_ | refine LS_wantN rfl ?_ ?_) <;> intro hc <;> (try simp only [decide_eq_true_eq, decide_eq_false_iff_not, Bool.not_eq_eq_eq_not, Bool.not_true, Bool.not_false, Bool.and_eq_true, Bool.or_eq_true, bne_iff_ne, beq_iff_eq, ne_eq, Decidable.not_not] at hc) <;> (try (exfalso; first | contradiction | omega; done)))) | ((refine' LQ ?zh rfl ?_); case zh => intro F'; first | exact Q_move rfl | exact Q_assign rfl | exact Q_fieldAddr rfl iI rfl | exact Q_load rfl iI iI rfl | exact Q_pick_t rfl iI rfl | exact Q_pick_f rfl iI rfl) | ((first | refine LS_binS rfl rfl iI rfl ?_ ?_ | refine LS_binN rfl rfl iI rfl ?_ ?_) <;> intro hc) | ((refine' LS_h ?zh rfl ?_); (case zh => exact H_box rfl); intro g) | (first | refine WS_block ?_ | refine WS_skip ?_ | refine WS_ret ?_ | refine WS_exit ?_ | refine WS_label ?_))
  all_goals exact ret_tmp (.inl rfl) rfl rfl ⟨(), by simp [Tm.ahead, *], by ((try simp only [star_assoc, emp_star, star_emp]); (repeat' (first | exact Ent.last | refine Ent.take ?_ | refine Ent.nilT ?_ | refine Ent.takeR (by first | rfl | assumption | (simp; done)) ?_ | exact Ent.refl _)))⟩
set_option maxRecDepth 100000 in
theorem swap_spec (b : Nat) (v : Value) (r : Nat) (last : Int) (l : List Tm) (m : List (Int × Int)) (i j : Nat) (x y : Int) (hx : x = (i : Int)) (hy : y = (j : Int)) (hi : i < l.length) (hj : j < l.length) :
    Spec Tryz.prog w0 215 [ptr b 0, .int .i64 x, .int .i64 y] (heapP b v r last l m) (fun _ : Unit => .tuple #[]) (fun _ => heapP b v r last (swp l i j) (mset (mset m (at' (swp l i j) i).id (i : Int)) (at' (swp l i j) j).id (j : Int))) := by
  subst hx hy
  refine Spec.enter Tryz.func215 rfl Tryz.ntmps215 rfl fun G => ?_
  simp only [argE]
  refine WS_some v inferInstance inferInstance rfl (by omega) fun g' off cap hv => ?_
  subst hv
  have hli := at'_get hi
  have hlj := at'_get hj
  have hs1 : ((l.set i (at' l j)).set j (at' l i))[i]? = some (at' (swp l i j) i) := at'_get (by simpa using hi)
  have hs2 : ((l.set i (at' l j)).set j (at' l i))[j]? = some (at' (swp l i j) j) := at'_get (by simpa using hj)
  repeat' (first | (show WS _ _ _ (.region 0 _ true) _ _; refine WS_drawK [0, 1, 2, 3, 4, 5, 6, 7, 8, 9, 10, 11, 12, 13, 14, 15, 16, 17, 18, 19, 20, 21, 22, 23, 24, 25, 26, 27] 25 [3, 8, 13, 15, 16, 20, 22, 23, 24] (by decide +kernel) rfl ?_) | (show WS _ _ _ (.region 1 _ true) _ _; refine WS_drawK [0, 1, 2, 3, 4, 5, 6, 7, 8, 9, 10, 11, 12, 13] 13 [3, 7, 9, 10, 11] (by decide +kernel) rfl ?_) | (show WS _ _ _ (.region 2 _ true) _ _; refine WS_drawK [0, 1, 2, 3, 4, 5, 6, 7, 8, 9, 10, 11, 12, 13] 13 [3, 7, 9, 10, 11] (by decide +kernel) rfl ?_) | (refine WS_seqK ?_; intro K hK) | (refine hK _ ?_; clear hK K) | (first | refine DL_nilA ?_ | refine DL_nilS ?_ | refine DL_nilN ?_ | refine DL_nilE ?_ | refine DL_nilR ?_) | (first | refine DL_claimS rfl ?_ | refine DL_claim rfl rfl ?_) | ((first | refine' DL_qp rfl rfl rfl ?zh ?_ | refine' DL_q rfl rfl ?zh ?_); case zh => intro F'; first | exact Q_move rfl | exact Q_nilCheck rfl | exact Q_fieldAddr rfl iI rfl | exact Q_load rfl iI iI rfl | exact Q_index rfl rfl iI iI iI iI (by first | assumption | omega | (simp [be_length] <;> omega)) | exact Q_fieldR rfl iI iI rfl (by first | assumption | omega | (simp [be_length] <;> omega)) | exact Q_loadR rfl iI iI iI (by assumption) rfl | exact Q_loadRA rfl iI iI iI (by assumption) | exact Q_indexV rfl rfl iI iI iI (by first | assumption | omega)) | ((refine' DL_h0 ?zh rfl rfl ?_); (case zh => first | exact H_mapUpdate rfl rfl rfl iI iI iI iI iI | exact H_storeRA _ rfl rfl rfl iI iI iI rfl rfl (by first | assumption | omega | (simp [be_length] <;> omega))); intro g))
  exact ret_none (.inr rfl) rfl ⟨(), rfl, by ((try simp only [star_assoc, emp_star, star_emp]); (repeat' (first | exact Ent.last | refine Ent.take ?_ | refine Ent.nilT ?_ | refine Ent.takeR (by first | rfl | assumption | (simp; done)) ?_ | exact Ent.refl _)))⟩
theorem upF_fuel : ∀ (f : Nat) (l : List Tm) (i : Nat), i ≤ f → upF f l i = upF i l i
  | 0, l, i, h => by have : i = 0 := by omega
                     subst this; rfl
  | f + 1, l, 0, _ => by simp [upF]
  | f + 1, l, i + 1, h => by
    simp only [upF]
    split
    · rw [upF_fuel f _ _ (by omega), upF_fuel i _ _ (by omega)]
    · rfl
set_option maxRecDepth 100000 in
theorem up_spec (b : Nat) (v : Value) (r : Nat) (last : Int) (l : List Tm) (m : List (Int × Int)) (i : Nat) (x : Int) (hx : x = (i : Int)) (hi : i < l.length) (hl : l.length ≤ 1000000) (hm : PlOk l m) (hn : IdN l) :
    Spec Tryz.prog w0 162 [ptr b 0, .int .i64 x] (heapP b v r last l m) (fun _ : List (Int × Int) => .tuple #[]) (fun m' => pure' (PlOk (upF i l i) m') * heapP b v r last (upF i l i) m') := by
  subst hx
  refine Spec.enter Tryz.func162 rfl Tryz.ntmps162 rfl fun G => ?_
  simp only [argE]
  repeat' (first | (first | refine WS_block ?_ | refine WS_skip ?_ | refine WS_ret ?_ | refine WS_exit ?_ | refine WS_label ?_))
  refine WS_loop (fun k τ => ∃ (l' : List Tm) (m' : List (Int × Int)), k < l'.length ∧ l'.length = l.length ∧ PlOk l' m' ∧ IdN l' ∧ upF k l' k = upF i l i ∧ τ = ⟨[(1, .int .i64 (k : Int)), (0, ptr b 0)], [], heapP b v r last l' m' * G⟩) ?_ ?_
  · exact ⟨i, _, ⟨l, m, hi, rfl, hm, hn, rfl, rfl⟩, ⟨rfl, rfl, trivial⟩, rfl, Ent.refl _⟩
  · rintro k τ ⟨l', m', hk, hll, hm', hn', hu, rfl⟩
    have hlk := at'_get hk
    have hlo := at'_get (show (k - 1) / 2 < l'.length by omega)
    rcases Nat.eq_zero_or_pos k with h0 | h0
    · subst h0
      repeat' (first | (refine WS_seqK ?_; intro K hK) | (refine hK _ ?_; clear hK K) | (with_reducible (first | refine thenS_n ?_ | refine thenS_e ?_ | refine blockS_n ?_ | refine blockS_e ?_ | refine blockS_o rfl ?_ | refine thenS_r ?_ | refine blockS_r ?_ | refine use_K (by assumption) ?_)) | refine WS_region ?_ | refine LS_nil ?_ | ((refine' LQ ?zh rfl ?_); case zh => intro F'; first | exact Q_move rfl | exact Q_bin_f rfl rfl iI (by first | assumption | omega | decide)) | (first | refine WS_block ?_ | refine WS_skip ?_ | refine WS_ret ?_ | refine WS_exit ?_ | refine WS_label ?_) | (show WS _ _ _ (.cond _ _ _) _ _; first | refine WS_condT rfl iI ?_ | refine WS_condF rfl iI ?_ | refine WS_condH_t rfl (by assumption) ?_ | refine WS_condH_f rfl (by assumption) ?_ | (refine WS_cond rfl ?_ ?_ <;> intro hc <;> (try simp only [decide_eq_true_eq, decide_eq_false_iff_not, Bool.not_eq_eq_eq_not, Bool.not_true, Bool.not_false, Bool.and_eq_true, Bool.or_eq_true, bne_iff_ne, beq_iff_eq, ne_eq, Decidable.not_not] at hc) <;> (try (exfalso; first | contradiction | omega; done)))))
      refine ret_none (.inr rfl) rfl ⟨m', rfl, ?_⟩
      rw [← hu]
      exact (Ent.pure_in hm').trans (by ((try simp only [star_assoc, emp_star, star_emp]); (repeat' (first | exact Ent.last | refine Ent.take ?_ | refine Ent.nilT ?_ | refine Ent.takeR (by first | rfl | assumption | (simp; done)) ?_ | exact Ent.refl _))))
    · have e1 : ((k : Int) - 1) / 2 = (((k - 1) / 2 : Nat) : Int) := by omega
      repeat' (first | (show WS _ _ _ (.region 2 _ true) _ _; refine WS_drawA [0, 1, 2, 3, 4, 5, 6, 7, 8, 9, 10, 11, 12, 13, 14, 15] (by decide +kernel) rfl ?_) | (refine WS_seqK ?_; intro K hK) | (refine hK _ ?_; clear hK K) | (with_reducible (first | refine thenS_n ?_ | refine thenS_e ?_ | refine blockS_n ?_ | refine blockS_e ?_ | refine blockS_o rfl ?_ | refine thenS_r ?_ | refine blockS_r ?_ | refine use_K (by assumption) ?_)) | refine WS_region ?_ | refine LS_nil ?_ | (first | refine DL_nilA ?_ | refine DL_nilS ?_ | refine DL_nilN ?_ | refine DL_nilE ?_ | refine DL_nilR ?_) | ((first | refine' LQ ?zh rfl ?_ | refine' DL_q rfl rfl ?zh ?_); case zh => intro F'; first | exact Q_move rfl | exact Q_assign rfl | exact Q_nilCheck rfl | exact Q_fieldAddr rfl iI rfl | exact Q_load rfl iI iI rfl | exact Q_bin_t rfl rfl iI (by first | assumption | omega | decide) | exact Q_subI rfl rfl (by omega) | exact Q_un rfl iI | exact Q_index rfl rfl iI iI iI iI (by first | assumption | omega | (simp [be_length] <;> omega)) | exact Q_loadRA rfl iI iI iI (by assumption) | exact Q_quoI rfl rfl (by omega)) | (first | refine WS_block ?_ | refine WS_skip ?_ | refine WS_ret ?_ | refine WS_exit ?_ | refine WS_label ?_) | (show WS _ _ _ (.cond _ _ _) _ _; first | refine WS_condT rfl iI ?_ | refine WS_condF rfl iI ?_ | refine WS_condH_t rfl (by assumption) ?_ | refine WS_condH_f rfl (by assumption) ?_ | (refine WS_cond rfl ?_ ?_ <;> intro hc <;> (try simp only [decide_eq_true_eq, decide_eq_false_iff_not, Bool.not_eq_eq_eq_not, Bool.not_true, Bool.not_false, Bool.and_eq_true, Bool.or_eq_true, bne_iff_ne, beq_iff_eq, ne_eq, Decidable.not_not] at hc) <;> (try (exfalso; first | contradiction | omega; done)))) | rw [e1] | (refine DL_h (H_callX iI rfl (ahead_spec w0 (at' l' k) (at' l' ((k - 1) / 2))) iI) rfl rfl rfl ?_; intro g) | (refine LS_h (H_callX iI rfl (swap_spec w0 b v r last l' m' k ((k - 1) / 2) _ _ rfl rfl hk (by omega)) iI) rfl ?_; intro g))
      · refine ret_none (.inl rfl) rfl ⟨m', rfl, ?_⟩
        have e : upF k l' k = l' := by
          obtain ⟨j, rfl⟩ : ∃ j, k = j + 1 := ⟨k - 1, by omega⟩
          rw [upF, if_neg (by simp_all)]
        rw [← hu, e]
        exact (Ent.pure_in hm').trans (by ((try simp only [star_assoc, emp_star, star_emp]); (repeat' (first | exact Ent.last | refine Ent.take ?_ | refine Ent.nilT ?_ | refine Ent.takeR (by first | rfl | assumption | (simp; done)) ?_ | exact Ent.refl _))))
      · refine ⟨(k - 1) / 2, _, by omega, ⟨swp l' k ((k - 1) / 2), _, by rw [swp_length]; omega, by rw [swp_length]; exact hll, hm'.swap hn' hk (by omega), hn'.perm (swp_perm hk (by omega)).symm, ?_, rfl⟩, ⟨rfl, rfl, trivial⟩, rfl, by ((try simp only [star_assoc, emp_star, star_emp]); (repeat' (first | exact Ent.last | refine Ent.take ?_ | refine Ent.nilT ?_ | refine Ent.takeR (by first | rfl | assumption | (simp; done)) ?_ | exact Ent.refl _)))⟩
        rw [← hu]
        obtain ⟨j, rfl⟩ : ∃ j, k = j + 1 := ⟨k - 1, by omega⟩
        rw [upF, if_pos ⟨by omega, by simpa using hc⟩, upF_fuel j _ _ (by omega)]
end Go.Proofs.YtapoehkdnglahaaGreat

/- What the functions of package timers return, by a walk: the way down, and what the package hands out. -/
namespace Go.Proofs.YtapoehkdnglahaaGreat
open Go.RowKit
set_option linter.unusedVariables false
set_option linter.unusedSectionVars false
set_option linter.unusedSimpArgs false
attribute [local irreducible] WS LS OpQ OpT OpH OpTQ Spec SpecQ cel
variable (w0 : World)
set_option maxRecDepth 100000 in
set_option maxHeartbeats 4000000 in
theorem down_spec (b : Nat) (v : Value) (r : Nat) (last : Int) (l : List Tm) (m : List (Int × Int)) (i N : Nat) (x : Int) (hx : x = (i : Int)) (hi : i < l.length) (hN : l.length ≤ N) (hl : l.length ≤ 1000000) (hm : PlOk l m) (hn : IdN l) :
    Spec Tryz.prog w0 216 [ptr b 0, .int .i64 x] (heapP b v r last l m) (fun _ : List (Int × Int) => .tuple #[]) (fun m' => pure' (PlOk (downF N l i) m') * heapP b v r last (downF N l i) m') := by
  subst hx
  refine Spec.enter Tryz.func216 rfl Tryz.ntmps216 rfl fun G => ?_
  simp only [argE]
  repeat' (first | (first | refine WS_block ?_ | refine WS_skip ?_ | refine WS_ret ?_ | refine WS_exit ?_ | refine WS_label ?_))
  refine WS_loop (fun f τ => ∃ (k : Nat) (y : Int) (l' : List Tm) (m' : List (Int × Int)), y = (k : Int) ∧ k < l'.length ∧ l'.length = l.length ∧ l.length ≤ f + k ∧ PlOk l' m' ∧ IdN l' ∧ downF f l' k = downF N l i ∧ τ = ⟨[(1, .int .i64 y), (0, ptr b 0)], [], heapP b v r last l' m' * G⟩) ?_ ?_
  · exact ⟨N, _, ⟨i, _, l, m, rfl, hi, rfl, by omega, hm, hn, rfl, rfl⟩, ⟨rfl, rfl, trivial⟩, rfl, Ent.refl _⟩
  · rintro f τ ⟨k, y, l', m', rfl, hk, hll, hf, hm', hn', hu, rfl⟩
    obtain ⟨f, rfl⟩ : ∃ j, f = j + 1 := ⟨f - 1, by omega⟩
    have stop : firstF l' k = k → Ent (heapP b v r last l' m' * G) (pure' (PlOk (downF N l i) m') * heapP b v r last (downF N l i) m' * G) := fun e => by
      rw [← hu, downF, if_pos e]
      exact (Ent.pure_in hm').trans (by ((try simp only [star_assoc, emp_star, star_emp]); (repeat' (first | exact Ent.last | refine Ent.take ?_ | refine Ent.nilT ?_ | refine Ent.takeR (by first | rfl | assumption | (simp; done)) ?_ | exact Ent.refl _))))
    have next : ∀ k', firstF l' k = k' → k' ≠ k → k' < l'.length → k < k' → ∃ m1, m1 < f + 1 ∧ ∃ (k2 : Nat) (l2 : List Tm) (m2 : List (Int × Int)), k2 = k' ∧ l2 = swp l' k k' ∧ m2 = (mset (mset m' (at' (swp l' k k') k).id (k : Int)) (at' (swp l' k k') k').id (k' : Int)) ∧ k2 < l2.length ∧ l2.length = l.length ∧ l.length ≤ m1 + k2 ∧ PlOk l2 m2 ∧ IdN l2 ∧ downF m1 l2 k2 = downF N l i := fun k' e h1 h2 h3 => by
      refine ⟨f, by omega, k', _, _, rfl, rfl, rfl, by rw [swp_length]; omega, by rw [swp_length]; exact hll, by omega, hm'.swap hn' hk h2, hn'.perm (swp_perm hk h2).symm, ?_⟩
      rw [← hu, downF, if_neg (by rw [e]; exact h1), e]
    repeat' (first | (refine WS_seqK ?_; intro K hK) | (refine hK _ ?_; clear hK K) | refine WS_region ?_ | refine LS_nil ?_ | ((refine' LQ ?zh rfl ?_); case zh => intro F'; first | exact Q_move rfl | exact Q_assign rfl | exact Q_addI rfl rfl (by omega) | exact Q_mulI rfl rfl (by omega)) | (first | refine WS_block ?_ | refine WS_skip ?_ | refine WS_ret ?_ | refine WS_exit ?_ | refine WS_label ?_))
    refine WS_unroll 3 ?_
    repeat' (first | (show WS _ _ _ (.region 4 _ true) _ _; refine WS_drawA [0, 1, 2, 3, 4, 5, 6, 7, 8, 9, 10, 11, 12, 13, 14] (by decide +kernel) rfl ?_) | (refine WS_seqK ?_; intro K hK) | (refine hK _ ?_; clear hK K) | (with_reducible (first | refine thenS_n ?_ | refine thenS_e ?_ | refine blockS_n ?_ | refine blockS_e ?_ | refine blockS_o rfl ?_ | refine thenS_r ?_ | refine blockS_r ?_ | refine use_K (by assumption) ?_)) | refine WS_region ?_ | refine LS_nil ?_ | (show LS _ _ _ _ _ (⟨_, _, _, _, _, some _⟩ :: _) _; first | refine LS_wantT rfl rfl iI rfl ?_ | refine LS_wantF rfl rfl iI rfl ?_ | refine LS_wantU rfl rfl rfl ?_ | ((first | refine LS_wantS rfl rfl rfl ?_ ?_ | refine LS_wantN rfl ?_ ?_) <;> intro hc <;> (try simp only [decide_eq_true_eq, decide_eq_false_iff_not, Bool.not_eq_eq_eq_not, Bool.not_true, Bool.not_false, Bool.and_eq_true, Bool.or_eq_true, bne_iff_ne, beq_iff_eq, ne_eq, Decidable.not_not] at hc) <;> (try (exfalso; first | contradiction | omega; done)))) | (first | refine DL_nilA ?_ | refine DL_nilS ?_ | refine DL_nilN ?_ | refine DL_nilE ?_ | refine DL_nilR ?_) | ((first | refine' LQ ?zh rfl ?_ | refine' DL_q rfl rfl ?zh ?_); case zh => intro F'; first | exact Q_move rfl | exact Q_assign rfl | exact Q_nilCheck rfl | exact Q_fieldAddr rfl iI rfl | exact Q_load rfl iI iI rfl | exact Q_bin_t rfl rfl iI (by first | assumption | omega | decide) | exact Q_bin_f rfl rfl iI (by first | assumption | omega | decide) | exact Q_addI rfl rfl (by omega) | exact Q_pick_t rfl iI rfl | exact Q_pick_f rfl iI rfl | exact Q_index rfl rfl iI iI iI iI (by first | assumption | omega | (simp [be_length] <;> omega)) | exact Q_lenR rfl iI iI | exact Q_mulI rfl rfl (by omega)) | ((first | refine LS_binS rfl rfl iI rfl ?_ ?_ | refine LS_binN rfl rfl iI rfl ?_ ?_ | refine DL_binS rfl rfl iI rfl ?_ ?_) <;> intro hc) | (first | refine WS_block ?_ | refine WS_skip ?_ | refine WS_ret ?_ | refine WS_exit ?_ | refine WS_label ?_) | (show WS _ _ _ (.cond _ _ _) _ _; first | refine WS_condT rfl iI ?_ | refine WS_condF rfl iI ?_ | refine WS_condH_t rfl (by assumption) ?_ | refine WS_condH_f rfl (by assumption) ?_ | (refine WS_cond rfl ?_ ?_ <;> intro hc <;> (try simp only [decide_eq_true_eq, decide_eq_false_iff_not, Bool.not_eq_eq_eq_not, Bool.not_true, Bool.not_false, Bool.and_eq_true, Bool.or_eq_true, bne_iff_ne, beq_iff_eq, ne_eq, Decidable.not_not] at hc) <;> (try (exfalso; first | contradiction | omega; done)))) | (refine DL_q rfl rfl (fun F' => Q_loadRA rfl iI iI iI (at'_get (by omega))) ?_) | (refine DL_h (H_callX iI rfl (ahead_spec w0 _ _) iI) rfl rfl rfl ?_; intro g) | (refine LS_h (H_callX iI rfl (swap_spec w0 b v r last l' m' k (2 * k + 1) _ _ rfl (by omega) hk (by omega)) iI) rfl ?_; intro g) | (refine LS_h (H_callX iI rfl (swap_spec w0 b v r last l' m' k (2 * k + 2) _ _ rfl (by omega) hk (by omega)) iI) rfl ?_; intro g))
    all_goals first
      | exact ret_none (.inl rfl) rfl ⟨m', rfl, Ent.trans (by ((try simp only [star_assoc, emp_star, star_emp]); (repeat' (first | exact Ent.last | refine Ent.take ?_ | refine Ent.nilT ?_ | refine Ent.takeR (by first | rfl | assumption | (simp; done)) ?_ | exact Ent.refl _)))) (stop (by clear next stop hu hm' hn' hm hn; (simp only [firstF]; repeat' split) <;> (first | omega | (simp_all; done) | (simp_all; omega))))⟩
      | (obtain ⟨m1, h1, k2, l2, m2, rfl, rfl, rfl, h2, h3, h4, h5, h6, h7⟩ := next (2 * k + 1) (by clear next stop hu hm' hn' hm hn; (simp only [firstF]; repeat' split) <;> (first | omega | (simp_all; done) | (simp_all; omega))) (by omega) (by omega) (by omega)
         exact ⟨m1, _, h1, ⟨_, _, _, _, by omega, h2, h3, h4, h5, h6, h7, rfl⟩, ⟨rfl, rfl, trivial⟩, rfl, by ((try simp only [star_assoc, emp_star, star_emp]); (repeat' (first | exact Ent.last | refine Ent.take ?_ | refine Ent.nilT ?_ | refine Ent.takeR (by first | rfl | assumption | (simp; done)) ?_ | exact Ent.refl _)))⟩)
      | (obtain ⟨m1, h1, k2, l2, m2, rfl, rfl, rfl, h2, h3, h4, h5, h6, h7⟩ := next (2 * k + 2) (by clear next stop hu hm' hn' hm hn; (simp only [firstF]; repeat' split) <;> (first | omega | (simp_all; done) | (simp_all; omega))) (by omega) (by omega) (by omega)
         exact ⟨m1, _, h1, ⟨_, _, _, _, by omega, h2, h3, h4, h5, h6, h7, rfl⟩, ⟨rfl, rfl, trivial⟩, rfl, by ((try simp only [star_assoc, emp_star, star_emp]); (repeat' (first | exact Ent.last | refine Ent.take ?_ | refine Ent.nilT ?_ | refine Ent.takeR (by first | rfl | assumption | (simp; done)) ?_ | exact Ent.refl _)))⟩)
end Go.Proofs.YtapoehkdnglahaaGreat

/- What package timers hands out, by a walk. -/
namespace Go.Proofs.YtapoehkdnglahaaGreat
open Go.RowKit
set_option linter.unusedVariables false
set_option linter.unusedSectionVars false
set_option linter.unusedSimpArgs false
attribute [local irreducible] WS LS OpQ OpT OpH OpTQ Spec SpecQ cel
variable (w0 : World)
/-- A heap that holds l. -/
def heapQ (b r : Nat) (last : Int) (l : List Tm) : HProp := hex fun v => hex fun m => pure' (PlOk l m) * heapP b v r last l m
theorem Ent.heapQ {b r : Nat} {last : Int} {l : List Tm} {v : Value} {m : List (Int × Int)} {H F : HProp} (hm : PlOk l m) (h : Ent H (heapP b v r last l m * F)) : Ent H (heapQ b r last l * F) :=
  h.trans ((Ent.pure_in hm).trans ((Ent.of_eq (star_assoc _ _ _).symm).trans ((Ent.hex_in (p := fun m => pure' (PlOk l m) * heapP b v r last l m) m).trans (Ent.hex_in (p := fun v => hex fun m => pure' (PlOk l m) * heapP b v r last l m) v))))
theorem WS_heapQ {P : Program} {n : Frm} {w0 : World} {c : Code} {Q : Exit → St → Prop} {E : Env} {D : List Deferred} {F : HProp} {b r : Nat} {last : Int} {l : List Tm} (h : ∀ v m, PlOk l m → WS P n w0 c Q ⟨E, D, heapP b v r last l m * F⟩) : WS P n w0 c Q ⟨E, D, heapQ b r last l * F⟩ := by
  refine WS_hex fun v => WS_hex fun m => ?_
  exact WS_pureI inferInstance (h v m)
theorem IdN.cut {l : List Tm} {i : Nat} (hn : IdN l) (hi : i < l.length) : IdN (cutF l i) :=
  (hn.perm (swp_perm hi (show l.length - 1 < l.length by omega)).symm).sublist ((List.take_sublist _ _).map _)
set_option maxRecDepth 100000 in
theorem hadd_spec (b r : Nat) (last : Int) (l : List Tm) (t : UInt64) (x : Int) (hx : ∀ u ∈ l, u.id ≠ last + 1) (hn : IdN l) (hl : l.length ≤ 900000) (h0 : 0 ≤ last ∧ last ≤ 1000000000000000) :
    Spec Tryz.prog w0 101 [ptr b 0, u64 t, .int .i64 x] (heapQ b r last l) (fun _ : Unit => .int .i64 (last + 1)) (fun _ => heapQ b r (last + 1) (addF l (Tm.mk t (last + 1) x))) := by
  refine Spec.enter Tryz.func101 rfl Tryz.ntmps101 rfl fun G => ?_
  simp only [argE]
  refine WS_heapQ fun v m hm => ?_
  have hn' : IdN (l ++ [(Tm.mk t (last + 1) x)]) := by
    unfold IdN at hn ⊢
    rw [List.map_append, List.nodup_append]
    refine ⟨hn, by simp, ?_⟩
    intro a ha c hc
    obtain ⟨u, hu, rfl⟩ := List.mem_map.1 ha
    simp at hc; subst hc; exact hx u hu
  have e : ((l ++ [(Tm.mk t (last + 1) x)]).length : Int) - 1 = (l.length : Int) := by simp
  repeat' (first | (show WS _ _ _ (.region 2 _ true) _ _; first | refine WS_drawK [0, 1, 2, 3, 4, 5, 6, 7, 8, 9, 10, 11, 12, 13, 14, 15, 16] 13 [4, 9] (by decide +kernel) rfl ?_ | refine WS_drawM 0 [0, 1, 2, 3, 4, 5, 6, 7, 8, 9, 10, 11, 12, 13, 14, 15, 16] 16 [4, 9] (by decide +kernel) rfl rfl iI ?_) | (show WS _ _ _ (.region 3 _ true) _ _; refine WS_drawK [0, 1, 2, 3, 4, 5, 6, 7, 8, 9, 10, 11, 12, 13, 14] 14 [3, 7, 11, 12] (by decide +kernel) rfl ?_) | (refine WS_seqK ?_; intro K hK) | (refine hK _ ?_; clear hK K) | refine WS_region ?_ | refine LS_nil ?_ | (first | refine DL_nilA ?_ | refine DL_nilS ?_ | refine DL_nilN ?_ | refine DL_nilE ?_ | refine DL_nilR ?_) | (first | refine DL_claimS rfl ?_ | refine DL_claim rfl rfl ?_) | ((first | refine' LQ ?zh rfl ?_ | refine' DL_qp rfl rfl rfl ?zh ?_ | refine' DL_q rfl rfl ?zh ?_); case zh => intro F'; first | exact Q_move rfl | exact Q_assign rfl | exact Q_nilCheck rfl | exact Q_fieldAddr rfl iI rfl | exact Q_load rfl iI iI rfl | exact Q_addI rfl rfl (by omega) | exact Q_subI rfl rfl (by omega) | exact Q_build iI iI rfl rfl | exact Q_lenR rfl iI iI) | ((first | refine' LS_h0 ?zh ?_ | refine' DL_h0 ?zh rfl rfl ?_); (case zh => first | exact H_storeO rfl rfl iI iI iI rfl | exact H_mapUpdate rfl rfl rfl iI iI iI iI iI); intro g) | (first | refine WS_block ?_ | refine WS_skip ?_ | refine WS_ret ?_ | refine WS_exit ?_ | refine WS_label ?_) | (refine DL_h (H_buildSliceR tmC [(Tm.mk t (last + 1) x)] iI iI iI rfl rfl rfl rfl rfl iI rfl rfl rfl) rfl rfl rfl ?_; intro g) | (refine DL_h (H_appendR rfl rfl iI iI rfl iI iI tmC_one (by first | omega | (simp [be_length] <;> omega)) rfl) rfl rfl rfl ?_; intro v2) | rw [e] | (refine LS_hP (H_callX iI rfl (up_spec w0 b v2 r (last + 1) (l ++ [(Tm.mk t (last + 1) x)]) _ l.length _ rfl (by simp) (by simp; omega) (hm.snoc (Tm.mk t (last + 1) x) hx) hn') iI) rfl ?_; intro m2 hm2))
  exact ret_tmp (.inl rfl) rfl rfl ⟨(), rfl, Ent.heapQ (v := v2) hm2 (by ((try simp only [star_assoc, emp_star, star_emp]); (repeat' (first | exact Ent.last | refine Ent.take ?_ | refine Ent.nilT ?_ | refine Ent.takeR (by first | rfl | assumption | (simp; done)) ?_ | exact Ent.refl _))))⟩
theorem cutF_last {l : List Tm} {i : Nat} (hi : i < l.length) : at' (swp l i (l.length - 1)) (l.length - 1) = at' l i := by
  rw [at'_swp hi (by omega)]; simp
set_option maxRecDepth 100000 in
set_option maxHeartbeats 1000000 in
theorem remove_spec (b r : Nat) (last : Int) (l : List Tm) (i : Nat) (x : Int) (hx : x = (i : Int)) (hi : i < l.length) (hn : IdN l) (hl : l.length ≤ 900000) :
    Spec Tryz.prog w0 163 [ptr b 0, .int .i64 x] (heapQ b r last l) (fun _ : Unit => .agg (tmC (at' l i)).toArray) (fun _ => heapQ b r last (remF l i)) := by
  subst hx
  refine Spec.enter Tryz.func163 rfl Tryz.ntmps163 rfl fun G => ?_
  simp only [argE]
  refine WS_heapQ fun v m hm => ?_
  have e : (l.length : Int) - 1 = ((l.length - 1 : Nat) : Int) := by omega
  have hle : l.length - 1 < l.length := by omega
  have hz : (swp l i (l.length - 1))[l.length - 1]? = some (at' l i) := by rw [← cutF_last hi]; exact at'_get (by rw [swp_length]; omega)
  have hle2 : l.length - 1 < (swp l i (l.length - 1)).length := by rw [swp_length]; omega
  have hm1 := hm.swap hn hi hle
  have hn1 := hn.perm (swp_perm hi hle).symm
  have hm2 : PlOk ((swp l i (l.length - 1)).take (l.length - 1)) (mdel (mset (mset m (at' (swp l i (l.length - 1)) i).id (i : Int)) (at' (swp l i (l.length - 1)) (l.length - 1)).id ((l.length - 1 : Nat) : Int)) (at' l i).id) := by
    have h := hm1.pop hn1 (by rw [swp_length]; omega)
    rw [swp_length] at h
    rw [← cutF_last hi]; exact h
  generalize hL : (swp l i (l.length - 1)).take (l.length - 1) = L at hm2
  have hL' : cutF l i = L := hL
  have hn2 : IdN L := hL' ▸ hn.cut hi
  have hLl : L.length = l.length - 1 := by rw [← hL', cutF_length]
  repeat' (first | (show WS _ _ _ (.region 5 _ true) _ _; refine WS_drawK [0, 1, 2, 3, 4, 5, 6] 6 [3, 5] (by decide +kernel) rfl ?_) | (refine WS_seqK ?_; intro K hK) | (refine hK _ ?_; clear hK K) | refine WS_region ?_ | refine LS_nil ?_ | (first | refine DL_nilA ?_ | refine DL_nilS ?_ | refine DL_nilN ?_ | refine DL_nilE ?_ | refine DL_nilR ?_) | (first | refine DL_claimS rfl ?_ | refine DL_claim rfl rfl ?_) | ((first | refine' LQ ?zh rfl ?_ | refine' DL_qp rfl rfl rfl ?zh ?_ | refine' DL_q rfl rfl ?zh ?_); case zh => intro F'; first | exact Q_move rfl | exact Q_assign rfl | exact Q_nilCheck rfl | exact Q_fieldAddr rfl iI rfl | exact Q_load rfl iI iI rfl | exact Q_subI rfl rfl (by omega) | exact Q_loadA rfl iI iI rfl | exact Q_index rfl rfl iI iI iI iI (by first | assumption | omega | (simp [be_length] <;> omega)) | exact Q_loadRA rfl iI iI iI (by assumption) | exact Q_lenR rfl iI iI | exact Q_sliceR_h rfl rfl iI iI iI iI (by first | assumption | omega | (simp [be_length] <;> omega))) | ((first | refine LS_binS rfl rfl iI rfl ?_ ?_ | refine LS_binN rfl rfl iI rfl ?_ ?_ | refine DL_binS rfl rfl iI rfl ?_ ?_) <;> intro hc) | ((refine' LS_h ?zh rfl ?_); (case zh => exact H_alloc iI); intro g) | ((first | refine' LS_h0 ?zh ?_ | refine' DL_h0 ?zh rfl rfl ?_); (case zh => first | exact H_storeO rfl rfl iI iI iI rfl | exact H_storeAO rfl rfl iI iI iI rfl | exact H_delete rfl rfl iI iI iI iI | exact H_storeA rfl rfl iI iI (by first | rfl | (simp only [List.all_cons, List.all_nil, *]; rfl)) rfl); intro g) | (first | refine WS_block ?_ | refine WS_skip ?_ | refine WS_ret ?_ | refine WS_exit ?_ | refine WS_label ?_) | (show WS _ _ _ (.cond _ _ _) _ _; first | refine WS_condT rfl iI ?_ | refine WS_condF rfl iI ?_ | refine WS_condH_t rfl (by assumption) ?_ | refine WS_condH_f rfl (by assumption) ?_ | (refine WS_cond rfl ?_ ?_ <;> intro hc <;> (try simp only [decide_eq_true_eq, decide_eq_false_iff_not, Bool.not_eq_eq_eq_not, Bool.not_true, Bool.not_false, Bool.and_eq_true, Bool.or_eq_true, bne_iff_ne, beq_iff_eq, ne_eq, Decidable.not_not] at hc) <;> (try (exfalso; first | contradiction | omega; done)))) | rw [e] | (refine LS_h (H_callX iI rfl (swap_spec w0 b v r last l m i (l.length - 1) _ _ rfl rfl hi hle) iI) rfl ?_; intro g) | (refine LS_hP (H_callX iI rfl (down_spec w0 b (sHead v (l.length - 1)) r last L _ i l.length _ rfl (by omega) (by omega) (by omega) hm2 hn2) iI) rfl ?_; intro m3 hm3) | (refine LS_hP (H_callX iI rfl (up_spec w0 b (sHead v (l.length - 1)) r last (downF l.length L i) _ i _ rfl (by rw [(downF_perm _ _ _ (by omega)).length_eq]; omega) (by rw [(downF_perm _ _ _ (by omega)).length_eq]; omega) hm3 (hn2.perm (downF_perm _ _ _ (by omega)).symm)) iI) rfl ?_; intro m4 hm4) | (refine LS_ent (Ent.headR (v := v) (l.length - 1)) ?_; rw [hL]))
  · refine ret_1 (.inl rfl) rfl (RV_cell rfl inferInstance inferInstance rfl) ⟨(), rfl, ?_⟩
    rw [remF, if_pos (by omega), hL']
    exact Ent.heapQ (v := sHead v (l.length - 1)) hm4 (by ((try simp only [star_assoc, emp_star, star_emp]); (repeat' (first | exact Ent.last | refine Ent.take ?_ | refine Ent.nilT ?_ | refine Ent.takeR (by first | rfl | assumption | (simp; done)) ?_ | exact Ent.refl _))))
  · refine ret_1 (.inl rfl) rfl (RV_cell rfl inferInstance inferInstance rfl) ⟨(), rfl, ?_⟩
    rw [remF, if_neg (by omega), hL']
    refine Ent.trans (Ent.headR (v := v) (l.length - 1)) ?_
    rw [hL]
    exact Ent.heapQ (v := sHead v (l.length - 1)) hm2 (by ((try simp only [star_assoc, emp_star, star_emp]); (repeat' (first | exact Ent.last | refine Ent.take ?_ | refine Ent.nilT ?_ | refine Ent.takeR (by first | rfl | assumption | (simp; done)) ?_ | exact Ent.refl _))))
end Go.Proofs.YtapoehkdnglahaaGreat

/- What package timers and mesh's Timers hand out, by a walk. -/
namespace Go.Proofs.YtapoehkdnglahaaGreat
open Go.RowKit
set_option linter.unusedVariables false
set_option linter.unusedSectionVars false
set_option linter.unusedSimpArgs false
attribute [local irreducible] WS LS OpQ OpT OpH OpTQ Spec SpecQ cel
variable (w0 : World)
set_option maxRecDepth 100000 in
theorem hnext_none (b r : Nat) (last : Int) (l : List Tm) (now : UInt64) (h : 0 < l.length → now < (at' l 0).at_) :
    Spec Tryz.prog w0 104 [ptr b 0, u64 now] (heapQ b r last l) (fun _ : Unit => .tuple #[.int .i64 0, .bool false]) (fun _ => heapQ b r last l) := by
  refine Spec.enter Tryz.func104 rfl Tryz.ntmps104 rfl fun G => ?_
  simp only [argE]
  refine WS_heapQ fun v m hm => ?_
  rcases Nat.eq_zero_or_pos l.length with h0 | h0
  · repeat' (first | (refine WS_seqK ?_; intro K hK) | (refine hK _ ?_; clear hK K) | (with_reducible (first | refine thenS_n ?_ | refine thenS_e ?_ | refine blockS_n ?_ | refine blockS_e ?_ | refine blockS_o rfl ?_ | refine thenS_r ?_ | refine blockS_r ?_ | refine use_K (by assumption) ?_)) | refine WS_region ?_ | refine LS_nil ?_ | (show LS _ _ _ _ _ (⟨_, _, _, _, _, some _⟩ :: _) _; first | refine LS_wantT rfl rfl iI rfl ?_ | refine LS_wantF rfl rfl iI rfl ?_ | refine LS_wantU rfl rfl rfl ?_ | ((first | refine LS_wantS rfl rfl rfl ?_ ?_ | refine LS_wantN rfl ?_ ?_) <;> intro hc <;> (try simp only [decide_eq_true_eq, decide_eq_false_iff_not, Bool.not_eq_eq_eq_not, Bool.not_true, Bool.not_false, Bool.and_eq_true, Bool.or_eq_true, bne_iff_ne, beq_iff_eq, ne_eq, Decidable.not_not] at hc) <;> (try (exfalso; first | contradiction | omega; done)))) | ((refine' LQ ?zh rfl ?_); case zh => intro F'; first | exact Q_move rfl | exact Q_assign rfl | exact Q_nilCheck rfl | exact Q_fieldAddr rfl iI rfl | exact Q_load rfl iI iI rfl | exact Q_bin_t rfl rfl iI (by first | assumption | omega | decide) | exact Q_pick_t rfl iI rfl | exact Q_lenR rfl iI iI) | (first | refine WS_block ?_ | refine WS_skip ?_ | refine WS_ret ?_ | refine WS_exit ?_ | refine WS_label ?_) | (show WS _ _ _ (.cond _ _ _) _ _; first | refine WS_condT rfl iI ?_ | refine WS_condF rfl iI ?_ | refine WS_condH_t rfl (by assumption) ?_ | refine WS_condH_f rfl (by assumption) ?_ | (refine WS_cond rfl ?_ ?_ <;> intro hc <;> (try simp only [decide_eq_true_eq, decide_eq_false_iff_not, Bool.not_eq_eq_eq_not, Bool.not_true, Bool.not_false, Bool.and_eq_true, Bool.or_eq_true, bne_iff_ne, beq_iff_eq, ne_eq, Decidable.not_not] at hc) <;> (try (exfalso; first | contradiction | omega; done)))))
    exact ret_2 (.inl rfl) rfl (RV_tmp rfl) (RV_tmp rfl) ⟨(), rfl, Ent.heapQ (v := v) hm (by ((try simp only [star_assoc, emp_star, star_emp]); (repeat' (first | exact Ent.last | refine Ent.take ?_ | refine Ent.nilT ?_ | refine Ent.takeR (by first | rfl | assumption | (simp; done)) ?_ | exact Ent.refl _))))⟩
  · have hz := at'_get h0
    have h1 := h h0
    repeat' (first | (refine WS_seqK ?_; intro K hK) | (refine hK _ ?_; clear hK K) | (with_reducible (first | refine thenS_n ?_ | refine thenS_e ?_ | refine blockS_n ?_ | refine blockS_e ?_ | refine blockS_o rfl ?_ | refine thenS_r ?_ | refine blockS_r ?_ | refine use_K (by assumption) ?_)) | refine WS_region ?_ | refine LS_nil ?_ | (show LS _ _ _ _ _ (⟨_, _, _, _, _, some _⟩ :: _) _; first | refine LS_wantT rfl rfl iI rfl ?_ | refine LS_wantF rfl rfl iI rfl ?_ | refine LS_wantU rfl rfl rfl ?_ | ((first | refine LS_wantS rfl rfl rfl ?_ ?_ | refine LS_wantN rfl ?_ ?_) <;> intro hc <;> (try simp only [decide_eq_true_eq, decide_eq_false_iff_not, Bool.not_eq_eq_eq_not, Bool.not_true, Bool.not_false, Bool.and_eq_true, Bool.or_eq_true, bne_iff_ne, beq_iff_eq, ne_eq, Decidable.not_not] at hc) <;> (try (exfalso; first | contradiction | omega; done)))) | ((refine' LQ ?zh rfl ?_); case zh => intro F'; first | exact Q_move rfl | exact Q_assign rfl | exact Q_nilCheck rfl | exact Q_fieldAddr rfl iI rfl | exact Q_load rfl iI iI rfl | exact Q_bin_t rfl rfl iI (by first | assumption | omega | decide) | exact Q_bin_f rfl rfl iI (by first | assumption | omega | decide) | exact Q_pick_f rfl iI rfl | exact Q_index rfl rfl iI iI iI iI (by first | assumption | omega | (simp [be_length] <;> omega)) | exact Q_fieldR rfl iI iI rfl (by first | assumption | omega | (simp [be_length] <;> omega)) | exact Q_loadR rfl iI iI iI (by assumption) rfl | exact Q_lenR rfl iI iI) | (first | refine WS_block ?_ | refine WS_skip ?_ | refine WS_ret ?_ | refine WS_exit ?_ | refine WS_label ?_) | (show WS _ _ _ (.cond _ _ _) _ _; first | refine WS_condT rfl iI ?_ | refine WS_condF rfl iI ?_ | refine WS_condH_t rfl (by assumption) ?_ | refine WS_condH_f rfl (by assumption) ?_ | (refine WS_cond rfl ?_ ?_ <;> intro hc <;> (try simp only [decide_eq_true_eq, decide_eq_false_iff_not, Bool.not_eq_eq_eq_not, Bool.not_true, Bool.not_false, Bool.and_eq_true, Bool.or_eq_true, bne_iff_ne, beq_iff_eq, ne_eq, Decidable.not_not] at hc) <;> (try (exfalso; first | contradiction | omega; done)))))
    exact ret_2 (.inl rfl) rfl (RV_tmp rfl) (RV_tmp rfl) ⟨(), rfl, Ent.heapQ (v := v) hm (by ((try simp only [star_assoc, emp_star, star_emp]); (repeat' (first | exact Ent.last | refine Ent.take ?_ | refine Ent.nilT ?_ | refine Ent.takeR (by first | rfl | assumption | (simp; done)) ?_ | exact Ent.refl _))))⟩
set_option maxRecDepth 100000 in
theorem hnext_some (b r : Nat) (last : Int) (l : List Tm) (now : UInt64) (h0 : 0 < l.length) (h1 : ¬ now < (at' l 0).at_) (hn : IdN l) (hl : l.length ≤ 900000) :
    Spec Tryz.prog w0 104 [ptr b 0, u64 now] (heapQ b r last l) (fun _ : Unit => .tuple #[.int .i64 (at' l 0).what, .bool true]) (fun _ => heapQ b r last (remF l 0)) := by
  refine Spec.enter Tryz.func104 rfl Tryz.ntmps104 rfl fun G => ?_
  simp only [argE]
  refine WS_heapQ fun v m hm => ?_
  have hz := at'_get h0
  repeat' (first | (refine WS_seqK ?_; intro K hK) | (refine hK _ ?_; clear hK K) | refine WS_region ?_ | refine LS_nil ?_ | (show LS _ _ _ _ _ (⟨_, _, _, _, _, some _⟩ :: _) _; first | refine LS_wantT rfl rfl iI rfl ?_ | refine LS_wantF rfl rfl iI rfl ?_ | refine LS_wantU rfl rfl rfl ?_ | ((first | refine LS_wantS rfl rfl rfl ?_ ?_ | refine LS_wantN rfl ?_ ?_) <;> intro hc <;> (try simp only [decide_eq_true_eq, decide_eq_false_iff_not, Bool.not_eq_eq_eq_not, Bool.not_true, Bool.not_false, Bool.and_eq_true, Bool.or_eq_true, bne_iff_ne, beq_iff_eq, ne_eq, Decidable.not_not] at hc) <;> (try (exfalso; first | contradiction | omega; done)))) | ((refine' LQ ?zh rfl ?_); case zh => intro F'; first | exact Q_move rfl | exact Q_assign rfl | exact Q_nilCheck rfl | exact Q_fieldAddr rfl iI rfl | exact Q_load rfl iI iI rfl | exact Q_bin_f rfl rfl iI (by first | assumption | omega | decide) | exact Q_pick_f rfl iI rfl | exact Q_index rfl rfl iI iI iI iI (by first | assumption | omega | (simp [be_length] <;> omega)) | exact Q_fieldR rfl iI iI rfl (by first | assumption | omega | (simp [be_length] <;> omega)) | exact Q_loadR rfl iI iI iI (by assumption) rfl | exact Q_lenR rfl iI iI | exact Q_field rfl iI iI rfl) | (first | refine WS_block ?_ | refine WS_skip ?_ | refine WS_ret ?_ | refine WS_exit ?_ | refine WS_label ?_) | (show WS _ _ _ (.cond _ _ _) _ _; first | refine WS_condT rfl iI ?_ | refine WS_condF rfl iI ?_ | refine WS_condH_t rfl (by assumption) ?_ | refine WS_condH_f rfl (by assumption) ?_ | (refine WS_cond rfl ?_ ?_ <;> intro hc <;> (try simp only [decide_eq_true_eq, decide_eq_false_iff_not, Bool.not_eq_eq_eq_not, Bool.not_true, Bool.not_false, Bool.and_eq_true, Bool.or_eq_true, bne_iff_ne, beq_iff_eq, ne_eq, Decidable.not_not] at hc) <;> (try (exfalso; first | contradiction | omega; done)))) | (refine LS_ent (Ent.heapQ (v := v) (F := G) hm (by ((try simp only [star_assoc, emp_star, star_emp]); (repeat' (first | exact Ent.last | refine Ent.take ?_ | refine Ent.nilT ?_ | refine Ent.takeR (by first | rfl | assumption | (simp; done)) ?_ | exact Ent.refl _))))) ?_; refine LS_h (H_callX iI rfl (remove_spec w0 b r last l 0 _ rfl h0 hn hl) iI) rfl ?_; intro g))
  exact ret_2 (.inl rfl) rfl (RV_tmp rfl) (RV_tmp rfl) ⟨(), rfl, by ((try simp only [star_assoc, emp_star, star_emp]); (repeat' (first | exact Ent.last | refine Ent.take ?_ | refine Ent.nilT ?_ | refine Ent.takeR (by first | rfl | assumption | (simp; done)) ?_ | exact Ent.refl _)))⟩
set_option maxRecDepth 100000 in
theorem hnew_spec : Spec Tryz.prog w0 100 [] emp (fun x : Nat × Nat => ptr x.1 0) (fun x => heapQ x.1 x.2 0 []) := by
  refine Spec.enter Tryz.func100 rfl Tryz.ntmps100 rfl fun G => ?_
  simp only [argE]
  repeat' (first | (refine WS_seqK ?_; intro K hK) | (refine hK _ ?_; clear hK K) | refine WS_region ?_ | refine LS_nil ?_ | ((refine' LQ ?zh rfl ?_); case zh => intro F'; first | exact Q_assign rfl | exact Q_build iI iI rfl rfl) | ((refine' LS_h ?zh rfl ?_); (case zh => exact H_box rfl); intro g) | (first | refine WS_block ?_ | refine WS_skip ?_ | refine WS_ret ?_ | refine WS_exit ?_ | refine WS_label ?_) | (refine LS_h (H_makeMap i64 i64) rfl ?_; intro r))
  refine ret_1 (.inl rfl) rfl (RV_tmp rfl) ⟨(g, r), rfl, ?_⟩
  exact Ent.heapQ (v := .slice none 0 0) PlOk.nil (by ((try simp only [star_assoc, emp_star, star_emp]); (repeat' (first | exact Ent.last | refine Ent.take ?_ | refine Ent.nilT ?_ | refine Ent.takeR (by first | rfl | assumption | (simp; done)) ?_ | exact Ent.refl _))))
end Go.Proofs.YtapoehkdnglahaaGreat

/- What wire.Records returns, by a walk. -/
namespace Go.Proofs.YtapoehkdnglahaaGreat
open Go.RowKit
set_option linter.unusedVariables false
set_option linter.unusedSectionVars false
set_option linter.unusedSimpArgs false
attribute [local irreducible] WS LS OpQ OpT OpH OpTQ Spec SpecQ cel
variable (w0 : World)
def recsB (l : List Rec) : List UInt8 := l.flatMap Rec.bytes
set_option maxRecDepth 100000 in
set_option maxHeartbeats 4000000 in
theorem wrecords_spec (l : List Rec) (hl : l.length ≤ 10000) (v : Value) (X : HProp) [hX : Rdr w0 X v Rec 3 Rec.cells l] : Spec Tryz.prog w0 187 [v] X (fun m : Value => m) (fun m => rows 5 1 byteC m (recsB l) * X) := by
  refine Spec.enter Tryz.func187 rfl Tryz.ntmps187 rfl fun G => ?_
  simp only [argE]
  repeat' (first | (refine WS_seqK ?_; intro K hK) | (refine hK _ ?_; clear hK K) | refine WS_region ?_ | refine LS_nil ?_ | ((refine' LQ ?zh rfl ?_); case zh => intro F'; first | exact Q_move rfl | exact Q_assign rfl | exact Q_lenR rfl iI iI) | (first | refine WS_block ?_ | refine WS_skip ?_ | refine WS_ret ?_ | refine WS_exit ?_ | refine WS_label ?_))
  refine WS_ent (Ent.nil _ 5 1 byteC none) ?_
  refine WS_loop (fun m τ => ∃ (j : Nat) (u : Value), j + m = l.length ∧ τ = ⟨[(6, v), (7, .int .i64 (l.length : Int)), (8, .int .i64 (j : Int)), (3, u)], [], rows 5 1 byteC u (recsB (l.take j)) * (X * G)⟩) ?_ ?_
  · exact ⟨l.length, _, ⟨0, _, by omega, rfl⟩, ⟨rfl, rfl, rfl, rfl, trivial⟩, rfl, by ((try simp only [star_assoc, emp_star, star_emp]); (repeat' (first | exact Ent.last | refine Ent.take ?_ | refine Ent.nilT ?_ | refine Ent.takeR (by first | rfl | assumption | (simp; done)) ?_ | exact Ent.refl _)))⟩
  · rintro m τ ⟨j, u, hjm, rfl⟩
    rcases Nat.lt_or_ge j l.length with hlt | hge
    · obtain ⟨z, hz⟩ : ∃ z, l[j]? = some z := ⟨_, List.getElem?_eq_getElem hlt⟩
      have hb : (recsB (l.take j)).length ≤ 130000 := by
        have : ∀ l : List Rec, (recsB l).length = 13 * l.length := fun l => by
          induction l with
          | nil => rfl
          | cons x l ih => simp only [recsB, List.flatMap_cons, List.length_append, Rec.bytes_length, List.length_cons] at ih ⊢; omega
        rw [this]; simp; omega
      have hzl := Rec.bytes_length z
      have hrec := wrecord_spec w0 z
      repeat' (first | (refine WS_seqK ?_; intro K hK) | (refine hK _ ?_; clear hK K) | (with_reducible (first | refine thenS_n ?_ | refine thenS_e ?_ | refine blockS_n ?_ | refine blockS_e ?_ | refine blockS_o rfl ?_ | refine thenS_r ?_ | refine blockS_r ?_ | refine use_K (by assumption) ?_)) | refine WS_region ?_ | refine LS_nil ?_ | ((refine' LQ ?zh rfl ?_); case zh => intro F'; first | exact Q_move rfl | exact Q_assign rfl | exact Q_bin_t rfl rfl iI (by first | assumption | omega | decide) | exact Q_addI rfl rfl (by omega) | exact Q_loadA rfl iI iI rfl | exact Q_index rfl rfl iI iI iI iI (by first | assumption | omega | (simp [be_length] <;> omega)) | exact Q_loadRA rfl iI iI iI (by assumption)) | ((refine' LS_h ?zh rfl ?_); (case zh => exact H_alloc iI); intro g) | ((refine' LS_h0 ?zh ?_); (case zh => exact H_storeA rfl rfl iI iI (by first | rfl | (simp only [List.all_cons, List.all_nil, *]; rfl)) rfl); intro g) | (first | refine WS_block ?_ | refine WS_skip ?_ | refine WS_ret ?_ | refine WS_exit ?_ | refine WS_label ?_) | (show WS _ _ _ (.cond _ _ _) _ _; first | refine WS_condT rfl iI ?_ | refine WS_condF rfl iI ?_ | refine WS_condH_t rfl (by assumption) ?_ | refine WS_condH_f rfl (by assumption) ?_ | (refine WS_cond rfl ?_ ?_ <;> intro hc <;> (try simp only [decide_eq_true_eq, decide_eq_false_iff_not, Bool.not_eq_eq_eq_not, Bool.not_true, Bool.not_false, Bool.and_eq_true, Bool.or_eq_true, bne_iff_ne, beq_iff_eq, ne_eq, Decidable.not_not] at hc) <;> (try (exfalso; first | contradiction | omega; done)))) | (refine LS_h (H_callX iI rfl hrec iI) rfl ?_; intro v2) | (refine LS_h (H_appendR rfl rfl iI iI rfl iI iI byteC_one (by first | omega | (simp [be_length] <;> omega)) rfl) rfl ?_; intro va))
      refine ⟨m - 1, _, by omega, ⟨j + 1, va, by omega, rfl⟩, ⟨rfl, rfl, rfl, rfl, trivial⟩, rfl, ?_⟩
      rw [List.take_add_one, hz, Option.toList_some]
      simp only [recsB, List.flatMap_append, List.flatMap_cons, List.flatMap_nil, List.append_nil]
      ((try simp only [star_assoc, emp_star, star_emp]); (repeat' (first | exact Ent.last | refine Ent.take ?_ | refine Ent.nilT ?_ | refine Ent.takeR (by first | rfl | assumption | (simp; done)) ?_ | exact Ent.refl _)))
    · obtain rfl : j = l.length := by omega
      rw [List.take_length]
      repeat' (first | (refine WS_seqK ?_; intro K hK) | (refine hK _ ?_; clear hK K) | (with_reducible (first | refine thenS_n ?_ | refine thenS_e ?_ | refine blockS_n ?_ | refine blockS_e ?_ | refine blockS_o rfl ?_ | refine thenS_r ?_ | refine blockS_r ?_ | refine use_K (by assumption) ?_)) | refine WS_region ?_ | refine LS_nil ?_ | ((refine' LQ ?zh rfl ?_); case zh => intro F'; first | exact Q_move rfl | exact Q_assign rfl | exact Q_bin_f rfl rfl iI (by first | assumption | omega | decide)) | (first | refine WS_block ?_ | refine WS_skip ?_ | refine WS_ret ?_ | refine WS_exit ?_ | refine WS_label ?_) | (show WS _ _ _ (.cond _ _ _) _ _; first | refine WS_condT rfl iI ?_ | refine WS_condF rfl iI ?_ | refine WS_condH_t rfl (by assumption) ?_ | refine WS_condH_f rfl (by assumption) ?_ | (refine WS_cond rfl ?_ ?_ <;> intro hc <;> (try simp only [decide_eq_true_eq, decide_eq_false_iff_not, Bool.not_eq_eq_eq_not, Bool.not_true, Bool.not_false, Bool.and_eq_true, Bool.or_eq_true, bne_iff_ne, beq_iff_eq, ne_eq, Decidable.not_not] at hc) <;> (try (exfalso; first | contradiction | omega; done)))))
      exact ret_tmp (.inl rfl) rfl rfl ⟨u, rfl, by ((try simp only [star_assoc, emp_star, star_emp]); (repeat' (first | exact Ent.last | refine Ent.take ?_ | refine Ent.nilT ?_ | refine Ent.takeR (by first | rfl | assumption | (simp; done)) ?_ | exact Ent.refl _)))⟩
end Go.Proofs.YtapoehkdnglahaaGreat

/- A node: its state in plain Lean, its memory. -/
namespace Go.Proofs.YtapoehkdnglahaaGreat
open Go.RowKit
set_option linter.unusedVariables false
set_option linter.unusedSectionVars false
set_option linter.unusedSimpArgs false
/-! ### The state -/
abbrev Str := List UInt8
structure Rq where
  src : UInt32
  id : UInt32
deriving DecidableEq
/-- A search. -/
structure Sr where
  dest : UInt32
  ttl : Int
  retries : Int
  out : Bool
  name : Int
structure OutD where
  journal : Str
  replace : Bool
  frames : List (UInt32 × Str)
  came : List (UInt32 × Str)
  dropped : List Int
def OutD.zero : OutD := ⟨[], false, [], [], []⟩
structure Nd where
  self : UInt32
  seq : UInt32
  ls : List Ln
  recs : List Rec
  own : UInt32
  held : List (UInt32 × UInt32)
  silent : UInt64
  seen : List (Rq × UInt64)
  order : List Rq
  wait : List (UInt32 × List Str)
  srs : List Sr
  clk : List Tm
  last : Int
  names : Int
  ids : UInt32
  datas : UInt32
  sent : List UInt64
  now : UInt64
  out : OutD
/-! ### Its memory -/
/-- Where its parts lie. -/
structure NH where
  tb : Nat
  vr : Value
  rh : Nat
  rs : Nat
  vo : Value
  rw : Nat
  rq : Nat
  ri : Nat
  cb : Nat
  cr : Nat
  vs : Value
  vf : Value
  vc : Value
  vd : Value
  sb : List Nat
  wv : List (Option Addr × Nat × Nat)
def rqC (r : Rq) : List Value := [u32 r.src, u32 r.id]
@[reducible] def rqV (r : Rq) : Value := .agg (rqC r).toArray
def wrd64C (x : UInt64) : List Value := [u64 x]
def strCc (s : Str) : List Value := [strV s]
def txtC (x : UInt32 × Str) : List Value := [u32 x.1, strV x.2]
def intC (x : Int) : List Value := [.int .i64 x]
instance : FixLen rqC 2 := ⟨fun _ => rfl⟩
instance : FixLen wrd64C 1 := ⟨fun _ => rfl⟩
instance : FixLen strCc 1 := ⟨fun _ => rfl⟩
instance : FixLen txtC 2 := ⟨fun _ => rfl⟩
instance : FixLen intC 1 := ⟨fun _ => rfl⟩
theorem rqC_one : ∀ z, ∀ c ∈ rqC z, c.oneCell' = true := by intro z c hc; simp [rqC] at hc; rcases hc with rfl | rfl <;> rfl
theorem wrd64C_one : ∀ z, ∀ c ∈ wrd64C z, c.oneCell' = true := by intro z c hc; simp [wrd64C] at hc; subst hc; rfl
theorem strCc_one : ∀ z, ∀ c ∈ strCc z, c.oneCell' = true := by intro z c hc; simp [strCc] at hc; subst hc; rfl
theorem txtC_one : ∀ z, ∀ c ∈ txtC z, c.oneCell' = true := by intro z c hc; simp [txtC] at hc; rcases hc with rfl | rfl <;> rfl
theorem intC_one : ∀ z, ∀ c ∈ intC z, c.oneCell' = true := by intro z c hc; simp [intC] at hc; subst hc; rfl
/-- Slice values that a map holds. -/
@[reducible] def slV' (v : Option Addr × Nat × Nat) : Value := .slice v.1 v.2.1 v.2.2
/-- The texts that wait, slice by slice. -/
def textsP : List (Option Addr × Nat × Nat) → List (UInt32 × List Str) → HProp
  | v :: vs, w :: ws => rows 9 1 strCc (slV' v) w.2 * textsP vs ws
  | _, _ => emp
def wmap (vs : List (Option Addr × Nat × Nat)) (ws : List (UInt32 × List Str)) : List (UInt32 × (Option Addr × Nat × Nat)) := List.zipWith (fun v w => (w.1, v)) vs ws
def waitQ (r : Nat) (vs : List (Option Addr × Nat × Nat)) (ws : List (UInt32 × List Str)) : HProp := pure' (vs.length = ws.length) * (mp u32 slV' r (wmap vs ws) * textsP vs ws)
/-- The searches. -/
def srC (g b : Nat) (s : Sr) : List Value := [u32 s.dest, .int .i64 s.ttl, .int .i64 s.retries, .bool s.out, .int .i64 s.name, .func (.func 190) #[ptr b 0] #[], ptr g 0]
def srsP (g : Nat) : List Nat → List Sr → HProp
  | b :: bs, s :: ss => cel b 234 (srC g b s) * srsP g bs ss
  | _, _ => emp
def qmap (bs : List Nat) (ss : List Sr) : List (UInt32 × Nat) := List.zipWith (fun b s => (s.dest, b)) bs ss
def imap (bs : List Nat) (ss : List Sr) : List (Int × Nat) := List.zipWith (fun b s => (s.name, b)) bs ss
def clockQ (b r : Nat) (last : Int) (L : List Tm) : HProp := hex fun l => pure' (TR l L last) * heapQ b r last l
theorem pure'_true {φ : Prop} (h : φ) : pure' φ = emp := by
  unfold pure' emp
  congr 1
  funext x
  simp [h]
/-- As many blocks as searches. -/
def srsQ (g : Nat) (bs : List Nat) (ss : List Sr) : HProp := pure' (bs.length = ss.length) * srsP g bs ss
/-- What is seldom looked at. -/
def restC (g : Nat) (sn : List (Rq × UInt64)) (od : List Rq) (wt : List (UInt32 × List Str)) (ss : List Sr) (ck : List Tm) (la : Int) (se : List UInt64) (rs : Nat) (vo : Value) (rw rq ri cb cr : Nat) (vs : Value) (sb : List Nat) (wv : List (Option Addr × Nat × Nat)) : HProp :=
  mp rqV u64 rs sn * (rows 336 2 rqC vo od * (waitQ rw wv wt * (mp u32 ptrV rq (qmap sb ss) * (mp i64 ptrV ri (imap sb ss) * (srsQ g sb ss * (clockQ cb cr la ck * rows 35 1 wrd64C vs se))))))
def restP (g : Nat) (s : Nd) (h : NH) : HProp := restC g s.seen s.order s.wait s.srs s.clk s.last s.sent h.rs h.vo h.rw h.rq h.ri h.cb h.cr h.vs h.sb h.wv
/-- A node's cells; mu: the lock's word; o: what it holds of its answer. -/
def nodC (mu : Int) (s : Nd) (h : NH) (o : OutD) : List Value :=
  [.int .i32 mu, .int .u32 0, u32 s.self, u32 s.seq, ptr h.tb 0, h.vr, u32 s.own, .map (some h.rh), u64 s.silent, .map (some h.rs), h.vo, .map (some h.rw), .map (some h.rq), .map (some h.ri), ptr h.cb 0, .int .i64 s.names, u32 s.ids, u32 s.datas, h.vs, u64 s.now, strV o.journal, .bool o.replace, h.vf, h.vc, h.vd]
def outH (h : NH) (o : OutD) : HProp := rows 80 2 txtC h.vf o.frames * (rows 301 2 txtC h.vc o.came * rows 238 1 intC h.vd o.dropped)
/-- A node in a call. -/
def nodPm (mu : Int) (g : Nat) (s : Nd) (h : NH) : HProp :=
  cel g 184 (nodC mu s h s.out) * (rows 48 3 Rec.cells h.vr s.recs * (mp u32 u32 h.rh s.held * (tabQ h.tb s.self s.ls * (outH h s.out * restP g s h))))
@[reducible] def nodP (g : Nat) (s : Nd) (h : NH) : HProp := nodPm 1 g s h
def nodA (g : Nat) (s : Nd) : HProp := hex fun h => nodP g s h
theorem LS_nod {P : Program} {n : Frm} {w0 : World} {E : Env} {D : List Deferred} {F : HProp} {ops : Array Oper} {l' : List Oper} {Q : Exit → St → Prop} {g : Nat} {s : Nd} (h : ∀ h, LS P n w0 ops Q l' ⟨E, D, nodP g s h * F⟩) : LS P n w0 ops Q l' ⟨E, D, nodA g s * F⟩ := by
  unfold nodA
  exact LS_hex h
theorem WS_nod {P : Program} {n : Frm} {w0 : World} {E : Env} {D : List Deferred} {F : HProp} {c : Code} {Q : Exit → St → Prop} {g : Nat} {s : Nd} (h : ∀ h, WS P n w0 c Q ⟨E, D, nodP g s h * F⟩) : WS P n w0 c Q ⟨E, D, nodA g s * F⟩ := by
  unfold nodA
  exact WS_hex h
theorem Ent.nod {g : Nat} {s : Nd} {H F : HProp} (h : NH) (e : Ent H (nodP g s h * F)) : Ent H (nodA g s * F) := Ent.hexI (p := fun h => nodP g s h) h e
theorem Spec.nod {P : Program} {w0 : World} {f : FuncId} {args : List Value} {g : Nat} {s : Nd} {X : HProp} {α : Type} {res : α → Value} {post : α → HProp} (h : ∀ h, Spec P w0 f args (nodP g s h * X) res post) : Spec P w0 f args (nodA g s * X) res post := fun G w hs => by
  have hs1 : Sat w0 w (hex (fun h => nodP g s h) * (X * G)) := hs.cast (star_assoc _ _ _)
  obtain ⟨x, hs2⟩ := hs1.ex
  exact h x G w (hs2.cast (star_assoc _ _ _).symm)
theorem Pk.out_le' (p : Pk) : p.out.length ≤ 100000 := by
  by_cases h : p.Fits
  · rw [Pk.out_fit h]
    obtain ⟨⟨_, _, _, _, h1, h2⟩, _⟩ := h
    unfold Pk.bytes
    repeat' split
    all_goals simp only [List.length_append, List.length_cons, List.length_nil, be_length, lostB_length]
    all_goals omega
  · rw [Pk.out_not h]; simp
/-! ### What its functions do -/
def Nd.write (s : Nd) (r : Rec) : Nd := { s with recs := s.recs ++ [r], out := { s.out with journal := s.out.journal ++ r.bytes }, own := if r.own then r.seq else s.own, held := if r.own then s.held else mset s.held r.addr r.seq }
def Nd.noteL (s : Nd) (l : Ln) : Nd := match mget s.held l.dest with
  | some q => if q < l.seq then s.write ⟨false, l.dest, l.seq⟩ else s
  | none => s.write ⟨false, l.dest, l.seq⟩
def Nd.noteO (s : Nd) : Nd := if s.own < s.seq then s.write ⟨true, 0, s.seq⟩ else s
def Nd.note (s : Nd) : Nd := (listT s.ls).foldl Nd.noteL s.noteO
def Nd.begin (s : Nd) (now : UInt64) : Nd := { s with now := now, out := OutD.zero, ls := expT now s.ls }.note
def Nd.done (s : Nd) : Nd := if 24 < s.note.recs.length then { s.note with recs := compR s.note.recs, out := { s.note.out with journal := recsB (compR s.note.recs), replace := true } } else s.note
def Nd.send (s : Nd) (to : UInt32) (p : Pk) : Nd := { s with out := { s.out with frames := s.out.frames ++ [(to, p.out)] } }
def Nd.drop (s : Nd) (k : Int) : Nd := { s with out := { s.out with dropped := s.out.dropped ++ [k] } }
end Go.Proofs.YtapoehkdnglahaaGreat

/- What a node's write, send, drop and tell do, by a walk. -/
namespace Go.Proofs.YtapoehkdnglahaaGreat
open Go.RowKit
set_option linter.unusedVariables false
set_option linter.unusedSectionVars false
set_option linter.unusedSimpArgs false
attribute [local irreducible] WS LS OpQ OpT OpH OpTQ Spec SpecQ cel
variable (w0 : World)
set_option maxRecDepth 100000 in
set_option maxHeartbeats 8000000 in
theorem nwrite_spec (mu : Int) (gn : Nat) (s : Nd) (h : NH) (r : Rec) (hr : s.recs.length ≤ 500000) (hj : s.out.journal.length ≤ 900000) : Spec Tryz.prog w0 130 [ptr gn 0, .agg r.cells.toArray] (nodPm mu gn s h) (fun _ : Value => .tuple #[]) (fun vr => nodPm mu gn (s.write r) { h with vr := vr }) := by
  have hrec := wrecord_spec w0 r
  have hbl := Rec.bytes_length r
  have er : ∀ vr, restP gn (s.write r) { h with vr := vr } = restP gn s h := fun _ => rfl
  refine Spec.enter Tryz.func130 rfl Tryz.ntmps130 rfl fun G => ?_
  simp only [nodPm, er]
  simp only [argE, nodC, outH, Nd.write]
  obtain ⟨o, a, q⟩ := r
  simp only [Rec.cells] at hrec ⊢
  cases o
  all_goals
    repeat' (first | (show WS _ _ _ (.region 1 _ true) _ _; first | refine WS_drawK [0, 1, 2, 3, 4, 5, 6, 7, 8, 9, 10, 11, 12] 8 [5, 6] (by decide +kernel) rfl ?_ | refine WS_drawN 0 3 [0, 1, 2, 3, 4, 5, 6, 7, 8, 9, 10, 11, 12] 12 [5] (by decide +kernel) rfl rfl rfl iI iI ?_) | (show WS _ _ _ (.region 2 _ true) _ _; first | refine WS_drawK [0, 1, 2, 3, 4, 5, 6, 7, 8, 9, 10, 11, 12] 6 [4, 5] (by decide +kernel) rfl ?_ | refine WS_drawN 0 3 [0, 1, 2, 3, 4, 5, 6, 7, 8, 9, 10, 11, 12] 12 [4] (by decide +kernel) rfl rfl rfl iI iI ?_) | (show WS _ _ _ (.region 5 _ true) _ _; refine WS_drawK [0, 1, 2, 3, 4, 5, 6, 7, 8, 9] 9 [4, 6, 8] (by decide +kernel) rfl ?_) | (refine WS_seqK ?_; intro K hK) | (refine hK _ ?_; clear hK K) | refine WS_region ?_ | refine LS_nil ?_ | (first | refine DL_nilA ?_ | refine DL_nilS ?_ | refine DL_nilN ?_ | refine DL_nilE ?_ | refine DL_nilR ?_) | (first | refine DL_claimS rfl ?_ | refine DL_claim rfl rfl ?_) | ((first | refine' LQ ?zh rfl ?_ | refine' DL_qp rfl rfl rfl ?zh ?_ | refine' DL_q rfl rfl ?zh ?_); case zh => intro F'; first | exact Q_move rfl | exact Q_nilCheck rfl | exact Q_fieldAddr rfl iI rfl | exact Q_load rfl iI iI rfl | exact Q_loadA rfl iI iI rfl | exact Q_addS rfl rfl (by first | omega | (simp [be_length] <;> omega))) | ((first | refine' LS_h ?zh rfl ?_ | refine' DL_h ?zh rfl rfl rfl ?_); (case zh => first | exact H_box rfl | exact H_convS rfl iI rfl iI iI iI); intro g) | ((first | refine' LS_h0 ?zh ?_ | refine' DL_h0 ?zh rfl rfl ?_); (case zh => first | exact H_storeO rfl rfl iI iI iI rfl | exact H_mapUpdate rfl rfl rfl iI iI iI iI iI); intro g) | (show WS _ _ _ (.cond _ _ _) _ _; first | refine WS_condT rfl iI ?_ | refine WS_condF rfl iI ?_ | refine WS_condH_t rfl (by assumption) ?_ | refine WS_condH_f rfl (by assumption) ?_ | (refine WS_cond rfl ?_ ?_ <;> intro hc <;> (try simp only [decide_eq_true_eq, decide_eq_false_iff_not, Bool.not_eq_eq_eq_not, Bool.not_true, Bool.not_false, Bool.and_eq_true, Bool.or_eq_true, bne_iff_ne, beq_iff_eq, ne_eq, Decidable.not_not] at hc) <;> (try (exfalso; first | contradiction | omega; done)))) | (refine DL_h (H_callX iI rfl hrec iI) rfl rfl rfl ?_; intro vb) | (refine DL_h (H_buildSliceR Rec.cells [⟨_, a, q⟩] iI iI iI rfl rfl rfl rfl rfl iI rfl rfl rfl) rfl rfl rfl ?_; intro vx) | (refine DL_h (H_appendR rfl rfl iI iI rfl iI iI recC_one (by first | omega | (simp [be_length] <;> omega)) rfl) rfl rfl rfl ?_; intro va))
  · exact ret_none (.inr rfl) rfl ⟨va, rfl, by simp only [Bool.false_eq_true, if_false]; ((try simp only [star_assoc, emp_star, star_emp]); (repeat' (first | exact Ent.last | refine Ent.take ?_ | refine Ent.nilT ?_ | refine Ent.takeR (by first | rfl | assumption | (simp; done)) ?_ | exact Ent.refl _)))⟩
  · exact ret_none (.inr rfl) rfl ⟨va, rfl, by simp only [if_true]; ((try simp only [star_assoc, emp_star, star_emp]); (repeat' (first | exact Ent.last | refine Ent.take ?_ | refine Ent.nilT ?_ | refine Ent.takeR (by first | rfl | assumption | (simp; done)) ?_ | exact Ent.refl _)))⟩
set_option maxRecDepth 100000 in
set_option maxHeartbeats 8000000 in
theorem ndrop_spec (gn : Nat) (s : Nd) (h : NH) (k : Int) (hd : s.out.dropped.length ≤ 900000) : Spec Tryz.prog w0 136 [ptr gn 0, .int .i64 k] (nodP gn s h) (fun _ : Value => .tuple #[]) (fun vd => nodP gn (s.drop k) { h with vd := vd }) := by
  have er : ∀ vd, restP gn (s.drop k) { h with vd := vd } = restP gn s h := fun _ => rfl
  refine Spec.enter Tryz.func136 rfl Tryz.ntmps136 rfl fun G => ?_
  simp only [nodP, nodPm, er]
  simp only [argE, nodC, outH, Nd.drop]
  repeat' (first | refine WS_region ?_ | refine LS_nil ?_ | ((refine' LQ ?zh rfl ?_); case zh => intro F'; first | exact Q_move rfl | exact Q_nilCheck rfl | exact Q_fieldAddr rfl iI rfl | exact Q_load rfl iI iI rfl) | ((refine' LS_h0 ?zh ?_); (case zh => exact H_storeO rfl rfl iI iI iI rfl); intro g) | (refine LS_h (H_buildSliceR intC [k] iI iI iI rfl rfl rfl rfl rfl iI rfl rfl rfl) rfl ?_; intro vx) | (refine LS_h (H_appendR rfl rfl iI iI rfl iI iI intC_one (by first | omega | (simp [be_length] <;> omega)) rfl) rfl ?_; intro va))
  exact ret_none (.inr rfl) rfl ⟨va, rfl, by ((try simp only [star_assoc, emp_star, star_emp]); (repeat' (first | exact Ent.last | refine Ent.take ?_ | refine Ent.nilT ?_ | refine Ent.takeR (by first | rfl | assumption | (simp; done)) ?_ | exact Ent.refl _)))⟩
set_option maxRecDepth 100000 in
set_option maxHeartbeats 8000000 in
theorem nsend_spec (gn : Nat) (s : Nd) (h : NH) (to : UInt32) (p : Pk) (hp : p.Ok) (v : Value) (hv : v.oneCell' = true) (X : HProp) [hX : Rdr w0 X v (UInt32 × UInt32) 2 lostC p.lost] (hd : s.out.frames.length ≤ 900000) : Spec Tryz.prog w0 188 [ptr gn 0, u32 to, p.val v] (nodP gn s h * X) (fun _ : Value => .tuple #[]) (fun vf => nodP gn (s.send to p) { h with vf := vf } * X) := by
  have henc := encode_spec w0 p hp v X
  have er : ∀ vf, restP gn (s.send to p) { h with vf := vf } = restP gn s h := fun _ => rfl
  have hol := p.out_le'
  refine Spec.enter Tryz.func188 rfl Tryz.ntmps188 rfl fun G => ?_
  simp only [nodP, nodPm, er]
  simp only [argE, nodC, outH, Nd.send, Pk.val, Pk.cells] at henc ⊢
  repeat' (first | (show WS _ _ _ (.region 2 _ true) _ _; first | refine WS_drawK [0, 1, 2, 3, 4, 5, 6, 7, 8, 9, 10, 11, 12, 13, 14, 15] 8 [5] (by decide +kernel) rfl ?_ | refine WS_drawM 0 [0, 1, 2, 3, 4, 5, 6, 7, 8, 9, 10, 11, 12, 13, 14, 15] 15 [5] (by decide +kernel) rfl rfl iI ?_) | (refine WS_seqK ?_; intro K hK) | (refine hK _ ?_; clear hK K) | refine WS_region ?_ | refine LS_nil ?_ | (first | refine DL_nilA ?_ | refine DL_nilS ?_ | refine DL_nilN ?_ | refine DL_nilE ?_ | refine DL_nilR ?_) | (first | refine DL_claimS rfl ?_ | refine DL_claim rfl rfl ?_) | ((first | refine' LQ ?zh rfl ?_ | refine' DL_qp rfl rfl rfl ?zh ?_ | refine' DL_q rfl rfl ?zh ?_); case zh => intro F'; first | exact Q_move rfl | exact Q_assign rfl | exact Q_nilCheck rfl | exact Q_fieldAddr rfl iI rfl | exact Q_load rfl iI iI rfl | exact Q_extract rfl rfl | exact Q_loadA rfl iI iI rfl | exact Q_build iI iI rfl rfl) | ((first | refine' LS_h ?zh rfl ?_ | refine' DL_h ?zh rfl rfl rfl ?_); (case zh => first | exact H_box rfl | exact H_convS rfl iI rfl iI iI iI); intro g) | ((refine' DL_h0 ?zh rfl rfl ?_); (case zh => exact H_storeO rfl rfl iI iI iI rfl); intro g) | (refine LS_h (H_callX iI rfl henc iI) rfl ?_; intro vb) | (refine DL_h (H_buildSliceR txtC [(to, p.out)] iI iI iI rfl rfl rfl rfl rfl iI rfl rfl rfl) rfl rfl rfl ?_; intro vx) | (refine DL_h (H_appendR rfl rfl iI iI rfl iI iI txtC_one (by first | omega | (simp [be_length] <;> omega)) rfl) rfl rfl rfl ?_; intro va))
  exact ret_none (.inr rfl) rfl ⟨va, rfl, by ((try simp only [star_assoc, emp_star, star_emp]); (repeat' (first | exact Ent.last | refine Ent.take ?_ | refine Ent.nilT ?_ | refine Ent.takeR (by first | rfl | assumption | (simp; done)) ?_ | exact Ent.refl _)))⟩
end Go.Proofs.YtapoehkdnglahaaGreat

/- The contracts of tables of routes, their memory out of sight. -/
namespace Go.Proofs.YtapoehkdnglahaaGreat
open Go.RowKit
set_option linter.unusedVariables false
set_option linter.unusedSectionVars false
set_option linter.unusedSimpArgs false
variable (w0 : World)
theorem hideT {P : Program} {w0 : World} {f : FuncId} {args : List Value} {g : Nat} {self : UInt32} {ls : List Ln} {α : Type} {res : α → Value} {A : α → HProp} {ls' : α → List Ln} (hl : ∀ x, (ls' x).length = ls.length)
    (h : ∀ r bs, bs.length = ls.length → Spec P w0 f args (tabP g r self bs ls) res (fun x => A x * tabP g r self bs (ls' x))) : Spec P w0 f args (tabQ g self ls) res (fun x => A x * tabQ g self (ls' x)) := fun G w hs => by
  obtain ⟨x, hs2⟩ := Sat.ex (P := fun x : Nat × List (Nat × Nat) => pure' (x.2.length = ls.length) * tabP g x.1 self x.2 ls) hs
  obtain ⟨hlen, hs3⟩ := (hs2.cast (star_assoc _ _ _)).pure
  refine (h x.1 x.2 hlen G w hs3).mono ?_
  rintro e w' ⟨y, he, hs'⟩
  refine ⟨y, he, ?_⟩
  have h1 : Sat w0 w' (tabP g x.1 self x.2 (ls' y) * (A y * G)) := hs'.cast (by ac_rfl)
  have h2 := (Ent.tabQ (r := x.1) (bs := x.2) (hlen.trans (hl y).symm) (Ent.refl _)).sat h1
  exact h2.cast (by ac_rfl)
theorem hideE {P : Program} {w0 : World} {f : FuncId} {args : List Value} {g : Nat} {self : UInt32} {ls : List Ln} {α : Type} {res : α → Value} {ls' : α → List Ln} (hl : ∀ x, (ls' x).length = ls.length)
    (h : ∀ r bs, bs.length = ls.length → Spec P w0 f args (tabP g r self bs ls) res (fun x => tabP g r self bs (ls' x))) : Spec P w0 f args (tabQ g self ls) res (fun x => tabQ g self (ls' x)) := by
  have := hideT (A := fun _ => emp) hl (fun r bs hlen => by simp only [emp_star]; exact h r bs hlen)
  simpa only [emp_star] using this
theorem lmod_length (ls : List Ln) (d : UInt32) (f : Ln → Ln) : (lmod ls d f).length = ls.length := by unfold lmod; split <;> simp
/-- What is known of a table at all times. -/
structure TabOk (ls : List Ln) : Prop where
  nodup : (dests ls).Nodup
  short : ls.length ≤ 8
  hops : ∀ l ∈ ls, 0 ≤ l.hops ∧ l.hops ≤ 1000
  before : ∀ l ∈ ls, l.before.length ≤ 4
theorem expire_spec (g : Nat) (self : UInt32) (ls : List Ln) (ok : TabOk ls) (now : UInt64) : Spec Tryz.prog w0 119 [ptr g 0, u64 now] (tabQ g self ls) (fun _ : Unit => .tuple #[]) (fun _ => tabQ g self (expT now ls)) :=
  hideE (fun _ => by simp [expT]) fun r bs hlen => expire_specT w0 g r self bs ls hlen ok.nodup now
theorem number_spec (g : Nat) (self : UInt32) (ls : List Ln) (d : UInt32) : Spec Tryz.prog w0 146 [ptr g 0, u32 d] (tabQ g self ls) (fun _ : Unit => .tuple #[u32 (numT ls d), .bool (lget ls d).isSome]) (fun _ => tabQ g self ls) :=
  hideE (fun _ => rfl) fun r bs hlen => number_specT w0 g r self bs ls hlen d
theorem use_spec (g : Nat) (self : UInt32) (ls : List Ln) (d : UInt32) (ex : UInt64) : Spec Tryz.prog w0 114 [ptr g 0, u32 d, u64 ex] (tabQ g self ls) (fun _ : Unit => .tuple #[]) (fun _ => tabQ g self (useT ls d ex)) :=
  hideE (fun _ => lmod_length _ _ _) fun r bs hlen => use_specT w0 g r self bs ls hlen d ex
theorem find_spec (g : Nat) (self : UInt32) (ls : List Ln) (ok : TabOk ls) (d : UInt32) (now : UInt64) : Spec Tryz.prog w0 112 [ptr g 0, u32 d, u64 now] (tabQ g self ls) (fun p : Option Addr × Nat => findV (lookT ls d now) p) (fun p => findH (lookT ls d now) p * tabQ g self ls) :=
  hideT (fun _ => rfl) fun r bs hlen => find_specT w0 g r self bs ls hlen (fun l hl => by have := ok.before l hl; omega) d now
theorem list_spec (g : Nat) (self : UInt32) (ls : List Ln) (ok : TabOk ls) : Spec Tryz.prog w0 88 [ptr g 0] (tabQ g self ls) (fun x : Value × List LnS => x.1) (fun x => (pure' (x.2.map (·.1) = listT ls) * (rows 38 7 routeS x.1 x.2 * befs x.2)) * tabQ g self ls) :=
  hideT (fun _ => rfl) fun r bs hlen => by
    have := list_specT w0 g r self bs ls hlen ok.nodup (by have := ok.short; omega) (fun l hl => by have := ok.before l hl; omega)
    simpa only [star_assoc] using this
theorem listT_length (ls : List Ln) : (listT ls).length ≤ ls.length := by
  have h1 := List.length_filterMap_le (lget ls) (sortU (dests ls))
  rw [sortU_length] at h1
  simpa [listT, dests] using h1
end Go.Proofs.YtapoehkdnglahaaGreat

/- What a node's note does, by a walk. -/
namespace Go.Proofs.YtapoehkdnglahaaGreat
open Go.RowKit
set_option linter.unusedVariables false
set_option linter.unusedSectionVars false
set_option linter.unusedSimpArgs false
/-- There is room for k records more. -/
def Nd.Room (s : Nd) (k : Nat) : Prop := s.recs.length + k ≤ 500000 ∧ s.out.journal.length + 13 * k ≤ 900000
theorem Nd.Room.write {s : Nd} {k : Nat} (h : s.Room (k + 1)) (r : Rec) : (s.write r).Room k := by
  have hb := Rec.bytes_length r
  unfold Nd.Room at *
  simp only [Nd.write, List.length_append, List.length_cons, List.length_nil]
  omega
theorem Nd.Room.le {s : Nd} {k m : Nat} (h : s.Room k) (hm : m ≤ k) : s.Room m := by unfold Nd.Room at *; omega
theorem Nd.Room.noteL {s : Nd} {k : Nat} (h : s.Room (k + 1)) (l : Ln) : (s.noteL l).Room k := by
  unfold Nd.noteL
  repeat' split
  all_goals first | exact h.write _ | exact h.le (by omega)
theorem Nd.Room.noteO {s : Nd} {k : Nat} (h : s.Room (k + 1)) : s.noteO.Room k := by
  unfold Nd.noteO
  split
  · exact h.write _
  · exact h.le (by omega)
theorem Nd.noteL_ls (s : Nd) (l : Ln) : (s.noteL l).ls = s.ls := by unfold Nd.noteL; (repeat' split) <;> rfl
theorem Nd.noteO_ls (s : Nd) : s.noteO.ls = s.ls := by unfold Nd.noteO; split <;> rfl
theorem Nd.Room.noteLs {k : Nat} (L : List Ln) : ∀ {s : Nd}, s.Room (L.length + k) → (L.foldl Nd.noteL s).Room k := by
  induction L with
  | nil => intro s h; exact h.le (by simp)
  | cons l L ih => intro s h; exact ih (Nd.Room.noteL (h.le (by simp only [List.length_cons]; omega)) l)
attribute [local irreducible] WS LS OpQ OpT OpH OpTQ Spec SpecQ cel
variable (w0 : World)
set_option maxRecDepth 100000 in
set_option maxHeartbeats 8000000 in
theorem note_spec (mu : Int) (gn : Nat) (s : Nd) (h : NH) (hr : s.Room 10) (ok : TabOk s.ls) : Spec Tryz.prog w0 131 [ptr gn 0] (nodPm mu gn s h) (fun _ : Value => .tuple #[]) (fun vr => nodPm mu gn s.note { h with vr := vr }) := by
  refine Spec.enter Tryz.func131 rfl Tryz.ntmps131 rfl fun G => ?_
  obtain ⟨s1, hs1⟩ : ∃ s1, s1 = s.noteO := ⟨_, rfl⟩
  have hO := Nd.Room.noteO (k := 9) hr
  have okO : TabOk s.noteO.ls := by rw [Nd.noteO_ls]; exact ok
  have hn : s.note = (listT s1.ls).foldl Nd.noteL s1 := by unfold Nd.note; rw [hs1, Nd.noteO_ls]
  have hw1 := nwrite_spec w0 mu gn s h ⟨true, 0, s.seq⟩ (by unfold Nd.Room at hr; omega) (by unfold Nd.Room at hr; omega)
  rw [hn]
  rw [← hs1] at hO okO
  simp only [argE]
  clear hn
  by_cases ho : s.own < s.seq
  all_goals
    first
    | (have e1 : s.write ⟨true, 0, s.seq⟩ = s1 := by rw [hs1]; simp [Nd.noteO, ho]
       rw [e1] at hw1)
    | (have e1 : s1 = s := by rw [hs1]; simp [Nd.noteO, ho]
       subst e1)
    have hlist := list_spec w0 h.tb s1.self s1.ls okO
    generalize hL : listT s1.ls = L at *
    have hLl : L.length ≤ 8 := by rw [← hL]; exact Nat.le_trans (listT_length _) okO.short
    simp only [nodPm] at hw1 ⊢
    simp only [nodC] at hw1 ⊢
    repeat' (first | (show WS _ _ _ (.region 0 _ true) _ _; refine WS_drawA [0, 1, 2, 3, 4, 5, 6, 7, 8, 9] (by decide +kernel) rfl ?_) | (refine WS_seqK ?_; intro K hK) | (refine hK _ ?_; clear hK K) | refine WS_region ?_ | refine LS_nil ?_ | (first | refine DL_nilA ?_ | refine DL_nilS ?_ | refine DL_nilN ?_ | refine DL_nilE ?_ | refine DL_nilR ?_) | ((first | refine' LQ ?zh rfl ?_ | refine' DL_q rfl rfl ?zh ?_); case zh => intro F'; first | exact Q_move rfl | exact Q_nilCheck rfl | exact Q_fieldAddr rfl iI rfl | exact Q_load rfl iI iI rfl | exact Q_bin_t rfl rfl iI (by first | assumption | omega) | exact Q_bin_f rfl rfl iI (by first | assumption | omega) | exact Q_build iI iI rfl rfl | exact Q_lenR rfl iI iI) | (first | refine WS_block ?_ | refine WS_skip ?_ | refine WS_ret ?_ | refine WS_exit ?_ | refine WS_label ?_) | (show WS _ _ _ (.cond _ _ _) _ _; first | refine WS_condT rfl iI ?_ | refine WS_condF rfl iI ?_ | refine WS_condH_t rfl (by assumption) ?_ | refine WS_condH_f rfl (by assumption) ?_ | (refine WS_cond rfl ?_ ?_ <;> intro hc <;> (try simp only [decide_eq_true_eq, decide_eq_false_iff_not, Bool.not_eq_eq_eq_not, Bool.not_true, Bool.not_false, Bool.and_eq_true, Bool.or_eq_true, bne_iff_ne, beq_iff_eq, ne_eq, Decidable.not_not] at hc) <;> (try (exfalso; first | contradiction | omega; done)))) | (refine LS_h (H_callX iI rfl hw1 iI) rfl ?_; intro vr) | (refine LS_h (H_callX iI rfl hlist iI) rfl ?_; intro x))
    obtain ⟨v, ps⟩ := x
    dsimp only
    obtain ⟨h1, hh1⟩ : ∃ h1 : NH, h1 = h ∨ ∃ vr, h1 = { h with vr := vr } := ⟨_, .inl rfl⟩
    first
    | refine WS_ent (H' := pure' (List.map (fun x => x.fst) ps = L) * (nodPm mu gn s1 { h with vr := vr } * (rows 38 7 routeS v ps * (befs ps * G)))) (by unfold nodPm; simp only [nodC]; ((try simp only [star_assoc, emp_star, star_emp]); (repeat' (first | exact Ent.last | refine Ent.take ?_ | refine Ent.nilT ?_ | refine Ent.takeR (by first | rfl | assumption | (simp; done)) ?_ | exact Ent.refl _)))) ?_
    | refine WS_ent (H' := pure' (List.map (fun x => x.fst) ps = L) * (nodPm mu gn s1 { h with vr := h.vr } * (rows 38 7 routeS v ps * (befs ps * G)))) (by unfold nodPm; simp only [nodC]; ((try simp only [star_assoc, emp_star, star_emp]); (repeat' (first | exact Ent.last | refine Ent.take ?_ | refine Ent.nilT ?_ | refine Ent.takeR (by first | rfl | assumption | (simp; done)) ?_ | exact Ent.refl _)))) ?_
    refine WS_pure fun hps => ?_
    have hpl : ps.length = L.length := by rw [← hps]; simp
    refine WS_loop (fun k τ => ∃ (j : Nat) (vr : Value), j + k = ps.length ∧ τ = ⟨[(29, .int .i64 (j : Int)), (28, .int .i64 (ps.length : Int)), (27, v), (0, ptr gn 0)], [], nodPm mu gn ((L.take j).foldl Nd.noteL s1) { h with vr := vr } * (rows 38 7 routeS v ps * (befs ps * G))⟩) ?_ ?_
    · exact ⟨ps.length, _, ⟨0, _, by omega, rfl⟩, ⟨rfl, rfl, rfl, rfl, trivial⟩, rfl, by simp only [List.take_zero, List.foldl_nil]; exact Ent.refl _⟩
    · rintro k τ ⟨j, vr, hjk, rfl⟩
      rcases Nat.lt_or_ge j ps.length with hlt | hge
      · obtain ⟨⟨l, p⟩, hz⟩ : ∃ z, ps[j]? = some z := ⟨_, List.getElem?_eq_getElem hlt⟩
        have hzl : L[j]? = some l := by rw [← hps]; simp [hz]
        have htk : (L.take (j + 1)).foldl Nd.noteL s1 = ((L.take j).foldl Nd.noteL s1).noteL l := by rw [List.take_add_one, hzl, Option.toList_some, List.foldl_append]; rfl
        have hrm : ((L.take j).foldl Nd.noteL s1).Room 1 := Nd.Room.noteLs (k := 1) _ (hO.le (by rw [List.length_take]; omega))
        generalize (L.take j).foldl Nd.noteL s1 = sj at *
        have hw := nwrite_spec w0 mu gn sj { h with vr := vr } ⟨false, l.dest, l.seq⟩ (by unfold Nd.Room at hrm; omega) (by unfold Nd.Room at hrm; omega)
        obtain ⟨ld, lq, lh, ln, lv, le, lb⟩ := l
        simp only at hw htk
        simp only [nodPm] at hw ⊢
        simp only [nodC] at hw ⊢
        cases hm : mget sj.held ld with
        | none =>
          have hst : sj.noteL ⟨ld, lq, lh, ln, lv, le, lb⟩ = sj.write ⟨false, ld, lq⟩ := by simp [Nd.noteL, hm]
          rw [hst] at htk
          repeat' (first | (show WS _ _ _ (.region 5 _ true) _ _; refine WS_drawA [0, 1, 2, 3, 4, 5, 6, 7, 8, 9, 10, 11, 12] (by decide +kernel) rfl ?_) | (refine WS_seqK ?_; intro K hK) | (refine hK _ ?_; clear hK K) | (with_reducible (first | refine thenS_n ?_ | refine thenS_e ?_ | refine blockS_n ?_ | refine blockS_e ?_ | refine blockS_o rfl ?_ | refine thenS_r ?_ | refine blockS_r ?_ | refine use_K (by assumption) ?_)) | refine WS_region ?_ | refine LS_nil ?_ | (show LS _ _ _ _ _ (⟨_, _, _, _, _, some _⟩ :: _) _; first | refine LS_wantT rfl rfl iI rfl ?_ | refine LS_wantF rfl rfl iI rfl ?_ | refine LS_wantU rfl rfl rfl ?_ | ((first | refine LS_wantS rfl rfl rfl ?_ ?_ | refine LS_wantN rfl ?_ ?_) <;> intro hc <;> (try simp only [decide_eq_true_eq, decide_eq_false_iff_not, Bool.not_eq_eq_eq_not, Bool.not_true, Bool.not_false, Bool.and_eq_true, Bool.or_eq_true, bne_iff_ne, beq_iff_eq, ne_eq, Decidable.not_not] at hc) <;> (try (exfalso; first | contradiction | omega; done)))) | (first | refine DL_nilA ?_ | refine DL_nilS ?_ | refine DL_nilN ?_ | refine DL_nilE ?_ | refine DL_nilR ?_) | ((first | refine' LQ ?zh rfl ?_ | refine' DL_q rfl rfl ?zh ?_); case zh => intro F'; first | exact Q_move rfl | exact Q_assign rfl | exact Q_nilCheck rfl | exact Q_fieldAddr rfl iI rfl | exact Q_load rfl iI iI rfl | exact Q_bin_t rfl rfl iI (by first | assumption | omega) | exact Q_addI rfl rfl (by omega) | exact Q_extract rfl rfl | exact Q_pick_t rfl iI rfl | exact Q_un rfl iI | exact Q_build iI iI rfl rfl | exact Q_index rfl rfl iI iI iI iI (by first | assumption | omega | (simp [be_length] <;> omega)) | exact Q_loadRA rfl iI iI iI (by assumption) | exact Q_lookupOk_n rfl rfl iI iI iI iI iI (by assumption)) | ((refine' LS_h ?zh rfl ?_); (case zh => exact H_alloc iI); intro g) | ((refine' LS_h0 ?zh ?_); (case zh => exact H_storeA rfl rfl iI iI (by first | rfl | (simp only [List.all_cons, List.all_nil, *]; rfl)) rfl); intro g) | (first | refine WS_block ?_ | refine WS_skip ?_ | refine WS_ret ?_ | refine WS_exit ?_ | refine WS_label ?_) | (show WS _ _ _ (.cond _ _ _) _ _; first | refine WS_condT rfl iI ?_ | refine WS_condF rfl iI ?_ | refine WS_condH_t rfl (by assumption) ?_ | refine WS_condH_f rfl (by assumption) ?_ | (refine WS_cond rfl ?_ ?_ <;> intro hc <;> (try simp only [decide_eq_true_eq, decide_eq_false_iff_not, Bool.not_eq_eq_eq_not, Bool.not_true, Bool.not_false, Bool.and_eq_true, Bool.or_eq_true, bne_iff_ne, beq_iff_eq, ne_eq, Decidable.not_not] at hc) <;> (try (exfalso; first | contradiction | omega; done)))) | (refine LS_h (H_callX iI rfl hw iI) rfl ?_; intro vr2))
          exact ⟨k - 1, _, by omega, ⟨j + 1, vr2, by omega, rfl⟩, ⟨rfl, rfl, rfl, rfl, trivial⟩, rfl, by rw [htk]; dsimp only; ((try simp only [star_assoc, emp_star, star_emp]); (repeat' (first | exact Ent.last | refine Ent.take ?_ | refine Ent.nilT ?_ | refine Ent.takeR (by first | rfl | assumption | (simp; done)) ?_ | exact Ent.refl _)))⟩
        | some q =>
          by_cases hq : q < lq
          · have hst : sj.noteL ⟨ld, lq, lh, ln, lv, le, lb⟩ = sj.write ⟨false, ld, lq⟩ := by simp [Nd.noteL, hm, hq]
            rw [hst] at htk
            repeat' (first | (show WS _ _ _ (.region 5 _ true) _ _; refine WS_drawA [0, 1, 2, 3, 4, 5, 6, 7, 8, 9, 10, 11, 12] (by decide +kernel) rfl ?_) | (refine WS_seqK ?_; intro K hK) | (refine hK _ ?_; clear hK K) | (with_reducible (first | refine thenS_n ?_ | refine thenS_e ?_ | refine blockS_n ?_ | refine blockS_e ?_ | refine blockS_o rfl ?_ | refine thenS_r ?_ | refine blockS_r ?_ | refine use_K (by assumption) ?_)) | refine WS_region ?_ | refine LS_nil ?_ | (show LS _ _ _ _ _ (⟨_, _, _, _, _, some _⟩ :: _) _; first | refine LS_wantT rfl rfl iI rfl ?_ | refine LS_wantF rfl rfl iI rfl ?_ | refine LS_wantU rfl rfl rfl ?_ | ((first | refine LS_wantS rfl rfl rfl ?_ ?_ | refine LS_wantN rfl ?_ ?_) <;> intro hc <;> (try simp only [decide_eq_true_eq, decide_eq_false_iff_not, Bool.not_eq_eq_eq_not, Bool.not_true, Bool.not_false, Bool.and_eq_true, Bool.or_eq_true, bne_iff_ne, beq_iff_eq, ne_eq, Decidable.not_not] at hc) <;> (try (exfalso; first | contradiction | omega; done)))) | (first | refine DL_nilA ?_ | refine DL_nilS ?_ | refine DL_nilN ?_ | refine DL_nilE ?_ | refine DL_nilR ?_) | ((first | refine' LQ ?zh rfl ?_ | refine' DL_q rfl rfl ?zh ?_); case zh => intro F'; first | exact Q_move rfl | exact Q_assign rfl | exact Q_nilCheck rfl | exact Q_fieldAddr rfl iI rfl | exact Q_load rfl iI iI rfl | exact Q_bin_t rfl rfl iI (by first | assumption | omega) | exact Q_addI rfl rfl (by omega) | exact Q_extract rfl rfl | exact Q_pick_f rfl iI rfl | exact Q_un rfl iI | exact Q_build iI iI rfl rfl | exact Q_index rfl rfl iI iI iI iI (by first | assumption | omega | (simp [be_length] <;> omega)) | exact Q_loadRA rfl iI iI iI (by assumption) | exact Q_lookupOk_s rfl rfl iI iI iI iI iI (by assumption)) | ((refine' LS_h ?zh rfl ?_); (case zh => exact H_alloc iI); intro g) | ((refine' LS_h0 ?zh ?_); (case zh => exact H_storeA rfl rfl iI iI (by first | rfl | (simp only [List.all_cons, List.all_nil, *]; rfl)) rfl); intro g) | (first | refine WS_block ?_ | refine WS_skip ?_ | refine WS_ret ?_ | refine WS_exit ?_ | refine WS_label ?_) | (show WS _ _ _ (.cond _ _ _) _ _; first | refine WS_condT rfl iI ?_ | refine WS_condF rfl iI ?_ | refine WS_condH_t rfl (by assumption) ?_ | refine WS_condH_f rfl (by assumption) ?_ | (refine WS_cond rfl ?_ ?_ <;> intro hc <;> (try simp only [decide_eq_true_eq, decide_eq_false_iff_not, Bool.not_eq_eq_eq_not, Bool.not_true, Bool.not_false, Bool.and_eq_true, Bool.or_eq_true, bne_iff_ne, beq_iff_eq, ne_eq, Decidable.not_not] at hc) <;> (try (exfalso; first | contradiction | omega; done)))) | (refine LS_h (H_callX iI rfl hw iI) rfl ?_; intro vr2))
            exact ⟨k - 1, _, by omega, ⟨j + 1, vr2, by omega, rfl⟩, ⟨rfl, rfl, rfl, rfl, trivial⟩, rfl, by rw [htk]; dsimp only; ((try simp only [star_assoc, emp_star, star_emp]); (repeat' (first | exact Ent.last | refine Ent.take ?_ | refine Ent.nilT ?_ | refine Ent.takeR (by first | rfl | assumption | (simp; done)) ?_ | exact Ent.refl _)))⟩
          · have hst : sj.noteL ⟨ld, lq, lh, ln, lv, le, lb⟩ = sj := by simp [Nd.noteL, hm, hq]
            rw [hst] at htk
            repeat' (first | (show WS _ _ _ (.region 5 _ true) _ _; refine WS_drawA [0, 1, 2, 3, 4, 5, 6, 7, 8, 9, 10, 11, 12] (by decide +kernel) rfl ?_) | (refine WS_seqK ?_; intro K hK) | (refine hK _ ?_; clear hK K) | (with_reducible (first | refine thenS_n ?_ | refine thenS_e ?_ | refine blockS_n ?_ | refine blockS_e ?_ | refine blockS_o rfl ?_ | refine thenS_r ?_ | refine blockS_r ?_ | refine use_K (by assumption) ?_)) | refine WS_region ?_ | refine LS_nil ?_ | (show LS _ _ _ _ _ (⟨_, _, _, _, _, some _⟩ :: _) _; first | refine LS_wantT rfl rfl iI rfl ?_ | refine LS_wantF rfl rfl iI rfl ?_ | refine LS_wantU rfl rfl rfl ?_ | ((first | refine LS_wantS rfl rfl rfl ?_ ?_ | refine LS_wantN rfl ?_ ?_) <;> intro hc <;> (try simp only [decide_eq_true_eq, decide_eq_false_iff_not, Bool.not_eq_eq_eq_not, Bool.not_true, Bool.not_false, Bool.and_eq_true, Bool.or_eq_true, bne_iff_ne, beq_iff_eq, ne_eq, Decidable.not_not] at hc) <;> (try (exfalso; first | contradiction | omega; done)))) | (first | refine DL_nilA ?_ | refine DL_nilS ?_ | refine DL_nilN ?_ | refine DL_nilE ?_ | refine DL_nilR ?_) | ((first | refine' LQ ?zh rfl ?_ | refine' DL_q rfl rfl ?zh ?_); case zh => intro F'; first | exact Q_move rfl | exact Q_assign rfl | exact Q_nilCheck rfl | exact Q_fieldAddr rfl iI rfl | exact Q_load rfl iI iI rfl | exact Q_bin_t rfl rfl iI (by first | assumption | omega) | exact Q_bin_f rfl rfl iI (by first | assumption | omega) | exact Q_addI rfl rfl (by omega) | exact Q_extract rfl rfl | exact Q_pick_f rfl iI rfl | exact Q_un rfl iI | exact Q_index rfl rfl iI iI iI iI (by first | assumption | omega | (simp [be_length] <;> omega)) | exact Q_loadRA rfl iI iI iI (by assumption) | exact Q_lookupOk_s rfl rfl iI iI iI iI iI (by assumption)) | ((refine' LS_h ?zh rfl ?_); (case zh => exact H_alloc iI); intro g) | ((refine' LS_h0 ?zh ?_); (case zh => exact H_storeA rfl rfl iI iI (by first | rfl | (simp only [List.all_cons, List.all_nil, *]; rfl)) rfl); intro g) | (first | refine WS_block ?_ | refine WS_skip ?_ | refine WS_ret ?_ | refine WS_exit ?_ | refine WS_label ?_) | (show WS _ _ _ (.cond _ _ _) _ _; first | refine WS_condT rfl iI ?_ | refine WS_condF rfl iI ?_ | refine WS_condH_t rfl (by assumption) ?_ | refine WS_condH_f rfl (by assumption) ?_ | (refine WS_cond rfl ?_ ?_ <;> intro hc <;> (try simp only [decide_eq_true_eq, decide_eq_false_iff_not, Bool.not_eq_eq_eq_not, Bool.not_true, Bool.not_false, Bool.and_eq_true, Bool.or_eq_true, bne_iff_ne, beq_iff_eq, ne_eq, Decidable.not_not] at hc) <;> (try (exfalso; first | contradiction | omega; done)))))
            exact ⟨k - 1, _, by omega, ⟨j + 1, vr, by omega, rfl⟩, ⟨rfl, rfl, rfl, rfl, trivial⟩, rfl, by rw [htk]; dsimp only; ((try simp only [star_assoc, emp_star, star_emp]); (repeat' (first | exact Ent.last | refine Ent.take ?_ | refine Ent.nilT ?_ | refine Ent.takeR (by first | rfl | assumption | (simp; done)) ?_ | exact Ent.refl _)))⟩
      · obtain rfl : j = ps.length := by omega
        rw [List.take_of_length_le (by omega)]
        generalize L.foldl Nd.noteL s1 = sj at *
        simp only [nodPm]
        simp only [nodC]
        repeat' (first | (refine WS_seqK ?_; intro K hK) | (refine hK _ ?_; clear hK K) | (with_reducible (first | refine thenS_n ?_ | refine thenS_e ?_ | refine blockS_n ?_ | refine blockS_e ?_ | refine blockS_o rfl ?_ | refine thenS_r ?_ | refine blockS_r ?_ | refine use_K (by assumption) ?_)) | refine WS_region ?_ | refine LS_nil ?_ | ((refine' LQ ?zh rfl ?_); case zh => intro F'; exact Q_bin_f rfl rfl iI (by first | assumption | omega | decide)) | (first | refine WS_block ?_ | refine WS_skip ?_ | refine WS_ret ?_ | refine WS_exit ?_ | refine WS_label ?_) | (show WS _ _ _ (.cond _ _ _) _ _; first | refine WS_condT rfl iI ?_ | refine WS_condF rfl iI ?_ | refine WS_condH_t rfl (by assumption) ?_ | refine WS_condH_f rfl (by assumption) ?_ | (refine WS_cond rfl ?_ ?_ <;> intro hc <;> (try simp only [decide_eq_true_eq, decide_eq_false_iff_not, Bool.not_eq_eq_eq_not, Bool.not_true, Bool.not_false, Bool.and_eq_true, Bool.or_eq_true, bne_iff_ne, beq_iff_eq, ne_eq, Decidable.not_not] at hc) <;> (try (exfalso; first | contradiction | omega; done)))))
        exact ret_none (.inr rfl) rfl ⟨vr, rfl, by ((try simp only [star_assoc, emp_star, star_emp]); (repeat' (first | exact Ent.last | refine Ent.take ?_ | refine Ent.nilT ?_ | refine Ent.takeR (by first | rfl | assumption | (simp; done)) ?_ | exact Ent.refl _)))⟩
end Go.Proofs.YtapoehkdnglahaaGreat

/- A node's lock: its contracts, by the kit's; nothing else is in it. -/
namespace Go.Proofs.YtapoehkdnglahaaGreat
open Go.RowKit
set_option linter.unusedVariables false
set_option linter.unusedSectionVars false
set_option linter.unusedSimpArgs false
set_option maxRecDepth 100000
noncomputable def par0 (f : Func) : Nat := f.params.toList.headD 0
noncomputable def muL : Go.Conc.Locks.MuLink := { lock := 86, unlock := 87, ilock := 149, iunlock := 150, lockSlow := 202, unlockSlow := 205, disable := 198, enable := 200, acquire := 201, relMerge := 203, cas32 := 199, add32 := 204, tMutex := 172, tIMutex := 170, tPMutex := par0 Tryz.f86, tPIMutex := par0 Tryz.f149, tPI32 := 314, tUP := 316, tNoCopy := 168, tU32 := 34 }
theorem muLib : Go.Conc.Locks.MuLib Tryz.prog muL := {
  f_lock := Tryz.func86.trans (congrArg some (by kernel_rfl)),
  f_unlock := Tryz.func87.trans (congrArg some (by kernel_rfl)),
  f_ilock := Tryz.func149.trans (congrArg some (by kernel_rfl)),
  f_iunlock := Tryz.func150.trans (congrArg some (by kernel_rfl)),
  f_disable := Tryz.func198.trans (congrArg some (by kernel_rfl)),
  f_enable := Tryz.func200.trans (congrArg some (by kernel_rfl)),
  f_acquire := Tryz.func201.trans (congrArg some (by kernel_rfl)),
  f_relMerge := Tryz.func203.trans (congrArg some (by kernel_rfl)),
  f_cas32 := Tryz.func199.trans (congrArg some (by kernel_rfl)),
  f_add32 := Tryz.func204.trans (congrArg some (by kernel_rfl)),
  underlying_tIMutex := by kernel_rfl,
  runUnderlying_tIMutex := fun w => by kernel_rfl,
  sizeOf_tIMutex := fun w => by kernel_rfl,
  isAgg_tIMutex := fun w => by kernel_rfl,
  zeroValue_tIMutex := fun w => by kernel_rfl,
  underlying_tMutex := by kernel_rfl,
  runUnderlying_tMutex := fun w => by kernel_rfl,
  sizeOf_tMutex := fun w => by kernel_rfl,
  isAgg_tMutex := fun w => by kernel_rfl,
  zeroValue_tMutex := fun w => by kernel_rfl,
  underlying_tPMutex := by kernel_rfl,
  runUnderlying_tPMutex := fun w => by kernel_rfl,
  sizeOf_tPMutex := fun w => by kernel_rfl,
  isAgg_tPMutex := fun w => by kernel_rfl,
  zeroValue_tPMutex := fun w => by kernel_rfl,
  underlying_tPIMutex := by kernel_rfl,
  runUnderlying_tPIMutex := fun w => by kernel_rfl,
  sizeOf_tPIMutex := fun w => by kernel_rfl,
  isAgg_tPIMutex := fun w => by kernel_rfl,
  zeroValue_tPIMutex := fun w => by kernel_rfl,
  underlying_tPI32 := by kernel_rfl,
  runUnderlying_tPI32 := fun w => by kernel_rfl,
  sizeOf_tPI32 := fun w => by kernel_rfl,
  isAgg_tPI32 := fun w => by kernel_rfl,
  zeroValue_tPI32 := fun w => by kernel_rfl,
  underlying_tUP := by kernel_rfl,
  runUnderlying_tUP := fun w => by kernel_rfl,
  sizeOf_tUP := fun w => by kernel_rfl,
  isAgg_tUP := fun w => by kernel_rfl,
  zeroValue_tUP := fun w => by kernel_rfl,
  underlying_tNoCopy := by kernel_rfl,
  runUnderlying_tNoCopy := fun w => by kernel_rfl,
  sizeOf_tNoCopy := fun w => by kernel_rfl,
  isAgg_tNoCopy := fun w => by kernel_rfl,
  zeroValue_tNoCopy := fun w => by kernel_rfl,
  underlying_t21 := by kernel_rfl,
  runUnderlying_t21 := fun w => by kernel_rfl,
  sizeOf_t21 := fun w => by kernel_rfl,
  isAgg_t21 := fun w => by kernel_rfl,
  zeroValue_t21 := fun w => by kernel_rfl,
  room_tIMutex := by kernel_rfl }
variable (w0 : World)
theorem lock_spec (g : Nat) (t : TypeId) (cs : List Value) : Spec Tryz.prog w0 86 [ptr g 0] (cel g t (.int .i32 0 :: cs)) (fun _ : Unit => .tuple #[]) (fun _ => cel g t (.int .i32 1 :: cs)) := by
  intro G w hs
  have hc : w.cell? ⟨g, 0, none⟩ = some (.int .i32 0) := by have := Sat.cell hs 0; simpa using this
  have hz : w.frozen? ⟨g, 0, none⟩ = false := Sat.frozen hs 0
  refine (Go.MuLone.lock_free (L := muL) muLib ⟨g, 0, none⟩ w hc hz).mono ?_
  rintro e w' ⟨rfl, rfl⟩
  refine ⟨(), rfl, ?_⟩
  have := Sat.set hs 0 (.int .i32 1)
  exact this.cast (by simp [cel])
theorem iunlock_spec (g : Nat) (t : TypeId) (cs : List Value) : Spec Tryz.prog w0 150 [ptr g 0] (cel g t (.int .i32 1 :: cs)) (fun _ : Unit => .tuple #[]) (fun _ => cel g t (.int .i32 0 :: cs)) := by
  intro G w hs
  have hc : w.cell? ⟨g, 0, none⟩ = some (.int .i32 1) := by have := Sat.cell hs 0; simpa using this
  have hz : w.frozen? ⟨g, 0, none⟩ = false := Sat.frozen hs 0
  refine (Go.MuLone.iunlock_held (L := muL) muLib ⟨g, 0, none⟩ w hc hz).mono ?_
  rintro e w' ⟨rfl, rfl⟩
  refine ⟨(), rfl, ?_⟩
  have := Sat.set hs 0 (.int .i32 0)
  exact this.cast (by simp [cel])
attribute [local irreducible] WS LS OpQ OpT OpH OpTQ Spec SpecQ cel
/-- Unlock, as a deferred call. -/
theorem unlock_D {u : FrameMode} {K : FrameMode → HProp → Prop} {g : Nat} {t : TypeId} {cs cs' : List Value} {H F : HProp} (hl : LimbB H g t cs' F) (hc : cs' = .int .i32 1 :: cs) (hk : K u (cel g t (.int .i32 0 :: cs) * F)) : DSpec Tryz.prog w0 87 [ptr g 0] u H K := by
  rw [hl.eq, hc]
  have p1 := iunlock_spec w0 g t cs
  refine DSpec.enter Tryz.func87 rfl Tryz.ntmps87 rfl ?_
  simp only [argE]
  repeat' (first | refine WS_region ?_ | refine LS_nil ?_ | ((refine' LQ ?zh rfl ?_); case zh => intro F'; first | exact Q_move rfl | exact Q_nilCheck rfl | exact Q_fieldAddr rfl iI rfl) | (refine LS_h (H_callX iI rfl p1 iI) rfl ?_; intro g))
  exact ret_none (.inr rfl) rfl hk
end Go.Proofs.YtapoehkdnglahaaGreat

