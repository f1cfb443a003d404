/- NodI DecW DecK DecK2 DecK3 DecA NodR, joined. -/
import Derived.Test.YtapoehkdnglahabGreatQuietlyGe
/- A new node. -/
namespace Go.Proofs.YtapoehkdnglahabGreat
open Go.RowKit
set_option linter.unusedVariables false
set_option linter.unusedSimpArgs false
def maxOwn (l : List Rec) : UInt32 := l.foldl (fun m r => if r.own then max m r.seq else m) 0
theorem maxOwn_snoc (l : List Rec) (r : Rec) : maxOwn (l ++ [r]) = if r.own then max (maxOwn l) r.seq else maxOwn l := by simp [maxOwn]
/-- A node that knows nothing. -/
def Nd.blank (self : UInt32) : Nd := ⟨self, 1, [], [], 0, [], 0, [], [], [], [], [], 0, 0, 0, 0, [], 0, OutD.zero⟩
/-- With its journal. -/
def Nd.booted (self : UInt32) (b : List UInt8) (now : UInt64) : Nd := if 0 < b.length then { Nd.blank self with seq := growS (maxOwn (readJ b)), ls := newT self (compR (readJ b)), silent := now + 2000 } else Nd.blank self
def Nd.new (self : UInt32) (b : List UInt8) (now : UInt64) : Nd := ((Nd.booted self b now).write ⟨true, 0, (Nd.booted self b now).seq⟩).note
/-- A new node's answer. -/
def Nd.newO (self : UInt32) (b : List UInt8) (now : UInt64) : OutD := { (Nd.new self b now).out with replace := decide (0 < b.length) }
theorem Nd.booted_ok (self : UInt32) (b : List UInt8) (now : UInt64) : TabOk (Nd.booted self b now).ls := by
  unfold Nd.booted
  split
  · exact TabOk.new _ _
  · exact TabOk.nil
theorem mp_nil {κ ν κ' ν' : Type} (fk : κ → Value) (fv : ν → Value) (fk' : κ' → Value) (fv' : ν' → Value) (r : Nat) : mp fk fv r [] = mp fk' fv' r [] := rfl
def nilV : Value := .slice none 0 0
theorem node0 {H F : HProp} (gn tb r0 r1 r2 r3 r4 : Nat) (cb : Nat × Nat) (self q : UInt32) (ls : List Ln) (si : UInt64)
    (e : Ent H (cel gn 159 [.int .i32 0, u32 0, u32 self, u32 q, ptr tb 0, .slice none 0 0, u32 0, .map (some r0), u64 si, .map (some r1), .slice none 0 0, .map (some r2), .map (some r3), .map (some r4), ptr cb.1 0, .int .i64 0, u32 0, u32 0, .slice none 0 0, u64 0, strV [], .bool false, .slice none 0 0, .slice none 0 0, .slice none 0 0] * (rows 28 3 Rec.cells (.slice none 0 0) [] * (mp u32 u32 r0 [] * (mp u32 u32 r1 [] * (mp u32 u32 r2 [] * (mp u32 u32 r3 [] * (mp u32 u32 r4 [] * (tabQ tb self ls * (heapQ cb.1 cb.2 0 [] * F)))))))))) :
    Ent H (nodPm 0 gn { Nd.blank self with seq := q, ls := ls, silent := si } ⟨tb, .slice none 0 0, r0, r1, .slice none 0 0, r2, r3, r4, cb.1, cb.2, .slice none 0 0, .slice none 0 0, .slice none 0 0, .slice none 0 0, []⟩ * F) := by
  have a : ∀ Z, Ent (mp u32 u32 r2 [] * Z) (waitP r2 [] * Z) := fun Z => Ent.hexI (p := fun vs : List (Option Addr × Nat × Nat) => pure' (vs.length = ([] : List (UInt32 × List Str)).length) * (mp u32 slV' r2 (wmap vs []) * textsP vs [])) [] (by rw [star_assoc]; refine Ent.pureI rfl ?_; rw [mp_nil u32 u32 u32 slV' r2]; simp only [wmap, List.zipWith_nil_left, textsP, star_emp]; exact Ent.refl _)
  have b : ∀ Z, Ent (heapQ cb.1 cb.2 0 [] * Z) (clockQ cb.1 cb.2 0 [] * Z) := fun Z => Ent.hexI (p := fun l : List Tm => pure' (TR l [] 0) * heapQ cb.1 cb.2 0 l) [] (by rw [star_assoc]; exact Ent.pureI TR.nil (Ent.refl _))
  refine (e.trans (Ent.tail _ (Ent.tail _ (Ent.tail _ (Ent.tail _ ((a _).trans (Ent.tail _ (Ent.tail _ (Ent.tail _ (Ent.tail _ (b _))))))))))).trans ?_
  rw [mp_nil u32 u32 rqV u64 r1, mp_nil u32 u32 u32 ptrV r3, mp_nil u32 u32 i64 ptrV r4]
  unfold nodPm nodC outH restP
  simp only [Nd.blank, OutD.zero, srsP, qmap, imap, List.zipWith_nil_left, emp_star]
  refine (Ent.nil _ 48 2 txtC none).trans ?_
  refine (Ent.nil _ 70 2 txtC none).trans ?_
  refine (Ent.nil _ 166 1 intC none).trans ?_
  refine (Ent.nil _ 269 2 rqC none).trans ?_
  refine (Ent.nil _ 24 1 wrd64C none).trans ?_
  have ez : (Value.int .u32 0 : Value) = u32 0 := rfl
  rw [ez]
  ((try simp only [star_assoc, emp_star, star_emp]); (repeat' (first | exact Ent.last | refine Ent.take ?_ | refine Ent.nilT ?_ | refine Ent.takeR (by first | rfl | assumption | (simp; done)) ?_ | exact Ent.refl _)))
attribute [local irreducible] WS LS OpQ OpT OpH OpTQ Spec SpecQ cel
variable (w0 : World)
set_option maxRecDepth 100000 in
set_option maxHeartbeats 16000000 in
theorem nnew_spec (self : UInt32) (b : List UInt8) (hb : b.length ≤ 1000000) (now : UInt64) (v : Value) (X : HProp) [hX : Rdr w0 X v UInt8 1 byteC b] :
    Spec Tryz.prog w0 32 [u32 self, v, u64 now] X (fun x : Nat × (Value × Value × Value) => .tuple #[ptr x.1 0, outA (Nd.newO self b now) x.2]) (fun x => nodI x.1 (Nd.new self b now) * (outR (Nd.newO self b now) x.2 * X)) := by
  have p1 := newT_spec w0 self [] (by simp) (.slice none 0 0) (rows 28 3 Rec.cells (.slice none 0 0) [])
  have e1 : newT self (compR []) = [] := by rw [show compR [] = [] from List.length_eq_zero_iff.1 (Nat.le_zero.1 (compR_length []))]; rfl
  rw [e1] at p1
  have p2 := hnew_spec w0
  have p3 := wread_spec w0 b hb v X
  refine Spec.enter Tryz.func32 rfl Tryz.ntmps32 rfl fun G => ?_
  simp only [argE]
  refine WS_ent (Ent.nil _ 28 3 Rec.cells none) ?_
  by_cases hb0 : 0 < b.length
  · repeat' (first
      | (refine WS_seqK ?_; intro K hK)
      | (refine hK _ ?_; clear hK K)
      | (with_reducible (first | refine thenS_n ?_ | refine thenS_e ?_ | refine blockS_n ?_ | refine blockS_e ?_ | refine blockS_o rfl ?_ | refine thenS_r ?_ | refine blockS_r ?_ | refine use_K (by assumption) ?_))
      | refine WS_region ?_
      | refine LS_nil ?_
      | (first | refine DL_nilA ?_ | refine DL_nilS ?_ | refine DL_nilN ?_ | refine DL_nilE ?_ | refine DL_nilR ?_)
      | (first | refine DL_claimS rfl ?_ | refine DL_claim rfl rfl ?_)
      | (refine DL_alloc iI rfl ?_; intro g)
      | ((first | refine' LQ ?h rfl ?_ | refine' DL_qp rfl rfl rfl ?h ?_ | refine' DL_q rfl rfl ?h ?_); case h => intro F'; first | exact Q_move rfl | exact Q_assign rfl | exact Q_nilCheck rfl | exact Q_fieldAddr rfl iI rfl | exact Q_load rfl iI iI rfl | exact Q_bin_t rfl rfl iI (by first | assumption | omega) | exact Q_bin_f rfl rfl iI (by first | assumption | omega) | exact Q_bin_nt rfl rfl iI (by first | assumption | omega) | exact Q_bin_nf rfl rfl iI (by first | assumption | omega) | exact Q_addI rfl rfl (by omega) | exact Q_subI rfl rfl (by omega) | exact Q_extract rfl rfl | exact Q_loadA rfl iI iI rfl | exact Q_build iI iI rfl rfl | exact Q_buildA iI iI iI rfl rfl | exact Q_len rfl iI | exact Q_lenS rfl iI | exact Q_index rfl rfl iI iI iI iI (by first | assumption | omega | (simp [be_length] <;> omega)) | exact Q_fieldR rfl iI iI rfl (by first | assumption | omega | (simp [be_length] <;> omega)) | exact Q_loadR rfl iI iI iI (by assumption) rfl | exact Q_loadR rfl iI iI iI rfl rfl | exact Q_loadRA rfl iI iI iI (by assumption) | exact Q_lenR rfl iI iI | exact Q_lenM rfl iI iI | exact Q_maxI rfl rfl | exact Q_max32 rfl rfl iI iI | exact Q_max64 rfl rfl iI iI | exact Q_addS rfl rfl (by first | omega | (simp [be_length] <;> omega)) | exact Q_indexV rfl rfl iI iI iI (by first | assumption | omega) | exact Q_nilCheck_f rfl | exact Q_quoI rfl rfl (by omega) | exact Q_remI rfl rfl (by omega) | exact Q_mulI rfl rfl (by omega))
      | ((first | refine LS_binS rfl rfl iI rfl ?_ ?_ | refine LS_binN rfl rfl iI rfl ?_ ?_ | refine DL_binS rfl rfl iI rfl ?_ ?_) <;> intro hc)
      | ((first | refine' LQ ?h rfl ?_ | refine' DL_qp rfl rfl rfl ?h ?_ | refine' DL_q rfl rfl ?h ?_); case h => intro F'; first | exact Q_bin rfl rfl iI)
      | ((first | refine' LS_h0 ?h ?_ | refine' DL_h0 ?h rfl rfl ?_); (case h => first | exact H_storeO rfl rfl iI iI iI rfl | exact H_storeAO rfl rfl iI iI iI rfl | exact H_store8 rfl rfl iI iI rfl iI (by first | assumption | omega | (simp [be_length] <;> omega)) | exact H_storeRA _ rfl rfl rfl iI iI iI rfl rfl (by first | assumption | omega | (simp [be_length] <;> omega)) | exact H_storeR _ rfl rfl iI iI iI rfl (by assumption) rfl | exact H_store rfl rfl iI (by first | rfl | assumption) iI rfl | exact H_storeA rfl rfl iI iI (by first | rfl | (simp only [List.all_cons, List.all_nil, *]; rfl)) rfl); intro g)
      | (first | refine WS_block ?_ | refine WS_skip ?_ | refine WS_ret ?_ | refine WS_exit ?_ | refine WS_label ?_)
      | (show WS _ _ _ (.cond _ _ _) _ _; first | refine WS_condT rfl iI ?_ | refine WS_condF rfl iI ?_ | refine WS_condH_t rfl (by assumption) ?_ | refine WS_condH_f rfl (by assumption) ?_ | (refine WS_cond rfl ?_ ?_ <;> intro hc <;> (try simp only [decide_eq_true_eq, decide_eq_false_iff_not, Bool.not_eq_eq_eq_not, Bool.not_true, Bool.not_false, Bool.and_eq_true, Bool.or_eq_true, bne_iff_ne, beq_iff_eq, ne_eq, Decidable.not_not] at hc) <;> (try (exfalso; first | contradiction | omega; done))))
      | refine WS_drawS (by kernel_rfl) ?_
      | (refine LS_h (H_alloc iI) rfl ?_; intro g0)
      | (refine LS_h (H_box rfl) rfl ?_; intro gn)
      | (refine LS_h (H_callX iI rfl p1 iI) rfl ?_; intro tb)
      | (refine LS_h (H_call0 iI rfl p2) rfl ?_; intro cb)
      | (refine LS_h (H_makeMap u32 u32 (d := some 18)) rfl ?_; intro r0)
      | (refine LS_h (H_makeMap u32 u32 (d := some 20)) rfl ?_; intro r1)
      | (refine LS_h (H_makeMap u32 u32 (d := some 21)) rfl ?_; intro r2)
      | (refine LS_h (H_makeMap u32 u32 (d := some 22)) rfl ?_; intro r3)
      | (refine LS_h (H_makeMap u32 u32 (d := some 23)) rfl ?_; intro r4)
      | (refine LS_h (H_callX iI rfl p3 iI) rfl ?_; intro vl))
    have hl := readJ_length b
    generalize hj : readJ b = l at *
    have p4 := newT_spec w0 self l (by omega) vl (rows 28 3 Rec.cells vl l)
    have p5 := grow_spec w0 (maxOwn l)
    obtain ⟨R, hR⟩ : ∃ R : HProp, R = X * (heapQ cb.1 cb.2 0 [] * (mp u32 u32 r4 [] * (mp u32 u32 r3 [] * (mp u32 u32 r2 [] * (mp u32 u32 r1 [] * (mp u32 u32 r0 [] * (tabQ tb self [] * (rows 28 3 Rec.cells (.slice none 0 0) [] * (cel g0 35 [strV [], .bool false, .slice none 0 0, .slice none 0 0, .slice none 0 0] * G))))))))) := ⟨_, rfl⟩
    refine WS_loop (fun k τ => ∃ j : Nat, j + k = l.length ∧ τ = ⟨[(41, .int .i64 (j : Int)), (40, .int .i64 (l.length : Int)), (39, vl), (10, vl), (9, .bool true), (8, ptr gn 0), (7, ptr g0 0), (0, u32 self), (0 + 1 + 1, u64 now)], [], cel gn 159 [.int .i32 0, u32 0, u32 self, u32 (maxOwn (l.take j)), ptr tb 0, .slice none 0 0, u32 0, .map (some r0), u64 0, .map (some r1), .slice none 0 0, .map (some r2), .map (some r3), .map (some r4), ptr cb.1 0, .int .i64 0, u32 0, u32 0, .slice none 0 0, u64 0, strV [], .bool false, .slice none 0 0, .slice none 0 0, .slice none 0 0] * (rows 28 3 Rec.cells vl l * R)⟩) ?_ ?_
    · exact ⟨l.length, _, ⟨0, by omega, rfl⟩, ⟨rfl, rfl, rfl, rfl, rfl, rfl, rfl, rfl, rfl, trivial⟩, rfl, by rw [hR]; have ez : (Value.int .u32 0 : Value) = u32 0 := rfl; simp only [List.take_zero, maxOwn, List.foldl_nil, ez]; ((try simp only [star_assoc, emp_star, star_emp]); (repeat' (first | exact Ent.last | refine Ent.take ?_ | refine Ent.nilT ?_ | refine Ent.takeR (by first | rfl | assumption | (simp; done)) ?_ | exact Ent.refl _)))⟩
    · rintro k τ ⟨j, hjk, rfl⟩
      rcases Nat.lt_or_ge j l.length with hlt | hge
      · obtain ⟨⟨zo, za, zs⟩, hz⟩ : ∃ z, l[j]? = some z := ⟨_, List.getElem?_eq_getElem hlt⟩
        have htk : maxOwn (l.take (j + 1)) = if zo then max (maxOwn (l.take j)) zs else maxOwn (l.take j) := by rw [List.take_add_one, hz, Option.toList_some, maxOwn_snoc]
        generalize maxOwn (l.take j) = m at *
        cases zo
        · repeat' (first
            | (show WS _ _ _ (.region 10 _ true) _ _; first | refine WS_drawK [0, 1, 2, 3, 4, 5, 6, 7, 8, 9, 10] 10 [4, 6, 7] (by decide +kernel) rfl ?_ | refine WS_drawN 8 13 [0, 1, 2, 3, 4, 5, 6, 7, 8, 9, 10] 10 [4] (by decide +kernel) rfl rfl rfl iI iI ?_)
            | (show WS _ _ _ (.region 20 _ true) _ _; first | refine WS_drawK [0, 1, 2, 3] 3 [1] (by decide +kernel) rfl ?_ | refine WS_drawN 7 14 [0, 1, 2, 3] 3 [] (by decide +kernel) rfl rfl rfl iI iI ?_)
            | (refine WS_seqK ?_; intro K hK)
            | (refine hK _ ?_; clear hK K)
            | (with_reducible (first | refine thenS_n ?_ | refine thenS_e ?_ | refine blockS_n ?_ | refine blockS_e ?_ | refine blockS_o rfl ?_ | refine thenS_r ?_ | refine blockS_r ?_ | refine use_K (by assumption) ?_))
            | refine WS_region ?_
            | refine LS_nil ?_
            | (first | refine DL_nilA ?_ | refine DL_nilS ?_ | refine DL_nilN ?_ | refine DL_nilE ?_ | refine DL_nilR ?_)
            | (first | refine DL_claimS rfl ?_ | refine DL_claim rfl rfl ?_)
            | (refine DL_alloc iI rfl ?_; intro g)
            | ((first | refine' LQ ?h rfl ?_ | refine' DL_qp rfl rfl rfl ?h ?_ | refine' DL_q rfl rfl ?h ?_); case h => intro F'; first | exact Q_move rfl | exact Q_assign rfl | exact Q_nilCheck rfl | exact Q_fieldAddr rfl iI rfl | exact Q_load rfl iI iI rfl | exact Q_bin_t rfl rfl iI (by first | assumption | omega) | exact Q_bin_f rfl rfl iI (by first | assumption | omega) | exact Q_bin_nt rfl rfl iI (by first | assumption | omega) | exact Q_bin_nf rfl rfl iI (by first | assumption | omega) | exact Q_addI rfl rfl (by omega) | exact Q_subI rfl rfl (by omega) | exact Q_extract rfl rfl | exact Q_loadA rfl iI iI rfl | exact Q_build iI iI rfl rfl | exact Q_buildA iI iI iI rfl rfl | exact Q_len rfl iI | exact Q_lenS rfl iI | exact Q_index rfl rfl iI iI iI iI (by first | assumption | omega | (simp [be_length] <;> omega)) | exact Q_fieldR rfl iI iI rfl (by first | assumption | omega | (simp [be_length] <;> omega)) | exact Q_loadR rfl iI iI iI (by assumption) rfl | exact Q_loadR rfl iI iI iI rfl rfl | exact Q_loadRA rfl iI iI iI (by assumption) | exact Q_lenR rfl iI iI | exact Q_lenM rfl iI iI | exact Q_maxI rfl rfl | exact Q_max32 rfl rfl iI iI | exact Q_max64 rfl rfl iI iI | exact Q_addS rfl rfl (by first | omega | (simp [be_length] <;> omega)) | exact Q_indexV rfl rfl iI iI iI (by first | assumption | omega) | exact Q_nilCheck_f rfl | exact Q_quoI rfl rfl (by omega) | exact Q_remI rfl rfl (by omega) | exact Q_mulI rfl rfl (by omega))
            | ((first | refine LS_binS rfl rfl iI rfl ?_ ?_ | refine LS_binN rfl rfl iI rfl ?_ ?_ | refine DL_binS rfl rfl iI rfl ?_ ?_) <;> intro hc)
            | ((first | refine' LQ ?h rfl ?_ | refine' DL_qp rfl rfl rfl ?h ?_ | refine' DL_q rfl rfl ?h ?_); case h => intro F'; first | exact Q_bin rfl rfl iI)
            | ((first | refine' LS_h ?h rfl ?_ | refine' DL_h ?h rfl rfl rfl ?_); (case h => first | exact H_alloc iI | exact H_box rfl | exact H_boxO rfl iI | exact H_box1 rfl (by first | rfl | assumption)); intro g)
            | ((first | refine' LS_h0 ?h ?_ | refine' DL_h0 ?h rfl rfl ?_); (case h => first | exact H_storeO rfl rfl iI iI iI rfl | exact H_storeAO rfl rfl iI iI iI rfl | exact H_store8 rfl rfl iI iI rfl iI (by first | assumption | omega | (simp [be_length] <;> omega)) | exact H_storeRA _ rfl rfl rfl iI iI iI rfl rfl (by first | assumption | omega | (simp [be_length] <;> omega)) | exact H_storeR _ rfl rfl iI iI iI rfl (by assumption) rfl | exact H_store rfl rfl iI (by first | rfl | assumption) iI rfl | exact H_storeA rfl rfl iI iI (by first | rfl | (simp only [List.all_cons, List.all_nil, *]; rfl)) rfl); intro g)
            | (first | refine WS_block ?_ | refine WS_skip ?_ | refine WS_ret ?_ | refine WS_exit ?_ | refine WS_label ?_)
            | (show WS _ _ _ (.cond _ _ _) _ _; first | refine WS_condT rfl iI ?_ | refine WS_condF rfl iI ?_ | refine WS_condH_t rfl (by assumption) ?_ | refine WS_condH_f rfl (by assumption) ?_ | (refine WS_cond rfl ?_ ?_ <;> intro hc <;> (try simp only [decide_eq_true_eq, decide_eq_false_iff_not, Bool.not_eq_eq_eq_not, Bool.not_true, Bool.not_false, Bool.and_eq_true, Bool.or_eq_true, bne_iff_ne, beq_iff_eq, ne_eq, Decidable.not_not] at hc) <;> (try (exfalso; first | contradiction | omega; done)))))
          exact ⟨k - 1, _, by omega, ⟨j + 1, by omega, rfl⟩, ⟨rfl, rfl, rfl, rfl, rfl, rfl, rfl, rfl, rfl, trivial⟩, rfl, by rw [htk]; simp only [Bool.false_eq_true, if_false]; ((try simp only [star_assoc, emp_star, star_emp]); (repeat' (first | exact Ent.last | refine Ent.take ?_ | refine Ent.nilT ?_ | refine Ent.takeR (by first | rfl | assumption | (simp; done)) ?_ | exact Ent.refl _)))⟩
        · repeat' (first
            | (show WS _ _ _ (.region 10 _ true) _ _; first | refine WS_drawK [0, 1, 2, 3, 4, 5, 6, 7, 8, 9, 10] 10 [4, 6, 7] (by decide +kernel) rfl ?_ | refine WS_drawN 8 13 [0, 1, 2, 3, 4, 5, 6, 7, 8, 9, 10] 10 [4] (by decide +kernel) rfl rfl rfl iI iI ?_)
            | (show WS _ _ _ (.region 20 _ true) _ _; first | refine WS_drawK [0, 1, 2, 3] 3 [1] (by decide +kernel) rfl ?_ | refine WS_drawN 7 14 [0, 1, 2, 3] 3 [] (by decide +kernel) rfl rfl rfl iI iI ?_)
            | (refine WS_seqK ?_; intro K hK)
            | (refine hK _ ?_; clear hK K)
            | (with_reducible (first | refine thenS_n ?_ | refine thenS_e ?_ | refine blockS_n ?_ | refine blockS_e ?_ | refine blockS_o rfl ?_ | refine thenS_r ?_ | refine blockS_r ?_ | refine use_K (by assumption) ?_))
            | refine WS_region ?_
            | refine LS_nil ?_
            | (first | refine DL_nilA ?_ | refine DL_nilS ?_ | refine DL_nilN ?_ | refine DL_nilE ?_ | refine DL_nilR ?_)
            | (first | refine DL_claimS rfl ?_ | refine DL_claim rfl rfl ?_)
            | (refine DL_alloc iI rfl ?_; intro g)
            | ((first | refine' LQ ?h rfl ?_ | refine' DL_qp rfl rfl rfl ?h ?_ | refine' DL_q rfl rfl ?h ?_); case h => intro F'; first | exact Q_move rfl | exact Q_assign rfl | exact Q_nilCheck rfl | exact Q_fieldAddr rfl iI rfl | exact Q_load rfl iI iI rfl | exact Q_bin_t rfl rfl iI (by first | assumption | omega) | exact Q_bin_f rfl rfl iI (by first | assumption | omega) | exact Q_bin_nt rfl rfl iI (by first | assumption | omega) | exact Q_bin_nf rfl rfl iI (by first | assumption | omega) | exact Q_addI rfl rfl (by omega) | exact Q_subI rfl rfl (by omega) | exact Q_extract rfl rfl | exact Q_loadA rfl iI iI rfl | exact Q_build iI iI rfl rfl | exact Q_buildA iI iI iI rfl rfl | exact Q_len rfl iI | exact Q_lenS rfl iI | exact Q_index rfl rfl iI iI iI iI (by first | assumption | omega | (simp [be_length] <;> omega)) | exact Q_fieldR rfl iI iI rfl (by first | assumption | omega | (simp [be_length] <;> omega)) | exact Q_loadR rfl iI iI iI (by assumption) rfl | exact Q_loadR rfl iI iI iI rfl rfl | exact Q_loadRA rfl iI iI iI (by assumption) | exact Q_lenR rfl iI iI | exact Q_lenM rfl iI iI | exact Q_maxI rfl rfl | exact Q_max32 rfl rfl iI iI | exact Q_max64 rfl rfl iI iI | exact Q_addS rfl rfl (by first | omega | (simp [be_length] <;> omega)) | exact Q_indexV rfl rfl iI iI iI (by first | assumption | omega) | exact Q_nilCheck_f rfl | exact Q_quoI rfl rfl (by omega) | exact Q_remI rfl rfl (by omega) | exact Q_mulI rfl rfl (by omega))
            | ((first | refine LS_binS rfl rfl iI rfl ?_ ?_ | refine LS_binN rfl rfl iI rfl ?_ ?_ | refine DL_binS rfl rfl iI rfl ?_ ?_) <;> intro hc)
            | ((first | refine' LQ ?h rfl ?_ | refine' DL_qp rfl rfl rfl ?h ?_ | refine' DL_q rfl rfl ?h ?_); case h => intro F'; first | exact Q_bin rfl rfl iI)
            | ((first | refine' LS_h ?h rfl ?_ | refine' DL_h ?h rfl rfl rfl ?_); (case h => first | exact H_alloc iI | exact H_box rfl | exact H_boxO rfl iI | exact H_box1 rfl (by first | rfl | assumption)); intro g)
            | ((first | refine' LS_h0 ?h ?_ | refine' DL_h0 ?h rfl rfl ?_); (case h => first | exact H_storeO rfl rfl iI iI iI rfl | exact H_storeAO rfl rfl iI iI iI rfl | exact H_store8 rfl rfl iI iI rfl iI (by first | assumption | omega | (simp [be_length] <;> omega)) | exact H_storeRA _ rfl rfl rfl iI iI iI rfl rfl (by first | assumption | omega | (simp [be_length] <;> omega)) | exact H_storeR _ rfl rfl iI iI iI rfl (by assumption) rfl | exact H_store rfl rfl iI (by first | rfl | assumption) iI rfl | exact H_storeA rfl rfl iI iI (by first | rfl | (simp only [List.all_cons, List.all_nil, *]; rfl)) rfl); intro g)
            | (first | refine WS_block ?_ | refine WS_skip ?_ | refine WS_ret ?_ | refine WS_exit ?_ | refine WS_label ?_)
            | (show WS _ _ _ (.cond _ _ _) _ _; first | refine WS_condT rfl iI ?_ | refine WS_condF rfl iI ?_ | refine WS_condH_t rfl (by assumption) ?_ | refine WS_condH_f rfl (by assumption) ?_ | (refine WS_cond rfl ?_ ?_ <;> intro hc <;> (try simp only [decide_eq_true_eq, decide_eq_false_iff_not, Bool.not_eq_eq_eq_not, Bool.not_true, Bool.not_false, Bool.and_eq_true, Bool.or_eq_true, bne_iff_ne, beq_iff_eq, ne_eq, Decidable.not_not] at hc) <;> (try (exfalso; first | contradiction | omega; done)))))
          exact ⟨k - 1, _, by omega, ⟨j + 1, by omega, rfl⟩, ⟨rfl, rfl, rfl, rfl, rfl, rfl, rfl, rfl, rfl, trivial⟩, rfl, by rw [htk]; simp only [if_true]; ((try simp only [star_assoc, emp_star, star_emp]); (repeat' (first | exact Ent.last | refine Ent.take ?_ | refine Ent.nilT ?_ | refine Ent.takeR (by first | rfl | assumption | (simp; done)) ?_ | exact Ent.refl _)))⟩
      · obtain rfl : j = l.length := by omega
        rw [List.take_of_length_le (Nat.le_refl _)]
        repeat' (first
          | (show WS _ _ _ (.region 10 _ true) _ _; first | refine WS_drawK [0, 1, 2, 3, 4, 5, 6, 7, 8, 9, 10] 10 [4, 6, 7] (by decide +kernel) rfl ?_ | refine WS_drawN 8 13 [0, 1, 2, 3, 4, 5, 6, 7, 8, 9, 10] 10 [4] (by decide +kernel) rfl rfl rfl iI iI ?_)
          | (show WS _ _ _ (.region 20 _ true) _ _; first | refine WS_drawK [0, 1, 2, 3] 3 [1] (by decide +kernel) rfl ?_ | refine WS_drawN 7 14 [0, 1, 2, 3] 3 [] (by decide +kernel) rfl rfl rfl iI iI ?_)
          | (refine WS_seqK ?_; intro K hK)
          | (refine hK _ ?_; clear hK K)
          | (with_reducible (first | refine thenS_n ?_ | refine thenS_e ?_ | refine blockS_n ?_ | refine blockS_e ?_ | refine blockS_o rfl ?_ | refine thenS_r ?_ | refine blockS_r ?_ | refine use_K (by assumption) ?_))
          | refine WS_region ?_
          | refine LS_nil ?_
          | (first | refine DL_nilA ?_ | refine DL_nilS ?_ | refine DL_nilN ?_ | refine DL_nilE ?_ | refine DL_nilR ?_)
          | (first | refine DL_claimS rfl ?_ | refine DL_claim rfl rfl ?_)
          | (refine DL_alloc iI rfl ?_; intro g)
          | ((first | refine' LQ ?h rfl ?_ | refine' DL_qp rfl rfl rfl ?h ?_ | refine' DL_q rfl rfl ?h ?_); case h => intro F'; first | exact Q_move rfl | exact Q_assign rfl | exact Q_nilCheck rfl | exact Q_fieldAddr rfl iI rfl | exact Q_load rfl iI iI rfl | exact Q_bin_t rfl rfl iI (by first | assumption | omega) | exact Q_bin_f rfl rfl iI (by first | assumption | omega) | exact Q_bin_nt rfl rfl iI (by first | assumption | omega) | exact Q_bin_nf rfl rfl iI (by first | assumption | omega) | exact Q_addI rfl rfl (by omega) | exact Q_subI rfl rfl (by omega) | exact Q_extract rfl rfl | exact Q_loadA rfl iI iI rfl | exact Q_build iI iI rfl rfl | exact Q_buildA iI iI iI rfl rfl | exact Q_len rfl iI | exact Q_lenS rfl iI | exact Q_index rfl rfl iI iI iI iI (by first | assumption | omega | (simp [be_length] <;> omega)) | exact Q_fieldR rfl iI iI rfl (by first | assumption | omega | (simp [be_length] <;> omega)) | exact Q_loadR rfl iI iI iI (by assumption) rfl | exact Q_loadR rfl iI iI iI rfl rfl | exact Q_loadRA rfl iI iI iI (by assumption) | exact Q_lenR rfl iI iI | exact Q_lenM rfl iI iI | exact Q_maxI rfl rfl | exact Q_max32 rfl rfl iI iI | exact Q_max64 rfl rfl iI iI | exact Q_addS rfl rfl (by first | omega | (simp [be_length] <;> omega)) | exact Q_indexV rfl rfl iI iI iI (by first | assumption | omega) | exact Q_nilCheck_f rfl | exact Q_quoI rfl rfl (by omega) | exact Q_remI rfl rfl (by omega) | exact Q_mulI rfl rfl (by omega))
          | ((first | refine LS_binS rfl rfl iI rfl ?_ ?_ | refine LS_binN rfl rfl iI rfl ?_ ?_ | refine DL_binS rfl rfl iI rfl ?_ ?_) <;> intro hc)
          | ((first | refine' LQ ?h rfl ?_ | refine' DL_qp rfl rfl rfl ?h ?_ | refine' DL_q rfl rfl ?h ?_); case h => intro F'; first | exact Q_bin rfl rfl iI)
          | ((first | refine' LS_h ?h rfl ?_ | refine' DL_h ?h rfl rfl rfl ?_); (case h => first | exact H_alloc iI | exact H_box rfl | exact H_boxO rfl iI | exact H_box1 rfl (by first | rfl | assumption)); intro g)
          | ((first | refine' LS_h0 ?h ?_ | refine' DL_h0 ?h rfl rfl ?_); (case h => first | exact H_storeO rfl rfl iI iI iI rfl | exact H_storeAO rfl rfl iI iI iI rfl | exact H_store8 rfl rfl iI iI rfl iI (by first | assumption | omega | (simp [be_length] <;> omega)) | exact H_storeRA _ rfl rfl rfl iI iI iI rfl rfl (by first | assumption | omega | (simp [be_length] <;> omega)) | exact H_storeR _ rfl rfl iI iI iI rfl (by assumption) rfl | exact H_store rfl rfl iI (by first | rfl | assumption) iI rfl | exact H_storeA rfl rfl iI iI (by first | rfl | (simp only [List.all_cons, List.all_nil, *]; rfl)) rfl); intro g)
          | (first | refine WS_block ?_ | refine WS_skip ?_ | refine WS_ret ?_ | refine WS_exit ?_ | refine WS_label ?_)
          | (show WS _ _ _ (.cond _ _ _) _ _; first | refine WS_condT rfl iI ?_ | refine WS_condF rfl iI ?_ | refine WS_condH_t rfl (by assumption) ?_ | refine WS_condH_f rfl (by assumption) ?_ | (refine WS_cond rfl ?_ ?_ <;> intro hc <;> (try simp only [decide_eq_true_eq, decide_eq_false_iff_not, Bool.not_eq_eq_eq_not, Bool.not_true, Bool.not_false, Bool.and_eq_true, Bool.or_eq_true, bne_iff_ne, beq_iff_eq, ne_eq, Decidable.not_not] at hc) <;> (try (exfalso; first | contradiction | omega; done))))
          | (refine LS_h (H_callX iI rfl p4 iI) rfl ?_; intro t2)
          | (refine LS_h (H_call0 iI rfl p5) rfl ?_; intro u5))
        have es : Nd.booted self b now = { Nd.blank self with seq := if maxOwn l + 1 = 0 then maxOwn l else maxOwn l + 1, ls := newT self (compR l), silent := now + 2000 } := by unfold Nd.booted; rw [if_pos hb0, hj]; rfl
        refine LS_ent (H' := nodPm 0 gn (Nd.booted self b now) ⟨t2, .slice none 0 0, r0, r1, .slice none 0 0, r2, r3, r4, cb.1, cb.2, .slice none 0 0, .slice none 0 0, .slice none 0 0, .slice none 0 0, []⟩ * (cel g0 35 [strV [], .bool false, .slice none 0 0, .slice none 0 0, .slice none 0 0] * (X * G))) (by rw [es]; refine node0 gn t2 r0 r1 r2 r3 r4 cb self (if maxOwn l + 1 = 0 then maxOwn l else maxOwn l + 1) (newT self (compR l)) (now + 2000) ?_; rw [hR]; simp only [emp_star]; ((try simp only [star_assoc, emp_star, star_emp]); (repeat' (first | exact Ent.last | refine Ent.take ?_ | refine Ent.nilT ?_ | refine Ent.takeR (by first | rfl | assumption | (simp; done)) ?_ | exact Ent.refl _)))) ?_
        generalize (⟨t2, .slice none 0 0, r0, r1, .slice none 0 0, r2, r3, r4, cb.1, cb.2, .slice none 0 0, .slice none 0 0, .slice none 0 0, .slice none 0 0, []⟩ : NH) = h0
        have hok := Nd.booted_ok self b now
        obtain ⟨s0, hs0⟩ : ∃ s0 : Nd, s0 = Nd.booted self b now := ⟨_, rfl⟩
        have en : Nd.new self b now = (s0.write ⟨true, 0, if maxOwn l + 1 = 0 then maxOwn l else maxOwn l + 1⟩).note := by unfold Nd.new; rw [hs0, es]
        rw [← hs0] at hok ⊢
        have hr0 : s0.recs = [] := by rw [hs0, es]; rfl
        have hj0 : s0.out.journal = [] := by rw [hs0, es]; rfl
        have q1 := nwrite_spec w0 0 gn s0 h0 ⟨true, 0, if maxOwn l + 1 = 0 then maxOwn l else maxOwn l + 1⟩ (by rw [hr0]; simp) (by rw [hj0]; simp)
        have q2 := fun vr => note_spec w0 0 gn (s0.write ⟨true, 0, if maxOwn l + 1 = 0 then maxOwn l else maxOwn l + 1⟩) { h0 with vr := vr } (Nd.Room.write (k := 10) ⟨by rw [hr0]; simp, by rw [hj0]; simp⟩ _) hok
        rw [← en] at q2
        obtain ⟨s9, hs9⟩ : ∃ s9 : Nd, s9 = Nd.new self b now := ⟨_, rfl⟩
        rw [← hs9] at q2
        simp only [nodPm, outH] at q1 q2 ⊢
        simp only [nodC] at q1 q2 ⊢
        repeat' (first
          | (refine WS_seqK ?_; intro K hK)
          | (refine hK _ ?_; clear hK K)
          | (with_reducible (first | refine thenS_n ?_ | refine thenS_e ?_ | refine blockS_n ?_ | refine blockS_e ?_ | refine blockS_o rfl ?_ | refine thenS_r ?_ | refine blockS_r ?_ | refine use_K (by assumption) ?_))
          | refine WS_region ?_
          | refine LS_nil ?_
          | (first | refine DL_nilA ?_ | refine DL_nilS ?_ | refine DL_nilN ?_ | refine DL_nilE ?_ | refine DL_nilR ?_)
          | (first | refine DL_claimS rfl ?_ | refine DL_claim rfl rfl ?_)
          | (refine DL_alloc iI rfl ?_; intro g)
          | ((first | refine' LQ ?h rfl ?_ | refine' DL_qp rfl rfl rfl ?h ?_ | refine' DL_q rfl rfl ?h ?_); case h => intro F'; first | exact Q_move rfl | exact Q_assign rfl | exact Q_nilCheck rfl | exact Q_fieldAddr rfl iI rfl | exact Q_load rfl iI iI rfl | exact Q_bin_t rfl rfl iI (by first | assumption | omega) | exact Q_bin_f rfl rfl iI (by first | assumption | omega) | exact Q_bin_nt rfl rfl iI (by first | assumption | omega) | exact Q_bin_nf rfl rfl iI (by first | assumption | omega) | exact Q_addI rfl rfl (by omega) | exact Q_subI rfl rfl (by omega) | exact Q_extract rfl rfl | exact Q_loadA rfl iI iI rfl | exact Q_build iI iI rfl rfl | exact Q_buildA iI iI iI rfl rfl | exact Q_len rfl iI | exact Q_lenS rfl iI | exact Q_index rfl rfl iI iI iI iI (by first | assumption | omega | (simp [be_length] <;> omega)) | exact Q_fieldR rfl iI iI rfl (by first | assumption | omega | (simp [be_length] <;> omega)) | exact Q_loadR rfl iI iI iI (by assumption) rfl | exact Q_loadR rfl iI iI iI rfl rfl | exact Q_loadRA rfl iI iI iI (by assumption) | exact Q_lenR rfl iI iI | exact Q_lenM rfl iI iI | exact Q_maxI rfl rfl | exact Q_max32 rfl rfl iI iI | exact Q_max64 rfl rfl iI iI | exact Q_addS rfl rfl (by first | omega | (simp [be_length] <;> omega)) | exact Q_indexV rfl rfl iI iI iI (by first | assumption | omega) | exact Q_nilCheck_f rfl | exact Q_quoI rfl rfl (by omega) | exact Q_remI rfl rfl (by omega) | exact Q_mulI rfl rfl (by omega))
          | ((first | refine LS_binS rfl rfl iI rfl ?_ ?_ | refine LS_binN rfl rfl iI rfl ?_ ?_ | refine DL_binS rfl rfl iI rfl ?_ ?_) <;> intro hc)
          | ((first | refine' LQ ?h rfl ?_ | refine' DL_qp rfl rfl rfl ?h ?_ | refine' DL_q rfl rfl ?h ?_); case h => intro F'; first | exact Q_bin rfl rfl iI)
          | ((first | refine' LS_h ?h rfl ?_ | refine' DL_h ?h rfl rfl rfl ?_); (case h => first | exact H_alloc iI | exact H_box rfl | exact H_boxO rfl iI | exact H_box1 rfl (by first | rfl | assumption)); intro g)
          | ((first | refine' LS_h0 ?h ?_ | refine' DL_h0 ?h rfl rfl ?_); (case h => first | exact H_storeO rfl rfl iI iI iI rfl | exact H_storeAO rfl rfl iI iI iI rfl | exact H_store8 rfl rfl iI iI rfl iI (by first | assumption | omega | (simp [be_length] <;> omega)) | exact H_storeRA _ rfl rfl rfl iI iI iI rfl rfl (by first | assumption | omega | (simp [be_length] <;> omega)) | exact H_storeR _ rfl rfl iI iI iI rfl (by assumption) rfl | exact H_store rfl rfl iI (by first | rfl | assumption) iI rfl | exact H_storeA rfl rfl iI iI (by first | rfl | (simp only [List.all_cons, List.all_nil, *]; rfl)) rfl); intro g)
          | (first | refine WS_block ?_ | refine WS_skip ?_ | refine WS_ret ?_ | refine WS_exit ?_ | refine WS_label ?_)
          | (show WS _ _ _ (.cond _ _ _) _ _; first | refine WS_condT rfl iI ?_ | refine WS_condF rfl iI ?_ | refine WS_condH_t rfl (by assumption) ?_ | refine WS_condH_f rfl (by assumption) ?_ | (refine WS_cond rfl ?_ ?_ <;> intro hc <;> (try simp only [decide_eq_true_eq, decide_eq_false_iff_not, Bool.not_eq_eq_eq_not, Bool.not_true, Bool.not_false, Bool.and_eq_true, Bool.or_eq_true, bne_iff_ne, beq_iff_eq, ne_eq, Decidable.not_not] at hc) <;> (try (exfalso; first | contradiction | omega; done))))
          | refine WS_drawS (by kernel_rfl) ?_
          | (refine LS_h (H_callX iI rfl q1 iI) rfl ?_; intro v1; replace q2 := q2 v1)
          | (refine LS_h (H_callX iI rfl q2 iI) rfl ?_; intro v2))
        refine ret_2 (.inl rfl) rfl (RV_tmp rfl) (RV_cell rfl iI iI rfl) ⟨(gn, (h0.vf, h0.vc, h0.vd)), ?_, ?_⟩
        · unfold Nd.newO outA
          rw [← hs9]
          simp [hb0]
        · unfold Nd.newO outR
          rw [← hs9, star_assoc (nodI _ _)]
          refine ent_nodI { h0 with vr := v2, vf := .slice none 0 0, vc := .slice none 0 0, vd := .slice none 0 0 } OutD.zero ?_
          have er : restP gn s9 { h0 with vr := v2, vf := .slice none 0 0, vc := .slice none 0 0, vd := .slice none 0 0 } = restP gn s9 { h0 with vr := v2 } := rfl
          rw [er]
          simp only [nodC, OutD.zero]
          ((try simp only [star_assoc, emp_star, star_emp]); (repeat' (first | exact Ent.last | refine Ent.take ?_ | refine Ent.nilT ?_ | refine Ent.takeR (by first | rfl | assumption | (simp; done)) ?_ | exact Ent.refl _)))
  · repeat' (first
      | (refine WS_seqK ?_; intro K hK)
      | (refine hK _ ?_; clear hK K)
      | (with_reducible (first | refine thenS_n ?_ | refine thenS_e ?_ | refine blockS_n ?_ | refine blockS_e ?_ | refine blockS_o rfl ?_ | refine thenS_r ?_ | refine blockS_r ?_ | refine use_K (by assumption) ?_))
      | refine WS_region ?_
      | refine LS_nil ?_
      | (first | refine DL_nilA ?_ | refine DL_nilS ?_ | refine DL_nilN ?_ | refine DL_nilE ?_ | refine DL_nilR ?_)
      | (first | refine DL_claimS rfl ?_ | refine DL_claim rfl rfl ?_)
      | (refine DL_alloc iI rfl ?_; intro g)
      | ((first | refine' LQ ?h rfl ?_ | refine' DL_qp rfl rfl rfl ?h ?_ | refine' DL_q rfl rfl ?h ?_); case h => intro F'; first | exact Q_move rfl | exact Q_assign rfl | exact Q_nilCheck rfl | exact Q_fieldAddr rfl iI rfl | exact Q_load rfl iI iI rfl | exact Q_bin_t rfl rfl iI (by first | assumption | omega) | exact Q_bin_f rfl rfl iI (by first | assumption | omega) | exact Q_bin_nt rfl rfl iI (by first | assumption | omega) | exact Q_bin_nf rfl rfl iI (by first | assumption | omega) | exact Q_addI rfl rfl (by omega) | exact Q_subI rfl rfl (by omega) | exact Q_extract rfl rfl | exact Q_loadA rfl iI iI rfl | exact Q_build iI iI rfl rfl | exact Q_buildA iI iI iI rfl rfl | exact Q_len rfl iI | exact Q_lenS rfl iI | exact Q_index rfl rfl iI iI iI iI (by first | assumption | omega | (simp [be_length] <;> omega)) | exact Q_fieldR rfl iI iI rfl (by first | assumption | omega | (simp [be_length] <;> omega)) | exact Q_loadR rfl iI iI iI (by assumption) rfl | exact Q_loadR rfl iI iI iI rfl rfl | exact Q_loadRA rfl iI iI iI (by assumption) | exact Q_lenR rfl iI iI | exact Q_lenM rfl iI iI | exact Q_maxI rfl rfl | exact Q_max32 rfl rfl iI iI | exact Q_max64 rfl rfl iI iI | exact Q_addS rfl rfl (by first | omega | (simp [be_length] <;> omega)) | exact Q_indexV rfl rfl iI iI iI (by first | assumption | omega) | exact Q_nilCheck_f rfl | exact Q_quoI rfl rfl (by omega) | exact Q_remI rfl rfl (by omega) | exact Q_mulI rfl rfl (by omega))
      | ((first | refine LS_binS rfl rfl iI rfl ?_ ?_ | refine LS_binN rfl rfl iI rfl ?_ ?_ | refine DL_binS rfl rfl iI rfl ?_ ?_) <;> intro hc)
      | ((first | refine' LQ ?h rfl ?_ | refine' DL_qp rfl rfl rfl ?h ?_ | refine' DL_q rfl rfl ?h ?_); case h => intro F'; first | exact Q_bin rfl rfl iI)
      | ((first | refine' LS_h0 ?h ?_ | refine' DL_h0 ?h rfl rfl ?_); (case h => first | exact H_storeO rfl rfl iI iI iI rfl | exact H_storeAO rfl rfl iI iI iI rfl | exact H_store8 rfl rfl iI iI rfl iI (by first | assumption | omega | (simp [be_length] <;> omega)) | exact H_storeRA _ rfl rfl rfl iI iI iI rfl rfl (by first | assumption | omega | (simp [be_length] <;> omega)) | exact H_storeR _ rfl rfl iI iI iI rfl (by assumption) rfl | exact H_store rfl rfl iI (by first | rfl | assumption) iI rfl | exact H_storeA rfl rfl iI iI (by first | rfl | (simp only [List.all_cons, List.all_nil, *]; rfl)) rfl); intro g)
      | (first | refine WS_block ?_ | refine WS_skip ?_ | refine WS_ret ?_ | refine WS_exit ?_ | refine WS_label ?_)
      | (show WS _ _ _ (.cond _ _ _) _ _; first | refine WS_condT rfl iI ?_ | refine WS_condF rfl iI ?_ | refine WS_condH_t rfl (by assumption) ?_ | refine WS_condH_f rfl (by assumption) ?_ | (refine WS_cond rfl ?_ ?_ <;> intro hc <;> (try simp only [decide_eq_true_eq, decide_eq_false_iff_not, Bool.not_eq_eq_eq_not, Bool.not_true, Bool.not_false, Bool.and_eq_true, Bool.or_eq_true, bne_iff_ne, beq_iff_eq, ne_eq, Decidable.not_not] at hc) <;> (try (exfalso; first | contradiction | omega; done))))
      | refine WS_drawS (by kernel_rfl) ?_
      | (refine LS_h (H_alloc iI) rfl ?_; intro g0)
      | (refine LS_h (H_box rfl) rfl ?_; intro gn)
      | (refine LS_h (H_callX iI rfl p1 iI) rfl ?_; intro tb)
      | (refine LS_h (H_call0 iI rfl p2) rfl ?_; intro cb)
      | (refine LS_h (H_makeMap u32 u32 (d := some 18)) rfl ?_; intro r0)
      | (refine LS_h (H_makeMap u32 u32 (d := some 20)) rfl ?_; intro r1)
      | (refine LS_h (H_makeMap u32 u32 (d := some 21)) rfl ?_; intro r2)
      | (refine LS_h (H_makeMap u32 u32 (d := some 22)) rfl ?_; intro r3)
      | (refine LS_h (H_makeMap u32 u32 (d := some 23)) rfl ?_; intro r4))
    have es : Nd.booted self b now = { Nd.blank self with seq := 1, ls := [], silent := 0 } := by unfold Nd.booted; rw [if_neg hb0]; rfl
    refine LS_ent (H' := nodPm 0 gn (Nd.booted self b now) ⟨tb, .slice none 0 0, r0, r1, .slice none 0 0, r2, r3, r4, cb.1, cb.2, .slice none 0 0, .slice none 0 0, .slice none 0 0, .slice none 0 0, []⟩ * (cel g0 35 [strV [], .bool false, .slice none 0 0, .slice none 0 0, .slice none 0 0] * (X * G))) (by rw [es]; refine node0 gn tb r0 r1 r2 r3 r4 cb self (1) ([]) (0) ?_; have ez : (Value.int .u32 1 : Value) = u32 1 := rfl; rw [ez]; ((try simp only [star_assoc, emp_star, star_emp]); (repeat' (first | exact Ent.last | refine Ent.take ?_ | refine Ent.nilT ?_ | refine Ent.takeR (by first | rfl | assumption | (simp; done)) ?_ | exact Ent.refl _)))) ?_
    generalize (⟨tb, .slice none 0 0, r0, r1, .slice none 0 0, r2, r3, r4, cb.1, cb.2, .slice none 0 0, .slice none 0 0, .slice none 0 0, .slice none 0 0, []⟩ : NH) = h0
    have hok := Nd.booted_ok self b now
    obtain ⟨s0, hs0⟩ : ∃ s0 : Nd, s0 = Nd.booted self b now := ⟨_, rfl⟩
    have en : Nd.new self b now = (s0.write ⟨true, 0, 1⟩).note := by unfold Nd.new; rw [hs0, es]
    rw [← hs0] at hok ⊢
    have hr0 : s0.recs = [] := by rw [hs0, es]; rfl
    have hj0 : s0.out.journal = [] := by rw [hs0, es]; rfl
    have q1 := nwrite_spec w0 0 gn s0 h0 ⟨true, 0, 1⟩ (by rw [hr0]; simp) (by rw [hj0]; simp)
    have q2 := fun vr => note_spec w0 0 gn (s0.write ⟨true, 0, 1⟩) { h0 with vr := vr } (Nd.Room.write (k := 10) ⟨by rw [hr0]; simp, by rw [hj0]; simp⟩ _) hok
    rw [← en] at q2
    obtain ⟨s9, hs9⟩ : ∃ s9 : Nd, s9 = Nd.new self b now := ⟨_, rfl⟩
    rw [← hs9] at q2
    simp only [nodPm, outH] at q1 q2 ⊢
    simp only [nodC] at q1 q2 ⊢
    repeat' (first
      | (refine WS_seqK ?_; intro K hK)
      | (refine hK _ ?_; clear hK K)
      | (with_reducible (first | refine thenS_n ?_ | refine thenS_e ?_ | refine blockS_n ?_ | refine blockS_e ?_ | refine blockS_o rfl ?_ | refine thenS_r ?_ | refine blockS_r ?_ | refine use_K (by assumption) ?_))
      | refine WS_region ?_
      | refine LS_nil ?_
      | (first | refine DL_nilA ?_ | refine DL_nilS ?_ | refine DL_nilN ?_ | refine DL_nilE ?_ | refine DL_nilR ?_)
      | (first | refine DL_claimS rfl ?_ | refine DL_claim rfl rfl ?_)
      | (refine DL_alloc iI rfl ?_; intro g)
      | ((first | refine' LQ ?h rfl ?_ | refine' DL_qp rfl rfl rfl ?h ?_ | refine' DL_q rfl rfl ?h ?_); case h => intro F'; first | exact Q_move rfl | exact Q_assign rfl | exact Q_nilCheck rfl | exact Q_fieldAddr rfl iI rfl | exact Q_load rfl iI iI rfl | exact Q_bin_t rfl rfl iI (by first | assumption | omega) | exact Q_bin_f rfl rfl iI (by first | assumption | omega) | exact Q_bin_nt rfl rfl iI (by first | assumption | omega) | exact Q_bin_nf rfl rfl iI (by first | assumption | omega) | exact Q_addI rfl rfl (by omega) | exact Q_subI rfl rfl (by omega) | exact Q_extract rfl rfl | exact Q_loadA rfl iI iI rfl | exact Q_build iI iI rfl rfl | exact Q_buildA iI iI iI rfl rfl | exact Q_len rfl iI | exact Q_lenS rfl iI | exact Q_index rfl rfl iI iI iI iI (by first | assumption | omega | (simp [be_length] <;> omega)) | exact Q_fieldR rfl iI iI rfl (by first | assumption | omega | (simp [be_length] <;> omega)) | exact Q_loadR rfl iI iI iI (by assumption) rfl | exact Q_loadR rfl iI iI iI rfl rfl | exact Q_loadRA rfl iI iI iI (by assumption) | exact Q_lenR rfl iI iI | exact Q_lenM rfl iI iI | exact Q_maxI rfl rfl | exact Q_max32 rfl rfl iI iI | exact Q_max64 rfl rfl iI iI | exact Q_addS rfl rfl (by first | omega | (simp [be_length] <;> omega)) | exact Q_indexV rfl rfl iI iI iI (by first | assumption | omega) | exact Q_nilCheck_f rfl | exact Q_quoI rfl rfl (by omega) | exact Q_remI rfl rfl (by omega) | exact Q_mulI rfl rfl (by omega))
      | ((first | refine LS_binS rfl rfl iI rfl ?_ ?_ | refine LS_binN rfl rfl iI rfl ?_ ?_ | refine DL_binS rfl rfl iI rfl ?_ ?_) <;> intro hc)
      | ((first | refine' LQ ?h rfl ?_ | refine' DL_qp rfl rfl rfl ?h ?_ | refine' DL_q rfl rfl ?h ?_); case h => intro F'; first | exact Q_bin rfl rfl iI)
      | ((first | refine' LS_h ?h rfl ?_ | refine' DL_h ?h rfl rfl rfl ?_); (case h => first | exact H_alloc iI | exact H_box rfl | exact H_boxO rfl iI | exact H_box1 rfl (by first | rfl | assumption)); intro g)
      | ((first | refine' LS_h0 ?h ?_ | refine' DL_h0 ?h rfl rfl ?_); (case h => first | exact H_storeO rfl rfl iI iI iI rfl | exact H_storeAO rfl rfl iI iI iI rfl | exact H_store8 rfl rfl iI iI rfl iI (by first | assumption | omega | (simp [be_length] <;> omega)) | exact H_storeRA _ rfl rfl rfl iI iI iI rfl rfl (by first | assumption | omega | (simp [be_length] <;> omega)) | exact H_storeR _ rfl rfl iI iI iI rfl (by assumption) rfl | exact H_store rfl rfl iI (by first | rfl | assumption) iI rfl | exact H_storeA rfl rfl iI iI (by first | rfl | (simp only [List.all_cons, List.all_nil, *]; rfl)) rfl); intro g)
      | (first | refine WS_block ?_ | refine WS_skip ?_ | refine WS_ret ?_ | refine WS_exit ?_ | refine WS_label ?_)
      | (show WS _ _ _ (.cond _ _ _) _ _; first | refine WS_condT rfl iI ?_ | refine WS_condF rfl iI ?_ | refine WS_condH_t rfl (by assumption) ?_ | refine WS_condH_f rfl (by assumption) ?_ | (refine WS_cond rfl ?_ ?_ <;> intro hc <;> (try simp only [decide_eq_true_eq, decide_eq_false_iff_not, Bool.not_eq_eq_eq_not, Bool.not_true, Bool.not_false, Bool.and_eq_true, Bool.or_eq_true, bne_iff_ne, beq_iff_eq, ne_eq, Decidable.not_not] at hc) <;> (try (exfalso; first | contradiction | omega; done))))
      | refine WS_drawS (by kernel_rfl) ?_
      | (refine LS_h (H_callX iI rfl q1 iI) rfl ?_; intro v1; replace q2 := q2 v1)
      | (refine LS_h (H_callX iI rfl q2 iI) rfl ?_; intro v2))
    refine ret_2 (.inl rfl) rfl (RV_tmp rfl) (RV_cell rfl iI iI rfl) ⟨(gn, (h0.vf, h0.vc, h0.vd)), ?_, ?_⟩
    · unfold Nd.newO outA
      rw [← hs9]
      simp [hb0]
    · unfold Nd.newO outR
      rw [← hs9, star_assoc (nodI _ _)]
      refine ent_nodI { h0 with vr := v2, vf := .slice none 0 0, vc := .slice none 0 0, vd := .slice none 0 0 } OutD.zero ?_
      have er : restP gn s9 { h0 with vr := v2, vf := .slice none 0 0, vc := .slice none 0 0, vd := .slice none 0 0 } = restP gn s9 { h0 with vr := v2 } := rfl
      rw [er]
      simp only [nodC, OutD.zero]
      ((try simp only [star_assoc, emp_star, star_emp]); (repeat' (first | exact Ent.last | refine Ent.take ?_ | refine Ent.nilT ?_ | refine Ent.takeR (by first | rfl | assumption | (simp; done)) ?_ | exact Ent.refl _)))
end Go.Proofs.YtapoehkdnglahabGreat

/- What wire.Decode returns, by a walk. -/
namespace Go.Proofs.YtapoehkdnglahabGreat
open Go.RowKit
set_option linter.unusedVariables false
set_option linter.unusedSimpArgs false
theorem WS_at {P : Program} {n : Frm} {w0 : World} {c : Code} {Q : Exit → St → Prop} {σ : St} (h : ∀ w, Sat w0 w σ.H → WS P n w0 c Q σ) : WS P n w0 c Q σ := fun a w g => h w g.sat a w g
attribute [local irreducible] WS LS OpQ OpT OpH OpTQ Spec SpecQ SpecX DSpec cel AS
variable (w0 : World)
instance rdr_tail1 {w0 : World} {H : HProp} {v : Value} {α : Type} {size : Nat} {f : α → List Value} {b : α} {l : List α} [h : Rdr w0 H v α size f (b :: l)] : Rdr w0 H (sTail size v 1) α size f l := ⟨fun w hs => (h.at_ w hs).tail 1⟩
instance : IfaceT Tryz.prog 20 := ⟨by kernel_rfl⟩
section rules
variable {w0 : World} {n : Frm} {E : Env} {D : List Deferred} {H F : HProp} {ops : Array Oper} {ol : List Oper} {Q : Exit → St → Prop} {d : Nat} {xs : List Operand} {ts : Array TypeId} {ty : TypeId} {pos : String} {after : Array Edge} {g : Nat} {v : Value} {b : UInt8} {l : List UInt8}
theorem LS_one_t (hx : E.evs xs = some [ptr g 0]) (hl : LimbB H g 176 [v] F) (hX : Rdr w0 F v UInt8 1 byteC (b :: l)) (hd : Nat.blt d n.tmps = true) (h : LS Tryz.prog n w0 ops Q ol ⟨(d, .int .i64 (b.toNat : Int)) :: E, D, cel g 176 [sTail 1 v 1] * F⟩) : LS Tryz.prog n w0 ops Q (⟨some d, .call ⟨.value (.func 71), xs.toArray, ts⟩, ty, pos, after, none⟩ :: ol) ⟨E, D, H⟩ := by
  refine LS_h (H_callH inferInstance hx (one_t w0 (b :: l) v g F (by simp)) (hl.eq.trans star_emp.symm)) hd fun u => ?_
  rw [star_emp]
  exact h
theorem LS_one_f (hx : E.evs xs = some [ptr g 0]) (hl : LimbB H g 176 [v] F) (hX : Rdr w0 F v UInt8 1 byteC []) (h : Q (.panic brk) ⟨E, D, cel g 176 [v] * F⟩) : LS Tryz.prog n w0 ops Q (⟨some d, .call ⟨.value (.func 71), xs.toArray, ts⟩, ty, pos, after, none⟩ :: ol) ⟨E, D, H⟩ := by
  refine LS_callX inferInstance hx (one_f w0 [] v g F (by simp)) ⟨hl.eq.trans star_emp.symm⟩ ?_
  rw [star_emp]; exact h
theorem LS_four (hx : E.evs xs = some [ptr g 0]) (hl : LimbB H g 176 [v] F) (hX : Rdr w0 F v UInt8 1 byteC l) (hd : Nat.blt d n.tmps = true) (h1 : 4 ≤ l.length → LS Tryz.prog n w0 ops Q ol ⟨(d, u32 (numAt l 0)) :: E, D, cel g 176 [sTail 1 v 4] * F⟩) (h2 : l.length < 4 → Q (.panic brk) ⟨E, D, cel g 176 [v] * F⟩) : LS Tryz.prog n w0 ops Q (⟨some d, .call ⟨.value (.func 73), xs.toArray, ts⟩, ty, pos, after, none⟩ :: ol) ⟨E, D, H⟩ := by
  rcases Nat.lt_or_ge l.length 4 with hk | hk
  · refine LS_callX inferInstance hx (four_f w0 l v g F hk) ⟨hl.eq.trans star_emp.symm⟩ ?_
    rw [star_emp]; exact h2 hk
  · refine LS_h (H_callH inferInstance hx (four_t w0 l v g F hk) (hl.eq.trans star_emp.symm)) hd fun u => ?_
    rw [star_emp]
    exact h1 hk
theorem LS_take {k : Nat} {x : Int} (hx : E.evs xs = some [ptr g 0, .int .i64 x]) (hk : AsNat x k) (hl : LimbB H g 176 [v] F) (hX : Rdr w0 F v UInt8 1 byteC l) (hd : Nat.blt d n.tmps = true) (h1 : k ≤ l.length → LS Tryz.prog n w0 ops Q ol ⟨(d, sHead v k) :: E, D, cel g 176 [sTail 1 v k] * F⟩) (h2 : l.length < k → Q (.panic brk) ⟨E, D, cel g 176 [v] * F⟩) : LS Tryz.prog n w0 ops Q (⟨some d, .call ⟨.value (.func 74), xs.toArray, ts⟩, ty, pos, after, none⟩ :: ol) ⟨E, D, H⟩ := by
  rcases Nat.lt_or_ge l.length k with hk' | hk'
  · refine LS_callX inferInstance hx (take_f w0 l v g F k x hk.eq hk') ⟨hl.eq.trans star_emp.symm⟩ ?_
    rw [star_emp]; exact h2 hk'
  · refine LS_h (H_callH inferInstance hx (take_t w0 l v g F k x hk.eq hk') (hl.eq.trans star_emp.symm)) hd fun u => ?_
    rw [star_emp]
    exact h1 hk'
theorem LS_must {b : Bool} (hx : E.evs xs = some [.bool b]) (hd : Nat.blt d n.tmps = true) (h1 : b = true → LS Tryz.prog n w0 ops Q ol ⟨(d, .tuple #[]) :: E, D, H⟩) (h2 : b = false → Q (.panic brk) ⟨E, D, H⟩) : LS Tryz.prog n w0 ops Q (⟨some d, .call ⟨.value (.func 72), xs.toArray, ts⟩, ty, pos, after, none⟩ :: ol) ⟨E, D, H⟩ := by
  cases b with
  | false =>
    refine LS_callX inferInstance hx (must_f w0) ⟨emp_star.symm⟩ ?_
    rw [emp_star]; exact h2 rfl
  | true =>
    refine LS_h (H_callH inferInstance hx (must_t w0) emp_star.symm) hd fun u => ?_
    rw [emp_star]
    exact h1 rfl
theorem LS_deferV0 {t : Tmp} {f : FuncId} {caps args : List Value} (hn : n.round = none) (ht : E.get t = some (.func (.func f) #[] caps.toArray)) (hargs : E.evs xs = some args)
    (h : LS Tryz.prog n w0 ops Q ol ⟨E, ⟨.fn (.func f) caps.toArray, args.toArray⟩ :: D, H⟩) : LS Tryz.prog n w0 ops Q (⟨none, .defer ⟨.value (.tmp t), xs.toArray, ts⟩, ty, pos, after, none⟩ :: ol) ⟨E, D, H⟩ := LS_deferV (d := none) hn rfl ht hargs h
theorem WS_formR {α : Type} {size : Nat} {f : α → List Value} {l : List α} {c : Code} (v : Value) (hl : Rdr w0 H v α size f l) (h : ∀ A cap, v = .slice A l.length cap → WS Tryz.prog n w0 c Q ⟨E, D, H⟩) : WS Tryz.prog n w0 c Q ⟨E, D, H⟩ := WS_at fun w hs => by
  obtain ⟨A, cap, e, _⟩ := (hl.at_ w hs).form
  exact h A cap e
end rules
/-- The nothing of packets. -/
def Pk.zero : Pk := ⟨0, 0, 0, false, 0, 0, 0, 0, 0, 0, [], []⟩
section out
variable {w0 : World} {m : Frm} {E : Env} {H F Y : HProp} {R : Value → HProp → Prop} {p q : Nat} {cs bs : List Value}
theorem dspec_p {K : FrameMode → HProp → Prop} (hl : LimbB H p 44 cs F) (hl2 : LimbB F q 4 bs Y) (hcs : cs.length = 12) (hbs : bs.length = 1) (h : K (.panicking [{ v := .iface 232 (.agg #[]), recovered := true }]) (cel p 44 (Pk.zero.cells (.slice none 0 0)) * (cel q 4 [.bool false] * Y))) :
    DSpec Tryz.prog w0 70 [ptr p 0, ptr q 0] (.panicking brk) H K := by
  obtain ⟨c0, c1, c2, c3, c4, c5, c6, c7, c8, c9, c10, c11, rfl⟩ : ∃ c0 c1 c2 c3 c4 c5 c6 c7 c8 c9 c10 c11, cs = [c0, c1, c2, c3, c4, c5, c6, c7, c8, c9, c10, c11] := by
    match cs, hcs with
    | [c0, c1, c2, c3, c4, c5, c6, c7, c8, c9, c10, c11], _ => exact ⟨_, _, _, _, _, _, _, _, _, _, _, _, rfl⟩
  obtain ⟨b0, rfl⟩ : ∃ b0, bs = [b0] := by
    match bs, hbs with
    | [b0], _ => exact ⟨_, rfl⟩
  refine DSpec.enterR Tryz.func70 rfl Tryz.ntmps70 rfl rfl rfl (Q_bin (v := .iface 232 (.agg #[])) (u := .nilIface) (r := .bool true) rfl rfl inferInstance) ?_
  simp only [argE, recV, brk]
  have e : H = cel p 44 [c0, c1, c2, c3, c4, c5, c6, c7, c8, c9, c10, c11] * (cel q 4 [b0] * Y) := by rw [hl.eq, hl2.eq]
  rw [e]
  repeat' (first
    | (refine WS_seqK ?_; intro K hK)
    | (refine hK _ ?_; clear hK K)
    | (with_reducible (first | refine thenS_n ?_ | refine thenS_e ?_ | refine blockS_n ?_ | refine blockS_e ?_ | refine blockS_o rfl ?_ | refine thenS_r ?_ | refine blockS_r ?_ | refine use_K (by assumption) ?_))
    | refine WS_region ?_
    | refine LS_nil ?_
    | ((refine' LQ ?h rfl ?_); case h => intro F'; first | exact Q_bin_t rfl rfl iI (by first | assumption | omega | decide) | exact Q_bin_f rfl rfl iI (by first | assumption | omega | decide) | exact Q_bin_nt rfl rfl iI (by first | assumption | omega | decide) | exact Q_bin_nf rfl rfl iI (by first | assumption | omega | decide) | exact Q_addI rfl rfl (by omega) | exact Q_subI rfl rfl (by omega) | exact Q_build iI iI rfl rfl | exact Q_buildA iI iI iI rfl rfl | exact Q_addS rfl rfl (by first | omega | (simp [be_length] <;> omega)) | exact Q_quoI rfl rfl (by omega) | exact Q_remI rfl rfl (by omega) | exact Q_mulI rfl rfl (by omega))
    | ((first | refine LS_binS rfl rfl iI rfl ?_ ?_ | refine LS_binN rfl rfl iI rfl ?_ ?_) <;> intro hc)
    | ((refine' LQ ?h rfl ?_); case h => intro F'; first | exact Q_bin rfl rfl iI)
    | ((refine' LS_h0 ?h ?_); (case h => first | exact H_storeO rfl rfl iI iI iI rfl | exact H_storeAO rfl rfl iI iI iI rfl | exact H_store8 rfl rfl iI iI rfl iI (by first | assumption | omega | (simp [be_length] <;> omega)) | exact H_storeRA _ rfl rfl rfl iI iI iI rfl rfl (by first | assumption | omega | (simp [be_length] <;> omega)) | exact H_storeR _ rfl rfl iI iI iI rfl (by assumption) rfl | exact H_store rfl rfl iI (by first | rfl | assumption) iI rfl | exact H_storeA rfl rfl iI iI (by first | rfl | (simp only [List.all_cons, List.all_nil, *]; rfl)) rfl); intro g)
    | (first | refine WS_block ?_ | refine WS_skip ?_ | refine WS_ret ?_ | refine WS_exit ?_ | refine WS_label ?_)
    | (show WS _ _ _ (.cond _ _ _) _ _; first | refine WS_condT rfl iI ?_ | refine WS_condF rfl iI ?_ | refine WS_condH_t rfl (by assumption) ?_ | refine WS_condH_f rfl (by assumption) ?_ | (refine WS_cond rfl ?_ ?_ <;> intro hc <;> (try simp only [decide_eq_true_eq, decide_eq_false_iff_not, Bool.not_eq_eq_eq_not, Bool.not_true, Bool.not_false, Bool.and_eq_true, Bool.or_eq_true, bne_iff_ne, beq_iff_eq, ne_eq, Decidable.not_not] at hc) <;> (try (exfalso; first | contradiction | omega; done)))))
  refine ret_none (.inr rfl) rfl ?_
  have e2 : ∀ A B C : HProp, B * (A * C) = A * (B * C) := fun A B C => star_left_comm _ _ _
  simpa only [e2, Pk.zero, Pk.cells] using h
theorem dspec_r {K : FrameMode → HProp → Prop} (h : K .returning H) : DSpec Tryz.prog w0 70 [ptr p 0, ptr q 0] .returning H K := by
  refine DSpec.enterR Tryz.func70 rfl Tryz.ntmps70 rfl rfl rfl (Q_neqNilC rfl inferInstance) ?_
  simp only [argE, recV]
  repeat' (first
    | (refine WS_seqK ?_; intro K hK)
    | (refine hK _ ?_; clear hK K)
    | (with_reducible (first | refine thenS_n ?_ | refine thenS_e ?_ | refine blockS_n ?_ | refine blockS_e ?_ | refine blockS_o rfl ?_ | refine thenS_r ?_ | refine blockS_r ?_ | refine use_K (by assumption) ?_))
    | refine WS_region ?_
    | refine LS_nil ?_
    | ((refine' LQ ?h rfl ?_); case h => intro F'; first | exact Q_bin_t rfl rfl iI (by first | assumption | omega | decide) | exact Q_bin_f rfl rfl iI (by first | assumption | omega | decide) | exact Q_bin_nt rfl rfl iI (by first | assumption | omega | decide) | exact Q_bin_nf rfl rfl iI (by first | assumption | omega | decide) | exact Q_addI rfl rfl (by omega) | exact Q_subI rfl rfl (by omega) | exact Q_build iI iI rfl rfl | exact Q_buildA iI iI iI rfl rfl | exact Q_addS rfl rfl (by first | omega | (simp [be_length] <;> omega)) | exact Q_quoI rfl rfl (by omega) | exact Q_remI rfl rfl (by omega) | exact Q_mulI rfl rfl (by omega))
    | ((first | refine LS_binS rfl rfl iI rfl ?_ ?_ | refine LS_binN rfl rfl iI rfl ?_ ?_) <;> intro hc)
    | ((refine' LQ ?h rfl ?_); case h => intro F'; first | exact Q_bin rfl rfl iI)
    | ((refine' LS_h0 ?h ?_); (case h => first | exact H_storeO rfl rfl iI iI iI rfl | exact H_storeAO rfl rfl iI iI iI rfl | exact H_store8 rfl rfl iI iI rfl iI (by first | assumption | omega | (simp [be_length] <;> omega)) | exact H_storeRA _ rfl rfl rfl iI iI iI rfl rfl (by first | assumption | omega | (simp [be_length] <;> omega)) | exact H_storeR _ rfl rfl iI iI iI rfl (by assumption) rfl | exact H_store rfl rfl iI (by first | rfl | assumption) iI rfl | exact H_storeA rfl rfl iI iI (by first | rfl | (simp only [List.all_cons, List.all_nil, *]; rfl)) rfl); intro g)
    | (first | refine WS_block ?_ | refine WS_skip ?_ | refine WS_ret ?_ | refine WS_exit ?_ | refine WS_label ?_)
    | (show WS _ _ _ (.cond _ _ _) _ _; first | refine WS_condT rfl iI ?_ | refine WS_condF rfl iI ?_ | refine WS_condH_t rfl (by assumption) ?_ | refine WS_condH_f rfl (by assumption) ?_ | (refine WS_cond rfl ?_ ?_ <;> intro hc <;> (try simp only [decide_eq_true_eq, decide_eq_false_iff_not, Bool.not_eq_eq_eq_not, Bool.not_true, Bool.not_false, Bool.and_eq_true, Bool.or_eq_true, bne_iff_ne, beq_iff_eq, ne_eq, Decidable.not_not] at hc) <;> (try (exfalso; first | contradiction | omega; done)))))
  exact ret_none (.inr rfl) rfl h
theorem out_brk (h2 : E.get 2 = some (ptr p 0)) (h3 : E.get 3 = some (ptr q 0)) (hl : LimbB H p 44 cs F) (hl2 : LimbB F q 4 bs Y) (hcs : cs.length = 12) (hbs : bs.length = 1)
    (hR : R (.tuple #[Pk.zero.val (.slice none 0 0), .bool false]) (cel p 44 (Pk.zero.cells (.slice none 0 0)) * (cel q 4 [.bool false] * Y))) :
    outS Tryz.prog m w0 Tryz.f35 R (.panic brk) ⟨E, [⟨.fn (.func 70) ([ptr p 0, ptr q 0] : List Value).toArray, ([] : List Value).toArray⟩], H⟩ :=
  out_p (lv_call (caps := [ptr p 0, ptr q 0]) (args := []) (by simp) inferInstance (dspec_p hl hl2 hcs hbs (lv_ret2 rfl (RV_cell h2 inferInstance inferInstance rfl) (RV_cellS h3 inferInstance inferInstance rfl) hR)))
theorem out_ok {vs : List Value} (h2 : E.get 2 = some (ptr p 0)) (h3 : E.get 3 = some (ptr q 0)) (hl : LimbB H p 44 cs F) (hl2 : LimbB H q 4 [.bool true] Y) (hcs : takeL cs 0 12 = some vs)
    (hR : R (.tuple #[.agg vs.toArray, .bool true]) H) :
    outS Tryz.prog m w0 Tryz.f35 R .ret ⟨E, [⟨.fn (.func 70) ([ptr p 0, ptr q 0] : List Value).toArray, ([] : List Value).toArray⟩], H⟩ :=
  out_r (lv_call (caps := [ptr p 0, ptr q 0]) (args := []) (by simp) inferInstance (dspec_r (lv_ret2 rfl (RV_cell h2 hl inferInstance hcs) (RV_cellS h3 hl2 inferInstance rfl) hR)))
end out
/-- What Decode hands out. -/
def decV (l : List UInt8) (v' : Value) : Value := .tuple #[((Pk.dec l).getD Pk.zero).val v', .bool (Pk.dec l).isSome]
abbrev decH (l : List UInt8) (v' : Value) (X : HProp) : HProp := rows 180 2 lostC v' ((Pk.dec l).getD Pk.zero).lost * X
theorem dec_short (l : List UInt8) (h : l.length < 5) : Pk.dec l = none := by
  match l, h with
  | [], _ => rfl
  | [_], _ => rfl
  | [_, _], _ => rfl
  | [_, _, _], _ => rfl
  | [_, _, _, _], _ => rfl
  | _ :: _ :: _ :: _ :: _ :: _, h => simp at h; omega
set_option maxRecDepth 100000 in
set_option maxHeartbeats 4000000 in
theorem wdecode_short (l : List UInt8) (hl : l.length < 5) (v : Value) (X : HProp) [hX : Rdr w0 X v UInt8 1 byteC l] : Spec Tryz.prog w0 35 [v] X (fun v' : Value => decV l v') (fun v' => decH l v' X) := by
  have hd := dec_short l hl
  simp only [decV, decH, hd]
  refine Spec.enterM Tryz.func35 rfl Tryz.ntmps35 rfl fun G => ?_
  simp only [argE]
  refine WS_formR v (inferInstance : Rdr w0 (X * G) v UInt8 1 byteC l) fun A cap hv => ?_
  subst hv
  iterate 5
    rcases l with _ | ⟨a, l⟩
    · repeat' (first
        | (refine WS_seqK ?_; intro K hK)
        | (refine hK _ ?_; clear hK K)
        | (with_reducible (first | refine thenS_n ?_ | refine thenS_e ?_ | refine blockS_n ?_ | refine blockS_e ?_ | refine blockS_o rfl ?_ | refine thenS_r ?_ | refine blockS_r ?_ | refine use_K (by assumption) ?_))
        | refine WS_region ?_
        | refine LS_nil ?_
        | (show LS _ _ _ _ _ (⟨_, _, _, _, _, some _⟩ :: _) _; first | refine LS_wantT rfl rfl iI rfl ?_ | refine LS_wantF rfl rfl iI rfl ?_ | refine LS_wantU rfl rfl rfl ?_ | ((first | refine LS_wantS rfl rfl rfl ?_ ?_ | refine LS_wantN rfl ?_ ?_) <;> intro hc <;> (try simp only [decide_eq_true_eq, decide_eq_false_iff_not, Bool.not_eq_eq_eq_not, Bool.not_true, Bool.not_false, Bool.and_eq_true, Bool.or_eq_true, bne_iff_ne, beq_iff_eq, ne_eq, Decidable.not_not] at hc) <;> (try (exfalso; first | contradiction | omega; done))))
        | (first | refine DL_nilA ?_ | refine DL_nilS ?_ | refine DL_nilN ?_ | refine DL_nilE ?_ | refine DL_nilR ?_)
        | (first | refine DL_claimS rfl ?_ | refine DL_claim rfl rfl ?_)
        | (refine DL_alloc iI rfl ?_; intro g)
        | ((first | refine' LQ ?h rfl ?_ | refine' DL_qp rfl rfl rfl ?h ?_ | refine' DL_q rfl rfl ?h ?_); case h => intro F'; first | exact Q_move rfl | exact Q_assign rfl | exact Q_nilCheck rfl | exact Q_fieldAddr rfl iI rfl | exact Q_load rfl iI iI rfl | exact Q_bin_t rfl rfl iI (by first | assumption | omega | decide) | exact Q_bin_f rfl rfl iI (by first | assumption | omega | decide) | exact Q_bin_nt rfl rfl iI (by first | assumption | omega | decide) | exact Q_bin_nf rfl rfl iI (by first | assumption | omega | decide) | exact Q_addI rfl rfl (by omega) | exact Q_subI rfl rfl (by omega) | exact Q_pick_t rfl iI rfl | exact Q_pick_f rfl iI rfl | exact Q_pick rfl rfl rfl | exact Q_un rfl iI | exact Q_loadA rfl iI iI rfl | exact Q_build iI iI rfl rfl | exact Q_buildA iI iI iI rfl rfl | exact Q_len rfl iI | exact Q_lenS rfl iI | exact Q_fieldR rfl iI iI rfl (by first | assumption | omega | (simp [be_length] <;> omega)) | exact Q_loadR rfl iI iI iI (by assumption) rfl | exact Q_loadR rfl iI iI iI rfl rfl | exact Q_loadRA rfl iI iI iI (by assumption) | exact Q_lenR rfl iI iI | exact Q_lenM rfl iI iI | exact Q_conv32_8 rfl iI iI iI | exact Q_conv64 rfl iI iI iI | exact Q_conv32 rfl iI iI iI | exact Q_convS rfl iI rfl iI iI iI | exact Q_convSame rfl iI iI (by omega) | exact Q_convI8 rfl iI iI | exact Q_conv328 rfl iI iI | exact Q_conv8 rfl iI iI | exact Q_bytesS rfl iI iI rfl iI iI iI | exact Q_addS rfl rfl (by first | omega | (simp [be_length] <;> omega)) | exact Q_makeFunc rfl rfl | exact Q_nilCheck_f rfl | exact Q_quoI rfl rfl (by omega) | exact Q_remI rfl rfl (by omega) | exact Q_negI rfl (by omega) | exact Q_mulI rfl rfl (by omega))
        | ((first | refine LS_binS rfl rfl iI rfl ?_ ?_ | refine LS_binN rfl rfl iI rfl ?_ ?_ | refine DL_binS rfl rfl iI rfl ?_ ?_) <;> intro hc)
        | ((first | refine' LQ ?h rfl ?_ | refine' DL_qp rfl rfl rfl ?h ?_ | refine' DL_q rfl rfl ?h ?_); case h => intro F'; first | exact Q_bin rfl rfl iI)
        | ((first | refine' LS_h ?h rfl ?_ | refine' DL_h ?h rfl rfl rfl ?_); (case h => first | exact H_alloc iI | exact H_box rfl | exact H_boxO rfl iI | exact H_buildB iI iI iI rfl rfl rfl rfl rfl iI rfl rfl | exact H_buildSlice iI iI iI rfl rfl rfl rfl rfl | exact H_buildSlice0 iI iI | exact H_appendD rfl rfl iI iI rfl iI iI byteC_one (by first | omega | (simp [be_length] <;> omega)) rfl | exact H_appendB rfl rfl iI iI iI rfl rfl iI (by first | omega | (simp [be_length] <;> omega)) rfl | exact H_appendS rfl rfl iI rfl iI iI (by first | omega | (simp [be_length] <;> omega)) rfl | exact H_convS rfl iI rfl iI iI iI | exact H_box1 rfl (by first | rfl | assumption)); intro g)
        | ((first | refine' LS_h0 ?h ?_ | refine' DL_h0 ?h rfl rfl ?_); (case h => first | exact H_storeO rfl rfl iI iI iI rfl | exact H_storeAO rfl rfl iI iI iI rfl | exact H_store8 rfl rfl iI iI rfl iI (by first | assumption | omega | (simp [be_length] <;> omega)) | exact H_storeRA _ rfl rfl rfl iI iI iI rfl rfl (by first | assumption | omega | (simp [be_length] <;> omega)) | exact H_storeR _ rfl rfl iI iI iI rfl (by assumption) rfl | exact H_store rfl rfl iI (by first | rfl | assumption) iI rfl | exact H_storeA rfl rfl iI iI (by first | rfl | (simp only [List.all_cons, List.all_nil, *]; rfl)) rfl); intro g)
        | (first | refine WS_block ?_ | refine WS_skip ?_ | refine WS_ret ?_ | refine WS_exit ?_ | refine WS_label ?_)
        | (show WS _ _ _ (.cond _ _ _) _ _; first | refine WS_condT rfl iI ?_ | refine WS_condF rfl iI ?_ | refine WS_condH_t rfl (by assumption) ?_ | refine WS_condH_f rfl (by assumption) ?_ | (refine WS_cond rfl ?_ ?_ <;> intro hc <;> (try simp only [decide_eq_true_eq, decide_eq_false_iff_not, Bool.not_eq_eq_eq_not, Bool.not_true, Bool.not_false, Bool.and_eq_true, Bool.or_eq_true, bne_iff_ne, beq_iff_eq, ne_eq, Decidable.not_not] at hc) <;> (try (exfalso; first | contradiction | omega; done))))
        | refine WS_drawS (by kernel_rfl) ?_
        | refine LS_deferV0 rfl rfl rfl ?_
        | refine LS_one_f rfl iI iI ?_
        | (refine LS_one_t rfl iI iI rfl ?_)
        | (refine LS_four rfl iI iI rfl ?_ ?_ <;> intro hc)
        | (refine LS_take rfl iI iI iI rfl ?_ ?_ <;> intro hc)
        | (refine LS_must rfl rfl ?_ ?_ <;> (intro hc; first
        | (cases hc; done)
        | skip))
        | refine thenS_p ?_
        | refine blockS_p ?_)
      all_goals
        refine out_brk rfl rfl inferInstance inferInstance rfl rfl ?_
        exact ⟨.slice none 0 0, rfl, by ((try simp only [star_assoc, emp_star, star_emp]); (repeat' (first | exact Ent.last | refine Ent.take ?_ | refine Ent.nilT ?_ | refine Ent.takeR (by first | rfl | assumption | (simp; done)) ?_ | exact Ent.refl _)))⟩
  simp at hl; omega
end Go.Proofs.YtapoehkdnglahabGreat

/- What wire.Decode returns, by a walk: the kinds. -/
namespace Go.Proofs.YtapoehkdnglahabGreat
open Go.RowKit
set_option linter.unusedVariables false
set_option linter.unusedSimpArgs false
attribute [local irreducible] WS LS OpQ OpT OpH OpTQ Spec SpecQ SpecX DSpec cel AS sTail sHead
variable (w0 : World)
theorem numAt_dropK (l : List UInt8) (k i : Nat) : numAt (l.drop k) i = numAt l (k + i) := by
  simp [numAt, byteAt, Nat.add_assoc]
theorem toNat_eq8 {b : UInt8} {m : Nat} (h : b.toNat = m) (hm : m < 256) : b = UInt8.ofNat m := by
  apply UInt8.toNat_inj.1; rw [h]; simp; omega
set_option maxRecDepth 100000 in
set_option maxHeartbeats 8000000 in
theorem wdec_bad (t k f z n : UInt8) (l : List UInt8) (hl : l.length ≤ 100000) (hd : Pk.dec (t :: k :: f :: z :: n :: l) = none) (hb : z.toNat ≠ 0 ∨ (z.toNat = 0 ∧ t.toNat = 0) ∨ (z.toNat = 0 ∧ 0 < t.toNat ∧ f.toNat ≠ 0 ∧ f.toNat ≠ 8) ∨ (z.toNat = 0 ∧ 0 < t.toNat ∧ f.toNat = 8 ∧ k.toNat ≠ 1)) (v : Value) (X : HProp) [hX : Rdr w0 X v UInt8 1 byteC (t :: k :: f :: z :: n :: l)] : Spec Tryz.prog w0 35 [v] X (fun v' : Value => decV (t :: k :: f :: z :: n :: l) v') (fun v' => decH (t :: k :: f :: z :: n :: l) v' X) := by
  simp only [decV, decH, hd]
  refine Spec.enterM Tryz.func35 rfl Tryz.ntmps35 rfl fun G => ?_
  simp only [argE]
  refine WS_formR v (inferInstance : Rdr w0 (X * G) v UInt8 1 byteC (t :: k :: f :: z :: n :: l)) fun A cap hv => ?_
  subst hv
  rcases hb with h1 | ⟨h1, h2⟩ | ⟨h1, h2, h3, h4⟩ | ⟨h1, h2, h3, h4⟩
  all_goals
    repeat' (first
      | (refine WS_seqK ?_; intro K hK)
      | (refine hK _ ?_; clear hK K)
      | (with_reducible (first | refine thenS_n ?_ | refine thenS_e ?_ | refine blockS_n ?_ | refine blockS_e ?_ | refine blockS_o rfl ?_ | refine thenS_r ?_ | refine blockS_r ?_ | refine use_K (by assumption) ?_))
      | refine WS_region ?_
      | refine LS_nil ?_
      | (show LS _ _ _ _ _ (⟨_, _, _, _, _, some _⟩ :: _) _; first | refine LS_wantT rfl rfl iI rfl ?_ | refine LS_wantF rfl rfl iI rfl ?_ | refine LS_wantU rfl rfl rfl ?_ | ((first | refine LS_wantS rfl rfl rfl ?_ ?_ | refine LS_wantN rfl ?_ ?_) <;> intro hc <;> (try simp only [decide_eq_true_eq, decide_eq_false_iff_not, Bool.not_eq_eq_eq_not, Bool.not_true, Bool.not_false, Bool.and_eq_true, Bool.or_eq_true, bne_iff_ne, beq_iff_eq, ne_eq, Decidable.not_not] at hc) <;> (try (exfalso; first | contradiction | omega; done))))
      | (first | refine DL_nilA ?_ | refine DL_nilS ?_ | refine DL_nilN ?_ | refine DL_nilE ?_ | refine DL_nilR ?_)
      | (first | refine DL_claimS rfl ?_ | refine DL_claim rfl rfl ?_)
      | (refine DL_alloc iI rfl ?_; intro g)
      | ((first | refine' LQ ?h rfl ?_ | refine' DL_qp rfl rfl rfl ?h ?_ | refine' DL_q rfl rfl ?h ?_); case h => intro F'; first | exact Q_move rfl | exact Q_assign rfl | exact Q_nilCheck rfl | exact Q_fieldAddr rfl iI rfl | exact Q_load rfl iI iI rfl | exact Q_bin_t rfl rfl iI (by first | assumption | omega | decide) | exact Q_bin_f rfl rfl iI (by first | assumption | omega | decide) | exact Q_bin_nt rfl rfl iI (by first | assumption | omega | decide) | exact Q_bin_nf rfl rfl iI (by first | assumption | omega | decide) | exact Q_addI rfl rfl (by omega) | exact Q_subI rfl rfl (by omega) | exact Q_pick_t rfl iI rfl | exact Q_pick_f rfl iI rfl | exact Q_pick rfl rfl rfl | exact Q_un rfl iI | exact Q_loadA rfl iI iI rfl | exact Q_build iI iI rfl rfl | exact Q_buildA iI iI iI rfl rfl | exact Q_len rfl iI | exact Q_lenS rfl iI | exact Q_fieldR rfl iI iI rfl (by first | assumption | omega | (simp [be_length] <;> omega)) | exact Q_loadR rfl iI iI iI (by assumption) rfl | exact Q_loadR rfl iI iI iI rfl rfl | exact Q_loadRA rfl iI iI iI (by assumption) | exact Q_lenR rfl iI iI | exact Q_lenM rfl iI iI | exact Q_conv32_8 rfl iI iI iI | exact Q_conv64 rfl iI iI iI | exact Q_conv32 rfl iI iI iI | exact Q_convS rfl iI rfl iI iI iI | exact Q_convSame rfl iI iI (by omega) | exact Q_convI8 rfl iI iI | exact Q_conv328 rfl iI iI | exact Q_conv8 rfl iI iI | exact Q_bytesS rfl iI iI rfl iI iI iI | exact Q_addS rfl rfl (by first | omega | (simp [be_length] <;> omega)) | exact Q_makeFunc rfl rfl | exact Q_nilCheck_f rfl | exact Q_quoI rfl rfl (by omega) | exact Q_remI rfl rfl (by omega) | exact Q_negI rfl (by omega) | exact Q_mulI rfl rfl (by omega))
      | ((first | refine LS_binS rfl rfl iI rfl ?_ ?_ | refine LS_binN rfl rfl iI rfl ?_ ?_ | refine DL_binS rfl rfl iI rfl ?_ ?_) <;> intro hc)
      | ((first | refine' LQ ?h rfl ?_ | refine' DL_qp rfl rfl rfl ?h ?_ | refine' DL_q rfl rfl ?h ?_); case h => intro F'; first | exact Q_bin rfl rfl iI)
      | ((first | refine' LS_h ?h rfl ?_ | refine' DL_h ?h rfl rfl rfl ?_); (case h => first | exact H_alloc iI | exact H_box rfl | exact H_boxO rfl iI | exact H_buildB iI iI iI rfl rfl rfl rfl rfl iI rfl rfl | exact H_buildSlice iI iI iI rfl rfl rfl rfl rfl | exact H_buildSlice0 iI iI | exact H_appendD rfl rfl iI iI rfl iI iI byteC_one (by first | omega | (simp [be_length] <;> omega)) rfl | exact H_appendB rfl rfl iI iI iI rfl rfl iI (by first | omega | (simp [be_length] <;> omega)) rfl | exact H_appendS rfl rfl iI rfl iI iI (by first | omega | (simp [be_length] <;> omega)) rfl | exact H_convS rfl iI rfl iI iI iI | exact H_box1 rfl (by first | rfl | assumption)); intro g)
      | ((first | refine' LS_h0 ?h ?_ | refine' DL_h0 ?h rfl rfl ?_); (case h => first | exact H_storeO rfl rfl iI iI iI rfl | exact H_storeAO rfl rfl iI iI iI rfl | exact H_store8 rfl rfl iI iI rfl iI (by first | assumption | omega | (simp [be_length] <;> omega)) | exact H_storeRA _ rfl rfl rfl iI iI iI rfl rfl (by first | assumption | omega | (simp [be_length] <;> omega)) | exact H_storeR _ rfl rfl iI iI iI rfl (by assumption) rfl | exact H_store rfl rfl iI (by first | rfl | assumption) iI rfl | exact H_storeA rfl rfl iI iI (by first | rfl | (simp only [List.all_cons, List.all_nil, *]; rfl)) rfl); intro g)
      | (first | refine WS_block ?_ | refine WS_skip ?_ | refine WS_ret ?_ | refine WS_exit ?_ | refine WS_label ?_)
      | (show WS _ _ _ (.cond _ _ _) _ _; first | refine WS_condT rfl iI ?_ | refine WS_condF rfl iI ?_ | refine WS_condH_t rfl (by assumption) ?_ | refine WS_condH_f rfl (by assumption) ?_ | (refine WS_cond rfl ?_ ?_ <;> intro hc <;> (try simp only [decide_eq_true_eq, decide_eq_false_iff_not, Bool.not_eq_eq_eq_not, Bool.not_true, Bool.not_false, Bool.and_eq_true, Bool.or_eq_true, bne_iff_ne, beq_iff_eq, ne_eq, Decidable.not_not] at hc) <;> (try (exfalso; first | contradiction | omega; done))))
      | refine WS_drawS (by kernel_rfl) ?_
      | refine LS_deferV0 rfl rfl rfl ?_
      | refine LS_one_f rfl iI iI ?_
      | (refine LS_one_t rfl iI iI rfl ?_)
      | (refine LS_four rfl iI iI rfl ?_ ?_ <;> (intro hc; try simp only [List.length_drop] at hc))
      | (refine LS_take rfl iI iI iI rfl ?_ ?_ <;> (intro hc; try simp only [List.length_drop] at hc))
      | (refine LS_must rfl rfl ?_ ?_ <;> (intro hc; first
      | (cases hc; done)
      | skip))
      | with_reducible refine thenS_p ?_
      | with_reducible refine blockS_p ?_)
  all_goals
    refine out_brk rfl rfl inferInstance inferInstance rfl rfl ?_
    exact ⟨.slice none 0 0, rfl, by ((try simp only [star_assoc, emp_star, star_emp]); (repeat' (first | exact Ent.last | refine Ent.take ?_ | refine Ent.nilT ?_ | refine Ent.takeR (by first | rfl | assumption | (simp; done)) ?_ | exact Ent.refl _)))⟩
set_option maxRecDepth 100000 in
set_option maxHeartbeats 8000000 in
theorem wdec_other (t k f z n : UInt8) (l : List UInt8) (hl : l.length ≤ 100000) (hd : Pk.dec (t :: k :: f :: z :: n :: l) = none) (hz : z.toNat = 0) (ht : 0 < t.toNat) (hf : f.toNat = 0) (h1 : k.toNat ≠ 1) (h2 : k.toNat ≠ 2) (h3 : k.toNat ≠ 3) (h9 : k.toNat ≠ 9) (v : Value) (X : HProp) [hX : Rdr w0 X v UInt8 1 byteC (t :: k :: f :: z :: n :: l)] : Spec Tryz.prog w0 35 [v] X (fun v' : Value => decV (t :: k :: f :: z :: n :: l) v') (fun v' => decH (t :: k :: f :: z :: n :: l) v' X) := by
  simp only [decV, decH, hd]
  refine Spec.enterM Tryz.func35 rfl Tryz.ntmps35 rfl fun G => ?_
  simp only [argE]
  refine WS_formR v (inferInstance : Rdr w0 (X * G) v UInt8 1 byteC (t :: k :: f :: z :: n :: l)) fun A cap hv => ?_
  subst hv
  repeat' (first
    | (refine WS_seqK ?_; intro K hK)
    | (refine hK _ ?_; clear hK K)
    | (with_reducible (first | refine thenS_n ?_ | refine thenS_e ?_ | refine blockS_n ?_ | refine blockS_e ?_ | refine blockS_o rfl ?_ | refine thenS_r ?_ | refine blockS_r ?_ | refine use_K (by assumption) ?_))
    | refine WS_region ?_
    | refine LS_nil ?_
    | (show LS _ _ _ _ _ (⟨_, _, _, _, _, some _⟩ :: _) _; first | refine LS_wantT rfl rfl iI rfl ?_ | refine LS_wantF rfl rfl iI rfl ?_ | refine LS_wantU rfl rfl rfl ?_ | ((first | refine LS_wantS rfl rfl rfl ?_ ?_ | refine LS_wantN rfl ?_ ?_) <;> intro hc <;> (try simp only [decide_eq_true_eq, decide_eq_false_iff_not, Bool.not_eq_eq_eq_not, Bool.not_true, Bool.not_false, Bool.and_eq_true, Bool.or_eq_true, bne_iff_ne, beq_iff_eq, ne_eq, Decidable.not_not] at hc) <;> (try (exfalso; first | contradiction | omega; done))))
    | (first | refine DL_nilA ?_ | refine DL_nilS ?_ | refine DL_nilN ?_ | refine DL_nilE ?_ | refine DL_nilR ?_)
    | (first | refine DL_claimS rfl ?_ | refine DL_claim rfl rfl ?_)
    | (refine DL_alloc iI rfl ?_; intro g)
    | ((first | refine' LQ ?h rfl ?_ | refine' DL_qp rfl rfl rfl ?h ?_ | refine' DL_q rfl rfl ?h ?_); case h => intro F'; first | exact Q_move rfl | exact Q_assign rfl | exact Q_nilCheck rfl | exact Q_fieldAddr rfl iI rfl | exact Q_load rfl iI iI rfl | exact Q_bin_t rfl rfl iI (by first | assumption | omega | decide) | exact Q_bin_f rfl rfl iI (by first | assumption | omega | decide) | exact Q_bin_nt rfl rfl iI (by first | assumption | omega | decide) | exact Q_bin_nf rfl rfl iI (by first | assumption | omega | decide) | exact Q_addI rfl rfl (by omega) | exact Q_subI rfl rfl (by omega) | exact Q_pick_t rfl iI rfl | exact Q_pick_f rfl iI rfl | exact Q_pick rfl rfl rfl | exact Q_un rfl iI | exact Q_loadA rfl iI iI rfl | exact Q_build iI iI rfl rfl | exact Q_buildA iI iI iI rfl rfl | exact Q_len rfl iI | exact Q_lenS rfl iI | exact Q_fieldR rfl iI iI rfl (by first | assumption | omega | (simp [be_length] <;> omega)) | exact Q_loadR rfl iI iI iI (by assumption) rfl | exact Q_loadR rfl iI iI iI rfl rfl | exact Q_loadRA rfl iI iI iI (by assumption) | exact Q_lenR rfl iI iI | exact Q_lenM rfl iI iI | exact Q_conv32_8 rfl iI iI iI | exact Q_conv64 rfl iI iI iI | exact Q_conv32 rfl iI iI iI | exact Q_convS rfl iI rfl iI iI iI | exact Q_convSame rfl iI iI (by omega) | exact Q_convI8 rfl iI iI | exact Q_conv328 rfl iI iI | exact Q_conv8 rfl iI iI | exact Q_bytesS rfl iI iI rfl iI iI iI | exact Q_addS rfl rfl (by first | omega | (simp [be_length] <;> omega)) | exact Q_makeFunc rfl rfl | exact Q_nilCheck_f rfl | exact Q_quoI rfl rfl (by omega) | exact Q_remI rfl rfl (by omega) | exact Q_negI rfl (by omega) | exact Q_mulI rfl rfl (by omega))
    | ((first | refine LS_binS rfl rfl iI rfl ?_ ?_ | refine LS_binN rfl rfl iI rfl ?_ ?_ | refine DL_binS rfl rfl iI rfl ?_ ?_) <;> intro hc)
    | ((first | refine' LQ ?h rfl ?_ | refine' DL_qp rfl rfl rfl ?h ?_ | refine' DL_q rfl rfl ?h ?_); case h => intro F'; first | exact Q_bin rfl rfl iI)
    | ((first | refine' LS_h ?h rfl ?_ | refine' DL_h ?h rfl rfl rfl ?_); (case h => first | exact H_alloc iI | exact H_box rfl | exact H_boxO rfl iI | exact H_buildB iI iI iI rfl rfl rfl rfl rfl iI rfl rfl | exact H_buildSlice iI iI iI rfl rfl rfl rfl rfl | exact H_buildSlice0 iI iI | exact H_appendD rfl rfl iI iI rfl iI iI byteC_one (by first | omega | (simp [be_length] <;> omega)) rfl | exact H_appendB rfl rfl iI iI iI rfl rfl iI (by first | omega | (simp [be_length] <;> omega)) rfl | exact H_appendS rfl rfl iI rfl iI iI (by first | omega | (simp [be_length] <;> omega)) rfl | exact H_convS rfl iI rfl iI iI iI | exact H_box1 rfl (by first | rfl | assumption)); intro g)
    | ((first | refine' LS_h0 ?h ?_ | refine' DL_h0 ?h rfl rfl ?_); (case h => first | exact H_storeO rfl rfl iI iI iI rfl | exact H_storeAO rfl rfl iI iI iI rfl | exact H_store8 rfl rfl iI iI rfl iI (by first | assumption | omega | (simp [be_length] <;> omega)) | exact H_storeRA _ rfl rfl rfl iI iI iI rfl rfl (by first | assumption | omega | (simp [be_length] <;> omega)) | exact H_storeR _ rfl rfl iI iI iI rfl (by assumption) rfl | exact H_store rfl rfl iI (by first | rfl | assumption) iI rfl | exact H_storeA rfl rfl iI iI (by first | rfl | (simp only [List.all_cons, List.all_nil, *]; rfl)) rfl); intro g)
    | (first | refine WS_block ?_ | refine WS_skip ?_ | refine WS_ret ?_ | refine WS_exit ?_ | refine WS_label ?_)
    | (show WS _ _ _ (.cond _ _ _) _ _; first | refine WS_condT rfl iI ?_ | refine WS_condF rfl iI ?_ | refine WS_condH_t rfl (by assumption) ?_ | refine WS_condH_f rfl (by assumption) ?_ | (refine WS_cond rfl ?_ ?_ <;> intro hc <;> (try simp only [decide_eq_true_eq, decide_eq_false_iff_not, Bool.not_eq_eq_eq_not, Bool.not_true, Bool.not_false, Bool.and_eq_true, Bool.or_eq_true, bne_iff_ne, beq_iff_eq, ne_eq, Decidable.not_not] at hc) <;> (try (exfalso; first | contradiction | omega; done))))
    | refine WS_drawS (by kernel_rfl) ?_
    | refine LS_deferV0 rfl rfl rfl ?_
    | refine LS_one_f rfl iI iI ?_
    | (refine LS_one_t rfl iI iI rfl ?_)
    | (refine LS_four rfl iI iI rfl ?_ ?_ <;> (intro hc; try simp only [List.length_drop] at hc))
    | (refine LS_take rfl iI iI iI rfl ?_ ?_ <;> (intro hc; try simp only [List.length_drop] at hc))
    | (refine LS_must rfl rfl ?_ ?_ <;> (intro hc; first
    | (cases hc; done)
    | skip))
    | with_reducible refine thenS_p ?_
    | with_reducible refine blockS_p ?_)
  all_goals
    refine out_brk rfl rfl inferInstance inferInstance rfl rfl ?_
    exact ⟨.slice none 0 0, rfl, by ((try simp only [star_assoc, emp_star, star_emp]); (repeat' (first | exact Ent.last | refine Ent.take ?_ | refine Ent.nilT ?_ | refine Ent.takeR (by first | rfl | assumption | (simp; done)) ?_ | exact Ent.refl _)))⟩
set_option maxRecDepth 100000 in
set_option maxHeartbeats 8000000 in
theorem wdec_2 (t k f z n : UInt8) (l : List UInt8) (hl : l.length ≤ 100000) (hz : z.toNat = 0) (ht : 0 < t.toNat) (hf : f.toNat = 0) (h2 : k.toNat = 2) (v : Value) (X : HProp) [hX : Rdr w0 X v UInt8 1 byteC (t :: k :: f :: z :: n :: l)] : Spec Tryz.prog w0 35 [v] X (fun v' : Value => decV (t :: k :: f :: z :: n :: l) v') (fun v' => decH (t :: k :: f :: z :: n :: l) v' X) := by
  have hde : Pk.dec (t :: k :: f :: z :: n :: l) = if l.length = 16 then some ⟨t.toNat, 2, n.toNat, false, 0, numAt l 0, numAt l 4, numAt l 8, 0, numAt l 12, [], []⟩ else none := by
    obtain rfl := toNat_eq8 h2 (by decide); obtain rfl := toNat_eq8 hz (by decide); obtain rfl := toNat_eq8 hf (by decide)
    have ht' : t ≠ 0 := fun e => by rw [e] at ht; simp at ht
    simp [Pk.dec, Pk.body, ht']
  refine Spec.enterM Tryz.func35 rfl Tryz.ntmps35 rfl fun G => ?_
  simp only [argE]
  refine WS_formR v (inferInstance : Rdr w0 (X * G) v UInt8 1 byteC (t :: k :: f :: z :: n :: l)) fun A cap hv => ?_
  subst hv
  repeat' (first
    | (refine WS_seqK ?_; intro K hK)
    | (refine hK _ ?_; clear hK K)
    | (with_reducible (first | refine thenS_n ?_ | refine thenS_e ?_ | refine blockS_n ?_ | refine blockS_e ?_ | refine blockS_o rfl ?_ | refine thenS_r ?_ | refine blockS_r ?_ | refine use_K (by assumption) ?_))
    | refine WS_region ?_
    | refine LS_nil ?_
    | (show LS _ _ _ _ _ (⟨_, _, _, _, _, some _⟩ :: _) _; first | refine LS_wantT rfl rfl iI rfl ?_ | refine LS_wantF rfl rfl iI rfl ?_ | refine LS_wantU rfl rfl rfl ?_ | ((first | refine LS_wantS rfl rfl rfl ?_ ?_ | refine LS_wantN rfl ?_ ?_) <;> intro hc <;> (try simp only [decide_eq_true_eq, decide_eq_false_iff_not, Bool.not_eq_eq_eq_not, Bool.not_true, Bool.not_false, Bool.and_eq_true, Bool.or_eq_true, bne_iff_ne, beq_iff_eq, ne_eq, Decidable.not_not] at hc) <;> (try (exfalso; first | contradiction | omega; done))))
    | (first | refine DL_nilA ?_ | refine DL_nilS ?_ | refine DL_nilN ?_ | refine DL_nilE ?_ | refine DL_nilR ?_)
    | (first | refine DL_claimS rfl ?_ | refine DL_claim rfl rfl ?_)
    | (refine DL_alloc iI rfl ?_; intro g)
    | ((first | refine' LQ ?h rfl ?_ | refine' DL_qp rfl rfl rfl ?h ?_ | refine' DL_q rfl rfl ?h ?_); case h => intro F'; first | exact Q_move rfl | exact Q_assign rfl | exact Q_nilCheck rfl | exact Q_fieldAddr rfl iI rfl | exact Q_load rfl iI iI rfl | exact Q_bin_t rfl rfl iI (by first | assumption | omega | decide) | exact Q_bin_f rfl rfl iI (by first | assumption | omega | decide) | exact Q_bin_nt rfl rfl iI (by first | assumption | omega | decide) | exact Q_bin_nf rfl rfl iI (by first | assumption | omega | decide) | exact Q_addI rfl rfl (by omega) | exact Q_subI rfl rfl (by omega) | exact Q_pick_t rfl iI rfl | exact Q_pick_f rfl iI rfl | exact Q_pick rfl rfl rfl | exact Q_un rfl iI | exact Q_loadA rfl iI iI rfl | exact Q_build iI iI rfl rfl | exact Q_buildA iI iI iI rfl rfl | exact Q_len rfl iI | exact Q_lenS rfl iI | exact Q_fieldR rfl iI iI rfl (by first | assumption | omega | (simp [be_length] <;> omega)) | exact Q_loadR rfl iI iI iI (by assumption) rfl | exact Q_loadR rfl iI iI iI rfl rfl | exact Q_loadRA rfl iI iI iI (by assumption) | exact Q_lenR rfl iI iI | exact Q_lenM rfl iI iI | exact Q_conv32_8 rfl iI iI iI | exact Q_conv64 rfl iI iI iI | exact Q_conv32 rfl iI iI iI | exact Q_convS rfl iI rfl iI iI iI | exact Q_convSame rfl iI iI (by omega) | exact Q_convI8 rfl iI iI | exact Q_conv328 rfl iI iI | exact Q_conv8 rfl iI iI | exact Q_bytesS rfl iI iI rfl iI iI iI | exact Q_addS rfl rfl (by first | omega | (simp [be_length] <;> omega)) | exact Q_makeFunc rfl rfl | exact Q_nilCheck_f rfl | exact Q_quoI rfl rfl (by omega) | exact Q_remI rfl rfl (by omega) | exact Q_negI rfl (by omega) | exact Q_mulI rfl rfl (by omega))
    | ((first | refine LS_binS rfl rfl iI rfl ?_ ?_ | refine LS_binN rfl rfl iI rfl ?_ ?_ | refine DL_binS rfl rfl iI rfl ?_ ?_) <;> intro hc)
    | ((first | refine' LQ ?h rfl ?_ | refine' DL_qp rfl rfl rfl ?h ?_ | refine' DL_q rfl rfl ?h ?_); case h => intro F'; first | exact Q_bin rfl rfl iI)
    | ((first | refine' LS_h ?h rfl ?_ | refine' DL_h ?h rfl rfl rfl ?_); (case h => first | exact H_alloc iI | exact H_box rfl | exact H_boxO rfl iI | exact H_buildB iI iI iI rfl rfl rfl rfl rfl iI rfl rfl | exact H_buildSlice iI iI iI rfl rfl rfl rfl rfl | exact H_buildSlice0 iI iI | exact H_appendD rfl rfl iI iI rfl iI iI byteC_one (by first | omega | (simp [be_length] <;> omega)) rfl | exact H_appendB rfl rfl iI iI iI rfl rfl iI (by first | omega | (simp [be_length] <;> omega)) rfl | exact H_appendS rfl rfl iI rfl iI iI (by first | omega | (simp [be_length] <;> omega)) rfl | exact H_convS rfl iI rfl iI iI iI | exact H_box1 rfl (by first | rfl | assumption)); intro g)
    | ((first | refine' LS_h0 ?h ?_ | refine' DL_h0 ?h rfl rfl ?_); (case h => first | exact H_storeO rfl rfl iI iI iI rfl | exact H_storeAO rfl rfl iI iI iI rfl | exact H_store8 rfl rfl iI iI rfl iI (by first | assumption | omega | (simp [be_length] <;> omega)) | exact H_storeRA _ rfl rfl rfl iI iI iI rfl rfl (by first | assumption | omega | (simp [be_length] <;> omega)) | exact H_storeR _ rfl rfl iI iI iI rfl (by assumption) rfl | exact H_store rfl rfl iI (by first | rfl | assumption) iI rfl | exact H_storeA rfl rfl iI iI (by first | rfl | (simp only [List.all_cons, List.all_nil, *]; rfl)) rfl); intro g)
    | (first | refine WS_block ?_ | refine WS_skip ?_ | refine WS_ret ?_ | refine WS_exit ?_ | refine WS_label ?_)
    | (show WS _ _ _ (.cond _ _ _) _ _; first | refine WS_condT rfl iI ?_ | refine WS_condF rfl iI ?_ | refine WS_condH_t rfl (by assumption) ?_ | refine WS_condH_f rfl (by assumption) ?_ | (refine WS_cond rfl ?_ ?_ <;> intro hc <;> (try simp only [decide_eq_true_eq, decide_eq_false_iff_not, Bool.not_eq_eq_eq_not, Bool.not_true, Bool.not_false, Bool.and_eq_true, Bool.or_eq_true, bne_iff_ne, beq_iff_eq, ne_eq, Decidable.not_not] at hc) <;> (try (exfalso; first | contradiction | omega; done))))
    | refine WS_drawS (by kernel_rfl) ?_
    | refine LS_deferV0 rfl rfl rfl ?_
    | refine LS_one_f rfl iI iI ?_
    | (refine LS_one_t rfl iI iI rfl ?_)
    | (refine LS_four rfl iI iI rfl ?_ ?_ <;> (intro hc; try simp only [List.length_drop] at hc))
    | (refine LS_take rfl iI iI iI rfl ?_ ?_ <;> (intro hc; try simp only [List.length_drop] at hc))
    | (refine LS_must rfl rfl ?_ ?_ <;> (intro hc; first
    | (cases hc; done)
    | skip))
    | with_reducible refine thenS_p ?_
    | with_reducible refine blockS_p ?_)
  all_goals
    first
    | (have hd : Pk.dec (t :: k :: f :: z :: n :: l) = none := by
        rw [hde, if_neg]
        first | ((try simp only [List.length_drop] at *); omega) | (intro hcon; simp_all [numAt_dropK]; done)
       refine out_brk rfl rfl inferInstance inferInstance rfl rfl ?_
       simp only [decV, decH, hd]
       exact ⟨.slice none 0 0, rfl, by ((try simp only [star_assoc, emp_star, star_emp]); (repeat' (first | exact Ent.last | refine Ent.take ?_ | refine Ent.nilT ?_ | refine Ent.takeR (by first | rfl | assumption | (simp; done)) ?_ | exact Ent.refl _)))⟩)
    | (have hd := hde.trans (if_pos (by first | ((try simp only [List.length_drop] at *); omega) | (refine ⟨by (try simp only [List.length_drop] at *); omega, ?_⟩; simp_all [numAt_dropK]; done)))
       refine out_ok rfl rfl inferInstance inferInstance rfl ?_
       simp only [decV, decH, hd, Option.getD_some, Option.isSome_some]
       exact ⟨.slice none 0 0, by simp [Pk.val, Pk.cells, numAt_dropK, h2, *], by ((try simp only [star_assoc, emp_star, star_emp]); (repeat' (first | exact Ent.last | refine Ent.take ?_ | refine Ent.nilT ?_ | refine Ent.takeR (by first | rfl | assumption | (simp; done)) ?_ | exact Ent.refl _)))⟩)
set_option maxRecDepth 100000 in
set_option maxHeartbeats 8000000 in
theorem wdec_1a (t k f z n : UInt8) (l : List UInt8) (hl : l.length ≤ 100000) (hz : z.toNat = 0) (ht : 0 < t.toNat) (hf : f.toNat = 0) (h2 : k.toNat = 1) (v : Value) (X : HProp) [hX : Rdr w0 X v UInt8 1 byteC (t :: k :: f :: z :: n :: l)] : Spec Tryz.prog w0 35 [v] X (fun v' : Value => decV (t :: k :: f :: z :: n :: l) v') (fun v' => decH (t :: k :: f :: z :: n :: l) v' X) := by
  have hde : Pk.dec (t :: k :: f :: z :: n :: l) = if l.length = 20 then some ⟨t.toNat, 1, n.toNat, false, numAt l 0, numAt l 4, numAt l 8, numAt l 12, numAt l 16, 0, [], []⟩ else none := by
    obtain rfl := toNat_eq8 h2 (by decide); obtain rfl := toNat_eq8 hz (by decide); obtain rfl := toNat_eq8 hf (by decide)
    have ht' : t ≠ 0 := fun e => by rw [e] at ht; simp at ht
    simp [Pk.dec, Pk.body, ht']
  refine Spec.enterM Tryz.func35 rfl Tryz.ntmps35 rfl fun G => ?_
  simp only [argE]
  refine WS_formR v (inferInstance : Rdr w0 (X * G) v UInt8 1 byteC (t :: k :: f :: z :: n :: l)) fun A cap hv => ?_
  subst hv
  repeat' (first
    | (refine WS_seqK ?_; intro K hK)
    | (refine hK _ ?_; clear hK K)
    | (with_reducible (first | refine thenS_n ?_ | refine thenS_e ?_ | refine blockS_n ?_ | refine blockS_e ?_ | refine blockS_o rfl ?_ | refine thenS_r ?_ | refine blockS_r ?_ | refine use_K (by assumption) ?_))
    | refine WS_region ?_
    | refine LS_nil ?_
    | (show LS _ _ _ _ _ (⟨_, _, _, _, _, some _⟩ :: _) _; first | refine LS_wantT rfl rfl iI rfl ?_ | refine LS_wantF rfl rfl iI rfl ?_ | refine LS_wantU rfl rfl rfl ?_ | ((first | refine LS_wantS rfl rfl rfl ?_ ?_ | refine LS_wantN rfl ?_ ?_) <;> intro hc <;> (try simp only [decide_eq_true_eq, decide_eq_false_iff_not, Bool.not_eq_eq_eq_not, Bool.not_true, Bool.not_false, Bool.and_eq_true, Bool.or_eq_true, bne_iff_ne, beq_iff_eq, ne_eq, Decidable.not_not] at hc) <;> (try (exfalso; first | contradiction | omega; done))))
    | (first | refine DL_nilA ?_ | refine DL_nilS ?_ | refine DL_nilN ?_ | refine DL_nilE ?_ | refine DL_nilR ?_)
    | (first | refine DL_claimS rfl ?_ | refine DL_claim rfl rfl ?_)
    | (refine DL_alloc iI rfl ?_; intro g)
    | ((first | refine' LQ ?h rfl ?_ | refine' DL_qp rfl rfl rfl ?h ?_ | refine' DL_q rfl rfl ?h ?_); case h => intro F'; first | exact Q_move rfl | exact Q_assign rfl | exact Q_nilCheck rfl | exact Q_fieldAddr rfl iI rfl | exact Q_load rfl iI iI rfl | exact Q_bin_t rfl rfl iI (by first | assumption | omega | decide) | exact Q_bin_f rfl rfl iI (by first | assumption | omega | decide) | exact Q_bin_nt rfl rfl iI (by first | assumption | omega | decide) | exact Q_bin_nf rfl rfl iI (by first | assumption | omega | decide) | exact Q_addI rfl rfl (by omega) | exact Q_subI rfl rfl (by omega) | exact Q_pick_t rfl iI rfl | exact Q_pick_f rfl iI rfl | exact Q_pick rfl rfl rfl | exact Q_un rfl iI | exact Q_loadA rfl iI iI rfl | exact Q_build iI iI rfl rfl | exact Q_buildA iI iI iI rfl rfl | exact Q_len rfl iI | exact Q_lenS rfl iI | exact Q_fieldR rfl iI iI rfl (by first | assumption | omega | (simp [be_length] <;> omega)) | exact Q_loadR rfl iI iI iI (by assumption) rfl | exact Q_loadR rfl iI iI iI rfl rfl | exact Q_loadRA rfl iI iI iI (by assumption) | exact Q_lenR rfl iI iI | exact Q_lenM rfl iI iI | exact Q_conv32_8 rfl iI iI iI | exact Q_conv64 rfl iI iI iI | exact Q_conv32 rfl iI iI iI | exact Q_convS rfl iI rfl iI iI iI | exact Q_convSame rfl iI iI (by omega) | exact Q_convI8 rfl iI iI | exact Q_conv328 rfl iI iI | exact Q_conv8 rfl iI iI | exact Q_bytesS rfl iI iI rfl iI iI iI | exact Q_addS rfl rfl (by first | omega | (simp [be_length] <;> omega)) | exact Q_makeFunc rfl rfl | exact Q_nilCheck_f rfl | exact Q_quoI rfl rfl (by omega) | exact Q_remI rfl rfl (by omega) | exact Q_negI rfl (by omega) | exact Q_mulI rfl rfl (by omega))
    | ((first | refine LS_binS rfl rfl iI rfl ?_ ?_ | refine LS_binN rfl rfl iI rfl ?_ ?_ | refine DL_binS rfl rfl iI rfl ?_ ?_) <;> intro hc)
    | ((first | refine' LQ ?h rfl ?_ | refine' DL_qp rfl rfl rfl ?h ?_ | refine' DL_q rfl rfl ?h ?_); case h => intro F'; first | exact Q_bin rfl rfl iI)
    | ((first | refine' LS_h ?h rfl ?_ | refine' DL_h ?h rfl rfl rfl ?_); (case h => first | exact H_alloc iI | exact H_box rfl | exact H_boxO rfl iI | exact H_buildB iI iI iI rfl rfl rfl rfl rfl iI rfl rfl | exact H_buildSlice iI iI iI rfl rfl rfl rfl rfl | exact H_buildSlice0 iI iI | exact H_appendD rfl rfl iI iI rfl iI iI byteC_one (by first | omega | (simp [be_length] <;> omega)) rfl | exact H_appendB rfl rfl iI iI iI rfl rfl iI (by first | omega | (simp [be_length] <;> omega)) rfl | exact H_appendS rfl rfl iI rfl iI iI (by first | omega | (simp [be_length] <;> omega)) rfl | exact H_convS rfl iI rfl iI iI iI | exact H_box1 rfl (by first | rfl | assumption)); intro g)
    | ((first | refine' LS_h0 ?h ?_ | refine' DL_h0 ?h rfl rfl ?_); (case h => first | exact H_storeO rfl rfl iI iI iI rfl | exact H_storeAO rfl rfl iI iI iI rfl | exact H_store8 rfl rfl iI iI rfl iI (by first | assumption | omega | (simp [be_length] <;> omega)) | exact H_storeRA _ rfl rfl rfl iI iI iI rfl rfl (by first | assumption | omega | (simp [be_length] <;> omega)) | exact H_storeR _ rfl rfl iI iI iI rfl (by assumption) rfl | exact H_store rfl rfl iI (by first | rfl | assumption) iI rfl | exact H_storeA rfl rfl iI iI (by first | rfl | (simp only [List.all_cons, List.all_nil, *]; rfl)) rfl); intro g)
    | (first | refine WS_block ?_ | refine WS_skip ?_ | refine WS_ret ?_ | refine WS_exit ?_ | refine WS_label ?_)
    | (show WS _ _ _ (.cond _ _ _) _ _; first | refine WS_condT rfl iI ?_ | refine WS_condF rfl iI ?_ | refine WS_condH_t rfl (by assumption) ?_ | refine WS_condH_f rfl (by assumption) ?_ | (refine WS_cond rfl ?_ ?_ <;> intro hc <;> (try simp only [decide_eq_true_eq, decide_eq_false_iff_not, Bool.not_eq_eq_eq_not, Bool.not_true, Bool.not_false, Bool.and_eq_true, Bool.or_eq_true, bne_iff_ne, beq_iff_eq, ne_eq, Decidable.not_not] at hc) <;> (try (exfalso; first | contradiction | omega; done))))
    | refine WS_drawS (by kernel_rfl) ?_
    | refine LS_deferV0 rfl rfl rfl ?_
    | refine LS_one_f rfl iI iI ?_
    | (refine LS_one_t rfl iI iI rfl ?_)
    | (refine LS_four rfl iI iI rfl ?_ ?_ <;> (intro hc; try simp only [List.length_drop] at hc))
    | (refine LS_take rfl iI iI iI rfl ?_ ?_ <;> (intro hc; try simp only [List.length_drop] at hc))
    | (refine LS_must rfl rfl ?_ ?_ <;> (intro hc; first
    | (cases hc; done)
    | skip))
    | with_reducible refine thenS_p ?_
    | with_reducible refine blockS_p ?_)
  all_goals
    first
    | (have hd : Pk.dec (t :: k :: f :: z :: n :: l) = none := by
        rw [hde, if_neg]
        first | ((try simp only [List.length_drop] at *); omega) | (intro hcon; simp_all [numAt_dropK]; done)
       refine out_brk rfl rfl inferInstance inferInstance rfl rfl ?_
       simp only [decV, decH, hd]
       exact ⟨.slice none 0 0, rfl, by ((try simp only [star_assoc, emp_star, star_emp]); (repeat' (first | exact Ent.last | refine Ent.take ?_ | refine Ent.nilT ?_ | refine Ent.takeR (by first | rfl | assumption | (simp; done)) ?_ | exact Ent.refl _)))⟩)
    | (have hd := hde.trans (if_pos (by first | ((try simp only [List.length_drop] at *); omega) | (refine ⟨by (try simp only [List.length_drop] at *); omega, ?_⟩; simp_all [numAt_dropK]; done)))
       refine out_ok rfl rfl inferInstance inferInstance rfl ?_
       simp only [decV, decH, hd, Option.getD_some, Option.isSome_some]
       exact ⟨.slice none 0 0, by simp [Pk.val, Pk.cells, numAt_dropK, h2, *], by ((try simp only [star_assoc, emp_star, star_emp]); (repeat' (first | exact Ent.last | refine Ent.take ?_ | refine Ent.nilT ?_ | refine Ent.takeR (by first | rfl | assumption | (simp; done)) ?_ | exact Ent.refl _)))⟩)
end Go.Proofs.YtapoehkdnglahabGreat

/- What wire.Decode returns, by a walk: the kinds. -/
namespace Go.Proofs.YtapoehkdnglahabGreat
open Go.RowKit
set_option linter.unusedVariables false
set_option linter.unusedSimpArgs false
attribute [local irreducible] WS LS OpQ OpT OpH OpTQ Spec SpecQ SpecX DSpec cel AS sTail sHead
variable (w0 : World)
set_option maxRecDepth 100000 in
set_option maxHeartbeats 8000000 in
theorem wdec_1b (t k f z n : UInt8) (l : List UInt8) (hl : l.length ≤ 100000) (hz : z.toNat = 0) (ht : 0 < t.toNat) (hf : f.toNat = 8) (h2 : k.toNat = 1) (v : Value) (X : HProp) [hX : Rdr w0 X v UInt8 1 byteC (t :: k :: f :: z :: n :: l)] : Spec Tryz.prog w0 35 [v] X (fun v' : Value => decV (t :: k :: f :: z :: n :: l) v') (fun v' => decH (t :: k :: f :: z :: n :: l) v' X) := by
  have hde : Pk.dec (t :: k :: f :: z :: n :: l) = if l.length = 20 ∧ numAt l 8 = 0 then some ⟨t.toNat, 1, n.toNat, true, numAt l 0, numAt l 4, numAt l 8, numAt l 12, numAt l 16, 0, [], []⟩ else none := by
    obtain rfl := toNat_eq8 h2 (by decide); obtain rfl := toNat_eq8 hz (by decide); obtain rfl := toNat_eq8 hf (by decide)
    have ht' : t ≠ 0 := fun e => by rw [e] at ht; simp at ht
    simp [Pk.dec, Pk.body, ht']
  refine Spec.enterM Tryz.func35 rfl Tryz.ntmps35 rfl fun G => ?_
  simp only [argE]
  refine WS_formR v (inferInstance : Rdr w0 (X * G) v UInt8 1 byteC (t :: k :: f :: z :: n :: l)) fun A cap hv => ?_
  subst hv
  repeat' (first
    | (refine WS_seqK ?_; intro K hK)
    | (refine hK _ ?_; clear hK K)
    | (with_reducible (first | refine thenS_n ?_ | refine thenS_e ?_ | refine blockS_n ?_ | refine blockS_e ?_ | refine blockS_o rfl ?_ | refine thenS_r ?_ | refine blockS_r ?_ | refine use_K (by assumption) ?_))
    | refine WS_region ?_
    | refine LS_nil ?_
    | (show LS _ _ _ _ _ (⟨_, _, _, _, _, some _⟩ :: _) _; first | refine LS_wantT rfl rfl iI rfl ?_ | refine LS_wantF rfl rfl iI rfl ?_ | refine LS_wantU rfl rfl rfl ?_ | ((first | refine LS_wantS rfl rfl rfl ?_ ?_ | refine LS_wantN rfl ?_ ?_) <;> intro hc <;> (try simp only [decide_eq_true_eq, decide_eq_false_iff_not, Bool.not_eq_eq_eq_not, Bool.not_true, Bool.not_false, Bool.and_eq_true, Bool.or_eq_true, bne_iff_ne, beq_iff_eq, ne_eq, Decidable.not_not] at hc) <;> (try (exfalso; first | contradiction | omega; done))))
    | (first | refine DL_nilA ?_ | refine DL_nilS ?_ | refine DL_nilN ?_ | refine DL_nilE ?_ | refine DL_nilR ?_)
    | (first | refine DL_claimS rfl ?_ | refine DL_claim rfl rfl ?_)
    | (refine DL_alloc iI rfl ?_; intro g)
    | ((first | refine' LQ ?h rfl ?_ | refine' DL_qp rfl rfl rfl ?h ?_ | refine' DL_q rfl rfl ?h ?_); case h => intro F'; first | exact Q_move rfl | exact Q_assign rfl | exact Q_nilCheck rfl | exact Q_fieldAddr rfl iI rfl | exact Q_load rfl iI iI rfl | exact Q_bin_t rfl rfl iI (by first | assumption | omega | decide) | exact Q_bin_f rfl rfl iI (by first | assumption | omega | decide) | exact Q_bin_nt rfl rfl iI (by first | assumption | omega | decide) | exact Q_bin_nf rfl rfl iI (by first | assumption | omega | decide) | exact Q_addI rfl rfl (by omega) | exact Q_subI rfl rfl (by omega) | exact Q_pick_t rfl iI rfl | exact Q_pick_f rfl iI rfl | exact Q_pick rfl rfl rfl | exact Q_un rfl iI | exact Q_loadA rfl iI iI rfl | exact Q_build iI iI rfl rfl | exact Q_buildA iI iI iI rfl rfl | exact Q_len rfl iI | exact Q_lenS rfl iI | exact Q_fieldR rfl iI iI rfl (by first | assumption | omega | (simp [be_length] <;> omega)) | exact Q_loadR rfl iI iI iI (by assumption) rfl | exact Q_loadR rfl iI iI iI rfl rfl | exact Q_loadRA rfl iI iI iI (by assumption) | exact Q_lenR rfl iI iI | exact Q_lenM rfl iI iI | exact Q_conv32_8 rfl iI iI iI | exact Q_conv64 rfl iI iI iI | exact Q_conv32 rfl iI iI iI | exact Q_convS rfl iI rfl iI iI iI | exact Q_convSame rfl iI iI (by omega) | exact Q_convI8 rfl iI iI | exact Q_conv328 rfl iI iI | exact Q_conv8 rfl iI iI | exact Q_bytesS rfl iI iI rfl iI iI iI | exact Q_addS rfl rfl (by first | omega | (simp [be_length] <;> omega)) | exact Q_makeFunc rfl rfl | exact Q_nilCheck_f rfl | exact Q_quoI rfl rfl (by omega) | exact Q_remI rfl rfl (by omega) | exact Q_negI rfl (by omega) | exact Q_mulI rfl rfl (by omega))
    | ((first | refine LS_binS rfl rfl iI rfl ?_ ?_ | refine LS_binN rfl rfl iI rfl ?_ ?_ | refine DL_binS rfl rfl iI rfl ?_ ?_) <;> intro hc)
    | ((first | refine' LQ ?h rfl ?_ | refine' DL_qp rfl rfl rfl ?h ?_ | refine' DL_q rfl rfl ?h ?_); case h => intro F'; first | exact Q_bin rfl rfl iI)
    | ((first | refine' LS_h ?h rfl ?_ | refine' DL_h ?h rfl rfl rfl ?_); (case h => first | exact H_alloc iI | exact H_box rfl | exact H_boxO rfl iI | exact H_buildB iI iI iI rfl rfl rfl rfl rfl iI rfl rfl | exact H_buildSlice iI iI iI rfl rfl rfl rfl rfl | exact H_buildSlice0 iI iI | exact H_appendD rfl rfl iI iI rfl iI iI byteC_one (by first | omega | (simp [be_length] <;> omega)) rfl | exact H_appendB rfl rfl iI iI iI rfl rfl iI (by first | omega | (simp [be_length] <;> omega)) rfl | exact H_appendS rfl rfl iI rfl iI iI (by first | omega | (simp [be_length] <;> omega)) rfl | exact H_convS rfl iI rfl iI iI iI | exact H_box1 rfl (by first | rfl | assumption)); intro g)
    | ((first | refine' LS_h0 ?h ?_ | refine' DL_h0 ?h rfl rfl ?_); (case h => first | exact H_storeO rfl rfl iI iI iI rfl | exact H_storeAO rfl rfl iI iI iI rfl | exact H_store8 rfl rfl iI iI rfl iI (by first | assumption | omega | (simp [be_length] <;> omega)) | exact H_storeRA _ rfl rfl rfl iI iI iI rfl rfl (by first | assumption | omega | (simp [be_length] <;> omega)) | exact H_storeR _ rfl rfl iI iI iI rfl (by assumption) rfl | exact H_store rfl rfl iI (by first | rfl | assumption) iI rfl | exact H_storeA rfl rfl iI iI (by first | rfl | (simp only [List.all_cons, List.all_nil, *]; rfl)) rfl); intro g)
    | (first | refine WS_block ?_ | refine WS_skip ?_ | refine WS_ret ?_ | refine WS_exit ?_ | refine WS_label ?_)
    | (show WS _ _ _ (.cond _ _ _) _ _; first | refine WS_condT rfl iI ?_ | refine WS_condF rfl iI ?_ | refine WS_condH_t rfl (by assumption) ?_ | refine WS_condH_f rfl (by assumption) ?_ | (refine WS_cond rfl ?_ ?_ <;> intro hc <;> (try simp only [decide_eq_true_eq, decide_eq_false_iff_not, Bool.not_eq_eq_eq_not, Bool.not_true, Bool.not_false, Bool.and_eq_true, Bool.or_eq_true, bne_iff_ne, beq_iff_eq, ne_eq, Decidable.not_not] at hc) <;> (try (exfalso; first | contradiction | omega; done))))
    | refine WS_drawS (by kernel_rfl) ?_
    | refine LS_deferV0 rfl rfl rfl ?_
    | refine LS_one_f rfl iI iI ?_
    | (refine LS_one_t rfl iI iI rfl ?_)
    | (refine LS_four rfl iI iI rfl ?_ ?_ <;> (intro hc; try simp only [List.length_drop] at hc))
    | (refine LS_take rfl iI iI iI rfl ?_ ?_ <;> (intro hc; try simp only [List.length_drop] at hc))
    | (refine LS_must rfl rfl ?_ ?_ <;> (intro hc; first
    | (cases hc; done)
    | skip))
    | with_reducible refine thenS_p ?_
    | with_reducible refine blockS_p ?_)
  all_goals
    first
    | (have hd : Pk.dec (t :: k :: f :: z :: n :: l) = none := by
        rw [hde, if_neg]
        first | ((try simp only [List.length_drop] at *); omega) | (intro hcon; simp_all [numAt_dropK]; done)
       refine out_brk rfl rfl inferInstance inferInstance rfl rfl ?_
       simp only [decV, decH, hd]
       exact ⟨.slice none 0 0, rfl, by ((try simp only [star_assoc, emp_star, star_emp]); (repeat' (first | exact Ent.last | refine Ent.take ?_ | refine Ent.nilT ?_ | refine Ent.takeR (by first | rfl | assumption | (simp; done)) ?_ | exact Ent.refl _)))⟩)
    | (have hd := hde.trans (if_pos (by first | ((try simp only [List.length_drop] at *); omega) | (refine ⟨by (try simp only [List.length_drop] at *); omega, ?_⟩; simp_all [numAt_dropK]; done)))
       refine out_ok rfl rfl inferInstance inferInstance rfl ?_
       simp only [decV, decH, hd, Option.getD_some, Option.isSome_some]
       exact ⟨.slice none 0 0, by simp [Pk.val, Pk.cells, numAt_dropK, h2, *], by ((try simp only [star_assoc, emp_star, star_emp]); (repeat' (first | exact Ent.last | refine Ent.take ?_ | refine Ent.nilT ?_ | refine Ent.takeR (by first | rfl | assumption | (simp; done)) ?_ | exact Ent.refl _)))⟩)
set_option maxRecDepth 100000 in
set_option maxHeartbeats 8000000 in
theorem wdec_9 (t k f z n : UInt8) (l : List UInt8) (hl : l.length ≤ 100000) (hz : z.toNat = 0) (ht : 0 < t.toNat) (hf : f.toNat = 0) (h2 : k.toNat = 9) (v : Value) (X : HProp) [hX : Rdr w0 X v UInt8 1 byteC (t :: k :: f :: z :: n :: l)] : Spec Tryz.prog w0 35 [v] X (fun v' : Value => decV (t :: k :: f :: z :: n :: l) v') (fun v' => decH (t :: k :: f :: z :: n :: l) v' X) := by
  have hde : Pk.dec (t :: k :: f :: z :: n :: l) = if n.toNat ≤ 16 ∧ l.length = 12 + n.toNat then some ⟨t.toNat, 9, 0, false, numAt l 0, numAt l 4, 0, numAt l 8, 0, 0, [], l.drop 12⟩ else none := by
    obtain rfl := toNat_eq8 h2 (by decide); obtain rfl := toNat_eq8 hz (by decide); obtain rfl := toNat_eq8 hf (by decide)
    have ht' : t ≠ 0 := fun e => by rw [e] at ht; simp at ht
    simp [Pk.dec, Pk.body, ht']
  refine Spec.enterM Tryz.func35 rfl Tryz.ntmps35 rfl fun G => ?_
  simp only [argE]
  refine WS_formR v (inferInstance : Rdr w0 (X * G) v UInt8 1 byteC (t :: k :: f :: z :: n :: l)) fun A cap hv => ?_
  subst hv
  repeat' (first
    | (refine WS_seqK ?_; intro K hK)
    | (refine hK _ ?_; clear hK K)
    | (with_reducible (first | refine thenS_n ?_ | refine thenS_e ?_ | refine blockS_n ?_ | refine blockS_e ?_ | refine blockS_o rfl ?_ | refine thenS_r ?_ | refine blockS_r ?_ | refine use_K (by assumption) ?_))
    | refine WS_region ?_
    | refine LS_nil ?_
    | (show LS _ _ _ _ _ (⟨_, _, _, _, _, some _⟩ :: _) _; first | refine LS_wantT rfl rfl iI rfl ?_ | refine LS_wantF rfl rfl iI rfl ?_ | refine LS_wantU rfl rfl rfl ?_ | ((first | refine LS_wantS rfl rfl rfl ?_ ?_ | refine LS_wantN rfl ?_ ?_) <;> intro hc <;> (try simp only [decide_eq_true_eq, decide_eq_false_iff_not, Bool.not_eq_eq_eq_not, Bool.not_true, Bool.not_false, Bool.and_eq_true, Bool.or_eq_true, bne_iff_ne, beq_iff_eq, ne_eq, Decidable.not_not] at hc) <;> (try (exfalso; first | contradiction | omega; done))))
    | (first | refine DL_nilA ?_ | refine DL_nilS ?_ | refine DL_nilN ?_ | refine DL_nilE ?_ | refine DL_nilR ?_)
    | (first | refine DL_claimS rfl ?_ | refine DL_claim rfl rfl ?_)
    | (refine DL_alloc iI rfl ?_; intro g)
    | ((first | refine' LQ ?h rfl ?_ | refine' DL_qp rfl rfl rfl ?h ?_ | refine' DL_q rfl rfl ?h ?_); case h => intro F'; first | exact Q_move rfl | exact Q_assign rfl | exact Q_nilCheck rfl | exact Q_fieldAddr rfl iI rfl | exact Q_load rfl iI iI rfl | exact Q_bin_t rfl rfl iI (by first | assumption | omega | decide) | exact Q_bin_f rfl rfl iI (by first | assumption | omega | decide) | exact Q_bin_nt rfl rfl iI (by first | assumption | omega | decide) | exact Q_bin_nf rfl rfl iI (by first | assumption | omega | decide) | exact Q_addI rfl rfl (by omega) | exact Q_subI rfl rfl (by omega) | exact Q_pick_t rfl iI rfl | exact Q_pick_f rfl iI rfl | exact Q_pick rfl rfl rfl | exact Q_un rfl iI | exact Q_loadA rfl iI iI rfl | exact Q_build iI iI rfl rfl | exact Q_buildA iI iI iI rfl rfl | exact Q_len rfl iI | exact Q_lenS rfl iI | exact Q_fieldR rfl iI iI rfl (by first | assumption | omega | (simp [be_length] <;> omega)) | exact Q_loadR rfl iI iI iI (by assumption) rfl | exact Q_loadR rfl iI iI iI rfl rfl | exact Q_loadRA rfl iI iI iI (by assumption) | exact Q_lenR rfl iI iI | exact Q_lenM rfl iI iI | exact Q_conv32_8 rfl iI iI iI | exact Q_conv64 rfl iI iI iI | exact Q_conv32 rfl iI iI iI | exact Q_convS rfl iI rfl iI iI iI | exact Q_convSame rfl iI iI (by omega) | exact Q_convI8 rfl iI iI | exact Q_conv328 rfl iI iI | exact Q_conv8 rfl iI iI | exact Q_bytesS rfl iI iI rfl iI iI iI | exact Q_addS rfl rfl (by first | omega | (simp [be_length] <;> omega)) | exact Q_makeFunc rfl rfl | exact Q_nilCheck_f rfl | exact Q_quoI rfl rfl (by omega) | exact Q_remI rfl rfl (by omega) | exact Q_negI rfl (by omega) | exact Q_mulI rfl rfl (by omega))
    | ((first | refine LS_binS rfl rfl iI rfl ?_ ?_ | refine LS_binN rfl rfl iI rfl ?_ ?_ | refine DL_binS rfl rfl iI rfl ?_ ?_) <;> intro hc)
    | ((first | refine' LQ ?h rfl ?_ | refine' DL_qp rfl rfl rfl ?h ?_ | refine' DL_q rfl rfl ?h ?_); case h => intro F'; first | exact Q_bin rfl rfl iI)
    | ((first | refine' LS_h ?h rfl ?_ | refine' DL_h ?h rfl rfl rfl ?_); (case h => first | exact H_alloc iI | exact H_box rfl | exact H_boxO rfl iI | exact H_buildB iI iI iI rfl rfl rfl rfl rfl iI rfl rfl | exact H_buildSlice iI iI iI rfl rfl rfl rfl rfl | exact H_buildSlice0 iI iI | exact H_appendD rfl rfl iI iI rfl iI iI byteC_one (by first | omega | (simp [be_length] <;> omega)) rfl | exact H_appendB rfl rfl iI iI iI rfl rfl iI (by first | omega | (simp [be_length] <;> omega)) rfl | exact H_appendS rfl rfl iI rfl iI iI (by first | omega | (simp [be_length] <;> omega)) rfl | exact H_convS rfl iI rfl iI iI iI | exact H_box1 rfl (by first | rfl | assumption)); intro g)
    | ((first | refine' LS_h0 ?h ?_ | refine' DL_h0 ?h rfl rfl ?_); (case h => first | exact H_storeO rfl rfl iI iI iI rfl | exact H_storeAO rfl rfl iI iI iI rfl | exact H_store8 rfl rfl iI iI rfl iI (by first | assumption | omega | (simp [be_length] <;> omega)) | exact H_storeRA _ rfl rfl rfl iI iI iI rfl rfl (by first | assumption | omega | (simp [be_length] <;> omega)) | exact H_storeR _ rfl rfl iI iI iI rfl (by assumption) rfl | exact H_store rfl rfl iI (by first | rfl | assumption) iI rfl | exact H_storeA rfl rfl iI iI (by first | rfl | (simp only [List.all_cons, List.all_nil, *]; rfl)) rfl); intro g)
    | (first | refine WS_block ?_ | refine WS_skip ?_ | refine WS_ret ?_ | refine WS_exit ?_ | refine WS_label ?_)
    | (show WS _ _ _ (.cond _ _ _) _ _; first | refine WS_condT rfl iI ?_ | refine WS_condF rfl iI ?_ | refine WS_condH_t rfl (by assumption) ?_ | refine WS_condH_f rfl (by assumption) ?_ | (refine WS_cond rfl ?_ ?_ <;> intro hc <;> (try simp only [decide_eq_true_eq, decide_eq_false_iff_not, Bool.not_eq_eq_eq_not, Bool.not_true, Bool.not_false, Bool.and_eq_true, Bool.or_eq_true, bne_iff_ne, beq_iff_eq, ne_eq, Decidable.not_not] at hc) <;> (try (exfalso; first | contradiction | omega; done))))
    | refine WS_drawS (by kernel_rfl) ?_
    | refine LS_deferV0 rfl rfl rfl ?_
    | refine LS_one_f rfl iI iI ?_
    | (refine LS_one_t rfl iI iI rfl ?_)
    | (refine LS_four rfl iI iI rfl ?_ ?_ <;> (intro hc; try simp only [List.length_drop] at hc))
    | (refine LS_take rfl iI iI iI rfl ?_ ?_ <;> (intro hc; try simp only [List.length_drop] at hc))
    | (refine LS_must rfl rfl ?_ ?_ <;> (intro hc; first
    | (cases hc; done)
    | skip))
    | with_reducible refine thenS_p ?_
    | with_reducible refine blockS_p ?_)
  all_goals
    first
    | (have hd : Pk.dec (t :: k :: f :: z :: n :: l) = none := by
        rw [hde, if_neg]
        first | ((try simp only [List.length_drop] at *); omega) | (intro hcon; simp_all [numAt_dropK]; done)
       refine out_brk rfl rfl inferInstance inferInstance rfl rfl ?_
       simp only [decV, decH, hd]
       exact ⟨.slice none 0 0, rfl, by ((try simp only [star_assoc, emp_star, star_emp]); (repeat' (first | exact Ent.last | refine Ent.take ?_ | refine Ent.nilT ?_ | refine Ent.takeR (by first | rfl | assumption | (simp; done)) ?_ | exact Ent.refl _)))⟩)
    | (have hd := hde.trans (if_pos (by first | ((try simp only [List.length_drop] at *); omega) | (refine ⟨by (try simp only [List.length_drop] at *); omega, ?_⟩; simp_all [numAt_dropK]; done)))
       have e12 : (l.drop 12).take n.toNat = l.drop 12 := List.take_of_length_le (by (try simp only [List.length_drop] at *); omega)
       refine out_ok rfl rfl inferInstance inferInstance rfl ?_
       simp only [decV, decH, hd, Option.getD_some, Option.isSome_some]
       exact ⟨.slice none 0 0, by simp [Pk.val, Pk.cells, numAt_dropK, h2, *], by ((try simp only [star_assoc, emp_star, star_emp]); (repeat' (first | exact Ent.last | refine Ent.take ?_ | refine Ent.nilT ?_ | refine Ent.takeR (by first | rfl | assumption | (simp; done)) ?_ | exact Ent.refl _)))⟩)
end Go.Proofs.YtapoehkdnglahabGreat

/- What wire.Decode returns, by a walk: the kinds. -/
namespace Go.Proofs.YtapoehkdnglahabGreat
open Go.RowKit
set_option linter.unusedVariables false
set_option linter.unusedSimpArgs false
attribute [local irreducible] WS LS OpQ OpT OpH OpTQ Spec SpecQ SpecX DSpec cel AS sTail sHead
variable (w0 : World)
set_option maxRecDepth 100000 in
set_option maxHeartbeats 8000000 in
theorem wdec_3 (t k f z n : UInt8) (l : List UInt8) (hl : l.length ≤ 100000) (hz : z.toNat = 0) (ht : 0 < t.toNat) (hf : f.toNat = 0) (h2 : k.toNat = 3) (v : Value) (X : HProp) [hX : Rdr w0 X v UInt8 1 byteC (t :: k :: f :: z :: n :: l)] : Spec Tryz.prog w0 35 [v] X (fun v' : Value => decV (t :: k :: f :: z :: n :: l) v') (fun v' => decH (t :: k :: f :: z :: n :: l) v' X) := by
  have hde : Pk.dec (t :: k :: f :: z :: n :: l) = if 1 ≤ n.toNat ∧ n.toNat ≤ 8 ∧ l.length = 8 * n.toNat then some ⟨t.toNat, 3, 0, false, 0, 0, 0, 0, 0, 0, lostsAt l n.toNat, []⟩ else none := by
    obtain rfl := toNat_eq8 h2 (by decide); obtain rfl := toNat_eq8 hz (by decide); obtain rfl := toNat_eq8 hf (by decide)
    have ht' : t ≠ 0 := fun e => by rw [e] at ht; simp at ht
    simp [Pk.dec, Pk.body, ht']
  refine Spec.enterM Tryz.func35 rfl Tryz.ntmps35 rfl fun G => ?_
  simp only [argE]
  refine WS_formR v (inferInstance : Rdr w0 (X * G) v UInt8 1 byteC (t :: k :: f :: z :: n :: l)) fun A cap hv => ?_
  subst hv
  repeat' (first
    | (refine WS_seqK ?_; intro K hK)
    | (refine hK _ ?_; clear hK K)
    | (with_reducible (first | refine thenS_n ?_ | refine thenS_e ?_ | refine blockS_n ?_ | refine blockS_e ?_ | refine blockS_o rfl ?_ | refine thenS_r ?_ | refine blockS_r ?_ | refine use_K (by assumption) ?_))
    | refine WS_region ?_
    | refine LS_nil ?_
    | (show LS _ _ _ _ _ (⟨_, _, _, _, _, some _⟩ :: _) _; first | refine LS_wantT rfl rfl iI rfl ?_ | refine LS_wantF rfl rfl iI rfl ?_ | refine LS_wantU rfl rfl rfl ?_ | ((first | refine LS_wantS rfl rfl rfl ?_ ?_ | refine LS_wantN rfl ?_ ?_) <;> intro hc <;> (try simp only [decide_eq_true_eq, decide_eq_false_iff_not, Bool.not_eq_eq_eq_not, Bool.not_true, Bool.not_false, Bool.and_eq_true, Bool.or_eq_true, bne_iff_ne, beq_iff_eq, ne_eq, Decidable.not_not] at hc) <;> (try (exfalso; first | contradiction | omega; done))))
    | (first | refine DL_nilA ?_ | refine DL_nilS ?_ | refine DL_nilN ?_ | refine DL_nilE ?_ | refine DL_nilR ?_)
    | (first | refine DL_claimS rfl ?_ | refine DL_claim rfl rfl ?_)
    | (refine DL_alloc iI rfl ?_; intro g)
    | ((first | refine' LQ ?h rfl ?_ | refine' DL_qp rfl rfl rfl ?h ?_ | refine' DL_q rfl rfl ?h ?_); case h => intro F'; first | exact Q_move rfl | exact Q_assign rfl | exact Q_nilCheck rfl | exact Q_fieldAddr rfl iI rfl | exact Q_load rfl iI iI rfl | exact Q_bin_t rfl rfl iI (by first | assumption | omega | decide) | exact Q_bin_f rfl rfl iI (by first | assumption | omega | decide) | exact Q_bin_nt rfl rfl iI (by first | assumption | omega | decide) | exact Q_bin_nf rfl rfl iI (by first | assumption | omega | decide) | exact Q_addI rfl rfl (by omega) | exact Q_subI rfl rfl (by omega) | exact Q_pick_t rfl iI rfl | exact Q_pick_f rfl iI rfl | exact Q_pick rfl rfl rfl | exact Q_un rfl iI | exact Q_loadA rfl iI iI rfl | exact Q_build iI iI rfl rfl | exact Q_buildA iI iI iI rfl rfl | exact Q_len rfl iI | exact Q_lenS rfl iI | exact Q_fieldR rfl iI iI rfl (by first | assumption | omega | (simp [be_length] <;> omega)) | exact Q_loadR rfl iI iI iI (by assumption) rfl | exact Q_loadR rfl iI iI iI rfl rfl | exact Q_loadRA rfl iI iI iI (by assumption) | exact Q_lenR rfl iI iI | exact Q_lenM rfl iI iI | exact Q_conv32_8 rfl iI iI iI | exact Q_conv64 rfl iI iI iI | exact Q_conv32 rfl iI iI iI | exact Q_convS rfl iI rfl iI iI iI | exact Q_convSame rfl iI iI (by omega) | exact Q_convI8 rfl iI iI | exact Q_conv328 rfl iI iI | exact Q_conv8 rfl iI iI | exact Q_bytesS rfl iI iI rfl iI iI iI | exact Q_addS rfl rfl (by first | omega | (simp [be_length] <;> omega)) | exact Q_makeFunc rfl rfl | exact Q_nilCheck_f rfl | exact Q_quoI rfl rfl (by omega) | exact Q_remI rfl rfl (by omega) | exact Q_negI rfl (by omega) | exact Q_mulI rfl rfl (by omega))
    | ((first | refine LS_binS rfl rfl iI rfl ?_ ?_ | refine LS_binN rfl rfl iI rfl ?_ ?_ | refine DL_binS rfl rfl iI rfl ?_ ?_) <;> intro hc)
    | ((first | refine' LQ ?h rfl ?_ | refine' DL_qp rfl rfl rfl ?h ?_ | refine' DL_q rfl rfl ?h ?_); case h => intro F'; first | exact Q_bin rfl rfl iI)
    | ((first | refine' LS_h ?h rfl ?_ | refine' DL_h ?h rfl rfl rfl ?_); (case h => first | exact H_alloc iI | exact H_box rfl | exact H_boxO rfl iI | exact H_buildB iI iI iI rfl rfl rfl rfl rfl iI rfl rfl | exact H_buildSlice iI iI iI rfl rfl rfl rfl rfl | exact H_buildSlice0 iI iI | exact H_appendD rfl rfl iI iI rfl iI iI byteC_one (by first | omega | (simp [be_length] <;> omega)) rfl | exact H_appendB rfl rfl iI iI iI rfl rfl iI (by first | omega | (simp [be_length] <;> omega)) rfl | exact H_appendS rfl rfl iI rfl iI iI (by first | omega | (simp [be_length] <;> omega)) rfl | exact H_convS rfl iI rfl iI iI iI | exact H_box1 rfl (by first | rfl | assumption)); intro g)
    | ((first | refine' LS_h0 ?h ?_ | refine' DL_h0 ?h rfl rfl ?_); (case h => first | exact H_storeO rfl rfl iI iI iI rfl | exact H_storeAO rfl rfl iI iI iI rfl | exact H_store8 rfl rfl iI iI rfl iI (by first | assumption | omega | (simp [be_length] <;> omega)) | exact H_storeRA _ rfl rfl rfl iI iI iI rfl rfl (by first | assumption | omega | (simp [be_length] <;> omega)) | exact H_storeR _ rfl rfl iI iI iI rfl (by assumption) rfl | exact H_store rfl rfl iI (by first | rfl | assumption) iI rfl | exact H_storeA rfl rfl iI iI (by first | rfl | (simp only [List.all_cons, List.all_nil, *]; rfl)) rfl); intro g)
    | (first | refine WS_block ?_ | refine WS_skip ?_ | refine WS_ret ?_ | refine WS_exit ?_ | refine WS_label ?_)
    | (show WS _ _ _ (.cond _ _ _) _ _; first | refine WS_condT rfl iI ?_ | refine WS_condF rfl iI ?_ | refine WS_condH_t rfl (by assumption) ?_ | refine WS_condH_f rfl (by assumption) ?_ | (refine WS_cond rfl ?_ ?_ <;> intro hc <;> (try simp only [decide_eq_true_eq, decide_eq_false_iff_not, Bool.not_eq_eq_eq_not, Bool.not_true, Bool.not_false, Bool.and_eq_true, Bool.or_eq_true, bne_iff_ne, beq_iff_eq, ne_eq, Decidable.not_not] at hc) <;> (try (exfalso; first | contradiction | omega; done))))
    | refine WS_drawS (by kernel_rfl) ?_
    | refine LS_deferV0 rfl rfl rfl ?_
    | refine LS_one_f rfl iI iI ?_
    | (refine LS_one_t rfl iI iI rfl ?_)
    | (refine LS_four rfl iI iI rfl ?_ ?_ <;> (intro hc; try simp only [List.length_drop] at hc))
    | (refine LS_take rfl iI iI iI rfl ?_ ?_ <;> (intro hc; try simp only [List.length_drop] at hc))
    | (refine LS_must rfl rfl ?_ ?_ <;> (intro hc; first
    | (cases hc; done)
    | skip))
    | with_reducible refine thenS_p ?_
    | with_reducible refine blockS_p ?_)
  rotate_left
  · have hd : Pk.dec (t :: k :: f :: z :: n :: l) = none := by rw [hde, if_neg]; omega
    refine out_brk rfl rfl inferInstance inferInstance rfl rfl ?_
    simp only [decV, decH, hd]
    exact ⟨.slice none 0 0, rfl, by ((try simp only [star_assoc, emp_star, star_emp]); (repeat' (first | exact Ent.last | refine Ent.take ?_ | refine Ent.nilT ?_ | refine Ent.takeR (by first | rfl | assumption | (simp; done)) ?_ | exact Ent.refl _)))⟩
  · have hd : Pk.dec (t :: k :: f :: z :: n :: l) = none := by rw [hde, if_neg]; omega
    refine out_brk rfl rfl inferInstance inferInstance rfl rfl ?_
    simp only [decV, decH, hd]
    exact ⟨.slice none 0 0, rfl, by ((try simp only [star_assoc, emp_star, star_emp]); (repeat' (first | exact Ent.last | refine Ent.take ?_ | refine Ent.nilT ?_ | refine Ent.takeR (by first | rfl | assumption | (simp; done)) ?_ | exact Ent.refl _)))⟩
  rename_i p q gg u1 u2 hm1 hn1 hn8
  refine WS_loop (fun m τ => ∃ (i : Nat) (v' vl : Value), i + m = n.toNat ∧ 8 * i ≤ l.length ∧ Rdr w0 X v' UInt8 1 byteC (l.drop (8 * i)) ∧ τ = ⟨[(103, .int .i64 (i : Int)), (102, .int .i64 (n.toNat : Int)), (2, ptr p 0), (3, ptr q 0), (4, ptr gg 0)], [⟨.fn (.func 70) ([ptr p 0, ptr q 0] : List Value).toArray, ([] : List Value).toArray⟩], rows 180 2 lostC vl (lostsAt l i) * (cel gg 176 [v'] * (cel p 44 [.int .i64 (t.toNat : Int), .int .i64 (k.toNat : Int), .int .i64 0, .bool false, u32 0, u32 0, u32 0, u32 0, u32 0, u32 0, vl, strV []] * (cel q 4 [.bool false] * (X * G))))⟩) ?_ ?_
  · refine ⟨n.toNat, _, ⟨0, _, .slice none 0 0, by omega, by omega, (inferInstance : Rdr w0 X (sTail 1 (sTail 1 (sTail 1 (sTail 1 (sTail 1 (.slice A (t :: k :: f :: z :: n :: l).length cap) 1) 1) 1) 1) 1) UInt8 1 byteC l), rfl⟩, ⟨rfl, rfl, rfl, rfl, rfl, trivial⟩, rfl, ?_⟩
    refine Ent.nilT ?_
    ((try simp only [star_assoc, emp_star, star_emp]); (repeat' (first | exact Ent.last | refine Ent.take ?_ | refine Ent.nilT ?_ | refine Ent.takeR (by first | rfl | assumption | (simp; done)) ?_ | exact Ent.refl _)))
  · rintro m τ ⟨i, v', vl, him, hi8, hR, rfl⟩
    have hdl : (l.drop (8 * i)).length = l.length - 8 * i := by simp
    have hdl4 : ((l.drop (8 * i)).drop 4).length = l.length - 8 * i - 4 := by simp; omega
    rcases Nat.lt_or_ge i n.toNat with hlt | hge
    · rcases Nat.lt_or_ge (l.length - 8 * i) 8 with h8 | h8
      · have hd : Pk.dec (t :: k :: f :: z :: n :: l) = none := by rw [hde, if_neg]; omega
        rcases Nat.lt_or_ge (l.length - 8 * i) 4 with h4 | h4
        · have hx := four_f w0 (l.drop (8 * i)) v' gg X (by omega)
          repeat' (first
            | (refine WS_seqK ?_; intro K hK)
            | (refine hK _ ?_; clear hK K)
            | (with_reducible (first | refine thenS_n ?_ | refine thenS_e ?_ | refine blockS_n ?_ | refine blockS_e ?_ | refine blockS_o rfl ?_ | refine thenS_r ?_ | refine blockS_r ?_ | refine use_K (by assumption) ?_))
            | refine WS_region ?_
            | refine LS_nil ?_
            | (show LS _ _ _ _ _ (⟨_, _, _, _, _, some _⟩ :: _) _; first | refine LS_wantT rfl rfl iI rfl ?_ | refine LS_wantF rfl rfl iI rfl ?_ | refine LS_wantU rfl rfl rfl ?_ | ((first | refine LS_wantS rfl rfl rfl ?_ ?_ | refine LS_wantN rfl ?_ ?_) <;> intro hc <;> (try simp only [decide_eq_true_eq, decide_eq_false_iff_not, Bool.not_eq_eq_eq_not, Bool.not_true, Bool.not_false, Bool.and_eq_true, Bool.or_eq_true, bne_iff_ne, beq_iff_eq, ne_eq, Decidable.not_not] at hc) <;> (try (exfalso; first | contradiction | omega; done))))
            | (first | refine DL_nilA ?_ | refine DL_nilS ?_ | refine DL_nilN ?_ | refine DL_nilE ?_ | refine DL_nilR ?_)
            | (first | refine DL_claimS rfl ?_ | refine DL_claim rfl rfl ?_)
            | (refine DL_alloc iI rfl ?_; intro g)
            | ((first | refine' LQ ?h rfl ?_ | refine' DL_qp rfl rfl rfl ?h ?_ | refine' DL_q rfl rfl ?h ?_); case h => intro F'; first | exact Q_move rfl | exact Q_assign rfl | exact Q_nilCheck rfl | exact Q_fieldAddr rfl iI rfl | exact Q_load rfl iI iI rfl | exact Q_bin_t rfl rfl iI (by first | assumption | omega | decide) | exact Q_bin_f rfl rfl iI (by first | assumption | omega | decide) | exact Q_bin_nt rfl rfl iI (by first | assumption | omega | decide) | exact Q_bin_nf rfl rfl iI (by first | assumption | omega | decide) | exact Q_addI rfl rfl (by omega) | exact Q_subI rfl rfl (by omega) | exact Q_pick_t rfl iI rfl | exact Q_pick_f rfl iI rfl | exact Q_pick rfl rfl rfl | exact Q_un rfl iI | exact Q_loadA rfl iI iI rfl | exact Q_build iI iI rfl rfl | exact Q_buildA iI iI iI rfl rfl | exact Q_len rfl iI | exact Q_lenS rfl iI | exact Q_fieldR rfl iI iI rfl (by first | assumption | omega | (simp [be_length] <;> omega)) | exact Q_loadR rfl iI iI iI (by assumption) rfl | exact Q_loadR rfl iI iI iI rfl rfl | exact Q_loadRA rfl iI iI iI (by assumption) | exact Q_lenR rfl iI iI | exact Q_lenM rfl iI iI | exact Q_conv32_8 rfl iI iI iI | exact Q_conv64 rfl iI iI iI | exact Q_conv32 rfl iI iI iI | exact Q_convS rfl iI rfl iI iI iI | exact Q_convSame rfl iI iI (by omega) | exact Q_convI8 rfl iI iI | exact Q_conv328 rfl iI iI | exact Q_conv8 rfl iI iI | exact Q_bytesS rfl iI iI rfl iI iI iI | exact Q_addS rfl rfl (by first | omega | (simp [be_length] <;> omega)) | exact Q_makeFunc rfl rfl | exact Q_nilCheck_f rfl | exact Q_quoI rfl rfl (by omega) | exact Q_remI rfl rfl (by omega) | exact Q_negI rfl (by omega) | exact Q_mulI rfl rfl (by omega))
            | ((first | refine LS_binS rfl rfl iI rfl ?_ ?_ | refine LS_binN rfl rfl iI rfl ?_ ?_ | refine DL_binS rfl rfl iI rfl ?_ ?_) <;> intro hc)
            | ((first | refine' LQ ?h rfl ?_ | refine' DL_qp rfl rfl rfl ?h ?_ | refine' DL_q rfl rfl ?h ?_); case h => intro F'; first | exact Q_bin rfl rfl iI)
            | ((first | refine' LS_h ?h rfl ?_ | refine' DL_h ?h rfl rfl rfl ?_); (case h => first | exact H_alloc iI | exact H_box rfl | exact H_boxO rfl iI | exact H_buildB iI iI iI rfl rfl rfl rfl rfl iI rfl rfl | exact H_buildSlice iI iI iI rfl rfl rfl rfl rfl | exact H_buildSlice0 iI iI | exact H_appendD rfl rfl iI iI rfl iI iI byteC_one (by first | omega | (simp [be_length] <;> omega)) rfl | exact H_appendB rfl rfl iI iI iI rfl rfl iI (by first | omega | (simp [be_length] <;> omega)) rfl | exact H_appendS rfl rfl iI rfl iI iI (by first | omega | (simp [be_length] <;> omega)) rfl | exact H_convS rfl iI rfl iI iI iI | exact H_box1 rfl (by first | rfl | assumption)); intro g)
            | ((first | refine' LS_h0 ?h ?_ | refine' DL_h0 ?h rfl rfl ?_); (case h => first | exact H_storeO rfl rfl iI iI iI rfl | exact H_storeAO rfl rfl iI iI iI rfl | exact H_store8 rfl rfl iI iI rfl iI (by first | assumption | omega | (simp [be_length] <;> omega)) | exact H_storeRA _ rfl rfl rfl iI iI iI rfl rfl (by first | assumption | omega | (simp [be_length] <;> omega)) | exact H_storeR _ rfl rfl iI iI iI rfl (by assumption) rfl | exact H_store rfl rfl iI (by first | rfl | assumption) iI rfl | exact H_storeA rfl rfl iI iI (by first | rfl | (simp only [List.all_cons, List.all_nil, *]; rfl)) rfl); intro g)
            | (first | refine WS_block ?_ | refine WS_skip ?_ | refine WS_ret ?_ | refine WS_exit ?_ | refine WS_label ?_)
            | (show WS _ _ _ (.cond _ _ _) _ _; first | refine WS_condT rfl iI ?_ | refine WS_condF rfl iI ?_ | refine WS_condH_t rfl (by assumption) ?_ | refine WS_condH_f rfl (by assumption) ?_ | (refine WS_cond rfl ?_ ?_ <;> intro hc <;> (try simp only [decide_eq_true_eq, decide_eq_false_iff_not, Bool.not_eq_eq_eq_not, Bool.not_true, Bool.not_false, Bool.and_eq_true, Bool.or_eq_true, bne_iff_ne, beq_iff_eq, ne_eq, Decidable.not_not] at hc) <;> (try (exfalso; first | contradiction | omega; done)))))
          refine WS_drawAny (by kernel_rfl) ?_
          refine AS_step (r := [0, 2, 4]) (by kernel_rfl) rfl rfl ⟨?_, ?_, ?_, trivial⟩
          refine AO_q rfl (Q_fieldAddr rfl inferInstance rfl) rfl ?_
          refine AS_step (r := [1, 2, 4]) (by kernel_rfl) rfl rfl ⟨?_, ?_, ?_, trivial⟩
          refine AO_q rfl (Q_load rfl inferInstance inferInstance rfl) rfl ?_
          refine AS_step (r := [2, 4]) (by kernel_rfl) rfl rfl ⟨?_, ?_, trivial⟩
          refine AO_q rfl (Q_move rfl) rfl ?_
          refine AS_step (r := [3, 4]) (by kernel_rfl) rfl rfl ⟨?_, ?_, trivial⟩
          refine AO_x rfl inferInstance rfl hx inferInstance ?_; rotate_left
          refine AO_q rfl (Q_move rfl) rfl ?_
          refine AS_step (r := [3]) (by kernel_rfl) rfl rfl ⟨?_, trivial⟩
          refine AO_x rfl inferInstance rfl hx inferInstance ?_; rotate_left
          refine AO_q rfl (Q_move rfl) rfl ?_
          refine AS_step (r := [2]) (by kernel_rfl) rfl rfl ⟨?_, trivial⟩
          refine AO_q rfl (Q_move rfl) rfl ?_
          refine AS_step (r := [3]) (by kernel_rfl) rfl rfl ⟨?_, trivial⟩
          refine AO_x rfl inferInstance rfl hx inferInstance ?_; rotate_left
          refine AO_q rfl (Q_move rfl) rfl ?_
          refine AS_step (r := [1, 3, 4]) (by kernel_rfl) rfl rfl ⟨?_, ?_, ?_, trivial⟩
          refine AO_q rfl (Q_load rfl inferInstance inferInstance rfl) rfl ?_
          refine AS_step (r := [3, 4]) (by kernel_rfl) rfl rfl ⟨?_, ?_, trivial⟩
          refine AO_x rfl inferInstance rfl hx inferInstance ?_; rotate_left
          refine AO_q rfl (Q_move rfl) rfl ?_
          refine AS_step (r := [3]) (by kernel_rfl) rfl rfl ⟨?_, trivial⟩
          refine AO_x rfl inferInstance rfl hx inferInstance ?_; rotate_left
          refine AO_x rfl inferInstance rfl hx inferInstance ?_; rotate_left
          refine AO_q rfl (Q_move rfl) rfl ?_
          refine AS_step (r := [1, 3]) (by kernel_rfl) rfl rfl ⟨?_, ?_, trivial⟩
          refine AO_q rfl (Q_load rfl inferInstance inferInstance rfl) rfl ?_
          refine AS_step (r := [3]) (by kernel_rfl) rfl rfl ⟨?_, trivial⟩
          refine AO_x rfl inferInstance rfl hx inferInstance ?_; rotate_left
          refine AO_x rfl inferInstance rfl hx inferInstance ?_; rotate_left
          refine AO_q rfl (Q_move rfl) rfl ?_
          refine AS_step (r := [1, 2]) (by kernel_rfl) rfl rfl ⟨?_, ?_, trivial⟩
          refine AO_q rfl (Q_load rfl inferInstance inferInstance rfl) rfl ?_
          refine AS_step (r := [2]) (by kernel_rfl) rfl rfl ⟨?_, trivial⟩
          refine AO_q rfl (Q_move rfl) rfl ?_
          refine AS_step (r := [3]) (by kernel_rfl) rfl rfl ⟨?_, trivial⟩
          refine AO_x rfl inferInstance rfl hx inferInstance ?_; rotate_left
          refine AO_q rfl (Q_move rfl) rfl ?_
          refine AS_step (r := [1, 3]) (by kernel_rfl) rfl rfl ⟨?_, ?_, trivial⟩
          refine AO_q rfl (Q_load rfl inferInstance inferInstance rfl) rfl ?_
          refine AS_step (r := [3]) (by kernel_rfl) rfl rfl ⟨?_, trivial⟩
          refine AO_x rfl inferInstance rfl hx inferInstance ?_; rotate_left
          refine AO_x rfl inferInstance rfl hx inferInstance ?_; rotate_left
          refine AO_q rfl (Q_move rfl) rfl ?_
          refine AS_step (r := [0, 3, 4]) (by kernel_rfl) rfl rfl ⟨?_, ?_, ?_, trivial⟩
          refine AO_q rfl (Q_fieldAddr rfl inferInstance rfl) rfl ?_
          refine AS_step (r := [1, 3, 4]) (by kernel_rfl) rfl rfl ⟨?_, ?_, ?_, trivial⟩
          refine AO_q rfl (Q_load rfl inferInstance inferInstance rfl) rfl ?_
          refine AS_step (r := [3, 4]) (by kernel_rfl) rfl rfl ⟨?_, ?_, trivial⟩
          refine AO_x rfl inferInstance rfl hx inferInstance ?_; rotate_left
          refine AO_q rfl (Q_move rfl) rfl ?_
          refine AS_step (r := [3]) (by kernel_rfl) rfl rfl ⟨?_, trivial⟩
          refine AO_x rfl inferInstance rfl hx inferInstance ?_; rotate_left
          refine AO_x rfl inferInstance rfl hx inferInstance ?_; rotate_left
          refine AO_q rfl (Q_move rfl) rfl ?_
          refine AS_step (r := [1, 3]) (by kernel_rfl) rfl rfl ⟨?_, ?_, trivial⟩
          refine AO_q rfl (Q_load rfl inferInstance inferInstance rfl) rfl ?_
          refine AS_step (r := [3]) (by kernel_rfl) rfl rfl ⟨?_, trivial⟩
          refine AO_x rfl inferInstance rfl hx inferInstance ?_; rotate_left
          refine AO_x rfl inferInstance rfl hx inferInstance ?_; rotate_left
          refine AO_x rfl inferInstance rfl hx inferInstance ?_; rotate_left
          refine AO_q rfl (Q_move rfl) rfl ?_
          refine AS_step (r := [0, 3]) (by kernel_rfl) rfl rfl ⟨?_, ?_, trivial⟩
          refine AO_q rfl (Q_fieldAddr rfl inferInstance rfl) rfl ?_
          refine AS_step (r := [1, 3]) (by kernel_rfl) rfl rfl ⟨?_, ?_, trivial⟩
          refine AO_q rfl (Q_load rfl inferInstance inferInstance rfl) rfl ?_
          refine AS_step (r := [3]) (by kernel_rfl) rfl rfl ⟨?_, trivial⟩
          refine AO_x rfl inferInstance rfl hx inferInstance ?_; rotate_left
          refine AO_x rfl inferInstance rfl hx inferInstance ?_; rotate_left
          refine AO_x rfl inferInstance rfl hx inferInstance ?_; rotate_left
          refine AO_q rfl (Q_move rfl) rfl ?_
          refine AS_step (r := [0, 2]) (by kernel_rfl) rfl rfl ⟨?_, ?_, trivial⟩
          refine AO_q rfl (Q_fieldAddr rfl inferInstance rfl) rfl ?_
          refine AS_step (r := [1, 2]) (by kernel_rfl) rfl rfl ⟨?_, ?_, trivial⟩
          refine AO_q rfl (Q_load rfl inferInstance inferInstance rfl) rfl ?_
          refine AS_step (r := [2]) (by kernel_rfl) rfl rfl ⟨?_, trivial⟩
          refine AO_q rfl (Q_move rfl) rfl ?_
          refine AS_step (r := [3]) (by kernel_rfl) rfl rfl ⟨?_, trivial⟩
          refine AO_x rfl inferInstance rfl hx inferInstance ?_; rotate_left
          refine AO_q rfl (Q_move rfl) rfl ?_
          refine AS_step (r := [1, 3]) (by kernel_rfl) rfl rfl ⟨?_, ?_, trivial⟩
          refine AO_q rfl (Q_load rfl inferInstance inferInstance rfl) rfl ?_
          refine AS_step (r := [3]) (by kernel_rfl) rfl rfl ⟨?_, trivial⟩
          refine AO_x rfl inferInstance rfl hx inferInstance ?_; rotate_left
          refine AO_x rfl inferInstance rfl hx inferInstance ?_; rotate_left
          refine AO_q rfl (Q_move rfl) rfl ?_
          refine AS_step (r := [0, 3]) (by kernel_rfl) rfl rfl ⟨?_, ?_, trivial⟩
          refine AO_q rfl (Q_fieldAddr rfl inferInstance rfl) rfl ?_
          refine AS_step (r := [1, 3]) (by kernel_rfl) rfl rfl ⟨?_, ?_, trivial⟩
          refine AO_q rfl (Q_load rfl inferInstance inferInstance rfl) rfl ?_
          refine AS_step (r := [3]) (by kernel_rfl) rfl rfl ⟨?_, trivial⟩
          refine AO_x rfl inferInstance rfl hx inferInstance ?_; rotate_left
          refine AO_x rfl inferInstance rfl hx inferInstance ?_; rotate_left
          refine AO_x rfl inferInstance rfl hx inferInstance ?_; rotate_left
          all_goals
            repeat' (first | with_reducible refine thenS_p ?_ | with_reducible refine blockS_p ?_)
            refine out_brk rfl rfl inferInstance inferInstance rfl rfl ?_
            simp only [decV, decH, hd]
            exact ⟨.slice none 0 0, rfl, by ((try simp only [star_assoc, emp_star, star_emp]); (repeat' (first | exact Ent.last | refine Ent.take ?_ | refine Ent.nilT ?_ | refine Ent.takeR (by first | rfl | assumption | (simp; done)) ?_ | exact Ent.refl _)))⟩
        · have hf1 := four_t w0 (l.drop (8 * i)) v' gg X (by omega)
          have hx := four_f w0 ((l.drop (8 * i)).drop 4) (sTail 1 v' 4) gg X (by omega)
          repeat' (first
            | (refine WS_seqK ?_; intro K hK)
            | (refine hK _ ?_; clear hK K)
            | (with_reducible (first | refine thenS_n ?_ | refine thenS_e ?_ | refine blockS_n ?_ | refine blockS_e ?_ | refine blockS_o rfl ?_ | refine thenS_r ?_ | refine blockS_r ?_ | refine use_K (by assumption) ?_))
            | refine WS_region ?_
            | refine LS_nil ?_
            | (show LS _ _ _ _ _ (⟨_, _, _, _, _, some _⟩ :: _) _; first | refine LS_wantT rfl rfl iI rfl ?_ | refine LS_wantF rfl rfl iI rfl ?_ | refine LS_wantU rfl rfl rfl ?_ | ((first | refine LS_wantS rfl rfl rfl ?_ ?_ | refine LS_wantN rfl ?_ ?_) <;> intro hc <;> (try simp only [decide_eq_true_eq, decide_eq_false_iff_not, Bool.not_eq_eq_eq_not, Bool.not_true, Bool.not_false, Bool.and_eq_true, Bool.or_eq_true, bne_iff_ne, beq_iff_eq, ne_eq, Decidable.not_not] at hc) <;> (try (exfalso; first | contradiction | omega; done))))
            | (first | refine DL_nilA ?_ | refine DL_nilS ?_ | refine DL_nilN ?_ | refine DL_nilE ?_ | refine DL_nilR ?_)
            | (first | refine DL_claimS rfl ?_ | refine DL_claim rfl rfl ?_)
            | (refine DL_alloc iI rfl ?_; intro g)
            | ((first | refine' LQ ?h rfl ?_ | refine' DL_qp rfl rfl rfl ?h ?_ | refine' DL_q rfl rfl ?h ?_); case h => intro F'; first | exact Q_move rfl | exact Q_assign rfl | exact Q_nilCheck rfl | exact Q_fieldAddr rfl iI rfl | exact Q_load rfl iI iI rfl | exact Q_bin_t rfl rfl iI (by first | assumption | omega | decide) | exact Q_bin_f rfl rfl iI (by first | assumption | omega | decide) | exact Q_bin_nt rfl rfl iI (by first | assumption | omega | decide) | exact Q_bin_nf rfl rfl iI (by first | assumption | omega | decide) | exact Q_addI rfl rfl (by omega) | exact Q_subI rfl rfl (by omega) | exact Q_pick_t rfl iI rfl | exact Q_pick_f rfl iI rfl | exact Q_pick rfl rfl rfl | exact Q_un rfl iI | exact Q_loadA rfl iI iI rfl | exact Q_build iI iI rfl rfl | exact Q_buildA iI iI iI rfl rfl | exact Q_len rfl iI | exact Q_lenS rfl iI | exact Q_fieldR rfl iI iI rfl (by first | assumption | omega | (simp [be_length] <;> omega)) | exact Q_loadR rfl iI iI iI (by assumption) rfl | exact Q_loadR rfl iI iI iI rfl rfl | exact Q_loadRA rfl iI iI iI (by assumption) | exact Q_lenR rfl iI iI | exact Q_lenM rfl iI iI | exact Q_conv32_8 rfl iI iI iI | exact Q_conv64 rfl iI iI iI | exact Q_conv32 rfl iI iI iI | exact Q_convS rfl iI rfl iI iI iI | exact Q_convSame rfl iI iI (by omega) | exact Q_convI8 rfl iI iI | exact Q_conv328 rfl iI iI | exact Q_conv8 rfl iI iI | exact Q_bytesS rfl iI iI rfl iI iI iI | exact Q_addS rfl rfl (by first | omega | (simp [be_length] <;> omega)) | exact Q_makeFunc rfl rfl | exact Q_nilCheck_f rfl | exact Q_quoI rfl rfl (by omega) | exact Q_remI rfl rfl (by omega) | exact Q_negI rfl (by omega) | exact Q_mulI rfl rfl (by omega))
            | ((first | refine LS_binS rfl rfl iI rfl ?_ ?_ | refine LS_binN rfl rfl iI rfl ?_ ?_ | refine DL_binS rfl rfl iI rfl ?_ ?_) <;> intro hc)
            | ((first | refine' LQ ?h rfl ?_ | refine' DL_qp rfl rfl rfl ?h ?_ | refine' DL_q rfl rfl ?h ?_); case h => intro F'; first | exact Q_bin rfl rfl iI)
            | ((first | refine' LS_h ?h rfl ?_ | refine' DL_h ?h rfl rfl rfl ?_); (case h => first | exact H_alloc iI | exact H_box rfl | exact H_boxO rfl iI | exact H_buildB iI iI iI rfl rfl rfl rfl rfl iI rfl rfl | exact H_buildSlice iI iI iI rfl rfl rfl rfl rfl | exact H_buildSlice0 iI iI | exact H_appendD rfl rfl iI iI rfl iI iI byteC_one (by first | omega | (simp [be_length] <;> omega)) rfl | exact H_appendB rfl rfl iI iI iI rfl rfl iI (by first | omega | (simp [be_length] <;> omega)) rfl | exact H_appendS rfl rfl iI rfl iI iI (by first | omega | (simp [be_length] <;> omega)) rfl | exact H_convS rfl iI rfl iI iI iI | exact H_box1 rfl (by first | rfl | assumption)); intro g)
            | ((first | refine' LS_h0 ?h ?_ | refine' DL_h0 ?h rfl rfl ?_); (case h => first | exact H_storeO rfl rfl iI iI iI rfl | exact H_storeAO rfl rfl iI iI iI rfl | exact H_store8 rfl rfl iI iI rfl iI (by first | assumption | omega | (simp [be_length] <;> omega)) | exact H_storeRA _ rfl rfl rfl iI iI iI rfl rfl (by first | assumption | omega | (simp [be_length] <;> omega)) | exact H_storeR _ rfl rfl iI iI iI rfl (by assumption) rfl | exact H_store rfl rfl iI (by first | rfl | assumption) iI rfl | exact H_storeA rfl rfl iI iI (by first | rfl | (simp only [List.all_cons, List.all_nil, *]; rfl)) rfl); intro g)
            | (first | refine WS_block ?_ | refine WS_skip ?_ | refine WS_ret ?_ | refine WS_exit ?_ | refine WS_label ?_)
            | (show WS _ _ _ (.cond _ _ _) _ _; first | refine WS_condT rfl iI ?_ | refine WS_condF rfl iI ?_ | refine WS_condH_t rfl (by assumption) ?_ | refine WS_condH_f rfl (by assumption) ?_ | (refine WS_cond rfl ?_ ?_ <;> intro hc <;> (try simp only [decide_eq_true_eq, decide_eq_false_iff_not, Bool.not_eq_eq_eq_not, Bool.not_true, Bool.not_false, Bool.and_eq_true, Bool.or_eq_true, bne_iff_ne, beq_iff_eq, ne_eq, Decidable.not_not] at hc) <;> (try (exfalso; first | contradiction | omega; done)))))
          refine WS_drawAny (by kernel_rfl) ?_
          refine AS_step (r := [0, 2, 4]) (by kernel_rfl) rfl rfl ⟨?_, ?_, ?_, trivial⟩
          refine AO_q rfl (Q_fieldAddr rfl inferInstance rfl) rfl ?_
          refine AS_step (r := [1, 2, 4]) (by kernel_rfl) rfl rfl ⟨?_, ?_, ?_, trivial⟩
          refine AO_q rfl (Q_load rfl inferInstance inferInstance rfl) rfl ?_
          refine AS_step (r := [2, 4]) (by kernel_rfl) rfl rfl ⟨?_, ?_, trivial⟩
          refine AO_q rfl (Q_move rfl) rfl ?_
          refine AS_step (r := [3, 4]) (by kernel_rfl) rfl rfl ⟨?_, ?_, trivial⟩
          refine AO_h rfl (H_callX inferInstance rfl hf1 inferInstance) rfl fun u => ?_
          refine AS_step (r := [4]) (by kernel_rfl) rfl rfl ⟨?_, trivial⟩
          refine AO_q rfl (Q_move rfl) rfl ?_
          refine AS_step (r := [5]) (by kernel_rfl) rfl rfl ⟨?_, trivial⟩
          refine AO_x rfl inferInstance rfl hx inferInstance ?_; rotate_left
          refine AO_q rfl (Q_move rfl) rfl ?_
          refine AS_step (r := [3]) (by kernel_rfl) rfl rfl ⟨?_, trivial⟩
          refine AO_h rfl (H_callX inferInstance rfl hf1 inferInstance) rfl fun u => ?_
          refine AS_step (r := [5]) (by kernel_rfl) rfl rfl ⟨?_, trivial⟩
          refine AO_x rfl inferInstance rfl hx inferInstance ?_; rotate_left
          refine AO_q rfl (Q_move rfl) rfl ?_
          refine AS_step (r := [2]) (by kernel_rfl) rfl rfl ⟨?_, trivial⟩
          refine AO_q rfl (Q_move rfl) rfl ?_
          refine AS_step (r := [3]) (by kernel_rfl) rfl rfl ⟨?_, trivial⟩
          refine AO_h rfl (H_callX inferInstance rfl hf1 inferInstance) rfl fun u => ?_
          refine AS_step (r := [5]) (by kernel_rfl) rfl rfl ⟨?_, trivial⟩
          refine AO_x rfl inferInstance rfl hx inferInstance ?_; rotate_left
          refine AO_q rfl (Q_move rfl) rfl ?_
          refine AS_step (r := [1, 3, 4]) (by kernel_rfl) rfl rfl ⟨?_, ?_, ?_, trivial⟩
          refine AO_q rfl (Q_load rfl inferInstance inferInstance rfl) rfl ?_
          refine AS_step (r := [3, 4]) (by kernel_rfl) rfl rfl ⟨?_, ?_, trivial⟩
          refine AO_h rfl (H_callX inferInstance rfl hf1 inferInstance) rfl fun u => ?_
          refine AS_step (r := [4]) (by kernel_rfl) rfl rfl ⟨?_, trivial⟩
          refine AO_q rfl (Q_move rfl) rfl ?_
          refine AS_step (r := [5]) (by kernel_rfl) rfl rfl ⟨?_, trivial⟩
          refine AO_x rfl inferInstance rfl hx inferInstance ?_; rotate_left
          refine AO_q rfl (Q_move rfl) rfl ?_
          refine AS_step (r := [3]) (by kernel_rfl) rfl rfl ⟨?_, trivial⟩
          refine AO_h rfl (H_callX inferInstance rfl hf1 inferInstance) rfl fun u => ?_
          refine AS_step (r := [5]) (by kernel_rfl) rfl rfl ⟨?_, trivial⟩
          refine AO_x rfl inferInstance rfl hx inferInstance ?_; rotate_left
          refine AO_h rfl (H_callX inferInstance rfl hf1 inferInstance) rfl fun u => ?_
          refine AS_step (r := [1, 4]) (by kernel_rfl) rfl rfl ⟨?_, ?_, trivial⟩
          refine AO_q rfl (Q_load rfl inferInstance inferInstance rfl) rfl ?_
          refine AS_step (r := [4]) (by kernel_rfl) rfl rfl ⟨?_, trivial⟩
          refine AO_q rfl (Q_move rfl) rfl ?_
          refine AS_step (r := [5]) (by kernel_rfl) rfl rfl ⟨?_, trivial⟩
          refine AO_x rfl inferInstance rfl hx inferInstance ?_; rotate_left
          refine AO_q rfl (Q_move rfl) rfl ?_
          refine AS_step (r := [1, 5]) (by kernel_rfl) rfl rfl ⟨?_, ?_, trivial⟩
          refine AO_q rfl (Q_load rfl inferInstance inferInstance rfl) rfl ?_
          refine AS_step (r := [5]) (by kernel_rfl) rfl rfl ⟨?_, trivial⟩
          refine AO_x rfl inferInstance rfl hx inferInstance ?_; rotate_left
          refine AO_x rfl inferInstance rfl hx inferInstance ?_; rotate_left
          refine AO_q rfl (Q_move rfl) rfl ?_
          refine AS_step (r := [1, 3]) (by kernel_rfl) rfl rfl ⟨?_, ?_, trivial⟩
          refine AO_q rfl (Q_load rfl inferInstance inferInstance rfl) rfl ?_
          refine AS_step (r := [3]) (by kernel_rfl) rfl rfl ⟨?_, trivial⟩
          refine AO_h rfl (H_callX inferInstance rfl hf1 inferInstance) rfl fun u => ?_
          refine AS_step (r := [5]) (by kernel_rfl) rfl rfl ⟨?_, trivial⟩
          refine AO_x rfl inferInstance rfl hx inferInstance ?_; rotate_left
          refine AO_h rfl (H_callX inferInstance rfl hf1 inferInstance) rfl fun u => ?_
          refine AS_step (r := [1, 5]) (by kernel_rfl) rfl rfl ⟨?_, ?_, trivial⟩
          refine AO_q rfl (Q_load rfl inferInstance inferInstance rfl) rfl ?_
          refine AS_step (r := [5]) (by kernel_rfl) rfl rfl ⟨?_, trivial⟩
          refine AO_x rfl inferInstance rfl hx inferInstance ?_; rotate_left
          refine AO_x rfl inferInstance rfl hx inferInstance ?_; rotate_left
          refine AO_q rfl (Q_move rfl) rfl ?_
          refine AS_step (r := [1, 2]) (by kernel_rfl) rfl rfl ⟨?_, ?_, trivial⟩
          refine AO_q rfl (Q_load rfl inferInstance inferInstance rfl) rfl ?_
          refine AS_step (r := [2]) (by kernel_rfl) rfl rfl ⟨?_, trivial⟩
          refine AO_q rfl (Q_move rfl) rfl ?_
          refine AS_step (r := [3]) (by kernel_rfl) rfl rfl ⟨?_, trivial⟩
          refine AO_h rfl (H_callX inferInstance rfl hf1 inferInstance) rfl fun u => ?_
          refine AS_step (r := [5]) (by kernel_rfl) rfl rfl ⟨?_, trivial⟩
          refine AO_x rfl inferInstance rfl hx inferInstance ?_; rotate_left
          refine AO_q rfl (Q_move rfl) rfl ?_
          refine AS_step (r := [1, 3]) (by kernel_rfl) rfl rfl ⟨?_, ?_, trivial⟩
          refine AO_q rfl (Q_load rfl inferInstance inferInstance rfl) rfl ?_
          refine AS_step (r := [3]) (by kernel_rfl) rfl rfl ⟨?_, trivial⟩
          refine AO_h rfl (H_callX inferInstance rfl hf1 inferInstance) rfl fun u => ?_
          refine AS_step (r := [5]) (by kernel_rfl) rfl rfl ⟨?_, trivial⟩
          refine AO_x rfl inferInstance rfl hx inferInstance ?_; rotate_left
          refine AO_h rfl (H_callX inferInstance rfl hf1 inferInstance) rfl fun u => ?_
          refine AS_step (r := [1, 5]) (by kernel_rfl) rfl rfl ⟨?_, ?_, trivial⟩
          refine AO_q rfl (Q_load rfl inferInstance inferInstance rfl) rfl ?_
          refine AS_step (r := [5]) (by kernel_rfl) rfl rfl ⟨?_, trivial⟩
          refine AO_x rfl inferInstance rfl hx inferInstance ?_; rotate_left
          refine AO_x rfl inferInstance rfl hx inferInstance ?_; rotate_left
          refine AO_q rfl (Q_move rfl) rfl ?_
          refine AS_step (r := [0, 3, 4]) (by kernel_rfl) rfl rfl ⟨?_, ?_, ?_, trivial⟩
          refine AO_q rfl (Q_fieldAddr rfl inferInstance rfl) rfl ?_
          refine AS_step (r := [1, 3, 4]) (by kernel_rfl) rfl rfl ⟨?_, ?_, ?_, trivial⟩
          refine AO_q rfl (Q_load rfl inferInstance inferInstance rfl) rfl ?_
          refine AS_step (r := [3, 4]) (by kernel_rfl) rfl rfl ⟨?_, ?_, trivial⟩
          refine AO_h rfl (H_callX inferInstance rfl hf1 inferInstance) rfl fun u => ?_
          refine AS_step (r := [4]) (by kernel_rfl) rfl rfl ⟨?_, trivial⟩
          refine AO_q rfl (Q_move rfl) rfl ?_
          refine AS_step (r := [5]) (by kernel_rfl) rfl rfl ⟨?_, trivial⟩
          refine AO_x rfl inferInstance rfl hx inferInstance ?_; rotate_left
          refine AO_q rfl (Q_move rfl) rfl ?_
          refine AS_step (r := [3]) (by kernel_rfl) rfl rfl ⟨?_, trivial⟩
          refine AO_h rfl (H_callX inferInstance rfl hf1 inferInstance) rfl fun u => ?_
          refine AS_step (r := [5]) (by kernel_rfl) rfl rfl ⟨?_, trivial⟩
          refine AO_x rfl inferInstance rfl hx inferInstance ?_; rotate_left
          refine AO_h rfl (H_callX inferInstance rfl hf1 inferInstance) rfl fun u => ?_
          refine AS_step (r := [1, 4]) (by kernel_rfl) rfl rfl ⟨?_, ?_, trivial⟩
          refine AO_q rfl (Q_load rfl inferInstance inferInstance rfl) rfl ?_
          refine AS_step (r := [4]) (by kernel_rfl) rfl rfl ⟨?_, trivial⟩
          refine AO_q rfl (Q_move rfl) rfl ?_
          refine AS_step (r := [5]) (by kernel_rfl) rfl rfl ⟨?_, trivial⟩
          refine AO_x rfl inferInstance rfl hx inferInstance ?_; rotate_left
          refine AO_q rfl (Q_move rfl) rfl ?_
          refine AS_step (r := [1, 5]) (by kernel_rfl) rfl rfl ⟨?_, ?_, trivial⟩
          refine AO_q rfl (Q_load rfl inferInstance inferInstance rfl) rfl ?_
          refine AS_step (r := [5]) (by kernel_rfl) rfl rfl ⟨?_, trivial⟩
          refine AO_x rfl inferInstance rfl hx inferInstance ?_; rotate_left
          refine AO_x rfl inferInstance rfl hx inferInstance ?_; rotate_left
          refine AO_q rfl (Q_move rfl) rfl ?_
          refine AS_step (r := [1, 3]) (by kernel_rfl) rfl rfl ⟨?_, ?_, trivial⟩
          refine AO_q rfl (Q_load rfl inferInstance inferInstance rfl) rfl ?_
          refine AS_step (r := [3]) (by kernel_rfl) rfl rfl ⟨?_, trivial⟩
          refine AO_h rfl (H_callX inferInstance rfl hf1 inferInstance) rfl fun u => ?_
          refine AS_step (r := [5]) (by kernel_rfl) rfl rfl ⟨?_, trivial⟩
          refine AO_x rfl inferInstance rfl hx inferInstance ?_; rotate_left
          refine AO_h rfl (H_callX inferInstance rfl hf1 inferInstance) rfl fun u => ?_
          refine AS_step (r := [1, 5]) (by kernel_rfl) rfl rfl ⟨?_, ?_, trivial⟩
          refine AO_q rfl (Q_load rfl inferInstance inferInstance rfl) rfl ?_
          refine AS_step (r := [5]) (by kernel_rfl) rfl rfl ⟨?_, trivial⟩
          refine AO_x rfl inferInstance rfl hx inferInstance ?_; rotate_left
          refine AO_x rfl inferInstance rfl hx inferInstance ?_; rotate_left
          refine AO_h rfl (H_callX inferInstance rfl hf1 inferInstance) rfl fun u => ?_
          refine AS_step (r := [0, 4]) (by kernel_rfl) rfl rfl ⟨?_, ?_, trivial⟩
          refine AO_q rfl (Q_fieldAddr rfl inferInstance rfl) rfl ?_
          refine AS_step (r := [1, 4]) (by kernel_rfl) rfl rfl ⟨?_, ?_, trivial⟩
          refine AO_q rfl (Q_load rfl inferInstance inferInstance rfl) rfl ?_
          refine AS_step (r := [4]) (by kernel_rfl) rfl rfl ⟨?_, trivial⟩
          refine AO_q rfl (Q_move rfl) rfl ?_
          refine AS_step (r := [5]) (by kernel_rfl) rfl rfl ⟨?_, trivial⟩
          refine AO_x rfl inferInstance rfl hx inferInstance ?_; rotate_left
          refine AO_q rfl (Q_move rfl) rfl ?_
          refine AS_step (r := [1, 5]) (by kernel_rfl) rfl rfl ⟨?_, ?_, trivial⟩
          refine AO_q rfl (Q_load rfl inferInstance inferInstance rfl) rfl ?_
          refine AS_step (r := [5]) (by kernel_rfl) rfl rfl ⟨?_, trivial⟩
          refine AO_x rfl inferInstance rfl hx inferInstance ?_; rotate_left
          refine AO_x rfl inferInstance rfl hx inferInstance ?_; rotate_left
          refine AO_q rfl (Q_move rfl) rfl ?_
          refine AS_step (r := [0, 5]) (by kernel_rfl) rfl rfl ⟨?_, ?_, trivial⟩
          refine AO_q rfl (Q_fieldAddr rfl inferInstance rfl) rfl ?_
          refine AS_step (r := [1, 5]) (by kernel_rfl) rfl rfl ⟨?_, ?_, trivial⟩
          refine AO_q rfl (Q_load rfl inferInstance inferInstance rfl) rfl ?_
          refine AS_step (r := [5]) (by kernel_rfl) rfl rfl ⟨?_, trivial⟩
          refine AO_x rfl inferInstance rfl hx inferInstance ?_; rotate_left
          refine AO_x rfl inferInstance rfl hx inferInstance ?_; rotate_left
          refine AO_x rfl inferInstance rfl hx inferInstance ?_; rotate_left
          refine AO_q rfl (Q_move rfl) rfl ?_
          refine AS_step (r := [0, 3]) (by kernel_rfl) rfl rfl ⟨?_, ?_, trivial⟩
          refine AO_q rfl (Q_fieldAddr rfl inferInstance rfl) rfl ?_
          refine AS_step (r := [1, 3]) (by kernel_rfl) rfl rfl ⟨?_, ?_, trivial⟩
          refine AO_q rfl (Q_load rfl inferInstance inferInstance rfl) rfl ?_
          refine AS_step (r := [3]) (by kernel_rfl) rfl rfl ⟨?_, trivial⟩
          refine AO_h rfl (H_callX inferInstance rfl hf1 inferInstance) rfl fun u => ?_
          refine AS_step (r := [5]) (by kernel_rfl) rfl rfl ⟨?_, trivial⟩
          refine AO_x rfl inferInstance rfl hx inferInstance ?_; rotate_left
          refine AO_h rfl (H_callX inferInstance rfl hf1 inferInstance) rfl fun u => ?_
          refine AS_step (r := [1, 5]) (by kernel_rfl) rfl rfl ⟨?_, ?_, trivial⟩
          refine AO_q rfl (Q_load rfl inferInstance inferInstance rfl) rfl ?_
          refine AS_step (r := [5]) (by kernel_rfl) rfl rfl ⟨?_, trivial⟩
          refine AO_x rfl inferInstance rfl hx inferInstance ?_; rotate_left
          refine AO_x rfl inferInstance rfl hx inferInstance ?_; rotate_left
          refine AO_h rfl (H_callX inferInstance rfl hf1 inferInstance) rfl fun u => ?_
          refine AS_step (r := [0, 5]) (by kernel_rfl) rfl rfl ⟨?_, ?_, trivial⟩
          refine AO_q rfl (Q_fieldAddr rfl inferInstance rfl) rfl ?_
          refine AS_step (r := [1, 5]) (by kernel_rfl) rfl rfl ⟨?_, ?_, trivial⟩
          refine AO_q rfl (Q_load rfl inferInstance inferInstance rfl) rfl ?_
          refine AS_step (r := [5]) (by kernel_rfl) rfl rfl ⟨?_, trivial⟩
          refine AO_x rfl inferInstance rfl hx inferInstance ?_; rotate_left
          refine AO_x rfl inferInstance rfl hx inferInstance ?_; rotate_left
          refine AO_x rfl inferInstance rfl hx inferInstance ?_; rotate_left
          refine AO_q rfl (Q_move rfl) rfl ?_
          refine AS_step (r := [0, 2]) (by kernel_rfl) rfl rfl ⟨?_, ?_, trivial⟩
          refine AO_q rfl (Q_fieldAddr rfl inferInstance rfl) rfl ?_
          refine AS_step (r := [1, 2]) (by kernel_rfl) rfl rfl ⟨?_, ?_, trivial⟩
          refine AO_q rfl (Q_load rfl inferInstance inferInstance rfl) rfl ?_
          refine AS_step (r := [2]) (by kernel_rfl) rfl rfl ⟨?_, trivial⟩
          refine AO_q rfl (Q_move rfl) rfl ?_
          refine AS_step (r := [3]) (by kernel_rfl) rfl rfl ⟨?_, trivial⟩
          refine AO_h rfl (H_callX inferInstance rfl hf1 inferInstance) rfl fun u => ?_
          refine AS_step (r := [5]) (by kernel_rfl) rfl rfl ⟨?_, trivial⟩
          refine AO_x rfl inferInstance rfl hx inferInstance ?_; rotate_left
          refine AO_q rfl (Q_move rfl) rfl ?_
          refine AS_step (r := [1, 3]) (by kernel_rfl) rfl rfl ⟨?_, ?_, trivial⟩
          refine AO_q rfl (Q_load rfl inferInstance inferInstance rfl) rfl ?_
          refine AS_step (r := [3]) (by kernel_rfl) rfl rfl ⟨?_, trivial⟩
          refine AO_h rfl (H_callX inferInstance rfl hf1 inferInstance) rfl fun u => ?_
          refine AS_step (r := [5]) (by kernel_rfl) rfl rfl ⟨?_, trivial⟩
          refine AO_x rfl inferInstance rfl hx inferInstance ?_; rotate_left
          refine AO_h rfl (H_callX inferInstance rfl hf1 inferInstance) rfl fun u => ?_
          refine AS_step (r := [1, 5]) (by kernel_rfl) rfl rfl ⟨?_, ?_, trivial⟩
          refine AO_q rfl (Q_load rfl inferInstance inferInstance rfl) rfl ?_
          refine AS_step (r := [5]) (by kernel_rfl) rfl rfl ⟨?_, trivial⟩
          refine AO_x rfl inferInstance rfl hx inferInstance ?_; rotate_left
          refine AO_x rfl inferInstance rfl hx inferInstance ?_; rotate_left
          refine AO_q rfl (Q_move rfl) rfl ?_
          refine AS_step (r := [0, 3]) (by kernel_rfl) rfl rfl ⟨?_, ?_, trivial⟩
          refine AO_q rfl (Q_fieldAddr rfl inferInstance rfl) rfl ?_
          refine AS_step (r := [1, 3]) (by kernel_rfl) rfl rfl ⟨?_, ?_, trivial⟩
          refine AO_q rfl (Q_load rfl inferInstance inferInstance rfl) rfl ?_
          refine AS_step (r := [3]) (by kernel_rfl) rfl rfl ⟨?_, trivial⟩
          refine AO_h rfl (H_callX inferInstance rfl hf1 inferInstance) rfl fun u => ?_
          refine AS_step (r := [5]) (by kernel_rfl) rfl rfl ⟨?_, trivial⟩
          refine AO_x rfl inferInstance rfl hx inferInstance ?_; rotate_left
          refine AO_h rfl (H_callX inferInstance rfl hf1 inferInstance) rfl fun u => ?_
          refine AS_step (r := [1, 5]) (by kernel_rfl) rfl rfl ⟨?_, ?_, trivial⟩
          refine AO_q rfl (Q_load rfl inferInstance inferInstance rfl) rfl ?_
          refine AS_step (r := [5]) (by kernel_rfl) rfl rfl ⟨?_, trivial⟩
          refine AO_x rfl inferInstance rfl hx inferInstance ?_; rotate_left
          refine AO_x rfl inferInstance rfl hx inferInstance ?_; rotate_left
          refine AO_h rfl (H_callX inferInstance rfl hf1 inferInstance) rfl fun u => ?_
          refine AS_step (r := [0, 5]) (by kernel_rfl) rfl rfl ⟨?_, ?_, trivial⟩
          refine AO_q rfl (Q_fieldAddr rfl inferInstance rfl) rfl ?_
          refine AS_step (r := [1, 5]) (by kernel_rfl) rfl rfl ⟨?_, ?_, trivial⟩
          refine AO_q rfl (Q_load rfl inferInstance inferInstance rfl) rfl ?_
          refine AS_step (r := [5]) (by kernel_rfl) rfl rfl ⟨?_, trivial⟩
          refine AO_x rfl inferInstance rfl hx inferInstance ?_; rotate_left
          refine AO_x rfl inferInstance rfl hx inferInstance ?_; rotate_left
          refine AO_x rfl inferInstance rfl hx inferInstance ?_; rotate_left
          all_goals
            repeat' (first | with_reducible refine thenS_p ?_ | with_reducible refine blockS_p ?_)
            refine out_brk rfl rfl inferInstance inferInstance rfl rfl ?_
            simp only [decV, decH, hd]
            exact ⟨.slice none 0 0, rfl, by ((try simp only [star_assoc, emp_star, star_emp]); (repeat' (first | exact Ent.last | refine Ent.take ?_ | refine Ent.nilT ?_ | refine Ent.takeR (by first | rfl | assumption | (simp; done)) ?_ | exact Ent.refl _)))⟩
      · have hf1 := four_t w0 (l.drop (8 * i)) v' gg X (by omega)
        have hf2 := four_t w0 ((l.drop (8 * i)).drop 4) (sTail 1 v' 4) gg X (by omega)
        have he : lostsAt l (i + 1) = lostsAt l i ++ [(numAt (l.drop (8 * i)) 0, numAt ((l.drop (8 * i)).drop 4) 0)] := by simp [lostsAt, numAt_dropK]
        have hR2 : Rdr w0 X (sTail 1 (sTail 1 v' 4) 4) UInt8 1 byteC (((l.drop (8 * i)).drop 4).drop 4) := inferInstance
        rw [List.drop_drop, List.drop_drop, show 8 * i + (4 + 4) = 8 * (i + 1) by omega] at hR2
        have hll := lostsAt_length l i
        repeat' (first
          | (refine WS_seqK ?_; intro K hK)
          | (refine hK _ ?_; clear hK K)
          | (with_reducible (first | refine thenS_n ?_ | refine thenS_e ?_ | refine blockS_n ?_ | refine blockS_e ?_ | refine blockS_o rfl ?_ | refine thenS_r ?_ | refine blockS_r ?_ | refine use_K (by assumption) ?_))
          | refine WS_region ?_
          | refine LS_nil ?_
          | (show LS _ _ _ _ _ (⟨_, _, _, _, _, some _⟩ :: _) _; first | refine LS_wantT rfl rfl iI rfl ?_ | refine LS_wantF rfl rfl iI rfl ?_ | refine LS_wantU rfl rfl rfl ?_ | ((first | refine LS_wantS rfl rfl rfl ?_ ?_ | refine LS_wantN rfl ?_ ?_) <;> intro hc <;> (try simp only [decide_eq_true_eq, decide_eq_false_iff_not, Bool.not_eq_eq_eq_not, Bool.not_true, Bool.not_false, Bool.and_eq_true, Bool.or_eq_true, bne_iff_ne, beq_iff_eq, ne_eq, Decidable.not_not] at hc) <;> (try (exfalso; first | contradiction | omega; done))))
          | (first | refine DL_nilA ?_ | refine DL_nilS ?_ | refine DL_nilN ?_ | refine DL_nilE ?_ | refine DL_nilR ?_)
          | (first | refine DL_claimS rfl ?_ | refine DL_claim rfl rfl ?_)
          | (refine DL_alloc iI rfl ?_; intro g)
          | ((first | refine' LQ ?h rfl ?_ | refine' DL_qp rfl rfl rfl ?h ?_ | refine' DL_q rfl rfl ?h ?_); case h => intro F'; first | exact Q_move rfl | exact Q_assign rfl | exact Q_nilCheck rfl | exact Q_fieldAddr rfl iI rfl | exact Q_load rfl iI iI rfl | exact Q_bin_t rfl rfl iI (by first | assumption | omega | decide) | exact Q_bin_f rfl rfl iI (by first | assumption | omega | decide) | exact Q_bin_nt rfl rfl iI (by first | assumption | omega | decide) | exact Q_bin_nf rfl rfl iI (by first | assumption | omega | decide) | exact Q_addI rfl rfl (by omega) | exact Q_subI rfl rfl (by omega) | exact Q_pick_t rfl iI rfl | exact Q_pick_f rfl iI rfl | exact Q_pick rfl rfl rfl | exact Q_un rfl iI | exact Q_loadA rfl iI iI rfl | exact Q_build iI iI rfl rfl | exact Q_buildA iI iI iI rfl rfl | exact Q_len rfl iI | exact Q_lenS rfl iI | exact Q_fieldR rfl iI iI rfl (by first | assumption | omega | (simp [be_length] <;> omega)) | exact Q_loadR rfl iI iI iI (by assumption) rfl | exact Q_loadR rfl iI iI iI rfl rfl | exact Q_loadRA rfl iI iI iI (by assumption) | exact Q_lenR rfl iI iI | exact Q_lenM rfl iI iI | exact Q_conv32_8 rfl iI iI iI | exact Q_conv64 rfl iI iI iI | exact Q_conv32 rfl iI iI iI | exact Q_convS rfl iI rfl iI iI iI | exact Q_convSame rfl iI iI (by omega) | exact Q_convI8 rfl iI iI | exact Q_conv328 rfl iI iI | exact Q_conv8 rfl iI iI | exact Q_bytesS rfl iI iI rfl iI iI iI | exact Q_addS rfl rfl (by first | omega | (simp [be_length] <;> omega)) | exact Q_makeFunc rfl rfl | exact Q_nilCheck_f rfl | exact Q_quoI rfl rfl (by omega) | exact Q_remI rfl rfl (by omega) | exact Q_negI rfl (by omega) | exact Q_mulI rfl rfl (by omega))
          | ((first | refine LS_binS rfl rfl iI rfl ?_ ?_ | refine LS_binN rfl rfl iI rfl ?_ ?_ | refine DL_binS rfl rfl iI rfl ?_ ?_) <;> intro hc)
          | ((first | refine' LQ ?h rfl ?_ | refine' DL_qp rfl rfl rfl ?h ?_ | refine' DL_q rfl rfl ?h ?_); case h => intro F'; first | exact Q_bin rfl rfl iI)
          | ((first | refine' LS_h ?h rfl ?_ | refine' DL_h ?h rfl rfl rfl ?_); (case h => first | exact H_alloc iI | exact H_box rfl | exact H_boxO rfl iI | exact H_buildB iI iI iI rfl rfl rfl rfl rfl iI rfl rfl | exact H_buildSlice0 iI iI | exact H_appendD rfl rfl iI iI rfl iI iI byteC_one (by first | omega | (simp [be_length] <;> omega)) rfl | exact H_appendB rfl rfl iI iI iI rfl rfl iI (by first | omega | (simp [be_length] <;> omega)) rfl | exact H_appendS rfl rfl iI rfl iI iI (by first | omega | (simp [be_length] <;> omega)) rfl | exact H_convS rfl iI rfl iI iI iI | exact H_box1 rfl (by first | rfl | assumption)); intro g)
          | ((first | refine' LS_h0 ?h ?_ | refine' DL_h0 ?h rfl rfl ?_); (case h => first | exact H_storeO rfl rfl iI iI iI rfl | exact H_storeAO rfl rfl iI iI iI rfl | exact H_store8 rfl rfl iI iI rfl iI (by first | assumption | omega | (simp [be_length] <;> omega)) | exact H_storeRA _ rfl rfl rfl iI iI iI rfl rfl (by first | assumption | omega | (simp [be_length] <;> omega)) | exact H_storeR _ rfl rfl iI iI iI rfl (by assumption) rfl | exact H_store rfl rfl iI (by first | rfl | assumption) iI rfl | exact H_storeA rfl rfl iI iI (by first | rfl | (simp only [List.all_cons, List.all_nil, *]; rfl)) rfl); intro g)
          | (first | refine WS_block ?_ | refine WS_skip ?_ | refine WS_ret ?_ | refine WS_exit ?_ | refine WS_label ?_)
          | (show WS _ _ _ (.cond _ _ _) _ _; first | refine WS_condT rfl iI ?_ | refine WS_condF rfl iI ?_ | refine WS_condH_t rfl (by assumption) ?_ | refine WS_condH_f rfl (by assumption) ?_ | (refine WS_cond rfl ?_ ?_ <;> intro hc <;> (try simp only [decide_eq_true_eq, decide_eq_false_iff_not, Bool.not_eq_eq_eq_not, Bool.not_true, Bool.not_false, Bool.and_eq_true, Bool.or_eq_true, bne_iff_ne, beq_iff_eq, ne_eq, Decidable.not_not] at hc) <;> (try (exfalso; first | contradiction | omega; done))))
          | (show WS _ _ _ (.region 22 _ true) _ _; refine WS_drawM 2 [0, 1, 2, 4, 3, 5, 6, 7, 8, 9, 10] 10 [1] (by kernel_rfl) rfl rfl iI ?_)
          | (refine DL_h (H_callX iI rfl hf1 iI) rfl rfl rfl ?_; intro u)
          | (refine DL_h (H_callX iI rfl hf2 iI) rfl rfl rfl ?_; intro u)
          | (refine DL_h (H_buildSliceR lostC [(numAt (l.drop (8 * i)) 0, numAt ((l.drop (8 * i)).drop 4) 0)] iI iI iI rfl rfl rfl rfl rfl iI rfl rfl rfl) rfl rfl rfl ?_; intro vb)
          | (refine DL_h (H_appendR rfl rfl iI iI rfl iI iI lostC_one (by first | omega | (simp [be_length] <;> omega)) rfl) rfl rfl rfl ?_; intro v2))
        refine ⟨m - 1, _, by omega, ⟨i + 1, _, v2, by omega, by omega, hR2, rfl⟩, ⟨rfl, rfl, rfl, rfl, rfl, trivial⟩, rfl, ?_⟩
        rw [he]
        ((try simp only [star_assoc, emp_star, star_emp]); (repeat' (first | exact Ent.last | refine Ent.take ?_ | refine Ent.nilT ?_ | refine Ent.takeR (by first | rfl | assumption | (simp; done)) ?_ | exact Ent.refl _)))
    · obtain rfl : i = n.toNat := by omega
      repeat' (first
        | (refine WS_seqK ?_; intro K hK)
        | (refine hK _ ?_; clear hK K)
        | (with_reducible (first | refine thenS_n ?_ | refine thenS_e ?_ | refine blockS_n ?_ | refine blockS_e ?_ | refine blockS_o rfl ?_ | refine thenS_r ?_ | refine blockS_r ?_ | refine use_K (by assumption) ?_))
        | refine WS_region ?_
        | refine LS_nil ?_
        | (show LS _ _ _ _ _ (⟨_, _, _, _, _, some _⟩ :: _) _; first | refine LS_wantT rfl rfl iI rfl ?_ | refine LS_wantF rfl rfl iI rfl ?_ | refine LS_wantU rfl rfl rfl ?_ | ((first | refine LS_wantS rfl rfl rfl ?_ ?_ | refine LS_wantN rfl ?_ ?_) <;> intro hc <;> (try simp only [decide_eq_true_eq, decide_eq_false_iff_not, Bool.not_eq_eq_eq_not, Bool.not_true, Bool.not_false, Bool.and_eq_true, Bool.or_eq_true, bne_iff_ne, beq_iff_eq, ne_eq, Decidable.not_not] at hc) <;> (try (exfalso; first | contradiction | omega; done))))
        | (first | refine DL_nilA ?_ | refine DL_nilS ?_ | refine DL_nilN ?_ | refine DL_nilE ?_ | refine DL_nilR ?_)
        | (first | refine DL_claimS rfl ?_ | refine DL_claim rfl rfl ?_)
        | (refine DL_alloc iI rfl ?_; intro g)
        | ((first | refine' LQ ?h rfl ?_ | refine' DL_qp rfl rfl rfl ?h ?_ | refine' DL_q rfl rfl ?h ?_); case h => intro F'; first | exact Q_move rfl | exact Q_assign rfl | exact Q_nilCheck rfl | exact Q_fieldAddr rfl iI rfl | exact Q_load rfl iI iI rfl | exact Q_bin_t rfl rfl iI (by first | assumption | omega | decide) | exact Q_bin_f rfl rfl iI (by first | assumption | omega | decide) | exact Q_bin_nt rfl rfl iI (by first | assumption | omega | decide) | exact Q_bin_nf rfl rfl iI (by first | assumption | omega | decide) | exact Q_addI rfl rfl (by omega) | exact Q_subI rfl rfl (by omega) | exact Q_pick_t rfl iI rfl | exact Q_pick_f rfl iI rfl | exact Q_pick rfl rfl rfl | exact Q_un rfl iI | exact Q_loadA rfl iI iI rfl | exact Q_build iI iI rfl rfl | exact Q_buildA iI iI iI rfl rfl | exact Q_len rfl iI | exact Q_lenS rfl iI | exact Q_fieldR rfl iI iI rfl (by first | assumption | omega | (simp [be_length] <;> omega)) | exact Q_loadR rfl iI iI iI (by assumption) rfl | exact Q_loadR rfl iI iI iI rfl rfl | exact Q_loadRA rfl iI iI iI (by assumption) | exact Q_lenR rfl iI iI | exact Q_lenM rfl iI iI | exact Q_conv32_8 rfl iI iI iI | exact Q_conv64 rfl iI iI iI | exact Q_conv32 rfl iI iI iI | exact Q_convS rfl iI rfl iI iI iI | exact Q_convSame rfl iI iI (by omega) | exact Q_convI8 rfl iI iI | exact Q_conv328 rfl iI iI | exact Q_conv8 rfl iI iI | exact Q_bytesS rfl iI iI rfl iI iI iI | exact Q_addS rfl rfl (by first | omega | (simp [be_length] <;> omega)) | exact Q_makeFunc rfl rfl | exact Q_nilCheck_f rfl | exact Q_quoI rfl rfl (by omega) | exact Q_remI rfl rfl (by omega) | exact Q_negI rfl (by omega) | exact Q_mulI rfl rfl (by omega))
        | ((first | refine LS_binS rfl rfl iI rfl ?_ ?_ | refine LS_binN rfl rfl iI rfl ?_ ?_ | refine DL_binS rfl rfl iI rfl ?_ ?_) <;> intro hc)
        | ((first | refine' LQ ?h rfl ?_ | refine' DL_qp rfl rfl rfl ?h ?_ | refine' DL_q rfl rfl ?h ?_); case h => intro F'; first | exact Q_bin rfl rfl iI)
        | ((first | refine' LS_h ?h rfl ?_ | refine' DL_h ?h rfl rfl rfl ?_); (case h => first | exact H_alloc iI | exact H_box rfl | exact H_boxO rfl iI | exact H_buildB iI iI iI rfl rfl rfl rfl rfl iI rfl rfl | exact H_buildSlice iI iI iI rfl rfl rfl rfl rfl | exact H_buildSlice0 iI iI | exact H_appendD rfl rfl iI iI rfl iI iI byteC_one (by first | omega | (simp [be_length] <;> omega)) rfl | exact H_appendB rfl rfl iI iI iI rfl rfl iI (by first | omega | (simp [be_length] <;> omega)) rfl | exact H_appendS rfl rfl iI rfl iI iI (by first | omega | (simp [be_length] <;> omega)) rfl | exact H_convS rfl iI rfl iI iI iI | exact H_box1 rfl (by first | rfl | assumption)); intro g)
        | ((first | refine' LS_h0 ?h ?_ | refine' DL_h0 ?h rfl rfl ?_); (case h => first | exact H_storeO rfl rfl iI iI iI rfl | exact H_storeAO rfl rfl iI iI iI rfl | exact H_store8 rfl rfl iI iI rfl iI (by first | assumption | omega | (simp [be_length] <;> omega)) | exact H_storeRA _ rfl rfl rfl iI iI iI rfl rfl (by first | assumption | omega | (simp [be_length] <;> omega)) | exact H_storeR _ rfl rfl iI iI iI rfl (by assumption) rfl | exact H_store rfl rfl iI (by first | rfl | assumption) iI rfl | exact H_storeA rfl rfl iI iI (by first | rfl | (simp only [List.all_cons, List.all_nil, *]; rfl)) rfl); intro g)
        | (first | refine WS_block ?_ | refine WS_skip ?_ | refine WS_ret ?_ | refine WS_exit ?_ | refine WS_label ?_)
        | (show WS _ _ _ (.cond _ _ _) _ _; first | refine WS_condT rfl iI ?_ | refine WS_condF rfl iI ?_ | refine WS_condH_t rfl (by assumption) ?_ | refine WS_condH_f rfl (by assumption) ?_ | (refine WS_cond rfl ?_ ?_ <;> intro hc <;> (try simp only [decide_eq_true_eq, decide_eq_false_iff_not, Bool.not_eq_eq_eq_not, Bool.not_true, Bool.not_false, Bool.and_eq_true, Bool.or_eq_true, bne_iff_ne, beq_iff_eq, ne_eq, Decidable.not_not] at hc) <;> (try (exfalso; first | contradiction | omega; done))))
        | refine WS_drawS (by kernel_rfl) ?_
        | refine LS_deferV0 rfl rfl rfl ?_
        | refine LS_one_f rfl iI iI ?_
        | (refine LS_one_t rfl iI iI rfl ?_)
        | (refine LS_four rfl iI iI rfl ?_ ?_ <;> (intro hc; try simp only [List.length_drop] at hc))
        | (refine LS_take rfl iI iI iI rfl ?_ ?_ <;> (intro hc; try simp only [List.length_drop] at hc))
        | (refine LS_must rfl rfl ?_ ?_ <;> (intro hc; first
        | (cases hc; done)
        | skip))
        | with_reducible refine thenS_p ?_
        | with_reducible refine blockS_p ?_)
      all_goals
        first
        | (have hd : Pk.dec (t :: k :: f :: z :: n :: l) = none := by rw [hde, if_neg]; omega
           refine out_brk rfl rfl inferInstance inferInstance rfl rfl ?_
           simp only [decV, decH, hd]
           exact ⟨.slice none 0 0, rfl, by ((try simp only [star_assoc, emp_star, star_emp]); (repeat' (first | exact Ent.last | refine Ent.take ?_ | refine Ent.nilT ?_ | refine Ent.takeR (by first | rfl | assumption | (simp; done)) ?_ | exact Ent.refl _)))⟩)
        | (have hd := hde.trans (if_pos (by omega))
           refine out_ok rfl rfl inferInstance inferInstance rfl ?_
           simp only [decV, decH, hd, Option.getD_some, Option.isSome_some]
           exact ⟨vl, by simp [Pk.val, Pk.cells, h2], by ((try simp only [star_assoc, emp_star, star_emp]); (repeat' (first | exact Ent.last | refine Ent.take ?_ | refine Ent.nilT ?_ | refine Ent.takeR (by first | rfl | assumption | (simp; done)) ?_ | exact Ent.refl _)))⟩)
end Go.Proofs.YtapoehkdnglahabGreat

/- What wire.Decode and mesh.Decode return, of any bytes. -/
namespace Go.Proofs.YtapoehkdnglahabGreat
open Go.RowKit
set_option linter.unusedVariables false
set_option linter.unusedSimpArgs false
theorem dec_bad {t k f z n : UInt8} {l : List UInt8} (h : z.toNat ≠ 0 ∨ t.toNat = 0) : Pk.dec (t :: k :: f :: z :: n :: l) = none := by
  simp only [Pk.dec]
  rw [if_neg]
  rintro ⟨h1, h2⟩
  rcases h with h | h
  · exact h (by rw [h1]; rfl)
  · exact h2 (UInt8.toNat_inj.1 (by rw [h]; rfl))
theorem dec_flag {t k f z n : UInt8} {l : List UInt8} (h : f.toNat ≠ 0) (h2 : f.toNat ≠ 8 ∨ k.toNat ≠ 1) : Pk.dec (t :: k :: f :: z :: n :: l) = none := by
  have h0 : f ≠ 0 := fun e => h (by rw [e]; rfl)
  have h8 : f = 8 → k ≠ 1 := fun e e2 => by
    rcases h2 with h2 | h2
    · exact h2 (by rw [e]; rfl)
    · exact h2 (by rw [e2]; rfl)
  simp only [Pk.dec]
  split
  · unfold Pk.body
    repeat' split
    all_goals first
      | rfl
      | (rename_i hk hc; exfalso; rcases hc.2 with e | ⟨e, _⟩ <;> first | exact h0 e | exact h8 e hk)
      | (exfalso; simp_all; done)
  · rfl
theorem dec_kind {t k f z n : UInt8} {l : List UInt8} (h1 : k.toNat ≠ 1) (h2 : k.toNat ≠ 2) (h3 : k.toNat ≠ 3) (h9 : k.toNat ≠ 9) : Pk.dec (t :: k :: f :: z :: n :: l) = none := by
  have k1 : k ≠ 1 := fun e => h1 (by rw [e]; rfl)
  have k2 : k ≠ 2 := fun e => h2 (by rw [e]; rfl)
  have k3 : k ≠ 3 := fun e => h3 (by rw [e]; rfl)
  have k9 : k ≠ 9 := fun e => h9 (by rw [e]; rfl)
  simp only [Pk.dec, Pk.body, if_neg k1, if_neg k2, if_neg k3, if_neg k9, ite_self]
attribute [local irreducible] WS LS OpQ OpT OpH OpTQ Spec SpecQ SpecX DSpec cel
variable (w0 : World)
theorem wdecode_spec (l : List UInt8) (hl : l.length ≤ 100000) (v : Value) (X : HProp) [hX : Rdr w0 X v UInt8 1 byteC l] : Spec Tryz.prog w0 35 [v] X (fun v' : Value => decV l v') (fun v' => decH l v' X) := by
  rcases Nat.lt_or_ge l.length 5 with h5 | h5
  · exact wdecode_short w0 l h5 v X
  obtain ⟨t, k, f, z, n, r, rfl⟩ : ∃ t k f z n r, l = t :: k :: f :: z :: n :: r := by
    match l, h5 with
    | t :: k :: f :: z :: n :: r, _ => exact ⟨t, k, f, z, n, r, rfl⟩
  have hr : r.length ≤ 100000 := by simp at hl; omega
  by_cases hz : z.toNat = 0
  · by_cases ht : t.toNat = 0
    · exact wdec_bad w0 t k f z n r hr (dec_bad (.inr ht)) (by omega) v X
    · by_cases hf : f.toNat = 0
      · by_cases h1 : k.toNat = 1
        · exact wdec_1a w0 t k f z n r hr hz (by omega) hf h1 v X
        · by_cases h2 : k.toNat = 2
          · exact wdec_2 w0 t k f z n r hr hz (by omega) hf h2 v X
          · by_cases h3 : k.toNat = 3
            · exact wdec_3 w0 t k f z n r hr hz (by omega) hf h3 v X
            · by_cases h9 : k.toNat = 9
              · exact wdec_9 w0 t k f z n r hr hz (by omega) hf h9 v X
              · exact wdec_other w0 t k f z n r hr (dec_kind h1 h2 h3 h9) hz (by omega) hf h1 h2 h3 h9 v X
      · by_cases h8 : f.toNat = 8
        · by_cases h1 : k.toNat = 1
          · exact wdec_1b w0 t k f z n r hr hz (by omega) h8 h1 v X
          · exact wdec_bad w0 t k f z n r hr (dec_flag hf (.inr h1)) (by omega) v X
        · exact wdec_bad w0 t k f z n r hr (dec_flag hf (.inl h8)) (by omega) v X
  · exact wdec_bad w0 t k f z n r hr (dec_bad (.inl hz)) (by omega) v X
/-- What mesh.Decode hands out. -/
def mdecV (l : List UInt8) (v' : Value) : Value := .tuple #[((Pk.dec l).getD Pk.zero).val v', .int .i64 (if (Pk.dec l).isSome then 0 else 1)]
set_option maxRecDepth 100000 in
theorem mdecode_spec (l : List UInt8) (hl : l.length ≤ 100000) (v : Value) (X : HProp) [hX : Rdr w0 X v UInt8 1 byteC l] : Spec Tryz.prog w0 14 [v] X (fun v' : Value => mdecV l v') (fun v' => decH l v' X) := by
  have hd := wdecode_spec w0 l hl v X
  simp only [decV, decH, mdecV] at hd ⊢
  cases hp : Pk.dec l with
  | none =>
    simp only [hp, Option.getD_none, Pk.val, Pk.cells, Option.isSome_none] at hd ⊢
    refine Spec.enter Tryz.func14 rfl Tryz.ntmps14 rfl fun G => ?_
    simp only [argE]
    repeat' (first
      | (refine WS_seqK ?_; intro K hK)
      | (refine hK _ ?_; clear hK K)
      | (with_reducible (first | refine thenS_n ?_ | refine thenS_e ?_ | refine blockS_n ?_ | refine blockS_e ?_ | refine blockS_o rfl ?_ | refine thenS_r ?_ | refine blockS_r ?_ | refine use_K (by assumption) ?_))
      | refine WS_region ?_
      | refine LS_nil ?_
      | ((refine' LQ ?h rfl ?_); case h => intro F'; first | exact Q_move rfl | exact Q_assign rfl | exact Q_load rfl iI iI rfl | exact Q_extract rfl rfl | exact Q_un rfl iI | exact Q_loadA rfl iI iI rfl | exact Q_build iI iI rfl rfl | exact Q_buildA iI iI iI rfl rfl | exact Q_loadR rfl iI iI iI (by assumption) rfl | exact Q_loadR rfl iI iI iI rfl rfl | exact Q_loadRA rfl iI iI iI (by assumption) | exact Q_negI rfl (by omega))
      | ((refine' LS_h ?h rfl ?_); (case h => first | exact H_alloc iI); intro g)
      | ((refine' LS_h0 ?h ?_); (case h => first | exact H_storeO rfl rfl iI iI iI rfl | exact H_storeAO rfl rfl iI iI iI rfl | exact H_store8 rfl rfl iI iI rfl iI (by first | assumption | omega | (simp [be_length] <;> omega)) | exact H_storeRA _ rfl rfl rfl iI iI iI rfl rfl (by first | assumption | omega | (simp [be_length] <;> omega)) | exact H_storeR _ rfl rfl iI iI iI rfl (by assumption) rfl | exact H_store rfl rfl iI (by first | rfl | assumption) iI rfl | exact H_storeA rfl rfl iI iI (by first | rfl | (simp only [List.all_cons, List.all_nil, *]; rfl)) rfl); intro g)
      | (first | refine WS_block ?_ | refine WS_skip ?_ | refine WS_ret ?_ | refine WS_exit ?_ | refine WS_label ?_)
      | (show WS _ _ _ (.cond _ _ _) _ _; first | refine WS_condT rfl iI ?_ | refine WS_condF rfl iI ?_ | refine WS_condH_t rfl (by assumption) ?_ | refine WS_condH_f rfl (by assumption) ?_ | (refine WS_cond rfl ?_ ?_ <;> intro hc <;> (try simp only [decide_eq_true_eq, decide_eq_false_iff_not, Bool.not_eq_eq_eq_not, Bool.not_true, Bool.not_false, Bool.and_eq_true, Bool.or_eq_true, bne_iff_ne, beq_iff_eq, ne_eq, Decidable.not_not] at hc) <;> (try (exfalso; first | contradiction | omega; done))))
      | (refine LS_h (H_callX iI rfl hd iI) rfl ?_; intro v'))
    exact ret_2 (.inl rfl) rfl (RV_cell rfl inferInstance inferInstance rfl) (RV_tmp rfl) ⟨.slice none 0 0, rfl, by ((try simp only [star_assoc, emp_star, star_emp]); (repeat' (first | exact Ent.last | refine Ent.take ?_ | refine Ent.nilT ?_ | refine Ent.takeR (by first | rfl | assumption | (simp; done)) ?_ | exact Ent.refl _)))⟩
  | some p =>
    simp only [hp, Option.getD_some, Pk.val, Pk.cells, Option.isSome_some] at hd ⊢
    refine Spec.enter Tryz.func14 rfl Tryz.ntmps14 rfl fun G => ?_
    simp only [argE]
    repeat' (first
      | (refine WS_seqK ?_; intro K hK)
      | (refine hK _ ?_; clear hK K)
      | (with_reducible (first | refine thenS_n ?_ | refine thenS_e ?_ | refine blockS_n ?_ | refine blockS_e ?_ | refine blockS_o rfl ?_ | refine thenS_r ?_ | refine blockS_r ?_ | refine use_K (by assumption) ?_))
      | refine WS_region ?_
      | refine LS_nil ?_
      | ((refine' LQ ?h rfl ?_); case h => intro F'; first | exact Q_move rfl | exact Q_assign rfl | exact Q_load rfl iI iI rfl | exact Q_extract rfl rfl | exact Q_un rfl iI | exact Q_loadA rfl iI iI rfl | exact Q_build iI iI rfl rfl | exact Q_buildA iI iI iI rfl rfl | exact Q_loadR rfl iI iI iI (by assumption) rfl | exact Q_loadR rfl iI iI iI rfl rfl | exact Q_loadRA rfl iI iI iI (by assumption) | exact Q_negI rfl (by omega))
      | ((refine' LS_h ?h rfl ?_); (case h => first | exact H_alloc iI); intro g)
      | ((refine' LS_h0 ?h ?_); (case h => first | exact H_storeO rfl rfl iI iI iI rfl | exact H_storeAO rfl rfl iI iI iI rfl | exact H_store8 rfl rfl iI iI rfl iI (by first | assumption | omega | (simp [be_length] <;> omega)) | exact H_storeRA _ rfl rfl rfl iI iI iI rfl rfl (by first | assumption | omega | (simp [be_length] <;> omega)) | exact H_storeR _ rfl rfl iI iI iI rfl (by assumption) rfl | exact H_store rfl rfl iI (by first | rfl | assumption) iI rfl | exact H_storeA rfl rfl iI iI (by first | rfl | (simp only [List.all_cons, List.all_nil, *]; rfl)) rfl); intro g)
      | (first | refine WS_block ?_ | refine WS_skip ?_ | refine WS_ret ?_ | refine WS_exit ?_ | refine WS_label ?_)
      | (show WS _ _ _ (.cond _ _ _) _ _; first | refine WS_condT rfl iI ?_ | refine WS_condF rfl iI ?_ | refine WS_condH_t rfl (by assumption) ?_ | refine WS_condH_f rfl (by assumption) ?_ | (refine WS_cond rfl ?_ ?_ <;> intro hc <;> (try simp only [decide_eq_true_eq, decide_eq_false_iff_not, Bool.not_eq_eq_eq_not, Bool.not_true, Bool.not_false, Bool.and_eq_true, Bool.or_eq_true, bne_iff_ne, beq_iff_eq, ne_eq, Decidable.not_not] at hc) <;> (try (exfalso; first | contradiction | omega; done))))
      | (refine LS_h (H_callX iI rfl hd iI) rfl ?_; intro v'))
    exact ret_2 (.inl rfl) rfl (RV_cell rfl inferInstance inferInstance rfl) (RV_tmp rfl) ⟨v', rfl, by ((try simp only [star_assoc, emp_star, star_emp]); (repeat' (first | exact Ent.last | refine Ent.take ?_ | refine Ent.nilT ?_ | refine Ent.takeR (by first | rfl | assumption | (simp; done)) ?_ | exact Ent.refl _)))⟩
end Go.Proofs.YtapoehkdnglahabGreat

/- A node hears a frame while it is silent; its other small functions. -/
namespace Go.Proofs.YtapoehkdnglahabGreat
open Go.RowKit
set_option linter.unusedVariables false
set_option linter.unusedSimpArgs false
/-- That a destination is not reached. -/
def Pk.lose (l : List (UInt32 × UInt32)) : Pk := ⟨1, 3, 0, false, 0, 0, 0, 0, 0, 0, l, []⟩
def Nd.tell (s : Nd) (to dest seq : UInt32) : Nd := s.send to (Pk.lose [(dest, seq)])
/-- What it hears while it is silent (or: what is no frame). -/
def Nd.rcvQ (s : Nd) (now : UInt64) (from_ : UInt32) (f : Str) : Nd := match Pk.dec f with
  | none => s.drop 0
  | some p => if from_ = 0 ∨ from_ = s.self then s.drop 0 else
    if p.kind = 9 ∧ p.dest ≠ s.self then Nd.drop { s.tell from_ p.dest (numT s.ls p.dest) with silent := now + 2000 } 8 else s.drop 8
def Nd.Deaf (s : Nd) (now : UInt64) (from_ : UInt32) (f : Str) : Prop := Pk.dec f = none ∨ (from_ = 0 ∨ from_ = s.self) ∨ now < s.silent
theorem Pk.lose_ok (l : List (UInt32 × UInt32)) (h : l.length ≤ 100000) : (Pk.lose l).Ok := by
  constructor <;> simp [Pk.lose, i64R, h]
attribute [local irreducible] WS LS OpQ OpT OpH OpTQ Spec SpecQ cel
variable (w0 : World)
set_option maxRecDepth 100000 in
set_option maxHeartbeats 8000000 in
theorem tell_spec (gn : Nat) (s : Nd) (h : NH) (to dest seq : UInt32) (hd : s.out.frames.length ≤ 900000) : Spec Tryz.prog w0 68 [ptr gn 0, u32 to, u32 dest, u32 seq] (nodP gn s h) (fun _ : Value => .tuple #[]) (fun vf => nodP gn (s.tell to dest seq) { h with vf := vf }) := by
  have p1 := fun v hv => nsend_spec w0 gn s h to (Pk.lose [(dest, seq)]) (Pk.lose_ok _ (by simp)) v hv (rows 180 2 lostC v [(dest, seq)]) (hX := rdr_bare _ _ _ _ _) hd
  simp only [Pk.val, Pk.cells, Pk.lose] at p1
  refine Spec.enter Tryz.func68 rfl Tryz.ntmps68 rfl fun G => ?_
  simp only [argE]
  repeat' (first
    | (refine WS_seqK ?_; intro K hK)
    | (refine hK _ ?_; clear hK K)
    | (with_reducible (first | refine thenS_n ?_ | refine thenS_e ?_ | refine blockS_n ?_ | refine blockS_e ?_ | refine blockS_o rfl ?_ | refine thenS_r ?_ | refine blockS_r ?_ | refine use_K (by assumption) ?_))
    | refine WS_region ?_
    | refine LS_nil ?_
    | ((refine' LQ ?h rfl ?_); case h => intro F'; first | exact Q_move rfl | exact Q_build iI iI rfl rfl | exact Q_buildA iI iI iI rfl rfl)
    | ((refine' LS_h ?h rfl ?_); (case h => first | exact H_buildB iI iI iI rfl rfl rfl rfl rfl iI rfl rfl | exact H_buildSlice0 iI iI); intro g)
    | (first | refine WS_block ?_ | refine WS_skip ?_ | refine WS_ret ?_ | refine WS_exit ?_ | refine WS_label ?_)
    | (show WS _ _ _ (.cond _ _ _) _ _; first | refine WS_condT rfl iI ?_ | refine WS_condF rfl iI ?_ | refine WS_condH_t rfl (by assumption) ?_ | refine WS_condH_f rfl (by assumption) ?_ | (refine WS_cond rfl ?_ ?_ <;> intro hc <;> (try simp only [decide_eq_true_eq, decide_eq_false_iff_not, Bool.not_eq_eq_eq_not, Bool.not_true, Bool.not_false, Bool.and_eq_true, Bool.or_eq_true, bne_iff_ne, beq_iff_eq, ne_eq, Decidable.not_not] at hc) <;> (try (exfalso; first | contradiction | omega; done))))
    | (refine LS_h (H_buildSliceR lostC [(dest, seq)] iI iI iI rfl rfl rfl rfl rfl iI rfl rfl rfl) rfl ?_; intro vl; refine LS_form vl iI fun A cap hv => ?_; subst hv)
    | (refine LS_h (H_callX iI rfl (p1 _ rfl) iI) rfl ?_; intro vf))
  exact ret_none (.inr rfl) rfl ⟨vf, rfl, by unfold Nd.tell Pk.lose; ((try simp only [star_assoc, emp_star, star_emp]); (repeat' (first | exact Ent.last | refine Ent.take ?_ | refine Ent.nilT ?_ | refine Ent.takeR (by first | rfl | assumption | (simp; done)) ?_ | exact Ent.refl _)))⟩
set_option maxRecDepth 100000 in
set_option maxHeartbeats 8000000 in
theorem rcvQ_spec (gn : Nat) (s : Nd) (now : UInt64) (from_ : UInt32) (f : Str) (hq : s.Deaf now from_ f) (hf : f.length ≤ 100000) (hd : s.out.frames.length ≤ 10000) (hd2 : s.out.dropped.length ≤ 10000) (bf br bn bw : Nat) (tf tr tn tw : TypeId) (v : Value) (X : HProp) [hX : Rdr w0 X v UInt8 1 byteC f] :
    Spec Tryz.prog w0 65 [ptr bf 0, ptr br 0, ptr bn 0, ptr bw 0] (nodA gn s * (cel bf tf [v] * (cel br tr [u32 from_] * (cel bn tn [ptr gn 0] * (cel bw tw [u64 now] * X))))) (fun _ : Unit => .tuple #[]) (fun _ => nodA gn (s.rcvQ now from_ f) * X) := by
  have p1 := wdecode_spec w0 f hf v X
  refine Spec.enter Tryz.func65 rfl Tryz.ntmps65 rfl fun G => ?_
  rw [star_assoc (nodA gn s)]
  refine WS_nod fun h => ?_
  have p2 := ndrop_spec w0 gn s h 0 (by omega)
  have p3 := ndrop_spec w0 gn s h 8 (by omega)
  have p4 := fun d => number_spec w0 h.tb s.self s.ls d
  have p5 := fun d q => tell_spec w0 gn s h from_ d q (by omega)
  unfold Nd.Deaf at hq
  unfold decV decH at p1
  cases hp : Pk.dec f with
  | none =>
    have es : s.rcvQ now from_ f = s.drop 0 := by unfold Nd.rcvQ; rw [hp]
    simp only [hp, Option.getD_none, Option.isSome_none, Pk.val, Pk.cells, Pk.zero] at p1
    simp only [argE]
    repeat' (first
      | (refine WS_seqK ?_; intro K hK)
      | (refine hK _ ?_; clear hK K)
      | (with_reducible (first | refine thenS_n ?_ | refine thenS_e ?_ | refine blockS_n ?_ | refine blockS_e ?_ | refine blockS_o rfl ?_ | refine thenS_r ?_ | refine blockS_r ?_ | refine use_K (by assumption) ?_))
      | refine WS_region ?_
      | refine LS_nil ?_
      | (first | refine DL_nilA ?_ | refine DL_nilS ?_ | refine DL_nilN ?_ | refine DL_nilE ?_ | refine DL_nilR ?_)
      | refine DL_skip rfl rfl rfl rfl ?_
      | (first | refine DL_claimS rfl ?_ | refine DL_claim rfl rfl ?_)
      | (refine DL_alloc iI rfl ?_; intro g)
      | ((first | refine' LQ ?h rfl ?_ | refine' DL_qp rfl rfl rfl ?h ?_ | refine' DL_q rfl rfl ?h ?_ | refine' DL_qpg rfl rfl rfl rfl ?h ?_ | refine' DL_qg rfl rfl rfl ?h ?_); case h => intro F'; first | exact Q_move rfl | exact Q_assign rfl | exact Q_nilCheck rfl | exact Q_fieldAddr rfl iI rfl | exact Q_load rfl iI iI rfl | exact Q_bin_t rfl rfl iI (by first | assumption | omega) | exact Q_bin_f rfl rfl iI (by first | assumption | omega) | exact Q_bin_nt rfl rfl iI (by first | assumption | omega) | exact Q_bin_nf rfl rfl iI (by first | assumption | omega) | exact Q_addI rfl rfl (by omega) | exact Q_subI rfl rfl (by omega) | exact Q_extract rfl rfl | exact Q_pick_t rfl iI rfl | exact Q_pick_f rfl iI rfl | exact Q_pick rfl rfl rfl | exact Q_un rfl iI | exact Q_loadA rfl iI iI rfl | exact Q_fieldR rfl iI iI rfl (by first | assumption | omega | (simp [be_length] <;> omega)) | exact Q_loadR rfl iI iI iI (by assumption) rfl | exact Q_loadR rfl iI iI iI rfl rfl | exact Q_loadRA rfl iI iI iI (by assumption) | exact Q_lookupOk_s rfl rfl iI iI iI iI iI (by assumption) | exact Q_lookupOk_n rfl rfl iI iI iI iI iI (by assumption) | exact Q_lookup_s rfl rfl iI iI iI iI iI (by assumption) | exact Q_lookup_n rfl rfl iI iI iI iI iI (by assumption) | exact Q_lookupOk rfl rfl iI iI iI iI iI | exact Q_lookup rfl rfl iI iI iI iI iI | exact Q_addS rfl rfl (by first | omega | (simp [be_length] <;> omega)) | exact Q_nilCheck_f rfl | exact Q_quoI rfl rfl (by omega) | exact Q_remI rfl rfl (by omega) | exact Q_negI rfl (by omega) | exact Q_mulI rfl rfl (by omega))
      | ((first | refine LS_binS rfl rfl iI rfl ?_ ?_ | refine LS_binN rfl rfl iI rfl ?_ ?_ | refine DL_binS rfl rfl iI rfl ?_ ?_) <;> intro hc)
      | ((first | refine' LQ ?h rfl ?_ | refine' DL_qp rfl rfl rfl ?h ?_ | refine' DL_q rfl rfl ?h ?_ | refine' DL_qpg rfl rfl rfl rfl ?h ?_ | refine' DL_qg rfl rfl rfl ?h ?_); case h => intro F'; first | exact Q_bin rfl rfl iI)
      | ((first | refine' LS_h ?h rfl ?_ | refine' DL_h ?h rfl rfl rfl ?_); (case h => first | exact H_alloc iI); intro g)
      | ((first | refine' LS_h0 ?h ?_ | refine' DL_h0 ?h rfl rfl ?_); (case h => first | exact H_storeO rfl rfl iI iI iI rfl | exact H_storeAO rfl rfl iI iI iI rfl | exact H_store8 rfl rfl iI iI rfl iI (by first | assumption | omega | (simp [be_length] <;> omega)) | exact H_storeRA _ rfl rfl rfl iI iI iI rfl rfl (by first | assumption | omega | (simp [be_length] <;> omega)) | exact H_storeR _ rfl rfl iI iI iI rfl (by assumption) rfl | exact H_store rfl rfl iI (by first | rfl | assumption) iI rfl | exact H_storeA rfl rfl iI iI (by first | rfl | (simp only [List.all_cons, List.all_nil, *]; rfl)) rfl); intro g)
      | (first | refine WS_block ?_ | refine WS_skip ?_ | refine WS_ret ?_ | refine WS_exit ?_ | refine WS_label ?_)
      | (show WS _ _ _ (.cond _ _ _) _ _; first | refine WS_condT rfl iI ?_ | refine WS_condF rfl iI ?_ | refine WS_condH_t rfl (by assumption) ?_ | refine WS_condH_f rfl (by assumption) ?_ | (refine WS_cond rfl ?_ ?_ <;> intro hc <;> (try simp only [decide_eq_true_eq, decide_eq_false_iff_not, Bool.not_eq_eq_eq_not, Bool.not_true, Bool.not_false, Bool.and_eq_true, Bool.or_eq_true, bne_iff_ne, beq_iff_eq, ne_eq, Decidable.not_not] at hc) <;> (try (exfalso; first | contradiction | omega; done))))
      | refine WS_drawS (by kernel_rfl) ?_
      | (refine LS_h (H_callX iI rfl p1 iI) rfl ?_; intro vl)
      | (refine LS_h (H_callX iI rfl p2 iI) rfl ?_; intro v2))
    exact ret_none (.inr rfl) rfl ⟨(), rfl, by rw [es, star_assoc (nodA _ _)]; exact Ent.nod { h with vd := v2 } (by ((try simp only [star_assoc, emp_star, star_emp]); (repeat' (first | exact Ent.last | refine Ent.take ?_ | refine Ent.nilT ?_ | refine Ent.takeR (by first | rfl | assumption | (simp; done)) ?_ | exact Ent.refl _))))⟩
  | some p =>
    simp only [hp, Option.getD_some, Option.isSome_some, Pk.val, Pk.cells] at p1
    by_cases h0 : from_ = 0 ∨ from_ = s.self
    · have es : s.rcvQ now from_ f = s.drop 0 := by unfold Nd.rcvQ; rw [hp]; simp only [h0, if_true]
      clear p3 p4 p5
      simp only [argE]
      rcases h0 with h0 | h0
      · repeat' (first
          | (refine WS_seqK ?_; intro K hK)
          | (refine hK _ ?_; clear hK K)
          | (with_reducible (first | refine thenS_n ?_ | refine thenS_e ?_ | refine blockS_n ?_ | refine blockS_e ?_ | refine blockS_o rfl ?_ | refine thenS_r ?_ | refine blockS_r ?_ | refine use_K (by assumption) ?_))
          | refine WS_region ?_
          | refine LS_nil ?_
          | (first | refine DL_nilA ?_ | refine DL_nilS ?_ | refine DL_nilN ?_ | refine DL_nilE ?_ | refine DL_nilR ?_)
          | refine DL_skip rfl rfl rfl rfl ?_
          | (first | refine DL_claimS rfl ?_ | refine DL_claim rfl rfl ?_)
          | (refine DL_alloc iI rfl ?_; intro g)
          | ((first | refine' LQ ?h rfl ?_ | refine' DL_qp rfl rfl rfl ?h ?_ | refine' DL_q rfl rfl ?h ?_ | refine' DL_qpg rfl rfl rfl rfl ?h ?_ | refine' DL_qg rfl rfl rfl ?h ?_); case h => intro F'; first | exact Q_move rfl | exact Q_assign rfl | exact Q_nilCheck rfl | exact Q_fieldAddr rfl iI rfl | exact Q_load rfl iI iI rfl | exact Q_bin_t rfl rfl iI (by first | assumption | omega) | exact Q_bin_f rfl rfl iI (by first | assumption | omega) | exact Q_bin_nt rfl rfl iI (by first | assumption | omega) | exact Q_bin_nf rfl rfl iI (by first | assumption | omega) | exact Q_addI rfl rfl (by omega) | exact Q_subI rfl rfl (by omega) | exact Q_extract rfl rfl | exact Q_pick_t rfl iI rfl | exact Q_pick_f rfl iI rfl | exact Q_pick rfl rfl rfl | exact Q_un rfl iI | exact Q_loadA rfl iI iI rfl | exact Q_fieldR rfl iI iI rfl (by first | assumption | omega | (simp [be_length] <;> omega)) | exact Q_loadR rfl iI iI iI (by assumption) rfl | exact Q_loadR rfl iI iI iI rfl rfl | exact Q_loadRA rfl iI iI iI (by assumption) | exact Q_lookupOk_s rfl rfl iI iI iI iI iI (by assumption) | exact Q_lookupOk_n rfl rfl iI iI iI iI iI (by assumption) | exact Q_lookup_s rfl rfl iI iI iI iI iI (by assumption) | exact Q_lookup_n rfl rfl iI iI iI iI iI (by assumption) | exact Q_lookupOk rfl rfl iI iI iI iI iI | exact Q_lookup rfl rfl iI iI iI iI iI | exact Q_addS rfl rfl (by first | omega | (simp [be_length] <;> omega)) | exact Q_nilCheck_f rfl | exact Q_quoI rfl rfl (by omega) | exact Q_remI rfl rfl (by omega) | exact Q_negI rfl (by omega) | exact Q_mulI rfl rfl (by omega))
          | ((first | refine LS_binS rfl rfl iI rfl ?_ ?_ | refine LS_binN rfl rfl iI rfl ?_ ?_ | refine DL_binS rfl rfl iI rfl ?_ ?_) <;> intro hc)
          | ((first | refine' LQ ?h rfl ?_ | refine' DL_qp rfl rfl rfl ?h ?_ | refine' DL_q rfl rfl ?h ?_ | refine' DL_qpg rfl rfl rfl rfl ?h ?_ | refine' DL_qg rfl rfl rfl ?h ?_); case h => intro F'; first | exact Q_bin rfl rfl iI)
          | ((first | refine' LS_h ?h rfl ?_ | refine' DL_h ?h rfl rfl rfl ?_); (case h => first | exact H_alloc iI); intro g)
          | ((first | refine' LS_h0 ?h ?_ | refine' DL_h0 ?h rfl rfl ?_); (case h => first | exact H_storeO rfl rfl iI iI iI rfl | exact H_storeAO rfl rfl iI iI iI rfl | exact H_store8 rfl rfl iI iI rfl iI (by first | assumption | omega | (simp [be_length] <;> omega)) | exact H_storeRA _ rfl rfl rfl iI iI iI rfl rfl (by first | assumption | omega | (simp [be_length] <;> omega)) | exact H_storeR _ rfl rfl iI iI iI rfl (by assumption) rfl | exact H_store rfl rfl iI (by first | rfl | assumption) iI rfl | exact H_storeA rfl rfl iI iI (by first | rfl | (simp only [List.all_cons, List.all_nil, *]; rfl)) rfl); intro g)
          | (first | refine WS_block ?_ | refine WS_skip ?_ | refine WS_ret ?_ | refine WS_exit ?_ | refine WS_label ?_)
          | (show WS _ _ _ (.cond _ _ _) _ _; first | refine WS_condT rfl iI ?_ | refine WS_condF rfl iI ?_ | refine WS_condH_t rfl (by assumption) ?_ | refine WS_condH_f rfl (by assumption) ?_ | (refine WS_cond rfl ?_ ?_ <;> intro hc <;> (try simp only [decide_eq_true_eq, decide_eq_false_iff_not, Bool.not_eq_eq_eq_not, Bool.not_true, Bool.not_false, Bool.and_eq_true, Bool.or_eq_true, bne_iff_ne, beq_iff_eq, ne_eq, Decidable.not_not] at hc) <;> (try (exfalso; first | contradiction | omega; done))))
          | refine WS_drawS (by kernel_rfl) ?_
          | (refine LS_h (H_callX iI rfl p1 iI) rfl ?_; intro vl)
          | (refine LS_h (H_callX iI rfl p2 iI) rfl ?_; intro v2))
        exact ret_none (.inr rfl) rfl ⟨(), rfl, by rw [es, star_assoc (nodA _ _)]; exact Ent.nod { h with vd := v2 } (by ((try simp only [star_assoc, emp_star, star_emp]); (repeat' (first | exact Ent.last | refine Ent.take ?_ | refine Ent.nilT ?_ | refine Ent.takeR (by first | rfl | assumption | (simp; done)) ?_ | exact Ent.refl _))))⟩
      · by_cases h00 : from_ = 0
        · repeat' (first
            | (refine WS_seqK ?_; intro K hK)
            | (refine hK _ ?_; clear hK K)
            | (with_reducible (first | refine thenS_n ?_ | refine thenS_e ?_ | refine blockS_n ?_ | refine blockS_e ?_ | refine blockS_o rfl ?_ | refine thenS_r ?_ | refine blockS_r ?_ | refine use_K (by assumption) ?_))
            | refine WS_region ?_
            | refine LS_nil ?_
            | (first | refine DL_nilA ?_ | refine DL_nilS ?_ | refine DL_nilN ?_ | refine DL_nilE ?_ | refine DL_nilR ?_)
            | refine DL_skip rfl rfl rfl rfl ?_
            | (first | refine DL_claimS rfl ?_ | refine DL_claim rfl rfl ?_)
            | (refine DL_alloc iI rfl ?_; intro g)
            | ((first | refine' LQ ?h rfl ?_ | refine' DL_qp rfl rfl rfl ?h ?_ | refine' DL_q rfl rfl ?h ?_ | refine' DL_qpg rfl rfl rfl rfl ?h ?_ | refine' DL_qg rfl rfl rfl ?h ?_); case h => intro F'; first | exact Q_move rfl | exact Q_assign rfl | exact Q_nilCheck rfl | exact Q_fieldAddr rfl iI rfl | exact Q_load rfl iI iI rfl | exact Q_bin_t rfl rfl iI (by first | assumption | omega) | exact Q_bin_f rfl rfl iI (by first | assumption | omega) | exact Q_bin_nt rfl rfl iI (by first | assumption | omega) | exact Q_bin_nf rfl rfl iI (by first | assumption | omega) | exact Q_addI rfl rfl (by omega) | exact Q_subI rfl rfl (by omega) | exact Q_extract rfl rfl | exact Q_pick_t rfl iI rfl | exact Q_pick_f rfl iI rfl | exact Q_pick rfl rfl rfl | exact Q_un rfl iI | exact Q_loadA rfl iI iI rfl | exact Q_fieldR rfl iI iI rfl (by first | assumption | omega | (simp [be_length] <;> omega)) | exact Q_loadR rfl iI iI iI (by assumption) rfl | exact Q_loadR rfl iI iI iI rfl rfl | exact Q_loadRA rfl iI iI iI (by assumption) | exact Q_lookupOk_s rfl rfl iI iI iI iI iI (by assumption) | exact Q_lookupOk_n rfl rfl iI iI iI iI iI (by assumption) | exact Q_lookup_s rfl rfl iI iI iI iI iI (by assumption) | exact Q_lookup_n rfl rfl iI iI iI iI iI (by assumption) | exact Q_lookupOk rfl rfl iI iI iI iI iI | exact Q_lookup rfl rfl iI iI iI iI iI | exact Q_addS rfl rfl (by first | omega | (simp [be_length] <;> omega)) | exact Q_nilCheck_f rfl | exact Q_quoI rfl rfl (by omega) | exact Q_remI rfl rfl (by omega) | exact Q_negI rfl (by omega) | exact Q_mulI rfl rfl (by omega))
            | ((first | refine LS_binS rfl rfl iI rfl ?_ ?_ | refine LS_binN rfl rfl iI rfl ?_ ?_ | refine DL_binS rfl rfl iI rfl ?_ ?_) <;> intro hc)
            | ((first | refine' LQ ?h rfl ?_ | refine' DL_qp rfl rfl rfl ?h ?_ | refine' DL_q rfl rfl ?h ?_ | refine' DL_qpg rfl rfl rfl rfl ?h ?_ | refine' DL_qg rfl rfl rfl ?h ?_); case h => intro F'; first | exact Q_bin rfl rfl iI)
            | ((first | refine' LS_h ?h rfl ?_ | refine' DL_h ?h rfl rfl rfl ?_); (case h => first | exact H_alloc iI); intro g)
            | ((first | refine' LS_h0 ?h ?_ | refine' DL_h0 ?h rfl rfl ?_); (case h => first | exact H_storeO rfl rfl iI iI iI rfl | exact H_storeAO rfl rfl iI iI iI rfl | exact H_store8 rfl rfl iI iI rfl iI (by first | assumption | omega | (simp [be_length] <;> omega)) | exact H_storeRA _ rfl rfl rfl iI iI iI rfl rfl (by first | assumption | omega | (simp [be_length] <;> omega)) | exact H_storeR _ rfl rfl iI iI iI rfl (by assumption) rfl | exact H_store rfl rfl iI (by first | rfl | assumption) iI rfl | exact H_storeA rfl rfl iI iI (by first | rfl | (simp only [List.all_cons, List.all_nil, *]; rfl)) rfl); intro g)
            | (first | refine WS_block ?_ | refine WS_skip ?_ | refine WS_ret ?_ | refine WS_exit ?_ | refine WS_label ?_)
            | (show WS _ _ _ (.cond _ _ _) _ _; first | refine WS_condT rfl iI ?_ | refine WS_condF rfl iI ?_ | refine WS_condH_t rfl (by assumption) ?_ | refine WS_condH_f rfl (by assumption) ?_ | (refine WS_cond rfl ?_ ?_ <;> intro hc <;> (try simp only [decide_eq_true_eq, decide_eq_false_iff_not, Bool.not_eq_eq_eq_not, Bool.not_true, Bool.not_false, Bool.and_eq_true, Bool.or_eq_true, bne_iff_ne, beq_iff_eq, ne_eq, Decidable.not_not] at hc) <;> (try (exfalso; first | contradiction | omega; done))))
            | refine WS_drawS (by kernel_rfl) ?_
            | (refine LS_h (H_callX iI rfl p1 iI) rfl ?_; intro vl)
            | (refine LS_h (H_callX iI rfl p2 iI) rfl ?_; intro v2))
          exact ret_none (.inr rfl) rfl ⟨(), rfl, by rw [es, star_assoc (nodA _ _)]; exact Ent.nod { h with vd := v2 } (by ((try simp only [star_assoc, emp_star, star_emp]); (repeat' (first | exact Ent.last | refine Ent.take ?_ | refine Ent.nilT ?_ | refine Ent.takeR (by first | rfl | assumption | (simp; done)) ?_ | exact Ent.refl _))))⟩
        · simp only [nodP, nodPm, nodC] at p2 ⊢
          repeat' (first
            | (show WS _ _ _ (.region 2 _ true) _ _; refine WS_drawA [0, 1, 2, 3, 4, 5, 6, 7, 8, 9, 10, 11, 12, 13, 14] (by decide +kernel) rfl ?_)
            | (show WS _ _ _ (.region 4 _ true) _ _; refine WS_drawA [0, 1, 2, 3, 4, 5, 6] (by decide +kernel) rfl ?_)
            | (show WS _ _ _ (.region 5 _ true) _ _; refine WS_drawA [0, 1, 2, 3, 4, 5, 6, 7, 8, 9, 10, 11] (by decide +kernel) rfl ?_)
            | (show WS _ _ _ (.region 6 _ true) _ _; refine WS_drawK [0, 1, 2, 3, 4, 5, 6, 7, 8, 9, 10, 11] 6 [0, 3, 5] (by decide +kernel) rfl ?_)
            | (show WS _ _ _ (.region 1 _ true) _ _; refine WS_drawK [1, 2, 4, 5, 6, 0, 3, 7] 5 [1, 2, 3, 4] (by decide +kernel) rfl ?_)
            | (refine WS_seqK ?_; intro K hK)
            | (refine hK _ ?_; clear hK K)
            | (with_reducible (first | refine thenS_n ?_ | refine thenS_e ?_ | refine blockS_n ?_ | refine blockS_e ?_ | refine blockS_o rfl ?_ | refine thenS_r ?_ | refine blockS_r ?_ | refine use_K (by assumption) ?_))
            | refine WS_region ?_
            | refine LS_nil ?_
            | (first | refine DL_nilA ?_ | refine DL_nilS ?_ | refine DL_nilN ?_ | refine DL_nilE ?_ | refine DL_nilR ?_)
            | refine DL_skip rfl rfl rfl rfl ?_
            | (first | refine DL_claimS rfl ?_ | refine DL_claim rfl rfl ?_)
            | (refine DL_alloc iI rfl ?_; intro g)
            | ((first | refine' LQ ?h rfl ?_ | refine' DL_qp rfl rfl rfl ?h ?_ | refine' DL_q rfl rfl ?h ?_ | refine' DL_qpg rfl rfl rfl rfl ?h ?_ | refine' DL_qg rfl rfl rfl ?h ?_); case h => intro F'; first | exact Q_move rfl | exact Q_assign rfl | exact Q_nilCheck rfl | exact Q_fieldAddr rfl iI rfl | exact Q_load rfl iI iI rfl | exact Q_bin_t rfl rfl iI (by first | assumption | omega) | exact Q_bin_f rfl rfl iI (by first | assumption | omega) | exact Q_bin_nt rfl rfl iI (by first | assumption | omega) | exact Q_bin_nf rfl rfl iI (by first | assumption | omega) | exact Q_addI rfl rfl (by omega) | exact Q_subI rfl rfl (by omega) | exact Q_extract rfl rfl | exact Q_pick_t rfl iI rfl | exact Q_pick_f rfl iI rfl | exact Q_pick rfl rfl rfl | exact Q_un rfl iI | exact Q_loadA rfl iI iI rfl | exact Q_fieldR rfl iI iI rfl (by first | assumption | omega | (simp [be_length] <;> omega)) | exact Q_loadR rfl iI iI iI (by assumption) rfl | exact Q_loadR rfl iI iI iI rfl rfl | exact Q_loadRA rfl iI iI iI (by assumption) | exact Q_lookupOk_s rfl rfl iI iI iI iI iI (by assumption) | exact Q_lookupOk_n rfl rfl iI iI iI iI iI (by assumption) | exact Q_lookup_s rfl rfl iI iI iI iI iI (by assumption) | exact Q_lookup_n rfl rfl iI iI iI iI iI (by assumption) | exact Q_lookupOk rfl rfl iI iI iI iI iI | exact Q_lookup rfl rfl iI iI iI iI iI | exact Q_addS rfl rfl (by first | omega | (simp [be_length] <;> omega)) | exact Q_nilCheck_f rfl | exact Q_quoI rfl rfl (by omega) | exact Q_remI rfl rfl (by omega) | exact Q_negI rfl (by omega) | exact Q_mulI rfl rfl (by omega))
            | ((first | refine LS_binS rfl rfl iI rfl ?_ ?_ | refine LS_binN rfl rfl iI rfl ?_ ?_ | refine DL_binS rfl rfl iI rfl ?_ ?_) <;> intro hc)
            | ((first | refine' LQ ?h rfl ?_ | refine' DL_qp rfl rfl rfl ?h ?_ | refine' DL_q rfl rfl ?h ?_ | refine' DL_qpg rfl rfl rfl rfl ?h ?_ | refine' DL_qg rfl rfl rfl ?h ?_); case h => intro F'; first | exact Q_bin rfl rfl iI)
            | ((first | refine' LS_h ?h rfl ?_ | refine' DL_h ?h rfl rfl rfl ?_); (case h => first | exact H_alloc iI); intro g)
            | ((first | refine' LS_h0 ?h ?_ | refine' DL_h0 ?h rfl rfl ?_); (case h => first | exact H_storeO rfl rfl iI iI iI rfl | exact H_storeAO rfl rfl iI iI iI rfl | exact H_store8 rfl rfl iI iI rfl iI (by first | assumption | omega | (simp [be_length] <;> omega)) | exact H_storeRA _ rfl rfl rfl iI iI iI rfl rfl (by first | assumption | omega | (simp [be_length] <;> omega)) | exact H_storeR _ rfl rfl iI iI iI rfl (by assumption) rfl | exact H_store rfl rfl iI (by first | rfl | assumption) iI rfl | exact H_storeA rfl rfl iI iI (by first | rfl | (simp only [List.all_cons, List.all_nil, *]; rfl)) rfl); intro g)
            | (first | refine WS_block ?_ | refine WS_skip ?_ | refine WS_ret ?_ | refine WS_exit ?_ | refine WS_label ?_)
            | (show WS _ _ _ (.cond _ _ _) _ _; first | refine WS_condT rfl iI ?_ | refine WS_condF rfl iI ?_ | refine WS_condH_t rfl (by assumption) ?_ | refine WS_condH_f rfl (by assumption) ?_ | (refine WS_cond rfl ?_ ?_ <;> intro hc <;> (try simp only [decide_eq_true_eq, decide_eq_false_iff_not, Bool.not_eq_eq_eq_not, Bool.not_true, Bool.not_false, Bool.and_eq_true, Bool.or_eq_true, bne_iff_ne, beq_iff_eq, ne_eq, Decidable.not_not] at hc) <;> (try (exfalso; first | contradiction | omega; done))))
            | (refine LS_h (H_callX iI rfl p1 iI) rfl ?_; intro vl)
            | (refine LS_h (H_callX iI rfl p2 iI) rfl ?_; intro v2))
          exact ret_none (.inr rfl) rfl ⟨(), rfl, by rw [es, star_assoc (nodA _ _)]; exact Ent.nod { h with vd := v2 } (by simp only [nodP, nodPm, nodC]; ((try simp only [star_assoc, emp_star, star_emp]); (repeat' (first | exact Ent.last | refine Ent.take ?_ | refine Ent.nilT ?_ | refine Ent.takeR (by first | rfl | assumption | (simp; done)) ?_ | exact Ent.refl _))))⟩
    · have hs : now < s.silent := by
        rcases hq with hq | hq | hq
        · rw [hp] at hq; cases hq
        · exact absurd hq h0
        · exact hq
      obtain ⟨ttl, kind, hops, unknown, id, dest, destSeq, from2, fromSeq, life, lost, payload⟩ := p
      have h1 : from_ ≠ 0 := fun e => h0 (.inl e)
      have h2 : from_ ≠ s.self := fun e => h0 (.inr e)
      simp only at p1
      by_cases hk : kind = 9
      · subst hk
        by_cases hd3 : dest = s.self
        · have es : s.rcvQ now from_ f = s.drop 8 := by unfold Nd.rcvQ; rw [hp]; simp [h1, h2, hd3]
          clear p2 p4 p5
          simp only [nodP, nodPm, nodC] at p3 ⊢
          simp only [argE]
          repeat' (first
            | (show WS _ _ _ (.region 2 _ true) _ _; refine WS_drawA [0, 1, 2, 3, 4, 5, 6, 7, 8, 9, 10, 11, 12, 13, 14] (by decide +kernel) rfl ?_)
            | (show WS _ _ _ (.region 4 _ true) _ _; refine WS_drawA [0, 1, 2, 3, 4, 5, 6] (by decide +kernel) rfl ?_)
            | (show WS _ _ _ (.region 5 _ true) _ _; refine WS_drawA [0, 1, 2, 3, 4, 5, 6, 7, 8, 9, 10, 11] (by decide +kernel) rfl ?_)
            | (show WS _ _ _ (.region 6 _ true) _ _; refine WS_drawK [0, 1, 2, 3, 4, 5, 6, 7, 8, 9, 10, 11] 6 [0, 3, 5] (by decide +kernel) rfl ?_)
            | (show WS _ _ _ (.region 1 _ true) _ _; refine WS_drawK [1, 2, 4, 5, 6, 0, 3, 7] 5 [1, 2, 3, 4] (by decide +kernel) rfl ?_)
            | (refine WS_seqK ?_; intro K hK)
            | (refine hK _ ?_; clear hK K)
            | (with_reducible (first | refine thenS_n ?_ | refine thenS_e ?_ | refine blockS_n ?_ | refine blockS_e ?_ | refine blockS_o rfl ?_ | refine thenS_r ?_ | refine blockS_r ?_ | refine use_K (by assumption) ?_))
            | refine WS_region ?_
            | refine LS_nil ?_
            | (first | refine DL_nilA ?_ | refine DL_nilS ?_ | refine DL_nilN ?_ | refine DL_nilE ?_ | refine DL_nilR ?_)
            | refine DL_skip rfl rfl rfl rfl ?_
            | (first | refine DL_claimS rfl ?_ | refine DL_claim rfl rfl ?_)
            | (refine DL_alloc iI rfl ?_; intro g)
            | ((first | refine' LQ ?h rfl ?_ | refine' DL_qp rfl rfl rfl ?h ?_ | refine' DL_q rfl rfl ?h ?_ | refine' DL_qpg rfl rfl rfl rfl ?h ?_ | refine' DL_qg rfl rfl rfl ?h ?_); case h => intro F'; first | exact Q_move rfl | exact Q_assign rfl | exact Q_nilCheck rfl | exact Q_fieldAddr rfl iI rfl | exact Q_load rfl iI iI rfl | exact Q_bin_t rfl rfl iI (by first | assumption | omega) | exact Q_bin_f rfl rfl iI (by first | assumption | omega) | exact Q_bin_nt rfl rfl iI (by first | assumption | omega) | exact Q_bin_nf rfl rfl iI (by first | assumption | omega) | exact Q_addI rfl rfl (by omega) | exact Q_subI rfl rfl (by omega) | exact Q_extract rfl rfl | exact Q_pick_t rfl iI rfl | exact Q_pick_f rfl iI rfl | exact Q_pick rfl rfl rfl | exact Q_un rfl iI | exact Q_loadA rfl iI iI rfl | exact Q_fieldR rfl iI iI rfl (by first | assumption | omega | (simp [be_length] <;> omega)) | exact Q_loadR rfl iI iI iI (by assumption) rfl | exact Q_loadR rfl iI iI iI rfl rfl | exact Q_loadRA rfl iI iI iI (by assumption) | exact Q_lookupOk_s rfl rfl iI iI iI iI iI (by assumption) | exact Q_lookupOk_n rfl rfl iI iI iI iI iI (by assumption) | exact Q_lookup_s rfl rfl iI iI iI iI iI (by assumption) | exact Q_lookup_n rfl rfl iI iI iI iI iI (by assumption) | exact Q_lookupOk rfl rfl iI iI iI iI iI | exact Q_lookup rfl rfl iI iI iI iI iI | exact Q_addS rfl rfl (by first | omega | (simp [be_length] <;> omega)) | exact Q_nilCheck_f rfl | exact Q_quoI rfl rfl (by omega) | exact Q_remI rfl rfl (by omega) | exact Q_negI rfl (by omega) | exact Q_mulI rfl rfl (by omega))
            | ((first | refine LS_binS rfl rfl iI rfl ?_ ?_ | refine LS_binN rfl rfl iI rfl ?_ ?_ | refine DL_binS rfl rfl iI rfl ?_ ?_) <;> intro hc)
            | ((first | refine' LQ ?h rfl ?_ | refine' DL_qp rfl rfl rfl ?h ?_ | refine' DL_q rfl rfl ?h ?_ | refine' DL_qpg rfl rfl rfl rfl ?h ?_ | refine' DL_qg rfl rfl rfl ?h ?_); case h => intro F'; first | exact Q_bin rfl rfl iI)
            | ((first | refine' LS_h ?h rfl ?_ | refine' DL_h ?h rfl rfl rfl ?_); (case h => first | exact H_alloc iI); intro g)
            | ((first | refine' LS_h0 ?h ?_ | refine' DL_h0 ?h rfl rfl ?_); (case h => first | exact H_storeO rfl rfl iI iI iI rfl | exact H_storeAO rfl rfl iI iI iI rfl | exact H_store8 rfl rfl iI iI rfl iI (by first | assumption | omega | (simp [be_length] <;> omega)) | exact H_storeRA _ rfl rfl rfl iI iI iI rfl rfl (by first | assumption | omega | (simp [be_length] <;> omega)) | exact H_storeR _ rfl rfl iI iI iI rfl (by assumption) rfl | exact H_store rfl rfl iI (by first | rfl | assumption) iI rfl | exact H_storeA rfl rfl iI iI (by first | rfl | (simp only [List.all_cons, List.all_nil, *]; rfl)) rfl); intro g)
            | (first | refine WS_block ?_ | refine WS_skip ?_ | refine WS_ret ?_ | refine WS_exit ?_ | refine WS_label ?_)
            | (show WS _ _ _ (.cond _ _ _) _ _; first | refine WS_condT rfl iI ?_ | refine WS_condF rfl iI ?_ | refine WS_condH_t rfl (by assumption) ?_ | refine WS_condH_f rfl (by assumption) ?_ | (refine WS_cond rfl ?_ ?_ <;> intro hc <;> (try simp only [decide_eq_true_eq, decide_eq_false_iff_not, Bool.not_eq_eq_eq_not, Bool.not_true, Bool.not_false, Bool.and_eq_true, Bool.or_eq_true, bne_iff_ne, beq_iff_eq, ne_eq, Decidable.not_not] at hc) <;> (try (exfalso; first | contradiction | omega; done))))
            | (refine LS_h (H_callX iI rfl p1 iI) rfl ?_; intro vl)
            | (refine LS_h (H_callX iI rfl p3 iI) rfl ?_; intro v2))
          exact ret_none (.inr rfl) rfl ⟨(), rfl, by rw [es, star_assoc (nodA _ _)]; exact Ent.nod { h with vd := v2 } (by simp only [nodP, nodPm, nodC]; ((try simp only [star_assoc, emp_star, star_emp]); (repeat' (first | exact Ent.last | refine Ent.take ?_ | refine Ent.nilT ?_ | refine Ent.takeR (by first | rfl | assumption | (simp; done)) ?_ | exact Ent.refl _))))⟩
        · obtain ⟨s1, hs1⟩ : ∃ s1 : Nd, s1 = s.tell from_ dest (numT s.ls dest) := ⟨_, rfl⟩
          have es : s.rcvQ now from_ f = Nd.drop { s1 with silent := now + 2000 } 8 := by unfold Nd.rcvQ; rw [hp, hs1]; simp [h1, h2, hd3]
          have er : ∀ h', restP gn { s1 with silent := now + 2000 } h' = restP gn s1 h' := fun _ => rfl
          have p6 := fun vf => ndrop_spec w0 gn { s1 with silent := now + 2000 } { h with vf := vf } 8 (by rw [hs1]; show s.out.dropped.length ≤ _; omega)
          replace p4 := p4 dest
          replace p5 := p5 dest (numT s.ls dest)
          rw [← hs1] at p5
          clear p2 p3
          simp only [nodP, nodPm, nodC, er] at p5 p6 ⊢
          simp only [argE]
          repeat' (first
            | (show WS _ _ _ (.region 2 _ true) _ _; refine WS_drawA [0, 1, 2, 3, 4, 5, 6, 7, 8, 9, 10, 11, 12, 13, 14] (by decide +kernel) rfl ?_)
            | (show WS _ _ _ (.region 4 _ true) _ _; refine WS_drawA [0, 1, 2, 3, 4, 5, 6] (by decide +kernel) rfl ?_)
            | (show WS _ _ _ (.region 5 _ true) _ _; refine WS_drawA [0, 1, 2, 3, 4, 5, 6, 7, 8, 9, 10, 11] (by decide +kernel) rfl ?_)
            | (show WS _ _ _ (.region 6 _ true) _ _; refine WS_drawK [0, 1, 2, 3, 4, 5, 6, 7, 8, 9, 10, 11] 6 [0, 3, 5] (by decide +kernel) rfl ?_)
            | (show WS _ _ _ (.region 1 _ true) _ _; refine WS_drawK [1, 2, 4, 5, 6, 0, 3, 7] 5 [1, 2, 3, 4] (by decide +kernel) rfl ?_)
            | (refine WS_seqK ?_; intro K hK)
            | (refine hK _ ?_; clear hK K)
            | (with_reducible (first | refine thenS_n ?_ | refine thenS_e ?_ | refine blockS_n ?_ | refine blockS_e ?_ | refine blockS_o rfl ?_ | refine thenS_r ?_ | refine blockS_r ?_ | refine use_K (by assumption) ?_))
            | refine WS_region ?_
            | refine LS_nil ?_
            | (first | refine DL_nilA ?_ | refine DL_nilS ?_ | refine DL_nilN ?_ | refine DL_nilE ?_ | refine DL_nilR ?_)
            | refine DL_skip rfl rfl rfl rfl ?_
            | (first | refine DL_claimS rfl ?_ | refine DL_claim rfl rfl ?_)
            | (refine DL_alloc iI rfl ?_; intro g)
            | ((first | refine' LQ ?h rfl ?_ | refine' DL_qp rfl rfl rfl ?h ?_ | refine' DL_q rfl rfl ?h ?_ | refine' DL_qpg rfl rfl rfl rfl ?h ?_ | refine' DL_qg rfl rfl rfl ?h ?_); case h => intro F'; first | exact Q_move rfl | exact Q_assign rfl | exact Q_nilCheck rfl | exact Q_fieldAddr rfl iI rfl | exact Q_load rfl iI iI rfl | exact Q_bin_t rfl rfl iI (by first | assumption | omega) | exact Q_bin_f rfl rfl iI (by first | assumption | omega) | exact Q_bin_nt rfl rfl iI (by first | assumption | omega) | exact Q_bin_nf rfl rfl iI (by first | assumption | omega) | exact Q_addI rfl rfl (by omega) | exact Q_subI rfl rfl (by omega) | exact Q_extract rfl rfl | exact Q_pick_t rfl iI rfl | exact Q_pick_f rfl iI rfl | exact Q_pick rfl rfl rfl | exact Q_un rfl iI | exact Q_loadA rfl iI iI rfl | exact Q_fieldR rfl iI iI rfl (by first | assumption | omega | (simp [be_length] <;> omega)) | exact Q_loadR rfl iI iI iI (by assumption) rfl | exact Q_loadR rfl iI iI iI rfl rfl | exact Q_loadRA rfl iI iI iI (by assumption) | exact Q_lookupOk_s rfl rfl iI iI iI iI iI (by assumption) | exact Q_lookupOk_n rfl rfl iI iI iI iI iI (by assumption) | exact Q_lookup_s rfl rfl iI iI iI iI iI (by assumption) | exact Q_lookup_n rfl rfl iI iI iI iI iI (by assumption) | exact Q_lookupOk rfl rfl iI iI iI iI iI | exact Q_lookup rfl rfl iI iI iI iI iI | exact Q_addS rfl rfl (by first | omega | (simp [be_length] <;> omega)) | exact Q_nilCheck_f rfl | exact Q_quoI rfl rfl (by omega) | exact Q_remI rfl rfl (by omega) | exact Q_negI rfl (by omega) | exact Q_mulI rfl rfl (by omega))
            | ((first | refine LS_binS rfl rfl iI rfl ?_ ?_ | refine LS_binN rfl rfl iI rfl ?_ ?_ | refine DL_binS rfl rfl iI rfl ?_ ?_) <;> intro hc)
            | ((first | refine' LQ ?h rfl ?_ | refine' DL_qp rfl rfl rfl ?h ?_ | refine' DL_q rfl rfl ?h ?_ | refine' DL_qpg rfl rfl rfl rfl ?h ?_ | refine' DL_qg rfl rfl rfl ?h ?_); case h => intro F'; first | exact Q_bin rfl rfl iI)
            | ((first | refine' LS_h ?h rfl ?_ | refine' DL_h ?h rfl rfl rfl ?_); (case h => first | exact H_alloc iI); intro g)
            | ((first | refine' LS_h0 ?h ?_ | refine' DL_h0 ?h rfl rfl ?_); (case h => first | exact H_storeO rfl rfl iI iI iI rfl | exact H_storeAO rfl rfl iI iI iI rfl | exact H_store8 rfl rfl iI iI rfl iI (by first | assumption | omega | (simp [be_length] <;> omega)) | exact H_storeRA _ rfl rfl rfl iI iI iI rfl rfl (by first | assumption | omega | (simp [be_length] <;> omega)) | exact H_storeR _ rfl rfl iI iI iI rfl (by assumption) rfl | exact H_store rfl rfl iI (by first | rfl | assumption) iI rfl | exact H_storeA rfl rfl iI iI (by first | rfl | (simp only [List.all_cons, List.all_nil, *]; rfl)) rfl); intro g)
            | (first | refine WS_block ?_ | refine WS_skip ?_ | refine WS_ret ?_ | refine WS_exit ?_ | refine WS_label ?_)
            | (show WS _ _ _ (.cond _ _ _) _ _; first | refine WS_condT rfl iI ?_ | refine WS_condF rfl iI ?_ | refine WS_condH_t rfl (by assumption) ?_ | refine WS_condH_f rfl (by assumption) ?_ | (refine WS_cond rfl ?_ ?_ <;> intro hc <;> (try simp only [decide_eq_true_eq, decide_eq_false_iff_not, Bool.not_eq_eq_eq_not, Bool.not_true, Bool.not_false, Bool.and_eq_true, Bool.or_eq_true, bne_iff_ne, beq_iff_eq, ne_eq, Decidable.not_not] at hc) <;> (try (exfalso; first | contradiction | omega; done))))
            | (refine LS_h (H_callX iI rfl p1 iI) rfl ?_; intro vl)
            | (refine DL_h (H_callX iI rfl p4 iI) rfl rfl rfl ?_; intro u4)
            | (refine LS_h (H_callX iI rfl p4 iI) rfl ?_; intro u4)
            | (refine LS_h (H_callX iI rfl p5 iI) rfl ?_; intro vf; replace p6 := p6 vf)
            | (refine LS_h (H_callX iI rfl p6 iI) rfl ?_; intro v2))
          exact ret_none (.inr rfl) rfl ⟨(), rfl, by rw [es, star_assoc (nodA _ _)]; exact Ent.nod { h with vf := vf, vd := v2 } (by simp only [nodP, nodPm, nodC]; ((try simp only [star_assoc, emp_star, star_emp]); (repeat' (first | exact Ent.last | refine Ent.take ?_ | refine Ent.nilT ?_ | refine Ent.takeR (by first | rfl | assumption | (simp; done)) ?_ | exact Ent.refl _))))⟩
      · have es : s.rcvQ now from_ f = s.drop 8 := by unfold Nd.rcvQ; rw [hp]; simp [h1, h2, hk]
        clear p2 p4 p5
        simp only [nodP, nodPm, nodC] at p3 ⊢
        simp only [argE]
        repeat' (first
          | (show WS _ _ _ (.region 2 _ true) _ _; refine WS_drawA [0, 1, 2, 3, 4, 5, 6, 7, 8, 9, 10, 11, 12, 13, 14] (by decide +kernel) rfl ?_)
          | (show WS _ _ _ (.region 4 _ true) _ _; refine WS_drawA [0, 1, 2, 3, 4, 5, 6] (by decide +kernel) rfl ?_)
          | (show WS _ _ _ (.region 5 _ true) _ _; refine WS_drawA [0, 1, 2, 3, 4, 5, 6, 7, 8, 9, 10, 11] (by decide +kernel) rfl ?_)
          | (show WS _ _ _ (.region 6 _ true) _ _; refine WS_drawK [0, 1, 2, 3, 4, 5, 6, 7, 8, 9, 10, 11] 6 [0, 3, 5] (by decide +kernel) rfl ?_)
          | (show WS _ _ _ (.region 1 _ true) _ _; refine WS_drawK [1, 2, 4, 5, 6, 0, 3, 7] 5 [1, 2, 3, 4] (by decide +kernel) rfl ?_)
          | (refine WS_seqK ?_; intro K hK)
          | (refine hK _ ?_; clear hK K)
          | (with_reducible (first | refine thenS_n ?_ | refine thenS_e ?_ | refine blockS_n ?_ | refine blockS_e ?_ | refine blockS_o rfl ?_ | refine thenS_r ?_ | refine blockS_r ?_ | refine use_K (by assumption) ?_))
          | refine WS_region ?_
          | refine LS_nil ?_
          | (first | refine DL_nilA ?_ | refine DL_nilS ?_ | refine DL_nilN ?_ | refine DL_nilE ?_ | refine DL_nilR ?_)
          | refine DL_skip rfl rfl rfl rfl ?_
          | (first | refine DL_claimS rfl ?_ | refine DL_claim rfl rfl ?_)
          | (refine DL_alloc iI rfl ?_; intro g)
          | ((first | refine' LQ ?h rfl ?_ | refine' DL_qp rfl rfl rfl ?h ?_ | refine' DL_q rfl rfl ?h ?_ | refine' DL_qpg rfl rfl rfl rfl ?h ?_ | refine' DL_qg rfl rfl rfl ?h ?_); case h => intro F'; first | exact Q_move rfl | exact Q_assign rfl | exact Q_nilCheck rfl | exact Q_fieldAddr rfl iI rfl | exact Q_load rfl iI iI rfl | exact Q_bin_t rfl rfl iI (by first | assumption | omega) | exact Q_bin_f rfl rfl iI (by first | assumption | omega) | exact Q_bin_nt rfl rfl iI (by first | assumption | omega) | exact Q_bin_nf rfl rfl iI (by first | assumption | omega) | exact Q_addI rfl rfl (by omega) | exact Q_subI rfl rfl (by omega) | exact Q_extract rfl rfl | exact Q_pick_t rfl iI rfl | exact Q_pick_f rfl iI rfl | exact Q_pick rfl rfl rfl | exact Q_un rfl iI | exact Q_loadA rfl iI iI rfl | exact Q_fieldR rfl iI iI rfl (by first | assumption | omega | (simp [be_length] <;> omega)) | exact Q_loadR rfl iI iI iI (by assumption) rfl | exact Q_loadR rfl iI iI iI rfl rfl | exact Q_loadRA rfl iI iI iI (by assumption) | exact Q_lookupOk_s rfl rfl iI iI iI iI iI (by assumption) | exact Q_lookupOk_n rfl rfl iI iI iI iI iI (by assumption) | exact Q_lookup_s rfl rfl iI iI iI iI iI (by assumption) | exact Q_lookup_n rfl rfl iI iI iI iI iI (by assumption) | exact Q_lookupOk rfl rfl iI iI iI iI iI | exact Q_lookup rfl rfl iI iI iI iI iI | exact Q_addS rfl rfl (by first | omega | (simp [be_length] <;> omega)) | exact Q_nilCheck_f rfl | exact Q_quoI rfl rfl (by omega) | exact Q_remI rfl rfl (by omega) | exact Q_negI rfl (by omega) | exact Q_mulI rfl rfl (by omega))
          | ((first | refine LS_binS rfl rfl iI rfl ?_ ?_ | refine LS_binN rfl rfl iI rfl ?_ ?_ | refine DL_binS rfl rfl iI rfl ?_ ?_) <;> intro hc)
          | ((first | refine' LQ ?h rfl ?_ | refine' DL_qp rfl rfl rfl ?h ?_ | refine' DL_q rfl rfl ?h ?_ | refine' DL_qpg rfl rfl rfl rfl ?h ?_ | refine' DL_qg rfl rfl rfl ?h ?_); case h => intro F'; first | exact Q_bin rfl rfl iI)
          | ((first | refine' LS_h ?h rfl ?_ | refine' DL_h ?h rfl rfl rfl ?_); (case h => first | exact H_alloc iI); intro g)
          | ((first | refine' LS_h0 ?h ?_ | refine' DL_h0 ?h rfl rfl ?_); (case h => first | exact H_storeO rfl rfl iI iI iI rfl | exact H_storeAO rfl rfl iI iI iI rfl | exact H_store8 rfl rfl iI iI rfl iI (by first | assumption | omega | (simp [be_length] <;> omega)) | exact H_storeRA _ rfl rfl rfl iI iI iI rfl rfl (by first | assumption | omega | (simp [be_length] <;> omega)) | exact H_storeR _ rfl rfl iI iI iI rfl (by assumption) rfl | exact H_store rfl rfl iI (by first | rfl | assumption) iI rfl | exact H_storeA rfl rfl iI iI (by first | rfl | (simp only [List.all_cons, List.all_nil, *]; rfl)) rfl); intro g)
          | (first | refine WS_block ?_ | refine WS_skip ?_ | refine WS_ret ?_ | refine WS_exit ?_ | refine WS_label ?_)
          | (show WS _ _ _ (.cond _ _ _) _ _; first | refine WS_condT rfl iI ?_ | refine WS_condF rfl iI ?_ | refine WS_condH_t rfl (by assumption) ?_ | refine WS_condH_f rfl (by assumption) ?_ | (refine WS_cond rfl ?_ ?_ <;> intro hc <;> (try simp only [decide_eq_true_eq, decide_eq_false_iff_not, Bool.not_eq_eq_eq_not, Bool.not_true, Bool.not_false, Bool.and_eq_true, Bool.or_eq_true, bne_iff_ne, beq_iff_eq, ne_eq, Decidable.not_not] at hc) <;> (try (exfalso; first | contradiction | omega; done))))
          | (refine LS_h (H_callX iI rfl p1 iI) rfl ?_; intro vl)
          | (refine LS_h (H_callX iI rfl p3 iI) rfl ?_; intro v2))
        exact ret_none (.inr rfl) rfl ⟨(), rfl, by rw [es, star_assoc (nodA _ _)]; exact Ent.nod { h with vd := v2 } (by simp only [nodP, nodPm, nodC]; ((try simp only [star_assoc, emp_star, star_emp]); (repeat' (first | exact Ent.last | refine Ent.take ?_ | refine Ent.nilT ?_ | refine Ent.takeR (by first | rfl | assumption | (simp; done)) ?_ | exact Ent.refl _))))⟩
end Go.Proofs.YtapoehkdnglahabGreat

