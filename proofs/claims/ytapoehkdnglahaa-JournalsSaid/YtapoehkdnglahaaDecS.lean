/- What wire.number, meshref.number, must and the reader's functions return, by a walk. -/
import Derived.Test.YtapoehkdnglahaaTy
import Derived.Test.YtapoehkdnglahaaBit
import Derived.Test.YtapoehkdnglahaaRec
import Derived.Test.YtapoehkdnglahaaDecP
namespace Go.Proofs.Ytapoehkdnglahaa
open Go.RowKit
set_option linter.unusedVariables false
set_option linter.unusedSimpArgs false
attribute [local irreducible] WS LS OpQ OpT OpH OpTQ Spec SpecQ SpecX DSpec cel
variable (w0 : World)
set_option maxRecDepth 100000 in
theorem wnumber_spec (l : List UInt8) (h : 4 ≤ l.length) (v : Value) (X : HProp) [hX : Rdr w0 X v UInt8 1 byteC l] : Spec Try.prog w0 90 [v] X (fun _ : Unit => u32 (numAt l 0)) (fun _ => X) := by
  refine Spec.enter Try.func90 rfl Try.ntmps90 rfl fun G => ?_
  simp only [argE]
  have h0 := byteAt_get (l := l) (i := 0) (by omega)
  have h1 := byteAt_get (l := l) (i := 1) (by omega)
  have h2 := byteAt_get (l := l) (i := 2) (by omega)
  have h3 := byteAt_get (l := l) (i := 3) (by omega)
  repeat' (first
    | (show WS _ _ _ (.region 1 _ true) _ _; refine WS_drawA [0, 1, 2, 3, 4, 5, 6, 7, 8, 9, 10, 11, 12, 13, 14, 15, 16, 17, 18, 19, 20, 21, 22] (by kernel_rfl) rfl ?_)
    | (refine WS_seqK ?_; intro K hK)
    | (refine hK _ ?_; clear hK K)
    | with_reducible refine thenS_n ?_
    | with_reducible refine thenS_e ?_
    | with_reducible refine blockS_n ?_
    | with_reducible refine blockS_e ?_
    | with_reducible refine blockS_o rfl ?_
    | with_reducible refine thenS_r ?_
    | with_reducible refine blockS_r ?_
    | with_reducible refine use_K (by assumption) ?_
    | refine WS_region ?_
    | refine LS_nil ?_
    | (show LS _ _ _ _ _ (⟨some _, .assign _, _, _, _, none⟩ :: _) _; first | refine LS_q (Q_assign rfl) rfl ?_)
    | refine WS_block ?_
    | refine WS_skip ?_
    | refine WS_ret ?_
    | refine WS_exit ?_
    | refine WS_label ?_
    | (show WS _ _ _ (.cond _ _ _) _ _; first | refine WS_condT rfl inferInstance ?_ | refine WS_condF rfl inferInstance ?_ | refine WS_condH_t rfl (by assumption) ?_ | refine WS_condH_f rfl (by assumption) ?_ | (refine WS_cond rfl ?_ ?_ <;> intro hc <;> (try simp only [decide_eq_true_eq, decide_eq_false_iff_not, Bool.not_eq_eq_eq_not, Bool.not_true, Bool.not_false, Bool.and_eq_true, Bool.or_eq_true, bne_iff_ne, beq_iff_eq, ne_eq, Decidable.not_not] at hc) <;> (try (exfalso; first | contradiction | omega; done))))
    | refine DL_nilA ?_
    | refine DL_nilS ?_
    | refine DL_nilN ?_
    | refine DL_nilE ?_
    | refine DL_claimS rfl ?_
    | refine DL_claim rfl rfl ?_
    | (show DL _ _ _ _ _ _ _ _ _ _ _ _ (⟨some _, .move _, _, _, _, none⟩ :: _) _ _; first | refine DL_qp rfl rfl rfl (fun F' => Q_move rfl) ?_ | refine DL_q rfl rfl (fun F' => Q_move rfl) ?_)
    | (show DL _ _ _ _ _ _ _ _ _ _ _ _ (⟨some _, .load _ _, _, _, _, none⟩ :: _) _ _; first | refine DL_qp rfl rfl rfl (fun F' => Q_load rfl inferInstance inferInstance rfl) ?_ | refine DL_q rfl rfl (fun F' => Q_load rfl inferInstance inferInstance rfl) ?_ | refine DL_qp rfl rfl rfl (fun F' => Q_loadA rfl inferInstance inferInstance rfl) ?_ | refine DL_q rfl rfl (fun F' => Q_loadA rfl inferInstance inferInstance rfl) ?_ | refine DL_qp rfl rfl rfl (fun F' => Q_loadR rfl inferInstance inferInstance inferInstance (by assumption) rfl) ?_ | refine DL_q rfl rfl (fun F' => Q_loadR rfl inferInstance inferInstance inferInstance (by assumption) rfl) ?_ | refine DL_qp rfl rfl rfl (fun F' => Q_loadR rfl inferInstance inferInstance inferInstance rfl rfl) ?_ | refine DL_q rfl rfl (fun F' => Q_loadR rfl inferInstance inferInstance inferInstance rfl rfl) ?_ | refine DL_qp rfl rfl rfl (fun F' => Q_loadRA rfl inferInstance inferInstance inferInstance (by assumption)) ?_ | refine DL_q rfl rfl (fun F' => Q_loadRA rfl inferInstance inferInstance inferInstance (by assumption)) ?_)
    | (show DL _ _ _ _ _ _ _ _ _ _ _ _ (⟨some _, .binOp _ _ _ _ _, _, _, _, none⟩ :: _) _ _; first | refine DL_qp rfl rfl rfl (fun F' => Q_bin_t rfl rfl inferInstance (by first | assumption | omega | decide)) ?_ | refine DL_q rfl rfl (fun F' => Q_bin_t rfl rfl inferInstance (by first | assumption | omega | decide)) ?_ | refine DL_qp rfl rfl rfl (fun F' => Q_bin_f rfl rfl inferInstance (by first | assumption | omega | decide)) ?_ | refine DL_q rfl rfl (fun F' => Q_bin_f rfl rfl inferInstance (by first | assumption | omega | decide)) ?_ | refine DL_qp rfl rfl rfl (fun F' => Q_bin_nt rfl rfl inferInstance (by first | assumption | omega | decide)) ?_ | refine DL_q rfl rfl (fun F' => Q_bin_nt rfl rfl inferInstance (by first | assumption | omega | decide)) ?_ | refine DL_qp rfl rfl rfl (fun F' => Q_bin_nf rfl rfl inferInstance (by first | assumption | omega | decide)) ?_ | refine DL_q rfl rfl (fun F' => Q_bin_nf rfl rfl inferInstance (by first | assumption | omega | decide)) ?_ | (refine DL_binS rfl rfl inferInstance rfl ?_ ?_ <;> intro hc) | refine DL_qp rfl rfl rfl (fun F' => Q_bin rfl rfl inferInstance) ?_ | refine DL_q rfl rfl (fun F' => Q_bin rfl rfl inferInstance) ?_ | refine DL_qp rfl rfl rfl (fun F' => Q_addI rfl rfl (by omega)) ?_ | refine DL_q rfl rfl (fun F' => Q_addI rfl rfl (by omega)) ?_ | refine DL_qp rfl rfl rfl (fun F' => Q_subI rfl rfl (by omega)) ?_ | refine DL_q rfl rfl (fun F' => Q_subI rfl rfl (by omega)) ?_ | refine DL_qp rfl rfl rfl (fun F' => Q_addS rfl rfl (by (try simp only [List.length_append, List.length_cons, List.length_nil, be_length, List.length_set]); omega)) ?_ | refine DL_q rfl rfl (fun F' => Q_addS rfl rfl (by (try simp only [List.length_append, List.length_cons, List.length_nil, be_length, List.length_set]); omega)) ?_ | refine DL_qp rfl rfl rfl (fun F' => Q_quoI rfl rfl (by omega)) ?_ | refine DL_q rfl rfl (fun F' => Q_quoI rfl rfl (by omega)) ?_ | refine DL_qp rfl rfl rfl (fun F' => Q_remI rfl rfl (by omega)) ?_ | refine DL_q rfl rfl (fun F' => Q_remI rfl rfl (by omega)) ?_ | refine DL_qp rfl rfl rfl (fun F' => Q_mulI rfl rfl (by omega)) ?_ | refine DL_q rfl rfl (fun F' => Q_mulI rfl rfl (by omega)) ?_)
    | (show DL _ _ _ _ _ _ _ _ _ _ _ _ (⟨some _, .assign _, _, _, _, none⟩ :: _) _ _; first | refine DL_qp rfl rfl rfl (fun F' => Q_assign rfl) ?_ | refine DL_q rfl rfl (fun F' => Q_assign rfl) ?_)
    | (show DL _ _ _ _ _ _ _ _ _ _ _ _ (⟨some _, .convert _ _ _, _, _, _, none⟩ :: _) _ _; first | refine DL_qp rfl rfl rfl (fun F' => Q_conv32_8 rfl inferInstance inferInstance inferInstance) ?_ | refine DL_q rfl rfl (fun F' => Q_conv32_8 rfl inferInstance inferInstance inferInstance) ?_ | refine DL_qp rfl rfl rfl (fun F' => Q_conv64 rfl inferInstance inferInstance inferInstance) ?_ | refine DL_q rfl rfl (fun F' => Q_conv64 rfl inferInstance inferInstance inferInstance) ?_ | refine DL_qp rfl rfl rfl (fun F' => Q_conv32 rfl inferInstance inferInstance inferInstance) ?_ | refine DL_q rfl rfl (fun F' => Q_conv32 rfl inferInstance inferInstance inferInstance) ?_ | refine DL_qp rfl rfl rfl (fun F' => Q_convS rfl inferInstance rfl inferInstance inferInstance inferInstance) ?_ | refine DL_q rfl rfl (fun F' => Q_convS rfl inferInstance rfl inferInstance inferInstance inferInstance) ?_ | refine DL_qp rfl rfl rfl (fun F' => Q_convSame rfl inferInstance inferInstance (by omega)) ?_ | refine DL_q rfl rfl (fun F' => Q_convSame rfl inferInstance inferInstance (by omega)) ?_ | refine DL_qp rfl rfl rfl (fun F' => Q_convI8 rfl inferInstance inferInstance) ?_ | refine DL_q rfl rfl (fun F' => Q_convI8 rfl inferInstance inferInstance) ?_ | refine DL_qp rfl rfl rfl (fun F' => Q_conv328 rfl inferInstance inferInstance) ?_ | refine DL_q rfl rfl (fun F' => Q_conv328 rfl inferInstance inferInstance) ?_ | refine DL_qp rfl rfl rfl (fun F' => Q_conv8 rfl inferInstance inferInstance) ?_ | refine DL_q rfl rfl (fun F' => Q_conv8 rfl inferInstance inferInstance) ?_ | refine DL_qp rfl rfl rfl (fun F' => Q_bytesS rfl inferInstance inferInstance rfl inferInstance inferInstance inferInstance) ?_ | refine DL_q rfl rfl (fun F' => Q_bytesS rfl inferInstance inferInstance rfl inferInstance inferInstance inferInstance) ?_)
    | (show DL _ _ _ _ _ _ _ _ _ _ _ _ (⟨some _, .indexAddr _ _ _, _, _, _, none⟩ :: _) _ _; first | refine DL_qp rfl rfl rfl (fun F' => Q_index rfl rfl inferInstance inferInstance inferInstance inferInstance (by first | assumption | omega | ((try simp only [List.length_append, List.length_cons, List.length_nil, be_length, List.length_set]); omega))) ?_ | refine DL_q rfl rfl (fun F' => Q_index rfl rfl inferInstance inferInstance inferInstance inferInstance (by first | assumption | omega | ((try simp only [List.length_append, List.length_cons, List.length_nil, be_length, List.length_set]); omega))) ?_ | refine DL_qp rfl rfl rfl (fun F' => Q_indexV rfl rfl inferInstance inferInstance inferInstance (by first | assumption | omega)) ?_ | refine DL_q rfl rfl (fun F' => Q_indexV rfl rfl inferInstance inferInstance inferInstance (by first | assumption | omega)) ?_))
  exact ret_tmp (.inl rfl) rfl rfl ⟨(), by rw [numAt, ← num_or], by ((try simp only [star_assoc, emp_star, star_emp]); (repeat' (first | exact Ent.last | refine Ent.take ?_ | refine Ent.nilT ?_ | refine Ent.takeR (by first | rfl | assumption | (simp; done)) ?_ | exact Ent.refl _)))⟩
set_option maxRecDepth 100000 in
theorem rnumber_spec (l : List UInt8) (h : 4 ≤ l.length) : Spec Try.prog w0 58 [strV l] emp (fun _ : Unit => u32 (numAt l 0)) (fun _ => emp) := by
  refine Spec.enter Try.func58 rfl Try.ntmps58 rfl fun G => ?_
  simp only [argE]
  have h0 := byteAt_get (l := l) (i := 0) (by omega)
  have h1 := byteAt_get (l := l) (i := 1) (by omega)
  have h2 := byteAt_get (l := l) (i := 2) (by omega)
  have h3 := byteAt_get (l := l) (i := 3) (by omega)
  repeat' (first
    | (show WS _ _ _ (.region 1 _ true) _ _; refine WS_drawA [0, 1, 2, 3, 4, 5, 6, 7, 8, 9, 10, 11, 12, 13, 14, 15, 16, 17, 18] (by kernel_rfl) rfl ?_)
    | (refine WS_seqK ?_; intro K hK)
    | (refine hK _ ?_; clear hK K)
    | with_reducible refine thenS_n ?_
    | with_reducible refine thenS_e ?_
    | with_reducible refine blockS_n ?_
    | with_reducible refine blockS_e ?_
    | with_reducible refine blockS_o rfl ?_
    | with_reducible refine thenS_r ?_
    | with_reducible refine blockS_r ?_
    | with_reducible refine use_K (by assumption) ?_
    | refine WS_region ?_
    | refine LS_nil ?_
    | (show LS _ _ _ _ _ (⟨some _, .assign _, _, _, _, none⟩ :: _) _; first | refine LS_q (Q_assign rfl) rfl ?_)
    | refine WS_block ?_
    | refine WS_skip ?_
    | refine WS_ret ?_
    | refine WS_exit ?_
    | refine WS_label ?_
    | (show WS _ _ _ (.cond _ _ _) _ _; first | refine WS_condT rfl inferInstance ?_ | refine WS_condF rfl inferInstance ?_ | refine WS_condH_t rfl (by assumption) ?_ | refine WS_condH_f rfl (by assumption) ?_ | (refine WS_cond rfl ?_ ?_ <;> intro hc <;> (try simp only [decide_eq_true_eq, decide_eq_false_iff_not, Bool.not_eq_eq_eq_not, Bool.not_true, Bool.not_false, Bool.and_eq_true, Bool.or_eq_true, bne_iff_ne, beq_iff_eq, ne_eq, Decidable.not_not] at hc) <;> (try (exfalso; first | contradiction | omega; done))))
    | refine DL_nilA ?_
    | refine DL_nilS ?_
    | refine DL_nilN ?_
    | refine DL_nilE ?_
    | refine DL_claimS rfl ?_
    | refine DL_claim rfl rfl ?_
    | (show DL _ _ _ _ _ _ _ _ _ _ _ _ (⟨some _, .move _, _, _, _, none⟩ :: _) _ _; first | refine DL_qp rfl rfl rfl (fun F' => Q_move rfl) ?_ | refine DL_q rfl rfl (fun F' => Q_move rfl) ?_)
    | (show DL _ _ _ _ _ _ _ _ _ _ _ _ (⟨some _, .binOp _ _ _ _ _, _, _, _, none⟩ :: _) _ _; first | refine DL_qp rfl rfl rfl (fun F' => Q_bin_t rfl rfl inferInstance (by first | assumption | omega | decide)) ?_ | refine DL_q rfl rfl (fun F' => Q_bin_t rfl rfl inferInstance (by first | assumption | omega | decide)) ?_ | refine DL_qp rfl rfl rfl (fun F' => Q_bin_f rfl rfl inferInstance (by first | assumption | omega | decide)) ?_ | refine DL_q rfl rfl (fun F' => Q_bin_f rfl rfl inferInstance (by first | assumption | omega | decide)) ?_ | refine DL_qp rfl rfl rfl (fun F' => Q_bin_nt rfl rfl inferInstance (by first | assumption | omega | decide)) ?_ | refine DL_q rfl rfl (fun F' => Q_bin_nt rfl rfl inferInstance (by first | assumption | omega | decide)) ?_ | refine DL_qp rfl rfl rfl (fun F' => Q_bin_nf rfl rfl inferInstance (by first | assumption | omega | decide)) ?_ | refine DL_q rfl rfl (fun F' => Q_bin_nf rfl rfl inferInstance (by first | assumption | omega | decide)) ?_ | (refine DL_binS rfl rfl inferInstance rfl ?_ ?_ <;> intro hc) | refine DL_qp rfl rfl rfl (fun F' => Q_bin rfl rfl inferInstance) ?_ | refine DL_q rfl rfl (fun F' => Q_bin rfl rfl inferInstance) ?_ | refine DL_qp rfl rfl rfl (fun F' => Q_addI rfl rfl (by omega)) ?_ | refine DL_q rfl rfl (fun F' => Q_addI rfl rfl (by omega)) ?_ | refine DL_qp rfl rfl rfl (fun F' => Q_subI rfl rfl (by omega)) ?_ | refine DL_q rfl rfl (fun F' => Q_subI rfl rfl (by omega)) ?_ | refine DL_qp rfl rfl rfl (fun F' => Q_addS rfl rfl (by (try simp only [List.length_append, List.length_cons, List.length_nil, be_length, List.length_set]); omega)) ?_ | refine DL_q rfl rfl (fun F' => Q_addS rfl rfl (by (try simp only [List.length_append, List.length_cons, List.length_nil, be_length, List.length_set]); omega)) ?_ | refine DL_qp rfl rfl rfl (fun F' => Q_quoI rfl rfl (by omega)) ?_ | refine DL_q rfl rfl (fun F' => Q_quoI rfl rfl (by omega)) ?_ | refine DL_qp rfl rfl rfl (fun F' => Q_remI rfl rfl (by omega)) ?_ | refine DL_q rfl rfl (fun F' => Q_remI rfl rfl (by omega)) ?_ | refine DL_qp rfl rfl rfl (fun F' => Q_mulI rfl rfl (by omega)) ?_ | refine DL_q rfl rfl (fun F' => Q_mulI rfl rfl (by omega)) ?_)
    | (show DL _ _ _ _ _ _ _ _ _ _ _ _ (⟨some _, .assign _, _, _, _, none⟩ :: _) _ _; first | refine DL_qp rfl rfl rfl (fun F' => Q_assign rfl) ?_ | refine DL_q rfl rfl (fun F' => Q_assign rfl) ?_)
    | (show DL _ _ _ _ _ _ _ _ _ _ _ _ (⟨some _, .index _ _ _, _, _, _, none⟩ :: _) _ _; first | refine DL_qp rfl rfl rfl (fun F' => Q_indexS rfl rfl inferInstance inferInstance (by assumption)) ?_ | refine DL_q rfl rfl (fun F' => Q_indexS rfl rfl inferInstance inferInstance (by assumption)) ?_ | refine DL_qp rfl rfl rfl (fun F' => Q_indexA rfl rfl inferInstance inferInstance inferInstance (by omega) rfl) ?_ | refine DL_q rfl rfl (fun F' => Q_indexA rfl rfl inferInstance inferInstance inferInstance (by omega) rfl) ?_)
    | (show DL _ _ _ _ _ _ _ _ _ _ _ _ (⟨some _, .convert _ _ _, _, _, _, none⟩ :: _) _ _; first | refine DL_qp rfl rfl rfl (fun F' => Q_conv32_8 rfl inferInstance inferInstance inferInstance) ?_ | refine DL_q rfl rfl (fun F' => Q_conv32_8 rfl inferInstance inferInstance inferInstance) ?_ | refine DL_qp rfl rfl rfl (fun F' => Q_conv64 rfl inferInstance inferInstance inferInstance) ?_ | refine DL_q rfl rfl (fun F' => Q_conv64 rfl inferInstance inferInstance inferInstance) ?_ | refine DL_qp rfl rfl rfl (fun F' => Q_conv32 rfl inferInstance inferInstance inferInstance) ?_ | refine DL_q rfl rfl (fun F' => Q_conv32 rfl inferInstance inferInstance inferInstance) ?_ | refine DL_qp rfl rfl rfl (fun F' => Q_convS rfl inferInstance rfl inferInstance inferInstance inferInstance) ?_ | refine DL_q rfl rfl (fun F' => Q_convS rfl inferInstance rfl inferInstance inferInstance inferInstance) ?_ | refine DL_qp rfl rfl rfl (fun F' => Q_convSame rfl inferInstance inferInstance (by omega)) ?_ | refine DL_q rfl rfl (fun F' => Q_convSame rfl inferInstance inferInstance (by omega)) ?_ | refine DL_qp rfl rfl rfl (fun F' => Q_convI8 rfl inferInstance inferInstance) ?_ | refine DL_q rfl rfl (fun F' => Q_convI8 rfl inferInstance inferInstance) ?_ | refine DL_qp rfl rfl rfl (fun F' => Q_conv328 rfl inferInstance inferInstance) ?_ | refine DL_q rfl rfl (fun F' => Q_conv328 rfl inferInstance inferInstance) ?_ | refine DL_qp rfl rfl rfl (fun F' => Q_conv8 rfl inferInstance inferInstance) ?_ | refine DL_q rfl rfl (fun F' => Q_conv8 rfl inferInstance inferInstance) ?_ | refine DL_qp rfl rfl rfl (fun F' => Q_bytesS rfl inferInstance inferInstance rfl inferInstance inferInstance inferInstance) ?_ | refine DL_q rfl rfl (fun F' => Q_bytesS rfl inferInstance inferInstance rfl inferInstance inferInstance inferInstance) ?_))
  exact ret_tmp (.inl rfl) rfl rfl ⟨(), by rw [numAt, ← num_or], by ((try simp only [star_assoc, emp_star, star_emp]); (repeat' (first | exact Ent.last | refine Ent.take ?_ | refine Ent.nilT ?_ | refine Ent.takeR (by first | rfl | assumption | (simp; done)) ?_ | exact Ent.refl _)))⟩
/-- What is thrown. -/
def brk : List PanicEntry := [{ v := .iface 177 (.agg #[]), recovered := false }]
theorem must_t : Spec Try.prog w0 94 [.bool true] emp (fun _ : Unit => .tuple #[]) (fun _ => emp) := by
  refine Spec.enter Try.func94 rfl Try.ntmps94 rfl fun G => ?_
  simp only [argE]
  repeat' (first
    | (refine WS_seqK ?_; intro K hK)
    | (refine hK _ ?_; clear hK K)
    | with_reducible refine thenS_n ?_
    | with_reducible refine thenS_e ?_
    | with_reducible refine blockS_n ?_
    | with_reducible refine blockS_e ?_
    | with_reducible refine blockS_o rfl ?_
    | with_reducible refine thenS_r ?_
    | with_reducible refine blockS_r ?_
    | with_reducible refine use_K (by assumption) ?_
    | refine WS_region ?_
    | refine LS_nil ?_
    | (show LS _ _ _ _ _ (⟨some _, .move _, _, _, _, none⟩ :: _) _; first | refine LS_q (Q_move rfl) rfl ?_)
    | (show LS _ _ _ _ _ (⟨some _, .unOp _ _ _, _, _, _, none⟩ :: _) _; first | refine LS_q (Q_un rfl inferInstance) rfl ?_ | refine LS_q (Q_negI rfl (by omega)) rfl ?_)
    | (show LS _ _ _ _ _ (⟨some _, .build _ _, _, _, _, none⟩ :: _) _; first | refine LS_q (Q_build inferInstance inferInstance rfl rfl) rfl ?_ | refine LS_q (Q_buildA inferInstance inferInstance inferInstance rfl rfl) rfl ?_)
    | refine WS_block ?_
    | refine WS_skip ?_
    | refine WS_ret ?_
    | refine WS_exit ?_
    | refine WS_label ?_
    | (show WS _ _ _ (.cond _ _ _) _ _; first | refine WS_condT rfl inferInstance ?_ | refine WS_condF rfl inferInstance ?_ | refine WS_condH_t rfl (by assumption) ?_ | refine WS_condH_f rfl (by assumption) ?_ | (refine WS_cond rfl ?_ ?_ <;> intro hc <;> (try simp only [decide_eq_true_eq, decide_eq_false_iff_not, Bool.not_eq_eq_eq_not, Bool.not_true, Bool.not_false, Bool.and_eq_true, Bool.or_eq_true, bne_iff_ne, beq_iff_eq, ne_eq, Decidable.not_not] at hc) <;> (try (exfalso; first | contradiction | omega; done)))))
  exact ret_none (.inr rfl) rfl ⟨(), rfl, by ((try simp only [star_assoc, emp_star, star_emp]); (repeat' (first | exact Ent.last | refine Ent.take ?_ | refine Ent.nilT ?_ | refine Ent.takeR (by first | rfl | assumption | (simp; done)) ?_ | exact Ent.refl _)))⟩
theorem must_f : SpecX Try.prog w0 94 [.bool false] emp brk emp := by
  refine SpecX.enter Try.func94 rfl Try.ntmps94 rfl fun G => ?_
  simp only [argE]
  repeat' (first
    | (refine WS_seqK ?_; intro K hK)
    | (refine hK _ ?_; clear hK K)
    | with_reducible refine thenS_n ?_
    | with_reducible refine thenS_e ?_
    | with_reducible refine blockS_n ?_
    | with_reducible refine blockS_e ?_
    | with_reducible refine blockS_o rfl ?_
    | with_reducible refine thenS_r ?_
    | with_reducible refine blockS_r ?_
    | with_reducible refine use_K (by assumption) ?_
    | refine WS_region ?_
    | refine LS_nil ?_
    | (show LS _ _ _ _ _ (⟨some _, .move _, _, _, _, none⟩ :: _) _; first | refine LS_q (Q_move rfl) rfl ?_)
    | (show LS _ _ _ _ _ (⟨some _, .unOp _ _ _, _, _, _, none⟩ :: _) _; first | refine LS_q (Q_un rfl inferInstance) rfl ?_ | refine LS_q (Q_negI rfl (by omega)) rfl ?_)
    | (show LS _ _ _ _ _ (⟨some _, .build _ _, _, _, _, none⟩ :: _) _; first | refine LS_q (Q_build inferInstance inferInstance rfl rfl) rfl ?_ | refine LS_q (Q_buildA inferInstance inferInstance inferInstance rfl rfl) rfl ?_)
    | refine WS_block ?_
    | refine WS_skip ?_
    | refine WS_ret ?_
    | refine WS_exit ?_
    | refine WS_label ?_
    | (show WS _ _ _ (.cond _ _ _) _ _; first | refine WS_condT rfl inferInstance ?_ | refine WS_condF rfl inferInstance ?_ | refine WS_condH_t rfl (by assumption) ?_ | refine WS_condH_f rfl (by assumption) ?_ | (refine WS_cond rfl ?_ ?_ <;> intro hc <;> (try simp only [decide_eq_true_eq, decide_eq_false_iff_not, Bool.not_eq_eq_eq_not, Bool.not_true, Bool.not_false, Bool.and_eq_true, Bool.or_eq_true, bne_iff_ne, beq_iff_eq, ne_eq, Decidable.not_not] at hc) <;> (try (exfalso; first | contradiction | omega; done))))
    | refine LS_q (Q_makeInterface rfl (by kernel_rfl)) rfl ?_
    | refine LS_panic rfl ?_
    | refine thenS_p ?_
    | refine blockS_p ?_)
  exact ⟨rfl, rfl, by ((try simp only [star_assoc, emp_star, star_emp]); (repeat' (first | exact Ent.last | refine Ent.take ?_ | refine Ent.nilT ?_ | refine Ent.takeR (by first | rfl | assumption | (simp; done)) ?_ | exact Ent.refl _)))⟩
section reader
variable (l : List UInt8) (v : Value) (g : Nat) (X : HProp) [hX : Rdr w0 X v UInt8 1 byteC l]
set_option maxRecDepth 100000 in
include hX in
theorem take_t (k : Nat) (x : Int) (hx : x = (k : Int)) (hk : k ≤ l.length) : Spec Try.prog w0 96 [ptr g 0, .int .i64 x] (cel g 139 [v] * X) (fun _ : Unit => sHead v k) (fun _ => cel g 139 [sTail 1 v k] * X) := by
  subst hx
  refine Spec.enter Try.func96 rfl Try.ntmps96 rfl fun G => ?_
  simp only [argE]
  repeat' (first
    | (refine WS_seqK ?_; intro K hK)
    | (refine hK _ ?_; clear hK K)
    | with_reducible refine thenS_n ?_
    | with_reducible refine thenS_e ?_
    | with_reducible refine blockS_n ?_
    | with_reducible refine blockS_e ?_
    | with_reducible refine blockS_o rfl ?_
    | with_reducible refine thenS_r ?_
    | with_reducible refine blockS_r ?_
    | with_reducible refine use_K (by assumption) ?_
    | refine WS_region ?_
    | refine LS_nil ?_
    | (show LS _ _ _ _ _ (⟨some _, .move _, _, _, _, none⟩ :: _) _; first | refine LS_q (Q_move rfl) rfl ?_)
    | (show LS _ _ _ _ _ (⟨some _, .fieldAddr _ _ _, _, _, _, none⟩ :: _) _; first | refine LS_q (Q_fieldAddr rfl inferInstance rfl) rfl ?_ | refine LS_q (Q_fieldR rfl inferInstance inferInstance rfl (by first | assumption | omega | ((try simp only [List.length_append, List.length_cons, List.length_nil, be_length, List.length_set]); omega))) rfl ?_)
    | (show LS _ _ _ _ _ (⟨some _, .load _ _, _, _, _, none⟩ :: _) _; first | refine LS_q (Q_load rfl inferInstance inferInstance rfl) rfl ?_ | refine LS_q (Q_loadA rfl inferInstance inferInstance rfl) rfl ?_ | refine LS_q (Q_loadR rfl inferInstance inferInstance inferInstance (by assumption) rfl) rfl ?_ | refine LS_q (Q_loadR rfl inferInstance inferInstance inferInstance rfl rfl) rfl ?_ | refine LS_q (Q_loadRA rfl inferInstance inferInstance inferInstance (by assumption)) rfl ?_)
    | (show LS _ _ _ _ _ (⟨some _, .binOp _ _ _ _ _, _, _, _, none⟩ :: _) _; first | refine LS_q (Q_bin_t rfl rfl inferInstance (by first | assumption | omega | decide)) rfl ?_ | refine LS_q (Q_bin_f rfl rfl inferInstance (by first | assumption | omega | decide)) rfl ?_ | refine LS_q (Q_bin_nt rfl rfl inferInstance (by first | assumption | omega | decide)) rfl ?_ | refine LS_q (Q_bin_nf rfl rfl inferInstance (by first | assumption | omega | decide)) rfl ?_ | (refine LS_binS rfl rfl inferInstance rfl ?_ ?_ <;> intro hc) | (refine LS_binN rfl rfl inferInstance rfl ?_ ?_ <;> intro hc) | refine LS_q (Q_bin rfl rfl inferInstance) rfl ?_ | refine LS_q (Q_addI rfl rfl (by omega)) rfl ?_ | refine LS_q (Q_subI rfl rfl (by omega)) rfl ?_ | refine LS_q (Q_addS rfl rfl (by (try simp only [List.length_append, List.length_cons, List.length_nil, be_length, List.length_set]); omega)) rfl ?_ | refine LS_q (Q_quoI rfl rfl (by omega)) rfl ?_ | refine LS_q (Q_remI rfl rfl (by omega)) rfl ?_ | refine LS_q (Q_mulI rfl rfl (by omega)) rfl ?_)
    | (show LS _ _ _ _ _ (⟨some _, .assign _, _, _, _, none⟩ :: _) _; first | refine LS_q (Q_assign rfl) rfl ?_)
    | (show LS _ _ _ _ _ (⟨some _, .call ⟨.builtin .len, _, _⟩, _, _, _, none⟩ :: _) _; first | refine LS_q (Q_len rfl inferInstance) rfl ?_ | refine LS_q (Q_lenS rfl inferInstance) rfl ?_ | refine LS_q (Q_lenR rfl inferInstance inferInstance) rfl ?_ | refine LS_q (Q_lenM rfl inferInstance inferInstance) rfl ?_)
    | (show LS _ _ _ _ _ (⟨some _, .nilCheck _, _, _, _, none⟩ :: _) _; first | refine LS_q (Q_nilCheck rfl) rfl ?_ | refine LS_q (Q_nilCheck_f rfl) rfl ?_)
    | (show LS _ _ _ _ _ (⟨some _, .slice _ _ _ _ _, _, _, _, none⟩ :: _) _; first | refine LS_q (Q_sliceS_h rfl rfl inferInstance inferInstance (by first | assumption | omega)) rfl ?_ | refine LS_q (Q_sliceS_l rfl rfl inferInstance inferInstance (by first | assumption | omega)) rfl ?_ | refine LS_q (Q_sliceR_h rfl rfl inferInstance inferInstance inferInstance inferInstance (by first | assumption | omega | ((try simp only [List.length_append, List.length_cons, List.length_nil, be_length, List.length_set, List.length_take, List.length_drop]); omega))) rfl ?_ | refine LS_q (Q_sliceR_l rfl rfl inferInstance inferInstance inferInstance inferInstance (by first | assumption | omega | ((try simp only [List.length_append, List.length_cons, List.length_nil, be_length, List.length_set, List.length_take, List.length_drop]); omega))) rfl ?_)
    | (show LS _ _ _ _ _ (⟨none, _, _, _, _, none⟩ :: _) _; first | (refine LS_h0 (H_storeO rfl rfl inferInstance inferInstance inferInstance rfl) ?_; intro g) | (refine LS_h0 (H_storeAO rfl rfl inferInstance inferInstance inferInstance rfl) ?_; intro g) | (refine LS_h0 (H_store8 rfl rfl inferInstance inferInstance rfl inferInstance (by first | assumption | omega | ((try simp only [List.length_append, List.length_cons, List.length_nil, be_length, List.length_set]); omega))) ?_; intro g) | (refine LS_h0 (H_storeRA _ rfl rfl rfl inferInstance inferInstance inferInstance rfl rfl (by first | assumption | omega | ((try simp only [List.length_append, List.length_cons, List.length_nil, be_length, List.length_set]); omega))) ?_; intro g) | (refine LS_h0 (H_storeR _ rfl rfl inferInstance inferInstance inferInstance rfl (by assumption) rfl) ?_; intro g) | (refine LS_h0 (H_store rfl rfl inferInstance (by first | rfl | assumption) inferInstance rfl) ?_; intro g) | (refine LS_h0 (H_storeA rfl rfl inferInstance inferInstance (by first | rfl | (simp only [List.all_cons, List.all_nil, *]; rfl)) rfl) ?_; intro g))
    | refine WS_block ?_
    | refine WS_skip ?_
    | refine WS_ret ?_
    | refine WS_exit ?_
    | refine WS_label ?_
    | (show WS _ _ _ (.cond _ _ _) _ _; first | refine WS_condT rfl inferInstance ?_ | refine WS_condF rfl inferInstance ?_ | refine WS_condH_t rfl (by assumption) ?_ | refine WS_condH_f rfl (by assumption) ?_ | (refine WS_cond rfl ?_ ?_ <;> intro hc <;> (try simp only [decide_eq_true_eq, decide_eq_false_iff_not, Bool.not_eq_eq_eq_not, Bool.not_true, Bool.not_false, Bool.and_eq_true, Bool.or_eq_true, bne_iff_ne, beq_iff_eq, ne_eq, Decidable.not_not] at hc) <;> (try (exfalso; first | contradiction | omega; done))))
    | (refine LS_h (H_callX inferInstance rfl (must_t w0) inferInstance) rfl ?_; intro u))
  exact ret_tmp (.inl rfl) rfl rfl ⟨(), rfl, by ((try simp only [star_assoc, emp_star, star_emp]); (repeat' (first | exact Ent.last | refine Ent.take ?_ | refine Ent.nilT ?_ | refine Ent.takeR (by first | rfl | assumption | (simp; done)) ?_ | exact Ent.refl _)))⟩
set_option maxRecDepth 100000 in
include hX in
theorem take_f (k : Nat) (x : Int) (hx : x = (k : Int)) (hk : l.length < k) : SpecX Try.prog w0 96 [ptr g 0, .int .i64 x] (cel g 139 [v] * X) brk (cel g 139 [v] * X) := by
  subst hx
  refine SpecX.enter Try.func96 rfl Try.ntmps96 rfl fun G => ?_
  simp only [argE]
  repeat' (first
    | (refine WS_seqK ?_; intro K hK)
    | (refine hK _ ?_; clear hK K)
    | with_reducible refine thenS_n ?_
    | with_reducible refine thenS_e ?_
    | with_reducible refine blockS_n ?_
    | with_reducible refine blockS_e ?_
    | with_reducible refine blockS_o rfl ?_
    | with_reducible refine thenS_r ?_
    | with_reducible refine blockS_r ?_
    | with_reducible refine use_K (by assumption) ?_
    | refine WS_region ?_
    | refine LS_nil ?_
    | (show LS _ _ _ _ _ (⟨some _, .move _, _, _, _, none⟩ :: _) _; first | refine LS_q (Q_move rfl) rfl ?_)
    | (show LS _ _ _ _ _ (⟨some _, .fieldAddr _ _ _, _, _, _, none⟩ :: _) _; first | refine LS_q (Q_fieldAddr rfl inferInstance rfl) rfl ?_ | refine LS_q (Q_fieldR rfl inferInstance inferInstance rfl (by first | assumption | omega | ((try simp only [List.length_append, List.length_cons, List.length_nil, be_length, List.length_set]); omega))) rfl ?_)
    | (show LS _ _ _ _ _ (⟨some _, .load _ _, _, _, _, none⟩ :: _) _; first | refine LS_q (Q_load rfl inferInstance inferInstance rfl) rfl ?_ | refine LS_q (Q_loadA rfl inferInstance inferInstance rfl) rfl ?_ | refine LS_q (Q_loadR rfl inferInstance inferInstance inferInstance (by assumption) rfl) rfl ?_ | refine LS_q (Q_loadR rfl inferInstance inferInstance inferInstance rfl rfl) rfl ?_ | refine LS_q (Q_loadRA rfl inferInstance inferInstance inferInstance (by assumption)) rfl ?_)
    | (show LS _ _ _ _ _ (⟨some _, .binOp _ _ _ _ _, _, _, _, none⟩ :: _) _; first | refine LS_q (Q_bin_t rfl rfl inferInstance (by first | assumption | omega | decide)) rfl ?_ | refine LS_q (Q_bin_f rfl rfl inferInstance (by first | assumption | omega | decide)) rfl ?_ | refine LS_q (Q_bin_nt rfl rfl inferInstance (by first | assumption | omega | decide)) rfl ?_ | refine LS_q (Q_bin_nf rfl rfl inferInstance (by first | assumption | omega | decide)) rfl ?_ | (refine LS_binS rfl rfl inferInstance rfl ?_ ?_ <;> intro hc) | (refine LS_binN rfl rfl inferInstance rfl ?_ ?_ <;> intro hc) | refine LS_q (Q_bin rfl rfl inferInstance) rfl ?_ | refine LS_q (Q_addI rfl rfl (by omega)) rfl ?_ | refine LS_q (Q_subI rfl rfl (by omega)) rfl ?_ | refine LS_q (Q_addS rfl rfl (by (try simp only [List.length_append, List.length_cons, List.length_nil, be_length, List.length_set]); omega)) rfl ?_ | refine LS_q (Q_quoI rfl rfl (by omega)) rfl ?_ | refine LS_q (Q_remI rfl rfl (by omega)) rfl ?_ | refine LS_q (Q_mulI rfl rfl (by omega)) rfl ?_)
    | (show LS _ _ _ _ _ (⟨some _, .assign _, _, _, _, none⟩ :: _) _; first | refine LS_q (Q_assign rfl) rfl ?_)
    | (show LS _ _ _ _ _ (⟨some _, .call ⟨.builtin .len, _, _⟩, _, _, _, none⟩ :: _) _; first | refine LS_q (Q_len rfl inferInstance) rfl ?_ | refine LS_q (Q_lenS rfl inferInstance) rfl ?_ | refine LS_q (Q_lenR rfl inferInstance inferInstance) rfl ?_ | refine LS_q (Q_lenM rfl inferInstance inferInstance) rfl ?_)
    | (show LS _ _ _ _ _ (⟨some _, .nilCheck _, _, _, _, none⟩ :: _) _; first | refine LS_q (Q_nilCheck rfl) rfl ?_ | refine LS_q (Q_nilCheck_f rfl) rfl ?_)
    | (show LS _ _ _ _ _ (⟨some _, .slice _ _ _ _ _, _, _, _, none⟩ :: _) _; first | refine LS_q (Q_sliceS_h rfl rfl inferInstance inferInstance (by first | assumption | omega)) rfl ?_ | refine LS_q (Q_sliceS_l rfl rfl inferInstance inferInstance (by first | assumption | omega)) rfl ?_ | refine LS_q (Q_sliceR_h rfl rfl inferInstance inferInstance inferInstance inferInstance (by first | assumption | omega | ((try simp only [List.length_append, List.length_cons, List.length_nil, be_length, List.length_set, List.length_take, List.length_drop]); omega))) rfl ?_ | refine LS_q (Q_sliceR_l rfl rfl inferInstance inferInstance inferInstance inferInstance (by first | assumption | omega | ((try simp only [List.length_append, List.length_cons, List.length_nil, be_length, List.length_set, List.length_take, List.length_drop]); omega))) rfl ?_)
    | (show LS _ _ _ _ _ (⟨none, _, _, _, _, none⟩ :: _) _; first | (refine LS_h0 (H_storeO rfl rfl inferInstance inferInstance inferInstance rfl) ?_; intro g) | (refine LS_h0 (H_storeAO rfl rfl inferInstance inferInstance inferInstance rfl) ?_; intro g) | (refine LS_h0 (H_store8 rfl rfl inferInstance inferInstance rfl inferInstance (by first | assumption | omega | ((try simp only [List.length_append, List.length_cons, List.length_nil, be_length, List.length_set]); omega))) ?_; intro g) | (refine LS_h0 (H_storeRA _ rfl rfl rfl inferInstance inferInstance inferInstance rfl rfl (by first | assumption | omega | ((try simp only [List.length_append, List.length_cons, List.length_nil, be_length, List.length_set]); omega))) ?_; intro g) | (refine LS_h0 (H_storeR _ rfl rfl inferInstance inferInstance inferInstance rfl (by assumption) rfl) ?_; intro g) | (refine LS_h0 (H_store rfl rfl inferInstance (by first | rfl | assumption) inferInstance rfl) ?_; intro g) | (refine LS_h0 (H_storeA rfl rfl inferInstance inferInstance (by first | rfl | (simp only [List.all_cons, List.all_nil, *]; rfl)) rfl) ?_; intro g))
    | refine WS_block ?_
    | refine WS_skip ?_
    | refine WS_ret ?_
    | refine WS_exit ?_
    | refine WS_label ?_
    | (show WS _ _ _ (.cond _ _ _) _ _; first | refine WS_condT rfl inferInstance ?_ | refine WS_condF rfl inferInstance ?_ | refine WS_condH_t rfl (by assumption) ?_ | refine WS_condH_f rfl (by assumption) ?_ | (refine WS_cond rfl ?_ ?_ <;> intro hc <;> (try simp only [decide_eq_true_eq, decide_eq_false_iff_not, Bool.not_eq_eq_eq_not, Bool.not_true, Bool.not_false, Bool.and_eq_true, Bool.or_eq_true, bne_iff_ne, beq_iff_eq, ne_eq, Decidable.not_not] at hc) <;> (try (exfalso; first | contradiction | omega; done))))
    | refine LS_callX inferInstance rfl (must_f w0) inferInstance ?_
    | refine thenS_p ?_
    | refine blockS_p ?_)
  exact ⟨rfl, rfl, by ((try simp only [star_assoc, emp_star, star_emp]); (repeat' (first | exact Ent.last | refine Ent.take ?_ | refine Ent.nilT ?_ | refine Ent.takeR (by first | rfl | assumption | (simp; done)) ?_ | exact Ent.refl _)))⟩
set_option maxRecDepth 100000 in
include hX in
theorem one_t (hk : 1 ≤ l.length) : Spec Try.prog w0 93 [ptr g 0] (cel g 139 [v] * X) (fun _ : Unit => .int .i64 ((byteAt l 0).toNat : Int)) (fun _ => cel g 139 [sTail 1 v 1] * X) := by
  refine Spec.enter Try.func93 rfl Try.ntmps93 rfl fun G => ?_
  simp only [argE]
  have h0 : (l.take 1)[0]? = some (byteAt l 0) := by rw [List.getElem?_take, if_pos (by omega)]; exact byteAt_get (by omega)
  have hlen : (l.take 1).length = 1 := by simp; omega
  repeat' (first
    | (refine WS_seqK ?_; intro K hK)
    | (refine hK _ ?_; clear hK K)
    | with_reducible refine thenS_n ?_
    | with_reducible refine thenS_e ?_
    | with_reducible refine blockS_n ?_
    | with_reducible refine blockS_e ?_
    | with_reducible refine blockS_o rfl ?_
    | with_reducible refine thenS_r ?_
    | with_reducible refine blockS_r ?_
    | with_reducible refine use_K (by assumption) ?_
    | refine WS_region ?_
    | refine LS_nil ?_
    | (show LS _ _ _ _ _ (⟨some _, .move _, _, _, _, none⟩ :: _) _; first | refine LS_q (Q_move rfl) rfl ?_)
    | (show LS _ _ _ _ _ (⟨some _, .load _ _, _, _, _, none⟩ :: _) _; first | refine LS_q (Q_load rfl inferInstance inferInstance rfl) rfl ?_ | refine LS_q (Q_loadA rfl inferInstance inferInstance rfl) rfl ?_ | refine LS_q (Q_loadR rfl inferInstance inferInstance inferInstance (by assumption) rfl) rfl ?_ | refine LS_q (Q_loadR rfl inferInstance inferInstance inferInstance rfl rfl) rfl ?_ | refine LS_q (Q_loadRA rfl inferInstance inferInstance inferInstance (by assumption)) rfl ?_)
    | (show LS _ _ _ _ _ (⟨some _, .assign _, _, _, _, none⟩ :: _) _; first | refine LS_q (Q_assign rfl) rfl ?_)
    | (show LS _ _ _ _ _ (⟨some _, .convert _ _ _, _, _, _, none⟩ :: _) _; first | refine LS_q (Q_conv32_8 rfl inferInstance inferInstance inferInstance) rfl ?_ | refine LS_q (Q_conv64 rfl inferInstance inferInstance inferInstance) rfl ?_ | refine LS_q (Q_conv32 rfl inferInstance inferInstance inferInstance) rfl ?_ | refine LS_q (Q_convS rfl inferInstance rfl inferInstance inferInstance inferInstance) rfl ?_ | refine LS_q (Q_convSame rfl inferInstance inferInstance (by omega)) rfl ?_ | refine LS_q (Q_convI8 rfl inferInstance inferInstance) rfl ?_ | refine LS_q (Q_conv328 rfl inferInstance inferInstance) rfl ?_ | refine LS_q (Q_conv8 rfl inferInstance inferInstance) rfl ?_ | refine LS_q (Q_bytesS rfl inferInstance inferInstance rfl inferInstance inferInstance inferInstance) rfl ?_)
    | (show LS _ _ _ _ _ (⟨some _, .indexAddr _ _ _, _, _, _, none⟩ :: _) _; first | refine LS_q (Q_index rfl rfl inferInstance inferInstance inferInstance inferInstance (by first | assumption | omega | ((try simp only [List.length_append, List.length_cons, List.length_nil, be_length, List.length_set]); omega))) rfl ?_ | refine LS_q (Q_indexV rfl rfl inferInstance inferInstance inferInstance (by first | assumption | omega)) rfl ?_)
    | refine WS_block ?_
    | refine WS_skip ?_
    | refine WS_ret ?_
    | refine WS_exit ?_
    | refine WS_label ?_
    | (show WS _ _ _ (.cond _ _ _) _ _; first | refine WS_condT rfl inferInstance ?_ | refine WS_condF rfl inferInstance ?_ | refine WS_condH_t rfl (by assumption) ?_ | refine WS_condH_f rfl (by assumption) ?_ | (refine WS_cond rfl ?_ ?_ <;> intro hc <;> (try simp only [decide_eq_true_eq, decide_eq_false_iff_not, Bool.not_eq_eq_eq_not, Bool.not_true, Bool.not_false, Bool.and_eq_true, Bool.or_eq_true, bne_iff_ne, beq_iff_eq, ne_eq, Decidable.not_not] at hc) <;> (try (exfalso; first | contradiction | omega; done))))
    | (refine LS_h (H_callX inferInstance rfl (take_t w0 l v g X 1 1 rfl hk) inferInstance) rfl ?_; intro u))
  exact ret_tmp (.inl rfl) rfl rfl ⟨(), rfl, by ((try simp only [star_assoc, emp_star, star_emp]); (repeat' (first | exact Ent.last | refine Ent.take ?_ | refine Ent.nilT ?_ | refine Ent.takeR (by first | rfl | assumption | (simp; done)) ?_ | exact Ent.refl _)))⟩
set_option maxRecDepth 100000 in
include hX in
theorem one_f (hk : l.length < 1) : SpecX Try.prog w0 93 [ptr g 0] (cel g 139 [v] * X) brk (cel g 139 [v] * X) := by
  refine SpecX.enter Try.func93 rfl Try.ntmps93 rfl fun G => ?_
  simp only [argE]
  repeat' (first
    | (refine WS_seqK ?_; intro K hK)
    | (refine hK _ ?_; clear hK K)
    | with_reducible refine thenS_n ?_
    | with_reducible refine thenS_e ?_
    | with_reducible refine blockS_n ?_
    | with_reducible refine blockS_e ?_
    | with_reducible refine blockS_o rfl ?_
    | with_reducible refine thenS_r ?_
    | with_reducible refine blockS_r ?_
    | with_reducible refine use_K (by assumption) ?_
    | refine WS_region ?_
    | refine LS_nil ?_
    | (show LS _ _ _ _ _ (⟨some _, .move _, _, _, _, none⟩ :: _) _; first | refine LS_q (Q_move rfl) rfl ?_)
    | (show LS _ _ _ _ _ (⟨some _, .load _ _, _, _, _, none⟩ :: _) _; first | refine LS_q (Q_load rfl inferInstance inferInstance rfl) rfl ?_ | refine LS_q (Q_loadA rfl inferInstance inferInstance rfl) rfl ?_ | refine LS_q (Q_loadR rfl inferInstance inferInstance inferInstance (by assumption) rfl) rfl ?_ | refine LS_q (Q_loadR rfl inferInstance inferInstance inferInstance rfl rfl) rfl ?_ | refine LS_q (Q_loadRA rfl inferInstance inferInstance inferInstance (by assumption)) rfl ?_)
    | (show LS _ _ _ _ _ (⟨some _, .assign _, _, _, _, none⟩ :: _) _; first | refine LS_q (Q_assign rfl) rfl ?_)
    | (show LS _ _ _ _ _ (⟨some _, .convert _ _ _, _, _, _, none⟩ :: _) _; first | refine LS_q (Q_conv32_8 rfl inferInstance inferInstance inferInstance) rfl ?_ | refine LS_q (Q_conv64 rfl inferInstance inferInstance inferInstance) rfl ?_ | refine LS_q (Q_conv32 rfl inferInstance inferInstance inferInstance) rfl ?_ | refine LS_q (Q_convS rfl inferInstance rfl inferInstance inferInstance inferInstance) rfl ?_ | refine LS_q (Q_convSame rfl inferInstance inferInstance (by omega)) rfl ?_ | refine LS_q (Q_convI8 rfl inferInstance inferInstance) rfl ?_ | refine LS_q (Q_conv328 rfl inferInstance inferInstance) rfl ?_ | refine LS_q (Q_conv8 rfl inferInstance inferInstance) rfl ?_ | refine LS_q (Q_bytesS rfl inferInstance inferInstance rfl inferInstance inferInstance inferInstance) rfl ?_)
    | (show LS _ _ _ _ _ (⟨some _, .indexAddr _ _ _, _, _, _, none⟩ :: _) _; first | refine LS_q (Q_index rfl rfl inferInstance inferInstance inferInstance inferInstance (by first | assumption | omega | ((try simp only [List.length_append, List.length_cons, List.length_nil, be_length, List.length_set]); omega))) rfl ?_ | refine LS_q (Q_indexV rfl rfl inferInstance inferInstance inferInstance (by first | assumption | omega)) rfl ?_)
    | refine WS_block ?_
    | refine WS_skip ?_
    | refine WS_ret ?_
    | refine WS_exit ?_
    | refine WS_label ?_
    | (show WS _ _ _ (.cond _ _ _) _ _; first | refine WS_condT rfl inferInstance ?_ | refine WS_condF rfl inferInstance ?_ | refine WS_condH_t rfl (by assumption) ?_ | refine WS_condH_f rfl (by assumption) ?_ | (refine WS_cond rfl ?_ ?_ <;> intro hc <;> (try simp only [decide_eq_true_eq, decide_eq_false_iff_not, Bool.not_eq_eq_eq_not, Bool.not_true, Bool.not_false, Bool.and_eq_true, Bool.or_eq_true, bne_iff_ne, beq_iff_eq, ne_eq, Decidable.not_not] at hc) <;> (try (exfalso; first | contradiction | omega; done))))
    | refine LS_callX inferInstance rfl (take_f w0 l v g X 1 1 rfl hk) inferInstance ?_
    | refine thenS_p ?_
    | refine blockS_p ?_)
  exact ⟨rfl, rfl, by ((try simp only [star_assoc, emp_star, star_emp]); (repeat' (first | exact Ent.last | refine Ent.take ?_ | refine Ent.nilT ?_ | refine Ent.takeR (by first | rfl | assumption | (simp; done)) ?_ | exact Ent.refl _)))⟩
set_option maxRecDepth 100000 in
include hX in
theorem four_t (hk : 4 ≤ l.length) : Spec Try.prog w0 95 [ptr g 0] (cel g 139 [v] * X) (fun _ : Unit => u32 (numAt l 0)) (fun _ => cel g 139 [sTail 1 v 4] * X) := by
  refine Spec.enter Try.func95 rfl Try.ntmps95 rfl fun G => ?_
  simp only [argE]
  have hn := wnumber_spec w0 (l.take 4) (by simp; omega) (sHead v 4) X
  have e : numAt (l.take 4) 0 = numAt l 0 := by simp [numAt, byteAt, List.getElem?_take]
  rw [e] at hn
  repeat' (first
    | (refine WS_seqK ?_; intro K hK)
    | (refine hK _ ?_; clear hK K)
    | with_reducible refine thenS_n ?_
    | with_reducible refine thenS_e ?_
    | with_reducible refine blockS_n ?_
    | with_reducible refine blockS_e ?_
    | with_reducible refine blockS_o rfl ?_
    | with_reducible refine thenS_r ?_
    | with_reducible refine blockS_r ?_
    | with_reducible refine use_K (by assumption) ?_
    | refine WS_region ?_
    | refine LS_nil ?_
    | (show LS _ _ _ _ _ (⟨some _, .move _, _, _, _, none⟩ :: _) _; first | refine LS_q (Q_move rfl) rfl ?_)
    | (show LS _ _ _ _ _ (⟨some _, .assign _, _, _, _, none⟩ :: _) _; first | refine LS_q (Q_assign rfl) rfl ?_)
    | refine WS_block ?_
    | refine WS_skip ?_
    | refine WS_ret ?_
    | refine WS_exit ?_
    | refine WS_label ?_
    | (show WS _ _ _ (.cond _ _ _) _ _; first | refine WS_condT rfl inferInstance ?_ | refine WS_condF rfl inferInstance ?_ | refine WS_condH_t rfl (by assumption) ?_ | refine WS_condH_f rfl (by assumption) ?_ | (refine WS_cond rfl ?_ ?_ <;> intro hc <;> (try simp only [decide_eq_true_eq, decide_eq_false_iff_not, Bool.not_eq_eq_eq_not, Bool.not_true, Bool.not_false, Bool.and_eq_true, Bool.or_eq_true, bne_iff_ne, beq_iff_eq, ne_eq, Decidable.not_not] at hc) <;> (try (exfalso; first | contradiction | omega; done))))
    | (refine LS_h (H_callX inferInstance rfl (take_t w0 l v g X 4 4 rfl hk) inferInstance) rfl ?_; intro u)
    | (refine LS_h (H_callX inferInstance rfl hn inferInstance) rfl ?_; intro u))
  exact ret_tmp (.inl rfl) rfl rfl ⟨(), rfl, by ((try simp only [star_assoc, emp_star, star_emp]); (repeat' (first | exact Ent.last | refine Ent.take ?_ | refine Ent.nilT ?_ | refine Ent.takeR (by first | rfl | assumption | (simp; done)) ?_ | exact Ent.refl _)))⟩
set_option maxRecDepth 100000 in
include hX in
theorem four_f (hk : l.length < 4) : SpecX Try.prog w0 95 [ptr g 0] (cel g 139 [v] * X) brk (cel g 139 [v] * X) := by
  refine SpecX.enter Try.func95 rfl Try.ntmps95 rfl fun G => ?_
  simp only [argE]
  repeat' (first
    | (refine WS_seqK ?_; intro K hK)
    | (refine hK _ ?_; clear hK K)
    | with_reducible refine thenS_n ?_
    | with_reducible refine thenS_e ?_
    | with_reducible refine blockS_n ?_
    | with_reducible refine blockS_e ?_
    | with_reducible refine blockS_o rfl ?_
    | with_reducible refine thenS_r ?_
    | with_reducible refine blockS_r ?_
    | with_reducible refine use_K (by assumption) ?_
    | refine WS_region ?_
    | refine LS_nil ?_
    | (show LS _ _ _ _ _ (⟨some _, .move _, _, _, _, none⟩ :: _) _; first | refine LS_q (Q_move rfl) rfl ?_)
    | (show LS _ _ _ _ _ (⟨some _, .assign _, _, _, _, none⟩ :: _) _; first | refine LS_q (Q_assign rfl) rfl ?_)
    | refine WS_block ?_
    | refine WS_skip ?_
    | refine WS_ret ?_
    | refine WS_exit ?_
    | refine WS_label ?_
    | (show WS _ _ _ (.cond _ _ _) _ _; first | refine WS_condT rfl inferInstance ?_ | refine WS_condF rfl inferInstance ?_ | refine WS_condH_t rfl (by assumption) ?_ | refine WS_condH_f rfl (by assumption) ?_ | (refine WS_cond rfl ?_ ?_ <;> intro hc <;> (try simp only [decide_eq_true_eq, decide_eq_false_iff_not, Bool.not_eq_eq_eq_not, Bool.not_true, Bool.not_false, Bool.and_eq_true, Bool.or_eq_true, bne_iff_ne, beq_iff_eq, ne_eq, Decidable.not_not] at hc) <;> (try (exfalso; first | contradiction | omega; done))))
    | refine LS_callX inferInstance rfl (take_f w0 l v g X 4 4 rfl hk) inferInstance ?_
    | refine thenS_p ?_
    | refine blockS_p ?_)
  exact ⟨rfl, rfl, by ((try simp only [star_assoc, emp_star, star_emp]); (repeat' (first | exact Ent.last | refine Ent.take ?_ | refine Ent.nilT ?_ | refine Ent.takeR (by first | rfl | assumption | (simp; done)) ?_ | exact Ent.refl _)))⟩
end reader
end Go.Proofs.Ytapoehkdnglahaa
