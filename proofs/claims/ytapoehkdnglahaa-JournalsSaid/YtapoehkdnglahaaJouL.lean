/- What meshlaw.Journals returns, by a walk. -/
import Derived.Test.YtapoehkdnglahaaKeysC
namespace Go.Proofs.Ytapoehkdnglahaa
open Go.RowKit
set_option linter.unusedVariables false
set_option linter.unusedSimpArgs false
attribute [local irreducible] WS LS OpQ OpT OpH OpTQ Spec SpecQ cel
variable (w0 : World)
set_option maxRecDepth 100000 in
theorem mwrite_spec (r : Rec) : Spec Try.prog w0 13 [.agg r.cells.toArray] emp (fun v' : Value => v') (fun v' => rows 5 1 byteC v' r.bytes) := by
  have h := wrecord_spec w0 r
  refine Spec.enter Try.func13 rfl Try.ntmps13 rfl fun G => ?_
  simp only [argE, Rec.cells] at h ⊢
  repeat' (first
    | (refine WS_seqK ?_; intro K hK)
    | (refine hK _ ?_; clear hK K)
    | with_reducible refine thenS_n ?_
    | with_reducible refine thenS_e ?_
    | with_reducible refine blockS_n ?_
    | with_reducible refine blockS_e ?_
    | with_reducible refine blockS_o rfl ?_
    | with_reducible refine thenS_r ?_
    | with_reducible refine blockS_r ?_
    | with_reducible refine use_K (by assumption) ?_
    | refine WS_region ?_
    | refine LS_nil ?_
    | (show LS _ _ _ _ _ (⟨some _, .load _ _, _, _, _, none⟩ :: _) _; first | refine LS_q (Q_load rfl inferInstance inferInstance rfl) rfl ?_ | refine LS_q (Q_loadA rfl inferInstance inferInstance rfl) rfl ?_ | refine LS_q (Q_loadR rfl inferInstance inferInstance inferInstance (by assumption) rfl) rfl ?_ | refine LS_q (Q_loadR rfl inferInstance inferInstance inferInstance rfl rfl) rfl ?_ | refine LS_q (Q_loadRA rfl inferInstance inferInstance inferInstance (by assumption)) rfl ?_)
    | (show LS _ _ _ _ _ (⟨some _, .assign _, _, _, _, none⟩ :: _) _; first | refine LS_q (Q_assign rfl) rfl ?_)
    | (show LS _ _ _ _ _ (⟨some _, .box _ _, _, _, _, none⟩ :: _) _; first | (refine LS_h (H_box rfl) rfl ?_; intro g) | (refine LS_h (H_boxO rfl inferInstance) rfl ?_; intro g) | (refine LS_h (H_box1 rfl (by first | rfl | assumption)) rfl ?_; intro g))
    | refine WS_block ?_
    | refine WS_skip ?_
    | refine WS_ret ?_
    | refine WS_exit ?_
    | refine WS_label ?_
    | (show WS _ _ _ (.cond _ _ _) _ _; first | refine WS_condT rfl inferInstance ?_ | refine WS_condF rfl inferInstance ?_ | refine WS_condH_t rfl (by assumption) ?_ | refine WS_condH_f rfl (by assumption) ?_ | (refine WS_cond rfl ?_ ?_ <;> intro hc <;> (try simp only [decide_eq_true_eq, decide_eq_false_iff_not, Bool.not_eq_eq_eq_not, Bool.not_true, Bool.not_false, Bool.and_eq_true, Bool.or_eq_true, bne_iff_ne, beq_iff_eq, ne_eq, Decidable.not_not] at hc) <;> (try (exfalso; first | contradiction | omega; done))))
    | (refine LS_h (H_callX inferInstance rfl h inferInstance) rfl ?_; intro v))
  exact ret_tmp (.inl rfl) rfl rfl ⟨v, rfl, by ((try simp only [star_assoc, emp_star, star_emp]); (repeat' (first | exact Ent.last | refine Ent.take ?_ | refine Ent.nilT ?_ | refine Ent.takeR (by first | rfl | assumption | (simp; done)) ?_ | exact Ent.refl _)))⟩
set_option maxRecDepth 100000 in
theorem mread_spec (l : List UInt8) (hl : l.length ≤ 1000000) (v : Value) (X : HProp) [hX : Rdr w0 X v UInt8 1 byteC l] : Spec Try.prog w0 15 [v] X (fun m : Value => .tuple #[m, .int .i64 (13 * ((readJ l).length : Int))]) (fun m => rows 28 3 Rec.cells m (readJ l) * X) := by
  have h := wread_spec w0 l hl v X
  refine Spec.enter Try.func15 rfl Try.ntmps15 rfl fun G => ?_
  simp only [argE]
  repeat' (first
    | (refine WS_seqK ?_; intro K hK)
    | (refine hK _ ?_; clear hK K)
    | with_reducible refine thenS_n ?_
    | with_reducible refine thenS_e ?_
    | with_reducible refine blockS_n ?_
    | with_reducible refine blockS_e ?_
    | with_reducible refine blockS_o rfl ?_
    | with_reducible refine thenS_r ?_
    | with_reducible refine blockS_r ?_
    | with_reducible refine use_K (by assumption) ?_
    | refine WS_region ?_
    | refine LS_nil ?_
    | (show LS _ _ _ _ _ (⟨some _, .move _, _, _, _, none⟩ :: _) _; first | refine LS_q (Q_move rfl) rfl ?_)
    | (show LS _ _ _ _ _ (⟨some _, .assign _, _, _, _, none⟩ :: _) _; first | refine LS_q (Q_assign rfl) rfl ?_)
    | (show LS _ _ _ _ _ (⟨some _, .extract _ _, _, _, _, none⟩ :: _) _; first | refine LS_q (Q_extract rfl rfl) rfl ?_)
    | refine WS_block ?_
    | refine WS_skip ?_
    | refine WS_ret ?_
    | refine WS_exit ?_
    | refine WS_label ?_
    | (show WS _ _ _ (.cond _ _ _) _ _; first | refine WS_condT rfl inferInstance ?_ | refine WS_condF rfl inferInstance ?_ | refine WS_condH_t rfl (by assumption) ?_ | refine WS_condH_f rfl (by assumption) ?_ | (refine WS_cond rfl ?_ ?_ <;> intro hc <;> (try simp only [decide_eq_true_eq, decide_eq_false_iff_not, Bool.not_eq_eq_eq_not, Bool.not_true, Bool.not_false, Bool.and_eq_true, Bool.or_eq_true, bne_iff_ne, beq_iff_eq, ne_eq, Decidable.not_not] at hc) <;> (try (exfalso; first | contradiction | omega; done))))
    | (refine LS_h (H_callX inferInstance rfl h inferInstance) rfl ?_; intro m))
  exact ret_tmp2 (.inl rfl) rfl rfl rfl ⟨m, rfl, by ((try simp only [star_assoc, emp_star, star_emp]); (repeat' (first | exact Ent.last | refine Ent.take ?_ | refine Ent.nilT ?_ | refine Ent.takeR (by first | rfl | assumption | (simp; done)) ?_ | exact Ent.refl _)))⟩
set_option maxRecDepth 100000 in
theorem mcompact_spec (l : List Rec) (hl : l.length ≤ 100000) (v : Value) (X : HProp) [hX : Rdr w0 X v Rec 3 Rec.cells l] : Spec Try.prog w0 34 [v] X (fun m : Value => m) (fun m => rows 28 3 Rec.cells m (compR l) * X) := by
  have h := wcompact_spec w0 l hl v X
  refine Spec.enter Try.func34 rfl Try.ntmps34 rfl fun G => ?_
  simp only [argE]
  repeat' (first
    | (refine WS_seqK ?_; intro K hK)
    | (refine hK _ ?_; clear hK K)
    | with_reducible refine thenS_n ?_
    | with_reducible refine thenS_e ?_
    | with_reducible refine blockS_n ?_
    | with_reducible refine blockS_e ?_
    | with_reducible refine blockS_o rfl ?_
    | with_reducible refine thenS_r ?_
    | with_reducible refine blockS_r ?_
    | with_reducible refine use_K (by assumption) ?_
    | refine WS_region ?_
    | refine LS_nil ?_
    | (show LS _ _ _ _ _ (⟨some _, .move _, _, _, _, none⟩ :: _) _; first | refine LS_q (Q_move rfl) rfl ?_)
    | (show LS _ _ _ _ _ (⟨some _, .assign _, _, _, _, none⟩ :: _) _; first | refine LS_q (Q_assign rfl) rfl ?_)
    | refine WS_block ?_
    | refine WS_skip ?_
    | refine WS_ret ?_
    | refine WS_exit ?_
    | refine WS_label ?_
    | (show WS _ _ _ (.cond _ _ _) _ _; first | refine WS_condT rfl inferInstance ?_ | refine WS_condF rfl inferInstance ?_ | refine WS_condH_t rfl (by assumption) ?_ | refine WS_condH_f rfl (by assumption) ?_ | (refine WS_cond rfl ?_ ?_ <;> intro hc <;> (try simp only [decide_eq_true_eq, decide_eq_false_iff_not, Bool.not_eq_eq_eq_not, Bool.not_true, Bool.not_false, Bool.and_eq_true, Bool.or_eq_true, bne_iff_ne, beq_iff_eq, ne_eq, Decidable.not_not] at hc) <;> (try (exfalso; first | contradiction | omega; done))))
    | (refine LS_h (H_callX inferInstance rfl h inferInstance) rfl ?_; intro m))
  exact ret_tmp (.inl rfl) rfl rfl ⟨m, rfl, by ((try simp only [star_assoc, emp_star, star_emp]); (repeat' (first | exact Ent.last | refine Ent.take ?_ | refine Ent.nilT ?_ | refine Ent.takeR (by first | rfl | assumption | (simp; done)) ?_ | exact Ent.refl _)))⟩
set_option maxRecDepth 100000 in
theorem journals_big (r : Rec) (s : List UInt8) (l : List Rec) (hb : 65536 < s.length ∨ 4096 < l.length) (v : Value) (X : HProp) [hX : Rdr w0 X v Rec 3 Rec.cells l] : Spec Try.prog w0 10 [.agg r.cells.toArray, strV s, v] X (fun _ : Unit => .bool true) (fun _ => X) := by
  refine Spec.enter Try.func10 rfl Try.ntmps10 rfl fun G => ?_
  simp only [argE, Rec.cells]
  by_cases h1 : 65536 < s.length
  · repeat' (first
      | (refine WS_seqK ?_; intro K hK)
      | (refine hK _ ?_; clear hK K)
      | with_reducible refine thenS_n ?_
      | with_reducible refine thenS_e ?_
      | with_reducible refine blockS_n ?_
      | with_reducible refine blockS_e ?_
      | with_reducible refine blockS_o rfl ?_
      | with_reducible refine thenS_r ?_
      | with_reducible refine blockS_r ?_
      | with_reducible refine use_K (by assumption) ?_
      | refine WS_region ?_
      | refine LS_nil ?_
      | (show LS _ _ _ _ _ (⟨_, _, _, _, _, some _⟩ :: _) _; first | refine LS_wantT rfl rfl inferInstance rfl ?_ | refine LS_wantF rfl rfl inferInstance rfl ?_ | refine LS_wantU rfl rfl rfl ?_ | (refine LS_wantS rfl rfl rfl ?_ ?_ <;> intro hc <;> (try simp only [decide_eq_true_eq, decide_eq_false_iff_not, Bool.not_eq_eq_eq_not, Bool.not_true, Bool.not_false, Bool.and_eq_true, Bool.or_eq_true, bne_iff_ne, beq_iff_eq, ne_eq, Decidable.not_not] at hc) <;> (try (exfalso; first | contradiction | omega; done))) | (refine LS_wantN rfl ?_ ?_ <;> intro hc <;> (try simp only [decide_eq_true_eq, decide_eq_false_iff_not, Bool.not_eq_eq_eq_not, Bool.not_true, Bool.not_false, Bool.and_eq_true, Bool.or_eq_true, bne_iff_ne, beq_iff_eq, ne_eq, Decidable.not_not] at hc) <;> (try (exfalso; first | contradiction | omega; done))))
      | (show LS _ _ _ _ _ (⟨some _, .move _, _, _, _, none⟩ :: _) _; first | refine LS_q (Q_move rfl) rfl ?_)
      | (show LS _ _ _ _ _ (⟨some _, .load _ _, _, _, _, none⟩ :: _) _; first | refine LS_q (Q_load rfl inferInstance inferInstance rfl) rfl ?_ | refine LS_q (Q_loadA rfl inferInstance inferInstance rfl) rfl ?_ | refine LS_q (Q_loadR rfl inferInstance inferInstance inferInstance (by assumption) rfl) rfl ?_ | refine LS_q (Q_loadR rfl inferInstance inferInstance inferInstance rfl rfl) rfl ?_ | refine LS_q (Q_loadRA rfl inferInstance inferInstance inferInstance (by assumption)) rfl ?_)
      | (show LS _ _ _ _ _ (⟨some _, .binOp _ _ _ _ _, _, _, _, none⟩ :: _) _; first | refine LS_q (Q_bin_t rfl rfl inferInstance (by first | assumption | omega | decide | rfl)) rfl ?_ | refine LS_q (Q_bin_f rfl rfl inferInstance (by first | assumption | omega | decide | rfl)) rfl ?_ | refine LS_q (Q_bin_nt rfl rfl inferInstance (by first | assumption | omega | decide | rfl)) rfl ?_ | refine LS_q (Q_bin_nf rfl rfl inferInstance (by first | assumption | omega | decide | rfl)) rfl ?_ | refine LS_q (Q_bin rfl rfl inferInstance) rfl ?_ | refine LS_q (Q_addI rfl rfl (by omega)) rfl ?_ | refine LS_q (Q_subI rfl rfl (by omega)) rfl ?_ | refine LS_q (Q_addS rfl rfl (by (try simp only [List.length_append, List.length_cons, List.length_nil, be_length, List.length_set]); omega)) rfl ?_ | refine LS_q (Q_quoI rfl rfl (by omega)) rfl ?_ | refine LS_q (Q_remI rfl rfl (by omega)) rfl ?_ | refine LS_q (Q_mulI rfl rfl (by omega)) rfl ?_)
      | (show LS _ _ _ _ _ (⟨some _, .assign _, _, _, _, none⟩ :: _) _; first | refine LS_q (Q_assign rfl) rfl ?_)
      | (show LS _ _ _ _ _ (⟨some _, .pick _ _ _, _, _, _, none⟩ :: _) _; first | refine LS_q (Q_pick_t rfl inferInstance rfl) rfl ?_ | refine LS_q (Q_pick_f rfl inferInstance rfl) rfl ?_ | refine LS_q (Q_pick rfl rfl rfl) rfl ?_)
      | (show LS _ _ _ _ _ (⟨some _, .extract _ _, _, _, _, none⟩ :: _) _; first | refine LS_q (Q_extract rfl rfl) rfl ?_)
      | (show LS _ _ _ _ _ (⟨some _, .call ⟨.builtin .len, _, _⟩, _, _, _, none⟩ :: _) _; first | refine LS_q (Q_len rfl inferInstance) rfl ?_ | refine LS_q (Q_lenS rfl inferInstance) rfl ?_ | refine LS_q (Q_lenR rfl inferInstance inferInstance) rfl ?_ | refine LS_q (Q_lenM rfl inferInstance inferInstance) rfl ?_)
      | (show LS _ _ _ _ _ (⟨some _, .convert _ _ _, _, _, _, none⟩ :: _) _; first | refine LS_q (Q_conv32_8 rfl inferInstance inferInstance inferInstance) rfl ?_ | refine LS_q (Q_conv64 rfl inferInstance inferInstance inferInstance) rfl ?_ | refine LS_q (Q_conv32 rfl inferInstance inferInstance inferInstance) rfl ?_ | refine LS_q (Q_convS rfl inferInstance rfl inferInstance inferInstance inferInstance) rfl ?_ | refine LS_q (Q_convSame rfl inferInstance inferInstance (by omega)) rfl ?_ | refine LS_q (Q_convI8 rfl inferInstance inferInstance) rfl ?_ | refine LS_q (Q_conv328 rfl inferInstance inferInstance) rfl ?_ | refine LS_q (Q_conv8 rfl inferInstance inferInstance) rfl ?_ | refine LS_q (Q_bytesS rfl inferInstance inferInstance rfl inferInstance inferInstance inferInstance) rfl ?_)
      | (show LS _ _ _ _ _ (⟨some _, .box _ _, _, _, _, none⟩ :: _) _; first | (refine LS_h (H_box rfl) rfl ?_; intro g) | (refine LS_h (H_boxO rfl inferInstance) rfl ?_; intro g) | (refine LS_h (H_box1 rfl (by first | rfl | assumption)) rfl ?_; intro g))
      | (refine LS_h (H_buildB inferInstance inferInstance inferInstance rfl rfl rfl rfl rfl inferInstance rfl rfl) rfl ?_; intro g)
      | (refine LS_h (H_buildSlice inferInstance inferInstance inferInstance rfl rfl rfl rfl rfl) rfl ?_; intro g)
      | (refine LS_h (H_buildSlice0 inferInstance inferInstance) rfl ?_; intro g)
      | (show LS _ _ _ _ _ (⟨some _, .call ⟨.builtin .append, _, _⟩, _, _, _, none⟩ :: _) _; first | (refine LS_h (H_appendD rfl rfl inferInstance inferInstance rfl inferInstance inferInstance byteC_one (by (try simp only [List.length_append, List.length_cons, List.length_nil, be_length, List.length_set]); omega) rfl) rfl ?_; intro g) | (refine LS_h (H_appendB rfl rfl inferInstance inferInstance inferInstance rfl rfl inferInstance (by (try simp only [List.length_append, List.length_cons, List.length_nil, be_length, List.length_set]); omega) rfl) rfl ?_; intro g) | (refine LS_h (H_appendS rfl rfl inferInstance rfl inferInstance inferInstance (by (try simp only [List.length_append, List.length_cons, List.length_nil, be_length, List.length_set]); omega) rfl) rfl ?_; intro g))
      | refine WS_block ?_
      | refine WS_skip ?_
      | refine WS_ret ?_
      | refine WS_exit ?_
      | refine WS_label ?_
      | (show WS _ _ _ (.cond _ _ _) _ _; first | refine WS_condT rfl inferInstance ?_ | refine WS_condF rfl inferInstance ?_ | refine WS_condH_t rfl (by assumption) ?_ | refine WS_condH_f rfl (by assumption) ?_ | (refine WS_cond rfl ?_ ?_ <;> intro hc <;> (try simp only [decide_eq_true_eq, decide_eq_false_iff_not, Bool.not_eq_eq_eq_not, Bool.not_true, Bool.not_false, Bool.and_eq_true, Bool.or_eq_true, bne_iff_ne, beq_iff_eq, ne_eq, Decidable.not_not] at hc) <;> (try (exfalso; first | contradiction | omega; done)))))
    exact ret_tmp (.inl rfl) rfl rfl ⟨(), rfl, by ((try simp only [star_assoc, emp_star, star_emp]); (repeat' (first | exact Ent.last | refine Ent.take ?_ | refine Ent.nilT ?_ | refine Ent.takeR (by first | rfl | assumption | (simp; done)) ?_ | exact Ent.refl _)))⟩
  · have h2 : 4096 < l.length := by omega
    repeat' (first
      | (refine WS_seqK ?_; intro K hK)
      | (refine hK _ ?_; clear hK K)
      | with_reducible refine thenS_n ?_
      | with_reducible refine thenS_e ?_
      | with_reducible refine blockS_n ?_
      | with_reducible refine blockS_e ?_
      | with_reducible refine blockS_o rfl ?_
      | with_reducible refine thenS_r ?_
      | with_reducible refine blockS_r ?_
      | with_reducible refine use_K (by assumption) ?_
      | refine WS_region ?_
      | refine LS_nil ?_
      | (show LS _ _ _ _ _ (⟨_, _, _, _, _, some _⟩ :: _) _; first | refine LS_wantT rfl rfl inferInstance rfl ?_ | refine LS_wantF rfl rfl inferInstance rfl ?_ | refine LS_wantU rfl rfl rfl ?_ | (refine LS_wantS rfl rfl rfl ?_ ?_ <;> intro hc <;> (try simp only [decide_eq_true_eq, decide_eq_false_iff_not, Bool.not_eq_eq_eq_not, Bool.not_true, Bool.not_false, Bool.and_eq_true, Bool.or_eq_true, bne_iff_ne, beq_iff_eq, ne_eq, Decidable.not_not] at hc) <;> (try (exfalso; first | contradiction | omega; done))) | (refine LS_wantN rfl ?_ ?_ <;> intro hc <;> (try simp only [decide_eq_true_eq, decide_eq_false_iff_not, Bool.not_eq_eq_eq_not, Bool.not_true, Bool.not_false, Bool.and_eq_true, Bool.or_eq_true, bne_iff_ne, beq_iff_eq, ne_eq, Decidable.not_not] at hc) <;> (try (exfalso; first | contradiction | omega; done))))
      | (show LS _ _ _ _ _ (⟨some _, .move _, _, _, _, none⟩ :: _) _; first | refine LS_q (Q_move rfl) rfl ?_)
      | (show LS _ _ _ _ _ (⟨some _, .load _ _, _, _, _, none⟩ :: _) _; first | refine LS_q (Q_load rfl inferInstance inferInstance rfl) rfl ?_ | refine LS_q (Q_loadA rfl inferInstance inferInstance rfl) rfl ?_ | refine LS_q (Q_loadR rfl inferInstance inferInstance inferInstance (by assumption) rfl) rfl ?_ | refine LS_q (Q_loadR rfl inferInstance inferInstance inferInstance rfl rfl) rfl ?_ | refine LS_q (Q_loadRA rfl inferInstance inferInstance inferInstance (by assumption)) rfl ?_)
      | (show LS _ _ _ _ _ (⟨some _, .binOp _ _ _ _ _, _, _, _, none⟩ :: _) _; first | refine LS_q (Q_bin_t rfl rfl inferInstance (by first | assumption | omega | decide | rfl)) rfl ?_ | refine LS_q (Q_bin_f rfl rfl inferInstance (by first | assumption | omega | decide | rfl)) rfl ?_ | refine LS_q (Q_bin_nt rfl rfl inferInstance (by first | assumption | omega | decide | rfl)) rfl ?_ | refine LS_q (Q_bin_nf rfl rfl inferInstance (by first | assumption | omega | decide | rfl)) rfl ?_ | refine LS_q (Q_bin rfl rfl inferInstance) rfl ?_ | refine LS_q (Q_addI rfl rfl (by omega)) rfl ?_ | refine LS_q (Q_subI rfl rfl (by omega)) rfl ?_ | refine LS_q (Q_addS rfl rfl (by (try simp only [List.length_append, List.length_cons, List.length_nil, be_length, List.length_set]); omega)) rfl ?_ | refine LS_q (Q_quoI rfl rfl (by omega)) rfl ?_ | refine LS_q (Q_remI rfl rfl (by omega)) rfl ?_ | refine LS_q (Q_mulI rfl rfl (by omega)) rfl ?_)
      | (show LS _ _ _ _ _ (⟨some _, .assign _, _, _, _, none⟩ :: _) _; first | refine LS_q (Q_assign rfl) rfl ?_)
      | (show LS _ _ _ _ _ (⟨some _, .pick _ _ _, _, _, _, none⟩ :: _) _; first | refine LS_q (Q_pick_t rfl inferInstance rfl) rfl ?_ | refine LS_q (Q_pick_f rfl inferInstance rfl) rfl ?_ | refine LS_q (Q_pick rfl rfl rfl) rfl ?_)
      | (show LS _ _ _ _ _ (⟨some _, .extract _ _, _, _, _, none⟩ :: _) _; first | refine LS_q (Q_extract rfl rfl) rfl ?_)
      | (show LS _ _ _ _ _ (⟨some _, .call ⟨.builtin .len, _, _⟩, _, _, _, none⟩ :: _) _; first | refine LS_q (Q_len rfl inferInstance) rfl ?_ | refine LS_q (Q_lenS rfl inferInstance) rfl ?_ | refine LS_q (Q_lenR rfl inferInstance inferInstance) rfl ?_ | refine LS_q (Q_lenM rfl inferInstance inferInstance) rfl ?_)
      | (show LS _ _ _ _ _ (⟨some _, .convert _ _ _, _, _, _, none⟩ :: _) _; first | refine LS_q (Q_conv32_8 rfl inferInstance inferInstance inferInstance) rfl ?_ | refine LS_q (Q_conv64 rfl inferInstance inferInstance inferInstance) rfl ?_ | refine LS_q (Q_conv32 rfl inferInstance inferInstance inferInstance) rfl ?_ | refine LS_q (Q_convS rfl inferInstance rfl inferInstance inferInstance inferInstance) rfl ?_ | refine LS_q (Q_convSame rfl inferInstance inferInstance (by omega)) rfl ?_ | refine LS_q (Q_convI8 rfl inferInstance inferInstance) rfl ?_ | refine LS_q (Q_conv328 rfl inferInstance inferInstance) rfl ?_ | refine LS_q (Q_conv8 rfl inferInstance inferInstance) rfl ?_ | refine LS_q (Q_bytesS rfl inferInstance inferInstance rfl inferInstance inferInstance inferInstance) rfl ?_)
      | (show LS _ _ _ _ _ (⟨some _, .box _ _, _, _, _, none⟩ :: _) _; first | (refine LS_h (H_box rfl) rfl ?_; intro g) | (refine LS_h (H_boxO rfl inferInstance) rfl ?_; intro g) | (refine LS_h (H_box1 rfl (by first | rfl | assumption)) rfl ?_; intro g))
      | (refine LS_h (H_buildB inferInstance inferInstance inferInstance rfl rfl rfl rfl rfl inferInstance rfl rfl) rfl ?_; intro g)
      | (refine LS_h (H_buildSlice inferInstance inferInstance inferInstance rfl rfl rfl rfl rfl) rfl ?_; intro g)
      | (refine LS_h (H_buildSlice0 inferInstance inferInstance) rfl ?_; intro g)
      | (show LS _ _ _ _ _ (⟨some _, .call ⟨.builtin .append, _, _⟩, _, _, _, none⟩ :: _) _; first | (refine LS_h (H_appendD rfl rfl inferInstance inferInstance rfl inferInstance inferInstance byteC_one (by (try simp only [List.length_append, List.length_cons, List.length_nil, be_length, List.length_set]); omega) rfl) rfl ?_; intro g) | (refine LS_h (H_appendB rfl rfl inferInstance inferInstance inferInstance rfl rfl inferInstance (by (try simp only [List.length_append, List.length_cons, List.length_nil, be_length, List.length_set]); omega) rfl) rfl ?_; intro g) | (refine LS_h (H_appendS rfl rfl inferInstance rfl inferInstance inferInstance (by (try simp only [List.length_append, List.length_cons, List.length_nil, be_length, List.length_set]); omega) rfl) rfl ?_; intro g))
      | refine WS_block ?_
      | refine WS_skip ?_
      | refine WS_ret ?_
      | refine WS_exit ?_
      | refine WS_label ?_
      | (show WS _ _ _ (.cond _ _ _) _ _; first | refine WS_condT rfl inferInstance ?_ | refine WS_condF rfl inferInstance ?_ | refine WS_condH_t rfl (by assumption) ?_ | refine WS_condH_f rfl (by assumption) ?_ | (refine WS_cond rfl ?_ ?_ <;> intro hc <;> (try simp only [decide_eq_true_eq, decide_eq_false_iff_not, Bool.not_eq_eq_eq_not, Bool.not_true, Bool.not_false, Bool.and_eq_true, Bool.or_eq_true, bne_iff_ne, beq_iff_eq, ne_eq, Decidable.not_not] at hc) <;> (try (exfalso; first | contradiction | omega; done)))))
    exact ret_tmp (.inl rfl) rfl rfl ⟨(), rfl, by ((try simp only [star_assoc, emp_star, star_emp]); (repeat' (first | exact Ent.last | refine Ent.take ?_ | refine Ent.nilT ?_ | refine Ent.takeR (by first | rfl | assumption | (simp; done)) ?_ | exact Ent.refl _)))⟩
theorem readJ_le (l : List UInt8) : (readJ l).length ≤ l.length := by
  have : ∀ n (l : List UInt8), (readN n l).length ≤ n := fun n => by
    induction n with
    | zero => intro l; exact Nat.le_refl _
    | succ n ih => intro l; rw [readN]; split <;> simp <;> have := ih (l.drop 13) <;> omega
  have := this (l.length / 13) l
  unfold readJ; omega
set_option maxRecDepth 100000 in
set_option maxHeartbeats 4000000 in
theorem journals_walk (r : Rec) (s : List UInt8) (hs : s.length ≤ 65536) (l : List Rec) (hl : l.length ≤ 4096) (v : Value) (X : HProp) [hX : Rdr w0 X v Rec 3 Rec.cells l] : Spec Try.prog w0 10 [.agg r.cells.toArray, strV s, v] X (fun _ : Unit => .bool true) (fun _ => X) := by
  have hw := mwrite_spec w0 r
  have hw2 := rwrite_spec w0 r
  have hr : ∀ vs : Value, Spec Try.prog w0 15 [vs] (rows 5 1 byteC vs s) (fun m : Value => .tuple #[m, .int .i64 (13 * ((readJ s).length : Int))]) (fun m => rows 28 3 Rec.cells m (readJ s) * rows 5 1 byteC vs s) := fun vs => mread_spec w0 s (by omega) vs _
  have hr2 := rread_spec w0 s (by omega)
  have hq := readJ_le s
  have hcl := compR_length l
  have hrc : ∀ a b : Value, Spec Try.prog w0 33 [a, b] (rows 28 3 Rec.cells a (readJ s) * rows 28 3 Rec.cells b (readJ s)) (fun _ : Unit => .bool true) (fun _ => rows 28 3 Rec.cells a (readJ s) * rows 28 3 Rec.cells b (readJ s)) := fun a b => by
    have := records_spec w0 (readJ s) (readJ s) (by omega) a b (rows 28 3 Rec.cells a (readJ s) * rows 28 3 Rec.cells b (readJ s))
    rwa [decide_eq_true rfl] at this
  have hrc2 : ∀ a b : Value, Spec Try.prog w0 33 [a, b] (rows 28 3 Rec.cells a (compR l) * rows 28 3 Rec.cells b (compR l)) (fun _ : Unit => .bool true) (fun _ => rows 28 3 Rec.cells a (compR l) * rows 28 3 Rec.cells b (compR l)) := fun a b => by
    have := records_spec w0 (compR l) (compR l) (by omega) a b (rows 28 3 Rec.cells a (compR l) * rows 28 3 Rec.cells b (compR l))
    rwa [decide_eq_true rfl] at this
  have hc : ∀ a : Value, Spec Try.prog w0 34 [a] (rows 28 3 Rec.cells a ([] ++ l)) (fun m : Value => m) (fun m => rows 28 3 Rec.cells m (compR l) * rows 28 3 Rec.cells a ([] ++ l)) := fun a => by rw [List.nil_append]; exact mcompact_spec w0 l (by omega) a _
  have hc2 := rcompact_spec w0 l (by omega) v X
  refine Spec.enter Try.func10 rfl Try.ntmps10 rfl fun G => ?_
  simp only [argE, Rec.cells] at hw hw2 ⊢
  have e13 : (13 * ((readJ s).length : Int)) = ((13 * (readJ s).length : Nat) : Int) := by simp
  rw [e13] at hr
  generalize 13 * (readJ s).length = k at *
  have hkk : k = k := rfl
  repeat' (first
    | (refine WS_seqK ?_; intro K hK)
    | (refine hK _ ?_; clear hK K)
    | with_reducible refine thenS_n ?_
    | with_reducible refine thenS_e ?_
    | with_reducible refine blockS_n ?_
    | with_reducible refine blockS_e ?_
    | with_reducible refine blockS_o rfl ?_
    | with_reducible refine thenS_r ?_
    | with_reducible refine blockS_r ?_
    | with_reducible refine use_K (by assumption) ?_
    | refine WS_region ?_
    | refine LS_nil ?_
    | (show LS _ _ _ _ _ (⟨_, _, _, _, _, some _⟩ :: _) _; first | refine LS_wantT rfl rfl inferInstance rfl ?_ | refine LS_wantF rfl rfl inferInstance rfl ?_ | refine LS_wantU rfl rfl rfl ?_ | (refine LS_wantS rfl rfl rfl ?_ ?_ <;> intro hc <;> (try simp only [decide_eq_true_eq, decide_eq_false_iff_not, Bool.not_eq_eq_eq_not, Bool.not_true, Bool.not_false, Bool.and_eq_true, Bool.or_eq_true, bne_iff_ne, beq_iff_eq, ne_eq, Decidable.not_not] at hc) <;> (try (exfalso; first | contradiction | omega; done))) | (refine LS_wantN rfl ?_ ?_ <;> intro hc <;> (try simp only [decide_eq_true_eq, decide_eq_false_iff_not, Bool.not_eq_eq_eq_not, Bool.not_true, Bool.not_false, Bool.and_eq_true, Bool.or_eq_true, bne_iff_ne, beq_iff_eq, ne_eq, Decidable.not_not] at hc) <;> (try (exfalso; first | contradiction | omega; done))))
    | (show LS _ _ _ _ _ (⟨some _, .move _, _, _, _, none⟩ :: _) _; first | refine LS_q (Q_move rfl) rfl ?_)
    | (show LS _ _ _ _ _ (⟨some _, .load _ _, _, _, _, none⟩ :: _) _; first | refine LS_q (Q_load rfl inferInstance inferInstance rfl) rfl ?_ | refine LS_q (Q_loadA rfl inferInstance inferInstance rfl) rfl ?_ | refine LS_q (Q_loadR rfl inferInstance inferInstance inferInstance (by assumption) rfl) rfl ?_ | refine LS_q (Q_loadR rfl inferInstance inferInstance inferInstance rfl rfl) rfl ?_ | refine LS_q (Q_loadRA rfl inferInstance inferInstance inferInstance (by assumption)) rfl ?_)
    | (show LS _ _ _ _ _ (⟨some _, .binOp _ _ _ _ _, _, _, _, none⟩ :: _) _; first | refine LS_q (Q_bin_t rfl rfl inferInstance (by first | assumption | omega | decide | rfl)) rfl ?_ | refine LS_q (Q_bin_f rfl rfl inferInstance (by first | assumption | omega | decide | rfl)) rfl ?_ | refine LS_q (Q_bin_nt rfl rfl inferInstance (by first | assumption | omega | decide | rfl)) rfl ?_ | refine LS_q (Q_bin_nf rfl rfl inferInstance (by first | assumption | omega | decide | rfl)) rfl ?_ | refine LS_q (Q_bin rfl rfl inferInstance) rfl ?_ | refine LS_q (Q_addI rfl rfl (by omega)) rfl ?_ | refine LS_q (Q_subI rfl rfl (by omega)) rfl ?_ | refine LS_q (Q_addS rfl rfl (by (try simp only [List.length_append, List.length_cons, List.length_nil, be_length, List.length_set]); omega)) rfl ?_ | refine LS_q (Q_quoI rfl rfl (by omega)) rfl ?_ | refine LS_q (Q_remI rfl rfl (by omega)) rfl ?_ | refine LS_q (Q_mulI rfl rfl (by omega)) rfl ?_)
    | (show LS _ _ _ _ _ (⟨some _, .assign _, _, _, _, none⟩ :: _) _; first | refine LS_q (Q_assign rfl) rfl ?_)
    | (show LS _ _ _ _ _ (⟨some _, .pick _ _ _, _, _, _, none⟩ :: _) _; first | refine LS_q (Q_pick_t rfl inferInstance rfl) rfl ?_ | refine LS_q (Q_pick_f rfl inferInstance rfl) rfl ?_ | refine LS_q (Q_pick rfl rfl rfl) rfl ?_)
    | (show LS _ _ _ _ _ (⟨some _, .extract _ _, _, _, _, none⟩ :: _) _; first | refine LS_q (Q_extract rfl rfl) rfl ?_)
    | (show LS _ _ _ _ _ (⟨some _, .call ⟨.builtin .len, _, _⟩, _, _, _, none⟩ :: _) _; first | refine LS_q (Q_len rfl inferInstance) rfl ?_ | refine LS_q (Q_lenS rfl inferInstance) rfl ?_ | refine LS_q (Q_lenR rfl inferInstance inferInstance) rfl ?_ | refine LS_q (Q_lenM rfl inferInstance inferInstance) rfl ?_)
    | (show LS _ _ _ _ _ (⟨some _, .convert _ _ _, _, _, _, none⟩ :: _) _; first | refine LS_q (Q_conv32_8 rfl inferInstance inferInstance inferInstance) rfl ?_ | refine LS_q (Q_conv64 rfl inferInstance inferInstance inferInstance) rfl ?_ | refine LS_q (Q_conv32 rfl inferInstance inferInstance inferInstance) rfl ?_ | refine LS_q (Q_convS rfl inferInstance rfl inferInstance inferInstance inferInstance) rfl ?_ | refine LS_q (Q_convSame rfl inferInstance inferInstance (by omega)) rfl ?_ | refine LS_q (Q_convI8 rfl inferInstance inferInstance) rfl ?_ | refine LS_q (Q_conv328 rfl inferInstance inferInstance) rfl ?_ | refine LS_q (Q_conv8 rfl inferInstance inferInstance) rfl ?_ | refine LS_q (Q_bytesS rfl inferInstance inferInstance rfl inferInstance inferInstance inferInstance) rfl ?_)
    | (show LS _ _ _ _ _ (⟨some _, .box _ _, _, _, _, none⟩ :: _) _; first | (refine LS_h (H_box rfl) rfl ?_; intro g) | (refine LS_h (H_boxO rfl inferInstance) rfl ?_; intro g) | (refine LS_h (H_box1 rfl (by first | rfl | assumption)) rfl ?_; intro g))
    | (refine LS_h (H_buildB inferInstance inferInstance inferInstance rfl rfl rfl rfl rfl inferInstance rfl rfl) rfl ?_; intro g)
    | (refine LS_h (H_buildSlice inferInstance inferInstance inferInstance rfl rfl rfl rfl rfl) rfl ?_; intro g)
    | (show LS _ _ _ _ _ (⟨some _, .call ⟨.builtin .append, _, _⟩, _, _, _, none⟩ :: _) _; first | (refine LS_h (H_appendD rfl rfl inferInstance inferInstance rfl inferInstance inferInstance byteC_one (by (try simp only [List.length_append, List.length_cons, List.length_nil, be_length, List.length_set]); omega) rfl) rfl ?_; intro g) | (refine LS_h (H_appendB rfl rfl inferInstance inferInstance inferInstance rfl rfl inferInstance (by (try simp only [List.length_append, List.length_cons, List.length_nil, be_length, List.length_set]); omega) rfl) rfl ?_; intro g) | (refine LS_h (H_appendS rfl rfl inferInstance rfl inferInstance inferInstance (by (try simp only [List.length_append, List.length_cons, List.length_nil, be_length, List.length_set]); omega) rfl) rfl ?_; intro g))
    | refine WS_block ?_
    | refine WS_skip ?_
    | refine WS_ret ?_
    | refine WS_exit ?_
    | refine WS_label ?_
    | (show WS _ _ _ (.cond _ _ _) _ _; first | refine WS_condT rfl inferInstance ?_ | refine WS_condF rfl inferInstance ?_ | refine WS_condH_t rfl (by assumption) ?_ | refine WS_condH_f rfl (by assumption) ?_ | (refine WS_cond rfl ?_ ?_ <;> intro hc <;> (try simp only [decide_eq_true_eq, decide_eq_false_iff_not, Bool.not_eq_eq_eq_not, Bool.not_true, Bool.not_false, Bool.and_eq_true, Bool.or_eq_true, bne_iff_ne, beq_iff_eq, ne_eq, Decidable.not_not] at hc) <;> (try (exfalso; first | contradiction | omega; done))))
    | (refine LS_h (H_callX inferInstance rfl hw inferInstance) rfl ?_; intro vw)
    | (refine LS_h (H_callX inferInstance rfl hw2 inferInstance) rfl ?_; intro u2)
    | (refine LS_h (H_convB rfl inferInstance inferInstance inferInstance (by (try simp only [List.length_append, List.length_cons, List.length_nil, be_length, List.length_set]); omega)) rfl ?_; intro vs)
    | (refine LS_h (H_callX inferInstance rfl (hr vs) inferInstance) rfl ?_; intro m1)
    | (refine LS_h (H_callX inferInstance rfl hr2 inferInstance) rfl ?_; intro m2)
    | (refine LS_h (H_callX inferInstance rfl (hrc m1 m2) inferInstance) rfl ?_; intro u3)
    | (refine LS_h (H_buildSlice0R Rec.cells inferInstance inferInstance) rfl ?_; intro v0)
    | (refine LS_h (H_appendO X rfl rfl inferInstance hX inferInstance rfl inferInstance inferInstance recC_one (by (try simp only [List.length_append, List.length_cons, List.length_nil, be_length, List.length_set]); omega) rfl) rfl ?_; intro va)
    | (refine LS_h (H_callX inferInstance rfl (hc va) inferInstance) rfl ?_; intro c1)
    | (refine LS_h (H_callX inferInstance rfl hc2 inferInstance) rfl ?_; intro c2)
    | (refine LS_h (H_callX inferInstance rfl (hrc2 c1 c2) inferInstance) rfl ?_; intro u4))
  exact ret_tmp (.inl rfl) rfl rfl ⟨(), rfl, by ((try simp only [star_assoc, emp_star, star_emp]); (repeat' (first | exact Ent.last | refine Ent.take ?_ | refine Ent.nilT ?_ | refine Ent.takeR (by first | rfl | assumption | (simp; done)) ?_ | exact Ent.refl _)))⟩
end Go.Proofs.Ytapoehkdnglahaa
