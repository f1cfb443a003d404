/- What mesh's Timers and the law Timed return, by a walk. -/
import Derived.Test.YtapoehkdnglahaaTimS4
import Derived.Test.YtapoehkdnglahaaTimR
namespace Go.Proofs.Ytapoehkdnglahaa
open Go.RowKit
set_option linter.unusedVariables false
set_option linter.unusedSimpArgs false
attribute [local irreducible] WS LS OpQ OpT OpH OpTQ Spec SpecQ cel
variable (w0 : World)
/-- mesh's Timers at block g. -/
def mtQ (g : Nat) (last : Int) (l : List Tm) : HProp := hex fun b => hex fun r => cel g 116 [ptr b 0] * heapQ b r last l
theorem ent_mtQ {g b r : Nat} {last : Int} {l : List Tm} {H F : HProp} (h : Ent H (cel g 116 [ptr b 0] * (heapQ b r last l * F))) : Ent H (mtQ g last l * F) :=
  h.trans ((Ent.of_eq (star_assoc _ _ _).symm).trans ((Ent.hex_in (p := fun r => cel g 116 [ptr b 0] * heapQ b r last l) r).trans (Ent.hex_in (p := fun b => hex fun r => cel g 116 [ptr b 0] * heapQ b r last l) b)))
theorem WS_mtQ {P : Program} {n : Frm} {w0 : World} {c : Code} {Q : Exit → St → Prop} {E : Env} {D : List Deferred} {F : HProp} {g : Nat} {last : Int} {l : List Tm} (h : ∀ b r, WS P n w0 c Q ⟨E, D, cel g 116 [ptr b 0] * (heapQ b r last l * F)⟩) : WS P n w0 c Q ⟨E, D, mtQ g last l * F⟩ := by
  refine WS_hex fun b => WS_hex fun r => ?_
  exact WS_ent (Ent.of_eq (star_assoc _ _ _)) (h b r)
set_option maxRecDepth 100000 in
theorem mnew_spec : Spec Try.prog w0 22 [] emp (fun x : Nat => ptr x 0) (fun x => mtQ x 0 []) := by
  refine Spec.enter Try.func22 rfl Try.ntmps22 rfl fun G => ?_
  simp only [argE]
  repeat' (first
    | (refine WS_seqK ?_; intro K hK)
    | (refine hK _ ?_; clear hK K)
    | with_reducible refine thenS_n ?_
    | with_reducible refine thenS_e ?_
    | with_reducible refine blockS_n ?_
    | with_reducible refine blockS_e ?_
    | with_reducible refine blockS_o rfl ?_
    | with_reducible refine thenS_r ?_
    | with_reducible refine blockS_r ?_
    | with_reducible refine use_K (by assumption) ?_
    | refine WS_region ?_
    | refine LS_nil ?_
    | (show LS _ _ _ _ _ (⟨some _, .assign _, _, _, _, none⟩ :: _) _; first | refine LS_q (Q_assign rfl) rfl ?_)
    | (show LS _ _ _ _ _ (⟨some _, .box _ _, _, _, _, none⟩ :: _) _; first | (refine LS_h (H_box rfl) rfl ?_; intro g) | (refine LS_h (H_boxO rfl inferInstance) rfl ?_; intro g) | (refine LS_h (H_box1 rfl (by first | rfl | assumption)) rfl ?_; intro g))
    | (show LS _ _ _ _ _ (⟨some _, .build _ _, _, _, _, none⟩ :: _) _; first | refine LS_q (Q_build inferInstance inferInstance rfl rfl) rfl ?_ | refine LS_q (Q_buildA inferInstance inferInstance inferInstance rfl rfl) rfl ?_)
    | refine WS_block ?_
    | refine WS_skip ?_
    | refine WS_ret ?_
    | refine WS_exit ?_
    | refine WS_label ?_
    | (show WS _ _ _ (.cond _ _ _) _ _; first | refine WS_condT rfl inferInstance ?_ | refine WS_condF rfl inferInstance ?_ | refine WS_condH_t rfl (by assumption) ?_ | refine WS_condH_f rfl (by assumption) ?_ | (refine WS_cond rfl ?_ ?_ <;> intro hc <;> (try simp only [decide_eq_true_eq, decide_eq_false_iff_not, Bool.not_eq_eq_eq_not, Bool.not_true, Bool.not_false, Bool.and_eq_true, Bool.or_eq_true, bne_iff_ne, beq_iff_eq, ne_eq, Decidable.not_not] at hc) <;> (try (exfalso; first | contradiction | omega; done))))
    | (refine LS_h (H_callX inferInstance rfl (hnew_spec w0) inferInstance) rfl ?_; intro x))
  exact ret_1 (.inl rfl) rfl (RV_tmp rfl) ⟨g, rfl, ent_mtQ (b := x.1) (r := x.2) (by ((try simp only [star_assoc, emp_star, star_emp]); (repeat' (first | exact Ent.last | refine Ent.take ?_ | refine Ent.nilT ?_ | refine Ent.takeR (by first | rfl | assumption | (simp; done)) ?_ | exact Ent.refl _))))⟩
set_option maxRecDepth 100000 in
theorem madd_spec (g : Nat) (last : Int) (l : List Tm) (t : UInt64) (x : Int) (hx : ∀ u ∈ l, u.id ≠ last + 1) (hn : IdN l) (hl : l.length ≤ 900000) (h0 : 0 ≤ last ∧ last ≤ 900000) :
    Spec Try.prog w0 23 [ptr g 0, u64 t, .int .i64 x] (mtQ g last l) (fun _ : Unit => .int .i64 (last + 1)) (fun _ => mtQ g (last + 1) (addF l ⟨t, last + 1, x⟩)) := by
  refine Spec.enter Try.func23 rfl Try.ntmps23 rfl fun G => ?_
  simp only [argE]
  refine WS_mtQ fun b r => ?_
  repeat' (first
    | (refine WS_seqK ?_; intro K hK)
    | (refine hK _ ?_; clear hK K)
    | with_reducible refine thenS_n ?_
    | with_reducible refine thenS_e ?_
    | with_reducible refine blockS_n ?_
    | with_reducible refine blockS_e ?_
    | with_reducible refine blockS_o rfl ?_
    | with_reducible refine thenS_r ?_
    | with_reducible refine blockS_r ?_
    | with_reducible refine use_K (by assumption) ?_
    | refine WS_region ?_
    | refine LS_nil ?_
    | (show LS _ _ _ _ _ (⟨some _, .move _, _, _, _, none⟩ :: _) _; first | refine LS_q (Q_move rfl) rfl ?_)
    | (show LS _ _ _ _ _ (⟨some _, .fieldAddr _ _ _, _, _, _, none⟩ :: _) _; first | refine LS_q (Q_fieldAddr rfl inferInstance rfl) rfl ?_ | refine LS_q (Q_fieldR rfl inferInstance inferInstance rfl (by first | assumption | omega | ((try simp only [List.length_append, List.length_cons, List.length_nil, be_length, List.length_set]); omega))) rfl ?_)
    | (show LS _ _ _ _ _ (⟨some _, .load _ _, _, _, _, none⟩ :: _) _; first | refine LS_q (Q_load rfl inferInstance inferInstance rfl) rfl ?_ | refine LS_q (Q_loadA rfl inferInstance inferInstance rfl) rfl ?_ | refine LS_q (Q_loadR rfl inferInstance inferInstance inferInstance (by assumption) rfl) rfl ?_ | refine LS_q (Q_loadR rfl inferInstance inferInstance inferInstance rfl rfl) rfl ?_ | refine LS_q (Q_loadRA rfl inferInstance inferInstance inferInstance (by assumption)) rfl ?_)
    | (show LS _ _ _ _ _ (⟨some _, .assign _, _, _, _, none⟩ :: _) _; first | refine LS_q (Q_assign rfl) rfl ?_)
    | (show LS _ _ _ _ _ (⟨some _, .nilCheck _, _, _, _, none⟩ :: _) _; first | refine LS_q (Q_nilCheck rfl) rfl ?_ | refine LS_q (Q_nilCheck_f rfl) rfl ?_)
    | refine WS_block ?_
    | refine WS_skip ?_
    | refine WS_ret ?_
    | refine WS_exit ?_
    | refine WS_label ?_
    | (show WS _ _ _ (.cond _ _ _) _ _; first | refine WS_condT rfl inferInstance ?_ | refine WS_condF rfl inferInstance ?_ | refine WS_condH_t rfl (by assumption) ?_ | refine WS_condH_f rfl (by assumption) ?_ | (refine WS_cond rfl ?_ ?_ <;> intro hc <;> (try simp only [decide_eq_true_eq, decide_eq_false_iff_not, Bool.not_eq_eq_eq_not, Bool.not_true, Bool.not_false, Bool.and_eq_true, Bool.or_eq_true, bne_iff_ne, beq_iff_eq, ne_eq, Decidable.not_not] at hc) <;> (try (exfalso; first | contradiction | omega; done))))
    | (refine LS_h (H_callX inferInstance rfl (hadd_spec w0 b r last l t x hx hn hl h0) inferInstance) rfl ?_; intro g))
  exact ret_1 (.inl rfl) rfl (RV_tmp rfl) ⟨(), rfl, ent_mtQ (b := b) (r := r) (by ((try simp only [star_assoc, emp_star, star_emp]); (repeat' (first | exact Ent.last | refine Ent.take ?_ | refine Ent.nilT ?_ | refine Ent.takeR (by first | rfl | assumption | (simp; done)) ?_ | exact Ent.refl _))))⟩
set_option maxRecDepth 100000 in
theorem mcancel_none (g : Nat) (last : Int) (l : List Tm) (x : Int) (h : ∀ k, k < l.length → (at' l k).id ≠ x) :
    Spec Try.prog w0 25 [ptr g 0, .int .i64 x] (mtQ g last l) (fun _ : Unit => .bool false) (fun _ => mtQ g last l) := by
  refine Spec.enter Try.func25 rfl Try.ntmps25 rfl fun G => ?_
  simp only [argE]
  refine WS_mtQ fun b r => ?_
  repeat' (first
    | (refine WS_seqK ?_; intro K hK)
    | (refine hK _ ?_; clear hK K)
    | with_reducible refine thenS_n ?_
    | with_reducible refine thenS_e ?_
    | with_reducible refine blockS_n ?_
    | with_reducible refine blockS_e ?_
    | with_reducible refine blockS_o rfl ?_
    | with_reducible refine thenS_r ?_
    | with_reducible refine blockS_r ?_
    | with_reducible refine use_K (by assumption) ?_
    | refine WS_region ?_
    | refine LS_nil ?_
    | (show LS _ _ _ _ _ (⟨some _, .move _, _, _, _, none⟩ :: _) _; first | refine LS_q (Q_move rfl) rfl ?_)
    | (show LS _ _ _ _ _ (⟨some _, .fieldAddr _ _ _, _, _, _, none⟩ :: _) _; first | refine LS_q (Q_fieldAddr rfl inferInstance rfl) rfl ?_ | refine LS_q (Q_fieldR rfl inferInstance inferInstance rfl (by first | assumption | omega | ((try simp only [List.length_append, List.length_cons, List.length_nil, be_length, List.length_set]); omega))) rfl ?_)
    | (show LS _ _ _ _ _ (⟨some _, .load _ _, _, _, _, none⟩ :: _) _; first | refine LS_q (Q_load rfl inferInstance inferInstance rfl) rfl ?_ | refine LS_q (Q_loadA rfl inferInstance inferInstance rfl) rfl ?_ | refine LS_q (Q_loadR rfl inferInstance inferInstance inferInstance (by assumption) rfl) rfl ?_ | refine LS_q (Q_loadR rfl inferInstance inferInstance inferInstance rfl rfl) rfl ?_ | refine LS_q (Q_loadRA rfl inferInstance inferInstance inferInstance (by assumption)) rfl ?_)
    | (show LS _ _ _ _ _ (⟨some _, .assign _, _, _, _, none⟩ :: _) _; first | refine LS_q (Q_assign rfl) rfl ?_)
    | (show LS _ _ _ _ _ (⟨some _, .nilCheck _, _, _, _, none⟩ :: _) _; first | refine LS_q (Q_nilCheck rfl) rfl ?_ | refine LS_q (Q_nilCheck_f rfl) rfl ?_)
    | refine WS_block ?_
    | refine WS_skip ?_
    | refine WS_ret ?_
    | refine WS_exit ?_
    | refine WS_label ?_
    | (show WS _ _ _ (.cond _ _ _) _ _; first | refine WS_condT rfl inferInstance ?_ | refine WS_condF rfl inferInstance ?_ | refine WS_condH_t rfl (by assumption) ?_ | refine WS_condH_f rfl (by assumption) ?_ | (refine WS_cond rfl ?_ ?_ <;> intro hc <;> (try simp only [decide_eq_true_eq, decide_eq_false_iff_not, Bool.not_eq_eq_eq_not, Bool.not_true, Bool.not_false, Bool.and_eq_true, Bool.or_eq_true, bne_iff_ne, beq_iff_eq, ne_eq, Decidable.not_not] at hc) <;> (try (exfalso; first | contradiction | omega; done))))
    | (refine LS_h (H_callX inferInstance rfl (hcancel_none w0 b r last l x h) inferInstance) rfl ?_; intro g))
  exact ret_1 (.inl rfl) rfl (RV_tmp rfl) ⟨(), rfl, ent_mtQ (b := b) (r := r) (by ((try simp only [star_assoc, emp_star, star_emp]); (repeat' (first | exact Ent.last | refine Ent.take ?_ | refine Ent.nilT ?_ | refine Ent.takeR (by first | rfl | assumption | (simp; done)) ?_ | exact Ent.refl _))))⟩
set_option maxRecDepth 100000 in
theorem mcancel_some (g : Nat) (last : Int) (l : List Tm) (x : Int) (i : Nat) (hi : i < l.length) (hid : (at' l i).id = x) (hn : IdN l) (hl : l.length ≤ 900000) :
    Spec Try.prog w0 25 [ptr g 0, .int .i64 x] (mtQ g last l) (fun _ : Unit => .bool true) (fun _ => mtQ g last (remF l i)) := by
  refine Spec.enter Try.func25 rfl Try.ntmps25 rfl fun G => ?_
  simp only [argE]
  refine WS_mtQ fun b r => ?_
  repeat' (first
    | (refine WS_seqK ?_; intro K hK)
    | (refine hK _ ?_; clear hK K)
    | with_reducible refine thenS_n ?_
    | with_reducible refine thenS_e ?_
    | with_reducible refine blockS_n ?_
    | with_reducible refine blockS_e ?_
    | with_reducible refine blockS_o rfl ?_
    | with_reducible refine thenS_r ?_
    | with_reducible refine blockS_r ?_
    | with_reducible refine use_K (by assumption) ?_
    | refine WS_region ?_
    | refine LS_nil ?_
    | (show LS _ _ _ _ _ (⟨some _, .move _, _, _, _, none⟩ :: _) _; first | refine LS_q (Q_move rfl) rfl ?_)
    | (show LS _ _ _ _ _ (⟨some _, .fieldAddr _ _ _, _, _, _, none⟩ :: _) _; first | refine LS_q (Q_fieldAddr rfl inferInstance rfl) rfl ?_ | refine LS_q (Q_fieldR rfl inferInstance inferInstance rfl (by first | assumption | omega | ((try simp only [List.length_append, List.length_cons, List.length_nil, be_length, List.length_set]); omega))) rfl ?_)
    | (show LS _ _ _ _ _ (⟨some _, .load _ _, _, _, _, none⟩ :: _) _; first | refine LS_q (Q_load rfl inferInstance inferInstance rfl) rfl ?_ | refine LS_q (Q_loadA rfl inferInstance inferInstance rfl) rfl ?_ | refine LS_q (Q_loadR rfl inferInstance inferInstance inferInstance (by assumption) rfl) rfl ?_ | refine LS_q (Q_loadR rfl inferInstance inferInstance inferInstance rfl rfl) rfl ?_ | refine LS_q (Q_loadRA rfl inferInstance inferInstance inferInstance (by assumption)) rfl ?_)
    | (show LS _ _ _ _ _ (⟨some _, .assign _, _, _, _, none⟩ :: _) _; first | refine LS_q (Q_assign rfl) rfl ?_)
    | (show LS _ _ _ _ _ (⟨some _, .nilCheck _, _, _, _, none⟩ :: _) _; first | refine LS_q (Q_nilCheck rfl) rfl ?_ | refine LS_q (Q_nilCheck_f rfl) rfl ?_)
    | refine WS_block ?_
    | refine WS_skip ?_
    | refine WS_ret ?_
    | refine WS_exit ?_
    | refine WS_label ?_
    | (show WS _ _ _ (.cond _ _ _) _ _; first | refine WS_condT rfl inferInstance ?_ | refine WS_condF rfl inferInstance ?_ | refine WS_condH_t rfl (by assumption) ?_ | refine WS_condH_f rfl (by assumption) ?_ | (refine WS_cond rfl ?_ ?_ <;> intro hc <;> (try simp only [decide_eq_true_eq, decide_eq_false_iff_not, Bool.not_eq_eq_eq_not, Bool.not_true, Bool.not_false, Bool.and_eq_true, Bool.or_eq_true, bne_iff_ne, beq_iff_eq, ne_eq, Decidable.not_not] at hc) <;> (try (exfalso; first | contradiction | omega; done))))
    | (refine LS_h (H_callX inferInstance rfl (hcancel_some w0 b r last l x i hi hid hn hl) inferInstance) rfl ?_; intro g))
  exact ret_1 (.inl rfl) rfl (RV_tmp rfl) ⟨(), rfl, ent_mtQ (b := b) (r := r) (by ((try simp only [star_assoc, emp_star, star_emp]); (repeat' (first | exact Ent.last | refine Ent.take ?_ | refine Ent.nilT ?_ | refine Ent.takeR (by first | rfl | assumption | (simp; done)) ?_ | exact Ent.refl _))))⟩
set_option maxRecDepth 100000 in
theorem mnext_none (g : Nat) (last : Int) (l : List Tm) (now : UInt64) (h : 0 < l.length → now < (at' l 0).at_) :
    Spec Try.prog w0 27 [ptr g 0, u64 now] (mtQ g last l) (fun _ : Unit => .tuple #[.int .i64 0, .bool false]) (fun _ => mtQ g last l) := by
  refine Spec.enter Try.func27 rfl Try.ntmps27 rfl fun G => ?_
  simp only [argE]
  refine WS_mtQ fun b r => ?_
  repeat' (first
    | (refine WS_seqK ?_; intro K hK)
    | (refine hK _ ?_; clear hK K)
    | with_reducible refine thenS_n ?_
    | with_reducible refine thenS_e ?_
    | with_reducible refine blockS_n ?_
    | with_reducible refine blockS_e ?_
    | with_reducible refine blockS_o rfl ?_
    | with_reducible refine thenS_r ?_
    | with_reducible refine blockS_r ?_
    | with_reducible refine use_K (by assumption) ?_
    | refine WS_region ?_
    | refine LS_nil ?_
    | (show LS _ _ _ _ _ (⟨some _, .move _, _, _, _, none⟩ :: _) _; first | refine LS_q (Q_move rfl) rfl ?_)
    | (show LS _ _ _ _ _ (⟨some _, .fieldAddr _ _ _, _, _, _, none⟩ :: _) _; first | refine LS_q (Q_fieldAddr rfl inferInstance rfl) rfl ?_ | refine LS_q (Q_fieldR rfl inferInstance inferInstance rfl (by first | assumption | omega | ((try simp only [List.length_append, List.length_cons, List.length_nil, be_length, List.length_set]); omega))) rfl ?_)
    | (show LS _ _ _ _ _ (⟨some _, .load _ _, _, _, _, none⟩ :: _) _; first | refine LS_q (Q_load rfl inferInstance inferInstance rfl) rfl ?_ | refine LS_q (Q_loadA rfl inferInstance inferInstance rfl) rfl ?_ | refine LS_q (Q_loadR rfl inferInstance inferInstance inferInstance (by assumption) rfl) rfl ?_ | refine LS_q (Q_loadR rfl inferInstance inferInstance inferInstance rfl rfl) rfl ?_ | refine LS_q (Q_loadRA rfl inferInstance inferInstance inferInstance (by assumption)) rfl ?_)
    | (show LS _ _ _ _ _ (⟨some _, .assign _, _, _, _, none⟩ :: _) _; first | refine LS_q (Q_assign rfl) rfl ?_)
    | (show LS _ _ _ _ _ (⟨some _, .extract _ _, _, _, _, none⟩ :: _) _; first | refine LS_q (Q_extract rfl rfl) rfl ?_)
    | (show LS _ _ _ _ _ (⟨some _, .nilCheck _, _, _, _, none⟩ :: _) _; first | refine LS_q (Q_nilCheck rfl) rfl ?_ | refine LS_q (Q_nilCheck_f rfl) rfl ?_)
    | refine WS_block ?_
    | refine WS_skip ?_
    | refine WS_ret ?_
    | refine WS_exit ?_
    | refine WS_label ?_
    | (show WS _ _ _ (.cond _ _ _) _ _; first | refine WS_condT rfl inferInstance ?_ | refine WS_condF rfl inferInstance ?_ | refine WS_condH_t rfl (by assumption) ?_ | refine WS_condH_f rfl (by assumption) ?_ | (refine WS_cond rfl ?_ ?_ <;> intro hc <;> (try simp only [decide_eq_true_eq, decide_eq_false_iff_not, Bool.not_eq_eq_eq_not, Bool.not_true, Bool.not_false, Bool.and_eq_true, Bool.or_eq_true, bne_iff_ne, beq_iff_eq, ne_eq, Decidable.not_not] at hc) <;> (try (exfalso; first | contradiction | omega; done))))
    | (refine LS_h (H_callX inferInstance rfl (hnext_none w0 b r last l now h) inferInstance) rfl ?_; intro g))
  exact ret_2 (.inl rfl) rfl (RV_tmp rfl) (RV_tmp rfl) ⟨(), rfl, ent_mtQ (b := b) (r := r) (by ((try simp only [star_assoc, emp_star, star_emp]); (repeat' (first | exact Ent.last | refine Ent.take ?_ | refine Ent.nilT ?_ | refine Ent.takeR (by first | rfl | assumption | (simp; done)) ?_ | exact Ent.refl _))))⟩
set_option maxRecDepth 100000 in
theorem mnext_some (g : Nat) (last : Int) (l : List Tm) (now : UInt64) (h0 : 0 < l.length) (h1 : ¬ now < (at' l 0).at_) (hn : IdN l) (hl : l.length ≤ 900000) :
    Spec Try.prog w0 27 [ptr g 0, u64 now] (mtQ g last l) (fun _ : Unit => .tuple #[.int .i64 (at' l 0).what, .bool true]) (fun _ => mtQ g last (remF l 0)) := by
  refine Spec.enter Try.func27 rfl Try.ntmps27 rfl fun G => ?_
  simp only [argE]
  refine WS_mtQ fun b r => ?_
  repeat' (first
    | (refine WS_seqK ?_; intro K hK)
    | (refine hK _ ?_; clear hK K)
    | with_reducible refine thenS_n ?_
    | with_reducible refine thenS_e ?_
    | with_reducible refine blockS_n ?_
    | with_reducible refine blockS_e ?_
    | with_reducible refine blockS_o rfl ?_
    | with_reducible refine thenS_r ?_
    | with_reducible refine blockS_r ?_
    | with_reducible refine use_K (by assumption) ?_
    | refine WS_region ?_
    | refine LS_nil ?_
    | (show LS _ _ _ _ _ (⟨some _, .move _, _, _, _, none⟩ :: _) _; first | refine LS_q (Q_move rfl) rfl ?_)
    | (show LS _ _ _ _ _ (⟨some _, .fieldAddr _ _ _, _, _, _, none⟩ :: _) _; first | refine LS_q (Q_fieldAddr rfl inferInstance rfl) rfl ?_ | refine LS_q (Q_fieldR rfl inferInstance inferInstance rfl (by first | assumption | omega | ((try simp only [List.length_append, List.length_cons, List.length_nil, be_length, List.length_set]); omega))) rfl ?_)
    | (show LS _ _ _ _ _ (⟨some _, .load _ _, _, _, _, none⟩ :: _) _; first | refine LS_q (Q_load rfl inferInstance inferInstance rfl) rfl ?_ | refine LS_q (Q_loadA rfl inferInstance inferInstance rfl) rfl ?_ | refine LS_q (Q_loadR rfl inferInstance inferInstance inferInstance (by assumption) rfl) rfl ?_ | refine LS_q (Q_loadR rfl inferInstance inferInstance inferInstance rfl rfl) rfl ?_ | refine LS_q (Q_loadRA rfl inferInstance inferInstance inferInstance (by assumption)) rfl ?_)
    | (show LS _ _ _ _ _ (⟨some _, .assign _, _, _, _, none⟩ :: _) _; first | refine LS_q (Q_assign rfl) rfl ?_)
    | (show LS _ _ _ _ _ (⟨some _, .extract _ _, _, _, _, none⟩ :: _) _; first | refine LS_q (Q_extract rfl rfl) rfl ?_)
    | (show LS _ _ _ _ _ (⟨some _, .nilCheck _, _, _, _, none⟩ :: _) _; first | refine LS_q (Q_nilCheck rfl) rfl ?_ | refine LS_q (Q_nilCheck_f rfl) rfl ?_)
    | refine WS_block ?_
    | refine WS_skip ?_
    | refine WS_ret ?_
    | refine WS_exit ?_
    | refine WS_label ?_
    | (show WS _ _ _ (.cond _ _ _) _ _; first | refine WS_condT rfl inferInstance ?_ | refine WS_condF rfl inferInstance ?_ | refine WS_condH_t rfl (by assumption) ?_ | refine WS_condH_f rfl (by assumption) ?_ | (refine WS_cond rfl ?_ ?_ <;> intro hc <;> (try simp only [decide_eq_true_eq, decide_eq_false_iff_not, Bool.not_eq_eq_eq_not, Bool.not_true, Bool.not_false, Bool.and_eq_true, Bool.or_eq_true, bne_iff_ne, beq_iff_eq, ne_eq, Decidable.not_not] at hc) <;> (try (exfalso; first | contradiction | omega; done))))
    | (refine LS_h (H_callX inferInstance rfl (hnext_some w0 b r last l now h0 h1 hn hl) inferInstance) rfl ?_; intro g))
  exact ret_2 (.inl rfl) rfl (RV_tmp rfl) (RV_tmp rfl) ⟨(), rfl, ent_mtQ (b := b) (r := r) (by ((try simp only [star_assoc, emp_star, star_emp]); (repeat' (first | exact Ent.last | refine Ent.take ?_ | refine Ent.nilT ?_ | refine Ent.takeR (by first | rfl | assumption | (simp; done)) ?_ | exact Ent.refl _))))⟩
set_option maxRecDepth 100000 in
theorem mlen_spec (g : Nat) (last : Int) (l : List Tm) :
    Spec Try.prog w0 29 [ptr g 0] (mtQ g last l) (fun _ : Unit => .int .i64 (l.length : Int)) (fun _ => mtQ g last l) := by
  refine Spec.enter Try.func29 rfl Try.ntmps29 rfl fun G => ?_
  simp only [argE]
  refine WS_mtQ fun b r => ?_
  repeat' (first
    | (refine WS_seqK ?_; intro K hK)
    | (refine hK _ ?_; clear hK K)
    | with_reducible refine thenS_n ?_
    | with_reducible refine thenS_e ?_
    | with_reducible refine blockS_n ?_
    | with_reducible refine blockS_e ?_
    | with_reducible refine blockS_o rfl ?_
    | with_reducible refine thenS_r ?_
    | with_reducible refine blockS_r ?_
    | with_reducible refine use_K (by assumption) ?_
    | refine WS_region ?_
    | refine LS_nil ?_
    | (show LS _ _ _ _ _ (⟨some _, .move _, _, _, _, none⟩ :: _) _; first | refine LS_q (Q_move rfl) rfl ?_)
    | (show LS _ _ _ _ _ (⟨some _, .fieldAddr _ _ _, _, _, _, none⟩ :: _) _; first | refine LS_q (Q_fieldAddr rfl inferInstance rfl) rfl ?_ | refine LS_q (Q_fieldR rfl inferInstance inferInstance rfl (by first | assumption | omega | ((try simp only [List.length_append, List.length_cons, List.length_nil, be_length, List.length_set]); omega))) rfl ?_)
    | (show LS _ _ _ _ _ (⟨some _, .load _ _, _, _, _, none⟩ :: _) _; first | refine LS_q (Q_load rfl inferInstance inferInstance rfl) rfl ?_ | refine LS_q (Q_loadA rfl inferInstance inferInstance rfl) rfl ?_ | refine LS_q (Q_loadR rfl inferInstance inferInstance inferInstance (by assumption) rfl) rfl ?_ | refine LS_q (Q_loadR rfl inferInstance inferInstance inferInstance rfl rfl) rfl ?_ | refine LS_q (Q_loadRA rfl inferInstance inferInstance inferInstance (by assumption)) rfl ?_)
    | (show LS _ _ _ _ _ (⟨some _, .assign _, _, _, _, none⟩ :: _) _; first | refine LS_q (Q_assign rfl) rfl ?_)
    | (show LS _ _ _ _ _ (⟨some _, .nilCheck _, _, _, _, none⟩ :: _) _; first | refine LS_q (Q_nilCheck rfl) rfl ?_ | refine LS_q (Q_nilCheck_f rfl) rfl ?_)
    | refine WS_block ?_
    | refine WS_skip ?_
    | refine WS_ret ?_
    | refine WS_exit ?_
    | refine WS_label ?_
    | (show WS _ _ _ (.cond _ _ _) _ _; first | refine WS_condT rfl inferInstance ?_ | refine WS_condF rfl inferInstance ?_ | refine WS_condH_t rfl (by assumption) ?_ | refine WS_condH_f rfl (by assumption) ?_ | (refine WS_cond rfl ?_ ?_ <;> intro hc <;> (try simp only [decide_eq_true_eq, decide_eq_false_iff_not, Bool.not_eq_eq_eq_not, Bool.not_true, Bool.not_false, Bool.and_eq_true, Bool.or_eq_true, bne_iff_ne, beq_iff_eq, ne_eq, Decidable.not_not] at hc) <;> (try (exfalso; first | contradiction | omega; done))))
    | (refine LS_h (H_callX inferInstance rfl (hlen_spec w0 b r last l) inferInstance) rfl ?_; intro g))
  exact ret_1 (.inl rfl) rfl (RV_tmp rfl) ⟨(), rfl, ent_mtQ (b := b) (r := r) (by ((try simp only [star_assoc, emp_star, star_emp]); (repeat' (first | exact Ent.last | refine Ent.take ?_ | refine Ent.nilT ?_ | refine Ent.takeR (by first | rfl | assumption | (simp; done)) ?_ | exact Ent.refl _))))⟩
end Go.Proofs.Ytapoehkdnglahaa
