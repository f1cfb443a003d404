/- What wire.four and wire.Encode return, by a walk. -/
import Derived.Test.YtapoehkdnglahaaWireS
import Derived.Test.YtapoehkdnglahaaMore
namespace Go.Proofs.Ytapoehkdnglahaa
open Go.RowKit
set_option linter.unusedVariables false
set_option linter.unusedSimpArgs false
attribute [local irreducible] WS LS OpQ OpT OpH OpTQ Spec SpecQ cel
variable (w0 : World)
theorem four_spec (v : Value) (l : List UInt8) (x : UInt32) (hl : l.length ≤ 900000) : Spec Try.prog w0 88 [v, u32 x] (rows 5 1 byteC v l) (fun v' : Value => v') (fun v' => rows 5 1 byteC v' (l ++ be x)) := by
  refine Spec.enter Try.func88 rfl Try.ntmps88 rfl fun G => ?_
  simp only [argE, be_shr]
  repeat' (first
    | (refine WS_seqK ?_; intro K hK)
    | (refine hK _ ?_; clear hK K)
    | with_reducible refine thenS_n ?_
    | with_reducible refine thenS_e ?_
    | with_reducible refine blockS_n ?_
    | with_reducible refine blockS_e ?_
    | with_reducible refine blockS_o rfl ?_
    | with_reducible refine thenS_r ?_
    | with_reducible refine blockS_r ?_
    | with_reducible refine use_K (by assumption) ?_
    | refine WS_region ?_
    | refine LS_nil ?_
    | (show LS _ _ _ _ _ (⟨some _, .move _, _, _, _, none⟩ :: _) _; first | refine LS_q (Q_move rfl) rfl ?_)
    | (show LS _ _ _ _ _ (⟨some _, .binOp _ _ _ _ _, _, _, _, none⟩ :: _) _; first | refine LS_q (Q_bin_t rfl rfl inferInstance (by first | assumption | omega | decide)) rfl ?_ | refine LS_q (Q_bin_f rfl rfl inferInstance (by first | assumption | omega | decide)) rfl ?_ | refine LS_q (Q_bin_nt rfl rfl inferInstance (by first | assumption | omega | decide)) rfl ?_ | refine LS_q (Q_bin_nf rfl rfl inferInstance (by first | assumption | omega | decide)) rfl ?_ | refine LS_q (Q_bin rfl rfl inferInstance) rfl ?_ | refine LS_q (Q_addI rfl rfl (by omega)) rfl ?_ | refine LS_q (Q_subI rfl rfl (by omega)) rfl ?_ | refine LS_q (Q_addS rfl rfl (by (try simp only [List.length_append, List.length_cons, List.length_nil, be_length, List.length_set]); omega)) rfl ?_ | refine LS_q (Q_quoI rfl rfl (by omega)) rfl ?_ | refine LS_q (Q_remI rfl rfl (by omega)) rfl ?_ | refine LS_q (Q_mulI rfl rfl (by omega)) rfl ?_)
    | (show LS _ _ _ _ _ (⟨some _, .assign _, _, _, _, none⟩ :: _) _; first | refine LS_q (Q_assign rfl) rfl ?_)
    | (show LS _ _ _ _ _ (⟨some _, .convert _ _ _, _, _, _, none⟩ :: _) _; first | refine LS_q (Q_conv32_8 rfl inferInstance inferInstance inferInstance) rfl ?_ | refine LS_q (Q_conv64 rfl inferInstance inferInstance inferInstance) rfl ?_ | refine LS_q (Q_conv32 rfl inferInstance inferInstance inferInstance) rfl ?_ | refine LS_q (Q_convS rfl inferInstance rfl inferInstance inferInstance inferInstance) rfl ?_ | refine LS_q (Q_convSame rfl inferInstance inferInstance (by omega)) rfl ?_ | refine LS_q (Q_convI8 rfl inferInstance inferInstance) rfl ?_ | refine LS_q (Q_conv328 rfl inferInstance inferInstance) rfl ?_ | refine LS_q (Q_conv8 rfl inferInstance inferInstance) rfl ?_ | refine LS_q (Q_bytesS rfl inferInstance inferInstance rfl inferInstance inferInstance inferInstance) rfl ?_)
    | (refine LS_h (H_buildB inferInstance inferInstance inferInstance rfl rfl rfl rfl rfl inferInstance rfl rfl) rfl ?_; intro g)
    | (refine LS_h (H_buildSlice inferInstance inferInstance inferInstance rfl rfl rfl rfl rfl) rfl ?_; intro g)
    | (refine LS_h (H_buildSlice0 inferInstance inferInstance) rfl ?_; intro g)
    | (show LS _ _ _ _ _ (⟨some _, .call ⟨.builtin .append, _, _⟩, _, _, _, none⟩ :: _) _; first | (refine LS_h (H_appendD rfl rfl inferInstance inferInstance rfl inferInstance inferInstance byteC_one (by (try simp only [List.length_append, List.length_cons, List.length_nil, be_length, List.length_set]); omega) rfl) rfl ?_; intro g) | (refine LS_h (H_appendB rfl rfl inferInstance inferInstance inferInstance rfl rfl inferInstance (by (try simp only [List.length_append, List.length_cons, List.length_nil, be_length, List.length_set]); omega) rfl) rfl ?_; intro g) | (refine LS_h (H_appendS rfl rfl inferInstance rfl inferInstance inferInstance (by (try simp only [List.length_append, List.length_cons, List.length_nil, be_length, List.length_set]); omega) rfl) rfl ?_; intro g))
    | refine WS_block ?_
    | refine WS_skip ?_
    | refine WS_ret ?_
    | refine WS_exit ?_
    | refine WS_label ?_
    | (show WS _ _ _ (.cond _ _ _) _ _; first | refine WS_condT rfl inferInstance ?_ | refine WS_condF rfl inferInstance ?_ | refine WS_condH_t rfl (by assumption) ?_ | refine WS_condH_f rfl (by assumption) ?_ | (refine WS_cond rfl ?_ ?_ <;> intro hc <;> (try simp only [decide_eq_true_eq, decide_eq_false_iff_not, Bool.not_eq_eq_eq_not, Bool.not_true, Bool.not_false, Bool.and_eq_true, Bool.or_eq_true, bne_iff_ne, beq_iff_eq, ne_eq, Decidable.not_not] at hc) <;> (try (exfalso; first | contradiction | omega; done)))))
  all_goals exact ret_tmp (.inl rfl) rfl rfl ⟨_, rfl, Ent.refl _⟩
/-- What Encode's slice holds. -/
def Pk.out (p : Pk) : List UInt8 := if p.Fits then p.bytes else []
theorem Pk.out_fit {p : Pk} (h : p.Fits) : p.out = p.bytes := if_pos h
theorem Pk.out_not {p : Pk} (h : ¬ p.Fits) : p.out = [] := if_neg h
theorem Pk.Fits.kind {p : Pk} (h : p.Fits) : p.kind = 1 ∨ p.kind = 2 ∨ p.kind = 3 ∨ p.kind = 9 := by
  unfold Pk.Fits at h
  rcases h.2 with h | h | h | h <;> simp [h.1]
set_option maxRecDepth 100000 in
set_option maxHeartbeats 8000000 in
theorem encode_a (p : Pk) (hp : p.Ok) (h3 : p.kind ≠ 3) (v : Value) (X : HProp) [hX : Rdr w0 X v (UInt32 × UInt32) 2 lostC p.lost] : Spec Try.prog w0 59 [p.val v] X (fun v' : Value => .tuple #[v', .bool (decide p.Fits)]) (fun v' => rows 5 1 byteC v' p.out * X) := by
  have hfit := fits_spec w0 p hp v X
  obtain ⟨⟨t1, t2⟩, ⟨k1, k2⟩, ⟨h1, h2⟩, hl, hs⟩ := hp
  refine Spec.enter Try.func59 rfl Try.ntmps59 rfl fun G => ?_
  simp only [argE, Pk.val, Pk.cells]
  repeat' (first
    | (refine WS_seqK ?_; intro K hK)
    | (refine hK _ ?_; clear hK K)
    | with_reducible refine thenS_n ?_
    | with_reducible refine thenS_e ?_
    | with_reducible refine blockS_n ?_
    | with_reducible refine blockS_e ?_
    | with_reducible refine blockS_o rfl ?_
    | with_reducible refine thenS_r ?_
    | with_reducible refine blockS_r ?_
    | with_reducible refine use_K (by assumption) ?_
    | refine WS_region ?_
    | refine LS_nil ?_
    | (show LS _ _ _ _ _ (⟨some _, .move _, _, _, _, none⟩ :: _) _; first | refine LS_q (Q_move rfl) rfl ?_)
    | (show LS _ _ _ _ _ (⟨some _, .fieldAddr _ _ _, _, _, _, none⟩ :: _) _; first | refine LS_q (Q_fieldAddr rfl inferInstance rfl) rfl ?_ | refine LS_q (Q_fieldR rfl inferInstance inferInstance rfl (by first | assumption | omega | ((try simp only [List.length_append, List.length_cons, List.length_nil, be_length, List.length_set]); omega))) rfl ?_)
    | (show LS _ _ _ _ _ (⟨some _, .load _ _, _, _, _, none⟩ :: _) _; first | refine LS_q (Q_load rfl inferInstance inferInstance rfl) rfl ?_ | refine LS_q (Q_loadA rfl inferInstance inferInstance rfl) rfl ?_ | refine LS_q (Q_loadR rfl inferInstance inferInstance inferInstance (by assumption) rfl) rfl ?_ | refine LS_q (Q_loadR rfl inferInstance inferInstance inferInstance rfl rfl) rfl ?_ | refine LS_q (Q_loadRA rfl inferInstance inferInstance inferInstance (by assumption)) rfl ?_)
    | (show LS _ _ _ _ _ (⟨some _, .binOp _ _ _ _ _, _, _, _, none⟩ :: _) _; first | refine LS_q (Q_bin_t rfl rfl inferInstance (by first | assumption | omega | decide)) rfl ?_ | refine LS_q (Q_bin_f rfl rfl inferInstance (by first | assumption | omega | decide)) rfl ?_ | refine LS_q (Q_bin_nt rfl rfl inferInstance (by first | assumption | omega | decide)) rfl ?_ | refine LS_q (Q_bin_nf rfl rfl inferInstance (by first | assumption | omega | decide)) rfl ?_ | (refine LS_binS rfl rfl inferInstance rfl ?_ ?_ <;> intro hc) | (refine LS_binN rfl rfl inferInstance rfl ?_ ?_ <;> intro hc) | refine LS_q (Q_bin rfl rfl inferInstance) rfl ?_ | refine LS_q (Q_addI rfl rfl (by omega)) rfl ?_ | refine LS_q (Q_subI rfl rfl (by omega)) rfl ?_ | refine LS_q (Q_addS rfl rfl (by (try simp only [List.length_append, List.length_cons, List.length_nil, be_length, List.length_set]); omega)) rfl ?_ | refine LS_q (Q_quoI rfl rfl (by omega)) rfl ?_ | refine LS_q (Q_remI rfl rfl (by omega)) rfl ?_ | refine LS_q (Q_mulI rfl rfl (by omega)) rfl ?_)
    | (show LS _ _ _ _ _ (⟨some _, .assign _, _, _, _, none⟩ :: _) _; first | refine LS_q (Q_assign rfl) rfl ?_)
    | (show LS _ _ _ _ _ (⟨some _, .index _ _ _, _, _, _, none⟩ :: _) _; first | refine LS_q (Q_indexS rfl rfl inferInstance inferInstance (by assumption)) rfl ?_ | refine LS_q (Q_indexA rfl rfl inferInstance inferInstance inferInstance (by omega) rfl) rfl ?_)
    | (show LS _ _ _ _ _ (⟨some _, .call ⟨.builtin .len, _, _⟩, _, _, _, none⟩ :: _) _; first | refine LS_q (Q_len rfl inferInstance) rfl ?_ | refine LS_q (Q_lenS rfl inferInstance) rfl ?_ | refine LS_q (Q_lenR rfl inferInstance inferInstance) rfl ?_ | refine LS_q (Q_lenM rfl inferInstance inferInstance) rfl ?_)
    | (show LS _ _ _ _ _ (⟨some _, .convert _ _ _, _, _, _, none⟩ :: _) _; first | refine LS_q (Q_conv32_8 rfl inferInstance inferInstance inferInstance) rfl ?_ | refine LS_q (Q_conv64 rfl inferInstance inferInstance inferInstance) rfl ?_ | refine LS_q (Q_conv32 rfl inferInstance inferInstance inferInstance) rfl ?_ | refine LS_q (Q_convS rfl inferInstance rfl inferInstance inferInstance inferInstance) rfl ?_ | refine LS_q (Q_convSame rfl inferInstance inferInstance (by omega)) rfl ?_ | refine LS_q (Q_convI8 rfl inferInstance inferInstance) rfl ?_ | refine LS_q (Q_conv328 rfl inferInstance inferInstance) rfl ?_ | refine LS_q (Q_conv8 rfl inferInstance inferInstance) rfl ?_ | refine LS_q (Q_bytesS rfl inferInstance inferInstance rfl inferInstance inferInstance inferInstance) rfl ?_)
    | (show LS _ _ _ _ _ (⟨some _, .unOp _ _ _, _, _, _, none⟩ :: _) _; first | refine LS_q (Q_un rfl inferInstance) rfl ?_ | refine LS_q (Q_negI rfl (by omega)) rfl ?_)
    | (show LS _ _ _ _ _ (⟨some _, .alloc _, _, _, _, none⟩ :: _) _; first | (refine LS_h (H_alloc inferInstance) rfl ?_; intro g))
    | (show LS _ _ _ _ _ (⟨some _, .box _ _, _, _, _, none⟩ :: _) _; first | (refine LS_h (H_box rfl) rfl ?_; intro g) | (refine LS_h (H_boxO rfl inferInstance) rfl ?_; intro g) | (refine LS_h (H_box1 rfl (by first | rfl | assumption)) rfl ?_; intro g))
    | (show LS _ _ _ _ _ (⟨some _, .build _ _, _, _, _, none⟩ :: _) _; first | refine LS_q (Q_build inferInstance inferInstance rfl rfl) rfl ?_ | refine LS_q (Q_buildA inferInstance inferInstance inferInstance rfl rfl) rfl ?_)
    | (show LS _ _ _ _ _ (⟨some _, .indexAddr _ _ _, _, _, _, none⟩ :: _) _; first | refine LS_q (Q_index rfl rfl inferInstance inferInstance inferInstance inferInstance (by first | assumption | omega | ((try simp only [List.length_append, List.length_cons, List.length_nil, be_length, List.length_set]); omega))) rfl ?_ | refine LS_q (Q_indexV rfl rfl inferInstance inferInstance inferInstance (by first | assumption | omega)) rfl ?_)
    | (refine LS_h (H_buildB inferInstance inferInstance inferInstance rfl rfl rfl rfl rfl inferInstance rfl rfl) rfl ?_; intro g)
    | (refine LS_h (H_buildSlice inferInstance inferInstance inferInstance rfl rfl rfl rfl rfl) rfl ?_; intro g)
    | (refine LS_h (H_buildSlice0 inferInstance inferInstance) rfl ?_; intro g)
    | (show LS _ _ _ _ _ (⟨some _, .call ⟨.builtin .append, _, _⟩, _, _, _, none⟩ :: _) _; first | (refine LS_h (H_appendD rfl rfl inferInstance inferInstance rfl inferInstance inferInstance byteC_one (by (try simp only [List.length_append, List.length_cons, List.length_nil, be_length, List.length_set]); omega) rfl) rfl ?_; intro g) | (refine LS_h (H_appendB rfl rfl inferInstance inferInstance inferInstance rfl rfl inferInstance (by (try simp only [List.length_append, List.length_cons, List.length_nil, be_length, List.length_set]); omega) rfl) rfl ?_; intro g) | (refine LS_h (H_appendS rfl rfl inferInstance rfl inferInstance inferInstance (by (try simp only [List.length_append, List.length_cons, List.length_nil, be_length, List.length_set]); omega) rfl) rfl ?_; intro g))
    | (show LS _ _ _ _ _ (⟨none, _, _, _, _, none⟩ :: _) _; first | (refine LS_h0 (H_storeO rfl rfl inferInstance inferInstance inferInstance rfl) ?_; intro g) | (refine LS_h0 (H_storeAO rfl rfl inferInstance inferInstance inferInstance rfl) ?_; intro g) | (refine LS_h0 (H_store8 rfl rfl inferInstance inferInstance rfl inferInstance (by first | assumption | omega | ((try simp only [List.length_append, List.length_cons, List.length_nil, be_length, List.length_set]); omega))) ?_; intro g) | (refine LS_h0 (H_storeRA _ rfl rfl rfl inferInstance inferInstance inferInstance rfl rfl (by first | assumption | omega | ((try simp only [List.length_append, List.length_cons, List.length_nil, be_length, List.length_set]); omega))) ?_; intro g) | (refine LS_h0 (H_storeR _ rfl rfl inferInstance inferInstance inferInstance rfl (by assumption) rfl) ?_; intro g) | (refine LS_h0 (H_store rfl rfl inferInstance (by first | rfl | assumption) inferInstance rfl) ?_; intro g) | (refine LS_h0 (H_storeA rfl rfl inferInstance inferInstance (by first | rfl | (simp only [List.all_cons, List.all_nil, *]; rfl)) rfl) ?_; intro g))
    | refine WS_block ?_
    | refine WS_skip ?_
    | refine WS_ret ?_
    | refine WS_exit ?_
    | refine WS_label ?_
    | (show WS _ _ _ (.cond _ _ _) _ _; first | refine WS_condT rfl inferInstance ?_ | refine WS_condF rfl inferInstance ?_ | refine WS_condH_t rfl (by assumption) ?_ | refine WS_condH_f rfl (by assumption) ?_ | (refine WS_cond rfl ?_ ?_ <;> intro hc <;> (try simp only [decide_eq_true_eq, decide_eq_false_iff_not, Bool.not_eq_eq_eq_not, Bool.not_true, Bool.not_false, Bool.and_eq_true, Bool.or_eq_true, bne_iff_ne, beq_iff_eq, ne_eq, Decidable.not_not] at hc) <;> (try (exfalso; first | contradiction | omega; done))))
    | refine WS_drawS (by kernel_rfl) ?_
    | refine DL_nilA ?_
    | refine DL_nilS ?_
    | refine DL_nilN ?_
    | refine DL_nilE ?_
    | refine DL_claimS rfl ?_
    | refine DL_claim rfl rfl ?_
    | (show DL _ _ _ _ _ _ _ _ _ _ _ _ (⟨some _, .move _, _, _, _, none⟩ :: _) _ _; first | refine DL_qp rfl rfl rfl (fun F' => Q_move rfl) ?_ | refine DL_q rfl rfl (fun F' => Q_move rfl) ?_)
    | (show DL _ _ _ _ _ _ _ _ _ _ _ _ (⟨some _, .fieldAddr _ _ _, _, _, _, none⟩ :: _) _ _; first | refine DL_qp rfl rfl rfl (fun F' => Q_fieldAddr rfl inferInstance rfl) ?_ | refine DL_q rfl rfl (fun F' => Q_fieldAddr rfl inferInstance rfl) ?_ | refine DL_qp rfl rfl rfl (fun F' => Q_fieldR rfl inferInstance inferInstance rfl (by first | assumption | omega | ((try simp only [List.length_append, List.length_cons, List.length_nil, be_length, List.length_set]); omega))) ?_ | refine DL_q rfl rfl (fun F' => Q_fieldR rfl inferInstance inferInstance rfl (by first | assumption | omega | ((try simp only [List.length_append, List.length_cons, List.length_nil, be_length, List.length_set]); omega))) ?_)
    | (show DL _ _ _ _ _ _ _ _ _ _ _ _ (⟨some _, .load _ _, _, _, _, none⟩ :: _) _ _; first | refine DL_qp rfl rfl rfl (fun F' => Q_load rfl inferInstance inferInstance rfl) ?_ | refine DL_q rfl rfl (fun F' => Q_load rfl inferInstance inferInstance rfl) ?_ | refine DL_qp rfl rfl rfl (fun F' => Q_loadA rfl inferInstance inferInstance rfl) ?_ | refine DL_q rfl rfl (fun F' => Q_loadA rfl inferInstance inferInstance rfl) ?_ | refine DL_qp rfl rfl rfl (fun F' => Q_loadR rfl inferInstance inferInstance inferInstance (by assumption) rfl) ?_ | refine DL_q rfl rfl (fun F' => Q_loadR rfl inferInstance inferInstance inferInstance (by assumption) rfl) ?_ | refine DL_qp rfl rfl rfl (fun F' => Q_loadR rfl inferInstance inferInstance inferInstance rfl rfl) ?_ | refine DL_q rfl rfl (fun F' => Q_loadR rfl inferInstance inferInstance inferInstance rfl rfl) ?_ | refine DL_qp rfl rfl rfl (fun F' => Q_loadRA rfl inferInstance inferInstance inferInstance (by assumption)) ?_ | refine DL_q rfl rfl (fun F' => Q_loadRA rfl inferInstance inferInstance inferInstance (by assumption)) ?_)
    | (show DL _ _ _ _ _ _ _ _ _ _ _ _ (⟨some _, .assign _, _, _, _, none⟩ :: _) _ _; first | refine DL_qp rfl rfl rfl (fun F' => Q_assign rfl) ?_ | refine DL_q rfl rfl (fun F' => Q_assign rfl) ?_)
    | (refine LS_h (H_callX inferInstance rfl hfit inferInstance) rfl ?_; intro g)
    | (refine LS_h (H_callR inferInstance rfl (four_spec w0 _ _ _ (by (try simp only [List.length_append, List.length_cons, List.length_nil, be_length, List.length_set]); omega)) inferInstance) rfl ?_; intro g)
    | refine WS_unroll 6 ?_
    | refine Un_succ ?_)
  · simp only [decide_eq_false hc, Pk.out_not hc, star_assoc]
    refine ret_tmp2 (.inl rfl) rfl rfl rfl ⟨_, rfl, ?_⟩
    exact (Ent.nil _ _ _ _ _).trans (Ent.tail _ (Ent.take Ent.last))
  all_goals have hF := ‹p.Fits›
  all_goals have hk := hF.kind
  all_goals simp only [decide_eq_true hF, Pk.out_fit hF, star_assoc]
  all_goals refine ret_tmp2 (.inl rfl) rfl rfl rfl ⟨_, rfl, Ent.takeR ?_ (Ent.take Ent.last)⟩
  all_goals first | (exfalso; omega) | (simp [Pk.bytes, *]; try decide)
/-- A frame of kind 3, up to its kth element. -/
def Pk.upto (p : Pk) (k : Nat) : List UInt8 := [b8 p.ttl, 3, 0, 0] ++ [b8 p.lost.length] ++ lostB (p.lost.take k)
theorem Pk.upto_length (p : Pk) (k : Nat) : (p.upto k).length = 5 + 8 * min k p.lost.length := by
  simp [Pk.upto, lostB_length]; omega
theorem Pk.upto_succ {p : Pk} {k : Nat} {z : UInt32 × UInt32} (h : p.lost[k]? = some z) : p.upto k ++ be z.1 ++ be z.2 = p.upto (k + 1) := by
  simp [Pk.upto, lostB_take_succ _ _ _ h]
theorem Pk.upto_end {p : Pk} (h : p.kind = 3) : p.upto p.lost.length = p.bytes := by
  simp [Pk.upto, Pk.bytes, h]
set_option maxRecDepth 100000 in
set_option maxHeartbeats 8000000 in
theorem encode_3 (p : Pk) (hp : p.Ok) (h3 : p.kind = 3) (v : Value) (X : HProp) [hX : Rdr w0 X v (UInt32 × UInt32) 2 lostC p.lost] : Spec Try.prog w0 59 [p.val v] X (fun v' : Value => .tuple #[v', .bool (decide p.Fits)]) (fun v' => rows 5 1 byteC v' p.out * X) := by
  have hfit := fits_spec w0 p hp v X
  obtain ⟨⟨t1, t2⟩, ⟨k1, k2⟩, ⟨h1, h2⟩, hl, hs⟩ := hp
  refine Spec.enter Try.func59 rfl Try.ntmps59 rfl fun G => ?_
  simp only [argE, Pk.val, Pk.cells]
  repeat' (first
    | (refine WS_seqK ?_; intro K hK)
    | (refine hK _ ?_; clear hK K)
    | with_reducible refine thenS_n ?_
    | with_reducible refine thenS_e ?_
    | with_reducible refine blockS_n ?_
    | with_reducible refine blockS_e ?_
    | with_reducible refine blockS_o rfl ?_
    | with_reducible refine thenS_r ?_
    | with_reducible refine blockS_r ?_
    | with_reducible refine use_K (by assumption) ?_
    | refine WS_region ?_
    | refine LS_nil ?_
    | (show LS _ _ _ _ _ (⟨some _, .move _, _, _, _, none⟩ :: _) _; first | refine LS_q (Q_move rfl) rfl ?_)
    | (show LS _ _ _ _ _ (⟨some _, .fieldAddr _ _ _, _, _, _, none⟩ :: _) _; first | refine LS_q (Q_fieldAddr rfl inferInstance rfl) rfl ?_ | refine LS_q (Q_fieldR rfl inferInstance inferInstance rfl (by first | assumption | omega | ((try simp only [List.length_append, List.length_cons, List.length_nil, be_length, List.length_set]); omega))) rfl ?_)
    | (show LS _ _ _ _ _ (⟨some _, .load _ _, _, _, _, none⟩ :: _) _; first | refine LS_q (Q_load rfl inferInstance inferInstance rfl) rfl ?_ | refine LS_q (Q_loadA rfl inferInstance inferInstance rfl) rfl ?_ | refine LS_q (Q_loadR rfl inferInstance inferInstance inferInstance (by assumption) rfl) rfl ?_ | refine LS_q (Q_loadR rfl inferInstance inferInstance inferInstance rfl rfl) rfl ?_ | refine LS_q (Q_loadRA rfl inferInstance inferInstance inferInstance (by assumption)) rfl ?_)
    | (show LS _ _ _ _ _ (⟨some _, .binOp _ _ _ _ _, _, _, _, none⟩ :: _) _; first | refine LS_q (Q_bin_t rfl rfl inferInstance (by first | assumption | omega | decide)) rfl ?_ | refine LS_q (Q_bin_f rfl rfl inferInstance (by first | assumption | omega | decide)) rfl ?_ | refine LS_q (Q_bin_nt rfl rfl inferInstance (by first | assumption | omega | decide)) rfl ?_ | refine LS_q (Q_bin_nf rfl rfl inferInstance (by first | assumption | omega | decide)) rfl ?_ | (refine LS_binS rfl rfl inferInstance rfl ?_ ?_ <;> intro hc) | (refine LS_binN rfl rfl inferInstance rfl ?_ ?_ <;> intro hc) | refine LS_q (Q_bin rfl rfl inferInstance) rfl ?_ | refine LS_q (Q_addI rfl rfl (by omega)) rfl ?_ | refine LS_q (Q_subI rfl rfl (by omega)) rfl ?_ | refine LS_q (Q_addS rfl rfl (by (try simp only [List.length_append, List.length_cons, List.length_nil, be_length, List.length_set]); omega)) rfl ?_ | refine LS_q (Q_quoI rfl rfl (by omega)) rfl ?_ | refine LS_q (Q_remI rfl rfl (by omega)) rfl ?_ | refine LS_q (Q_mulI rfl rfl (by omega)) rfl ?_)
    | (show LS _ _ _ _ _ (⟨some _, .assign _, _, _, _, none⟩ :: _) _; first | refine LS_q (Q_assign rfl) rfl ?_)
    | (show LS _ _ _ _ _ (⟨some _, .index _ _ _, _, _, _, none⟩ :: _) _; first | refine LS_q (Q_indexS rfl rfl inferInstance inferInstance (by assumption)) rfl ?_ | refine LS_q (Q_indexA rfl rfl inferInstance inferInstance inferInstance (by omega) rfl) rfl ?_)
    | (show LS _ _ _ _ _ (⟨some _, .call ⟨.builtin .len, _, _⟩, _, _, _, none⟩ :: _) _; first | refine LS_q (Q_len rfl inferInstance) rfl ?_ | refine LS_q (Q_lenS rfl inferInstance) rfl ?_ | refine LS_q (Q_lenR rfl inferInstance inferInstance) rfl ?_ | refine LS_q (Q_lenM rfl inferInstance inferInstance) rfl ?_)
    | (show LS _ _ _ _ _ (⟨some _, .convert _ _ _, _, _, _, none⟩ :: _) _; first | refine LS_q (Q_conv32_8 rfl inferInstance inferInstance inferInstance) rfl ?_ | refine LS_q (Q_conv64 rfl inferInstance inferInstance inferInstance) rfl ?_ | refine LS_q (Q_conv32 rfl inferInstance inferInstance inferInstance) rfl ?_ | refine LS_q (Q_convS rfl inferInstance rfl inferInstance inferInstance inferInstance) rfl ?_ | refine LS_q (Q_convSame rfl inferInstance inferInstance (by omega)) rfl ?_ | refine LS_q (Q_convI8 rfl inferInstance inferInstance) rfl ?_ | refine LS_q (Q_conv328 rfl inferInstance inferInstance) rfl ?_ | refine LS_q (Q_conv8 rfl inferInstance inferInstance) rfl ?_ | refine LS_q (Q_bytesS rfl inferInstance inferInstance rfl inferInstance inferInstance inferInstance) rfl ?_)
    | (show LS _ _ _ _ _ (⟨some _, .unOp _ _ _, _, _, _, none⟩ :: _) _; first | refine LS_q (Q_un rfl inferInstance) rfl ?_ | refine LS_q (Q_negI rfl (by omega)) rfl ?_)
    | (show LS _ _ _ _ _ (⟨some _, .alloc _, _, _, _, none⟩ :: _) _; first | (refine LS_h (H_alloc inferInstance) rfl ?_; intro g))
    | (show LS _ _ _ _ _ (⟨some _, .box _ _, _, _, _, none⟩ :: _) _; first | (refine LS_h (H_box rfl) rfl ?_; intro g) | (refine LS_h (H_boxO rfl inferInstance) rfl ?_; intro g) | (refine LS_h (H_box1 rfl (by first | rfl | assumption)) rfl ?_; intro g))
    | (show LS _ _ _ _ _ (⟨some _, .build _ _, _, _, _, none⟩ :: _) _; first | refine LS_q (Q_build inferInstance inferInstance rfl rfl) rfl ?_ | refine LS_q (Q_buildA inferInstance inferInstance inferInstance rfl rfl) rfl ?_)
    | (show LS _ _ _ _ _ (⟨some _, .indexAddr _ _ _, _, _, _, none⟩ :: _) _; first | refine LS_q (Q_index rfl rfl inferInstance inferInstance inferInstance inferInstance (by first | assumption | omega | ((try simp only [List.length_append, List.length_cons, List.length_nil, be_length, List.length_set]); omega))) rfl ?_ | refine LS_q (Q_indexV rfl rfl inferInstance inferInstance inferInstance (by first | assumption | omega)) rfl ?_)
    | (refine LS_h (H_buildB inferInstance inferInstance inferInstance rfl rfl rfl rfl rfl inferInstance rfl rfl) rfl ?_; intro g)
    | (refine LS_h (H_buildSlice inferInstance inferInstance inferInstance rfl rfl rfl rfl rfl) rfl ?_; intro g)
    | (refine LS_h (H_buildSlice0 inferInstance inferInstance) rfl ?_; intro g)
    | (show LS _ _ _ _ _ (⟨some _, .call ⟨.builtin .append, _, _⟩, _, _, _, none⟩ :: _) _; first | (refine LS_h (H_appendD rfl rfl inferInstance inferInstance rfl inferInstance inferInstance byteC_one (by (try simp only [List.length_append, List.length_cons, List.length_nil, be_length, List.length_set]); omega) rfl) rfl ?_; intro g) | (refine LS_h (H_appendB rfl rfl inferInstance inferInstance inferInstance rfl rfl inferInstance (by (try simp only [List.length_append, List.length_cons, List.length_nil, be_length, List.length_set]); omega) rfl) rfl ?_; intro g) | (refine LS_h (H_appendS rfl rfl inferInstance rfl inferInstance inferInstance (by (try simp only [List.length_append, List.length_cons, List.length_nil, be_length, List.length_set]); omega) rfl) rfl ?_; intro g))
    | (show LS _ _ _ _ _ (⟨none, _, _, _, _, none⟩ :: _) _; first | (refine LS_h0 (H_storeO rfl rfl inferInstance inferInstance inferInstance rfl) ?_; intro g) | (refine LS_h0 (H_storeAO rfl rfl inferInstance inferInstance inferInstance rfl) ?_; intro g) | (refine LS_h0 (H_store8 rfl rfl inferInstance inferInstance rfl inferInstance (by first | assumption | omega | ((try simp only [List.length_append, List.length_cons, List.length_nil, be_length, List.length_set]); omega))) ?_; intro g) | (refine LS_h0 (H_storeRA _ rfl rfl rfl inferInstance inferInstance inferInstance rfl rfl (by first | assumption | omega | ((try simp only [List.length_append, List.length_cons, List.length_nil, be_length, List.length_set]); omega))) ?_; intro g) | (refine LS_h0 (H_storeR _ rfl rfl inferInstance inferInstance inferInstance rfl (by assumption) rfl) ?_; intro g) | (refine LS_h0 (H_store rfl rfl inferInstance (by first | rfl | assumption) inferInstance rfl) ?_; intro g) | (refine LS_h0 (H_storeA rfl rfl inferInstance inferInstance (by first | rfl | (simp only [List.all_cons, List.all_nil, *]; rfl)) rfl) ?_; intro g))
    | refine WS_block ?_
    | refine WS_skip ?_
    | refine WS_ret ?_
    | refine WS_exit ?_
    | refine WS_label ?_
    | (show WS _ _ _ (.cond _ _ _) _ _; first | refine WS_condT rfl inferInstance ?_ | refine WS_condF rfl inferInstance ?_ | refine WS_condH_t rfl (by assumption) ?_ | refine WS_condH_f rfl (by assumption) ?_ | (refine WS_cond rfl ?_ ?_ <;> intro hc <;> (try simp only [decide_eq_true_eq, decide_eq_false_iff_not, Bool.not_eq_eq_eq_not, Bool.not_true, Bool.not_false, Bool.and_eq_true, Bool.or_eq_true, bne_iff_ne, beq_iff_eq, ne_eq, Decidable.not_not] at hc) <;> (try (exfalso; first | contradiction | omega; done))))
    | refine WS_drawS (by kernel_rfl) ?_
    | refine DL_nilA ?_
    | refine DL_nilS ?_
    | refine DL_nilN ?_
    | refine DL_nilE ?_
    | refine DL_claimS rfl ?_
    | refine DL_claim rfl rfl ?_
    | (show DL _ _ _ _ _ _ _ _ _ _ _ _ (⟨some _, .move _, _, _, _, none⟩ :: _) _ _; first | refine DL_qp rfl rfl rfl (fun F' => Q_move rfl) ?_ | refine DL_q rfl rfl (fun F' => Q_move rfl) ?_)
    | (show DL _ _ _ _ _ _ _ _ _ _ _ _ (⟨some _, .fieldAddr _ _ _, _, _, _, none⟩ :: _) _ _; first | refine DL_qp rfl rfl rfl (fun F' => Q_fieldAddr rfl inferInstance rfl) ?_ | refine DL_q rfl rfl (fun F' => Q_fieldAddr rfl inferInstance rfl) ?_ | refine DL_qp rfl rfl rfl (fun F' => Q_fieldR rfl inferInstance inferInstance rfl (by first | assumption | omega | ((try simp only [List.length_append, List.length_cons, List.length_nil, be_length, List.length_set]); omega))) ?_ | refine DL_q rfl rfl (fun F' => Q_fieldR rfl inferInstance inferInstance rfl (by first | assumption | omega | ((try simp only [List.length_append, List.length_cons, List.length_nil, be_length, List.length_set]); omega))) ?_)
    | (show DL _ _ _ _ _ _ _ _ _ _ _ _ (⟨some _, .load _ _, _, _, _, none⟩ :: _) _ _; first | refine DL_qp rfl rfl rfl (fun F' => Q_load rfl inferInstance inferInstance rfl) ?_ | refine DL_q rfl rfl (fun F' => Q_load rfl inferInstance inferInstance rfl) ?_ | refine DL_qp rfl rfl rfl (fun F' => Q_loadA rfl inferInstance inferInstance rfl) ?_ | refine DL_q rfl rfl (fun F' => Q_loadA rfl inferInstance inferInstance rfl) ?_ | refine DL_qp rfl rfl rfl (fun F' => Q_loadR rfl inferInstance inferInstance inferInstance (by assumption) rfl) ?_ | refine DL_q rfl rfl (fun F' => Q_loadR rfl inferInstance inferInstance inferInstance (by assumption) rfl) ?_ | refine DL_qp rfl rfl rfl (fun F' => Q_loadR rfl inferInstance inferInstance inferInstance rfl rfl) ?_ | refine DL_q rfl rfl (fun F' => Q_loadR rfl inferInstance inferInstance inferInstance rfl rfl) ?_ | refine DL_qp rfl rfl rfl (fun F' => Q_loadRA rfl inferInstance inferInstance inferInstance (by assumption)) ?_ | refine DL_q rfl rfl (fun F' => Q_loadRA rfl inferInstance inferInstance inferInstance (by assumption)) ?_)
    | (show DL _ _ _ _ _ _ _ _ _ _ _ _ (⟨some _, .assign _, _, _, _, none⟩ :: _) _ _; first | refine DL_qp rfl rfl rfl (fun F' => Q_assign rfl) ?_ | refine DL_q rfl rfl (fun F' => Q_assign rfl) ?_)
    | (refine LS_h (H_callX inferInstance rfl hfit inferInstance) rfl ?_; intro g))
  · simp only [decide_eq_false hc, Pk.out_not hc, star_assoc]
    refine ret_tmp2 (.inl rfl) rfl rfl rfl ⟨_, rfl, ?_⟩
    exact (Ent.nil _ _ _ _ _).trans (Ent.tail _ (Ent.take Ent.last))
  refine WS_loop (fun m τ => ∃ k v', k + m = p.lost.length ∧ τ = ⟨[(4, v'), (91, .int .i64 (k : Int)), (90, .int .i64 (p.lost.length : Int)), (89, v)], [], rows 5 1 byteC v' (p.upto k) * (X * G)⟩) ?_ ?_
  · refine ⟨p.lost.length, _, ⟨0, g, by omega, rfl⟩, ⟨rfl, rfl, rfl, rfl, trivial⟩, rfl, ?_⟩
    exact Ent.takeR (by simp [Pk.upto, h3]; exact ⟨rfl, rfl⟩) (Ent.take Ent.last)
  · rintro m τ ⟨k, v', hkm, rfl⟩
    clear g
    rcases Nat.lt_or_ge k p.lost.length with hlt | hge
    · obtain ⟨z, hz⟩ : ∃ z, p.lost[k]? = some z := ⟨_, List.getElem?_eq_getElem hlt⟩
      repeat' (first
        | (refine WS_seqK ?_; intro K hK)
        | (refine hK _ ?_; clear hK K)
        | with_reducible refine thenS_n ?_
        | with_reducible refine thenS_e ?_
        | with_reducible refine blockS_n ?_
        | with_reducible refine blockS_e ?_
        | with_reducible refine blockS_o rfl ?_
        | with_reducible refine thenS_r ?_
        | with_reducible refine blockS_r ?_
        | with_reducible refine use_K (by assumption) ?_
        | refine WS_region ?_
        | refine LS_nil ?_
        | (show LS _ _ _ _ _ (⟨some _, .move _, _, _, _, none⟩ :: _) _; first | refine LS_q (Q_move rfl) rfl ?_)
        | (show LS _ _ _ _ _ (⟨some _, .fieldAddr _ _ _, _, _, _, none⟩ :: _) _; first | refine LS_q (Q_fieldAddr rfl inferInstance rfl) rfl ?_ | refine LS_q (Q_fieldR rfl inferInstance inferInstance rfl (by first | assumption | omega | ((try simp only [List.length_append, List.length_cons, List.length_nil, be_length, List.length_set]); omega))) rfl ?_)
        | (show LS _ _ _ _ _ (⟨some _, .load _ _, _, _, _, none⟩ :: _) _; first | refine LS_q (Q_load rfl inferInstance inferInstance rfl) rfl ?_ | refine LS_q (Q_loadA rfl inferInstance inferInstance rfl) rfl ?_ | refine LS_q (Q_loadR rfl inferInstance inferInstance inferInstance (by assumption) rfl) rfl ?_ | refine LS_q (Q_loadR rfl inferInstance inferInstance inferInstance rfl rfl) rfl ?_ | refine LS_q (Q_loadRA rfl inferInstance inferInstance inferInstance (by assumption)) rfl ?_)
        | (show LS _ _ _ _ _ (⟨some _, .binOp _ _ _ _ _, _, _, _, none⟩ :: _) _; first | refine LS_q (Q_bin_t rfl rfl inferInstance (by first | assumption | omega | decide)) rfl ?_ | refine LS_q (Q_bin_f rfl rfl inferInstance (by first | assumption | omega | decide)) rfl ?_ | refine LS_q (Q_bin_nt rfl rfl inferInstance (by first | assumption | omega | decide)) rfl ?_ | refine LS_q (Q_bin_nf rfl rfl inferInstance (by first | assumption | omega | decide)) rfl ?_ | (refine LS_binS rfl rfl inferInstance rfl ?_ ?_ <;> intro hc) | (refine LS_binN rfl rfl inferInstance rfl ?_ ?_ <;> intro hc) | refine LS_q (Q_bin rfl rfl inferInstance) rfl ?_ | refine LS_q (Q_addI rfl rfl (by omega)) rfl ?_ | refine LS_q (Q_subI rfl rfl (by omega)) rfl ?_ | refine LS_q (Q_addS rfl rfl (by (try simp only [List.length_append, List.length_cons, List.length_nil, be_length, List.length_set]); omega)) rfl ?_ | refine LS_q (Q_quoI rfl rfl (by omega)) rfl ?_ | refine LS_q (Q_remI rfl rfl (by omega)) rfl ?_ | refine LS_q (Q_mulI rfl rfl (by omega)) rfl ?_)
        | (show LS _ _ _ _ _ (⟨some _, .assign _, _, _, _, none⟩ :: _) _; first | refine LS_q (Q_assign rfl) rfl ?_)
        | (show LS _ _ _ _ _ (⟨some _, .index _ _ _, _, _, _, none⟩ :: _) _; first | refine LS_q (Q_indexS rfl rfl inferInstance inferInstance (by assumption)) rfl ?_ | refine LS_q (Q_indexA rfl rfl inferInstance inferInstance inferInstance (by omega) rfl) rfl ?_)
        | (show LS _ _ _ _ _ (⟨some _, .call ⟨.builtin .len, _, _⟩, _, _, _, none⟩ :: _) _; first | refine LS_q (Q_len rfl inferInstance) rfl ?_ | refine LS_q (Q_lenS rfl inferInstance) rfl ?_ | refine LS_q (Q_lenR rfl inferInstance inferInstance) rfl ?_ | refine LS_q (Q_lenM rfl inferInstance inferInstance) rfl ?_)
        | (show LS _ _ _ _ _ (⟨some _, .convert _ _ _, _, _, _, none⟩ :: _) _; first | refine LS_q (Q_conv32_8 rfl inferInstance inferInstance inferInstance) rfl ?_ | refine LS_q (Q_conv64 rfl inferInstance inferInstance inferInstance) rfl ?_ | refine LS_q (Q_conv32 rfl inferInstance inferInstance inferInstance) rfl ?_ | refine LS_q (Q_convS rfl inferInstance rfl inferInstance inferInstance inferInstance) rfl ?_ | refine LS_q (Q_convSame rfl inferInstance inferInstance (by omega)) rfl ?_ | refine LS_q (Q_convI8 rfl inferInstance inferInstance) rfl ?_ | refine LS_q (Q_conv328 rfl inferInstance inferInstance) rfl ?_ | refine LS_q (Q_conv8 rfl inferInstance inferInstance) rfl ?_ | refine LS_q (Q_bytesS rfl inferInstance inferInstance rfl inferInstance inferInstance inferInstance) rfl ?_)
        | (show LS _ _ _ _ _ (⟨some _, .unOp _ _ _, _, _, _, none⟩ :: _) _; first | refine LS_q (Q_un rfl inferInstance) rfl ?_ | refine LS_q (Q_negI rfl (by omega)) rfl ?_)
        | (show LS _ _ _ _ _ (⟨some _, .alloc _, _, _, _, none⟩ :: _) _; first | (refine LS_h (H_alloc inferInstance) rfl ?_; intro g))
        | (show LS _ _ _ _ _ (⟨some _, .box _ _, _, _, _, none⟩ :: _) _; first | (refine LS_h (H_box rfl) rfl ?_; intro g) | (refine LS_h (H_boxO rfl inferInstance) rfl ?_; intro g) | (refine LS_h (H_box1 rfl (by first | rfl | assumption)) rfl ?_; intro g))
        | (show LS _ _ _ _ _ (⟨some _, .build _ _, _, _, _, none⟩ :: _) _; first | refine LS_q (Q_build inferInstance inferInstance rfl rfl) rfl ?_ | refine LS_q (Q_buildA inferInstance inferInstance inferInstance rfl rfl) rfl ?_)
        | (show LS _ _ _ _ _ (⟨some _, .indexAddr _ _ _, _, _, _, none⟩ :: _) _; first | refine LS_q (Q_index rfl rfl inferInstance inferInstance inferInstance inferInstance (by first | assumption | omega | ((try simp only [List.length_append, List.length_cons, List.length_nil, be_length, List.length_set]); omega))) rfl ?_ | refine LS_q (Q_indexV rfl rfl inferInstance inferInstance inferInstance (by first | assumption | omega)) rfl ?_)
        | (refine LS_h (H_buildB inferInstance inferInstance inferInstance rfl rfl rfl rfl rfl inferInstance rfl rfl) rfl ?_; intro g)
        | (refine LS_h (H_buildSlice inferInstance inferInstance inferInstance rfl rfl rfl rfl rfl) rfl ?_; intro g)
        | (refine LS_h (H_buildSlice0 inferInstance inferInstance) rfl ?_; intro g)
        | (show LS _ _ _ _ _ (⟨some _, .call ⟨.builtin .append, _, _⟩, _, _, _, none⟩ :: _) _; first | (refine LS_h (H_appendD rfl rfl inferInstance inferInstance rfl inferInstance inferInstance byteC_one (by (try simp only [List.length_append, List.length_cons, List.length_nil, be_length, List.length_set]); omega) rfl) rfl ?_; intro g) | (refine LS_h (H_appendB rfl rfl inferInstance inferInstance inferInstance rfl rfl inferInstance (by (try simp only [List.length_append, List.length_cons, List.length_nil, be_length, List.length_set]); omega) rfl) rfl ?_; intro g) | (refine LS_h (H_appendS rfl rfl inferInstance rfl inferInstance inferInstance (by (try simp only [List.length_append, List.length_cons, List.length_nil, be_length, List.length_set]); omega) rfl) rfl ?_; intro g))
        | (show LS _ _ _ _ _ (⟨none, _, _, _, _, none⟩ :: _) _; first | (refine LS_h0 (H_storeO rfl rfl inferInstance inferInstance inferInstance rfl) ?_; intro g) | (refine LS_h0 (H_storeAO rfl rfl inferInstance inferInstance inferInstance rfl) ?_; intro g) | (refine LS_h0 (H_store8 rfl rfl inferInstance inferInstance rfl inferInstance (by first | assumption | omega | ((try simp only [List.length_append, List.length_cons, List.length_nil, be_length, List.length_set]); omega))) ?_; intro g) | (refine LS_h0 (H_storeRA _ rfl rfl rfl inferInstance inferInstance inferInstance rfl rfl (by first | assumption | omega | ((try simp only [List.length_append, List.length_cons, List.length_nil, be_length, List.length_set]); omega))) ?_; intro g) | (refine LS_h0 (H_storeR _ rfl rfl inferInstance inferInstance inferInstance rfl (by assumption) rfl) ?_; intro g) | (refine LS_h0 (H_store rfl rfl inferInstance (by first | rfl | assumption) inferInstance rfl) ?_; intro g) | (refine LS_h0 (H_storeA rfl rfl inferInstance inferInstance (by first | rfl | (simp only [List.all_cons, List.all_nil, *]; rfl)) rfl) ?_; intro g))
        | refine WS_block ?_
        | refine WS_skip ?_
        | refine WS_ret ?_
        | refine WS_exit ?_
        | refine WS_label ?_
        | (show WS _ _ _ (.cond _ _ _) _ _; first | refine WS_condT rfl inferInstance ?_ | refine WS_condF rfl inferInstance ?_ | refine WS_condH_t rfl (by assumption) ?_ | refine WS_condH_f rfl (by assumption) ?_ | (refine WS_cond rfl ?_ ?_ <;> intro hc <;> (try simp only [decide_eq_true_eq, decide_eq_false_iff_not, Bool.not_eq_eq_eq_not, Bool.not_true, Bool.not_false, Bool.and_eq_true, Bool.or_eq_true, bne_iff_ne, beq_iff_eq, ne_eq, Decidable.not_not] at hc) <;> (try (exfalso; first | contradiction | omega; done))))
        | refine DL_nilA ?_
        | refine DL_nilS ?_
        | refine DL_nilN ?_
        | refine DL_nilE ?_
        | refine DL_claimS rfl ?_
        | refine DL_claim rfl rfl ?_
        | (show DL _ _ _ _ _ _ _ _ _ _ _ _ (⟨some _, .move _, _, _, _, none⟩ :: _) _ _; first | refine DL_qp rfl rfl rfl (fun F' => Q_move rfl) ?_ | refine DL_q rfl rfl (fun F' => Q_move rfl) ?_)
        | (show DL _ _ _ _ _ _ _ _ _ _ _ _ (⟨some _, .fieldAddr _ _ _, _, _, _, none⟩ :: _) _ _; first | refine DL_qp rfl rfl rfl (fun F' => Q_fieldAddr rfl inferInstance rfl) ?_ | refine DL_q rfl rfl (fun F' => Q_fieldAddr rfl inferInstance rfl) ?_ | refine DL_qp rfl rfl rfl (fun F' => Q_fieldR rfl inferInstance inferInstance rfl (by first | assumption | omega | ((try simp only [List.length_append, List.length_cons, List.length_nil, be_length, List.length_set]); omega))) ?_ | refine DL_q rfl rfl (fun F' => Q_fieldR rfl inferInstance inferInstance rfl (by first | assumption | omega | ((try simp only [List.length_append, List.length_cons, List.length_nil, be_length, List.length_set]); omega))) ?_)
        | (show DL _ _ _ _ _ _ _ _ _ _ _ _ (⟨some _, .load _ _, _, _, _, none⟩ :: _) _ _; first | refine DL_qp rfl rfl rfl (fun F' => Q_load rfl inferInstance inferInstance rfl) ?_ | refine DL_q rfl rfl (fun F' => Q_load rfl inferInstance inferInstance rfl) ?_ | refine DL_qp rfl rfl rfl (fun F' => Q_loadA rfl inferInstance inferInstance rfl) ?_ | refine DL_q rfl rfl (fun F' => Q_loadA rfl inferInstance inferInstance rfl) ?_ | refine DL_qp rfl rfl rfl (fun F' => Q_loadR rfl inferInstance inferInstance inferInstance (by assumption) rfl) ?_ | refine DL_q rfl rfl (fun F' => Q_loadR rfl inferInstance inferInstance inferInstance (by assumption) rfl) ?_ | refine DL_qp rfl rfl rfl (fun F' => Q_loadR rfl inferInstance inferInstance inferInstance rfl rfl) ?_ | refine DL_q rfl rfl (fun F' => Q_loadR rfl inferInstance inferInstance inferInstance rfl rfl) ?_ | refine DL_qp rfl rfl rfl (fun F' => Q_loadRA rfl inferInstance inferInstance inferInstance (by assumption)) ?_ | refine DL_q rfl rfl (fun F' => Q_loadRA rfl inferInstance inferInstance inferInstance (by assumption)) ?_)
        | (show DL _ _ _ _ _ _ _ _ _ _ _ _ (⟨some _, .assign _, _, _, _, none⟩ :: _) _ _; first | refine DL_qp rfl rfl rfl (fun F' => Q_assign rfl) ?_ | refine DL_q rfl rfl (fun F' => Q_assign rfl) ?_))
      have hul := p.upto_length k
      refine WS_drawC [0, 1, 2, 4, 5, 3, 6, 7] (by kernel_rfl) inferInstance ?_
      repeat' (first
        | (refine WS_seqK ?_; intro K hK)
        | (refine hK _ ?_; clear hK K)
        | with_reducible refine thenS_n ?_
        | with_reducible refine thenS_e ?_
        | with_reducible refine blockS_n ?_
        | with_reducible refine blockS_e ?_
        | with_reducible refine blockS_o rfl ?_
        | with_reducible refine thenS_r ?_
        | with_reducible refine blockS_r ?_
        | with_reducible refine use_K (by assumption) ?_
        | refine WS_region ?_
        | refine LS_nil ?_
        | (show LS _ _ _ _ _ (⟨some _, .move _, _, _, _, none⟩ :: _) _; first | refine LS_q (Q_move rfl) rfl ?_)
        | (show LS _ _ _ _ _ (⟨some _, .fieldAddr _ _ _, _, _, _, none⟩ :: _) _; first | refine LS_q (Q_fieldAddr rfl inferInstance rfl) rfl ?_ | refine LS_q (Q_fieldR rfl inferInstance inferInstance rfl (by first | assumption | omega | ((try simp only [List.length_append, List.length_cons, List.length_nil, be_length, List.length_set]); omega))) rfl ?_)
        | (show LS _ _ _ _ _ (⟨some _, .load _ _, _, _, _, none⟩ :: _) _; first | refine LS_q (Q_load rfl inferInstance inferInstance rfl) rfl ?_ | refine LS_q (Q_loadA rfl inferInstance inferInstance rfl) rfl ?_ | refine LS_q (Q_loadR rfl inferInstance inferInstance inferInstance (by assumption) rfl) rfl ?_ | refine LS_q (Q_loadR rfl inferInstance inferInstance inferInstance rfl rfl) rfl ?_ | refine LS_q (Q_loadRA rfl inferInstance inferInstance inferInstance (by assumption)) rfl ?_)
        | (show LS _ _ _ _ _ (⟨some _, .binOp _ _ _ _ _, _, _, _, none⟩ :: _) _; first | refine LS_q (Q_bin_t rfl rfl inferInstance (by first | assumption | omega | decide)) rfl ?_ | refine LS_q (Q_bin_f rfl rfl inferInstance (by first | assumption | omega | decide)) rfl ?_ | refine LS_q (Q_bin_nt rfl rfl inferInstance (by first | assumption | omega | decide)) rfl ?_ | refine LS_q (Q_bin_nf rfl rfl inferInstance (by first | assumption | omega | decide)) rfl ?_ | (refine LS_binS rfl rfl inferInstance rfl ?_ ?_ <;> intro hc) | (refine LS_binN rfl rfl inferInstance rfl ?_ ?_ <;> intro hc) | refine LS_q (Q_bin rfl rfl inferInstance) rfl ?_ | refine LS_q (Q_addI rfl rfl (by omega)) rfl ?_ | refine LS_q (Q_subI rfl rfl (by omega)) rfl ?_ | refine LS_q (Q_addS rfl rfl (by (try simp only [List.length_append, List.length_cons, List.length_nil, be_length, List.length_set]); omega)) rfl ?_ | refine LS_q (Q_quoI rfl rfl (by omega)) rfl ?_ | refine LS_q (Q_remI rfl rfl (by omega)) rfl ?_ | refine LS_q (Q_mulI rfl rfl (by omega)) rfl ?_)
        | (show LS _ _ _ _ _ (⟨some _, .assign _, _, _, _, none⟩ :: _) _; first | refine LS_q (Q_assign rfl) rfl ?_)
        | (show LS _ _ _ _ _ (⟨some _, .index _ _ _, _, _, _, none⟩ :: _) _; first | refine LS_q (Q_indexS rfl rfl inferInstance inferInstance (by assumption)) rfl ?_ | refine LS_q (Q_indexA rfl rfl inferInstance inferInstance inferInstance (by omega) rfl) rfl ?_)
        | (show LS _ _ _ _ _ (⟨some _, .call ⟨.builtin .len, _, _⟩, _, _, _, none⟩ :: _) _; first | refine LS_q (Q_len rfl inferInstance) rfl ?_ | refine LS_q (Q_lenS rfl inferInstance) rfl ?_ | refine LS_q (Q_lenR rfl inferInstance inferInstance) rfl ?_ | refine LS_q (Q_lenM rfl inferInstance inferInstance) rfl ?_)
        | (show LS _ _ _ _ _ (⟨some _, .convert _ _ _, _, _, _, none⟩ :: _) _; first | refine LS_q (Q_conv32_8 rfl inferInstance inferInstance inferInstance) rfl ?_ | refine LS_q (Q_conv64 rfl inferInstance inferInstance inferInstance) rfl ?_ | refine LS_q (Q_conv32 rfl inferInstance inferInstance inferInstance) rfl ?_ | refine LS_q (Q_convS rfl inferInstance rfl inferInstance inferInstance inferInstance) rfl ?_ | refine LS_q (Q_convSame rfl inferInstance inferInstance (by omega)) rfl ?_ | refine LS_q (Q_convI8 rfl inferInstance inferInstance) rfl ?_ | refine LS_q (Q_conv328 rfl inferInstance inferInstance) rfl ?_ | refine LS_q (Q_conv8 rfl inferInstance inferInstance) rfl ?_ | refine LS_q (Q_bytesS rfl inferInstance inferInstance rfl inferInstance inferInstance inferInstance) rfl ?_)
        | (show LS _ _ _ _ _ (⟨some _, .unOp _ _ _, _, _, _, none⟩ :: _) _; first | refine LS_q (Q_un rfl inferInstance) rfl ?_ | refine LS_q (Q_negI rfl (by omega)) rfl ?_)
        | (show LS _ _ _ _ _ (⟨some _, .alloc _, _, _, _, none⟩ :: _) _; first | (refine LS_h (H_alloc inferInstance) rfl ?_; intro g))
        | (show LS _ _ _ _ _ (⟨some _, .box _ _, _, _, _, none⟩ :: _) _; first | (refine LS_h (H_box rfl) rfl ?_; intro g) | (refine LS_h (H_boxO rfl inferInstance) rfl ?_; intro g) | (refine LS_h (H_box1 rfl (by first | rfl | assumption)) rfl ?_; intro g))
        | (show LS _ _ _ _ _ (⟨some _, .build _ _, _, _, _, none⟩ :: _) _; first | refine LS_q (Q_build inferInstance inferInstance rfl rfl) rfl ?_ | refine LS_q (Q_buildA inferInstance inferInstance inferInstance rfl rfl) rfl ?_)
        | (show LS _ _ _ _ _ (⟨some _, .indexAddr _ _ _, _, _, _, none⟩ :: _) _; first | refine LS_q (Q_index rfl rfl inferInstance inferInstance inferInstance inferInstance (by first | assumption | omega | ((try simp only [List.length_append, List.length_cons, List.length_nil, be_length, List.length_set]); omega))) rfl ?_ | refine LS_q (Q_indexV rfl rfl inferInstance inferInstance inferInstance (by first | assumption | omega)) rfl ?_)
        | (refine LS_h (H_buildB inferInstance inferInstance inferInstance rfl rfl rfl rfl rfl inferInstance rfl rfl) rfl ?_; intro g)
        | (refine LS_h (H_buildSlice inferInstance inferInstance inferInstance rfl rfl rfl rfl rfl) rfl ?_; intro g)
        | (refine LS_h (H_buildSlice0 inferInstance inferInstance) rfl ?_; intro g)
        | (show LS _ _ _ _ _ (⟨some _, .call ⟨.builtin .append, _, _⟩, _, _, _, none⟩ :: _) _; first | (refine LS_h (H_appendD rfl rfl inferInstance inferInstance rfl inferInstance inferInstance byteC_one (by (try simp only [List.length_append, List.length_cons, List.length_nil, be_length, List.length_set]); omega) rfl) rfl ?_; intro g) | (refine LS_h (H_appendB rfl rfl inferInstance inferInstance inferInstance rfl rfl inferInstance (by (try simp only [List.length_append, List.length_cons, List.length_nil, be_length, List.length_set]); omega) rfl) rfl ?_; intro g) | (refine LS_h (H_appendS rfl rfl inferInstance rfl inferInstance inferInstance (by (try simp only [List.length_append, List.length_cons, List.length_nil, be_length, List.length_set]); omega) rfl) rfl ?_; intro g))
        | (show LS _ _ _ _ _ (⟨none, _, _, _, _, none⟩ :: _) _; first | (refine LS_h0 (H_storeO rfl rfl inferInstance inferInstance inferInstance rfl) ?_; intro g) | (refine LS_h0 (H_storeAO rfl rfl inferInstance inferInstance inferInstance rfl) ?_; intro g) | (refine LS_h0 (H_store8 rfl rfl inferInstance inferInstance rfl inferInstance (by first | assumption | omega | ((try simp only [List.length_append, List.length_cons, List.length_nil, be_length, List.length_set]); omega))) ?_; intro g) | (refine LS_h0 (H_storeRA _ rfl rfl rfl inferInstance inferInstance inferInstance rfl rfl (by first | assumption | omega | ((try simp only [List.length_append, List.length_cons, List.length_nil, be_length, List.length_set]); omega))) ?_; intro g) | (refine LS_h0 (H_storeR _ rfl rfl inferInstance inferInstance inferInstance rfl (by assumption) rfl) ?_; intro g) | (refine LS_h0 (H_store rfl rfl inferInstance (by first | rfl | assumption) inferInstance rfl) ?_; intro g) | (refine LS_h0 (H_storeA rfl rfl inferInstance inferInstance (by first | rfl | (simp only [List.all_cons, List.all_nil, *]; rfl)) rfl) ?_; intro g))
        | refine WS_block ?_
        | refine WS_skip ?_
        | refine WS_ret ?_
        | refine WS_exit ?_
        | refine WS_label ?_
        | (show WS _ _ _ (.cond _ _ _) _ _; first | refine WS_condT rfl inferInstance ?_ | refine WS_condF rfl inferInstance ?_ | refine WS_condH_t rfl (by assumption) ?_ | refine WS_condH_f rfl (by assumption) ?_ | (refine WS_cond rfl ?_ ?_ <;> intro hc <;> (try simp only [decide_eq_true_eq, decide_eq_false_iff_not, Bool.not_eq_eq_eq_not, Bool.not_true, Bool.not_false, Bool.and_eq_true, Bool.or_eq_true, bne_iff_ne, beq_iff_eq, ne_eq, Decidable.not_not] at hc) <;> (try (exfalso; first | contradiction | omega; done))))
        | refine WS_drawS (by kernel_rfl) ?_
        | refine DL_nilA ?_
        | refine DL_nilS ?_
        | refine DL_nilN ?_
        | refine DL_nilE ?_
        | refine DL_claimS rfl ?_
        | refine DL_claim rfl rfl ?_
        | (show DL _ _ _ _ _ _ _ _ _ _ _ _ (⟨some _, .move _, _, _, _, none⟩ :: _) _ _; first | refine DL_qp rfl rfl rfl (fun F' => Q_move rfl) ?_ | refine DL_q rfl rfl (fun F' => Q_move rfl) ?_)
        | (show DL _ _ _ _ _ _ _ _ _ _ _ _ (⟨some _, .fieldAddr _ _ _, _, _, _, none⟩ :: _) _ _; first | refine DL_qp rfl rfl rfl (fun F' => Q_fieldAddr rfl inferInstance rfl) ?_ | refine DL_q rfl rfl (fun F' => Q_fieldAddr rfl inferInstance rfl) ?_ | refine DL_qp rfl rfl rfl (fun F' => Q_fieldR rfl inferInstance inferInstance rfl (by first | assumption | omega | ((try simp only [List.length_append, List.length_cons, List.length_nil, be_length, List.length_set]); omega))) ?_ | refine DL_q rfl rfl (fun F' => Q_fieldR rfl inferInstance inferInstance rfl (by first | assumption | omega | ((try simp only [List.length_append, List.length_cons, List.length_nil, be_length, List.length_set]); omega))) ?_)
        | (show DL _ _ _ _ _ _ _ _ _ _ _ _ (⟨some _, .load _ _, _, _, _, none⟩ :: _) _ _; first | refine DL_qp rfl rfl rfl (fun F' => Q_load rfl inferInstance inferInstance rfl) ?_ | refine DL_q rfl rfl (fun F' => Q_load rfl inferInstance inferInstance rfl) ?_ | refine DL_qp rfl rfl rfl (fun F' => Q_loadA rfl inferInstance inferInstance rfl) ?_ | refine DL_q rfl rfl (fun F' => Q_loadA rfl inferInstance inferInstance rfl) ?_ | refine DL_qp rfl rfl rfl (fun F' => Q_loadR rfl inferInstance inferInstance inferInstance (by assumption) rfl) ?_ | refine DL_q rfl rfl (fun F' => Q_loadR rfl inferInstance inferInstance inferInstance (by assumption) rfl) ?_ | refine DL_qp rfl rfl rfl (fun F' => Q_loadR rfl inferInstance inferInstance inferInstance rfl rfl) ?_ | refine DL_q rfl rfl (fun F' => Q_loadR rfl inferInstance inferInstance inferInstance rfl rfl) ?_ | refine DL_qp rfl rfl rfl (fun F' => Q_loadRA rfl inferInstance inferInstance inferInstance (by assumption)) ?_ | refine DL_q rfl rfl (fun F' => Q_loadRA rfl inferInstance inferInstance inferInstance (by assumption)) ?_)
        | (show DL _ _ _ _ _ _ _ _ _ _ _ _ (⟨some _, .assign _, _, _, _, none⟩ :: _) _ _; first | refine DL_qp rfl rfl rfl (fun F' => Q_assign rfl) ?_ | refine DL_q rfl rfl (fun F' => Q_assign rfl) ?_)
        | (refine DL_h (H_callR inferInstance rfl (four_spec w0 _ _ _ (by (try simp only [List.length_append, List.length_cons, List.length_nil, be_length, List.length_set]); omega)) inferInstance) rfl rfl rfl ?_; intro g))
      refine ⟨m - 1, _, by omega, ⟨k + 1, g, by omega, rfl⟩, ⟨rfl, rfl, rfl, rfl, trivial⟩, rfl, ?_⟩
      exact Ent.takeR (Pk.upto_succ hz) (Ent.take Ent.last)
    · obtain rfl : k = p.lost.length := by omega
      repeat' (first
        | (refine WS_seqK ?_; intro K hK)
        | (refine hK _ ?_; clear hK K)
        | with_reducible refine thenS_n ?_
        | with_reducible refine thenS_e ?_
        | with_reducible refine blockS_n ?_
        | with_reducible refine blockS_e ?_
        | with_reducible refine blockS_o rfl ?_
        | with_reducible refine thenS_r ?_
        | with_reducible refine blockS_r ?_
        | with_reducible refine use_K (by assumption) ?_
        | refine WS_region ?_
        | refine LS_nil ?_
        | (show LS _ _ _ _ _ (⟨some _, .move _, _, _, _, none⟩ :: _) _; first | refine LS_q (Q_move rfl) rfl ?_)
        | (show LS _ _ _ _ _ (⟨some _, .fieldAddr _ _ _, _, _, _, none⟩ :: _) _; first | refine LS_q (Q_fieldAddr rfl inferInstance rfl) rfl ?_ | refine LS_q (Q_fieldR rfl inferInstance inferInstance rfl (by first | assumption | omega | ((try simp only [List.length_append, List.length_cons, List.length_nil, be_length, List.length_set]); omega))) rfl ?_)
        | (show LS _ _ _ _ _ (⟨some _, .load _ _, _, _, _, none⟩ :: _) _; first | refine LS_q (Q_load rfl inferInstance inferInstance rfl) rfl ?_ | refine LS_q (Q_loadA rfl inferInstance inferInstance rfl) rfl ?_ | refine LS_q (Q_loadR rfl inferInstance inferInstance inferInstance (by assumption) rfl) rfl ?_ | refine LS_q (Q_loadR rfl inferInstance inferInstance inferInstance rfl rfl) rfl ?_ | refine LS_q (Q_loadRA rfl inferInstance inferInstance inferInstance (by assumption)) rfl ?_)
        | (show LS _ _ _ _ _ (⟨some _, .binOp _ _ _ _ _, _, _, _, none⟩ :: _) _; first | refine LS_q (Q_bin_t rfl rfl inferInstance (by first | assumption | omega | decide)) rfl ?_ | refine LS_q (Q_bin_f rfl rfl inferInstance (by first | assumption | omega | decide)) rfl ?_ | refine LS_q (Q_bin_nt rfl rfl inferInstance (by first | assumption | omega | decide)) rfl ?_ | refine LS_q (Q_bin_nf rfl rfl inferInstance (by first | assumption | omega | decide)) rfl ?_ | (refine LS_binS rfl rfl inferInstance rfl ?_ ?_ <;> intro hc) | (refine LS_binN rfl rfl inferInstance rfl ?_ ?_ <;> intro hc) | refine LS_q (Q_bin rfl rfl inferInstance) rfl ?_ | refine LS_q (Q_addI rfl rfl (by omega)) rfl ?_ | refine LS_q (Q_subI rfl rfl (by omega)) rfl ?_ | refine LS_q (Q_addS rfl rfl (by (try simp only [List.length_append, List.length_cons, List.length_nil, be_length, List.length_set]); omega)) rfl ?_ | refine LS_q (Q_quoI rfl rfl (by omega)) rfl ?_ | refine LS_q (Q_remI rfl rfl (by omega)) rfl ?_ | refine LS_q (Q_mulI rfl rfl (by omega)) rfl ?_)
        | (show LS _ _ _ _ _ (⟨some _, .assign _, _, _, _, none⟩ :: _) _; first | refine LS_q (Q_assign rfl) rfl ?_)
        | (show LS _ _ _ _ _ (⟨some _, .index _ _ _, _, _, _, none⟩ :: _) _; first | refine LS_q (Q_indexS rfl rfl inferInstance inferInstance (by assumption)) rfl ?_ | refine LS_q (Q_indexA rfl rfl inferInstance inferInstance inferInstance (by omega) rfl) rfl ?_)
        | (show LS _ _ _ _ _ (⟨some _, .call ⟨.builtin .len, _, _⟩, _, _, _, none⟩ :: _) _; first | refine LS_q (Q_len rfl inferInstance) rfl ?_ | refine LS_q (Q_lenS rfl inferInstance) rfl ?_ | refine LS_q (Q_lenR rfl inferInstance inferInstance) rfl ?_ | refine LS_q (Q_lenM rfl inferInstance inferInstance) rfl ?_)
        | (show LS _ _ _ _ _ (⟨some _, .convert _ _ _, _, _, _, none⟩ :: _) _; first | refine LS_q (Q_conv32_8 rfl inferInstance inferInstance inferInstance) rfl ?_ | refine LS_q (Q_conv64 rfl inferInstance inferInstance inferInstance) rfl ?_ | refine LS_q (Q_conv32 rfl inferInstance inferInstance inferInstance) rfl ?_ | refine LS_q (Q_convS rfl inferInstance rfl inferInstance inferInstance inferInstance) rfl ?_ | refine LS_q (Q_convSame rfl inferInstance inferInstance (by omega)) rfl ?_ | refine LS_q (Q_convI8 rfl inferInstance inferInstance) rfl ?_ | refine LS_q (Q_conv328 rfl inferInstance inferInstance) rfl ?_ | refine LS_q (Q_conv8 rfl inferInstance inferInstance) rfl ?_ | refine LS_q (Q_bytesS rfl inferInstance inferInstance rfl inferInstance inferInstance inferInstance) rfl ?_)
        | (show LS _ _ _ _ _ (⟨some _, .unOp _ _ _, _, _, _, none⟩ :: _) _; first | refine LS_q (Q_un rfl inferInstance) rfl ?_ | refine LS_q (Q_negI rfl (by omega)) rfl ?_)
        | (show LS _ _ _ _ _ (⟨some _, .alloc _, _, _, _, none⟩ :: _) _; first | (refine LS_h (H_alloc inferInstance) rfl ?_; intro g))
        | (show LS _ _ _ _ _ (⟨some _, .box _ _, _, _, _, none⟩ :: _) _; first | (refine LS_h (H_box rfl) rfl ?_; intro g) | (refine LS_h (H_boxO rfl inferInstance) rfl ?_; intro g) | (refine LS_h (H_box1 rfl (by first | rfl | assumption)) rfl ?_; intro g))
        | (show LS _ _ _ _ _ (⟨some _, .build _ _, _, _, _, none⟩ :: _) _; first | refine LS_q (Q_build inferInstance inferInstance rfl rfl) rfl ?_ | refine LS_q (Q_buildA inferInstance inferInstance inferInstance rfl rfl) rfl ?_)
        | (show LS _ _ _ _ _ (⟨some _, .indexAddr _ _ _, _, _, _, none⟩ :: _) _; first | refine LS_q (Q_index rfl rfl inferInstance inferInstance inferInstance inferInstance (by first | assumption | omega | ((try simp only [List.length_append, List.length_cons, List.length_nil, be_length, List.length_set]); omega))) rfl ?_ | refine LS_q (Q_indexV rfl rfl inferInstance inferInstance inferInstance (by first | assumption | omega)) rfl ?_)
        | (refine LS_h (H_buildB inferInstance inferInstance inferInstance rfl rfl rfl rfl rfl inferInstance rfl rfl) rfl ?_; intro g)
        | (refine LS_h (H_buildSlice inferInstance inferInstance inferInstance rfl rfl rfl rfl rfl) rfl ?_; intro g)
        | (refine LS_h (H_buildSlice0 inferInstance inferInstance) rfl ?_; intro g)
        | (show LS _ _ _ _ _ (⟨some _, .call ⟨.builtin .append, _, _⟩, _, _, _, none⟩ :: _) _; first | (refine LS_h (H_appendD rfl rfl inferInstance inferInstance rfl inferInstance inferInstance byteC_one (by (try simp only [List.length_append, List.length_cons, List.length_nil, be_length, List.length_set]); omega) rfl) rfl ?_; intro g) | (refine LS_h (H_appendB rfl rfl inferInstance inferInstance inferInstance rfl rfl inferInstance (by (try simp only [List.length_append, List.length_cons, List.length_nil, be_length, List.length_set]); omega) rfl) rfl ?_; intro g) | (refine LS_h (H_appendS rfl rfl inferInstance rfl inferInstance inferInstance (by (try simp only [List.length_append, List.length_cons, List.length_nil, be_length, List.length_set]); omega) rfl) rfl ?_; intro g))
        | (show LS _ _ _ _ _ (⟨none, _, _, _, _, none⟩ :: _) _; first | (refine LS_h0 (H_storeO rfl rfl inferInstance inferInstance inferInstance rfl) ?_; intro g) | (refine LS_h0 (H_storeAO rfl rfl inferInstance inferInstance inferInstance rfl) ?_; intro g) | (refine LS_h0 (H_store8 rfl rfl inferInstance inferInstance rfl inferInstance (by first | assumption | omega | ((try simp only [List.length_append, List.length_cons, List.length_nil, be_length, List.length_set]); omega))) ?_; intro g) | (refine LS_h0 (H_storeRA _ rfl rfl rfl inferInstance inferInstance inferInstance rfl rfl (by first | assumption | omega | ((try simp only [List.length_append, List.length_cons, List.length_nil, be_length, List.length_set]); omega))) ?_; intro g) | (refine LS_h0 (H_storeR _ rfl rfl inferInstance inferInstance inferInstance rfl (by assumption) rfl) ?_; intro g) | (refine LS_h0 (H_store rfl rfl inferInstance (by first | rfl | assumption) inferInstance rfl) ?_; intro g) | (refine LS_h0 (H_storeA rfl rfl inferInstance inferInstance (by first | rfl | (simp only [List.all_cons, List.all_nil, *]; rfl)) rfl) ?_; intro g))
        | refine WS_block ?_
        | refine WS_skip ?_
        | refine WS_ret ?_
        | refine WS_exit ?_
        | refine WS_label ?_
        | (show WS _ _ _ (.cond _ _ _) _ _; first | refine WS_condT rfl inferInstance ?_ | refine WS_condF rfl inferInstance ?_ | refine WS_condH_t rfl (by assumption) ?_ | refine WS_condH_f rfl (by assumption) ?_ | (refine WS_cond rfl ?_ ?_ <;> intro hc <;> (try simp only [decide_eq_true_eq, decide_eq_false_iff_not, Bool.not_eq_eq_eq_not, Bool.not_true, Bool.not_false, Bool.and_eq_true, Bool.or_eq_true, bne_iff_ne, beq_iff_eq, ne_eq, Decidable.not_not] at hc) <;> (try (exfalso; first | contradiction | omega; done))))
        | refine WS_drawS (by kernel_rfl) ?_
        | refine DL_nilA ?_
        | refine DL_nilS ?_
        | refine DL_nilN ?_
        | refine DL_nilE ?_
        | refine DL_claimS rfl ?_
        | refine DL_claim rfl rfl ?_
        | (show DL _ _ _ _ _ _ _ _ _ _ _ _ (⟨some _, .move _, _, _, _, none⟩ :: _) _ _; first | refine DL_qp rfl rfl rfl (fun F' => Q_move rfl) ?_ | refine DL_q rfl rfl (fun F' => Q_move rfl) ?_)
        | (show DL _ _ _ _ _ _ _ _ _ _ _ _ (⟨some _, .fieldAddr _ _ _, _, _, _, none⟩ :: _) _ _; first | refine DL_qp rfl rfl rfl (fun F' => Q_fieldAddr rfl inferInstance rfl) ?_ | refine DL_q rfl rfl (fun F' => Q_fieldAddr rfl inferInstance rfl) ?_ | refine DL_qp rfl rfl rfl (fun F' => Q_fieldR rfl inferInstance inferInstance rfl (by first | assumption | omega | ((try simp only [List.length_append, List.length_cons, List.length_nil, be_length, List.length_set]); omega))) ?_ | refine DL_q rfl rfl (fun F' => Q_fieldR rfl inferInstance inferInstance rfl (by first | assumption | omega | ((try simp only [List.length_append, List.length_cons, List.length_nil, be_length, List.length_set]); omega))) ?_)
        | (show DL _ _ _ _ _ _ _ _ _ _ _ _ (⟨some _, .load _ _, _, _, _, none⟩ :: _) _ _; first | refine DL_qp rfl rfl rfl (fun F' => Q_load rfl inferInstance inferInstance rfl) ?_ | refine DL_q rfl rfl (fun F' => Q_load rfl inferInstance inferInstance rfl) ?_ | refine DL_qp rfl rfl rfl (fun F' => Q_loadA rfl inferInstance inferInstance rfl) ?_ | refine DL_q rfl rfl (fun F' => Q_loadA rfl inferInstance inferInstance rfl) ?_ | refine DL_qp rfl rfl rfl (fun F' => Q_loadR rfl inferInstance inferInstance inferInstance (by assumption) rfl) ?_ | refine DL_q rfl rfl (fun F' => Q_loadR rfl inferInstance inferInstance inferInstance (by assumption) rfl) ?_ | refine DL_qp rfl rfl rfl (fun F' => Q_loadR rfl inferInstance inferInstance inferInstance rfl rfl) ?_ | refine DL_q rfl rfl (fun F' => Q_loadR rfl inferInstance inferInstance inferInstance rfl rfl) ?_ | refine DL_qp rfl rfl rfl (fun F' => Q_loadRA rfl inferInstance inferInstance inferInstance (by assumption)) ?_ | refine DL_q rfl rfl (fun F' => Q_loadRA rfl inferInstance inferInstance inferInstance (by assumption)) ?_)
        | (show DL _ _ _ _ _ _ _ _ _ _ _ _ (⟨some _, .assign _, _, _, _, none⟩ :: _) _ _; first | refine DL_qp rfl rfl rfl (fun F' => Q_assign rfl) ?_ | refine DL_q rfl rfl (fun F' => Q_assign rfl) ?_))
      simp only [decide_eq_true hc, Pk.out_fit hc, star_assoc]
      exact ret_tmp2 (.inl rfl) rfl rfl rfl ⟨_, rfl, Ent.takeR (Pk.upto_end h3) (Ent.take Ent.last)⟩
theorem encode_spec (p : Pk) (hp : p.Ok) (v : Value) (X : HProp) [hX : Rdr w0 X v (UInt32 × UInt32) 2 lostC p.lost] : Spec Try.prog w0 59 [p.val v] X (fun v' : Value => .tuple #[v', .bool (decide p.Fits)]) (fun v' => rows 5 1 byteC v' p.out * X) := by
  by_cases h : p.kind = 3
  · exact encode_3 w0 p hp h v X
  · exact encode_a w0 p hp h v X
end Go.Proofs.Ytapoehkdnglahaa
