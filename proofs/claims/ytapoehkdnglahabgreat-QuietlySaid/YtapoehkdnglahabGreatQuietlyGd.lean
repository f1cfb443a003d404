/- WireS2 RefS2 Rec DecP DecS JouS JouP JouR KeyS SortC KeysI KeysC, joined. -/
import Derived.Test.YtapoehkdnglahabGreatQuietlyGc
/- What wire.four and wire.Encode return, by a walk. -/
namespace Go.Proofs.YtapoehkdnglahabGreat
open Go.RowKit
set_option linter.unusedVariables false
set_option linter.unusedSimpArgs false
attribute [local irreducible] WS LS OpQ OpT OpH OpTQ Spec SpecQ cel
variable (w0 : World)
theorem four_spec (v : Value) (l : List UInt8) (x : UInt32) (hl : l.length ≤ 900000) : Spec Tryz.prog w0 54 [v, u32 x] (rows 5 1 byteC v l) (fun v' : Value => v') (fun v' => rows 5 1 byteC v' (l ++ be x)) := by
  refine Spec.enter Tryz.func54 rfl Tryz.ntmps54 rfl fun G => ?_
  simp only [argE, be_shr]
  repeat' (first
    | (refine WS_seqK ?_; intro K hK)
    | (refine hK _ ?_; clear hK K)
    | (with_reducible (first | refine thenS_n ?_ | refine thenS_e ?_ | refine blockS_n ?_ | refine blockS_e ?_ | refine blockS_o rfl ?_ | refine thenS_r ?_ | refine blockS_r ?_ | refine use_K (by assumption) ?_))
    | refine WS_region ?_
    | refine LS_nil ?_
    | ((refine' LQ ?h rfl ?_); case h => intro F'; first | exact Q_move rfl | exact Q_assign rfl | exact Q_bin_t rfl rfl iI (by first | assumption | omega | decide) | exact Q_bin_f rfl rfl iI (by first | assumption | omega | decide) | exact Q_bin_nt rfl rfl iI (by first | assumption | omega | decide) | exact Q_bin_nf rfl rfl iI (by first | assumption | omega | decide) | exact Q_bin rfl rfl iI | exact Q_addI rfl rfl (by omega) | exact Q_subI rfl rfl (by omega) | exact Q_conv32_8 rfl iI iI iI | exact Q_conv64 rfl iI iI iI | exact Q_conv32 rfl iI iI iI | exact Q_convS rfl iI rfl iI iI iI | exact Q_convSame rfl iI iI (by omega) | exact Q_convI8 rfl iI iI | exact Q_conv328 rfl iI iI | exact Q_conv8 rfl iI iI | exact Q_bytesS rfl iI iI rfl iI iI iI | exact Q_addS rfl rfl (by first | omega | (simp [be_length] <;> omega)) | exact Q_quoI rfl rfl (by omega) | exact Q_remI rfl rfl (by omega) | exact Q_mulI rfl rfl (by omega))
    | ((refine' LS_h ?h rfl ?_); (case h => first | exact H_buildB iI iI iI rfl rfl rfl rfl rfl iI rfl rfl | exact H_buildSlice iI iI iI rfl rfl rfl rfl rfl | exact H_buildSlice0 iI iI | exact H_appendD rfl rfl iI iI rfl iI iI byteC_one (by first | omega | (simp [be_length] <;> omega)) rfl | exact H_appendB rfl rfl iI iI iI rfl rfl iI (by first | omega | (simp [be_length] <;> omega)) rfl | exact H_appendS rfl rfl iI rfl iI iI (by first | omega | (simp [be_length] <;> omega)) rfl | exact H_convS rfl iI rfl iI iI iI); intro g)
    | (first | refine WS_block ?_ | refine WS_skip ?_ | refine WS_ret ?_ | refine WS_exit ?_ | refine WS_label ?_)
    | (show WS _ _ _ (.cond _ _ _) _ _; first | refine WS_condT rfl iI ?_ | refine WS_condF rfl iI ?_ | refine WS_condH_t rfl (by assumption) ?_ | refine WS_condH_f rfl (by assumption) ?_ | (refine WS_cond rfl ?_ ?_ <;> intro hc <;> (try simp only [decide_eq_true_eq, decide_eq_false_iff_not, Bool.not_eq_eq_eq_not, Bool.not_true, Bool.not_false, Bool.and_eq_true, Bool.or_eq_true, bne_iff_ne, beq_iff_eq, ne_eq, Decidable.not_not] at hc) <;> (try (exfalso; first | contradiction | omega; done)))))
  all_goals exact ret_tmp (.inl rfl) rfl rfl ⟨_, rfl, Ent.refl _⟩
/-- What Encode's slice holds. -/
def Pk.out (p : Pk) : List UInt8 := if p.Fits then p.bytes else []
theorem Pk.out_fit {p : Pk} (h : p.Fits) : p.out = p.bytes := if_pos h
theorem Pk.out_not {p : Pk} (h : ¬ p.Fits) : p.out = [] := if_neg h
theorem Pk.Fits.kind {p : Pk} (h : p.Fits) : p.kind = 1 ∨ p.kind = 2 ∨ p.kind = 3 ∨ p.kind = 9 := by
  unfold Pk.Fits at h
  rcases h.2 with h | h | h | h <;> simp [h.1]
set_option maxRecDepth 100000 in
set_option maxHeartbeats 8000000 in
theorem encode_a (p : Pk) (hp : p.Ok) (h3 : p.kind ≠ 3) (v : Value) (X : HProp) [hX : Rdr w0 X v (UInt32 × UInt32) 2 lostC p.lost] : Spec Tryz.prog w0 169 [p.val v] X (fun v' : Value => .tuple #[v', .bool (decide p.Fits)]) (fun v' => rows 5 1 byteC v' p.out * X) := by
  have hfit := fits_spec w0 p hp v X
  obtain ⟨⟨t1, t2⟩, ⟨k1, k2⟩, ⟨h1, h2⟩, hl, hs⟩ := hp
  refine Spec.enter Tryz.func169 rfl Tryz.ntmps169 rfl fun G => ?_
  simp only [argE, Pk.val, Pk.cells]
  repeat' (first
    | (refine WS_seqK ?_; intro K hK)
    | (refine hK _ ?_; clear hK K)
    | (with_reducible (first | refine thenS_n ?_ | refine thenS_e ?_ | refine blockS_n ?_ | refine blockS_e ?_ | refine blockS_o rfl ?_ | refine thenS_r ?_ | refine blockS_r ?_ | refine use_K (by assumption) ?_))
    | refine WS_region ?_
    | refine LS_nil ?_
    | (first | refine DL_nilA ?_ | refine DL_nilS ?_ | refine DL_nilN ?_ | refine DL_nilE ?_ | refine DL_nilR ?_)
    | (first | refine DL_claimS rfl ?_ | refine DL_claim rfl rfl ?_)
    | (refine DL_alloc iI rfl ?_; intro g)
    | ((first | refine' LQ ?h rfl ?_ | refine' DL_qp rfl rfl rfl ?h ?_ | refine' DL_q rfl rfl ?h ?_); case h => intro F'; first | exact Q_move rfl | exact Q_assign rfl | exact Q_fieldAddr rfl iI rfl | exact Q_load rfl iI iI rfl | exact Q_bin_t rfl rfl iI (by first | assumption | omega | decide) | exact Q_bin_f rfl rfl iI (by first | assumption | omega | decide) | exact Q_bin_nt rfl rfl iI (by first | assumption | omega | decide) | exact Q_bin_nf rfl rfl iI (by first | assumption | omega | decide) | exact Q_addI rfl rfl (by omega) | exact Q_subI rfl rfl (by omega) | exact Q_un rfl iI | exact Q_loadA rfl iI iI rfl | exact Q_build iI iI rfl rfl | exact Q_buildA iI iI iI rfl rfl | exact Q_len rfl iI | exact Q_lenS rfl iI | exact Q_index rfl rfl iI iI iI iI (by first | assumption | omega | (simp [be_length] <;> omega)) | exact Q_fieldR rfl iI iI rfl (by first | assumption | omega | (simp [be_length] <;> omega)) | exact Q_loadR rfl iI iI iI (by assumption) rfl | exact Q_loadR rfl iI iI iI rfl rfl | exact Q_loadRA rfl iI iI iI (by assumption) | exact Q_lenR rfl iI iI | exact Q_lenM rfl iI iI | exact Q_conv32_8 rfl iI iI iI | exact Q_conv64 rfl iI iI iI | exact Q_conv32 rfl iI iI iI | exact Q_convS rfl iI rfl iI iI iI | exact Q_convSame rfl iI iI (by omega) | exact Q_convI8 rfl iI iI | exact Q_conv328 rfl iI iI | exact Q_conv8 rfl iI iI | exact Q_bytesS rfl iI iI rfl iI iI iI | exact Q_addS rfl rfl (by first | omega | (simp [be_length] <;> omega)) | exact Q_indexS rfl rfl iI iI (by assumption) | exact Q_indexV rfl rfl iI iI iI (by first | assumption | omega) | exact Q_indexA rfl rfl iI iI iI (by omega) rfl | exact Q_quoI rfl rfl (by omega) | exact Q_remI rfl rfl (by omega) | exact Q_negI rfl (by omega) | exact Q_mulI rfl rfl (by omega))
    | ((first | refine LS_binS rfl rfl iI rfl ?_ ?_ | refine LS_binN rfl rfl iI rfl ?_ ?_ | refine DL_binS rfl rfl iI rfl ?_ ?_) <;> intro hc)
    | ((first | refine' LQ ?h rfl ?_ | refine' DL_qp rfl rfl rfl ?h ?_ | refine' DL_q rfl rfl ?h ?_); case h => intro F'; first | exact Q_bin rfl rfl iI)
    | ((first | refine' LS_h ?h rfl ?_ | refine' DL_h ?h rfl rfl rfl ?_); (case h => first | exact H_alloc iI | exact H_box rfl | exact H_boxO rfl iI | exact H_buildB iI iI iI rfl rfl rfl rfl rfl iI rfl rfl | exact H_buildSlice iI iI iI rfl rfl rfl rfl rfl | exact H_buildSlice0 iI iI | exact H_appendD rfl rfl iI iI rfl iI iI byteC_one (by first | omega | (simp [be_length] <;> omega)) rfl | exact H_appendB rfl rfl iI iI iI rfl rfl iI (by first | omega | (simp [be_length] <;> omega)) rfl | exact H_appendS rfl rfl iI rfl iI iI (by first | omega | (simp [be_length] <;> omega)) rfl | exact H_convS rfl iI rfl iI iI iI | exact H_box1 rfl (by first | rfl | assumption)); intro g)
    | ((first | refine' LS_h0 ?h ?_ | refine' DL_h0 ?h rfl rfl ?_); (case h => first | exact H_storeO rfl rfl iI iI iI rfl | exact H_storeAO rfl rfl iI iI iI rfl | exact H_store8 rfl rfl iI iI rfl iI (by first | assumption | omega | (simp [be_length] <;> omega)) | exact H_storeRA _ rfl rfl rfl iI iI iI rfl rfl (by first | assumption | omega | (simp [be_length] <;> omega)) | exact H_storeR _ rfl rfl iI iI iI rfl (by assumption) rfl | exact H_store rfl rfl iI (by first | rfl | assumption) iI rfl | exact H_storeA rfl rfl iI iI (by first | rfl | (simp only [List.all_cons, List.all_nil, *]; rfl)) rfl); intro g)
    | (first | refine WS_block ?_ | refine WS_skip ?_ | refine WS_ret ?_ | refine WS_exit ?_ | refine WS_label ?_)
    | (show WS _ _ _ (.cond _ _ _) _ _; first | refine WS_condT rfl iI ?_ | refine WS_condF rfl iI ?_ | refine WS_condH_t rfl (by assumption) ?_ | refine WS_condH_f rfl (by assumption) ?_ | (refine WS_cond rfl ?_ ?_ <;> intro hc <;> (try simp only [decide_eq_true_eq, decide_eq_false_iff_not, Bool.not_eq_eq_eq_not, Bool.not_true, Bool.not_false, Bool.and_eq_true, Bool.or_eq_true, bne_iff_ne, beq_iff_eq, ne_eq, Decidable.not_not] at hc) <;> (try (exfalso; first | contradiction | omega; done))))
    | refine WS_drawS (by kernel_rfl) ?_
    | (refine LS_h (H_callX iI rfl hfit iI) rfl ?_; intro g)
    | (refine LS_h (H_callR iI rfl (four_spec w0 _ _ _ (by first | omega | (simp [be_length] <;> omega))) iI) rfl ?_; intro g)
    | refine WS_unroll 6 ?_
    | refine Un_succ ?_)
  · simp only [decide_eq_false hc, Pk.out_not hc, star_assoc]
    refine ret_tmp2 (.inl rfl) rfl rfl rfl ⟨_, rfl, ?_⟩
    exact (Ent.nil _ _ _ _ _).trans (Ent.tail _ (Ent.take Ent.last))
  all_goals have hF := ‹p.Fits›
  all_goals have hk := hF.kind
  all_goals simp only [decide_eq_true hF, Pk.out_fit hF, star_assoc]
  all_goals refine ret_tmp2 (.inl rfl) rfl rfl rfl ⟨_, rfl, Ent.takeR ?_ (Ent.take Ent.last)⟩
  all_goals first | (exfalso; omega) | (simp [Pk.bytes, *]; try decide)
/-- A frame of kind 3, up to its kth element. -/
def Pk.upto (p : Pk) (k : Nat) : List UInt8 := [b8 p.ttl, 3, 0, 0] ++ [b8 p.lost.length] ++ lostB (p.lost.take k)
theorem Pk.upto_length (p : Pk) (k : Nat) : (p.upto k).length = 5 + 8 * min k p.lost.length := by
  simp [Pk.upto, lostB_length]; omega
theorem Pk.upto_succ {p : Pk} {k : Nat} {z : UInt32 × UInt32} (h : p.lost[k]? = some z) : p.upto k ++ be z.1 ++ be z.2 = p.upto (k + 1) := by
  simp [Pk.upto, lostB_take_succ _ _ _ h]
theorem Pk.upto_end {p : Pk} (h : p.kind = 3) : p.upto p.lost.length = p.bytes := by
  simp [Pk.upto, Pk.bytes, h]
set_option maxRecDepth 100000 in
set_option maxHeartbeats 8000000 in
theorem encode_3 (p : Pk) (hp : p.Ok) (h3 : p.kind = 3) (v : Value) (X : HProp) [hX : Rdr w0 X v (UInt32 × UInt32) 2 lostC p.lost] : Spec Tryz.prog w0 169 [p.val v] X (fun v' : Value => .tuple #[v', .bool (decide p.Fits)]) (fun v' => rows 5 1 byteC v' p.out * X) := by
  have hfit := fits_spec w0 p hp v X
  obtain ⟨⟨t1, t2⟩, ⟨k1, k2⟩, ⟨h1, h2⟩, hl, hs⟩ := hp
  refine Spec.enter Tryz.func169 rfl Tryz.ntmps169 rfl fun G => ?_
  simp only [argE, Pk.val, Pk.cells]
  repeat' (first
    | (refine WS_seqK ?_; intro K hK)
    | (refine hK _ ?_; clear hK K)
    | (with_reducible (first | refine thenS_n ?_ | refine thenS_e ?_ | refine blockS_n ?_ | refine blockS_e ?_ | refine blockS_o rfl ?_ | refine thenS_r ?_ | refine blockS_r ?_ | refine use_K (by assumption) ?_))
    | refine WS_region ?_
    | refine LS_nil ?_
    | (first | refine DL_nilA ?_ | refine DL_nilS ?_ | refine DL_nilN ?_ | refine DL_nilE ?_ | refine DL_nilR ?_)
    | (first | refine DL_claimS rfl ?_ | refine DL_claim rfl rfl ?_)
    | (refine DL_alloc iI rfl ?_; intro g)
    | ((first | refine' LQ ?h rfl ?_ | refine' DL_qp rfl rfl rfl ?h ?_ | refine' DL_q rfl rfl ?h ?_); case h => intro F'; first | exact Q_move rfl | exact Q_assign rfl | exact Q_fieldAddr rfl iI rfl | exact Q_load rfl iI iI rfl | exact Q_bin_t rfl rfl iI (by first | assumption | omega | decide) | exact Q_bin_f rfl rfl iI (by first | assumption | omega | decide) | exact Q_bin_nt rfl rfl iI (by first | assumption | omega | decide) | exact Q_bin_nf rfl rfl iI (by first | assumption | omega | decide) | exact Q_addI rfl rfl (by omega) | exact Q_subI rfl rfl (by omega) | exact Q_un rfl iI | exact Q_loadA rfl iI iI rfl | exact Q_build iI iI rfl rfl | exact Q_buildA iI iI iI rfl rfl | exact Q_len rfl iI | exact Q_lenS rfl iI | exact Q_index rfl rfl iI iI iI iI (by first | assumption | omega | (simp [be_length] <;> omega)) | exact Q_fieldR rfl iI iI rfl (by first | assumption | omega | (simp [be_length] <;> omega)) | exact Q_loadR rfl iI iI iI (by assumption) rfl | exact Q_loadR rfl iI iI iI rfl rfl | exact Q_loadRA rfl iI iI iI (by assumption) | exact Q_lenR rfl iI iI | exact Q_lenM rfl iI iI | exact Q_conv32_8 rfl iI iI iI | exact Q_conv64 rfl iI iI iI | exact Q_conv32 rfl iI iI iI | exact Q_convS rfl iI rfl iI iI iI | exact Q_convSame rfl iI iI (by omega) | exact Q_convI8 rfl iI iI | exact Q_conv328 rfl iI iI | exact Q_conv8 rfl iI iI | exact Q_bytesS rfl iI iI rfl iI iI iI | exact Q_addS rfl rfl (by first | omega | (simp [be_length] <;> omega)) | exact Q_indexS rfl rfl iI iI (by assumption) | exact Q_indexV rfl rfl iI iI iI (by first | assumption | omega) | exact Q_indexA rfl rfl iI iI iI (by omega) rfl | exact Q_quoI rfl rfl (by omega) | exact Q_remI rfl rfl (by omega) | exact Q_negI rfl (by omega) | exact Q_mulI rfl rfl (by omega))
    | ((first | refine LS_binS rfl rfl iI rfl ?_ ?_ | refine LS_binN rfl rfl iI rfl ?_ ?_ | refine DL_binS rfl rfl iI rfl ?_ ?_) <;> intro hc)
    | ((first | refine' LQ ?h rfl ?_ | refine' DL_qp rfl rfl rfl ?h ?_ | refine' DL_q rfl rfl ?h ?_); case h => intro F'; first | exact Q_bin rfl rfl iI)
    | ((first | refine' LS_h ?h rfl ?_ | refine' DL_h ?h rfl rfl rfl ?_); (case h => first | exact H_alloc iI | exact H_box rfl | exact H_boxO rfl iI | exact H_buildB iI iI iI rfl rfl rfl rfl rfl iI rfl rfl | exact H_buildSlice iI iI iI rfl rfl rfl rfl rfl | exact H_buildSlice0 iI iI | exact H_appendD rfl rfl iI iI rfl iI iI byteC_one (by first | omega | (simp [be_length] <;> omega)) rfl | exact H_appendB rfl rfl iI iI iI rfl rfl iI (by first | omega | (simp [be_length] <;> omega)) rfl | exact H_appendS rfl rfl iI rfl iI iI (by first | omega | (simp [be_length] <;> omega)) rfl | exact H_convS rfl iI rfl iI iI iI | exact H_box1 rfl (by first | rfl | assumption)); intro g)
    | ((first | refine' LS_h0 ?h ?_ | refine' DL_h0 ?h rfl rfl ?_); (case h => first | exact H_storeO rfl rfl iI iI iI rfl | exact H_storeAO rfl rfl iI iI iI rfl | exact H_store8 rfl rfl iI iI rfl iI (by first | assumption | omega | (simp [be_length] <;> omega)) | exact H_storeRA _ rfl rfl rfl iI iI iI rfl rfl (by first | assumption | omega | (simp [be_length] <;> omega)) | exact H_storeR _ rfl rfl iI iI iI rfl (by assumption) rfl | exact H_store rfl rfl iI (by first | rfl | assumption) iI rfl | exact H_storeA rfl rfl iI iI (by first | rfl | (simp only [List.all_cons, List.all_nil, *]; rfl)) rfl); intro g)
    | (first | refine WS_block ?_ | refine WS_skip ?_ | refine WS_ret ?_ | refine WS_exit ?_ | refine WS_label ?_)
    | (show WS _ _ _ (.cond _ _ _) _ _; first | refine WS_condT rfl iI ?_ | refine WS_condF rfl iI ?_ | refine WS_condH_t rfl (by assumption) ?_ | refine WS_condH_f rfl (by assumption) ?_ | (refine WS_cond rfl ?_ ?_ <;> intro hc <;> (try simp only [decide_eq_true_eq, decide_eq_false_iff_not, Bool.not_eq_eq_eq_not, Bool.not_true, Bool.not_false, Bool.and_eq_true, Bool.or_eq_true, bne_iff_ne, beq_iff_eq, ne_eq, Decidable.not_not] at hc) <;> (try (exfalso; first | contradiction | omega; done))))
    | refine WS_drawS (by kernel_rfl) ?_
    | (refine LS_h (H_callX iI rfl hfit iI) rfl ?_; intro g))
  · simp only [decide_eq_false hc, Pk.out_not hc, star_assoc]
    refine ret_tmp2 (.inl rfl) rfl rfl rfl ⟨_, rfl, ?_⟩
    exact (Ent.nil _ _ _ _ _).trans (Ent.tail _ (Ent.take Ent.last))
  refine WS_loop (fun m τ => ∃ k v', k + m = p.lost.length ∧ τ = ⟨[(4, v'), (91, .int .i64 (k : Int)), (90, .int .i64 (p.lost.length : Int)), (89, v)], [], rows 5 1 byteC v' (p.upto k) * (X * G)⟩) ?_ ?_
  · refine ⟨p.lost.length, _, ⟨0, g, by omega, rfl⟩, ⟨rfl, rfl, rfl, rfl, trivial⟩, rfl, ?_⟩
    exact Ent.takeR (by simp [Pk.upto, h3]; exact ⟨rfl, rfl⟩) (Ent.take Ent.last)
  · rintro m τ ⟨k, v', hkm, rfl⟩
    clear g
    rcases Nat.lt_or_ge k p.lost.length with hlt | hge
    · obtain ⟨z, hz⟩ : ∃ z, p.lost[k]? = some z := ⟨_, List.getElem?_eq_getElem hlt⟩
      repeat' (first
        | (refine WS_seqK ?_; intro K hK)
        | (refine hK _ ?_; clear hK K)
        | (with_reducible (first | refine thenS_n ?_ | refine thenS_e ?_ | refine blockS_n ?_ | refine blockS_e ?_ | refine blockS_o rfl ?_ | refine thenS_r ?_ | refine blockS_r ?_ | refine use_K (by assumption) ?_))
        | refine WS_region ?_
        | refine LS_nil ?_
        | (first | refine DL_nilA ?_ | refine DL_nilS ?_ | refine DL_nilN ?_ | refine DL_nilE ?_ | refine DL_nilR ?_)
        | (first | refine DL_claimS rfl ?_ | refine DL_claim rfl rfl ?_)
        | (refine DL_alloc iI rfl ?_; intro g)
        | ((first | refine' LQ ?h rfl ?_ | refine' DL_qp rfl rfl rfl ?h ?_ | refine' DL_q rfl rfl ?h ?_); case h => intro F'; first | exact Q_move rfl | exact Q_assign rfl | exact Q_fieldAddr rfl iI rfl | exact Q_load rfl iI iI rfl | exact Q_bin_t rfl rfl iI (by first | assumption | omega | decide) | exact Q_bin_f rfl rfl iI (by first | assumption | omega | decide) | exact Q_bin_nt rfl rfl iI (by first | assumption | omega | decide) | exact Q_bin_nf rfl rfl iI (by first | assumption | omega | decide) | exact Q_addI rfl rfl (by omega) | exact Q_subI rfl rfl (by omega) | exact Q_un rfl iI | exact Q_loadA rfl iI iI rfl | exact Q_build iI iI rfl rfl | exact Q_buildA iI iI iI rfl rfl | exact Q_len rfl iI | exact Q_lenS rfl iI | exact Q_index rfl rfl iI iI iI iI (by first | assumption | omega | (simp [be_length] <;> omega)) | exact Q_fieldR rfl iI iI rfl (by first | assumption | omega | (simp [be_length] <;> omega)) | exact Q_loadR rfl iI iI iI (by assumption) rfl | exact Q_loadR rfl iI iI iI rfl rfl | exact Q_loadRA rfl iI iI iI (by assumption) | exact Q_lenR rfl iI iI | exact Q_lenM rfl iI iI | exact Q_conv32_8 rfl iI iI iI | exact Q_conv64 rfl iI iI iI | exact Q_conv32 rfl iI iI iI | exact Q_convS rfl iI rfl iI iI iI | exact Q_convSame rfl iI iI (by omega) | exact Q_convI8 rfl iI iI | exact Q_conv328 rfl iI iI | exact Q_conv8 rfl iI iI | exact Q_bytesS rfl iI iI rfl iI iI iI | exact Q_addS rfl rfl (by first | omega | (simp [be_length] <;> omega)) | exact Q_indexS rfl rfl iI iI (by assumption) | exact Q_indexV rfl rfl iI iI iI (by first | assumption | omega) | exact Q_indexA rfl rfl iI iI iI (by omega) rfl | exact Q_quoI rfl rfl (by omega) | exact Q_remI rfl rfl (by omega) | exact Q_negI rfl (by omega) | exact Q_mulI rfl rfl (by omega))
        | ((first | refine LS_binS rfl rfl iI rfl ?_ ?_ | refine LS_binN rfl rfl iI rfl ?_ ?_ | refine DL_binS rfl rfl iI rfl ?_ ?_) <;> intro hc)
        | ((first | refine' LQ ?h rfl ?_ | refine' DL_qp rfl rfl rfl ?h ?_ | refine' DL_q rfl rfl ?h ?_); case h => intro F'; first | exact Q_bin rfl rfl iI)
        | ((first | refine' LS_h ?h rfl ?_ | refine' DL_h ?h rfl rfl rfl ?_); (case h => first | exact H_alloc iI | exact H_box rfl | exact H_boxO rfl iI | exact H_buildB iI iI iI rfl rfl rfl rfl rfl iI rfl rfl | exact H_buildSlice iI iI iI rfl rfl rfl rfl rfl | exact H_buildSlice0 iI iI | exact H_appendD rfl rfl iI iI rfl iI iI byteC_one (by first | omega | (simp [be_length] <;> omega)) rfl | exact H_appendB rfl rfl iI iI iI rfl rfl iI (by first | omega | (simp [be_length] <;> omega)) rfl | exact H_appendS rfl rfl iI rfl iI iI (by first | omega | (simp [be_length] <;> omega)) rfl | exact H_convS rfl iI rfl iI iI iI | exact H_box1 rfl (by first | rfl | assumption)); intro g)
        | ((first | refine' LS_h0 ?h ?_ | refine' DL_h0 ?h rfl rfl ?_); (case h => first | exact H_storeO rfl rfl iI iI iI rfl | exact H_storeAO rfl rfl iI iI iI rfl | exact H_store8 rfl rfl iI iI rfl iI (by first | assumption | omega | (simp [be_length] <;> omega)) | exact H_storeRA _ rfl rfl rfl iI iI iI rfl rfl (by first | assumption | omega | (simp [be_length] <;> omega)) | exact H_storeR _ rfl rfl iI iI iI rfl (by assumption) rfl | exact H_store rfl rfl iI (by first | rfl | assumption) iI rfl | exact H_storeA rfl rfl iI iI (by first | rfl | (simp only [List.all_cons, List.all_nil, *]; rfl)) rfl); intro g)
        | (first | refine WS_block ?_ | refine WS_skip ?_ | refine WS_ret ?_ | refine WS_exit ?_ | refine WS_label ?_)
        | (show WS _ _ _ (.cond _ _ _) _ _; first | refine WS_condT rfl iI ?_ | refine WS_condF rfl iI ?_ | refine WS_condH_t rfl (by assumption) ?_ | refine WS_condH_f rfl (by assumption) ?_ | (refine WS_cond rfl ?_ ?_ <;> intro hc <;> (try simp only [decide_eq_true_eq, decide_eq_false_iff_not, Bool.not_eq_eq_eq_not, Bool.not_true, Bool.not_false, Bool.and_eq_true, Bool.or_eq_true, bne_iff_ne, beq_iff_eq, ne_eq, Decidable.not_not] at hc) <;> (try (exfalso; first | contradiction | omega; done)))))
      have hul := p.upto_length k
      refine WS_drawC [0, 1, 2, 4, 5, 3, 6, 7] (by kernel_rfl) inferInstance ?_
      repeat' (first
        | (refine WS_seqK ?_; intro K hK)
        | (refine hK _ ?_; clear hK K)
        | (with_reducible (first | refine thenS_n ?_ | refine thenS_e ?_ | refine blockS_n ?_ | refine blockS_e ?_ | refine blockS_o rfl ?_ | refine thenS_r ?_ | refine blockS_r ?_ | refine use_K (by assumption) ?_))
        | refine WS_region ?_
        | refine LS_nil ?_
        | (first | refine DL_nilA ?_ | refine DL_nilS ?_ | refine DL_nilN ?_ | refine DL_nilE ?_ | refine DL_nilR ?_)
        | (first | refine DL_claimS rfl ?_ | refine DL_claim rfl rfl ?_)
        | (refine DL_alloc iI rfl ?_; intro g)
        | ((first | refine' LQ ?h rfl ?_ | refine' DL_qp rfl rfl rfl ?h ?_ | refine' DL_q rfl rfl ?h ?_); case h => intro F'; first | exact Q_move rfl | exact Q_assign rfl | exact Q_fieldAddr rfl iI rfl | exact Q_load rfl iI iI rfl | exact Q_bin_t rfl rfl iI (by first | assumption | omega | decide) | exact Q_bin_f rfl rfl iI (by first | assumption | omega | decide) | exact Q_bin_nt rfl rfl iI (by first | assumption | omega | decide) | exact Q_bin_nf rfl rfl iI (by first | assumption | omega | decide) | exact Q_addI rfl rfl (by omega) | exact Q_subI rfl rfl (by omega) | exact Q_un rfl iI | exact Q_loadA rfl iI iI rfl | exact Q_build iI iI rfl rfl | exact Q_buildA iI iI iI rfl rfl | exact Q_len rfl iI | exact Q_lenS rfl iI | exact Q_index rfl rfl iI iI iI iI (by first | assumption | omega | (simp [be_length] <;> omega)) | exact Q_fieldR rfl iI iI rfl (by first | assumption | omega | (simp [be_length] <;> omega)) | exact Q_loadR rfl iI iI iI (by assumption) rfl | exact Q_loadR rfl iI iI iI rfl rfl | exact Q_loadRA rfl iI iI iI (by assumption) | exact Q_lenR rfl iI iI | exact Q_lenM rfl iI iI | exact Q_conv32_8 rfl iI iI iI | exact Q_conv64 rfl iI iI iI | exact Q_conv32 rfl iI iI iI | exact Q_convS rfl iI rfl iI iI iI | exact Q_convSame rfl iI iI (by omega) | exact Q_convI8 rfl iI iI | exact Q_conv328 rfl iI iI | exact Q_conv8 rfl iI iI | exact Q_bytesS rfl iI iI rfl iI iI iI | exact Q_addS rfl rfl (by first | omega | (simp [be_length] <;> omega)) | exact Q_indexS rfl rfl iI iI (by assumption) | exact Q_indexV rfl rfl iI iI iI (by first | assumption | omega) | exact Q_indexA rfl rfl iI iI iI (by omega) rfl | exact Q_quoI rfl rfl (by omega) | exact Q_remI rfl rfl (by omega) | exact Q_negI rfl (by omega) | exact Q_mulI rfl rfl (by omega))
        | ((first | refine LS_binS rfl rfl iI rfl ?_ ?_ | refine LS_binN rfl rfl iI rfl ?_ ?_ | refine DL_binS rfl rfl iI rfl ?_ ?_) <;> intro hc)
        | ((first | refine' LQ ?h rfl ?_ | refine' DL_qp rfl rfl rfl ?h ?_ | refine' DL_q rfl rfl ?h ?_); case h => intro F'; first | exact Q_bin rfl rfl iI)
        | ((first | refine' LS_h ?h rfl ?_ | refine' DL_h ?h rfl rfl rfl ?_); (case h => first | exact H_alloc iI | exact H_box rfl | exact H_boxO rfl iI | exact H_buildB iI iI iI rfl rfl rfl rfl rfl iI rfl rfl | exact H_buildSlice iI iI iI rfl rfl rfl rfl rfl | exact H_buildSlice0 iI iI | exact H_appendD rfl rfl iI iI rfl iI iI byteC_one (by first | omega | (simp [be_length] <;> omega)) rfl | exact H_appendB rfl rfl iI iI iI rfl rfl iI (by first | omega | (simp [be_length] <;> omega)) rfl | exact H_appendS rfl rfl iI rfl iI iI (by first | omega | (simp [be_length] <;> omega)) rfl | exact H_convS rfl iI rfl iI iI iI | exact H_box1 rfl (by first | rfl | assumption)); intro g)
        | ((first | refine' LS_h0 ?h ?_ | refine' DL_h0 ?h rfl rfl ?_); (case h => first | exact H_storeO rfl rfl iI iI iI rfl | exact H_storeAO rfl rfl iI iI iI rfl | exact H_store8 rfl rfl iI iI rfl iI (by first | assumption | omega | (simp [be_length] <;> omega)) | exact H_storeRA _ rfl rfl rfl iI iI iI rfl rfl (by first | assumption | omega | (simp [be_length] <;> omega)) | exact H_storeR _ rfl rfl iI iI iI rfl (by assumption) rfl | exact H_store rfl rfl iI (by first | rfl | assumption) iI rfl | exact H_storeA rfl rfl iI iI (by first | rfl | (simp only [List.all_cons, List.all_nil, *]; rfl)) rfl); intro g)
        | (first | refine WS_block ?_ | refine WS_skip ?_ | refine WS_ret ?_ | refine WS_exit ?_ | refine WS_label ?_)
        | (show WS _ _ _ (.cond _ _ _) _ _; first | refine WS_condT rfl iI ?_ | refine WS_condF rfl iI ?_ | refine WS_condH_t rfl (by assumption) ?_ | refine WS_condH_f rfl (by assumption) ?_ | (refine WS_cond rfl ?_ ?_ <;> intro hc <;> (try simp only [decide_eq_true_eq, decide_eq_false_iff_not, Bool.not_eq_eq_eq_not, Bool.not_true, Bool.not_false, Bool.and_eq_true, Bool.or_eq_true, bne_iff_ne, beq_iff_eq, ne_eq, Decidable.not_not] at hc) <;> (try (exfalso; first | contradiction | omega; done))))
        | refine WS_drawS (by kernel_rfl) ?_
        | (refine DL_h (H_callR iI rfl (four_spec w0 _ _ _ (by first | omega | (simp [be_length] <;> omega))) iI) rfl rfl rfl ?_; intro g))
      refine ⟨m - 1, _, by omega, ⟨k + 1, g, by omega, rfl⟩, ⟨rfl, rfl, rfl, rfl, trivial⟩, rfl, ?_⟩
      exact Ent.takeR (Pk.upto_succ hz) (Ent.take Ent.last)
    · obtain rfl : k = p.lost.length := by omega
      repeat' (first
        | (refine WS_seqK ?_; intro K hK)
        | (refine hK _ ?_; clear hK K)
        | (with_reducible (first | refine thenS_n ?_ | refine thenS_e ?_ | refine blockS_n ?_ | refine blockS_e ?_ | refine blockS_o rfl ?_ | refine thenS_r ?_ | refine blockS_r ?_ | refine use_K (by assumption) ?_))
        | refine WS_region ?_
        | refine LS_nil ?_
        | (first | refine DL_nilA ?_ | refine DL_nilS ?_ | refine DL_nilN ?_ | refine DL_nilE ?_ | refine DL_nilR ?_)
        | (first | refine DL_claimS rfl ?_ | refine DL_claim rfl rfl ?_)
        | (refine DL_alloc iI rfl ?_; intro g)
        | ((first | refine' LQ ?h rfl ?_ | refine' DL_qp rfl rfl rfl ?h ?_ | refine' DL_q rfl rfl ?h ?_); case h => intro F'; first | exact Q_move rfl | exact Q_assign rfl | exact Q_fieldAddr rfl iI rfl | exact Q_load rfl iI iI rfl | exact Q_bin_t rfl rfl iI (by first | assumption | omega | decide) | exact Q_bin_f rfl rfl iI (by first | assumption | omega | decide) | exact Q_bin_nt rfl rfl iI (by first | assumption | omega | decide) | exact Q_bin_nf rfl rfl iI (by first | assumption | omega | decide) | exact Q_addI rfl rfl (by omega) | exact Q_subI rfl rfl (by omega) | exact Q_un rfl iI | exact Q_loadA rfl iI iI rfl | exact Q_build iI iI rfl rfl | exact Q_buildA iI iI iI rfl rfl | exact Q_len rfl iI | exact Q_lenS rfl iI | exact Q_index rfl rfl iI iI iI iI (by first | assumption | omega | (simp [be_length] <;> omega)) | exact Q_fieldR rfl iI iI rfl (by first | assumption | omega | (simp [be_length] <;> omega)) | exact Q_loadR rfl iI iI iI (by assumption) rfl | exact Q_loadR rfl iI iI iI rfl rfl | exact Q_loadRA rfl iI iI iI (by assumption) | exact Q_lenR rfl iI iI | exact Q_lenM rfl iI iI | exact Q_conv32_8 rfl iI iI iI | exact Q_conv64 rfl iI iI iI | exact Q_conv32 rfl iI iI iI | exact Q_convS rfl iI rfl iI iI iI | exact Q_convSame rfl iI iI (by omega) | exact Q_convI8 rfl iI iI | exact Q_conv328 rfl iI iI | exact Q_conv8 rfl iI iI | exact Q_bytesS rfl iI iI rfl iI iI iI | exact Q_addS rfl rfl (by first | omega | (simp [be_length] <;> omega)) | exact Q_indexS rfl rfl iI iI (by assumption) | exact Q_indexV rfl rfl iI iI iI (by first | assumption | omega) | exact Q_indexA rfl rfl iI iI iI (by omega) rfl | exact Q_quoI rfl rfl (by omega) | exact Q_remI rfl rfl (by omega) | exact Q_negI rfl (by omega) | exact Q_mulI rfl rfl (by omega))
        | ((first | refine LS_binS rfl rfl iI rfl ?_ ?_ | refine LS_binN rfl rfl iI rfl ?_ ?_ | refine DL_binS rfl rfl iI rfl ?_ ?_) <;> intro hc)
        | ((first | refine' LQ ?h rfl ?_ | refine' DL_qp rfl rfl rfl ?h ?_ | refine' DL_q rfl rfl ?h ?_); case h => intro F'; first | exact Q_bin rfl rfl iI)
        | ((first | refine' LS_h ?h rfl ?_ | refine' DL_h ?h rfl rfl rfl ?_); (case h => first | exact H_alloc iI | exact H_box rfl | exact H_boxO rfl iI | exact H_buildB iI iI iI rfl rfl rfl rfl rfl iI rfl rfl | exact H_buildSlice iI iI iI rfl rfl rfl rfl rfl | exact H_buildSlice0 iI iI | exact H_appendD rfl rfl iI iI rfl iI iI byteC_one (by first | omega | (simp [be_length] <;> omega)) rfl | exact H_appendB rfl rfl iI iI iI rfl rfl iI (by first | omega | (simp [be_length] <;> omega)) rfl | exact H_appendS rfl rfl iI rfl iI iI (by first | omega | (simp [be_length] <;> omega)) rfl | exact H_convS rfl iI rfl iI iI iI | exact H_box1 rfl (by first | rfl | assumption)); intro g)
        | ((first | refine' LS_h0 ?h ?_ | refine' DL_h0 ?h rfl rfl ?_); (case h => first | exact H_storeO rfl rfl iI iI iI rfl | exact H_storeAO rfl rfl iI iI iI rfl | exact H_store8 rfl rfl iI iI rfl iI (by first | assumption | omega | (simp [be_length] <;> omega)) | exact H_storeRA _ rfl rfl rfl iI iI iI rfl rfl (by first | assumption | omega | (simp [be_length] <;> omega)) | exact H_storeR _ rfl rfl iI iI iI rfl (by assumption) rfl | exact H_store rfl rfl iI (by first | rfl | assumption) iI rfl | exact H_storeA rfl rfl iI iI (by first | rfl | (simp only [List.all_cons, List.all_nil, *]; rfl)) rfl); intro g)
        | (first | refine WS_block ?_ | refine WS_skip ?_ | refine WS_ret ?_ | refine WS_exit ?_ | refine WS_label ?_)
        | (show WS _ _ _ (.cond _ _ _) _ _; first | refine WS_condT rfl iI ?_ | refine WS_condF rfl iI ?_ | refine WS_condH_t rfl (by assumption) ?_ | refine WS_condH_f rfl (by assumption) ?_ | (refine WS_cond rfl ?_ ?_ <;> intro hc <;> (try simp only [decide_eq_true_eq, decide_eq_false_iff_not, Bool.not_eq_eq_eq_not, Bool.not_true, Bool.not_false, Bool.and_eq_true, Bool.or_eq_true, bne_iff_ne, beq_iff_eq, ne_eq, Decidable.not_not] at hc) <;> (try (exfalso; first | contradiction | omega; done))))
        | refine WS_drawS (by kernel_rfl) ?_)
      simp only [decide_eq_true hc, Pk.out_fit hc, star_assoc]
      exact ret_tmp2 (.inl rfl) rfl rfl rfl ⟨_, rfl, Ent.takeR (Pk.upto_end h3) (Ent.take Ent.last)⟩
theorem encode_spec (p : Pk) (hp : p.Ok) (v : Value) (X : HProp) [hX : Rdr w0 X v (UInt32 × UInt32) 2 lostC p.lost] : Spec Tryz.prog w0 169 [p.val v] X (fun v' : Value => .tuple #[v', .bool (decide p.Fits)]) (fun v' => rows 5 1 byteC v' p.out * X) := by
  by_cases h : p.kind = 3
  · exact encode_3 w0 p hp h v X
  · exact encode_a w0 p hp h v X
end Go.Proofs.YtapoehkdnglahabGreat

/- What meshref.Encode returns, by a walk. -/
namespace Go.Proofs.YtapoehkdnglahabGreat
open Go.RowKit
set_option linter.unusedVariables false
set_option linter.unusedSimpArgs false
attribute [local irreducible] WS LS OpQ OpT OpH OpTQ Spec SpecQ cel
variable (w0 : World)
/-- What meshref.Encode returns. -/
def Pk.ret (p : Pk) : Value := .tuple #[strV p.out, .int .i64 (if p.Fits then 0 else 1)]
end Go.Proofs.YtapoehkdnglahabGreat

/- A deferred function that recovers. No program in sight. -/
namespace Go.Proofs.YtapoehkdnglahabGreat
open Go.RowKit
set_option linter.unusedVariables false
set_option linter.unusedSimpArgs false
variable {P : Program} {w0 : World}
/-- A value as an interface's. -/
theorem Q_makeInterface {n : Frm} {E : Env} {H : HProp} {d : Option Tmp} {ty : TypeId} {pos : String} {after : Array Edge} {gu : Option (Nat × Bool)} {x : Operand} {v : Value} {t : TypeId} (hx : E.ev x = some v) (h : P.concrete t = true) : OpQ P n w0 ⟨d, .makeInterface t x, ty, pos, after, gu⟩ E H (.iface t v) := fun a w s hs => by
  simp [execOp, s.ev hx, run_makeInterface (w := w) t v h]
/-- What recover hands out in mode u, and the mode then. -/
def recV : FrameMode → Value × FrameMode
  | .panicking ({ v, recovered := false, goexit := false } :: older) => (v, .panicking ({ v, recovered := true } :: older))
  | u => (.nilIface, u)
theorem recoverD_eq (c₀ : Frame) (cs : List Frame) (u : FrameMode) (hu : c₀.mode = u) : (recoverD (c₀ :: cs) = some ((recV u).1, { c₀ with mode := (recV u).2 } :: cs)) ∨ (recoverD (c₀ :: cs) = none ∧ recV u = (.nilIface, u)) := by
  subst hu
  cases hm : c₀.mode with
  | panicking ch =>
    cases ch with
    | nil => simp [recoverD, recV, hm]
    | cons p older => obtain ⟨v, r, g⟩ := p; cases r <;> cases g <;> simp [recoverD, recV, hm]
  | _ => simp [recoverD, recV, hm]
/-- The body: 'if recover() != nil { .. }'. -/
theorem DSpec.enterR {f : FuncId} {fn : Func} {c2 : Code} {args : List Value} {u : FrameMode} {H : HProp} {K : FrameMode → HProp → Prop} {m id d d2 : Nat} {ty ty2 : TypeId} {pos pos2 : String} {after after2 : Array Edge} {op2 : Op} {b : Bool}
    (hf : P.funcs[f]? = some fn) (hb : fn.body = some (.seq (.region id #[⟨some d, .call ⟨.builtin .recover, #[], #[]⟩, ty, pos, after, none⟩, ⟨some d2, op2, ty2, pos2, after2, none⟩] false) c2)) (hn : fn.ntmps = m) (hle : Nat.ble args.length m = true) (hd : Nat.blt d m = true) (hd2 : Nat.blt d2 m = true)
    (hop : OpQ P ⟨m, none⟩ w0 ⟨some d2, op2, ty2, pos2, after2, none⟩ ((d, (recV u).1) :: argE 0 args) H (.bool b))
    (h : WS P ⟨m, none⟩ w0 c2 (retS P ⟨m, none⟩ w0 fn fun v H' => K (recV u).2 H') ⟨(d2, .bool b) :: (d, (recV u).1) :: argE 0 args, [], H⟩) : DSpec P w0 f args u H K := by
  intro w hs
  subst hn
  refine callsDIn_of_wpSIn hf hb trivial fun c₀ cs hu => ?_
  refine wpSIn_seq (wpSIn_region ?_)
  have s0 := enter_sees (args := args) hle
  have s1 : Sees ⟨fn.ntmps, none⟩ ((d, (recV u).1) :: argE 0 args) (Act.put ⟨args.toArray ++ Array.replicate (fn.ntmps - args.toArray.size) undef, []⟩ (some d) (recV u).1) := s0.put _ hd
  have s2 := s1.put (.bool b) hd2
  have hr1 : ∀ a : Act, (execOp a.eval ⟨some d, .call ⟨.builtin .recover, #[], #[]⟩, ty, pos, after, none⟩).run P w = .ok .recover w := fun a => by
    rfl
  have hr2 := hop _ w s1 hs
  have rest : ∀ (cs' : List Frame), cs' = { c₀ with mode := (recV u).2 } :: cs → c2.wpSIn (fen none) 0 P (bodyPostS P fn c₀ cs fun e u' w' => ∃ v H', e = Ending.returned v ∧ Sat w0 w' H' ∧ K u' H') ((Act.put ⟨args.toArray ++ Array.replicate (fn.ntmps - args.toArray.size) undef, []⟩ (some d) (recV u).1).put (some d2) (.bool b)) cs' w := by
    rintro cs' rfl
    refine wpSIn_of_wpIn rfl (wpIn_mono (h _ w ⟨s2, rfl, hs⟩) ?_)
    rintro e a w' ⟨σ, h1, h2⟩
    cases e with
    | normal => obtain ⟨hD, v, hr, hK⟩ := h1; exact ⟨h2.defers.trans hD, _, rfl, v, hr a w' h2, v, σ.H, rfl, h2.sat, hK⟩
    | ret => obtain ⟨hD, v, hr, hK⟩ := h1; exact ⟨h2.defers.trans hD, _, rfl, v, hr a w' h2, v, σ.H, rfl, h2.sat, hK⟩
    | _ => exact h1.elim
  have e0 : (List.range (#[(⟨some d, .call ⟨.builtin .recover, #[], #[]⟩, ty, pos, after, none⟩ : Oper), ⟨some d2, op2, ty2, pos2, after2, none⟩] : Array Oper).size) = [0, 1] := rfl
  rw [e0]
  have tail : ∀ (cs' : List Frame), cs' = { c₀ with mode := (recV u).2 } :: cs → wpOpsSIn (fen none) 0 P #[⟨some d, .call ⟨.builtin .recover, #[], #[]⟩, ty, pos, after, none⟩, ⟨some d2, op2, ty2, pos2, after2, none⟩] (Exit.thenS (c2.wpSIn (fen none) 0 P (bodyPostS P fn c₀ cs fun e u' w' => ∃ v H', e = Ending.returned v ∧ Sat w0 w' H' ∧ K u' H')) (bodyPostS P fn c₀ cs fun e u' w' => ∃ v H', e = Ending.returned v ∧ Sat w0 w' H' ∧ K u' H')) [1] (Act.put ⟨args.toArray ++ Array.replicate (fn.ntmps - args.toArray.size) undef, []⟩ (some d) (recV u).1) cs' w := by
    intro cs' hcs
    simp only [wpOpsSIn, List.getElem?_toArray, List.getElem?_cons_succ, List.getElem?_cons_zero]
    refine ⟨fun _ _ => trivial, ?_⟩
    rw [if_pos (by rfl), hr2]
    exact rest cs' hcs
  unfold wpOpsSIn
  simp only [List.getElem?_toArray, List.getElem?_cons_zero]
  refine ⟨fun _ _ => trivial, ?_⟩
  rw [if_pos (by rfl), hr1]
  rcases recoverD_eq c₀ cs u hu with h1 | ⟨h1, h2⟩
  · simp only [h1]
    exact tail _ rfl
  · simp only [h1]
    have : (recV u).1 = .nilIface := by rw [h2]
    rw [← this]
    refine tail _ ?_
    rw [h2]
    subst hu; rfl
/-- What is recovered, against nil. -/
class IfaceT (P : Program) (t : TypeId) : Prop where
  eq : P.underlying t = some (.interface (P.methodsAt t))
instance neqHeld {t u : TypeId} {x : Value} [h : IfaceT P t] : BinV P .neq t (.iface u x) .nilIface (.bool true) := ⟨fun w => run_neq_held_nil (w := w) t u x h.eq, fun w _ _ => by rfl⟩
theorem Q_neqNilC {n : Frm} {E : Env} {H : HProp} {d : Option Tmp} {ty t t2 : TypeId} {pos : String} {after : Array Edge} {gu : Option (Nat × Bool)} {x : Operand} (hx : E.ev x = some .nilIface) (h : IfaceT P t) : OpQ P n w0 ⟨d, .binOp .neq t x (.const .nilIface) t2, ty, pos, after, gu⟩ E H (.bool false) := fun a w s hs => by
  have e := s.ev hx
  have e2 : a.eval (.const .nilIface) = .nilIface := rfl
  have hr := run_neq_nil_nil (w := w) t h.eq
  have hg : (eqGuard .neq t x (.const .nilIface) .nilIface .nilIface).run P w = .ok () w := by simp [eqGuard]
  simp only [execOp, e, e2, Sem.run_bind, hg, hr, Result.andThen_ok, Sem.run_pure]
end Go.Proofs.YtapoehkdnglahabGreat

/- What Decode answers, in plain Lean, and that it turns Encode round. No program in sight. -/
namespace Go.Proofs.YtapoehkdnglahabGreat
set_option linter.unusedVariables false
set_option linter.unusedSimpArgs false
/-- The pairs of numbers in so many bytes. -/
def lostsAt (l : List UInt8) : Nat → List (UInt32 × UInt32)
  | 0 => []
  | n + 1 => lostsAt l n ++ [(numAt l (8 * n), numAt l (8 * n + 4))]
theorem lostsAt_length (l : List UInt8) (n : Nat) : (lostsAt l n).length = n := by
  induction n with
  | zero => rfl
  | succ n ih => simp [lostsAt, ih]
/-- The bytes behind the first five, as what a kind has. -/
def Pk.body (ttl kind : UInt8) (flag n : UInt8) (l : List UInt8) : Option Pk :=
  if kind = 1 then
    if l.length = 20 ∧ (flag = 0 ∨ (flag = 8 ∧ numAt l 8 = 0)) then some ⟨ttl.toNat, 1, n.toNat, decide (flag = 8), numAt l 0, numAt l 4, numAt l 8, numAt l 12, numAt l 16, 0, [], []⟩ else none
  else if kind = 2 then
    if l.length = 16 ∧ flag = 0 then some ⟨ttl.toNat, 2, n.toNat, false, 0, numAt l 0, numAt l 4, numAt l 8, 0, numAt l 12, [], []⟩ else none
  else if kind = 3 then
    if 1 ≤ n.toNat ∧ n.toNat ≤ 8 ∧ l.length = 8 * n.toNat ∧ flag = 0 then some ⟨ttl.toNat, 3, 0, false, 0, 0, 0, 0, 0, 0, lostsAt l n.toNat, []⟩ else none
  else if kind = 9 then
    if n.toNat ≤ 16 ∧ l.length = 12 + n.toNat ∧ flag = 0 then some ⟨ttl.toNat, 9, 0, false, numAt l 0, numAt l 4, 0, numAt l 8, 0, 0, [], l.drop 12⟩ else none
  else none
/-- The packet of a frame. -/
def Pk.dec : List UInt8 → Option Pk
  | t :: k :: f :: z :: n :: l => if z = 0 ∧ t ≠ 0 then Pk.body t k f n l else none
  | _ => none
theorem numAt_be' (k : UInt32) (pre post : List UInt8) (n : Nat) (hn : n = pre.length) : numAt (pre ++ (be k ++ post)) n = k := by
  subst hn
  have e : ∀ j, byteAt (pre ++ (be k ++ post)) (pre.length + j) = byteAt (be k ++ post) j := fun j => by
    rw [byteAt, List.getElem?_append_right (by omega), Nat.add_sub_cancel_left]; rfl
  have e0 := e 0
  rw [Nat.add_zero] at e0
  rw [numAt, e0, e 1, e 2, e 3]
  exact num_be k
theorem b8_lt (m : Int) (h0 : 0 ≤ m) (h : m ≤ 255) : ((b8 m).toNat : Int) = m := by
  unfold b8; simp; omega
theorem lostsAt_lostB : ∀ (x : List (UInt32 × UInt32)) (post : List UInt8) (n : Nat), n ≤ x.length → lostsAt (lostB x ++ post) n = x.take n
  | x, post, 0, _ => by simp [lostsAt]
  | x, post, n + 1, h => by
    rw [lostsAt, lostsAt_lostB x post n (by omega), List.take_add_one]
    obtain ⟨z, hz⟩ : ∃ z, x[n]? = some z := ⟨_, List.getElem?_eq_getElem (by omega)⟩
    have hx : lostB x = lostB (x.take n) ++ (be z.1 ++ (be z.2 ++ lostB (x.drop (n + 1)))) := by
      have h1 : x = x.take n ++ (z :: x.drop (n + 1)) := by
        have := (List.getElem?_eq_some_iff.1 hz).2
        rw [← this, List.getElem_cons_drop, List.take_append_drop]
      conv => lhs; rw [h1]
      simp [lostB]
    have hl := lostB_length (x.take n)
    have hn : (x.take n).length = n := by simp; omega
    rw [hn] at hl
    have e1 : numAt (lostB x ++ post) (8 * n) = z.1 := by
      rw [hx, List.append_assoc, List.append_assoc]
      exact numAt_be' _ _ _ _ hl.symm
    have e2 : numAt (lostB x ++ post) (8 * n + 4) = z.2 := by
      have : lostB x ++ post = (lostB (x.take n) ++ be z.1) ++ (be z.2 ++ (lostB (x.drop (n + 1)) ++ post)) := by rw [hx]; simp
      rw [this]
      exact numAt_be' _ _ _ _ (by simp [hl, be_length])
    rw [e1, e2, hz]; rfl
theorem numAts (ks : List UInt32) (post : List UInt8) (i : Nat) (k : UInt32) (h : ks[i]? = some k) : numAt (nums32 ks ++ post) (4 * i) = k := by
  have hx : nums32 ks ++ post = nums32 (ks.take i) ++ (be k ++ (nums32 (ks.drop (i + 1)) ++ post)) := by
    have h1 : ks = ks.take i ++ (k :: ks.drop (i + 1)) := by
      have hi := (List.getElem?_eq_some_iff.1 h).1
      have := (List.getElem?_eq_some_iff.1 h).2
      rw [← this, List.getElem_cons_drop, List.take_append_drop]
    conv => lhs; rw [h1]
    simp [nums32]
  have hl : ∀ l : List UInt32, (nums32 l).length = 4 * l.length := by
    intro l; induction l with
    | nil => rfl
    | cons a l ih => simp [nums32, be_length] at ih ⊢; omega
  rw [hx]
  exact numAt_be' _ _ _ _ (by rw [hl, List.length_take]; have := (List.getElem?_eq_some_iff.1 h).1; omega)
/-- What was written is read. -/
theorem Pk.dec_bytes {p : Pk} (h : p.Fits) : Pk.dec p.bytes = some p := by
  obtain ⟨ttl, kind, hops, unknown, id, dest, destSeq, from_, fromSeq, life, lost, payload⟩ := p
  obtain ⟨⟨t1, t2, h1, h2, h3, h4⟩, hk⟩ := h
  dsimp only at t1 t2 h1 h2 h3 h4 hk
  have e1 := b8_lt ttl (by omega) t2
  have e2 := b8_lt hops h1 h2
  have e3 : b8 ttl ≠ 0 := by intro e; rw [e] at e1; simp at e1; omega
  rcases hk with ⟨rfl, rfl, hl, rfl, hu⟩ | ⟨rfl, rfl, rfl, rfl, hl, rfl⟩ | ⟨rfl, rfl, rfl, rfl, rfl, rfl, rfl, hl, rfl, rfl, rfl⟩ | ⟨rfl, rfl, rfl, rfl, rfl, rfl, hl⟩
  · obtain rfl : lost = [] := List.eq_nil_of_length_eq_zero hl
    have n := numAts [id, dest, destSeq, from_, fromSeq] []
    simp only [nums32, List.flatMap_cons, List.flatMap_nil, List.append_nil] at n
    have n0 := n 0 id rfl; have n1 := n 1 dest rfl; have n2 := n 2 destSeq rfl; have n3 := n 3 from_ rfl; have n4 := n 4 fromSeq rfl
    simp only [Nat.mul_zero, Nat.reduceMul] at n0 n1 n2 n3 n4
    cases unknown <;> simp_all [Pk.bytes, Pk.dec, Pk.body, be_length]
  · obtain rfl : lost = [] := List.eq_nil_of_length_eq_zero hl
    have n := numAts [dest, destSeq, from_, life] []
    simp only [nums32, List.flatMap_cons, List.flatMap_nil, List.append_nil] at n
    have n0 := n 0 dest rfl; have n1 := n 1 destSeq rfl; have n2 := n 2 from_ rfl; have n3 := n 3 life rfl
    simp only [Nat.mul_zero, Nat.reduceMul] at n0 n1 n2 n3
    simp_all [Pk.bytes, Pk.dec, Pk.body, be_length]
  · have e4 := b8_lt (lost.length : Int) (by omega) (by omega)
    have e5 : (b8 (lost.length : Int)).toNat = lost.length := by omega
    have e6 := lostsAt_lostB lost [] lost.length (Nat.le_refl _)
    rw [List.append_nil, List.take_length] at e6
    have e7 := lostB_length lost
    simp only [Pk.bytes, Pk.dec, Pk.body]
    simp [e3, e5, e6, e7, h4, e1, show 1 ≤ lost.length by omega]
  · obtain rfl : lost = [] := List.eq_nil_of_length_eq_zero hl
    have e4 := b8_lt (payload.length : Int) (by omega) (by omega)
    have e5 : (b8 (payload.length : Int)).toNat = payload.length := by omega
    have n := numAts [id, dest, from_] payload
    simp only [nums32, List.flatMap_cons, List.flatMap_nil, List.append_nil, List.append_assoc] at n
    have n0 := n 0 id rfl; have n1 := n 1 dest rfl; have n2 := n 2 from_ rfl
    simp only [Nat.mul_zero, Nat.reduceMul] at n0 n1 n2
    have e6 : (be id ++ (be dest ++ (be from_ ++ payload))).drop 12 = payload := by
      rw [← List.append_assoc, ← List.append_assoc]
      exact List.drop_left' (by simp [be_length])
    simp only [Pk.bytes, Pk.dec, Pk.body]
    simp [e3, e5, e6, h3, e1, n0, n1, n2, be_length]
    omega
end Go.Proofs.YtapoehkdnglahabGreat

/- What wire.number, meshref.number, must and the reader's functions return, by a walk. -/
namespace Go.Proofs.YtapoehkdnglahabGreat
open Go.RowKit
set_option linter.unusedVariables false
set_option linter.unusedSimpArgs false
attribute [local irreducible] WS LS OpQ OpT OpH OpTQ Spec SpecQ SpecX DSpec cel
variable (w0 : World)
set_option maxRecDepth 100000 in
theorem wnumber_spec (l : List UInt8) (h : 4 ≤ l.length) (v : Value) (X : HProp) [hX : Rdr w0 X v UInt8 1 byteC l] : Spec Tryz.prog w0 111 [v] X (fun _ : Unit => u32 (numAt l 0)) (fun _ => X) := by
  refine Spec.enter Tryz.func111 rfl Tryz.ntmps111 rfl fun G => ?_
  simp only [argE]
  have h0 := byteAt_get (l := l) (i := 0) (by omega)
  have h1 := byteAt_get (l := l) (i := 1) (by omega)
  have h2 := byteAt_get (l := l) (i := 2) (by omega)
  have h3 := byteAt_get (l := l) (i := 3) (by omega)
  repeat' (first
    | (show WS _ _ _ (.region 1 _ true) _ _; refine WS_drawA [0, 1, 2, 3, 4, 5, 6, 7, 8, 9, 10, 11, 12, 13, 14, 15, 16, 17, 18, 19, 20, 21, 22] (by decide +kernel) rfl ?_)
    | (refine WS_seqK ?_; intro K hK)
    | (refine hK _ ?_; clear hK K)
    | (with_reducible (first | refine thenS_n ?_ | refine thenS_e ?_ | refine blockS_n ?_ | refine blockS_e ?_ | refine blockS_o rfl ?_ | refine thenS_r ?_ | refine blockS_r ?_ | refine use_K (by assumption) ?_))
    | refine WS_region ?_
    | refine LS_nil ?_
    | (first | refine DL_nilA ?_ | refine DL_nilS ?_ | refine DL_nilN ?_ | refine DL_nilE ?_ | refine DL_nilR ?_)
    | (first | refine DL_claimS rfl ?_ | refine DL_claim rfl rfl ?_)
    | ((first | refine' LQ ?h rfl ?_ | refine' DL_qp rfl rfl rfl ?h ?_ | refine' DL_q rfl rfl ?h ?_); case h => intro F'; first | exact Q_move rfl | exact Q_assign rfl | exact Q_load rfl iI iI rfl | exact Q_bin_t rfl rfl iI (by first | assumption | omega | decide) | exact Q_bin_f rfl rfl iI (by first | assumption | omega | decide) | exact Q_bin_nt rfl rfl iI (by first | assumption | omega | decide) | exact Q_bin_nf rfl rfl iI (by first | assumption | omega | decide) | exact Q_addI rfl rfl (by omega) | exact Q_subI rfl rfl (by omega) | exact Q_loadA rfl iI iI rfl | exact Q_index rfl rfl iI iI iI iI (by first | assumption | omega | (simp [be_length] <;> omega)) | exact Q_loadR rfl iI iI iI (by assumption) rfl | exact Q_loadR rfl iI iI iI rfl rfl | exact Q_loadRA rfl iI iI iI (by assumption) | exact Q_conv32_8 rfl iI iI iI | exact Q_conv64 rfl iI iI iI | exact Q_conv32 rfl iI iI iI | exact Q_convS rfl iI rfl iI iI iI | exact Q_convSame rfl iI iI (by omega) | exact Q_convI8 rfl iI iI | exact Q_conv328 rfl iI iI | exact Q_conv8 rfl iI iI | exact Q_bytesS rfl iI iI rfl iI iI iI | exact Q_addS rfl rfl (by first | omega | (simp [be_length] <;> omega)) | exact Q_indexV rfl rfl iI iI iI (by first | assumption | omega) | exact Q_quoI rfl rfl (by omega) | exact Q_remI rfl rfl (by omega) | exact Q_mulI rfl rfl (by omega))
    | ((first | refine LS_binS rfl rfl iI rfl ?_ ?_ | refine LS_binN rfl rfl iI rfl ?_ ?_ | refine DL_binS rfl rfl iI rfl ?_ ?_) <;> intro hc)
    | ((first | refine' LQ ?h rfl ?_ | refine' DL_qp rfl rfl rfl ?h ?_ | refine' DL_q rfl rfl ?h ?_); case h => intro F'; first | exact Q_bin rfl rfl iI)
    | ((first | refine' LS_h ?h rfl ?_ | refine' DL_h ?h rfl rfl rfl ?_); (case h => first | exact H_convS rfl iI rfl iI iI iI); intro g)
    | (first | refine WS_block ?_ | refine WS_skip ?_ | refine WS_ret ?_ | refine WS_exit ?_ | refine WS_label ?_)
    | (show WS _ _ _ (.cond _ _ _) _ _; first | refine WS_condT rfl iI ?_ | refine WS_condF rfl iI ?_ | refine WS_condH_t rfl (by assumption) ?_ | refine WS_condH_f rfl (by assumption) ?_ | (refine WS_cond rfl ?_ ?_ <;> intro hc <;> (try simp only [decide_eq_true_eq, decide_eq_false_iff_not, Bool.not_eq_eq_eq_not, Bool.not_true, Bool.not_false, Bool.and_eq_true, Bool.or_eq_true, bne_iff_ne, beq_iff_eq, ne_eq, Decidable.not_not] at hc) <;> (try (exfalso; first | contradiction | omega; done)))))
  exact ret_tmp (.inl rfl) rfl rfl ⟨(), by rw [numAt, ← num_or], by ((try simp only [star_assoc, emp_star, star_emp]); (repeat' (first | exact Ent.last | refine Ent.take ?_ | refine Ent.nilT ?_ | refine Ent.takeR (by first | rfl | assumption | (simp; done)) ?_ | exact Ent.refl _)))⟩
/-- What is thrown. -/
def brk : List PanicEntry := [{ v := .iface 232 (.agg #[]), recovered := false }]
theorem must_t : Spec Tryz.prog w0 72 [.bool true] emp (fun _ : Unit => .tuple #[]) (fun _ => emp) := by
  refine Spec.enter Tryz.func72 rfl Tryz.ntmps72 rfl fun G => ?_
  simp only [argE]
  repeat' (first
    | (refine WS_seqK ?_; intro K hK)
    | (refine hK _ ?_; clear hK K)
    | (with_reducible (first | refine thenS_n ?_ | refine thenS_e ?_ | refine blockS_n ?_ | refine blockS_e ?_ | refine blockS_o rfl ?_ | refine thenS_r ?_ | refine blockS_r ?_ | refine use_K (by assumption) ?_))
    | refine WS_region ?_
    | refine LS_nil ?_
    | ((refine' LQ ?h rfl ?_); case h => intro F'; first | exact Q_move rfl | exact Q_un rfl iI | exact Q_build iI iI rfl rfl | exact Q_buildA iI iI iI rfl rfl | exact Q_negI rfl (by omega))
    | (first | refine WS_block ?_ | refine WS_skip ?_ | refine WS_ret ?_ | refine WS_exit ?_ | refine WS_label ?_)
    | (show WS _ _ _ (.cond _ _ _) _ _; first | refine WS_condT rfl iI ?_ | refine WS_condF rfl iI ?_ | refine WS_condH_t rfl (by assumption) ?_ | refine WS_condH_f rfl (by assumption) ?_ | (refine WS_cond rfl ?_ ?_ <;> intro hc <;> (try simp only [decide_eq_true_eq, decide_eq_false_iff_not, Bool.not_eq_eq_eq_not, Bool.not_true, Bool.not_false, Bool.and_eq_true, Bool.or_eq_true, bne_iff_ne, beq_iff_eq, ne_eq, Decidable.not_not] at hc) <;> (try (exfalso; first | contradiction | omega; done)))))
  exact ret_none (.inr rfl) rfl ⟨(), rfl, by ((try simp only [star_assoc, emp_star, star_emp]); (repeat' (first | exact Ent.last | refine Ent.take ?_ | refine Ent.nilT ?_ | refine Ent.takeR (by first | rfl | assumption | (simp; done)) ?_ | exact Ent.refl _)))⟩
theorem must_f : SpecX Tryz.prog w0 72 [.bool false] emp brk emp := by
  refine SpecX.enter Tryz.func72 rfl Tryz.ntmps72 rfl fun G => ?_
  simp only [argE]
  repeat' (first
    | (refine WS_seqK ?_; intro K hK)
    | (refine hK _ ?_; clear hK K)
    | (with_reducible (first | refine thenS_n ?_ | refine thenS_e ?_ | refine blockS_n ?_ | refine blockS_e ?_ | refine blockS_o rfl ?_ | refine thenS_r ?_ | refine blockS_r ?_ | refine use_K (by assumption) ?_))
    | refine WS_region ?_
    | refine LS_nil ?_
    | ((refine' LQ ?h rfl ?_); case h => intro F'; first | exact Q_move rfl | exact Q_un rfl iI | exact Q_build iI iI rfl rfl | exact Q_buildA iI iI iI rfl rfl | exact Q_negI rfl (by omega))
    | (first | refine WS_block ?_ | refine WS_skip ?_ | refine WS_ret ?_ | refine WS_exit ?_ | refine WS_label ?_)
    | (show WS _ _ _ (.cond _ _ _) _ _; first | refine WS_condT rfl iI ?_ | refine WS_condF rfl iI ?_ | refine WS_condH_t rfl (by assumption) ?_ | refine WS_condH_f rfl (by assumption) ?_ | (refine WS_cond rfl ?_ ?_ <;> intro hc <;> (try simp only [decide_eq_true_eq, decide_eq_false_iff_not, Bool.not_eq_eq_eq_not, Bool.not_true, Bool.not_false, Bool.and_eq_true, Bool.or_eq_true, bne_iff_ne, beq_iff_eq, ne_eq, Decidable.not_not] at hc) <;> (try (exfalso; first | contradiction | omega; done))))
    | refine LS_q (Q_makeInterface rfl (by kernel_rfl)) rfl ?_
    | refine LS_panic rfl ?_
    | refine thenS_p ?_
    | refine blockS_p ?_)
  exact ⟨rfl, rfl, by ((try simp only [star_assoc, emp_star, star_emp]); (repeat' (first | exact Ent.last | refine Ent.take ?_ | refine Ent.nilT ?_ | refine Ent.takeR (by first | rfl | assumption | (simp; done)) ?_ | exact Ent.refl _)))⟩
section reader
variable (l : List UInt8) (v : Value) (g : Nat) (X : HProp) [hX : Rdr w0 X v UInt8 1 byteC l]
set_option maxRecDepth 100000 in
include hX in
theorem take_t (k : Nat) (x : Int) (hx : x = (k : Int)) (hk : k ≤ l.length) : Spec Tryz.prog w0 74 [ptr g 0, .int .i64 x] (cel g 176 [v] * X) (fun _ : Unit => sHead v k) (fun _ => cel g 176 [sTail 1 v k] * X) := by
  subst hx
  refine Spec.enter Tryz.func74 rfl Tryz.ntmps74 rfl fun G => ?_
  simp only [argE]
  repeat' (first
    | (refine WS_seqK ?_; intro K hK)
    | (refine hK _ ?_; clear hK K)
    | (with_reducible (first | refine thenS_n ?_ | refine thenS_e ?_ | refine blockS_n ?_ | refine blockS_e ?_ | refine blockS_o rfl ?_ | refine thenS_r ?_ | refine blockS_r ?_ | refine use_K (by assumption) ?_))
    | refine WS_region ?_
    | refine LS_nil ?_
    | ((refine' LQ ?h rfl ?_); case h => intro F'; first | exact Q_move rfl | exact Q_assign rfl | exact Q_nilCheck rfl | exact Q_fieldAddr rfl iI rfl | exact Q_load rfl iI iI rfl | exact Q_bin_t rfl rfl iI (by first | assumption | omega | decide) | exact Q_bin_f rfl rfl iI (by first | assumption | omega | decide) | exact Q_bin_nt rfl rfl iI (by first | assumption | omega | decide) | exact Q_bin_nf rfl rfl iI (by first | assumption | omega | decide) | exact Q_addI rfl rfl (by omega) | exact Q_subI rfl rfl (by omega) | exact Q_loadA rfl iI iI rfl | exact Q_len rfl iI | exact Q_lenS rfl iI | exact Q_fieldR rfl iI iI rfl (by first | assumption | omega | (simp [be_length] <;> omega)) | exact Q_loadR rfl iI iI iI (by assumption) rfl | exact Q_loadR rfl iI iI iI rfl rfl | exact Q_loadRA rfl iI iI iI (by assumption) | exact Q_lenR rfl iI iI | exact Q_lenM rfl iI iI | exact Q_addS rfl rfl (by first | omega | (simp [be_length] <;> omega)) | exact Q_sliceS_h rfl rfl iI iI (by first | assumption | omega) | exact Q_sliceS_l rfl rfl iI iI (by first | assumption | omega) | exact Q_sliceR_h rfl rfl iI iI iI iI (by first | assumption | omega | (simp [be_length] <;> omega)) | exact Q_sliceR_l rfl rfl iI iI iI iI (by first | assumption | omega | (simp [be_length] <;> omega)) | exact Q_nilCheck_f rfl | exact Q_quoI rfl rfl (by omega) | exact Q_remI rfl rfl (by omega) | exact Q_mulI rfl rfl (by omega))
    | ((first | refine LS_binS rfl rfl iI rfl ?_ ?_ | refine LS_binN rfl rfl iI rfl ?_ ?_) <;> intro hc)
    | ((refine' LQ ?h rfl ?_); case h => intro F'; first | exact Q_bin rfl rfl iI)
    | ((refine' LS_h0 ?h ?_); (case h => first | exact H_storeO rfl rfl iI iI iI rfl | exact H_storeAO rfl rfl iI iI iI rfl | exact H_store8 rfl rfl iI iI rfl iI (by first | assumption | omega | (simp [be_length] <;> omega)) | exact H_storeRA _ rfl rfl rfl iI iI iI rfl rfl (by first | assumption | omega | (simp [be_length] <;> omega)) | exact H_storeR _ rfl rfl iI iI iI rfl (by assumption) rfl | exact H_store rfl rfl iI (by first | rfl | assumption) iI rfl | exact H_storeA rfl rfl iI iI (by first | rfl | (simp only [List.all_cons, List.all_nil, *]; rfl)) rfl); intro g)
    | (first | refine WS_block ?_ | refine WS_skip ?_ | refine WS_ret ?_ | refine WS_exit ?_ | refine WS_label ?_)
    | (show WS _ _ _ (.cond _ _ _) _ _; first | refine WS_condT rfl iI ?_ | refine WS_condF rfl iI ?_ | refine WS_condH_t rfl (by assumption) ?_ | refine WS_condH_f rfl (by assumption) ?_ | (refine WS_cond rfl ?_ ?_ <;> intro hc <;> (try simp only [decide_eq_true_eq, decide_eq_false_iff_not, Bool.not_eq_eq_eq_not, Bool.not_true, Bool.not_false, Bool.and_eq_true, Bool.or_eq_true, bne_iff_ne, beq_iff_eq, ne_eq, Decidable.not_not] at hc) <;> (try (exfalso; first | contradiction | omega; done))))
    | (refine LS_h (H_callX iI rfl (must_t w0) iI) rfl ?_; intro u))
  exact ret_tmp (.inl rfl) rfl rfl ⟨(), rfl, by ((try simp only [star_assoc, emp_star, star_emp]); (repeat' (first | exact Ent.last | refine Ent.take ?_ | refine Ent.nilT ?_ | refine Ent.takeR (by first | rfl | assumption | (simp; done)) ?_ | exact Ent.refl _)))⟩
set_option maxRecDepth 100000 in
include hX in
theorem take_f (k : Nat) (x : Int) (hx : x = (k : Int)) (hk : l.length < k) : SpecX Tryz.prog w0 74 [ptr g 0, .int .i64 x] (cel g 176 [v] * X) brk (cel g 176 [v] * X) := by
  subst hx
  refine SpecX.enter Tryz.func74 rfl Tryz.ntmps74 rfl fun G => ?_
  simp only [argE]
  repeat' (first
    | (refine WS_seqK ?_; intro K hK)
    | (refine hK _ ?_; clear hK K)
    | (with_reducible (first | refine thenS_n ?_ | refine thenS_e ?_ | refine blockS_n ?_ | refine blockS_e ?_ | refine blockS_o rfl ?_ | refine thenS_r ?_ | refine blockS_r ?_ | refine use_K (by assumption) ?_))
    | refine WS_region ?_
    | refine LS_nil ?_
    | ((refine' LQ ?h rfl ?_); case h => intro F'; first | exact Q_move rfl | exact Q_assign rfl | exact Q_nilCheck rfl | exact Q_fieldAddr rfl iI rfl | exact Q_load rfl iI iI rfl | exact Q_bin_t rfl rfl iI (by first | assumption | omega | decide) | exact Q_bin_f rfl rfl iI (by first | assumption | omega | decide) | exact Q_bin_nt rfl rfl iI (by first | assumption | omega | decide) | exact Q_bin_nf rfl rfl iI (by first | assumption | omega | decide) | exact Q_addI rfl rfl (by omega) | exact Q_subI rfl rfl (by omega) | exact Q_loadA rfl iI iI rfl | exact Q_len rfl iI | exact Q_lenS rfl iI | exact Q_fieldR rfl iI iI rfl (by first | assumption | omega | (simp [be_length] <;> omega)) | exact Q_loadR rfl iI iI iI (by assumption) rfl | exact Q_loadR rfl iI iI iI rfl rfl | exact Q_loadRA rfl iI iI iI (by assumption) | exact Q_lenR rfl iI iI | exact Q_lenM rfl iI iI | exact Q_addS rfl rfl (by first | omega | (simp [be_length] <;> omega)) | exact Q_sliceS_h rfl rfl iI iI (by first | assumption | omega) | exact Q_sliceS_l rfl rfl iI iI (by first | assumption | omega) | exact Q_sliceR_h rfl rfl iI iI iI iI (by first | assumption | omega | (simp [be_length] <;> omega)) | exact Q_sliceR_l rfl rfl iI iI iI iI (by first | assumption | omega | (simp [be_length] <;> omega)) | exact Q_nilCheck_f rfl | exact Q_quoI rfl rfl (by omega) | exact Q_remI rfl rfl (by omega) | exact Q_mulI rfl rfl (by omega))
    | ((first | refine LS_binS rfl rfl iI rfl ?_ ?_ | refine LS_binN rfl rfl iI rfl ?_ ?_) <;> intro hc)
    | ((refine' LQ ?h rfl ?_); case h => intro F'; first | exact Q_bin rfl rfl iI)
    | ((refine' LS_h0 ?h ?_); (case h => first | exact H_storeO rfl rfl iI iI iI rfl | exact H_storeAO rfl rfl iI iI iI rfl | exact H_store8 rfl rfl iI iI rfl iI (by first | assumption | omega | (simp [be_length] <;> omega)) | exact H_storeRA _ rfl rfl rfl iI iI iI rfl rfl (by first | assumption | omega | (simp [be_length] <;> omega)) | exact H_storeR _ rfl rfl iI iI iI rfl (by assumption) rfl | exact H_store rfl rfl iI (by first | rfl | assumption) iI rfl | exact H_storeA rfl rfl iI iI (by first | rfl | (simp only [List.all_cons, List.all_nil, *]; rfl)) rfl); intro g)
    | (first | refine WS_block ?_ | refine WS_skip ?_ | refine WS_ret ?_ | refine WS_exit ?_ | refine WS_label ?_)
    | (show WS _ _ _ (.cond _ _ _) _ _; first | refine WS_condT rfl iI ?_ | refine WS_condF rfl iI ?_ | refine WS_condH_t rfl (by assumption) ?_ | refine WS_condH_f rfl (by assumption) ?_ | (refine WS_cond rfl ?_ ?_ <;> intro hc <;> (try simp only [decide_eq_true_eq, decide_eq_false_iff_not, Bool.not_eq_eq_eq_not, Bool.not_true, Bool.not_false, Bool.and_eq_true, Bool.or_eq_true, bne_iff_ne, beq_iff_eq, ne_eq, Decidable.not_not] at hc) <;> (try (exfalso; first | contradiction | omega; done))))
    | refine LS_callX iI rfl (must_f w0) iI ?_
    | refine thenS_p ?_
    | refine blockS_p ?_)
  exact ⟨rfl, rfl, by ((try simp only [star_assoc, emp_star, star_emp]); (repeat' (first | exact Ent.last | refine Ent.take ?_ | refine Ent.nilT ?_ | refine Ent.takeR (by first | rfl | assumption | (simp; done)) ?_ | exact Ent.refl _)))⟩
set_option maxRecDepth 100000 in
include hX in
theorem one_t (hk : 1 ≤ l.length) : Spec Tryz.prog w0 71 [ptr g 0] (cel g 176 [v] * X) (fun _ : Unit => .int .i64 ((byteAt l 0).toNat : Int)) (fun _ => cel g 176 [sTail 1 v 1] * X) := by
  refine Spec.enter Tryz.func71 rfl Tryz.ntmps71 rfl fun G => ?_
  simp only [argE]
  have h0 : (l.take 1)[0]? = some (byteAt l 0) := by rw [List.getElem?_take, if_pos (by omega)]; exact byteAt_get (by omega)
  have hlen : (l.take 1).length = 1 := by simp; omega
  repeat' (first
    | (refine WS_seqK ?_; intro K hK)
    | (refine hK _ ?_; clear hK K)
    | (with_reducible (first | refine thenS_n ?_ | refine thenS_e ?_ | refine blockS_n ?_ | refine blockS_e ?_ | refine blockS_o rfl ?_ | refine thenS_r ?_ | refine blockS_r ?_ | refine use_K (by assumption) ?_))
    | refine WS_region ?_
    | refine LS_nil ?_
    | ((refine' LQ ?h rfl ?_); case h => intro F'; first | exact Q_move rfl | exact Q_assign rfl | exact Q_load rfl iI iI rfl | exact Q_loadA rfl iI iI rfl | exact Q_index rfl rfl iI iI iI iI (by first | assumption | omega | (simp [be_length] <;> omega)) | exact Q_loadR rfl iI iI iI (by assumption) rfl | exact Q_loadR rfl iI iI iI rfl rfl | exact Q_loadRA rfl iI iI iI (by assumption) | exact Q_conv32_8 rfl iI iI iI | exact Q_conv64 rfl iI iI iI | exact Q_conv32 rfl iI iI iI | exact Q_convS rfl iI rfl iI iI iI | exact Q_convSame rfl iI iI (by omega) | exact Q_convI8 rfl iI iI | exact Q_conv328 rfl iI iI | exact Q_conv8 rfl iI iI | exact Q_bytesS rfl iI iI rfl iI iI iI | exact Q_indexV rfl rfl iI iI iI (by first | assumption | omega))
    | ((refine' LS_h ?h rfl ?_); (case h => first | exact H_convS rfl iI rfl iI iI iI); intro g)
    | (first | refine WS_block ?_ | refine WS_skip ?_ | refine WS_ret ?_ | refine WS_exit ?_ | refine WS_label ?_)
    | (show WS _ _ _ (.cond _ _ _) _ _; first | refine WS_condT rfl iI ?_ | refine WS_condF rfl iI ?_ | refine WS_condH_t rfl (by assumption) ?_ | refine WS_condH_f rfl (by assumption) ?_ | (refine WS_cond rfl ?_ ?_ <;> intro hc <;> (try simp only [decide_eq_true_eq, decide_eq_false_iff_not, Bool.not_eq_eq_eq_not, Bool.not_true, Bool.not_false, Bool.and_eq_true, Bool.or_eq_true, bne_iff_ne, beq_iff_eq, ne_eq, Decidable.not_not] at hc) <;> (try (exfalso; first | contradiction | omega; done))))
    | (refine LS_h (H_callX iI rfl (take_t w0 l v g X 1 1 rfl hk) iI) rfl ?_; intro u))
  exact ret_tmp (.inl rfl) rfl rfl ⟨(), rfl, by ((try simp only [star_assoc, emp_star, star_emp]); (repeat' (first | exact Ent.last | refine Ent.take ?_ | refine Ent.nilT ?_ | refine Ent.takeR (by first | rfl | assumption | (simp; done)) ?_ | exact Ent.refl _)))⟩
set_option maxRecDepth 100000 in
include hX in
theorem one_f (hk : l.length < 1) : SpecX Tryz.prog w0 71 [ptr g 0] (cel g 176 [v] * X) brk (cel g 176 [v] * X) := by
  refine SpecX.enter Tryz.func71 rfl Tryz.ntmps71 rfl fun G => ?_
  simp only [argE]
  repeat' (first
    | (refine WS_seqK ?_; intro K hK)
    | (refine hK _ ?_; clear hK K)
    | (with_reducible (first | refine thenS_n ?_ | refine thenS_e ?_ | refine blockS_n ?_ | refine blockS_e ?_ | refine blockS_o rfl ?_ | refine thenS_r ?_ | refine blockS_r ?_ | refine use_K (by assumption) ?_))
    | refine WS_region ?_
    | refine LS_nil ?_
    | ((refine' LQ ?h rfl ?_); case h => intro F'; first | exact Q_move rfl | exact Q_assign rfl | exact Q_load rfl iI iI rfl | exact Q_loadA rfl iI iI rfl | exact Q_index rfl rfl iI iI iI iI (by first | assumption | omega | (simp [be_length] <;> omega)) | exact Q_loadR rfl iI iI iI (by assumption) rfl | exact Q_loadR rfl iI iI iI rfl rfl | exact Q_loadRA rfl iI iI iI (by assumption) | exact Q_conv32_8 rfl iI iI iI | exact Q_conv64 rfl iI iI iI | exact Q_conv32 rfl iI iI iI | exact Q_convS rfl iI rfl iI iI iI | exact Q_convSame rfl iI iI (by omega) | exact Q_convI8 rfl iI iI | exact Q_conv328 rfl iI iI | exact Q_conv8 rfl iI iI | exact Q_bytesS rfl iI iI rfl iI iI iI | exact Q_indexV rfl rfl iI iI iI (by first | assumption | omega))
    | ((refine' LS_h ?h rfl ?_); (case h => first | exact H_convS rfl iI rfl iI iI iI); intro g)
    | (first | refine WS_block ?_ | refine WS_skip ?_ | refine WS_ret ?_ | refine WS_exit ?_ | refine WS_label ?_)
    | (show WS _ _ _ (.cond _ _ _) _ _; first | refine WS_condT rfl iI ?_ | refine WS_condF rfl iI ?_ | refine WS_condH_t rfl (by assumption) ?_ | refine WS_condH_f rfl (by assumption) ?_ | (refine WS_cond rfl ?_ ?_ <;> intro hc <;> (try simp only [decide_eq_true_eq, decide_eq_false_iff_not, Bool.not_eq_eq_eq_not, Bool.not_true, Bool.not_false, Bool.and_eq_true, Bool.or_eq_true, bne_iff_ne, beq_iff_eq, ne_eq, Decidable.not_not] at hc) <;> (try (exfalso; first | contradiction | omega; done))))
    | refine LS_callX iI rfl (take_f w0 l v g X 1 1 rfl hk) iI ?_
    | refine thenS_p ?_
    | refine blockS_p ?_)
  exact ⟨rfl, rfl, by ((try simp only [star_assoc, emp_star, star_emp]); (repeat' (first | exact Ent.last | refine Ent.take ?_ | refine Ent.nilT ?_ | refine Ent.takeR (by first | rfl | assumption | (simp; done)) ?_ | exact Ent.refl _)))⟩
set_option maxRecDepth 100000 in
include hX in
theorem four_t (hk : 4 ≤ l.length) : Spec Tryz.prog w0 73 [ptr g 0] (cel g 176 [v] * X) (fun _ : Unit => u32 (numAt l 0)) (fun _ => cel g 176 [sTail 1 v 4] * X) := by
  refine Spec.enter Tryz.func73 rfl Tryz.ntmps73 rfl fun G => ?_
  simp only [argE]
  have hn := wnumber_spec w0 (l.take 4) (by simp; omega) (sHead v 4) X
  have e : numAt (l.take 4) 0 = numAt l 0 := by simp [numAt, byteAt, List.getElem?_take]
  rw [e] at hn
  repeat' (first
    | (refine WS_seqK ?_; intro K hK)
    | (refine hK _ ?_; clear hK K)
    | (with_reducible (first | refine thenS_n ?_ | refine thenS_e ?_ | refine blockS_n ?_ | refine blockS_e ?_ | refine blockS_o rfl ?_ | refine thenS_r ?_ | refine blockS_r ?_ | refine use_K (by assumption) ?_))
    | refine WS_region ?_
    | refine LS_nil ?_
    | ((refine' LQ ?h rfl ?_); case h => intro F'; first | exact Q_move rfl | exact Q_assign rfl)
    | (first | refine WS_block ?_ | refine WS_skip ?_ | refine WS_ret ?_ | refine WS_exit ?_ | refine WS_label ?_)
    | (show WS _ _ _ (.cond _ _ _) _ _; first | refine WS_condT rfl iI ?_ | refine WS_condF rfl iI ?_ | refine WS_condH_t rfl (by assumption) ?_ | refine WS_condH_f rfl (by assumption) ?_ | (refine WS_cond rfl ?_ ?_ <;> intro hc <;> (try simp only [decide_eq_true_eq, decide_eq_false_iff_not, Bool.not_eq_eq_eq_not, Bool.not_true, Bool.not_false, Bool.and_eq_true, Bool.or_eq_true, bne_iff_ne, beq_iff_eq, ne_eq, Decidable.not_not] at hc) <;> (try (exfalso; first | contradiction | omega; done))))
    | (refine LS_h (H_callX iI rfl (take_t w0 l v g X 4 4 rfl hk) iI) rfl ?_; intro u)
    | (refine LS_h (H_callX iI rfl hn iI) rfl ?_; intro u))
  exact ret_tmp (.inl rfl) rfl rfl ⟨(), rfl, by ((try simp only [star_assoc, emp_star, star_emp]); (repeat' (first | exact Ent.last | refine Ent.take ?_ | refine Ent.nilT ?_ | refine Ent.takeR (by first | rfl | assumption | (simp; done)) ?_ | exact Ent.refl _)))⟩
set_option maxRecDepth 100000 in
include hX in
theorem four_f (hk : l.length < 4) : SpecX Tryz.prog w0 73 [ptr g 0] (cel g 176 [v] * X) brk (cel g 176 [v] * X) := by
  refine SpecX.enter Tryz.func73 rfl Tryz.ntmps73 rfl fun G => ?_
  simp only [argE]
  repeat' (first
    | (refine WS_seqK ?_; intro K hK)
    | (refine hK _ ?_; clear hK K)
    | (with_reducible (first | refine thenS_n ?_ | refine thenS_e ?_ | refine blockS_n ?_ | refine blockS_e ?_ | refine blockS_o rfl ?_ | refine thenS_r ?_ | refine blockS_r ?_ | refine use_K (by assumption) ?_))
    | refine WS_region ?_
    | refine LS_nil ?_
    | ((refine' LQ ?h rfl ?_); case h => intro F'; first | exact Q_move rfl | exact Q_assign rfl)
    | (first | refine WS_block ?_ | refine WS_skip ?_ | refine WS_ret ?_ | refine WS_exit ?_ | refine WS_label ?_)
    | (show WS _ _ _ (.cond _ _ _) _ _; first | refine WS_condT rfl iI ?_ | refine WS_condF rfl iI ?_ | refine WS_condH_t rfl (by assumption) ?_ | refine WS_condH_f rfl (by assumption) ?_ | (refine WS_cond rfl ?_ ?_ <;> intro hc <;> (try simp only [decide_eq_true_eq, decide_eq_false_iff_not, Bool.not_eq_eq_eq_not, Bool.not_true, Bool.not_false, Bool.and_eq_true, Bool.or_eq_true, bne_iff_ne, beq_iff_eq, ne_eq, Decidable.not_not] at hc) <;> (try (exfalso; first | contradiction | omega; done))))
    | refine LS_callX iI rfl (take_f w0 l v g X 4 4 rfl hk) iI ?_
    | refine thenS_p ?_
    | refine blockS_p ?_)
  exact ⟨rfl, rfl, by ((try simp only [star_assoc, emp_star, star_emp]); (repeat' (first | exact Ent.last | refine Ent.take ?_ | refine Ent.nilT ?_ | refine Ent.takeR (by first | rfl | assumption | (simp; done)) ?_ | exact Ent.refl _)))⟩
end reader
end Go.Proofs.YtapoehkdnglahabGreat

/- What the sums and the records' writers return, by a walk. -/
namespace Go.Proofs.YtapoehkdnglahabGreat
open Go.RowKit
set_option linter.unusedVariables false
set_option linter.unusedSimpArgs false
theorem fall_eq (c : UInt32) : fall c = if c &&& 1 = 1 then (c >>> 1) ^^^ 3988292384 else c >>> 1 := by
  have e1 : UInt32.ofNat (c.toNat / 2) = c >>> 1 := by
    rw [← UInt32.toNat_inj, half_toNat, UInt32.toNat_shiftRight]
    show c.toNat / 2 = c.toNat >>> (1 % 32)
    rw [Nat.mod_eq_of_lt (by decide), Nat.shiftRight_eq_div_pow]
  have e2 : (c.toNat % 2 = 1) ↔ (c &&& 1 = 1) := by
    rw [← UInt32.toNat_inj, UInt32.toNat_and]
    show _ ↔ c.toNat &&& 1 = 1
    rw [Nat.and_one_is_mod]
  unfold fall
  simp only [e1, e2]
theorem ofNat_byte (b : UInt8) : UInt32.ofNat b.toNat = b.toUInt32 := by
  rw [← UInt32.toNat_inj, byte_toNat]; simp
attribute [local irreducible] WS LS OpQ OpT OpH OpTQ Spec SpecQ cel
variable (w0 : World)
instance : AsU32 (.int .u32 3988292384) 3988292384 := ⟨rfl⟩
instance complU32 {P : Program} {x : UInt32} : UnV P .xor (u32 x) (u32 (4294967295 ^^^ x)) := ⟨fun w => by
  show (Op.intBits .xor .u32 IntKind.u32.max (x.toNat : Int)).run P w = _
  have e : IntKind.u32.max = ((4294967295 : UInt32).toNat : Int) := rfl
  rw [intBits_xor, e, u32_xor_nat _ _ (u32_lt _) (u32_lt x), ← UInt32.toNat_xor]; rfl⟩
set_option maxRecDepth 100000 in
theorem turned_spec (c : UInt32) : Spec Tryz.prog w0 108 [u32 c] emp (fun _ : Unit => u32 (falls 8 c)) (fun _ => emp) := by
  refine Spec.enter Tryz.func108 rfl Tryz.ntmps108 rfl fun G => ?_
  simp only [argE]
  repeat' (first
    | (refine WS_seqK ?_; intro K hK)
    | (refine hK _ ?_; clear hK K)
    | (with_reducible (first | refine thenS_n ?_ | refine thenS_e ?_ | refine blockS_n ?_ | refine blockS_e ?_ | refine blockS_o rfl ?_ | refine thenS_r ?_ | refine blockS_r ?_ | refine use_K (by assumption) ?_))
    | refine WS_region ?_
    | refine LS_nil ?_
    | ((refine' LQ ?h rfl ?_); case h => intro F'; first | exact Q_move rfl | exact Q_assign rfl | exact Q_bin_t rfl rfl iI (by first | assumption | omega | decide) | exact Q_bin_f rfl rfl iI (by first | assumption | omega | decide) | exact Q_bin_nt rfl rfl iI (by first | assumption | omega | decide) | exact Q_bin_nf rfl rfl iI (by first | assumption | omega | decide) | exact Q_addI rfl rfl (by omega) | exact Q_subI rfl rfl (by omega) | exact Q_addS rfl rfl (by first | omega | (simp [be_length] <;> omega)) | exact Q_quoI rfl rfl (by omega) | exact Q_remI rfl rfl (by omega) | exact Q_mulI rfl rfl (by omega))
    | ((first | refine LS_binS rfl rfl iI rfl ?_ ?_ | refine LS_binN rfl rfl iI rfl ?_ ?_) <;> intro hc)
    | ((refine' LQ ?h rfl ?_); case h => intro F'; first | exact Q_bin rfl rfl iI)
    | (first | refine WS_block ?_ | refine WS_skip ?_ | refine WS_ret ?_ | refine WS_exit ?_ | refine WS_label ?_)
    | (show WS _ _ _ (.cond _ _ _) _ _; first | refine WS_condT rfl iI ?_ | refine WS_condF rfl iI ?_ | refine WS_condH_t rfl (by assumption) ?_ | refine WS_condH_f rfl (by assumption) ?_ | (refine WS_cond rfl ?_ ?_ <;> intro hc <;> (try simp only [decide_eq_true_eq, decide_eq_false_iff_not, Bool.not_eq_eq_eq_not, Bool.not_true, Bool.not_false, Bool.and_eq_true, Bool.or_eq_true, bne_iff_ne, beq_iff_eq, ne_eq, Decidable.not_not] at hc) <;> (try (exfalso; first | contradiction | omega; done)))))
  refine WS_loop (fun m τ => ∃ j : Nat, j + m = 8 ∧ τ = ⟨[(4, .int .i64 (j : Int)), (0, u32 (falls j c))], [], emp * G⟩) ?_ ?_
  · exact ⟨8, _, ⟨0, rfl, rfl⟩, ⟨rfl, rfl, trivial⟩, rfl, Ent.refl _⟩
  · rintro m τ ⟨j, hj, rfl⟩
    rcases Nat.lt_or_ge j 8 with hlt | hge
    · repeat' (first
        | (refine WS_seqK ?_; intro K hK)
        | (refine hK _ ?_; clear hK K)
        | (with_reducible (first | refine thenS_n ?_ | refine thenS_e ?_ | refine blockS_n ?_ | refine blockS_e ?_ | refine blockS_o rfl ?_ | refine thenS_r ?_ | refine blockS_r ?_ | refine use_K (by assumption) ?_))
        | refine WS_region ?_
        | refine LS_nil ?_
        | ((refine' LQ ?h rfl ?_); case h => intro F'; first | exact Q_move rfl | exact Q_assign rfl | exact Q_bin_t rfl rfl iI (by first | assumption | omega | decide) | exact Q_bin_f rfl rfl iI (by first | assumption | omega | decide) | exact Q_bin_nt rfl rfl iI (by first | assumption | omega | decide) | exact Q_bin_nf rfl rfl iI (by first | assumption | omega | decide) | exact Q_addI rfl rfl (by omega) | exact Q_subI rfl rfl (by omega) | exact Q_addS rfl rfl (by first | omega | (simp [be_length] <;> omega)) | exact Q_quoI rfl rfl (by omega) | exact Q_remI rfl rfl (by omega) | exact Q_mulI rfl rfl (by omega))
        | ((first | refine LS_binS rfl rfl iI rfl ?_ ?_ | refine LS_binN rfl rfl iI rfl ?_ ?_) <;> intro hc)
        | ((refine' LQ ?h rfl ?_); case h => intro F'; first | exact Q_bin rfl rfl iI)
        | (first | refine WS_block ?_ | refine WS_skip ?_ | refine WS_ret ?_ | refine WS_exit ?_ | refine WS_label ?_)
        | (show WS _ _ _ (.cond _ _ _) _ _; first | refine WS_condT rfl iI ?_ | refine WS_condF rfl iI ?_ | refine WS_condH_t rfl (by assumption) ?_ | refine WS_condH_f rfl (by assumption) ?_ | (refine WS_cond rfl ?_ ?_ <;> intro hc <;> (try simp only [decide_eq_true_eq, decide_eq_false_iff_not, Bool.not_eq_eq_eq_not, Bool.not_true, Bool.not_false, Bool.and_eq_true, Bool.or_eq_true, bne_iff_ne, beq_iff_eq, ne_eq, Decidable.not_not] at hc) <;> (try (exfalso; first | contradiction | omega; done)))))
      · have e : falls (j + 1) c = (falls j c >>> 1) ^^^ 3988292384 := by show fall _ = _; rw [fall_eq, if_pos hc]
        exact ⟨m - 1, _, by omega, ⟨j + 1, by omega, rfl⟩, ⟨rfl, by rw [e]; rfl, trivial⟩, rfl, Ent.refl _⟩
      · have e : falls (j + 1) c = falls j c >>> 1 := by show fall _ = _; rw [fall_eq, if_neg hc]
        exact ⟨m - 1, _, by omega, ⟨j + 1, by omega, rfl⟩, ⟨rfl, by rw [e]; rfl, trivial⟩, rfl, Ent.refl _⟩
    · obtain rfl : j = 8 := by omega
      repeat' (first
        | (refine WS_seqK ?_; intro K hK)
        | (refine hK _ ?_; clear hK K)
        | (with_reducible (first | refine thenS_n ?_ | refine thenS_e ?_ | refine blockS_n ?_ | refine blockS_e ?_ | refine blockS_o rfl ?_ | refine thenS_r ?_ | refine blockS_r ?_ | refine use_K (by assumption) ?_))
        | refine WS_region ?_
        | refine LS_nil ?_
        | ((refine' LQ ?h rfl ?_); case h => intro F'; first | exact Q_move rfl | exact Q_assign rfl | exact Q_bin_t rfl rfl iI (by first | assumption | omega | decide) | exact Q_bin_f rfl rfl iI (by first | assumption | omega | decide) | exact Q_bin_nt rfl rfl iI (by first | assumption | omega | decide) | exact Q_bin_nf rfl rfl iI (by first | assumption | omega | decide) | exact Q_addI rfl rfl (by omega) | exact Q_subI rfl rfl (by omega) | exact Q_addS rfl rfl (by first | omega | (simp [be_length] <;> omega)) | exact Q_quoI rfl rfl (by omega) | exact Q_remI rfl rfl (by omega) | exact Q_mulI rfl rfl (by omega))
        | ((first | refine LS_binS rfl rfl iI rfl ?_ ?_ | refine LS_binN rfl rfl iI rfl ?_ ?_) <;> intro hc)
        | ((refine' LQ ?h rfl ?_); case h => intro F'; first | exact Q_bin rfl rfl iI)
        | (first | refine WS_block ?_ | refine WS_skip ?_ | refine WS_ret ?_ | refine WS_exit ?_ | refine WS_label ?_)
        | (show WS _ _ _ (.cond _ _ _) _ _; first | refine WS_condT rfl iI ?_ | refine WS_condF rfl iI ?_ | refine WS_condH_t rfl (by assumption) ?_ | refine WS_condH_f rfl (by assumption) ?_ | (refine WS_cond rfl ?_ ?_ <;> intro hc <;> (try simp only [decide_eq_true_eq, decide_eq_false_iff_not, Bool.not_eq_eq_eq_not, Bool.not_true, Bool.not_false, Bool.and_eq_true, Bool.or_eq_true, bne_iff_ne, beq_iff_eq, ne_eq, Decidable.not_not] at hc) <;> (try (exfalso; first | contradiction | omega; done)))))
      exact ret_tmp (.inl rfl) rfl rfl ⟨(), rfl, by ((try simp only [star_assoc, emp_star, star_emp]); (repeat' (first | exact Ent.last | refine Ent.take ?_ | refine Ent.nilT ?_ | refine Ent.takeR (by first | rfl | assumption | (simp; done)) ?_ | exact Ent.refl _)))⟩
set_option maxRecDepth 100000 in
theorem wsum_spec (l : List UInt8) (hl : l.length ≤ 1000000) (v : Value) (X : HProp) [hX : Rdr w0 X v UInt8 1 byteC l] : Spec Tryz.prog w0 55 [v] X (fun _ : Unit => u32 (sumOf l)) (fun _ => X) := by
  refine Spec.enter Tryz.func55 rfl Tryz.ntmps55 rfl fun G => ?_
  simp only [argE]
  repeat' (first
    | (refine WS_seqK ?_; intro K hK)
    | (refine hK _ ?_; clear hK K)
    | (with_reducible (first | refine thenS_n ?_ | refine thenS_e ?_ | refine blockS_n ?_ | refine blockS_e ?_ | refine blockS_o rfl ?_ | refine thenS_r ?_ | refine blockS_r ?_ | refine use_K (by assumption) ?_))
    | refine WS_region ?_
    | refine LS_nil ?_
    | ((refine' LQ ?h rfl ?_); case h => intro F'; first | exact Q_move rfl | exact Q_assign rfl | exact Q_load rfl iI iI rfl | exact Q_bin_t rfl rfl iI (by first | assumption | omega | decide) | exact Q_bin_f rfl rfl iI (by first | assumption | omega | decide) | exact Q_bin_nt rfl rfl iI (by first | assumption | omega | decide) | exact Q_bin_nf rfl rfl iI (by first | assumption | omega | decide) | exact Q_addI rfl rfl (by omega) | exact Q_subI rfl rfl (by omega) | exact Q_un rfl iI | exact Q_loadA rfl iI iI rfl | exact Q_len rfl iI | exact Q_lenS rfl iI | exact Q_index rfl rfl iI iI iI iI (by first | assumption | omega | (simp [be_length] <;> omega)) | exact Q_loadR rfl iI iI iI (by assumption) rfl | exact Q_loadR rfl iI iI iI rfl rfl | exact Q_loadRA rfl iI iI iI (by assumption) | exact Q_lenR rfl iI iI | exact Q_lenM rfl iI iI | exact Q_conv32_8 rfl iI iI iI | exact Q_conv64 rfl iI iI iI | exact Q_conv32 rfl iI iI iI | exact Q_convS rfl iI rfl iI iI iI | exact Q_convSame rfl iI iI (by omega) | exact Q_convI8 rfl iI iI | exact Q_conv328 rfl iI iI | exact Q_conv8 rfl iI iI | exact Q_bytesS rfl iI iI rfl iI iI iI | exact Q_addS rfl rfl (by first | omega | (simp [be_length] <;> omega)) | exact Q_indexV rfl rfl iI iI iI (by first | assumption | omega) | exact Q_quoI rfl rfl (by omega) | exact Q_remI rfl rfl (by omega) | exact Q_negI rfl (by omega) | exact Q_mulI rfl rfl (by omega))
    | ((first | refine LS_binS rfl rfl iI rfl ?_ ?_ | refine LS_binN rfl rfl iI rfl ?_ ?_) <;> intro hc)
    | ((refine' LQ ?h rfl ?_); case h => intro F'; first | exact Q_bin rfl rfl iI)
    | ((refine' LS_h ?h rfl ?_); (case h => first | exact H_convS rfl iI rfl iI iI iI); intro g)
    | (first | refine WS_block ?_ | refine WS_skip ?_ | refine WS_ret ?_ | refine WS_exit ?_ | refine WS_label ?_)
    | (show WS _ _ _ (.cond _ _ _) _ _; first | refine WS_condT rfl iI ?_ | refine WS_condF rfl iI ?_ | refine WS_condH_t rfl (by assumption) ?_ | refine WS_condH_f rfl (by assumption) ?_ | (refine WS_cond rfl ?_ ?_ <;> intro hc <;> (try simp only [decide_eq_true_eq, decide_eq_false_iff_not, Bool.not_eq_eq_eq_not, Bool.not_true, Bool.not_false, Bool.and_eq_true, Bool.or_eq_true, bne_iff_ne, beq_iff_eq, ne_eq, Decidable.not_not] at hc) <;> (try (exfalso; first | contradiction | omega; done)))))
  refine WS_loop (fun m τ => ∃ j : Nat, j + m = l.length ∧ τ = ⟨[(8, .int .i64 (j : Int)), (7, .int .i64 (l.length : Int)), (6, v), (3, u32 (sumOn 4294967295 (l.take j)))], [], X * G⟩) ?_ ?_
  · exact ⟨l.length, _, ⟨0, by omega, rfl⟩, ⟨rfl, rfl, rfl, rfl, trivial⟩, rfl, by ((try simp only [star_assoc, emp_star, star_emp]); (repeat' (first | exact Ent.last | refine Ent.take ?_ | refine Ent.nilT ?_ | refine Ent.takeR (by first | rfl | assumption | (simp; done)) ?_ | exact Ent.refl _)))⟩
  · rintro m τ ⟨j, hj, rfl⟩
    rcases Nat.lt_or_ge j l.length with hlt | hge
    · obtain ⟨z, hz⟩ : ∃ z, l[j]? = some z := ⟨_, List.getElem?_eq_getElem hlt⟩
      repeat' (first
        | (refine WS_seqK ?_; intro K hK)
        | (refine hK _ ?_; clear hK K)
        | (with_reducible (first | refine thenS_n ?_ | refine thenS_e ?_ | refine blockS_n ?_ | refine blockS_e ?_ | refine blockS_o rfl ?_ | refine thenS_r ?_ | refine blockS_r ?_ | refine use_K (by assumption) ?_))
        | refine WS_region ?_
        | refine LS_nil ?_
        | ((refine' LQ ?h rfl ?_); case h => intro F'; first | exact Q_move rfl | exact Q_assign rfl | exact Q_load rfl iI iI rfl | exact Q_bin_t rfl rfl iI (by first | assumption | omega | decide) | exact Q_bin_f rfl rfl iI (by first | assumption | omega | decide) | exact Q_bin_nt rfl rfl iI (by first | assumption | omega | decide) | exact Q_bin_nf rfl rfl iI (by first | assumption | omega | decide) | exact Q_addI rfl rfl (by omega) | exact Q_subI rfl rfl (by omega) | exact Q_un rfl iI | exact Q_loadA rfl iI iI rfl | exact Q_len rfl iI | exact Q_lenS rfl iI | exact Q_index rfl rfl iI iI iI iI (by first | assumption | omega | (simp [be_length] <;> omega)) | exact Q_loadR rfl iI iI iI (by assumption) rfl | exact Q_loadR rfl iI iI iI rfl rfl | exact Q_loadRA rfl iI iI iI (by assumption) | exact Q_lenR rfl iI iI | exact Q_lenM rfl iI iI | exact Q_conv32_8 rfl iI iI iI | exact Q_conv64 rfl iI iI iI | exact Q_conv32 rfl iI iI iI | exact Q_convS rfl iI rfl iI iI iI | exact Q_convSame rfl iI iI (by omega) | exact Q_convI8 rfl iI iI | exact Q_conv328 rfl iI iI | exact Q_conv8 rfl iI iI | exact Q_bytesS rfl iI iI rfl iI iI iI | exact Q_addS rfl rfl (by first | omega | (simp [be_length] <;> omega)) | exact Q_indexV rfl rfl iI iI iI (by first | assumption | omega) | exact Q_quoI rfl rfl (by omega) | exact Q_remI rfl rfl (by omega) | exact Q_negI rfl (by omega) | exact Q_mulI rfl rfl (by omega))
        | ((first | refine LS_binS rfl rfl iI rfl ?_ ?_ | refine LS_binN rfl rfl iI rfl ?_ ?_) <;> intro hc)
        | ((refine' LQ ?h rfl ?_); case h => intro F'; first | exact Q_bin rfl rfl iI)
        | ((refine' LS_h ?h rfl ?_); (case h => first | exact H_convS rfl iI rfl iI iI iI); intro g)
        | (first | refine WS_block ?_ | refine WS_skip ?_ | refine WS_ret ?_ | refine WS_exit ?_ | refine WS_label ?_)
        | (show WS _ _ _ (.cond _ _ _) _ _; first | refine WS_condT rfl iI ?_ | refine WS_condF rfl iI ?_ | refine WS_condH_t rfl (by assumption) ?_ | refine WS_condH_f rfl (by assumption) ?_ | (refine WS_cond rfl ?_ ?_ <;> intro hc <;> (try simp only [decide_eq_true_eq, decide_eq_false_iff_not, Bool.not_eq_eq_eq_not, Bool.not_true, Bool.not_false, Bool.and_eq_true, Bool.or_eq_true, bne_iff_ne, beq_iff_eq, ne_eq, Decidable.not_not] at hc) <;> (try (exfalso; first | contradiction | omega; done))))
        | (refine LS_h (H_callX iI rfl (turned_spec w0 _) iI) rfl ?_; intro u))
      refine ⟨m - 1, _, by omega, ⟨j + 1, by omega, rfl⟩, ⟨rfl, rfl, rfl, ?_, trivial⟩, rfl, by ((try simp only [star_assoc, emp_star, star_emp]); (repeat' (first | exact Ent.last | refine Ent.take ?_ | refine Ent.nilT ?_ | refine Ent.takeR (by first | rfl | assumption | (simp; done)) ?_ | exact Ent.refl _)))⟩
      rw [List.take_add_one, hz]
      show some _ = some _
      rw [Option.toList_some, sumOn_snoc, ofNat_byte]
    · obtain rfl : j = l.length := by omega
      rw [List.take_length]
      repeat' (first
        | (refine WS_seqK ?_; intro K hK)
        | (refine hK _ ?_; clear hK K)
        | (with_reducible (first | refine thenS_n ?_ | refine thenS_e ?_ | refine blockS_n ?_ | refine blockS_e ?_ | refine blockS_o rfl ?_ | refine thenS_r ?_ | refine blockS_r ?_ | refine use_K (by assumption) ?_))
        | refine WS_region ?_
        | refine LS_nil ?_
        | ((refine' LQ ?h rfl ?_); case h => intro F'; first | exact Q_move rfl | exact Q_assign rfl | exact Q_load rfl iI iI rfl | exact Q_bin_t rfl rfl iI (by first | assumption | omega | decide) | exact Q_bin_f rfl rfl iI (by first | assumption | omega | decide) | exact Q_bin_nt rfl rfl iI (by first | assumption | omega | decide) | exact Q_bin_nf rfl rfl iI (by first | assumption | omega | decide) | exact Q_addI rfl rfl (by omega) | exact Q_subI rfl rfl (by omega) | exact Q_un rfl iI | exact Q_loadA rfl iI iI rfl | exact Q_len rfl iI | exact Q_lenS rfl iI | exact Q_index rfl rfl iI iI iI iI (by first | assumption | omega | (simp [be_length] <;> omega)) | exact Q_loadR rfl iI iI iI (by assumption) rfl | exact Q_loadR rfl iI iI iI rfl rfl | exact Q_loadRA rfl iI iI iI (by assumption) | exact Q_lenR rfl iI iI | exact Q_lenM rfl iI iI | exact Q_conv32_8 rfl iI iI iI | exact Q_conv64 rfl iI iI iI | exact Q_conv32 rfl iI iI iI | exact Q_convS rfl iI rfl iI iI iI | exact Q_convSame rfl iI iI (by omega) | exact Q_convI8 rfl iI iI | exact Q_conv328 rfl iI iI | exact Q_conv8 rfl iI iI | exact Q_bytesS rfl iI iI rfl iI iI iI | exact Q_addS rfl rfl (by first | omega | (simp [be_length] <;> omega)) | exact Q_indexV rfl rfl iI iI iI (by first | assumption | omega) | exact Q_quoI rfl rfl (by omega) | exact Q_remI rfl rfl (by omega) | exact Q_negI rfl (by omega) | exact Q_mulI rfl rfl (by omega))
        | ((first | refine LS_binS rfl rfl iI rfl ?_ ?_ | refine LS_binN rfl rfl iI rfl ?_ ?_) <;> intro hc)
        | ((refine' LQ ?h rfl ?_); case h => intro F'; first | exact Q_bin rfl rfl iI)
        | ((refine' LS_h ?h rfl ?_); (case h => first | exact H_convS rfl iI rfl iI iI iI); intro g)
        | (first | refine WS_block ?_ | refine WS_skip ?_ | refine WS_ret ?_ | refine WS_exit ?_ | refine WS_label ?_)
        | (show WS _ _ _ (.cond _ _ _) _ _; first | refine WS_condT rfl iI ?_ | refine WS_condF rfl iI ?_ | refine WS_condH_t rfl (by assumption) ?_ | refine WS_condH_f rfl (by assumption) ?_ | (refine WS_cond rfl ?_ ?_ <;> intro hc <;> (try simp only [decide_eq_true_eq, decide_eq_false_iff_not, Bool.not_eq_eq_eq_not, Bool.not_true, Bool.not_false, Bool.and_eq_true, Bool.or_eq_true, bne_iff_ne, beq_iff_eq, ne_eq, Decidable.not_not] at hc) <;> (try (exfalso; first | contradiction | omega; done)))))
      exact ret_tmp (.inl rfl) rfl rfl ⟨(), rfl, by ((try simp only [star_assoc, emp_star, star_emp]); (repeat' (first | exact Ent.last | refine Ent.take ?_ | refine Ent.nilT ?_ | refine Ent.takeR (by first | rfl | assumption | (simp; done)) ?_ | exact Ent.refl _)))⟩
set_option maxRecDepth 100000 in
theorem wrecord_spec (r : Rec) : Spec Tryz.prog w0 31 [.agg r.cells.toArray] emp (fun v' : Value => v') (fun v' => rows 5 1 byteC v' r.bytes) := by
  obtain ⟨own, addr, seq⟩ := r
  cases own
  all_goals
    refine Spec.enter Tryz.func31 rfl Tryz.ntmps31 rfl fun G => ?_
    simp only [argE, Rec.cells]
  · have e : ([2] ++ be addr ++ be seq) ++ be (sumOf ([2] ++ be addr ++ be seq)) = Rec.bytes ⟨false, addr, seq⟩ := by simp [Rec.bytes, Rec.head]
    repeat' (first
      | (refine WS_seqK ?_; intro K hK)
      | (refine hK _ ?_; clear hK K)
      | (with_reducible (first | refine thenS_n ?_ | refine thenS_e ?_ | refine blockS_n ?_ | refine blockS_e ?_ | refine blockS_o rfl ?_ | refine thenS_r ?_ | refine blockS_r ?_ | refine use_K (by assumption) ?_))
      | refine WS_region ?_
      | refine LS_nil ?_
      | ((refine' LQ ?h rfl ?_); case h => intro F'; first | exact Q_move rfl | exact Q_assign rfl | exact Q_fieldAddr rfl iI rfl | exact Q_load rfl iI iI rfl | exact Q_loadA rfl iI iI rfl | exact Q_index rfl rfl iI iI iI iI (by first | assumption | omega | (simp [be_length] <;> omega)) | exact Q_fieldR rfl iI iI rfl (by first | assumption | omega | (simp [be_length] <;> omega)) | exact Q_loadR rfl iI iI iI (by assumption) rfl | exact Q_loadR rfl iI iI iI rfl rfl | exact Q_loadRA rfl iI iI iI (by assumption) | exact Q_indexV rfl rfl iI iI iI (by first | assumption | omega))
      | ((refine' LS_h ?h rfl ?_); (case h => first | exact H_box rfl | exact H_boxO rfl iI | exact H_buildB iI iI iI rfl rfl rfl rfl rfl iI rfl rfl | exact H_buildSlice iI iI iI rfl rfl rfl rfl rfl | exact H_buildSlice0 iI iI | exact H_box1 rfl (by first | rfl | assumption)); intro g)
      | ((refine' LS_h0 ?h ?_); (case h => first | exact H_storeO rfl rfl iI iI iI rfl | exact H_storeAO rfl rfl iI iI iI rfl | exact H_store8 rfl rfl iI iI rfl iI (by first | assumption | omega | (simp [be_length] <;> omega)) | exact H_storeRA _ rfl rfl rfl iI iI iI rfl rfl (by first | assumption | omega | (simp [be_length] <;> omega)) | exact H_storeR _ rfl rfl iI iI iI rfl (by assumption) rfl | exact H_store rfl rfl iI (by first | rfl | assumption) iI rfl | exact H_storeA rfl rfl iI iI (by first | rfl | (simp only [List.all_cons, List.all_nil, *]; rfl)) rfl); intro g)
      | (first | refine WS_block ?_ | refine WS_skip ?_ | refine WS_ret ?_ | refine WS_exit ?_ | refine WS_label ?_)
      | (show WS _ _ _ (.cond _ _ _) _ _; first | refine WS_condT rfl iI ?_ | refine WS_condF rfl iI ?_ | refine WS_condH_t rfl (by assumption) ?_ | refine WS_condH_f rfl (by assumption) ?_ | (refine WS_cond rfl ?_ ?_ <;> intro hc <;> (try simp only [decide_eq_true_eq, decide_eq_false_iff_not, Bool.not_eq_eq_eq_not, Bool.not_true, Bool.not_false, Bool.and_eq_true, Bool.or_eq_true, bne_iff_ne, beq_iff_eq, ne_eq, Decidable.not_not] at hc) <;> (try (exfalso; first | contradiction | omega; done))))
      | (refine LS_h (H_callX iI rfl (four_spec w0 _ ([2]) addr (by simp)) iI) rfl ?_; intro v3)
      | (refine LS_h (H_callX iI rfl (four_spec w0 v3 ([2] ++ be addr) seq (by simp [be_length])) iI) rfl ?_; intro v4)
      | (refine LS_h (H_callX iI rfl (wsum_spec w0 ([2] ++ be addr ++ be seq) (by simp [be_length]) v4 (rows 5 1 byteC v4 ([2] ++ be addr ++ be seq))) iI) rfl ?_; intro u)
      | (refine LS_h (H_callX iI rfl (four_spec w0 v4 ([2] ++ be addr ++ be seq) (sumOf ([2] ++ be addr ++ be seq)) (by simp [be_length])) iI) rfl ?_; intro v5))
    rw [e]
    exact ret_tmp (.inl rfl) rfl rfl ⟨v5, rfl, by ((try simp only [star_assoc, emp_star, star_emp]); (repeat' (first | exact Ent.last | refine Ent.take ?_ | refine Ent.nilT ?_ | refine Ent.takeR (by first | rfl | assumption | (simp; done)) ?_ | exact Ent.refl _)))⟩
  · have e : ([2].set 0 1 ++ be 0 ++ be seq) ++ be (sumOf ([2].set 0 1 ++ be 0 ++ be seq)) = Rec.bytes ⟨true, addr, seq⟩ := by simp [Rec.bytes, Rec.head]
    repeat' (first
      | (refine WS_seqK ?_; intro K hK)
      | (refine hK _ ?_; clear hK K)
      | (with_reducible (first | refine thenS_n ?_ | refine thenS_e ?_ | refine blockS_n ?_ | refine blockS_e ?_ | refine blockS_o rfl ?_ | refine thenS_r ?_ | refine blockS_r ?_ | refine use_K (by assumption) ?_))
      | refine WS_region ?_
      | refine LS_nil ?_
      | ((refine' LQ ?h rfl ?_); case h => intro F'; first | exact Q_move rfl | exact Q_assign rfl | exact Q_fieldAddr rfl iI rfl | exact Q_load rfl iI iI rfl | exact Q_loadA rfl iI iI rfl | exact Q_index rfl rfl iI iI iI iI (by first | assumption | omega | (simp [be_length] <;> omega)) | exact Q_fieldR rfl iI iI rfl (by first | assumption | omega | (simp [be_length] <;> omega)) | exact Q_loadR rfl iI iI iI (by assumption) rfl | exact Q_loadR rfl iI iI iI rfl rfl | exact Q_loadRA rfl iI iI iI (by assumption) | exact Q_indexV rfl rfl iI iI iI (by first | assumption | omega))
      | ((refine' LS_h ?h rfl ?_); (case h => first | exact H_box rfl | exact H_boxO rfl iI | exact H_buildB iI iI iI rfl rfl rfl rfl rfl iI rfl rfl | exact H_buildSlice iI iI iI rfl rfl rfl rfl rfl | exact H_buildSlice0 iI iI | exact H_box1 rfl (by first | rfl | assumption)); intro g)
      | ((refine' LS_h0 ?h ?_); (case h => first | exact H_storeO rfl rfl iI iI iI rfl | exact H_storeAO rfl rfl iI iI iI rfl | exact H_store8 rfl rfl iI iI rfl iI (by first | assumption | omega | (simp [be_length] <;> omega)) | exact H_storeRA _ rfl rfl rfl iI iI iI rfl rfl (by first | assumption | omega | (simp [be_length] <;> omega)) | exact H_storeR _ rfl rfl iI iI iI rfl (by assumption) rfl | exact H_store rfl rfl iI (by first | rfl | assumption) iI rfl | exact H_storeA rfl rfl iI iI (by first | rfl | (simp only [List.all_cons, List.all_nil, *]; rfl)) rfl); intro g)
      | (first | refine WS_block ?_ | refine WS_skip ?_ | refine WS_ret ?_ | refine WS_exit ?_ | refine WS_label ?_)
      | (show WS _ _ _ (.cond _ _ _) _ _; first | refine WS_condT rfl iI ?_ | refine WS_condF rfl iI ?_ | refine WS_condH_t rfl (by assumption) ?_ | refine WS_condH_f rfl (by assumption) ?_ | (refine WS_cond rfl ?_ ?_ <;> intro hc <;> (try simp only [decide_eq_true_eq, decide_eq_false_iff_not, Bool.not_eq_eq_eq_not, Bool.not_true, Bool.not_false, Bool.and_eq_true, Bool.or_eq_true, bne_iff_ne, beq_iff_eq, ne_eq, Decidable.not_not] at hc) <;> (try (exfalso; first | contradiction | omega; done))))
      | (refine LS_h (H_callX iI rfl (four_spec w0 _ ([2].set 0 1) 0 (by simp)) iI) rfl ?_; intro v3)
      | (refine LS_h (H_callX iI rfl (four_spec w0 v3 ([2].set 0 1 ++ be 0) seq (by simp [be_length])) iI) rfl ?_; intro v4)
      | (refine LS_h (H_callX iI rfl (wsum_spec w0 ([2].set 0 1 ++ be 0 ++ be seq) (by simp [be_length]) v4 (rows 5 1 byteC v4 ([2].set 0 1 ++ be 0 ++ be seq))) iI) rfl ?_; intro u)
      | (refine LS_h (H_callX iI rfl (four_spec w0 v4 ([2].set 0 1 ++ be 0 ++ be seq) (sumOf ([2].set 0 1 ++ be 0 ++ be seq)) (by simp [be_length])) iI) rfl ?_; intro v5))
    rw [e]
    exact ret_tmp (.inl rfl) rfl rfl ⟨v5, rfl, by ((try simp only [star_assoc, emp_star, star_emp]); (repeat' (first | exact Ent.last | refine Ent.take ?_ | refine Ent.nilT ?_ | refine Ent.takeR (by first | rfl | assumption | (simp; done)) ?_ | exact Ent.refl _)))⟩
end Go.Proofs.YtapoehkdnglahabGreat

/- What meshref.put returns, by a walk. -/
namespace Go.Proofs.YtapoehkdnglahabGreat
open Go.RowKit
set_option linter.unusedVariables false
set_option linter.unusedSimpArgs false
instance : FixLen Rec.cells 3 := ⟨fun _ => rfl⟩
theorem recC_one : ∀ z, ∀ c ∈ Rec.cells z, c.oneCell' = true := by intro z c hc; simp [Rec.cells] at hc; rcases hc with rfl | rfl | rfl <;> rfl
instance : Lit (true == false) false := ⟨rfl⟩
instance : Lit (false == true) false := ⟨rfl⟩
instance litTT2 : Lit (true == true) true := ⟨rfl⟩
instance litFF2 : Lit (false == false) true := ⟨rfl⟩
attribute [local irreducible] WS LS OpQ OpT OpH OpTQ Spec SpecQ cel
variable (w0 : World)
end Go.Proofs.YtapoehkdnglahabGreat

/- What the readers of journals, the comparisons of bytes and of records, meshref.Compact and wire.Records return, by a walk. -/
namespace Go.Proofs.YtapoehkdnglahabGreat
open Go.RowKit
set_option linter.unusedVariables false
set_option linter.unusedSimpArgs false
attribute [local irreducible] WS LS OpQ OpT OpH OpTQ Spec SpecQ cel
variable (w0 : World)
set_option maxRecDepth 100000 in
theorem equal_spec (l m : List UInt8) (hl : l.length ≤ 1000000) (v u : Value) (X : HProp) [hX : Rdr w0 X v UInt8 1 byteC l] [hY : Rdr w0 X u UInt8 1 byteC m] : Spec Tryz.prog w0 112 [v, u] X (fun _ : Unit => .bool (decide (l = m))) (fun _ => X) := by
  refine Spec.enter Tryz.func112 rfl Tryz.ntmps112 rfl fun G => ?_
  simp only [argE]
  repeat' (first
    | (refine WS_seqK ?_; intro K hK)
    | (refine hK _ ?_; clear hK K)
    | (with_reducible (first | refine thenS_n ?_ | refine thenS_e ?_ | refine blockS_n ?_ | refine blockS_e ?_ | refine blockS_o rfl ?_ | refine thenS_r ?_ | refine blockS_r ?_ | refine use_K (by assumption) ?_))
    | refine WS_region ?_
    | refine LS_nil ?_
    | (first | refine DL_nilA ?_ | refine DL_nilS ?_ | refine DL_nilN ?_ | refine DL_nilE ?_ | refine DL_nilR ?_)
    | (first | refine DL_claimS rfl ?_ | refine DL_claim rfl rfl ?_)
    | ((first | refine' LQ ?h rfl ?_ | refine' DL_qp rfl rfl rfl ?h ?_ | refine' DL_q rfl rfl ?h ?_); case h => intro F'; first | exact Q_move rfl | exact Q_assign rfl | exact Q_load rfl iI iI rfl | exact Q_bin_t rfl rfl iI (by first | assumption | omega | decide) | exact Q_bin_f rfl rfl iI (by first | assumption | omega | decide) | exact Q_bin_nt rfl rfl iI (by first | assumption | omega | decide) | exact Q_bin_nf rfl rfl iI (by first | assumption | omega | decide) | exact Q_addI rfl rfl (by omega) | exact Q_subI rfl rfl (by omega) | exact Q_loadA rfl iI iI rfl | exact Q_len rfl iI | exact Q_lenS rfl iI | exact Q_index rfl rfl iI iI iI iI (by first | assumption | omega | (simp [be_length] <;> omega)) | exact Q_loadR rfl iI iI iI (by assumption) rfl | exact Q_loadR rfl iI iI iI rfl rfl | exact Q_loadRA rfl iI iI iI (by assumption) | exact Q_lenR rfl iI iI | exact Q_lenM rfl iI iI | exact Q_addS rfl rfl (by first | omega | (simp [be_length] <;> omega)) | exact Q_indexV rfl rfl iI iI iI (by first | assumption | omega) | exact Q_quoI rfl rfl (by omega) | exact Q_remI rfl rfl (by omega) | exact Q_mulI rfl rfl (by omega))
    | ((first | refine LS_binS rfl rfl iI rfl ?_ ?_ | refine LS_binN rfl rfl iI rfl ?_ ?_ | refine DL_binS rfl rfl iI rfl ?_ ?_) <;> intro hc)
    | ((first | refine' LQ ?h rfl ?_ | refine' DL_qp rfl rfl rfl ?h ?_ | refine' DL_q rfl rfl ?h ?_); case h => intro F'; first | exact Q_bin rfl rfl iI)
    | (first | refine WS_block ?_ | refine WS_skip ?_ | refine WS_ret ?_ | refine WS_exit ?_ | refine WS_label ?_)
    | (show WS _ _ _ (.cond _ _ _) _ _; first | refine WS_condT rfl iI ?_ | refine WS_condF rfl iI ?_ | refine WS_condH_t rfl (by assumption) ?_ | refine WS_condH_f rfl (by assumption) ?_ | (refine WS_cond rfl ?_ ?_ <;> intro hc <;> (try simp only [decide_eq_true_eq, decide_eq_false_iff_not, Bool.not_eq_eq_eq_not, Bool.not_true, Bool.not_false, Bool.and_eq_true, Bool.or_eq_true, bne_iff_ne, beq_iff_eq, ne_eq, Decidable.not_not] at hc) <;> (try (exfalso; first | contradiction | omega; done))))
    | refine WS_drawS (by kernel_rfl) ?_)
  rotate_left
  · refine ret_tmp (.inl rfl) rfl rfl ⟨(), ?_, Ent.take Ent.last⟩
    rw [decide_eq_false]; rintro rfl; exact hc rfl
  refine WS_loop (fun k τ => ∃ j, j + k = l.length ∧ l.take j = m.take j ∧ τ = ⟨[(13, .int .i64 (j : Int)), (12, .int .i64 (l.length : Int)), (0, v), (1, u)], [], X * G⟩) ?_ ?_
  · exact ⟨l.length, _, ⟨0, by omega, rfl, rfl⟩, ⟨rfl, rfl, rfl, rfl, trivial⟩, rfl, Ent.refl _⟩
  · rintro k τ ⟨j, hjk, hj, rfl⟩
    rcases Nat.lt_or_ge j l.length with hlt | hge
    · obtain ⟨z, hz⟩ : ∃ z, l[j]? = some z := ⟨_, List.getElem?_eq_getElem hlt⟩
      have hlt2 : j < m.length := by omega
      obtain ⟨z', hz'⟩ : ∃ z, m[j]? = some z := ⟨_, List.getElem?_eq_getElem hlt2⟩
      repeat' (first
        | (show WS _ _ _ (.region 6 _ true) _ _; refine WS_drawA [0, 1, 2, 3, 4, 5, 6, 7, 8] (by decide +kernel) rfl ?_)
        | (refine WS_seqK ?_; intro K hK)
        | (refine hK _ ?_; clear hK K)
        | (with_reducible (first | refine thenS_n ?_ | refine thenS_e ?_ | refine blockS_n ?_ | refine blockS_e ?_ | refine blockS_o rfl ?_ | refine thenS_r ?_ | refine blockS_r ?_ | refine use_K (by assumption) ?_))
        | refine WS_region ?_
        | refine LS_nil ?_
        | (first | refine DL_nilA ?_ | refine DL_nilS ?_ | refine DL_nilN ?_ | refine DL_nilE ?_ | refine DL_nilR ?_)
        | (first | refine DL_claimS rfl ?_ | refine DL_claim rfl rfl ?_)
        | ((first | refine' LQ ?h rfl ?_ | refine' DL_qp rfl rfl rfl ?h ?_ | refine' DL_q rfl rfl ?h ?_); case h => intro F'; first | exact Q_move rfl | exact Q_assign rfl | exact Q_load rfl iI iI rfl | exact Q_bin_t rfl rfl iI (by first | assumption | omega | decide) | exact Q_bin_f rfl rfl iI (by first | assumption | omega | decide) | exact Q_bin_nt rfl rfl iI (by first | assumption | omega | decide) | exact Q_bin_nf rfl rfl iI (by first | assumption | omega | decide) | exact Q_addI rfl rfl (by omega) | exact Q_subI rfl rfl (by omega) | exact Q_loadA rfl iI iI rfl | exact Q_len rfl iI | exact Q_lenS rfl iI | exact Q_index rfl rfl iI iI iI iI (by first | assumption | omega | (simp [be_length] <;> omega)) | exact Q_loadR rfl iI iI iI (by assumption) rfl | exact Q_loadR rfl iI iI iI rfl rfl | exact Q_loadRA rfl iI iI iI (by assumption) | exact Q_lenR rfl iI iI | exact Q_lenM rfl iI iI | exact Q_addS rfl rfl (by first | omega | (simp [be_length] <;> omega)) | exact Q_indexV rfl rfl iI iI iI (by first | assumption | omega) | exact Q_quoI rfl rfl (by omega) | exact Q_remI rfl rfl (by omega) | exact Q_mulI rfl rfl (by omega))
        | ((first | refine LS_binS rfl rfl iI rfl ?_ ?_ | refine LS_binN rfl rfl iI rfl ?_ ?_ | refine DL_binS rfl rfl iI rfl ?_ ?_) <;> intro hc)
        | ((first | refine' LQ ?h rfl ?_ | refine' DL_qp rfl rfl rfl ?h ?_ | refine' DL_q rfl rfl ?h ?_); case h => intro F'; first | exact Q_bin rfl rfl iI)
        | (first | refine WS_block ?_ | refine WS_skip ?_ | refine WS_ret ?_ | refine WS_exit ?_ | refine WS_label ?_)
        | (show WS _ _ _ (.cond _ _ _) _ _; first | refine WS_condT rfl iI ?_ | refine WS_condF rfl iI ?_ | refine WS_condH_t rfl (by assumption) ?_ | refine WS_condH_f rfl (by assumption) ?_ | (refine WS_cond rfl ?_ ?_ <;> intro hc <;> (try simp only [decide_eq_true_eq, decide_eq_false_iff_not, Bool.not_eq_eq_eq_not, Bool.not_true, Bool.not_false, Bool.and_eq_true, Bool.or_eq_true, bne_iff_ne, beq_iff_eq, ne_eq, Decidable.not_not] at hc) <;> (try (exfalso; first | contradiction | omega; done)))))
      · refine ret_tmp (.inl rfl) rfl rfl ⟨(), ?_, Ent.take Ent.last⟩
        rw [decide_eq_false]; rintro rfl; rw [hz] at hz'; cases hz'; simp at hc
      · exact ⟨k - 1, _, by omega, ⟨j + 1, by omega, take_succ_eq hj hz hz' (by simpa using hc), rfl⟩, ⟨rfl, rfl, rfl, rfl, trivial⟩, rfl, Ent.refl _⟩
    · obtain rfl : j = l.length := by omega
      have e : l = m := by rw [List.take_length, List.take_of_length_le (by omega)] at hj; exact hj
      repeat' (first
        | (refine WS_seqK ?_; intro K hK)
        | (refine hK _ ?_; clear hK K)
        | (with_reducible (first | refine thenS_n ?_ | refine thenS_e ?_ | refine blockS_n ?_ | refine blockS_e ?_ | refine blockS_o rfl ?_ | refine thenS_r ?_ | refine blockS_r ?_ | refine use_K (by assumption) ?_))
        | refine WS_region ?_
        | refine LS_nil ?_
        | (first | refine DL_nilA ?_ | refine DL_nilS ?_ | refine DL_nilN ?_ | refine DL_nilE ?_ | refine DL_nilR ?_)
        | (first | refine DL_claimS rfl ?_ | refine DL_claim rfl rfl ?_)
        | ((first | refine' LQ ?h rfl ?_ | refine' DL_qp rfl rfl rfl ?h ?_ | refine' DL_q rfl rfl ?h ?_); case h => intro F'; first | exact Q_move rfl | exact Q_assign rfl | exact Q_load rfl iI iI rfl | exact Q_bin_t rfl rfl iI (by first | assumption | omega | decide) | exact Q_bin_f rfl rfl iI (by first | assumption | omega | decide) | exact Q_bin_nt rfl rfl iI (by first | assumption | omega | decide) | exact Q_bin_nf rfl rfl iI (by first | assumption | omega | decide) | exact Q_addI rfl rfl (by omega) | exact Q_subI rfl rfl (by omega) | exact Q_loadA rfl iI iI rfl | exact Q_len rfl iI | exact Q_lenS rfl iI | exact Q_index rfl rfl iI iI iI iI (by first | assumption | omega | (simp [be_length] <;> omega)) | exact Q_loadR rfl iI iI iI (by assumption) rfl | exact Q_loadR rfl iI iI iI rfl rfl | exact Q_loadRA rfl iI iI iI (by assumption) | exact Q_lenR rfl iI iI | exact Q_lenM rfl iI iI | exact Q_addS rfl rfl (by first | omega | (simp [be_length] <;> omega)) | exact Q_indexV rfl rfl iI iI iI (by first | assumption | omega) | exact Q_quoI rfl rfl (by omega) | exact Q_remI rfl rfl (by omega) | exact Q_mulI rfl rfl (by omega))
        | ((first | refine LS_binS rfl rfl iI rfl ?_ ?_ | refine LS_binN rfl rfl iI rfl ?_ ?_ | refine DL_binS rfl rfl iI rfl ?_ ?_) <;> intro hc)
        | ((first | refine' LQ ?h rfl ?_ | refine' DL_qp rfl rfl rfl ?h ?_ | refine' DL_q rfl rfl ?h ?_); case h => intro F'; first | exact Q_bin rfl rfl iI)
        | (first | refine WS_block ?_ | refine WS_skip ?_ | refine WS_ret ?_ | refine WS_exit ?_ | refine WS_label ?_)
        | (show WS _ _ _ (.cond _ _ _) _ _; first | refine WS_condT rfl iI ?_ | refine WS_condF rfl iI ?_ | refine WS_condH_t rfl (by assumption) ?_ | refine WS_condH_f rfl (by assumption) ?_ | (refine WS_cond rfl ?_ ?_ <;> intro hc <;> (try simp only [decide_eq_true_eq, decide_eq_false_iff_not, Bool.not_eq_eq_eq_not, Bool.not_true, Bool.not_false, Bool.and_eq_true, Bool.or_eq_true, bne_iff_ne, beq_iff_eq, ne_eq, Decidable.not_not] at hc) <;> (try (exfalso; first | contradiction | omega; done))))
        | refine WS_drawS (by kernel_rfl) ?_)
      refine ret_tmp (.inl rfl) rfl rfl ⟨(), ?_, Ent.take Ent.last⟩
      rw [decide_eq_true e]
theorem rec_neq (o o' : Bool) (x y x' y' : Int) (w : World) :
    (binOp .neq 28 (.agg #[.bool o, .int .u32 x, .int .u32 y]) (.agg #[.bool o', .int .u32 x', .int .u32 y'])).run Tryz.prog w = .ok (.bool (!(o == o' && (x == x' && y == y')))) w := by
  have u4 := Tryz.underlying26
  have u1 := Tryz.underlying4
  have hS : Tryz.prog.underlying 28 = some (.struct (Tryz.prog.fieldsOf 28)) := by kernel_rfl
  have hp : Tryz.prog.stoodInHeld 28 = false := by kernel_rfl
  rw [run_neq_struct, show (10000 : Nat) = 9999 + 1 from rfl, run_equalIn_agg w 9999 28 _ _ hS hp]
  simp only [Program.fieldsOf, Tryz.underlying28]
  by_cases h0 : o = o' <;> by_cases h1 : x = x' <;> by_cases h2 : y = y' <;> go_simp
instance neqRec (a b : Rec) : BinV Tryz.prog .neq 28 (.agg (Rec.cells a).toArray) (.agg (Rec.cells b).toArray) (.bool (!decide (a = b))) := ⟨fun w => by
  have h := rec_neq a.own b.own (a.addr.toNat : Int) (a.seq.toNat : Int) (b.addr.toNat : Int) (b.seq.toNat : Int) w
  have e : (a.own == b.own && (((a.addr.toNat : Int) == (b.addr.toNat : Int)) && ((a.seq.toNat : Int) == (b.seq.toNat : Int)))) = decide (a = b) := by
    rw [Bool.eq_iff_iff]
    simp only [Bool.and_eq_true, beq_iff_eq, decide_eq_true_eq]
    constructor
    · intro ⟨h0, h1, h2⟩
      have e1 : a.addr = b.addr := UInt32.toNat_inj.1 (by omega)
      have e2 : a.seq = b.seq := UInt32.toNat_inj.1 (by omega)
      cases a; cases b; simp_all
    · rintro rfl; exact ⟨rfl, rfl, rfl⟩
  rw [e] at h
  exact h, fun w x y => by apply run_eqGuard_agg; kernel_rfl⟩
theorem own_bit (x : UInt8) : decide (x = 1) = (((x.toNat : Nat) : Int) == 1) := by
  rw [Bool.eq_iff_iff]; simp only [decide_eq_true_eq, beq_iff_eq]
  constructor
  · rintro rfl; rfl
  · intro h; apply UInt8.toNat_inj.1; show x.toNat = 1; omega
theorem numAt_drop (l : List UInt8) (i : Nat) (h : i + 4 ≤ l.length) : numAt (l.drop i) 0 = numAt l i := by
  unfold numAt byteAt
  simp [List.getD_eq_getElem?_getD]
theorem recOf_take (l : List UInt8) (h : 13 ≤ l.length) : recOf (l.take 13) = recOf l := by
  have e : ∀ i, i < 13 → byteAt (l.take 13) i = byteAt l i := fun i hi => by
    unfold byteAt; simp [List.getD_eq_getElem?_getD, List.getElem?_take, hi]
  unfold recOf numAt
  rw [e 0 (by omega), e 1 (by omega), e (1 + 1) (by omega), e (1 + 2) (by omega), e (1 + 3) (by omega), e 5 (by omega), e (5 + 1) (by omega), e (5 + 2) (by omega), e (5 + 3) (by omega)]
def tailN (v : Value) : Nat → Value
  | 0 => v
  | j + 1 => sTail 1 (tailN v j) 13
instance rdr_tailN {α : Type} {H : HProp} {v : Value} {f : α → List Value} {l : List α} (j : Nat) [h : Rdr w0 H v α 1 f l] : Rdr w0 H (tailN v j) α 1 f (l.drop (13 * j)) := by
  induction j with
  | zero => exact h
  | succ j ih =>
    have := rdr_tail' (size := 1) (w0 := w0) (H := H) (v := tailN v j) (f := f) (l := l.drop (13 * j)) 13
    rw [List.drop_drop] at this
    exact this
theorem rd_go (xs : List UInt8) (js : List Rec) (k : Nat) (hj : readJ xs = js ++ readN (xs.length / 13 - k) (xs.drop (13 * k))) (hlt : 13 * k + 13 ≤ xs.length) (hx : (recOf (xs.drop (13 * k))).bytes = (xs.drop (13 * k)).take 13) :
    readJ xs = (js ++ [recOf (xs.drop (13 * k))]) ++ readN (xs.length / 13 - (k + 1)) (xs.drop (13 * (k + 1))) :=
  readJ_step xs js k _ hj rfl (by omega) hx
theorem rd_no (xs : List UInt8) (js : List Rec) (k : Nat) (hj : readJ xs = js ++ readN (xs.length / 13 - k) (xs.drop (13 * k))) (hx : ¬ (recOf (xs.drop (13 * k))).bytes = (xs.drop (13 * k)).take 13) : readJ xs = js := by
  rw [hj, readN_not _ _ hx, List.append_nil]
theorem rd_short (xs : List UInt8) (js : List Rec) (k : Nat) (hj : readJ xs = js ++ readN (xs.length / 13 - k) (xs.drop (13 * k))) (h : ¬ 13 * k + 13 ≤ xs.length) : readJ xs = js := by
  rw [hj, readN_short _ _ (by simp; omega), List.append_nil]
set_option maxRecDepth 100000 in
set_option maxHeartbeats 4000000 in
theorem wread_spec (l : List UInt8) (hl : l.length ≤ 1000000) (v : Value) (X : HProp) [hX : Rdr w0 X v UInt8 1 byteC l] : Spec Tryz.prog w0 58 [v] X (fun m : Value => .tuple #[m, .int .i64 (13 * ((readJ l).length : Int))]) (fun m => rows 28 3 Rec.cells m (readJ l) * X) := by
  refine Spec.enter Tryz.func58 rfl Tryz.ntmps58 rfl fun G => ?_
  simp only [argE]
  repeat' (first
    | (refine WS_seqK ?_; intro K hK)
    | (refine hK _ ?_; clear hK K)
    | (with_reducible (first | refine thenS_n ?_ | refine thenS_e ?_ | refine blockS_n ?_ | refine blockS_e ?_ | refine blockS_o rfl ?_ | refine thenS_r ?_ | refine blockS_r ?_ | refine use_K (by assumption) ?_))
    | refine WS_region ?_
    | refine LS_nil ?_
    | (first | refine DL_nilA ?_ | refine DL_nilS ?_ | refine DL_nilN ?_ | refine DL_nilE ?_ | refine DL_nilR ?_)
    | (first | refine DL_claimS rfl ?_ | refine DL_claim rfl rfl ?_)
    | (refine DL_alloc iI rfl ?_; intro g)
    | ((first | refine' LQ ?h rfl ?_ | refine' DL_qp rfl rfl rfl ?h ?_ | refine' DL_q rfl rfl ?h ?_); case h => intro F'; first | exact Q_move rfl | exact Q_assign rfl | exact Q_load rfl iI iI rfl | exact Q_bin_t rfl rfl iI (by first | assumption | omega | decide) | exact Q_bin_f rfl rfl iI (by first | assumption | omega | decide) | exact Q_bin_nt rfl rfl iI (by first | assumption | omega | decide) | exact Q_bin_nf rfl rfl iI (by first | assumption | omega | decide) | exact Q_addI rfl rfl (by omega) | exact Q_subI rfl rfl (by omega) | exact Q_un rfl iI | exact Q_loadA rfl iI iI rfl | exact Q_build iI iI rfl rfl | exact Q_buildA iI iI iI rfl rfl | exact Q_len rfl iI | exact Q_lenS rfl iI | exact Q_index rfl rfl iI iI iI iI (by first | assumption | omega | (simp [be_length] <;> omega)) | exact Q_loadR rfl iI iI iI (by assumption) rfl | exact Q_loadR rfl iI iI iI rfl rfl | exact Q_loadRA rfl iI iI iI (by assumption) | exact Q_lenR rfl iI iI | exact Q_lenM rfl iI iI | exact Q_addS rfl rfl (by first | omega | (simp [be_length] <;> omega)) | exact Q_sliceS_h rfl rfl iI iI (by first | assumption | omega) | exact Q_sliceS_l rfl rfl iI iI (by first | assumption | omega) | exact Q_indexV rfl rfl iI iI iI (by first | assumption | omega) | exact Q_sliceR_h rfl rfl iI iI iI iI (by first | assumption | omega | (simp [be_length] <;> omega)) | exact Q_sliceR_l rfl rfl iI iI iI iI (by first | assumption | omega | (simp [be_length] <;> omega)) | exact Q_quoI rfl rfl (by omega) | exact Q_remI rfl rfl (by omega) | exact Q_negI rfl (by omega) | exact Q_mulI rfl rfl (by omega))
    | ((first | refine LS_binS rfl rfl iI rfl ?_ ?_ | refine LS_binN rfl rfl iI rfl ?_ ?_ | refine DL_binS rfl rfl iI rfl ?_ ?_) <;> intro hc)
    | ((first | refine' LQ ?h rfl ?_ | refine' DL_qp rfl rfl rfl ?h ?_ | refine' DL_q rfl rfl ?h ?_); case h => intro F'; first | exact Q_bin rfl rfl iI)
    | ((first | refine' LS_h ?h rfl ?_ | refine' DL_h ?h rfl rfl rfl ?_); (case h => first | exact H_alloc iI | exact H_buildB iI iI iI rfl rfl rfl rfl rfl iI rfl rfl | exact H_buildSlice iI iI iI rfl rfl rfl rfl rfl | exact H_buildSlice0 iI iI | exact H_appendD rfl rfl iI iI rfl iI iI byteC_one (by first | omega | (simp [be_length] <;> omega)) rfl | exact H_appendB rfl rfl iI iI iI rfl rfl iI (by first | omega | (simp [be_length] <;> omega)) rfl | exact H_appendS rfl rfl iI rfl iI iI (by first | omega | (simp [be_length] <;> omega)) rfl); intro g)
    | ((first | refine' LS_h0 ?h ?_ | refine' DL_h0 ?h rfl rfl ?_); (case h => first | exact H_storeO rfl rfl iI iI iI rfl | exact H_storeAO rfl rfl iI iI iI rfl | exact H_store8 rfl rfl iI iI rfl iI (by first | assumption | omega | (simp [be_length] <;> omega)) | exact H_storeRA _ rfl rfl rfl iI iI iI rfl rfl (by first | assumption | omega | (simp [be_length] <;> omega)) | exact H_storeR _ rfl rfl iI iI iI rfl (by assumption) rfl | exact H_store rfl rfl iI (by first | rfl | assumption) iI rfl | exact H_storeA rfl rfl iI iI (by first | rfl | (simp only [List.all_cons, List.all_nil, *]; rfl)) rfl); intro g)
    | (first | refine WS_block ?_ | refine WS_skip ?_ | refine WS_ret ?_ | refine WS_exit ?_ | refine WS_label ?_)
    | (show WS _ _ _ (.cond _ _ _) _ _; first | refine WS_condT rfl iI ?_ | refine WS_condF rfl iI ?_ | refine WS_condH_t rfl (by assumption) ?_ | refine WS_condH_f rfl (by assumption) ?_ | (refine WS_cond rfl ?_ ?_ <;> intro hc <;> (try simp only [decide_eq_true_eq, decide_eq_false_iff_not, Bool.not_eq_eq_eq_not, Bool.not_true, Bool.not_false, Bool.and_eq_true, Bool.or_eq_true, bne_iff_ne, beq_iff_eq, ne_eq, Decidable.not_not] at hc) <;> (try (exfalso; first | contradiction | omega; done))))
    | refine WS_drawS (by kernel_rfl) ?_)
  refine WS_ent (Ent.nil _ 28 3 Rec.cells none) ?_
  refine WS_loop (fun m τ => ∃ (j : Nat) (u : Value) (js : List Rec), j + m = l.length / 13 ∧ js.length = j ∧ readJ l = js ++ readN (l.length / 13 - j) (l.drop (13 * j)) ∧ τ = ⟨[(5, tailN v j), (4, u)], [], rows 28 3 Rec.cells u js * (X * G)⟩) ?_ ?_
  · exact ⟨l.length / 13, _, ⟨0, _, [], by omega, rfl, by simp [readJ], rfl⟩, ⟨rfl, rfl, trivial⟩, rfl, by ((try simp only [star_assoc, emp_star, star_emp]); (repeat' (first | exact Ent.last | refine Ent.take ?_ | refine Ent.nilT ?_ | refine Ent.takeR (by first | rfl | assumption | (simp; done)) ?_ | exact Ent.refl _)))⟩
  · rintro m τ ⟨j, u, js, hjm, hjs, hj, rfl⟩
    have hdl : (l.drop (13 * j)).length = l.length - 13 * j := by simp
    rcases Nat.lt_or_ge j (l.length / 13) with hlt | hge
    · have h13 : 13 * j + 13 ≤ l.length := by omega
      have htl : ((l.drop (13 * j)).take 13).length = 13 := by simp; omega
      have hz : ((l.drop (13 * j)).take 13)[0]? = some (byteAt (l.drop (13 * j)) 0) := by
        rw [List.getElem?_take, if_pos (by omega)]
        exact byteAt_get (by omega)
      have hn1 := wnumber_spec w0 (((l.drop (13 * j)).take 13).drop 1) (by simp; omega) (sTail 1 (sHead (tailN v j) 13) 1) (rows 28 3 Rec.cells u js * (X * G))
      have hn5 := wnumber_spec w0 (((l.drop (13 * j)).take 13).drop 5) (by simp; omega) (sTail 1 (sHead (tailN v j) 13) 5) (rows 28 3 Rec.cells u js * (X * G))
      have hr : (⟨decide (byteAt (l.drop (13 * j)) 0 = 1), numAt (((l.drop (13 * j)).take 13).drop 1) 0, numAt (((l.drop (13 * j)).take 13).drop 5) 0⟩ : Rec) = recOf (l.drop (13 * j)) := by
        rw [← recOf_take (l.drop (13 * j)) (by omega), own_bit, numAt_drop _ 1 (by omega), numAt_drop _ 5 (by omega)]
        unfold recOf
        congr 2
        unfold byteAt; simp [List.getD_eq_getElem?_getD, List.getElem?_take]
      have hrec : ∀ r', r' = recOf (l.drop (13 * j)) → Spec Tryz.prog w0 31 [.agg r'.cells.toArray] emp (fun v' : Value => v') (fun v' => rows 5 1 byteC v' (recOf (l.drop (13 * j))).bytes) := by
        rintro _ rfl; exact wrecord_spec w0 _
      have hrec' := hrec _ hr
      have hbl : (recOf (l.drop (13 * j))).bytes.length = 13 := Rec.bytes_length _
      repeat' (first
        | (refine WS_seqK ?_; intro K hK)
        | (refine hK _ ?_; clear hK K)
        | (with_reducible (first | refine thenS_n ?_ | refine thenS_e ?_ | refine blockS_n ?_ | refine blockS_e ?_ | refine blockS_o rfl ?_ | refine thenS_r ?_ | refine blockS_r ?_ | refine use_K (by assumption) ?_))
        | refine WS_region ?_
        | refine LS_nil ?_
        | (first | refine DL_nilA ?_ | refine DL_nilS ?_ | refine DL_nilN ?_ | refine DL_nilE ?_ | refine DL_nilR ?_)
        | (first | refine DL_claimS rfl ?_ | refine DL_claim rfl rfl ?_)
        | (refine DL_alloc iI rfl ?_; intro g)
        | ((first | refine' LQ ?h rfl ?_ | refine' DL_qp rfl rfl rfl ?h ?_ | refine' DL_q rfl rfl ?h ?_); case h => intro F'; first | exact Q_move rfl | exact Q_assign rfl | exact Q_load rfl iI iI rfl | exact Q_bin_t rfl rfl iI (by first | assumption | omega | decide) | exact Q_bin_f rfl rfl iI (by first | assumption | omega | decide) | exact Q_bin_nt rfl rfl iI (by first | assumption | omega | decide) | exact Q_bin_nf rfl rfl iI (by first | assumption | omega | decide) | exact Q_bin rfl rfl iI | exact Q_addI rfl rfl (by omega) | exact Q_subI rfl rfl (by omega) | exact Q_un rfl iI | exact Q_loadA rfl iI iI rfl | exact Q_build iI iI rfl rfl | exact Q_buildA iI iI iI rfl rfl | exact Q_len rfl iI | exact Q_lenS rfl iI | exact Q_index rfl rfl iI iI iI iI (by first | assumption | omega | (simp [be_length] <;> omega)) | exact Q_loadR rfl iI iI iI (by assumption) rfl | exact Q_loadR rfl iI iI iI rfl rfl | exact Q_loadRA rfl iI iI iI (by assumption) | exact Q_lenR rfl iI iI | exact Q_lenM rfl iI iI | exact Q_addS rfl rfl (by first | omega | (simp [be_length] <;> omega)) | exact Q_sliceS_h rfl rfl iI iI (by first | assumption | omega) | exact Q_sliceS_l rfl rfl iI iI (by first | assumption | omega) | exact Q_indexV rfl rfl iI iI iI (by first | assumption | omega) | exact Q_sliceR_h rfl rfl iI iI iI iI (by first | assumption | omega | (simp [be_length] <;> omega)) | exact Q_sliceR_l rfl rfl iI iI iI iI (by first | assumption | omega | (simp [be_length] <;> omega)) | exact Q_quoI rfl rfl (by omega) | exact Q_remI rfl rfl (by omega) | exact Q_negI rfl (by omega) | exact Q_mulI rfl rfl (by omega))
        | ((first | refine' LS_h ?h rfl ?_ | refine' DL_h ?h rfl rfl rfl ?_); (case h => first | exact H_alloc iI | exact H_buildB iI iI iI rfl rfl rfl rfl rfl iI rfl rfl | exact H_buildSlice0 iI iI | exact H_appendD rfl rfl iI iI rfl iI iI byteC_one (by first | omega | (simp [be_length] <;> omega)) rfl | exact H_appendB rfl rfl iI iI iI rfl rfl iI (by first | omega | (simp [be_length] <;> omega)) rfl | exact H_appendS rfl rfl iI rfl iI iI (by first | omega | (simp [be_length] <;> omega)) rfl); intro g)
        | ((first | refine' LS_h0 ?h ?_ | refine' DL_h0 ?h rfl rfl ?_); (case h => first | exact H_storeO rfl rfl iI iI iI rfl | exact H_storeAO rfl rfl iI iI iI rfl | exact H_store8 rfl rfl iI iI rfl iI (by first | assumption | omega | (simp [be_length] <;> omega)) | exact H_storeRA _ rfl rfl rfl iI iI iI rfl rfl (by first | assumption | omega | (simp [be_length] <;> omega)) | exact H_storeR _ rfl rfl iI iI iI rfl (by assumption) rfl | exact H_store rfl rfl iI (by first | rfl | assumption) iI rfl | exact H_storeA rfl rfl iI iI (by first | rfl | (simp only [List.all_cons, List.all_nil, *]; rfl)) rfl); intro g)
        | (first | refine WS_block ?_ | refine WS_skip ?_ | refine WS_ret ?_ | refine WS_exit ?_ | refine WS_label ?_)
        | (show WS _ _ _ (.cond _ _ _) _ _; first | refine WS_condT rfl iI ?_ | refine WS_condF rfl iI ?_ | refine WS_condH_t rfl (by assumption) ?_ | refine WS_condH_f rfl (by assumption) ?_ | (refine WS_cond rfl ?_ ?_ <;> intro hc <;> (try simp only [decide_eq_true_eq, decide_eq_false_iff_not, Bool.not_eq_eq_eq_not, Bool.not_true, Bool.not_false, Bool.and_eq_true, Bool.or_eq_true, bne_iff_ne, beq_iff_eq, ne_eq, Decidable.not_not] at hc) <;> (try (exfalso; first | contradiction | omega; done))))
        | (show WS _ _ _ (.region 6 _ true) _ _; refine WS_drawA [0, 1, 2, 3, 4, 5, 7, 8, 6, 9, 10, 11, 12] (by kernel_rfl) rfl ?_)
        | (refine DL_callQ iI rfl hn1 rfl ?_)
        | (refine DL_callQ iI rfl hn5 rfl ?_)
        | (refine LS_h (H_callX iI rfl hrec' iI) rfl ?_; intro vb)
        | (refine LS_h (H_callX iI rfl (equal_spec w0 (recOf (l.drop (13 * j))).bytes ((l.drop (13 * j)).take 13) (by omega) vb (sHead (tailN v j) 13) (rows 5 1 byteC vb (recOf (l.drop (13 * j))).bytes * X)) iI) rfl ?_; intro ue)
        | (refine LS_h (H_buildSliceR Rec.cells [⟨decide (byteAt (l.drop (13 * j)) 0 = 1), numAt (((l.drop (13 * j)).take 13).drop 1) 0, numAt (((l.drop (13 * j)).take 13).drop 5) 0⟩] iI iI iI rfl rfl rfl rfl rfl iI rfl rfl rfl) rfl ?_; intro vs)
        | (refine LS_h (H_appendR rfl rfl iI iI rfl iI iI recC_one (by first | omega | (simp [be_length] <;> omega)) rfl) rfl ?_; intro va))
      · have hrd := rd_no l js j hj (by simpa using hc)
        rw [← hrd]
        exact ret_tmp2 (.inl rfl) rfl rfl rfl ⟨u, by rw [hrd], by rw [hrd]; ((try simp only [star_assoc, emp_star, star_emp]); (repeat' (first | exact Ent.last | refine Ent.take ?_ | refine Ent.nilT ?_ | refine Ent.takeR (by first | rfl | assumption | (simp; done)) ?_ | exact Ent.refl _)))⟩
      · have hrd := rd_go l js j hj h13 (by simpa using hc)
        refine ⟨m - 1, _, by omega, ⟨j + 1, va, js ++ [recOf (l.drop (13 * j))], by omega, by simp [hjs], hrd, rfl⟩, ⟨rfl, rfl, trivial⟩, rfl, ?_⟩
        rw [← hr]
        ((try simp only [star_assoc, emp_star, star_emp]); (repeat' (first | exact Ent.last | refine Ent.take ?_ | refine Ent.nilT ?_ | refine Ent.takeR (by first | rfl | assumption | (simp; done)) ?_ | exact Ent.refl _)))
    · have hsh : ¬ 13 * j + 13 ≤ l.length := by omega
      have hrd := rd_short l js j hj hsh
      repeat' (first
        | (refine WS_seqK ?_; intro K hK)
        | (refine hK _ ?_; clear hK K)
        | (with_reducible (first | refine thenS_n ?_ | refine thenS_e ?_ | refine blockS_n ?_ | refine blockS_e ?_ | refine blockS_o rfl ?_ | refine thenS_r ?_ | refine blockS_r ?_ | refine use_K (by assumption) ?_))
        | refine WS_region ?_
        | refine LS_nil ?_
        | (first | refine DL_nilA ?_ | refine DL_nilS ?_ | refine DL_nilN ?_ | refine DL_nilE ?_ | refine DL_nilR ?_)
        | (first | refine DL_claimS rfl ?_ | refine DL_claim rfl rfl ?_)
        | (refine DL_alloc iI rfl ?_; intro g)
        | ((first | refine' LQ ?h rfl ?_ | refine' DL_qp rfl rfl rfl ?h ?_ | refine' DL_q rfl rfl ?h ?_); case h => intro F'; first | exact Q_move rfl | exact Q_assign rfl | exact Q_load rfl iI iI rfl | exact Q_bin_t rfl rfl iI (by first | assumption | omega | decide) | exact Q_bin_f rfl rfl iI (by first | assumption | omega | decide) | exact Q_bin_nt rfl rfl iI (by first | assumption | omega | decide) | exact Q_bin_nf rfl rfl iI (by first | assumption | omega | decide) | exact Q_addI rfl rfl (by omega) | exact Q_subI rfl rfl (by omega) | exact Q_un rfl iI | exact Q_loadA rfl iI iI rfl | exact Q_build iI iI rfl rfl | exact Q_buildA iI iI iI rfl rfl | exact Q_len rfl iI | exact Q_lenS rfl iI | exact Q_index rfl rfl iI iI iI iI (by first | assumption | omega | (simp [be_length] <;> omega)) | exact Q_loadR rfl iI iI iI (by assumption) rfl | exact Q_loadR rfl iI iI iI rfl rfl | exact Q_loadRA rfl iI iI iI (by assumption) | exact Q_lenR rfl iI iI | exact Q_lenM rfl iI iI | exact Q_addS rfl rfl (by first | omega | (simp [be_length] <;> omega)) | exact Q_sliceS_h rfl rfl iI iI (by first | assumption | omega) | exact Q_sliceS_l rfl rfl iI iI (by first | assumption | omega) | exact Q_indexV rfl rfl iI iI iI (by first | assumption | omega) | exact Q_sliceR_h rfl rfl iI iI iI iI (by first | assumption | omega | (simp [be_length] <;> omega)) | exact Q_sliceR_l rfl rfl iI iI iI iI (by first | assumption | omega | (simp [be_length] <;> omega)) | exact Q_quoI rfl rfl (by omega) | exact Q_remI rfl rfl (by omega) | exact Q_negI rfl (by omega) | exact Q_mulI rfl rfl (by omega))
        | ((first | refine LS_binS rfl rfl iI rfl ?_ ?_ | refine LS_binN rfl rfl iI rfl ?_ ?_ | refine DL_binS rfl rfl iI rfl ?_ ?_) <;> intro hc)
        | ((first | refine' LQ ?h rfl ?_ | refine' DL_qp rfl rfl rfl ?h ?_ | refine' DL_q rfl rfl ?h ?_); case h => intro F'; first | exact Q_bin rfl rfl iI)
        | ((first | refine' LS_h ?h rfl ?_ | refine' DL_h ?h rfl rfl rfl ?_); (case h => first | exact H_alloc iI | exact H_buildB iI iI iI rfl rfl rfl rfl rfl iI rfl rfl | exact H_buildSlice iI iI iI rfl rfl rfl rfl rfl | exact H_buildSlice0 iI iI | exact H_appendD rfl rfl iI iI rfl iI iI byteC_one (by first | omega | (simp [be_length] <;> omega)) rfl | exact H_appendB rfl rfl iI iI iI rfl rfl iI (by first | omega | (simp [be_length] <;> omega)) rfl | exact H_appendS rfl rfl iI rfl iI iI (by first | omega | (simp [be_length] <;> omega)) rfl); intro g)
        | ((first | refine' LS_h0 ?h ?_ | refine' DL_h0 ?h rfl rfl ?_); (case h => first | exact H_storeO rfl rfl iI iI iI rfl | exact H_storeAO rfl rfl iI iI iI rfl | exact H_store8 rfl rfl iI iI rfl iI (by first | assumption | omega | (simp [be_length] <;> omega)) | exact H_storeRA _ rfl rfl rfl iI iI iI rfl rfl (by first | assumption | omega | (simp [be_length] <;> omega)) | exact H_storeR _ rfl rfl iI iI iI rfl (by assumption) rfl | exact H_store rfl rfl iI (by first | rfl | assumption) iI rfl | exact H_storeA rfl rfl iI iI (by first | rfl | (simp only [List.all_cons, List.all_nil, *]; rfl)) rfl); intro g)
        | (first | refine WS_block ?_ | refine WS_skip ?_ | refine WS_ret ?_ | refine WS_exit ?_ | refine WS_label ?_)
        | (show WS _ _ _ (.cond _ _ _) _ _; first | refine WS_condT rfl iI ?_ | refine WS_condF rfl iI ?_ | refine WS_condH_t rfl (by assumption) ?_ | refine WS_condH_f rfl (by assumption) ?_ | (refine WS_cond rfl ?_ ?_ <;> intro hc <;> (try simp only [decide_eq_true_eq, decide_eq_false_iff_not, Bool.not_eq_eq_eq_not, Bool.not_true, Bool.not_false, Bool.and_eq_true, Bool.or_eq_true, bne_iff_ne, beq_iff_eq, ne_eq, Decidable.not_not] at hc) <;> (try (exfalso; first | contradiction | omega; done))))
        | refine WS_drawS (by kernel_rfl) ?_)
      subst hjs
      rw [hrd]
      exact ret_tmp2 (.inl rfl) rfl rfl rfl ⟨u, rfl, by ((try simp only [star_assoc, emp_star, star_emp]); (repeat' (first | exact Ent.last | refine Ent.take ?_ | refine Ent.nilT ?_ | refine Ent.takeR (by first | rfl | assumption | (simp; done)) ?_ | exact Ent.refl _)))⟩
theorem snocInd {α : Type} {p : List α → Prop} (l : List α) (nil : p []) (snoc : ∀ l x, p l → p (l ++ [x])) : p l := by
  suffices h : ∀ m : List α, p m.reverse by simpa using h l.reverse
  intro m
  induction m with
  | nil => exact nil
  | cons x m ih => rw [List.reverse_cons]; exact snoc _ _ ih
theorem putR_length (l : List Rec) (r : Rec) : (putR l r).length ≤ l.length + 1 := by
  induction l with
  | nil => simp [putR]
  | cons x l ih =>
    rw [putR]
    split
    · simp
    · split
      · simp
      · simp; omega
theorem compR_length (l : List Rec) : (compR l).length ≤ l.length := by
  induction l using snocInd with
  | nil => simp [compR]
  | snoc l r ih => rw [compR_snoc]; have := putR_length (compR l) r.norm; simp; omega
end Go.Proofs.YtapoehkdnglahabGreat

/- Records and requests as keys of maps. -/
namespace Go.Proofs.YtapoehkdnglahabGreat
open Go.RowKit
set_option linter.unusedVariables false
set_option linter.unusedSimpArgs false
theorem find_ask {P : Program} {κ ν : Type} [DecidableEq κ] {fk : κ → Value} {fv : ν → Value} {kt : TypeId} (heq : ∀ a b w, (Op.equal kt (fk a) (fk b)).run P w = .ok (decide (a = b)) w) (k : κ) (w : World) : ∀ (m : List (κ × ν)) (es : List MapEntry) (i : Nat), es.map (fun e => (e.key, e.val)) = m.map (fun p => (fk p.1, fv p.2)) →
    (Instr.findAsking kt (fk k) es i).run P w = .ok ((mfind m k).bind fun j => (m[j]?).map fun p => (i + j, fv p.2)) w
  | [], es, i, h => by
    have : es = [] := by simpa using h
    subst this; rfl
  | p :: m, [], i, h => by simp at h
  | p :: m, e :: es, i, h => by
    simp only [List.map_cons, List.cons.injEq, Prod.mk.injEq] at h
    obtain ⟨⟨h1, h2⟩, h3⟩ := h
    have ih := find_ask heq k w m es (i + 1) h3
    simp only [Instr.findAsking, h1, Sem.run_bind, heq, Result.andThen_ok]
    by_cases he : k = p.1
    · subst he
      simp [mfind, h2]
    · rw [decide_eq_false he]
      simp only [Bool.false_eq_true, if_false, ih, mfind, Ne.symm he]
      cases mfind m k with
      | none => rfl
      | some j => simp [Nat.add_assoc, Nat.add_comm 1 j]
theorem keyT_agg {P : Program} {κ : Type} {fk : κ → Value} {kt : TypeId} {fs : Array Field} (hu : P.underlying kt = some (.struct fs)) (heq : ∀ (d : DecidableEq κ) a b w, (Op.equal kt (fk a) (fk b)).run P w = .ok (decide (a = b)) w)
    (hc : ∀ (empty : Bool) (k : κ) (w : World), (Instr.checkKey empty 10000 kt (fk k)).run P w = .ok () w) (hs : ∀ k : κ, Instr.sameBits 10000 (fk k) (fk k) = true) : KeyT P kt fk where
  check := hc
  same := hs
  find := fun {_} {ν} fv m k es w h => by
    have := find_ask (fk := fk) (fv := fv) (heq inferInstance) k w m es 0 h
    cases es with
    | nil =>
      have hm : m = [] := by simpa using h.symm
      subst hm
      simp [Instr.findKey, run_underlying hu, Instr.findNow, mfind]
    | cons e es =>
      simp only [Instr.findKey, Sem.run_bind, run_underlying hu, Result.andThen_ok]
      have e0 : Instr.findNow (.struct fs) (fk k) (e :: es) 0 = none := by simp [Instr.findNow, Instr.sameNow]
      rw [e0]
      simp only [this, Nat.zero_add]
theorem check_b (empty : Bool) (n : Nat) (o : Bool) (w : World) : (Instr.checkKey empty (n + 1) 4 (.bool o)).run Tryz.prog w = .ok () w := by
  have u1 := Tryz.underlying4
  unfold Instr.checkKey
  go_simp
theorem check_u (empty : Bool) (n : Nat) (x : Int) (w : World) : (Instr.checkKey empty (n + 1) 26 (.int .u32 x)).run Tryz.prog w = .ok () w := by
  have u1 := Tryz.underlying26
  unfold Instr.checkKey
  go_simp
theorem rec_check (empty : Bool) (o : Bool) (x y : Int) (w : World) : (Instr.checkKey empty 10000 28 (.agg #[.bool o, .int .u32 x, .int .u32 y])).run Tryz.prog w = .ok () w := by
  have u4 := Tryz.underlying26
  have u1 := Tryz.underlying4
  have hS := Tryz.underlying28
  have c1 := check_b empty 9998 o
  have c2 := check_u empty 9998
  rw [show (10000 : Nat) = 9999 + 1 from rfl]
  unfold Instr.checkKey
  go_simp
theorem rec_eql (o o' : Bool) (x y x' y' : Int) (w : World) :
    (Op.equal 28 (.agg #[.bool o, .int .u32 x, .int .u32 y]) (.agg #[.bool o', .int .u32 x', .int .u32 y'])).run Tryz.prog w = .ok (o == o' && (x == x' && y == y')) w := by
  have u4 := Tryz.underlying26
  have u1 := Tryz.underlying4
  have hS : Tryz.prog.underlying 28 = some (.struct (Tryz.prog.fieldsOf 28)) := by kernel_rfl
  have hp : Tryz.prog.stoodInHeld 28 = false := by kernel_rfl
  rw [show Op.equal 28 = Op.equalIn (9999 + 1) 28 from rfl, run_equalIn_agg w 9999 28 _ _ hS hp]
  simp only [Program.fieldsOf, Tryz.underlying28]
  by_cases h0 : o = o' <;> by_cases h1 : x = x' <;> by_cases h2 : y = y' <;> go_simp
@[reducible] def keyV (r : Rec) : Value := .agg r.cells.toArray
instance : KeyT Tryz.prog 28 keyV := keyT_agg (fs := Tryz.prog.fieldsOf 28) (by kernel_rfl) (fun _ a b w => by
    have h := rec_eql a.own b.own (a.addr.toNat : Int) (a.seq.toNat : Int) (b.addr.toNat : Int) (b.seq.toNat : Int) w
    have e : (a.own == b.own && (((a.addr.toNat : Int) == (b.addr.toNat : Int)) && ((a.seq.toNat : Int) == (b.seq.toNat : Int)))) = decide (a = b) := by
      rw [Bool.eq_iff_iff]
      simp only [Bool.and_eq_true, beq_iff_eq, decide_eq_true_eq]
      constructor
      · intro ⟨h0, h1, h2⟩
        have e1 : a.addr = b.addr := UInt32.toNat_inj.1 (by omega)
        have e2 : a.seq = b.seq := UInt32.toNat_inj.1 (by omega)
        cases a; cases b; simp_all
      · rintro rfl; exact ⟨rfl, rfl, rfl⟩
    rw [e] at h
    exact h) (fun empty k w => rec_check empty k.own _ _ w) (fun k => by
    show Instr.sameBits (9999 + 1) (.agg #[.bool k.own, u32 k.addr, u32 k.seq]) (.agg #[.bool k.own, u32 k.addr, u32 k.seq]) = true
    simp [Instr.sameBits, u32])
instance (o : Bool) (v1 v2 : Value) (a b : UInt32) [h1 : AsU32 v1 a] [h2 : AsU32 v2 b] : AsKey keyV (.agg #[.bool o, v1, v2]) ⟨o, a, b⟩ := ⟨by rw [h1.eq, h2.eq]; rfl⟩
instance (k : Rec) : AsKey keyV (.agg k.cells.toArray) k := ⟨rfl⟩
end Go.Proofs.YtapoehkdnglahabGreat

/- The comparison of records that Compact sorts by, walked in whatever world; slices.SortFunc as a contract over rows. -/
namespace Go.Proofs.YtapoehkdnglahabGreat
open Go.RowKit Go.Shelf
open Go.Sort (flatK HoldsK get_flatK)
set_option linter.unusedVariables false
set_option linter.unusedSimpArgs false
set_option maxRecDepth 100000
theorem nan_exI (x : Int) (W : World) : Calls Tryz.prog 204 #[.int .u32 x] W fun e w' => e = .returned (.bool false) ∧ w' = W := by
  go_enter Tryz.func204, Tryz.ntmps204
  go_wp2_with fail
  go_ret
  simp
def cmpI (x y : Int) : Int := if x < y then -1 else if y < x then 1 else 0
theorem cmp_exI (x y : Int) (W : World) : Calls Tryz.prog 159 #[.int .u32 x, .int .u32 y] W fun e w' => e = .returned (.int .i64 (cmpI x y)) ∧ w' = W := by
  have hn := nan_exI
  go_enter Tryz.func159, Tryz.ntmps159
  go_wp2_with (go_at_call 204; refine (hn _ _).mono ?_; rintro e w' ⟨rfl, rfl⟩)
  all_goals go_ret
  all_goals first | omega | (simp_all [cmpI]; done) | (simp_all [cmpI]; omega)
theorem cmpI_A (a b : UInt32) : cmpI (a.toNat : Int) (b.toNat : Int) = cmpA a b := by
  unfold cmpI cmpA
  simp only [UInt32.lt_iff_toNat_lt, Int.ofNat_lt]
theorem clos_ex (o1 o2 : Bool) (x y s1 s2 : Int) (W : World) : Calls Tryz.prog 158 #[.agg #[.bool o1, .int .u32 x, .int .u32 s1], .agg #[.bool o2, .int .u32 y, .int .u32 s2]] W fun e w' => e = .returned (.int .i64 (if o1 != o2 then (if o1 then -1 else 1) else cmpI x y)) ∧ ∃ q os', w' = Go.Sort.grow (W.drewN q) os' := by
  have hcon := fun W' => cmp_exI x y W'
  generalize cmpI x y = r at hcon ⊢
  go_enter Tryz.func158, Tryz.ntmps158
  go_wp2_with (go_at_call 159; refine (hcon _).mono ?_; rintro e w' ⟨rfl, rfl⟩)
  all_goals try go_ret
  all_goals (refine ⟨?_, 0, _, by rw [Go.Sort.alloc_eq_grow, Go.Sort.alloc_eq_grow, Go.Sort.grow_grow]; rfl⟩)
  all_goals (show Ending.returned (Value.int _ _) = _; clear hcon; cases o1 <;> cases o2 <;> first | rfl | contradiction)
theorem clos_rec (a b : Rec) (W : World) : Calls Tryz.prog 158 (#[.agg a.cells.toArray, .agg b.cells.toArray] ++ #[]) W fun e w' => e = .returned (.int .i64 (cmpRec a b)) ∧ ∃ q os', w' = Go.Sort.grow (W.drewN q) os' := by
  have h := clos_ex a.own b.own a.addr.toNat b.addr.toNat a.seq.toNat b.seq.toNat W
  rw [cmpI_A] at h
  exact h
instance : Inhabited Rec := ⟨⟨false, 0, 0⟩⟩
theorem flatK_get (l : List Rec) (j : Nat) (h : j < l.length * 3) : (flatK Rec.cells 3 l.toArray)[j]! = (l.flatMap Rec.cells)[j]'(by rw [flatMap_length Rec.cells 3 (fun _ => rfl)]; exact h) := by
  have hq : j / 3 < l.length := by omega
  rw [get_flatK _ _ _ _ (by simpa using h)]
  have h2 := flatMap_at Rec.cells 3 (fun _ => rfl) l (j / 3) (j % 3) l[j / 3] (by simp [hq]) (by omega)
  rw [show j / 3 * 3 + j % 3 = j by omega] at h2
  have h3 := List.getElem?_eq_getElem (l := l.flatMap Rec.cells) (i := j) (by rw [flatMap_length Rec.cells 3 (fun _ => rfl)]; exact h)
  rw [h3] at h2
  have h4 : l.toArray[j / 3]! = l[j / 3] := by simp [hq]
  rw [h4]
  have h5 : j % 3 < (Rec.cells l[j / 3]).length := by show j % 3 < 3; omega
  rw [List.getElem?_eq_getElem h5] at h2
  rw [getElem!_pos (Rec.cells l[j / 3]) (j % 3) h5]
  exact (Option.some.inj h2).symm
/-- The row laid anew, draws, blocks behind. -/
theorem Sat.sortK {w0 w : World} {e : TypeId} {g off cap : Nat} {l l' : List Rec} {F : HProp} (n : Nat) (os : Array Obj) (hs : Sat w0 w (rows e 3 Rec.cells (.slice (some ⟨g, off, none⟩) l.length cap) l * F)) (hn : 0 < l.length) (hl : l'.length = l.length) :
    Sat w0 (sortWorldK Rec.cells 3 w g off n l'.toArray os) (rows e 3 Rec.cells (.slice (some ⟨g, off, none⟩) l.length cap) l' * F) := by
  obtain ⟨hx, ⟨A, hv, h0, _⟩ | ⟨g', off', cap', cur, fr, hv, hle, hm, hc, ht, hf, hp⟩⟩ := hs.slc_cases
  · omega
  injection hv with e1 _ e3
  injection e1 with e1
  injection e1 with e1 e2
  subst e1; subst e2; subst e3
  have hg := hp.at_
  let cur' : Array Value := Go.Sort.putCells id off (flatK Rec.cells 3 l'.toArray) cur
  have hsz : cur'.size = cur.size := by simp [cur', Go.Sort.putCells]
  have hlt : g < w.heap.size := hp.lt
  have hp2 : Sat w0 (sortWorldK Rec.cells 3 w g off n l'.toArray os) (pts g (.cells cur' e fr) * F) := by
    refine Sat.put hp rfl rfl rfl ?_ fun k hk hne => ?_
    · show ((w.heap.modify g _) ++ os)[g]? = _
      rw [Array.getElem?_append_left (by simpa using hlt), Array.getElem?_modify, if_pos rfl, hg]
      rfl
    · show ((w.heap.modify g _) ++ os)[k]? = _
      rw [Array.getElem?_append_left (by simpa using hk), Array.getElem?_modify, if_neg (Ne.symm hne)]
  unfold rows
  rw [hl]
  refine Sat.slc_mk e 3 l.length g off cap cur' fr _ hp2 ?_ hle hm (by rw [hsz]; exact hc) ?_ hf
  · rw [flatMap_length Rec.cells 3 (fun _ => rfl), hl]
  · have hle3 : l.length * 3 ≤ cap * 3 := Nat.mul_le_mul_right _ hle
    apply List.ext_getElem?
    intro j
    rw [List.getElem?_take]
    by_cases hj : j < l.length * 3
    · rw [if_pos hj, List.getElem?_drop, Array.getElem?_toList]
      have hin : off + j < cur.size := by omega
      have hj' : j < l'.length * 3 := by rw [hl]; exact hj
      have h1 : cur'[off + j]? = some ((flatK Rec.cells 3 l'.toArray)[j]!) := by
        simp only [cur', Go.Sort.putCells, Array.getElem?_mapIdx]
        rw [Array.getElem?_eq_getElem hin]
        simp only [Option.map_some, id]
        rw [if_pos ⟨by omega, by simp; omega⟩, Nat.add_sub_cancel_left]
      rw [h1, flatK_get l' j hj', ← List.getElem?_eq_getElem]
    · rw [if_neg hj]
      symm
      apply List.getElem?_eq_none
      rw [flatMap_length Rec.cells 3 (fun _ => rfl), hl]; omega
theorem perm_all {l : List Rec} {d' : Array Rec} (h : Go.Sort.PermIn 0 l.toArray.size l.toArray d') : d'.toList.Perm l := by
  obtain ⟨h1, _, h3⟩ := h
  have e1 : d'.extract 0 l.toArray.size = d' := by rw [← h1]; simp
  have e2 : l.toArray.extract 0 l.toArray.size = l.toArray := by simp
  rw [e1, e2] at h3
  simpa using h3
theorem sorted_all {l : List Rec} {d' : Array Rec} (hz : d'.size = l.length) (h : Go.Sort.SortedIn (Go.Proofs.ltOf cmpRec) 0 l.toArray.size d') : d'.toList.Pairwise (fun a b => b.lt a = false) := by
  rw [List.pairwise_iff_getElem]
  intro i j hi hj hij
  have := h i j (Nat.zero_le _) hij (by simp at hj ⊢; omega)
  rw [cmpRec_lt] at this
  simp only [Array.length_toList] at hi hj
  rw [getElem!_pos d' i hi, getElem!_pos d' j hj] at this
  simpa using this
structure SortedR (l : List Rec) where
  l' : List Rec
  perm : l'.Perm l
  rise : l'.Pairwise (fun a b => b.lt a = false)
theorem sortF_spec (w0 : World) (v : Value) (l : List Rec) (hl : l.length ≤ 1000000) : Spec Tryz.prog w0 202 [v, .func (.func 158) #[] #[]] (rows 28 3 Rec.cells v l) (fun _ : SortedR l => .tuple #[]) (fun s => rows 28 3 Rec.cells v s.l') := by
  intro G w hs
  rcases Nat.eq_zero_or_pos l.length with h0 | hpos
  · obtain rfl := List.eq_nil_of_length_eq_zero h0
    obtain ⟨A, c, rfl⟩ := rows_form hs
    have := AnyF.slices_SortFunc_none sortLays A c (.func (.func 158) #[] #[]) w
    refine Calls.mono (this) ?_
    rintro e w' ⟨rfl, rfl⟩
    exact ⟨⟨[], .refl _, .nil⟩, rfl, hs⟩
  · have hne : l.flatMap Rec.cells ≠ [] := by
      intro e0
      have := flatMap_length Rec.cells 3 (fun _ => rfl) l
      rw [e0] at this
      simp at this; omega
    obtain ⟨g, off, cap, rfl, hle, hm, hc⟩ := Sat.slc_cell hs hne
    have hH : HoldsK Rec.cells 3 w g off l.toArray := by
      intro j hj
      have hj' : j < l.length * 3 := by simpa using hj
      have := hc j ((l.flatMap Rec.cells)[j]'(by rw [flatMap_length Rec.cells 3 (fun _ => rfl)]; exact hj')) (List.getElem?_eq_getElem _)
      rw [flatK_get l j hj']
      exact this
    have hblk : g < w.heap.size := by
      have := (hc 0 ((l.flatMap Rec.cells)[0]'(List.length_pos_iff.2 hne)) (List.getElem?_eq_getElem _)).1
      unfold World.cell? at this
      rcases Nat.lt_or_ge g w.heap.size with hlt | hge
      · exact hlt
      · simp [Array.getElem?_eq_none hge] at this
    have eg : ∀ args w, (callFunc 158 args).run Tryz.prog w = .ok (.enter 158 args) w := enters_of Tryz.func158 (by kernel_rfl) rfl
    have hcon := AnyQ.slices_SortFunc sortLays 3 Tryz.isAgg28 Tryz.sizeOf28 Rec.cells (fun _ => rfl) (fun z v hv => by simp [Rec.cells] at hv; rcases hv with rfl | rfl | rfl <;> rfl) cmpRec swo_rec 158 #[] g off cap l.toArray w eg (fun _ _ _ _ x y => clos_rec x y _) hH hblk (by simp; omega)
    refine Calls.mono (hcon) ?_
    rintro e w' ⟨rfl, d', n, os, hp, hso, rfl⟩
    have hz : d'.size = l.length := by simpa using hp.1
    refine ⟨⟨d'.toList, perm_all hp, sorted_all hz hso⟩, rfl, ?_⟩
    exact Sat.sortK n os hs hpos (by simpa using hz)
end Go.Proofs.YtapoehkdnglahabGreat

/- maps.Keys of a map from records, slices.Collect and slices.SortedFunc over it, wire.Compact, by a walk. -/
namespace Go.Proofs.YtapoehkdnglahabGreat
open Go.RowKit
set_option linter.unusedVariables false
set_option linter.unusedSimpArgs false
attribute [local irreducible] WS LS OpQ OpT OpH OpTQ Spec SpecQ cel
variable (w0 : World)
set_option maxRecDepth 100000 in
set_option maxHeartbeats 4000000 in
theorem keysR_iter (m : List (Rec × UInt32)) (r gm : Nat) : IterS Tryz.prog w0 203 [ptr gm 0] (cel gm 252 [.map (some r)] * mp keyV u32 r m) (fun k => [keyV k]) (fun xs => xs.Perm (m.map (·.1))) := by
  intro l J Jx hY
  refine Spec.enter Tryz.func203 rfl Tryz.ntmps203 rfl fun G => ?_
  simp only [argE]
  repeat' (first
    | (refine WS_seqK ?_; intro K hK)
    | (refine hK _ ?_; clear hK K)
    | (with_reducible (first | refine thenS_n ?_ | refine thenS_e ?_ | refine blockS_n ?_ | refine blockS_e ?_ | refine blockS_o rfl ?_ | refine thenS_r ?_ | refine blockS_r ?_ | refine use_K (by assumption) ?_))
    | refine WS_region ?_
    | refine LS_nil ?_
    | ((refine' LQ ?h rfl ?_); case h => intro F'; first | exact Q_move rfl | exact Q_load rfl iI iI rfl | exact Q_extract rfl rfl | exact Q_un rfl iI | exact Q_loadA rfl iI iI rfl | exact Q_loadR rfl iI iI iI (by assumption) rfl | exact Q_loadR rfl iI iI iI rfl rfl | exact Q_loadRA rfl iI iI iI (by assumption) | exact Q_negI rfl (by omega))
    | ((refine' LS_h ?h rfl ?_); (case h => first | exact H_alloc iI); intro g)
    | ((refine' LS_h0 ?h ?_); (case h => first | exact H_storeO rfl rfl iI iI iI rfl | exact H_storeAO rfl rfl iI iI iI rfl | exact H_store8 rfl rfl iI iI rfl iI (by first | assumption | omega | (simp [be_length] <;> omega)) | exact H_storeRA _ rfl rfl rfl iI iI iI rfl rfl (by first | assumption | omega | (simp [be_length] <;> omega)) | exact H_storeR _ rfl rfl iI iI iI rfl (by assumption) rfl | exact H_store rfl rfl iI (by first | rfl | assumption) iI rfl | exact H_storeA rfl rfl iI iI (by first | rfl | (simp only [List.all_cons, List.all_nil, *]; rfl)) rfl); intro g)
    | (first | refine WS_block ?_ | refine WS_skip ?_ | refine WS_ret ?_ | refine WS_exit ?_ | refine WS_label ?_)
    | (show WS _ _ _ (.cond _ _ _) _ _; first | refine WS_condT rfl iI ?_ | refine WS_condF rfl iI ?_ | refine WS_condH_t rfl (by assumption) ?_ | refine WS_condH_f rfl (by assumption) ?_ | (refine WS_cond rfl ?_ ?_ <;> intro hc <;> (try simp only [decide_eq_true_eq, decide_eq_false_iff_not, Bool.not_eq_eq_eq_not, Bool.not_true, Bool.not_false, Bool.and_eq_true, Bool.or_eq_true, bne_iff_ne, beq_iff_eq, ne_eq, Decidable.not_not] at hc) <;> (try (exfalso; first | contradiction | omega; done))))
    | (refine LS_h (H_range rfl iI iI) rfl ?_; intro it))
  refine WS_loop (fun k τ => ∃ (pre : List Rec) (left : List (Rec × UInt32)) (cur : Option (Rec × UInt32)), left.length = k ∧ (pre ++ left.map (·.1)).Perm (m.map (·.1)) ∧ τ = ⟨[(5, ptr it 0), (0, yieldV l)], [], mpi keyV u32 r it m left cur * (J pre * (cel gm 252 [.map (some r)] * G))⟩) ?_ ?_
  · exact ⟨m.length, _, ⟨[], m, none, rfl, .refl _, rfl⟩, ⟨rfl, rfl, trivial⟩, rfl, by ((try simp only [star_assoc, emp_star, star_emp]); (repeat' (first | exact Ent.last | refine Ent.take ?_ | refine Ent.nilT ?_ | refine Ent.takeR (by first | rfl | assumption | (simp; done)) ?_ | exact Ent.refl _)))⟩
  · rintro k τ ⟨pre, left, cur, hk, hp, rfl⟩
    repeat' (first
      | (refine WS_seqK ?_; intro K hK)
      | (refine hK _ ?_; clear hK K)
      | (with_reducible (first | refine thenS_n ?_ | refine thenS_e ?_ | refine blockS_n ?_ | refine blockS_e ?_ | refine blockS_o rfl ?_ | refine thenS_r ?_ | refine blockS_r ?_ | refine use_K (by assumption) ?_))
      | refine WS_region ?_
      | refine LS_nil ?_
      | ((refine' LQ ?h rfl ?_); case h => intro F'; first | exact Q_move rfl | exact Q_load rfl iI iI rfl | exact Q_extract rfl rfl | exact Q_un rfl iI | exact Q_loadA rfl iI iI rfl | exact Q_loadR rfl iI iI iI (by assumption) rfl | exact Q_loadR rfl iI iI iI rfl rfl | exact Q_loadRA rfl iI iI iI (by assumption) | exact Q_negI rfl (by omega))
      | ((refine' LS_h ?h rfl ?_); (case h => first | exact H_alloc iI); intro g)
      | ((refine' LS_h0 ?h ?_); (case h => first | exact H_storeO rfl rfl iI iI iI rfl | exact H_storeAO rfl rfl iI iI iI rfl | exact H_store8 rfl rfl iI iI rfl iI (by first | assumption | omega | (simp [be_length] <;> omega)) | exact H_storeRA _ rfl rfl rfl iI iI iI rfl rfl (by first | assumption | omega | (simp [be_length] <;> omega)) | exact H_storeR _ rfl rfl iI iI iI rfl (by assumption) rfl | exact H_store rfl rfl iI (by first | rfl | assumption) iI rfl | exact H_storeA rfl rfl iI iI (by first | rfl | (simp only [List.all_cons, List.all_nil, *]; rfl)) rfl); intro g)
      | (first | refine WS_block ?_ | refine WS_skip ?_ | refine WS_ret ?_ | refine WS_exit ?_ | refine WS_label ?_)
      | (show WS _ _ _ (.cond _ _ _) _ _; first | refine WS_condT rfl iI ?_ | refine WS_condF rfl iI ?_ | refine WS_condH_t rfl (by assumption) ?_ | refine WS_condH_f rfl (by assumption) ?_ | (refine WS_cond rfl ?_ ?_ <;> intro hc <;> (try simp only [decide_eq_true_eq, decide_eq_false_iff_not, Bool.not_eq_eq_eq_not, Bool.not_true, Bool.not_false, Bool.and_eq_true, Bool.or_eq_true, bne_iff_ne, beq_iff_eq, ne_eq, Decidable.not_not] at hc) <;> (try (exfalso; first | contradiction | omega; done))))
      | (refine LS_h (H_next rfl iI) rfl ?_; rintro ⟨_
      | ⟨i, z, u⟩, ho⟩ <;> simp only [NextR.val, NextR.rest, NextR.now])
      | (refine LS_q (Q_entry rfl iI) rfl ?_))
    · obtain rfl : left = [] := ho
      refine ret_none (.inr rfl) rfl ⟨(pre, true), rfl, ?_⟩
      rw [List.map_nil, List.append_nil] at hp
      show Ent _ ((pure' _ * (_ * _)) * G)
      refine Ent.trans Ent.mpi_mp ?_
      rw [star_assoc]
      refine Ent.pureI hp ?_
      ((try simp only [star_assoc, emp_star, star_emp]); (repeat' (first | exact Ent.last | refine Ent.take ?_ | refine Ent.nilT ?_ | refine Ent.takeR (by first | rfl | assumption | (simp; done)) ?_ | exact Ent.refl _)))
    · refine LS_i (I_yield rfl rfl rfl (hY pre z ⟨pre ++ [z] ++ (left.eraseIdx i).map (·.1), perm_next hp ho, ⟨_, rfl⟩⟩)) inferInstance rfl ?_
      intro b
      cases b
      all_goals simp only [cond_true, cond_false]
      · repeat' (first
          | (refine WS_seqK ?_; intro K hK)
          | (refine hK _ ?_; clear hK K)
          | (with_reducible (first | refine thenS_n ?_ | refine thenS_e ?_ | refine blockS_n ?_ | refine blockS_e ?_ | refine blockS_o rfl ?_ | refine thenS_r ?_ | refine blockS_r ?_ | refine use_K (by assumption) ?_))
          | refine WS_region ?_
          | refine LS_nil ?_
          | ((refine' LQ ?h rfl ?_); case h => intro F'; first | exact Q_move rfl | exact Q_load rfl iI iI rfl | exact Q_extract rfl rfl | exact Q_un rfl iI | exact Q_loadA rfl iI iI rfl | exact Q_loadR rfl iI iI iI (by assumption) rfl | exact Q_loadR rfl iI iI iI rfl rfl | exact Q_loadRA rfl iI iI iI (by assumption) | exact Q_negI rfl (by omega))
          | ((refine' LS_h ?h rfl ?_); (case h => first | exact H_alloc iI); intro g)
          | ((refine' LS_h0 ?h ?_); (case h => first | exact H_storeO rfl rfl iI iI iI rfl | exact H_storeAO rfl rfl iI iI iI rfl | exact H_store8 rfl rfl iI iI rfl iI (by first | assumption | omega | (simp [be_length] <;> omega)) | exact H_storeRA _ rfl rfl rfl iI iI iI rfl rfl (by first | assumption | omega | (simp [be_length] <;> omega)) | exact H_storeR _ rfl rfl iI iI iI rfl (by assumption) rfl | exact H_store rfl rfl iI (by first | rfl | assumption) iI rfl | exact H_storeA rfl rfl iI iI (by first | rfl | (simp only [List.all_cons, List.all_nil, *]; rfl)) rfl); intro g)
          | (first | refine WS_block ?_ | refine WS_skip ?_ | refine WS_ret ?_ | refine WS_exit ?_ | refine WS_label ?_)
          | (show WS _ _ _ (.cond _ _ _) _ _; first | refine WS_condT rfl iI ?_ | refine WS_condF rfl iI ?_ | refine WS_condH_t rfl (by assumption) ?_ | refine WS_condH_f rfl (by assumption) ?_ | (refine WS_cond rfl ?_ ?_ <;> intro hc <;> (try simp only [decide_eq_true_eq, decide_eq_false_iff_not, Bool.not_eq_eq_eq_not, Bool.not_true, Bool.not_false, Bool.and_eq_true, Bool.or_eq_true, bne_iff_ne, beq_iff_eq, ne_eq, Decidable.not_not] at hc) <;> (try (exfalso; first | contradiction | omega; done)))))
        refine ret_none (.inl rfl) rfl ⟨(pre ++ [z], false), rfl, ?_⟩
        show Ent _ ((_ * _) * G)
        exact Ent.trans (F := mpi keyV u32 r it m (left.eraseIdx i) (some (z, u)) * (Jx (pre ++ [z]) * (cel gm 252 [.map (some r)] * G))) (by ((try simp only [star_assoc, emp_star, star_emp]); (repeat' (first | exact Ent.last | refine Ent.take ?_ | refine Ent.nilT ?_ | refine Ent.takeR (by first | rfl | assumption | (simp; done)) ?_ | exact Ent.refl _)))) (Ent.trans Ent.mpi_mp (by ((try simp only [star_assoc, emp_star, star_emp]); (repeat' (first | exact Ent.last | refine Ent.take ?_ | refine Ent.nilT ?_ | refine Ent.takeR (by first | rfl | assumption | (simp; done)) ?_ | exact Ent.refl _)))))
      · repeat' (first
          | (refine WS_seqK ?_; intro K hK)
          | (refine hK _ ?_; clear hK K)
          | (with_reducible (first | refine thenS_n ?_ | refine thenS_e ?_ | refine blockS_n ?_ | refine blockS_e ?_ | refine blockS_o rfl ?_ | refine thenS_r ?_ | refine blockS_r ?_ | refine use_K (by assumption) ?_))
          | refine WS_region ?_
          | refine LS_nil ?_
          | ((refine' LQ ?h rfl ?_); case h => intro F'; first | exact Q_move rfl | exact Q_load rfl iI iI rfl | exact Q_extract rfl rfl | exact Q_un rfl iI | exact Q_loadA rfl iI iI rfl | exact Q_loadR rfl iI iI iI (by assumption) rfl | exact Q_loadR rfl iI iI iI rfl rfl | exact Q_loadRA rfl iI iI iI (by assumption) | exact Q_negI rfl (by omega))
          | ((refine' LS_h ?h rfl ?_); (case h => first | exact H_alloc iI); intro g)
          | ((refine' LS_h0 ?h ?_); (case h => first | exact H_storeO rfl rfl iI iI iI rfl | exact H_storeAO rfl rfl iI iI iI rfl | exact H_store8 rfl rfl iI iI rfl iI (by first | assumption | omega | (simp [be_length] <;> omega)) | exact H_storeRA _ rfl rfl rfl iI iI iI rfl rfl (by first | assumption | omega | (simp [be_length] <;> omega)) | exact H_storeR _ rfl rfl iI iI iI rfl (by assumption) rfl | exact H_store rfl rfl iI (by first | rfl | assumption) iI rfl | exact H_storeA rfl rfl iI iI (by first | rfl | (simp only [List.all_cons, List.all_nil, *]; rfl)) rfl); intro g)
          | (first | refine WS_block ?_ | refine WS_skip ?_ | refine WS_ret ?_ | refine WS_exit ?_ | refine WS_label ?_)
          | (show WS _ _ _ (.cond _ _ _) _ _; first | refine WS_condT rfl iI ?_ | refine WS_condF rfl iI ?_ | refine WS_condH_t rfl (by assumption) ?_ | refine WS_condH_f rfl (by assumption) ?_ | (refine WS_cond rfl ?_ ?_ <;> intro hc <;> (try simp only [decide_eq_true_eq, decide_eq_false_iff_not, Bool.not_eq_eq_eq_not, Bool.not_true, Bool.not_false, Bool.and_eq_true, Bool.or_eq_true, bne_iff_ne, beq_iff_eq, ne_eq, Decidable.not_not] at hc) <;> (try (exfalso; first | contradiction | omega; done)))))
        have hlt := (List.getElem?_eq_some_iff.1 ho).1
        exact ⟨k - 1, _, by omega, ⟨pre ++ [z], left.eraseIdx i, some (z, u), by rw [List.length_eraseIdx, if_pos hlt, hk], perm_next hp ho, rfl⟩, ⟨rfl, rfl, trivial⟩, rfl, by ((try simp only [star_assoc, emp_star, star_emp]); (repeat' (first | exact Ent.last | refine Ent.take ?_ | refine Ent.nilT ?_ | refine Ent.takeR (by first | rfl | assumption | (simp; done)) ?_ | exact Ent.refl _)))⟩
set_option maxRecDepth 100000 in
set_option maxHeartbeats 4000000 in
theorem appendSeqR_spec {gf : FuncId} {lb : List Value} {X : HProp} {S : List Rec → Prop} (hf : IsFun Tryz.prog gf) (it : IterS Tryz.prog w0 gf lb X (fun k => [keyV k]) S) (hS : ∀ xs, S xs → xs.length ≤ 100000) :
    Spec Tryz.prog w0 228 [.slice none 0 0, .func (.func gf) #[] lb.toArray] X (fun p : Value × List Rec => p.1) (fun p => pure' (S p.2) * (rows 28 3 Rec.cells p.1 p.2 * X)) := by
  refine Spec.enterM Tryz.func228 rfl Tryz.ntmps228 rfl fun G => ?_
  simp only [argE]
  repeat' (first
    | (refine WS_seqK ?_; intro K hK)
    | (refine hK _ ?_; clear hK K)
    | (with_reducible (first | refine thenS_n ?_ | refine thenS_e ?_ | refine blockS_n ?_ | refine blockS_e ?_ | refine blockS_o rfl ?_ | refine thenS_r ?_ | refine blockS_r ?_ | refine use_K (by assumption) ?_))
    | refine WS_region ?_
    | refine LS_nil ?_
    | ((refine' LQ ?h rfl ?_); case h => intro F'; first | exact Q_move rfl | exact Q_assign rfl | exact Q_load rfl iI iI rfl | exact Q_loadA rfl iI iI rfl | exact Q_loadR rfl iI iI iI (by assumption) rfl | exact Q_loadR rfl iI iI iI rfl rfl | exact Q_loadRA rfl iI iI iI (by assumption))
    | ((refine' LS_h ?h rfl ?_); (case h => first | exact H_alloc iI | exact H_box rfl | exact H_boxO rfl iI | exact H_buildB iI iI iI rfl rfl rfl rfl rfl iI rfl rfl | exact H_buildSlice iI iI iI rfl rfl rfl rfl rfl | exact H_buildSlice0 iI iI | exact H_appendD rfl rfl iI iI rfl iI iI byteC_one (by first | omega | (simp [be_length] <;> omega)) rfl | exact H_appendB rfl rfl iI iI iI rfl rfl iI (by first | omega | (simp [be_length] <;> omega)) rfl | exact H_appendS rfl rfl iI rfl iI iI (by first | omega | (simp [be_length] <;> omega)) rfl | exact H_box1 rfl (by first | rfl | assumption)); intro g)
    | ((refine' LS_h0 ?h ?_); (case h => first | exact H_storeO rfl rfl iI iI iI rfl | exact H_storeAO rfl rfl iI iI iI rfl | exact H_store8 rfl rfl iI iI rfl iI (by first | assumption | omega | (simp [be_length] <;> omega)) | exact H_storeRA _ rfl rfl rfl iI iI iI rfl rfl (by first | assumption | omega | (simp [be_length] <;> omega)) | exact H_storeR _ rfl rfl iI iI iI rfl (by assumption) rfl | exact H_store rfl rfl iI (by first | rfl | assumption) iI rfl | exact H_storeA rfl rfl iI iI (by first | rfl | (simp only [List.all_cons, List.all_nil, *]; rfl)) rfl); intro g)
    | (first | refine WS_block ?_ | refine WS_skip ?_ | refine WS_ret ?_ | refine WS_exit ?_ | refine WS_label ?_)
    | (show WS _ _ _ (.cond _ _ _) _ _; first | refine WS_condT rfl iI ?_ | refine WS_condF rfl iI ?_ | refine WS_condH_t rfl (by assumption) ?_ | refine WS_condH_f rfl (by assumption) ?_ | (refine WS_cond rfl ?_ ?_ <;> intro hc <;> (try simp only [decide_eq_true_eq, decide_eq_false_iff_not, Bool.not_eq_eq_eq_not, Bool.not_true, Bool.not_false, Bool.and_eq_true, Bool.or_eq_true, bne_iff_ne, beq_iff_eq, ne_eq, Decidable.not_not] at hc) <;> (try (exfalso; first | contradiction | omega; done)))))
  revert g; intro gs
  refine WS_ent (Ent.nil _ 28 3 Rec.cells none) ?_
  refine WS_ent (H' := X * ((hex fun v => cel gs 22 [v] * rows 28 3 Rec.cells v ([] : List Rec)) * G)) (Ent.trans (F := (hex fun v => cel gs 22 [v] * rows 28 3 Rec.cells v ([] : List Rec)) * (X * G)) (Ent.hexI (p := fun v => cel gs 22 [v] * rows 28 3 Rec.cells v ([] : List Rec)) (Value.slice none 0 0) (by ((try simp only [star_assoc, emp_star, star_emp]); (repeat' (first | exact Ent.last | refine Ent.take ?_ | refine Ent.nilT ?_ | refine Ent.takeR (by first | rfl | assumption | (simp; done)) ?_ | exact Ent.refl _))))) (by ((try simp only [star_assoc, emp_star, star_emp]); (repeat' (first | exact Ent.last | refine Ent.take ?_ | refine Ent.nilT ?_ | refine Ent.takeR (by first | rfl | assumption | (simp; done)) ?_ | exact Ent.refl _))))) ?_
  refine WS_rangeFunc rfl rfl hf it rfl (fun _ => rfl) (fun pre => hex fun v => cel gs 22 [v] * rows 28 3 Rec.cells v pre) (fun _ _ => pure' False) rfl ?_ ?_ ?_
  · rintro l pre x R ⟨xs, hxs, hpx⟩
    have hlen : pre.length + 1 ≤ 100000 := by
      have := hpx.length_le
      have := hS xs hxs
      simp at *; omega
    refine WS_hex fun v => ?_
    repeat' (first
      | (refine WS_seqK ?_; intro K hK)
      | (refine hK _ ?_; clear hK K)
      | (with_reducible (first | refine thenS_n ?_ | refine thenS_e ?_ | refine blockS_n ?_ | refine blockS_e ?_ | refine blockS_o rfl ?_ | refine thenS_r ?_ | refine blockS_r ?_ | refine use_K (by assumption) ?_))
      | refine WS_region ?_
      | refine LS_nil ?_
      | ((refine' LQ ?h rfl ?_); case h => intro F'; first | exact Q_move rfl | exact Q_assign rfl | exact Q_load rfl iI iI rfl | exact Q_loadA rfl iI iI rfl | exact Q_loadR rfl iI iI iI (by assumption) rfl | exact Q_loadR rfl iI iI iI rfl rfl | exact Q_loadRA rfl iI iI iI (by assumption))
      | ((refine' LS_h ?h rfl ?_); (case h => first | exact H_alloc iI | exact H_box rfl | exact H_boxO rfl iI | exact H_buildB iI iI iI rfl rfl rfl rfl rfl iI rfl rfl | exact H_buildSlice iI iI iI rfl rfl rfl rfl rfl | exact H_buildSlice0 iI iI | exact H_appendD rfl rfl iI iI rfl iI iI byteC_one (by first | omega | (simp [be_length] <;> omega)) rfl | exact H_appendB rfl rfl iI iI iI rfl rfl iI (by first | omega | (simp [be_length] <;> omega)) rfl | exact H_appendS rfl rfl iI rfl iI iI (by first | omega | (simp [be_length] <;> omega)) rfl | exact H_box1 rfl (by first | rfl | assumption)); intro g)
      | ((refine' LS_h0 ?h ?_); (case h => first | exact H_storeO rfl rfl iI iI iI rfl | exact H_storeAO rfl rfl iI iI iI rfl | exact H_store8 rfl rfl iI iI rfl iI (by first | assumption | omega | (simp [be_length] <;> omega)) | exact H_storeRA _ rfl rfl rfl iI iI iI rfl rfl (by first | assumption | omega | (simp [be_length] <;> omega)) | exact H_storeR _ rfl rfl iI iI iI rfl (by assumption) rfl | exact H_store rfl rfl iI (by first | rfl | assumption) iI rfl | exact H_storeA rfl rfl iI iI (by first | rfl | (simp only [List.all_cons, List.all_nil, *]; rfl)) rfl); intro g)
      | (first | refine WS_block ?_ | refine WS_skip ?_ | refine WS_ret ?_ | refine WS_exit ?_ | refine WS_label ?_)
      | (show WS _ _ _ (.cond _ _ _) _ _; first | refine WS_condT rfl iI ?_ | refine WS_condF rfl iI ?_ | refine WS_condH_t rfl (by assumption) ?_ | refine WS_condH_f rfl (by assumption) ?_ | (refine WS_cond rfl ?_ ?_ <;> intro hc <;> (try simp only [decide_eq_true_eq, decide_eq_false_iff_not, Bool.not_eq_eq_eq_not, Bool.not_true, Bool.not_false, Bool.and_eq_true, Bool.or_eq_true, bne_iff_ne, beq_iff_eq, ne_eq, Decidable.not_not] at hc) <;> (try (exfalso; first | contradiction | omega; done)))))
    rename_i g2
    refine asgS_mk rfl (cel g2 28 x.cells * (cel gs 22 [v] * rows 28 3 Rec.cells v pre)) (by ((try simp only [star_assoc, emp_star, star_emp]); (repeat' (first | exact Ent.last | refine Ent.take ?_ | refine Ent.nilT ?_ | refine Ent.takeR (by first | rfl | assumption | (simp; done)) ?_ | exact Ent.refl _)))) fun R' => ?_
    repeat' (first
      | (refine WS_seqK ?_; intro K hK)
      | (refine hK _ ?_; clear hK K)
      | (with_reducible (first | refine thenS_n ?_ | refine thenS_e ?_ | refine blockS_n ?_ | refine blockS_e ?_ | refine blockS_o rfl ?_ | refine thenS_r ?_ | refine blockS_r ?_ | refine use_K (by assumption) ?_))
      | refine WS_region ?_
      | refine LS_nil ?_
      | ((refine' LQ ?h rfl ?_); case h => intro F'; first | exact Q_move rfl | exact Q_assign rfl | exact Q_load rfl iI iI rfl | exact Q_loadA rfl iI iI rfl | exact Q_loadR rfl iI iI iI (by assumption) rfl | exact Q_loadR rfl iI iI iI rfl rfl | exact Q_loadRA rfl iI iI iI (by assumption))
      | ((refine' LS_h ?h rfl ?_); (case h => first | exact H_alloc iI | exact H_box rfl | exact H_boxO rfl iI | exact H_buildB iI iI iI rfl rfl rfl rfl rfl iI rfl rfl | exact H_buildSlice0 iI iI | exact H_appendD rfl rfl iI iI rfl iI iI byteC_one (by first | omega | (simp [be_length] <;> omega)) rfl | exact H_appendB rfl rfl iI iI iI rfl rfl iI (by first | omega | (simp [be_length] <;> omega)) rfl | exact H_appendS rfl rfl iI rfl iI iI (by first | omega | (simp [be_length] <;> omega)) rfl | exact H_box1 rfl (by first | rfl | assumption)); intro g)
      | ((refine' LS_h0 ?h ?_); (case h => first | exact H_storeO rfl rfl iI iI iI rfl | exact H_storeAO rfl rfl iI iI iI rfl | exact H_store8 rfl rfl iI iI rfl iI (by first | assumption | omega | (simp [be_length] <;> omega)) | exact H_storeRA _ rfl rfl rfl iI iI iI rfl rfl (by first | assumption | omega | (simp [be_length] <;> omega)) | exact H_storeR _ rfl rfl iI iI iI rfl (by assumption) rfl | exact H_store rfl rfl iI (by first | rfl | assumption) iI rfl | exact H_storeA rfl rfl iI iI (by first | rfl | (simp only [List.all_cons, List.all_nil, *]; rfl)) rfl); intro g)
      | (first | refine WS_block ?_ | refine WS_skip ?_ | refine WS_ret ?_ | refine WS_exit ?_ | refine WS_label ?_)
      | (show WS _ _ _ (.cond _ _ _) _ _; first | refine WS_condT rfl iI ?_ | refine WS_condF rfl iI ?_ | refine WS_condH_t rfl (by assumption) ?_ | refine WS_condH_f rfl (by assumption) ?_ | (refine WS_cond rfl ?_ ?_ <;> intro hc <;> (try simp only [decide_eq_true_eq, decide_eq_false_iff_not, Bool.not_eq_eq_eq_not, Bool.not_true, Bool.not_false, Bool.and_eq_true, Bool.or_eq_true, bne_iff_ne, beq_iff_eq, ne_eq, Decidable.not_not] at hc) <;> (try (exfalso; first | contradiction | omega; done))))
      | (refine LS_h (H_buildSliceR Rec.cells [x] iI iI iI rfl rfl rfl rfl rfl iI rfl rfl rfl) rfl ?_; intro vs)
      | (refine LS_h (H_appendR rfl rfl iI iI rfl iI iI recC_one (by first | omega | (simp [be_length] <;> omega)) rfl) rfl ?_; intro va))
    show Ent _ _
    refine Ent.hexI va ?_
    ((try simp only [star_assoc, emp_star, star_emp]); (repeat' (first | exact Ent.last | refine Ent.take ?_ | refine Ent.nilT ?_ | refine Ent.takeR (by first | rfl | assumption | (simp; done)) ?_ | exact Ent.refl _)))
  · intro b xs hxs
    refine hK _ ?_
    refine WS_ent (H' := (hex fun v => cel gs 22 [v] * rows 28 3 Rec.cells v xs) * (dblk b * (X * G))) (by ((try simp only [star_assoc, emp_star, star_emp]); (repeat' (first | exact Ent.last | refine Ent.take ?_ | refine Ent.nilT ?_ | refine Ent.takeR (by first | rfl | assumption | (simp; done)) ?_ | exact Ent.refl _)))) ?_
    refine WS_hex fun v => ?_
    repeat' (first
      | (refine WS_seqK ?_; intro K hK)
      | (refine hK _ ?_; clear hK K)
      | (with_reducible (first | refine thenS_n ?_ | refine thenS_e ?_ | refine blockS_n ?_ | refine blockS_e ?_ | refine blockS_o rfl ?_ | refine thenS_r ?_ | refine blockS_r ?_ | refine use_K (by assumption) ?_))
      | refine WS_region ?_
      | refine LS_nil ?_
      | ((refine' LQ ?h rfl ?_); case h => intro F'; first | exact Q_move rfl | exact Q_assign rfl | exact Q_load rfl iI iI rfl | exact Q_loadA rfl iI iI rfl | exact Q_loadR rfl iI iI iI (by assumption) rfl | exact Q_loadR rfl iI iI iI rfl rfl | exact Q_loadRA rfl iI iI iI (by assumption))
      | ((refine' LS_h ?h rfl ?_); (case h => first | exact H_alloc iI | exact H_box rfl | exact H_boxO rfl iI | exact H_buildB iI iI iI rfl rfl rfl rfl rfl iI rfl rfl | exact H_buildSlice iI iI iI rfl rfl rfl rfl rfl | exact H_buildSlice0 iI iI | exact H_appendD rfl rfl iI iI rfl iI iI byteC_one (by first | omega | (simp [be_length] <;> omega)) rfl | exact H_appendB rfl rfl iI iI iI rfl rfl iI (by first | omega | (simp [be_length] <;> omega)) rfl | exact H_appendS rfl rfl iI rfl iI iI (by first | omega | (simp [be_length] <;> omega)) rfl | exact H_box1 rfl (by first | rfl | assumption)); intro g)
      | ((refine' LS_h0 ?h ?_); (case h => first | exact H_storeO rfl rfl iI iI iI rfl | exact H_storeAO rfl rfl iI iI iI rfl | exact H_store8 rfl rfl iI iI rfl iI (by first | assumption | omega | (simp [be_length] <;> omega)) | exact H_storeRA _ rfl rfl rfl iI iI iI rfl rfl (by first | assumption | omega | (simp [be_length] <;> omega)) | exact H_storeR _ rfl rfl iI iI iI rfl (by assumption) rfl | exact H_store rfl rfl iI (by first | rfl | assumption) iI rfl | exact H_storeA rfl rfl iI iI (by first | rfl | (simp only [List.all_cons, List.all_nil, *]; rfl)) rfl); intro g)
      | (first | refine WS_block ?_ | refine WS_skip ?_ | refine WS_ret ?_ | refine WS_exit ?_ | refine WS_label ?_)
      | (show WS _ _ _ (.cond _ _ _) _ _; first | refine WS_condT rfl iI ?_ | refine WS_condF rfl iI ?_ | refine WS_condH_t rfl (by assumption) ?_ | refine WS_condH_f rfl (by assumption) ?_ | (refine WS_cond rfl ?_ ?_ <;> intro hc <;> (try simp only [decide_eq_true_eq, decide_eq_false_iff_not, Bool.not_eq_eq_eq_not, Bool.not_true, Bool.not_false, Bool.and_eq_true, Bool.or_eq_true, bne_iff_ne, beq_iff_eq, ne_eq, Decidable.not_not] at hc) <;> (try (exfalso; first | contradiction | omega; done)))))
    refine out_r ?_
    refine lv_mark (fun h => by cases h) inferInstance ?_
    refine lv_ret1 rfl (RV_tmp rfl) ⟨(v, xs), rfl, ?_⟩
    show Ent _ ((pure' (S xs) * (rows 28 3 Rec.cells v xs * X)) * G)
    rw [star_assoc (pure' (S xs))]
    refine Ent.pureI hxs ?_
    ((try simp only [star_assoc, emp_star, star_emp]); (repeat' (first | exact Ent.last | refine Ent.take ?_ | refine Ent.nilT ?_ | refine Ent.takeR (by first | rfl | assumption | (simp; done)) ?_ | exact Ent.refl _)))
  · intro b c pre
    exact WS_pure (φ := False) fun h => h.elim
set_option maxRecDepth 100000 in
set_option maxHeartbeats 4000000 in
theorem collectR_spec {gf : FuncId} {lb : List Value} {X : HProp} {S : List Rec → Prop} (hf : IsFun Tryz.prog gf) (it : IterS Tryz.prog w0 gf lb X (fun k => [keyV k]) S) (hS : ∀ xs, S xs → xs.length ≤ 100000) :
    Spec Tryz.prog w0 201 [.func (.func gf) #[] lb.toArray] X (fun p : Value × List Rec => p.1) (fun p => pure' (S p.2) * (rows 28 3 Rec.cells p.1 p.2 * X)) := by
  have happ := appendSeqR_spec w0 hf it hS
  refine Spec.enter Tryz.func201 rfl Tryz.ntmps201 rfl fun G => ?_
  simp only [argE]
  repeat' (first
    | (refine WS_seqK ?_; intro K hK)
    | (refine hK _ ?_; clear hK K)
    | (with_reducible (first | refine thenS_n ?_ | refine thenS_e ?_ | refine blockS_n ?_ | refine blockS_e ?_ | refine blockS_o rfl ?_ | refine thenS_r ?_ | refine blockS_r ?_ | refine use_K (by assumption) ?_))
    | refine WS_region ?_
    | refine LS_nil ?_
    | ((refine' LQ ?h rfl ?_); case h => intro F'; first | exact Q_move rfl | exact Q_assign rfl)
    | (first | refine WS_block ?_ | refine WS_skip ?_ | refine WS_ret ?_ | refine WS_exit ?_ | refine WS_label ?_)
    | (show WS _ _ _ (.cond _ _ _) _ _; first | refine WS_condT rfl iI ?_ | refine WS_condF rfl iI ?_ | refine WS_condH_t rfl (by assumption) ?_ | refine WS_condH_f rfl (by assumption) ?_ | (refine WS_cond rfl ?_ ?_ <;> intro hc <;> (try simp only [decide_eq_true_eq, decide_eq_false_iff_not, Bool.not_eq_eq_eq_not, Bool.not_true, Bool.not_false, Bool.and_eq_true, Bool.or_eq_true, bne_iff_ne, beq_iff_eq, ne_eq, Decidable.not_not] at hc) <;> (try (exfalso; first | contradiction | omega; done))))
    | (refine LS_h (H_callX iI rfl happ iI) rfl ?_; intro p))
  exact ret_tmp (.inl rfl) rfl rfl ⟨p, rfl, by ((try simp only [star_assoc, emp_star, star_emp]); (repeat' (first | exact Ent.last | refine Ent.take ?_ | refine Ent.nilT ?_ | refine Ent.takeR (by first | rfl | assumption | (simp; done)) ?_ | exact Ent.refl _)))⟩
set_option maxRecDepth 100000 in
set_option maxHeartbeats 4000000 in
theorem sortedR_spec {gf : FuncId} {lb : List Value} {X : HProp} {S : List Rec → Prop} (hf : IsFun Tryz.prog gf) (it : IterS Tryz.prog w0 gf lb X (fun k => [keyV k]) S) (hS : ∀ xs, S xs → xs.length ≤ 100000) :
    Spec Tryz.prog w0 156 [.func (.func gf) #[] lb.toArray, .func (.func 158) #[] #[]] X (fun p : Value × (l : List Rec) × SortedR l => p.1) (fun p => pure' (S p.2.1) * (rows 28 3 Rec.cells p.1 p.2.2.l' * X)) := by
  have hcol := collectR_spec w0 hf it hS
  refine Spec.enter Tryz.func156 rfl Tryz.ntmps156 rfl fun G => ?_
  simp only [argE]
  repeat' (first
    | (refine WS_seqK ?_; intro K hK)
    | (refine hK _ ?_; clear hK K)
    | (with_reducible (first | refine thenS_n ?_ | refine thenS_e ?_ | refine blockS_n ?_ | refine blockS_e ?_ | refine blockS_o rfl ?_ | refine thenS_r ?_ | refine blockS_r ?_ | refine use_K (by assumption) ?_))
    | refine WS_region ?_
    | refine LS_nil ?_
    | ((refine' LQ ?h rfl ?_); case h => intro F'; first | exact Q_move rfl | exact Q_assign rfl)
    | (first | refine WS_block ?_ | refine WS_skip ?_ | refine WS_ret ?_ | refine WS_exit ?_ | refine WS_label ?_)
    | (show WS _ _ _ (.cond _ _ _) _ _; first | refine WS_condT rfl iI ?_ | refine WS_condF rfl iI ?_ | refine WS_condH_t rfl (by assumption) ?_ | refine WS_condH_f rfl (by assumption) ?_ | (refine WS_cond rfl ?_ ?_ <;> intro hc <;> (try simp only [decide_eq_true_eq, decide_eq_false_iff_not, Bool.not_eq_eq_eq_not, Bool.not_true, Bool.not_false, Bool.and_eq_true, Bool.or_eq_true, bne_iff_ne, beq_iff_eq, ne_eq, Decidable.not_not] at hc) <;> (try (exfalso; first | contradiction | omega; done))))
    | (refine LS_h (H_callX iI rfl hcol iI) rfl ?_; rintro ⟨v, l⟩; refine LS_pureI iI fun hp => ?_; have hsort := sortF_spec w0 v l (by have := hS l hp; omega); dsimp only)
    | (refine LS_h (H_callX iI rfl (by assumption) iI) rfl ?_; intro s))
  refine ret_tmp (.inl rfl) rfl rfl ⟨(v, ⟨l, s⟩), rfl, ?_⟩
  show Ent _ ((pure' (S l) * (rows 28 3 Rec.cells v s.l' * X)) * G)
  rw [star_assoc (pure' (S l))]
  exact Ent.pureI hp (by ((try simp only [star_assoc, emp_star, star_emp]); (repeat' (first | exact Ent.last | refine Ent.take ?_ | refine Ent.nilT ?_ | refine Ent.takeR (by first | rfl | assumption | (simp; done)) ?_ | exact Ent.refl _))))
end Go.Proofs.YtapoehkdnglahabGreat

/- maps.Keys and wire.Compact, by a walk. -/
namespace Go.Proofs.YtapoehkdnglahabGreat
open Go.RowKit
set_option linter.unusedVariables false
set_option linter.unusedSimpArgs false
attribute [local irreducible] WS LS OpQ OpT OpH OpTQ Spec SpecQ cel
variable (w0 : World)
set_option maxRecDepth 100000 in
theorem keysR_spec (r : Nat) : Spec Tryz.prog w0 157 [.map (some r)] emp (fun g : Nat => .func (.func 203) #[] [ptr g 0].toArray) (fun g => cel g 252 [.map (some r)]) := by
  refine Spec.enter Tryz.func157 rfl Tryz.ntmps157 rfl fun G => ?_
  simp only [argE]
  repeat' (first
    | (refine WS_seqK ?_; intro K hK)
    | (refine hK _ ?_; clear hK K)
    | (with_reducible (first | refine thenS_n ?_ | refine thenS_e ?_ | refine blockS_n ?_ | refine blockS_e ?_ | refine blockS_o rfl ?_ | refine thenS_r ?_ | refine blockS_r ?_ | refine use_K (by assumption) ?_))
    | refine WS_region ?_
    | refine LS_nil ?_
    | ((refine' LQ ?h rfl ?_); case h => intro F'; first | exact Q_assign rfl | exact Q_makeFunc rfl rfl)
    | ((refine' LS_h ?h rfl ?_); (case h => first | exact H_box rfl | exact H_boxO rfl iI | exact H_box1 rfl (by first | rfl | assumption)); intro g)
    | (first | refine WS_block ?_ | refine WS_skip ?_ | refine WS_ret ?_ | refine WS_exit ?_ | refine WS_label ?_)
    | (show WS _ _ _ (.cond _ _ _) _ _; first | refine WS_condT rfl iI ?_ | refine WS_condF rfl iI ?_ | refine WS_condH_t rfl (by assumption) ?_ | refine WS_condH_f rfl (by assumption) ?_ | (refine WS_cond rfl ?_ ?_ <;> intro hc <;> (try simp only [decide_eq_true_eq, decide_eq_false_iff_not, Bool.not_eq_eq_eq_not, Bool.not_true, Bool.not_false, Bool.and_eq_true, Bool.or_eq_true, bne_iff_ne, beq_iff_eq, ne_eq, Decidable.not_not] at hc) <;> (try (exfalso; first | contradiction | omega; done)))))
  exact ret_tmp (.inl rfl) rfl rfl ⟨g, rfl, by ((try simp only [star_assoc, emp_star, star_emp]); (repeat' (first | exact Ent.last | refine Ent.take ?_ | refine Ent.nilT ?_ | refine Ent.takeR (by first | rfl | assumption | (simp; done)) ?_ | exact Ent.refl _)))⟩
theorem mset_le {κ ν : Type} [DecidableEq κ] (m : List (κ × ν)) (k : κ) (v : ν) : (mset m k v).length ≤ m.length + 1 := by
  rw [mset_length]; split <;> omega
theorem fillR_step {m : List (Rec × UInt32)} {ks : List Rec} {j : Nat} {x : Rec} {u : UInt32} (hx : ks[j]? = some x) (hu : mget m x = some u) : (fillR m (ks.take j) ++ ks.drop j).set j { x with seq := u } = fillR m (ks.take (j + 1)) ++ ks.drop (j + 1) := by
  obtain ⟨hlt, he⟩ := List.getElem?_eq_some_iff.1 hx
  have h1 : (fillR m (ks.take j)).length = j := by simp [fillR]; omega
  have h2 : ks.drop j = x :: ks.drop (j + 1) := by rw [← he, List.getElem_cons_drop]
  rw [List.take_add_one, hx, h2, List.set_append, if_neg (by omega), h1, Nat.sub_self, List.set_cons_zero]
  simp [fillR, hu]
theorem fillR_at {m : List (Rec × UInt32)} {ks : List Rec} {j : Nat} {x : Rec} (hx : ks[j]? = some x) : (fillR m (ks.take j) ++ ks.drop j)[j]? = some x := by
  obtain ⟨hlt, he⟩ := List.getElem?_eq_some_iff.1 hx
  have h1 : (fillR m (ks.take j)).length = j := by simp [fillR]; omega
  rw [List.getElem?_append_right (by omega), h1, Nat.sub_self, List.getElem?_drop]; exact hx
theorem fillR_len {m : List (Rec × UInt32)} {ks : List Rec} {j : Nat} (hj : j ≤ ks.length) : (fillR m (ks.take j) ++ ks.drop j).length = ks.length := by
  simp [fillR]; omega
set_option maxRecDepth 100000 in
set_option maxHeartbeats 4000000 in
theorem wcompact_spec (l : List Rec) (hl : l.length ≤ 100000) (v : Value) (X : HProp) [hX : Rdr w0 X v Rec 3 Rec.cells l] : Spec Tryz.prog w0 109 [v] X (fun m : Value => m) (fun m => rows 28 3 Rec.cells m (compR l) * X) := by
  refine Spec.enter Tryz.func109 rfl Tryz.ntmps109 rfl fun G => ?_
  simp only [argE]
  repeat' (first
    | (refine WS_seqK ?_; intro K hK)
    | (refine hK _ ?_; clear hK K)
    | (with_reducible (first | refine thenS_n ?_ | refine thenS_e ?_ | refine blockS_n ?_ | refine blockS_e ?_ | refine blockS_o rfl ?_ | refine thenS_r ?_ | refine blockS_r ?_ | refine use_K (by assumption) ?_))
    | refine WS_region ?_
    | refine LS_nil ?_
    | (first | refine DL_nilA ?_ | refine DL_nilS ?_ | refine DL_nilN ?_ | refine DL_nilE ?_ | refine DL_nilR ?_)
    | (first | refine DL_claimS rfl ?_ | refine DL_claim rfl rfl ?_)
    | (refine DL_alloc iI rfl ?_; intro g)
    | ((first | refine' LQ ?h rfl ?_ | refine' DL_qp rfl rfl rfl ?h ?_ | refine' DL_q rfl rfl ?h ?_); case h => intro F'; first | exact Q_move rfl | exact Q_assign rfl | exact Q_fieldAddr rfl iI rfl | exact Q_load rfl iI iI rfl | exact Q_bin_t rfl rfl iI (by first | assumption | omega | decide) | exact Q_bin_f rfl rfl iI (by first | assumption | omega | decide) | exact Q_bin_nt rfl rfl iI (by first | assumption | omega | decide) | exact Q_bin_nf rfl rfl iI (by first | assumption | omega | decide) | exact Q_addI rfl rfl (by omega) | exact Q_subI rfl rfl (by omega) | exact Q_loadA rfl iI iI rfl | exact Q_len rfl iI | exact Q_lenS rfl iI | exact Q_index rfl rfl iI iI iI iI (by first | assumption | omega | (simp [be_length] <;> omega)) | exact Q_fieldR rfl iI iI rfl (by first | assumption | omega | (simp [be_length] <;> omega)) | exact Q_loadR rfl iI iI iI (by assumption) rfl | exact Q_loadR rfl iI iI iI rfl rfl | exact Q_loadRA rfl iI iI iI (by assumption) | exact Q_lenR rfl iI iI | exact Q_lenM rfl iI iI | exact Q_lookupOk_s rfl rfl iI iI iI iI iI (by assumption) | exact Q_lookupOk_n rfl rfl iI iI iI iI iI (by assumption) | exact Q_lookup_s rfl rfl iI iI iI iI iI (by assumption) | exact Q_lookup_n rfl rfl iI iI iI iI iI (by assumption) | exact Q_lookupOk rfl rfl iI iI iI iI iI | exact Q_lookup rfl rfl iI iI iI iI iI | exact Q_maxI rfl rfl | exact Q_max32 rfl rfl iI iI | exact Q_max64 rfl rfl iI iI | exact Q_addS rfl rfl (by first | omega | (simp [be_length] <;> omega)) | exact Q_indexV rfl rfl iI iI iI (by first | assumption | omega) | exact Q_quoI rfl rfl (by omega) | exact Q_remI rfl rfl (by omega) | exact Q_mulI rfl rfl (by omega))
    | ((first | refine LS_binS rfl rfl iI rfl ?_ ?_ | refine LS_binN rfl rfl iI rfl ?_ ?_ | refine DL_binS rfl rfl iI rfl ?_ ?_) <;> intro hc)
    | ((first | refine' LQ ?h rfl ?_ | refine' DL_qp rfl rfl rfl ?h ?_ | refine' DL_q rfl rfl ?h ?_); case h => intro F'; first | exact Q_bin rfl rfl iI)
    | ((first | refine' LS_h ?h rfl ?_ | refine' DL_h ?h rfl rfl rfl ?_); (case h => first | exact H_alloc iI); intro g)
    | ((first | refine' LS_h0 ?h ?_ | refine' DL_h0 ?h rfl rfl ?_); (case h => first | exact H_storeO rfl rfl iI iI iI rfl | exact H_storeAO rfl rfl iI iI iI rfl | exact H_store8 rfl rfl iI iI rfl iI (by first | assumption | omega | (simp [be_length] <;> omega)) | exact H_mapUpdate rfl rfl rfl iI iI iI iI iI | exact H_storeRA _ rfl rfl rfl iI iI iI rfl rfl (by first | assumption | omega | (simp [be_length] <;> omega)) | exact H_storeR _ rfl rfl iI iI iI rfl (by assumption) rfl | exact H_store rfl rfl iI (by first | rfl | assumption) iI rfl | exact H_storeA rfl rfl iI iI (by first | rfl | (simp only [List.all_cons, List.all_nil, *]; rfl)) rfl); intro g)
    | (first | refine WS_block ?_ | refine WS_skip ?_ | refine WS_ret ?_ | refine WS_exit ?_ | refine WS_label ?_)
    | (show WS _ _ _ (.cond _ _ _) _ _; first | refine WS_condT rfl iI ?_ | refine WS_condF rfl iI ?_ | refine WS_condH_t rfl (by assumption) ?_ | refine WS_condH_f rfl (by assumption) ?_ | (refine WS_cond rfl ?_ ?_ <;> intro hc <;> (try simp only [decide_eq_true_eq, decide_eq_false_iff_not, Bool.not_eq_eq_eq_not, Bool.not_true, Bool.not_false, Bool.and_eq_true, Bool.or_eq_true, bne_iff_ne, beq_iff_eq, ne_eq, Decidable.not_not] at hc) <;> (try (exfalso; first | contradiction | omega; done))))
    | refine WS_drawS (by kernel_rfl) ?_
    | (refine LS_h (H_makeMap keyV u32) rfl ?_; intro r))
  refine WS_loop (fun k τ => ∃ (j : Nat) (m : List (Rec × UInt32)), j + k = l.length ∧ Most (l.take j) m ∧ m.length ≤ j ∧ τ = ⟨[(13, .int .i64 (j : Int)), (12, .int .i64 (l.length : Int)), (11, v), (3, .map (some r))], [], mp keyV u32 r m * (X * G)⟩) ?_ ?_
  · exact ⟨l.length, _, ⟨0, [], by omega, Most.nil, Nat.le_refl _, rfl⟩, ⟨rfl, rfl, rfl, rfl, trivial⟩, rfl, by ((try simp only [star_assoc, emp_star, star_emp]); (repeat' (first | exact Ent.last | refine Ent.take ?_ | refine Ent.nilT ?_ | refine Ent.takeR (by first | rfl | assumption | (simp; done)) ?_ | exact Ent.refl _)))⟩
  · rintro k τ ⟨j, m, hjk, hm, hml, rfl⟩
    rcases Nat.lt_or_ge j l.length with hlt | hge
    · obtain ⟨z, hz⟩ : ∃ z, l[j]? = some z := ⟨_, List.getElem?_eq_getElem hlt⟩
      have hsn := hm.snoc z
      have htk : l.take j ++ [z] = l.take (j + 1) := by rw [List.take_add_one, hz, Option.toList_some]
      rw [htk] at hsn
      have hlen := mset_le m z.norm.key (max ((mget m z.norm.key).getD 0) z.seq)
      obtain ⟨o, a, q⟩ := z
      cases o
      · have hk0 : (⟨false, a, q⟩ : Rec).norm.key = ⟨false, a, 0⟩ := rfl
        rw [hk0] at hsn hlen
        cases hg : mget m ⟨false, a, 0⟩ with
        | none =>
          rw [hg] at hsn hlen
          simp only [Option.getD_none, Option.getD_some] at hsn hlen
          repeat' (first
            | (show WS _ _ _ (.region 9 _ true) _ _; refine WS_drawK [0, 1, 2, 3, 4, 5, 6, 7, 8] 8 [1, 3, 4, 6, 7] (by decide +kernel) rfl ?_)
            | (refine WS_seqK ?_; intro K hK)
            | (refine hK _ ?_; clear hK K)
            | (with_reducible (first | refine thenS_n ?_ | refine thenS_e ?_ | refine blockS_n ?_ | refine blockS_e ?_ | refine blockS_o rfl ?_ | refine thenS_r ?_ | refine blockS_r ?_ | refine use_K (by assumption) ?_))
            | refine WS_region ?_
            | refine LS_nil ?_
            | (first | refine DL_nilA ?_ | refine DL_nilS ?_ | refine DL_nilN ?_ | refine DL_nilE ?_ | refine DL_nilR ?_)
            | (first | refine DL_claimS rfl ?_ | refine DL_claim rfl rfl ?_)
            | (refine DL_alloc iI rfl ?_; intro g)
            | ((first | refine' LQ ?h rfl ?_ | refine' DL_qp rfl rfl rfl ?h ?_ | refine' DL_q rfl rfl ?h ?_); case h => intro F'; first | exact Q_move rfl | exact Q_assign rfl | exact Q_fieldAddr rfl iI rfl | exact Q_load rfl iI iI rfl | exact Q_bin_t rfl rfl iI (by first | assumption | omega | decide) | exact Q_bin_f rfl rfl iI (by first | assumption | omega | decide) | exact Q_bin_nt rfl rfl iI (by first | assumption | omega | decide) | exact Q_bin_nf rfl rfl iI (by first | assumption | omega | decide) | exact Q_addI rfl rfl (by omega) | exact Q_subI rfl rfl (by omega) | exact Q_loadA rfl iI iI rfl | exact Q_len rfl iI | exact Q_lenS rfl iI | exact Q_index rfl rfl iI iI iI iI (by first | assumption | omega | (simp [be_length] <;> omega)) | exact Q_fieldR rfl iI iI rfl (by first | assumption | omega | (simp [be_length] <;> omega)) | exact Q_loadR rfl iI iI iI (by assumption) rfl | exact Q_loadR rfl iI iI iI rfl rfl | exact Q_loadRA rfl iI iI iI (by assumption) | exact Q_lenR rfl iI iI | exact Q_lenM rfl iI iI | exact Q_lookupOk_s rfl rfl iI iI iI iI iI (by assumption) | exact Q_lookupOk_n rfl rfl iI iI iI iI iI (by assumption) | exact Q_lookup_s rfl rfl iI iI iI iI iI (by assumption) | exact Q_lookup_n rfl rfl iI iI iI iI iI (by assumption) | exact Q_lookupOk rfl rfl iI iI iI iI iI | exact Q_lookup rfl rfl iI iI iI iI iI | exact Q_maxI rfl rfl | exact Q_max32 rfl rfl iI iI | exact Q_max64 rfl rfl iI iI | exact Q_addS rfl rfl (by first | omega | (simp [be_length] <;> omega)) | exact Q_indexV rfl rfl iI iI iI (by first | assumption | omega) | exact Q_quoI rfl rfl (by omega) | exact Q_remI rfl rfl (by omega) | exact Q_mulI rfl rfl (by omega))
            | ((first | refine LS_binS rfl rfl iI rfl ?_ ?_ | refine LS_binN rfl rfl iI rfl ?_ ?_ | refine DL_binS rfl rfl iI rfl ?_ ?_) <;> intro hc)
            | ((first | refine' LQ ?h rfl ?_ | refine' DL_qp rfl rfl rfl ?h ?_ | refine' DL_q rfl rfl ?h ?_); case h => intro F'; first | exact Q_bin rfl rfl iI)
            | ((first | refine' LS_h ?h rfl ?_ | refine' DL_h ?h rfl rfl rfl ?_); (case h => first | exact H_alloc iI); intro g)
            | ((first | refine' LS_h0 ?h ?_ | refine' DL_h0 ?h rfl rfl ?_); (case h => first | exact H_storeO rfl rfl iI iI iI rfl | exact H_storeAO rfl rfl iI iI iI rfl | exact H_store8 rfl rfl iI iI rfl iI (by first | assumption | omega | (simp [be_length] <;> omega)) | exact H_mapUpdate rfl rfl rfl iI iI iI iI iI | exact H_storeRA _ rfl rfl rfl iI iI iI rfl rfl (by first | assumption | omega | (simp [be_length] <;> omega)) | exact H_storeR _ rfl rfl iI iI iI rfl (by assumption) rfl | exact H_store rfl rfl iI (by first | rfl | assumption) iI rfl | exact H_storeA rfl rfl iI iI (by first | rfl | (simp only [List.all_cons, List.all_nil, *]; rfl)) rfl); intro g)
            | (first | refine WS_block ?_ | refine WS_skip ?_ | refine WS_ret ?_ | refine WS_exit ?_ | refine WS_label ?_)
            | (show WS _ _ _ (.cond _ _ _) _ _; first | refine WS_condT rfl iI ?_ | refine WS_condF rfl iI ?_ | refine WS_condH_t rfl (by assumption) ?_ | refine WS_condH_f rfl (by assumption) ?_ | (refine WS_cond rfl ?_ ?_ <;> intro hc <;> (try simp only [decide_eq_true_eq, decide_eq_false_iff_not, Bool.not_eq_eq_eq_not, Bool.not_true, Bool.not_false, Bool.and_eq_true, Bool.or_eq_true, bne_iff_ne, beq_iff_eq, ne_eq, Decidable.not_not] at hc) <;> (try (exfalso; first | contradiction | omega; done)))))
          exact ⟨k - 1, _, by omega, ⟨j + 1, _, by omega, hsn, by have := hlen; omega, rfl⟩, ⟨rfl, rfl, rfl, rfl, trivial⟩, rfl, by ((try simp only [star_assoc, emp_star, star_emp]); (repeat' (first | exact Ent.last | refine Ent.take ?_ | refine Ent.nilT ?_ | refine Ent.takeR (by first | rfl | assumption | (simp; done)) ?_ | exact Ent.refl _)))⟩
        | some u =>
          rw [hg] at hsn hlen
          simp only [Option.getD_none, Option.getD_some] at hsn hlen
          repeat' (first
            | (show WS _ _ _ (.region 9 _ true) _ _; refine WS_drawK [0, 1, 2, 3, 4, 5, 6, 7, 8] 8 [1, 3, 4, 6, 7] (by decide +kernel) rfl ?_)
            | (refine WS_seqK ?_; intro K hK)
            | (refine hK _ ?_; clear hK K)
            | (with_reducible (first | refine thenS_n ?_ | refine thenS_e ?_ | refine blockS_n ?_ | refine blockS_e ?_ | refine blockS_o rfl ?_ | refine thenS_r ?_ | refine blockS_r ?_ | refine use_K (by assumption) ?_))
            | refine WS_region ?_
            | refine LS_nil ?_
            | (first | refine DL_nilA ?_ | refine DL_nilS ?_ | refine DL_nilN ?_ | refine DL_nilE ?_ | refine DL_nilR ?_)
            | (first | refine DL_claimS rfl ?_ | refine DL_claim rfl rfl ?_)
            | (refine DL_alloc iI rfl ?_; intro g)
            | ((first | refine' LQ ?h rfl ?_ | refine' DL_qp rfl rfl rfl ?h ?_ | refine' DL_q rfl rfl ?h ?_); case h => intro F'; first | exact Q_move rfl | exact Q_assign rfl | exact Q_fieldAddr rfl iI rfl | exact Q_load rfl iI iI rfl | exact Q_bin_t rfl rfl iI (by first | assumption | omega | decide) | exact Q_bin_f rfl rfl iI (by first | assumption | omega | decide) | exact Q_bin_nt rfl rfl iI (by first | assumption | omega | decide) | exact Q_bin_nf rfl rfl iI (by first | assumption | omega | decide) | exact Q_addI rfl rfl (by omega) | exact Q_subI rfl rfl (by omega) | exact Q_loadA rfl iI iI rfl | exact Q_len rfl iI | exact Q_lenS rfl iI | exact Q_index rfl rfl iI iI iI iI (by first | assumption | omega | (simp [be_length] <;> omega)) | exact Q_fieldR rfl iI iI rfl (by first | assumption | omega | (simp [be_length] <;> omega)) | exact Q_loadR rfl iI iI iI (by assumption) rfl | exact Q_loadR rfl iI iI iI rfl rfl | exact Q_loadRA rfl iI iI iI (by assumption) | exact Q_lenR rfl iI iI | exact Q_lenM rfl iI iI | exact Q_lookupOk_s rfl rfl iI iI iI iI iI (by assumption) | exact Q_lookupOk_n rfl rfl iI iI iI iI iI (by assumption) | exact Q_lookup_s rfl rfl iI iI iI iI iI (by assumption) | exact Q_lookup_n rfl rfl iI iI iI iI iI (by assumption) | exact Q_lookupOk rfl rfl iI iI iI iI iI | exact Q_lookup rfl rfl iI iI iI iI iI | exact Q_maxI rfl rfl | exact Q_max32 rfl rfl iI iI | exact Q_max64 rfl rfl iI iI | exact Q_addS rfl rfl (by first | omega | (simp [be_length] <;> omega)) | exact Q_indexV rfl rfl iI iI iI (by first | assumption | omega) | exact Q_quoI rfl rfl (by omega) | exact Q_remI rfl rfl (by omega) | exact Q_mulI rfl rfl (by omega))
            | ((first | refine LS_binS rfl rfl iI rfl ?_ ?_ | refine LS_binN rfl rfl iI rfl ?_ ?_ | refine DL_binS rfl rfl iI rfl ?_ ?_) <;> intro hc)
            | ((first | refine' LQ ?h rfl ?_ | refine' DL_qp rfl rfl rfl ?h ?_ | refine' DL_q rfl rfl ?h ?_); case h => intro F'; first | exact Q_bin rfl rfl iI)
            | ((first | refine' LS_h ?h rfl ?_ | refine' DL_h ?h rfl rfl rfl ?_); (case h => first | exact H_alloc iI); intro g)
            | ((first | refine' LS_h0 ?h ?_ | refine' DL_h0 ?h rfl rfl ?_); (case h => first | exact H_storeO rfl rfl iI iI iI rfl | exact H_storeAO rfl rfl iI iI iI rfl | exact H_store8 rfl rfl iI iI rfl iI (by first | assumption | omega | (simp [be_length] <;> omega)) | exact H_mapUpdate rfl rfl rfl iI iI iI iI iI | exact H_storeRA _ rfl rfl rfl iI iI iI rfl rfl (by first | assumption | omega | (simp [be_length] <;> omega)) | exact H_storeR _ rfl rfl iI iI iI rfl (by assumption) rfl | exact H_store rfl rfl iI (by first | rfl | assumption) iI rfl | exact H_storeA rfl rfl iI iI (by first | rfl | (simp only [List.all_cons, List.all_nil, *]; rfl)) rfl); intro g)
            | (first | refine WS_block ?_ | refine WS_skip ?_ | refine WS_ret ?_ | refine WS_exit ?_ | refine WS_label ?_)
            | (show WS _ _ _ (.cond _ _ _) _ _; first | refine WS_condT rfl iI ?_ | refine WS_condF rfl iI ?_ | refine WS_condH_t rfl (by assumption) ?_ | refine WS_condH_f rfl (by assumption) ?_ | (refine WS_cond rfl ?_ ?_ <;> intro hc <;> (try simp only [decide_eq_true_eq, decide_eq_false_iff_not, Bool.not_eq_eq_eq_not, Bool.not_true, Bool.not_false, Bool.and_eq_true, Bool.or_eq_true, bne_iff_ne, beq_iff_eq, ne_eq, Decidable.not_not] at hc) <;> (try (exfalso; first | contradiction | omega; done)))))
          exact ⟨k - 1, _, by omega, ⟨j + 1, _, by omega, hsn, by have := hlen; omega, rfl⟩, ⟨rfl, rfl, rfl, rfl, trivial⟩, rfl, by ((try simp only [star_assoc, emp_star, star_emp]); (repeat' (first | exact Ent.last | refine Ent.take ?_ | refine Ent.nilT ?_ | refine Ent.takeR (by first | rfl | assumption | (simp; done)) ?_ | exact Ent.refl _)))⟩
      · have hk0 : (⟨true, a, q⟩ : Rec).norm.key = ⟨true, 0, 0⟩ := rfl
        rw [hk0] at hsn hlen
        cases hg : mget m ⟨true, 0, 0⟩ with
        | none =>
          rw [hg] at hsn hlen
          simp only [Option.getD_none, Option.getD_some] at hsn hlen
          repeat' (first
            | (show WS _ _ _ (.region 9 _ true) _ _; refine WS_drawK [0, 1, 2, 3, 4, 5, 6, 7, 8] 8 [1, 3, 4, 6, 7] (by decide +kernel) rfl ?_)
            | (refine WS_seqK ?_; intro K hK)
            | (refine hK _ ?_; clear hK K)
            | (with_reducible (first | refine thenS_n ?_ | refine thenS_e ?_ | refine blockS_n ?_ | refine blockS_e ?_ | refine blockS_o rfl ?_ | refine thenS_r ?_ | refine blockS_r ?_ | refine use_K (by assumption) ?_))
            | refine WS_region ?_
            | refine LS_nil ?_
            | (first | refine DL_nilA ?_ | refine DL_nilS ?_ | refine DL_nilN ?_ | refine DL_nilE ?_ | refine DL_nilR ?_)
            | (first | refine DL_claimS rfl ?_ | refine DL_claim rfl rfl ?_)
            | (refine DL_alloc iI rfl ?_; intro g)
            | ((first | refine' LQ ?h rfl ?_ | refine' DL_qp rfl rfl rfl ?h ?_ | refine' DL_q rfl rfl ?h ?_); case h => intro F'; first | exact Q_move rfl | exact Q_assign rfl | exact Q_fieldAddr rfl iI rfl | exact Q_load rfl iI iI rfl | exact Q_bin_t rfl rfl iI (by first | assumption | omega | decide) | exact Q_bin_f rfl rfl iI (by first | assumption | omega | decide) | exact Q_bin_nt rfl rfl iI (by first | assumption | omega | decide) | exact Q_bin_nf rfl rfl iI (by first | assumption | omega | decide) | exact Q_addI rfl rfl (by omega) | exact Q_subI rfl rfl (by omega) | exact Q_loadA rfl iI iI rfl | exact Q_len rfl iI | exact Q_lenS rfl iI | exact Q_index rfl rfl iI iI iI iI (by first | assumption | omega | (simp [be_length] <;> omega)) | exact Q_fieldR rfl iI iI rfl (by first | assumption | omega | (simp [be_length] <;> omega)) | exact Q_loadR rfl iI iI iI (by assumption) rfl | exact Q_loadR rfl iI iI iI rfl rfl | exact Q_loadRA rfl iI iI iI (by assumption) | exact Q_lenR rfl iI iI | exact Q_lenM rfl iI iI | exact Q_lookupOk_s rfl rfl iI iI iI iI iI (by assumption) | exact Q_lookupOk_n rfl rfl iI iI iI iI iI (by assumption) | exact Q_lookup_s rfl rfl iI iI iI iI iI (by assumption) | exact Q_lookup_n rfl rfl iI iI iI iI iI (by assumption) | exact Q_lookupOk rfl rfl iI iI iI iI iI | exact Q_lookup rfl rfl iI iI iI iI iI | exact Q_maxI rfl rfl | exact Q_max32 rfl rfl iI iI | exact Q_max64 rfl rfl iI iI | exact Q_addS rfl rfl (by first | omega | (simp [be_length] <;> omega)) | exact Q_indexV rfl rfl iI iI iI (by first | assumption | omega) | exact Q_quoI rfl rfl (by omega) | exact Q_remI rfl rfl (by omega) | exact Q_mulI rfl rfl (by omega))
            | ((first | refine LS_binS rfl rfl iI rfl ?_ ?_ | refine LS_binN rfl rfl iI rfl ?_ ?_ | refine DL_binS rfl rfl iI rfl ?_ ?_) <;> intro hc)
            | ((first | refine' LQ ?h rfl ?_ | refine' DL_qp rfl rfl rfl ?h ?_ | refine' DL_q rfl rfl ?h ?_); case h => intro F'; first | exact Q_bin rfl rfl iI)
            | ((first | refine' LS_h ?h rfl ?_ | refine' DL_h ?h rfl rfl rfl ?_); (case h => first | exact H_alloc iI); intro g)
            | ((first | refine' LS_h0 ?h ?_ | refine' DL_h0 ?h rfl rfl ?_); (case h => first | exact H_storeO rfl rfl iI iI iI rfl | exact H_storeAO rfl rfl iI iI iI rfl | exact H_store8 rfl rfl iI iI rfl iI (by first | assumption | omega | (simp [be_length] <;> omega)) | exact H_mapUpdate rfl rfl rfl iI iI iI iI iI | exact H_storeRA _ rfl rfl rfl iI iI iI rfl rfl (by first | assumption | omega | (simp [be_length] <;> omega)) | exact H_storeR _ rfl rfl iI iI iI rfl (by assumption) rfl | exact H_store rfl rfl iI (by first | rfl | assumption) iI rfl | exact H_storeA rfl rfl iI iI (by first | rfl | (simp only [List.all_cons, List.all_nil, *]; rfl)) rfl); intro g)
            | (first | refine WS_block ?_ | refine WS_skip ?_ | refine WS_ret ?_ | refine WS_exit ?_ | refine WS_label ?_)
            | (show WS _ _ _ (.cond _ _ _) _ _; first | refine WS_condT rfl iI ?_ | refine WS_condF rfl iI ?_ | refine WS_condH_t rfl (by assumption) ?_ | refine WS_condH_f rfl (by assumption) ?_ | (refine WS_cond rfl ?_ ?_ <;> intro hc <;> (try simp only [decide_eq_true_eq, decide_eq_false_iff_not, Bool.not_eq_eq_eq_not, Bool.not_true, Bool.not_false, Bool.and_eq_true, Bool.or_eq_true, bne_iff_ne, beq_iff_eq, ne_eq, Decidable.not_not] at hc) <;> (try (exfalso; first | contradiction | omega; done)))))
          exact ⟨k - 1, _, by omega, ⟨j + 1, _, by omega, hsn, by have := hlen; omega, rfl⟩, ⟨rfl, rfl, rfl, rfl, trivial⟩, rfl, by ((try simp only [star_assoc, emp_star, star_emp]); (repeat' (first | exact Ent.last | refine Ent.take ?_ | refine Ent.nilT ?_ | refine Ent.takeR (by first | rfl | assumption | (simp; done)) ?_ | exact Ent.refl _)))⟩
        | some u =>
          rw [hg] at hsn hlen
          simp only [Option.getD_none, Option.getD_some] at hsn hlen
          repeat' (first
            | (show WS _ _ _ (.region 9 _ true) _ _; refine WS_drawK [0, 1, 2, 3, 4, 5, 6, 7, 8] 8 [1, 3, 4, 6, 7] (by decide +kernel) rfl ?_)
            | (refine WS_seqK ?_; intro K hK)
            | (refine hK _ ?_; clear hK K)
            | (with_reducible (first | refine thenS_n ?_ | refine thenS_e ?_ | refine blockS_n ?_ | refine blockS_e ?_ | refine blockS_o rfl ?_ | refine thenS_r ?_ | refine blockS_r ?_ | refine use_K (by assumption) ?_))
            | refine WS_region ?_
            | refine LS_nil ?_
            | (first | refine DL_nilA ?_ | refine DL_nilS ?_ | refine DL_nilN ?_ | refine DL_nilE ?_ | refine DL_nilR ?_)
            | (first | refine DL_claimS rfl ?_ | refine DL_claim rfl rfl ?_)
            | (refine DL_alloc iI rfl ?_; intro g)
            | ((first | refine' LQ ?h rfl ?_ | refine' DL_qp rfl rfl rfl ?h ?_ | refine' DL_q rfl rfl ?h ?_); case h => intro F'; first | exact Q_move rfl | exact Q_assign rfl | exact Q_fieldAddr rfl iI rfl | exact Q_load rfl iI iI rfl | exact Q_bin_t rfl rfl iI (by first | assumption | omega | decide) | exact Q_bin_f rfl rfl iI (by first | assumption | omega | decide) | exact Q_bin_nt rfl rfl iI (by first | assumption | omega | decide) | exact Q_bin_nf rfl rfl iI (by first | assumption | omega | decide) | exact Q_addI rfl rfl (by omega) | exact Q_subI rfl rfl (by omega) | exact Q_loadA rfl iI iI rfl | exact Q_len rfl iI | exact Q_lenS rfl iI | exact Q_index rfl rfl iI iI iI iI (by first | assumption | omega | (simp [be_length] <;> omega)) | exact Q_fieldR rfl iI iI rfl (by first | assumption | omega | (simp [be_length] <;> omega)) | exact Q_loadR rfl iI iI iI (by assumption) rfl | exact Q_loadR rfl iI iI iI rfl rfl | exact Q_loadRA rfl iI iI iI (by assumption) | exact Q_lenR rfl iI iI | exact Q_lenM rfl iI iI | exact Q_lookupOk_s rfl rfl iI iI iI iI iI (by assumption) | exact Q_lookupOk_n rfl rfl iI iI iI iI iI (by assumption) | exact Q_lookup_s rfl rfl iI iI iI iI iI (by assumption) | exact Q_lookup_n rfl rfl iI iI iI iI iI (by assumption) | exact Q_lookupOk rfl rfl iI iI iI iI iI | exact Q_lookup rfl rfl iI iI iI iI iI | exact Q_maxI rfl rfl | exact Q_max32 rfl rfl iI iI | exact Q_max64 rfl rfl iI iI | exact Q_addS rfl rfl (by first | omega | (simp [be_length] <;> omega)) | exact Q_indexV rfl rfl iI iI iI (by first | assumption | omega) | exact Q_quoI rfl rfl (by omega) | exact Q_remI rfl rfl (by omega) | exact Q_mulI rfl rfl (by omega))
            | ((first | refine LS_binS rfl rfl iI rfl ?_ ?_ | refine LS_binN rfl rfl iI rfl ?_ ?_ | refine DL_binS rfl rfl iI rfl ?_ ?_) <;> intro hc)
            | ((first | refine' LQ ?h rfl ?_ | refine' DL_qp rfl rfl rfl ?h ?_ | refine' DL_q rfl rfl ?h ?_); case h => intro F'; first | exact Q_bin rfl rfl iI)
            | ((first | refine' LS_h ?h rfl ?_ | refine' DL_h ?h rfl rfl rfl ?_); (case h => first | exact H_alloc iI); intro g)
            | ((first | refine' LS_h0 ?h ?_ | refine' DL_h0 ?h rfl rfl ?_); (case h => first | exact H_storeO rfl rfl iI iI iI rfl | exact H_storeAO rfl rfl iI iI iI rfl | exact H_store8 rfl rfl iI iI rfl iI (by first | assumption | omega | (simp [be_length] <;> omega)) | exact H_mapUpdate rfl rfl rfl iI iI iI iI iI | exact H_storeRA _ rfl rfl rfl iI iI iI rfl rfl (by first | assumption | omega | (simp [be_length] <;> omega)) | exact H_storeR _ rfl rfl iI iI iI rfl (by assumption) rfl | exact H_store rfl rfl iI (by first | rfl | assumption) iI rfl | exact H_storeA rfl rfl iI iI (by first | rfl | (simp only [List.all_cons, List.all_nil, *]; rfl)) rfl); intro g)
            | (first | refine WS_block ?_ | refine WS_skip ?_ | refine WS_ret ?_ | refine WS_exit ?_ | refine WS_label ?_)
            | (show WS _ _ _ (.cond _ _ _) _ _; first | refine WS_condT rfl iI ?_ | refine WS_condF rfl iI ?_ | refine WS_condH_t rfl (by assumption) ?_ | refine WS_condH_f rfl (by assumption) ?_ | (refine WS_cond rfl ?_ ?_ <;> intro hc <;> (try simp only [decide_eq_true_eq, decide_eq_false_iff_not, Bool.not_eq_eq_eq_not, Bool.not_true, Bool.not_false, Bool.and_eq_true, Bool.or_eq_true, bne_iff_ne, beq_iff_eq, ne_eq, Decidable.not_not] at hc) <;> (try (exfalso; first | contradiction | omega; done)))))
          exact ⟨k - 1, _, by omega, ⟨j + 1, _, by omega, hsn, by have := hlen; omega, rfl⟩, ⟨rfl, rfl, rfl, rfl, trivial⟩, rfl, by ((try simp only [star_assoc, emp_star, star_emp]); (repeat' (first | exact Ent.last | refine Ent.take ?_ | refine Ent.nilT ?_ | refine Ent.takeR (by first | rfl | assumption | (simp; done)) ?_ | exact Ent.refl _)))⟩
    · obtain rfl : j = l.length := by omega
      rw [List.take_length] at hm
      have hkeys := keysR_spec w0 r
      have hsorted : ∀ g, Spec Tryz.prog w0 156 [.func (.func 203) #[] [ptr g 0].toArray, .func (.func 158) #[] #[]] (cel g 252 [.map (some r)] * mp keyV u32 r m) (fun p : Value × (l : List Rec) × SortedR l => p.1) (fun p => pure' (p.2.1.Perm (m.map (·.1))) * (rows 28 3 Rec.cells p.1 p.2.2.l' * (cel g 252 [.map (some r)] * mp keyV u32 r m))) := fun g =>
        sortedR_spec w0 inferInstance (keysR_iter w0 m r g) (fun xs hx => by have := hx.length_eq; simp at this; omega)
      repeat' (first
        | (refine WS_seqK ?_; intro K hK)
        | (refine hK _ ?_; clear hK K)
        | (with_reducible (first | refine thenS_n ?_ | refine thenS_e ?_ | refine blockS_n ?_ | refine blockS_e ?_ | refine blockS_o rfl ?_ | refine thenS_r ?_ | refine blockS_r ?_ | refine use_K (by assumption) ?_))
        | refine WS_region ?_
        | refine LS_nil ?_
        | (first | refine DL_nilA ?_ | refine DL_nilS ?_ | refine DL_nilN ?_ | refine DL_nilE ?_ | refine DL_nilR ?_)
        | (first | refine DL_claimS rfl ?_ | refine DL_claim rfl rfl ?_)
        | (refine DL_alloc iI rfl ?_; intro g)
        | ((first | refine' LQ ?h rfl ?_ | refine' DL_qp rfl rfl rfl ?h ?_ | refine' DL_q rfl rfl ?h ?_); case h => intro F'; first | exact Q_move rfl | exact Q_assign rfl | exact Q_fieldAddr rfl iI rfl | exact Q_load rfl iI iI rfl | exact Q_bin_t rfl rfl iI (by first | assumption | omega | decide) | exact Q_bin_f rfl rfl iI (by first | assumption | omega | decide) | exact Q_bin_nt rfl rfl iI (by first | assumption | omega | decide) | exact Q_bin_nf rfl rfl iI (by first | assumption | omega | decide) | exact Q_addI rfl rfl (by omega) | exact Q_subI rfl rfl (by omega) | exact Q_loadA rfl iI iI rfl | exact Q_len rfl iI | exact Q_lenS rfl iI | exact Q_index rfl rfl iI iI iI iI (by first | assumption | omega | (simp [be_length] <;> omega)) | exact Q_fieldR rfl iI iI rfl (by first | assumption | omega | (simp [be_length] <;> omega)) | exact Q_loadR rfl iI iI iI (by assumption) rfl | exact Q_loadR rfl iI iI iI rfl rfl | exact Q_loadRA rfl iI iI iI (by assumption) | exact Q_lenR rfl iI iI | exact Q_lenM rfl iI iI | exact Q_lookupOk_s rfl rfl iI iI iI iI iI (by assumption) | exact Q_lookupOk_n rfl rfl iI iI iI iI iI (by assumption) | exact Q_lookup_s rfl rfl iI iI iI iI iI (by assumption) | exact Q_lookup_n rfl rfl iI iI iI iI iI (by assumption) | exact Q_lookupOk rfl rfl iI iI iI iI iI | exact Q_lookup rfl rfl iI iI iI iI iI | exact Q_maxI rfl rfl | exact Q_max32 rfl rfl iI iI | exact Q_max64 rfl rfl iI iI | exact Q_addS rfl rfl (by first | omega | (simp [be_length] <;> omega)) | exact Q_indexV rfl rfl iI iI iI (by first | assumption | omega) | exact Q_quoI rfl rfl (by omega) | exact Q_remI rfl rfl (by omega) | exact Q_mulI rfl rfl (by omega))
        | ((first | refine LS_binS rfl rfl iI rfl ?_ ?_ | refine LS_binN rfl rfl iI rfl ?_ ?_ | refine DL_binS rfl rfl iI rfl ?_ ?_) <;> intro hc)
        | ((first | refine' LQ ?h rfl ?_ | refine' DL_qp rfl rfl rfl ?h ?_ | refine' DL_q rfl rfl ?h ?_); case h => intro F'; first | exact Q_bin rfl rfl iI)
        | ((first | refine' LS_h ?h rfl ?_ | refine' DL_h ?h rfl rfl rfl ?_); (case h => first | exact H_alloc iI); intro g)
        | ((first | refine' LS_h0 ?h ?_ | refine' DL_h0 ?h rfl rfl ?_); (case h => first | exact H_storeO rfl rfl iI iI iI rfl | exact H_storeAO rfl rfl iI iI iI rfl | exact H_store8 rfl rfl iI iI rfl iI (by first | assumption | omega | (simp [be_length] <;> omega)) | exact H_mapUpdate rfl rfl rfl iI iI iI iI iI | exact H_storeRA _ rfl rfl rfl iI iI iI rfl rfl (by first | assumption | omega | (simp [be_length] <;> omega)) | exact H_storeR _ rfl rfl iI iI iI rfl (by assumption) rfl | exact H_store rfl rfl iI (by first | rfl | assumption) iI rfl | exact H_storeA rfl rfl iI iI (by first | rfl | (simp only [List.all_cons, List.all_nil, *]; rfl)) rfl); intro g)
        | (first | refine WS_block ?_ | refine WS_skip ?_ | refine WS_ret ?_ | refine WS_exit ?_ | refine WS_label ?_)
        | (show WS _ _ _ (.cond _ _ _) _ _; first | refine WS_condT rfl iI ?_ | refine WS_condF rfl iI ?_ | refine WS_condH_t rfl (by assumption) ?_ | refine WS_condH_f rfl (by assumption) ?_ | (refine WS_cond rfl ?_ ?_ <;> intro hc <;> (try simp only [decide_eq_true_eq, decide_eq_false_iff_not, Bool.not_eq_eq_eq_not, Bool.not_true, Bool.not_false, Bool.and_eq_true, Bool.or_eq_true, bne_iff_ne, beq_iff_eq, ne_eq, Decidable.not_not] at hc) <;> (try (exfalso; first | contradiction | omega; done))))
        | refine WS_drawS (by kernel_rfl) ?_
        | (refine LS_h (H_callX iI rfl hkeys iI) rfl ?_; intro gk)
        | (refine LS_h (H_callX iI rfl (hsorted gk) iI) rfl ?_; rintro ⟨vk, l0, sk⟩; refine LS_pureI iI fun hp => ?_; dsimp only))
      have hp' : l0.Perm (m.map (·.1)) := hp
      have hpm : sk.l'.Perm (m.map (·.1)) := sk.perm.trans hp'
      have hfin := fill_comp hm hpm sk.rise
      have hkl : sk.l'.length ≤ 100000 := by have := hpm.length_eq; simp at this; omega
      refine WS_loop (fun k τ => ∃ j : Nat, j + k = sk.l'.length ∧ τ = ⟨[(36, .int .i64 (j : Int)), (35, .int .i64 (sk.l'.length : Int)), (34, vk), (7, vk), (3, .map (some r))], [], rows 28 3 Rec.cells vk (fillR m (sk.l'.take j) ++ sk.l'.drop j) * (mp keyV u32 r m * (X * G))⟩) ?_ ?_
      · exact ⟨sk.l'.length, _, ⟨0, by omega, rfl⟩, ⟨rfl, rfl, rfl, rfl, rfl, trivial⟩, rfl, by simp only [List.take_zero, List.drop_zero, fillR, List.map_nil, List.nil_append]; ((try simp only [star_assoc, emp_star, star_emp]); (repeat' (first | exact Ent.last | refine Ent.take ?_ | refine Ent.nilT ?_ | refine Ent.takeR (by first | rfl | assumption | (simp; done)) ?_ | exact Ent.refl _)))⟩
      · rintro k τ ⟨j, hjk2, rfl⟩
        have hfl := fillR_len (m := m) (ks := sk.l') (j := j) (by omega)
        rcases Nat.lt_or_ge j sk.l'.length with hlt | hge
        · obtain ⟨x, hx⟩ : ∃ z, sk.l'[j]? = some z := ⟨_, List.getElem?_eq_getElem hlt⟩
          have hxm : x ∈ m.map (·.1) := hpm.subset (List.mem_of_getElem? hx)
          obtain ⟨u, hu⟩ : ∃ u, mget m x = some u := by
            cases hg : mget m x with
            | none => exact absurd hxm ((mget_none_iff m x).1 hg)
            | some u => exact ⟨u, rfl⟩
          have hat := fillR_at (m := m) hx
          have hst := fillR_step hx hu
          have hj2 : j < (fillR m (sk.l'.take j) ++ sk.l'.drop j).length := by omega
          generalize fillR m (sk.l'.take j) ++ sk.l'.drop j = cur at hat hst hfl hj2 ⊢
          repeat' (first
            | (refine WS_seqK ?_; intro K hK)
            | (refine hK _ ?_; clear hK K)
            | (with_reducible (first | refine thenS_n ?_ | refine thenS_e ?_ | refine blockS_n ?_ | refine blockS_e ?_ | refine blockS_o rfl ?_ | refine thenS_r ?_ | refine blockS_r ?_ | refine use_K (by assumption) ?_))
            | refine WS_region ?_
            | refine LS_nil ?_
            | (first | refine DL_nilA ?_ | refine DL_nilS ?_ | refine DL_nilN ?_ | refine DL_nilE ?_ | refine DL_nilR ?_)
            | (first | refine DL_claimS rfl ?_ | refine DL_claim rfl rfl ?_)
            | (refine DL_alloc iI rfl ?_; intro g)
            | ((first | refine' LQ ?h rfl ?_ | refine' DL_qp rfl rfl rfl ?h ?_ | refine' DL_q rfl rfl ?h ?_); case h => intro F'; first | exact Q_move rfl | exact Q_assign rfl | exact Q_fieldAddr rfl iI rfl | exact Q_load rfl iI iI rfl | exact Q_bin_t rfl rfl iI (by first | assumption | omega | decide) | exact Q_bin_f rfl rfl iI (by first | assumption | omega | decide) | exact Q_bin_nt rfl rfl iI (by first | assumption | omega | decide) | exact Q_bin_nf rfl rfl iI (by first | assumption | omega | decide) | exact Q_addI rfl rfl (by omega) | exact Q_subI rfl rfl (by omega) | exact Q_loadA rfl iI iI rfl | exact Q_len rfl iI | exact Q_lenS rfl iI | exact Q_index rfl rfl iI iI iI iI (by first | assumption | omega | (simp [be_length] <;> omega)) | exact Q_fieldR rfl iI iI rfl (by first | assumption | omega | (simp [be_length] <;> omega)) | exact Q_loadR rfl iI iI iI (by assumption) rfl | exact Q_loadR rfl iI iI iI rfl rfl | exact Q_loadRA rfl iI iI iI (by assumption) | exact Q_lenR rfl iI iI | exact Q_lenM rfl iI iI | exact Q_lookupOk_s rfl rfl iI iI iI iI iI (by assumption) | exact Q_lookupOk_n rfl rfl iI iI iI iI iI (by assumption) | exact Q_lookup_s rfl rfl iI iI iI iI iI (by assumption) | exact Q_lookup_n rfl rfl iI iI iI iI iI (by assumption) | exact Q_lookupOk rfl rfl iI iI iI iI iI | exact Q_lookup rfl rfl iI iI iI iI iI | exact Q_maxI rfl rfl | exact Q_max32 rfl rfl iI iI | exact Q_max64 rfl rfl iI iI | exact Q_addS rfl rfl (by first | omega | (simp [be_length] <;> omega)) | exact Q_indexV rfl rfl iI iI iI (by first | assumption | omega) | exact Q_quoI rfl rfl (by omega) | exact Q_remI rfl rfl (by omega) | exact Q_mulI rfl rfl (by omega))
            | ((first | refine LS_binS rfl rfl iI rfl ?_ ?_ | refine LS_binN rfl rfl iI rfl ?_ ?_ | refine DL_binS rfl rfl iI rfl ?_ ?_) <;> intro hc)
            | ((first | refine' LQ ?h rfl ?_ | refine' DL_qp rfl rfl rfl ?h ?_ | refine' DL_q rfl rfl ?h ?_); case h => intro F'; first | exact Q_bin rfl rfl iI)
            | ((first | refine' LS_h ?h rfl ?_ | refine' DL_h ?h rfl rfl rfl ?_); (case h => first | exact H_alloc iI); intro g)
            | ((first | refine' LS_h0 ?h ?_ | refine' DL_h0 ?h rfl rfl ?_); (case h => first | exact H_storeO rfl rfl iI iI iI rfl | exact H_storeAO rfl rfl iI iI iI rfl | exact H_store8 rfl rfl iI iI rfl iI (by first | assumption | omega | (simp [be_length] <;> omega)) | exact H_mapUpdate rfl rfl rfl iI iI iI iI iI | exact H_storeRA _ rfl rfl rfl iI iI iI rfl rfl (by first | assumption | omega | (simp [be_length] <;> omega)) | exact H_storeR _ rfl rfl iI iI iI rfl (by assumption) rfl | exact H_store rfl rfl iI (by first | rfl | assumption) iI rfl | exact H_storeA rfl rfl iI iI (by first | rfl | (simp only [List.all_cons, List.all_nil, *]; rfl)) rfl); intro g)
            | (first | refine WS_block ?_ | refine WS_skip ?_ | refine WS_ret ?_ | refine WS_exit ?_ | refine WS_label ?_)
            | (show WS _ _ _ (.cond _ _ _) _ _; first | refine WS_condT rfl iI ?_ | refine WS_condF rfl iI ?_ | refine WS_condH_t rfl (by assumption) ?_ | refine WS_condH_f rfl (by assumption) ?_ | (refine WS_cond rfl ?_ ?_ <;> intro hc <;> (try simp only [decide_eq_true_eq, decide_eq_false_iff_not, Bool.not_eq_eq_eq_not, Bool.not_true, Bool.not_false, Bool.and_eq_true, Bool.or_eq_true, bne_iff_ne, beq_iff_eq, ne_eq, Decidable.not_not] at hc) <;> (try (exfalso; first | contradiction | omega; done))))
            | refine WS_drawS (by kernel_rfl) ?_
            | (refine LS_h0 (H_storeR (z := x) { x with seq := u } rfl rfl iI iI iI rfl (by assumption) rfl) ?_; intro g))
          exact ⟨k - 1, _, by omega, ⟨j + 1, by omega, rfl⟩, ⟨rfl, rfl, rfl, rfl, rfl, trivial⟩, rfl, by rw [← hst]; ((try simp only [star_assoc, emp_star, star_emp]); (repeat' (first | exact Ent.last | refine Ent.take ?_ | refine Ent.nilT ?_ | refine Ent.takeR (by first | rfl | assumption | (simp; done)) ?_ | exact Ent.refl _)))⟩
        · obtain rfl : j = sk.l'.length := by omega
          rw [List.take_length, List.drop_length, List.append_nil, hfin]
          repeat' (first
            | (refine WS_seqK ?_; intro K hK)
            | (refine hK _ ?_; clear hK K)
            | (with_reducible (first | refine thenS_n ?_ | refine thenS_e ?_ | refine blockS_n ?_ | refine blockS_e ?_ | refine blockS_o rfl ?_ | refine thenS_r ?_ | refine blockS_r ?_ | refine use_K (by assumption) ?_))
            | refine WS_region ?_
            | refine LS_nil ?_
            | (first | refine DL_nilA ?_ | refine DL_nilS ?_ | refine DL_nilN ?_ | refine DL_nilE ?_ | refine DL_nilR ?_)
            | (first | refine DL_claimS rfl ?_ | refine DL_claim rfl rfl ?_)
            | (refine DL_alloc iI rfl ?_; intro g)
            | ((first | refine' LQ ?h rfl ?_ | refine' DL_qp rfl rfl rfl ?h ?_ | refine' DL_q rfl rfl ?h ?_); case h => intro F'; first | exact Q_move rfl | exact Q_assign rfl | exact Q_fieldAddr rfl iI rfl | exact Q_load rfl iI iI rfl | exact Q_bin_t rfl rfl iI (by first | assumption | omega | decide) | exact Q_bin_f rfl rfl iI (by first | assumption | omega | decide) | exact Q_bin_nt rfl rfl iI (by first | assumption | omega | decide) | exact Q_bin_nf rfl rfl iI (by first | assumption | omega | decide) | exact Q_addI rfl rfl (by omega) | exact Q_subI rfl rfl (by omega) | exact Q_loadA rfl iI iI rfl | exact Q_len rfl iI | exact Q_lenS rfl iI | exact Q_index rfl rfl iI iI iI iI (by first | assumption | omega | (simp [be_length] <;> omega)) | exact Q_fieldR rfl iI iI rfl (by first | assumption | omega | (simp [be_length] <;> omega)) | exact Q_loadR rfl iI iI iI (by assumption) rfl | exact Q_loadR rfl iI iI iI rfl rfl | exact Q_loadRA rfl iI iI iI (by assumption) | exact Q_lenR rfl iI iI | exact Q_lenM rfl iI iI | exact Q_lookupOk_s rfl rfl iI iI iI iI iI (by assumption) | exact Q_lookupOk_n rfl rfl iI iI iI iI iI (by assumption) | exact Q_lookup_s rfl rfl iI iI iI iI iI (by assumption) | exact Q_lookup_n rfl rfl iI iI iI iI iI (by assumption) | exact Q_lookupOk rfl rfl iI iI iI iI iI | exact Q_lookup rfl rfl iI iI iI iI iI | exact Q_maxI rfl rfl | exact Q_max32 rfl rfl iI iI | exact Q_max64 rfl rfl iI iI | exact Q_addS rfl rfl (by first | omega | (simp [be_length] <;> omega)) | exact Q_indexV rfl rfl iI iI iI (by first | assumption | omega) | exact Q_quoI rfl rfl (by omega) | exact Q_remI rfl rfl (by omega) | exact Q_mulI rfl rfl (by omega))
            | ((first | refine LS_binS rfl rfl iI rfl ?_ ?_ | refine LS_binN rfl rfl iI rfl ?_ ?_ | refine DL_binS rfl rfl iI rfl ?_ ?_) <;> intro hc)
            | ((first | refine' LQ ?h rfl ?_ | refine' DL_qp rfl rfl rfl ?h ?_ | refine' DL_q rfl rfl ?h ?_); case h => intro F'; first | exact Q_bin rfl rfl iI)
            | ((first | refine' LS_h ?h rfl ?_ | refine' DL_h ?h rfl rfl rfl ?_); (case h => first | exact H_alloc iI); intro g)
            | ((first | refine' LS_h0 ?h ?_ | refine' DL_h0 ?h rfl rfl ?_); (case h => first | exact H_storeO rfl rfl iI iI iI rfl | exact H_storeAO rfl rfl iI iI iI rfl | exact H_store8 rfl rfl iI iI rfl iI (by first | assumption | omega | (simp [be_length] <;> omega)) | exact H_mapUpdate rfl rfl rfl iI iI iI iI iI | exact H_storeRA _ rfl rfl rfl iI iI iI rfl rfl (by first | assumption | omega | (simp [be_length] <;> omega)) | exact H_storeR _ rfl rfl iI iI iI rfl (by assumption) rfl | exact H_store rfl rfl iI (by first | rfl | assumption) iI rfl | exact H_storeA rfl rfl iI iI (by first | rfl | (simp only [List.all_cons, List.all_nil, *]; rfl)) rfl); intro g)
            | (first | refine WS_block ?_ | refine WS_skip ?_ | refine WS_ret ?_ | refine WS_exit ?_ | refine WS_label ?_)
            | (show WS _ _ _ (.cond _ _ _) _ _; first | refine WS_condT rfl iI ?_ | refine WS_condF rfl iI ?_ | refine WS_condH_t rfl (by assumption) ?_ | refine WS_condH_f rfl (by assumption) ?_ | (refine WS_cond rfl ?_ ?_ <;> intro hc <;> (try simp only [decide_eq_true_eq, decide_eq_false_iff_not, Bool.not_eq_eq_eq_not, Bool.not_true, Bool.not_false, Bool.and_eq_true, Bool.or_eq_true, bne_iff_ne, beq_iff_eq, ne_eq, Decidable.not_not] at hc) <;> (try (exfalso; first | contradiction | omega; done))))
            | refine WS_drawS (by kernel_rfl) ?_)
          exact ret_tmp (.inl rfl) rfl rfl ⟨vk, rfl, by ((try simp only [star_assoc, emp_star, star_emp]); (repeat' (first | exact Ent.last | refine Ent.take ?_ | refine Ent.nilT ?_ | refine Ent.takeR (by first | rfl | assumption | (simp; done)) ?_ | exact Ent.refl _)))⟩
end Go.Proofs.YtapoehkdnglahabGreat

