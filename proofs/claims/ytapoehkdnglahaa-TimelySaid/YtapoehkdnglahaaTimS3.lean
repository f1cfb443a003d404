/- What package timers hands out, by a walk. -/
import Derived.Test.YtapoehkdnglahaaTimS2
namespace Go.Proofs.Ytapoehkdnglahaa
open Go.RowKit
set_option linter.unusedVariables false
set_option linter.unusedSimpArgs false
attribute [local irreducible] WS LS OpQ OpT OpH OpTQ Spec SpecQ cel
variable (w0 : World)
/-- A heap that holds l. -/
def heapQ (b r : Nat) (last : Int) (l : List Tm) : HProp := hex fun v => hex fun m => pure' (PlOk l m) * heapP b v r last l m
theorem Ent.heapQ {b r : Nat} {last : Int} {l : List Tm} {v : Value} {m : List (Int × Int)} {H F : HProp} (hm : PlOk l m) (h : Ent H (heapP b v r last l m * F)) : Ent H (heapQ b r last l * F) :=
  h.trans ((Ent.pure_in hm).trans ((Ent.of_eq (star_assoc _ _ _).symm).trans ((Ent.hex_in (p := fun m => pure' (PlOk l m) * heapP b v r last l m) m).trans (Ent.hex_in (p := fun v => hex fun m => pure' (PlOk l m) * heapP b v r last l m) v))))
theorem WS_heapQ {P : Program} {n : Frm} {w0 : World} {c : Code} {Q : Exit → St → Prop} {E : Env} {D : List Deferred} {F : HProp} {b r : Nat} {last : Int} {l : List Tm} (h : ∀ v m, PlOk l m → WS P n w0 c Q ⟨E, D, heapP b v r last l m * F⟩) : WS P n w0 c Q ⟨E, D, heapQ b r last l * F⟩ := by
  refine WS_hex fun v => WS_hex fun m => ?_
  exact WS_pureI inferInstance (h v m)
theorem IdN.cut {l : List Tm} {i : Nat} (hn : IdN l) (hi : i < l.length) : IdN (cutF l i) :=
  (hn.perm (swp_perm hi (show l.length - 1 < l.length by omega)).symm).sublist ((List.take_sublist _ _).map _)
set_option maxRecDepth 100000 in
theorem hadd_spec (b r : Nat) (last : Int) (l : List Tm) (t : UInt64) (x : Int) (hx : ∀ u ∈ l, u.id ≠ last + 1) (hn : IdN l) (hl : l.length ≤ 900000) (h0 : 0 ≤ last ∧ last ≤ 900000) :
    Spec Try.prog w0 65 [ptr b 0, u64 t, .int .i64 x] (heapQ b r last l) (fun _ : Unit => .int .i64 (last + 1)) (fun _ => heapQ b r (last + 1) (addF l (Tm.mk t (last + 1) x))) := by
  refine Spec.enter Try.func65 rfl Try.ntmps65 rfl fun G => ?_
  simp only [argE]
  refine WS_heapQ fun v m hm => ?_
  have hn' : IdN (l ++ [(Tm.mk t (last + 1) x)]) := by
    unfold IdN at hn ⊢
    rw [List.map_append, List.nodup_append]
    refine ⟨hn, by simp, ?_⟩
    intro a ha c hc
    obtain ⟨u, hu, rfl⟩ := List.mem_map.1 ha
    simp at hc; subst hc; exact hx u hu
  have e : ((l ++ [(Tm.mk t (last + 1) x)]).length : Int) - 1 = (l.length : Int) := by simp
  repeat' (first
    | (show WS _ _ _ (.region 2 _ true) _ _; refine WS_drawK [0, 1, 2, 3, 4, 5, 6, 7, 8, 9, 10, 11, 12, 13, 14, 15, 16] 13 [4, 9] (by kernel_rfl) rfl ?_)
    | (show WS _ _ _ (.region 3 _ true) _ _; refine WS_drawK [0, 1, 2, 3, 4, 5, 6, 7, 8, 9, 10, 11, 12, 13, 14] 14 [3, 7, 11, 12] (by kernel_rfl) rfl ?_)
    | (refine WS_seqK ?_; intro K hK)
    | (refine hK _ ?_; clear hK K)
    | with_reducible refine thenS_n ?_
    | with_reducible refine thenS_e ?_
    | with_reducible refine blockS_n ?_
    | with_reducible refine blockS_e ?_
    | with_reducible refine blockS_o rfl ?_
    | with_reducible refine thenS_r ?_
    | with_reducible refine blockS_r ?_
    | with_reducible refine use_K (by assumption) ?_
    | refine WS_region ?_
    | refine LS_nil ?_
    | (show LS _ _ _ _ _ (⟨some _, .move _, _, _, _, none⟩ :: _) _; first | refine LS_q (Q_move rfl) rfl ?_)
    | (show LS _ _ _ _ _ (⟨some _, .fieldAddr _ _ _, _, _, _, none⟩ :: _) _; first | refine LS_q (Q_fieldAddr rfl inferInstance rfl) rfl ?_ | refine LS_q (Q_fieldR rfl inferInstance inferInstance rfl (by first | assumption | omega | ((try simp only [List.length_append, List.length_cons, List.length_nil, be_length, List.length_set]); omega))) rfl ?_)
    | (show LS _ _ _ _ _ (⟨some _, .load _ _, _, _, _, none⟩ :: _) _; first | refine LS_q (Q_load rfl inferInstance inferInstance rfl) rfl ?_ | refine LS_q (Q_loadA rfl inferInstance inferInstance rfl) rfl ?_ | refine LS_q (Q_loadR rfl inferInstance inferInstance inferInstance (by assumption) rfl) rfl ?_ | refine LS_q (Q_loadR rfl inferInstance inferInstance inferInstance rfl rfl) rfl ?_ | refine LS_q (Q_loadRA rfl inferInstance inferInstance inferInstance (by assumption)) rfl ?_)
    | (show LS _ _ _ _ _ (⟨some _, .binOp _ _ _ _ _, _, _, _, none⟩ :: _) _; first | refine LS_q (Q_bin_t rfl rfl inferInstance (by first | assumption | omega | decide)) rfl ?_ | refine LS_q (Q_bin_f rfl rfl inferInstance (by first | assumption | omega | decide)) rfl ?_ | refine LS_q (Q_bin_nt rfl rfl inferInstance (by first | assumption | omega | decide)) rfl ?_ | refine LS_q (Q_bin_nf rfl rfl inferInstance (by first | assumption | omega | decide)) rfl ?_ | (refine LS_binS rfl rfl inferInstance rfl ?_ ?_ <;> intro hc) | (refine LS_binN rfl rfl inferInstance rfl ?_ ?_ <;> intro hc) | refine LS_q (Q_bin rfl rfl inferInstance) rfl ?_ | refine LS_q (Q_addI rfl rfl (by omega)) rfl ?_ | refine LS_q (Q_subI rfl rfl (by omega)) rfl ?_ | refine LS_q (Q_addS rfl rfl (by (try simp only [List.length_append, List.length_cons, List.length_nil, be_length, List.length_set]); omega)) rfl ?_ | refine LS_q (Q_quoI rfl rfl (by omega)) rfl ?_ | refine LS_q (Q_remI rfl rfl (by omega)) rfl ?_ | refine LS_q (Q_mulI rfl rfl (by omega)) rfl ?_)
    | (show LS _ _ _ _ _ (⟨some _, .assign _, _, _, _, none⟩ :: _) _; first | refine LS_q (Q_assign rfl) rfl ?_)
    | (show LS _ _ _ _ _ (⟨some _, .call ⟨.builtin .len, _, _⟩, _, _, _, none⟩ :: _) _; first | refine LS_q (Q_len rfl inferInstance) rfl ?_ | refine LS_q (Q_lenS rfl inferInstance) rfl ?_ | refine LS_q (Q_lenR rfl inferInstance inferInstance) rfl ?_ | refine LS_q (Q_lenM rfl inferInstance inferInstance) rfl ?_)
    | (show LS _ _ _ _ _ (⟨some _, .nilCheck _, _, _, _, none⟩ :: _) _; first | refine LS_q (Q_nilCheck rfl) rfl ?_ | refine LS_q (Q_nilCheck_f rfl) rfl ?_)
    | (show LS _ _ _ _ _ (⟨none, _, _, _, _, none⟩ :: _) _; first | (refine LS_h0 (H_storeO rfl rfl inferInstance inferInstance inferInstance rfl) ?_; intro g) | (refine LS_h0 (H_storeAO rfl rfl inferInstance inferInstance inferInstance rfl) ?_; intro g) | (refine LS_h0 (H_store8 rfl rfl inferInstance inferInstance rfl inferInstance (by first | assumption | omega | ((try simp only [List.length_append, List.length_cons, List.length_nil, be_length, List.length_set]); omega))) ?_; intro g) | (refine LS_h0 (H_storeRA _ rfl rfl rfl inferInstance inferInstance inferInstance rfl rfl (by first | assumption | omega | ((try simp only [List.length_append, List.length_cons, List.length_nil, be_length, List.length_set]); omega))) ?_; intro g) | (refine LS_h0 (H_storeR _ rfl rfl inferInstance inferInstance inferInstance rfl (by assumption) rfl) ?_; intro g) | (refine LS_h0 (H_store rfl rfl inferInstance (by first | rfl | assumption) inferInstance rfl) ?_; intro g) | (refine LS_h0 (H_storeA rfl rfl inferInstance inferInstance (by first | rfl | (simp only [List.all_cons, List.all_nil, *]; rfl)) rfl) ?_; intro g))
    | refine WS_block ?_
    | refine WS_skip ?_
    | refine WS_ret ?_
    | refine WS_exit ?_
    | refine WS_label ?_
    | (show WS _ _ _ (.cond _ _ _) _ _; first | refine WS_condT rfl inferInstance ?_ | refine WS_condF rfl inferInstance ?_ | refine WS_condH_t rfl (by assumption) ?_ | refine WS_condH_f rfl (by assumption) ?_ | (refine WS_cond rfl ?_ ?_ <;> intro hc <;> (try simp only [decide_eq_true_eq, decide_eq_false_iff_not, Bool.not_eq_eq_eq_not, Bool.not_true, Bool.not_false, Bool.and_eq_true, Bool.or_eq_true, bne_iff_ne, beq_iff_eq, ne_eq, Decidable.not_not] at hc) <;> (try (exfalso; first | contradiction | omega; done))))
    | refine DL_nilA ?_
    | refine DL_nilS ?_
    | refine DL_nilN ?_
    | refine DL_nilE ?_
    | refine DL_claimS rfl ?_
    | refine DL_claim rfl rfl ?_
    | (show DL _ _ _ _ _ _ _ _ _ _ _ _ (⟨some _, .move _, _, _, _, none⟩ :: _) _ _; first | refine DL_qp rfl rfl rfl (fun F' => Q_move rfl) ?_ | refine DL_q rfl rfl (fun F' => Q_move rfl) ?_)
    | (show DL _ _ _ _ _ _ _ _ _ _ _ _ (⟨some _, .fieldAddr _ _ _, _, _, _, none⟩ :: _) _ _; first | refine DL_qp rfl rfl rfl (fun F' => Q_fieldAddr rfl inferInstance rfl) ?_ | refine DL_q rfl rfl (fun F' => Q_fieldAddr rfl inferInstance rfl) ?_ | refine DL_qp rfl rfl rfl (fun F' => Q_fieldR rfl inferInstance inferInstance rfl (by first | assumption | omega | ((try simp only [List.length_append, List.length_cons, List.length_nil, be_length, List.length_set]); omega))) ?_ | refine DL_q rfl rfl (fun F' => Q_fieldR rfl inferInstance inferInstance rfl (by first | assumption | omega | ((try simp only [List.length_append, List.length_cons, List.length_nil, be_length, List.length_set]); omega))) ?_)
    | (show DL _ _ _ _ _ _ _ _ _ _ _ _ (⟨some _, .load _ _, _, _, _, none⟩ :: _) _ _; first | refine DL_qp rfl rfl rfl (fun F' => Q_load rfl inferInstance inferInstance rfl) ?_ | refine DL_q rfl rfl (fun F' => Q_load rfl inferInstance inferInstance rfl) ?_ | refine DL_qp rfl rfl rfl (fun F' => Q_loadA rfl inferInstance inferInstance rfl) ?_ | refine DL_q rfl rfl (fun F' => Q_loadA rfl inferInstance inferInstance rfl) ?_ | refine DL_qp rfl rfl rfl (fun F' => Q_loadR rfl inferInstance inferInstance inferInstance (by assumption) rfl) ?_ | refine DL_q rfl rfl (fun F' => Q_loadR rfl inferInstance inferInstance inferInstance (by assumption) rfl) ?_ | refine DL_qp rfl rfl rfl (fun F' => Q_loadR rfl inferInstance inferInstance inferInstance rfl rfl) ?_ | refine DL_q rfl rfl (fun F' => Q_loadR rfl inferInstance inferInstance inferInstance rfl rfl) ?_ | refine DL_qp rfl rfl rfl (fun F' => Q_loadRA rfl inferInstance inferInstance inferInstance (by assumption)) ?_ | refine DL_q rfl rfl (fun F' => Q_loadRA rfl inferInstance inferInstance inferInstance (by assumption)) ?_)
    | (show DL _ _ _ _ _ _ _ _ _ _ _ _ (⟨some _, .binOp _ _ _ _ _, _, _, _, none⟩ :: _) _ _; first | refine DL_qp rfl rfl rfl (fun F' => Q_bin_t rfl rfl inferInstance (by first | assumption | omega | decide)) ?_ | refine DL_q rfl rfl (fun F' => Q_bin_t rfl rfl inferInstance (by first | assumption | omega | decide)) ?_ | refine DL_qp rfl rfl rfl (fun F' => Q_bin_f rfl rfl inferInstance (by first | assumption | omega | decide)) ?_ | refine DL_q rfl rfl (fun F' => Q_bin_f rfl rfl inferInstance (by first | assumption | omega | decide)) ?_ | refine DL_qp rfl rfl rfl (fun F' => Q_bin_nt rfl rfl inferInstance (by first | assumption | omega | decide)) ?_ | refine DL_q rfl rfl (fun F' => Q_bin_nt rfl rfl inferInstance (by first | assumption | omega | decide)) ?_ | refine DL_qp rfl rfl rfl (fun F' => Q_bin_nf rfl rfl inferInstance (by first | assumption | omega | decide)) ?_ | refine DL_q rfl rfl (fun F' => Q_bin_nf rfl rfl inferInstance (by first | assumption | omega | decide)) ?_ | (refine DL_binS rfl rfl inferInstance rfl ?_ ?_ <;> intro hc) | refine DL_qp rfl rfl rfl (fun F' => Q_bin rfl rfl inferInstance) ?_ | refine DL_q rfl rfl (fun F' => Q_bin rfl rfl inferInstance) ?_ | refine DL_qp rfl rfl rfl (fun F' => Q_addI rfl rfl (by omega)) ?_ | refine DL_q rfl rfl (fun F' => Q_addI rfl rfl (by omega)) ?_ | refine DL_qp rfl rfl rfl (fun F' => Q_subI rfl rfl (by omega)) ?_ | refine DL_q rfl rfl (fun F' => Q_subI rfl rfl (by omega)) ?_ | refine DL_qp rfl rfl rfl (fun F' => Q_addS rfl rfl (by (try simp only [List.length_append, List.length_cons, List.length_nil, be_length, List.length_set]); omega)) ?_ | refine DL_q rfl rfl (fun F' => Q_addS rfl rfl (by (try simp only [List.length_append, List.length_cons, List.length_nil, be_length, List.length_set]); omega)) ?_ | refine DL_qp rfl rfl rfl (fun F' => Q_quoI rfl rfl (by omega)) ?_ | refine DL_q rfl rfl (fun F' => Q_quoI rfl rfl (by omega)) ?_ | refine DL_qp rfl rfl rfl (fun F' => Q_remI rfl rfl (by omega)) ?_ | refine DL_q rfl rfl (fun F' => Q_remI rfl rfl (by omega)) ?_ | refine DL_qp rfl rfl rfl (fun F' => Q_mulI rfl rfl (by omega)) ?_ | refine DL_q rfl rfl (fun F' => Q_mulI rfl rfl (by omega)) ?_)
    | (show DL _ _ _ _ _ _ _ _ _ _ _ _ (⟨some _, .call ⟨.builtin .len, _, _⟩, _, _, _, none⟩ :: _) _ _; first | refine DL_qp rfl rfl rfl (fun F' => Q_len rfl inferInstance) ?_ | refine DL_q rfl rfl (fun F' => Q_len rfl inferInstance) ?_ | refine DL_qp rfl rfl rfl (fun F' => Q_lenS rfl inferInstance) ?_ | refine DL_q rfl rfl (fun F' => Q_lenS rfl inferInstance) ?_ | refine DL_qp rfl rfl rfl (fun F' => Q_lenR rfl inferInstance inferInstance) ?_ | refine DL_q rfl rfl (fun F' => Q_lenR rfl inferInstance inferInstance) ?_ | refine DL_qp rfl rfl rfl (fun F' => Q_lenM rfl inferInstance inferInstance) ?_ | refine DL_q rfl rfl (fun F' => Q_lenM rfl inferInstance inferInstance) ?_)
    | (show DL _ _ _ _ _ _ _ _ _ _ _ _ (⟨some _, .build _ _, _, _, _, none⟩ :: _) _ _; first | refine DL_qp rfl rfl rfl (fun F' => Q_build inferInstance inferInstance rfl rfl) ?_ | refine DL_q rfl rfl (fun F' => Q_build inferInstance inferInstance rfl rfl) ?_ | refine DL_qp rfl rfl rfl (fun F' => Q_buildA inferInstance inferInstance inferInstance rfl rfl) ?_ | refine DL_q rfl rfl (fun F' => Q_buildA inferInstance inferInstance inferInstance rfl rfl) ?_)
    | (show DL _ _ _ _ _ _ _ _ _ _ _ _ (⟨some _, .nilCheck _, _, _, _, none⟩ :: _) _ _; first | refine DL_qp rfl rfl rfl (fun F' => Q_nilCheck rfl) ?_ | refine DL_q rfl rfl (fun F' => Q_nilCheck rfl) ?_ | refine DL_qp rfl rfl rfl (fun F' => Q_nilCheck_f rfl) ?_ | refine DL_q rfl rfl (fun F' => Q_nilCheck_f rfl) ?_)
    | (refine DL_h (H_buildB inferInstance inferInstance inferInstance rfl rfl rfl rfl rfl inferInstance rfl rfl) rfl rfl rfl ?_; intro g)
    | (refine DL_h (H_buildSlice0 inferInstance inferInstance) rfl rfl rfl ?_; intro g)
    | (show DL _ _ _ _ _ _ _ _ _ _ _ _ (⟨some _, .call ⟨.builtin .append, _, _⟩, _, _, _, none⟩ :: _) _ _; first | (refine DL_h (H_appendD rfl rfl inferInstance inferInstance rfl inferInstance inferInstance byteC_one (by (try simp only [List.length_append, List.length_cons, List.length_nil, be_length, List.length_set]); omega) rfl) rfl rfl rfl ?_; intro g) | (refine DL_h (H_appendB rfl rfl inferInstance inferInstance inferInstance rfl rfl inferInstance (by (try simp only [List.length_append, List.length_cons, List.length_nil, be_length, List.length_set]); omega) rfl) rfl rfl rfl ?_; intro g) | (refine DL_h (H_appendS rfl rfl inferInstance rfl inferInstance inferInstance (by (try simp only [List.length_append, List.length_cons, List.length_nil, be_length, List.length_set]); omega) rfl) rfl rfl rfl ?_; intro g))
    | (show DL _ _ _ _ _ _ _ _ _ _ _ _ (⟨none, _, _, _, _, none⟩ :: _) _ _; first | (refine DL_h0 (H_storeO rfl rfl inferInstance inferInstance inferInstance rfl) rfl rfl ?_; intro g) | (refine DL_h0 (H_storeAO rfl rfl inferInstance inferInstance inferInstance rfl) rfl rfl ?_; intro g) | (refine DL_h0 (H_store8 rfl rfl inferInstance inferInstance rfl inferInstance (by first | assumption | omega | ((try simp only [List.length_append, List.length_cons, List.length_nil, be_length, List.length_set]); omega))) rfl rfl ?_; intro g) | (refine DL_h0 (H_mapUpdate rfl rfl rfl inferInstance inferInstance inferInstance inferInstance inferInstance) rfl rfl ?_; intro g) | (refine DL_h0 (H_storeRA _ rfl rfl rfl inferInstance inferInstance inferInstance rfl rfl (by first | assumption | omega | ((try simp only [List.length_append, List.length_cons, List.length_nil, be_length, List.length_set]); omega))) rfl rfl ?_; intro g) | (refine DL_h0 (H_storeR _ rfl rfl inferInstance inferInstance inferInstance rfl (by assumption) rfl) rfl rfl ?_; intro g) | (refine DL_h0 (H_store rfl rfl inferInstance (by first | rfl | assumption) inferInstance rfl) rfl rfl ?_; intro g) | (refine DL_h0 (H_storeA rfl rfl inferInstance inferInstance (by first | rfl | (simp only [List.all_cons, List.all_nil, *]; rfl)) rfl) rfl rfl ?_; intro g))
    | (refine DL_h (H_buildSliceR tmC [(Tm.mk t (last + 1) x)] inferInstance inferInstance inferInstance rfl rfl rfl rfl rfl inferInstance rfl rfl rfl) rfl rfl rfl ?_; intro g)
    | (refine DL_h (H_appendR rfl rfl inferInstance inferInstance rfl inferInstance inferInstance tmC_one (by (try simp only [List.length_append, List.length_cons, List.length_nil, be_length, List.length_set]); omega) rfl) rfl rfl rfl ?_; intro v2)
    | rw [e]
    | (refine LS_hP (H_callX inferInstance rfl (up_spec w0 b v2 r (last + 1) (l ++ [(Tm.mk t (last + 1) x)]) _ l.length _ rfl (by simp) (by simp; omega) (hm.snoc (Tm.mk t (last + 1) x) hx) hn') inferInstance) rfl ?_; intro m2 hm2))
  exact ret_tmp (.inl rfl) rfl rfl ⟨(), rfl, Ent.heapQ (v := v2) hm2 (by ((try simp only [star_assoc, emp_star, star_emp]); (repeat' (first | exact Ent.last | refine Ent.take ?_ | refine Ent.nilT ?_ | refine Ent.takeR (by first | rfl | assumption | (simp; done)) ?_ | exact Ent.refl _))))⟩
theorem heapQ_perm_id {l : List Tm} {i : Nat} (hi : i < l.length) (hn : IdN l) : IdN (cutF l i) := hn.cut hi
theorem cutF_last {l : List Tm} {i : Nat} (hi : i < l.length) : at' (swp l i (l.length - 1)) (l.length - 1) = at' l i := by
  rw [at'_swp hi (by omega)]; simp
set_option maxRecDepth 100000 in
set_option maxHeartbeats 1000000 in
theorem remove_spec (b r : Nat) (last : Int) (l : List Tm) (i : Nat) (x : Int) (hx : x = (i : Int)) (hi : i < l.length) (hn : IdN l) (hl : l.length ≤ 900000) :
    Spec Try.prog w0 99 [ptr b 0, .int .i64 x] (heapQ b r last l) (fun _ : Unit => .agg (tmC (at' l i)).toArray) (fun _ => heapQ b r last (remF l i)) := by
  subst hx
  refine Spec.enter Try.func99 rfl Try.ntmps99 rfl fun G => ?_
  simp only [argE]
  refine WS_heapQ fun v m hm => ?_
  have e : (l.length : Int) - 1 = ((l.length - 1 : Nat) : Int) := by omega
  have hle : l.length - 1 < l.length := by omega
  have hz : (swp l i (l.length - 1))[l.length - 1]? = some (at' l i) := by rw [← cutF_last hi]; exact at'_get (by rw [swp_length]; omega)
  have hle2 : l.length - 1 < (swp l i (l.length - 1)).length := by rw [swp_length]; omega
  have hm1 := hm.swap hn hi hle
  have hn1 := hn.perm (swp_perm hi hle).symm
  have hm2 : PlOk ((swp l i (l.length - 1)).take (l.length - 1)) (mdel (mset (mset m (at' (swp l i (l.length - 1)) i).id (i : Int)) (at' (swp l i (l.length - 1)) (l.length - 1)).id ((l.length - 1 : Nat) : Int)) (at' l i).id) := by
    have h := hm1.pop hn1 (by rw [swp_length]; omega)
    rw [swp_length] at h
    rw [← cutF_last hi]; exact h
  generalize hL : (swp l i (l.length - 1)).take (l.length - 1) = L at hm2
  have hL' : cutF l i = L := hL
  have hn2 : IdN L := hL' ▸ hn.cut hi
  have hLl : L.length = l.length - 1 := by rw [← hL', cutF_length]
  repeat' (first
    | (show WS _ _ _ (.region 5 _ true) _ _; refine WS_drawK [0, 1, 2, 3, 4, 5, 6] 6 [3, 5] (by kernel_rfl) rfl ?_)
    | (refine WS_seqK ?_; intro K hK)
    | (refine hK _ ?_; clear hK K)
    | with_reducible refine thenS_n ?_
    | with_reducible refine thenS_e ?_
    | with_reducible refine blockS_n ?_
    | with_reducible refine blockS_e ?_
    | with_reducible refine blockS_o rfl ?_
    | with_reducible refine thenS_r ?_
    | with_reducible refine blockS_r ?_
    | with_reducible refine use_K (by assumption) ?_
    | refine WS_region ?_
    | refine LS_nil ?_
    | (show LS _ _ _ _ _ (⟨some _, .move _, _, _, _, none⟩ :: _) _; first | refine LS_q (Q_move rfl) rfl ?_)
    | (show LS _ _ _ _ _ (⟨some _, .fieldAddr _ _ _, _, _, _, none⟩ :: _) _; first | refine LS_q (Q_fieldAddr rfl inferInstance rfl) rfl ?_ | refine LS_q (Q_fieldR rfl inferInstance inferInstance rfl (by first | assumption | omega | ((try simp only [List.length_append, List.length_cons, List.length_nil, be_length, List.length_set]); omega))) rfl ?_)
    | (show LS _ _ _ _ _ (⟨some _, .load _ _, _, _, _, none⟩ :: _) _; first | refine LS_q (Q_load rfl inferInstance inferInstance rfl) rfl ?_ | refine LS_q (Q_loadA rfl inferInstance inferInstance rfl) rfl ?_ | refine LS_q (Q_loadR rfl inferInstance inferInstance inferInstance (by assumption) rfl) rfl ?_ | refine LS_q (Q_loadR rfl inferInstance inferInstance inferInstance rfl rfl) rfl ?_ | refine LS_q (Q_loadRA rfl inferInstance inferInstance inferInstance (by assumption)) rfl ?_)
    | (show LS _ _ _ _ _ (⟨some _, .binOp _ _ _ _ _, _, _, _, none⟩ :: _) _; first | refine LS_q (Q_bin_t rfl rfl inferInstance (by first | assumption | omega | decide)) rfl ?_ | refine LS_q (Q_bin_f rfl rfl inferInstance (by first | assumption | omega | decide)) rfl ?_ | refine LS_q (Q_bin_nt rfl rfl inferInstance (by first | assumption | omega | decide)) rfl ?_ | refine LS_q (Q_bin_nf rfl rfl inferInstance (by first | assumption | omega | decide)) rfl ?_ | (refine LS_binS rfl rfl inferInstance rfl ?_ ?_ <;> intro hc) | (refine LS_binN rfl rfl inferInstance rfl ?_ ?_ <;> intro hc) | refine LS_q (Q_bin rfl rfl inferInstance) rfl ?_ | refine LS_q (Q_addI rfl rfl (by omega)) rfl ?_ | refine LS_q (Q_subI rfl rfl (by omega)) rfl ?_ | refine LS_q (Q_addS rfl rfl (by (try simp only [List.length_append, List.length_cons, List.length_nil, be_length, List.length_set]); omega)) rfl ?_ | refine LS_q (Q_quoI rfl rfl (by omega)) rfl ?_ | refine LS_q (Q_remI rfl rfl (by omega)) rfl ?_ | refine LS_q (Q_mulI rfl rfl (by omega)) rfl ?_)
    | (show LS _ _ _ _ _ (⟨some _, .assign _, _, _, _, none⟩ :: _) _; first | refine LS_q (Q_assign rfl) rfl ?_)
    | (show LS _ _ _ _ _ (⟨some _, .call ⟨.builtin .len, _, _⟩, _, _, _, none⟩ :: _) _; first | refine LS_q (Q_len rfl inferInstance) rfl ?_ | refine LS_q (Q_lenS rfl inferInstance) rfl ?_ | refine LS_q (Q_lenR rfl inferInstance inferInstance) rfl ?_ | refine LS_q (Q_lenM rfl inferInstance inferInstance) rfl ?_)
    | (show LS _ _ _ _ _ (⟨some _, .alloc _, _, _, _, none⟩ :: _) _; first | (refine LS_h (H_alloc inferInstance) rfl ?_; intro g))
    | (show LS _ _ _ _ _ (⟨some _, .indexAddr _ _ _, _, _, _, none⟩ :: _) _; first | refine LS_q (Q_index rfl rfl inferInstance inferInstance inferInstance inferInstance (by first | assumption | omega | ((try simp only [List.length_append, List.length_cons, List.length_nil, be_length, List.length_set]); omega))) rfl ?_ | refine LS_q (Q_indexV rfl rfl inferInstance inferInstance inferInstance (by first | assumption | omega)) rfl ?_)
    | (show LS _ _ _ _ _ (⟨some _, .nilCheck _, _, _, _, none⟩ :: _) _; first | refine LS_q (Q_nilCheck rfl) rfl ?_ | refine LS_q (Q_nilCheck_f rfl) rfl ?_)
    | (show LS _ _ _ _ _ (⟨some _, .slice _ _ _ _ _, _, _, _, none⟩ :: _) _; first | refine LS_q (Q_sliceS_h rfl rfl inferInstance inferInstance (by first | assumption | omega)) rfl ?_ | refine LS_q (Q_sliceS_l rfl rfl inferInstance inferInstance (by first | assumption | omega)) rfl ?_ | refine LS_q (Q_sliceR_h rfl rfl inferInstance inferInstance inferInstance inferInstance (by first | assumption | omega | ((try simp only [List.length_append, List.length_cons, List.length_nil, be_length, List.length_set, List.length_take, List.length_drop]); omega))) rfl ?_ | refine LS_q (Q_sliceR_l rfl rfl inferInstance inferInstance inferInstance inferInstance (by first | assumption | omega | ((try simp only [List.length_append, List.length_cons, List.length_nil, be_length, List.length_set, List.length_take, List.length_drop]); omega))) rfl ?_)
    | (show LS _ _ _ _ _ (⟨none, _, _, _, _, none⟩ :: _) _; first | (refine LS_h0 (H_storeO rfl rfl inferInstance inferInstance inferInstance rfl) ?_; intro g) | (refine LS_h0 (H_storeAO rfl rfl inferInstance inferInstance inferInstance rfl) ?_; intro g) | (refine LS_h0 (H_store8 rfl rfl inferInstance inferInstance rfl inferInstance (by first | assumption | omega | ((try simp only [List.length_append, List.length_cons, List.length_nil, be_length, List.length_set]); omega))) ?_; intro g) | (refine LS_h0 (H_storeRA _ rfl rfl rfl inferInstance inferInstance inferInstance rfl rfl (by first | assumption | omega | ((try simp only [List.length_append, List.length_cons, List.length_nil, be_length, List.length_set]); omega))) ?_; intro g) | (refine LS_h0 (H_storeR _ rfl rfl inferInstance inferInstance inferInstance rfl (by assumption) rfl) ?_; intro g) | (refine LS_h0 (H_store rfl rfl inferInstance (by first | rfl | assumption) inferInstance rfl) ?_; intro g) | (refine LS_h0 (H_storeA rfl rfl inferInstance inferInstance (by first | rfl | (simp only [List.all_cons, List.all_nil, *]; rfl)) rfl) ?_; intro g))
    | refine WS_block ?_
    | refine WS_skip ?_
    | refine WS_ret ?_
    | refine WS_exit ?_
    | refine WS_label ?_
    | (show WS _ _ _ (.cond _ _ _) _ _; first | refine WS_condT rfl inferInstance ?_ | refine WS_condF rfl inferInstance ?_ | refine WS_condH_t rfl (by assumption) ?_ | refine WS_condH_f rfl (by assumption) ?_ | (refine WS_cond rfl ?_ ?_ <;> intro hc <;> (try simp only [decide_eq_true_eq, decide_eq_false_iff_not, Bool.not_eq_eq_eq_not, Bool.not_true, Bool.not_false, Bool.and_eq_true, Bool.or_eq_true, bne_iff_ne, beq_iff_eq, ne_eq, Decidable.not_not] at hc) <;> (try (exfalso; first | contradiction | omega; done))))
    | refine DL_nilA ?_
    | refine DL_nilS ?_
    | refine DL_nilN ?_
    | refine DL_nilE ?_
    | refine DL_claimS rfl ?_
    | refine DL_claim rfl rfl ?_
    | (show DL _ _ _ _ _ _ _ _ _ _ _ _ (⟨some _, .move _, _, _, _, none⟩ :: _) _ _; first | refine DL_qp rfl rfl rfl (fun F' => Q_move rfl) ?_ | refine DL_q rfl rfl (fun F' => Q_move rfl) ?_)
    | (show DL _ _ _ _ _ _ _ _ _ _ _ _ (⟨some _, .fieldAddr _ _ _, _, _, _, none⟩ :: _) _ _; first | refine DL_qp rfl rfl rfl (fun F' => Q_fieldAddr rfl inferInstance rfl) ?_ | refine DL_q rfl rfl (fun F' => Q_fieldAddr rfl inferInstance rfl) ?_ | refine DL_qp rfl rfl rfl (fun F' => Q_fieldR rfl inferInstance inferInstance rfl (by first | assumption | omega | ((try simp only [List.length_append, List.length_cons, List.length_nil, be_length, List.length_set]); omega))) ?_ | refine DL_q rfl rfl (fun F' => Q_fieldR rfl inferInstance inferInstance rfl (by first | assumption | omega | ((try simp only [List.length_append, List.length_cons, List.length_nil, be_length, List.length_set]); omega))) ?_)
    | (show DL _ _ _ _ _ _ _ _ _ _ _ _ (⟨some _, .load _ _, _, _, _, none⟩ :: _) _ _; first | refine DL_qp rfl rfl rfl (fun F' => Q_load rfl inferInstance inferInstance rfl) ?_ | refine DL_q rfl rfl (fun F' => Q_load rfl inferInstance inferInstance rfl) ?_ | refine DL_qp rfl rfl rfl (fun F' => Q_loadA rfl inferInstance inferInstance rfl) ?_ | refine DL_q rfl rfl (fun F' => Q_loadA rfl inferInstance inferInstance rfl) ?_ | refine DL_qp rfl rfl rfl (fun F' => Q_loadR rfl inferInstance inferInstance inferInstance (by assumption) rfl) ?_ | refine DL_q rfl rfl (fun F' => Q_loadR rfl inferInstance inferInstance inferInstance (by assumption) rfl) ?_ | refine DL_qp rfl rfl rfl (fun F' => Q_loadR rfl inferInstance inferInstance inferInstance rfl rfl) ?_ | refine DL_q rfl rfl (fun F' => Q_loadR rfl inferInstance inferInstance inferInstance rfl rfl) ?_ | refine DL_qp rfl rfl rfl (fun F' => Q_loadRA rfl inferInstance inferInstance inferInstance (by assumption)) ?_ | refine DL_q rfl rfl (fun F' => Q_loadRA rfl inferInstance inferInstance inferInstance (by assumption)) ?_)
    | (show DL _ _ _ _ _ _ _ _ _ _ _ _ (⟨some _, .nilCheck _, _, _, _, none⟩ :: _) _ _; first | refine DL_qp rfl rfl rfl (fun F' => Q_nilCheck rfl) ?_ | refine DL_q rfl rfl (fun F' => Q_nilCheck rfl) ?_ | refine DL_qp rfl rfl rfl (fun F' => Q_nilCheck_f rfl) ?_ | refine DL_q rfl rfl (fun F' => Q_nilCheck_f rfl) ?_)
    | (show DL _ _ _ _ _ _ _ _ _ _ _ _ (⟨none, _, _, _, _, none⟩ :: _) _ _; first | (refine DL_h0 (H_delete rfl rfl inferInstance inferInstance inferInstance inferInstance) rfl rfl ?_; intro g))
    | rw [e]
    | (refine LS_h (H_callX inferInstance rfl (swap_spec w0 b v r last l m i (l.length - 1) _ _ rfl rfl hi hle) inferInstance) rfl ?_; intro g)
    | (refine LS_hP (H_callX inferInstance rfl (down_spec w0 b (sHead v (l.length - 1)) r last L _ i l.length _ rfl (by omega) (by omega) (by omega) hm2 hn2) inferInstance) rfl ?_; intro m3 hm3)
    | (refine LS_hP (H_callX inferInstance rfl (up_spec w0 b (sHead v (l.length - 1)) r last (downF l.length L i) _ i _ rfl (by rw [(downF_perm _ _ _ (by omega)).length_eq]; omega) (by rw [(downF_perm _ _ _ (by omega)).length_eq]; omega) hm3 (hn2.perm (downF_perm _ _ _ (by omega)).symm)) inferInstance) rfl ?_; intro m4 hm4)
    | (refine LS_ent (Ent.headR (v := v) (l.length - 1)) ?_; rw [hL]))
  · refine ret_1 (.inl rfl) rfl (RV_cell rfl inferInstance inferInstance rfl) ⟨(), rfl, ?_⟩
    rw [remF, if_pos (by omega), hL']
    exact Ent.heapQ (v := sHead v (l.length - 1)) hm4 (by ((try simp only [star_assoc, emp_star, star_emp]); (repeat' (first | exact Ent.last | refine Ent.take ?_ | refine Ent.nilT ?_ | refine Ent.takeR (by first | rfl | assumption | (simp; done)) ?_ | exact Ent.refl _))))
  · refine ret_1 (.inl rfl) rfl (RV_cell rfl inferInstance inferInstance rfl) ⟨(), rfl, ?_⟩
    rw [remF, if_neg (by omega), hL']
    refine Ent.trans (Ent.headR (v := v) (l.length - 1)) ?_
    rw [hL]
    exact Ent.heapQ (v := sHead v (l.length - 1)) hm2 (by ((try simp only [star_assoc, emp_star, star_emp]); (repeat' (first | exact Ent.last | refine Ent.take ?_ | refine Ent.nilT ?_ | refine Ent.takeR (by first | rfl | assumption | (simp; done)) ?_ | exact Ent.refl _))))
end Go.Proofs.Ytapoehkdnglahaa
