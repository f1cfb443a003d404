/- What meshref.Encode returns, by a walk. -/
import Derived.Test.YtapoehkdnglahaaRefS
import Derived.Test.YtapoehkdnglahaaWireS2
import Derived.Test.YtapoehkdnglahaaSub
namespace Go.Proofs.Ytapoehkdnglahaa
open Go.RowKit
set_option linter.unusedVariables false
set_option linter.unusedSimpArgs false
attribute [local irreducible] WS LS OpQ OpT OpH OpTQ Spec SpecQ cel
variable (w0 : World)
theorem Pk.fits_own (p : Pk) : p.Fits ↔ (1 ≤ p.ttl ∧ p.ttl ≤ 255 ∧ 0 ≤ p.hops ∧ p.hops ≤ 255 ∧ p.payload.length ≤ 16) ∧ p = p.own ∧ (p.kind = 1 ∨ p.kind = 2 ∨ (p.kind = 3 ∧ 1 ≤ p.lost.length ∧ p.lost.length ≤ 8) ∨ p.kind = 9) := by
  obtain ⟨ttl, kind, hops, unknown, id, dest, destSeq, from_, fromSeq, life, lost, payload⟩ := p
  by_cases h1 : kind = 1
  · subst h1; cases unknown <;> simp [Pk.Fits, Pk.own] <;> first | (constructor <;> intro h <;> simp_all <;> done) | (intros; simp_all; done)
  · by_cases h2 : kind = 2
    · subst h2; simp [Pk.Fits, Pk.own]; constructor <;> intro h <;> simp_all
    · by_cases h3 : kind = 3
      · subst h3; simp [Pk.Fits, Pk.own]; constructor <;> intro h <;> simp_all <;> omega
      · by_cases h9 : kind = 9
        · subst h9; simp [Pk.Fits, Pk.own]; constructor <;> intro h <;> simp_all
        · simp [Pk.Fits, Pk.own, h1, h2, h3, h9]
theorem own_rdr (p : Pk) (v : Value) (X : HProp) (hX : Rdr w0 X v (UInt32 × UInt32) 2 lostC p.lost) : Rdr w0 X (p.ownV v) (UInt32 × UInt32) 2 lostC p.own.lost := by
  by_cases h3 : p.kind = 3
  · have e1 : p.ownV v = v := if_pos h3
    have e2 : p.own.lost = p.lost := by simp [Pk.own, h3]
    rw [e1, e2]; exact hX
  · have e1 : p.ownV v = .slice none 0 0 := if_neg h3
    have e2 : p.own.lost = [] := by
      simp only [Pk.own, if_neg h3]
      repeat' split
      all_goals rfl
    rw [e1, e2]; exact rdr_nil _ _ _
theorem own_lost_len (p : Pk) : p.own.lost.length ≤ p.lost.length := by
  unfold Pk.own
  repeat' split
  all_goals simp
/-- What meshref.Encode returns. -/
def Pk.ret (p : Pk) : Value := .tuple #[strV p.out, .int .i64 (if p.Fits then 0 else 1)]
theorem Pk.ret_fit {p : Pk} (h : p.Fits) : p.ret = .tuple #[strV p.bytes, .int .i64 0] := by simp [Pk.ret, Pk.out, h]
theorem Pk.ret_not {p : Pk} (h : ¬ p.Fits) : p.ret = .tuple #[strV [], .int .i64 1] := by simp [Pk.ret, Pk.out, h]
set_option maxRecDepth 100000 in
set_option maxHeartbeats 8000000 in
theorem rencode_a (p : Pk) (hp : p.Ok) (h3 : p.kind ≠ 3) (v : Value) (hv : v.oneCell' = true) (X : HProp) [hX : Rdr w0 X v (UInt32 × UInt32) 2 lostC p.lost] : Spec Try.prog w0 20 [p.val v] X (fun _ : Unit => p.ret) (fun _ => X) := by
  have hown := own_spec w0 p v hv
  simp only [Pk.val, Pk.cells] at hown
  have halike := alike_spec w0 p p.own hp.lost (Nat.le_trans (own_lost_len p) hp.lost) v (p.ownV v) X hX (own_rdr w0 p v X hX)
  have hv2 : (p.ownV v).oneCell' = true := by unfold Pk.ownV; rw [if_neg h3]; rfl
  have hfit := p.fits_own
  obtain ⟨⟨t1, t2⟩, ⟨k1, k2⟩, ⟨h1, h2⟩, hl, hs⟩ := hp
  refine Spec.enter Try.func20 rfl Try.ntmps20 rfl fun G => ?_
  simp only [argE, Pk.val, Pk.cells]
  repeat' (first
    | (show WS _ _ _ (.region 5 _ true) _ _; refine WS_drawA [0, 1, 3, 4, 2, 5, 6, 7] (by kernel_rfl) rfl ?_)
    | (show WS _ _ _ (.region 11 _ true) _ _; refine WS_drawA [0, 1, 5, 6, 9, 10, 13, 14, 17, 18, 21, 22, 25, 26, 2, 3, 4, 7, 8, 11, 12, 15, 16, 19, 20, 23, 24, 27, 28, 29, 30] (by kernel_rfl) rfl ?_)
    | (show WS _ _ _ (.region 13 _ true) _ _; refine WS_drawA [0, 1, 2, 3, 6, 7, 10, 11, 14, 15, 18, 19, 4, 5, 8, 9, 12, 13, 16, 17, 20, 21, 22, 23] (by kernel_rfl) rfl ?_)
    | (show WS _ _ _ (.region 21 _ true) _ _; refine WS_drawA [0, 1, 2, 3, 4, 5, 6, 9, 10, 11, 12, 13, 14, 7, 8, 15, 16, 17] (by kernel_rfl) rfl ?_)
    | (show WS _ _ _ (.region 24 _ true) _ _; refine WS_drawA [0, 1, 2, 3, 4, 7, 8, 11, 12, 15, 16, 19, 20, 5, 6, 9, 10, 13, 14, 17, 18, 21, 22, 23] (by kernel_rfl) rfl ?_)
    | (refine WS_seqK ?_; intro K hK)
    | (refine hK _ ?_; clear hK K)
    | with_reducible refine thenS_n ?_
    | with_reducible refine thenS_e ?_
    | with_reducible refine blockS_n ?_
    | with_reducible refine blockS_e ?_
    | with_reducible refine blockS_o rfl ?_
    | with_reducible refine thenS_r ?_
    | with_reducible refine blockS_r ?_
    | with_reducible refine use_K (by assumption) ?_
    | refine WS_region ?_
    | refine LS_nil ?_
    | (show LS _ _ _ _ _ (⟨_, _, _, _, _, some _⟩ :: _) _; first | refine LS_wantT rfl rfl inferInstance rfl ?_ | refine LS_wantF rfl rfl inferInstance rfl ?_ | refine LS_wantU rfl rfl rfl ?_ | (refine LS_wantS rfl rfl rfl ?_ ?_ <;> intro hc <;> (try simp only [decide_eq_true_eq, decide_eq_false_iff_not, Bool.not_eq_eq_eq_not, Bool.not_true, Bool.not_false, Bool.and_eq_true, Bool.or_eq_true, bne_iff_ne, beq_iff_eq, ne_eq, Decidable.not_not] at hc) <;> (try (exfalso; first | contradiction | omega; done))) | (refine LS_wantN rfl ?_ ?_ <;> intro hc <;> (try simp only [decide_eq_true_eq, decide_eq_false_iff_not, Bool.not_eq_eq_eq_not, Bool.not_true, Bool.not_false, Bool.and_eq_true, Bool.or_eq_true, bne_iff_ne, beq_iff_eq, ne_eq, Decidable.not_not] at hc) <;> (try (exfalso; first | contradiction | omega; done))))
    | (show LS _ _ _ _ _ (⟨some _, .move _, _, _, _, none⟩ :: _) _; first | refine LS_q (Q_move rfl) rfl ?_)
    | (show LS _ _ _ _ _ (⟨some _, .fieldAddr _ _ _, _, _, _, none⟩ :: _) _; first | refine LS_q (Q_fieldAddr rfl inferInstance rfl) rfl ?_ | refine LS_q (Q_fieldR rfl inferInstance inferInstance rfl (by first | assumption | omega | ((try simp only [List.length_append, List.length_cons, List.length_nil, be_length, List.length_set]); omega))) rfl ?_)
    | (show LS _ _ _ _ _ (⟨some _, .load _ _, _, _, _, none⟩ :: _) _; first | refine LS_q (Q_load rfl inferInstance inferInstance rfl) rfl ?_ | refine LS_q (Q_loadA rfl inferInstance inferInstance rfl) rfl ?_ | refine LS_q (Q_loadR rfl inferInstance inferInstance inferInstance (by assumption) rfl) rfl ?_ | refine LS_q (Q_loadR rfl inferInstance inferInstance inferInstance rfl rfl) rfl ?_ | refine LS_q (Q_loadRA rfl inferInstance inferInstance inferInstance (by assumption)) rfl ?_)
    | (show LS _ _ _ _ _ (⟨some _, .binOp _ _ _ _ _, _, _, _, none⟩ :: _) _; first | refine LS_q (Q_bin_t rfl rfl inferInstance (by first | assumption | omega | decide)) rfl ?_ | refine LS_q (Q_bin_f rfl rfl inferInstance (by first | assumption | omega | decide)) rfl ?_ | refine LS_q (Q_bin_nt rfl rfl inferInstance (by first | assumption | omega | decide)) rfl ?_ | refine LS_q (Q_bin_nf rfl rfl inferInstance (by first | assumption | omega | decide)) rfl ?_ | (refine LS_binS rfl rfl inferInstance rfl ?_ ?_ <;> intro hc) | (refine LS_binN rfl rfl inferInstance rfl ?_ ?_ <;> intro hc) | refine LS_q (Q_bin rfl rfl inferInstance) rfl ?_ | refine LS_q (Q_addI rfl rfl (by omega)) rfl ?_ | refine LS_q (Q_subI rfl rfl (by omega)) rfl ?_ | refine LS_q (Q_addS rfl rfl (by (try simp only [List.length_append, List.length_cons, List.length_nil, be_length, List.length_set]); omega)) rfl ?_ | refine LS_q (Q_quoI rfl rfl (by omega)) rfl ?_ | refine LS_q (Q_remI rfl rfl (by omega)) rfl ?_ | refine LS_q (Q_mulI rfl rfl (by omega)) rfl ?_)
    | (show LS _ _ _ _ _ (⟨some _, .assign _, _, _, _, none⟩ :: _) _; first | refine LS_q (Q_assign rfl) rfl ?_)
    | (show LS _ _ _ _ _ (⟨some _, .pick _ _ _, _, _, _, none⟩ :: _) _; first | refine LS_q (Q_pick_t rfl inferInstance rfl) rfl ?_ | refine LS_q (Q_pick_f rfl inferInstance rfl) rfl ?_ | refine LS_q (Q_pick rfl rfl rfl) rfl ?_)
    | (show LS _ _ _ _ _ (⟨some _, .call ⟨.builtin .len, _, _⟩, _, _, _, none⟩ :: _) _; first | refine LS_q (Q_len rfl inferInstance) rfl ?_ | refine LS_q (Q_lenS rfl inferInstance) rfl ?_ | refine LS_q (Q_lenR rfl inferInstance inferInstance) rfl ?_ | refine LS_q (Q_lenM rfl inferInstance inferInstance) rfl ?_)
    | (show LS _ _ _ _ _ (⟨some _, .unOp _ _ _, _, _, _, none⟩ :: _) _; first | refine LS_q (Q_un rfl inferInstance) rfl ?_ | refine LS_q (Q_negI rfl (by omega)) rfl ?_)
    | (show LS _ _ _ _ _ (⟨some _, .alloc _, _, _, _, none⟩ :: _) _; first | (refine LS_h (H_alloc inferInstance) rfl ?_; intro g))
    | (show LS _ _ _ _ _ (⟨some _, .box _ _, _, _, _, none⟩ :: _) _; first | (refine LS_h (H_box rfl) rfl ?_; intro g) | (refine LS_h (H_boxO rfl inferInstance) rfl ?_; intro g) | (refine LS_h (H_box1 rfl (by first | rfl | assumption)) rfl ?_; intro g))
    | (show LS _ _ _ _ _ (⟨none, _, _, _, _, none⟩ :: _) _; first | (refine LS_h0 (H_storeO rfl rfl inferInstance inferInstance inferInstance rfl) ?_; intro g) | (refine LS_h0 (H_storeAO rfl rfl inferInstance inferInstance inferInstance rfl) ?_; intro g) | (refine LS_h0 (H_store8 rfl rfl inferInstance inferInstance rfl inferInstance (by first | assumption | omega | ((try simp only [List.length_append, List.length_cons, List.length_nil, be_length, List.length_set]); omega))) ?_; intro g) | (refine LS_h0 (H_storeRA _ rfl rfl rfl inferInstance inferInstance inferInstance rfl rfl (by first | assumption | omega | ((try simp only [List.length_append, List.length_cons, List.length_nil, be_length, List.length_set]); omega))) ?_; intro g) | (refine LS_h0 (H_storeR _ rfl rfl inferInstance inferInstance inferInstance rfl (by assumption) rfl) ?_; intro g) | (refine LS_h0 (H_store rfl rfl inferInstance (by first | rfl | assumption) inferInstance rfl) ?_; intro g) | (refine LS_h0 (H_storeA rfl rfl inferInstance inferInstance (by first | rfl | (simp only [List.all_cons, List.all_nil, *]; rfl)) rfl) ?_; intro g))
    | refine WS_block ?_
    | refine WS_skip ?_
    | refine WS_ret ?_
    | refine WS_exit ?_
    | refine WS_label ?_
    | (show WS _ _ _ (.cond _ _ _) _ _; first | refine WS_condT rfl inferInstance ?_ | refine WS_condF rfl inferInstance ?_ | refine WS_condH_t rfl (by assumption) ?_ | refine WS_condH_f rfl (by assumption) ?_ | (refine WS_cond rfl ?_ ?_ <;> intro hc <;> (try simp only [decide_eq_true_eq, decide_eq_false_iff_not, Bool.not_eq_eq_eq_not, Bool.not_true, Bool.not_false, Bool.and_eq_true, Bool.or_eq_true, bne_iff_ne, beq_iff_eq, ne_eq, Decidable.not_not] at hc) <;> (try (exfalso; first | contradiction | omega; done))))
    | refine DL_nilA ?_
    | refine DL_nilS ?_
    | refine DL_nilN ?_
    | refine DL_nilE ?_
    | refine DL_claimS rfl ?_
    | refine DL_claim rfl rfl ?_
    | (show DL _ _ _ _ _ _ _ _ _ _ _ _ (⟨some _, .move _, _, _, _, none⟩ :: _) _ _; first | refine DL_qp rfl rfl rfl (fun F' => Q_move rfl) ?_ | refine DL_q rfl rfl (fun F' => Q_move rfl) ?_)
    | (show DL _ _ _ _ _ _ _ _ _ _ _ _ (⟨some _, .fieldAddr _ _ _, _, _, _, none⟩ :: _) _ _; first | refine DL_qp rfl rfl rfl (fun F' => Q_fieldAddr rfl inferInstance rfl) ?_ | refine DL_q rfl rfl (fun F' => Q_fieldAddr rfl inferInstance rfl) ?_ | refine DL_qp rfl rfl rfl (fun F' => Q_fieldR rfl inferInstance inferInstance rfl (by first | assumption | omega | ((try simp only [List.length_append, List.length_cons, List.length_nil, be_length, List.length_set]); omega))) ?_ | refine DL_q rfl rfl (fun F' => Q_fieldR rfl inferInstance inferInstance rfl (by first | assumption | omega | ((try simp only [List.length_append, List.length_cons, List.length_nil, be_length, List.length_set]); omega))) ?_)
    | (show DL _ _ _ _ _ _ _ _ _ _ _ _ (⟨some _, .load _ _, _, _, _, none⟩ :: _) _ _; first | refine DL_qp rfl rfl rfl (fun F' => Q_load rfl inferInstance inferInstance rfl) ?_ | refine DL_q rfl rfl (fun F' => Q_load rfl inferInstance inferInstance rfl) ?_ | refine DL_qp rfl rfl rfl (fun F' => Q_loadA rfl inferInstance inferInstance rfl) ?_ | refine DL_q rfl rfl (fun F' => Q_loadA rfl inferInstance inferInstance rfl) ?_ | refine DL_qp rfl rfl rfl (fun F' => Q_loadR rfl inferInstance inferInstance inferInstance (by assumption) rfl) ?_ | refine DL_q rfl rfl (fun F' => Q_loadR rfl inferInstance inferInstance inferInstance (by assumption) rfl) ?_ | refine DL_qp rfl rfl rfl (fun F' => Q_loadR rfl inferInstance inferInstance inferInstance rfl rfl) ?_ | refine DL_q rfl rfl (fun F' => Q_loadR rfl inferInstance inferInstance inferInstance rfl rfl) ?_ | refine DL_qp rfl rfl rfl (fun F' => Q_loadRA rfl inferInstance inferInstance inferInstance (by assumption)) ?_ | refine DL_q rfl rfl (fun F' => Q_loadRA rfl inferInstance inferInstance inferInstance (by assumption)) ?_)
    | (show DL _ _ _ _ _ _ _ _ _ _ _ _ (⟨some _, .binOp _ _ _ _ _, _, _, _, none⟩ :: _) _ _; first | refine DL_qp rfl rfl rfl (fun F' => Q_bin_t rfl rfl inferInstance (by first | assumption | omega | decide)) ?_ | refine DL_q rfl rfl (fun F' => Q_bin_t rfl rfl inferInstance (by first | assumption | omega | decide)) ?_ | refine DL_qp rfl rfl rfl (fun F' => Q_bin_f rfl rfl inferInstance (by first | assumption | omega | decide)) ?_ | refine DL_q rfl rfl (fun F' => Q_bin_f rfl rfl inferInstance (by first | assumption | omega | decide)) ?_ | refine DL_qp rfl rfl rfl (fun F' => Q_bin_nt rfl rfl inferInstance (by first | assumption | omega | decide)) ?_ | refine DL_q rfl rfl (fun F' => Q_bin_nt rfl rfl inferInstance (by first | assumption | omega | decide)) ?_ | refine DL_qp rfl rfl rfl (fun F' => Q_bin_nf rfl rfl inferInstance (by first | assumption | omega | decide)) ?_ | refine DL_q rfl rfl (fun F' => Q_bin_nf rfl rfl inferInstance (by first | assumption | omega | decide)) ?_ | (refine DL_binS rfl rfl inferInstance rfl ?_ ?_ <;> intro hc) | refine DL_qp rfl rfl rfl (fun F' => Q_bin rfl rfl inferInstance) ?_ | refine DL_q rfl rfl (fun F' => Q_bin rfl rfl inferInstance) ?_ | refine DL_qp rfl rfl rfl (fun F' => Q_addI rfl rfl (by omega)) ?_ | refine DL_q rfl rfl (fun F' => Q_addI rfl rfl (by omega)) ?_ | refine DL_qp rfl rfl rfl (fun F' => Q_subI rfl rfl (by omega)) ?_ | refine DL_q rfl rfl (fun F' => Q_subI rfl rfl (by omega)) ?_ | refine DL_qp rfl rfl rfl (fun F' => Q_addS rfl rfl (by (try simp only [List.length_append, List.length_cons, List.length_nil, be_length, List.length_set]); omega)) ?_ | refine DL_q rfl rfl (fun F' => Q_addS rfl rfl (by (try simp only [List.length_append, List.length_cons, List.length_nil, be_length, List.length_set]); omega)) ?_ | refine DL_qp rfl rfl rfl (fun F' => Q_quoI rfl rfl (by omega)) ?_ | refine DL_q rfl rfl (fun F' => Q_quoI rfl rfl (by omega)) ?_ | refine DL_qp rfl rfl rfl (fun F' => Q_remI rfl rfl (by omega)) ?_ | refine DL_q rfl rfl (fun F' => Q_remI rfl rfl (by omega)) ?_ | refine DL_qp rfl rfl rfl (fun F' => Q_mulI rfl rfl (by omega)) ?_ | refine DL_q rfl rfl (fun F' => Q_mulI rfl rfl (by omega)) ?_)
    | (show DL _ _ _ _ _ _ _ _ _ _ _ _ (⟨some _, .assign _, _, _, _, none⟩ :: _) _ _; first | refine DL_qp rfl rfl rfl (fun F' => Q_assign rfl) ?_ | refine DL_q rfl rfl (fun F' => Q_assign rfl) ?_)
    | (show DL _ _ _ _ _ _ _ _ _ _ _ _ (⟨some _, .call ⟨.builtin .len, _, _⟩, _, _, _, none⟩ :: _) _ _; first | refine DL_qp rfl rfl rfl (fun F' => Q_len rfl inferInstance) ?_ | refine DL_q rfl rfl (fun F' => Q_len rfl inferInstance) ?_ | refine DL_qp rfl rfl rfl (fun F' => Q_lenS rfl inferInstance) ?_ | refine DL_q rfl rfl (fun F' => Q_lenS rfl inferInstance) ?_ | refine DL_qp rfl rfl rfl (fun F' => Q_lenR rfl inferInstance inferInstance) ?_ | refine DL_q rfl rfl (fun F' => Q_lenR rfl inferInstance inferInstance) ?_ | refine DL_qp rfl rfl rfl (fun F' => Q_lenM rfl inferInstance inferInstance) ?_ | refine DL_q rfl rfl (fun F' => Q_lenM rfl inferInstance inferInstance) ?_)
    | (show DL _ _ _ _ _ _ _ _ _ _ _ _ (⟨some _, .indexAddr _ _ _, _, _, _, none⟩ :: _) _ _; first | refine DL_qp rfl rfl rfl (fun F' => Q_index rfl rfl inferInstance inferInstance inferInstance inferInstance (by first | assumption | omega | ((try simp only [List.length_append, List.length_cons, List.length_nil, be_length, List.length_set]); omega))) ?_ | refine DL_q rfl rfl (fun F' => Q_index rfl rfl inferInstance inferInstance inferInstance inferInstance (by first | assumption | omega | ((try simp only [List.length_append, List.length_cons, List.length_nil, be_length, List.length_set]); omega))) ?_ | refine DL_qp rfl rfl rfl (fun F' => Q_indexV rfl rfl inferInstance inferInstance inferInstance (by first | assumption | omega)) ?_ | refine DL_q rfl rfl (fun F' => Q_indexV rfl rfl inferInstance inferInstance inferInstance (by first | assumption | omega)) ?_)
    | (refine DL_h (H_callX inferInstance rfl (byteOf_spec w0 _) inferInstance) rfl rfl rfl ?_; intro g)
    | (refine DL_h (H_callX inferInstance rfl (rfour_spec w0 _) inferInstance) rfl rfl rfl ?_; intro g)
    | (refine LS_h (H_callX inferInstance rfl hown inferInstance) rfl ?_; intro g)
    | (refine LS_h (H_callX inferInstance rfl halike inferInstance) rfl ?_; intro g))
  all_goals try refine ret_tmp2 (.inl rfl) rfl rfl rfl ⟨(), (Pk.ret_not ?_).symm, Ent.take Ent.last⟩
  all_goals try (intro hF; rw [hfit] at hF; obtain ⟨⟨_, _, _, _, _⟩, he, _⟩ := hF; first | contradiction | omega)
  all_goals have hF : p.Fits := p.fits_own.2 ⟨⟨by omega, by omega, by omega, by omega, by omega⟩, ‹p = p.own›, by omega⟩
  all_goals refine ret_tmp2 (.inl rfl) rfl rfl rfl ⟨(), ?_, Ent.take Ent.last⟩
  all_goals rw [Pk.ret_fit hF]
  all_goals first
    | (simp [Pk.bytes, ‹p.kind = 1›, ‹p.unknown = true›]; decide)
    | (simp [Pk.bytes, ‹p.kind = 1›, ‹p.unknown = false›]; decide)
    | (simp [Pk.bytes, ‹p.kind = 2›]; decide)
    | (simp [Pk.bytes, ‹p.kind = 9›]; decide)
/-- The string up to the kth element. -/
theorem Pk.upto3 {p : Pk} (h : p.kind = 3) (k : Nat) : [b8 p.ttl] ++ [b8 p.kind] ++ [0, 0] ++ [b8 p.lost.length] ++ lostB (p.lost.take k) = p.upto k := by
  rw [h]; simp [Pk.upto]; decide
set_option maxRecDepth 100000 in
set_option maxHeartbeats 8000000 in
theorem rencode_3 (p : Pk) (hp : p.Ok) (h3 : p.kind = 3) (v : Value) (hv : v.oneCell' = true) (X : HProp) [hX : Rdr w0 X v (UInt32 × UInt32) 2 lostC p.lost] : Spec Try.prog w0 20 [p.val v] X (fun _ : Unit => p.ret) (fun _ => X) := by
  have hown := own_spec w0 p v hv
  simp only [Pk.val, Pk.cells] at hown
  have halike := alike_spec w0 p p.own hp.lost (Nat.le_trans (own_lost_len p) hp.lost) v (p.ownV v) X hX (own_rdr w0 p v X hX)
  have hv2 : (p.ownV v).oneCell' = true := by unfold Pk.ownV; rw [if_pos h3]; exact hv
  have hfit := p.fits_own
  obtain ⟨⟨t1, t2⟩, ⟨k1, k2⟩, ⟨h1, h2⟩, hl, hs⟩ := hp
  refine Spec.enter Try.func20 rfl Try.ntmps20 rfl fun G => ?_
  simp only [argE, Pk.val, Pk.cells]
  repeat' (first
    | (show WS _ _ _ (.region 5 _ true) _ _; refine WS_drawA [0, 1, 3, 4, 2, 5, 6, 7] (by kernel_rfl) rfl ?_)
    | (show WS _ _ _ (.region 11 _ true) _ _; refine WS_drawA [0, 1, 5, 6, 9, 10, 13, 14, 17, 18, 21, 22, 25, 26, 2, 3, 4, 7, 8, 11, 12, 15, 16, 19, 20, 23, 24, 27, 28, 29, 30] (by kernel_rfl) rfl ?_)
    | (show WS _ _ _ (.region 13 _ true) _ _; refine WS_drawA [0, 1, 2, 3, 6, 7, 10, 11, 14, 15, 18, 19, 4, 5, 8, 9, 12, 13, 16, 17, 20, 21, 22, 23] (by kernel_rfl) rfl ?_)
    | (show WS _ _ _ (.region 21 _ true) _ _; refine WS_drawA [0, 1, 2, 3, 4, 5, 6, 9, 10, 11, 12, 13, 14, 7, 8, 15, 16, 17] (by kernel_rfl) rfl ?_)
    | (show WS _ _ _ (.region 24 _ true) _ _; refine WS_drawA [0, 1, 2, 3, 4, 7, 8, 11, 12, 15, 16, 19, 20, 5, 6, 9, 10, 13, 14, 17, 18, 21, 22, 23] (by kernel_rfl) rfl ?_)
    | (refine WS_seqK ?_; intro K hK)
    | (refine hK _ ?_; clear hK K)
    | with_reducible refine thenS_n ?_
    | with_reducible refine thenS_e ?_
    | with_reducible refine blockS_n ?_
    | with_reducible refine blockS_e ?_
    | with_reducible refine blockS_o rfl ?_
    | with_reducible refine thenS_r ?_
    | with_reducible refine blockS_r ?_
    | with_reducible refine use_K (by assumption) ?_
    | refine WS_region ?_
    | refine LS_nil ?_
    | (show LS _ _ _ _ _ (⟨_, _, _, _, _, some _⟩ :: _) _; first | refine LS_wantT rfl rfl inferInstance rfl ?_ | refine LS_wantF rfl rfl inferInstance rfl ?_ | refine LS_wantU rfl rfl rfl ?_ | (refine LS_wantS rfl rfl rfl ?_ ?_ <;> intro hc <;> (try simp only [decide_eq_true_eq, decide_eq_false_iff_not, Bool.not_eq_eq_eq_not, Bool.not_true, Bool.not_false, Bool.and_eq_true, Bool.or_eq_true, bne_iff_ne, beq_iff_eq, ne_eq, Decidable.not_not] at hc) <;> (try (exfalso; first | contradiction | omega; done))) | (refine LS_wantN rfl ?_ ?_ <;> intro hc <;> (try simp only [decide_eq_true_eq, decide_eq_false_iff_not, Bool.not_eq_eq_eq_not, Bool.not_true, Bool.not_false, Bool.and_eq_true, Bool.or_eq_true, bne_iff_ne, beq_iff_eq, ne_eq, Decidable.not_not] at hc) <;> (try (exfalso; first | contradiction | omega; done))))
    | (show LS _ _ _ _ _ (⟨some _, .move _, _, _, _, none⟩ :: _) _; first | refine LS_q (Q_move rfl) rfl ?_)
    | (show LS _ _ _ _ _ (⟨some _, .fieldAddr _ _ _, _, _, _, none⟩ :: _) _; first | refine LS_q (Q_fieldAddr rfl inferInstance rfl) rfl ?_ | refine LS_q (Q_fieldR rfl inferInstance inferInstance rfl (by first | assumption | omega | ((try simp only [List.length_append, List.length_cons, List.length_nil, be_length, List.length_set]); omega))) rfl ?_)
    | (show LS _ _ _ _ _ (⟨some _, .load _ _, _, _, _, none⟩ :: _) _; first | refine LS_q (Q_load rfl inferInstance inferInstance rfl) rfl ?_ | refine LS_q (Q_loadA rfl inferInstance inferInstance rfl) rfl ?_ | refine LS_q (Q_loadR rfl inferInstance inferInstance inferInstance (by assumption) rfl) rfl ?_ | refine LS_q (Q_loadR rfl inferInstance inferInstance inferInstance rfl rfl) rfl ?_ | refine LS_q (Q_loadRA rfl inferInstance inferInstance inferInstance (by assumption)) rfl ?_)
    | (show LS _ _ _ _ _ (⟨some _, .binOp _ _ _ _ _, _, _, _, none⟩ :: _) _; first | refine LS_q (Q_bin_t rfl rfl inferInstance (by first | assumption | omega | decide)) rfl ?_ | refine LS_q (Q_bin_f rfl rfl inferInstance (by first | assumption | omega | decide)) rfl ?_ | refine LS_q (Q_bin_nt rfl rfl inferInstance (by first | assumption | omega | decide)) rfl ?_ | refine LS_q (Q_bin_nf rfl rfl inferInstance (by first | assumption | omega | decide)) rfl ?_ | (refine LS_binS rfl rfl inferInstance rfl ?_ ?_ <;> intro hc) | (refine LS_binN rfl rfl inferInstance rfl ?_ ?_ <;> intro hc) | refine LS_q (Q_bin rfl rfl inferInstance) rfl ?_ | refine LS_q (Q_addI rfl rfl (by omega)) rfl ?_ | refine LS_q (Q_subI rfl rfl (by omega)) rfl ?_ | refine LS_q (Q_addS rfl rfl (by (try simp only [List.length_append, List.length_cons, List.length_nil, be_length, List.length_set]); omega)) rfl ?_ | refine LS_q (Q_quoI rfl rfl (by omega)) rfl ?_ | refine LS_q (Q_remI rfl rfl (by omega)) rfl ?_ | refine LS_q (Q_mulI rfl rfl (by omega)) rfl ?_)
    | (show LS _ _ _ _ _ (⟨some _, .assign _, _, _, _, none⟩ :: _) _; first | refine LS_q (Q_assign rfl) rfl ?_)
    | (show LS _ _ _ _ _ (⟨some _, .pick _ _ _, _, _, _, none⟩ :: _) _; first | refine LS_q (Q_pick_t rfl inferInstance rfl) rfl ?_ | refine LS_q (Q_pick_f rfl inferInstance rfl) rfl ?_ | refine LS_q (Q_pick rfl rfl rfl) rfl ?_)
    | (show LS _ _ _ _ _ (⟨some _, .call ⟨.builtin .len, _, _⟩, _, _, _, none⟩ :: _) _; first | refine LS_q (Q_len rfl inferInstance) rfl ?_ | refine LS_q (Q_lenS rfl inferInstance) rfl ?_ | refine LS_q (Q_lenR rfl inferInstance inferInstance) rfl ?_ | refine LS_q (Q_lenM rfl inferInstance inferInstance) rfl ?_)
    | (show LS _ _ _ _ _ (⟨some _, .unOp _ _ _, _, _, _, none⟩ :: _) _; first | refine LS_q (Q_un rfl inferInstance) rfl ?_ | refine LS_q (Q_negI rfl (by omega)) rfl ?_)
    | (show LS _ _ _ _ _ (⟨some _, .alloc _, _, _, _, none⟩ :: _) _; first | (refine LS_h (H_alloc inferInstance) rfl ?_; intro g))
    | (show LS _ _ _ _ _ (⟨some _, .box _ _, _, _, _, none⟩ :: _) _; first | (refine LS_h (H_box rfl) rfl ?_; intro g) | (refine LS_h (H_boxO rfl inferInstance) rfl ?_; intro g) | (refine LS_h (H_box1 rfl (by first | rfl | assumption)) rfl ?_; intro g))
    | (show LS _ _ _ _ _ (⟨none, _, _, _, _, none⟩ :: _) _; first | (refine LS_h0 (H_storeO rfl rfl inferInstance inferInstance inferInstance rfl) ?_; intro g) | (refine LS_h0 (H_storeAO rfl rfl inferInstance inferInstance inferInstance rfl) ?_; intro g) | (refine LS_h0 (H_store8 rfl rfl inferInstance inferInstance rfl inferInstance (by first | assumption | omega | ((try simp only [List.length_append, List.length_cons, List.length_nil, be_length, List.length_set]); omega))) ?_; intro g) | (refine LS_h0 (H_storeRA _ rfl rfl rfl inferInstance inferInstance inferInstance rfl rfl (by first | assumption | omega | ((try simp only [List.length_append, List.length_cons, List.length_nil, be_length, List.length_set]); omega))) ?_; intro g) | (refine LS_h0 (H_storeR _ rfl rfl inferInstance inferInstance inferInstance rfl (by assumption) rfl) ?_; intro g) | (refine LS_h0 (H_store rfl rfl inferInstance (by first | rfl | assumption) inferInstance rfl) ?_; intro g) | (refine LS_h0 (H_storeA rfl rfl inferInstance inferInstance (by first | rfl | (simp only [List.all_cons, List.all_nil, *]; rfl)) rfl) ?_; intro g))
    | refine WS_block ?_
    | refine WS_skip ?_
    | refine WS_ret ?_
    | refine WS_exit ?_
    | refine WS_label ?_
    | (show WS _ _ _ (.cond _ _ _) _ _; first | refine WS_condT rfl inferInstance ?_ | refine WS_condF rfl inferInstance ?_ | refine WS_condH_t rfl (by assumption) ?_ | refine WS_condH_f rfl (by assumption) ?_ | (refine WS_cond rfl ?_ ?_ <;> intro hc <;> (try simp only [decide_eq_true_eq, decide_eq_false_iff_not, Bool.not_eq_eq_eq_not, Bool.not_true, Bool.not_false, Bool.and_eq_true, Bool.or_eq_true, bne_iff_ne, beq_iff_eq, ne_eq, Decidable.not_not] at hc) <;> (try (exfalso; first | contradiction | omega; done))))
    | refine DL_nilA ?_
    | refine DL_nilS ?_
    | refine DL_nilN ?_
    | refine DL_nilE ?_
    | refine DL_claimS rfl ?_
    | refine DL_claim rfl rfl ?_
    | (show DL _ _ _ _ _ _ _ _ _ _ _ _ (⟨some _, .move _, _, _, _, none⟩ :: _) _ _; first | refine DL_qp rfl rfl rfl (fun F' => Q_move rfl) ?_ | refine DL_q rfl rfl (fun F' => Q_move rfl) ?_)
    | (show DL _ _ _ _ _ _ _ _ _ _ _ _ (⟨some _, .fieldAddr _ _ _, _, _, _, none⟩ :: _) _ _; first | refine DL_qp rfl rfl rfl (fun F' => Q_fieldAddr rfl inferInstance rfl) ?_ | refine DL_q rfl rfl (fun F' => Q_fieldAddr rfl inferInstance rfl) ?_ | refine DL_qp rfl rfl rfl (fun F' => Q_fieldR rfl inferInstance inferInstance rfl (by first | assumption | omega | ((try simp only [List.length_append, List.length_cons, List.length_nil, be_length, List.length_set]); omega))) ?_ | refine DL_q rfl rfl (fun F' => Q_fieldR rfl inferInstance inferInstance rfl (by first | assumption | omega | ((try simp only [List.length_append, List.length_cons, List.length_nil, be_length, List.length_set]); omega))) ?_)
    | (show DL _ _ _ _ _ _ _ _ _ _ _ _ (⟨some _, .load _ _, _, _, _, none⟩ :: _) _ _; first | refine DL_qp rfl rfl rfl (fun F' => Q_load rfl inferInstance inferInstance rfl) ?_ | refine DL_q rfl rfl (fun F' => Q_load rfl inferInstance inferInstance rfl) ?_ | refine DL_qp rfl rfl rfl (fun F' => Q_loadA rfl inferInstance inferInstance rfl) ?_ | refine DL_q rfl rfl (fun F' => Q_loadA rfl inferInstance inferInstance rfl) ?_ | refine DL_qp rfl rfl rfl (fun F' => Q_loadR rfl inferInstance inferInstance inferInstance (by assumption) rfl) ?_ | refine DL_q rfl rfl (fun F' => Q_loadR rfl inferInstance inferInstance inferInstance (by assumption) rfl) ?_ | refine DL_qp rfl rfl rfl (fun F' => Q_loadR rfl inferInstance inferInstance inferInstance rfl rfl) ?_ | refine DL_q rfl rfl (fun F' => Q_loadR rfl inferInstance inferInstance inferInstance rfl rfl) ?_ | refine DL_qp rfl rfl rfl (fun F' => Q_loadRA rfl inferInstance inferInstance inferInstance (by assumption)) ?_ | refine DL_q rfl rfl (fun F' => Q_loadRA rfl inferInstance inferInstance inferInstance (by assumption)) ?_)
    | (show DL _ _ _ _ _ _ _ _ _ _ _ _ (⟨some _, .binOp _ _ _ _ _, _, _, _, none⟩ :: _) _ _; first | refine DL_qp rfl rfl rfl (fun F' => Q_bin_t rfl rfl inferInstance (by first | assumption | omega | decide)) ?_ | refine DL_q rfl rfl (fun F' => Q_bin_t rfl rfl inferInstance (by first | assumption | omega | decide)) ?_ | refine DL_qp rfl rfl rfl (fun F' => Q_bin_f rfl rfl inferInstance (by first | assumption | omega | decide)) ?_ | refine DL_q rfl rfl (fun F' => Q_bin_f rfl rfl inferInstance (by first | assumption | omega | decide)) ?_ | refine DL_qp rfl rfl rfl (fun F' => Q_bin_nt rfl rfl inferInstance (by first | assumption | omega | decide)) ?_ | refine DL_q rfl rfl (fun F' => Q_bin_nt rfl rfl inferInstance (by first | assumption | omega | decide)) ?_ | refine DL_qp rfl rfl rfl (fun F' => Q_bin_nf rfl rfl inferInstance (by first | assumption | omega | decide)) ?_ | refine DL_q rfl rfl (fun F' => Q_bin_nf rfl rfl inferInstance (by first | assumption | omega | decide)) ?_ | (refine DL_binS rfl rfl inferInstance rfl ?_ ?_ <;> intro hc) | refine DL_qp rfl rfl rfl (fun F' => Q_bin rfl rfl inferInstance) ?_ | refine DL_q rfl rfl (fun F' => Q_bin rfl rfl inferInstance) ?_ | refine DL_qp rfl rfl rfl (fun F' => Q_addI rfl rfl (by omega)) ?_ | refine DL_q rfl rfl (fun F' => Q_addI rfl rfl (by omega)) ?_ | refine DL_qp rfl rfl rfl (fun F' => Q_subI rfl rfl (by omega)) ?_ | refine DL_q rfl rfl (fun F' => Q_subI rfl rfl (by omega)) ?_ | refine DL_qp rfl rfl rfl (fun F' => Q_addS rfl rfl (by (try simp only [List.length_append, List.length_cons, List.length_nil, be_length, List.length_set]); omega)) ?_ | refine DL_q rfl rfl (fun F' => Q_addS rfl rfl (by (try simp only [List.length_append, List.length_cons, List.length_nil, be_length, List.length_set]); omega)) ?_ | refine DL_qp rfl rfl rfl (fun F' => Q_quoI rfl rfl (by omega)) ?_ | refine DL_q rfl rfl (fun F' => Q_quoI rfl rfl (by omega)) ?_ | refine DL_qp rfl rfl rfl (fun F' => Q_remI rfl rfl (by omega)) ?_ | refine DL_q rfl rfl (fun F' => Q_remI rfl rfl (by omega)) ?_ | refine DL_qp rfl rfl rfl (fun F' => Q_mulI rfl rfl (by omega)) ?_ | refine DL_q rfl rfl (fun F' => Q_mulI rfl rfl (by omega)) ?_)
    | (show DL _ _ _ _ _ _ _ _ _ _ _ _ (⟨some _, .assign _, _, _, _, none⟩ :: _) _ _; first | refine DL_qp rfl rfl rfl (fun F' => Q_assign rfl) ?_ | refine DL_q rfl rfl (fun F' => Q_assign rfl) ?_)
    | (show DL _ _ _ _ _ _ _ _ _ _ _ _ (⟨some _, .call ⟨.builtin .len, _, _⟩, _, _, _, none⟩ :: _) _ _; first | refine DL_qp rfl rfl rfl (fun F' => Q_len rfl inferInstance) ?_ | refine DL_q rfl rfl (fun F' => Q_len rfl inferInstance) ?_ | refine DL_qp rfl rfl rfl (fun F' => Q_lenS rfl inferInstance) ?_ | refine DL_q rfl rfl (fun F' => Q_lenS rfl inferInstance) ?_ | refine DL_qp rfl rfl rfl (fun F' => Q_lenR rfl inferInstance inferInstance) ?_ | refine DL_q rfl rfl (fun F' => Q_lenR rfl inferInstance inferInstance) ?_ | refine DL_qp rfl rfl rfl (fun F' => Q_lenM rfl inferInstance inferInstance) ?_ | refine DL_q rfl rfl (fun F' => Q_lenM rfl inferInstance inferInstance) ?_)
    | (show DL _ _ _ _ _ _ _ _ _ _ _ _ (⟨some _, .indexAddr _ _ _, _, _, _, none⟩ :: _) _ _; first | refine DL_qp rfl rfl rfl (fun F' => Q_index rfl rfl inferInstance inferInstance inferInstance inferInstance (by first | assumption | omega | ((try simp only [List.length_append, List.length_cons, List.length_nil, be_length, List.length_set]); omega))) ?_ | refine DL_q rfl rfl (fun F' => Q_index rfl rfl inferInstance inferInstance inferInstance inferInstance (by first | assumption | omega | ((try simp only [List.length_append, List.length_cons, List.length_nil, be_length, List.length_set]); omega))) ?_ | refine DL_qp rfl rfl rfl (fun F' => Q_indexV rfl rfl inferInstance inferInstance inferInstance (by first | assumption | omega)) ?_ | refine DL_q rfl rfl (fun F' => Q_indexV rfl rfl inferInstance inferInstance inferInstance (by first | assumption | omega)) ?_)
    | (refine DL_h (H_callX inferInstance rfl (byteOf_spec w0 _) inferInstance) rfl rfl rfl ?_; intro g)
    | (refine LS_h (H_callX inferInstance rfl (byteOf_spec w0 _) inferInstance) rfl ?_; intro g)
    | (refine LS_h (H_callX inferInstance rfl hown inferInstance) rfl ?_; intro g)
    | (refine LS_h (H_callX inferInstance rfl halike inferInstance) rfl ?_; intro g))
  all_goals try refine ret_tmp2 (.inl rfl) rfl rfl rfl ⟨(), (Pk.ret_not ?_).symm, Ent.take Ent.last⟩
  all_goals try (intro hF; rw [hfit] at hF; obtain ⟨⟨_, _, _, _, _⟩, he, _⟩ := hF; first | contradiction | omega)
  refine WS_loop (fun m τ => ∃ k gg, k + m = p.lost.length ∧ τ = ⟨[(9, .int .i64 (k : Int)), (8, strV (p.upto k)), (1, ptr gg 0)], [], cel gg 38 (p.cells v) * (X * G)⟩) ?_ ?_
  · refine ⟨p.lost.length, _, ⟨0, _, by omega, rfl⟩, ⟨rfl, ?_, rfl, trivial⟩, rfl, by dsimp only [Pk.cells]; exact Ent.take (Ent.take Ent.last)⟩
    rw [← Pk.upto3 h3]; simp [lostB]; rfl
  · rintro m τ ⟨k, gg, hkm, rfl⟩
    simp only [Pk.cells]
    have hul := p.upto_length k
    rcases Nat.lt_or_ge k p.lost.length with hlt | hge
    · obtain ⟨z, hz⟩ : ∃ z, p.lost[k]? = some z := ⟨_, List.getElem?_eq_getElem hlt⟩
      repeat' (first
        | (show WS _ _ _ (.region 5 _ true) _ _; refine WS_drawA [0, 1, 3, 4, 2, 5, 6, 7] (by kernel_rfl) rfl ?_)
        | (show WS _ _ _ (.region 11 _ true) _ _; refine WS_drawA [0, 1, 5, 6, 9, 10, 13, 14, 17, 18, 21, 22, 25, 26, 2, 3, 4, 7, 8, 11, 12, 15, 16, 19, 20, 23, 24, 27, 28, 29, 30] (by kernel_rfl) rfl ?_)
        | (show WS _ _ _ (.region 13 _ true) _ _; refine WS_drawA [0, 1, 2, 3, 6, 7, 10, 11, 14, 15, 18, 19, 4, 5, 8, 9, 12, 13, 16, 17, 20, 21, 22, 23] (by kernel_rfl) rfl ?_)
        | (show WS _ _ _ (.region 21 _ true) _ _; refine WS_drawA [0, 1, 2, 3, 4, 5, 6, 9, 10, 11, 12, 13, 14, 7, 8, 15, 16, 17] (by kernel_rfl) rfl ?_)
        | (show WS _ _ _ (.region 24 _ true) _ _; refine WS_drawA [0, 1, 2, 3, 4, 7, 8, 11, 12, 15, 16, 19, 20, 5, 6, 9, 10, 13, 14, 17, 18, 21, 22, 23] (by kernel_rfl) rfl ?_)
        | (refine WS_seqK ?_; intro K hK)
        | (refine hK _ ?_; clear hK K)
        | with_reducible refine thenS_n ?_
        | with_reducible refine thenS_e ?_
        | with_reducible refine blockS_n ?_
        | with_reducible refine blockS_e ?_
        | with_reducible refine blockS_o rfl ?_
        | with_reducible refine thenS_r ?_
        | with_reducible refine blockS_r ?_
        | with_reducible refine use_K (by assumption) ?_
        | refine WS_region ?_
        | refine LS_nil ?_
        | (show LS _ _ _ _ _ (⟨_, _, _, _, _, some _⟩ :: _) _; first | refine LS_wantT rfl rfl inferInstance rfl ?_ | refine LS_wantF rfl rfl inferInstance rfl ?_ | refine LS_wantU rfl rfl rfl ?_ | (refine LS_wantS rfl rfl rfl ?_ ?_ <;> intro hc <;> (try simp only [decide_eq_true_eq, decide_eq_false_iff_not, Bool.not_eq_eq_eq_not, Bool.not_true, Bool.not_false, Bool.and_eq_true, Bool.or_eq_true, bne_iff_ne, beq_iff_eq, ne_eq, Decidable.not_not] at hc) <;> (try (exfalso; first | contradiction | omega; done))) | (refine LS_wantN rfl ?_ ?_ <;> intro hc <;> (try simp only [decide_eq_true_eq, decide_eq_false_iff_not, Bool.not_eq_eq_eq_not, Bool.not_true, Bool.not_false, Bool.and_eq_true, Bool.or_eq_true, bne_iff_ne, beq_iff_eq, ne_eq, Decidable.not_not] at hc) <;> (try (exfalso; first | contradiction | omega; done))))
        | (show LS _ _ _ _ _ (⟨some _, .move _, _, _, _, none⟩ :: _) _; first | refine LS_q (Q_move rfl) rfl ?_)
        | (show LS _ _ _ _ _ (⟨some _, .fieldAddr _ _ _, _, _, _, none⟩ :: _) _; first | refine LS_q (Q_fieldAddr rfl inferInstance rfl) rfl ?_ | refine LS_q (Q_fieldR rfl inferInstance inferInstance rfl (by first | assumption | omega | ((try simp only [List.length_append, List.length_cons, List.length_nil, be_length, List.length_set]); omega))) rfl ?_)
        | (show LS _ _ _ _ _ (⟨some _, .load _ _, _, _, _, none⟩ :: _) _; first | refine LS_q (Q_load rfl inferInstance inferInstance rfl) rfl ?_ | refine LS_q (Q_loadA rfl inferInstance inferInstance rfl) rfl ?_ | refine LS_q (Q_loadR rfl inferInstance inferInstance inferInstance (by assumption) rfl) rfl ?_ | refine LS_q (Q_loadR rfl inferInstance inferInstance inferInstance rfl rfl) rfl ?_ | refine LS_q (Q_loadRA rfl inferInstance inferInstance inferInstance (by assumption)) rfl ?_)
        | (show LS _ _ _ _ _ (⟨some _, .binOp _ _ _ _ _, _, _, _, none⟩ :: _) _; first | refine LS_q (Q_bin_t rfl rfl inferInstance (by first | assumption | omega | decide)) rfl ?_ | refine LS_q (Q_bin_f rfl rfl inferInstance (by first | assumption | omega | decide)) rfl ?_ | refine LS_q (Q_bin_nt rfl rfl inferInstance (by first | assumption | omega | decide)) rfl ?_ | refine LS_q (Q_bin_nf rfl rfl inferInstance (by first | assumption | omega | decide)) rfl ?_ | (refine LS_binS rfl rfl inferInstance rfl ?_ ?_ <;> intro hc) | (refine LS_binN rfl rfl inferInstance rfl ?_ ?_ <;> intro hc) | refine LS_q (Q_bin rfl rfl inferInstance) rfl ?_ | refine LS_q (Q_addI rfl rfl (by omega)) rfl ?_ | refine LS_q (Q_subI rfl rfl (by omega)) rfl ?_ | refine LS_q (Q_addS rfl rfl (by (try simp only [List.length_append, List.length_cons, List.length_nil, be_length, List.length_set]); omega)) rfl ?_ | refine LS_q (Q_quoI rfl rfl (by omega)) rfl ?_ | refine LS_q (Q_remI rfl rfl (by omega)) rfl ?_ | refine LS_q (Q_mulI rfl rfl (by omega)) rfl ?_)
        | (show LS _ _ _ _ _ (⟨some _, .assign _, _, _, _, none⟩ :: _) _; first | refine LS_q (Q_assign rfl) rfl ?_)
        | (show LS _ _ _ _ _ (⟨some _, .pick _ _ _, _, _, _, none⟩ :: _) _; first | refine LS_q (Q_pick_t rfl inferInstance rfl) rfl ?_ | refine LS_q (Q_pick_f rfl inferInstance rfl) rfl ?_ | refine LS_q (Q_pick rfl rfl rfl) rfl ?_)
        | (show LS _ _ _ _ _ (⟨some _, .call ⟨.builtin .len, _, _⟩, _, _, _, none⟩ :: _) _; first | refine LS_q (Q_len rfl inferInstance) rfl ?_ | refine LS_q (Q_lenS rfl inferInstance) rfl ?_ | refine LS_q (Q_lenR rfl inferInstance inferInstance) rfl ?_ | refine LS_q (Q_lenM rfl inferInstance inferInstance) rfl ?_)
        | (show LS _ _ _ _ _ (⟨some _, .unOp _ _ _, _, _, _, none⟩ :: _) _; first | refine LS_q (Q_un rfl inferInstance) rfl ?_ | refine LS_q (Q_negI rfl (by omega)) rfl ?_)
        | (show LS _ _ _ _ _ (⟨some _, .alloc _, _, _, _, none⟩ :: _) _; first | (refine LS_h (H_alloc inferInstance) rfl ?_; intro g))
        | (show LS _ _ _ _ _ (⟨some _, .box _ _, _, _, _, none⟩ :: _) _; first | (refine LS_h (H_box rfl) rfl ?_; intro g) | (refine LS_h (H_boxO rfl inferInstance) rfl ?_; intro g) | (refine LS_h (H_box1 rfl (by first | rfl | assumption)) rfl ?_; intro g))
        | (show LS _ _ _ _ _ (⟨none, _, _, _, _, none⟩ :: _) _; first | (refine LS_h0 (H_storeO rfl rfl inferInstance inferInstance inferInstance rfl) ?_; intro g) | (refine LS_h0 (H_storeAO rfl rfl inferInstance inferInstance inferInstance rfl) ?_; intro g) | (refine LS_h0 (H_store8 rfl rfl inferInstance inferInstance rfl inferInstance (by first | assumption | omega | ((try simp only [List.length_append, List.length_cons, List.length_nil, be_length, List.length_set]); omega))) ?_; intro g) | (refine LS_h0 (H_storeRA _ rfl rfl rfl inferInstance inferInstance inferInstance rfl rfl (by first | assumption | omega | ((try simp only [List.length_append, List.length_cons, List.length_nil, be_length, List.length_set]); omega))) ?_; intro g) | (refine LS_h0 (H_storeR _ rfl rfl inferInstance inferInstance inferInstance rfl (by assumption) rfl) ?_; intro g) | (refine LS_h0 (H_store rfl rfl inferInstance (by first | rfl | assumption) inferInstance rfl) ?_; intro g) | (refine LS_h0 (H_storeA rfl rfl inferInstance inferInstance (by first | rfl | (simp only [List.all_cons, List.all_nil, *]; rfl)) rfl) ?_; intro g))
        | refine WS_block ?_
        | refine WS_skip ?_
        | refine WS_ret ?_
        | refine WS_exit ?_
        | refine WS_label ?_
        | (show WS _ _ _ (.cond _ _ _) _ _; first | refine WS_condT rfl inferInstance ?_ | refine WS_condF rfl inferInstance ?_ | refine WS_condH_t rfl (by assumption) ?_ | refine WS_condH_f rfl (by assumption) ?_ | (refine WS_cond rfl ?_ ?_ <;> intro hc <;> (try simp only [decide_eq_true_eq, decide_eq_false_iff_not, Bool.not_eq_eq_eq_not, Bool.not_true, Bool.not_false, Bool.and_eq_true, Bool.or_eq_true, bne_iff_ne, beq_iff_eq, ne_eq, Decidable.not_not] at hc) <;> (try (exfalso; first | contradiction | omega; done))))
        | refine DL_nilA ?_
        | refine DL_nilS ?_
        | refine DL_nilN ?_
        | refine DL_nilE ?_
        | refine DL_claimS rfl ?_
        | refine DL_claim rfl rfl ?_
        | (show DL _ _ _ _ _ _ _ _ _ _ _ _ (⟨some _, .move _, _, _, _, none⟩ :: _) _ _; first | refine DL_qp rfl rfl rfl (fun F' => Q_move rfl) ?_ | refine DL_q rfl rfl (fun F' => Q_move rfl) ?_)
        | (show DL _ _ _ _ _ _ _ _ _ _ _ _ (⟨some _, .fieldAddr _ _ _, _, _, _, none⟩ :: _) _ _; first | refine DL_qp rfl rfl rfl (fun F' => Q_fieldAddr rfl inferInstance rfl) ?_ | refine DL_q rfl rfl (fun F' => Q_fieldAddr rfl inferInstance rfl) ?_ | refine DL_qp rfl rfl rfl (fun F' => Q_fieldR rfl inferInstance inferInstance rfl (by first | assumption | omega | ((try simp only [List.length_append, List.length_cons, List.length_nil, be_length, List.length_set]); omega))) ?_ | refine DL_q rfl rfl (fun F' => Q_fieldR rfl inferInstance inferInstance rfl (by first | assumption | omega | ((try simp only [List.length_append, List.length_cons, List.length_nil, be_length, List.length_set]); omega))) ?_)
        | (show DL _ _ _ _ _ _ _ _ _ _ _ _ (⟨some _, .load _ _, _, _, _, none⟩ :: _) _ _; first | refine DL_qp rfl rfl rfl (fun F' => Q_load rfl inferInstance inferInstance rfl) ?_ | refine DL_q rfl rfl (fun F' => Q_load rfl inferInstance inferInstance rfl) ?_ | refine DL_qp rfl rfl rfl (fun F' => Q_loadA rfl inferInstance inferInstance rfl) ?_ | refine DL_q rfl rfl (fun F' => Q_loadA rfl inferInstance inferInstance rfl) ?_ | refine DL_qp rfl rfl rfl (fun F' => Q_loadR rfl inferInstance inferInstance inferInstance (by assumption) rfl) ?_ | refine DL_q rfl rfl (fun F' => Q_loadR rfl inferInstance inferInstance inferInstance (by assumption) rfl) ?_ | refine DL_qp rfl rfl rfl (fun F' => Q_loadR rfl inferInstance inferInstance inferInstance rfl rfl) ?_ | refine DL_q rfl rfl (fun F' => Q_loadR rfl inferInstance inferInstance inferInstance rfl rfl) ?_ | refine DL_qp rfl rfl rfl (fun F' => Q_loadRA rfl inferInstance inferInstance inferInstance (by assumption)) ?_ | refine DL_q rfl rfl (fun F' => Q_loadRA rfl inferInstance inferInstance inferInstance (by assumption)) ?_)
        | (show DL _ _ _ _ _ _ _ _ _ _ _ _ (⟨some _, .binOp _ _ _ _ _, _, _, _, none⟩ :: _) _ _; first | refine DL_qp rfl rfl rfl (fun F' => Q_bin_t rfl rfl inferInstance (by first | assumption | omega | decide)) ?_ | refine DL_q rfl rfl (fun F' => Q_bin_t rfl rfl inferInstance (by first | assumption | omega | decide)) ?_ | refine DL_qp rfl rfl rfl (fun F' => Q_bin_f rfl rfl inferInstance (by first | assumption | omega | decide)) ?_ | refine DL_q rfl rfl (fun F' => Q_bin_f rfl rfl inferInstance (by first | assumption | omega | decide)) ?_ | refine DL_qp rfl rfl rfl (fun F' => Q_bin_nt rfl rfl inferInstance (by first | assumption | omega | decide)) ?_ | refine DL_q rfl rfl (fun F' => Q_bin_nt rfl rfl inferInstance (by first | assumption | omega | decide)) ?_ | refine DL_qp rfl rfl rfl (fun F' => Q_bin_nf rfl rfl inferInstance (by first | assumption | omega | decide)) ?_ | refine DL_q rfl rfl (fun F' => Q_bin_nf rfl rfl inferInstance (by first | assumption | omega | decide)) ?_ | (refine DL_binS rfl rfl inferInstance rfl ?_ ?_ <;> intro hc) | refine DL_qp rfl rfl rfl (fun F' => Q_bin rfl rfl inferInstance) ?_ | refine DL_q rfl rfl (fun F' => Q_bin rfl rfl inferInstance) ?_ | refine DL_qp rfl rfl rfl (fun F' => Q_addI rfl rfl (by omega)) ?_ | refine DL_q rfl rfl (fun F' => Q_addI rfl rfl (by omega)) ?_ | refine DL_qp rfl rfl rfl (fun F' => Q_subI rfl rfl (by omega)) ?_ | refine DL_q rfl rfl (fun F' => Q_subI rfl rfl (by omega)) ?_ | refine DL_qp rfl rfl rfl (fun F' => Q_addS rfl rfl (by (try simp only [List.length_append, List.length_cons, List.length_nil, be_length, List.length_set]); omega)) ?_ | refine DL_q rfl rfl (fun F' => Q_addS rfl rfl (by (try simp only [List.length_append, List.length_cons, List.length_nil, be_length, List.length_set]); omega)) ?_ | refine DL_qp rfl rfl rfl (fun F' => Q_quoI rfl rfl (by omega)) ?_ | refine DL_q rfl rfl (fun F' => Q_quoI rfl rfl (by omega)) ?_ | refine DL_qp rfl rfl rfl (fun F' => Q_remI rfl rfl (by omega)) ?_ | refine DL_q rfl rfl (fun F' => Q_remI rfl rfl (by omega)) ?_ | refine DL_qp rfl rfl rfl (fun F' => Q_mulI rfl rfl (by omega)) ?_ | refine DL_q rfl rfl (fun F' => Q_mulI rfl rfl (by omega)) ?_)
        | (show DL _ _ _ _ _ _ _ _ _ _ _ _ (⟨some _, .assign _, _, _, _, none⟩ :: _) _ _; first | refine DL_qp rfl rfl rfl (fun F' => Q_assign rfl) ?_ | refine DL_q rfl rfl (fun F' => Q_assign rfl) ?_)
        | (show DL _ _ _ _ _ _ _ _ _ _ _ _ (⟨some _, .call ⟨.builtin .len, _, _⟩, _, _, _, none⟩ :: _) _ _; first | refine DL_qp rfl rfl rfl (fun F' => Q_len rfl inferInstance) ?_ | refine DL_q rfl rfl (fun F' => Q_len rfl inferInstance) ?_ | refine DL_qp rfl rfl rfl (fun F' => Q_lenS rfl inferInstance) ?_ | refine DL_q rfl rfl (fun F' => Q_lenS rfl inferInstance) ?_ | refine DL_qp rfl rfl rfl (fun F' => Q_lenR rfl inferInstance inferInstance) ?_ | refine DL_q rfl rfl (fun F' => Q_lenR rfl inferInstance inferInstance) ?_ | refine DL_qp rfl rfl rfl (fun F' => Q_lenM rfl inferInstance inferInstance) ?_ | refine DL_q rfl rfl (fun F' => Q_lenM rfl inferInstance inferInstance) ?_)
        | (show DL _ _ _ _ _ _ _ _ _ _ _ _ (⟨some _, .indexAddr _ _ _, _, _, _, none⟩ :: _) _ _; first | refine DL_qp rfl rfl rfl (fun F' => Q_index rfl rfl inferInstance inferInstance inferInstance inferInstance (by first | assumption | omega | ((try simp only [List.length_append, List.length_cons, List.length_nil, be_length, List.length_set]); omega))) ?_ | refine DL_q rfl rfl (fun F' => Q_index rfl rfl inferInstance inferInstance inferInstance inferInstance (by first | assumption | omega | ((try simp only [List.length_append, List.length_cons, List.length_nil, be_length, List.length_set]); omega))) ?_ | refine DL_qp rfl rfl rfl (fun F' => Q_indexV rfl rfl inferInstance inferInstance inferInstance (by first | assumption | omega)) ?_ | refine DL_q rfl rfl (fun F' => Q_indexV rfl rfl inferInstance inferInstance inferInstance (by first | assumption | omega)) ?_)
        | (refine DL_h (H_callX inferInstance rfl (rfour_spec w0 _) inferInstance) rfl rfl rfl ?_; intro g))
      refine ⟨m - 1, _, by omega, ⟨k + 1, _, by omega, rfl⟩, ⟨rfl, ?_, rfl, trivial⟩, rfl, by dsimp only [Pk.cells]; exact Ent.take (Ent.take Ent.last)⟩
      rw [← Pk.upto_succ hz]; rfl
    · obtain rfl : k = p.lost.length := by omega
      repeat' (first
        | (refine WS_seqK ?_; intro K hK)
        | (refine hK _ ?_; clear hK K)
        | with_reducible refine thenS_n ?_
        | with_reducible refine thenS_e ?_
        | with_reducible refine blockS_n ?_
        | with_reducible refine blockS_e ?_
        | with_reducible refine blockS_o rfl ?_
        | with_reducible refine thenS_r ?_
        | with_reducible refine blockS_r ?_
        | with_reducible refine use_K (by assumption) ?_
        | refine WS_region ?_
        | refine LS_nil ?_
        | (show LS _ _ _ _ _ (⟨_, _, _, _, _, some _⟩ :: _) _; first | refine LS_wantT rfl rfl inferInstance rfl ?_ | refine LS_wantF rfl rfl inferInstance rfl ?_ | refine LS_wantU rfl rfl rfl ?_ | (refine LS_wantS rfl rfl rfl ?_ ?_ <;> intro hc <;> (try simp only [decide_eq_true_eq, decide_eq_false_iff_not, Bool.not_eq_eq_eq_not, Bool.not_true, Bool.not_false, Bool.and_eq_true, Bool.or_eq_true, bne_iff_ne, beq_iff_eq, ne_eq, Decidable.not_not] at hc) <;> (try (exfalso; first | contradiction | omega; done))) | (refine LS_wantN rfl ?_ ?_ <;> intro hc <;> (try simp only [decide_eq_true_eq, decide_eq_false_iff_not, Bool.not_eq_eq_eq_not, Bool.not_true, Bool.not_false, Bool.and_eq_true, Bool.or_eq_true, bne_iff_ne, beq_iff_eq, ne_eq, Decidable.not_not] at hc) <;> (try (exfalso; first | contradiction | omega; done))))
        | (show LS _ _ _ _ _ (⟨some _, .move _, _, _, _, none⟩ :: _) _; first | refine LS_q (Q_move rfl) rfl ?_)
        | (show LS _ _ _ _ _ (⟨some _, .fieldAddr _ _ _, _, _, _, none⟩ :: _) _; first | refine LS_q (Q_fieldAddr rfl inferInstance rfl) rfl ?_ | refine LS_q (Q_fieldR rfl inferInstance inferInstance rfl (by first | assumption | omega | ((try simp only [List.length_append, List.length_cons, List.length_nil, be_length, List.length_set]); omega))) rfl ?_)
        | (show LS _ _ _ _ _ (⟨some _, .load _ _, _, _, _, none⟩ :: _) _; first | refine LS_q (Q_load rfl inferInstance inferInstance rfl) rfl ?_ | refine LS_q (Q_loadA rfl inferInstance inferInstance rfl) rfl ?_ | refine LS_q (Q_loadR rfl inferInstance inferInstance inferInstance (by assumption) rfl) rfl ?_ | refine LS_q (Q_loadR rfl inferInstance inferInstance inferInstance rfl rfl) rfl ?_ | refine LS_q (Q_loadRA rfl inferInstance inferInstance inferInstance (by assumption)) rfl ?_)
        | (show LS _ _ _ _ _ (⟨some _, .binOp _ _ _ _ _, _, _, _, none⟩ :: _) _; first | refine LS_q (Q_bin_t rfl rfl inferInstance (by first | assumption | omega | decide)) rfl ?_ | refine LS_q (Q_bin_f rfl rfl inferInstance (by first | assumption | omega | decide)) rfl ?_ | refine LS_q (Q_bin_nt rfl rfl inferInstance (by first | assumption | omega | decide)) rfl ?_ | refine LS_q (Q_bin_nf rfl rfl inferInstance (by first | assumption | omega | decide)) rfl ?_ | (refine LS_binS rfl rfl inferInstance rfl ?_ ?_ <;> intro hc) | (refine LS_binN rfl rfl inferInstance rfl ?_ ?_ <;> intro hc) | refine LS_q (Q_bin rfl rfl inferInstance) rfl ?_ | refine LS_q (Q_addI rfl rfl (by omega)) rfl ?_ | refine LS_q (Q_subI rfl rfl (by omega)) rfl ?_ | refine LS_q (Q_addS rfl rfl (by (try simp only [List.length_append, List.length_cons, List.length_nil, be_length, List.length_set]); omega)) rfl ?_ | refine LS_q (Q_quoI rfl rfl (by omega)) rfl ?_ | refine LS_q (Q_remI rfl rfl (by omega)) rfl ?_ | refine LS_q (Q_mulI rfl rfl (by omega)) rfl ?_)
        | (show LS _ _ _ _ _ (⟨some _, .assign _, _, _, _, none⟩ :: _) _; first | refine LS_q (Q_assign rfl) rfl ?_)
        | (show LS _ _ _ _ _ (⟨some _, .pick _ _ _, _, _, _, none⟩ :: _) _; first | refine LS_q (Q_pick_t rfl inferInstance rfl) rfl ?_ | refine LS_q (Q_pick_f rfl inferInstance rfl) rfl ?_ | refine LS_q (Q_pick rfl rfl rfl) rfl ?_)
        | (show LS _ _ _ _ _ (⟨some _, .call ⟨.builtin .len, _, _⟩, _, _, _, none⟩ :: _) _; first | refine LS_q (Q_len rfl inferInstance) rfl ?_ | refine LS_q (Q_lenS rfl inferInstance) rfl ?_ | refine LS_q (Q_lenR rfl inferInstance inferInstance) rfl ?_ | refine LS_q (Q_lenM rfl inferInstance inferInstance) rfl ?_)
        | (show LS _ _ _ _ _ (⟨some _, .unOp _ _ _, _, _, _, none⟩ :: _) _; first | refine LS_q (Q_un rfl inferInstance) rfl ?_ | refine LS_q (Q_negI rfl (by omega)) rfl ?_)
        | (show LS _ _ _ _ _ (⟨some _, .alloc _, _, _, _, none⟩ :: _) _; first | (refine LS_h (H_alloc inferInstance) rfl ?_; intro g))
        | (show LS _ _ _ _ _ (⟨some _, .box _ _, _, _, _, none⟩ :: _) _; first | (refine LS_h (H_box rfl) rfl ?_; intro g) | (refine LS_h (H_boxO rfl inferInstance) rfl ?_; intro g) | (refine LS_h (H_box1 rfl (by first | rfl | assumption)) rfl ?_; intro g))
        | (show LS _ _ _ _ _ (⟨none, _, _, _, _, none⟩ :: _) _; first | (refine LS_h0 (H_storeO rfl rfl inferInstance inferInstance inferInstance rfl) ?_; intro g) | (refine LS_h0 (H_storeAO rfl rfl inferInstance inferInstance inferInstance rfl) ?_; intro g) | (refine LS_h0 (H_store8 rfl rfl inferInstance inferInstance rfl inferInstance (by first | assumption | omega | ((try simp only [List.length_append, List.length_cons, List.length_nil, be_length, List.length_set]); omega))) ?_; intro g) | (refine LS_h0 (H_storeRA _ rfl rfl rfl inferInstance inferInstance inferInstance rfl rfl (by first | assumption | omega | ((try simp only [List.length_append, List.length_cons, List.length_nil, be_length, List.length_set]); omega))) ?_; intro g) | (refine LS_h0 (H_storeR _ rfl rfl inferInstance inferInstance inferInstance rfl (by assumption) rfl) ?_; intro g) | (refine LS_h0 (H_store rfl rfl inferInstance (by first | rfl | assumption) inferInstance rfl) ?_; intro g) | (refine LS_h0 (H_storeA rfl rfl inferInstance inferInstance (by first | rfl | (simp only [List.all_cons, List.all_nil, *]; rfl)) rfl) ?_; intro g))
        | refine WS_block ?_
        | refine WS_skip ?_
        | refine WS_ret ?_
        | refine WS_exit ?_
        | refine WS_label ?_
        | (show WS _ _ _ (.cond _ _ _) _ _; first | refine WS_condT rfl inferInstance ?_ | refine WS_condF rfl inferInstance ?_ | refine WS_condH_t rfl (by assumption) ?_ | refine WS_condH_f rfl (by assumption) ?_ | (refine WS_cond rfl ?_ ?_ <;> intro hc <;> (try simp only [decide_eq_true_eq, decide_eq_false_iff_not, Bool.not_eq_eq_eq_not, Bool.not_true, Bool.not_false, Bool.and_eq_true, Bool.or_eq_true, bne_iff_ne, beq_iff_eq, ne_eq, Decidable.not_not] at hc) <;> (try (exfalso; first | contradiction | omega; done))))
        | refine WS_drawS (by kernel_rfl) ?_
        | refine DL_nilA ?_
        | refine DL_nilS ?_
        | refine DL_nilN ?_
        | refine DL_nilE ?_
        | refine DL_claimS rfl ?_
        | refine DL_claim rfl rfl ?_
        | (show DL _ _ _ _ _ _ _ _ _ _ _ _ (⟨some _, .move _, _, _, _, none⟩ :: _) _ _; first | refine DL_qp rfl rfl rfl (fun F' => Q_move rfl) ?_ | refine DL_q rfl rfl (fun F' => Q_move rfl) ?_)
        | (show DL _ _ _ _ _ _ _ _ _ _ _ _ (⟨some _, .fieldAddr _ _ _, _, _, _, none⟩ :: _) _ _; first | refine DL_qp rfl rfl rfl (fun F' => Q_fieldAddr rfl inferInstance rfl) ?_ | refine DL_q rfl rfl (fun F' => Q_fieldAddr rfl inferInstance rfl) ?_ | refine DL_qp rfl rfl rfl (fun F' => Q_fieldR rfl inferInstance inferInstance rfl (by first | assumption | omega | ((try simp only [List.length_append, List.length_cons, List.length_nil, be_length, List.length_set]); omega))) ?_ | refine DL_q rfl rfl (fun F' => Q_fieldR rfl inferInstance inferInstance rfl (by first | assumption | omega | ((try simp only [List.length_append, List.length_cons, List.length_nil, be_length, List.length_set]); omega))) ?_)
        | (show DL _ _ _ _ _ _ _ _ _ _ _ _ (⟨some _, .load _ _, _, _, _, none⟩ :: _) _ _; first | refine DL_qp rfl rfl rfl (fun F' => Q_load rfl inferInstance inferInstance rfl) ?_ | refine DL_q rfl rfl (fun F' => Q_load rfl inferInstance inferInstance rfl) ?_ | refine DL_qp rfl rfl rfl (fun F' => Q_loadA rfl inferInstance inferInstance rfl) ?_ | refine DL_q rfl rfl (fun F' => Q_loadA rfl inferInstance inferInstance rfl) ?_ | refine DL_qp rfl rfl rfl (fun F' => Q_loadR rfl inferInstance inferInstance inferInstance (by assumption) rfl) ?_ | refine DL_q rfl rfl (fun F' => Q_loadR rfl inferInstance inferInstance inferInstance (by assumption) rfl) ?_ | refine DL_qp rfl rfl rfl (fun F' => Q_loadR rfl inferInstance inferInstance inferInstance rfl rfl) ?_ | refine DL_q rfl rfl (fun F' => Q_loadR rfl inferInstance inferInstance inferInstance rfl rfl) ?_ | refine DL_qp rfl rfl rfl (fun F' => Q_loadRA rfl inferInstance inferInstance inferInstance (by assumption)) ?_ | refine DL_q rfl rfl (fun F' => Q_loadRA rfl inferInstance inferInstance inferInstance (by assumption)) ?_)
        | (show DL _ _ _ _ _ _ _ _ _ _ _ _ (⟨some _, .binOp _ _ _ _ _, _, _, _, none⟩ :: _) _ _; first | refine DL_qp rfl rfl rfl (fun F' => Q_bin_t rfl rfl inferInstance (by first | assumption | omega | decide)) ?_ | refine DL_q rfl rfl (fun F' => Q_bin_t rfl rfl inferInstance (by first | assumption | omega | decide)) ?_ | refine DL_qp rfl rfl rfl (fun F' => Q_bin_f rfl rfl inferInstance (by first | assumption | omega | decide)) ?_ | refine DL_q rfl rfl (fun F' => Q_bin_f rfl rfl inferInstance (by first | assumption | omega | decide)) ?_ | refine DL_qp rfl rfl rfl (fun F' => Q_bin_nt rfl rfl inferInstance (by first | assumption | omega | decide)) ?_ | refine DL_q rfl rfl (fun F' => Q_bin_nt rfl rfl inferInstance (by first | assumption | omega | decide)) ?_ | refine DL_qp rfl rfl rfl (fun F' => Q_bin_nf rfl rfl inferInstance (by first | assumption | omega | decide)) ?_ | refine DL_q rfl rfl (fun F' => Q_bin_nf rfl rfl inferInstance (by first | assumption | omega | decide)) ?_ | (refine DL_binS rfl rfl inferInstance rfl ?_ ?_ <;> intro hc) | refine DL_qp rfl rfl rfl (fun F' => Q_bin rfl rfl inferInstance) ?_ | refine DL_q rfl rfl (fun F' => Q_bin rfl rfl inferInstance) ?_ | refine DL_qp rfl rfl rfl (fun F' => Q_addI rfl rfl (by omega)) ?_ | refine DL_q rfl rfl (fun F' => Q_addI rfl rfl (by omega)) ?_ | refine DL_qp rfl rfl rfl (fun F' => Q_subI rfl rfl (by omega)) ?_ | refine DL_q rfl rfl (fun F' => Q_subI rfl rfl (by omega)) ?_ | refine DL_qp rfl rfl rfl (fun F' => Q_addS rfl rfl (by (try simp only [List.length_append, List.length_cons, List.length_nil, be_length, List.length_set]); omega)) ?_ | refine DL_q rfl rfl (fun F' => Q_addS rfl rfl (by (try simp only [List.length_append, List.length_cons, List.length_nil, be_length, List.length_set]); omega)) ?_ | refine DL_qp rfl rfl rfl (fun F' => Q_quoI rfl rfl (by omega)) ?_ | refine DL_q rfl rfl (fun F' => Q_quoI rfl rfl (by omega)) ?_ | refine DL_qp rfl rfl rfl (fun F' => Q_remI rfl rfl (by omega)) ?_ | refine DL_q rfl rfl (fun F' => Q_remI rfl rfl (by omega)) ?_ | refine DL_qp rfl rfl rfl (fun F' => Q_mulI rfl rfl (by omega)) ?_ | refine DL_q rfl rfl (fun F' => Q_mulI rfl rfl (by omega)) ?_)
        | (show DL _ _ _ _ _ _ _ _ _ _ _ _ (⟨some _, .assign _, _, _, _, none⟩ :: _) _ _; first | refine DL_qp rfl rfl rfl (fun F' => Q_assign rfl) ?_ | refine DL_q rfl rfl (fun F' => Q_assign rfl) ?_)
        | (show DL _ _ _ _ _ _ _ _ _ _ _ _ (⟨some _, .call ⟨.builtin .len, _, _⟩, _, _, _, none⟩ :: _) _ _; first | refine DL_qp rfl rfl rfl (fun F' => Q_len rfl inferInstance) ?_ | refine DL_q rfl rfl (fun F' => Q_len rfl inferInstance) ?_ | refine DL_qp rfl rfl rfl (fun F' => Q_lenS rfl inferInstance) ?_ | refine DL_q rfl rfl (fun F' => Q_lenS rfl inferInstance) ?_ | refine DL_qp rfl rfl rfl (fun F' => Q_lenR rfl inferInstance inferInstance) ?_ | refine DL_q rfl rfl (fun F' => Q_lenR rfl inferInstance inferInstance) ?_ | refine DL_qp rfl rfl rfl (fun F' => Q_lenM rfl inferInstance inferInstance) ?_ | refine DL_q rfl rfl (fun F' => Q_lenM rfl inferInstance inferInstance) ?_)
        | (show DL _ _ _ _ _ _ _ _ _ _ _ _ (⟨some _, .indexAddr _ _ _, _, _, _, none⟩ :: _) _ _; first | refine DL_qp rfl rfl rfl (fun F' => Q_index rfl rfl inferInstance inferInstance inferInstance inferInstance (by first | assumption | omega | ((try simp only [List.length_append, List.length_cons, List.length_nil, be_length, List.length_set]); omega))) ?_ | refine DL_q rfl rfl (fun F' => Q_index rfl rfl inferInstance inferInstance inferInstance inferInstance (by first | assumption | omega | ((try simp only [List.length_append, List.length_cons, List.length_nil, be_length, List.length_set]); omega))) ?_ | refine DL_qp rfl rfl rfl (fun F' => Q_indexV rfl rfl inferInstance inferInstance inferInstance (by first | assumption | omega)) ?_ | refine DL_q rfl rfl (fun F' => Q_indexV rfl rfl inferInstance inferInstance inferInstance (by first | assumption | omega)) ?_))
      have hF : p.Fits := p.fits_own.2 ⟨⟨by omega, by omega, by omega, by omega, by omega⟩, ‹p = p.own›, by omega⟩
      refine ret_tmp2 (.inl rfl) rfl rfl rfl ⟨(), ?_, Ent.take Ent.last⟩
      rw [Pk.ret_fit hF, ← Pk.upto_end h3]
theorem rencode_spec (p : Pk) (hp : p.Ok) (v : Value) (hv : v.oneCell' = true) (X : HProp) [hX : Rdr w0 X v (UInt32 × UInt32) 2 lostC p.lost] : Spec Try.prog w0 20 [p.val v] X (fun _ : Unit => p.ret) (fun _ => X) := by
  by_cases h : p.kind = 3
  · exact rencode_3 w0 p hp h v hv X
  · exact rencode_a w0 p hp h v hv X
end Go.Proofs.Ytapoehkdnglahaa
