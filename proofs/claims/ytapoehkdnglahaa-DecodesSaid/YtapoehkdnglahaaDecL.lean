/- What the law Decodes returns, by a walk. -/
import Derived.Test.YtapoehkdnglahaaDecB2
import Derived.Test.YtapoehkdnglahaaDecB3
import Derived.Test.YtapoehkdnglahaaEncS
namespace Go.Proofs.Ytapoehkdnglahaa
open Go.RowKit
set_option linter.unusedVariables false
set_option linter.unusedSimpArgs false
attribute [local irreducible] WS LS OpQ OpT OpH OpTQ Spec SpecQ SpecX DSpec cel
instance litNotTT : Lit (!(true == true)) false := ⟨rfl⟩
instance litNotFF : Lit (!(false == false)) false := ⟨rfl⟩
instance litTT : Lit (true == true) true := ⟨rfl⟩
instance litFF : Lit (false == false) true := ⟨rfl⟩
variable (w0 : World)
theorem rdecode_spec (l : List UInt8) (hl : l.length ≤ 65536) : Spec Try.prog w0 17 [strV l] emp (fun v' : Value => mdecV l v') (fun v' => decH l v' emp) := by
  rcases Nat.lt_or_ge l.length 5 with h5 | h5
  · exact rdecode_short w0 l h5
  obtain ⟨t, k, f, z, n, r, hlr⟩ : ∃ t k f z n r, l = t :: k :: f :: z :: n :: r := by
    match l, h5 with
    | t :: k :: f :: z :: n :: r, _ => exact ⟨t, k, f, z, n, r, rfl⟩
  have hr : r.length ≤ 65536 := by rw [hlr] at hl; simp at hl; omega
  by_cases k1 : k.toNat = 1 ∧ r.length = 20
  · by_cases hf : f = 8
    · exact rdecode_1a w0 l t k f z n r hlr hr k1.1 hf k1.2
    · exact rdecode_1b w0 l t k f z n r hlr hr k1.1 hf k1.2
  by_cases k2 : k.toNat = 2 ∧ r.length = 16
  · exact rdecode_2 w0 l t k f z n r hlr hr k2.1 k2.2
  by_cases k3 : k.toNat = 3 ∧ r.length = 8 * n.toNat
  · exact rdecode_3 w0 l t k f z n r hlr hr k3.1 k3.2
  by_cases k9 : k.toNat = 9 ∧ r.length = 12 + n.toNat
  · exact rdecode_9 w0 l t k f z n r hlr hr k9.1 k9.2
  exact rdecode_other w0 l t k f z n r hlr hr k1 k2 k3 k9
set_option maxRecDepth 100000 in
set_option maxHeartbeats 4000000 in
theorem packets_spec (p : Pk) (hl : p.lost.length ≤ 100000) (v u : Value) (X : HProp) [hX : Rdr w0 X v (UInt32 × UInt32) 2 lostC p.lost] [hY : Rdr w0 X u (UInt32 × UInt32) 2 lostC p.lost] : Spec Try.prog w0 18 [p.val v, p.val u] X (fun _ : Unit => .bool true) (fun _ => X) := by
  have hlost := lost_spec w0 p.lost p.lost hl v u X
  obtain ⟨ttl, kind, hops, unknown, id, dest, destSeq, from_, fromSeq, life, lost, payload⟩ := p
  simp only [decide_true] at hlost
  cases unknown
  all_goals
    refine Spec.enter Try.func18 rfl Try.ntmps18 rfl fun G => ?_
    simp only [argE, Pk.val, Pk.cells]
    repeat' (first
      | (refine WS_seqK ?_; intro K hK)
      | (refine hK _ ?_; clear hK K)
      | with_reducible refine thenS_n ?_
      | with_reducible refine thenS_e ?_
      | with_reducible refine blockS_n ?_
      | with_reducible refine blockS_e ?_
      | with_reducible refine blockS_o rfl ?_
      | with_reducible refine thenS_r ?_
      | with_reducible refine blockS_r ?_
      | with_reducible refine use_K (by assumption) ?_
      | refine WS_region ?_
      | refine LS_nil ?_
      | (show LS _ _ _ _ _ (⟨_, _, _, _, _, some _⟩ :: _) _; first | refine LS_wantT rfl rfl inferInstance rfl ?_ | refine LS_wantF rfl rfl inferInstance rfl ?_ | refine LS_wantU rfl rfl rfl ?_ | (refine LS_wantS rfl rfl rfl ?_ ?_ <;> intro hc <;> (try simp only [decide_eq_true_eq, decide_eq_false_iff_not, Bool.not_eq_eq_eq_not, Bool.not_true, Bool.not_false, Bool.and_eq_true, Bool.or_eq_true, bne_iff_ne, beq_iff_eq, ne_eq, Decidable.not_not] at hc) <;> (try (exfalso; first | contradiction | omega; done))) | (refine LS_wantN rfl ?_ ?_ <;> intro hc <;> (try simp only [decide_eq_true_eq, decide_eq_false_iff_not, Bool.not_eq_eq_eq_not, Bool.not_true, Bool.not_false, Bool.and_eq_true, Bool.or_eq_true, bne_iff_ne, beq_iff_eq, ne_eq, Decidable.not_not] at hc) <;> (try (exfalso; first | contradiction | omega; done))))
      | (show LS _ _ _ _ _ (⟨some _, .move _, _, _, _, none⟩ :: _) _; first | refine LS_q (Q_move rfl) rfl ?_)
      | (show LS _ _ _ _ _ (⟨some _, .fieldAddr _ _ _, _, _, _, none⟩ :: _) _; first | refine LS_q (Q_fieldAddr rfl inferInstance rfl) rfl ?_ | refine LS_q (Q_fieldR rfl inferInstance inferInstance rfl (by first | assumption | omega | ((try simp only [List.length_append, List.length_cons, List.length_nil, be_length, List.length_set]); omega))) rfl ?_)
      | (show LS _ _ _ _ _ (⟨some _, .load _ _, _, _, _, none⟩ :: _) _; first | refine LS_q (Q_load rfl inferInstance inferInstance rfl) rfl ?_ | refine LS_q (Q_loadA rfl inferInstance inferInstance rfl) rfl ?_ | refine LS_q (Q_loadR rfl inferInstance inferInstance inferInstance (by assumption) rfl) rfl ?_ | refine LS_q (Q_loadR rfl inferInstance inferInstance inferInstance rfl rfl) rfl ?_ | refine LS_q (Q_loadRA rfl inferInstance inferInstance inferInstance (by assumption)) rfl ?_)
      | (show LS _ _ _ _ _ (⟨some _, .binOp _ _ _ _ _, _, _, _, none⟩ :: _) _; first | refine LS_q (Q_bin_t rfl rfl inferInstance (by first | assumption | omega | decide | rfl)) rfl ?_ | refine LS_q (Q_bin_f rfl rfl inferInstance (by first | assumption | omega | decide | rfl)) rfl ?_ | refine LS_q (Q_bin_nt rfl rfl inferInstance (by first | assumption | omega | decide | rfl)) rfl ?_ | refine LS_q (Q_bin_nf rfl rfl inferInstance (by first | assumption | omega | decide | rfl)) rfl ?_ | (refine LS_binS rfl rfl inferInstance rfl ?_ ?_ <;> intro hc) | (refine LS_binN rfl rfl inferInstance rfl ?_ ?_ <;> intro hc) | refine LS_q (Q_bin rfl rfl inferInstance) rfl ?_ | refine LS_q (Q_addI rfl rfl (by omega)) rfl ?_ | refine LS_q (Q_subI rfl rfl (by omega)) rfl ?_ | refine LS_q (Q_addS rfl rfl (by (try simp only [List.length_append, List.length_cons, List.length_nil, be_length, List.length_set]); omega)) rfl ?_ | refine LS_q (Q_quoI rfl rfl (by omega)) rfl ?_ | refine LS_q (Q_remI rfl rfl (by omega)) rfl ?_ | refine LS_q (Q_mulI rfl rfl (by omega)) rfl ?_)
      | (show LS _ _ _ _ _ (⟨some _, .assign _, _, _, _, none⟩ :: _) _; first | refine LS_q (Q_assign rfl) rfl ?_)
      | (show LS _ _ _ _ _ (⟨some _, .pick _ _ _, _, _, _, none⟩ :: _) _; first | refine LS_q (Q_pick_t rfl inferInstance rfl) rfl ?_ | refine LS_q (Q_pick_f rfl inferInstance rfl) rfl ?_ | refine LS_q (Q_pick rfl rfl rfl) rfl ?_)
      | (show LS _ _ _ _ _ (⟨some _, .box _ _, _, _, _, none⟩ :: _) _; first | (refine LS_h (H_box rfl) rfl ?_; intro g) | (refine LS_h (H_boxO rfl inferInstance) rfl ?_; intro g) | (refine LS_h (H_box1 rfl (by first | rfl | assumption)) rfl ?_; intro g))
      | refine WS_block ?_
      | refine WS_skip ?_
      | refine WS_ret ?_
      | refine WS_exit ?_
      | refine WS_label ?_
      | (show WS _ _ _ (.cond _ _ _) _ _; first | refine WS_condT rfl inferInstance ?_ | refine WS_condF rfl inferInstance ?_ | refine WS_condH_t rfl (by assumption) ?_ | refine WS_condH_f rfl (by assumption) ?_ | (refine WS_cond rfl ?_ ?_ <;> intro hc <;> (try simp only [decide_eq_true_eq, decide_eq_false_iff_not, Bool.not_eq_eq_eq_not, Bool.not_true, Bool.not_false, Bool.and_eq_true, Bool.or_eq_true, bne_iff_ne, beq_iff_eq, ne_eq, Decidable.not_not] at hc) <;> (try (exfalso; first | contradiction | omega; done))))
      | (refine LS_h (H_callX inferInstance rfl hlost inferInstance) rfl ?_; intro u))
  all_goals exact ret_tmp (.inl rfl) rfl rfl ⟨(), rfl, by ((try simp only [star_assoc, emp_star, star_emp]); (repeat' (first | exact Ent.last | refine Ent.take ?_ | refine Ent.nilT ?_ | refine Ent.takeR (by first | rfl | assumption | (simp; done)) ?_ | exact Ent.refl _)))⟩
theorem dec_lost9 (l : List UInt8) : ((Pk.dec l).getD Pk.zero).lost.length ≤ 100000 := by
  cases h : Pk.dec l with
  | none => exact Nat.zero_le _
  | some q => have := (Pk.dec_some h).1.1.2.2.2.2.2; simp only [Option.getD_some]; omega
set_option maxRecDepth 100000 in
theorem decodes_big (l : List UInt8) (hl : 65536 < l.length) (X : HProp) : Spec Try.prog w0 5 [strV l] X (fun _ : Unit => .bool true) (fun _ => X) := by
  refine Spec.enter Try.func5 rfl Try.ntmps5 rfl fun G => ?_
  simp only [argE]
  repeat' (first
    | (refine WS_seqK ?_; intro K hK)
    | (refine hK _ ?_; clear hK K)
    | with_reducible refine thenS_n ?_
    | with_reducible refine thenS_e ?_
    | with_reducible refine blockS_n ?_
    | with_reducible refine blockS_e ?_
    | with_reducible refine blockS_o rfl ?_
    | with_reducible refine thenS_r ?_
    | with_reducible refine blockS_r ?_
    | with_reducible refine use_K (by assumption) ?_
    | refine WS_region ?_
    | refine LS_nil ?_
    | (show LS _ _ _ _ _ (⟨_, _, _, _, _, some _⟩ :: _) _; first | refine LS_wantT rfl rfl inferInstance rfl ?_ | refine LS_wantF rfl rfl inferInstance rfl ?_ | refine LS_wantU rfl rfl rfl ?_ | (refine LS_wantS rfl rfl rfl ?_ ?_ <;> intro hc <;> (try simp only [decide_eq_true_eq, decide_eq_false_iff_not, Bool.not_eq_eq_eq_not, Bool.not_true, Bool.not_false, Bool.and_eq_true, Bool.or_eq_true, bne_iff_ne, beq_iff_eq, ne_eq, Decidable.not_not] at hc) <;> (try (exfalso; first | contradiction | omega; done))) | (refine LS_wantN rfl ?_ ?_ <;> intro hc <;> (try simp only [decide_eq_true_eq, decide_eq_false_iff_not, Bool.not_eq_eq_eq_not, Bool.not_true, Bool.not_false, Bool.and_eq_true, Bool.or_eq_true, bne_iff_ne, beq_iff_eq, ne_eq, Decidable.not_not] at hc) <;> (try (exfalso; first | contradiction | omega; done))))
    | (show LS _ _ _ _ _ (⟨some _, .move _, _, _, _, none⟩ :: _) _; first | refine LS_q (Q_move rfl) rfl ?_)
    | (show LS _ _ _ _ _ (⟨some _, .load _ _, _, _, _, none⟩ :: _) _; first | refine LS_q (Q_load rfl inferInstance inferInstance rfl) rfl ?_ | refine LS_q (Q_loadA rfl inferInstance inferInstance rfl) rfl ?_ | refine LS_q (Q_loadR rfl inferInstance inferInstance inferInstance (by assumption) rfl) rfl ?_ | refine LS_q (Q_loadR rfl inferInstance inferInstance inferInstance rfl rfl) rfl ?_ | refine LS_q (Q_loadRA rfl inferInstance inferInstance inferInstance (by assumption)) rfl ?_)
    | (show LS _ _ _ _ _ (⟨some _, .binOp _ _ _ _ _, _, _, _, none⟩ :: _) _; first | refine LS_q (Q_bin_t rfl rfl inferInstance (by first | assumption | omega | decide)) rfl ?_ | refine LS_q (Q_bin_f rfl rfl inferInstance (by first | assumption | omega | decide)) rfl ?_ | refine LS_q (Q_bin_nt rfl rfl inferInstance (by first | assumption | omega | decide)) rfl ?_ | refine LS_q (Q_bin_nf rfl rfl inferInstance (by first | assumption | omega | decide)) rfl ?_ | (refine LS_binS rfl rfl inferInstance rfl ?_ ?_ <;> intro hc) | (refine LS_binN rfl rfl inferInstance rfl ?_ ?_ <;> intro hc) | refine LS_q (Q_bin rfl rfl inferInstance) rfl ?_ | refine LS_q (Q_addI rfl rfl (by omega)) rfl ?_ | refine LS_q (Q_subI rfl rfl (by omega)) rfl ?_ | refine LS_q (Q_addS rfl rfl (by (try simp only [List.length_append, List.length_cons, List.length_nil, be_length, List.length_set]); omega)) rfl ?_ | refine LS_q (Q_quoI rfl rfl (by omega)) rfl ?_ | refine LS_q (Q_remI rfl rfl (by omega)) rfl ?_ | refine LS_q (Q_mulI rfl rfl (by omega)) rfl ?_)
    | (show LS _ _ _ _ _ (⟨some _, .assign _, _, _, _, none⟩ :: _) _; first | refine LS_q (Q_assign rfl) rfl ?_)
    | (show LS _ _ _ _ _ (⟨some _, .pick _ _ _, _, _, _, none⟩ :: _) _; first | refine LS_q (Q_pick_t rfl inferInstance rfl) rfl ?_ | refine LS_q (Q_pick_f rfl inferInstance rfl) rfl ?_ | refine LS_q (Q_pick rfl rfl rfl) rfl ?_)
    | (show LS _ _ _ _ _ (⟨some _, .extract _ _, _, _, _, none⟩ :: _) _; first | refine LS_q (Q_extract rfl rfl) rfl ?_)
    | (show LS _ _ _ _ _ (⟨some _, .call ⟨.builtin .len, _, _⟩, _, _, _, none⟩ :: _) _; first | refine LS_q (Q_len rfl inferInstance) rfl ?_ | refine LS_q (Q_lenS rfl inferInstance) rfl ?_ | refine LS_q (Q_lenR rfl inferInstance inferInstance) rfl ?_ | refine LS_q (Q_lenM rfl inferInstance inferInstance) rfl ?_)
    | (show LS _ _ _ _ _ (⟨some _, .convert _ _ _, _, _, _, none⟩ :: _) _; first | refine LS_q (Q_conv32_8 rfl inferInstance inferInstance inferInstance) rfl ?_ | refine LS_q (Q_conv64 rfl inferInstance inferInstance inferInstance) rfl ?_ | refine LS_q (Q_conv32 rfl inferInstance inferInstance inferInstance) rfl ?_ | refine LS_q (Q_convS rfl inferInstance rfl inferInstance inferInstance inferInstance) rfl ?_ | refine LS_q (Q_convSame rfl inferInstance inferInstance (by omega)) rfl ?_ | refine LS_q (Q_convI8 rfl inferInstance inferInstance) rfl ?_ | refine LS_q (Q_conv328 rfl inferInstance inferInstance) rfl ?_ | refine LS_q (Q_conv8 rfl inferInstance inferInstance) rfl ?_ | refine LS_q (Q_bytesS rfl inferInstance inferInstance rfl inferInstance inferInstance inferInstance) rfl ?_)
    | (show LS _ _ _ _ _ (⟨some _, .alloc _, _, _, _, none⟩ :: _) _; first | (refine LS_h (H_alloc inferInstance) rfl ?_; intro g))
    | (show LS _ _ _ _ _ (⟨some _, .indexAddr _ _ _, _, _, _, none⟩ :: _) _; first | refine LS_q (Q_index rfl rfl inferInstance inferInstance inferInstance inferInstance (by first | assumption | omega | ((try simp only [List.length_append, List.length_cons, List.length_nil, be_length, List.length_set]); omega))) rfl ?_ | refine LS_q (Q_indexV rfl rfl inferInstance inferInstance inferInstance (by first | assumption | omega)) rfl ?_)
    | (show LS _ _ _ _ _ (⟨none, _, _, _, _, none⟩ :: _) _; first | (refine LS_h0 (H_storeO rfl rfl inferInstance inferInstance inferInstance rfl) ?_; intro g) | (refine LS_h0 (H_storeAO rfl rfl inferInstance inferInstance inferInstance rfl) ?_; intro g) | (refine LS_h0 (H_store8 rfl rfl inferInstance inferInstance rfl inferInstance (by first | assumption | omega | ((try simp only [List.length_append, List.length_cons, List.length_nil, be_length, List.length_set]); omega))) ?_; intro g) | (refine LS_h0 (H_storeRA _ rfl rfl rfl inferInstance inferInstance inferInstance rfl rfl (by first | assumption | omega | ((try simp only [List.length_append, List.length_cons, List.length_nil, be_length, List.length_set]); omega))) ?_; intro g) | (refine LS_h0 (H_storeR _ rfl rfl inferInstance inferInstance inferInstance rfl (by assumption) rfl) ?_; intro g) | (refine LS_h0 (H_store rfl rfl inferInstance (by first | rfl | assumption) inferInstance rfl) ?_; intro g) | (refine LS_h0 (H_storeA rfl rfl inferInstance inferInstance (by first | rfl | (simp only [List.all_cons, List.all_nil, *]; rfl)) rfl) ?_; intro g))
    | refine WS_block ?_
    | refine WS_skip ?_
    | refine WS_ret ?_
    | refine WS_exit ?_
    | refine WS_label ?_
    | (show WS _ _ _ (.cond _ _ _) _ _; first | refine WS_condT rfl inferInstance ?_ | refine WS_condF rfl inferInstance ?_ | refine WS_condH_t rfl (by assumption) ?_ | refine WS_condH_f rfl (by assumption) ?_ | (refine WS_cond rfl ?_ ?_ <;> intro hc <;> (try simp only [decide_eq_true_eq, decide_eq_false_iff_not, Bool.not_eq_eq_eq_not, Bool.not_true, Bool.not_false, Bool.and_eq_true, Bool.or_eq_true, bne_iff_ne, beq_iff_eq, ne_eq, Decidable.not_not] at hc) <;> (try (exfalso; first | contradiction | omega; done)))))
  exact ret_tmp (.inl rfl) rfl rfl ⟨(), rfl, by ((try simp only [star_assoc, emp_star, star_emp]); (repeat' (first | exact Ent.last | refine Ent.take ?_ | refine Ent.nilT ?_ | refine Ent.takeR (by first | rfl | assumption | (simp; done)) ?_ | exact Ent.refl _)))⟩
set_option maxRecDepth 100000 in
set_option maxHeartbeats 4000000 in
theorem decodes_walk (l : List UInt8) (hl : l.length ≤ 65536) (X : HProp) : Spec Try.prog w0 5 [strV l] X (fun _ : Unit => .bool true) (fun _ => X) := by
  have hmd : ∀ (vs : Value), Spec Try.prog w0 16 [vs] (rows 5 1 byteC vs l) (fun v' : Value => mdecV l v') (fun v' => decH l v' (rows 5 1 byteC vs l)) := fun vs => mdecode_spec w0 l (by omega) vs _
  have hrd := rdecode_spec w0 l hl
  have h9 := dec_lost9 l
  have hpk : ∀ v u : Value, Spec Try.prog w0 18 [((Pk.dec l).getD Pk.zero).val v, ((Pk.dec l).getD Pk.zero).val u] (rows 96 2 lostC v ((Pk.dec l).getD Pk.zero).lost * rows 96 2 lostC u ((Pk.dec l).getD Pk.zero).lost) (fun _ : Unit => .bool true) (fun _ => rows 96 2 lostC v ((Pk.dec l).getD Pk.zero).lost * rows 96 2 lostC u ((Pk.dec l).getD Pk.zero).lost) := fun v u => packets_spec w0 _ h9 v u _
  simp only [mdecV, decH] at hmd hrd
  generalize (Pk.dec l).getD Pk.zero = q at *
  generalize (if (Pk.dec l).isSome = true then (0 : Int) else 1) = e at *
  simp only [Pk.val, Pk.cells] at hmd hrd hpk
  refine Spec.enter Try.func5 rfl Try.ntmps5 rfl fun G => ?_
  simp only [argE]
  repeat' (first
    | (refine WS_seqK ?_; intro K hK)
    | (refine hK _ ?_; clear hK K)
    | with_reducible refine thenS_n ?_
    | with_reducible refine thenS_e ?_
    | with_reducible refine blockS_n ?_
    | with_reducible refine blockS_e ?_
    | with_reducible refine blockS_o rfl ?_
    | with_reducible refine thenS_r ?_
    | with_reducible refine blockS_r ?_
    | with_reducible refine use_K (by assumption) ?_
    | refine WS_region ?_
    | refine LS_nil ?_
    | (show LS _ _ _ _ _ (⟨_, _, _, _, _, some _⟩ :: _) _; first | refine LS_wantT rfl rfl inferInstance rfl ?_ | refine LS_wantF rfl rfl inferInstance rfl ?_ | refine LS_wantU rfl rfl rfl ?_ | (refine LS_wantS rfl rfl rfl ?_ ?_ <;> intro hc <;> (try simp only [decide_eq_true_eq, decide_eq_false_iff_not, Bool.not_eq_eq_eq_not, Bool.not_true, Bool.not_false, Bool.and_eq_true, Bool.or_eq_true, bne_iff_ne, beq_iff_eq, ne_eq, Decidable.not_not] at hc) <;> (try (exfalso; first | contradiction | omega; done))) | (refine LS_wantN rfl ?_ ?_ <;> intro hc <;> (try simp only [decide_eq_true_eq, decide_eq_false_iff_not, Bool.not_eq_eq_eq_not, Bool.not_true, Bool.not_false, Bool.and_eq_true, Bool.or_eq_true, bne_iff_ne, beq_iff_eq, ne_eq, Decidable.not_not] at hc) <;> (try (exfalso; first | contradiction | omega; done))))
    | (show LS _ _ _ _ _ (⟨some _, .move _, _, _, _, none⟩ :: _) _; first | refine LS_q (Q_move rfl) rfl ?_)
    | (show LS _ _ _ _ _ (⟨some _, .load _ _, _, _, _, none⟩ :: _) _; first | refine LS_q (Q_load rfl inferInstance inferInstance rfl) rfl ?_ | refine LS_q (Q_loadA rfl inferInstance inferInstance rfl) rfl ?_ | refine LS_q (Q_loadR rfl inferInstance inferInstance inferInstance (by assumption) rfl) rfl ?_ | refine LS_q (Q_loadR rfl inferInstance inferInstance inferInstance rfl rfl) rfl ?_ | refine LS_q (Q_loadRA rfl inferInstance inferInstance inferInstance (by assumption)) rfl ?_)
    | (show LS _ _ _ _ _ (⟨some _, .binOp _ _ _ _ _, _, _, _, none⟩ :: _) _; first | refine LS_q (Q_bin_t rfl rfl inferInstance (by first | assumption | omega | decide | rfl)) rfl ?_ | refine LS_q (Q_bin_f rfl rfl inferInstance (by first | assumption | omega | decide | rfl)) rfl ?_ | refine LS_q (Q_bin_nt rfl rfl inferInstance (by first | assumption | omega | decide | rfl)) rfl ?_ | refine LS_q (Q_bin_nf rfl rfl inferInstance (by first | assumption | omega | decide | rfl)) rfl ?_ | (refine LS_binS rfl rfl inferInstance rfl ?_ ?_ <;> intro hc) | (refine LS_binN rfl rfl inferInstance rfl ?_ ?_ <;> intro hc) | refine LS_q (Q_bin rfl rfl inferInstance) rfl ?_ | refine LS_q (Q_addI rfl rfl (by omega)) rfl ?_ | refine LS_q (Q_subI rfl rfl (by omega)) rfl ?_ | refine LS_q (Q_addS rfl rfl (by (try simp only [List.length_append, List.length_cons, List.length_nil, be_length, List.length_set]); omega)) rfl ?_ | refine LS_q (Q_quoI rfl rfl (by omega)) rfl ?_ | refine LS_q (Q_remI rfl rfl (by omega)) rfl ?_ | refine LS_q (Q_mulI rfl rfl (by omega)) rfl ?_)
    | (show LS _ _ _ _ _ (⟨some _, .assign _, _, _, _, none⟩ :: _) _; first | refine LS_q (Q_assign rfl) rfl ?_)
    | (show LS _ _ _ _ _ (⟨some _, .pick _ _ _, _, _, _, none⟩ :: _) _; first | refine LS_q (Q_pick_t rfl inferInstance rfl) rfl ?_ | refine LS_q (Q_pick_f rfl inferInstance rfl) rfl ?_ | refine LS_q (Q_pick rfl rfl rfl) rfl ?_)
    | (show LS _ _ _ _ _ (⟨some _, .extract _ _, _, _, _, none⟩ :: _) _; first | refine LS_q (Q_extract rfl rfl) rfl ?_)
    | (show LS _ _ _ _ _ (⟨some _, .call ⟨.builtin .len, _, _⟩, _, _, _, none⟩ :: _) _; first | refine LS_q (Q_len rfl inferInstance) rfl ?_ | refine LS_q (Q_lenS rfl inferInstance) rfl ?_ | refine LS_q (Q_lenR rfl inferInstance inferInstance) rfl ?_ | refine LS_q (Q_lenM rfl inferInstance inferInstance) rfl ?_)
    | (show LS _ _ _ _ _ (⟨some _, .convert _ _ _, _, _, _, none⟩ :: _) _; first | refine LS_q (Q_conv32_8 rfl inferInstance inferInstance inferInstance) rfl ?_ | refine LS_q (Q_conv64 rfl inferInstance inferInstance inferInstance) rfl ?_ | refine LS_q (Q_conv32 rfl inferInstance inferInstance inferInstance) rfl ?_ | refine LS_q (Q_convS rfl inferInstance rfl inferInstance inferInstance inferInstance) rfl ?_ | refine LS_q (Q_convSame rfl inferInstance inferInstance (by omega)) rfl ?_ | refine LS_q (Q_convI8 rfl inferInstance inferInstance) rfl ?_ | refine LS_q (Q_conv328 rfl inferInstance inferInstance) rfl ?_ | refine LS_q (Q_conv8 rfl inferInstance inferInstance) rfl ?_ | refine LS_q (Q_bytesS rfl inferInstance inferInstance rfl inferInstance inferInstance inferInstance) rfl ?_)
    | (show LS _ _ _ _ _ (⟨some _, .alloc _, _, _, _, none⟩ :: _) _; first | (refine LS_h (H_alloc inferInstance) rfl ?_; intro g))
    | (show LS _ _ _ _ _ (⟨some _, .indexAddr _ _ _, _, _, _, none⟩ :: _) _; first | refine LS_q (Q_index rfl rfl inferInstance inferInstance inferInstance inferInstance (by first | assumption | omega | ((try simp only [List.length_append, List.length_cons, List.length_nil, be_length, List.length_set]); omega))) rfl ?_ | refine LS_q (Q_indexV rfl rfl inferInstance inferInstance inferInstance (by first | assumption | omega)) rfl ?_)
    | (show LS _ _ _ _ _ (⟨none, _, _, _, _, none⟩ :: _) _; first | (refine LS_h0 (H_storeO rfl rfl inferInstance inferInstance inferInstance rfl) ?_; intro g) | (refine LS_h0 (H_storeAO rfl rfl inferInstance inferInstance inferInstance rfl) ?_; intro g) | (refine LS_h0 (H_store8 rfl rfl inferInstance inferInstance rfl inferInstance (by first | assumption | omega | ((try simp only [List.length_append, List.length_cons, List.length_nil, be_length, List.length_set]); omega))) ?_; intro g) | (refine LS_h0 (H_storeRA _ rfl rfl rfl inferInstance inferInstance inferInstance rfl rfl (by first | assumption | omega | ((try simp only [List.length_append, List.length_cons, List.length_nil, be_length, List.length_set]); omega))) ?_; intro g) | (refine LS_h0 (H_storeR _ rfl rfl inferInstance inferInstance inferInstance rfl (by assumption) rfl) ?_; intro g) | (refine LS_h0 (H_store rfl rfl inferInstance (by first | rfl | assumption) inferInstance rfl) ?_; intro g) | (refine LS_h0 (H_storeA rfl rfl inferInstance inferInstance (by first | rfl | (simp only [List.all_cons, List.all_nil, *]; rfl)) rfl) ?_; intro g))
    | refine WS_block ?_
    | refine WS_skip ?_
    | refine WS_ret ?_
    | refine WS_exit ?_
    | refine WS_label ?_
    | (show WS _ _ _ (.cond _ _ _) _ _; first | refine WS_condT rfl inferInstance ?_ | refine WS_condF rfl inferInstance ?_ | refine WS_condH_t rfl (by assumption) ?_ | refine WS_condH_f rfl (by assumption) ?_ | (refine WS_cond rfl ?_ ?_ <;> intro hc <;> (try simp only [decide_eq_true_eq, decide_eq_false_iff_not, Bool.not_eq_eq_eq_not, Bool.not_true, Bool.not_false, Bool.and_eq_true, Bool.or_eq_true, bne_iff_ne, beq_iff_eq, ne_eq, Decidable.not_not] at hc) <;> (try (exfalso; first | contradiction | omega; done))))
    | (refine LS_h (H_convB rfl inferInstance inferInstance inferInstance (by (try simp only [List.length_append, List.length_cons, List.length_nil, be_length, List.length_set]); omega)) rfl ?_; intro vs)
    | (refine LS_h (H_callX inferInstance rfl (hmd vs) inferInstance) rfl ?_; intro v1))
  rename_i a
  refine WS_loop (fun m τ => ∃ (j : Nat) (bs : List UInt8), j + m = bs.length ∧ bs.length = l.length ∧ τ = ⟨[(7, .int .i64 (j : Int)), (3, vs), (4, ptr a 0), (5, .int .i64 e), (6, .bool true), (0, strV l)], [], rows 5 1 byteC vs bs * (cel a 38 [.int .i64 q.ttl, .int .i64 q.kind, .int .i64 q.hops, .bool q.unknown, u32 q.id, u32 q.dest, u32 q.destSeq, u32 q.from_, u32 q.fromSeq, u32 q.life, v1, strV q.payload] * (rows 96 2 lostC v1 q.lost * (X * G)))⟩) ?_ ?_
  · exact ⟨l.length, _, ⟨0, l, by omega, rfl, rfl⟩, ⟨rfl, rfl, rfl, rfl, rfl, rfl, trivial⟩, rfl, by ((try simp only [star_assoc, emp_star, star_emp]); (repeat' (first | exact Ent.last | refine Ent.take ?_ | refine Ent.nilT ?_ | refine Ent.takeR (by first | rfl | assumption | (simp; done)) ?_ | exact Ent.refl _)))⟩
  · rintro m τ ⟨j, bs, hj, hbs, rfl⟩
    rcases Nat.lt_or_ge j bs.length with hlt | hge
    · obtain ⟨z, hz⟩ : ∃ z, bs[j]? = some z := ⟨_, List.getElem?_eq_getElem hlt⟩
      repeat' (first
        | (refine WS_seqK ?_; intro K hK)
        | (refine hK _ ?_; clear hK K)
        | with_reducible refine thenS_n ?_
        | with_reducible refine thenS_e ?_
        | with_reducible refine blockS_n ?_
        | with_reducible refine blockS_e ?_
        | with_reducible refine blockS_o rfl ?_
        | with_reducible refine thenS_r ?_
        | with_reducible refine blockS_r ?_
        | with_reducible refine use_K (by assumption) ?_
        | refine WS_region ?_
        | refine LS_nil ?_
        | (show LS _ _ _ _ _ (⟨_, _, _, _, _, some _⟩ :: _) _; first | refine LS_wantT rfl rfl inferInstance rfl ?_ | refine LS_wantF rfl rfl inferInstance rfl ?_ | refine LS_wantU rfl rfl rfl ?_ | (refine LS_wantS rfl rfl rfl ?_ ?_ <;> intro hc <;> (try simp only [decide_eq_true_eq, decide_eq_false_iff_not, Bool.not_eq_eq_eq_not, Bool.not_true, Bool.not_false, Bool.and_eq_true, Bool.or_eq_true, bne_iff_ne, beq_iff_eq, ne_eq, Decidable.not_not] at hc) <;> (try (exfalso; first | contradiction | omega; done))) | (refine LS_wantN rfl ?_ ?_ <;> intro hc <;> (try simp only [decide_eq_true_eq, decide_eq_false_iff_not, Bool.not_eq_eq_eq_not, Bool.not_true, Bool.not_false, Bool.and_eq_true, Bool.or_eq_true, bne_iff_ne, beq_iff_eq, ne_eq, Decidable.not_not] at hc) <;> (try (exfalso; first | contradiction | omega; done))))
        | (show LS _ _ _ _ _ (⟨some _, .move _, _, _, _, none⟩ :: _) _; first | refine LS_q (Q_move rfl) rfl ?_)
        | (show LS _ _ _ _ _ (⟨some _, .load _ _, _, _, _, none⟩ :: _) _; first | refine LS_q (Q_load rfl inferInstance inferInstance rfl) rfl ?_ | refine LS_q (Q_loadA rfl inferInstance inferInstance rfl) rfl ?_ | refine LS_q (Q_loadR rfl inferInstance inferInstance inferInstance (by assumption) rfl) rfl ?_ | refine LS_q (Q_loadR rfl inferInstance inferInstance inferInstance rfl rfl) rfl ?_ | refine LS_q (Q_loadRA rfl inferInstance inferInstance inferInstance (by assumption)) rfl ?_)
        | (show LS _ _ _ _ _ (⟨some _, .binOp _ _ _ _ _, _, _, _, none⟩ :: _) _; first | refine LS_q (Q_bin_t rfl rfl inferInstance (by first | assumption | omega | decide)) rfl ?_ | refine LS_q (Q_bin_f rfl rfl inferInstance (by first | assumption | omega | decide)) rfl ?_ | refine LS_q (Q_bin_nt rfl rfl inferInstance (by first | assumption | omega | decide)) rfl ?_ | refine LS_q (Q_bin_nf rfl rfl inferInstance (by first | assumption | omega | decide)) rfl ?_ | (refine LS_binS rfl rfl inferInstance rfl ?_ ?_ <;> intro hc) | (refine LS_binN rfl rfl inferInstance rfl ?_ ?_ <;> intro hc) | refine LS_q (Q_bin rfl rfl inferInstance) rfl ?_ | refine LS_q (Q_addI rfl rfl (by omega)) rfl ?_ | refine LS_q (Q_subI rfl rfl (by omega)) rfl ?_ | refine LS_q (Q_addS rfl rfl (by (try simp only [List.length_append, List.length_cons, List.length_nil, be_length, List.length_set]); omega)) rfl ?_ | refine LS_q (Q_quoI rfl rfl (by omega)) rfl ?_ | refine LS_q (Q_remI rfl rfl (by omega)) rfl ?_ | refine LS_q (Q_mulI rfl rfl (by omega)) rfl ?_)
        | (show LS _ _ _ _ _ (⟨some _, .assign _, _, _, _, none⟩ :: _) _; first | refine LS_q (Q_assign rfl) rfl ?_)
        | (show LS _ _ _ _ _ (⟨some _, .pick _ _ _, _, _, _, none⟩ :: _) _; first | refine LS_q (Q_pick_t rfl inferInstance rfl) rfl ?_ | refine LS_q (Q_pick_f rfl inferInstance rfl) rfl ?_ | refine LS_q (Q_pick rfl rfl rfl) rfl ?_)
        | (show LS _ _ _ _ _ (⟨some _, .extract _ _, _, _, _, none⟩ :: _) _; first | refine LS_q (Q_extract rfl rfl) rfl ?_)
        | (show LS _ _ _ _ _ (⟨some _, .call ⟨.builtin .len, _, _⟩, _, _, _, none⟩ :: _) _; first | refine LS_q (Q_len rfl inferInstance) rfl ?_ | refine LS_q (Q_lenS rfl inferInstance) rfl ?_ | refine LS_q (Q_lenR rfl inferInstance inferInstance) rfl ?_ | refine LS_q (Q_lenM rfl inferInstance inferInstance) rfl ?_)
        | (show LS _ _ _ _ _ (⟨some _, .convert _ _ _, _, _, _, none⟩ :: _) _; first | refine LS_q (Q_conv32_8 rfl inferInstance inferInstance inferInstance) rfl ?_ | refine LS_q (Q_conv64 rfl inferInstance inferInstance inferInstance) rfl ?_ | refine LS_q (Q_conv32 rfl inferInstance inferInstance inferInstance) rfl ?_ | refine LS_q (Q_convS rfl inferInstance rfl inferInstance inferInstance inferInstance) rfl ?_ | refine LS_q (Q_convSame rfl inferInstance inferInstance (by omega)) rfl ?_ | refine LS_q (Q_convI8 rfl inferInstance inferInstance) rfl ?_ | refine LS_q (Q_conv328 rfl inferInstance inferInstance) rfl ?_ | refine LS_q (Q_conv8 rfl inferInstance inferInstance) rfl ?_ | refine LS_q (Q_bytesS rfl inferInstance inferInstance rfl inferInstance inferInstance inferInstance) rfl ?_)
        | (show LS _ _ _ _ _ (⟨some _, .alloc _, _, _, _, none⟩ :: _) _; first | (refine LS_h (H_alloc inferInstance) rfl ?_; intro g))
        | (show LS _ _ _ _ _ (⟨some _, .indexAddr _ _ _, _, _, _, none⟩ :: _) _; first | refine LS_q (Q_index rfl rfl inferInstance inferInstance inferInstance inferInstance (by first | assumption | omega | ((try simp only [List.length_append, List.length_cons, List.length_nil, be_length, List.length_set]); omega))) rfl ?_ | refine LS_q (Q_indexV rfl rfl inferInstance inferInstance inferInstance (by first | assumption | omega)) rfl ?_)
        | (show LS _ _ _ _ _ (⟨none, _, _, _, _, none⟩ :: _) _; first | (refine LS_h0 (H_storeO rfl rfl inferInstance inferInstance inferInstance rfl) ?_; intro g) | (refine LS_h0 (H_storeAO rfl rfl inferInstance inferInstance inferInstance rfl) ?_; intro g) | (refine LS_h0 (H_store8 rfl rfl inferInstance inferInstance rfl inferInstance (by first | assumption | omega | ((try simp only [List.length_append, List.length_cons, List.length_nil, be_length, List.length_set]); omega))) ?_; intro g) | (refine LS_h0 (H_storeRA _ rfl rfl rfl inferInstance inferInstance inferInstance rfl rfl (by first | assumption | omega | ((try simp only [List.length_append, List.length_cons, List.length_nil, be_length, List.length_set]); omega))) ?_; intro g) | (refine LS_h0 (H_storeR _ rfl rfl inferInstance inferInstance inferInstance rfl (by assumption) rfl) ?_; intro g) | (refine LS_h0 (H_store rfl rfl inferInstance (by first | rfl | assumption) inferInstance rfl) ?_; intro g) | (refine LS_h0 (H_storeA rfl rfl inferInstance inferInstance (by first | rfl | (simp only [List.all_cons, List.all_nil, *]; rfl)) rfl) ?_; intro g))
        | refine WS_block ?_
        | refine WS_skip ?_
        | refine WS_ret ?_
        | refine WS_exit ?_
        | refine WS_label ?_
        | (show WS _ _ _ (.cond _ _ _) _ _; first | refine WS_condT rfl inferInstance ?_ | refine WS_condF rfl inferInstance ?_ | refine WS_condH_t rfl (by assumption) ?_ | refine WS_condH_f rfl (by assumption) ?_ | (refine WS_cond rfl ?_ ?_ <;> intro hc <;> (try simp only [decide_eq_true_eq, decide_eq_false_iff_not, Bool.not_eq_eq_eq_not, Bool.not_true, Bool.not_false, Bool.and_eq_true, Bool.or_eq_true, bne_iff_ne, beq_iff_eq, ne_eq, Decidable.not_not] at hc) <;> (try (exfalso; first | contradiction | omega; done)))))
      exact ⟨m - 1, _, by omega, ⟨j + 1, bs.set j 7, by simp; omega, by simpa using hbs, rfl⟩, ⟨rfl, rfl, rfl, rfl, rfl, rfl, trivial⟩, rfl, by ((try simp only [star_assoc, emp_star, star_emp]); (repeat' (first | exact Ent.last | refine Ent.take ?_ | refine Ent.nilT ?_ | refine Ent.takeR (by first | rfl | assumption | (simp; done)) ?_ | exact Ent.refl _)))⟩
    · obtain rfl : j = bs.length := by omega
      repeat' (first
        | (refine WS_seqK ?_; intro K hK)
        | (refine hK _ ?_; clear hK K)
        | with_reducible refine thenS_n ?_
        | with_reducible refine thenS_e ?_
        | with_reducible refine blockS_n ?_
        | with_reducible refine blockS_e ?_
        | with_reducible refine blockS_o rfl ?_
        | with_reducible refine thenS_r ?_
        | with_reducible refine blockS_r ?_
        | with_reducible refine use_K (by assumption) ?_
        | refine WS_region ?_
        | refine LS_nil ?_
        | (show LS _ _ _ _ _ (⟨_, _, _, _, _, some _⟩ :: _) _; first | refine LS_wantT rfl rfl inferInstance rfl ?_ | refine LS_wantF rfl rfl inferInstance rfl ?_ | refine LS_wantU rfl rfl rfl ?_ | (refine LS_wantS rfl rfl rfl ?_ ?_ <;> intro hc <;> (try simp only [decide_eq_true_eq, decide_eq_false_iff_not, Bool.not_eq_eq_eq_not, Bool.not_true, Bool.not_false, Bool.and_eq_true, Bool.or_eq_true, bne_iff_ne, beq_iff_eq, ne_eq, Decidable.not_not] at hc) <;> (try (exfalso; first | contradiction | omega; done))) | (refine LS_wantN rfl ?_ ?_ <;> intro hc <;> (try simp only [decide_eq_true_eq, decide_eq_false_iff_not, Bool.not_eq_eq_eq_not, Bool.not_true, Bool.not_false, Bool.and_eq_true, Bool.or_eq_true, bne_iff_ne, beq_iff_eq, ne_eq, Decidable.not_not] at hc) <;> (try (exfalso; first | contradiction | omega; done))))
        | (show LS _ _ _ _ _ (⟨some _, .move _, _, _, _, none⟩ :: _) _; first | refine LS_q (Q_move rfl) rfl ?_)
        | (show LS _ _ _ _ _ (⟨some _, .load _ _, _, _, _, none⟩ :: _) _; first | refine LS_q (Q_load rfl inferInstance inferInstance rfl) rfl ?_ | refine LS_q (Q_loadA rfl inferInstance inferInstance rfl) rfl ?_ | refine LS_q (Q_loadR rfl inferInstance inferInstance inferInstance (by assumption) rfl) rfl ?_ | refine LS_q (Q_loadR rfl inferInstance inferInstance inferInstance rfl rfl) rfl ?_ | refine LS_q (Q_loadRA rfl inferInstance inferInstance inferInstance (by assumption)) rfl ?_)
        | (show LS _ _ _ _ _ (⟨some _, .binOp _ _ _ _ _, _, _, _, none⟩ :: _) _; first | refine LS_q (Q_bin_t rfl rfl inferInstance (by first | assumption | omega | decide | rfl)) rfl ?_ | refine LS_q (Q_bin_f rfl rfl inferInstance (by first | assumption | omega | decide | rfl)) rfl ?_ | refine LS_q (Q_bin_nt rfl rfl inferInstance (by first | assumption | omega | decide | rfl)) rfl ?_ | refine LS_q (Q_bin_nf rfl rfl inferInstance (by first | assumption | omega | decide | rfl)) rfl ?_ | (refine LS_binS rfl rfl inferInstance rfl ?_ ?_ <;> intro hc) | (refine LS_binN rfl rfl inferInstance rfl ?_ ?_ <;> intro hc) | refine LS_q (Q_bin rfl rfl inferInstance) rfl ?_ | refine LS_q (Q_addI rfl rfl (by omega)) rfl ?_ | refine LS_q (Q_subI rfl rfl (by omega)) rfl ?_ | refine LS_q (Q_addS rfl rfl (by (try simp only [List.length_append, List.length_cons, List.length_nil, be_length, List.length_set]); omega)) rfl ?_ | refine LS_q (Q_quoI rfl rfl (by omega)) rfl ?_ | refine LS_q (Q_remI rfl rfl (by omega)) rfl ?_ | refine LS_q (Q_mulI rfl rfl (by omega)) rfl ?_)
        | (show LS _ _ _ _ _ (⟨some _, .assign _, _, _, _, none⟩ :: _) _; first | refine LS_q (Q_assign rfl) rfl ?_)
        | (show LS _ _ _ _ _ (⟨some _, .pick _ _ _, _, _, _, none⟩ :: _) _; first | refine LS_q (Q_pick_t rfl inferInstance rfl) rfl ?_ | refine LS_q (Q_pick_f rfl inferInstance rfl) rfl ?_ | refine LS_q (Q_pick rfl rfl rfl) rfl ?_)
        | (show LS _ _ _ _ _ (⟨some _, .extract _ _, _, _, _, none⟩ :: _) _; first | refine LS_q (Q_extract rfl rfl) rfl ?_)
        | (show LS _ _ _ _ _ (⟨some _, .call ⟨.builtin .len, _, _⟩, _, _, _, none⟩ :: _) _; first | refine LS_q (Q_len rfl inferInstance) rfl ?_ | refine LS_q (Q_lenS rfl inferInstance) rfl ?_ | refine LS_q (Q_lenR rfl inferInstance inferInstance) rfl ?_ | refine LS_q (Q_lenM rfl inferInstance inferInstance) rfl ?_)
        | (show LS _ _ _ _ _ (⟨some _, .convert _ _ _, _, _, _, none⟩ :: _) _; first | refine LS_q (Q_conv32_8 rfl inferInstance inferInstance inferInstance) rfl ?_ | refine LS_q (Q_conv64 rfl inferInstance inferInstance inferInstance) rfl ?_ | refine LS_q (Q_conv32 rfl inferInstance inferInstance inferInstance) rfl ?_ | refine LS_q (Q_convS rfl inferInstance rfl inferInstance inferInstance inferInstance) rfl ?_ | refine LS_q (Q_convSame rfl inferInstance inferInstance (by omega)) rfl ?_ | refine LS_q (Q_convI8 rfl inferInstance inferInstance) rfl ?_ | refine LS_q (Q_conv328 rfl inferInstance inferInstance) rfl ?_ | refine LS_q (Q_conv8 rfl inferInstance inferInstance) rfl ?_ | refine LS_q (Q_bytesS rfl inferInstance inferInstance rfl inferInstance inferInstance inferInstance) rfl ?_)
        | (show LS _ _ _ _ _ (⟨some _, .alloc _, _, _, _, none⟩ :: _) _; first | (refine LS_h (H_alloc inferInstance) rfl ?_; intro g))
        | (show LS _ _ _ _ _ (⟨some _, .indexAddr _ _ _, _, _, _, none⟩ :: _) _; first | refine LS_q (Q_index rfl rfl inferInstance inferInstance inferInstance inferInstance (by first | assumption | omega | ((try simp only [List.length_append, List.length_cons, List.length_nil, be_length, List.length_set]); omega))) rfl ?_ | refine LS_q (Q_indexV rfl rfl inferInstance inferInstance inferInstance (by first | assumption | omega)) rfl ?_)
        | (show LS _ _ _ _ _ (⟨none, _, _, _, _, none⟩ :: _) _; first | (refine LS_h0 (H_storeO rfl rfl inferInstance inferInstance inferInstance rfl) ?_; intro g) | (refine LS_h0 (H_storeAO rfl rfl inferInstance inferInstance inferInstance rfl) ?_; intro g) | (refine LS_h0 (H_store8 rfl rfl inferInstance inferInstance rfl inferInstance (by first | assumption | omega | ((try simp only [List.length_append, List.length_cons, List.length_nil, be_length, List.length_set]); omega))) ?_; intro g) | (refine LS_h0 (H_storeRA _ rfl rfl rfl inferInstance inferInstance inferInstance rfl rfl (by first | assumption | omega | ((try simp only [List.length_append, List.length_cons, List.length_nil, be_length, List.length_set]); omega))) ?_; intro g) | (refine LS_h0 (H_storeR _ rfl rfl inferInstance inferInstance inferInstance rfl (by assumption) rfl) ?_; intro g) | (refine LS_h0 (H_store rfl rfl inferInstance (by first | rfl | assumption) inferInstance rfl) ?_; intro g) | (refine LS_h0 (H_storeA rfl rfl inferInstance inferInstance (by first | rfl | (simp only [List.all_cons, List.all_nil, *]; rfl)) rfl) ?_; intro g))
        | refine WS_block ?_
        | refine WS_skip ?_
        | refine WS_ret ?_
        | refine WS_exit ?_
        | refine WS_label ?_
        | (show WS _ _ _ (.cond _ _ _) _ _; first | refine WS_condT rfl inferInstance ?_ | refine WS_condF rfl inferInstance ?_ | refine WS_condH_t rfl (by assumption) ?_ | refine WS_condH_f rfl (by assumption) ?_ | (refine WS_cond rfl ?_ ?_ <;> intro hc <;> (try simp only [decide_eq_true_eq, decide_eq_false_iff_not, Bool.not_eq_eq_eq_not, Bool.not_true, Bool.not_false, Bool.and_eq_true, Bool.or_eq_true, bne_iff_ne, beq_iff_eq, ne_eq, Decidable.not_not] at hc) <;> (try (exfalso; first | contradiction | omega; done))))
        | (refine LS_h (H_callX inferInstance rfl hrd inferInstance) rfl ?_; intro v2)
        | (refine LS_h (H_callX inferInstance rfl (hpk v1 v2) inferInstance) rfl ?_; intro u))
      exact ret_tmp (.inl rfl) rfl rfl ⟨(), rfl, by ((try simp only [star_assoc, emp_star, star_emp]); (repeat' (first | exact Ent.last | refine Ent.take ?_ | refine Ent.nilT ?_ | refine Ent.takeR (by first | rfl | assumption | (simp; done)) ?_ | exact Ent.refl _)))⟩
end Go.Proofs.Ytapoehkdnglahaa
