/- What wire.Decode and mesh.Decode return, of any bytes. -/
import Derived.Test.YtapoehkdnglahaaDecK3
namespace Go.Proofs.Ytapoehkdnglahaa
open Go.RowKit
set_option linter.unusedVariables false
set_option linter.unusedSimpArgs false
theorem dec_bad {t k f z n : UInt8} {l : List UInt8} (h : z.toNat ≠ 0 ∨ t.toNat = 0) : Pk.dec (t :: k :: f :: z :: n :: l) = none := by
  simp only [Pk.dec]
  rw [if_neg]
  rintro ⟨h1, h2⟩
  rcases h with h | h
  · exact h (by rw [h1]; rfl)
  · exact h2 (UInt8.toNat_inj.1 (by rw [h]; rfl))
theorem dec_flag {t k f z n : UInt8} {l : List UInt8} (h : f.toNat ≠ 0) (h2 : f.toNat ≠ 8 ∨ k.toNat ≠ 1) : Pk.dec (t :: k :: f :: z :: n :: l) = none := by
  have h0 : f ≠ 0 := fun e => h (by rw [e]; rfl)
  have h8 : f = 8 → k ≠ 1 := fun e e2 => by
    rcases h2 with h2 | h2
    · exact h2 (by rw [e]; rfl)
    · exact h2 (by rw [e2]; rfl)
  simp only [Pk.dec]
  split
  · unfold Pk.body
    repeat' split
    all_goals first
      | rfl
      | (rename_i hk hc; exfalso; rcases hc.2 with e | ⟨e, _⟩ <;> first | exact h0 e | exact h8 e hk)
      | (exfalso; simp_all; done)
  · rfl
theorem dec_kind {t k f z n : UInt8} {l : List UInt8} (h1 : k.toNat ≠ 1) (h2 : k.toNat ≠ 2) (h3 : k.toNat ≠ 3) (h9 : k.toNat ≠ 9) : Pk.dec (t :: k :: f :: z :: n :: l) = none := by
  have k1 : k ≠ 1 := fun e => h1 (by rw [e]; rfl)
  have k2 : k ≠ 2 := fun e => h2 (by rw [e]; rfl)
  have k3 : k ≠ 3 := fun e => h3 (by rw [e]; rfl)
  have k9 : k ≠ 9 := fun e => h9 (by rw [e]; rfl)
  simp only [Pk.dec, Pk.body, if_neg k1, if_neg k2, if_neg k3, if_neg k9, ite_self]
attribute [local irreducible] WS LS OpQ OpT OpH OpTQ Spec SpecQ SpecX DSpec cel
variable (w0 : World)
theorem wdecode_spec (l : List UInt8) (hl : l.length ≤ 100000) (v : Value) (X : HProp) [hX : Rdr w0 X v UInt8 1 byteC l] : Spec Try.prog w0 57 [v] X (fun v' : Value => decV l v') (fun v' => decH l v' X) := by
  rcases Nat.lt_or_ge l.length 5 with h5 | h5
  · exact wdecode_short w0 l h5 v X
  obtain ⟨t, k, f, z, n, r, rfl⟩ : ∃ t k f z n r, l = t :: k :: f :: z :: n :: r := by
    match l, h5 with
    | t :: k :: f :: z :: n :: r, _ => exact ⟨t, k, f, z, n, r, rfl⟩
  have hr : r.length ≤ 100000 := by simp at hl; omega
  by_cases hz : z.toNat = 0
  · by_cases ht : t.toNat = 0
    · exact wdec_bad w0 t k f z n r hr (dec_bad (.inr ht)) (by omega) v X
    · by_cases hf : f.toNat = 0
      · by_cases h1 : k.toNat = 1
        · exact wdec_1a w0 t k f z n r hr hz (by omega) hf h1 v X
        · by_cases h2 : k.toNat = 2
          · exact wdec_2 w0 t k f z n r hr hz (by omega) hf h2 v X
          · by_cases h3 : k.toNat = 3
            · exact wdec_3 w0 t k f z n r hr hz (by omega) hf h3 v X
            · by_cases h9 : k.toNat = 9
              · exact wdec_9 w0 t k f z n r hr hz (by omega) hf h9 v X
              · exact wdec_other w0 t k f z n r hr (dec_kind h1 h2 h3 h9) hz (by omega) hf h1 h2 h3 h9 v X
      · by_cases h8 : f.toNat = 8
        · by_cases h1 : k.toNat = 1
          · exact wdec_1b w0 t k f z n r hr hz (by omega) h8 h1 v X
          · exact wdec_bad w0 t k f z n r hr (dec_flag hf (.inr h1)) (by omega) v X
        · exact wdec_bad w0 t k f z n r hr (dec_flag hf (.inl h8)) (by omega) v X
  · exact wdec_bad w0 t k f z n r hr (dec_bad (.inl hz)) (by omega) v X
/-- What mesh.Decode hands out. -/
def mdecV (l : List UInt8) (v' : Value) : Value := .tuple #[((Pk.dec l).getD Pk.zero).val v', .int .i64 (if (Pk.dec l).isSome then 0 else 1)]
set_option maxRecDepth 100000 in
theorem mdecode_spec (l : List UInt8) (hl : l.length ≤ 100000) (v : Value) (X : HProp) [hX : Rdr w0 X v UInt8 1 byteC l] : Spec Try.prog w0 16 [v] X (fun v' : Value => mdecV l v') (fun v' => decH l v' X) := by
  have hd := wdecode_spec w0 l hl v X
  simp only [decV, decH, mdecV] at hd ⊢
  cases hp : Pk.dec l with
  | none =>
    simp only [hp, Option.getD_none, Pk.val, Pk.cells, Option.isSome_none] at hd ⊢
    refine Spec.enter Try.func16 rfl Try.ntmps16 rfl fun G => ?_
    simp only [argE]
    repeat' (first
      | (refine WS_seqK ?_; intro K hK)
      | (refine hK _ ?_; clear hK K)
      | with_reducible refine thenS_n ?_
      | with_reducible refine thenS_e ?_
      | with_reducible refine blockS_n ?_
      | with_reducible refine blockS_e ?_
      | with_reducible refine blockS_o rfl ?_
      | with_reducible refine thenS_r ?_
      | with_reducible refine blockS_r ?_
      | with_reducible refine use_K (by assumption) ?_
      | refine WS_region ?_
      | refine LS_nil ?_
      | (show LS _ _ _ _ _ (⟨some _, .move _, _, _, _, none⟩ :: _) _; first | refine LS_q (Q_move rfl) rfl ?_)
      | (show LS _ _ _ _ _ (⟨some _, .load _ _, _, _, _, none⟩ :: _) _; first | refine LS_q (Q_load rfl inferInstance inferInstance rfl) rfl ?_ | refine LS_q (Q_loadA rfl inferInstance inferInstance rfl) rfl ?_ | refine LS_q (Q_loadR rfl inferInstance inferInstance inferInstance (by assumption) rfl) rfl ?_ | refine LS_q (Q_loadR rfl inferInstance inferInstance inferInstance rfl rfl) rfl ?_ | refine LS_q (Q_loadRA rfl inferInstance inferInstance inferInstance (by assumption)) rfl ?_)
      | (show LS _ _ _ _ _ (⟨some _, .assign _, _, _, _, none⟩ :: _) _; first | refine LS_q (Q_assign rfl) rfl ?_)
      | (show LS _ _ _ _ _ (⟨some _, .extract _ _, _, _, _, none⟩ :: _) _; first | refine LS_q (Q_extract rfl rfl) rfl ?_)
      | (show LS _ _ _ _ _ (⟨some _, .unOp _ _ _, _, _, _, none⟩ :: _) _; first | refine LS_q (Q_un rfl inferInstance) rfl ?_ | refine LS_q (Q_negI rfl (by omega)) rfl ?_)
      | (show LS _ _ _ _ _ (⟨some _, .alloc _, _, _, _, none⟩ :: _) _; first | (refine LS_h (H_alloc inferInstance) rfl ?_; intro g))
      | (show LS _ _ _ _ _ (⟨some _, .build _ _, _, _, _, none⟩ :: _) _; first | refine LS_q (Q_build inferInstance inferInstance rfl rfl) rfl ?_ | refine LS_q (Q_buildA inferInstance inferInstance inferInstance rfl rfl) rfl ?_)
      | (show LS _ _ _ _ _ (⟨none, _, _, _, _, none⟩ :: _) _; first | (refine LS_h0 (H_storeO rfl rfl inferInstance inferInstance inferInstance rfl) ?_; intro g) | (refine LS_h0 (H_storeAO rfl rfl inferInstance inferInstance inferInstance rfl) ?_; intro g) | (refine LS_h0 (H_store8 rfl rfl inferInstance inferInstance rfl inferInstance (by first | assumption | omega | ((try simp only [List.length_append, List.length_cons, List.length_nil, be_length, List.length_set]); omega))) ?_; intro g) | (refine LS_h0 (H_storeRA _ rfl rfl rfl inferInstance inferInstance inferInstance rfl rfl (by first | assumption | omega | ((try simp only [List.length_append, List.length_cons, List.length_nil, be_length, List.length_set]); omega))) ?_; intro g) | (refine LS_h0 (H_storeR _ rfl rfl inferInstance inferInstance inferInstance rfl (by assumption) rfl) ?_; intro g) | (refine LS_h0 (H_store rfl rfl inferInstance (by first | rfl | assumption) inferInstance rfl) ?_; intro g) | (refine LS_h0 (H_storeA rfl rfl inferInstance inferInstance (by first | rfl | (simp only [List.all_cons, List.all_nil, *]; rfl)) rfl) ?_; intro g))
      | refine WS_block ?_
      | refine WS_skip ?_
      | refine WS_ret ?_
      | refine WS_exit ?_
      | refine WS_label ?_
      | (show WS _ _ _ (.cond _ _ _) _ _; first | refine WS_condT rfl inferInstance ?_ | refine WS_condF rfl inferInstance ?_ | refine WS_condH_t rfl (by assumption) ?_ | refine WS_condH_f rfl (by assumption) ?_ | (refine WS_cond rfl ?_ ?_ <;> intro hc <;> (try simp only [decide_eq_true_eq, decide_eq_false_iff_not, Bool.not_eq_eq_eq_not, Bool.not_true, Bool.not_false, Bool.and_eq_true, Bool.or_eq_true, bne_iff_ne, beq_iff_eq, ne_eq, Decidable.not_not] at hc) <;> (try (exfalso; first | contradiction | omega; done))))
      | (refine LS_h (H_callX inferInstance rfl hd inferInstance) rfl ?_; intro v'))
    exact ret_2 (.inl rfl) rfl (RV_cell rfl inferInstance inferInstance rfl) (RV_tmp rfl) ⟨.slice none 0 0, rfl, by ((try simp only [star_assoc, emp_star, star_emp]); (repeat' (first | exact Ent.last | refine Ent.take ?_ | refine Ent.nilT ?_ | refine Ent.takeR (by first | rfl | assumption | (simp; done)) ?_ | exact Ent.refl _)))⟩
  | some p =>
    simp only [hp, Option.getD_some, Pk.val, Pk.cells, Option.isSome_some] at hd ⊢
    refine Spec.enter Try.func16 rfl Try.ntmps16 rfl fun G => ?_
    simp only [argE]
    repeat' (first
      | (refine WS_seqK ?_; intro K hK)
      | (refine hK _ ?_; clear hK K)
      | with_reducible refine thenS_n ?_
      | with_reducible refine thenS_e ?_
      | with_reducible refine blockS_n ?_
      | with_reducible refine blockS_e ?_
      | with_reducible refine blockS_o rfl ?_
      | with_reducible refine thenS_r ?_
      | with_reducible refine blockS_r ?_
      | with_reducible refine use_K (by assumption) ?_
      | refine WS_region ?_
      | refine LS_nil ?_
      | (show LS _ _ _ _ _ (⟨some _, .move _, _, _, _, none⟩ :: _) _; first | refine LS_q (Q_move rfl) rfl ?_)
      | (show LS _ _ _ _ _ (⟨some _, .load _ _, _, _, _, none⟩ :: _) _; first | refine LS_q (Q_load rfl inferInstance inferInstance rfl) rfl ?_ | refine LS_q (Q_loadA rfl inferInstance inferInstance rfl) rfl ?_ | refine LS_q (Q_loadR rfl inferInstance inferInstance inferInstance (by assumption) rfl) rfl ?_ | refine LS_q (Q_loadR rfl inferInstance inferInstance inferInstance rfl rfl) rfl ?_ | refine LS_q (Q_loadRA rfl inferInstance inferInstance inferInstance (by assumption)) rfl ?_)
      | (show LS _ _ _ _ _ (⟨some _, .assign _, _, _, _, none⟩ :: _) _; first | refine LS_q (Q_assign rfl) rfl ?_)
      | (show LS _ _ _ _ _ (⟨some _, .extract _ _, _, _, _, none⟩ :: _) _; first | refine LS_q (Q_extract rfl rfl) rfl ?_)
      | (show LS _ _ _ _ _ (⟨some _, .unOp _ _ _, _, _, _, none⟩ :: _) _; first | refine LS_q (Q_un rfl inferInstance) rfl ?_ | refine LS_q (Q_negI rfl (by omega)) rfl ?_)
      | (show LS _ _ _ _ _ (⟨some _, .alloc _, _, _, _, none⟩ :: _) _; first | (refine LS_h (H_alloc inferInstance) rfl ?_; intro g))
      | (show LS _ _ _ _ _ (⟨some _, .build _ _, _, _, _, none⟩ :: _) _; first | refine LS_q (Q_build inferInstance inferInstance rfl rfl) rfl ?_ | refine LS_q (Q_buildA inferInstance inferInstance inferInstance rfl rfl) rfl ?_)
      | (show LS _ _ _ _ _ (⟨none, _, _, _, _, none⟩ :: _) _; first | (refine LS_h0 (H_storeO rfl rfl inferInstance inferInstance inferInstance rfl) ?_; intro g) | (refine LS_h0 (H_storeAO rfl rfl inferInstance inferInstance inferInstance rfl) ?_; intro g) | (refine LS_h0 (H_store8 rfl rfl inferInstance inferInstance rfl inferInstance (by first | assumption | omega | ((try simp only [List.length_append, List.length_cons, List.length_nil, be_length, List.length_set]); omega))) ?_; intro g) | (refine LS_h0 (H_storeRA _ rfl rfl rfl inferInstance inferInstance inferInstance rfl rfl (by first | assumption | omega | ((try simp only [List.length_append, List.length_cons, List.length_nil, be_length, List.length_set]); omega))) ?_; intro g) | (refine LS_h0 (H_storeR _ rfl rfl inferInstance inferInstance inferInstance rfl (by assumption) rfl) ?_; intro g) | (refine LS_h0 (H_store rfl rfl inferInstance (by first | rfl | assumption) inferInstance rfl) ?_; intro g) | (refine LS_h0 (H_storeA rfl rfl inferInstance inferInstance (by first | rfl | (simp only [List.all_cons, List.all_nil, *]; rfl)) rfl) ?_; intro g))
      | refine WS_block ?_
      | refine WS_skip ?_
      | refine WS_ret ?_
      | refine WS_exit ?_
      | refine WS_label ?_
      | (show WS _ _ _ (.cond _ _ _) _ _; first | refine WS_condT rfl inferInstance ?_ | refine WS_condF rfl inferInstance ?_ | refine WS_condH_t rfl (by assumption) ?_ | refine WS_condH_f rfl (by assumption) ?_ | (refine WS_cond rfl ?_ ?_ <;> intro hc <;> (try simp only [decide_eq_true_eq, decide_eq_false_iff_not, Bool.not_eq_eq_eq_not, Bool.not_true, Bool.not_false, Bool.and_eq_true, Bool.or_eq_true, bne_iff_ne, beq_iff_eq, ne_eq, Decidable.not_not] at hc) <;> (try (exfalso; first | contradiction | omega; done))))
      | (refine LS_h (H_callX inferInstance rfl hd inferInstance) rfl ?_; intro v'))
    exact ret_2 (.inl rfl) rfl (RV_cell rfl inferInstance inferInstance rfl) (RV_tmp rfl) ⟨v', rfl, by ((try simp only [star_assoc, emp_star, star_emp]); (repeat' (first | exact Ent.last | refine Ent.take ?_ | refine Ent.nilT ?_ | refine Ent.takeR (by first | rfl | assumption | (simp; done)) ?_ | exact Ent.refl _)))⟩
end Go.Proofs.Ytapoehkdnglahaa
