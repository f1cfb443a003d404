/- What the law Turns returns, by a walk. -/
import Derived.Test.YtapoehkdnglahaaDecA
import Derived.Test.YtapoehkdnglahaaEncS
namespace Go.Proofs.Ytapoehkdnglahaa
open Go.RowKit
set_option linter.unusedVariables false
set_option linter.unusedSimpArgs false
/-- How long a frame is, by its second byte and its fifth. -/
def lenK (k n : UInt8) : Nat := if k = 1 then 25 else if k = 2 then 21 else if k = 3 then 5 + 8 * n.toNat else 17 + n.toNat
theorem lenK_le (k n : UInt8) : lenK k n ≤ 3000 := by
  have := n.toNat_lt
  unfold lenK
  repeat' split
  all_goals omega
theorem dec_len {s : List UInt8} {q : Pk} (h : Pk.dec s = some q) : s.length = lenK (byteAt s 1) (byteAt s 4) ∧ 13 ≤ s.length := by
  unfold Pk.dec at h
  split at h
  · rename_i t k f z n l
    split at h
    · unfold Pk.body at h
      have e1 : byteAt (t :: k :: f :: z :: n :: l) 1 = k := rfl
      have e4 : byteAt (t :: k :: f :: z :: n :: l) 4 = n := rfl
      rw [e1, e4]
      simp only [List.length_cons]
      repeat' split at h
      all_goals first
        | (cases h; done)
        | (rename_i hk hc; subst hk; simp [lenK]; omega)
        | (rename_i hk hc; subst hk; obtain ⟨hc1, hc2⟩ := hc; simp [lenK]; omega)
    · cases h
  · cases h
theorem dec_more {s : List UInt8} {q : Pk} (h : Pk.dec s = some q) (x : UInt8) : Pk.dec (s ++ [x]) = none := by
  cases h2 : Pk.dec (s ++ [x]) with
  | none => rfl
  | some r =>
    obtain ⟨a1, a2⟩ := dec_len h
    obtain ⟨b1, b2⟩ := dec_len h2
    have e : ∀ i, i < s.length → byteAt (s ++ [x]) i = byteAt s i := fun i hi => by simp [byteAt, List.getElem?_append, hi]
    rw [e 1 (by omega), e 4 (by omega)] at b1
    simp at b1; omega
theorem dec_less {s : List UInt8} {q : Pk} (h : Pk.dec s = some q) : Pk.dec (s.take (s.length - 1)) = none := by
  cases h2 : Pk.dec (s.take (s.length - 1)) with
  | none => rfl
  | some r =>
    obtain ⟨a1, a2⟩ := dec_len h
    obtain ⟨b1, b2⟩ := dec_len h2
    have e : ∀ i, i < s.length - 1 → byteAt (s.take (s.length - 1)) i = byteAt s i := fun i hi => by simp only [byteAt]; rw [List.getElem?_take, if_pos hi]
    rw [e 1 (by omega), e 4 (by omega)] at b1
    simp at b1; omega
attribute [local irreducible] WS LS OpQ OpT OpH OpTQ Spec SpecQ SpecX DSpec cel
instance : Lit (!(true == true)) false := ⟨rfl⟩
instance : Lit (!(false == false)) false := ⟨rfl⟩
instance : Lit (true == true) true := ⟨rfl⟩
instance : Lit (false == false) true := ⟨rfl⟩
variable (w0 : World)
set_option maxRecDepth 100000 in
theorem klost_spec (l m : List (UInt32 × UInt32)) (hl : l.length ≤ 100000) (v u : Value) (X : HProp) [hX : Rdr w0 X v (UInt32 × UInt32) 2 lostC l] [hY : Rdr w0 X u (UInt32 × UInt32) 2 lostC m] : Spec Try.prog w0 30 [v, u] X (fun _ : Unit => .bool (decide (l = m))) (fun _ => X) := by
  refine Spec.enter Try.func30 rfl Try.ntmps30 rfl fun G => ?_
  simp only [argE]
  repeat' (first
    | (refine WS_seqK ?_; intro K hK)
    | (refine hK _ ?_; clear hK K)
    | with_reducible refine thenS_n ?_
    | with_reducible refine thenS_e ?_
    | with_reducible refine blockS_n ?_
    | with_reducible refine blockS_e ?_
    | with_reducible refine blockS_o rfl ?_
    | with_reducible refine thenS_r ?_
    | with_reducible refine blockS_r ?_
    | with_reducible refine use_K (by assumption) ?_
    | refine WS_region ?_
    | refine LS_nil ?_
    | (show LS _ _ _ _ _ (⟨some _, .move _, _, _, _, none⟩ :: _) _; first | refine LS_q (Q_move rfl) rfl ?_)
    | (show LS _ _ _ _ _ (⟨some _, .binOp _ _ _ _ _, _, _, _, none⟩ :: _) _; first | refine LS_q (Q_bin_t rfl rfl inferInstance (by first | assumption | omega | decide)) rfl ?_ | refine LS_q (Q_bin_f rfl rfl inferInstance (by first | assumption | omega | decide)) rfl ?_ | refine LS_q (Q_bin_nt rfl rfl inferInstance (by first | assumption | omega | decide)) rfl ?_ | refine LS_q (Q_bin_nf rfl rfl inferInstance (by first | assumption | omega | decide)) rfl ?_ | (refine LS_binS rfl rfl inferInstance rfl ?_ ?_ <;> intro hc) | (refine LS_binN rfl rfl inferInstance rfl ?_ ?_ <;> intro hc) | refine LS_q (Q_bin rfl rfl inferInstance) rfl ?_ | refine LS_q (Q_addI rfl rfl (by omega)) rfl ?_ | refine LS_q (Q_subI rfl rfl (by omega)) rfl ?_ | refine LS_q (Q_addS rfl rfl (by (try simp only [List.length_append, List.length_cons, List.length_nil, be_length, List.length_set]); omega)) rfl ?_ | refine LS_q (Q_quoI rfl rfl (by omega)) rfl ?_ | refine LS_q (Q_remI rfl rfl (by omega)) rfl ?_ | refine LS_q (Q_mulI rfl rfl (by omega)) rfl ?_)
    | (show LS _ _ _ _ _ (⟨some _, .assign _, _, _, _, none⟩ :: _) _; first | refine LS_q (Q_assign rfl) rfl ?_)
    | (show LS _ _ _ _ _ (⟨some _, .call ⟨.builtin .len, _, _⟩, _, _, _, none⟩ :: _) _; first | refine LS_q (Q_len rfl inferInstance) rfl ?_ | refine LS_q (Q_lenS rfl inferInstance) rfl ?_ | refine LS_q (Q_lenR rfl inferInstance inferInstance) rfl ?_ | refine LS_q (Q_lenM rfl inferInstance inferInstance) rfl ?_)
    | refine WS_block ?_
    | refine WS_skip ?_
    | refine WS_ret ?_
    | refine WS_exit ?_
    | refine WS_label ?_
    | (show WS _ _ _ (.cond _ _ _) _ _; first | refine WS_condT rfl inferInstance ?_ | refine WS_condF rfl inferInstance ?_ | refine WS_condH_t rfl (by assumption) ?_ | refine WS_condH_f rfl (by assumption) ?_ | (refine WS_cond rfl ?_ ?_ <;> intro hc <;> (try simp only [decide_eq_true_eq, decide_eq_false_iff_not, Bool.not_eq_eq_eq_not, Bool.not_true, Bool.not_false, Bool.and_eq_true, Bool.or_eq_true, bne_iff_ne, beq_iff_eq, ne_eq, Decidable.not_not] at hc) <;> (try (exfalso; first | contradiction | omega; done))))
    | refine WS_drawS (by kernel_rfl) ?_
    | refine DL_nilA ?_
    | refine DL_nilS ?_
    | refine DL_nilN ?_
    | refine DL_nilE ?_
    | refine DL_claimS rfl ?_
    | refine DL_claim rfl rfl ?_
    | (show DL _ _ _ _ _ _ _ _ _ _ _ _ (⟨some _, .move _, _, _, _, none⟩ :: _) _ _; first | refine DL_qp rfl rfl rfl (fun F' => Q_move rfl) ?_ | refine DL_q rfl rfl (fun F' => Q_move rfl) ?_)
    | (show DL _ _ _ _ _ _ _ _ _ _ _ _ (⟨some _, .load _ _, _, _, _, none⟩ :: _) _ _; first | refine DL_qp rfl rfl rfl (fun F' => Q_load rfl inferInstance inferInstance rfl) ?_ | refine DL_q rfl rfl (fun F' => Q_load rfl inferInstance inferInstance rfl) ?_ | refine DL_qp rfl rfl rfl (fun F' => Q_loadA rfl inferInstance inferInstance rfl) ?_ | refine DL_q rfl rfl (fun F' => Q_loadA rfl inferInstance inferInstance rfl) ?_ | refine DL_qp rfl rfl rfl (fun F' => Q_loadR rfl inferInstance inferInstance inferInstance (by assumption) rfl) ?_ | refine DL_q rfl rfl (fun F' => Q_loadR rfl inferInstance inferInstance inferInstance (by assumption) rfl) ?_ | refine DL_qp rfl rfl rfl (fun F' => Q_loadR rfl inferInstance inferInstance inferInstance rfl rfl) ?_ | refine DL_q rfl rfl (fun F' => Q_loadR rfl inferInstance inferInstance inferInstance rfl rfl) ?_ | refine DL_qp rfl rfl rfl (fun F' => Q_loadRA rfl inferInstance inferInstance inferInstance (by assumption)) ?_ | refine DL_q rfl rfl (fun F' => Q_loadRA rfl inferInstance inferInstance inferInstance (by assumption)) ?_)
    | (show DL _ _ _ _ _ _ _ _ _ _ _ _ (⟨some _, .binOp _ _ _ _ _, _, _, _, none⟩ :: _) _ _; first | refine DL_qp rfl rfl rfl (fun F' => Q_bin_t rfl rfl inferInstance (by first | assumption | omega | decide)) ?_ | refine DL_q rfl rfl (fun F' => Q_bin_t rfl rfl inferInstance (by first | assumption | omega | decide)) ?_ | refine DL_qp rfl rfl rfl (fun F' => Q_bin_f rfl rfl inferInstance (by first | assumption | omega | decide)) ?_ | refine DL_q rfl rfl (fun F' => Q_bin_f rfl rfl inferInstance (by first | assumption | omega | decide)) ?_ | refine DL_qp rfl rfl rfl (fun F' => Q_bin_nt rfl rfl inferInstance (by first | assumption | omega | decide)) ?_ | refine DL_q rfl rfl (fun F' => Q_bin_nt rfl rfl inferInstance (by first | assumption | omega | decide)) ?_ | refine DL_qp rfl rfl rfl (fun F' => Q_bin_nf rfl rfl inferInstance (by first | assumption | omega | decide)) ?_ | refine DL_q rfl rfl (fun F' => Q_bin_nf rfl rfl inferInstance (by first | assumption | omega | decide)) ?_ | (refine DL_binS rfl rfl inferInstance rfl ?_ ?_ <;> intro hc) | refine DL_qp rfl rfl rfl (fun F' => Q_bin rfl rfl inferInstance) ?_ | refine DL_q rfl rfl (fun F' => Q_bin rfl rfl inferInstance) ?_ | refine DL_qp rfl rfl rfl (fun F' => Q_addI rfl rfl (by omega)) ?_ | refine DL_q rfl rfl (fun F' => Q_addI rfl rfl (by omega)) ?_ | refine DL_qp rfl rfl rfl (fun F' => Q_subI rfl rfl (by omega)) ?_ | refine DL_q rfl rfl (fun F' => Q_subI rfl rfl (by omega)) ?_ | refine DL_qp rfl rfl rfl (fun F' => Q_addS rfl rfl (by (try simp only [List.length_append, List.length_cons, List.length_nil, be_length, List.length_set]); omega)) ?_ | refine DL_q rfl rfl (fun F' => Q_addS rfl rfl (by (try simp only [List.length_append, List.length_cons, List.length_nil, be_length, List.length_set]); omega)) ?_ | refine DL_qp rfl rfl rfl (fun F' => Q_quoI rfl rfl (by omega)) ?_ | refine DL_q rfl rfl (fun F' => Q_quoI rfl rfl (by omega)) ?_ | refine DL_qp rfl rfl rfl (fun F' => Q_remI rfl rfl (by omega)) ?_ | refine DL_q rfl rfl (fun F' => Q_remI rfl rfl (by omega)) ?_ | refine DL_qp rfl rfl rfl (fun F' => Q_mulI rfl rfl (by omega)) ?_ | refine DL_q rfl rfl (fun F' => Q_mulI rfl rfl (by omega)) ?_)
    | (show DL _ _ _ _ _ _ _ _ _ _ _ _ (⟨some _, .indexAddr _ _ _, _, _, _, none⟩ :: _) _ _; first | refine DL_qp rfl rfl rfl (fun F' => Q_index rfl rfl inferInstance inferInstance inferInstance inferInstance (by first | assumption | omega | ((try simp only [List.length_append, List.length_cons, List.length_nil, be_length, List.length_set]); omega))) ?_ | refine DL_q rfl rfl (fun F' => Q_index rfl rfl inferInstance inferInstance inferInstance inferInstance (by first | assumption | omega | ((try simp only [List.length_append, List.length_cons, List.length_nil, be_length, List.length_set]); omega))) ?_ | refine DL_qp rfl rfl rfl (fun F' => Q_indexV rfl rfl inferInstance inferInstance inferInstance (by first | assumption | omega)) ?_ | refine DL_q rfl rfl (fun F' => Q_indexV rfl rfl inferInstance inferInstance inferInstance (by first | assumption | omega)) ?_))
  rotate_left
  · refine ret_tmp (.inl rfl) rfl rfl ⟨(), ?_, Ent.take Ent.last⟩
    rw [decide_eq_false]; rintro rfl; exact hc rfl
  refine WS_loop (fun k τ => ∃ j, j + k = l.length ∧ l.take j = m.take j ∧ τ = ⟨[(5, .int .i64 (j : Int)), (0, v), (1, u)], [], X * G⟩) ?_ ?_
  · exact ⟨l.length, _, ⟨0, by omega, rfl, rfl⟩, ⟨rfl, rfl, rfl, trivial⟩, rfl, Ent.refl _⟩
  · rintro k τ ⟨j, hjk, hj, rfl⟩
    rcases Nat.lt_or_ge j l.length with hlt | hge
    · obtain ⟨z, hz⟩ : ∃ z, l[j]? = some z := ⟨_, List.getElem?_eq_getElem hlt⟩
      have hlt2 : j < m.length := by omega
      obtain ⟨z', hz'⟩ : ∃ z, m[j]? = some z := ⟨_, List.getElem?_eq_getElem hlt2⟩
      repeat' (first
        | (show WS _ _ _ (.region 6 _ true) _ _; refine WS_drawA [0, 1, 2, 3, 4, 5, 6, 7, 8] (by kernel_rfl) rfl ?_)
        | (refine WS_seqK ?_; intro K hK)
        | (refine hK _ ?_; clear hK K)
        | with_reducible refine thenS_n ?_
        | with_reducible refine thenS_e ?_
        | with_reducible refine blockS_n ?_
        | with_reducible refine blockS_e ?_
        | with_reducible refine blockS_o rfl ?_
        | with_reducible refine thenS_r ?_
        | with_reducible refine blockS_r ?_
        | with_reducible refine use_K (by assumption) ?_
        | refine WS_region ?_
        | refine LS_nil ?_
        | (show LS _ _ _ _ _ (⟨some _, .move _, _, _, _, none⟩ :: _) _; first | refine LS_q (Q_move rfl) rfl ?_)
        | (show LS _ _ _ _ _ (⟨some _, .binOp _ _ _ _ _, _, _, _, none⟩ :: _) _; first | refine LS_q (Q_bin_t rfl rfl inferInstance (by first | assumption | omega | decide)) rfl ?_ | refine LS_q (Q_bin_f rfl rfl inferInstance (by first | assumption | omega | decide)) rfl ?_ | refine LS_q (Q_bin_nt rfl rfl inferInstance (by first | assumption | omega | decide)) rfl ?_ | refine LS_q (Q_bin_nf rfl rfl inferInstance (by first | assumption | omega | decide)) rfl ?_ | (refine LS_binS rfl rfl inferInstance rfl ?_ ?_ <;> intro hc) | (refine LS_binN rfl rfl inferInstance rfl ?_ ?_ <;> intro hc) | refine LS_q (Q_bin rfl rfl inferInstance) rfl ?_ | refine LS_q (Q_addI rfl rfl (by omega)) rfl ?_ | refine LS_q (Q_subI rfl rfl (by omega)) rfl ?_ | refine LS_q (Q_addS rfl rfl (by (try simp only [List.length_append, List.length_cons, List.length_nil, be_length, List.length_set]); omega)) rfl ?_ | refine LS_q (Q_quoI rfl rfl (by omega)) rfl ?_ | refine LS_q (Q_remI rfl rfl (by omega)) rfl ?_ | refine LS_q (Q_mulI rfl rfl (by omega)) rfl ?_)
        | (show LS _ _ _ _ _ (⟨some _, .assign _, _, _, _, none⟩ :: _) _; first | refine LS_q (Q_assign rfl) rfl ?_)
        | (show LS _ _ _ _ _ (⟨some _, .call ⟨.builtin .len, _, _⟩, _, _, _, none⟩ :: _) _; first | refine LS_q (Q_len rfl inferInstance) rfl ?_ | refine LS_q (Q_lenS rfl inferInstance) rfl ?_ | refine LS_q (Q_lenR rfl inferInstance inferInstance) rfl ?_ | refine LS_q (Q_lenM rfl inferInstance inferInstance) rfl ?_)
        | refine WS_block ?_
        | refine WS_skip ?_
        | refine WS_ret ?_
        | refine WS_exit ?_
        | refine WS_label ?_
        | (show WS _ _ _ (.cond _ _ _) _ _; first | refine WS_condT rfl inferInstance ?_ | refine WS_condF rfl inferInstance ?_ | refine WS_condH_t rfl (by assumption) ?_ | refine WS_condH_f rfl (by assumption) ?_ | (refine WS_cond rfl ?_ ?_ <;> intro hc <;> (try simp only [decide_eq_true_eq, decide_eq_false_iff_not, Bool.not_eq_eq_eq_not, Bool.not_true, Bool.not_false, Bool.and_eq_true, Bool.or_eq_true, bne_iff_ne, beq_iff_eq, ne_eq, Decidable.not_not] at hc) <;> (try (exfalso; first | contradiction | omega; done))))
        | refine DL_nilA ?_
        | refine DL_nilS ?_
        | refine DL_nilN ?_
        | refine DL_nilE ?_
        | refine DL_claimS rfl ?_
        | refine DL_claim rfl rfl ?_
        | (show DL _ _ _ _ _ _ _ _ _ _ _ _ (⟨some _, .move _, _, _, _, none⟩ :: _) _ _; first | refine DL_qp rfl rfl rfl (fun F' => Q_move rfl) ?_ | refine DL_q rfl rfl (fun F' => Q_move rfl) ?_)
        | (show DL _ _ _ _ _ _ _ _ _ _ _ _ (⟨some _, .load _ _, _, _, _, none⟩ :: _) _ _; first | refine DL_qp rfl rfl rfl (fun F' => Q_load rfl inferInstance inferInstance rfl) ?_ | refine DL_q rfl rfl (fun F' => Q_load rfl inferInstance inferInstance rfl) ?_ | refine DL_qp rfl rfl rfl (fun F' => Q_loadA rfl inferInstance inferInstance rfl) ?_ | refine DL_q rfl rfl (fun F' => Q_loadA rfl inferInstance inferInstance rfl) ?_ | refine DL_qp rfl rfl rfl (fun F' => Q_loadR rfl inferInstance inferInstance inferInstance (by assumption) rfl) ?_ | refine DL_q rfl rfl (fun F' => Q_loadR rfl inferInstance inferInstance inferInstance (by assumption) rfl) ?_ | refine DL_qp rfl rfl rfl (fun F' => Q_loadR rfl inferInstance inferInstance inferInstance rfl rfl) ?_ | refine DL_q rfl rfl (fun F' => Q_loadR rfl inferInstance inferInstance inferInstance rfl rfl) ?_ | refine DL_qp rfl rfl rfl (fun F' => Q_loadRA rfl inferInstance inferInstance inferInstance (by assumption)) ?_ | refine DL_q rfl rfl (fun F' => Q_loadRA rfl inferInstance inferInstance inferInstance (by assumption)) ?_)
        | (show DL _ _ _ _ _ _ _ _ _ _ _ _ (⟨some _, .binOp _ _ _ _ _, _, _, _, none⟩ :: _) _ _; first | refine DL_qp rfl rfl rfl (fun F' => Q_bin_t rfl rfl inferInstance (by first | assumption | omega | decide)) ?_ | refine DL_q rfl rfl (fun F' => Q_bin_t rfl rfl inferInstance (by first | assumption | omega | decide)) ?_ | refine DL_qp rfl rfl rfl (fun F' => Q_bin_f rfl rfl inferInstance (by first | assumption | omega | decide)) ?_ | refine DL_q rfl rfl (fun F' => Q_bin_f rfl rfl inferInstance (by first | assumption | omega | decide)) ?_ | refine DL_qp rfl rfl rfl (fun F' => Q_bin_nt rfl rfl inferInstance (by first | assumption | omega | decide)) ?_ | refine DL_q rfl rfl (fun F' => Q_bin_nt rfl rfl inferInstance (by first | assumption | omega | decide)) ?_ | refine DL_qp rfl rfl rfl (fun F' => Q_bin_nf rfl rfl inferInstance (by first | assumption | omega | decide)) ?_ | refine DL_q rfl rfl (fun F' => Q_bin_nf rfl rfl inferInstance (by first | assumption | omega | decide)) ?_ | (refine DL_binS rfl rfl inferInstance rfl ?_ ?_ <;> intro hc) | refine DL_qp rfl rfl rfl (fun F' => Q_bin rfl rfl inferInstance) ?_ | refine DL_q rfl rfl (fun F' => Q_bin rfl rfl inferInstance) ?_ | refine DL_qp rfl rfl rfl (fun F' => Q_addI rfl rfl (by omega)) ?_ | refine DL_q rfl rfl (fun F' => Q_addI rfl rfl (by omega)) ?_ | refine DL_qp rfl rfl rfl (fun F' => Q_subI rfl rfl (by omega)) ?_ | refine DL_q rfl rfl (fun F' => Q_subI rfl rfl (by omega)) ?_ | refine DL_qp rfl rfl rfl (fun F' => Q_addS rfl rfl (by (try simp only [List.length_append, List.length_cons, List.length_nil, be_length, List.length_set]); omega)) ?_ | refine DL_q rfl rfl (fun F' => Q_addS rfl rfl (by (try simp only [List.length_append, List.length_cons, List.length_nil, be_length, List.length_set]); omega)) ?_ | refine DL_qp rfl rfl rfl (fun F' => Q_quoI rfl rfl (by omega)) ?_ | refine DL_q rfl rfl (fun F' => Q_quoI rfl rfl (by omega)) ?_ | refine DL_qp rfl rfl rfl (fun F' => Q_remI rfl rfl (by omega)) ?_ | refine DL_q rfl rfl (fun F' => Q_remI rfl rfl (by omega)) ?_ | refine DL_qp rfl rfl rfl (fun F' => Q_mulI rfl rfl (by omega)) ?_ | refine DL_q rfl rfl (fun F' => Q_mulI rfl rfl (by omega)) ?_)
        | (show DL _ _ _ _ _ _ _ _ _ _ _ _ (⟨some _, .indexAddr _ _ _, _, _, _, none⟩ :: _) _ _; first | refine DL_qp rfl rfl rfl (fun F' => Q_index rfl rfl inferInstance inferInstance inferInstance inferInstance (by first | assumption | omega | ((try simp only [List.length_append, List.length_cons, List.length_nil, be_length, List.length_set]); omega))) ?_ | refine DL_q rfl rfl (fun F' => Q_index rfl rfl inferInstance inferInstance inferInstance inferInstance (by first | assumption | omega | ((try simp only [List.length_append, List.length_cons, List.length_nil, be_length, List.length_set]); omega))) ?_ | refine DL_qp rfl rfl rfl (fun F' => Q_indexV rfl rfl inferInstance inferInstance inferInstance (by first | assumption | omega)) ?_ | refine DL_q rfl rfl (fun F' => Q_indexV rfl rfl inferInstance inferInstance inferInstance (by first | assumption | omega)) ?_))
      · refine ret_tmp (.inl rfl) rfl rfl ⟨(), ?_, Ent.take Ent.last⟩
        rw [decide_eq_false]; rintro rfl; rw [hz] at hz'; cases hz'; simp at hc
      · exact ⟨k - 1, _, by omega, ⟨j + 1, by omega, take_succ_eq hj hz hz' (by simpa using hc), rfl⟩, ⟨rfl, rfl, rfl, trivial⟩, rfl, Ent.refl _⟩
    · obtain rfl : j = l.length := by omega
      have e : l = m := by rw [List.take_length, List.take_of_length_le (by omega)] at hj; exact hj
      repeat' (first
        | (refine WS_seqK ?_; intro K hK)
        | (refine hK _ ?_; clear hK K)
        | with_reducible refine thenS_n ?_
        | with_reducible refine thenS_e ?_
        | with_reducible refine blockS_n ?_
        | with_reducible refine blockS_e ?_
        | with_reducible refine blockS_o rfl ?_
        | with_reducible refine thenS_r ?_
        | with_reducible refine blockS_r ?_
        | with_reducible refine use_K (by assumption) ?_
        | refine WS_region ?_
        | refine LS_nil ?_
        | (show LS _ _ _ _ _ (⟨some _, .move _, _, _, _, none⟩ :: _) _; first | refine LS_q (Q_move rfl) rfl ?_)
        | (show LS _ _ _ _ _ (⟨some _, .binOp _ _ _ _ _, _, _, _, none⟩ :: _) _; first | refine LS_q (Q_bin_t rfl rfl inferInstance (by first | assumption | omega | decide)) rfl ?_ | refine LS_q (Q_bin_f rfl rfl inferInstance (by first | assumption | omega | decide)) rfl ?_ | refine LS_q (Q_bin_nt rfl rfl inferInstance (by first | assumption | omega | decide)) rfl ?_ | refine LS_q (Q_bin_nf rfl rfl inferInstance (by first | assumption | omega | decide)) rfl ?_ | (refine LS_binS rfl rfl inferInstance rfl ?_ ?_ <;> intro hc) | (refine LS_binN rfl rfl inferInstance rfl ?_ ?_ <;> intro hc) | refine LS_q (Q_bin rfl rfl inferInstance) rfl ?_ | refine LS_q (Q_addI rfl rfl (by omega)) rfl ?_ | refine LS_q (Q_subI rfl rfl (by omega)) rfl ?_ | refine LS_q (Q_addS rfl rfl (by (try simp only [List.length_append, List.length_cons, List.length_nil, be_length, List.length_set]); omega)) rfl ?_ | refine LS_q (Q_quoI rfl rfl (by omega)) rfl ?_ | refine LS_q (Q_remI rfl rfl (by omega)) rfl ?_ | refine LS_q (Q_mulI rfl rfl (by omega)) rfl ?_)
        | (show LS _ _ _ _ _ (⟨some _, .assign _, _, _, _, none⟩ :: _) _; first | refine LS_q (Q_assign rfl) rfl ?_)
        | (show LS _ _ _ _ _ (⟨some _, .call ⟨.builtin .len, _, _⟩, _, _, _, none⟩ :: _) _; first | refine LS_q (Q_len rfl inferInstance) rfl ?_ | refine LS_q (Q_lenS rfl inferInstance) rfl ?_ | refine LS_q (Q_lenR rfl inferInstance inferInstance) rfl ?_ | refine LS_q (Q_lenM rfl inferInstance inferInstance) rfl ?_)
        | refine WS_block ?_
        | refine WS_skip ?_
        | refine WS_ret ?_
        | refine WS_exit ?_
        | refine WS_label ?_
        | (show WS _ _ _ (.cond _ _ _) _ _; first | refine WS_condT rfl inferInstance ?_ | refine WS_condF rfl inferInstance ?_ | refine WS_condH_t rfl (by assumption) ?_ | refine WS_condH_f rfl (by assumption) ?_ | (refine WS_cond rfl ?_ ?_ <;> intro hc <;> (try simp only [decide_eq_true_eq, decide_eq_false_iff_not, Bool.not_eq_eq_eq_not, Bool.not_true, Bool.not_false, Bool.and_eq_true, Bool.or_eq_true, bne_iff_ne, beq_iff_eq, ne_eq, Decidable.not_not] at hc) <;> (try (exfalso; first | contradiction | omega; done))))
        | refine WS_drawS (by kernel_rfl) ?_
        | refine DL_nilA ?_
        | refine DL_nilS ?_
        | refine DL_nilN ?_
        | refine DL_nilE ?_
        | refine DL_claimS rfl ?_
        | refine DL_claim rfl rfl ?_
        | (show DL _ _ _ _ _ _ _ _ _ _ _ _ (⟨some _, .move _, _, _, _, none⟩ :: _) _ _; first | refine DL_qp rfl rfl rfl (fun F' => Q_move rfl) ?_ | refine DL_q rfl rfl (fun F' => Q_move rfl) ?_)
        | (show DL _ _ _ _ _ _ _ _ _ _ _ _ (⟨some _, .load _ _, _, _, _, none⟩ :: _) _ _; first | refine DL_qp rfl rfl rfl (fun F' => Q_load rfl inferInstance inferInstance rfl) ?_ | refine DL_q rfl rfl (fun F' => Q_load rfl inferInstance inferInstance rfl) ?_ | refine DL_qp rfl rfl rfl (fun F' => Q_loadA rfl inferInstance inferInstance rfl) ?_ | refine DL_q rfl rfl (fun F' => Q_loadA rfl inferInstance inferInstance rfl) ?_ | refine DL_qp rfl rfl rfl (fun F' => Q_loadR rfl inferInstance inferInstance inferInstance (by assumption) rfl) ?_ | refine DL_q rfl rfl (fun F' => Q_loadR rfl inferInstance inferInstance inferInstance (by assumption) rfl) ?_ | refine DL_qp rfl rfl rfl (fun F' => Q_loadR rfl inferInstance inferInstance inferInstance rfl rfl) ?_ | refine DL_q rfl rfl (fun F' => Q_loadR rfl inferInstance inferInstance inferInstance rfl rfl) ?_ | refine DL_qp rfl rfl rfl (fun F' => Q_loadRA rfl inferInstance inferInstance inferInstance (by assumption)) ?_ | refine DL_q rfl rfl (fun F' => Q_loadRA rfl inferInstance inferInstance inferInstance (by assumption)) ?_)
        | (show DL _ _ _ _ _ _ _ _ _ _ _ _ (⟨some _, .binOp _ _ _ _ _, _, _, _, none⟩ :: _) _ _; first | refine DL_qp rfl rfl rfl (fun F' => Q_bin_t rfl rfl inferInstance (by first | assumption | omega | decide)) ?_ | refine DL_q rfl rfl (fun F' => Q_bin_t rfl rfl inferInstance (by first | assumption | omega | decide)) ?_ | refine DL_qp rfl rfl rfl (fun F' => Q_bin_f rfl rfl inferInstance (by first | assumption | omega | decide)) ?_ | refine DL_q rfl rfl (fun F' => Q_bin_f rfl rfl inferInstance (by first | assumption | omega | decide)) ?_ | refine DL_qp rfl rfl rfl (fun F' => Q_bin_nt rfl rfl inferInstance (by first | assumption | omega | decide)) ?_ | refine DL_q rfl rfl (fun F' => Q_bin_nt rfl rfl inferInstance (by first | assumption | omega | decide)) ?_ | refine DL_qp rfl rfl rfl (fun F' => Q_bin_nf rfl rfl inferInstance (by first | assumption | omega | decide)) ?_ | refine DL_q rfl rfl (fun F' => Q_bin_nf rfl rfl inferInstance (by first | assumption | omega | decide)) ?_ | (refine DL_binS rfl rfl inferInstance rfl ?_ ?_ <;> intro hc) | refine DL_qp rfl rfl rfl (fun F' => Q_bin rfl rfl inferInstance) ?_ | refine DL_q rfl rfl (fun F' => Q_bin rfl rfl inferInstance) ?_ | refine DL_qp rfl rfl rfl (fun F' => Q_addI rfl rfl (by omega)) ?_ | refine DL_q rfl rfl (fun F' => Q_addI rfl rfl (by omega)) ?_ | refine DL_qp rfl rfl rfl (fun F' => Q_subI rfl rfl (by omega)) ?_ | refine DL_q rfl rfl (fun F' => Q_subI rfl rfl (by omega)) ?_ | refine DL_qp rfl rfl rfl (fun F' => Q_addS rfl rfl (by (try simp only [List.length_append, List.length_cons, List.length_nil, be_length, List.length_set]); omega)) ?_ | refine DL_q rfl rfl (fun F' => Q_addS rfl rfl (by (try simp only [List.length_append, List.length_cons, List.length_nil, be_length, List.length_set]); omega)) ?_ | refine DL_qp rfl rfl rfl (fun F' => Q_quoI rfl rfl (by omega)) ?_ | refine DL_q rfl rfl (fun F' => Q_quoI rfl rfl (by omega)) ?_ | refine DL_qp rfl rfl rfl (fun F' => Q_remI rfl rfl (by omega)) ?_ | refine DL_q rfl rfl (fun F' => Q_remI rfl rfl (by omega)) ?_ | refine DL_qp rfl rfl rfl (fun F' => Q_mulI rfl rfl (by omega)) ?_ | refine DL_q rfl rfl (fun F' => Q_mulI rfl rfl (by omega)) ?_)
        | (show DL _ _ _ _ _ _ _ _ _ _ _ _ (⟨some _, .indexAddr _ _ _, _, _, _, none⟩ :: _) _ _; first | refine DL_qp rfl rfl rfl (fun F' => Q_index rfl rfl inferInstance inferInstance inferInstance inferInstance (by first | assumption | omega | ((try simp only [List.length_append, List.length_cons, List.length_nil, be_length, List.length_set]); omega))) ?_ | refine DL_q rfl rfl (fun F' => Q_index rfl rfl inferInstance inferInstance inferInstance inferInstance (by first | assumption | omega | ((try simp only [List.length_append, List.length_cons, List.length_nil, be_length, List.length_set]); omega))) ?_ | refine DL_qp rfl rfl rfl (fun F' => Q_indexV rfl rfl inferInstance inferInstance inferInstance (by first | assumption | omega)) ?_ | refine DL_q rfl rfl (fun F' => Q_indexV rfl rfl inferInstance inferInstance inferInstance (by first | assumption | omega)) ?_))
      refine ret_tmp (.inl rfl) rfl rfl ⟨(), ?_, Ent.take Ent.last⟩
      rw [decide_eq_true e]
set_option maxRecDepth 100000 in
theorem turns_big (p : Pk) (s : List UInt8) (h : 65536 < s.length ∨ 65536 < p.payload.length ∨ 4096 < p.lost.length) (v : Value) (hv : v.oneCell' = true) (X : HProp) [hX : Rdr w0 X v (UInt32 × UInt32) 2 lostC p.lost] : Spec Try.prog w0 9 [p.val v, strV s] X (fun _ : Unit => .bool true) (fun _ => X) := by
  refine Spec.enter Try.func9 rfl Try.ntmps9 rfl fun G => ?_
  simp only [argE, Pk.val, Pk.cells]
  by_cases h1 : 65536 < s.length
  · repeat' (first
      | (refine WS_seqK ?_; intro K hK)
      | (refine hK _ ?_; clear hK K)
      | with_reducible refine thenS_n ?_
      | with_reducible refine thenS_e ?_
      | with_reducible refine blockS_n ?_
      | with_reducible refine blockS_e ?_
      | with_reducible refine blockS_o rfl ?_
      | with_reducible refine thenS_r ?_
      | with_reducible refine blockS_r ?_
      | with_reducible refine use_K (by assumption) ?_
      | refine WS_region ?_
      | refine LS_nil ?_
      | (show LS _ _ _ _ _ (⟨_, _, _, _, _, some _⟩ :: _) _; first | refine LS_wantT rfl rfl inferInstance rfl ?_ | refine LS_wantF rfl rfl inferInstance rfl ?_ | refine LS_wantU rfl rfl rfl ?_ | (refine LS_wantS rfl rfl rfl ?_ ?_ <;> intro hc <;> (try simp only [decide_eq_true_eq, decide_eq_false_iff_not, Bool.not_eq_eq_eq_not, Bool.not_true, Bool.not_false, Bool.and_eq_true, Bool.or_eq_true, bne_iff_ne, beq_iff_eq, ne_eq, Decidable.not_not] at hc) <;> (try (exfalso; first | contradiction | omega; done))) | (refine LS_wantN rfl ?_ ?_ <;> intro hc <;> (try simp only [decide_eq_true_eq, decide_eq_false_iff_not, Bool.not_eq_eq_eq_not, Bool.not_true, Bool.not_false, Bool.and_eq_true, Bool.or_eq_true, bne_iff_ne, beq_iff_eq, ne_eq, Decidable.not_not] at hc) <;> (try (exfalso; first | contradiction | omega; done))))
      | (show LS _ _ _ _ _ (⟨some _, .move _, _, _, _, none⟩ :: _) _; first | refine LS_q (Q_move rfl) rfl ?_)
      | (show LS _ _ _ _ _ (⟨some _, .fieldAddr _ _ _, _, _, _, none⟩ :: _) _; first | refine LS_q (Q_fieldAddr rfl inferInstance rfl) rfl ?_ | refine LS_q (Q_fieldR rfl inferInstance inferInstance rfl (by first | assumption | omega | ((try simp only [List.length_append, List.length_cons, List.length_nil, be_length, List.length_set]); omega))) rfl ?_)
      | (show LS _ _ _ _ _ (⟨some _, .load _ _, _, _, _, none⟩ :: _) _; first | refine LS_q (Q_load rfl inferInstance inferInstance rfl) rfl ?_ | refine LS_q (Q_loadA rfl inferInstance inferInstance rfl) rfl ?_ | refine LS_q (Q_loadR rfl inferInstance inferInstance inferInstance (by assumption) rfl) rfl ?_ | refine LS_q (Q_loadR rfl inferInstance inferInstance inferInstance rfl rfl) rfl ?_ | refine LS_q (Q_loadRA rfl inferInstance inferInstance inferInstance (by assumption)) rfl ?_)
      | (show LS _ _ _ _ _ (⟨some _, .binOp _ _ _ _ _, _, _, _, none⟩ :: _) _; first | refine LS_q (Q_bin_t rfl rfl inferInstance (by first | assumption | omega | decide)) rfl ?_ | refine LS_q (Q_bin_f rfl rfl inferInstance (by first | assumption | omega | decide)) rfl ?_ | refine LS_q (Q_bin_nt rfl rfl inferInstance (by first | assumption | omega | decide)) rfl ?_ | refine LS_q (Q_bin_nf rfl rfl inferInstance (by first | assumption | omega | decide)) rfl ?_ | (refine LS_binS rfl rfl inferInstance rfl ?_ ?_ <;> intro hc) | (refine LS_binN rfl rfl inferInstance rfl ?_ ?_ <;> intro hc) | refine LS_q (Q_bin rfl rfl inferInstance) rfl ?_ | refine LS_q (Q_addI rfl rfl (by omega)) rfl ?_ | refine LS_q (Q_subI rfl rfl (by omega)) rfl ?_ | refine LS_q (Q_addS rfl rfl (by (try simp only [List.length_append, List.length_cons, List.length_nil, be_length, List.length_set]); omega)) rfl ?_ | refine LS_q (Q_quoI rfl rfl (by omega)) rfl ?_ | refine LS_q (Q_remI rfl rfl (by omega)) rfl ?_ | refine LS_q (Q_mulI rfl rfl (by omega)) rfl ?_)
      | (show LS _ _ _ _ _ (⟨some _, .assign _, _, _, _, none⟩ :: _) _; first | refine LS_q (Q_assign rfl) rfl ?_)
      | (show LS _ _ _ _ _ (⟨some _, .pick _ _ _, _, _, _, none⟩ :: _) _; first | refine LS_q (Q_pick_t rfl inferInstance rfl) rfl ?_ | refine LS_q (Q_pick_f rfl inferInstance rfl) rfl ?_ | refine LS_q (Q_pick rfl rfl rfl) rfl ?_)
      | (show LS _ _ _ _ _ (⟨some _, .extract _ _, _, _, _, none⟩ :: _) _; first | refine LS_q (Q_extract rfl rfl) rfl ?_)
      | (show LS _ _ _ _ _ (⟨some _, .call ⟨.builtin .len, _, _⟩, _, _, _, none⟩ :: _) _; first | refine LS_q (Q_len rfl inferInstance) rfl ?_ | refine LS_q (Q_lenS rfl inferInstance) rfl ?_ | refine LS_q (Q_lenR rfl inferInstance inferInstance) rfl ?_ | refine LS_q (Q_lenM rfl inferInstance inferInstance) rfl ?_)
      | (show LS _ _ _ _ _ (⟨some _, .convert _ _ _, _, _, _, none⟩ :: _) _; first | refine LS_q (Q_conv32_8 rfl inferInstance inferInstance inferInstance) rfl ?_ | refine LS_q (Q_conv64 rfl inferInstance inferInstance inferInstance) rfl ?_ | refine LS_q (Q_conv32 rfl inferInstance inferInstance inferInstance) rfl ?_ | refine LS_q (Q_convS rfl inferInstance rfl inferInstance inferInstance inferInstance) rfl ?_ | refine LS_q (Q_convSame rfl inferInstance inferInstance (by omega)) rfl ?_ | refine LS_q (Q_convI8 rfl inferInstance inferInstance) rfl ?_ | refine LS_q (Q_conv328 rfl inferInstance inferInstance) rfl ?_ | refine LS_q (Q_conv8 rfl inferInstance inferInstance) rfl ?_ | refine LS_q (Q_bytesS rfl inferInstance inferInstance rfl inferInstance inferInstance inferInstance) rfl ?_)
      | (show LS _ _ _ _ _ (⟨some _, .unOp _ _ _, _, _, _, none⟩ :: _) _; first | refine LS_q (Q_un rfl inferInstance) rfl ?_ | refine LS_q (Q_negI rfl (by omega)) rfl ?_)
      | (show LS _ _ _ _ _ (⟨some _, .alloc _, _, _, _, none⟩ :: _) _; first | (refine LS_h (H_alloc inferInstance) rfl ?_; intro g))
      | (show LS _ _ _ _ _ (⟨some _, .box _ _, _, _, _, none⟩ :: _) _; first | (refine LS_h (H_box rfl) rfl ?_; intro g) | (refine LS_h (H_boxO rfl inferInstance) rfl ?_; intro g) | (refine LS_h (H_box1 rfl (by first | rfl | assumption)) rfl ?_; intro g))
      | (show LS _ _ _ _ _ (⟨some _, .build _ _, _, _, _, none⟩ :: _) _; first | refine LS_q (Q_build inferInstance inferInstance rfl rfl) rfl ?_ | refine LS_q (Q_buildA inferInstance inferInstance inferInstance rfl rfl) rfl ?_)
      | (show LS _ _ _ _ _ (⟨some _, .slice _ _ _ _ _, _, _, _, none⟩ :: _) _; first | refine LS_q (Q_sliceS_h rfl rfl inferInstance inferInstance (by first | assumption | omega)) rfl ?_ | refine LS_q (Q_sliceS_l rfl rfl inferInstance inferInstance (by first | assumption | omega)) rfl ?_ | refine LS_q (Q_sliceR_h rfl rfl inferInstance inferInstance inferInstance inferInstance (by first | assumption | omega | ((try simp only [List.length_append, List.length_cons, List.length_nil, be_length, List.length_set, List.length_take, List.length_drop]); omega))) rfl ?_ | refine LS_q (Q_sliceR_l rfl rfl inferInstance inferInstance inferInstance inferInstance (by first | assumption | omega | ((try simp only [List.length_append, List.length_cons, List.length_nil, be_length, List.length_set, List.length_take, List.length_drop]); omega))) rfl ?_)
      | (refine LS_h (H_buildB inferInstance inferInstance inferInstance rfl rfl rfl rfl rfl inferInstance rfl rfl) rfl ?_; intro g)
      | (refine LS_h (H_buildSlice inferInstance inferInstance inferInstance rfl rfl rfl rfl rfl) rfl ?_; intro g)
      | (refine LS_h (H_buildSlice0 inferInstance inferInstance) rfl ?_; intro g)
      | (show LS _ _ _ _ _ (⟨some _, .call ⟨.builtin .append, _, _⟩, _, _, _, none⟩ :: _) _; first | (refine LS_h (H_appendD rfl rfl inferInstance inferInstance rfl inferInstance inferInstance byteC_one (by (try simp only [List.length_append, List.length_cons, List.length_nil, be_length, List.length_set]); omega) rfl) rfl ?_; intro g) | (refine LS_h (H_appendB rfl rfl inferInstance inferInstance inferInstance rfl rfl inferInstance (by (try simp only [List.length_append, List.length_cons, List.length_nil, be_length, List.length_set]); omega) rfl) rfl ?_; intro g) | (refine LS_h (H_appendS rfl rfl inferInstance rfl inferInstance inferInstance (by (try simp only [List.length_append, List.length_cons, List.length_nil, be_length, List.length_set]); omega) rfl) rfl ?_; intro g))
      | (show LS _ _ _ _ _ (⟨none, _, _, _, _, none⟩ :: _) _; first | (refine LS_h0 (H_storeO rfl rfl inferInstance inferInstance inferInstance rfl) ?_; intro g) | (refine LS_h0 (H_storeAO rfl rfl inferInstance inferInstance inferInstance rfl) ?_; intro g) | (refine LS_h0 (H_store8 rfl rfl inferInstance inferInstance rfl inferInstance (by first | assumption | omega | ((try simp only [List.length_append, List.length_cons, List.length_nil, be_length, List.length_set]); omega))) ?_; intro g) | (refine LS_h0 (H_storeRA _ rfl rfl rfl inferInstance inferInstance inferInstance rfl rfl (by first | assumption | omega | ((try simp only [List.length_append, List.length_cons, List.length_nil, be_length, List.length_set]); omega))) ?_; intro g) | (refine LS_h0 (H_storeR _ rfl rfl inferInstance inferInstance inferInstance rfl (by assumption) rfl) ?_; intro g) | (refine LS_h0 (H_store rfl rfl inferInstance (by first | rfl | assumption) inferInstance rfl) ?_; intro g) | (refine LS_h0 (H_storeA rfl rfl inferInstance inferInstance (by first | rfl | (simp only [List.all_cons, List.all_nil, *]; rfl)) rfl) ?_; intro g))
      | refine WS_block ?_
      | refine WS_skip ?_
      | refine WS_ret ?_
      | refine WS_exit ?_
      | refine WS_label ?_
      | (show WS _ _ _ (.cond _ _ _) _ _; first | refine WS_condT rfl inferInstance ?_ | refine WS_condF rfl inferInstance ?_ | refine WS_condH_t rfl (by assumption) ?_ | refine WS_condH_f rfl (by assumption) ?_ | (refine WS_cond rfl ?_ ?_ <;> intro hc <;> (try simp only [decide_eq_true_eq, decide_eq_false_iff_not, Bool.not_eq_eq_eq_not, Bool.not_true, Bool.not_false, Bool.and_eq_true, Bool.or_eq_true, bne_iff_ne, beq_iff_eq, ne_eq, Decidable.not_not] at hc) <;> (try (exfalso; first | contradiction | omega; done)))))
    all_goals exact ret_tmp (.inl rfl) rfl rfl ⟨(), rfl, Ent.take Ent.last⟩
  by_cases h2 : 65536 < p.payload.length
  all_goals
    repeat' (first
      | (refine WS_seqK ?_; intro K hK)
      | (refine hK _ ?_; clear hK K)
      | with_reducible refine thenS_n ?_
      | with_reducible refine thenS_e ?_
      | with_reducible refine blockS_n ?_
      | with_reducible refine blockS_e ?_
      | with_reducible refine blockS_o rfl ?_
      | with_reducible refine thenS_r ?_
      | with_reducible refine blockS_r ?_
      | with_reducible refine use_K (by assumption) ?_
      | refine WS_region ?_
      | refine LS_nil ?_
      | (show LS _ _ _ _ _ (⟨_, _, _, _, _, some _⟩ :: _) _; first | refine LS_wantT rfl rfl inferInstance rfl ?_ | refine LS_wantF rfl rfl inferInstance rfl ?_ | refine LS_wantU rfl rfl rfl ?_ | (refine LS_wantS rfl rfl rfl ?_ ?_ <;> intro hc <;> (try simp only [decide_eq_true_eq, decide_eq_false_iff_not, Bool.not_eq_eq_eq_not, Bool.not_true, Bool.not_false, Bool.and_eq_true, Bool.or_eq_true, bne_iff_ne, beq_iff_eq, ne_eq, Decidable.not_not] at hc) <;> (try (exfalso; first | contradiction | omega; done))) | (refine LS_wantN rfl ?_ ?_ <;> intro hc <;> (try simp only [decide_eq_true_eq, decide_eq_false_iff_not, Bool.not_eq_eq_eq_not, Bool.not_true, Bool.not_false, Bool.and_eq_true, Bool.or_eq_true, bne_iff_ne, beq_iff_eq, ne_eq, Decidable.not_not] at hc) <;> (try (exfalso; first | contradiction | omega; done))))
      | (show LS _ _ _ _ _ (⟨some _, .move _, _, _, _, none⟩ :: _) _; first | refine LS_q (Q_move rfl) rfl ?_)
      | (show LS _ _ _ _ _ (⟨some _, .fieldAddr _ _ _, _, _, _, none⟩ :: _) _; first | refine LS_q (Q_fieldAddr rfl inferInstance rfl) rfl ?_ | refine LS_q (Q_fieldR rfl inferInstance inferInstance rfl (by first | assumption | omega | ((try simp only [List.length_append, List.length_cons, List.length_nil, be_length, List.length_set]); omega))) rfl ?_)
      | (show LS _ _ _ _ _ (⟨some _, .load _ _, _, _, _, none⟩ :: _) _; first | refine LS_q (Q_load rfl inferInstance inferInstance rfl) rfl ?_ | refine LS_q (Q_loadA rfl inferInstance inferInstance rfl) rfl ?_ | refine LS_q (Q_loadR rfl inferInstance inferInstance inferInstance (by assumption) rfl) rfl ?_ | refine LS_q (Q_loadR rfl inferInstance inferInstance inferInstance rfl rfl) rfl ?_ | refine LS_q (Q_loadRA rfl inferInstance inferInstance inferInstance (by assumption)) rfl ?_)
      | (show LS _ _ _ _ _ (⟨some _, .binOp _ _ _ _ _, _, _, _, none⟩ :: _) _; first | refine LS_q (Q_bin_t rfl rfl inferInstance (by first | assumption | omega | decide)) rfl ?_ | refine LS_q (Q_bin_f rfl rfl inferInstance (by first | assumption | omega | decide)) rfl ?_ | refine LS_q (Q_bin_nt rfl rfl inferInstance (by first | assumption | omega | decide)) rfl ?_ | refine LS_q (Q_bin_nf rfl rfl inferInstance (by first | assumption | omega | decide)) rfl ?_ | (refine LS_binS rfl rfl inferInstance rfl ?_ ?_ <;> intro hc) | (refine LS_binN rfl rfl inferInstance rfl ?_ ?_ <;> intro hc) | refine LS_q (Q_bin rfl rfl inferInstance) rfl ?_ | refine LS_q (Q_addI rfl rfl (by omega)) rfl ?_ | refine LS_q (Q_subI rfl rfl (by omega)) rfl ?_ | refine LS_q (Q_addS rfl rfl (by (try simp only [List.length_append, List.length_cons, List.length_nil, be_length, List.length_set]); omega)) rfl ?_ | refine LS_q (Q_quoI rfl rfl (by omega)) rfl ?_ | refine LS_q (Q_remI rfl rfl (by omega)) rfl ?_ | refine LS_q (Q_mulI rfl rfl (by omega)) rfl ?_)
      | (show LS _ _ _ _ _ (⟨some _, .assign _, _, _, _, none⟩ :: _) _; first | refine LS_q (Q_assign rfl) rfl ?_)
      | (show LS _ _ _ _ _ (⟨some _, .pick _ _ _, _, _, _, none⟩ :: _) _; first | refine LS_q (Q_pick_t rfl inferInstance rfl) rfl ?_ | refine LS_q (Q_pick_f rfl inferInstance rfl) rfl ?_ | refine LS_q (Q_pick rfl rfl rfl) rfl ?_)
      | (show LS _ _ _ _ _ (⟨some _, .extract _ _, _, _, _, none⟩ :: _) _; first | refine LS_q (Q_extract rfl rfl) rfl ?_)
      | (show LS _ _ _ _ _ (⟨some _, .call ⟨.builtin .len, _, _⟩, _, _, _, none⟩ :: _) _; first | refine LS_q (Q_len rfl inferInstance) rfl ?_ | refine LS_q (Q_lenS rfl inferInstance) rfl ?_ | refine LS_q (Q_lenR rfl inferInstance inferInstance) rfl ?_ | refine LS_q (Q_lenM rfl inferInstance inferInstance) rfl ?_)
      | (show LS _ _ _ _ _ (⟨some _, .convert _ _ _, _, _, _, none⟩ :: _) _; first | refine LS_q (Q_conv32_8 rfl inferInstance inferInstance inferInstance) rfl ?_ | refine LS_q (Q_conv64 rfl inferInstance inferInstance inferInstance) rfl ?_ | refine LS_q (Q_conv32 rfl inferInstance inferInstance inferInstance) rfl ?_ | refine LS_q (Q_convS rfl inferInstance rfl inferInstance inferInstance inferInstance) rfl ?_ | refine LS_q (Q_convSame rfl inferInstance inferInstance (by omega)) rfl ?_ | refine LS_q (Q_convI8 rfl inferInstance inferInstance) rfl ?_ | refine LS_q (Q_conv328 rfl inferInstance inferInstance) rfl ?_ | refine LS_q (Q_conv8 rfl inferInstance inferInstance) rfl ?_ | refine LS_q (Q_bytesS rfl inferInstance inferInstance rfl inferInstance inferInstance inferInstance) rfl ?_)
      | (show LS _ _ _ _ _ (⟨some _, .unOp _ _ _, _, _, _, none⟩ :: _) _; first | refine LS_q (Q_un rfl inferInstance) rfl ?_ | refine LS_q (Q_negI rfl (by omega)) rfl ?_)
      | (show LS _ _ _ _ _ (⟨some _, .alloc _, _, _, _, none⟩ :: _) _; first | (refine LS_h (H_alloc inferInstance) rfl ?_; intro g))
      | (show LS _ _ _ _ _ (⟨some _, .box _ _, _, _, _, none⟩ :: _) _; first | (refine LS_h (H_box rfl) rfl ?_; intro g) | (refine LS_h (H_boxO rfl inferInstance) rfl ?_; intro g) | (refine LS_h (H_box1 rfl (by first | rfl | assumption)) rfl ?_; intro g))
      | (show LS _ _ _ _ _ (⟨some _, .build _ _, _, _, _, none⟩ :: _) _; first | refine LS_q (Q_build inferInstance inferInstance rfl rfl) rfl ?_ | refine LS_q (Q_buildA inferInstance inferInstance inferInstance rfl rfl) rfl ?_)
      | (show LS _ _ _ _ _ (⟨some _, .slice _ _ _ _ _, _, _, _, none⟩ :: _) _; first | refine LS_q (Q_sliceS_h rfl rfl inferInstance inferInstance (by first | assumption | omega)) rfl ?_ | refine LS_q (Q_sliceS_l rfl rfl inferInstance inferInstance (by first | assumption | omega)) rfl ?_ | refine LS_q (Q_sliceR_h rfl rfl inferInstance inferInstance inferInstance inferInstance (by first | assumption | omega | ((try simp only [List.length_append, List.length_cons, List.length_nil, be_length, List.length_set, List.length_take, List.length_drop]); omega))) rfl ?_ | refine LS_q (Q_sliceR_l rfl rfl inferInstance inferInstance inferInstance inferInstance (by first | assumption | omega | ((try simp only [List.length_append, List.length_cons, List.length_nil, be_length, List.length_set, List.length_take, List.length_drop]); omega))) rfl ?_)
      | (refine LS_h (H_buildB inferInstance inferInstance inferInstance rfl rfl rfl rfl rfl inferInstance rfl rfl) rfl ?_; intro g)
      | (refine LS_h (H_buildSlice inferInstance inferInstance inferInstance rfl rfl rfl rfl rfl) rfl ?_; intro g)
      | (refine LS_h (H_buildSlice0 inferInstance inferInstance) rfl ?_; intro g)
      | (show LS _ _ _ _ _ (⟨some _, .call ⟨.builtin .append, _, _⟩, _, _, _, none⟩ :: _) _; first | (refine LS_h (H_appendD rfl rfl inferInstance inferInstance rfl inferInstance inferInstance byteC_one (by (try simp only [List.length_append, List.length_cons, List.length_nil, be_length, List.length_set]); omega) rfl) rfl ?_; intro g) | (refine LS_h (H_appendB rfl rfl inferInstance inferInstance inferInstance rfl rfl inferInstance (by (try simp only [List.length_append, List.length_cons, List.length_nil, be_length, List.length_set]); omega) rfl) rfl ?_; intro g) | (refine LS_h (H_appendS rfl rfl inferInstance rfl inferInstance inferInstance (by (try simp only [List.length_append, List.length_cons, List.length_nil, be_length, List.length_set]); omega) rfl) rfl ?_; intro g))
      | (show LS _ _ _ _ _ (⟨none, _, _, _, _, none⟩ :: _) _; first | (refine LS_h0 (H_storeO rfl rfl inferInstance inferInstance inferInstance rfl) ?_; intro g) | (refine LS_h0 (H_storeAO rfl rfl inferInstance inferInstance inferInstance rfl) ?_; intro g) | (refine LS_h0 (H_store8 rfl rfl inferInstance inferInstance rfl inferInstance (by first | assumption | omega | ((try simp only [List.length_append, List.length_cons, List.length_nil, be_length, List.length_set]); omega))) ?_; intro g) | (refine LS_h0 (H_storeRA _ rfl rfl rfl inferInstance inferInstance inferInstance rfl rfl (by first | assumption | omega | ((try simp only [List.length_append, List.length_cons, List.length_nil, be_length, List.length_set]); omega))) ?_; intro g) | (refine LS_h0 (H_storeR _ rfl rfl inferInstance inferInstance inferInstance rfl (by assumption) rfl) ?_; intro g) | (refine LS_h0 (H_store rfl rfl inferInstance (by first | rfl | assumption) inferInstance rfl) ?_; intro g) | (refine LS_h0 (H_storeA rfl rfl inferInstance inferInstance (by first | rfl | (simp only [List.all_cons, List.all_nil, *]; rfl)) rfl) ?_; intro g))
      | refine WS_block ?_
      | refine WS_skip ?_
      | refine WS_ret ?_
      | refine WS_exit ?_
      | refine WS_label ?_
      | (show WS _ _ _ (.cond _ _ _) _ _; first | refine WS_condT rfl inferInstance ?_ | refine WS_condF rfl inferInstance ?_ | refine WS_condH_t rfl (by assumption) ?_ | refine WS_condH_f rfl (by assumption) ?_ | (refine WS_cond rfl ?_ ?_ <;> intro hc <;> (try simp only [decide_eq_true_eq, decide_eq_false_iff_not, Bool.not_eq_eq_eq_not, Bool.not_true, Bool.not_false, Bool.and_eq_true, Bool.or_eq_true, bne_iff_ne, beq_iff_eq, ne_eq, Decidable.not_not] at hc) <;> (try (exfalso; first | contradiction | omega; done)))))
  all_goals exact ret_tmp (.inl rfl) rfl rfl ⟨(), rfl, Ent.take Ent.last⟩
/-- The packet that the law begins with. -/
def pk0 : Pk := ⟨1, 9, 0, false, 1, 2, 0, 3, 0, 0, [], [120]⟩
theorem pk0_fits : pk0.Fits := by decide
theorem pk0_len : pk0.out.length = 18 := by rw [Pk.out_fit pk0_fits]; rfl
end Go.Proofs.Ytapoehkdnglahaa
