/- What the law Timely returns, by a walk. -/
import Derived.Test.YtapoehkdnglahaaTimL
import Derived.Test.YtapoehkdnglahaaTimT
import Derived.Test.YtapoehkdnglahaaSub3
namespace Go.Proofs.Ytapoehkdnglahaa
open Go.RowKit
set_option linter.unusedVariables false
set_option linter.unusedSimpArgs false
attribute [local irreducible] WS LS OpQ OpT OpH OpTQ Spec SpecQ cel
variable (w0 : World)
/-- What pick makes of c and n. -/
def pickI (c n : Int) : Int := (if c < 0 then -(c + 1) else c) % n
theorem pickI_lt (c : Int) {n : Nat} (hn : 0 < n) : ∃ k : Nat, k < n ∧ pickI c (n : Int) = (k : Int) := by
  have h1 : 0 ≤ pickI c n := Int.emod_nonneg _ (by omega)
  have h2 : pickI c n < n := Int.emod_lt_of_pos _ (by omega)
  exact ⟨(pickI c n).toNat, by omega, by omega⟩
set_option maxRecDepth 100000 in
theorem pick_spec (c n : Int) (hc : -9223372036854775808 ≤ c ∧ c ≤ 9223372036854775807) (hn : 0 < n) : Spec Try.prog w0 14 [.int .i64 c, .int .i64 n] emp (fun _ : Unit => .int .i64 (pickI c n)) (fun _ => emp) := by
  refine Spec.enter Try.func14 rfl Try.ntmps14 rfl fun G => ?_
  simp only [argE]
  repeat' (first
    | (refine WS_seqK ?_; intro K hK)
    | (refine hK _ ?_; clear hK K)
    | with_reducible refine thenS_n ?_
    | with_reducible refine thenS_e ?_
    | with_reducible refine blockS_n ?_
    | with_reducible refine blockS_e ?_
    | with_reducible refine blockS_o rfl ?_
    | with_reducible refine thenS_r ?_
    | with_reducible refine blockS_r ?_
    | with_reducible refine use_K (by assumption) ?_
    | refine WS_region ?_
    | refine LS_nil ?_
    | (show LS _ _ _ _ _ (⟨some _, .move _, _, _, _, none⟩ :: _) _; first | refine LS_q (Q_move rfl) rfl ?_)
    | (show LS _ _ _ _ _ (⟨some _, .binOp _ _ _ _ _, _, _, _, none⟩ :: _) _; first | refine LS_q (Q_bin_t rfl rfl inferInstance (by first | assumption | omega | decide)) rfl ?_ | refine LS_q (Q_bin_f rfl rfl inferInstance (by first | assumption | omega | decide)) rfl ?_ | refine LS_q (Q_bin_nt rfl rfl inferInstance (by first | assumption | omega | decide)) rfl ?_ | refine LS_q (Q_bin_nf rfl rfl inferInstance (by first | assumption | omega | decide)) rfl ?_ | (refine LS_binS rfl rfl inferInstance rfl ?_ ?_ <;> intro hc) | (refine LS_binN rfl rfl inferInstance rfl ?_ ?_ <;> intro hc) | refine LS_q (Q_bin rfl rfl inferInstance) rfl ?_ | refine LS_q (Q_addI rfl rfl (by omega)) rfl ?_ | refine LS_q (Q_subI rfl rfl (by omega)) rfl ?_ | refine LS_q (Q_addS rfl rfl (by (try simp only [List.length_append, List.length_cons, List.length_nil, be_length, List.length_set]); omega)) rfl ?_ | refine LS_q (Q_quoI rfl rfl (by omega)) rfl ?_ | refine LS_q (Q_remI rfl rfl (by omega)) rfl ?_ | refine LS_q (Q_mulI rfl rfl (by omega)) rfl ?_)
    | (show LS _ _ _ _ _ (⟨some _, .assign _, _, _, _, none⟩ :: _) _; first | refine LS_q (Q_assign rfl) rfl ?_)
    | (show LS _ _ _ _ _ (⟨some _, .unOp _ _ _, _, _, _, none⟩ :: _) _; first | refine LS_q (Q_un rfl inferInstance) rfl ?_ | refine LS_q (Q_negI rfl (by omega)) rfl ?_)
    | refine WS_block ?_
    | refine WS_skip ?_
    | refine WS_ret ?_
    | refine WS_exit ?_
    | refine WS_label ?_
    | (show WS _ _ _ (.cond _ _ _) _ _; first | refine WS_condT rfl inferInstance ?_ | refine WS_condF rfl inferInstance ?_ | refine WS_condH_t rfl (by assumption) ?_ | refine WS_condH_f rfl (by assumption) ?_ | (refine WS_cond rfl ?_ ?_ <;> intro hc <;> (try simp only [decide_eq_true_eq, decide_eq_false_iff_not, Bool.not_eq_eq_eq_not, Bool.not_true, Bool.not_false, Bool.and_eq_true, Bool.or_eq_true, bne_iff_ne, beq_iff_eq, ne_eq, Decidable.not_not] at hc) <;> (try (exfalso; first | contradiction | omega; done)))))
  all_goals exact ret_tmp (.inl rfl) rfl rfl ⟨(), by simp [pickI, *], by ((try simp only [star_assoc, emp_star, star_emp]); (repeat' (first | exact Ent.last | refine Ent.take ?_ | refine Ent.nilT ?_ | refine Ent.takeR (by first | rfl | assumption | (simp; done)) ?_ | exact Ent.refl _)))⟩
/-- A bool's cell; a number's. -/
def bC (b : Bool) : List Value := [.bool b]
def u64L (x : UInt64) : List Value := [u64 x]
def intL (x : Int) : List Value := [.int .i64 x]
instance : FixLen bC 1 := ⟨fun _ => rfl⟩
instance : FixLen u64L 1 := ⟨fun _ => rfl⟩
instance : FixLen intL 1 := ⟨fun _ => rfl⟩
theorem u64L_one : ∀ z, ∀ c ∈ u64L z, c.oneCell' = true := by intro z c hc; simp [u64L] at hc; subst hc; rfl
set_option maxRecDepth 100000 in
theorem timely_big (l : List UInt64) (m : List Int) (hl : 4096 < l.length ∨ 4096 < m.length) (v u : Value) (X : HProp) [hX : Rdr w0 X v UInt64 1 u64L l] [hY : Rdr w0 X u Int 1 intL m] : Spec Try.prog w0 8 [v, u] X (fun _ : Unit => .bool true) (fun _ => X) := by
  refine Spec.enter Try.func8 rfl Try.ntmps8 rfl fun G => ?_
  simp only [argE]
  by_cases h1 : 4096 < l.length
  all_goals
    repeat' (first
      | (refine WS_seqK ?_; intro K hK)
      | (refine hK _ ?_; clear hK K)
      | with_reducible refine thenS_n ?_
      | with_reducible refine thenS_e ?_
      | with_reducible refine blockS_n ?_
      | with_reducible refine blockS_e ?_
      | with_reducible refine blockS_o rfl ?_
      | with_reducible refine thenS_r ?_
      | with_reducible refine blockS_r ?_
      | with_reducible refine use_K (by assumption) ?_
      | refine WS_region ?_
      | refine LS_nil ?_
      | (show LS _ _ _ _ _ (⟨_, _, _, _, _, some _⟩ :: _) _; first | refine LS_wantT rfl rfl inferInstance rfl ?_ | refine LS_wantF rfl rfl inferInstance rfl ?_ | refine LS_wantU rfl rfl rfl ?_ | (refine LS_wantS rfl rfl rfl ?_ ?_ <;> intro hc <;> (try simp only [decide_eq_true_eq, decide_eq_false_iff_not, Bool.not_eq_eq_eq_not, Bool.not_true, Bool.not_false, Bool.and_eq_true, Bool.or_eq_true, bne_iff_ne, beq_iff_eq, ne_eq, Decidable.not_not] at hc) <;> (try (exfalso; first | contradiction | omega; done))) | (refine LS_wantN rfl ?_ ?_ <;> intro hc <;> (try simp only [decide_eq_true_eq, decide_eq_false_iff_not, Bool.not_eq_eq_eq_not, Bool.not_true, Bool.not_false, Bool.and_eq_true, Bool.or_eq_true, bne_iff_ne, beq_iff_eq, ne_eq, Decidable.not_not] at hc) <;> (try (exfalso; first | contradiction | omega; done))))
      | (show LS _ _ _ _ _ (⟨some _, .move _, _, _, _, none⟩ :: _) _; first | refine LS_q (Q_move rfl) rfl ?_)
      | (show LS _ _ _ _ _ (⟨some _, .load _ _, _, _, _, none⟩ :: _) _; first | refine LS_q (Q_load rfl inferInstance inferInstance rfl) rfl ?_ | refine LS_q (Q_loadA rfl inferInstance inferInstance rfl) rfl ?_ | refine LS_q (Q_loadR rfl inferInstance inferInstance inferInstance (by assumption) rfl) rfl ?_ | refine LS_q (Q_loadR rfl inferInstance inferInstance inferInstance rfl rfl) rfl ?_ | refine LS_q (Q_loadRA rfl inferInstance inferInstance inferInstance (by assumption)) rfl ?_)
      | (show LS _ _ _ _ _ (⟨some _, .binOp _ _ _ _ _, _, _, _, none⟩ :: _) _; first | refine LS_q (Q_bin_t rfl rfl inferInstance (by first | assumption | omega | decide)) rfl ?_ | refine LS_q (Q_bin_f rfl rfl inferInstance (by first | assumption | omega | decide)) rfl ?_ | refine LS_q (Q_bin_nt rfl rfl inferInstance (by first | assumption | omega | decide)) rfl ?_ | refine LS_q (Q_bin_nf rfl rfl inferInstance (by first | assumption | omega | decide)) rfl ?_ | (refine LS_binS rfl rfl inferInstance rfl ?_ ?_ <;> intro hc) | (refine LS_binN rfl rfl inferInstance rfl ?_ ?_ <;> intro hc) | refine LS_q (Q_bin rfl rfl inferInstance) rfl ?_ | refine LS_q (Q_addI rfl rfl (by omega)) rfl ?_ | refine LS_q (Q_subI rfl rfl (by omega)) rfl ?_ | refine LS_q (Q_addS rfl rfl (by (try simp only [List.length_append, List.length_cons, List.length_nil, be_length, List.length_set]); omega)) rfl ?_ | refine LS_q (Q_quoI rfl rfl (by omega)) rfl ?_ | refine LS_q (Q_remI rfl rfl (by omega)) rfl ?_ | refine LS_q (Q_mulI rfl rfl (by omega)) rfl ?_)
      | (show LS _ _ _ _ _ (⟨some _, .assign _, _, _, _, none⟩ :: _) _; first | refine LS_q (Q_assign rfl) rfl ?_)
      | (show LS _ _ _ _ _ (⟨some _, .pick _ _ _, _, _, _, none⟩ :: _) _; first | refine LS_q (Q_pick_t rfl inferInstance rfl) rfl ?_ | refine LS_q (Q_pick_f rfl inferInstance rfl) rfl ?_ | refine LS_q (Q_pick rfl rfl rfl) rfl ?_)
      | (show LS _ _ _ _ _ (⟨some _, .extract _ _, _, _, _, none⟩ :: _) _; first | refine LS_q (Q_extract rfl rfl) rfl ?_)
      | (show LS _ _ _ _ _ (⟨some _, .call ⟨.builtin .len, _, _⟩, _, _, _, none⟩ :: _) _; first | refine LS_q (Q_len rfl inferInstance) rfl ?_ | refine LS_q (Q_lenS rfl inferInstance) rfl ?_ | refine LS_q (Q_lenR rfl inferInstance inferInstance) rfl ?_ | refine LS_q (Q_lenM rfl inferInstance inferInstance) rfl ?_)
      | (show LS _ _ _ _ _ (⟨some _, .unOp _ _ _, _, _, _, none⟩ :: _) _; first | refine LS_q (Q_un rfl inferInstance) rfl ?_ | refine LS_q (Q_negI rfl (by omega)) rfl ?_)
      | (show LS _ _ _ _ _ (⟨some _, .indexAddr _ _ _, _, _, _, none⟩ :: _) _; first | refine LS_q (Q_index rfl rfl inferInstance inferInstance inferInstance inferInstance (by first | assumption | omega | ((try simp only [List.length_append, List.length_cons, List.length_nil, be_length, List.length_set]); omega))) rfl ?_ | refine LS_q (Q_indexV rfl rfl inferInstance inferInstance inferInstance (by first | assumption | omega)) rfl ?_)
      | (refine LS_h (H_buildB inferInstance inferInstance inferInstance rfl rfl rfl rfl rfl inferInstance rfl rfl) rfl ?_; intro g)
      | (refine LS_h (H_buildSlice inferInstance inferInstance inferInstance rfl rfl rfl rfl rfl) rfl ?_; intro g)
      | (refine LS_h (H_buildSlice0 inferInstance inferInstance) rfl ?_; intro g)
      | (show LS _ _ _ _ _ (⟨some _, .call ⟨.builtin .append, _, _⟩, _, _, _, none⟩ :: _) _; first | (refine LS_h (H_appendD rfl rfl inferInstance inferInstance rfl inferInstance inferInstance byteC_one (by (try simp only [List.length_append, List.length_cons, List.length_nil, be_length, List.length_set]); omega) rfl) rfl ?_; intro g) | (refine LS_h (H_appendB rfl rfl inferInstance inferInstance inferInstance rfl rfl inferInstance (by (try simp only [List.length_append, List.length_cons, List.length_nil, be_length, List.length_set]); omega) rfl) rfl ?_; intro g) | (refine LS_h (H_appendS rfl rfl inferInstance rfl inferInstance inferInstance (by (try simp only [List.length_append, List.length_cons, List.length_nil, be_length, List.length_set]); omega) rfl) rfl ?_; intro g))
      | (show LS _ _ _ _ _ (⟨none, _, _, _, _, none⟩ :: _) _; first | (refine LS_h0 (H_storeO rfl rfl inferInstance inferInstance inferInstance rfl) ?_; intro g) | (refine LS_h0 (H_storeAO rfl rfl inferInstance inferInstance inferInstance rfl) ?_; intro g) | (refine LS_h0 (H_store8 rfl rfl inferInstance inferInstance rfl inferInstance (by first | assumption | omega | ((try simp only [List.length_append, List.length_cons, List.length_nil, be_length, List.length_set]); omega))) ?_; intro g) | (refine LS_h0 (H_storeRA _ rfl rfl rfl inferInstance inferInstance inferInstance rfl rfl (by first | assumption | omega | ((try simp only [List.length_append, List.length_cons, List.length_nil, be_length, List.length_set]); omega))) ?_; intro g) | (refine LS_h0 (H_storeR _ rfl rfl inferInstance inferInstance inferInstance rfl (by assumption) rfl) ?_; intro g) | (refine LS_h0 (H_store rfl rfl inferInstance (by first | rfl | assumption) inferInstance rfl) ?_; intro g) | (refine LS_h0 (H_storeA rfl rfl inferInstance inferInstance (by first | rfl | (simp only [List.all_cons, List.all_nil, *]; rfl)) rfl) ?_; intro g))
      | refine WS_block ?_
      | refine WS_skip ?_
      | refine WS_ret ?_
      | refine WS_exit ?_
      | refine WS_label ?_
      | (show WS _ _ _ (.cond _ _ _) _ _; first | refine WS_condT rfl inferInstance ?_ | refine WS_condF rfl inferInstance ?_ | refine WS_condH_t rfl (by assumption) ?_ | refine WS_condH_f rfl (by assumption) ?_ | (refine WS_cond rfl ?_ ?_ <;> intro hc <;> (try simp only [decide_eq_true_eq, decide_eq_false_iff_not, Bool.not_eq_eq_eq_not, Bool.not_true, Bool.not_false, Bool.and_eq_true, Bool.or_eq_true, bne_iff_ne, beq_iff_eq, ne_eq, Decidable.not_not] at hc) <;> (try (exfalso; first | contradiction | omega; done)))))
  all_goals exact ret_tmp (.inl rfl) rfl rfl ⟨(), rfl, Ent.take Ent.last⟩
set_option maxRecDepth 100000 in
set_option maxHeartbeats 16000000 in
theorem timely_walk (l : List UInt64) (m : List Int) (hl : l.length ≤ 4096) (hm : m.length ≤ 4096) (hmr : ∀ c ∈ m, -9223372036854775808 ≤ c ∧ c ≤ 9223372036854775807) (v u : Value) (X : HProp) [hX : Rdr w0 X v UInt64 1 u64L l] [hY : Rdr w0 X u Int 1 intL m] : Spec Try.prog w0 8 [v, u] X (fun _ : Unit => .bool true) (fun _ => X) := by
  refine Spec.enter Try.func8 rfl Try.ntmps8 rfl fun G => ?_
  simp only [argE]
  repeat' (first
    | (refine WS_seqK ?_; intro K hK)
    | (refine hK _ ?_; clear hK K)
    | with_reducible refine thenS_n ?_
    | with_reducible refine thenS_e ?_
    | with_reducible refine blockS_n ?_
    | with_reducible refine blockS_e ?_
    | with_reducible refine blockS_o rfl ?_
    | with_reducible refine thenS_r ?_
    | with_reducible refine blockS_r ?_
    | with_reducible refine use_K (by assumption) ?_
    | refine WS_region ?_
    | refine LS_nil ?_
    | (show LS _ _ _ _ _ (⟨_, _, _, _, _, some _⟩ :: _) _; first | refine LS_wantT rfl rfl inferInstance rfl ?_ | refine LS_wantF rfl rfl inferInstance rfl ?_ | refine LS_wantU rfl rfl rfl ?_ | (refine LS_wantS rfl rfl rfl ?_ ?_ <;> intro hc <;> (try simp only [decide_eq_true_eq, decide_eq_false_iff_not, Bool.not_eq_eq_eq_not, Bool.not_true, Bool.not_false, Bool.and_eq_true, Bool.or_eq_true, bne_iff_ne, beq_iff_eq, ne_eq, Decidable.not_not] at hc) <;> (try (exfalso; first | contradiction | omega; done))) | (refine LS_wantN rfl ?_ ?_ <;> intro hc <;> (try simp only [decide_eq_true_eq, decide_eq_false_iff_not, Bool.not_eq_eq_eq_not, Bool.not_true, Bool.not_false, Bool.and_eq_true, Bool.or_eq_true, bne_iff_ne, beq_iff_eq, ne_eq, Decidable.not_not] at hc) <;> (try (exfalso; first | contradiction | omega; done))))
    | (show LS _ _ _ _ _ (⟨some _, .move _, _, _, _, none⟩ :: _) _; first | refine LS_q (Q_move rfl) rfl ?_)
    | (show LS _ _ _ _ _ (⟨some _, .load _ _, _, _, _, none⟩ :: _) _; first | refine LS_q (Q_load rfl inferInstance inferInstance rfl) rfl ?_ | refine LS_q (Q_loadA rfl inferInstance inferInstance rfl) rfl ?_ | refine LS_q (Q_loadR rfl inferInstance inferInstance inferInstance (by assumption) rfl) rfl ?_ | refine LS_q (Q_loadR rfl inferInstance inferInstance inferInstance rfl rfl) rfl ?_ | refine LS_q (Q_loadRA rfl inferInstance inferInstance inferInstance (by assumption)) rfl ?_)
    | (show LS _ _ _ _ _ (⟨some _, .binOp _ _ _ _ _, _, _, _, none⟩ :: _) _; first | refine LS_q (Q_bin_t rfl rfl inferInstance (by first | assumption | omega | decide)) rfl ?_ | refine LS_q (Q_bin_f rfl rfl inferInstance (by first | assumption | omega | decide)) rfl ?_ | refine LS_q (Q_bin_nt rfl rfl inferInstance (by first | assumption | omega | decide)) rfl ?_ | refine LS_q (Q_bin_nf rfl rfl inferInstance (by first | assumption | omega | decide)) rfl ?_ | (refine LS_binS rfl rfl inferInstance rfl ?_ ?_ <;> intro hc) | (refine LS_binN rfl rfl inferInstance rfl ?_ ?_ <;> intro hc) | refine LS_q (Q_bin rfl rfl inferInstance) rfl ?_ | refine LS_q (Q_addI rfl rfl (by omega)) rfl ?_ | refine LS_q (Q_subI rfl rfl (by omega)) rfl ?_ | refine LS_q (Q_addS rfl rfl (by (try simp only [List.length_append, List.length_cons, List.length_nil, be_length, List.length_set]); omega)) rfl ?_ | refine LS_q (Q_quoI rfl rfl (by omega)) rfl ?_ | refine LS_q (Q_remI rfl rfl (by omega)) rfl ?_ | refine LS_q (Q_mulI rfl rfl (by omega)) rfl ?_)
    | (show LS _ _ _ _ _ (⟨some _, .assign _, _, _, _, none⟩ :: _) _; first | refine LS_q (Q_assign rfl) rfl ?_)
    | (show LS _ _ _ _ _ (⟨some _, .pick _ _ _, _, _, _, none⟩ :: _) _; first | refine LS_q (Q_pick_t rfl inferInstance rfl) rfl ?_ | refine LS_q (Q_pick_f rfl inferInstance rfl) rfl ?_ | refine LS_q (Q_pick rfl rfl rfl) rfl ?_)
    | (show LS _ _ _ _ _ (⟨some _, .extract _ _, _, _, _, none⟩ :: _) _; first | refine LS_q (Q_extract rfl rfl) rfl ?_)
    | (show LS _ _ _ _ _ (⟨some _, .call ⟨.builtin .len, _, _⟩, _, _, _, none⟩ :: _) _; first | refine LS_q (Q_len rfl inferInstance) rfl ?_ | refine LS_q (Q_lenS rfl inferInstance) rfl ?_ | refine LS_q (Q_lenR rfl inferInstance inferInstance) rfl ?_ | refine LS_q (Q_lenM rfl inferInstance inferInstance) rfl ?_)
    | (show LS _ _ _ _ _ (⟨some _, .unOp _ _ _, _, _, _, none⟩ :: _) _; first | refine LS_q (Q_un rfl inferInstance) rfl ?_ | refine LS_q (Q_negI rfl (by omega)) rfl ?_)
    | (show LS _ _ _ _ _ (⟨some _, .indexAddr _ _ _, _, _, _, none⟩ :: _) _; first | refine LS_q (Q_index rfl rfl inferInstance inferInstance inferInstance inferInstance (by first | assumption | omega | ((try simp only [List.length_append, List.length_cons, List.length_nil, be_length, List.length_set]); omega))) rfl ?_ | refine LS_q (Q_indexV rfl rfl inferInstance inferInstance inferInstance (by first | assumption | omega)) rfl ?_)
    | (refine LS_h (H_buildB inferInstance inferInstance inferInstance rfl rfl rfl rfl rfl inferInstance rfl rfl) rfl ?_; intro g)
    | (refine LS_h (H_buildSlice0 inferInstance inferInstance) rfl ?_; intro g)
    | (show LS _ _ _ _ _ (⟨some _, .call ⟨.builtin .append, _, _⟩, _, _, _, none⟩ :: _) _; first | (refine LS_h (H_appendD rfl rfl inferInstance inferInstance rfl inferInstance inferInstance byteC_one (by (try simp only [List.length_append, List.length_cons, List.length_nil, be_length, List.length_set]); omega) rfl) rfl ?_; intro g) | (refine LS_h (H_appendB rfl rfl inferInstance inferInstance inferInstance rfl rfl inferInstance (by (try simp only [List.length_append, List.length_cons, List.length_nil, be_length, List.length_set]); omega) rfl) rfl ?_; intro g) | (refine LS_h (H_appendS rfl rfl inferInstance rfl inferInstance inferInstance (by (try simp only [List.length_append, List.length_cons, List.length_nil, be_length, List.length_set]); omega) rfl) rfl ?_; intro g))
    | (show LS _ _ _ _ _ (⟨none, _, _, _, _, none⟩ :: _) _; first | (refine LS_h0 (H_storeO rfl rfl inferInstance inferInstance inferInstance rfl) ?_; intro g) | (refine LS_h0 (H_storeAO rfl rfl inferInstance inferInstance inferInstance rfl) ?_; intro g) | (refine LS_h0 (H_store8 rfl rfl inferInstance inferInstance rfl inferInstance (by first | assumption | omega | ((try simp only [List.length_append, List.length_cons, List.length_nil, be_length, List.length_set]); omega))) ?_; intro g) | (refine LS_h0 (H_storeRA _ rfl rfl rfl inferInstance inferInstance inferInstance rfl rfl (by first | assumption | omega | ((try simp only [List.length_append, List.length_cons, List.length_nil, be_length, List.length_set]); omega))) ?_; intro g) | (refine LS_h0 (H_storeR _ rfl rfl inferInstance inferInstance inferInstance rfl (by assumption) rfl) ?_; intro g) | (refine LS_h0 (H_store rfl rfl inferInstance (by first | rfl | assumption) inferInstance rfl) ?_; intro g) | (refine LS_h0 (H_storeA rfl rfl inferInstance inferInstance (by first | rfl | (simp only [List.all_cons, List.all_nil, *]; rfl)) rfl) ?_; intro g))
    | refine WS_block ?_
    | refine WS_skip ?_
    | refine WS_ret ?_
    | refine WS_exit ?_
    | refine WS_label ?_
    | (show WS _ _ _ (.cond _ _ _) _ _; first | refine WS_condT rfl inferInstance ?_ | refine WS_condF rfl inferInstance ?_ | refine WS_condH_t rfl (by assumption) ?_ | refine WS_condH_f rfl (by assumption) ?_ | (refine WS_cond rfl ?_ ?_ <;> intro hc <;> (try simp only [decide_eq_true_eq, decide_eq_false_iff_not, Bool.not_eq_eq_eq_not, Bool.not_true, Bool.not_false, Bool.and_eq_true, Bool.or_eq_true, bne_iff_ne, beq_iff_eq, ne_eq, Decidable.not_not] at hc) <;> (try (exfalso; first | contradiction | omega; done))))
    | (refine LS_h (H_callX inferInstance rfl (mnew_spec w0) inferInstance) rfl ?_; intro g0)
    | (refine LS_h (H_buildSliceR u64L [5] inferInstance inferInstance inferInstance rfl rfl rfl rfl rfl inferInstance rfl rfl rfl) rfl ?_; intro v1)
    | (refine LS_h (H_appendO X rfl rfl inferInstance hX inferInstance rfl inferInstance inferInstance u64L_one (by (try simp only [List.length_append, List.length_cons, List.length_nil, be_length, List.length_set]); omega) rfl) rfl ?_; intro va)
    | (refine LS_h (H_makeSlice bC false (m := ([5] ++ l).length) rfl rfl inferInstance inferInstance inferInstance rfl rfl (by simp; omega) rfl) rfl ?_; intro vg))
  generalize hA : [5] ++ l = ats
  have hN : ats.length = l.length + 1 := by rw [← hA]; simp
  have hN9 : ats.length ≤ 4097 := by omega
  have hN0 : 0 < ats.length := by omega
  have hrep : ∀ k, k < ats.length → (List.replicate ats.length false)[k]? = some false := fun k hk => by simp [hk]
  refine WS_loop (fun k τ => ∃ (j : Nat) (a : Int) (lh L : List Tm), j + k = ats.length ∧ a = (j : Int) ∧ TR lh L a ∧ L.length = j ∧ Tk ats j L (List.replicate ats.length false) ∧ τ = ⟨[(7, .int .i64 (j : Int)), (0, va), (1, u), (5, ptr g0 0), (6, vg)], [], mtQ g0 a lh * (rows 4 1 bC vg (List.replicate ats.length false) * (rows 59 1 u64L va ats * (X * G)))⟩) ?_ ?_
  · exact ⟨ats.length, _, ⟨0, 0, [], [], by omega, rfl, TR.nil, rfl, Tk.nil _ _, rfl⟩, ⟨rfl, rfl, rfl, rfl, rfl, trivial⟩, rfl, by ((try simp only [star_assoc, emp_star, star_emp]); (repeat' (first | exact Ent.last | refine Ent.take ?_ | refine Ent.nilT ?_ | refine Ent.takeR (by first | rfl | assumption | (simp; done)) ?_ | exact Ent.refl _)))⟩
  rintro k τ ⟨j, a, lh, L, hjk, ha, tr, hLj, tk, rfl⟩
  have hll := tr.perm.length_eq
  rcases Nat.lt_or_ge j ats.length with hlt | hge
  · obtain ⟨z, hz⟩ : ∃ z, ats[j]? = some z := ⟨_, List.getElem?_eq_getElem hlt⟩
    have hfresh : ∀ u ∈ lh, u.id ≠ a + 1 := fun u hu => by have := tr.bound u (tr.perm.mem_iff.1 hu); omega
    have hm := madd_spec w0 g0 a lh z (j : Int) hfresh tr.idn (by omega) (by omega)
    repeat' (first
      | (refine WS_seqK ?_; intro K hK)
      | (refine hK _ ?_; clear hK K)
      | with_reducible refine thenS_n ?_
      | with_reducible refine thenS_e ?_
      | with_reducible refine blockS_n ?_
      | with_reducible refine blockS_e ?_
      | with_reducible refine blockS_o rfl ?_
      | with_reducible refine thenS_r ?_
      | with_reducible refine blockS_r ?_
      | with_reducible refine use_K (by assumption) ?_
      | refine WS_region ?_
      | refine LS_nil ?_
      | (show LS _ _ _ _ _ (⟨_, _, _, _, _, some _⟩ :: _) _; first | refine LS_wantT rfl rfl inferInstance rfl ?_ | refine LS_wantF rfl rfl inferInstance rfl ?_ | refine LS_wantU rfl rfl rfl ?_ | (refine LS_wantS rfl rfl rfl ?_ ?_ <;> intro hc <;> (try simp only [decide_eq_true_eq, decide_eq_false_iff_not, Bool.not_eq_eq_eq_not, Bool.not_true, Bool.not_false, Bool.and_eq_true, Bool.or_eq_true, bne_iff_ne, beq_iff_eq, ne_eq, Decidable.not_not] at hc) <;> (try (exfalso; first | contradiction | omega; done))) | (refine LS_wantN rfl ?_ ?_ <;> intro hc <;> (try simp only [decide_eq_true_eq, decide_eq_false_iff_not, Bool.not_eq_eq_eq_not, Bool.not_true, Bool.not_false, Bool.and_eq_true, Bool.or_eq_true, bne_iff_ne, beq_iff_eq, ne_eq, Decidable.not_not] at hc) <;> (try (exfalso; first | contradiction | omega; done))))
      | (show LS _ _ _ _ _ (⟨some _, .move _, _, _, _, none⟩ :: _) _; first | refine LS_q (Q_move rfl) rfl ?_)
      | (show LS _ _ _ _ _ (⟨some _, .load _ _, _, _, _, none⟩ :: _) _; first | refine LS_q (Q_load rfl inferInstance inferInstance rfl) rfl ?_ | refine LS_q (Q_loadA rfl inferInstance inferInstance rfl) rfl ?_ | refine LS_q (Q_loadR rfl inferInstance inferInstance inferInstance (by assumption) rfl) rfl ?_ | refine LS_q (Q_loadR rfl inferInstance inferInstance inferInstance rfl rfl) rfl ?_ | refine LS_q (Q_loadRA rfl inferInstance inferInstance inferInstance (by assumption)) rfl ?_)
      | (show LS _ _ _ _ _ (⟨some _, .binOp _ _ _ _ _, _, _, _, none⟩ :: _) _; first | refine LS_q (Q_bin_t rfl rfl inferInstance (by first | assumption | omega | decide)) rfl ?_ | refine LS_q (Q_bin_f rfl rfl inferInstance (by first | assumption | omega | decide)) rfl ?_ | refine LS_q (Q_bin_nt rfl rfl inferInstance (by first | assumption | omega | decide)) rfl ?_ | refine LS_q (Q_bin_nf rfl rfl inferInstance (by first | assumption | omega | decide)) rfl ?_ | (refine LS_binS rfl rfl inferInstance rfl ?_ ?_ <;> intro hc) | (refine LS_binN rfl rfl inferInstance rfl ?_ ?_ <;> intro hc) | refine LS_q (Q_bin rfl rfl inferInstance) rfl ?_ | refine LS_q (Q_addI rfl rfl (by omega)) rfl ?_ | refine LS_q (Q_subI rfl rfl (by omega)) rfl ?_ | refine LS_q (Q_addS rfl rfl (by (try simp only [List.length_append, List.length_cons, List.length_nil, be_length, List.length_set]); omega)) rfl ?_ | refine LS_q (Q_quoI rfl rfl (by omega)) rfl ?_ | refine LS_q (Q_remI rfl rfl (by omega)) rfl ?_ | refine LS_q (Q_mulI rfl rfl (by omega)) rfl ?_)
      | (show LS _ _ _ _ _ (⟨some _, .assign _, _, _, _, none⟩ :: _) _; first | refine LS_q (Q_assign rfl) rfl ?_)
      | (show LS _ _ _ _ _ (⟨some _, .pick _ _ _, _, _, _, none⟩ :: _) _; first | refine LS_q (Q_pick_t rfl inferInstance rfl) rfl ?_ | refine LS_q (Q_pick_f rfl inferInstance rfl) rfl ?_ | refine LS_q (Q_pick rfl rfl rfl) rfl ?_)
      | (show LS _ _ _ _ _ (⟨some _, .extract _ _, _, _, _, none⟩ :: _) _; first | refine LS_q (Q_extract rfl rfl) rfl ?_)
      | (show LS _ _ _ _ _ (⟨some _, .call ⟨.builtin .len, _, _⟩, _, _, _, none⟩ :: _) _; first | refine LS_q (Q_len rfl inferInstance) rfl ?_ | refine LS_q (Q_lenS rfl inferInstance) rfl ?_ | refine LS_q (Q_lenR rfl inferInstance inferInstance) rfl ?_ | refine LS_q (Q_lenM rfl inferInstance inferInstance) rfl ?_)
      | (show LS _ _ _ _ _ (⟨some _, .unOp _ _ _, _, _, _, none⟩ :: _) _; first | refine LS_q (Q_un rfl inferInstance) rfl ?_ | refine LS_q (Q_negI rfl (by omega)) rfl ?_)
      | (show LS _ _ _ _ _ (⟨some _, .indexAddr _ _ _, _, _, _, none⟩ :: _) _; first | refine LS_q (Q_index rfl rfl inferInstance inferInstance inferInstance inferInstance (by first | assumption | omega | ((try simp only [List.length_append, List.length_cons, List.length_nil, be_length, List.length_set]); omega))) rfl ?_ | refine LS_q (Q_indexV rfl rfl inferInstance inferInstance inferInstance (by first | assumption | omega)) rfl ?_)
      | (refine LS_h (H_buildB inferInstance inferInstance inferInstance rfl rfl rfl rfl rfl inferInstance rfl rfl) rfl ?_; intro g)
      | (refine LS_h (H_buildSlice inferInstance inferInstance inferInstance rfl rfl rfl rfl rfl) rfl ?_; intro g)
      | (refine LS_h (H_buildSlice0 inferInstance inferInstance) rfl ?_; intro g)
      | (show LS _ _ _ _ _ (⟨some _, .call ⟨.builtin .append, _, _⟩, _, _, _, none⟩ :: _) _; first | (refine LS_h (H_appendD rfl rfl inferInstance inferInstance rfl inferInstance inferInstance byteC_one (by (try simp only [List.length_append, List.length_cons, List.length_nil, be_length, List.length_set]); omega) rfl) rfl ?_; intro g) | (refine LS_h (H_appendB rfl rfl inferInstance inferInstance inferInstance rfl rfl inferInstance (by (try simp only [List.length_append, List.length_cons, List.length_nil, be_length, List.length_set]); omega) rfl) rfl ?_; intro g) | (refine LS_h (H_appendS rfl rfl inferInstance rfl inferInstance inferInstance (by (try simp only [List.length_append, List.length_cons, List.length_nil, be_length, List.length_set]); omega) rfl) rfl ?_; intro g))
      | (show LS _ _ _ _ _ (⟨none, _, _, _, _, none⟩ :: _) _; first | (refine LS_h0 (H_storeO rfl rfl inferInstance inferInstance inferInstance rfl) ?_; intro g) | (refine LS_h0 (H_storeAO rfl rfl inferInstance inferInstance inferInstance rfl) ?_; intro g) | (refine LS_h0 (H_store8 rfl rfl inferInstance inferInstance rfl inferInstance (by first | assumption | omega | ((try simp only [List.length_append, List.length_cons, List.length_nil, be_length, List.length_set]); omega))) ?_; intro g) | (refine LS_h0 (H_storeRA _ rfl rfl rfl inferInstance inferInstance inferInstance rfl rfl (by first | assumption | omega | ((try simp only [List.length_append, List.length_cons, List.length_nil, be_length, List.length_set]); omega))) ?_; intro g) | (refine LS_h0 (H_storeR _ rfl rfl inferInstance inferInstance inferInstance rfl (by assumption) rfl) ?_; intro g) | (refine LS_h0 (H_store rfl rfl inferInstance (by first | rfl | assumption) inferInstance rfl) ?_; intro g) | (refine LS_h0 (H_storeA rfl rfl inferInstance inferInstance (by first | rfl | (simp only [List.all_cons, List.all_nil, *]; rfl)) rfl) ?_; intro g))
      | refine WS_block ?_
      | refine WS_skip ?_
      | refine WS_ret ?_
      | refine WS_exit ?_
      | refine WS_label ?_
      | (show WS _ _ _ (.cond _ _ _) _ _; first | refine WS_condT rfl inferInstance ?_ | refine WS_condF rfl inferInstance ?_ | refine WS_condH_t rfl (by assumption) ?_ | refine WS_condH_f rfl (by assumption) ?_ | (refine WS_cond rfl ?_ ?_ <;> intro hc <;> (try simp only [decide_eq_true_eq, decide_eq_false_iff_not, Bool.not_eq_eq_eq_not, Bool.not_true, Bool.not_false, Bool.and_eq_true, Bool.or_eq_true, bne_iff_ne, beq_iff_eq, ne_eq, Decidable.not_not] at hc) <;> (try (exfalso; first | contradiction | omega; done))))
      | (refine LS_h (H_callX inferInstance rfl hm inferInstance) rfl ?_; intro g))
    have e : Tm.mk z (a + 1) (j : Int) = tmOf ats j := by simp [tmOf, hz, ha]
    have tr' := tr.add (by omega) (Tm.mk z (a + 1) (j : Int)) rfl
    rw [e] at tr'
    refine ⟨k - 1, _, by omega, ⟨j + 1, a + 1, _, _, by omega, by omega, tr', by simp [hLj], tk.add (hrep j hlt), rfl⟩, ⟨rfl, rfl, rfl, rfl, rfl, trivial⟩, rfl, ?_⟩
    rw [e]
    ((try simp only [star_assoc, emp_star, star_emp]); (repeat' (first | exact Ent.last | refine Ent.take ?_ | refine Ent.nilT ?_ | refine Ent.takeR (by first | rfl | assumption | (simp; done)) ?_ | exact Ent.refl _)))
  obtain rfl : j = ats.length := by omega
  repeat' (first
    | (refine WS_seqK ?_; intro K hK)
    | (refine hK _ ?_; clear hK K)
    | with_reducible refine thenS_n ?_
    | with_reducible refine thenS_e ?_
    | with_reducible refine blockS_n ?_
    | with_reducible refine blockS_e ?_
    | with_reducible refine blockS_o rfl ?_
    | with_reducible refine thenS_r ?_
    | with_reducible refine blockS_r ?_
    | with_reducible refine use_K (by assumption) ?_
    | refine WS_region ?_
    | refine LS_nil ?_
    | (show LS _ _ _ _ _ (⟨_, _, _, _, _, some _⟩ :: _) _; first | refine LS_wantT rfl rfl inferInstance rfl ?_ | refine LS_wantF rfl rfl inferInstance rfl ?_ | refine LS_wantU rfl rfl rfl ?_ | (refine LS_wantS rfl rfl rfl ?_ ?_ <;> intro hc <;> (try simp only [decide_eq_true_eq, decide_eq_false_iff_not, Bool.not_eq_eq_eq_not, Bool.not_true, Bool.not_false, Bool.and_eq_true, Bool.or_eq_true, bne_iff_ne, beq_iff_eq, ne_eq, Decidable.not_not] at hc) <;> (try (exfalso; first | contradiction | omega; done))) | (refine LS_wantN rfl ?_ ?_ <;> intro hc <;> (try simp only [decide_eq_true_eq, decide_eq_false_iff_not, Bool.not_eq_eq_eq_not, Bool.not_true, Bool.not_false, Bool.and_eq_true, Bool.or_eq_true, bne_iff_ne, beq_iff_eq, ne_eq, Decidable.not_not] at hc) <;> (try (exfalso; first | contradiction | omega; done))))
    | (show LS _ _ _ _ _ (⟨some _, .move _, _, _, _, none⟩ :: _) _; first | refine LS_q (Q_move rfl) rfl ?_)
    | (show LS _ _ _ _ _ (⟨some _, .load _ _, _, _, _, none⟩ :: _) _; first | refine LS_q (Q_load rfl inferInstance inferInstance rfl) rfl ?_ | refine LS_q (Q_loadA rfl inferInstance inferInstance rfl) rfl ?_ | refine LS_q (Q_loadR rfl inferInstance inferInstance inferInstance (by assumption) rfl) rfl ?_ | refine LS_q (Q_loadR rfl inferInstance inferInstance inferInstance rfl rfl) rfl ?_ | refine LS_q (Q_loadRA rfl inferInstance inferInstance inferInstance (by assumption)) rfl ?_)
    | (show LS _ _ _ _ _ (⟨some _, .binOp _ _ _ _ _, _, _, _, none⟩ :: _) _; first | refine LS_q (Q_bin_t rfl rfl inferInstance (by first | assumption | omega | decide)) rfl ?_ | refine LS_q (Q_bin_f rfl rfl inferInstance (by first | assumption | omega | decide)) rfl ?_ | refine LS_q (Q_bin_nt rfl rfl inferInstance (by first | assumption | omega | decide)) rfl ?_ | refine LS_q (Q_bin_nf rfl rfl inferInstance (by first | assumption | omega | decide)) rfl ?_ | (refine LS_binS rfl rfl inferInstance rfl ?_ ?_ <;> intro hc) | (refine LS_binN rfl rfl inferInstance rfl ?_ ?_ <;> intro hc) | refine LS_q (Q_bin rfl rfl inferInstance) rfl ?_ | refine LS_q (Q_addI rfl rfl (by omega)) rfl ?_ | refine LS_q (Q_subI rfl rfl (by omega)) rfl ?_ | refine LS_q (Q_addS rfl rfl (by (try simp only [List.length_append, List.length_cons, List.length_nil, be_length, List.length_set]); omega)) rfl ?_ | refine LS_q (Q_quoI rfl rfl (by omega)) rfl ?_ | refine LS_q (Q_remI rfl rfl (by omega)) rfl ?_ | refine LS_q (Q_mulI rfl rfl (by omega)) rfl ?_)
    | (show LS _ _ _ _ _ (⟨some _, .assign _, _, _, _, none⟩ :: _) _; first | refine LS_q (Q_assign rfl) rfl ?_)
    | (show LS _ _ _ _ _ (⟨some _, .pick _ _ _, _, _, _, none⟩ :: _) _; first | refine LS_q (Q_pick_t rfl inferInstance rfl) rfl ?_ | refine LS_q (Q_pick_f rfl inferInstance rfl) rfl ?_ | refine LS_q (Q_pick rfl rfl rfl) rfl ?_)
    | (show LS _ _ _ _ _ (⟨some _, .extract _ _, _, _, _, none⟩ :: _) _; first | refine LS_q (Q_extract rfl rfl) rfl ?_)
    | (show LS _ _ _ _ _ (⟨some _, .call ⟨.builtin .len, _, _⟩, _, _, _, none⟩ :: _) _; first | refine LS_q (Q_len rfl inferInstance) rfl ?_ | refine LS_q (Q_lenS rfl inferInstance) rfl ?_ | refine LS_q (Q_lenR rfl inferInstance inferInstance) rfl ?_ | refine LS_q (Q_lenM rfl inferInstance inferInstance) rfl ?_)
    | (show LS _ _ _ _ _ (⟨some _, .unOp _ _ _, _, _, _, none⟩ :: _) _; first | refine LS_q (Q_un rfl inferInstance) rfl ?_ | refine LS_q (Q_negI rfl (by omega)) rfl ?_)
    | (show LS _ _ _ _ _ (⟨some _, .indexAddr _ _ _, _, _, _, none⟩ :: _) _; first | refine LS_q (Q_index rfl rfl inferInstance inferInstance inferInstance inferInstance (by first | assumption | omega | ((try simp only [List.length_append, List.length_cons, List.length_nil, be_length, List.length_set]); omega))) rfl ?_ | refine LS_q (Q_indexV rfl rfl inferInstance inferInstance inferInstance (by first | assumption | omega)) rfl ?_)
    | (refine LS_h (H_buildB inferInstance inferInstance inferInstance rfl rfl rfl rfl rfl inferInstance rfl rfl) rfl ?_; intro g)
    | (refine LS_h (H_buildSlice inferInstance inferInstance inferInstance rfl rfl rfl rfl rfl) rfl ?_; intro g)
    | (refine LS_h (H_buildSlice0 inferInstance inferInstance) rfl ?_; intro g)
    | (show LS _ _ _ _ _ (⟨some _, .call ⟨.builtin .append, _, _⟩, _, _, _, none⟩ :: _) _; first | (refine LS_h (H_appendD rfl rfl inferInstance inferInstance rfl inferInstance inferInstance byteC_one (by (try simp only [List.length_append, List.length_cons, List.length_nil, be_length, List.length_set]); omega) rfl) rfl ?_; intro g) | (refine LS_h (H_appendB rfl rfl inferInstance inferInstance inferInstance rfl rfl inferInstance (by (try simp only [List.length_append, List.length_cons, List.length_nil, be_length, List.length_set]); omega) rfl) rfl ?_; intro g) | (refine LS_h (H_appendS rfl rfl inferInstance rfl inferInstance inferInstance (by (try simp only [List.length_append, List.length_cons, List.length_nil, be_length, List.length_set]); omega) rfl) rfl ?_; intro g))
    | (show LS _ _ _ _ _ (⟨none, _, _, _, _, none⟩ :: _) _; first | (refine LS_h0 (H_storeO rfl rfl inferInstance inferInstance inferInstance rfl) ?_; intro g) | (refine LS_h0 (H_storeAO rfl rfl inferInstance inferInstance inferInstance rfl) ?_; intro g) | (refine LS_h0 (H_store8 rfl rfl inferInstance inferInstance rfl inferInstance (by first | assumption | omega | ((try simp only [List.length_append, List.length_cons, List.length_nil, be_length, List.length_set]); omega))) ?_; intro g) | (refine LS_h0 (H_storeRA _ rfl rfl rfl inferInstance inferInstance inferInstance rfl rfl (by first | assumption | omega | ((try simp only [List.length_append, List.length_cons, List.length_nil, be_length, List.length_set]); omega))) ?_; intro g) | (refine LS_h0 (H_storeR _ rfl rfl inferInstance inferInstance inferInstance rfl (by assumption) rfl) ?_; intro g) | (refine LS_h0 (H_store rfl rfl inferInstance (by first | rfl | assumption) inferInstance rfl) ?_; intro g) | (refine LS_h0 (H_storeA rfl rfl inferInstance inferInstance (by first | rfl | (simp only [List.all_cons, List.all_nil, *]; rfl)) rfl) ?_; intro g))
    | refine WS_block ?_
    | refine WS_skip ?_
    | refine WS_ret ?_
    | refine WS_exit ?_
    | refine WS_label ?_
    | (show WS _ _ _ (.cond _ _ _) _ _; first | refine WS_condT rfl inferInstance ?_ | refine WS_condF rfl inferInstance ?_ | refine WS_condH_t rfl (by assumption) ?_ | refine WS_condH_f rfl (by assumption) ?_ | (refine WS_cond rfl ?_ ?_ <;> intro hc <;> (try simp only [decide_eq_true_eq, decide_eq_false_iff_not, Bool.not_eq_eq_eq_not, Bool.not_true, Bool.not_false, Bool.and_eq_true, Bool.or_eq_true, bne_iff_ne, beq_iff_eq, ne_eq, Decidable.not_not] at hc) <;> (try (exfalso; first | contradiction | omega; done)))))
  refine WS_loop (fun k τ => ∃ (j : Nat) (lf : Int) (lh L : List Tm) (gl : List Bool), j + k = m.length ∧ lf = (L.length : Int) ∧ TR lh L a ∧ L.length ≤ ats.length ∧ Tk ats ats.length L gl ∧ τ = ⟨[(10, .int .i64 (j : Int)), (9, .int .i64 lf), (0, va), (1, u), (5, ptr g0 0), (6, vg)], [], mtQ g0 a lh * (rows 4 1 bC vg gl * (rows 59 1 u64L va ats * (X * G)))⟩) ?_ ?_
  · exact ⟨m.length, _, ⟨0, _, lh, L, _, by omega, by rw [hLj], tr, by omega, tk, rfl⟩, ⟨rfl, rfl, rfl, rfl, rfl, rfl, trivial⟩, rfl, by ((try simp only [star_assoc, emp_star, star_emp]); (repeat' (first | exact Ent.last | refine Ent.take ?_ | refine Ent.nilT ?_ | refine Ent.takeR (by first | rfl | assumption | (simp; done)) ?_ | exact Ent.refl _)))⟩
  clear tr tk hLj hll hge hjk
  rintro k τ ⟨j, lf, lh, L, gl, hjk, hlf, tr, hLj, tk, rfl⟩
  have hll := tr.perm.length_eq
  rcases Nat.lt_or_ge j m.length with hlt | hge
  · obtain ⟨c, hz⟩ : ∃ z, m[j]? = some z := ⟨_, List.getElem?_eq_getElem hlt⟩
    obtain ⟨q, hq, hpq⟩ := pickI_lt c hN0
    have hp := pick_spec w0 c (ats.length : Int) (hmr c (List.mem_of_getElem? hz)) (by omega)
    rw [hpq] at hp
    have hgq := tk.there q hq
    rcases cancel_cases tr ((q : Int) + 1) with ⟨c1, c2⟩ | ⟨i, b, c1, c2, c3, c4, c5, c6⟩
    · have hgl := tk.lost hq c2
      have hm := mcancel_none w0 g0 a lh ((q : Int) + 1) c1
      repeat' (first
        | (refine WS_seqK ?_; intro K hK)
        | (refine hK _ ?_; clear hK K)
        | with_reducible refine thenS_n ?_
        | with_reducible refine thenS_e ?_
        | with_reducible refine blockS_n ?_
        | with_reducible refine blockS_e ?_
        | with_reducible refine blockS_o rfl ?_
        | with_reducible refine thenS_r ?_
        | with_reducible refine blockS_r ?_
        | with_reducible refine use_K (by assumption) ?_
        | refine WS_region ?_
        | refine LS_nil ?_
        | (show LS _ _ _ _ _ (⟨_, _, _, _, _, some _⟩ :: _) _; first | refine LS_wantT rfl rfl inferInstance rfl ?_ | refine LS_wantF rfl rfl inferInstance rfl ?_ | refine LS_wantU rfl rfl rfl ?_ | (refine LS_wantS rfl rfl rfl ?_ ?_ <;> intro hc <;> (try simp only [decide_eq_true_eq, decide_eq_false_iff_not, Bool.not_eq_eq_eq_not, Bool.not_true, Bool.not_false, Bool.and_eq_true, Bool.or_eq_true, bne_iff_ne, beq_iff_eq, ne_eq, Decidable.not_not] at hc) <;> (try (exfalso; first | contradiction | omega; done))) | (refine LS_wantN rfl ?_ ?_ <;> intro hc <;> (try simp only [decide_eq_true_eq, decide_eq_false_iff_not, Bool.not_eq_eq_eq_not, Bool.not_true, Bool.not_false, Bool.and_eq_true, Bool.or_eq_true, bne_iff_ne, beq_iff_eq, ne_eq, Decidable.not_not] at hc) <;> (try (exfalso; first | contradiction | omega; done))))
        | (show LS _ _ _ _ _ (⟨some _, .move _, _, _, _, none⟩ :: _) _; first | refine LS_q (Q_move rfl) rfl ?_)
        | (show LS _ _ _ _ _ (⟨some _, .load _ _, _, _, _, none⟩ :: _) _; first | refine LS_q (Q_load rfl inferInstance inferInstance rfl) rfl ?_ | refine LS_q (Q_loadA rfl inferInstance inferInstance rfl) rfl ?_ | refine LS_q (Q_loadR rfl inferInstance inferInstance inferInstance (by assumption) rfl) rfl ?_ | refine LS_q (Q_loadR rfl inferInstance inferInstance inferInstance rfl rfl) rfl ?_ | refine LS_q (Q_loadRA rfl inferInstance inferInstance inferInstance (by assumption)) rfl ?_)
        | (show LS _ _ _ _ _ (⟨some _, .binOp _ _ _ _ _, _, _, _, none⟩ :: _) _; first | refine LS_q (Q_bin_t rfl rfl inferInstance (by first | assumption | omega | decide)) rfl ?_ | refine LS_q (Q_bin_f rfl rfl inferInstance (by first | assumption | omega | decide)) rfl ?_ | refine LS_q (Q_bin_nt rfl rfl inferInstance (by first | assumption | omega | decide)) rfl ?_ | refine LS_q (Q_bin_nf rfl rfl inferInstance (by first | assumption | omega | decide)) rfl ?_ | (refine LS_binS rfl rfl inferInstance rfl ?_ ?_ <;> intro hc) | (refine LS_binN rfl rfl inferInstance rfl ?_ ?_ <;> intro hc) | refine LS_q (Q_bin rfl rfl inferInstance) rfl ?_ | refine LS_q (Q_addI rfl rfl (by omega)) rfl ?_ | refine LS_q (Q_subI rfl rfl (by omega)) rfl ?_ | refine LS_q (Q_addS rfl rfl (by (try simp only [List.length_append, List.length_cons, List.length_nil, be_length, List.length_set]); omega)) rfl ?_ | refine LS_q (Q_quoI rfl rfl (by omega)) rfl ?_ | refine LS_q (Q_remI rfl rfl (by omega)) rfl ?_ | refine LS_q (Q_mulI rfl rfl (by omega)) rfl ?_)
        | (show LS _ _ _ _ _ (⟨some _, .assign _, _, _, _, none⟩ :: _) _; first | refine LS_q (Q_assign rfl) rfl ?_)
        | (show LS _ _ _ _ _ (⟨some _, .pick _ _ _, _, _, _, none⟩ :: _) _; first | refine LS_q (Q_pick_t rfl inferInstance rfl) rfl ?_ | refine LS_q (Q_pick_f rfl inferInstance rfl) rfl ?_ | refine LS_q (Q_pick rfl rfl rfl) rfl ?_)
        | (show LS _ _ _ _ _ (⟨some _, .extract _ _, _, _, _, none⟩ :: _) _; first | refine LS_q (Q_extract rfl rfl) rfl ?_)
        | (show LS _ _ _ _ _ (⟨some _, .call ⟨.builtin .len, _, _⟩, _, _, _, none⟩ :: _) _; first | refine LS_q (Q_len rfl inferInstance) rfl ?_ | refine LS_q (Q_lenS rfl inferInstance) rfl ?_ | refine LS_q (Q_lenR rfl inferInstance inferInstance) rfl ?_ | refine LS_q (Q_lenM rfl inferInstance inferInstance) rfl ?_)
        | (show LS _ _ _ _ _ (⟨some _, .unOp _ _ _, _, _, _, none⟩ :: _) _; first | refine LS_q (Q_un rfl inferInstance) rfl ?_ | refine LS_q (Q_negI rfl (by omega)) rfl ?_)
        | (show LS _ _ _ _ _ (⟨some _, .indexAddr _ _ _, _, _, _, none⟩ :: _) _; first | refine LS_q (Q_index rfl rfl inferInstance inferInstance inferInstance inferInstance (by first | assumption | omega | ((try simp only [List.length_append, List.length_cons, List.length_nil, be_length, List.length_set]); omega))) rfl ?_ | refine LS_q (Q_indexV rfl rfl inferInstance inferInstance inferInstance (by first | assumption | omega)) rfl ?_)
        | (refine LS_h (H_buildB inferInstance inferInstance inferInstance rfl rfl rfl rfl rfl inferInstance rfl rfl) rfl ?_; intro g)
        | (refine LS_h (H_buildSlice inferInstance inferInstance inferInstance rfl rfl rfl rfl rfl) rfl ?_; intro g)
        | (refine LS_h (H_buildSlice0 inferInstance inferInstance) rfl ?_; intro g)
        | (show LS _ _ _ _ _ (⟨some _, .call ⟨.builtin .append, _, _⟩, _, _, _, none⟩ :: _) _; first | (refine LS_h (H_appendD rfl rfl inferInstance inferInstance rfl inferInstance inferInstance byteC_one (by (try simp only [List.length_append, List.length_cons, List.length_nil, be_length, List.length_set]); omega) rfl) rfl ?_; intro g) | (refine LS_h (H_appendB rfl rfl inferInstance inferInstance inferInstance rfl rfl inferInstance (by (try simp only [List.length_append, List.length_cons, List.length_nil, be_length, List.length_set]); omega) rfl) rfl ?_; intro g) | (refine LS_h (H_appendS rfl rfl inferInstance rfl inferInstance inferInstance (by (try simp only [List.length_append, List.length_cons, List.length_nil, be_length, List.length_set]); omega) rfl) rfl ?_; intro g))
        | (show LS _ _ _ _ _ (⟨none, _, _, _, _, none⟩ :: _) _; first | (refine LS_h0 (H_storeO rfl rfl inferInstance inferInstance inferInstance rfl) ?_; intro g) | (refine LS_h0 (H_storeAO rfl rfl inferInstance inferInstance inferInstance rfl) ?_; intro g) | (refine LS_h0 (H_store8 rfl rfl inferInstance inferInstance rfl inferInstance (by first | assumption | omega | ((try simp only [List.length_append, List.length_cons, List.length_nil, be_length, List.length_set]); omega))) ?_; intro g) | (refine LS_h0 (H_storeRA _ rfl rfl rfl inferInstance inferInstance inferInstance rfl rfl (by first | assumption | omega | ((try simp only [List.length_append, List.length_cons, List.length_nil, be_length, List.length_set]); omega))) ?_; intro g) | (refine LS_h0 (H_storeR _ rfl rfl inferInstance inferInstance inferInstance rfl (by assumption) rfl) ?_; intro g) | (refine LS_h0 (H_store rfl rfl inferInstance (by first | rfl | assumption) inferInstance rfl) ?_; intro g) | (refine LS_h0 (H_storeA rfl rfl inferInstance inferInstance (by first | rfl | (simp only [List.all_cons, List.all_nil, *]; rfl)) rfl) ?_; intro g))
        | refine WS_block ?_
        | refine WS_skip ?_
        | refine WS_ret ?_
        | refine WS_exit ?_
        | refine WS_label ?_
        | (show WS _ _ _ (.cond _ _ _) _ _; first | refine WS_condT rfl inferInstance ?_ | refine WS_condF rfl inferInstance ?_ | refine WS_condH_t rfl (by assumption) ?_ | refine WS_condH_f rfl (by assumption) ?_ | (refine WS_cond rfl ?_ ?_ <;> intro hc <;> (try simp only [decide_eq_true_eq, decide_eq_false_iff_not, Bool.not_eq_eq_eq_not, Bool.not_true, Bool.not_false, Bool.and_eq_true, Bool.or_eq_true, bne_iff_ne, beq_iff_eq, ne_eq, Decidable.not_not] at hc) <;> (try (exfalso; first | contradiction | omega; done))))
        | (refine LS_h (H_callX inferInstance rfl hp inferInstance) rfl ?_; intro g)
        | (refine LS_h (H_callX inferInstance rfl hm inferInstance) rfl ?_; intro g))
      exact ⟨k - 1, _, by omega, ⟨j + 1, lf, lh, L, gl, by omega, hlf, tr, hLj, tk, rfl⟩, ⟨rfl, rfl, rfl, rfl, rfl, rfl, trivial⟩, rfl, by ((try simp only [star_assoc, emp_star, star_emp]); (repeat' (first | exact Ent.last | refine Ent.take ?_ | refine Ent.nilT ?_ | refine Ent.takeR (by first | rfl | assumption | (simp; done)) ?_ | exact Ent.refl _)))⟩
    · obtain ⟨e1, hgl⟩ := tk.find c3 hq c4
      have hm := mcancel_some w0 g0 a lh ((q : Int) + 1) i c1 c2 tr.idn (by omega)
      repeat' (first
        | (refine WS_seqK ?_; intro K hK)
        | (refine hK _ ?_; clear hK K)
        | with_reducible refine thenS_n ?_
        | with_reducible refine thenS_e ?_
        | with_reducible refine blockS_n ?_
        | with_reducible refine blockS_e ?_
        | with_reducible refine blockS_o rfl ?_
        | with_reducible refine thenS_r ?_
        | with_reducible refine blockS_r ?_
        | with_reducible refine use_K (by assumption) ?_
        | refine WS_region ?_
        | refine LS_nil ?_
        | (show LS _ _ _ _ _ (⟨_, _, _, _, _, some _⟩ :: _) _; first | refine LS_wantT rfl rfl inferInstance rfl ?_ | refine LS_wantF rfl rfl inferInstance rfl ?_ | refine LS_wantU rfl rfl rfl ?_ | (refine LS_wantS rfl rfl rfl ?_ ?_ <;> intro hc <;> (try simp only [decide_eq_true_eq, decide_eq_false_iff_not, Bool.not_eq_eq_eq_not, Bool.not_true, Bool.not_false, Bool.and_eq_true, Bool.or_eq_true, bne_iff_ne, beq_iff_eq, ne_eq, Decidable.not_not] at hc) <;> (try (exfalso; first | contradiction | omega; done))) | (refine LS_wantN rfl ?_ ?_ <;> intro hc <;> (try simp only [decide_eq_true_eq, decide_eq_false_iff_not, Bool.not_eq_eq_eq_not, Bool.not_true, Bool.not_false, Bool.and_eq_true, Bool.or_eq_true, bne_iff_ne, beq_iff_eq, ne_eq, Decidable.not_not] at hc) <;> (try (exfalso; first | contradiction | omega; done))))
        | (show LS _ _ _ _ _ (⟨some _, .move _, _, _, _, none⟩ :: _) _; first | refine LS_q (Q_move rfl) rfl ?_)
        | (show LS _ _ _ _ _ (⟨some _, .load _ _, _, _, _, none⟩ :: _) _; first | refine LS_q (Q_load rfl inferInstance inferInstance rfl) rfl ?_ | refine LS_q (Q_loadA rfl inferInstance inferInstance rfl) rfl ?_ | refine LS_q (Q_loadR rfl inferInstance inferInstance inferInstance (by assumption) rfl) rfl ?_ | refine LS_q (Q_loadR rfl inferInstance inferInstance inferInstance rfl rfl) rfl ?_ | refine LS_q (Q_loadRA rfl inferInstance inferInstance inferInstance (by assumption)) rfl ?_)
        | (show LS _ _ _ _ _ (⟨some _, .binOp _ _ _ _ _, _, _, _, none⟩ :: _) _; first | refine LS_q (Q_bin_t rfl rfl inferInstance (by first | assumption | omega | decide)) rfl ?_ | refine LS_q (Q_bin_f rfl rfl inferInstance (by first | assumption | omega | decide)) rfl ?_ | refine LS_q (Q_bin_nt rfl rfl inferInstance (by first | assumption | omega | decide)) rfl ?_ | refine LS_q (Q_bin_nf rfl rfl inferInstance (by first | assumption | omega | decide)) rfl ?_ | (refine LS_binS rfl rfl inferInstance rfl ?_ ?_ <;> intro hc) | (refine LS_binN rfl rfl inferInstance rfl ?_ ?_ <;> intro hc) | refine LS_q (Q_bin rfl rfl inferInstance) rfl ?_ | refine LS_q (Q_addI rfl rfl (by omega)) rfl ?_ | refine LS_q (Q_subI rfl rfl (by omega)) rfl ?_ | refine LS_q (Q_addS rfl rfl (by (try simp only [List.length_append, List.length_cons, List.length_nil, be_length, List.length_set]); omega)) rfl ?_ | refine LS_q (Q_quoI rfl rfl (by omega)) rfl ?_ | refine LS_q (Q_remI rfl rfl (by omega)) rfl ?_ | refine LS_q (Q_mulI rfl rfl (by omega)) rfl ?_)
        | (show LS _ _ _ _ _ (⟨some _, .assign _, _, _, _, none⟩ :: _) _; first | refine LS_q (Q_assign rfl) rfl ?_)
        | (show LS _ _ _ _ _ (⟨some _, .pick _ _ _, _, _, _, none⟩ :: _) _; first | refine LS_q (Q_pick_t rfl inferInstance rfl) rfl ?_ | refine LS_q (Q_pick_f rfl inferInstance rfl) rfl ?_ | refine LS_q (Q_pick rfl rfl rfl) rfl ?_)
        | (show LS _ _ _ _ _ (⟨some _, .extract _ _, _, _, _, none⟩ :: _) _; first | refine LS_q (Q_extract rfl rfl) rfl ?_)
        | (show LS _ _ _ _ _ (⟨some _, .call ⟨.builtin .len, _, _⟩, _, _, _, none⟩ :: _) _; first | refine LS_q (Q_len rfl inferInstance) rfl ?_ | refine LS_q (Q_lenS rfl inferInstance) rfl ?_ | refine LS_q (Q_lenR rfl inferInstance inferInstance) rfl ?_ | refine LS_q (Q_lenM rfl inferInstance inferInstance) rfl ?_)
        | (show LS _ _ _ _ _ (⟨some _, .unOp _ _ _, _, _, _, none⟩ :: _) _; first | refine LS_q (Q_un rfl inferInstance) rfl ?_ | refine LS_q (Q_negI rfl (by omega)) rfl ?_)
        | (show LS _ _ _ _ _ (⟨some _, .indexAddr _ _ _, _, _, _, none⟩ :: _) _; first | refine LS_q (Q_index rfl rfl inferInstance inferInstance inferInstance inferInstance (by first | assumption | omega | ((try simp only [List.length_append, List.length_cons, List.length_nil, be_length, List.length_set]); omega))) rfl ?_ | refine LS_q (Q_indexV rfl rfl inferInstance inferInstance inferInstance (by first | assumption | omega)) rfl ?_)
        | (refine LS_h (H_buildB inferInstance inferInstance inferInstance rfl rfl rfl rfl rfl inferInstance rfl rfl) rfl ?_; intro g)
        | (refine LS_h (H_buildSlice inferInstance inferInstance inferInstance rfl rfl rfl rfl rfl) rfl ?_; intro g)
        | (refine LS_h (H_buildSlice0 inferInstance inferInstance) rfl ?_; intro g)
        | (show LS _ _ _ _ _ (⟨some _, .call ⟨.builtin .append, _, _⟩, _, _, _, none⟩ :: _) _; first | (refine LS_h (H_appendD rfl rfl inferInstance inferInstance rfl inferInstance inferInstance byteC_one (by (try simp only [List.length_append, List.length_cons, List.length_nil, be_length, List.length_set]); omega) rfl) rfl ?_; intro g) | (refine LS_h (H_appendB rfl rfl inferInstance inferInstance inferInstance rfl rfl inferInstance (by (try simp only [List.length_append, List.length_cons, List.length_nil, be_length, List.length_set]); omega) rfl) rfl ?_; intro g) | (refine LS_h (H_appendS rfl rfl inferInstance rfl inferInstance inferInstance (by (try simp only [List.length_append, List.length_cons, List.length_nil, be_length, List.length_set]); omega) rfl) rfl ?_; intro g))
        | (show LS _ _ _ _ _ (⟨none, _, _, _, _, none⟩ :: _) _; first | (refine LS_h0 (H_storeO rfl rfl inferInstance inferInstance inferInstance rfl) ?_; intro g) | (refine LS_h0 (H_storeAO rfl rfl inferInstance inferInstance inferInstance rfl) ?_; intro g) | (refine LS_h0 (H_store8 rfl rfl inferInstance inferInstance rfl inferInstance (by first | assumption | omega | ((try simp only [List.length_append, List.length_cons, List.length_nil, be_length, List.length_set]); omega))) ?_; intro g) | (refine LS_h0 (H_storeRA _ rfl rfl rfl inferInstance inferInstance inferInstance rfl rfl (by first | assumption | omega | ((try simp only [List.length_append, List.length_cons, List.length_nil, be_length, List.length_set]); omega))) ?_; intro g) | (refine LS_h0 (H_storeR _ rfl rfl inferInstance inferInstance inferInstance rfl (by assumption) rfl) ?_; intro g) | (refine LS_h0 (H_store rfl rfl inferInstance (by first | rfl | assumption) inferInstance rfl) ?_; intro g) | (refine LS_h0 (H_storeA rfl rfl inferInstance inferInstance (by first | rfl | (simp only [List.all_cons, List.all_nil, *]; rfl)) rfl) ?_; intro g))
        | refine WS_block ?_
        | refine WS_skip ?_
        | refine WS_ret ?_
        | refine WS_exit ?_
        | refine WS_label ?_
        | (show WS _ _ _ (.cond _ _ _) _ _; first | refine WS_condT rfl inferInstance ?_ | refine WS_condF rfl inferInstance ?_ | refine WS_condH_t rfl (by assumption) ?_ | refine WS_condH_f rfl (by assumption) ?_ | (refine WS_cond rfl ?_ ?_ <;> intro hc <;> (try simp only [decide_eq_true_eq, decide_eq_false_iff_not, Bool.not_eq_eq_eq_not, Bool.not_true, Bool.not_false, Bool.and_eq_true, Bool.or_eq_true, bne_iff_ne, beq_iff_eq, ne_eq, Decidable.not_not] at hc) <;> (try (exfalso; first | contradiction | omega; done))))
        | (refine LS_h (H_callX inferInstance rfl hp inferInstance) rfl ?_; intro g)
        | (refine LS_h (H_callX inferInstance rfl hm inferInstance) rfl ?_; intro g))
      have hel : (L.eraseIdx b).length = L.length - 1 := List.length_eraseIdx_of_lt c3
      exact ⟨k - 1, _, by omega, ⟨j + 1, lf - 1, _, _, _, by omega, by omega, c6, by omega, tk.rem tr.idN c3 hq e1, rfl⟩, ⟨rfl, rfl, rfl, rfl, rfl, rfl, trivial⟩, rfl, by ((try simp only [star_assoc, emp_star, star_emp]); (repeat' (first | exact Ent.last | refine Ent.take ?_ | refine Ent.nilT ?_ | refine Ent.takeR (by first | rfl | assumption | (simp; done)) ?_ | exact Ent.refl _)))⟩
  obtain rfl : j = m.length := by omega
  have hm := mlen_spec w0 g0 a lh
  repeat' (first
    | (refine WS_seqK ?_; intro K hK)
    | (refine hK _ ?_; clear hK K)
    | with_reducible refine thenS_n ?_
    | with_reducible refine thenS_e ?_
    | with_reducible refine blockS_n ?_
    | with_reducible refine blockS_e ?_
    | with_reducible refine blockS_o rfl ?_
    | with_reducible refine thenS_r ?_
    | with_reducible refine blockS_r ?_
    | with_reducible refine use_K (by assumption) ?_
    | refine WS_region ?_
    | refine LS_nil ?_
    | (show LS _ _ _ _ _ (⟨_, _, _, _, _, some _⟩ :: _) _; first | refine LS_wantT rfl rfl inferInstance rfl ?_ | refine LS_wantF rfl rfl inferInstance rfl ?_ | refine LS_wantU rfl rfl rfl ?_ | (refine LS_wantS rfl rfl rfl ?_ ?_ <;> intro hc <;> (try simp only [decide_eq_true_eq, decide_eq_false_iff_not, Bool.not_eq_eq_eq_not, Bool.not_true, Bool.not_false, Bool.and_eq_true, Bool.or_eq_true, bne_iff_ne, beq_iff_eq, ne_eq, Decidable.not_not] at hc) <;> (try (exfalso; first | contradiction | omega; done))) | (refine LS_wantN rfl ?_ ?_ <;> intro hc <;> (try simp only [decide_eq_true_eq, decide_eq_false_iff_not, Bool.not_eq_eq_eq_not, Bool.not_true, Bool.not_false, Bool.and_eq_true, Bool.or_eq_true, bne_iff_ne, beq_iff_eq, ne_eq, Decidable.not_not] at hc) <;> (try (exfalso; first | contradiction | omega; done))))
    | (show LS _ _ _ _ _ (⟨some _, .move _, _, _, _, none⟩ :: _) _; first | refine LS_q (Q_move rfl) rfl ?_)
    | (show LS _ _ _ _ _ (⟨some _, .load _ _, _, _, _, none⟩ :: _) _; first | refine LS_q (Q_load rfl inferInstance inferInstance rfl) rfl ?_ | refine LS_q (Q_loadA rfl inferInstance inferInstance rfl) rfl ?_ | refine LS_q (Q_loadR rfl inferInstance inferInstance inferInstance (by assumption) rfl) rfl ?_ | refine LS_q (Q_loadR rfl inferInstance inferInstance inferInstance rfl rfl) rfl ?_ | refine LS_q (Q_loadRA rfl inferInstance inferInstance inferInstance (by assumption)) rfl ?_)
    | (show LS _ _ _ _ _ (⟨some _, .binOp _ _ _ _ _, _, _, _, none⟩ :: _) _; first | refine LS_q (Q_bin_t rfl rfl inferInstance (by first | assumption | omega | decide)) rfl ?_ | refine LS_q (Q_bin_f rfl rfl inferInstance (by first | assumption | omega | decide)) rfl ?_ | refine LS_q (Q_bin_nt rfl rfl inferInstance (by first | assumption | omega | decide)) rfl ?_ | refine LS_q (Q_bin_nf rfl rfl inferInstance (by first | assumption | omega | decide)) rfl ?_ | (refine LS_binS rfl rfl inferInstance rfl ?_ ?_ <;> intro hc) | (refine LS_binN rfl rfl inferInstance rfl ?_ ?_ <;> intro hc) | refine LS_q (Q_bin rfl rfl inferInstance) rfl ?_ | refine LS_q (Q_addI rfl rfl (by omega)) rfl ?_ | refine LS_q (Q_subI rfl rfl (by omega)) rfl ?_ | refine LS_q (Q_addS rfl rfl (by (try simp only [List.length_append, List.length_cons, List.length_nil, be_length, List.length_set]); omega)) rfl ?_ | refine LS_q (Q_quoI rfl rfl (by omega)) rfl ?_ | refine LS_q (Q_remI rfl rfl (by omega)) rfl ?_ | refine LS_q (Q_mulI rfl rfl (by omega)) rfl ?_)
    | (show LS _ _ _ _ _ (⟨some _, .assign _, _, _, _, none⟩ :: _) _; first | refine LS_q (Q_assign rfl) rfl ?_)
    | (show LS _ _ _ _ _ (⟨some _, .pick _ _ _, _, _, _, none⟩ :: _) _; first | refine LS_q (Q_pick_t rfl inferInstance rfl) rfl ?_ | refine LS_q (Q_pick_f rfl inferInstance rfl) rfl ?_ | refine LS_q (Q_pick rfl rfl rfl) rfl ?_)
    | (show LS _ _ _ _ _ (⟨some _, .extract _ _, _, _, _, none⟩ :: _) _; first | refine LS_q (Q_extract rfl rfl) rfl ?_)
    | (show LS _ _ _ _ _ (⟨some _, .call ⟨.builtin .len, _, _⟩, _, _, _, none⟩ :: _) _; first | refine LS_q (Q_len rfl inferInstance) rfl ?_ | refine LS_q (Q_lenS rfl inferInstance) rfl ?_ | refine LS_q (Q_lenR rfl inferInstance inferInstance) rfl ?_ | refine LS_q (Q_lenM rfl inferInstance inferInstance) rfl ?_)
    | (show LS _ _ _ _ _ (⟨some _, .unOp _ _ _, _, _, _, none⟩ :: _) _; first | refine LS_q (Q_un rfl inferInstance) rfl ?_ | refine LS_q (Q_negI rfl (by omega)) rfl ?_)
    | (show LS _ _ _ _ _ (⟨some _, .indexAddr _ _ _, _, _, _, none⟩ :: _) _; first | refine LS_q (Q_index rfl rfl inferInstance inferInstance inferInstance inferInstance (by first | assumption | omega | ((try simp only [List.length_append, List.length_cons, List.length_nil, be_length, List.length_set]); omega))) rfl ?_ | refine LS_q (Q_indexV rfl rfl inferInstance inferInstance inferInstance (by first | assumption | omega)) rfl ?_)
    | (refine LS_h (H_buildB inferInstance inferInstance inferInstance rfl rfl rfl rfl rfl inferInstance rfl rfl) rfl ?_; intro g)
    | (refine LS_h (H_buildSlice inferInstance inferInstance inferInstance rfl rfl rfl rfl rfl) rfl ?_; intro g)
    | (refine LS_h (H_buildSlice0 inferInstance inferInstance) rfl ?_; intro g)
    | (show LS _ _ _ _ _ (⟨some _, .call ⟨.builtin .append, _, _⟩, _, _, _, none⟩ :: _) _; first | (refine LS_h (H_appendD rfl rfl inferInstance inferInstance rfl inferInstance inferInstance byteC_one (by (try simp only [List.length_append, List.length_cons, List.length_nil, be_length, List.length_set]); omega) rfl) rfl ?_; intro g) | (refine LS_h (H_appendB rfl rfl inferInstance inferInstance inferInstance rfl rfl inferInstance (by (try simp only [List.length_append, List.length_cons, List.length_nil, be_length, List.length_set]); omega) rfl) rfl ?_; intro g) | (refine LS_h (H_appendS rfl rfl inferInstance rfl inferInstance inferInstance (by (try simp only [List.length_append, List.length_cons, List.length_nil, be_length, List.length_set]); omega) rfl) rfl ?_; intro g))
    | (show LS _ _ _ _ _ (⟨none, _, _, _, _, none⟩ :: _) _; first | (refine LS_h0 (H_storeO rfl rfl inferInstance inferInstance inferInstance rfl) ?_; intro g) | (refine LS_h0 (H_storeAO rfl rfl inferInstance inferInstance inferInstance rfl) ?_; intro g) | (refine LS_h0 (H_store8 rfl rfl inferInstance inferInstance rfl inferInstance (by first | assumption | omega | ((try simp only [List.length_append, List.length_cons, List.length_nil, be_length, List.length_set]); omega))) ?_; intro g) | (refine LS_h0 (H_storeRA _ rfl rfl rfl inferInstance inferInstance inferInstance rfl rfl (by first | assumption | omega | ((try simp only [List.length_append, List.length_cons, List.length_nil, be_length, List.length_set]); omega))) ?_; intro g) | (refine LS_h0 (H_storeR _ rfl rfl inferInstance inferInstance inferInstance rfl (by assumption) rfl) ?_; intro g) | (refine LS_h0 (H_store rfl rfl inferInstance (by first | rfl | assumption) inferInstance rfl) ?_; intro g) | (refine LS_h0 (H_storeA rfl rfl inferInstance inferInstance (by first | rfl | (simp only [List.all_cons, List.all_nil, *]; rfl)) rfl) ?_; intro g))
    | refine WS_block ?_
    | refine WS_skip ?_
    | refine WS_ret ?_
    | refine WS_exit ?_
    | refine WS_label ?_
    | (show WS _ _ _ (.cond _ _ _) _ _; first | refine WS_condT rfl inferInstance ?_ | refine WS_condF rfl inferInstance ?_ | refine WS_condH_t rfl (by assumption) ?_ | refine WS_condH_f rfl (by assumption) ?_ | (refine WS_cond rfl ?_ ?_ <;> intro hc <;> (try simp only [decide_eq_true_eq, decide_eq_false_iff_not, Bool.not_eq_eq_eq_not, Bool.not_true, Bool.not_false, Bool.and_eq_true, Bool.or_eq_true, bne_iff_ne, beq_iff_eq, ne_eq, Decidable.not_not] at hc) <;> (try (exfalso; first | contradiction | omega; done))))
    | (refine LS_h (H_callX inferInstance rfl hm inferInstance) rfl ?_; intro g))
  refine WS_loop (fun k τ => ∃ (lf nn : Int) (la : UInt64) (lh L : List Tm) (gl : List Bool), L.length = k ∧ lf = (L.length : Int) ∧ nn = (L.length : Int) ∧ TR lh L a ∧ L.length ≤ ats.length ∧ Tk ats ats.length L gl ∧ (∀ t ∈ L, la.toNat ≤ t.at_.toNat) ∧ τ = ⟨[(14, .int .i64 nn), (13, u64 la), (9, .int .i64 lf), (0, va), (1, u), (5, ptr g0 0), (6, vg)], [], mtQ g0 a lh * (rows 4 1 bC vg gl * (rows 59 1 u64L va ats * (X * G)))⟩) ?_ ?_
  · exact ⟨L.length, _, ⟨lf, _, 0, lh, L, _, rfl, hlf, by rw [hll], tr, by omega, tk, fun t ht => Nat.zero_le _, rfl⟩, ⟨rfl, rfl, rfl, rfl, rfl, rfl, rfl, trivial⟩, rfl, by ((try simp only [star_assoc, emp_star, star_emp]); (repeat' (first | exact Ent.last | refine Ent.take ?_ | refine Ent.nilT ?_ | refine Ent.takeR (by first | rfl | assumption | (simp; done)) ?_ | exact Ent.refl _)))⟩
  clear tr tk hLj hll hge hjk hlf hm
  rintro k τ ⟨lf, nn, la, lh, L, gl, hk, hlf, hnn, tr, hLj, tk, hla, rfl⟩
  have hll := tr.perm.length_eq
  have hmx : ∀ t : UInt64, ¬ (18446744073709551615 : UInt64) < t := fun t h => by
    have h1 := t.toNat_lt
    have h2 := UInt64.lt_iff_toNat_lt.1 h
    have h3 : (18446744073709551615 : UInt64).toNat = 18446744073709551615 := rfl
    omega
  rcases Nat.eq_zero_or_pos k with h0 | h0
  · subst h0
    have hm := mnext_none w0 g0 a lh 18446744073709551615 (fun h => by omega)
    repeat' (first
      | (refine WS_seqK ?_; intro K hK)
      | (refine hK _ ?_; clear hK K)
      | with_reducible refine thenS_n ?_
      | with_reducible refine thenS_e ?_
      | with_reducible refine blockS_n ?_
      | with_reducible refine blockS_e ?_
      | with_reducible refine blockS_o rfl ?_
      | with_reducible refine thenS_r ?_
      | with_reducible refine blockS_r ?_
      | with_reducible refine use_K (by assumption) ?_
      | refine WS_region ?_
      | refine LS_nil ?_
      | (show LS _ _ _ _ _ (⟨_, _, _, _, _, some _⟩ :: _) _; first | refine LS_wantT rfl rfl inferInstance rfl ?_ | refine LS_wantF rfl rfl inferInstance rfl ?_ | refine LS_wantU rfl rfl rfl ?_ | (refine LS_wantS rfl rfl rfl ?_ ?_ <;> intro hc <;> (try simp only [decide_eq_true_eq, decide_eq_false_iff_not, Bool.not_eq_eq_eq_not, Bool.not_true, Bool.not_false, Bool.and_eq_true, Bool.or_eq_true, bne_iff_ne, beq_iff_eq, ne_eq, Decidable.not_not] at hc) <;> (try (exfalso; first | contradiction | omega; done))) | (refine LS_wantN rfl ?_ ?_ <;> intro hc <;> (try simp only [decide_eq_true_eq, decide_eq_false_iff_not, Bool.not_eq_eq_eq_not, Bool.not_true, Bool.not_false, Bool.and_eq_true, Bool.or_eq_true, bne_iff_ne, beq_iff_eq, ne_eq, Decidable.not_not] at hc) <;> (try (exfalso; first | contradiction | omega; done))))
      | (show LS _ _ _ _ _ (⟨some _, .move _, _, _, _, none⟩ :: _) _; first | refine LS_q (Q_move rfl) rfl ?_)
      | (show LS _ _ _ _ _ (⟨some _, .load _ _, _, _, _, none⟩ :: _) _; first | refine LS_q (Q_load rfl inferInstance inferInstance rfl) rfl ?_ | refine LS_q (Q_loadA rfl inferInstance inferInstance rfl) rfl ?_ | refine LS_q (Q_loadR rfl inferInstance inferInstance inferInstance (by assumption) rfl) rfl ?_ | refine LS_q (Q_loadR rfl inferInstance inferInstance inferInstance rfl rfl) rfl ?_ | refine LS_q (Q_loadRA rfl inferInstance inferInstance inferInstance (by assumption)) rfl ?_)
      | (show LS _ _ _ _ _ (⟨some _, .binOp _ _ _ _ _, _, _, _, none⟩ :: _) _; first | refine LS_q (Q_bin_t rfl rfl inferInstance (by first | assumption | omega | decide)) rfl ?_ | refine LS_q (Q_bin_f rfl rfl inferInstance (by first | assumption | omega | decide)) rfl ?_ | refine LS_q (Q_bin_nt rfl rfl inferInstance (by first | assumption | omega | decide)) rfl ?_ | refine LS_q (Q_bin_nf rfl rfl inferInstance (by first | assumption | omega | decide)) rfl ?_ | (refine LS_binS rfl rfl inferInstance rfl ?_ ?_ <;> intro hc) | (refine LS_binN rfl rfl inferInstance rfl ?_ ?_ <;> intro hc) | refine LS_q (Q_bin rfl rfl inferInstance) rfl ?_ | refine LS_q (Q_addI rfl rfl (by omega)) rfl ?_ | refine LS_q (Q_subI rfl rfl (by omega)) rfl ?_ | refine LS_q (Q_addS rfl rfl (by (try simp only [List.length_append, List.length_cons, List.length_nil, be_length, List.length_set]); omega)) rfl ?_ | refine LS_q (Q_quoI rfl rfl (by omega)) rfl ?_ | refine LS_q (Q_remI rfl rfl (by omega)) rfl ?_ | refine LS_q (Q_mulI rfl rfl (by omega)) rfl ?_)
      | (show LS _ _ _ _ _ (⟨some _, .assign _, _, _, _, none⟩ :: _) _; first | refine LS_q (Q_assign rfl) rfl ?_)
      | (show LS _ _ _ _ _ (⟨some _, .pick _ _ _, _, _, _, none⟩ :: _) _; first | refine LS_q (Q_pick_t rfl inferInstance rfl) rfl ?_ | refine LS_q (Q_pick_f rfl inferInstance rfl) rfl ?_ | refine LS_q (Q_pick rfl rfl rfl) rfl ?_)
      | (show LS _ _ _ _ _ (⟨some _, .extract _ _, _, _, _, none⟩ :: _) _; first | refine LS_q (Q_extract rfl rfl) rfl ?_)
      | (show LS _ _ _ _ _ (⟨some _, .call ⟨.builtin .len, _, _⟩, _, _, _, none⟩ :: _) _; first | refine LS_q (Q_len rfl inferInstance) rfl ?_ | refine LS_q (Q_lenS rfl inferInstance) rfl ?_ | refine LS_q (Q_lenR rfl inferInstance inferInstance) rfl ?_ | refine LS_q (Q_lenM rfl inferInstance inferInstance) rfl ?_)
      | (show LS _ _ _ _ _ (⟨some _, .unOp _ _ _, _, _, _, none⟩ :: _) _; first | refine LS_q (Q_un rfl inferInstance) rfl ?_ | refine LS_q (Q_negI rfl (by omega)) rfl ?_)
      | (show LS _ _ _ _ _ (⟨some _, .indexAddr _ _ _, _, _, _, none⟩ :: _) _; first | refine LS_q (Q_index rfl rfl inferInstance inferInstance inferInstance inferInstance (by first | assumption | omega | ((try simp only [List.length_append, List.length_cons, List.length_nil, be_length, List.length_set]); omega))) rfl ?_ | refine LS_q (Q_indexV rfl rfl inferInstance inferInstance inferInstance (by first | assumption | omega)) rfl ?_)
      | (refine LS_h (H_buildB inferInstance inferInstance inferInstance rfl rfl rfl rfl rfl inferInstance rfl rfl) rfl ?_; intro g)
      | (refine LS_h (H_buildSlice inferInstance inferInstance inferInstance rfl rfl rfl rfl rfl) rfl ?_; intro g)
      | (refine LS_h (H_buildSlice0 inferInstance inferInstance) rfl ?_; intro g)
      | (show LS _ _ _ _ _ (⟨some _, .call ⟨.builtin .append, _, _⟩, _, _, _, none⟩ :: _) _; first | (refine LS_h (H_appendD rfl rfl inferInstance inferInstance rfl inferInstance inferInstance byteC_one (by (try simp only [List.length_append, List.length_cons, List.length_nil, be_length, List.length_set]); omega) rfl) rfl ?_; intro g) | (refine LS_h (H_appendB rfl rfl inferInstance inferInstance inferInstance rfl rfl inferInstance (by (try simp only [List.length_append, List.length_cons, List.length_nil, be_length, List.length_set]); omega) rfl) rfl ?_; intro g) | (refine LS_h (H_appendS rfl rfl inferInstance rfl inferInstance inferInstance (by (try simp only [List.length_append, List.length_cons, List.length_nil, be_length, List.length_set]); omega) rfl) rfl ?_; intro g))
      | (show LS _ _ _ _ _ (⟨none, _, _, _, _, none⟩ :: _) _; first | (refine LS_h0 (H_storeO rfl rfl inferInstance inferInstance inferInstance rfl) ?_; intro g) | (refine LS_h0 (H_storeAO rfl rfl inferInstance inferInstance inferInstance rfl) ?_; intro g) | (refine LS_h0 (H_store8 rfl rfl inferInstance inferInstance rfl inferInstance (by first | assumption | omega | ((try simp only [List.length_append, List.length_cons, List.length_nil, be_length, List.length_set]); omega))) ?_; intro g) | (refine LS_h0 (H_storeRA _ rfl rfl rfl inferInstance inferInstance inferInstance rfl rfl (by first | assumption | omega | ((try simp only [List.length_append, List.length_cons, List.length_nil, be_length, List.length_set]); omega))) ?_; intro g) | (refine LS_h0 (H_storeR _ rfl rfl inferInstance inferInstance inferInstance rfl (by assumption) rfl) ?_; intro g) | (refine LS_h0 (H_store rfl rfl inferInstance (by first | rfl | assumption) inferInstance rfl) ?_; intro g) | (refine LS_h0 (H_storeA rfl rfl inferInstance inferInstance (by first | rfl | (simp only [List.all_cons, List.all_nil, *]; rfl)) rfl) ?_; intro g))
      | refine WS_block ?_
      | refine WS_skip ?_
      | refine WS_ret ?_
      | refine WS_exit ?_
      | refine WS_label ?_
      | (show WS _ _ _ (.cond _ _ _) _ _; first | refine WS_condT rfl inferInstance ?_ | refine WS_condF rfl inferInstance ?_ | refine WS_condH_t rfl (by assumption) ?_ | refine WS_condH_f rfl (by assumption) ?_ | (refine WS_cond rfl ?_ ?_ <;> intro hc <;> (try simp only [decide_eq_true_eq, decide_eq_false_iff_not, Bool.not_eq_eq_eq_not, Bool.not_true, Bool.not_false, Bool.and_eq_true, Bool.or_eq_true, bne_iff_ne, beq_iff_eq, ne_eq, Decidable.not_not] at hc) <;> (try (exfalso; first | contradiction | omega; done))))
      | (refine LS_h (H_callX inferInstance rfl hm inferInstance) rfl ?_; intro g))
    exact ret_tmp (.inl rfl) rfl rfl ⟨(), rfl, by ((try simp only [star_assoc, emp_star, star_emp]); (repeat' (first | exact Ent.last | refine Ent.take ?_ | refine Ent.nilT ?_ | refine Ent.takeR (by first | rfl | assumption | (simp; done)) ?_ | exact Ent.refl _)))⟩
  · obtain ⟨b, q, hb, hq, e1, e2, hgl, tr', hmin⟩ := tk.first tr (by omega)
    have hm := mnext_some w0 g0 a lh 18446744073709551615 (by omega) (hmx _) tr.idn (by omega)
    rw [e1] at hm
    simp only [tmOf] at hm
    obtain ⟨z, hz⟩ : ∃ z, ats[q]? = some z := ⟨_, List.getElem?_eq_getElem hq⟩
    have hgq := tk.there q hq
    have e3 : (tmOf ats q).at_ = z := by simp [tmOf, hz]
    have hnl : ¬ z < la := fun h => by
      have h1 := hla _ (at'_mem hb)
      rw [e2, e3] at h1
      have := UInt64.lt_iff_toNat_lt.1 h
      omega
    repeat' (first
      | (refine WS_seqK ?_; intro K hK)
      | (refine hK _ ?_; clear hK K)
      | with_reducible refine thenS_n ?_
      | with_reducible refine thenS_e ?_
      | with_reducible refine blockS_n ?_
      | with_reducible refine blockS_e ?_
      | with_reducible refine blockS_o rfl ?_
      | with_reducible refine thenS_r ?_
      | with_reducible refine blockS_r ?_
      | with_reducible refine use_K (by assumption) ?_
      | refine WS_region ?_
      | refine LS_nil ?_
      | (show LS _ _ _ _ _ (⟨_, _, _, _, _, some _⟩ :: _) _; first | refine LS_wantT rfl rfl inferInstance rfl ?_ | refine LS_wantF rfl rfl inferInstance rfl ?_ | refine LS_wantU rfl rfl rfl ?_ | (refine LS_wantS rfl rfl rfl ?_ ?_ <;> intro hc <;> (try simp only [decide_eq_true_eq, decide_eq_false_iff_not, Bool.not_eq_eq_eq_not, Bool.not_true, Bool.not_false, Bool.and_eq_true, Bool.or_eq_true, bne_iff_ne, beq_iff_eq, ne_eq, Decidable.not_not] at hc) <;> (try (exfalso; first | contradiction | omega; done))) | (refine LS_wantN rfl ?_ ?_ <;> intro hc <;> (try simp only [decide_eq_true_eq, decide_eq_false_iff_not, Bool.not_eq_eq_eq_not, Bool.not_true, Bool.not_false, Bool.and_eq_true, Bool.or_eq_true, bne_iff_ne, beq_iff_eq, ne_eq, Decidable.not_not] at hc) <;> (try (exfalso; first | contradiction | omega; done))))
      | (show LS _ _ _ _ _ (⟨some _, .move _, _, _, _, none⟩ :: _) _; first | refine LS_q (Q_move rfl) rfl ?_)
      | (show LS _ _ _ _ _ (⟨some _, .load _ _, _, _, _, none⟩ :: _) _; first | refine LS_q (Q_load rfl inferInstance inferInstance rfl) rfl ?_ | refine LS_q (Q_loadA rfl inferInstance inferInstance rfl) rfl ?_ | refine LS_q (Q_loadR rfl inferInstance inferInstance inferInstance (by assumption) rfl) rfl ?_ | refine LS_q (Q_loadR rfl inferInstance inferInstance inferInstance rfl rfl) rfl ?_ | refine LS_q (Q_loadRA rfl inferInstance inferInstance inferInstance (by assumption)) rfl ?_)
      | (show LS _ _ _ _ _ (⟨some _, .binOp _ _ _ _ _, _, _, _, none⟩ :: _) _; first | refine LS_q (Q_bin_t rfl rfl inferInstance (by first | assumption | omega | decide)) rfl ?_ | refine LS_q (Q_bin_f rfl rfl inferInstance (by first | assumption | omega | decide)) rfl ?_ | refine LS_q (Q_bin_nt rfl rfl inferInstance (by first | assumption | omega | decide)) rfl ?_ | refine LS_q (Q_bin_nf rfl rfl inferInstance (by first | assumption | omega | decide)) rfl ?_ | (refine LS_binS rfl rfl inferInstance rfl ?_ ?_ <;> intro hc) | (refine LS_binN rfl rfl inferInstance rfl ?_ ?_ <;> intro hc) | refine LS_q (Q_bin rfl rfl inferInstance) rfl ?_ | refine LS_q (Q_addI rfl rfl (by omega)) rfl ?_ | refine LS_q (Q_subI rfl rfl (by omega)) rfl ?_ | refine LS_q (Q_addS rfl rfl (by (try simp only [List.length_append, List.length_cons, List.length_nil, be_length, List.length_set]); omega)) rfl ?_ | refine LS_q (Q_quoI rfl rfl (by omega)) rfl ?_ | refine LS_q (Q_remI rfl rfl (by omega)) rfl ?_ | refine LS_q (Q_mulI rfl rfl (by omega)) rfl ?_)
      | (show LS _ _ _ _ _ (⟨some _, .assign _, _, _, _, none⟩ :: _) _; first | refine LS_q (Q_assign rfl) rfl ?_)
      | (show LS _ _ _ _ _ (⟨some _, .pick _ _ _, _, _, _, none⟩ :: _) _; first | refine LS_q (Q_pick_t rfl inferInstance rfl) rfl ?_ | refine LS_q (Q_pick_f rfl inferInstance rfl) rfl ?_ | refine LS_q (Q_pick rfl rfl rfl) rfl ?_)
      | (show LS _ _ _ _ _ (⟨some _, .extract _ _, _, _, _, none⟩ :: _) _; first | refine LS_q (Q_extract rfl rfl) rfl ?_)
      | (show LS _ _ _ _ _ (⟨some _, .call ⟨.builtin .len, _, _⟩, _, _, _, none⟩ :: _) _; first | refine LS_q (Q_len rfl inferInstance) rfl ?_ | refine LS_q (Q_lenS rfl inferInstance) rfl ?_ | refine LS_q (Q_lenR rfl inferInstance inferInstance) rfl ?_ | refine LS_q (Q_lenM rfl inferInstance inferInstance) rfl ?_)
      | (show LS _ _ _ _ _ (⟨some _, .unOp _ _ _, _, _, _, none⟩ :: _) _; first | refine LS_q (Q_un rfl inferInstance) rfl ?_ | refine LS_q (Q_negI rfl (by omega)) rfl ?_)
      | (show LS _ _ _ _ _ (⟨some _, .indexAddr _ _ _, _, _, _, none⟩ :: _) _; first | refine LS_q (Q_index rfl rfl inferInstance inferInstance inferInstance inferInstance (by first | assumption | omega | ((try simp only [List.length_append, List.length_cons, List.length_nil, be_length, List.length_set]); omega))) rfl ?_ | refine LS_q (Q_indexV rfl rfl inferInstance inferInstance inferInstance (by first | assumption | omega)) rfl ?_)
      | (refine LS_h (H_buildB inferInstance inferInstance inferInstance rfl rfl rfl rfl rfl inferInstance rfl rfl) rfl ?_; intro g)
      | (refine LS_h (H_buildSlice inferInstance inferInstance inferInstance rfl rfl rfl rfl rfl) rfl ?_; intro g)
      | (refine LS_h (H_buildSlice0 inferInstance inferInstance) rfl ?_; intro g)
      | (show LS _ _ _ _ _ (⟨some _, .call ⟨.builtin .append, _, _⟩, _, _, _, none⟩ :: _) _; first | (refine LS_h (H_appendD rfl rfl inferInstance inferInstance rfl inferInstance inferInstance byteC_one (by (try simp only [List.length_append, List.length_cons, List.length_nil, be_length, List.length_set]); omega) rfl) rfl ?_; intro g) | (refine LS_h (H_appendB rfl rfl inferInstance inferInstance inferInstance rfl rfl inferInstance (by (try simp only [List.length_append, List.length_cons, List.length_nil, be_length, List.length_set]); omega) rfl) rfl ?_; intro g) | (refine LS_h (H_appendS rfl rfl inferInstance rfl inferInstance inferInstance (by (try simp only [List.length_append, List.length_cons, List.length_nil, be_length, List.length_set]); omega) rfl) rfl ?_; intro g))
      | (show LS _ _ _ _ _ (⟨none, _, _, _, _, none⟩ :: _) _; first | (refine LS_h0 (H_storeO rfl rfl inferInstance inferInstance inferInstance rfl) ?_; intro g) | (refine LS_h0 (H_storeAO rfl rfl inferInstance inferInstance inferInstance rfl) ?_; intro g) | (refine LS_h0 (H_store8 rfl rfl inferInstance inferInstance rfl inferInstance (by first | assumption | omega | ((try simp only [List.length_append, List.length_cons, List.length_nil, be_length, List.length_set]); omega))) ?_; intro g) | (refine LS_h0 (H_storeRA _ rfl rfl rfl inferInstance inferInstance inferInstance rfl rfl (by first | assumption | omega | ((try simp only [List.length_append, List.length_cons, List.length_nil, be_length, List.length_set]); omega))) ?_; intro g) | (refine LS_h0 (H_storeR _ rfl rfl inferInstance inferInstance inferInstance rfl (by assumption) rfl) ?_; intro g) | (refine LS_h0 (H_store rfl rfl inferInstance (by first | rfl | assumption) inferInstance rfl) ?_; intro g) | (refine LS_h0 (H_storeA rfl rfl inferInstance inferInstance (by first | rfl | (simp only [List.all_cons, List.all_nil, *]; rfl)) rfl) ?_; intro g))
      | refine WS_block ?_
      | refine WS_skip ?_
      | refine WS_ret ?_
      | refine WS_exit ?_
      | refine WS_label ?_
      | (show WS _ _ _ (.cond _ _ _) _ _; first | refine WS_condT rfl inferInstance ?_ | refine WS_condF rfl inferInstance ?_ | refine WS_condH_t rfl (by assumption) ?_ | refine WS_condH_f rfl (by assumption) ?_ | (refine WS_cond rfl ?_ ?_ <;> intro hc <;> (try simp only [decide_eq_true_eq, decide_eq_false_iff_not, Bool.not_eq_eq_eq_not, Bool.not_true, Bool.not_false, Bool.and_eq_true, Bool.or_eq_true, bne_iff_ne, beq_iff_eq, ne_eq, Decidable.not_not] at hc) <;> (try (exfalso; first | contradiction | omega; done))))
      | (refine LS_h (H_callX inferInstance rfl hm inferInstance) rfl ?_; intro g))
    have hel : (L.eraseIdx b).length = L.length - 1 := List.length_eraseIdx_of_lt hb
    exact ⟨k - 1, _, by omega, ⟨lf - 1, nn - 1, z, _, _, _, by omega, by omega, by omega, tr', by omega, tk.rem tr.idN hb hq e2, fun t ht => by rw [← e3]; exact hmin t (List.mem_of_mem_eraseIdx ht), rfl⟩, ⟨rfl, rfl, rfl, rfl, rfl, rfl, rfl, trivial⟩, rfl, by ((try simp only [star_assoc, emp_star, star_emp]); (repeat' (first | exact Ent.last | refine Ent.take ?_ | refine Ent.nilT ?_ | refine Ent.takeR (by first | rfl | assumption | (simp; done)) ?_ | exact Ent.refl _)))⟩
end Go.Proofs.Ytapoehkdnglahaa
